/- The laws of layer 12 (paper): what is struck out. -/
import Derived.Test.YtfhebiceipgdmaaFn
import Derived.Test.YtfhebiceipgdmaaVmG
set_option linter.unusedVariables false
set_option linter.unusedSimpArgs false
namespace Go.Proofs.Ytfhebiceipgdmaa
open Go.RowKit Vm
theorem G6 {α:Type} [Inhabited α] (l:List α) (i:Nat) (h:i < l.length):l.take (i + 1) = l.take i ++ [el l i]:=by
 rw [vV _ _ h]; simp [h]
theorem XN (f:aB):∃ b,mB f = some b ∧ (b = true→f.Signs.length ≤ 42 ∧ f.Alters.length ≤ 6 ∧ f.Acts.length ≤ 102 ∧ f.Facts.length ≤ 202):=by
 unfold mB
 by_cases h1:(f.Signs.length:Int) ≤ 42
 ·rw [if_pos (decide_eq_true h1)]
  by_cases h2:(f.Alters.length:Int) ≤ 6
  ·rw [if_pos (decide_eq_true h2)]
   by_cases h3:(f.Acts.length:Int) ≤ 102
   ·rw [if_pos (decide_eq_true h3)]
    exact ⟨_,rfl,fun h=>⟨by omega,by omega,by omega,by have:=of_decide_eq_true h; omega⟩⟩
   ·rw [if_neg (fun q=>h3 (of_decide_eq_true q))]
    exact ⟨_,rfl,fun h=>by cases h⟩
  ·rw [if_neg (fun q=>h2 (of_decide_eq_true q))]
   exact ⟨_,rfl,fun h=>by cases h⟩
 ·rw [if_neg (fun q=>h1 (of_decide_eq_true q))]
  exact ⟨_,rfl,fun h=>by cases h⟩
theorem sE (a b c:Int):cU a b c = some (decide (b ≤ a ∧ a ≤ c)):=by
 unfold cU
 by_cases h:b ≤ a
 ·rw [if_pos (decide_eq_true (show a ≥ b from h))]; simp [h]
 ·rw [if_neg (fun q=>h (of_decide_eq_true q))]; simp [h]
def NY (day:Int) (i:Int) (a:bP):Bool:=a.Kind == 7 && (a.At == i && decide (a.Day ≤ day))
def MW (f:aB) (day:Int) (k:Nat) (i:Int):Bool:=(f.Acts.take k).any (NY day i)
def zP (f:aB) (day:Int) (k:Nat):List Bool:=(List.range f.Signs.length).map fun i=>MW f day k (i:Nat)
theorem T1 (f:aB) (day:Int) (k:Nat):(zP f day k).length = f.Signs.length:=by simp [zP]
theorem KP (f:aB) (day:Int) (k:Nat) (i:Int) (h:k < f.Acts.length):MW f day (k + 1) i = (MW f day k i || NY day i (el f.Acts k)):=by
 unfold MW
 rw [G6 _ _ h,List.any_append]
 simp
theorem LD (f:aB) (day:Int) (k:Nat) (h:k < f.Acts.length) (hn:∀ i:Nat,i < f.Signs.length→NY day i (el f.Acts k) = false):zP f day (k + 1) = zP f day k:=by
 unfold zP
 refine List.map_congr_left fun i hi=>?_
 rw [KP _ _ _ _ h,hn i (by simpa using hi),Bool.or_false]
theorem aDm (f:aB) (day:Int) (k m:Nat) (h:k < f.Acts.length) (hm:m < f.Signs.length) (hh:NY day m (el f.Acts k) = true) (hn:∀ i:Nat,i ≠ m→NY day i (el f.Acts k) = false):(zP f day k).set m true = zP f day (k + 1):=by
 refine List.ext_getElem (by simp [zP]) fun i h1 h2=>?_
 rw [List.getElem_set]
 have hi:i < f.Signs.length:=by simpa [zP] using h2
 have e:∀ n (q:i < (zP f day n).length),(zP f day n)[i] = MW f day n (i:Nat):=fun n q=>by simp [zP]
 rw [e,e,KP _ _ _ _ h]
 by_cases q:m = i
 ·subst q; rw [if_pos rfl,hh,Bool.or_true]
 ·rw [if_neg q,hn i (fun z=>q z.symm),Bool.or_false]
theorem aAK (f:aB) (day:Int) (h1:f.Signs.length ≤ 42) (h2:f.Acts.length ≤ 102):qP f day = some (zP f day f.Acts.length):=by
 unfold qP
 rw [if_pos (by omega)]
 have h0:List.replicate ((f.Signs.length:Int).toNat) false = zP f day 0:=by
  refine List.ext_getElem (by simp [zP]) fun i q1 q2=>?_
  simp [zP,MW]
 rw [h0]
 have key:o3 f day 0 (zP f day 0) = some (zP f day f.Acts.length):=by
  unfold o3
  refine dB (fun k:Nat=>((k:Int),zP f day k)) f.Acts.length (zP f day f.Acts.length) ?_ ?_
  ·intro k hk
   unfold lJ
   simp only [i8 hk,if_true,cY _ _ hk,Option.bind_some,sE,b9 (show k < 9223372036854775807 by omega),T1]
   rw [dG (by omega) (by omega)]
   by_cases q1:(el f.Acts k).Kind = 7
   ·rw [if_pos (by simpa using q1)]
    by_cases q2:(el f.Acts k).Day ≤ day
    ·rw [if_pos (decide_eq_true q2)]
     by_cases q3:0 ≤ (el f.Acts k).At ∧ (el f.Acts k).At ≤ (f.Signs.length:Int) - 1
     ·rw [if_pos (decide_eq_true q3),if_pos (by omega)]
      have hm:(el f.Acts k).At.toNat < f.Signs.length:=by omega
      have hg:(zP f day k)[(el f.Acts k).At.toNat]? = some (MW f day k ((el f.Acts k).At.toNat:Nat)):=by
       simp [zP,hm]
      rw [hg,Option.bind_some,aDm f day k _ hk hm]
      ·simp only [NY,Bool.and_eq_true,beq_iff_eq,decide_eq_true_eq]; exact ⟨q1,by omega,q2⟩
      ·intro i hi
       have:((el f.Acts k).At == (i:Int)) = false:=by rw [beq_eq_false_iff_ne]; omega
       simp [NY,this]
     ·rw [if_neg (fun z=>q3 (of_decide_eq_true z)),LD f day k hk]
      intro i hi
      have:((el f.Acts k).At == (i:Int)) = false:=by rw [beq_eq_false_iff_ne]; omega
      simp [NY,this]
    ·rw [if_neg (fun z=>q2 (of_decide_eq_true z)),LD f day k hk]
     intro i hi
     simp [NY,q2]
   ·rw [if_neg (by simpa using q1),LD f day k hk]
    intro i hi
    have:((el f.Acts k).Kind == 7) = false:=by rw [beq_eq_false_iff_ne]; exact q1
    simp [NY,this]
  ·unfold lJ
   simp only [kH,if_false]
 rw [key]
 rfl
end Go.Proofs.Ytfhebiceipgdmaa
