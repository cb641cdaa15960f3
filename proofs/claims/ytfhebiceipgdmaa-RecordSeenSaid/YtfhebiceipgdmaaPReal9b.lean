/- What the functions of package realm answer about a realm. -/
import Derived.Test.YtfhebiceipgdmaaPReal9
set_option linter.unusedVariables false
set_option linter.unusedSimpArgs false
namespace Go.Proofs.Ytfhebiceipgdmaa
open Go.RowKit Vm
def O5 (r:aA) (a b:Int):Int × Int:=((h9 (fun i=>if (el r.Usances i).From = a ∧ (el r.Usances i).To = b then some (el r.Usances i).Days else none) 0 r.Usances.length).map fun d=>(d,(0:Int))).getD (0,4)
theorem XN (r:aA) (a b:Int) (hl:r.Usances.length < 100000000000000):nK r a b = some (O5 r a b):=by
 unfold nK O5
 have:o7 r a b 0 = some (N1 () (h9 (fun i=>if (el r.Usances i).From = a ∧ (el r.Usances i).To = b then some (el r.Usances i).Days else none) 0 r.Usances.length)):=by
  refine qM (step:=fun w=>gI r a b w) (fun i=>(i:Int)) _ _ _ ?_ ?_
  ·intro i hi
   simp only [gI,mN hi,if_true,eQ _ _ hi,Option.bind_some,b9 (show i < 9223372036854775807 by omega),beq_iff_eq]
   by_cases h1:(el r.Usances i).From = a <;> by_cases h2:(el r.Usances i).To = b <;> simp [h1,h2]
  ·simp only [gI,oF,if_false]
 rw [this]
 generalize h9 _ 0 _ = o
 cases o <;> rfl
def aDB (l:List ByteArray) (x:ByteArray):Int:=(h9 (fun i=>if el l i = x then some (i:Int) else none) 0 l.length).getD (-1)
theorem aBw {l:List ByteArray} {x:ByteArray} (i:Nat) (hi:i < l.length) (h:el l i = x) (hb:∀ j,j < i→el l j ≠ x):aDB l x = i:=by
 unfold aDB
 rw [YY l.length i hi (x:=(i:Int)) (by rw [if_pos h]) (fun j hj=>by rw [if_neg (hb j hj)])]
 rfl
theorem P8 {l:List ByteArray} {most:Nat} {F:Nat→Bool}:B8 l most F = 0 ↔ l.length ≤ most ∧ ∀ i,i < l.length→tV l i = 0 ∧ F i = true:=by
 unfold B8
 by_cases h:l.length ≤ most
 ·rw [if_pos h,M1]
  have key:∀ i,OW l F i = 0 ↔ tV l i = 0 ∧ F i = true:=by
   intro i
   unfold OW
   by_cases e:tV l i = 0
   ·cases hF:F i <;> simp [e]
   ·simp [e]
  simp only [key]
  exact ⟨fun q=>⟨h,q⟩,fun q=>q.2⟩
 ·rw [if_neg h]; simp [h]
theorem Y9 {l:List ByteArray} {x:ByteArray} {n:Nat}:yC l x n = true ↔ ∃ j,j < n ∧ el l j = x:=by
 unfold yC
 rcases AY (fun j=>if el l j = x then some true else none) false n 0 with ⟨h1,h2⟩ | ⟨i,b,h1,h2,h3,h4,h5⟩
 ·rw [h1]
  constructor
  ·intro h; cases h
  ·rintro ⟨j,hj,e⟩
   have:=h2 j (Nat.zero_le _) (by omega)
   rw [if_pos e] at this; cases this
 ·rw [h4]
  split at h3
  ·rename_i e; cases h3; exact ⟨fun _=>⟨i,by omega,e⟩,fun _=>rfl⟩
  ·cases h3
theorem R7 {l:List ByteArray} {i:Nat}:tV l i = 0 ↔ NF (el l i) = true ∧ ∀ j,j < i→el l j ≠ el l i:=by
 unfold tV
 have:=Y9 (l:=l) (x:=el l i) (n:=i)
 cases hn:NF (el l i) with
 | false=>simp
 | true =>
  cases ht:yC l (el l i) i with
  | true =>
   rw [ht] at this
   obtain ⟨j,h1,h2⟩:=this.1 rfl
   simp only [if_true]
   exact ⟨fun q=>absurd q (by decide),fun q=>absurd h2 (q.2 j h1)⟩
  | false =>
   rw [ht] at this
   simp only [if_true]
   exact ⟨fun _=>⟨trivial,fun j h1 h2=>by have:=this.2 ⟨j,h1,h2⟩; cases this⟩,fun _=>by simp⟩
structure aHB (r:aA):Prop where
 cur:V1 r = 0
 cit:WI r = 0
 grp:aAM r = 0
 frm:WX r = 0
 ord:VU r = 0
 us:aAQ r = 0
 rest:I3 r = 0
theorem aHB.city {r:aA} (h:aHB r) (i:Nat) (hi:i < r.Cities.length):(0 ≤ (el r.Cities i).Order ∧ (el r.Cities i).Order < r.Orders.length) ∧ aDB (r.Cities.map (·.Name)) (el r.Cities i).Name = i:=by
 have hl:(r.Cities.map (·.Name)).length = r.Cities.length:=by simp
 have q:=(P8.1 h.cit).2 i (by omega)
 have q2:=(R7.1 q.1).2
 refine ⟨?_,aBw i (by omega) (aDk _ _ _ hi) fun j hj=>by have:=q2 j hj; rwa [aDk _ _ i hi] at this⟩
 have:=q.2
 unfold WO at this
 simp only [Bool.and_eq_true,decide_eq_true_eq] at this
 exact this.2.2.2.1
end Go.Proofs.Ytfhebiceipgdmaa
