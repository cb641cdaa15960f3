/- What the functions of package realm answer about a realm. -/
import Derived.Test.YtfhebiceipgdmaaPReal9
set_option linter.unusedVariables false
set_option linter.unusedSimpArgs false
namespace Go.Proofs.Ytfhebiceipgdmaa
open Go.RowKit Vm
def usanceOf (r:GRealm) (a b:Int):Int × Int:=((firstO (fun i=>if (el r.Usances i).From = a ∧ (el r.Usances i).To = b then some (el r.Usances i).Days else none) 0 r.Usances.length).map fun d=>(d,(0:Int))).getD (0,4)
theorem usance_eq (r:GRealm) (a b:Int) (hl:r.Usances.length < 100000000000000):mrealm_Usance r a b = some (usanceOf r a b):=by
 unfold mrealm_Usance usanceOf
 have:mrealm_Usance_l1 r a b 0 = some (toS () (firstO (fun i=>if (el r.Usances i).From = a ∧ (el r.Usances i).To = b then some (el r.Usances i).Days else none) 0 r.Usances.length)):=by
  refine iter_first (step:=fun w=>mrealm_Usance_l1_s r a b w) (fun i=>(i:Int)) _ _ _ ?_ ?_
  ·intro i hi
   simp only [mrealm_Usance_l1_s,lt_t hi,if_true,at_el _ _ hi,Option.bind_some,wrap_succ (show i < 9223372036854775807 by omega),beq_iff_eq]
   by_cases h1:(el r.Usances i).From = a <;> by_cases h2:(el r.Usances i).To = b <;> simp [h1,h2]
  ·simp only [mrealm_Usance_l1_s,lt_f,if_false]
 rw [this]
 generalize firstO _ 0 _ = o
 cases o <;> rfl
def idxOf (l:List ByteArray) (x:ByteArray):Int:=(firstO (fun i=>if el l i = x then some (i:Int) else none) 0 l.length).getD (-1)
theorem idxOf_at {l:List ByteArray} {x:ByteArray} (i:Nat) (hi:i < l.length) (h:el l i = x) (hb:∀ j,j < i→el l j ≠ x):idxOf l x = i:=by
 unfold idxOf
 rw [firstO_at l.length i hi (x:=(i:Int)) (by rw [if_pos h]) (fun j hj=>by rw [if_neg (hb j hj)])]
 rfl
theorem fitsOf_zero {l:List ByteArray} {most:Nat} {F:Nat→Bool}:fitsOf l most F = 0 ↔ l.length ≤ most ∧ ∀ i,i < l.length→namedOf l i = 0 ∧ F i = true:=by
 unfold fitsOf
 by_cases h:l.length ≤ most
 ·rw [if_pos h,errN_zero]
  have key:∀ i,fitErr l F i = 0 ↔ namedOf l i = 0 ∧ F i = true:=by
   intro i
   unfold fitErr
   by_cases e:namedOf l i = 0
   ·cases hF:F i <;> simp [e]
   ·simp [e]
  simp only [key]
  exact ⟨fun q=>⟨h,q⟩,fun q=>q.2⟩
 ·rw [if_neg h]; simp [h]
theorem twice_iff {l:List ByteArray} {x:ByteArray} {n:Nat}:twiceB l x n = true ↔ ∃ j,j < n ∧ el l j = x:=by
 unfold twiceB
 rcases firstS_cases (fun j=>if el l j = x then some true else none) false n 0 with ⟨h1,h2⟩ | ⟨i,b,h1,h2,h3,h4,h5⟩
 ·rw [h1]
  constructor
  ·intro h; cases h
  ·rintro ⟨j,hj,e⟩
   have:=h2 j (Nat.zero_le _) (by omega)
   rw [if_pos e] at this; cases this
 ·rw [h4]
  split at h3
  ·rename_i e; cases h3; exact ⟨fun _=>⟨i,by omega,e⟩,fun _=>rfl⟩
  ·cases h3
theorem named_zero {l:List ByteArray} {i:Nat}:namedOf l i = 0 ↔ nameB (el l i) = true ∧ ∀ j,j < i→el l j ≠ el l i:=by
 unfold namedOf
 have:=twice_iff (l:=l) (x:=el l i) (n:=i)
 cases hn:nameB (el l i) with
 | false=>simp
 | true =>
  cases ht:twiceB l (el l i) i with
  | true =>
   rw [ht] at this
   obtain ⟨j,h1,h2⟩:=this.1 rfl
   simp only [if_true]
   exact ⟨fun q=>absurd q (by decide),fun q=>absurd h2 (q.2 j h1)⟩
  | false =>
   rw [ht] at this
   simp only [if_true]
   exact ⟨fun _=>⟨trivial,fun j h1 h2=>by have:=this.2 ⟨j,h1,h2⟩; cases this⟩,fun _=>by simp⟩
structure Right (r:GRealm):Prop where
 cur:curOf r = 0
 cit:citOf r = 0
 grp:grpOf r = 0
 frm:frmOf r = 0
 ord:ordOf r = 0
 us:usOf r = 0
 rest:restOf r = 0
theorem Right.city {r:GRealm} (h:Right r) (i:Nat) (hi:i < r.Cities.length):(0 ≤ (el r.Cities i).Order ∧ (el r.Cities i).Order < r.Orders.length) ∧ idxOf (r.Cities.map (·.Name)) (el r.Cities i).Name = i:=by
 have hl:(r.Cities.map (·.Name)).length = r.Cities.length:=by simp
 have q:=(fitsOf_zero.1 h.cit).2 i (by omega)
 have q2:=(named_zero.1 q.1).2
 refine ⟨?_,idxOf_at i (by omega) (el_map _ _ _ hi) fun j hj=>by have:=q2 j hj; rwa [el_map _ _ i hi] at this⟩
 have:=q.2
 unfold cityB at this
 simp only [Bool.and_eq_true,decide_eq_true_eq] at this
 exact this.2.2.2.1
end Go.Proofs.Ytfhebiceipgdmaa
