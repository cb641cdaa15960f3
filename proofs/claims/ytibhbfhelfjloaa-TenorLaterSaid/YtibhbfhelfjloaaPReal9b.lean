/- What the functions of package realm answer about a realm. -/
import Derived.Test.YtibhbfhelfjloaaPReal9
set_option linter.unusedVariables false
set_option linter.unusedSimpArgs false
namespace Go.Proofs.Ytibhbfhelfjloaa
open Go.RowKit Vm
def orderAtOf (r:GRealm) (c:Int):Int:=if 0 ≤ c ∧ c < r.Cities.length then (el r.Cities c.toNat).Order else -1
theorem orderAt_eq (r:GRealm) (c:Int):mrealm_OrderAt r c = some (orderAtOf r c):=by
 unfold mrealm_OrderAt orderAtOf
 simp only [in_eq,Option.bind_some]
 by_cases h:0 ≤ c ∧ c < r.Cities.length
 ·rw [if_pos h,decide_eq_true h,at_eq _ _ h.1 h.2]; rfl
 ·rw [if_neg h,decide_eq_false h]; rfl
def usanceOf (r:GRealm) (a b:Int):Int × Int:=((firstO (fun i=>if (el r.Usances i).From = a ∧ (el r.Usances i).To = b then some (el r.Usances i).Days else none) 0 r.Usances.length).map fun d=>(d,(0:Int))).getD (0,4)
theorem usance_eq (r:GRealm) (a b:Int) (hl:r.Usances.length < 100000000000000):mrealm_Usance r a b = some (usanceOf r a b):=by
 unfold mrealm_Usance usanceOf
 have:mrealm_Usance_l1 r a b 0 = some (toS () (firstO (fun i=>if (el r.Usances i).From = a ∧ (el r.Usances i).To = b then some (el r.Usances i).Days else none) 0 r.Usances.length)):=by
  refine iter_first (step:=fun w=>mrealm_Usance_l1_s r a b w) (fun i=>(i:Int)) _ _ _ ?_ ?_
  ·intro i hi
   simp only [mrealm_Usance_l1_s,lt_t hi,if_true,at_el _ _ hi,Option.bind_some,wrap_succ (show i < 9223372036854775807 by omega),beq_iff_eq]
   by_cases h1:(el r.Usances i).From = a <;> by_cases h2:(el r.Usances i).To = b <;> simp [h1,h2]
  ·simp only [mrealm_Usance_l1_s,lt_f,if_false]
 rw [this]
 generalize firstO _ 0 _ = o
 cases o <;> rfl
def idxOf (l:List ByteArray) (x:ByteArray):Int:=(firstO (fun i=>if el l i = x then some (i:Int) else none) 0 l.length).getD (-1)
theorem idxOf_at {l:List ByteArray} {x:ByteArray} (i:Nat) (hi:i < l.length) (h:el l i = x) (hb:∀ j,j < i→el l j ≠ x):idxOf l x = i:=by
 unfold idxOf
 rw [firstO_at l.length i hi (x:=(i:Int)) (by rw [if_pos h]) (fun j hj=>by rw [if_neg (hb j hj)])]
 rfl
theorem fitsOf_zero {l:List ByteArray} {most:Nat} {F:Nat→Bool}:fitsOf l most F = 0 ↔ l.length ≤ most ∧ ∀ i,i < l.length→namedOf l i = 0 ∧ F i = true:=by
 unfold fitsOf
 by_cases h:l.length ≤ most
 ·rw [if_pos h,errN_zero]
  have key:∀ i,fitErr l F i = 0 ↔ namedOf l i = 0 ∧ F i = true:=by
   intro i
   unfold fitErr
   by_cases e:namedOf l i = 0
   ·cases hF:F i <;> simp [e]
   ·simp [e]
  simp only [key]
  exact ⟨fun q=>⟨h,q⟩,fun q=>q.2⟩
 ·rw [if_neg h]; simp [h]
theorem twice_iff {l:List ByteArray} {x:ByteArray} {n:Nat}:twiceB l x n = true ↔ ∃ j,j < n ∧ el l j = x:=by
 unfold twiceB
 rcases firstS_cases (fun j=>if el l j = x then some true else none) false n 0 with ⟨h1,h2⟩ | ⟨i,b,h1,h2,h3,h4,h5⟩
 ·rw [h1]
  constructor
  ·intro h; cases h
  ·rintro ⟨j,hj,e⟩
   have:=h2 j (Nat.zero_le _) (by omega)
   rw [if_pos e] at this; cases this
 ·rw [h4]
  split at h3
  ·rename_i e; cases h3; exact ⟨fun _=>⟨i,by omega,e⟩,fun _=>rfl⟩
  ·cases h3
theorem named_zero {l:List ByteArray} {i:Nat}:namedOf l i = 0 ↔ nameB (el l i) = true ∧ ∀ j,j < i→el l j ≠ el l i:=by
 unfold namedOf
 have:=twice_iff (l:=l) (x:=el l i) (n:=i)
 cases hn:nameB (el l i) with
 | false=>simp
 | true =>
  cases ht:twiceB l (el l i) i with
  | true =>
   rw [ht] at this
   obtain ⟨j,h1,h2⟩:=this.1 rfl
   simp only [if_true]
   exact ⟨fun q=>absurd q (by decide),fun q=>absurd h2 (q.2 j h1)⟩
  | false =>
   rw [ht] at this
   simp only [if_true]
   exact ⟨fun _=>⟨trivial,fun j h1 h2=>by have:=this.2 ⟨j,h1,h2⟩; cases this⟩,fun _=>by simp⟩
structure Right (r:GRealm):Prop where
 cur:curOf r = 0
 cit:citOf r = 0
 grp:grpOf r = 0
 frm:frmOf r = 0
 ord:ordOf r = 0
 us:usOf r = 0
 rest:restOf r = 0
theorem check_zero {r:GRealm}:checkOf r = 0 ↔ Right r:=by
 unfold checkOf
 simp only [orE_zero]
 exact ⟨fun ⟨a,b,c,d,e,f,g⟩=>⟨a,b,c,d,e,f,g⟩,fun ⟨a,b,c,d,e,f,g⟩=>⟨a,b,c,d,e,f,g⟩⟩
theorem Right.city {r:GRealm} (h:Right r) (i:Nat) (hi:i < r.Cities.length):(0 ≤ (el r.Cities i).Order ∧ (el r.Cities i).Order < r.Orders.length) ∧ idxOf (r.Cities.map (·.Name)) (el r.Cities i).Name = i:=by
 have hl:(r.Cities.map (·.Name)).length = r.Cities.length:=by simp
 have q:=(fitsOf_zero.1 h.cit).2 i (by omega)
 have q2:=(named_zero.1 q.1).2
 refine ⟨?_,idxOf_at i (by omega) (el_map _ _ _ hi) fun j hj=>by have:=q2 j hj; rwa [el_map _ _ i hi] at this⟩
 have:=q.2
 unfold cityB at this
 simp only [Bool.and_eq_true,decide_eq_true_eq] at this
 exact this.2.2.2.1
def uKey (x y:GUsance):Prop:=x.From = y.From ∧ x.To = y.To
def uFine (r:GRealm) (x:GUsance):Prop:=(0 ≤ x.From ∧ x.From < r.Cities.length) ∧ (0 ≤ x.To ∧ x.To < r.Cities.length) ∧ 1 ≤ x.Days ∧ x.Days ≤ 20000
theorem usOf_zero {r:GRealm}:usOf r = 0 ↔ r.Usances.length ≤ 100 ∧ (∀ x ∈ r.Usances,uFine r x) ∧ r.Usances.Pairwise fun x y=>¬ uKey x y:=by
 unfold usOf
 by_cases h:r.Usances.length ≤ 100
 ·rw [if_pos h,errN_zero]
  have key:∀ i,usErr r i = 0 ↔ uFine r (el r.Usances i) ∧ ∀ k,k < i→¬ uKey (el r.Usances k) (el r.Usances i):=by
   intro i
   unfold usErr
   have hb:allN (fun k=>!usB r i k) i = true ↔ ∀ k,k < i→¬ uKey (el r.Usances k) (el r.Usances i):=by
    rw [allN_iff]
    simp only [usB,uKey,Bool.not_eq_true',decide_eq_false_iff_not]
   rw [← hb]
   unfold uFine
   by_cases g:(0 ≤ (el r.Usances i).From ∧ (el r.Usances i).From < r.Cities.length) ∧ (0 ≤ (el r.Usances i).To ∧ (el r.Usances i).To < r.Cities.length) ∧ 1 ≤ (el r.Usances i).Days ∧ (el r.Usances i).Days ≤ 20000
   ·rw [if_pos g]
    cases allN (fun k=>!usB r i k) i <;> simp [g]
   ·rw [if_neg g]
    exact ⟨fun q=>absurd q (by decide),fun q=>absurd q.1 g⟩
  simp only [key]
  constructor
  ·intro q
   refine ⟨h,fun x hx=>?_,?_⟩
   ·obtain ⟨i,hi,rfl⟩:=mem_el hx
    exact (q i hi).1
   ·rw [List.pairwise_iff_getElem]
    intro i j hi hj hij
    have:=(q j hj).2 i hij
    rwa [el_lt _ _ hi,el_lt _ _ hj] at this
  ·rintro ⟨_,q1,q2⟩ i hi
   refine ⟨q1 _ (el_mem _ i hi),fun k hk=>?_⟩
   have:=List.pairwise_iff_getElem.1 q2 k i (by omega) hi hk
   rwa [el_lt _ _ hi,el_lt _ k (by omega)]
 ·rw [if_neg h]; simp [h]
theorem usance_cases (r:GRealm) (a b:Int):(∃ x ∈ r.Usances,x.From = a ∧ x.To = b ∧ usanceOf r a b = (x.Days,0)) ∨ ((∀ x ∈ r.Usances,¬ (x.From = a ∧ x.To = b)) ∧ usanceOf r a b = (0,4)):=by
 unfold usanceOf
 cases h:firstO (fun i=>if (el r.Usances i).From = a ∧ (el r.Usances i).To = b then some (el r.Usances i).Days else none) 0 r.Usances.length with
 | none =>
  refine .inr ⟨fun x hx=>?_,rfl⟩
  obtain ⟨i,hi,rfl⟩:=mem_el hx
  have:=(firstO_none _ 0).1 h i (Nat.zero_le _) (by omega)
  intro q
  rw [if_pos q] at this; cases this
 | some d =>
  obtain ⟨i,_,hi,h3,_⟩:=firstO_some _ 0 h
  split at h3
  ·rename_i q
   cases h3
   exact .inl ⟨_,el_mem _ i (by omega),q.1,q.2,rfl⟩
  ·cases h3
end Go.Proofs.Ytibhbfhelfjloaa
