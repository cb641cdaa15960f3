/- Without cycles that cost less than nothing as many steps as there are nodes are enough (plain mathematics). -/
import Derived.Test.YtgipgbhlibafhaaFlow2
set_option linter.unusedVariables false
set_option linter.unusedSimpArgs false
namespace Go.Proofs.Ytgipgbhlibafhaa
theorem nodF_le:∀ (n:Nat) (l:List Nat),l.Nodup→(∀ x ∈ l,x < n)→l.length ≤ n
 | 0,l,_,h=>by
  cases l with
  | nil=>exact Nat.le_refl _
  | cons a l=>exact absurd (h a (List.mem_cons_self ..)) (Nat.not_lt_zero _)
 | n + 1,l,hn,h=>by
  have h1:=nodF_le n (l.erase n) (hn.erase n) (fun x hx=>by
   have q:=(List.Nodup.mem_erase_iff hn).1 hx
   have:=h x q.2
   have:=q.1
   omega)
  by_cases c:n ∈ l
  ·rw [List.length_erase_of_mem c] at h1
   omega
  ·rw [List.erase_of_not_mem c] at h1
   omega
section
variable {St:Type} [Inhabited St]
inductive WkC (src dst:St→Nat) (cst:St→Int) (l:List St) (u:Nat):Nat→Int→Nat→Prop
 | zero:WkC src dst cst l u 0 0 u
 | step {k:Nat} {c:Int} (i:Nat):i < l.length→WkC src dst cst l u k c (src (el l i))→WkC src dst cst l u (k + 1) (c + cst (el l i)) (dst (el l i))
inductive WkL (src dst:St→Nat) (cst:St→Int) (l:List St) (u:Nat):List Nat→Int→Nat→Prop
 | zero:WkL src dst cst l u [u] 0 u
 | step {vs:List Nat} {c:Int} (i:Nat):i < l.length→WkL src dst cst l u vs c (src (el l i))→dst (el l i) ∉ vs→WkL src dst cst l u (dst (el l i) :: vs) (c + cst (el l i)) (dst (el l i))
variable {src dst:St→Nat} {cst:St→Int} {l:List St}
def Pot (src dst:St→Nat) (cst:St→Int) (l:List St) (p:Nat→Int):Prop:=∀ i,i < l.length→p (dst (el l i)) ≤ p (src (el l i)) + cst (el l i)
theorem WkC.pot {p:Nat→Int} (h:Pot src dst cst l p) {u k v:Nat} {c:Int} (w:WkC src dst cst l u k c v):p v ≤ p u + c:=by
 induction w with
 | zero=>omega
 | step i hi _ ih=>have:=h i hi; omega
theorem WkC.trans {u v w j k:Nat} {c d:Int} (h1:WkC src dst cst l u j c v) (h2:WkC src dst cst l v k d w):WkC src dst cst l u (j + k) (c + d) w:=by
 induction h2 with
 | zero=>rw [Int.add_zero]; exact h1
 | step i hi _ ih=>rw [← Nat.add_assoc,← Int.add_assoc]; exact .step i hi ih
theorem WkL.facts {u v:Nat} {vs:List Nat} {c:Int} (w:WkL src dst cst l u vs c v):vs.Nodup ∧ 0 < vs.length ∧ WkC src dst cst l u (vs.length - 1) c v:=by
 induction w with
 | zero=>exact ⟨by simp,by simp,.zero⟩
 | @step vs c i hi _ hn ih =>
  refine ⟨List.nodup_cons.2 ⟨hn,ih.1⟩,by simp,?_⟩
  have:=WkC.step i hi ih.2.2
  rw [show vs.length - 1 + 1 = (dst (el l i) :: vs).length - 1 by have:=ih.2.1; simp; omega] at this
  exact this
theorem WkL.lt {n u v:Nat} (hs:∀ i,i < l.length→src (el l i) < n ∧ dst (el l i) < n) (hu:u < n) {vs:List Nat} {c:Int} (w:WkL src dst cst l u vs c v):∀ x ∈ vs,x < n:=by
 induction w with
 | zero=>intro x hx; rw [List.mem_singleton] at hx; omega
 | step i hi _ _ ih =>
  intro x hx
  rcases List.mem_cons.1 hx with e | e
  ·rw [e]; exact (hs i hi).2
  ·exact ih x e
theorem WkL.cut {p:Nat→Int} (h:Pot src dst cst l p) {u v:Nat} {vs:List Nat} {c:Int} (w:WkL src dst cst l u vs c v):∀ y ∈ vs,∃ vs' c',WkL src dst cst l u vs' c' y ∧ vs'.length ≤ vs.length ∧ p v ≤ p y + (c - c'):=by
 induction w with
 | zero =>
  intro y hy
  rw [List.mem_singleton] at hy
  subst hy
  exact ⟨[y],0,.zero,Nat.le_refl _,by omega⟩
 | @step vs c i hi w hn ih =>
  intro y hy
  by_cases e:y = dst (el l i)
  ·subst e
   exact ⟨_,_,.step i hi w hn,Nat.le_refl _,by omega⟩
  ·rcases List.mem_cons.1 hy with q | q
   ·exact absurd q e
   ·obtain ⟨vs',c',h1,h2,h3⟩:=ih y q
    have:=h i hi
    exact ⟨vs',c',h1,by simp; omega,by omega⟩
theorem WkC.simple {p:Nat→Int} (h:Pot src dst cst l p) {u k v:Nat} {c:Int} (w:WkC src dst cst l u k c v):∃ vs c',WkL src dst cst l u vs c' v ∧ (c' < c ∨ c' = c ∧ vs.length ≤ k + 1):=by
 induction w with
 | zero=>exact ⟨[u],0,.zero,.inr ⟨rfl,by simp⟩⟩
 | @step k c i hi w ih =>
  obtain ⟨vs,c',h1,h2⟩:=ih
  by_cases hm:dst (el l i) ∈ vs
  ·obtain ⟨vs',c'',q1,q2,q3⟩:=h1.cut h _ hm
   have:=h i hi
   refine ⟨vs',c'',q1,?_⟩
   rcases h2 with h2 | ⟨h2,h3⟩
   ·exact .inl (by omega)
   ·rcases (by omega:c'' < c + cst (el l i) ∨ c + cst (el l i) ≤ c'') with q | q
    ·exact .inl q
    ·exact .inr ⟨by omega,by omega⟩
  ·refine ⟨_,_,.step i hi h1 hm,?_⟩
   rcases h2 with h2 | ⟨h2,h3⟩
   ·exact .inl (by omega)
   ·exact .inr ⟨by omega,by simp; omega⟩
theorem WkC.short {p:Nat→Int} (h:Pot src dst cst l p) {n:Nat} (hs:∀ i,i < l.length→src (el l i) < n ∧ dst (el l i) < n) {u k v:Nat} (hu:u < n) {c:Int} (w:WkC src dst cst l u k c v):∃ j c',j < n ∧ WkC src dst cst l u j c' v ∧ (c' < c ∨ c' = c ∧ j ≤ k):=by
 obtain ⟨vs,c',h1,h2⟩:=w.simple h
 obtain ⟨q1,q2,q3⟩:=h1.facts
 have:=nodF_le n vs q1 (h1.lt hs hu)
 refine ⟨vs.length - 1,c',by omega,q3,?_⟩
 rcases h2 with h2 | ⟨h2,h3⟩
 ·exact .inl h2
 ·exact .inr ⟨h2,by omega⟩
variable {C:Type} [Inhabited C] {less:C→C→Bool} {onw:C→St→C}
structure LabS (less:C→C→Bool) (onw:C→St→C) (cst:St→Int) (addL:C→Int→Nat→C):Prop where
 zero:∀ a,addL a 0 0 = a
 step:∀ a c k s,onw (addL a c k) s = addL a (c + cst s) (k + 1)
 le:∀ a c k c' k',c' < c ∨ (c' = c ∧ k' ≤ k)→leS less (addL a c' k') (addL a c k)
variable {addL:C→Int→Nat→C}
theorem wkS_C (A:LabS less onw cst addL) {init:List C} {k v:Nat} {a:C} (w:WkS onw src dst l init k a v):∃ u c,u < init.length ∧ WkC src dst cst l u k c v ∧ a = addL (el init u) c k:=by
 induction w with
 | zero v hv=>exact ⟨v,0,hv,.zero,(A.zero _).symm⟩
 | step i hi _ ih =>
  obtain ⟨u,c,h1,h2,rfl⟩:=ih
  exact ⟨u,_,h1,.step i hi h2,A.step _ _ _ _⟩
theorem wkC_S (A:LabS less onw cst addL) {init:List C} {u k v:Nat} {c:Int} (hu:u < init.length) (w:WkC src dst cst l u k c v):WkS onw src dst l init k (addL (el init u) c k) v:=by
 induction w with
 | zero=>rw [A.zero]; exact .zero u hu
 | step i hi _ ih=>rw [← A.step]; exact .step i hi ih
theorem wk_short (A:LabS less onw cst addL) {p:Nat→Int} (h:Pot src dst cst l p) {init:List C} (hs:∀ i,i < l.length→src (el l i) < init.length ∧ dst (el l i) < init.length):∀ k a v,WkS onw src dst l init k a v→∃ j b,j ≤ init.length ∧ WkS onw src dst l init j b v ∧ leS less b a:=by
 intro k a v w
 obtain ⟨u,c,hu,hw,rfl⟩:=wkS_C A w
 obtain ⟨j,c',h1,h2,h3⟩:=hw.short h hs hu
 exact ⟨j,_,by omega,wkC_S A hu h2,A.le _ _ _ _ _ h3⟩
theorem run_pot (O:OrdS less onw) (A:LabS less onw cst addL) {p:Nat→Int} (h:Pot src dst cst l p) {init:List C} (hs:∀ i,i < l.length→src (el l i) < init.length ∧ dst (el l i) < init.length) {fuel:Nat} (hf:init.length + 1 ≤ fuel) :
  ∃ best last,runS less onw src dst l fuel init (List.replicate init.length (-1)) = some (best,last) ∧ InvS less onw src dst l init best last ∧ (∀ i,i < l.length→leS less (el best (dst (el l i))) (onw (el best (src (el l i))) (el l i))) ∧ ∀ u k c v,u < init.length→WkC src dst cst l u k c v→leS less (el best v) (addL (el init u) c k):=by
 obtain ⟨best,last,h1,h2,h3,h4⟩:=run_spec O hs init.length (wk_short A h hs) hf
 exact ⟨best,last,h1,h2,h3,fun u k c v hu w=>h4 _ _ _ (wkC_S A hu w)⟩
end
end Go.Proofs.Ytgipgbhlibafhaa
