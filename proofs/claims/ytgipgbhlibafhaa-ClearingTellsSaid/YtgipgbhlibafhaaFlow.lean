/- Clearings as flows: what is best (plain mathematics). -/
import Derived.Test.YtgipgbhlibafhaaLoops3
set_option linter.unusedVariables false
set_option linter.unusedSimpArgs false
namespace Go.Proofs.Ytgipgbhlibafhaa
def sumN (g:Nat→Int):Nat→Int
 | 0=>0
 | n + 1=>sumN g n + g n
theorem sumN_congr {g h:Nat→Int}:∀ {n:Nat},(∀ i,i < n→g i = h i)→sumN g n = sumN h n
 | 0,_=>rfl
 | n + 1,e=>by rw [sumN,sumN,sumN_congr fun i hi=>e i (by omega),e n (by omega)]
theorem sumN_add (g h:Nat→Int):∀ n,sumN (fun i=>g i + h i) n = sumN g n + sumN h n
 | 0=>rfl
 | n + 1=>by rw [sumN,sumN,sumN,sumN_add g h n]; omega
theorem sumN_sub (g h:Nat→Int):∀ n,sumN (fun i=>g i - h i) n = sumN g n - sumN h n
 | 0=>rfl
 | n + 1=>by rw [sumN,sumN,sumN,sumN_sub g h n]; omega
theorem sumN_mul (c:Int) (g:Nat→Int):∀ n,sumN (fun i=>c * g i) n = c * sumN g n
 | 0=>by simp [sumN]
 | n + 1=>by rw [sumN,sumN,sumN_mul c g n,Int.mul_add]
theorem sumN_zero:∀ n,sumN (fun _=>0) n = 0
 | 0=>rfl
 | n + 1=>by rw [sumN,sumN_zero n]; rfl
theorem sumN_le {g h:Nat→Int}:∀ {n:Nat},(∀ i,i < n→g i ≤ h i)→sumN g n ≤ sumN h n
 | 0,_=>Int.le_refl _
 | n + 1,e=>by
  have:=sumN_le (n:=n) fun i hi=>e i (by omega)
  have:=e n (by omega)
  rw [sumN,sumN]; omega
theorem sumN_nonneg {g:Nat→Int} {n:Nat} (h:∀ i,i < n→0 ≤ g i):0 ≤ sumN g n:=by
 rw [← sumN_zero n]; exact sumN_le h
theorem sumN_term {g:Nat→Int}:∀ {n:Nat},(∀ i,i < n→0 ≤ g i)→∀ i,i < n→g i ≤ sumN g n
 | 0,_,i,hi=>absurd hi (Nat.not_lt_zero _)
 | n + 1,h,i,hi=>by
  have h0:=sumN_nonneg (n:=n) fun j hj=>h j (by omega)
  rw [sumN]
  by_cases e:i = n
  ·subst e; omega
  ·have:=sumN_term (n:=n) (fun j hj=>h j (by omega)) i (by omega)
   have:=h n (by omega)
   omega
theorem sumN_all_zero {g:Nat→Int} {n:Nat} (h:∀ i,i < n→g i ≤ 0) (hs:0 ≤ sumN g n):∀ i,i < n→g i = 0:=by
 intro i hi
 have h1:=sumN_term (g:=fun i=>-g i) (n:=n) (fun j hj=>by have:=h j hj; omega) i hi
 have h2:sumN (fun i=>-g i) n = - sumN g n:=by
  have:=sumN_sub (fun _=>0) g n
  rw [sumN_zero] at this
  rw [sumN_congr (h:=fun i=>0 - g i) fun i _=>by omega,this]; omega
 have:=h i hi
 omega
theorem sumN_one {n:Nat} {i:Nat} (hi:i < n) (c:Int):sumN (fun v=>if v = i then c else 0) n = c:=by
 induction n with
 | zero=>exact absurd hi (Nat.not_lt_zero _)
 | succ n ih =>
  rw [sumN]
  by_cases e:i = n
  ·subst e
   rw [if_pos rfl,sumN_congr (h:=fun _=>0) fun j hj=>if_neg (by omega),sumN_zero]; omega
  ·rw [ih (by omega),if_neg (by omega)]; omega
theorem sumN_comm (f:Nat→Nat→Int) (n:Nat):∀ m,sumN (fun v=>sumN (fun i=>f v i) m) n = sumN (fun i=>sumN (fun v=>f v i) n) m
 | 0=>by simp only [sumN]; exact sumN_zero n
 | m + 1=>by
  simp only [sumN]
  rw [sumN_add,sumN_comm f n m]
def netF (fr tt:Nat→Nat) (m:Nat) (x:Nat→Int) (v:Nat):Int:=sumN (fun i=>(if tt i = v then x i else 0) - (if fr i = v then x i else 0)) m
theorem net_pot {fr tt:Nat→Nat} {n m:Nat} (hf:∀ i,i < m→fr i < n) (ht:∀ i,i < m→tt i < n) (x p:Nat→Int):sumN (fun v=>p v * netF fr tt m x v) n = sumN (fun i=>x i * (p (tt i) - p (fr i))) m:=by
 unfold netF
 rw [sumN_congr (h:=fun v=>sumN (fun i=>p v * ((if tt i = v then x i else 0) - (if fr i = v then x i else 0))) m) fun v _=>(sumN_mul _ _ _).symm,sumN_comm]
 refine sumN_congr fun i hi=>?_
 have h1:sumN (fun v=>if v = tt i then p (tt i) * x i else 0) n = p (tt i) * x i:=sumN_one (ht i hi) _
 have h2:sumN (fun v=>if v = fr i then p (fr i) * x i else 0) n = p (fr i) * x i:=sumN_one (hf i hi) _
 rw [sumN_congr (h:=fun v=>(if v = tt i then p (tt i) * x i else 0) - (if v = fr i then p (fr i) * x i else 0)) fun v _=>?_,sumN_sub,h1,h2,Int.mul_sub,Int.mul_comm,Int.mul_comm (p (fr i))]
 by_cases e1:tt i = v <;> by_cases e2:fr i = v
 ·rw [if_pos e1,if_pos e2,if_pos e1.symm,if_pos e2.symm,← e1,Int.mul_sub]; rw [e1,e2]
 ·rw [if_pos e1,if_neg e2,if_pos e1.symm,if_neg (fun q=>e2 q.symm),← e1]; rw [Int.mul_sub,Int.mul_zero]
 ·rw [if_neg e1,if_pos e2,if_neg (fun q=>e1 q.symm),if_pos e2.symm,← e2]; rw [Int.mul_sub,Int.mul_zero]
 ·rw [if_neg e1,if_neg e2,if_neg (fun q=>e1 q.symm),if_neg (fun q=>e2 q.symm)]; simp
structure Bald (fr tt:Nat→Nat) (s:Nat→Int) (n m:Nat) (x:Nat→Int):Prop where
 lo:∀ i,i < m→0 ≤ x i
 hi:∀ i,i < m→x i ≤ s i
 net:∀ v,v < n→netF fr tt m x v = 0
def Cert (fr tt:Nat→Nat) (s:Nat→Int) (m:Nat) (x p:Nat→Int):Prop:=∀ i,i < m→(x i < s i→p (tt i) ≤ p (fr i) - 1) ∧ (0 < x i→p (fr i) ≤ p (tt i) + 1)
section
variable {fr tt:Nat→Nat} {s:Nat→Int} {n m:Nat}
theorem bald_pot (hf:∀ i,i < m→fr i < n) (ht:∀ i,i < m→tt i < n) {x:Nat→Int} (h:∀ v,v < n→netF fr tt m x v = 0) (p:Nat→Int):sumN (fun i=>x i * (p (tt i) - p (fr i))) m = 0:=by
 rw [← net_pot hf ht,sumN_congr (h:=fun _=>0) fun v hv=>by rw [h v hv,Int.mul_zero],sumN_zero]
theorem cert_diff (hf:∀ i,i < m→fr i < n) (ht:∀ i,i < m→tt i < n) {x y p:Nat→Int} (hx:Bald fr tt s n m x) (hy:Bald fr tt s n m y):sumN (fun i=>(y i - x i) * (1 + (p (tt i) - p (fr i)))) m = sumN y m - sumN x m:=by
 have h1:=bald_pot hf ht hx.net p
 have h2:=bald_pot hf ht hy.net p
 rw [sumN_congr (h:=fun i=>(y i - x i) + (y i * (p (tt i) - p (fr i)) - x i * (p (tt i) - p (fr i)))) fun i _=>by rw [Int.mul_add,Int.mul_one,Int.sub_mul],sumN_add,sumN_sub,sumN_sub,h1,h2]
 omega
theorem cert_term {x y p:Nat→Int} (hx:Bald fr tt s n m x) (hy:Bald fr tt s n m y) (hc:Cert fr tt s m x p):∀ i,i < m→(y i - x i) * (1 + (p (tt i) - p (fr i))) ≤ 0:=by
 intro i hi
 have c:=hc i hi
 have h1:=hy.hi i hi
 have h2:=hy.lo i hi
 rcases Int.lt_trichotomy (x i) (y i) with q | q | q
 ·have:=c.1 (by omega)
  exact Int.mul_nonpos_of_nonneg_of_nonpos (by omega) (by omega)
 ·rw [← q]; simp
 ·have:=c.2 (by omega)
  exact Int.mul_nonpos_of_nonpos_of_nonneg (by omega) (by omega)
theorem cert_best (hf:∀ i,i < m→fr i < n) (ht:∀ i,i < m→tt i < n) {x y p:Nat→Int} (hx:Bald fr tt s n m x) (hy:Bald fr tt s n m y) (hc:Cert fr tt s m x p):sumN y m ≤ sumN x m:=by
 have h1:=cert_diff hf ht (p:=p) hx hy
 have h2:=sumN_le (h:=fun _=>0) (cert_term hx hy hc)
 rw [sumN_zero] at h2
 omega
theorem cert_tight (hf:∀ i,i < m→fr i < n) (ht:∀ i,i < m→tt i < n) {x y p:Nat→Int} (hx:Bald fr tt s n m x) (hy:Bald fr tt s n m y) (hc:Cert fr tt s m x p) (he:sumN x m ≤ sumN y m):∀ i,i < m→y i ≠ x i→p (tt i) = p (fr i) - 1:=by
 intro i hi hne
 have h1:=cert_diff hf ht (p:=p) hx hy
 have h2:=sumN_all_zero (cert_term hx hy hc) (by omega) i hi
 rcases Int.mul_eq_zero.1 h2 with q | q
 ·omega
 ·omega
end
end Go.Proofs.Ytgipgbhlibafhaa
