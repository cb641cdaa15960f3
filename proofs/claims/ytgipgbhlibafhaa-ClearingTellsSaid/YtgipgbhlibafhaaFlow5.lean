/- Balancing and raising (plain mathematics). -/
import Derived.Test.YtgipgbhlibafhaaFlow4
set_option linter.unusedVariables false
set_option linter.unusedSimpArgs false
namespace Go.Proofs.Ytgipgbhlibafhaa
def stp (fr tt:Nat→Nat) (s x:Nat→Int) (cc:Bool→Int) (i:Nat) (b:Bool):Stp :=
 ⟨i,if b = true then tt i else fr i,if b = true then fr i else tt i,cc b,if b = true then x i else s i - x i,b⟩
structure StepsOf (fr tt:Nat→Nat) (s:Nat→Int) (m:Nat) (x:Nat→Int) (Q:Nat→Bool→Prop) (cc:Bool→Int) (l:List Stp):Prop where
 sound:∀ k,k < l.length→∃ i b,i < m ∧ Q i b ∧ 0 < (stp fr tt s x cc i b).most ∧ el l k = stp fr tt s x cc i b
 all:∀ i b,i < m→Q i b→0 < (stp fr tt s x cc i b).most→∃ k,k < l.length ∧ el l k = stp fr tt s x cc i b
def ccT (b:Bool):Int:=if b = true then 1 else -1
def sgS (e:Stp) (d:Int):Int:=if e.back = true then -d else d
def mvL (l:List Stp) (d:Int):List Int→List Nat→List Int
 | x,[]=>x
 | x,k :: ks=>mvL l d (x.set (el l k).due.toNat (el x (el l k).due.toNat + sgS (el l k) d)) ks
theorem mvL_len (l:List Stp) (d:Int):∀ (ks:List Nat) (x:List Int),(mvL l d x ks).length = x.length
 | [],x=>rfl
 | k :: ks,x=>by rw [mvL,mvL_len l d ks,List.length_set]
theorem netF_set {fr tt:Nat→Nat} {m:Nat} {x:List Int} {i:Nat} (hi:i < m) (hx:x.length = m) (a:Int) (w:Nat) :
  netF fr tt m (el (x.set i a)) w = netF fr tt m (el x) w + (if tt i = w then a - el x i else 0) - (if fr i = w then a - el x i else 0):=by
 unfold netF
 rw [sumN_congr (h:=fun j=>((if tt j = w then el x j else 0) - (if fr j = w then el x j else 0)) + (if j = i then ((if tt i = w then a - el x i else 0) - (if fr i = w then a - el x i else 0)) else 0)) fun j _=>?_,sumN_add,sumN_one hi]
 ·omega
 ·have hs:el (x.set i a) j = if j = i then a else el x j:=by
   rw [el_set_any]
   by_cases e:j = i
   ·rw [if_pos ⟨e,by omega⟩,if_pos e]
   ·rw [if_neg fun q=>e q.1,if_neg e]
  rw [hs]
  by_cases e:j = i
  ·subst e
   rw [if_pos rfl,if_pos rfl]
   split <;> split <;> omega
  ·rw [if_neg e,if_neg e]
   omega
theorem bound_ex (g:Nat→Int):∀ n,∃ B:Int,0 ≤ B ∧ ∀ v,v < n→g v ≤ B ∧ -g v ≤ B
 | 0=>⟨0,Int.le_refl _,fun v h=>absurd h (Nat.not_lt_zero _)⟩
 | n + 1=>by
  obtain ⟨B,h1,h2⟩:=bound_ex g n
  refine ⟨B + (g n).natAbs,by omega,fun v hv=>?_⟩
  by_cases e:v = n
  ·subst e; omega
  ·have:=h2 v (by omega); omega
section
variable {fr tt:Nat→Nat} {s:Nat→Int} {n m:Nat} {Q:Nat→Bool→Prop} {cc:Bool→Int} {x:Nat→Int} {l:List Stp}
theorem stp_src (i:Nat) (b:Bool):(stp fr tt s x cc i b).src = if b = true then tt i else fr i:=by cases b <;> simp [stp,Stp.src]
theorem stp_dst (i:Nat) (b:Bool):(stp fr tt s x cc i b).dst = if b = true then fr i else tt i:=by cases b <;> simp [stp,Stp.dst]
theorem StepsOf.in_ (S:StepsOf fr tt s m x Q cc l) (hf:∀ i,i < m→fr i < n) (ht:∀ i,i < m→tt i < n):∀ k,k < l.length→(el l k).src < n ∧ (el l k).dst < n:=by
 intro k hk
 obtain ⟨i,b,hi,_,_,e⟩:=S.sound k hk
 rw [e,stp_src,stp_dst]
 have:=hf i hi
 have:=ht i hi
 cases b <;> simp <;> omega
theorem cert_pot (S:StepsOf fr tt s m x (fun _ _=>True) ccT l) (p:Nat→Int):Cert fr tt s m x p ↔ Pot Stp.src Stp.dst Stp.cost l p:=by
 constructor
 ·intro h k hk
  obtain ⟨i,b,hi,_,q,e⟩:=S.sound k hk
  have c:=h i hi
  rw [e,stp_src,stp_dst]
  cases b
  ·have:=c.1 (by simp only [stp] at q; simp at q; omega)
   simp [stp,ccT]; omega
  ·have:=c.2 (by simp only [stp] at q; simpa using q)
   simp [stp,ccT]; omega
 ·intro h i hi
  constructor
  ·intro c
   obtain ⟨k,hk,e⟩:=S.all i false hi trivial (by simp [stp]; omega)
   have:=h k hk
   rw [e,stp_src,stp_dst] at this
   simp [stp,ccT] at this; omega
  ·intro c
   obtain ⟨k,hk,e⟩:=S.all i true hi trivial (by simp [stp]; omega)
   have:=h k hk
   rw [e,stp_src,stp_dst] at this
   simp [stp,ccT] at this; omega
theorem Pth.dues (S:StepsOf fr tt s m x Q cc l) {last:List Int} {μ:Nat→Nat} {v u:Nat} {ks:List Nat} (w:Pth l last v ks u) (h:∀ k ∈ ks,k < l.length ∧ μ (el l k).src < μ (el l k).dst):(∀ k ∈ ks,μ (el l k).dst ≤ μ v) ∧ (ks.map fun k=>(el l k).due.toNat).Nodup:=by
 induction w with
 | nil v _=>exact ⟨fun k hk=>(by cases hk),by simp⟩
 | @cons v k u ks hk hl hd w ih =>
  obtain ⟨q1,q2⟩:=ih fun j hj=>h j (List.mem_cons_of_mem _ hj)
  have hkk:=(h k (List.mem_cons_self ..)).2
  rw [hd] at hkk
  refine ⟨fun j hj=>?_,?_⟩
  ·rcases List.mem_cons.1 hj with rfl | hj
   ·rw [hd]; exact Nat.le_refl _
   ·have:=q1 j hj; omega
  ·rw [List.map_cons,List.nodup_cons]
   refine ⟨fun hm=>?_,q2⟩
   obtain ⟨j,hj,e⟩:=List.mem_map.1 hm
   have h1:=q1 j hj
   have h2:=(h j (List.mem_cons_of_mem _ hj))
   obtain ⟨i,b,hi,_,_,ek⟩:=S.sound k hk
   obtain ⟨i',b',hi',_,_,ej⟩:=S.sound j h2.1
   have hii:i' = i:=by rw [ek,ej] at e; simpa [stp] using e
   subst hii
   have h3:=h2.2
   rw [ej,stp_src,stp_dst] at h3
   rw [ej,stp_dst,ek,stp_src] at h1
   rw [← hd,ek,stp_src,stp_dst] at hkk
   cases b <;> cases b' <;> simp at h1 h3 hkk <;> omega
theorem mv_net (S:StepsOf fr tt s m x Q cc l) {last:List Int} {v u:Nat} {ks:List Nat} (w:Pth l last v ks u) (d:Int) (z:Nat):∀ y:List Int,y.length = m→netF fr tt m (el (mvL l d y ks)) z = netF fr tt m (el y) z + (if v = z then d else 0) - (if u = z then d else 0):=by
 induction w with
 | nil v _=>intro y _; simp only [mvL]; omega
 | @cons v k u ks hk hl hd w ih =>
  intro y hy
  obtain ⟨i,b,hi,_,_,ek⟩:=S.sound k hk
  have hdue:(el l k).due.toNat = i:=by rw [ek]; simp [stp]
  rw [mvL,ih _ (by rw [List.length_set,hy]),hdue,netF_set hi hy]
  have hb:(el l k).back = b:=by rw [ek]; rfl
  rw [← hd]
  have e1:(el l k).src = if b = true then tt i else fr i:=by rw [ek,stp_src]
  have e2:(el l k).dst = if b = true then fr i else tt i:=by rw [ek,stp_dst]
  rw [e1,e2]
  have hsg:el y i + sgS (el l k) d - el y i = if b = true then -d else d:=by unfold sgS; rw [hb]; omega
  rw [hsg]
  cases b
  ·simp only [Bool.false_eq_true,if_false]
   split <;> split <;> split <;> omega
  ·simp only [if_true]
   split <;> split <;> split <;> omega
theorem mv_far (d:Int) (i:Nat):∀ (ks:List Nat) (y:List Int),(∀ k ∈ ks,(el l k).due.toNat ≠ i)→el (mvL l d y ks) i = el y i
 | [],y,_=>rfl
 | k :: ks,y,h=>by
  rw [mvL,mv_far d i ks _ fun j hj=>h j (List.mem_cons_of_mem _ hj),el_set_any,if_neg fun q=>h k (List.mem_cons_self ..) q.1.symm]
theorem mv_near (d:Int):∀ (ks:List Nat) (y:List Int),(ks.map fun k=>(el l k).due.toNat).Nodup→∀ k ∈ ks,(el l k).due.toNat < y.length→el (mvL l d y ks) (el l k).due.toNat = el y (el l k).due.toNat + sgS (el l k) d
 | [],y,_,k,hk,_=>by cases hk
 | j :: ks,y,h,k,hk,hl=>by
  rw [List.map_cons,List.nodup_cons] at h
  have hfar:∀ i ∈ ks,(el l i).due.toNat ≠ (el l j).due.toNat:=fun i hi e=>h.1 (List.mem_map.2 ⟨i,hi,e⟩)
  rcases List.mem_cons.1 hk with rfl | hk
  ·rw [mvL,mv_far d _ ks _ hfar,el_set_any,if_pos ⟨rfl,hl⟩]
  ·rw [mvL,mv_near d ks _ h.2 k hk (by rw [List.length_set]; exact hl),el_set_any,if_neg fun q=>hfar k hk q.1]
theorem mv_cases (S:StepsOf fr tt s m x Q cc l) {y:List Int} (hy:y.length = m) {ks:List Nat} (hk:∀ k ∈ ks,k < l.length) (hn:(ks.map fun k=>(el l k).due.toNat).Nodup) (d:Int):∀ i,i < m→el (mvL l d y ks) i = el y i ∧ (∀ k ∈ ks,(el l k).due.toNat ≠ i) ∨ ∃ k ∈ ks,∃ b,Q i b ∧ el l k = stp fr tt s x cc i b ∧ el (mvL l d y ks) i = el y i + (if b = true then -d else d):=by
 intro i hi
 by_cases c:∀ k ∈ ks,(el l k).due.toNat ≠ i
 ·exact .inl ⟨mv_far d i ks y c,c⟩
 ·obtain ⟨k,c⟩:=Classical.not_forall.1 c
  obtain ⟨h1,h2⟩:=Classical.not_imp.1 c
  have h2:=Classical.not_not.1 h2
  obtain ⟨j,b,hj,hQ,_,ek⟩:=S.sound k (hk k h1)
  have hji:j = i:=by rw [ek] at h2; simpa [stp] using h2
  subst hji
  refine .inr ⟨k,h1,b,hQ,ek,?_⟩
  have:=mv_near d ks y hn k h1 (by rw [h2,hy]; exact hi)
  rw [h2] at this
  rw [this,ek]
  rfl
theorem mv_range {y:List Int} (S:StepsOf fr tt s m (el y) Q cc l) (hy:y.length = m) {ks:List Nat} (hk:∀ k ∈ ks,k < l.length) (hn:(ks.map fun k=>(el l k).due.toNat).Nodup) {d:Int} (hd:0 ≤ d) (hm:∀ k ∈ ks,d ≤ (el l k).most) (h0:∀ i,i < m→0 ≤ el y i ∧ el y i ≤ s i):∀ i,i < m→0 ≤ el (mvL l d y ks) i ∧ el (mvL l d y ks) i ≤ s i:=by
 intro i hi
 have h:=h0 i hi
 rcases mv_cases S hy hk hn d i hi with ⟨e,_⟩ | ⟨k,hkk,b,_,ek,e⟩
 ·rw [e]; exact h
 ·have:=hm k hkk
  rw [ek] at this
  rw [e]
  cases b <;> simp [stp] at this ⊢ <;> omega
theorem mv_cert {y:List Int} (S:StepsOf fr tt s m (el y) Q cc l) (hy:y.length = m) {ks:List Nat} (hk:∀ k ∈ ks,k < l.length) (hn:(ks.map fun k=>(el l k).due.toNat).Nodup) (d:Int) {p:Nat→Int} (hc:Cert fr tt s m (el y) p) (ht:∀ k ∈ ks,∀ i b,Q i b→el l k = stp fr tt s (el y) cc i b→p (if b = true then fr i else tt i) = p (if b = true then tt i else fr i) + ccT b):Cert fr tt s m (el (mvL l d y ks)) p:=by
 intro i hi
 rcases mv_cases S hy hk hn d i hi with ⟨e,_⟩ | ⟨k,hkk,b,hQ,ek,e⟩
 ·rw [e]; exact hc i hi
 ·have:=ht k hkk i b hQ ek
  cases b <;> simp [ccT] at this <;> constructor <;> intro _ <;> omega
end
end Go.Proofs.Ytgipgbhlibafhaa
