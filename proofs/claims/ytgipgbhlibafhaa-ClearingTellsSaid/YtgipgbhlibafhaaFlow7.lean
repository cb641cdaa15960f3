/- Moving a sum along a due and a way back (plain mathematics). -/
import Derived.Test.YtgipgbhlibafhaaFlow6
set_option linter.unusedVariables false
set_option linter.unusedSimpArgs false
namespace Go.Proofs.Ytgipgbhlibafhaa
theorem ext_elF {α:Type} [Inhabited α] {a b:List α} (h:a.length = b.length) (he:∀ i,i < a.length→el a i = el b i):a = b:=by
 apply List.ext_getElem h
 intro i h1 h2
 have:=he i h1
 simpa [el,h1,h2] using this
section
variable {fr tt:Nat→Nat} {s:Nat→Int} {n m:Nat} {l:List Stp} {last:List Int} {Q:Nat→Bool→Prop} {cc:Bool→Int}
theorem certMv {x:Nat→Int} {y:List Int} (S:StepsOf fr tt s m x Q cc l) (hy:y.length = m) {ks:List Nat} (hk:∀ k ∈ ks,k < l.length) (hn:(ks.map fun k=>(el l k).due.toNat).Nodup) (d:Int) {t:Nat} (htm:t ≤ m) {p:Nat→Int} (hc:Cert fr tt s t (el y) p) (ht:∀ k ∈ ks,∀ i b,Q i b→el l k = stp fr tt s x cc i b→p (if b = true then fr i else tt i) = p (if b = true then tt i else fr i) + ccT b):Cert fr tt s t (el (mvL l d y ks)) p:=by
 intro i hi
 rcases mv_cases S hy hk hn d i (by omega) with ⟨e,_⟩ | ⟨k,hkk,b,hQ,ek,e⟩
 ·rw [e]; exact hc i hi
 ·have:=ht k hkk i b hQ ek
  cases b <;> simp [ccT] at this <;> constructor <;> intro _ <;> omega
theorem cyc_move {y:List Int} (hy:y.length = m) {a:Nat} (ha:a < m) (S:StepsOf fr tt s m (el y) Q cc l) (hQ:∀ i b,Q i b→i ≠ a) (hB:Bald fr tt s n m (el y)) {μ:Nat→Nat} {ks:List Nat} (w:Pth l last (fr a) ks (tt a)) (hk:∀ k ∈ ks,k < l.length ∧ μ (el l k).src < μ (el l k).dst) {d:Int} (hd:0 ≤ d) (hm:∀ k ∈ ks,d ≤ (el l k).most) (hda:d ≤ s a - el y a) :
  (ks.map fun k=>(el l k).due.toNat).Nodup ∧ el (mvL l d y ks) a = el y a ∧ ((mvL l d y ks).set a (el y a + d)).length = m ∧ Bald fr tt s n m (el ((mvL l d y ks).set a (el y a + d))) ∧ (∀ j,j ≠ a→el ((mvL l d y ks).set a (el y a + d)) j = el (mvL l d y ks) j) ∧ (∀ j,(∀ b,¬ Q j b)→el (mvL l d y ks) j = el y j) ∧ el ((mvL l d y ks).set a (el y a + d)) a = el y a + d:=by
 obtain ⟨_,hnd⟩:=w.dues S (μ:=μ) hk
 have hr:=mv_range S hy (fun k h=>(hk k h).1) hnd hd hm fun j hj=>⟨hB.lo j hj,hB.hi j hj⟩
 have hlen:(mvL l d y ks).length = m:=by rw [mvL_len,hy]
 have hother:∀ j,(∀ b,¬ Q j b)→el (mvL l d y ks) j = el y j:=by
  intro j hj
  refine mv_far d j ks y fun k h e=>?_
  obtain ⟨j',b,_,hQ',_,ek⟩:=S.sound k (hk k h).1
  rw [ek] at e
  have:j' = j:=by simpa [stp] using e
  subst this
  exact hj b hQ'
 have hea:el (mvL l d y ks) a = el y a:=hother a fun b q=>hQ a b q rfl
 have hz:∀ j,el ((mvL l d y ks).set a (el y a + d)) j = if j = a then el y a + d else el (mvL l d y ks) j:=by
  intro j
  rw [el_set_any]
  by_cases e:j = a
  ·rw [if_pos ⟨e,by omega⟩,if_pos e]
  ·rw [if_neg fun q=>e q.1,if_neg e]
 have hya:=hB.lo a ha
 refine ⟨hnd,hea,by rw [List.length_set,hlen],⟨fun j hj=>?_,fun j hj=>?_,fun v hv=>?_⟩,fun j hj=>by rw [hz,if_neg hj],hother,by rw [hz,if_pos rfl]⟩
 ·rw [hz]; split
  ·omega
  ·exact (hr j hj).1
 ·rw [hz]; split
  ·rename_i e; subst e; omega
  ·exact (hr j hj).2
 ·rw [netF_set ha hlen,mv_net S w d v y hy,hB.net v hv,hea]
  split <;> split <;> omega
theorem mvL_snoc (d:Int) (k:Nat):∀ (ks:List Nat) (y:List Int),mvL l d y (ks ++ [k]) = (mvL l d y ks).set (el l k).due.toNat (el (mvL l d y ks) (el l k).due.toNat + sgS (el l k) d)
 | [],y=>rfl
 | j :: ks,y=>by
  rw [List.cons_append,mvL,mvL_snoc d k ks]
  rfl
theorem revMv (d:Int) {ks:List Nat} (hn:(ks.map fun k=>(el l k).due.toNat).Nodup) {y:List Int} (hk:∀ k ∈ ks,(el l k).due.toNat < y.length):mvL l d y ks.reverse = mvL l d y ks:=by
 have hn' : (ks.reverse.map fun k=>(el l k).due.toNat).Nodup:=by rw [List.map_reverse]; exact ((List.reverse_perm _).nodup_iff).2 hn
 refine ext_elF (by rw [mvL_len,mvL_len]) fun i _=>?_
 by_cases c:∀ k ∈ ks,(el l k).due.toNat ≠ i
 ·rw [mv_far d i ks y c,mv_far d i ks.reverse y fun k h=>c k (List.mem_reverse.1 h)]
 ·obtain ⟨k,c⟩:=Classical.not_forall.1 c
  obtain ⟨h1,h2⟩:=Classical.not_imp.1 c
  have h2:=Classical.not_not.1 h2
  subst h2
  rw [mv_near d ks y hn k h1 (hk k h1),mv_near d ks.reverse y hn' k (List.mem_reverse.2 h1) (hk k h1)]
end
section
variable {fr tt:Nat→Nat} {s:Nat→Int} {n m:Nat} {l:List Stp} {last:List Int}
theorem new_pot2 {y:Nat→Int} (S:StepsOf fr tt s m y (fun _ _=>True) ccT l) (hf:∀ i,i < m→fr i < n) (ht:∀ i,i < m→tt i < n) {p q:Nat→Int} (hp:Cert fr tt s m y p) {F:Nat→Bool} {R:Nat→Prop} {μ:Nat→Nat} (T:TreeS n l (fun v=>F v = true) R q μ last) (N:Int) :
  ∃ p',Cert fr tt s m y p' ∧ (∀ v,F v = true→p' v = q v) ∧ ∀ v,v < n→F v = false→N ≤ p' v:=by
 obtain ⟨B,hB0,hB⟩:=bound_ex p n
 obtain ⟨C,hC0,hC⟩:=bound_ex q n
 refine ⟨fun v=>if F v = true then q v else p v + (B + C + 1 + N.natAbs),?_,fun v h=>if_pos h,fun v hv h=>?_⟩
 ·rw [cert_pot S] at hp ⊢
  intro k hk
  have h1:=hp k hk
  obtain ⟨hs1,hs2⟩:=S.in_ hf ht k hk
  have hcost:-1 ≤ (el l k).cost:=by
   obtain ⟨i,b,_,_,_,e⟩:=S.sound k hk
   rw [e]; cases b <;> simp [stp,ccT]
  show (if F (el l k).dst = true then q (el l k).dst else p (el l k).dst + (B + C + 1 + N.natAbs)) ≤ (if F (el l k).src = true then q (el l k).src else p (el l k).src + (B + C + 1 + N.natAbs)) + (el l k).cost
  by_cases c:F (el l k).src = true
  ·obtain ⟨q1,q2⟩:=T.closed k hk c
   rw [if_pos c,if_pos q1]
   exact q2
  ·rw [if_neg c]
   by_cases c2:F (el l k).dst = true
   ·rw [if_pos c2]
    have:=(hB _ hs1).2
    have:=(hC _ hs2).1
    omega
   ·rw [if_neg c2]
    omega
 ·show N ≤ if F v = true then q v else p v + (B + C + 1 + N.natAbs)
  rw [h,if_neg (by decide)]
  have:=(hB v hv).2
  omega
theorem Cert.min {x p p' : Nat→Int} (h:Cert fr tt s m x p) (h' : Cert fr tt s m x p'):Cert fr tt s m x fun v=>if p v ≤ p' v then p v else p' v:=by
 intro i hi
 obtain ⟨a,b⟩:=h i hi
 obtain ⟨a',b'⟩:=h' i hi
 refine ⟨fun c=>?_,fun c=>?_⟩
 ·have:=a c
  have:=a' c
  dsimp only
  split <;> split <;> omega
 ·have:=b c
  have:=b' c
  dsimp only
  split <;> split <;> omega
theorem Cert.shift {x p:Nat→Int} (h:Cert fr tt s m x p) (K:Int):Cert fr tt s m x fun v=>p v + K:=fun i hi=>⟨fun c=>by have:=(h i hi).1 c; dsimp only; omega,fun c=>by have:=(h i hi).2 c; dsimp only; omega⟩
theorem Cert.succ {x p:Nat→Int} (h:Cert fr tt s m x p) (h1:x m < s m→p (tt m) ≤ p (fr m) - 1) (h2:0 < x m→p (fr m) ≤ p (tt m) + 1):Cert fr tt s (m + 1) x p:=by
 intro i hi
 by_cases e:i = m
 ·subst e; exact ⟨h1,h2⟩
 ·exact h i (by omega)
theorem Cert.join {x p p' : Nat→Int} (h:Cert fr tt s m x p) (h' : Cert fr tt s m x p') (hn:p (tt m) ≤ p (fr m) - 1) (ho:p' (fr m) ≤ p' (tt m)):∃ p'',Cert fr tt s (m + 1) x p'':=by
 refine ⟨_,(h.min (h'.shift (p (tt m) + 1 - p' (fr m)))).succ (fun _=>?_) fun _=>?_⟩
 ·split <;> split <;> omega
 ·split <;> split <;> omega
theorem Pth.along {p q:Nat→Int} (hp:Pot Stp.src Stp.dst Stp.cost l p) {v u:Nat} {ks:List Nat} (w:Pth l last v ks u) (hk:∀ k ∈ ks,k < l.length ∧ q (el l k).dst = q (el l k).src + (el l k).cost):q u - p u ≤ q v - p v ∧ ∀ k ∈ ks,q u - p u ≤ q (el l k).src - p (el l k).src ∧ q (el l k).dst - p (el l k).dst ≤ q v - p v:=by
 induction w with
 | nil v hv=>exact ⟨Int.le_refl _,fun k hk=>by cases hk⟩
 | @cons v k u ks hk' hlv hd w ih =>
  obtain ⟨i1,i2⟩:=ih fun k hk''=>hk k (List.mem_cons_of_mem _ hk'')
  have h1:=hk k (List.mem_cons_self ..)
  have h2:=hp k hk'
  rw [hd] at h1 h2
  refine ⟨by omega,fun j hj=>?_⟩
  rcases List.mem_cons.1 hj with rfl | hj
  ·rw [hd]; exact ⟨by omega,Int.le_refl _⟩
  ·have:=i2 j hj
   exact ⟨this.1,by omega⟩
theorem raise_endQ {x:Nat→Int} {p:Nat→Int} {i:Nat} (hi:i < m) (hf:∀ i,i < m→fr i < n) (ht:∀ i,i < m→tt i < n) (hB:Bald fr tt s n m x) (hc:Cert fr tt s m x p) {F:Nat→Bool} (hcl:∀ j b,j < m→Tight fr tt p i j b→0 < (stp fr tt s x ccT j b).most→F (if b = true then tt j else fr j) = true→F (if b = true then fr j else tt j) = true) (h1:F (tt i) = true) (h2:F (fr i) = false):LexAt fr tt s n m x i:=by
 intro y hy hs hj
 refine Classical.byContradiction fun c=>?_
 have c:x i < y i:=by omega
 have hti:=cert_tight hf ht hB hy hc hs
 have hx0:=bald_pot hf ht hB.net fun v=>if F v = true then 1 else 0
 have hy0:=bald_pot hf ht hy.net fun v=>if F v = true then 1 else 0
 have h0:sumN (fun j=>(y j - x j) * ((if F (tt j) = true then 1 else 0) - (if F (fr j) = true then 1 else 0))) m = 0:=by
  rw [sumN_congr (h:=fun j=>y j * ((if F (tt j) = true then 1 else 0) - (if F (fr j) = true then 1 else 0)) - x j * ((if F (tt j) = true then 1 else 0) - (if F (fr j) = true then 1 else 0))) fun j _=>by rw [Int.sub_mul],sumN_sub,hx0,hy0]
  rfl
 have hpos:∀ j,j < m→0 ≤ (y j - x j) * ((if F (tt j) = true then 1 else 0) - (if F (fr j) = true then 1 else 0)):=by
  intro j hjm
  by_cases e:y j = x j
  ·rw [e]; simp
  ·have hij:i ≤ j:=by
    refine Classical.byContradiction fun q=>e (hj j (by omega))
   by_cases e2:j = i
   ·subst e2
    rw [h1,h2]; simp; omega
   ·have hp:=hti j hjm e
    have a1:=hy.lo j hjm
    have a2:=hy.hi j hjm
    by_cases c1:F (tt j) = true
    ·by_cases c2:F (fr j) = true
     ·rw [if_pos c1,if_pos c2]; simp
     ·rw [if_pos c1,if_neg c2]
      rcases (by omega:x j ≤ y j ∨ y j < x j) with q | q
      ·simp; omega
      ·exfalso
       have:=hcl j true hjm ⟨by omega,by simp [ccT]; omega⟩ (by simp [stp]; omega) (by simpa using c1)
       exact c2 (by simpa using this)
    ·by_cases c2:F (fr j) = true
     ·rw [if_neg c1,if_pos c2]
      rcases (by omega:y j ≤ x j ∨ x j < y j) with q | q
      ·simp; omega
      ·exfalso
       have:=hcl j false hjm ⟨by omega,by simp [ccT]; omega⟩ (by simp [stp]; omega) (by simpa using c2)
       exact c1 (by simpa using this)
     ·rw [if_neg c1,if_neg c2]; simp
 have:=sumN_term hpos i hi
 rw [h0] at this
 simp only [h1,h2,if_true,Bool.false_eq_true,if_false] at this
 omega
end
end Go.Proofs.Ytgipgbhlibafhaa
