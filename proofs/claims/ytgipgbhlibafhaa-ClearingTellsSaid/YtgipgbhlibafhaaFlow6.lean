/- Balancing ends balanced and best; raising ends lexicographically greatest (plain mathematics). -/
import Derived.Test.YtgipgbhlibafhaaFlow5
set_option linter.unusedVariables false
set_option linter.unusedSimpArgs false
namespace Go.Proofs.Ytgipgbhlibafhaa
section
variable {fr tt:Nat→Nat} {s:Nat→Int} {n m:Nat} {l:List Stp} {last:List Int}
def InR (s:Nat→Int) (m:Nat) (x:Nat→Int):Prop:=∀ i,i < m→0 ≤ x i ∧ x i ≤ s i
theorem new_pot {y:List Int} (S:StepsOf fr tt s m (el y) (fun _ _=>True) ccT l) (hf:∀ i,i < m→fr i < n) (ht:∀ i,i < m→tt i < n) {p q:Nat→Int} (hp:Cert fr tt s m (el y) p) {F:Nat→Bool} {R:Nat→Prop} {μ:Nat→Nat} (T:TreeS n l (fun v=>F v = true) R q μ last) :
  ∃ p',Cert fr tt s m (el y) p' ∧ ∀ v,F v = true→p' v = q v:=by
 obtain ⟨B,hB0,hB⟩:=bound_ex p n
 obtain ⟨C,hC0,hC⟩:=bound_ex q n
 refine ⟨fun v=>if F v = true then q v else p v + (B + C + 1),?_,fun v h=>if_pos h⟩
 rw [cert_pot S] at hp ⊢
 intro k hk
 have h1:=hp k hk
 obtain ⟨hs1,hs2⟩:=S.in_ hf ht k hk
 have hcost:-1 ≤ (el l k).cost:=by
  obtain ⟨i,b,_,_,_,e⟩:=S.sound k hk
  rw [e]; cases b <;> simp [stp,ccT]
 show (if F (el l k).dst = true then q (el l k).dst else p (el l k).dst + (B + C + 1)) ≤ (if F (el l k).src = true then q (el l k).src else p (el l k).src + (B + C + 1)) + (el l k).cost
 by_cases c:F (el l k).src = true
 ·obtain ⟨q1,q2⟩:=T.closed k hk c
  rw [if_pos c,if_pos q1]
  exact q2
 ·rw [if_neg c]
  by_cases c2:F (el l k).dst = true
  ·rw [if_pos c2]
   have:=(hB _ hs1).2
   have:=(hC _ hs2).1
   omega
  ·rw [if_neg c2]
   omega
theorem balance_move {y:List Int} (hy:y.length = m) (S:StepsOf fr tt s m (el y) (fun _ _=>True) ccT l) (hf:∀ i,i < m→fr i < n) (ht:∀ i,i < m→tt i < n) (hr:InR s m (el y)) {p q:Nat→Int} (hp:Cert fr tt s m (el y) p) {F:Nat→Bool} {R:Nat→Prop} {μ:Nat→Nat} (T:TreeS n l (fun v=>F v = true) R q μ last)
  {v u:Nat} {ks:List Nat} (w:Pth l last v ks u) (hk:∀ k ∈ ks,k < l.length ∧ F (el l k).src = true ∧ F (el l k).dst = true ∧ μ (el l k).src < μ (el l k).dst ∧ q (el l k).dst = q (el l k).src + (el l k).cost) {d:Int} (hd:0 ≤ d) (hm:∀ k ∈ ks,d ≤ (el l k).most) :
  (mvL l d y ks).length = m ∧ InR s m (el (mvL l d y ks)) ∧ (∃ p',Cert fr tt s m (el (mvL l d y ks)) p') ∧ ∀ z,netF fr tt m (el (mvL l d y ks)) z = netF fr tt m (el y) z + (if v = z then d else 0) - (if u = z then d else 0):=by
 obtain ⟨_,hnd⟩:=w.dues S (μ:=μ) fun k h=>⟨(hk k h).1,(hk k h).2.2.2.1⟩
 obtain ⟨p',h1,h2⟩:=new_pot S hf ht hp T
 refine ⟨by rw [mvL_len,hy],mv_range S hy (fun k h=>(hk k h).1) hnd hd hm hr,⟨p',mv_cert S hy (fun k h=>(hk k h).1) hnd d h1 fun k h i b _ e=>?_⟩,fun z=>mv_net S w d z y hy⟩
 obtain ⟨_,q1,q2,_,q3⟩:=hk k h
 rw [← h2 _ q1,← h2 _ q2,e,stp_src,stp_dst] at q3
 exact q3
theorem balance_end {x:Nat→Int} (S:StepsOf fr tt s m x (fun _ _=>True) ccT l) (hf:∀ i,i < m→fr i < n) (ht:∀ i,i < m→tt i < n) (hr:InR s m x) {q:Nat→Int} {F:Nat→Bool} {μ:Nat→Nat} (T:TreeS n l (fun v=>F v = true) (fun v=>0 < netF fr tt m x v) q μ last)
  (he:∀ v,v < n→netF fr tt m x v < 0→F v = false):Bald fr tt s n m x:=by
 have h1:=net_pot hf ht x fun v=>if F v = true then 1 else 0
 have hR:sumN (fun i=>x i * ((if F (tt i) = true then 1 else 0) - (if F (fr i) = true then 1 else 0))) m ≤ 0:=by
  refine Int.le_trans (sumN_le (h:=fun _=>0) fun i hi=>?_) (Int.le_of_eq (sumN_zero m))
  have h0:=(hr i hi).1
  by_cases c:F (tt i) = true
  ·by_cases c2:F (fr i) = true
   ·rw [if_pos c,if_pos c2]; simp
   ·have:x i = 0:=by
     refine Classical.byContradiction fun hx=>c2 ?_
     obtain ⟨k,hk,e⟩:=S.all i true hi trivial (by simp [stp]; omega)
     have:=(T.closed k hk (by rw [e,stp_src]; simpa using c)).1
     rw [e,stp_dst] at this
     simpa using this
    rw [this]; simp
  ·rw [if_neg c]
   split
   ·simp; omega
   ·simp
 have hpos:∀ v,v < n→0 ≤ (if F v = true then 1 else 0) * netF fr tt m x v:=by
  intro v hv
  split
  ·rename_i c
   have:¬ netF fr tt m x v < 0:=fun q=>by rw [he v hv q] at c; cases c
   omega
  ·omega
 have hle:∀ v,v < n→netF fr tt m x v ≤ 0:=by
  intro v hv
  refine Classical.byContradiction fun c=>?_
  have c:0 < netF fr tt m x v:=by omega
  have:=sumN_term hpos v hv
  rw [if_pos (T.root v hv c)] at this
  rw [h1] at this
  omega
 refine ⟨fun i hi=>(hr i hi).1,fun i hi=>(hr i hi).2,?_⟩
 refine sumN_all_zero hle ?_
 have h2:=net_pot hf ht x fun _=>1
 rw [sumN_congr (h:=fun v=>netF fr tt m x v) fun v _=>by omega] at h2
 rw [h2,sumN_congr (h:=fun _=>0) fun i _=>by simp,sumN_zero]
 exact Int.le_refl _
def LexAt (fr tt:Nat→Nat) (s:Nat→Int) (n m:Nat) (x:Nat→Int) (i:Nat):Prop:=∀ y,Bald fr tt s n m y→sumN x m ≤ sumN y m→(∀ j,j < i→y j = x j)→y i ≤ x i
def Tight (fr tt:Nat→Nat) (p:Nat→Int) (i:Nat) (j:Nat) (b:Bool):Prop:=i < j ∧ p (if b = true then fr j else tt j) = p (if b = true then tt j else fr j) + ccT b
theorem raise_move {y:List Int} (hy:y.length = m) {p:Nat→Int} {i:Nat} (hi:i < m) (S:StepsOf fr tt s m (el y) (Tight fr tt p i) (fun _=>0) l) (hB:Bald fr tt s n m (el y)) (hc:Cert fr tt s m (el y) p) (hp:p (tt i) = p (fr i) - 1) {μ:Nat→Nat}
  {ks:List Nat} (w:Pth l last (fr i) ks (tt i)) (hk:∀ k ∈ ks,k < l.length ∧ μ (el l k).src < μ (el l k).dst) {d:Int} (hd:0 ≤ d) (hm:∀ k ∈ ks,d ≤ (el l k).most) (hdi:d ≤ s i - el y i) :
  let z:=(mvL l d y ks).set i (el (mvL l d y ks) i + d)
  el (mvL l d y ks) i = el y i ∧ z.length = m ∧ Bald fr tt s n m (el z) ∧ Cert fr tt s m (el z) p ∧ (∀ j,j < i→el z j = el y j) ∧ el z i = el y i + d:=by
 intro z
 obtain ⟨_,hnd⟩:=w.dues S (μ:=μ) hk
 have hr:=mv_range S hy (fun k h=>(hk k h).1) hnd hd hm fun j hj=>⟨hB.lo j hj,hB.hi j hj⟩
 have hc':=mv_cert S hy (fun k h=>(hk k h).1) hnd d hc fun k h j b hQ e=>hQ.2
 have hlen:(mvL l d y ks).length = m:=by rw [mvL_len,hy]
 have hbefore:∀ j,j ≤ i→el (mvL l d y ks) j = el y j:=by
  intro j hj
  refine mv_far d j ks y fun k h e=>?_
  obtain ⟨j',b,_,hQ,_,ek⟩:=S.sound k (hk k h).1
  rw [ek] at e
  have:j' = j:=by simpa [stp] using e
  have:=hQ.1
  omega
 have hz:∀ j,el z j = if j = i then el y i + d else el (mvL l d y ks) j:=by
  intro j
  show el ((mvL l d y ks).set i _) j = _
  rw [el_set_any]
  by_cases e:j = i
  ·rw [if_pos ⟨e,by omega⟩,if_pos e,hbefore i (Nat.le_refl _)]
  ·rw [if_neg fun q=>e q.1,if_neg e]
 have hyi:=hB.lo i hi
 refine ⟨hbefore i (Nat.le_refl _),by show ((mvL l d y ks).set i _).length = m; rw [List.length_set,hlen],⟨fun j hj=>?_,fun j hj=>?_,fun v hv=>?_⟩,fun j hj=>?_,fun j hj=>?_,?_⟩
 ·rw [hz]; split
  ·omega
  ·exact (hr j hj).1
 ·rw [hz]; split
  ·rename_i e; subst e; omega
  ·exact (hr j hj).2
 ·show netF fr tt m (el ((mvL l d y ks).set i _)) v = 0
  rw [netF_set hi hlen,mv_net S w d v y hy,hB.net v hv]
  split <;> split <;> omega
 ·rw [hz]
  split
  ·rename_i e; subst e
   exact ⟨fun _=>by omega,fun _=>by omega⟩
  ·exact hc' j hj
 ·rw [hz,if_neg (by omega)]; exact hbefore j (by omega)
 ·rw [hz,if_pos rfl]
theorem raise_end {x:Nat→Int} {p:Nat→Int} {i:Nat} (hi:i < m) (hf:∀ i,i < m→fr i < n) (ht:∀ i,i < m→tt i < n) (hB:Bald fr tt s n m x) (hc:Cert fr tt s m x p) (S:StepsOf fr tt s m x (Tight fr tt p i) (fun _=>0) l) {F:Nat→Bool} (hcl:∀ k,k < l.length→F (el l k).src = true→F (el l k).dst = true) (h1:F (tt i) = true) (h2:F (fr i) = false):LexAt fr tt s n m x i:=by
 intro y hy hs hj
 refine Classical.byContradiction fun c=>?_
 have c:x i < y i:=by omega
 have hti:=cert_tight hf ht hB hy hc hs
 have hx0:=bald_pot hf ht hB.net fun v=>if F v = true then 1 else 0
 have hy0:=bald_pot hf ht hy.net fun v=>if F v = true then 1 else 0
 have h0:sumN (fun j=>(y j - x j) * ((if F (tt j) = true then 1 else 0) - (if F (fr j) = true then 1 else 0))) m = 0:=by
  rw [sumN_congr (h:=fun j=>y j * ((if F (tt j) = true then 1 else 0) - (if F (fr j) = true then 1 else 0)) - x j * ((if F (tt j) = true then 1 else 0) - (if F (fr j) = true then 1 else 0))) fun j _=>by rw [Int.sub_mul],sumN_sub,hx0,hy0]
  rfl
 have hpos:∀ j,j < m→0 ≤ (y j - x j) * ((if F (tt j) = true then 1 else 0) - (if F (fr j) = true then 1 else 0)):=by
  intro j hjm
  by_cases e:y j = x j
  ·rw [e]; simp
  ·have hij:i ≤ j:=by
    refine Classical.byContradiction fun q=>e (hj j (by omega))
   by_cases e2:j = i
   ·subst e2
    rw [h1,h2]; simp; omega
   ·have hp:=hti j hjm e
    have a1:=hy.lo j hjm
    have a2:=hy.hi j hjm
    by_cases c1:F (tt j) = true
    ·by_cases c2:F (fr j) = true
     ·rw [if_pos c1,if_pos c2]; simp
     ·rw [if_pos c1,if_neg c2]
      rcases (by omega:x j ≤ y j ∨ y j < x j) with q | q
      ·simp; omega
      ·exfalso
       obtain ⟨k,hk,ek⟩:=S.all j true hjm ⟨by omega,by simp [ccT]; omega⟩ (by simp [stp]; omega)
       have:=hcl k hk (by rw [ek,stp_src]; simpa using c1)
       rw [ek,stp_dst] at this
       exact c2 (by simpa using this)
    ·by_cases c2:F (fr j) = true
     ·rw [if_neg c1,if_pos c2]
      rcases (by omega:y j ≤ x j ∨ x j < y j) with q | q
      ·simp; omega
      ·exfalso
       obtain ⟨k,hk,ek⟩:=S.all j false hjm ⟨by omega,by simp [ccT]; omega⟩ (by simp [stp]; omega)
       have:=hcl k hk (by rw [ek,stp_src]; simpa using c2)
       rw [ek,stp_dst] at this
       exact c1 (by simpa using this)
     ·rw [if_neg c1,if_neg c2]; simp
 have:=sumN_term hpos i hi
 rw [h0] at this
 simp only [h1,h2,if_true,Bool.false_eq_true,if_false] at this
 omega
theorem raise_full {x:Nat→Int} {i:Nat} (hi:i < m) (h:s i ≤ x i):LexAt fr tt s n m x i:=fun y hy _ _=>by have:=hy.hi i hi; omega
theorem raise_slack {x:Nat→Int} {p:Nat→Int} {i:Nat} (hi:i < m) (hf:∀ i,i < m→fr i < n) (ht:∀ i,i < m→tt i < n) (hB:Bald fr tt s n m x) (hc:Cert fr tt s m x p) (h:p (tt i) ≠ p (fr i) - 1):LexAt fr tt s n m x i:=fun y hy hs _=>by
 have:=cert_tight hf ht hB hy hc hs i hi
 refine Classical.byContradiction fun c=>h (this ?_)
 omega
theorem LexAt.keep {x x' : Nat→Int} {i:Nat} (h:LexAt fr tt s n m x i) (he:∀ j,j ≤ i→x' j = x j) (hs:sumN x m ≤ sumN x' m):LexAt fr tt s n m x' i:=fun y hy hl hj=>by
 rw [he i (Nat.le_refl _)]
 exact h y hy (by omega) fun j hji=>by rw [hj j hji,he j (by omega)]
theorem lex_one {x y:Nat→Int} (hx:Bald fr tt s n m x) (hy:Bald fr tt s n m y) (hs:sumN x m = sumN y m) (h1:∀ i,i < m→LexAt fr tt s n m x i) (h2:∀ i,i < m→LexAt fr tt s n m y i):∀ i,i < m→x i = y i:=by
 intro i
 induction i using Nat.strongRecOn with
 | ind i ih =>
  intro hi
  have a:=h1 i hi y hy (by omega) fun j hj=>(ih j hj (by omega)).symm
  have b:=h2 i hi x hx (by omega) fun j hj=>ih j hj (by omega)
  omega
end
end Go.Proofs.Ytgipgbhlibafhaa
