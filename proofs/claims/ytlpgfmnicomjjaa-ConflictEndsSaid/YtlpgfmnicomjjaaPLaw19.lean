/- The laws of layer 19, as plain laws. -/
import Derived.Test.YtlpgfmnicomjjaaPConflict
set_option linter.unusedVariables false
set_option linter.unusedSimpArgs false
namespace Go.Proofs.Ytlpgfmnicomjjaa
open Go.RowKit Vm
theorem byOk_of (r:GRealm) (f:FewL r) (h:RightR r):ByOk r:=fun i hi=>⟨(f.orderL i hi).1,(h.orders.2 i hi).by_⟩
section
variable {L L' : Int→Int × Bool} {acc acc' : Int→Bool}
theorem lawR_prefix:∀ (k:Nat) (p:List Int),∃ q,(lawR L acc k p).2 = p ++ q
 | 0,p=>⟨[],by simp [lawR]⟩
 | k + 1,p=>by
  simp only [lawR]
  split
  ·exact ⟨[],by simp⟩
  split
  ·exact ⟨_,rfl⟩
  split
  ·split <;> exact ⟨_,rfl⟩
  ·obtain ⟨q,hq⟩:=lawR_prefix k (p ++ [(L (el p (p.length - 1))).1])
   exact ⟨_,by rw [hq,List.append_assoc]⟩
theorem last_mem {p:List Int} (h:p ≠ []):el p (p.length - 1) ∈ p:=by
 have:0 < p.length:=by cases p with
  | nil=>exact absurd rfl h
  | cons x l=>simp
 exact el_mem p _ (by omega)
theorem el_app_lt (p q:List Int) (i:Nat) (h:i < p.length):el (p ++ q) i = el p i:=by
 rw [el_lt _ _ (by simp; omega),el_lt _ _ h,List.getElem_append_left h]
theorem el_app_eq (p:List Int) (x:Int):el (p ++ [x]) p.length = x:=by
 rw [el_lt _ _ (by simp),List.getElem_append_right (by omega)]
 simp
structure Cont (L:Int→Int × Bool) (n:Nat) (p:List Int):Prop where
 ne:p ≠ []
 nd:p.Nodup
 inn:∀ x ∈ p,0 ≤ x ∧ x < (n:Int)
 ch:∀ i,i + 1 < p.length→L (el p i) = (el p (i + 1),true)
structure PathOk (L:Int→Int × Bool) (n:Nat) (q:List Int):Prop where
 len:0 < q.length ∧ q.length ≤ n + 1
 inn:∀ x ∈ q,0 ≤ x ∧ x < (n:Int)
 new:∀ i j,i + 1 < q.length→j < i→el q j ≠ el q i
 ch:∀ i,i + 1 < q.length→(L (el q i)).1 = el q (i + 1) ∧ (L (el q i)).1 ≠ el q i
 whole:∀ i,i + 2 < q.length→(L (el q i)).2 = true
 one:q.length = 1→(L (el q 0)).1 = el q 0
theorem el_inj {p:List Int} (h:p.Nodup) {i j:Nat} (hi:i < p.length) (hj:j < p.length) (e:el p i = el p j):i = j:=by
 rw [el_lt p i hi,el_lt p j hj] at e
 exact (List.getElem_inj h).1 e
theorem Cont.stop {n:Nat} {p:List Int} (c:Cont L n p) (hn:p.length ≤ n) (h:(L (el p (p.length - 1))).1 = el p (p.length - 1)):PathOk L n p:=by
 have hl:0 < p.length:=by
  have:=c.ne
  cases p with
  | nil=>exact absurd rfl this
  | cons x l=>simp
 refine ⟨⟨hl,by omega⟩,c.inn,fun i j hi hj e=>?_,fun i hi=>?_,fun i hi=>by rw [c.ch i (by omega)],fun h1=>by simpa [h1] using h⟩
 ·have:=el_inj c.nd (by omega) (by omega) e; omega
 ·rw [c.ch i hi]
  exact ⟨rfl,fun e=>by have:=el_inj c.nd (by omega) (by omega) e; omega⟩
theorem Cont.last {n:Nat} {p:List Int} (c:Cont L n p) (hn:p.length ≤ n) (h:(L (el p (p.length - 1))).1 ≠ el p (p.length - 1)) (hx:0 ≤ (L (el p (p.length - 1))).1 ∧ (L (el p (p.length - 1))).1 < (n:Int)):PathOk L n (p ++ [(L (el p (p.length - 1))).1]):=by
 have hl:0 < p.length:=by
  have:=c.ne
  cases p with
  | nil=>exact absurd rfl this
  | cons x l=>simp
 have hlen:(p ++ [(L (el p (p.length - 1))).1]).length = p.length + 1:=by simp
 refine ⟨⟨by omega,by omega⟩,fun x hx'=>?_,fun i j hi hj e=>?_,fun i hi=>?_,fun i hi=>?_,fun h1=>by omega⟩
 ·rcases List.mem_append.1 hx' with q | q
  ·exact c.inn x q
  ·simp at q; subst q; exact hx
 ·rw [hlen] at hi
  rw [el_app_lt _ _ _ (by omega),el_app_lt _ _ _ (by omega)] at e
  have:=el_inj c.nd (by omega) (by omega) e; omega
 ·rw [hlen] at hi
  rw [el_app_lt _ _ _ (by omega)]
  by_cases hi' : i + 1 < p.length
  ·rw [el_app_lt _ _ _ hi',c.ch i hi']
   exact ⟨rfl,fun e=>by have:=el_inj c.nd (by omega) (by omega) e; omega⟩
  ·obtain rfl:i = p.length - 1:=by omega
   rw [show p.length - 1 + 1 = p.length by omega,el_app_eq]
   exact ⟨rfl,h⟩
 ·rw [hlen] at hi
  rw [el_app_lt _ _ _ (by omega),c.ch i (by omega)]
theorem Cont.go {n:Nat} {p:List Int} (c:Cont L n p) (h2:(L (el p (p.length - 1))).2 ≠ false) (h3:(L (el p (p.length - 1))).1 ∉ p) (hx:0 ≤ (L (el p (p.length - 1))).1 ∧ (L (el p (p.length - 1))).1 < (n:Int)):Cont L n (p ++ [(L (el p (p.length - 1))).1]):=by
 have hl:0 < p.length:=by
  have:=c.ne
  cases p with
  | nil=>exact absurd rfl this
  | cons x l=>simp
 refine ⟨by simp,?_,fun x hx'=>?_,fun i hi=>?_⟩
 ·rw [List.nodup_append]
  exact ⟨c.nd,by simp,fun x hx y hy=>by simp at hy; subst hy; exact fun e=>h3 (e ▸ hx)⟩
 ·rcases List.mem_append.1 hx' with q | q
  ·exact c.inn x q
  ·simp at q; subst q; exact hx
 ·simp only [List.length_append,List.length_singleton] at hi
  rw [el_app_lt _ _ _ (by omega)]
  by_cases hi' : i + 1 < p.length
  ·rw [el_app_lt _ _ _ hi',c.ch i hi']
  ·obtain rfl:i = p.length - 1:=by omega
   rw [show p.length - 1 + 1 = p.length by omega,el_app_eq]
   generalize L (el p (p.length - 1)) = z at h2
   obtain ⟨a,b⟩:=z
   cases b with
   | false=>exact absurd rfl h2
   | true=>rfl
theorem lawR_ok {n:Nat} (hL:∀ x,0 ≤ x→x < (n:Int)→0 ≤ (L x).1 ∧ (L x).1 < (n:Int)):∀ (k:Nat) (p:List Int),Cont L n p→n + 1 = p.length + k →
  PathOk L n (lawR L acc k p).2 ∧ ((lawR L acc k p).1 = 0 ∨ (lawR L acc k p).1 = 12 ∧ ∃ x,0 ≤ x ∧ x < (n:Int) ∧ acc x = false)
 | 0,p,c,hk=>by
  have:=nodup_le n p c.nd c.inn
  omega
 | k + 1,p,c,hk=>by
  have hle:=nodup_le n p c.nd c.inn
  have hm:=c.inn _ (last_mem c.ne)
  have hx:=hL _ hm.1 hm.2
  simp only [lawR]
  split
  ·rename_i h1; exact ⟨c.stop hle h1,.inl rfl⟩
  rename_i h1
  split
  ·exact ⟨c.last hle h1 hx,.inl rfl⟩
  rename_i h2
  split
  ·split
   ·exact ⟨c.last hle h1 hx,.inl rfl⟩
   ·rename_i h4; exact ⟨c.last hle h1 hx,.inr ⟨rfl,_,hx.1,hx.2,by simpa using h4⟩⟩
  ·rename_i h3
   exact lawR_ok hL k _ (c.go h2 h3 hx) (by simp; omega)
end
theorem cont_one (L:Int→Int × Bool) (n:Nat) (x:Int) (h:0 ≤ x ∧ x < (n:Int)):Cont L n [x]:=⟨by simp,by simp,fun y hy=>by simp at hy; subst hy; exact h,fun i hi=>by simp at hi⟩
theorem law_spec (r:GRealm) (forum ask:Int) (pl:List Int) (hb:ByOk r) (hn:r.Orders.length < 50) (hf:FineQ r forum ask pl) :
  PathOk (leadOf r ask pl) r.Orders.length (lawOf r forum ask pl).2 ∧ ((lawOf r forum ask pl).1 = 0 ∨ (lawOf r forum ask pl).1 = 12 ∧ ∃ x,0 ≤ x ∧ x < (r.Orders.length:Int) ∧ accOf r x = false) ∧ ∃ q,(lawOf r forum ask pl).2 = [forum] ++ q:=by
 have h:=lawR_ok (L:=leadOf r ask pl) (acc:=accOf r) (n:=r.Orders.length) (fun x h1 h2=>leadOf_in r x ask pl hb ⟨h1,h2,hf.2.2⟩) r.Orders.length [forum] (cont_one _ _ _ ⟨hf.1,hf.2.1⟩) (by simp; omega)
 exact ⟨h.1,h.2,lawR_prefix _ _⟩
theorem law_cases (r:GRealm) (forum ask:Int) (pl:List Int) (hb:ByOk r) (hn:r.Orders.length < 50) (hp:pl.length < 9223372036854775807) :
  (mconflict_Law r forum ask pl = some ([],1) ∧ ¬ (FineQ r forum ask pl ∧ el pl 0 = forum)) ∨ (FineQ r forum ask pl ∧ el pl 0 = forum ∧ mconflict_Law r forum ask pl = some ((lawOf r forum ask pl).2,(lawOf r forum ask pl).1)):=by
 by_cases h:FineQ r forum ask pl ∧ el pl 0 = forum
 ·exact .inr ⟨h.1,h.2,law_eq r forum ask pl hb hn h.1 h.2⟩
 ·exact .inl ⟨law_bad r forum ask pl hp h,h⟩
end Go.Proofs.Ytlpgfmnicomjjaa
