/- Law 43: two ascending lists as one; who is not asked yet; what is cleared. -/
import Derived.Test.YtgjcnbgfaimepaaPRight7
set_option linter.unusedVariables false
set_option linter.unusedSimpArgs false
namespace Go.Proofs.Ytgjcnbgfaimepaa
open Go.RowKit Vm
section
structure GB (a b:List Int) (i j:Nat) (c:List Int):Prop where
 hi:i <= a.length
 hj:j <= b.length
 asc:G3 c
 len:c.length <= i + j
 mem:∀ x,x ∈ c ↔ x ∈ a.take i ∨ x ∈ b.take j
 la:∀ x ∈ c,∀ y ∈ a.drop i,x < y
 lb:∀ x ∈ c,∀ y ∈ b.drop j,x < y
theorem QO {c:List Int} {v:Int} (h:G3 c) (hv:∀ x ∈ c,x < v):G3 (c ++ [v]):=by
 refine List.pairwise_append.2 ⟨h,List.pairwise_cons.2 ⟨fun _ q=>(by cases q),List.Pairwise.nil⟩,fun x hx y hy=>?_⟩
 have:y = v:=by simpa using hy
 rw [this]; exact hv x hx
theorem IM {a:List Int} (ha:G3 a) {i:Nat} (hi:i < a.length):∀ y ∈ a.drop (i + 1),el a i < y:=by
 intro y hy
 have h:=ha.sublist (List.drop_sublist i a)
 rw [List.drop_eq_getElem_cons hi] at h
 rw [kA _ _ hi]
 exact (List.pairwise_cons.1 h).1 y hy
theorem PE {a:List Int} {i:Nat} (hi:i < a.length):el a i ∈ a.drop i:=by
 rw [List.drop_eq_getElem_cons hi,kA _ _ hi]
 exact List.mem_cons_self
theorem SL {a:List Int} {i:Nat}:∀ y ∈ a.drop (i + 1),y ∈ a.drop i:=fun y hy=>List.mem_of_mem_drop (i:=1) (by rw [List.drop_drop]; exact hy)
theorem CW {a:List Int} {i:Nat} (hi:i < a.length) (x:Int):x ∈ a.take (i + 1) ↔ x ∈ a.take i ∨ x = el a i:=by
 rw [List.take_succ_eq_append_getElem hi,kA _ _ hi,List.mem_append,List.mem_singleton]
theorem GB.left {a b c:List Int} {i j:Nat} (ha:G3 a) (h:GB a b i j c) (hi:i < a.length) (hb:∀ y ∈ b.drop j,el a i < y):GB a b (i + 1) j (c ++ [el a i]) where
 hi:=hi
 hj:=h.hj
 asc:=QO h.asc fun x hx=>h.la x hx _ (PE hi)
 len:=by have:=h.len; simp; omega
 mem:=fun x=>by
  rw [List.mem_append,h.mem,CW hi]
  simp only [List.mem_singleton]
  constructor
  ·rintro ((q | q) | q)
   ·exact .inl (.inl q)
   ·exact .inr q
   ·exact .inl (.inr q)
  ·rintro ((q | q) | q)
   ·exact .inl (.inl q)
   ·exact .inr q
   ·exact .inl (.inr q)
 la:=fun x hx y hy=>by
  rcases List.mem_append.1 hx with q | q
  ·exact h.la x q y (SL y hy)
  ·have:x = el a i:=by simpa using q
   rw [this]; exact IM ha hi y hy
 lb:=fun x hx y hy=>by
  rcases List.mem_append.1 hx with q | q
  ·exact h.lb x q y hy
  ·have:x = el a i:=by simpa using q
   rw [this]; exact hb y hy
theorem GB.flip {a b c:List Int} {i j:Nat} (h:GB a b i j c):GB b a j i c :=
 ⟨h.hj,h.hi,h.asc,by have:=h.len; omega,fun x=>by rw [h.mem]; exact Or.comm,h.lb,h.la⟩
theorem GB.both {a b c:List Int} {i j:Nat} (ha:G3 a) (hb:G3 b) (h:GB a b i j c) (hi:i < a.length) (hj:j < b.length) (e:el a i = el b j):GB a b (i + 1) (j + 1) (c ++ [el a i]) where
 hi:=hi
 hj:=hj
 asc:=QO h.asc fun x hx=>h.la x hx _ (PE hi)
 len:=by have:=h.len; simp; omega
 mem:=fun x=>by
  rw [List.mem_append,h.mem,CW hi,CW hj,← e]
  simp only [List.mem_singleton]
  constructor
  ·rintro ((q | q) | q)
   ·exact .inl (.inl q)
   ·exact .inr (.inl q)
   ·exact .inl (.inr q)
  ·rintro ((q | q) | (q | q))
   ·exact .inl (.inl q)
   ·exact .inr q
   ·exact .inl (.inr q)
   ·exact .inr q
 la:=fun x hx y hy=>by
  rcases List.mem_append.1 hx with q | q
  ·exact h.la x q y (SL y hy)
  ·have:x = el a i:=by simpa using q
   rw [this]; exact IM ha hi y hy
 lb:=fun x hx y hy=>by
  rcases List.mem_append.1 hx with q | q
  ·exact h.lb x q y (SL y hy)
  ·have:x = el a i:=by simpa using q
   rw [this,e]; exact IM hb hj y hy
theorem aQQ {a b:List Int} (ha:G3 a) (hb:G3 b) (la:a.length <= 100000) (lb:b.length <= 100000):∃ r,fD a b = some r ∧ G3 r ∧ ∀ x,x ∈ r ↔ x ∈ a ∨ x ∈ b:=by
 unfold fD mQ
 have key:=I8 (step:=fun (w:Int × Int × List Int)=>bK a b w.1 w.2.1 w.2.2) (fun w=>∃ i j:Nat,w.1 = i ∧ w.2.1 = j ∧ GB a b i j w.2.2) (fun w=>(a.length + b.length - (w.1.toNat + w.2.1.toNat))) (fun r=>G3 r ∧ ∀ x,x ∈ r ↔ x ∈ a ∨ x ∈ b) ?_ (0,0,[]) ⟨0,0,rfl,rfl,Nat.zero_le _,Nat.zero_le _,List.Pairwise.nil,by simp,by simp,fun x hx=>(by cases hx),fun x hx=>(by cases hx)⟩
 ·obtain ⟨x,h1,h2⟩:=key
  exact ⟨x,by rw [h1]; rfl,h2⟩
 ·rintro ⟨p1,p2,c⟩ ⟨i,j,h1,h2,h⟩
  simp only at h1 h2 h
  subst h1 h2
  have hi:=h.hi
  have hj:=h.hj
  have hc:=h.len
  have wi:IntKind.wrap .i64 ((i:Int) + 1) = ((i + 1:Nat):Int):=bC (by omega)
  have wj:IntKind.wrap .i64 ((j:Int) + 1) = ((j + 1:Nat):Int):=bC (by omega)
  have j1:∀ (z:Int),i < a.length->fJ a b i c z = some (c ++ [el a i]):=fun z q=>by
   unfold fJ
   rw [bU a i q,Option.bind_some,if_pos (by omega)]
  -- one more of the first,of the second,of both
  have L:i < a.length->cC a b i j c = some (((i + 1:Nat):Int),(j:Int),c ++ [el a i])->(∀ y ∈ b.drop j,el a i < y)->(∃ s',bK a b i j c = some (.inl s') ∧ (∃ i' j' : Nat,s'.1 = i' ∧ s'.2.1 = j' ∧ GB a b i' j' s'.2.2) ∧ a.length + b.length - (s'.1.toNat + s'.2.1.toNat) < a.length + b.length - ((i:Int).toNat + (j:Int).toNat)):=fun q e hb'=>by
   refine ⟨(((i + 1:Nat):Int),(j:Int),c ++ [el a i]),?_,⟨i + 1,j,rfl,rfl,h.left ha q hb'⟩,by simp; omega⟩
   unfold bK
   rw [if_pos (by simpa using q),e]
   rfl
  have R:j < b.length->cC a b i j c = some ((i:Int),((j + 1:Nat):Int),c ++ [el b j])->(∀ y ∈ a.drop i,el b j < y)->(∃ s',bK a b i j c = some (.inl s') ∧ (∃ i' j' : Nat,s'.1 = i' ∧ s'.2.1 = j' ∧ GB a b i' j' s'.2.2) ∧ a.length + b.length - (s'.1.toNat + s'.2.1.toNat) < a.length + b.length - ((i:Int).toNat + (j:Int).toNat)):=fun q e ha'=>by
   refine ⟨((i:Int),((j + 1:Nat):Int),c ++ [el b j]),?_,⟨i,j + 1,rfl,rfl,(h.flip.left hb q ha').flip⟩,by simp; omega⟩
   unfold bK
   by_cases qa:i < a.length
   ·rw [if_pos (by simpa using qa),e]; rfl
   ·rw [if_neg (by simpa using qa),if_pos (by simpa using q),e]; rfl
  by_cases qb:j < b.length
  ·by_cases qa:i < a.length
   ·by_cases c1:el a i <= el b j
    ·by_cases c2:el a i = el b j
     ·left
      refine ⟨(((i + 1:Nat):Int),((j + 1:Nat):Int),c ++ [el a i]),?_,⟨i + 1,j + 1,rfl,rfl,h.both ha hb qa qb c2⟩,by simp; omega⟩
      show bK a b i j c = _
      unfold bK
      rw [if_pos (by simpa using qa)]
      unfold cC
      rw [if_neg (by simp; omega),if_pos (by simpa using qa),bU a i qa,Option.bind_some,bU b j qb,Option.bind_some,if_pos (by simpa using c1)]
      unfold fK
      rw [if_pos (by simpa using qb),bU a i qa,Option.bind_some,bU b j qb,Option.bind_some,if_pos (by simpa using c2),j1 _ qa,wi,wj]
      rfl
     ·left
      refine L qa ?_ fun y hy=>?_
      ·unfold cC
       rw [if_neg (by simp; omega),if_pos (by simpa using qa),bU a i qa,Option.bind_some,bU b j qb,Option.bind_some,if_pos (by simpa using c1)]
       unfold fK
       rw [if_pos (by simpa using qb),bU a i qa,Option.bind_some,bU b j qb,Option.bind_some,if_neg (by simpa using c2),j1 _ qa,wi]
       rfl
      ·rw [List.drop_eq_getElem_cons qb] at hy
       rcases List.mem_cons.1 hy with e | e
       ·rw [e,← kA _ _ qb]; omega
       ·have:=IM hb qb y e; omega
    ·left
     refine R qb ?_ fun y hy=>?_
     ·unfold cC
      rw [if_neg (by simp; omega),if_pos (by simpa using qa),bU a i qa,Option.bind_some,bU b j qb,Option.bind_some,if_neg (by simpa using c1),Option.bind_some,if_pos (by omega),wj]
     ·rw [List.drop_eq_getElem_cons qa] at hy
      rcases List.mem_cons.1 hy with e | e
      ·rw [e,← kA _ _ qa]; omega
      ·have:=IM ha qa y e; omega
   ·left
    refine R qb ?_ fun y hy=>?_
    ·unfold cC
     rw [if_neg (by simp; omega),if_neg (by simpa using qa),bU b j qb,Option.bind_some,if_pos (by omega),wj]
    ·rw [List.drop_of_length_le (by omega)] at hy
     cases hy
  ·by_cases qa:i < a.length
   ·left
    refine L qa ?_ fun y hy=>?_
    ·unfold cC
     rw [if_pos (by simp; omega)]
     unfold fK
     rw [if_neg (by simpa using qb),j1 _ qa,wi]
     rfl
    ·rw [List.drop_of_length_le (by omega)] at hy
     cases hy
   ·right
    refine ⟨c,?_,h.asc,fun x=>?_⟩
    ·show bK a b i j c = _
     unfold bK
     rw [if_neg (by simpa using qa),if_neg (by simpa using qb)]
    ·rw [h.mem,List.take_of_length_le (by omega),List.take_of_length_le (by omega)]
end
section
variable {m:Nat} {l:List aE}
noncomputable def AF (m:Nat) (l:List aE) (a:List Int):Int:=match j0 m l a with
 | some r=>NT r.1
 | none=>0
theorem RH {a:List Int} (h:xH l a) (hk:EM m (l.map gD)):∃ X q y,j0 m l a = some (X,q) ∧ sY m l a X q y ∧ AF m l a = NT X ∧ AF m l a = dO (el X) l.length:=by
 obtain ⟨X,q,y,h1,b⟩:=YH h hk
 refine ⟨X,q,y,h1,b,?_,?_⟩
 ·unfold AF; rw [h1]
 ·unfold AF; rw [h1]; exact b.total hk
theorem MD {a b:List Int} (ha:xH l a) (hb:xH l b) (hk:EM m (l.map gD)) (h:∀ x ∈ a,x ∈ b):AF m l a <= AF m l b:=by
 obtain ⟨X,q,y,_,b1,_,e1⟩:=RH ha hk
 obtain ⟨X',q',y',_,b2,_,e2⟩:=RH hb hk
 rw [e1,e2]
 exact aGJ hk (fun i hi hf=>aEO h hf) b1 b2
theorem NG {a b:List Int} (ha:xH l a) (hb:xH l b) (hk:EM m (l.map gD)) (h:∀ x,x ∈ a ↔ x ∈ b):AF m l a = AF m l b:=by
 have h1:=MD ha hb hk fun x=>(h x).1
 have h2:=MD hb ha hk fun x=>(h x).2
 omega
theorem TS {a:List Int} (h:xH l a) (hc:rL m l = true) (hr:wM a = true):∃ X q,cQ m l a = some (X,q,0) ∧ dN X = some (AF m l a):=by
 obtain ⟨m',X,q,y,em,hk,e,b⟩:=YP h hc hr
 obtain rfl:m = m':=by omega
 refine ⟨X,q,e,?_⟩
 obtain ⟨X',q',y',e',b',t1,_⟩:=RH h hk
 have:X = X':=by
  unfold cQ at e
  have hl:=h.len
  rw [MF _ _ (by omega),hc,Option.bind_some,if_neg (by decide),HJ _ h.asked,hr,Option.bind_some,if_neg (by decide),e',Option.bind_some] at e
  cases e; rfl
 rw [WJ,this,t1]
end
end Go.Proofs.Ytgjcnbgfaimepaa
