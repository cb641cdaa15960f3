/- Law 43: what best computes: the free duties are cleared, and their sums put back in their places. -/
import Derived.Test.YtgjcnbgfaimepaaPRight1
set_option linter.unusedVariables false
set_option linter.unusedSimpArgs false
namespace Go.Proofs.Ytgjcnbgfaimepaa
open Go.RowKit Vm
def sH (asked:List Int) (l:List aE):Nat->List Nat
 | 0=>[]
 | k + 1=>sH asked l k ++ if nA asked (el l k) = true then [k] else []
section
variable {asked:List Int} {l:List aE}
theorem aC5:∀ k,∀ i ∈ sH asked l k,i < k ∧ nA asked (el l i) = true
 | 0,i,h=>by cases h
 | k + 1,i,h=>by
  unfold sH at h
  rcases List.mem_append.1 h with q | q
  ·have:=aC5 k i q
   exact ⟨by omega,this.2⟩
  ·split at q
   ·rename_i c
    have:i = k:=by simpa using q
    subst this
    exact ⟨by omega,c⟩
   ·cases q
theorem aDV:∀ k,(sH asked l k).Pairwise (· < ·)
 | 0=>List.Pairwise.nil
 | k + 1=>by
  unfold sH
  refine List.pairwise_append.2 ⟨aDV k,?_,fun a ha b hb=>?_⟩
  ·split
   ·exact List.pairwise_cons.2 ⟨fun _ h=>(by cases h),List.Pairwise.nil⟩
   ·exact List.Pairwise.nil
  ·have:=aC5 k a ha
   split at hb
   ·have:b = k:=by simpa using hb
    omega
   ·cases hb
theorem P8:∀ k,(sH asked l k).length <= k
 | 0=>Nat.le_refl _
 | k + 1=>by
  have:=P8 k
  unfold sH
  rw [List.length_append]
  split <;> simp <;> omega
def rC (asked:List Int) (l:List aE):List aH:=(sH asked l l.length).map fun k=>gD (el l k)
theorem mJ:(rC asked l).length = (sH asked l l.length).length:=by simp [rC]
theorem DI {j:Nat} (hj:j < (sH asked l l.length).length):el (rC asked l) j = gD (el l (el (sH asked l l.length) j)):=gK _ _ _ hj
theorem OD {j:Nat} (hj:j < (sH asked l l.length).length):el (sH asked l l.length) j < l.length ∧ nA asked (el l (el (sH asked l l.length) j)) = true:=aC5 _ _ (mF _ _ hj)
theorem GX {n:Nat} (h:EM n (l.map gD)) {i:Nat} (hi:i < l.length):(0 <= (el l i).From ∧ (el l i).From < n) ∧ (0 <= (el l i).To ∧ (el l i).To < n) ∧ (el l i).From ≠ (el l i).To ∧ 1 <= (el l i).Sum ∧ (el l i).Sum <= 1099511627776:=by
 have:=h.each i (by rw [List.length_map]; exact hi)
 rw [gK gD l i hi] at this
 exact this
theorem aI2 {n:Nat} (h:EM n (l.map gD)):EM n (rC asked l) where
 nn:=h.nn
 len:=by
  have:=h.len
  have h2:=P8 (asked:=asked) (l:=l) l.length
  rw [List.length_map] at this
  rw [mJ]; omega
 each:=fun j hj=>by
  rw [mJ] at hj
  rw [DI hj]
  exact GX h (OD hj).1
structure xH (l:List aE) (asked:List Int):Prop where
 len:l.length <= 1000
 rights:∀ i,i < l.length->(el l i).Rights.length <= 1000
 asked:asked.length < 4611686018427387904
theorem aNR (n:Int) (h:xH l asked):qV n l asked 0 [] [] = some (rC asked l,(sH asked l l.length).map fun (k:Nat)=>(k:Int)):=by
 unfold qV
 have hlen:=h.len
 have key:∃ x,dK (fun (w:Int × List aH × List Int)=>eU n l asked w.1 w.2.1 w.2.2) (0,[],[]) = some x ∧ x = (rC asked l,(sH asked l l.length).map fun (k:Nat)=>(k:Int)):=by
  refine eQ (step:=fun (w:Int × List aH × List Int)=>eU n l asked w.1 w.2.1 w.2.2) (fun k (a:List aH × List Int)=>((k:Int),a.1,a.2)) l.length (fun k a=>a = ((sH asked l k).map fun k=>gD (el l k),(sH asked l k).map fun (k:Nat)=>(k:Int))) (fun x=>x = (rC asked l,(sH asked l l.length).map fun (k:Nat)=>(k:Int))) ?_ ?_ ([],[]) rfl
  ·rintro k a hk rfl
   refine .inl ⟨_,?_,rfl⟩
   show eU n l asked k _ _ = _
   unfold eU
   have w3:IntKind.wrap .i64 ((k:Int) + 1) = ((k + 1:Nat):Int):=bC (by omega)
   have hfl:=P8 (asked:=asked) (l:=l) k
   rw [if_pos (by simpa using hk),bU l k hk,Option.bind_some,aR3 _ _ h.asked (by have:=h.rights k hk; omega),Option.bind_some,w3]
   rw [show sH asked l (k + 1) = sH asked l k ++ if nA asked (el l k) = true then [k] else [] from rfl]
   cases hf:nA asked (el l k) with
   | true =>
    rw [if_pos rfl,aQk,Option.bind_some,if_pos (by simp; omega),if_pos (by simp; omega)]
    simp
   | false=>simp
  ·rintro a rfl
   refine ⟨_,?_,rfl⟩
   show eU n l asked l.length _ _ = _
   unfold eU
   rw [if_neg (by simp)]
   rfl
 obtain ⟨x,h1,h2⟩:=key
 rw [← h2]
 exact h1
structure sY (m:Nat) (l:List aE) (asked:List Int) (X q y:List Int):Prop where
 best:UL m (rC asked l) y q
 len:X.length = l.length
 at' : ∀ j,j < (sH asked l l.length).length->el X (el (sH asked l l.length) j) = el y j
 off:∀ i,i < l.length->nA asked (el l i) = false->el X i = 0
theorem aQW {I:List Nat} (h:I.Pairwise (· < ·)) {a b:Nat} (ha:a < I.length) (hb:b < I.length) (e:el I a = el I b):a = b:=by
 rw [kA _ _ ha,kA _ _ hb] at e
 rcases Nat.lt_trichotomy a b with q | q | q
 ·have:=List.pairwise_iff_getElem.1 h a b ha hb q; omega
 ·exact q
 ·have:=List.pairwise_iff_getElem.1 h b a hb ha q; omega
theorem YH {m:Nat} (h:xH l asked) (hk:EM m (l.map gD)):∃ X q y,j0 m l asked = some (X,q) ∧ sY m l asked X q y:=by
 have hlen:=h.len
 obtain ⟨y,q,c1,c2⟩:=aPr (aI2 (asked:=asked) hk)
 have hyl:y.length = (sH asked l l.length).length:=by rw [c2.len,mJ]
 have hIl:=P8 (asked:=asked) (l:=l) l.length
 obtain ⟨X,h1,h2⟩ : ∃ X,qS (y,q,0) (rC asked l,(sH asked l l.length).map fun (k:Nat)=>(k:Int)) 0 (List.replicate l.length 0) = some X ∧ X.length = l.length ∧ (∀ j,j < y.length->el X (el (sH asked l l.length) j) = el y j) ∧ ∀ i,i < l.length->(∀ j,j < y.length->el (sH asked l l.length) j ≠ i)->el X i = 0:=by
  unfold qS
  refine eQ (step:=fun (w:Int × List Int)=>fM (y,q,0) (rC asked l,(sH asked l l.length).map fun (k:Nat)=>(k:Int)) w.1 w.2) (fun k (a:List Int)=>((k:Int),a)) y.length (fun k a=>a.length = l.length ∧ (∀ j,j < k->el a (el (sH asked l l.length) j) = el y j) ∧ ∀ i,i < l.length->(∀ j,j < k->el (sH asked l l.length) j ≠ i)->el a i = 0) _ ?_ ?_ (List.replicate l.length 0) ⟨by simp,fun j hj=>by omega,fun i hi _=>by simp [el,hi]⟩
  ·rintro k a hk' ⟨a1,a2,a3⟩
   have hkI:k < (sH asked l l.length).length:=by omega
   have hlt:=(OD hkI).1
   refine .inl ⟨a.set (el (sH asked l l.length) k) (el y k),?_,by simp [a1],fun j hj=>?_,fun i hi hne=>?_⟩
   ·show fM (y,q,0) _ k a = _
    unfold fM
    have w3:IntKind.wrap .i64 ((k:Int) + 1) = ((k + 1:Nat):Int):=bC (by omega)
    have e1:((sH asked l l.length).map fun (k:Nat)=>(k:Int))[(k:Int).toNat]? = some ((el (sH asked l l.length) k:Nat):Int):=by
     rw [Int.toNat_natCast,List.getElem?_map,List.getElem?_eq_getElem hkI,kA _ _ hkI]
     rfl
    have e2:a[(((el (sH asked l l.length) k:Nat):Int)).toNat]? = some (el a (el (sH asked l l.length) k)):=by
     rw [Int.toNat_natCast]
     exact EG a _ (by omega)
    simp only
    rw [if_pos (by simpa using hk'),bU y k hk',Option.bind_some,if_pos ⟨by omega,by simp; omega⟩,e1,Option.bind_some,if_pos ⟨by omega,by simp; omega⟩,e2,Option.bind_some,w3,Int.toNat_natCast]
   ·rw [dM]
    by_cases e:j = k
    ·subst e
     rw [if_pos ⟨rfl,by omega⟩]
    ·have hne:el (sH asked l l.length) j ≠ el (sH asked l l.length) k:=fun q=>e (aQW (aDV _) (by omega) hkI q)
     rw [if_neg (fun q=>hne q.1)]
     exact a2 j (by omega)
   ·rw [dM]
    rw [if_neg (fun q=>hne k (by omega) q.1.symm)]
    exact a3 i hi fun j hj=>hne j (by omega)
  ·rintro a ⟨a1,a2,a3⟩
   refine ⟨a,?_,a1,a2,a3⟩
   show fM (y,q,0) _ y.length a = _
   unfold fM
   simp only
   rw [if_neg (by simp)]
 obtain ⟨h2,h3,h4⟩:=h2
 refine ⟨X,q,y,?_,c2,h2,fun j hj=>h3 j (by omega),fun i hi hf=>h4 i hi fun j hj e=>?_⟩
 ·unfold j0
  rw [aNR m h,Option.bind_some]
  simp only
  rw [c1,Option.bind_some,if_pos (by omega),Int.toNat_natCast,h1]
  rfl
 ·have:=(OD (asked:=asked) (l:=l) (j:=j) (by omega)).2
  rw [e,hf] at this
  cases this
end
end Go.Proofs.Ytgjcnbgfaimepaa
