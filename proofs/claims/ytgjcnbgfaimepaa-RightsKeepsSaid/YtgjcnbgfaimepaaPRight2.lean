/- Law 43: what best computes: the free duties are cleared, and their sums put back in their places. -/
import Derived.Test.YtgjcnbgfaimepaaPRight1
set_option linter.unusedVariables false
set_option linter.unusedSimpArgs false
namespace Go.Proofs.Ytgjcnbgfaimepaa
open Go.RowKit Vm
def tT (asked:List Int) (l:List aE):Nat->List Nat
 | 0=>[]
 | k + 1=>tT asked l k ++ if oQ asked (el l k) = true then [k] else []
section
variable {asked:List Int} {l:List aE}
theorem aCt:∀ k,∀ i ∈ tT asked l k,i < k ∧ oQ asked (el l i) = true
 | 0,i,h=>by cases h
 | k + 1,i,h=>by
  unfold tT at h
  rcases List.mem_append.1 h with q | q
  ·have:=aCt k i q
   exact ⟨by omega,this.2⟩
  ·split at q
   ·rename_i c
    have:i = k:=by simpa using q
    subst this
    exact ⟨by omega,c⟩
   ·cases q
theorem aCU:∀ k,(tT asked l k).Pairwise (· < ·)
 | 0=>List.Pairwise.nil
 | k + 1=>by
  unfold tT
  refine List.pairwise_append.2 ⟨aCU k,?_,fun a ha b hb=>?_⟩
  ·split
   ·exact List.pairwise_cons.2 ⟨fun _ h=>(by cases h),List.Pairwise.nil⟩
   ·exact List.Pairwise.nil
  ·have:=aCt k a ha
   split at hb
   ·have:b = k:=by simpa using hb
    omega
   ·cases hb
theorem L9:∀ k,(tT asked l k).length <= k
 | 0=>Nat.le_refl _
 | k + 1=>by
  have:=L9 k
  unfold tT
  rw [List.length_append]
  split <;> simp <;> omega
def oM (asked:List Int) (l:List aE):List aF:=(tT asked l l.length).map fun k=>fK (el l k)
theorem xT:(oM asked l).length = (tT asked l l.length).length:=by simp [oM]
theorem NR {j:Nat} (hj:j < (tT asked l l.length).length):el (oM asked l) j = fK (el l (el (tT asked l l.length) j)):=eN _ _ _ hj
theorem aBL {j:Nat} (hj:j < (tT asked l l.length).length):el (tT asked l l.length) j < l.length ∧ oQ asked (el l (el (tT asked l l.length) j)) = true:=aCt _ _ (IB _ _ hj)
theorem GI {n:Nat} (h:I1 n (l.map fK)) {i:Nat} (hi:i < l.length):(0 <= (el l i).From ∧ (el l i).From < n) ∧ (0 <= (el l i).To ∧ (el l i).To < n) ∧ (el l i).From ≠ (el l i).To ∧ 1 <= (el l i).Sum ∧ (el l i).Sum <= 1099511627776:=by
 have:=h.each i (by rw [List.length_map]; exact hi)
 rw [eN fK l i hi] at this
 exact this
theorem aCG {n:Nat} (h:I1 n (l.map fK)):I1 n (oM asked l) where
 nn:=h.nn
 len:=by
  have:=h.len
  have h2:=L9 (asked:=asked) (l:=l) l.length
  rw [List.length_map] at this
  rw [xT]; omega
 each:=fun j hj=>by
  rw [xT] at hj
  rw [NR hj]
  exact GI h (aBL hj).1
structure OY (l:List aE) (asked:List Int):Prop where
 len:l.length <= 1000
 rights:∀ i,i < l.length->(el l i).Rights.length <= 1000
 asked:asked.length < 4611686018427387904
theorem aNc (n:Int) (h:OY l asked):qM n l asked 0 [] [] = some (oM asked l,(tT asked l l.length).map fun (k:Nat)=>(k:Int)):=by
 unfold qM
 have hlen:=h.len
 have key:∃ x,dE (fun (w:Int × List aF × List Int)=>dV n l asked w.1 w.2.1 w.2.2) (0,[],[]) = some x ∧ x = (oM asked l,(tT asked l l.length).map fun (k:Nat)=>(k:Int)):=by
  refine iM (step:=fun (w:Int × List aF × List Int)=>dV n l asked w.1 w.2.1 w.2.2) (fun k (a:List aF × List Int)=>((k:Int),a.1,a.2)) l.length (fun k a=>a = ((tT asked l k).map fun k=>fK (el l k),(tT asked l k).map fun (k:Nat)=>(k:Int))) (fun x=>x = (oM asked l,(tT asked l l.length).map fun (k:Nat)=>(k:Int))) ?_ ?_ ([],[]) rfl
  ·rintro k a hk rfl
   refine .inl ⟨_,?_,rfl⟩
   show dV n l asked k _ _ = _
   unfold dV
   have w3:IntKind.wrap .i64 ((k:Int) + 1) = ((k + 1:Nat):Int):=bW (by omega)
   have hfl:=L9 (asked:=asked) (l:=l) k
   rw [if_pos (by simpa using hk),dK l k hk,Option.bind_some,aJ8 _ _ h.asked (by have:=h.rights k hk; omega),Option.bind_some,w3]
   rw [show tT asked l (k + 1) = tT asked l k ++ if oQ asked (el l k) = true then [k] else [] from rfl]
   cases hf:oQ asked (el l k) with
   | true =>
    rw [if_pos rfl,aPH,Option.bind_some,if_pos (by simp; omega),if_pos (by simp; omega)]
    simp
   | false=>simp
  ·rintro a rfl
   refine ⟨_,?_,rfl⟩
   show dV n l asked l.length _ _ = _
   unfold dV
   rw [if_neg (by simp)]
   rfl
 obtain ⟨x,h1,h2⟩:=key
 rw [← h2]
 exact h1
structure AV (m:Nat) (l:List aE) (asked:List Int) (X q y:List Int):Prop where
 best:OZ m (oM asked l) y q
 len:X.length = l.length
 at' : ∀ j,j < (tT asked l l.length).length->el X (el (tT asked l l.length) j) = el y j
 off:∀ i,i < l.length->oQ asked (el l i) = false->el X i = 0
theorem aRf {I:List Nat} (h:I.Pairwise (· < ·)) {a b:Nat} (ha:a < I.length) (hb:b < I.length) (e:el I a = el I b):a = b:=by
 rw [L6 _ _ ha,L6 _ _ hb] at e
 rcases Nat.lt_trichotomy a b with q | q | q
 ·have:=List.pairwise_iff_getElem.1 h a b ha hb q; omega
 ·exact q
 ·have:=List.pairwise_iff_getElem.1 h b a hb ha q; omega
theorem aLk {m:Nat} (h:OY l asked) (hk:I1 m (l.map fK)):∃ X q y,mV m l asked = some (X,q) ∧ AV m l asked X q y:=by
 have hlen:=h.len
 obtain ⟨y,q,c1,c2⟩:=aMn (aCG (asked:=asked) hk)
 have hyl:y.length = (tT asked l l.length).length:=by rw [c2.len,xT]
 have hIl:=L9 (asked:=asked) (l:=l) l.length
 obtain ⟨X,h1,h2⟩ : ∃ X,qH (y,q,0) (oM asked l,(tT asked l l.length).map fun (k:Nat)=>(k:Int)) 0 (List.replicate l.length 0) = some X ∧ X.length = l.length ∧ (∀ j,j < y.length->el X (el (tT asked l l.length) j) = el y j) ∧ ∀ i,i < l.length->(∀ j,j < y.length->el (tT asked l l.length) j ≠ i)->el X i = 0:=by
  unfold qH
  refine iM (step:=fun (w:Int × List Int)=>eR (y,q,0) (oM asked l,(tT asked l l.length).map fun (k:Nat)=>(k:Int)) w.1 w.2) (fun k (a:List Int)=>((k:Int),a)) y.length (fun k a=>a.length = l.length ∧ (∀ j,j < k->el a (el (tT asked l l.length) j) = el y j) ∧ ∀ i,i < l.length->(∀ j,j < k->el (tT asked l l.length) j ≠ i)->el a i = 0) _ ?_ ?_ (List.replicate l.length 0) ⟨by simp,fun j hj=>by omega,fun i hi _=>by simp [el,hi]⟩
  ·rintro k a hk' ⟨a1,a2,a3⟩
   have hkI:k < (tT asked l l.length).length:=by omega
   have hlt:=(aBL hkI).1
   refine .inl ⟨a.set (el (tT asked l l.length) k) (el y k),?_,by simp [a1],fun j hj=>?_,fun i hi hne=>?_⟩
   ·show eR (y,q,0) _ k a = _
    unfold eR
    have w3:IntKind.wrap .i64 ((k:Int) + 1) = ((k + 1:Nat):Int):=bW (by omega)
    have e1:((tT asked l l.length).map fun (k:Nat)=>(k:Int))[(k:Int).toNat]? = some ((el (tT asked l l.length) k:Nat):Int):=by
     rw [Int.toNat_natCast,List.getElem?_map,List.getElem?_eq_getElem hkI,L6 _ _ hkI]
     rfl
    have e2:a[(((el (tT asked l l.length) k:Nat):Int)).toNat]? = some (el a (el (tT asked l l.length) k)):=by
     rw [Int.toNat_natCast]
     exact FP a _ (by omega)
    simp only
    rw [if_pos (by simpa using hk'),dK y k hk',Option.bind_some,if_pos ⟨by omega,by simp; omega⟩,e1,Option.bind_some,if_pos ⟨by omega,by simp; omega⟩,e2,Option.bind_some,w3,Int.toNat_natCast]
   ·rw [cE]
    by_cases e:j = k
    ·subst e
     rw [if_pos ⟨rfl,by omega⟩]
    ·have hne:el (tT asked l l.length) j ≠ el (tT asked l l.length) k:=fun q=>e (aRf (aCU _) (by omega) hkI q)
     rw [if_neg (fun q=>hne q.1)]
     exact a2 j (by omega)
   ·rw [cE]
    rw [if_neg (fun q=>hne k (by omega) q.1.symm)]
    exact a3 i hi fun j hj=>hne j (by omega)
  ·rintro a ⟨a1,a2,a3⟩
   refine ⟨a,?_,a1,a2,a3⟩
   show eR (y,q,0) _ y.length a = _
   unfold eR
   simp only
   rw [if_neg (by simp)]
 obtain ⟨h2,h3,h4⟩:=h2
 refine ⟨X,q,y,?_,c2,h2,fun j hj=>h3 j (by omega),fun i hi hf=>h4 i hi fun j hj e=>?_⟩
 ·unfold mV
  rw [aNc m h,Option.bind_some]
  simp only
  rw [c1,Option.bind_some,if_pos (by omega),Int.toNat_natCast,h1]
  rfl
 ·have:=(aBL (asked:=asked) (l:=l) (j:=j) (by omega)).2
  rw [e,hf] at this
  cases this
end
end Go.Proofs.Ytgjcnbgfaimepaa
