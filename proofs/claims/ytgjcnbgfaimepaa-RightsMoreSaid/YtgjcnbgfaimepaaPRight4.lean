/- Law 43: RightsKeeps. -/
import Derived.Test.YtgjcnbgfaimepaaPRight3
set_option linter.unusedVariables false
set_option linter.unusedSimpArgs false
namespace Go.Proofs.Ytgjcnbgfaimepaa
open Go.RowKit Vm
section
variable {m:Nat} {l:List aE} {asked X q y:List Int}
theorem aC5 {k:Nat}:∀ d,∃ r,qK asked l (k + d) = qK asked l k ++ r
 | 0=>⟨[],by simp⟩
 | d + 1=>by
  obtain ⟨r,h⟩:=aC5 (k:=k) d
  refine ⟨r ++ if jD asked (el l (k + d)) = true then [k + d] else [],?_⟩
  rw [show k + (d + 1) = (k + d) + 1 by omega,show qK asked l (k + d + 1) = qK asked l (k + d) ++ if jD asked (el l (k + d)) = true then [k + d] else [] from rfl,h,List.append_assoc]
theorem U7 {k:Nat} (hk:k < l.length) (hf:jD asked (el l k) = true):(qK asked l k).length < (qK asked l l.length).length ∧ el (qK asked l l.length) (qK asked l k).length = k:=by
 obtain ⟨r,h⟩:=aC5 (k:=k + 1) (asked:=asked) (l:=l) (l.length - (k + 1))
 rw [show k + 1 + (l.length - (k + 1)) = l.length by omega,show qK asked l (k + 1) = qK asked l k ++ if jD asked (el l k) = true then [k] else [] from rfl,if_pos hf] at h
 rw [h]
 refine ⟨by simp,?_⟩
 simp [el]
theorem rO.ylen (b:rO m l asked X q y):y.length = (qK asked l l.length).length:=by rw [b.best.len,lD]
theorem rO.val (b:rO m l asked X q y) {k:Nat} (hk:k < l.length) (hf:jD asked (el l k) = true):el X k = el y (qK asked l k).length:=by
 obtain ⟨h1,h2⟩:=U7 hk hf
 have:=b.at' _ h1
 rw [h2] at this
 exact this
theorem rO.rng (b:rO m l asked X q y) (h:IW m (l.map iL)) {i:Nat} (hi:i < l.length):0 <= el X i ∧ el X i <= (el l i).Sum:=by
 have hs:=(F3 h hi).2.2.2
 cases hf:jD asked (el l i) with
 | false=>rw [b.off i hi hf]; omega
 | true =>
  obtain ⟨h1,h2⟩:=U7 hi hf
  rw [b.val hi hf]
  have hj:(qK asked l i).length < (nU asked l).length:=by rw [lD]; exact h1
  have c1:=b.best.bald.lo _ hj
  have c2:=b.best.bald.hi _ hj
  unfold sM at c2
  rw [CL h1,h2] at c2
  exact ⟨c1,c2⟩
theorem rO.list (b:rO m l asked X q y):((qK asked l l.length).map fun k=>el X k) = y:=by
 refine List.ext_getElem? fun j=>?_
 rw [List.getElem?_map]
 by_cases hj:j < (qK asked l l.length).length
 ·have hy:j < y.length:=by rw [b.ylen]; exact hj
  rw [List.getElem?_eq_getElem hj,List.getElem?_eq_getElem hy,Option.map_some,← FD _ _ hj,b.at' j hj,FD _ _ hy]
 ·rw [List.getElem?_eq_none (by omega),List.getElem?_eq_none (by rw [b.ylen]; omega)]
  rfl
theorem rO.netF (b:rO m l asked X q y) (v:Nat):∀ k,k <= l.length->netF (nH (l.map iL)) (pR (l.map iL)) k (el X) v = Go.Proofs.Ytgjcnbgfaimepaa.netF (nH (nU asked l)) (pR (nU asked l)) (qK asked l k).length (el y) v
 | 0,_=>rfl
 | k + 1,hk=>by
  have ih:=rO.netF b v k (by omega)
  have hkl:k < l.length:=by omega
  rw [HD,ih]
  have e1:el (l.map iL) k = iL (el l k):=fN iL l k hkl
  cases hf:jD asked (el l k) with
  | false =>
   rw [show qK asked l (k + 1) = qK asked l k ++ if jD asked (el l k) = true then [k] else [] from rfl,hf,b.off k hkl hf]
   simp
  | true =>
   obtain ⟨h1,h2⟩:=U7 hkl hf
   rw [show (qK asked l (k + 1)).length = (qK asked l k).length + 1 by rw [show qK asked l (k + 1) = qK asked l k ++ if jD asked (el l k) = true then [k] else [] from rfl,if_pos hf]; simp]
   rw [HD,b.val hkl hf]
   unfold nH pR
   rw [CL h1,h2,e1]
theorem aIq (h9:l.length <= 9) (hr:∀ i,i < l.length->(el l i).Rights.length <= 12) (ha:asked.length < 4611686018427387904):aCN l asked:=⟨by omega,fun i hi=>by have:=hr i hi; omega,ha⟩
end
end Go.Proofs.Ytgjcnbgfaimepaa
