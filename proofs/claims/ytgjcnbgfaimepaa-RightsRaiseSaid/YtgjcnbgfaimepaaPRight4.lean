/- Law 43: RightsKeeps. -/
import Derived.Test.YtgjcnbgfaimepaaPRight3
set_option linter.unusedVariables false
set_option linter.unusedSimpArgs false
namespace Go.Proofs.Ytgjcnbgfaimepaa
open Go.RowKit Vm
section
variable {m:Nat} {l:List aE} {asked X q y:List Int}
theorem aEF {k:Nat}:∀ d,∃ r,sH asked l (k + d) = sH asked l k ++ r
 | 0=>⟨[],by simp⟩
 | d + 1=>by
  obtain ⟨r,h⟩:=aEF (k:=k) d
  refine ⟨r ++ if nA asked (el l (k + d)) = true then [k + d] else [],?_⟩
  rw [show k + (d + 1) = (k + d) + 1 by omega,show sH asked l (k + d + 1) = sH asked l (k + d) ++ if nA asked (el l (k + d)) = true then [k + d] else [] from rfl,h,List.append_assoc]
theorem VN {k:Nat} (hk:k < l.length) (hf:nA asked (el l k) = true):(sH asked l k).length < (sH asked l l.length).length ∧ el (sH asked l l.length) (sH asked l k).length = k:=by
 obtain ⟨r,h⟩:=aEF (k:=k + 1) (asked:=asked) (l:=l) (l.length - (k + 1))
 rw [show k + 1 + (l.length - (k + 1)) = l.length by omega,show sH asked l (k + 1) = sH asked l k ++ if nA asked (el l k) = true then [k] else [] from rfl,if_pos hf] at h
 rw [h]
 refine ⟨by simp,?_⟩
 simp [el]
theorem sY.ylen (b:sY m l asked X q y):y.length = (sH asked l l.length).length:=by rw [b.best.len,mJ]
theorem sY.val (b:sY m l asked X q y) {k:Nat} (hk:k < l.length) (hf:nA asked (el l k) = true):el X k = el y (sH asked l k).length:=by
 obtain ⟨h1,h2⟩:=VN hk hf
 have:=b.at' _ h1
 rw [h2] at this
 exact this
theorem sY.rng (b:sY m l asked X q y) (h:EM m (l.map gD)) {i:Nat} (hi:i < l.length):0 <= el X i ∧ el X i <= (el l i).Sum:=by
 have hs:=(GX h hi).2.2.2
 cases hf:nA asked (el l i) with
 | false=>rw [b.off i hi hf]; omega
 | true =>
  obtain ⟨h1,h2⟩:=VN hi hf
  rw [b.val hi hf]
  have hj:(sH asked l i).length < (rC asked l).length:=by rw [mJ]; exact h1
  have c1:=b.best.bald.lo _ hj
  have c2:=b.best.bald.hi _ hj
  unfold tZ at c2
  rw [DI h1,h2] at c2
  exact ⟨c1,c2⟩
theorem sY.list (b:sY m l asked X q y):((sH asked l l.length).map fun k=>el X k) = y:=by
 refine List.ext_getElem? fun j=>?_
 rw [List.getElem?_map]
 by_cases hj:j < (sH asked l l.length).length
 ·have hy:j < y.length:=by rw [b.ylen]; exact hj
  rw [List.getElem?_eq_getElem hj,List.getElem?_eq_getElem hy,Option.map_some,← kA _ _ hj,b.at' j hj,kA _ _ hy]
 ·rw [List.getElem?_eq_none (by omega),List.getElem?_eq_none (by rw [b.ylen]; omega)]
  rfl
theorem sY.netF (b:sY m l asked X q y) (v:Nat):∀ k,k <= l.length->netF (n9 (l.map gD)) (qQ (l.map gD)) k (el X) v = Go.Proofs.Ytgjcnbgfaimepaa.netF (n9 (rC asked l)) (qQ (rC asked l)) (sH asked l k).length (el y) v
 | 0,_=>rfl
 | k + 1,hk=>by
  have ih:=sY.netF b v k (by omega)
  have hkl:k < l.length:=by omega
  rw [JC,ih]
  have e1:el (l.map gD) k = gD (el l k):=gK gD l k hkl
  cases hf:nA asked (el l k) with
  | false =>
   rw [show sH asked l (k + 1) = sH asked l k ++ if nA asked (el l k) = true then [k] else [] from rfl,hf,b.off k hkl hf]
   simp
  | true =>
   obtain ⟨h1,h2⟩:=VN hkl hf
   rw [show (sH asked l (k + 1)).length = (sH asked l k).length + 1 by rw [show sH asked l (k + 1) = sH asked l k ++ if nA asked (el l k) = true then [k] else [] from rfl,if_pos hf]; simp]
   rw [JC,b.val hkl hf]
   unfold n9 qQ
   rw [DI h1,h2,e1]
theorem D6 (h9:l.length <= 9) (hr:∀ i,i < l.length->(el l i).Rights.length <= 12) (ha:asked.length < 4611686018427387904):xH l asked:=⟨by omega,fun i hi=>by have:=hr i hi; omega,ha⟩
end
end Go.Proofs.Ytgjcnbgfaimepaa
