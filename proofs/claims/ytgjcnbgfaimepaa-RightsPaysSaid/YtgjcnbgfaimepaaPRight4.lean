/- Law 43: RightsKeeps. -/
import Derived.Test.YtgjcnbgfaimepaaPRight3
set_option linter.unusedVariables false
set_option linter.unusedSimpArgs false
namespace Go.Proofs.Ytgjcnbgfaimepaa
open Go.RowKit Vm
section
variable {m:Nat} {l:List aE} {asked X q y:List Int}
theorem aDw {k:Nat}:∀ d,∃ r,v6 asked l (k + d) = v6 asked l k ++ r
 | 0=>⟨[],by simp⟩
 | d + 1=>by
  obtain ⟨r,h⟩:=aDw (k:=k) d
  refine ⟨r ++ if yG asked (el l (k + d)) = true then [k + d] else [],?_⟩
  rw [show k + (d + 1) = (k + d) + 1 by omega,show v6 asked l (k + d + 1) = v6 asked l (k + d) ++ if yG asked (el l (k + d)) = true then [k + d] else [] from rfl,h,List.append_assoc]
theorem aCh {k:Nat} (hk:k < l.length) (hf:yG asked (el l k) = true):(v6 asked l k).length < (v6 asked l l.length).length ∧ el (v6 asked l l.length) (v6 asked l k).length = k:=by
 obtain ⟨r,h⟩:=aDw (k:=k + 1) (asked:=asked) (l:=l) (l.length - (k + 1))
 rw [show k + 1 + (l.length - (k + 1)) = l.length by omega,show v6 asked l (k + 1) = v6 asked l k ++ if yG asked (el l k) = true then [k] else [] from rfl,if_pos hf] at h
 rw [h]
 refine ⟨by simp,?_⟩
 simp [el]
theorem BN.ylen (b:BN m l asked X q y):y.length = (v6 asked l l.length).length:=by rw [b.best.len,xS]
theorem BN.val (b:BN m l asked X q y) {k:Nat} (hk:k < l.length) (hf:yG asked (el l k) = true):el X k = el y (v6 asked l k).length:=by
 obtain ⟨h1,h2⟩:=aCh hk hf
 have:=b.at' _ h1
 rw [h2] at this
 exact this
theorem BN.rng (b:BN m l asked X q y) (h:LR m (l.map kH)) {i:Nat} (hi:i < l.length):0 <= el X i ∧ el X i <= (el l i).Sum:=by
 have hs:=(yW h hi).2.2.2
 cases hf:yG asked (el l i) with
 | false=>rw [b.off i hi hf]; omega
 | true =>
  obtain ⟨h1,h2⟩:=aCh hi hf
  rw [b.val hi hf]
  have hj:(v6 asked l i).length < (yB asked l).length:=by rw [xS]; exact h1
  have c1:=b.best.bald.lo _ hj
  have c2:=b.best.bald.hi _ hj
  unfold uD at c2
  rw [NP h1,h2] at c2
  exact ⟨c1,c2⟩
theorem BN.list (b:BN m l asked X q y):((v6 asked l l.length).map fun k=>el X k) = y:=by
 refine List.ext_getElem? fun j=>?_
 rw [List.getElem?_map]
 by_cases hj:j < (v6 asked l l.length).length
 ·have hy:j < y.length:=by rw [b.ylen]; exact hj
  rw [List.getElem?_eq_getElem hj,List.getElem?_eq_getElem hy,Option.map_some,← O9 _ _ hj,b.at' j hj,O9 _ _ hy]
 ·rw [List.getElem?_eq_none (by omega),List.getElem?_eq_none (by rw [b.ylen]; omega)]
  rfl
theorem BN.netF (b:BN m l asked X q y) (v:Nat):∀ k,k <= l.length->netF (oW (l.map kH)) (qV (l.map kH)) k (el X) v = Go.Proofs.Ytgjcnbgfaimepaa.netF (oW (yB asked l)) (qV (yB asked l)) (v6 asked l k).length (el y) v
 | 0,_=>rfl
 | k + 1,hk=>by
  have ih:=BN.netF b v k (by omega)
  have hkl:k < l.length:=by omega
  rw [JC,ih]
  have e1:el (l.map kH) k = kH (el l k):=eW kH l k hkl
  cases hf:yG asked (el l k) with
  | false =>
   rw [show v6 asked l (k + 1) = v6 asked l k ++ if yG asked (el l k) = true then [k] else [] from rfl,hf,b.off k hkl hf]
   simp
  | true =>
   obtain ⟨h1,h2⟩:=aCh hkl hf
   rw [show (v6 asked l (k + 1)).length = (v6 asked l k).length + 1 by rw [show v6 asked l (k + 1) = v6 asked l k ++ if yG asked (el l k) = true then [k] else [] from rfl,if_pos hf]; simp]
   rw [JC,b.val hkl hf]
   unfold oW qV
   rw [NP h1,h2,e1]
theorem aKY (h9:l.length <= 9) (hr:∀ i,i < l.length->(el l i).Rights.length <= 12) (ha:asked.length < 4611686018427387904):ZE l asked:=⟨by omega,fun i hi=>by have:=hr i hi; omega,ha⟩
end
end Go.Proofs.Ytgjcnbgfaimepaa
