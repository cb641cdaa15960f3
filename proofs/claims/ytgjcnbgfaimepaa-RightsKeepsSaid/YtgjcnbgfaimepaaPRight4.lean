/- Law 43: RightsKeeps. -/
import Derived.Test.YtgjcnbgfaimepaaPRight3
set_option linter.unusedVariables false
set_option linter.unusedSimpArgs false
namespace Go.Proofs.Ytgjcnbgfaimepaa
open Go.RowKit Vm
section
variable {m:Nat} {l:List aE} {asked X q y:List Int}
theorem aDM {k:Nat}:∀ d,∃ r,tT asked l (k + d) = tT asked l k ++ r
 | 0=>⟨[],by simp⟩
 | d + 1=>by
  obtain ⟨r,h⟩:=aDM (k:=k) d
  refine ⟨r ++ if oQ asked (el l (k + d)) = true then [k + d] else [],?_⟩
  rw [show k + (d + 1) = (k + d) + 1 by omega,show tT asked l (k + d + 1) = tT asked l (k + d) ++ if oQ asked (el l (k + d)) = true then [k + d] else [] from rfl,h,List.append_assoc]
theorem aAX {k:Nat} (hk:k < l.length) (hf:oQ asked (el l k) = true):(tT asked l k).length < (tT asked l l.length).length ∧ el (tT asked l l.length) (tT asked l k).length = k:=by
 obtain ⟨r,h⟩:=aDM (k:=k + 1) (asked:=asked) (l:=l) (l.length - (k + 1))
 rw [show k + 1 + (l.length - (k + 1)) = l.length by omega,show tT asked l (k + 1) = tT asked l k ++ if oQ asked (el l k) = true then [k] else [] from rfl,if_pos hf] at h
 rw [h]
 refine ⟨by simp,?_⟩
 simp [el]
theorem AV.ylen (b:AV m l asked X q y):y.length = (tT asked l l.length).length:=by rw [b.best.len,xT]
theorem AV.val (b:AV m l asked X q y) {k:Nat} (hk:k < l.length) (hf:oQ asked (el l k) = true):el X k = el y (tT asked l k).length:=by
 obtain ⟨h1,h2⟩:=aAX hk hf
 have:=b.at' _ h1
 rw [h2] at this
 exact this
theorem AV.rng (b:AV m l asked X q y) (h:I1 m (l.map fK)) {i:Nat} (hi:i < l.length):0 <= el X i ∧ el X i <= (el l i).Sum:=by
 have hs:=(GI h hi).2.2.2
 cases hf:oQ asked (el l i) with
 | false=>rw [b.off i hi hf]; omega
 | true =>
  obtain ⟨h1,h2⟩:=aAX hi hf
  rw [b.val hi hf]
  have hj:(tT asked l i).length < (oM asked l).length:=by rw [xT]; exact h1
  have c1:=b.best.bald.lo _ hj
  have c2:=b.best.bald.hi _ hj
  unfold qQ at c2
  rw [NR h1,h2] at c2
  exact ⟨c1,c2⟩
theorem AV.list (b:AV m l asked X q y):((tT asked l l.length).map fun k=>el X k) = y:=by
 refine List.ext_getElem? fun j=>?_
 rw [List.getElem?_map]
 by_cases hj:j < (tT asked l l.length).length
 ·have hy:j < y.length:=by rw [b.ylen]; exact hj
  rw [List.getElem?_eq_getElem hj,List.getElem?_eq_getElem hy,Option.map_some,← L6 _ _ hj,b.at' j hj,L6 _ _ hy]
 ·rw [List.getElem?_eq_none (by omega),List.getElem?_eq_none (by rw [b.ylen]; omega)]
  rfl
theorem AV.netF (b:AV m l asked X q y) (v:Nat):∀ k,k <= l.length->netF (k9 (l.map fK)) (mD (l.map fK)) k (el X) v = Go.Proofs.Ytgjcnbgfaimepaa.netF (k9 (oM asked l)) (mD (oM asked l)) (tT asked l k).length (el y) v
 | 0,_=>rfl
 | k + 1,hk=>by
  have ih:=AV.netF b v k (by omega)
  have hkl:k < l.length:=by omega
  rw [AC,ih]
  have e1:el (l.map fK) k = fK (el l k):=eN fK l k hkl
  cases hf:oQ asked (el l k) with
  | false =>
   rw [show tT asked l (k + 1) = tT asked l k ++ if oQ asked (el l k) = true then [k] else [] from rfl,hf,b.off k hkl hf]
   simp
  | true =>
   obtain ⟨h1,h2⟩:=aAX hkl hf
   rw [show (tT asked l (k + 1)).length = (tT asked l k).length + 1 by rw [show tT asked l (k + 1) = tT asked l k ++ if oQ asked (el l k) = true then [k] else [] from rfl,if_pos hf]; simp]
   rw [AC,b.val hkl hf]
   unfold k9 mD
   rw [NR h1,h2,e1]
theorem aRR (hlen:l.length <= 100) (h:I1 m (l.map fK)) (b:AV m l asked X q y) {v:Nat} (hv:v < m):iP l X v = some 0:=by
 unfold iP
 have key:∃ x,jO l X v 0 0 = some x ∧ x = netF (k9 (l.map fK)) (mD (l.map fK)) l.length (el X) v:=by
  unfold jO
  refine iM (step:=fun (w:Int × Int)=>cP l X v w.1 w.2) (fun k (a:Int)=>(a,(k:Int))) l.length (fun k a=>a = netF (k9 (l.map fK)) (mD (l.map fK)) k (el X) v) _ ?_ ?_ 0 rfl
  ·rintro k a hk rfl
   refine .inl ⟨_,?_,rfl⟩
   show cP l X v _ k = _
   have hXk:k < X.length:=by rw [b.len]; exact hk
   have w3:IntKind.wrap .i64 ((k:Int) + 1) = ((k + 1:Nat):Int):=bW (by omega)
   have hrng:∀ i,i < l.length->0 <= el X i ∧ el X i <= qQ (l.map fK) i:=fun i hi=>by
    have:=b.rng h hi
    unfold qQ
    rw [eN fK l i hi]
    exact this
   have hb1:=NT h (x:=X) (k:=k) (by rw [List.length_map]; omega) (fun i hi=>hrng i (by omega)) v
   have hxk:=b.rng h hk
   have he:=GI h hk
   have e1:el (l.map fK) k = fK (el l k):=eN fK l k hk
   rw [AC]
   generalize netF (k9 (l.map fK)) (mD (l.map fK)) k (el X) v = N at hb1 ⊢
   unfold k9 mD
   rw [e1]
   have hj:∀ z:Int,-(200 * 1099511627776) <= z->z <= 200 * 1099511627776->gY l X v k z = some (z - if (fK (el l k)).From.toNat = v then el X k else 0):=fun z z1 z2=>by
    unfold gY
    rw [dK l k hk,Option.bind_some]
    show (if ((el l k).From == (v:Int)) = true then _ else _) = some (z - if (el l k).From.toNat = v then el X k else 0)
    by_cases c:(el l k).From = v
    ·rw [if_pos (by simpa using c),dK X k hXk,Option.bind_some,jM (by omega) (by omega),if_pos (by omega)]
    ·rw [if_neg (by simpa using c),if_neg (by omega),Int.sub_zero]
   unfold cP
   rw [if_pos (by simpa using hk),dK l k hk,Option.bind_some,w3]
   show (if ((el l k).To == (v:Int)) = true then _ else _) = some (Sum.inl (N + ((if (el l k).To.toNat = v then el X k else 0) - if (fK (el l k)).From.toNat = v then el X k else 0),((k + 1:Nat):Int)))
   by_cases c:(el l k).To = v
   ·rw [if_pos (by simpa using c),dK X k hXk,Option.bind_some,jM (by omega) (by omega),hj _ (by omega) (by omega),Option.bind_some,if_pos (show (el l k).To.toNat = v by omega)]
    congr 3
    omega
   ·rw [if_neg (by simpa using c),hj _ (by omega) (by omega),Option.bind_some,if_neg (show ¬ (el l k).To.toNat = v by omega)]
    congr 3
    omega
  ·rintro a rfl
   refine ⟨_,?_,rfl⟩
   show cP l X v _ l.length = _
   unfold cP
   rw [if_neg (by simp)]
 obtain ⟨x,h1,rfl⟩:=key
 rw [h1,Option.bind_some,b.netF v _ (Nat.le_refl _)]
 have:=b.best.bald.net v hv
 rw [xT] at this
 rw [this]
theorem aRa {k:Nat} (hk:k < l.length):kU l (k:Int) ((k + 1:Nat):Int) = [el l k]:=by
 unfold kU
 rw [Int.toNat_natCast,Int.toNat_natCast,List.take_succ_eq_append_getElem hk,L6 _ _ hk,List.drop_append,List.drop_of_length_le (by rw [List.length_take]; omega)]
 simp [Nat.min_eq_left (Nat.le_of_lt hk)]
theorem aKi (hS:OY l asked) (h:I1 m (l.map fK)) (b:AV m l asked X q y) (n:Int) (r1:Bool):dA n l asked r1 (X,q,0) 0 [] [] = some (.inl (oM asked l,y)):=by
 have hlen:=hS.len
 have key:∃ x,dA n l asked r1 (X,q,0) 0 [] [] = some x ∧ x = .inl (oM asked l,(tT asked l l.length).map fun k=>el X k):=by
  unfold dA
  refine iM (step:=fun (w:Int × List aF × List Int)=>bG n l asked r1 (X,q,0) w.1 w.2.1 w.2.2) (fun k (a:List aF × List Int)=>((k:Int),a.1,a.2)) l.length (fun k a=>a = ((tT asked l k).map fun k=>fK (el l k),(tT asked l k).map fun k=>el X k)) _ ?_ ?_ ([],[]) rfl
  ·rintro k a hk rfl
   refine .inl ⟨_,?_,rfl⟩
   show bG n l asked r1 (X,q,0) k _ _ = _
   unfold bG
   have w3:IntKind.wrap .i64 ((k:Int) + 1) = ((k + 1:Nat):Int):=bW (by omega)
   have hXk:k < X.length:=by rw [b.len]; exact hk
   have hr:=b.rng h hk
   have hfl:=L9 (asked:=asked) (l:=l) k
   have hone:iF [el l k] [1] asked = some (oQ asked (el l k)):=by
    have hs1:OY [el l k] asked:=⟨by simp,fun i hi=>by
     have:i = 0:=by simpa using hi
     subst this
     exact hS.rights k hk,hS.asked⟩
    rw [aDO hs1]
    show some (true && (true && (decide ((1:Int) = 0) || oQ asked (el l k)))) = _
    simp
   have hso:i8 l.length (k:Int) ((k + 1:Nat):Int):=⟨by omega,by omega,by omega⟩
   simp only [dK X k hXk,dK l k hk,Option.bind_some,w3]
   rw [if_pos (by simpa using hk),if_neg (by simp; omega),if_neg (by simp; omega),if_pos hso,aRa hk,hone,Option.bind_some]
   rw [show tT asked l (k + 1) = tT asked l k ++ if oQ asked (el l k) = true then [k] else [] from rfl]
   cases hf:oQ asked (el l k) with
   | true =>
    rw [if_pos rfl,if_pos (by simp; omega),if_pos (by simp; omega)]
    simp [fK]
   | false=>simp
  ·rintro a rfl
   refine ⟨_,?_,rfl⟩
   show bG n l asked r1 (X,q,0) l.length _ _ = _
   unfold bG
   rw [if_neg (by simp)]
   rfl
 obtain ⟨x,h1,rfl⟩:=key
 rw [h1,b.list]
theorem aIn (h9:l.length <= 9) (hr:∀ i,i < l.length->(el l i).Rights.length <= 12) (ha:asked.length < 4611686018427387904):OY l asked:=⟨by omega,fun i hi=>by have:=hr i hi; omega,ha⟩
theorem YU (hs:gA = some true) (n:Int) (l:List aE) (asked:List Int) (hl:l.length < 4611686018427387904) (ha:asked.length < 4611686018427387904):fV n l asked = some true:=by
 unfold fV
 obtain ⟨bf,hb,hf⟩:=aRO n l hl
 rw [hs,Option.bind_some,hb,Option.bind_some]
 cases bf with
 | false=>rfl
 | true =>
  obtain ⟨h9,hr⟩:=hf rfl
  have hS:=aIn h9 hr ha
  rw [if_neg (by decide)]
  cases hc:FE n l && RN asked with
  | false =>
   rw [aH7 hS hc]
   rfl
  | true =>
   rw [Bool.and_eq_true] at hc
   obtain ⟨m,X,q,y,rfl,hk,e1,b⟩:=aJt hS hc.1 hc.2
   rw [e1,Option.bind_some,if_neg (by simp),if_neg (by simp [b.len]),aDO hS,Option.bind_some]
   have hall:tQ (fun i=>decide (el X i = 0) || oQ asked (el l i)) l.length = true:=lQ.2 fun i hi=>by
    cases hf:oQ asked (el l i) with
    | true=>simp
    | false=>rw [b.off i hi hf]; rfl
   rw [hall,decide_eq_true b.len,if_neg (by decide),aKi hS hk b,Option.bind_some,Sum.elim_inl]
   have key:=rP? (step:=fun w=>bH m l true (X,q,0) (oM asked l,y) w) (fun i:Nat=>(i:Int)) m (fun _=>true) () ?_ ?_
   ·change gH m l true (X,q,0) (oM asked l,y) 0 = _ at key
    rw [key,lQ.2 fun _ _=>rfl,if_pos rfl,Option.bind_some,Sum.elim_inl,if_pos rfl]
    obtain ⟨bb,p1,p2⟩:=aEk (x:=y) (q:=q) (aCG (asked:=asked) hk)
    show (jH m (oM asked l) y q).bind _ = _
    rw [p1,p2.2 (b.best.prov (aCG (asked:=asked) hk))]
    rfl
   ·intro v hv
    show bH m l true (X,q,0) (oM asked l,y) v = _
    unfold bH
    have:=hk.nn
    have w3:IntKind.wrap .i64 ((v:Int) + 1) = ((v + 1:Nat):Int):=bW (by omega)
    rw [if_pos (by simpa using hv)]
    show (iP l X v).bind _ = _
    rw [aRR (by omega) hk b hv,Option.bind_some,if_neg (by decide),w3]
    rfl
   ·show bH m l true (X,q,0) (oM asked l,y) m = _
    unfold bH
    rw [if_neg (by simp)]
end
end Go.Proofs.Ytgjcnbgfaimepaa
