/- Law 43: what best computes: the free duties are cleared, and their sums put back in their places. -/
import Derived.Test.YtgjcnbgfaimepaaPRight1
set_option linter.unusedVariables false
set_option linter.unusedSimpArgs false
namespace Go.Proofs.Ytgjcnbgfaimepaa
open Go.RowKit Vm
def v6 (asked:List Int) (l:List aE):Nat->List Nat
 | 0=>[]
 | k + 1=>v6 asked l k ++ if yG asked (el l k) = true then [k] else []
section
variable {asked:List Int} {l:List aE}
theorem aDf:∀ k,∀ i ∈ v6 asked l k,i < k ∧ yG asked (el l i) = true
 | 0,i,h=>by cases h
 | k + 1,i,h=>by
  unfold v6 at h
  rcases List.mem_append.1 h with q | q
  ·have:=aDf k i q
   exact ⟨by omega,this.2⟩
  ·split at q
   ·rename_i c
    have:i = k:=by simpa using q
    subst this
    exact ⟨by omega,c⟩
   ·cases q
theorem aEl:∀ k,(v6 asked l k).Pairwise (· < ·)
 | 0=>List.Pairwise.nil
 | k + 1=>by
  unfold v6
  refine List.pairwise_append.2 ⟨aEl k,?_,fun a ha b hb=>?_⟩
  ·split
   ·exact List.pairwise_cons.2 ⟨fun _ h=>(by cases h),List.Pairwise.nil⟩
   ·exact List.Pairwise.nil
  ·have:=aDf k a ha
   split at hb
   ·have:b = k:=by simpa using hb
    omega
   ·cases hb
theorem P6:∀ k,(v6 asked l k).length <= k
 | 0=>Nat.le_refl _
 | k + 1=>by
  have:=P6 k
  unfold v6
  rw [List.length_append]
  split <;> simp <;> omega
def yB (asked:List Int) (l:List aE):List aI:=(v6 asked l l.length).map fun k=>kH (el l k)
theorem xS:(yB asked l).length = (v6 asked l l.length).length:=by simp [yB]
theorem NP {j:Nat} (hj:j < (v6 asked l l.length).length):el (yB asked l) j = kH (el l (el (v6 asked l l.length) j)):=eW _ _ _ hj
theorem aDk {j:Nat} (hj:j < (v6 asked l l.length).length):el (v6 asked l l.length) j < l.length ∧ yG asked (el l (el (v6 asked l l.length) j)) = true:=aDf _ _ (F3 _ _ hj)
theorem yW {n:Nat} (h:LR n (l.map kH)) {i:Nat} (hi:i < l.length):(0 <= (el l i).From ∧ (el l i).From < n) ∧ (0 <= (el l i).To ∧ (el l i).To < n) ∧ (el l i).From ≠ (el l i).To ∧ 1 <= (el l i).Sum ∧ (el l i).Sum <= 1099511627776:=by
 have:=h.each i (by rw [List.length_map]; exact hi)
 rw [eW kH l i hi] at this
 exact this
theorem aQo {n:Nat} (h:LR n (l.map kH)):LR n (yB asked l) where
 nn:=h.nn
 len:=by
  have:=h.len
  have h2:=P6 (asked:=asked) (l:=l) l.length
  rw [List.length_map] at this
  rw [xS]; omega
 each:=fun j hj=>by
  rw [xS] at hj
  rw [NP hj]
  exact yW h (aDk hj).1
structure ZE (l:List aE) (asked:List Int):Prop where
 len:l.length <= 1000
 rights:∀ i,i < l.length->(el l i).Rights.length <= 1000
 asked:asked.length < 4611686018427387904
theorem aMo (n:Int) (h:ZE l asked):qQ n l asked 0 [] [] = some (yB asked l,(v6 asked l l.length).map fun (k:Nat)=>(k:Int)):=by
 unfold qQ
 have hlen:=h.len
 have key:∃ x,dK (fun (w:Int × List aI × List Int)=>d8 n l asked w.1 w.2.1 w.2.2) (0,[],[]) = some x ∧ x = (yB asked l,(v6 asked l l.length).map fun (k:Nat)=>(k:Int)):=by
  refine hZ (step:=fun (w:Int × List aI × List Int)=>d8 n l asked w.1 w.2.1 w.2.2) (fun k (a:List aI × List Int)=>((k:Int),a.1,a.2)) l.length (fun k a=>a = ((v6 asked l k).map fun k=>kH (el l k),(v6 asked l k).map fun (k:Nat)=>(k:Int))) (fun x=>x = (yB asked l,(v6 asked l l.length).map fun (k:Nat)=>(k:Int))) ?_ ?_ ([],[]) rfl
  ·rintro k a hk rfl
   refine .inl ⟨_,?_,rfl⟩
   show d8 n l asked k _ _ = _
   unfold d8
   have w3:IntKind.wrap .i64 ((k:Int) + 1) = ((k + 1:Nat):Int):=cD (by omega)
   have hfl:=P6 (asked:=asked) (l:=l) k
   rw [if_pos (by simpa using hk),dU l k hk,Option.bind_some,aQP _ _ h.asked (by have:=h.rights k hk; omega),Option.bind_some,w3]
   rw [show v6 asked l (k + 1) = v6 asked l k ++ if yG asked (el l k) = true then [k] else [] from rfl]
   cases hf:yG asked (el l k) with
   | true =>
    rw [if_pos rfl,aP4,Option.bind_some,if_pos (by simp; omega),if_pos (by simp; omega)]
    simp
   | false=>simp
  ·rintro a rfl
   refine ⟨_,?_,rfl⟩
   show d8 n l asked l.length _ _ = _
   unfold d8
   rw [if_neg (by simp)]
   rfl
 obtain ⟨x,h1,h2⟩:=key
 rw [← h2]
 exact h1
structure BN (m:Nat) (l:List aE) (asked:List Int) (X q y:List Int):Prop where
 best:UU m (yB asked l) y q
 len:X.length = l.length
 at' : ∀ j,j < (v6 asked l l.length).length->el X (el (v6 asked l l.length) j) = el y j
 off:∀ i,i < l.length->yG asked (el l i) = false->el X i = 0
theorem aR7 {I:List Nat} (h:I.Pairwise (· < ·)) {a b:Nat} (ha:a < I.length) (hb:b < I.length) (e:el I a = el I b):a = b:=by
 rw [O9 _ _ ha,O9 _ _ hb] at e
 rcases Nat.lt_trichotomy a b with q | q | q
 ·have:=List.pairwise_iff_getElem.1 h a b ha hb q; omega
 ·exact q
 ·have:=List.pairwise_iff_getElem.1 h b a hb ha q; omega
theorem aI8 {m:Nat} (h:ZE l asked) (hk:LR m (l.map kH)):∃ X q y,mU m l asked = some (X,q) ∧ BN m l asked X q y:=by
 have hlen:=h.len
 obtain ⟨y,q,c1,c2⟩:=aNT (aQo (asked:=asked) hk)
 have hyl:y.length = (v6 asked l l.length).length:=by rw [c2.len,xS]
 have hIl:=P6 (asked:=asked) (l:=l) l.length
 obtain ⟨X,h1,h2⟩ : ∃ X,qS (y,q,0) (yB asked l,(v6 asked l l.length).map fun (k:Nat)=>(k:Int)) 0 (List.replicate l.length 0) = some X ∧ X.length = l.length ∧ (∀ j,j < y.length->el X (el (v6 asked l l.length) j) = el y j) ∧ ∀ i,i < l.length->(∀ j,j < y.length->el (v6 asked l l.length) j ≠ i)->el X i = 0:=by
  unfold qS
  refine hZ (step:=fun (w:Int × List Int)=>e9 (y,q,0) (yB asked l,(v6 asked l l.length).map fun (k:Nat)=>(k:Int)) w.1 w.2) (fun k (a:List Int)=>((k:Int),a)) y.length (fun k a=>a.length = l.length ∧ (∀ j,j < k->el a (el (v6 asked l l.length) j) = el y j) ∧ ∀ i,i < l.length->(∀ j,j < k->el (v6 asked l l.length) j ≠ i)->el a i = 0) _ ?_ ?_ (List.replicate l.length 0) ⟨by simp,fun j hj=>by omega,fun i hi _=>by simp [el,hi]⟩
  ·rintro k a hk' ⟨a1,a2,a3⟩
   have hkI:k < (v6 asked l l.length).length:=by omega
   have hlt:=(aDk hkI).1
   refine .inl ⟨a.set (el (v6 asked l l.length) k) (el y k),?_,by simp [a1],fun j hj=>?_,fun i hi hne=>?_⟩
   ·show e9 (y,q,0) _ k a = _
    unfold e9
    have w3:IntKind.wrap .i64 ((k:Int) + 1) = ((k + 1:Nat):Int):=cD (by omega)
    have e1:((v6 asked l l.length).map fun (k:Nat)=>(k:Int))[(k:Int).toNat]? = some ((el (v6 asked l l.length) k:Nat):Int):=by
     rw [Int.toNat_natCast,List.getElem?_map,List.getElem?_eq_getElem hkI,O9 _ _ hkI]
     rfl
    have e2:a[(((el (v6 asked l l.length) k:Nat):Int)).toNat]? = some (el a (el (v6 asked l l.length) k)):=by
     rw [Int.toNat_natCast]
     exact I9 a _ (by omega)
    simp only
    rw [if_pos (by simpa using hk'),dU y k hk',Option.bind_some,if_pos ⟨by omega,by simp; omega⟩,e1,Option.bind_some,if_pos ⟨by omega,by simp; omega⟩,e2,Option.bind_some,w3,Int.toNat_natCast]
   ·rw [dJ]
    by_cases e:j = k
    ·subst e
     rw [if_pos ⟨rfl,by omega⟩]
    ·have hne:el (v6 asked l l.length) j ≠ el (v6 asked l l.length) k:=fun q=>e (aR7 (aEl _) (by omega) hkI q)
     rw [if_neg (fun q=>hne q.1)]
     exact a2 j (by omega)
   ·rw [dJ]
    rw [if_neg (fun q=>hne k (by omega) q.1.symm)]
    exact a3 i hi fun j hj=>hne j (by omega)
  ·rintro a ⟨a1,a2,a3⟩
   refine ⟨a,?_,a1,a2,a3⟩
   show e9 (y,q,0) _ y.length a = _
   unfold e9
   simp only
   rw [if_neg (by simp)]
 obtain ⟨h2,h3,h4⟩:=h2
 refine ⟨X,q,y,?_,c2,h2,fun j hj=>h3 j (by omega),fun i hi hf=>h4 i hi fun j hj e=>?_⟩
 ·unfold mU
  rw [aMo m h,Option.bind_some]
  simp only
  rw [c1,Option.bind_some,if_pos (by omega),Int.toNat_natCast,h1]
  rfl
 ·have:=(aDk (asked:=asked) (l:=l) (j:=j) (by omega)).2
  rw [e,hf] at this
  cases this
end
end Go.Proofs.Ytgjcnbgfaimepaa
