/- Law 43: what best computes: the free duties are cleared, and their sums put back in their places. -/
import Derived.Test.YtgjcnbgfaimepaaPRight1
set_option linter.unusedVariables false
set_option linter.unusedSimpArgs false
namespace Go.Proofs.Ytgjcnbgfaimepaa
open Go.RowKit Vm
def qK (asked:List Int) (l:List aE):Nat->List Nat
 | 0=>[]
 | k + 1=>qK asked l k ++ if jD asked (el l k) = true then [k] else []
section
variable {asked:List Int} {l:List aE}
theorem aAR:∀ k,∀ i ∈ qK asked l k,i < k ∧ jD asked (el l i) = true
 | 0,i,h=>by cases h
 | k + 1,i,h=>by
  unfold qK at h
  rcases List.mem_append.1 h with q | q
  ·have:=aAR k i q
   exact ⟨by omega,this.2⟩
  ·split at q
   ·rename_i c
    have:i = k:=by simpa using q
    subst this
    exact ⟨by omega,c⟩
   ·cases q
theorem aDu:∀ k,(qK asked l k).Pairwise (· < ·)
 | 0=>List.Pairwise.nil
 | k + 1=>by
  unfold qK
  refine List.pairwise_append.2 ⟨aDu k,?_,fun a ha b hb=>?_⟩
  ·split
   ·exact List.pairwise_cons.2 ⟨fun _ h=>(by cases h),List.Pairwise.nil⟩
   ·exact List.Pairwise.nil
  ·have:=aAR k a ha
   split at hb
   ·have:b = k:=by simpa using hb
    omega
   ·cases hb
theorem OI:∀ k,(qK asked l k).length <= k
 | 0=>Nat.le_refl _
 | k + 1=>by
  have:=OI k
  unfold qK
  rw [List.length_append]
  split <;> simp <;> omega
def nU (asked:List Int) (l:List aE):List aF:=(qK asked l l.length).map fun k=>iL (el l k)
theorem lD:(nU asked l).length = (qK asked l l.length).length:=by simp [nU]
theorem CL {j:Nat} (hj:j < (qK asked l l.length).length):el (nU asked l) j = iL (el l (el (qK asked l l.length) j)):=fN _ _ _ hj
theorem L0 {j:Nat} (hj:j < (qK asked l l.length).length):el (qK asked l l.length) j < l.length ∧ jD asked (el l (el (qK asked l l.length) j)) = true:=aAR _ _ (EH _ _ hj)
theorem F3 {n:Nat} (h:IW n (l.map iL)) {i:Nat} (hi:i < l.length):(0 <= (el l i).From ∧ (el l i).From < n) ∧ (0 <= (el l i).To ∧ (el l i).To < n) ∧ (el l i).From ≠ (el l i).To ∧ 1 <= (el l i).Sum ∧ (el l i).Sum <= 1099511627776:=by
 have:=h.each i (by rw [List.length_map]; exact hi)
 rw [fN iL l i hi] at this
 exact this
theorem aHN {n:Nat} (h:IW n (l.map iL)):IW n (nU asked l) where
 nn:=h.nn
 len:=by
  have:=h.len
  have h2:=OI (asked:=asked) (l:=l) l.length
  rw [List.length_map] at this
  rw [lD]; omega
 each:=fun j hj=>by
  rw [lD] at hj
  rw [CL hj]
  exact F3 h (L0 hj).1
structure aCN (l:List aE) (asked:List Int):Prop where
 len:l.length <= 1000
 rights:∀ i,i < l.length->(el l i).Rights.length <= 1000
 asked:asked.length < 4611686018427387904
theorem aOj (n:Int) (h:aCN l asked):pY n l asked 0 [] [] = some (nU asked l,(qK asked l l.length).map fun (k:Nat)=>(k:Int)):=by
 unfold pY
 have hlen:=h.len
 have key:∃ x,dO (fun (w:Int × List aF × List Int)=>dV n l asked w.1 w.2.1 w.2.2) (0,[],[]) = some x ∧ x = (nU asked l,(qK asked l l.length).map fun (k:Nat)=>(k:Int)):=by
  refine iM (step:=fun (w:Int × List aF × List Int)=>dV n l asked w.1 w.2.1 w.2.2) (fun k (a:List aF × List Int)=>((k:Int),a.1,a.2)) l.length (fun k a=>a = ((qK asked l k).map fun k=>iL (el l k),(qK asked l k).map fun (k:Nat)=>(k:Int))) (fun x=>x = (nU asked l,(qK asked l l.length).map fun (k:Nat)=>(k:Int))) ?_ ?_ ([],[]) rfl
  ·rintro k a hk rfl
   refine .inl ⟨_,?_,rfl⟩
   show dV n l asked k _ _ = _
   unfold dV
   have w3:IntKind.wrap .i64 ((k:Int) + 1) = ((k + 1:Nat):Int):=cD (by omega)
   have hfl:=OI (asked:=asked) (l:=l) k
   rw [if_pos (by simpa using hk),eO l k hk,Option.bind_some,aPM _ _ h.asked (by have:=h.rights k hk; omega),Option.bind_some,w3]
   rw [show qK asked l (k + 1) = qK asked l k ++ if jD asked (el l k) = true then [k] else [] from rfl]
   cases hf:jD asked (el l k) with
   | true =>
    rw [if_pos rfl,aOW,Option.bind_some,if_pos (by simp; omega),if_pos (by simp; omega)]
    simp
   | false=>simp
  ·rintro a rfl
   refine ⟨_,?_,rfl⟩
   show dV n l asked l.length _ _ = _
   unfold dV
   rw [if_neg (by simp)]
   rfl
 obtain ⟨x,h1,h2⟩:=key
 rw [← h2]
 exact h1
structure rO (m:Nat) (l:List aE) (asked:List Int) (X q y:List Int):Prop where
 best:ST m (nU asked l) y q
 len:X.length = l.length
 at' : ∀ j,j < (qK asked l l.length).length->el X (el (qK asked l l.length) j) = el y j
 off:∀ i,i < l.length->jD asked (el l i) = false->el X i = 0
theorem aQV {I:List Nat} (h:I.Pairwise (· < ·)) {a b:Nat} (ha:a < I.length) (hb:b < I.length) (e:el I a = el I b):a = b:=by
 rw [FD _ _ ha,FD _ _ hb] at e
 rcases Nat.lt_trichotomy a b with q | q | q
 ·have:=List.pairwise_iff_getElem.1 h a b ha hb q; omega
 ·exact q
 ·have:=List.pairwise_iff_getElem.1 h b a hb ha q; omega
theorem aKq {m:Nat} (h:aCN l asked) (hk:IW m (l.map iL)):∃ X q y,mK m l asked = some (X,q) ∧ rO m l asked X q y:=by
 have hlen:=h.len
 obtain ⟨y,q,c1,c2⟩:=aC4 (aHN (asked:=asked) hk)
 have hyl:y.length = (qK asked l l.length).length:=by rw [c2.len,lD]
 have hIl:=OI (asked:=asked) (l:=l) l.length
 obtain ⟨X,h1,h2⟩ : ∃ X,pT (y,q,0) (nU asked l,(qK asked l l.length).map fun (k:Nat)=>(k:Int)) 0 (List.replicate l.length 0) = some X ∧ X.length = l.length ∧ (∀ j,j < y.length->el X (el (qK asked l l.length) j) = el y j) ∧ ∀ i,i < l.length->(∀ j,j < y.length->el (qK asked l l.length) j ≠ i)->el X i = 0:=by
  unfold pT
  refine iM (step:=fun (w:Int × List Int)=>eQ (y,q,0) (nU asked l,(qK asked l l.length).map fun (k:Nat)=>(k:Int)) w.1 w.2) (fun k (a:List Int)=>((k:Int),a)) y.length (fun k a=>a.length = l.length ∧ (∀ j,j < k->el a (el (qK asked l l.length) j) = el y j) ∧ ∀ i,i < l.length->(∀ j,j < k->el (qK asked l l.length) j ≠ i)->el a i = 0) _ ?_ ?_ (List.replicate l.length 0) ⟨by simp,fun j hj=>by omega,fun i hi _=>by simp [el,hi]⟩
  ·rintro k a hk' ⟨a1,a2,a3⟩
   have hkI:k < (qK asked l l.length).length:=by omega
   have hlt:=(L0 hkI).1
   refine .inl ⟨a.set (el (qK asked l l.length) k) (el y k),?_,by simp [a1],fun j hj=>?_,fun i hi hne=>?_⟩
   ·show eQ (y,q,0) _ k a = _
    unfold eQ
    have w3:IntKind.wrap .i64 ((k:Int) + 1) = ((k + 1:Nat):Int):=cD (by omega)
    have e1:((qK asked l l.length).map fun (k:Nat)=>(k:Int))[(k:Int).toNat]? = some ((el (qK asked l l.length) k:Nat):Int):=by
     rw [Int.toNat_natCast,List.getElem?_map,List.getElem?_eq_getElem hkI,FD _ _ hkI]
     rfl
    have e2:a[(((el (qK asked l l.length) k:Nat):Int)).toNat]? = some (el a (el (qK asked l l.length) k)):=by
     rw [Int.toNat_natCast]
     exact HE a _ (by omega)
    simp only
    rw [if_pos (by simpa using hk'),eO y k hk',Option.bind_some,if_pos ⟨by omega,by simp; omega⟩,e1,Option.bind_some,if_pos ⟨by omega,by simp; omega⟩,e2,Option.bind_some,w3,Int.toNat_natCast]
   ·rw [c8]
    by_cases e:j = k
    ·subst e
     rw [if_pos ⟨rfl,by omega⟩]
    ·have hne:el (qK asked l l.length) j ≠ el (qK asked l l.length) k:=fun q=>e (aQV (aDu _) (by omega) hkI q)
     rw [if_neg (fun q=>hne q.1)]
     exact a2 j (by omega)
   ·rw [c8]
    rw [if_neg (fun q=>hne k (by omega) q.1.symm)]
    exact a3 i hi fun j hj=>hne j (by omega)
  ·rintro a ⟨a1,a2,a3⟩
   refine ⟨a,?_,a1,a2,a3⟩
   show eQ (y,q,0) _ y.length a = _
   unfold eQ
   simp only
   rw [if_neg (by simp)]
 obtain ⟨h2,h3,h4⟩:=h2
 refine ⟨X,q,y,?_,c2,h2,fun j hj=>h3 j (by omega),fun i hi hf=>h4 i hi fun j hj e=>?_⟩
 ·unfold mK
  rw [aOj m h,Option.bind_some]
  simp only
  rw [c1,Option.bind_some,if_pos (by omega),Int.toNat_natCast,h1]
  rfl
 ·have:=(L0 (asked:=asked) (l:=l) (j:=j) (by omega)).2
  rw [e,hf] at this
  cases this
end
end Go.Proofs.Ytgjcnbgfaimepaa
