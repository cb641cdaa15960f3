/- Law 43: who is not asked; the lists of places, by their length. -/
import Derived.Test.YtgjcnbgfaimepaaPRight8
set_option linter.unusedVariables false
set_option linter.unusedSimpArgs false
namespace Go.Proofs.Ytgjcnbgfaimepaa
open Go.RowKit Vm
section
variable {asked:List Int}
def oth (O asked:List Int):List Int:=O.filter fun x=>!(asked.contains x)
theorem R4 (x:Int) (ha:asked.length < 4611686018427387904):iB x asked = some (asked.contains x):=by
 unfold iB
 rw [K2 _ _ ha]
 rfl
theorem aN7 (O:List Int) (ha:asked.length < 4611686018427387904) (hO:O.length < 4611686018427387904):b8 O asked = some ((rH (fun i=>if asked.contains (el O i) = true then some (i:Int) else none) 0 O.length).getD (-1)):=by
 unfold b8 e9
 have key:=xO (step:=fun w=>a8 O asked w) (fun i:Nat=>(i:Int)) O.length (fun i=>if asked.contains (el O i) = true then some (i:Int) else none) () ?_ ?_
 ·refine (congrArg (fun o=>Option.bind o _) key).trans ?_
  exact II (fun i=>asked.contains (el O i)) O.length
 ·intro i hi
  show a8 O asked i = _
  unfold a8
  have w3:IntKind.wrap .i64 ((i:Int) + 1) = ((i + 1:Nat):Int):=bC (by omega)
  have e2:O[(i:Int).toNat]? = some (el O i):=by rw [Int.toNat_natCast]; exact EG O i hi
  simp only [if_pos (show decide ((i:Int) < (O.length:Int)) = true by simpa using hi),bU O i hi,Option.bind_some,R4 _ ha,w3]
  cases asked.contains (el O i) <;> rfl
 ·show a8 O asked O.length = _
  unfold a8
  rw [if_neg (by simp)]
theorem TO (p:List Int) {k:Nat} (x:Int) (hk:k < p.length):(p.set k x).take (k + 1) = p.take k ++ [x]:=by
 refine List.ext_getElem? fun i=>?_
 rw [List.getElem?_take,List.getElem?_set]
 by_cases h1:i < k
 ·rw [if_pos (by omega),if_neg (by omega),List.getElem?_append_left (by rw [List.length_take]; omega),List.getElem?_take,if_pos h1]
 ·by_cases h2:i = k
  ·subst h2
   rw [if_pos (by omega),if_pos rfl,if_pos hk,List.getElem?_append_right (by rw [List.length_take]; omega),List.length_take,Nat.min_eq_left (by omega),Nat.sub_self]
   rfl
  ·rw [if_neg (by omega),List.getElem?_eq_none (by rw [List.length_append,List.length_take]; simp; omega)]
theorem XY (p:List Int) {k j:Nat} (x:Int) (h:k < j):(p.set k x).drop j = p.drop j:=by
 refine List.ext_getElem? fun i=>?_
 rw [List.getElem?_drop,List.getElem?_drop,List.getElem?_set_ne (by omega)]
theorem aRj (n:Int) (l:List aE) (O:List Int) (ha:asked.length < 4611686018427387904) (hO:O.length <= 100000) {r:Nat} (hr:r < O.length) (hb:∀ i,i < r->asked.contains (el O i) = false) (hc:asked.contains (el O r) = true) :
  ∃ (k:Nat) (p:List Int),lS n l asked r ((r + 1:Nat):Int) O = some ((k:Int),p) ∧ p.length = O.length ∧ k <= O.length ∧ p.take k = oth O asked:=by
 unfold lS
 have htk:∀ j,j < O.length->(O.take (j + 1)).filter (fun x=>!(asked.contains x)) = (O.take j).filter (fun x=>!(asked.contains x)) ++ if asked.contains (el O j) = true then [] else [el O j]:=fun j hj=>by
  rw [List.take_succ_eq_append_getElem hj,List.filter_append,kA _ _ hj]
  congr 1
  rw [List.filter_cons,List.filter_nil]
  cases asked.contains O[j] <;> rfl
 have key:=I8 (step:=fun (w:Int × Int × List Int)=>dG n l asked w.1 w.2.1 w.2.2) (fun w=>∃ k j:Nat,w.1 = k ∧ w.2.1 = j ∧ k < j ∧ j <= O.length ∧ w.2.2.length = O.length ∧ w.2.2.take k = (O.take j).filter (fun x=>!(asked.contains x)) ∧ w.2.2.drop j = O.drop j) (fun w=>O.length - w.2.1.toNat) (fun x=>∃ k:Nat,x.1 = k ∧ x.2.length = O.length ∧ k <= O.length ∧ x.2.take k = oth O asked) ?_ ((r:Int),((r + 1:Nat):Int),O) ⟨r,r + 1,rfl,rfl,by omega,by omega,rfl,?_,rfl⟩
 ·obtain ⟨⟨x1,x2⟩,h1,k,h2,h3,h4,h5⟩:=key
  simp only at h2 h3 h5
  subst h2
  exact ⟨k,x2,h1,h3,h4,h5⟩
 ·rintro ⟨p5,p6,p7⟩ ⟨k,j,h1,h2,h3,h4,h5,h6,h7⟩
  simp only at h1 h2 h5 h6 h7
  subst h1 h2
  by_cases hj:j < O.length
  ·left
   have w3:IntKind.wrap .i64 ((j:Int) + 1) = ((j + 1:Nat):Int):=bC (by omega)
   have w4:IntKind.wrap .i64 ((k:Int) + 1) = ((k + 1:Nat):Int):=bC (by omega)
   have hpj:p7[(j:Int).toNat]? = some (el O j):=by
    rw [Int.toNat_natCast]
    have:=congrArg (fun z=>z[0]?) h7
    simp only [List.getElem?_drop,Nat.add_zero] at this
    rw [this]; exact EG O j hj
   have hpk:p7[(k:Int).toNat]? = some (el p7 k):=by
    rw [Int.toNat_natCast]; exact EG p7 k (by omega)
   have hd:p7.drop (j + 1) = O.drop (j + 1):=by
    have:=congrArg (List.drop 1) h7
    simpa [List.drop_drop] using this
   cases c:asked.contains (el O j) with
   | true =>
    refine ⟨((k:Int),((j + 1:Nat):Int),p7),?_,⟨k,j + 1,rfl,rfl,by omega,hj,h5,?_,hd⟩,by simp; omega⟩
    ·show dG n l asked k j p7 = _
     unfold dG
     rw [if_pos (by simp; omega),if_pos ⟨by omega,by simp; omega⟩,hpj,Option.bind_some,R4 _ ha,c,Option.bind_some,if_neg (by decide),w3]
    ·rw [h6,htk j hj,if_pos c,List.append_nil]
   | false =>
    refine ⟨(((k + 1:Nat):Int),((j + 1:Nat):Int),p7.set k (el O j)),?_,⟨k + 1,j + 1,rfl,rfl,by omega,hj,by simp [h5],?_,?_⟩,by simp; omega⟩
    ·show dG n l asked k j p7 = _
     unfold dG
     rw [if_pos (by simp; omega),if_pos ⟨by omega,by simp; omega⟩,hpj,Option.bind_some,R4 _ ha,c,Option.bind_some,if_pos (by decide),if_pos ⟨by omega,by simp; omega⟩,hpk,Option.bind_some,w3,w4,Int.toNat_natCast]
    ·show (p7.set k (el O j)).take (k + 1) = _
     rw [TO _ _ (by omega),h6,htk j hj,c]
     rfl
    ·show (p7.set k (el O j)).drop (j + 1) = _
     rw [XY _ _ (by omega),hd]
  ·right
   refine ⟨((k:Int),p7),?_,k,rfl,h5,by omega,?_⟩
   ·show dG n l asked k j p7 = _
    unfold dG
    rw [if_neg (by simp; omega)]
   ·rw [h6,List.take_of_length_le (by omega)]
    rfl
 ·rw [htk r hr,if_pos hc,List.append_nil]
  symm
  rw [List.filter_eq_self]
  intro x hx
  obtain ⟨i,hi,rfl⟩:=IV hx
  rw [List.length_take] at hi
  have:el (O.take r) i = el O i:=by rw [kA _ _ (by rw [List.length_take]; exact hi),kA _ _ (by omega),List.getElem_take]
  rw [this,hb i (by omega)]
  rfl
theorem aTk (n:Int) (l:List aE) (O:List Int) (ha:asked.length < 4611686018427387904) (hO:O.length <= 100000) (K:List Int->Option (Int × List (List Int))) :
  ((b8 O asked).bind fun (r4:Int)=>if (r4 == (-1)) = true then (K O).bind fun r=>some (r.2,r.1) else (lS n l asked r4 (IntKind.wrap .i64 (r4 + 1)) O).bind fun (r13:Int × List Int)=>if 0 <= r13.1 ∧ r13.1.toNat <= r13.2.length then if 0 <= r13.1 ∧ r13.1.toNat <= (uC r13.1.toNat r13.2).length then (K ((uC r13.1.toNat r13.2).take r13.1.toNat)).bind fun r=>some (r.2,r.1) else none else none) = (K (oth O asked)).bind fun r=>some (r.2,r.1):=by
 rw [aN7 O ha (by omega),Option.bind_some]
 cases e:rH (fun i=>if asked.contains (el O i) = true then some (i:Int) else none) 0 O.length with
 | none =>
  rw [Option.getD_none,if_pos (by decide)]
  have h:=(yR O.length 0).1 e
  have:oth O asked = O:=by
   unfold oth
   rw [List.filter_eq_self]
   intro x hx
   obtain ⟨i,hi,rfl⟩:=IV hx
   have:=h i (Nat.zero_le _) (by omega)
   cases c:asked.contains (el O i) with
   | true=>rw [if_pos c] at this; cases this
   | false=>rfl
  rw [this]
 | some x =>
  obtain ⟨i,_,hi,h1,h2⟩:=HN O.length 0 e
  have hc:asked.contains (el O i) = true:=by
   cases c:asked.contains (el O i) with
   | true=>rfl
   | false=>rw [c] at h1; cases h1
  rw [if_pos hc] at h1
  have hx:=Option.some.inj h1
  subst hx
  have hb:∀ j,j < i->asked.contains (el O j) = false:=fun j hj=>by
   have:=h2 j (Nat.zero_le _) hj
   cases c:asked.contains (el O j) with
   | true=>rw [if_pos c] at this; cases this
   | false=>rfl
  obtain ⟨k,p,q1,q2,q3,q4⟩:=aRj n l O ha hO (by omega) hb hc
  have w3:IntKind.wrap .i64 ((i:Int) + 1) = ((i + 1:Nat):Int):=bC (by omega)
  have htl:(uC k p).length = p.length:=by
   unfold uC
   rw [List.length_append,List.length_take,List.length_replicate]
   omega
  have htt:(uC k p).take k = p.take k:=by
   unfold uC
   rw [List.take_left' (by rw [List.length_take]; omega)]
  rw [Option.getD_some,if_neg (show ¬ (((i:Nat):Int) == (-1)) = true by simp),w3,q1,Option.bind_some]
  simp only
  rw [if_pos ⟨by omega,by simp; omega⟩,Int.toNat_natCast,if_pos ⟨by omega,by omega⟩,htt,q4]
end
end Go.Proofs.Ytgjcnbgfaimepaa
