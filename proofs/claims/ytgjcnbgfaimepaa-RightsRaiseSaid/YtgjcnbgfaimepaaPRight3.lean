/- Law 43: the inputs that the law looks at are small. -/
import Derived.Test.YtgjcnbgfaimepaaPRight2
set_option linter.unusedVariables false
set_option linter.unusedSimpArgs false
namespace Go.Proofs.Ytgjcnbgfaimepaa
open Go.RowKit Vm
theorem aEq (n:Int) (dues:List aH):∃ b,kK n dues = some b:=by
 unfold kK
 have key:∃ z,j8 n dues 0 = some z ∧ True:=by
  unfold j8
  refine aFA (step:=fun w=>bS n dues w) (fun i:Nat=>(i:Int)) (min dues.length 20) (fun _=>True) (fun _=>True) ?_ ?_
  ·intro i hi
   have c0:decide ((i:Int) < (dues.length:Int)) = true:=by simp; omega
   have c1:decide ((i:Int) < 20) = true:=by simp; omega
   have w3:IntKind.wrap .i64 ((i:Int) + 1) = ((i + 1:Nat):Int):=bC (by omega)
   have e:bS n dues i = if decide ((el dues i).Sum > 12) = true then (if decide ((el dues i).Sum <= 1099511627776) = true then some (.inr (.inr ())) else some (.inl ((i + 1:Nat):Int))) else some (.inl ((i + 1:Nat):Int)):=by
    unfold bS
    simp only [if_pos c0,if_pos c1,bU dues i (by omega),Option.bind_some,w3]
   by_cases a1:decide ((el dues i).Sum > 12) = true
   ·by_cases a2:decide ((el dues i).Sum <= 1099511627776) = true
    ·refine .inr ⟨.inr (),?_,fun _=>trivial⟩
     show bS n dues i = _
     rw [e,if_pos a1,if_pos a2]
    ·refine .inl ⟨?_,trivial⟩
     show bS n dues i = _
     rw [e,if_pos a1,if_neg a2]
   ·refine .inl ⟨?_,trivial⟩
    show bS n dues i = _
    rw [e,if_neg a1]
  ·refine ⟨.inl (),?_,fun _=>trivial⟩
   show bS n dues ((min dues.length 20:Nat):Int) = _
   unfold bS
   by_cases h2:dues.length <= 20
   ·rw [if_neg (by simp; omega)]
   ·have c0:decide (((min dues.length 20:Nat):Int) < (dues.length:Int)) = true:=by simp; omega
    have c1:¬ decide (((min dues.length 20:Nat):Int) < 20) = true:=by simp; omega
    rw [if_pos c0,if_neg c1]
 obtain ⟨z,h1,_⟩:=key
 rw [h1,Option.bind_some]
 cases z with
 | inr u=>exact ⟨false,rfl⟩
 | inl u =>
  rw [Sum.elim_inl]
  split
  ·split
   ·exact ⟨_,rfl⟩
   ·split <;> exact ⟨_,rfl⟩
  ·split
   ·split
    ·exact ⟨_,rfl⟩
    ·split <;> exact ⟨_,rfl⟩
   ·exact ⟨_,rfl⟩
theorem aTj (a:List Int) (v:Int) (hl:a.length < 4611686018427387904):∃ b,eR a v = some b:=by
 unfold eR kE
 have key:=uE? (step:=fun w=>bI a v w) (fun i:Nat=>(i:Int)) a.length (fun i=>!(el a i == v)) () ?_ ?_
 ·refine ⟨!(vY (fun i=>!(el a i == v)) a.length),(congrArg (fun o=>Option.bind o _) key).trans ?_⟩
  rw [Option.bind_some]
  cases vY (fun i=>!(el a i == v)) a.length <;> rfl
 ·intro i hi
  show bI a v i = _
  unfold bI
  have w3:IntKind.wrap .i64 ((i:Int) + 1) = ((i + 1:Nat):Int):=bC (by omega)
  rw [if_pos (by simpa using hi),bU a i hi,Option.bind_some,w3]
  cases (el a i == v) <;> rfl
 ·show bI a v a.length = _
  unfold bI
  rw [if_neg (by simp)]
theorem aQJ (a:List Int) (v:Int) (hl:a.length <= 100000):∃ r,gU a v = some r ∧ r.length <= a.length + 1:=by
 obtain ⟨b,hb⟩:=aTj a v (by omega)
 unfold gU
 rw [hb,Option.bind_some]
 cases b with
 | true=>exact ⟨a,rfl,by omega⟩
 | false =>
  have key:∃ x,dK (fun (w:Bool × Int × List Int)=>aL a v w.1 w.2.1 w.2.2) (false,0,[]) = some x ∧ (x.2.length <= a.length + if x.1 = true then 1 else 0):=by
   refine eQ (step:=fun (w:Bool × Int × List Int)=>aL a v w.1 w.2.1 w.2.2) (fun k (z:Bool × List Int)=>(z.1,(k:Int),z.2)) a.length (fun k z=>z.2.length <= k + if z.1 = true then 1 else 0) _ ?_ ?_ (false,[]) (by simp)
   ·rintro k ⟨p,q⟩ hk hq
    simp only at hq
    have w3:IntKind.wrap .i64 ((k:Int) + 1) = ((k + 1:Nat):Int):=bC (by omega)
    have hj:∀ (b:Bool) (z:List Int),z.length <= k + 1->dT a v k b z = some (z ++ [el a k]):=fun b z hz=>by
     unfold dT
     rw [bU a k hk,Option.bind_some,if_pos (by omega)]
    cases p with
    | true =>
     simp only [if_true] at hq
     refine .inl ⟨(true,q ++ [el a k]),?_,by simp; omega⟩
     show aL a v true k q = _
     unfold aL
     rw [if_pos (by simpa using hk),w3,if_neg (by simp),hj _ _ hq]
     rfl
    | false =>
     simp only [Bool.false_eq_true,if_false] at hq
     by_cases c:v < el a k
     ·refine .inl ⟨(true,q ++ [v] ++ [el a k]),?_,by simp; omega⟩
      show aL a v false k q = _
      unfold aL
      rw [if_pos (by simpa using hk),w3,if_pos (by simp),bU a k hk,Option.bind_some,if_pos (by simpa using c),if_pos (by omega),hj _ _ (by simp; omega)]
      rfl
     ·refine .inl ⟨(false,q ++ [el a k]),?_,by simp; omega⟩
      show aL a v false k q = _
      unfold aL
      rw [if_pos (by simpa using hk),w3,if_pos (by simp),bU a k hk,Option.bind_some,if_neg (by simpa using c),hj _ _ (by omega)]
      rfl
   ·rintro ⟨p,q⟩ hq
    refine ⟨(p,q),?_,hq⟩
    show aL a v p a.length q = _
    unfold aL
    rw [if_neg (by simp)]
  obtain ⟨⟨p,q⟩,h1,h2⟩:=key
  unfold kB
  rw [if_neg (by simp),h1,Option.bind_some]
  simp only at h2 ⊢
  cases p with
  | true=>exact ⟨q,by rw [if_neg (by simp)],by simpa using h2⟩
  | false =>
   simp at h2
   exact ⟨q ++ [v],by rw [if_pos (by simp),if_pos (by omega)],by simp; omega⟩
theorem aEW (l:List aE) (hl:l.length <= 9) (hr:∀ i,i < l.length->(el l i).Rights.length <= 12):∃ r,eV l = some r:=by
 unfold eV iM
 have key:∃ x,dK (fun (w:List Int × Int)=>aU l w.1 w.2) ([],0) = some x ∧ True:=by
  refine eQ (step:=fun (w:List Int × Int)=>aU l w.1 w.2) (fun k (z:List Int)=>(z,(k:Int))) l.length (fun k z=>z.length <= 12 * k) _ ?_ ?_ [] (by simp)
  ·intro k z hk hz
   have w3:IntKind.wrap .i64 ((k:Int) + 1) = ((k + 1:Nat):Int):=bC (by omega)
   have hin:∃ x,eO l k z 0 = some x ∧ x.length <= 12 * (k + 1):=by
    have hrk:=hr k hk
    unfold eO
    refine eQ (step:=fun (w:List Int × Int)=>aZ l k w.1 w.2) (fun i (y:List Int)=>(y,(i:Int))) (el l k).Rights.length (fun i y=>y.length <= 12 * k + i) _ ?_ ?_ z (by omega)
    ·intro i y hi hy
     have w4:IntKind.wrap .i64 ((i:Int) + 1) = ((i + 1:Nat):Int):=bC (by omega)
     obtain ⟨r,e1,e2⟩:=aQJ y (el (el l k).Rights i).Owner (by omega)
     refine .inl ⟨r,?_,by omega⟩
     show aZ l k y i = _
     unfold aZ
     rw [bU l k hk,Option.bind_some,if_pos (by simpa using hi),Option.bind_some,bU _ i hi,Option.bind_some,e1,Option.bind_some,w4]
    ·intro y hy
     refine ⟨y,?_,by omega⟩
     show aZ l k y ((el l k).Rights.length:Nat) = _
     unfold aZ
     rw [bU l k hk,Option.bind_some,if_neg (by simp)]
   obtain ⟨x,e1,e2⟩:=hin
   refine .inl ⟨x,?_,e2⟩
   show aU l z k = _
   unfold aU
   rw [if_pos (by simpa using hk),e1,Option.bind_some,w3]
  ·intro z hz
   refine ⟨z,?_,trivial⟩
   show aU l z l.length = _
   unfold aU
   rw [if_neg (by simp)]
 obtain ⟨x,h1,_⟩:=key
 exact ⟨x,by rw [h1]; rfl⟩
theorem aED (l:List aE) (hl:l.length <= 9):jU l = some (l.map gD):=by
 unfold jU mN
 have key:∃ x,dK (fun (w:Int × List aH)=>cA l w.1 w.2) (0,[]) = some x ∧ x = l.map gD:=by
  refine eQ (step:=fun (w:Int × List aH)=>cA l w.1 w.2) (fun k (z:List aH)=>((k:Int),z)) l.length (fun k z=>z = (l.take k).map gD) _ ?_ ?_ [] (by simp)
  ·rintro k z hk rfl
   have w3:IntKind.wrap .i64 ((k:Int) + 1) = ((k + 1:Nat):Int):=bC (by omega)
   refine .inl ⟨_,?_,rfl⟩
   show cA l k _ = _
   unfold cA
   simp only [if_pos (show decide ((k:Int) < (l.length:Int)) = true by simpa using hk),bU l k hk,Option.bind_some]
   rw [if_pos (by simp; omega),w3,qW gD l k hk]
   rfl
  ·rintro z rfl
   refine ⟨l.map gD,?_,rfl⟩
   show cA l l.length _ = _
   unfold cA
   rw [if_neg (by simp),List.take_length]
 obtain ⟨x,h1,rfl⟩:=key
 rw [h1]; rfl
theorem aQA (n:Int) (l:List aE) (hl:l.length < 4611686018427387904):∃ b,gV n l = some b ∧ (b = true->l.length <= 9 ∧ ∀ i,i < l.length->(el l i).Rights.length <= 12):=by
 unfold gV kH
 have key:=uE? (step:=fun w=>b5 n l w) (fun i:Nat=>(i:Int)) l.length (fun i=>decide ((el l i).Rights.length <= 12)) () ?_ ?_
 ·change dK (fun w=>b5 n l w) 0 = _ at key
  rw [key,Option.bind_some]
  cases hA:vY (fun i=>decide ((el l i).Rights.length <= 12)) l.length with
  | false=>exact ⟨false,rfl,fun h=>by cases h⟩
  | true =>
   have hr:∀ i,i < l.length->(el l i).Rights.length <= 12:=fun i hi=>of_decide_eq_true (i7.1 hA i hi)
   rw [if_pos rfl,Sum.elim_inl]
   by_cases h9:l.length <= 9
   ·rw [if_pos (by simp; omega),aED l h9,Option.bind_some]
    obtain ⟨b,hb⟩:=aEq n (l.map gD)
    rw [hb,Option.bind_some]
    cases b with
    | false=>exact ⟨false,rfl,fun h=>by cases h⟩
    | true =>
     obtain ⟨r,hr'⟩:=aEW l h9 hr
     rw [if_pos rfl,hr',Option.bind_some]
     exact ⟨_,rfl,fun _=>⟨h9,hr⟩⟩
   ·rw [if_neg (by simp; omega)]
    exact ⟨false,rfl,fun h=>by cases h⟩
 ·intro i hi
  show b5 n l i = _
  unfold b5
  have w3:IntKind.wrap .i64 ((i:Int) + 1) = ((i + 1:Nat):Int):=bC (by omega)
  rw [if_pos (by simpa using hi),bU l i hi,Option.bind_some,w3]
  by_cases c:(el l i).Rights.length <= 12
  ·rw [if_neg (by simp; omega),if_pos (decide_eq_true c)]
  ·rw [if_pos (by simp; omega),if_neg (by simpa using c)]
 ·show b5 n l l.length = _
  unfold b5
  rw [if_neg (by simp)]
section
variable {n:Int} {l:List aE} {asked:List Int}
theorem YP (h:xH l asked) (hc:rL n l = true) (hr:wM asked = true):∃ (m:Nat) (X q y:List Int),n = m ∧ EM m (l.map gD) ∧ cQ n l asked = some (X,q,0) ∧ sY m l asked X q y:=by
 have hc':=hc
 unfold rL at hc'
 rw [Bool.and_eq_true] at hc'
 obtain ⟨m,rfl,hk⟩:=QE.1 hc'.2
 obtain ⟨X,q,y,h1,h2⟩:=YH h hk
 refine ⟨m,X,q,y,rfl,hk,?_,h2⟩
 unfold cQ
 have:=h.len
 rw [MF _ _ (by omega),hc,Option.bind_some,if_neg (by decide),HJ _ h.asked,hr,Option.bind_some,if_neg (by decide),h1]
 rfl
theorem aIa (h:xH l asked) (hc:(rL n l && wM asked) = false):cQ n l asked = some ([],[],1):=by
 unfold cQ
 have:=h.len
 rw [MF _ _ (by omega),Option.bind_some]
 cases h1:rL n l with
 | false=>rfl
 | true =>
  rw [h1] at hc
  simp only [Bool.true_and] at hc
  rw [if_neg (by decide),HJ _ h.asked,hc]
  rfl
end
end Go.Proofs.Ytgjcnbgfaimepaa
