/- Law 43: the inputs that the law looks at are small. -/
import Derived.Test.YtgjcnbgfaimepaaPRight2
set_option linter.unusedVariables false
set_option linter.unusedSimpArgs false
namespace Go.Proofs.Ytgjcnbgfaimepaa
open Go.RowKit Vm
theorem aOD (n:Int) (dues:List aF):∃ b,j6 n dues = some b:=by
 unfold j6
 have key:∃ z,jK n dues 0 = some z ∧ True:=by
  unfold jK
  refine aD5 (step:=fun w=>bJ n dues w) (fun i:Nat=>(i:Int)) (min dues.length 20) (fun _=>True) (fun _=>True) ?_ ?_
  ·intro i hi
   have c0:decide ((i:Int) < (dues.length:Int)) = true:=by simp; omega
   have c1:decide ((i:Int) < 20) = true:=by simp; omega
   have w3:IntKind.wrap .i64 ((i:Int) + 1) = ((i + 1:Nat):Int):=cD (by omega)
   have e:bJ n dues i = if decide ((el dues i).Sum > 12) = true then (if decide ((el dues i).Sum <= 1099511627776) = true then some (.inr (.inr ())) else some (.inl ((i + 1:Nat):Int))) else some (.inl ((i + 1:Nat):Int)):=by
    unfold bJ
    simp only [if_pos c0,if_pos c1,eO dues i (by omega),Option.bind_some,w3]
   by_cases a1:decide ((el dues i).Sum > 12) = true
   ·by_cases a2:decide ((el dues i).Sum <= 1099511627776) = true
    ·refine .inr ⟨.inr (),?_,fun _=>trivial⟩
     show bJ n dues i = _
     rw [e,if_pos a1,if_pos a2]
    ·refine .inl ⟨?_,trivial⟩
     show bJ n dues i = _
     rw [e,if_pos a1,if_neg a2]
   ·refine .inl ⟨?_,trivial⟩
    show bJ n dues i = _
    rw [e,if_neg a1]
  ·refine ⟨.inl (),?_,fun _=>trivial⟩
   show bJ n dues ((min dues.length 20:Nat):Int) = _
   unfold bJ
   by_cases h2:dues.length <= 20
   ·rw [if_neg (by simp; omega)]
   ·have c0:decide (((min dues.length 20:Nat):Int) < (dues.length:Int)) = true:=by simp; omega
    have c1:¬ decide (((min dues.length 20:Nat):Int) < 20) = true:=by simp; omega
    rw [if_pos c0,if_neg c1]
 obtain ⟨z,h1,_⟩:=key
 rw [h1,Option.bind_some]
 cases z with
 | inr u=>exact ⟨false,rfl⟩
 | inl u =>
  rw [Sum.elim_inl]
  split
  ·split
   ·exact ⟨_,rfl⟩
   ·split <;> exact ⟨_,rfl⟩
  ·split
   ·split
    ·exact ⟨_,rfl⟩
    ·split <;> exact ⟨_,rfl⟩
   ·exact ⟨_,rfl⟩
theorem aRH (a:List Int) (v:Int) (hl:a.length < 4611686018427387904):∃ b,jY a v = some b:=by
 unfold jY mS
 have key:=xS? (step:=fun w=>cJ a v w) (fun i:Nat=>(i:Int)) a.length (fun i=>!(el a i == v)) () ?_ ?_
 ·refine ⟨!(yK (fun i=>!(el a i == v)) a.length),(congrArg (fun o=>Option.bind o _) key).trans ?_⟩
  rw [Option.bind_some]
  cases yK (fun i=>!(el a i == v)) a.length <;> rfl
 ·intro i hi
  show cJ a v i = _
  unfold cJ
  have w3:IntKind.wrap .i64 ((i:Int) + 1) = ((i + 1:Nat):Int):=cD (by omega)
  rw [if_pos (by simpa using hi),eO a i hi,Option.bind_some,w3]
  cases (el a i == v) <;> rfl
 ·show cJ a v a.length = _
  unfold cJ
  rw [if_neg (by simp)]
theorem aQt (a:List Int) (v:Int) (hl:a.length <= 100000):∃ r,jX a v = some r ∧ r.length <= a.length + 1:=by
 obtain ⟨b,hb⟩:=aRH a v (by omega)
 unfold jX
 rw [hb,Option.bind_some]
 cases b with
 | true=>exact ⟨a,rfl,by omega⟩
 | false =>
  have key:∃ x,dO (fun (w:Bool × Int × List Int)=>bA a v w.1 w.2.1 w.2.2) (false,0,[]) = some x ∧ (x.2.length <= a.length + if x.1 = true then 1 else 0):=by
   refine iM (step:=fun (w:Bool × Int × List Int)=>bA a v w.1 w.2.1 w.2.2) (fun k (z:Bool × List Int)=>(z.1,(k:Int),z.2)) a.length (fun k z=>z.2.length <= k + if z.1 = true then 1 else 0) _ ?_ ?_ (false,[]) (by simp)
   ·rintro k ⟨p,q⟩ hk hq
    simp only at hq
    have w3:IntKind.wrap .i64 ((k:Int) + 1) = ((k + 1:Nat):Int):=cD (by omega)
    have hj:∀ (b:Bool) (z:List Int),z.length <= k + 1->fD a v k b z = some (z ++ [el a k]):=fun b z hz=>by
     unfold fD
     rw [eO a k hk,Option.bind_some,if_pos (by omega)]
    cases p with
    | true =>
     simp only [if_true] at hq
     refine .inl ⟨(true,q ++ [el a k]),?_,by simp; omega⟩
     show bA a v true k q = _
     unfold bA
     rw [if_pos (by simpa using hk),w3,if_neg (by simp),hj _ _ hq]
     rfl
    | false =>
     simp only [Bool.false_eq_true,if_false] at hq
     by_cases c:v < el a k
     ·refine .inl ⟨(true,q ++ [v] ++ [el a k]),?_,by simp; omega⟩
      show bA a v false k q = _
      unfold bA
      rw [if_pos (by simpa using hk),w3,if_pos (by simp),eO a k hk,Option.bind_some,if_pos (by simpa using c),if_pos (by omega),hj _ _ (by simp; omega)]
      rfl
     ·refine .inl ⟨(false,q ++ [el a k]),?_,by simp; omega⟩
      show bA a v false k q = _
      unfold bA
      rw [if_pos (by simpa using hk),w3,if_pos (by simp),eO a k hk,Option.bind_some,if_neg (by simpa using c),hj _ _ (by omega)]
      rfl
   ·rintro ⟨p,q⟩ hq
    refine ⟨(p,q),?_,hq⟩
    show bA a v p a.length q = _
    unfold bA
    rw [if_neg (by simp)]
  obtain ⟨⟨p,q⟩,h1,h2⟩:=key
  unfold mC
  rw [if_neg (by simp),h1,Option.bind_some]
  simp only at h2 ⊢
  cases p with
  | true=>exact ⟨q,by rw [if_neg (by simp)],by simpa using h2⟩
  | false =>
   simp at h2
   exact ⟨q ++ [v],by rw [if_pos (by simp),if_pos (by omega)],by simp; omega⟩
theorem aD7 (l:List aE) (hl:l.length <= 9) (hr:∀ i,i < l.length->(el l i).Rights.length <= 12):∃ r,gU l = some r:=by
 unfold gU jP
 have key:∃ x,dO (fun (w:List Int × Int)=>bK l w.1 w.2) ([],0) = some x ∧ True:=by
  refine iM (step:=fun (w:List Int × Int)=>bK l w.1 w.2) (fun k (z:List Int)=>(z,(k:Int))) l.length (fun k z=>z.length <= 12 * k) _ ?_ ?_ [] (by simp)
  ·intro k z hk hz
   have w3:IntKind.wrap .i64 ((k:Int) + 1) = ((k + 1:Nat):Int):=cD (by omega)
   have hin:∃ x,gV l k z 0 = some x ∧ x.length <= 12 * (k + 1):=by
    have hrk:=hr k hk
    unfold gV
    refine iM (step:=fun (w:List Int × Int)=>bV l k w.1 w.2) (fun i (y:List Int)=>(y,(i:Int))) (el l k).Rights.length (fun i y=>y.length <= 12 * k + i) _ ?_ ?_ z (by omega)
    ·intro i y hi hy
     have w4:IntKind.wrap .i64 ((i:Int) + 1) = ((i + 1:Nat):Int):=cD (by omega)
     obtain ⟨r,e1,e2⟩:=aQt y (el (el l k).Rights i).Owner (by omega)
     refine .inl ⟨r,?_,by omega⟩
     show bV l k y i = _
     unfold bV
     rw [eO l k hk,Option.bind_some,if_pos (by simpa using hi),Option.bind_some,eO _ i hi,Option.bind_some,e1,Option.bind_some,w4]
    ·intro y hy
     refine ⟨y,?_,by omega⟩
     show bV l k y ((el l k).Rights.length:Nat) = _
     unfold bV
     rw [eO l k hk,Option.bind_some,if_neg (by simp)]
   obtain ⟨x,e1,e2⟩:=hin
   refine .inl ⟨x,?_,e2⟩
   show bK l z k = _
   unfold bK
   rw [if_pos (by simpa using hk),e1,Option.bind_some,w3]
  ·intro z hz
   refine ⟨z,?_,trivial⟩
   show bK l z l.length = _
   unfold bK
   rw [if_neg (by simp)]
 obtain ⟨x,h1,_⟩:=key
 exact ⟨x,by rw [h1]; rfl⟩
theorem aDv (l:List aE) (hl:l.length <= 9):gN l = some (l.map iL):=by
 unfold gN lM
 have key:∃ x,dO (fun (w:Int × List aF)=>bS l w.1 w.2) (0,[]) = some x ∧ x = l.map iL:=by
  refine iM (step:=fun (w:Int × List aF)=>bS l w.1 w.2) (fun k (z:List aF)=>((k:Int),z)) l.length (fun k z=>z = (l.take k).map iL) _ ?_ ?_ [] (by simp)
  ·rintro k z hk rfl
   have w3:IntKind.wrap .i64 ((k:Int) + 1) = ((k + 1:Nat):Int):=cD (by omega)
   refine .inl ⟨_,?_,rfl⟩
   show bS l k _ = _
   unfold bS
   simp only [if_pos (show decide ((k:Int) < (l.length:Int)) = true by simpa using hk),eO l k hk,Option.bind_some]
   rw [if_pos (by simp; omega),w3,BV iL l k hk]
   rfl
  ·rintro z rfl
   refine ⟨l.map iL,?_,rfl⟩
   show bS l l.length _ = _
   unfold bS
   rw [if_neg (by simp),List.take_length]
 obtain ⟨x,h1,rfl⟩:=key
 rw [h1]; rfl
theorem aRT (n:Int) (l:List aE) (hl:l.length < 4611686018427387904):∃ b,j5 n l = some b ∧ (b = true->l.length <= 9 ∧ ∀ i,i < l.length->(el l i).Rights.length <= 12):=by
 unfold j5 mV
 have key:=xS? (step:=fun w=>bY n l w) (fun i:Nat=>(i:Int)) l.length (fun i=>decide ((el l i).Rights.length <= 12)) () ?_ ?_
 ·change dO (fun w=>bY n l w) 0 = _ at key
  rw [key,Option.bind_some]
  cases hA:yK (fun i=>decide ((el l i).Rights.length <= 12)) l.length with
  | false=>exact ⟨false,rfl,fun h=>by cases h⟩
  | true =>
   have hr:∀ i,i < l.length->(el l i).Rights.length <= 12:=fun i hi=>of_decide_eq_true (kG.1 hA i hi)
   rw [if_pos rfl,Sum.elim_inl]
   by_cases h9:l.length <= 9
   ·rw [if_pos (by simp; omega),aDv l h9,Option.bind_some]
    obtain ⟨b,hb⟩:=aOD n (l.map iL)
    rw [hb,Option.bind_some]
    cases b with
    | false=>exact ⟨false,rfl,fun h=>by cases h⟩
    | true =>
     obtain ⟨r,hr'⟩:=aD7 l h9 hr
     rw [if_pos rfl,hr',Option.bind_some]
     exact ⟨_,rfl,fun _=>⟨h9,hr⟩⟩
   ·rw [if_neg (by simp; omega)]
    exact ⟨false,rfl,fun h=>by cases h⟩
 ·intro i hi
  show bY n l i = _
  unfold bY
  have w3:IntKind.wrap .i64 ((i:Int) + 1) = ((i + 1:Nat):Int):=cD (by omega)
  rw [if_pos (by simpa using hi),eO l i hi,Option.bind_some,w3]
  by_cases c:(el l i).Rights.length <= 12
  ·rw [if_neg (by simp; omega),if_pos (decide_eq_true c)]
  ·rw [if_pos (by simp; omega),if_neg (by simpa using c)]
 ·show bY n l l.length = _
  unfold bY
  rw [if_neg (by simp)]
section
variable {n:Int} {l:List aE} {asked:List Int}
theorem aG5 (h:aCN l asked) (hc:DA n l = true) (hr:MM asked = true):∃ (m:Nat) (X q y:List Int),n = m ∧ IW m (l.map iL) ∧ dK n l asked = some (X,q,0) ∧ rO m l asked X q y:=by
 have hc':=hc
 unfold DA at hc'
 rw [Bool.and_eq_true] at hc'
 obtain ⟨m,rfl,hk⟩:=QV.1 hc'.2
 obtain ⟨X,q,y,h1,h2⟩:=aKq h hk
 refine ⟨m,X,q,y,rfl,hk,?_,h2⟩
 unfold dK
 have:=h.len
 rw [aC3 _ _ (by omega),hc,Option.bind_some,if_neg (by decide),aGN _ h.asked,hr,Option.bind_some,if_neg (by decide),h1]
 rfl
end
end Go.Proofs.Ytgjcnbgfaimepaa
