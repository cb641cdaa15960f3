/- Law 43: the reference's owners; who is not asked yet. -/
import Derived.Test.YtgjcnbgfaimepaaPRight5
set_option linter.unusedVariables false
set_option linter.unusedSimpArgs false
namespace Go.Proofs.Ytgjcnbgfaimepaa
open Go.RowKit Vm
section
variable {l:List aE} {asked:List Int}
theorem aDn (a:List Int) (v:Int) (hl:a.length < 4611686018427387904):eR a v = some (a.contains v):=by
 unfold eR kE
 have key:=uE? (step:=fun w=>bI a v w) (fun i:Nat=>(i:Int)) a.length (fun i=>!(decide (v = el a i))) () ?_ ?_
 ·refine (congrArg (fun o=>Option.bind o _) key).trans ?_
  rw [Option.bind_some,O8]
  cases vY (fun i=>!(decide (v = el a i))) a.length <;> rfl
 ·intro i hi
  show bI a v i = _
  unfold bI
  have w3:IntKind.wrap .i64 ((i:Int) + 1) = ((i + 1:Nat):Int):=bC (by omega)
  rw [if_pos (by simpa using hi),bU a i hi,Option.bind_some,w3]
  by_cases c:el a i = v
  ·rw [if_pos (by simpa using c),if_neg (by simp [c])]
  ·rw [if_neg (by simpa using c),if_pos (by simp; exact fun e=>c e.symm)]
 ·show bI a v a.length = _
  unfold bI
  rw [if_neg (by simp)]
theorem aEh {v:Int}:∀ {a:List Int},G3 a->v ∈ a->rM v a = a
 | [],_,h=>by cases h
 | y :: a,ha,h=>by
  have ha':=List.pairwise_cons.1 ha
  unfold rM
  rcases List.mem_cons.1 h with e | e
  ·subst e
   rw [if_neg (by omega),if_pos rfl]
  ·have:=ha'.1 v e
   rw [if_neg (by omega),if_neg (by omega),aEh ha'.2 e]
theorem aEC {v y:Int}:∀ {p:List Int},(∃ x ∈ p,v < x)->rM v (p ++ [y]) = rM v p ++ [y]
 | [],h=>by obtain ⟨x,hx,_⟩:=h; cases hx
 | x :: p,h=>by
  show rM v (x :: (p ++ [y])) = _
  unfold rM
  by_cases c:v < x
  ·rw [if_pos c,if_pos c]; rfl
  ·rw [if_neg c,if_neg c]
   by_cases e:v = x
   ·rw [if_pos e,if_pos e]; rfl
   ·rw [if_neg e,if_neg e,aEC (p:=p) (by
     obtain ⟨z,hz,hv⟩:=h
     rcases List.mem_cons.1 hz with q | q
     ·omega
     ·exact ⟨z,q,hv⟩)]
    rfl
theorem WE {v:Int}:∀ {p:List Int} (q:List Int),(∀ x ∈ p,x < v)->rM v (p ++ q) = p ++ rM v q
 | [],q,_=>rfl
 | x :: p,q,h=>by
  have hx:=h x (by simp)
  show rM v (x :: (p ++ q)) = _
  rw [show rM v (x :: (p ++ q)) = if v < x then v :: x :: (p ++ q) else if v = x then x :: (p ++ q) else x :: rM v (p ++ q) from rfl,if_neg (by omega),if_neg (by omega),WE q (fun z hz=>h z (by simp [hz]))]
  rfl
theorem aOJ (a:List Int) (v:Int) (hl:a.length <= 100000) (ha:G3 a):gU a v = some (rM v a):=by
 unfold gU
 rw [aDn a v (by omega),Option.bind_some]
 by_cases hv:v ∈ a
 ·rw [if_pos (by simpa using hv),aEh ha hv]
 ·rw [if_neg (by simpa using hv)]
  have key:∃ x,dK (fun (w:Bool × Int × List Int)=>aL a v w.1 w.2.1 w.2.2) (false,0,[]) = some x ∧ ((x.1 = false ∧ (∀ z ∈ a,z < v) ∧ x.2 = a) ∨ (x.1 = true ∧ x.2 = rM v a)):=by
   refine eQ (step:=fun (w:Bool × Int × List Int)=>aL a v w.1 w.2.1 w.2.2) (fun k (z:Bool × List Int)=>(z.1,(k:Int),z.2)) a.length (fun k z=>(z.1 = false ∧ (∀ x ∈ a.take k,x < v) ∧ z.2 = a.take k) ∨ (z.1 = true ∧ (∃ x ∈ a.take k,v < x) ∧ z.2 = rM v (a.take k))) _ ?_ ?_ (false,[]) (.inl ⟨rfl,by simp,by simp⟩)
   ·rintro k ⟨p,q⟩ hk hq
    have w3:IntKind.wrap .i64 ((k:Int) + 1) = ((k + 1:Nat):Int):=bC (by omega)
    have hj:∀ (b:Bool) (z:List Int),z.length <= k + 1->dT a v k b z = some (z ++ [el a k]):=fun b z hz=>by
     unfold dT
     rw [bU a k hk,Option.bind_some,if_pos (by omega)]
    have htk:a.take (k + 1) = a.take k ++ [el a k]:=by rw [List.take_succ_eq_append_getElem hk,kA _ _ hk]
    have hkm:=mF a k hk
    rcases hq with ⟨rfl,h1,h2⟩ | ⟨rfl,h1,h2⟩
    ·simp only at h2
     subst h2
     by_cases c:v < el a k
     ·refine .inl ⟨(true,rM v (a.take (k + 1))),?_,.inr ⟨rfl,⟨el a k,by rw [htk]; simp,c⟩,rfl⟩⟩
      show aL a v false k _ = _
      unfold aL
      rw [if_pos (by simpa using hk),w3,if_pos (by simp),bU a k hk,Option.bind_some,if_pos (by simpa using c),if_pos (by simp; omega),hj _ _ (by simp; omega),htk,WE _ h1]
      have:rM v [el a k] = [v,el a k]:=by unfold rM; rw [if_pos c]
      rw [this]
      simp
     ·refine .inl ⟨(false,a.take (k + 1)),?_,.inl ⟨rfl,fun x hx=>?_,rfl⟩⟩
      ·show aL a v false k _ = _
       unfold aL
       rw [if_pos (by simpa using hk),w3,if_pos (by simp),bU a k hk,Option.bind_some,if_neg (by simpa using c),hj _ _ (by simp; omega),htk]
       rfl
      ·rw [htk] at hx
       rcases List.mem_append.1 hx with q | q
       ·exact h1 x q
       ·have:x = el a k:=by simpa using q
        have:v ≠ el a k:=fun e=>hv (e ▸ hkm)
        omega
    ·simp only at h2
     subst h2
     have hlen:(rM v (a.take k)).length <= k + 1:=by
      have:∀ p:List Int,(rM v p).length <= p.length + 1:=by
       intro p
       induction p with
       | nil=>simp [rM]
       | cons x p ih =>
        unfold rM
        split
        ·simp
        ·split
         ·simp
         ·simp; exact ih
      have:=this (a.take k)
      rw [List.length_take] at this
      omega
     refine .inl ⟨(true,rM v (a.take (k + 1))),?_,.inr ⟨rfl,?_,rfl⟩⟩
     ·show aL a v true k _ = _
      unfold aL
      rw [if_pos (by simpa using hk),w3,if_neg (by simp),hj _ _ hlen,htk,aEC h1]
      rfl
     ·obtain ⟨x,hx,hxv⟩:=h1
      exact ⟨x,by rw [htk]; simp [hx],hxv⟩
   ·rintro ⟨p,q⟩ hq
    refine ⟨(p,q),?_,?_⟩
    ·show aL a v p a.length q = _
     unfold aL
     rw [if_neg (by simp)]
    ·rw [List.take_length] at hq
     rcases hq with ⟨h1,h2,h3⟩ | ⟨h1,_,h3⟩
     ·exact .inl ⟨h1,h2,h3⟩
     ·exact .inr ⟨h1,h3⟩
  obtain ⟨⟨p,q⟩,h1,h2⟩:=key
  unfold kB
  rw [h1,Option.bind_some]
  simp only at h2 ⊢
  rcases h2 with ⟨rfl,h3,rfl⟩ | ⟨rfl,rfl⟩
  ·rw [if_pos (by simp),if_pos (by omega)]
   have:=WE (v:=v) [] h3
   rw [List.append_nil] at this
   rw [this]
   rfl
  ·rw [if_neg (by simp)]
theorem aBc (h9:l.length <= 9) (hr:∀ i,i < l.length->(el l i).Rights.length <= 12):eV l = some (uP l):=by
 have hS:uP l = AN (CU l):=by
  unfold uP A5
  rw [Q3,L5]
 rw [hS]
 unfold eV iM
 have hfl:∀ (p:List Int) (n:Nat),p.length <= n->(AN p).length <= n:=fun p n hp=>by
  have:(A5 (zO p)).length <= (zO p).length:=Lib.compact_length_le _
  unfold A5 at this
  rw [D8,Q3,L5] at this
  omega
 have hsn:∀ (p:List Int) (v:Int),rM v (AN p) = AN (p ++ [v]):=fun p v=>by
  unfold AN
  rw [List.foldl_append]
  rfl
 have key:∃ x,dK (fun (w:List Int × Int)=>aU l w.1 w.2) ([],0) = some x ∧ x = AN (CU l):=by
  refine eQ (step:=fun (w:List Int × Int)=>aU l w.1 w.2) (fun k (z:List Int)=>(z,(k:Int))) l.length (fun k z=>z = AN (CU (l.take k))) _ ?_ ?_ [] (by simp [CU,AN])
  ·rintro k z hk rfl
   have w3:IntKind.wrap .i64 ((k:Int) + 1) = ((k + 1:Nat):Int):=bC (by omega)
   have hol:=MC hr k (by omega)
   have hin:∃ x,eO l k (AN (CU (l.take k))) 0 = some x ∧ x = AN (CU (l.take (k + 1))):=by
    have hrk:=hr k hk
    unfold eO
    refine eQ (step:=fun (w:List Int × Int)=>aZ l k w.1 w.2) (fun i (y:List Int)=>(y,(i:Int))) (el l k).Rights.length (fun i y=>y = AN (CU (l.take k) ++ ((el l k).Rights.take i).map (·.Owner))) _ ?_ ?_ _ (by simp)
    ·rintro i y hi rfl
     have w4:IntKind.wrap .i64 ((i:Int) + 1) = ((i + 1:Nat):Int):=bC (by omega)
     refine .inl ⟨_,?_,rfl⟩
     show aZ l k _ i = _
     unfold aZ
     rw [bU l k hk,Option.bind_some,if_pos (by simpa using hi),Option.bind_some,bU _ i hi,Option.bind_some,aOJ _ _ (by have:=hfl (CU (l.take k) ++ ((el l k).Rights.take i).map (·.Owner)) 10000 (by simp; omega); omega) (UC _),Option.bind_some,w4,hsn,qW (·.Owner) _ i hi,List.append_assoc]
    ·rintro y rfl
     refine ⟨_,?_,rfl⟩
     show aZ l k _ ((el l k).Rights.length:Nat) = _
     unfold aZ
     rw [bU l k hk,Option.bind_some,if_neg (by simp),List.take_length,NF hk]
   obtain ⟨x,e1,rfl⟩:=hin
   refine .inl ⟨_,?_,rfl⟩
   show aU l _ k = _
   unfold aU
   rw [if_pos (by simpa using hk),e1,Option.bind_some,w3]
  ·rintro z rfl
   refine ⟨_,?_,rfl⟩
   show aU l _ l.length = _
   unfold aU
   rw [if_neg (by simp),List.take_length]
 obtain ⟨x,h1,rfl⟩:=key
 rw [h1]; rfl
theorem aP5 {n:Int} (hl:l.length < 4611686018427387904) (h:gV n l = some true):l.length <= 9 ∧ (∀ i,i < l.length->(el l i).Rights.length <= 12) ∧ (uP l).length <= 4:=by
 obtain ⟨b,e,hf⟩:=aQA n l hl
 rw [h] at e
 cases e
 obtain ⟨h9,hr⟩:=hf rfl
 refine ⟨h9,hr,?_⟩
 unfold gV kH at h
 cases e1:dK (fun w=>b5 n l w) 0 with
 | none=>rw [e1] at h; cases h
 | some z =>
  rw [e1,Option.bind_some] at h
  cases z with
  | inr u=>cases h
  | inl u =>
   rw [Sum.elim_inl,if_pos (by simp; omega),aED l h9,Option.bind_some] at h
   obtain ⟨b,hb⟩:=aEq n (l.map gD)
   rw [hb,Option.bind_some] at h
   cases b with
   | false=>cases h
   | true =>
    rw [if_pos rfl,aBc h9 hr,Option.bind_some] at h
    have:=Option.some.inj h
    have:=of_decide_eq_true this
    omega
end
end Go.Proofs.Ytgjcnbgfaimepaa
