/- Law 43: what the parts of rights compute: Check, right, free, best, Clear. Law 43: what best computes: the free duties are cleared, and their sums put back in their places. Law 43: the inputs that the law looks at are small. Law 43: RightsKeeps. Law 43: RightsMore: who is asked more clears no less. -/
import Derived.Test.YtgjcnbgfaimepaaPCb
import Derived.Test.YtgjcnbgfaimepaaNextS
namespace Go.Proofs.Ytgjcnbgfaimepaa
section
open Go.RowKit Vm
theorem aPj {n:Nat} {dues:List aI} (h:D5 n dues):∃ x q,pG n dues = some (x,q,0) ∧ ZP n dues x q:=by
 have hR:=aGH n dues
 rw [SG.2 ⟨n,rfl,h⟩] at hR
 exact aQF h hR
theorem aLP (x n:Int):tV x n = some (decide (0 <= x ∧ x < n)):=by
 unfold tV
 by_cases h:0 <= x
 ·rw [Á (by simpa using h)]
  simp [h]
 ·rw [Ã (by simpa using h)]
  simp [h]
theorem OR (p:Nat->Bool) (n:Nat):Sum.elim (fun _=>some (-1:Int)) (fun z=>some z) (toS () (xJ (fun i=>if p i = true then some (i:Int) else none) 0 n)) = some (((xJ (fun i=>if p i = true then some (i:Int) else none) 0 n)).getD (-1)):=by
 cases xJ (fun i=>if p i = true then some (i:Int) else none) 0 n <;> rfl
theorem QT (p:Nat->Bool) (n:Nat):decide (((xJ (fun i=>if p i = true then some (i:Int) else none) 0 n)).getD (-1) ≥ 0) = !(wR (fun i=>!(p i)) n):=by
 cases e:xJ (fun i=>if p i = true then some (i:Int) else none) 0 n with
 | none =>
  have h:=(ER n 0).1 e
  have:wR (fun i=>!(p i)) n = true:=iT.2 fun i hi=>by
   have:=h i (Ė _) (by omega)
   cases hp:p i with
   | false=>rfl
   | true=>simp [hp] at this
  rw [this]; rfl
 | some x =>
  obtain ⟨i,_,hi,h1,_⟩:=OT n 0 e
  have hp:p i = true:=by
   cases hp:p i with
   | true=>rfl
   | false=>simp [hp] at h1
  rw [hp] at h1
  simp at h1
  have:wR (fun i=>!(p i)) n = false:=by
   cases h:wR (fun i=>!(p i)) n with
   | false=>rfl
   | true =>
    have:=iT.1 h i (by omega)
    rw [hp] at this; cases this
  rw [this,← h1]
  simp
theorem VX (a:List Int) (v:Int):a.contains v = !(wR (fun i=>!(decide (v = el a i))) a.length):=by
 by_cases h:v ∈ a
 ·obtain ⟨i,hi,e⟩:=E9 h
  have:wR (fun i=>!(decide (v = el a i))) a.length = false:=by
   cases h2:wR (fun i=>!(decide (v = el a i))) a.length with
   | false=>rfl
   | true =>
    have:=iT.1 h2 i hi
    rw [e] at this; simp at this
  rw [this]
  simpa using h
 ·have:wR (fun i=>!(decide (v = el a i))) a.length = true:=iT.2 fun i hi=>by
   have:=kS a i hi
   simp
   intro e
   exact h (e ▸ this)
  rw [this]
  simpa using h
theorem aNL (a:List Int) (v:Int) (hl:a.length < 4611686018427387904):kI a v = some ((xJ (fun i=>if decide (v = el a i) = true then some (i:Int) else none) 0 a.length).getD (-1)):=by
 unfold kI nE
 have key:=D6 (step:=fun w=>cU a v w) (fun i:Nat=>(i:Int)) a.length (fun i=>if decide (v = el a i) = true then some (i:Int) else none) () ?_ ?_
 ·refine (Ą (fun o=>Option.bind o _) key).trans ?_
  exact OR _ _
 ·intro i hi
  show cU a v i = _
  unfold cU
  have w3:=aO (n:=i) (by omega)
  rw [Á (by simpa using hi),bA a i hi,À,w3]
  by_cases e:v = el a i
  ·rw [Á (by simpa using e)]; simp [e]
  ·rw [Ã (by simpa using e)]; simp [e]
 ·show cU a v a.length = _
  unfold cU
  rw [Ã (by simp)]
theorem RM (a:List Int) (v:Int) (hl:a.length < 4611686018427387904):eV a v = some (a.contains v):=by
 unfold eV
 rw [aNL a v hl,À,QT,VX]
def kC (asked:List Int) (d:aF):Bool:=d.Rights.all fun r=>asked.contains r.Owner
theorem RN {α:Type} [Inhabited α] (p:α->Bool) (l:List α):l.all p = wR (fun i=>p (el l i)) l.length:=by
 rw [Ł,Ó,iT]
 constructor
 ·exact fun h i hi=>h _ (kS l i hi)
 ·intro h x hx
  obtain ⟨i,hi,rfl⟩:=E9 hx
  exact h i hi
theorem aKm (d:aF) (asked:List Int) (hl:asked.length < 4611686018427387904) (hr:d.Rights.length < 4611686018427387904):wT d asked = some (kC asked d):=by
 unfold wT cH dJ eN
 have key:=D6 (step:=fun w=>aU d.Rights asked w) (fun i:Nat=>(i:Int)) d.Rights.length (fun i=>if (!(asked.contains (el d.Rights i).Owner)) = true then some (i:Int) else none) () ?_ ?_
 ·refine (Ą (fun o=>Option.bind (Option.bind (Option.bind o _) _) _) key).trans ?_
  rw [À,OR (fun i=>!(asked.contains (el d.Rights i).Owner)),À,À,QT (fun i=>!(asked.contains (el d.Rights i).Owner))]
  unfold kC
  rw [RN]
  simp
 ·intro i hi
  show aU d.Rights asked i = _
  unfold aU sO
  have w3:=aO (n:=i) (by omega)
  rw [Á (by simpa using hi),bA d.Rights i hi,À,RM _ _ hl,À,À,w3]
  cases asked.contains (el d.Rights i).Owner <;> rfl
 ·show aU d.Rights asked d.Rights.length = _
  unfold aU
  rw [Ã (by simp)]
def rP (a:List Int):Bool:=wR (fun i=>decide ((if i = 0 then -1 else el a (i - 1)) < el a i ∧ el a i < 200)) a.length
theorem TD (a:List Int) (hl:a.length < 4611686018427387904):tP a = some (rP a):=by
 unfold tP yR
 have key:=oC? (step:=fun (w:Int × Int)=>gX a w.1 w.2) (fun i:Nat=>((if i = 0 then -1 else el a (i - 1)),(i:Int))) a.length (fun i=>decide ((if i = 0 then -1 else el a (i - 1)) < el a i ∧ el a i < 200)) () ?_ ?_
 ·refine (Ą (fun o=>Option.bind o _) key).trans ?_
  rw [À]
  unfold rP
  cases wR (fun i=>decide ((if i = 0 then -1 else el a (i - 1)) < el a i ∧ el a i < 200)) a.length <;> rfl
 ·intro i hi
  show gX a (if i = 0 then -1 else el a (i - 1)) i = _
  unfold gX
  have w3:=aO (n:=i) (by omega)
  rw [Á (by simpa using hi),bA a i hi,À,w3]
  generalize (if i = 0 then -1 else el a (i - 1)) = p
  by_cases h1:el a i <= p
  ·have c:¬ (p < el a i ∧ el a i < 200):=by omega
   rw [Á (by simpa using h1),Ã (by simpa using c)]
  ·rw [Ã (by simpa using h1)]
   by_cases h2:el a i ≥ 200
   ·have c:¬ (p < el a i ∧ el a i < 200):=by omega
    rw [Á (by simpa using h2),Ã (by simpa using c)]
   ·have c:p < el a i ∧ el a i < 200:=by omega
    rw [Ã (by simpa using h2),Á (by simpa using c)]
    rfl
 ·show gX a _ a.length = _
  unfold gX
  rw [Ã (by simp)]
def iD (d:aF):aI:=⟨d.From,d.To,d.Sum⟩
theorem aQw (d:aF):B3 d = some (iD d):=rfl
def rOk (r:aT):Bool:=decide (0 <= r.Kind ∧ r.Kind < 4) && decide (0 <= r.Owner ∧ r.Owner < 200)
def F9 (d:aF):Bool:=decide (0 <= d.File ∧ d.File < 50) && decide (0 <= d.Part ∧ d.Part < 4) && decide (0 <= d.Sign ∧ d.Sign < 40) && decide (d.Rights.length <= 8) && d.Rights.all rOk
def mR (n:Int) (l:List aF):Bool:=l.all F9 && LZ n (l.map iD)
theorem aSW (n:Int) (l:List aF) (p1:Int) (p2:List aI) (r4:aI) (d:aF) (hr:d.Rights.length <= 8):uR n l p1 p2 r4 d 0 = some (if d.Rights.all rOk = true then .inl () else .inr ()):=by
 unfold uR
 rw [RN]
 refine oC? (step:=fun w=>gW n l p1 p2 r4 d w) (fun i:Nat=>(i:Int)) d.Rights.length (fun i=>rOk (el d.Rights i)) () ?_ ?_
 ·intro i hi
  show gW n l p1 p2 r4 d i = _
  unfold gW
  have w3:=aO (n:=i) (by omega)
  rw [Á (by simpa using hi),bA d.Rights i hi,À,aLP,À,aLP,À,w3]
  unfold rOk
  cases decide (0 <= (el d.Rights i).Kind ∧ (el d.Rights i).Kind < 4) <;> cases decide (0 <= (el d.Rights i).Owner ∧ (el d.Rights i).Owner < 200) <;> rfl
 ·show gW n l p1 p2 r4 d d.Rights.length = _
  unfold gW
  rw [Ã (by simp)]
theorem xF {α β:Type} [Inhabited α] (f:α->β) (l:List α) (k:Nat) (h:k < l.length):(l.take (k + 1)).map f = (l.take k).map f ++ [f (el l k)]:=by
 rw [ã h,Ă,kJ l k h]
 rfl
theorem aMr (n:Int) (l:List aF) (hl:l.length * 24 <= 140737488351232):vA n l 0 [] = some (if l.all F9 = true then .inl (l.map iD) else .inr ()):=by
 unfold vA
 have key:=oC? (step:=fun (w:Int × List aI)=>hY n l w.1 w.2) (fun i:Nat=>((i:Int),(l.take i).map iD)) l.length (fun i=>F9 (el l i)) (l.map iD) ?_ ?_
 ·rw [RN]
  exact key
 ·intro i hi
  show hY n l i ((l.take i).map iD) = _
  unfold hY
  have w3:=aO (n:=i) (by omega)
  rw [Á (by simpa using hi),bA l i hi,À,aQw,À,Á (by simp; omega),aLP,À,aLP,À,aLP,À,w3]
  rw [xF iD l i hi]
  generalize el l i = d
  unfold F9
  by_cases h8:d.Rights.length <= 8
  ·have c:¬ decide ((d.Rights.length:Int) > 8) = true:=by simp; omega
   rw [Ã c,aSW _ _ _ _ _ _ h8,Í h8]
   cases decide (0 <= d.File ∧ d.File < 50) <;> cases decide (0 <= d.Part ∧ d.Part < 4) <;> cases decide (0 <= d.Sign ∧ d.Sign < 40) <;> cases d.Rights.all rOk <;> rfl
  ·have c:decide ((d.Rights.length:Int) > 8) = true:=by simp; omega
   rw [Á c,û h8]
   cases decide (0 <= d.File ∧ d.File < 50) <;> cases decide (0 <= d.Part ∧ d.Part < 4) <;> cases decide (0 <= d.Sign ∧ d.Sign < 40) <;> rfl
 ·show hY n l l.length ((l.take l.length).map iD) = _
  unfold hY
  rw [Ã (by simp),ì]
theorem TK (n:Int) (l:List aF) (hl:l.length * 24 <= 140737488351232):lH n l = some (if mR n l = true then 0 else 1):=by
 unfold lH mR
 rw [aMr n l hl,À]
 cases l.all F9 with
 | false=>rfl
 | true =>
  simp only [Č,ņ,ķ]
  rw [aGH,À]
  cases LZ n (l.map iD) <;> rfl
end
section
open Go.RowKit Vm
def vJ (asked:List Int) (l:List aF):Nat->List Nat
 | 0=>[]
 | k + 1=>vJ asked l k ++ if kC asked (el l k) = true then [k] else []
section
variable {asked:List Int} {l:List aF}
theorem aFl:∀ k,∀ i ∈ vJ asked l k,i < k ∧ kC asked (el l i) = true
 | 0,i,h=>by cases h
 | k + 1,i,h=>by
  unfold vJ at h
  rcases Ê.1 h with q | q
  ·have:=aFl k i q
   exact ⟨by omega,this.2⟩
  ·split at q
   ·rename_i c
    have:i = k:=by simpa using q
    subst this
    exact ⟨by omega,c⟩
   ·cases q
theorem aGP:∀ k,(vJ asked l k).Pairwise (· < ·)
 | 0=>List.Pairwise.nil
 | k + 1=>by
  unfold vJ
  refine ý.2 ⟨aGP k,?_,fun a ha b hb=>?_⟩
  ·split
   ·exact Þ.2 ⟨fun _ h=>(by cases h),List.Pairwise.nil⟩
   ·exact List.Pairwise.nil
  ·have:=aFl k a ha
   split at hb
   ·have:b = k:=by simpa using hb
    omega
   ·cases hb
theorem LY:∀ k,(vJ asked l k).length <= k
 | 0=>É _
 | k + 1=>by
  have:=LY k
  unfold vJ
  rw [ß]
  split <;> simp <;> omega
def uZ (asked:List Int) (l:List aF):List aI:=(vJ asked l l.length).map fun k=>iD (el l k)
theorem qT:(uZ asked l).length = (vJ asked l l.length).length:=by simp [uZ]
theorem KL {j:Nat} (hj:j < (vJ asked l l.length).length):el (uZ asked l) j = iD (el l (el (vJ asked l l.length) j)):=eP _ _ _ hj
theorem U0 {j:Nat} (hj:j < (vJ asked l l.length).length):el (vJ asked l l.length) j < l.length ∧ kC asked (el l (el (vJ asked l l.length) j)) = true:=aFl _ _ (kS _ _ hj)
theorem QK {n:Nat} (h:D5 n (l.map iD)) {i:Nat} (hi:i < l.length):(0 <= (el l i).From ∧ (el l i).From < n) ∧ (0 <= (el l i).To ∧ (el l i).To < n) ∧ (el l i).From ≠ (el l i).To ∧ 1 <= (el l i).Sum ∧ (el l i).Sum <= 1099511627776:=by
 have:=h.each i (by rw [È]; exact hi)
 rw [eP iD l i hi] at this
 exact this
theorem aBC {n:Nat} (h:D5 n (l.map iD)):D5 n (uZ asked l) where
 nn:=h.nn
 len:=by
  have:=h.len
  have h2:=LY (asked:=asked) (l:=l) l.length
  rw [È] at this
  rw [qT]; omega
 each:=fun j hj=>by
  rw [qT] at hj
  rw [KL hj]
  exact QK h (U0 hj).1
structure xA (l:List aF) (asked:List Int):Prop where
 len:l.length <= 1000
 rights:∀ i,i < l.length->(el l i).Rights.length <= 1000
 asked:asked.length < 4611686018427387904
theorem aPF (n:Int) (h:xA l asked):xB n l asked 0 [] [] = some (uZ asked l,(vJ asked l l.length).map fun (k:Nat)=>(k:Int)):=by
 unfold xB
 have hlen:=h.len
 have key:∃ x,bV (fun (w:Int × List aI × List Int)=>gM n l asked w.1 w.2.1 w.2.2) (0,[],[]) = some x ∧ x = (uZ asked l,(vJ asked l l.length).map fun (k:Nat)=>(k:Int)):=by
  refine bO (step:=fun (w:Int × List aI × List Int)=>gM n l asked w.1 w.2.1 w.2.2) (fun k (a:List aI × List Int)=>((k:Int),a.1,a.2)) l.length (fun k a=>a = ((vJ asked l k).map fun k=>iD (el l k),(vJ asked l k).map fun (k:Nat)=>(k:Int))) (fun x=>x = (uZ asked l,(vJ asked l l.length).map fun (k:Nat)=>(k:Int))) ?_ ?_ ([],[]) rfl
  ·rintro k a hk rfl
   refine .inl ⟨_,?_,rfl⟩
   show gM n l asked k _ _ = _
   unfold gM
   have w3:=aO (n:=k) (by omega)
   have hfl:=LY (asked:=asked) (l:=l) k
   rw [Á (by simpa using hk),bA l k hk,À,aKm _ _ h.asked (by have:=h.rights k hk; omega),À,w3]
   rw [show vJ asked l (k + 1) = vJ asked l k ++ if kC asked (el l k) = true then [k] else [] from rfl]
   cases hf:kC asked (el l k) with
   | true =>
    rw [Á rfl,aQw,À,Á (by simp; omega),Á (by simp; omega)]
    simp
   | false=>simp
  ·rintro a rfl
   refine ⟨_,?_,rfl⟩
   show gM n l asked l.length _ _ = _
   unfold gM
   rw [Ã (by simp)]
   rfl
 obtain ⟨x,h1,h2⟩:=key
 rw [← h2]
 exact h1
structure yD (m:Nat) (l:List aF) (asked:List Int) (X q y:List Int):Prop where
 best:ZP m (uZ asked l) y q
 len:X.length = l.length
 at' : ∀ j,j < (vJ asked l l.length).length->el X (el (vJ asked l l.length) j) = el y j
 off:∀ i,i < l.length->kC asked (el l i) = false->el X i = 0
theorem aQ9 {I:List Nat} (h:I.Pairwise (· < ·)) {a b:Nat} (ha:a < I.length) (hb:b < I.length) (e:el I a = el I b):a = b:=by
 rw [kJ _ _ ha,kJ _ _ hb] at e
 rcases Nat.lt_trichotomy a b with q | q | q
 ·have:=æ.1 h a b ha hb q; omega
 ·exact q
 ·have:=æ.1 h b a hb ha q; omega
theorem aDK {m:Nat} (h:xA l asked) (hk:D5 m (l.map iD)):∃ X q y,nI m l asked = some (X,q) ∧ yD m l asked X q y:=by
 have hlen:=h.len
 obtain ⟨y,q,c1,c2⟩:=aPj (aBC (asked:=asked) hk)
 have hyl:y.length = (vJ asked l l.length).length:=by rw [c2.len,qT]
 have hIl:=LY (asked:=asked) (l:=l) l.length
 obtain ⟨X,h1,h2⟩ : ∃ X,w9 (y,q,0) (uZ asked l,(vJ asked l l.length).map fun (k:Nat)=>(k:Int)) 0 (List.replicate l.length 0) = some X ∧ X.length = l.length ∧ (∀ j,j < y.length->el X (el (vJ asked l l.length) j) = el y j) ∧ ∀ i,i < l.length->(∀ j,j < y.length->el (vJ asked l l.length) j ≠ i)->el X i = 0:=by
  unfold w9
  refine bO (step:=fun (w:Int × List Int)=>iQ (y,q,0) (uZ asked l,(vJ asked l l.length).map fun (k:Nat)=>(k:Int)) w.1 w.2) (fun k (a:List Int)=>((k:Int),a)) y.length (fun k a=>a.length = l.length ∧ (∀ j,j < k->el a (el (vJ asked l l.length) j) = el y j) ∧ ∀ i,i < l.length->(∀ j,j < k->el (vJ asked l l.length) j ≠ i)->el a i = 0) _ ?_ ?_ (List.replicate l.length 0) ⟨by simp,fun j hj=>by omega,fun i hi _=>by simp [el,hi]⟩
  ·rintro k a hk' ⟨a1,a2,a3⟩
   have hkI:k < (vJ asked l l.length).length:=by omega
   have hlt:=(U0 hkI).1
   refine .inl ⟨a.set (el (vJ asked l l.length) k) (el y k),?_,by simp [a1],fun j hj=>?_,fun i hi hne=>?_⟩
   ·show iQ (y,q,0) _ k a = _
    unfold iQ
    have w3:=aO (n:=k) (by omega)
    have e1:((vJ asked l l.length).map fun (k:Nat)=>(k:Int))[(k:Int).toNat]? = some ((el (vJ asked l l.length) k:Nat):Int):=by
     rw [Ä,Ç,é hkI,kJ _ _ hkI]
     rfl
    have e2:a[(((el (vJ asked l l.length) k:Nat):Int)).toNat]? = some (el a (el (vJ asked l l.length) k)):=by
     rw [Ä]
     exact DH a _ (by omega)
    simp only
    rw [Á (by simpa using hk'),bA y k hk',À,Á ⟨by omega,by simp; omega⟩,e1,À,Á ⟨by omega,by simp; omega⟩,e2,À,w3,Ä]
   ·rw [bR]
    by_cases e:j = k
    ·subst e
     rw [Á ⟨rfl,by omega⟩]
    ·have hne:el (vJ asked l l.length) j ≠ el (vJ asked l l.length) k:=fun q=>e (aQ9 (aGP _) (by omega) hkI q)
     rw [Ã (fun q=>hne q.1)]
     exact a2 j (by omega)
   ·rw [bR]
    rw [Ã (fun q=>hne k (by omega) q.1.symm)]
    exact a3 i hi fun j hj=>hne j (by omega)
  ·rintro a ⟨a1,a2,a3⟩
   refine ⟨a,?_,a1,a2,a3⟩
   show iQ (y,q,0) _ y.length a = _
   unfold iQ
   simp only
   rw [Ã (by simp)]
 obtain ⟨h2,h3,h4⟩:=h2
 refine ⟨X,q,y,?_,c2,h2,fun j hj=>h3 j (by omega),fun i hi hf=>h4 i hi fun j hj e=>?_⟩
 ·unfold nI
  rw [aPF m h,À]
  simp only
  rw [c1,À,Á (by omega),Ä,h1]
  rfl
 ·have:=(U0 (asked:=asked) (l:=l) (j:=j) (by omega)).2
  rw [e,hf] at this
  cases this
end
end
section
open Go.RowKit Vm
theorem aPr (n:Int) (dues:List aI):∃ b,pA n dues = some b:=by
 unfold pA
 have key:∃ z,n8 n dues 0 = some z ∧ True:=by
  unfold n8
  refine aIf (step:=fun w=>bY n dues w) (fun i:Nat=>(i:Int)) (min dues.length 20) (fun _=>True) (fun _=>True) ?_ ?_
  ·intro i hi
   have c0:decide ((i:Int) < (dues.length:Int)) = true:=by simp; omega
   have c1:decide ((i:Int) < 20) = true:=by simp; omega
   have w3:=aO (n:=i) (by omega)
   have e:bY n dues i = if decide ((el dues i).Sum > 12) = true then (if decide ((el dues i).Sum <= 1099511627776) = true then some (.inr (.inr ())) else some (.inl ((i + 1:Nat):Int))) else some (.inl ((i + 1:Nat):Int)):=by
    unfold bY
    simp only [Á c0,Á c1,bA dues i (by omega),À,w3]
   by_cases a1:decide ((el dues i).Sum > 12) = true
   ·by_cases a2:decide ((el dues i).Sum <= 1099511627776) = true
    ·refine .inr ⟨.inr (),?_,fun _=>trivial⟩
     show bY n dues i = _
     rw [e,Á a1,Á a2]
    ·refine .inl ⟨?_,trivial⟩
     show bY n dues i = _
     rw [e,Á a1,Ã a2]
   ·refine .inl ⟨?_,trivial⟩
    show bY n dues i = _
    rw [e,Ã a1]
  ·refine ⟨.inl (),?_,fun _=>trivial⟩
   show bY n dues ((min dues.length 20:Nat):Int) = _
   unfold bY
   by_cases h2:dues.length <= 20
   ·rw [Ã (by simp; omega)]
   ·have c0:decide (((min dues.length 20:Nat):Int) < (dues.length:Int)) = true:=by simp; omega
    have c1:¬ decide (((min dues.length 20:Nat):Int) < 20) = true:=by simp; omega
    rw [Á c0,Ã c1]
 obtain ⟨z,h1,_⟩:=key
 rw [h1,À]
 cases z with
 | inr u=>exact ⟨false,rfl⟩
 | inl u =>
  rw [ņ]
  split
  ·split
   ·exact ⟨_,rfl⟩
   ·split <;> exact ⟨_,rfl⟩
  ·split
   ·split
    ·exact ⟨_,rfl⟩
    ·split <;> exact ⟨_,rfl⟩
   ·exact ⟨_,rfl⟩
theorem aBY (l:List aF) (hl:l.length <= 9):jI l = some (l.map iD):=by
 unfold jI rJ
 have key:∃ x,bV (fun (w:Int × List aI)=>dG l w.1 w.2) (0,[]) = some x ∧ x = l.map iD:=by
  refine bO (step:=fun (w:Int × List aI)=>dG l w.1 w.2) (fun k (z:List aI)=>((k:Int),z)) l.length (fun k z=>z = (l.take k).map iD) _ ?_ ?_ [] (by simp)
  ·rintro k z hk rfl
   have w3:=aO (n:=k) (by omega)
   refine .inl ⟨_,?_,rfl⟩
   show dG l k _ = _
   unfold dG
   simp only [Á (show decide ((k:Int) < (l.length:Int)) = true by simpa using hk),bA l k hk,À]
   rw [Á (by simp; omega),w3,xF iD l k hk]
   rfl
  ·rintro z rfl
   refine ⟨l.map iD,?_,rfl⟩
   show dG l l.length _ = _
   unfold dG
   rw [Ã (by simp),ì]
 obtain ⟨x,h1,rfl⟩:=key
 rw [h1]; rfl
section
variable {n:Int} {l:List aF} {asked:List Int}
theorem aMA (h:xA l asked) (hc:mR n l = true) (hr:rP asked = true):∃ (m:Nat) (X q y:List Int),n = m ∧ D5 m (l.map iD) ∧ iK n l asked = some (X,q,0) ∧ yD m l asked X q y:=by
 have hc':=hc
 unfold mR at hc'
 rw [Ø] at hc'
 obtain ⟨m,rfl,hk⟩:=SG.1 hc'.2
 obtain ⟨X,q,y,h1,h2⟩:=aDK h hk
 refine ⟨m,X,q,y,rfl,hk,?_,h2⟩
 unfold iK
 have:=h.len
 rw [TK _ _ (by omega),hc,À,Ã (by decide),TD _ h.asked,hr,À,Ã (by decide),h1]
 rfl
theorem aMm (h:xA l asked) (hc:(mR n l && rP asked) = false):iK n l asked = some ([],[],1):=by
 unfold iK
 have:=h.len
 rw [TK _ _ (by omega),À]
 cases h1:mR n l with
 | false=>rfl
 | true =>
  rw [h1] at hc
  simp only [ķ] at hc
  rw [Ã (by decide),TD _ h.asked,hc]
  rfl
theorem aM4 (h:xA l asked) (X:List Int):qJ l X asked = some (decide (X.length = l.length) && wR (fun i=>decide (el X i = 0) || kC asked (el l i)) l.length):=by
 unfold qJ
 have hlen:=h.len
 by_cases hX:X.length = l.length
 ·rw [Ã (by simp; omega),Í hX]
  unfold yP
  have key:=oC? (step:=fun w=>fY l X asked w) (fun i:Nat=>(i:Int)) l.length (fun i=>decide (el X i = 0) || kC asked (el l i)) () ?_ ?_
  ·change bV (fun w=>fY l X asked w) 0 = _ at key
   rw [key,À]
   cases wR (fun i=>decide (el X i = 0) || kC asked (el l i)) l.length <;> rfl
  ·intro i hi
   show fY l X asked i = _
   unfold fY
   have w3:=aO (n:=i) (by omega)
   rw [Á (by simpa using hi),bA l i hi,À,bA X i (by omega),À,w3]
   by_cases c:el X i = 0
   ·rw [Ã (by simpa using c),Í c]; rfl
   ·rw [Á (by simpa using c),û c,aKm _ _ h.asked (by have:=h.rights i hi; omega),À]
    cases kC asked (el l i) <;> rfl
  ·show fY l X asked l.length = _
   unfold fY
   rw [Ã (by simp)]
 ·rw [Á (by simp; omega),û hX]; rfl
end
end
section
open Go.RowKit Vm
section
variable {m:Nat} {l:List aF} {asked X q y:List Int}
theorem aGn {k:Nat}:∀ d,∃ r,vJ asked l (k + d) = vJ asked l k ++ r
 | 0=>⟨[],by simp⟩
 | d + 1=>by
  obtain ⟨r,h⟩:=aGn (k:=k) d
  refine ⟨r ++ if kC asked (el l (k + d)) = true then [k + d] else [],?_⟩
  rw [show k + (d + 1) = (k + d) + 1 by omega,show vJ asked l (k + d + 1) = vJ asked l (k + d) ++ if kC asked (el l (k + d)) = true then [k + d] else [] from rfl,h,è]
theorem YM {k:Nat} (hk:k < l.length) (hf:kC asked (el l k) = true):(vJ asked l k).length < (vJ asked l l.length).length ∧ el (vJ asked l l.length) (vJ asked l k).length = k:=by
 obtain ⟨r,h⟩:=aGn (k:=k + 1) (asked:=asked) (l:=l) (l.length - (k + 1))
 rw [show k + 1 + (l.length - (k + 1)) = l.length by omega,show vJ asked l (k + 1) = vJ asked l k ++ if kC asked (el l k) = true then [k] else [] from rfl,Á hf] at h
 rw [h]
 refine ⟨by simp,?_⟩
 simp [el]
theorem yD.ylen (b:yD m l asked X q y):y.length = (vJ asked l l.length).length:=by rw [b.best.len,qT]
theorem yD.val (b:yD m l asked X q y) {k:Nat} (hk:k < l.length) (hf:kC asked (el l k) = true):el X k = el y (vJ asked l k).length:=by
 obtain ⟨h1,h2⟩:=YM hk hf
 have:=b.at' _ h1
 rw [h2] at this
 exact this
theorem yD.rng (b:yD m l asked X q y) (h:D5 m (l.map iD)) {i:Nat} (hi:i < l.length):0 <= el X i ∧ el X i <= (el l i).Sum:=by
 have hs:=(QK h hi).2.2.2
 cases hf:kC asked (el l i) with
 | false=>rw [b.off i hi hf]; omega
 | true =>
  obtain ⟨h1,h2⟩:=YM hi hf
  rw [b.val hi hf]
  have hj:(vJ asked l i).length < (uZ asked l).length:=by rw [qT]; exact h1
  have c1:=b.best.bald.lo _ hj
  have c2:=b.best.bald.hi _ hj
  unfold jN at c2
  rw [KL h1,h2] at c2
  exact ⟨c1,c2⟩
theorem yD.list (b:yD m l asked X q y):((vJ asked l l.length).map fun k=>el X k) = y:=by
 refine č fun j=>?_
 rw [Ç]
 by_cases hj:j < (vJ asked l l.length).length
 ·have hy:j < y.length:=by rw [b.ylen]; exact hj
  rw [é hj,é hy,ä,← kJ _ _ hj,b.at' j hj,kJ _ _ hy]
 ·rw [ô (by omega),ô (by rw [b.ylen]; omega)]
  rfl
theorem yD.netF (b:yD m l asked X q y) (v:Nat):∀ k,k <= l.length->netF (iH (l.map iD)) (i7 (l.map iD)) k (el X) v = Go.Proofs.Ytgjcnbgfaimepaa.netF (iH (uZ asked l)) (i7 (uZ asked l)) (vJ asked l k).length (el y) v
 | 0,_=>rfl
 | k + 1,hk=>by
  have ih:=yD.netF b v k (by omega)
  have hkl:k < l.length:=by omega
  rw [QQ,ih]
  have e1:el (l.map iD) k = iD (el l k):=eP iD l k hkl
  cases hf:kC asked (el l k) with
  | false =>
   rw [show vJ asked l (k + 1) = vJ asked l k ++ if kC asked (el l k) = true then [k] else [] from rfl,hf,b.off k hkl hf]
   simp
  | true =>
   obtain ⟨h1,h2⟩:=YM hkl hf
   rw [show (vJ asked l (k + 1)).length = (vJ asked l k).length + 1 by rw [show vJ asked l (k + 1) = vJ asked l k ++ if kC asked (el l k) = true then [k] else [] from rfl,Á hf]; simp]
   rw [QQ,b.val hkl hf]
   unfold iH i7
   rw [KL h1,h2,e1]
theorem GH (h9:l.length <= 9) (hr:∀ i,i < l.length->(el l i).Rights.length <= 12) (ha:asked.length < 4611686018427387904):xA l asked:=⟨by omega,fun i hi=>by have:=hr i hi; omega,ha⟩
end
end
section
open Go.RowKit Vm
section
variable {m:Nat} {l:List aF} {asked:List Int}
theorem aB1 (g:Nat->Int):∀ k,k <= l.length->(∀ i,i < k->kC asked (el l i) = false->g i = 0)->eY g k = eY (fun j=>g (el (vJ asked l l.length) j)) (vJ asked l k).length
 | 0,_,_=>rfl
 | k + 1,hk,h=>by
  have ih:=aB1 g k (by omega) (fun i hi=>h i (by omega))
  show eY g k + g k = _
  rw [ih]
  cases hf:kC asked (el l k) with
  | false =>
   rw [show vJ asked l (k + 1) = vJ asked l k ++ if kC asked (el l k) = true then [k] else [] from rfl,hf,h k (by omega) hf]
   simp
  | true =>
   obtain ⟨h1,h2⟩:=YM (by omega:k < l.length) hf
   rw [show (vJ asked l (k + 1)).length = (vJ asked l k).length + 1 by rw [show vJ asked l (k + 1) = vJ asked l k ++ if kC asked (el l k) = true then [k] else [] from rfl,Á hf]; simp]
   show _ = eY _ _ + g (el (vJ asked l l.length) (vJ asked l k).length)
   rw [h2]
theorem aO2 (h:D5 m (l.map iD)) {Z:List Int} (h0:∀ i,i < l.length->kC asked (el l i) = false->el Z i = 0) (hr:∀ i,i < l.length->0 <= el Z i ∧ el Z i <= (el l i).Sum) (hn:∀ v,v < m->netF (iH (l.map iD)) (i7 (l.map iD)) l.length (el Z) v = 0) :
  oG (iH (uZ asked l)) (i7 (uZ asked l)) (jN (uZ asked l)) m (uZ asked l).length (fun j=>el Z (el (vJ asked l l.length) j)) where
 lo:=fun j hj=>by
  rw [qT] at hj
  exact (hr _ (U0 hj).1).1
 hi:=fun j hj=>by
  rw [qT] at hj
  unfold jN
  rw [KL hj]
  exact (hr _ (U0 hj).1).2
 net:=fun v hv=>by
  have e:=hn v hv
  unfold netF at e ⊢
  rw [aB1 (asked:=asked) _ l.length (É _) (fun i hi hf=>by rw [h0 i hi hf]; simp)] at e
  rw [qT]
  refine Eq.trans (jJ fun j hj=>?_) e
  have hl:=(U0 hj).1
  unfold iH i7
  rw [KL hj,eP iD l _ hl]
theorem yD.sum {X q y:List Int} (b:yD m l asked X q y):eY (el X) l.length = eY (el y) (uZ asked l).length:=by
 rw [aB1 (asked:=asked) (el X) l.length (É _) b.off,qT]
 exact jJ fun j hj=>b.at' j hj
theorem yD.all {X q y:List Int} (b:yD m l asked X q y) {v:Nat} (hv:v < m):Go.Proofs.Ytgjcnbgfaimepaa.netF (iH (l.map iD)) (i7 (l.map iD)) l.length (el X) v = 0:=by
 rw [b.netF v _ (É _)]
 have:=b.best.bald.net v hv
 rwa [qT] at this
theorem aJh {asked' X q y X' q' y' : List Int} (h:D5 m (l.map iD)) (hsub:∀ i,i < l.length->kC asked (el l i) = true->kC asked' (el l i) = true) (b:yD m l asked X q y) (b' : yD m l asked' X' q' y'):eY (el X) l.length <= eY (el X') l.length:=by
 have h0:∀ i,i < l.length->kC asked' (el l i) = false->el X i = 0:=fun i hi hf=>b.off i hi (by
  cases c:kC asked (el l i) with
  | false=>rfl
  | true=>rw [hsub i hi c] at hf; cases hf)
 have hb:=aO2 (asked:=asked') h h0 (fun i hi=>b.rng h hi) (fun v hv=>b.all hv)
 have hk:=aBC (asked:=asked') h
 rw [b'.sum,aB1 (asked:=asked') (el X) l.length (É _) h0,← qT]
 exact KZ hk.fr hk.tt b'.best.bald hb b'.best.cert
theorem yD.total {X q y:List Int} (h:D5 m (l.map iD)) (b:yD m l asked X q y):OM X = eY (el X) l.length:=by
 have hl:=h.len
 rw [È] at hl
 have hok:S5 X = true:=by
  unfold S5
  refine iT.2 fun i hi=>?_
  rw [b.len] at hi
  have:=b.rng h hi
  have:=(QK h hi).2.2.2.2
  exact Í ⟨by omega,by omega⟩
 unfold OM
 rw [Á ⟨by rw [b.len]; exact hl,hok⟩,b.len]
def JB (l:List aF):List Int:=l.flatMap fun d=>d.Rights.map (·.Owner)
theorem U2 {k:Nat} (hk:k < l.length):JB (l.take (k + 1)) = JB (l.take k) ++ (el l k).Rights.map (·.Owner):=by
 unfold JB
 rw [ã hk,Ī,kJ _ _ hk]
 simp
theorem TO (hr:∀ i,i < l.length->(el l i).Rights.length <= 12):∀ k,k <= l.length->(JB (l.take k)).length <= 12 * k
 | 0,_=>by simp [JB]
 | k + 1,hk=>by
  have:=TO hr k (by omega)
  have h2:=hr k (by omega)
  rw [U2 (by omega),ß,È]
  omega
def FU (l:List aF):List Int:=GA (EM (JB l))
theorem aDi (h9:l.length <= 9) (hr:∀ i,i < l.length->(el l i).Rights.length <= 12):kM l = some (FU l):=by
 unfold kM
 have key:∃ x,sE l 0 [] = some x ∧ x = JB l:=by
  unfold sE
  refine bO (step:=fun (w:Int × List Int)=>gJ l w.1 w.2) (fun k (z:List Int)=>((k:Int),z)) l.length (fun k z=>z = JB (l.take k)) _ ?_ ?_ [] (by simp [JB])
  ·rintro k z hk rfl
   have w3:=aO (n:=k) (by omega)
   have hol:=TO hr k (by omega)
   have hrk:=hr k hk
   have hin:∃ x,sH l k (el l k) 0 (JB (l.take k)) = some x ∧ x = JB (l.take k) ++ (el l k).Rights.map (·.Owner):=by
    unfold sH
    refine bO (step:=fun (w:Int × List Int)=>gI l k (el l k) w.1 w.2) (fun i (y:List Int)=>((i:Int),y)) (el l k).Rights.length (fun i y=>y = JB (l.take k) ++ ((el l k).Rights.take i).map (·.Owner)) _ ?_ ?_ _ (by simp)
    ·rintro i y hi rfl
     have w4:=aO (n:=i) (by omega)
     refine .inl ⟨_,?_,rfl⟩
     show gI l k (el l k) i _ = _
     unfold gI
     rw [Á (by simpa using hi),bA _ i hi,À,Á (by simp; omega),w4,xF (·.Owner) _ i hi,è]
    ·rintro y rfl
     refine ⟨_,?_,rfl⟩
     show gI l k (el l k) ((el l k).Rights.length:Nat) _ = _
     unfold gI
     rw [Ã (by simp),ì]
   obtain ⟨x,e1,rfl⟩:=hin
   refine .inl ⟨_,?_,rfl⟩
   show gJ l k _ = _
   unfold gJ
   rw [Á (by simpa using hk),bA l k hk,À,e1,À,w3,U2 hk]
  ·rintro z rfl
   refine ⟨_,?_,rfl⟩
   show gJ l l.length _ = _
   unfold gJ
   rw [Ã (by simp),ì]
 obtain ⟨x,h1,rfl⟩:=key
 have hol:=TO hr l.length (É _)
 rw [ì] at hol
 rw [h1,À,Á (by omega)]
 rfl
theorem aKX:LG (FU l):=WH (LW _)
theorem aMx {x:Int}:x ∈ FU l ↔ ∃ d ∈ l,∃ r ∈ d.Rights,r.Owner = x:=by
 unfold FU GA
 rw [V2,(LK _).mem_iff]
 unfold JB
 simp
theorem aKS {n:Int} (hc:mR n l = true) {x:Int} (hx:x ∈ FU l):0 <= x ∧ x < 200:=by
 obtain ⟨d,hd,r,hr,rfl⟩:=aMx.1 hx
 unfold mR at hc
 rw [Ø,Ó] at hc
 have:=hc.1 d hd
 unfold F9 at this
 simp only [Ø,Ó] at this
 have:=this.2 r hr
 unfold rOk at this
 simp at this
 exact this.2
theorem aFm {a:List Int} (h:LG a) (hr:∀ x ∈ a,0 <= x ∧ x < 200):rP a = true:=by
 unfold rP
 refine iT.2 fun i hi=>Í ?_
 have hm:=hr _ (kS a i hi)
 refine ⟨?_,hm.2⟩
 by_cases e:i = 0
 ·rw [Á e]; omega
 ·rw [Ã e,kJ _ _ hi,kJ _ _ (by omega)]
  exact æ.1 h (i - 1) i (by omega) hi (by omega)
theorem aHt {a b:List Int} (h:∀ x ∈ a,x ∈ b) {d:aF} (hf:kC a d = true):kC b d = true:=by
 unfold kC at hf ⊢
 rw [Ó] at hf ⊢
 intro r hr
 have:=hf r hr
 simp at this ⊢
 exact h _ this
end
end
end Go.Proofs.Ytgjcnbgfaimepaa
