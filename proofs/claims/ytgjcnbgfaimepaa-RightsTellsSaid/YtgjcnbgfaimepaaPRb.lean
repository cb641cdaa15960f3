/- Law 43: the reference's owners; who is not asked yet. Law 43: two ascending lists as one; who is not asked yet; what is cleared. Law 43: who is not asked; the lists of places, by their length. Law 43: all ascending lists of places, by their length. Law 43: what Raise finds. Law 43: RightsRaise. Law 43: the sets that are found, as the bits of numbers, and their order. -/
import Derived.Test.YtgjcnbgfaimepaaPRa
namespace Go.Proofs.Ytgjcnbgfaimepaa
section
open Go.RowKit Vm
section
variable {l:List aF} {asked:List Int}
theorem aEX (a:List Int) (v:Int) (hl:a.length < 4611686018427387904):kE a v = some (a.contains v):=by
 unfold kE sG
 have key:=oC? (step:=fun w=>eQ a v w) (fun i:Nat=>(i:Int)) a.length (fun i=>!(decide (v = el a i))) () ?_ ?_
 ·refine (Ą (fun o=>Option.bind o _) key).trans ?_
  rw [À,VX]
  cases wR (fun i=>!(decide (v = el a i))) a.length <;> rfl
 ·intro i hi
  show eQ a v i = _
  unfold eQ
  have w3:=aO (n:=i) (by omega)
  rw [Á (by simpa using hi),bA a i hi,À,w3]
  by_cases c:el a i = v
  ·rw [Á (by simpa using c),Ã (by simp [c])]
  ·rw [Ã (by simpa using c),Á (by simp; exact fun e=>c e.symm)]
 ·show eQ a v a.length = _
  unfold eQ
  rw [Ã (by simp)]
theorem aGy {v:Int}:∀ {a:List Int},LG a->v ∈ a->vI v a = a
 | [],_,h=>by cases h
 | y :: a,ha,h=>by
  have ha':=Þ.1 ha
  unfold vI
  rcases Ô.1 h with e | e
  ·subst e
   rw [Ã (by omega),Á rfl]
  ·have:=ha'.1 v e
   rw [Ã (by omega),Ã (by omega),aGy ha'.2 e]
theorem aG0 {v y:Int}:∀ {p:List Int},(∃ x ∈ p,v < x)->vI v (p ++ [y]) = vI v p ++ [y]
 | [],h=>by obtain ⟨x,hx,_⟩:=h; cases hx
 | x :: p,h=>by
  show vI v (x :: (p ++ [y])) = _
  unfold vI
  by_cases c:v < x
  ·rw [Á c,Á c]; rfl
  ·rw [Ã c,Ã c]
   by_cases e:v = x
   ·rw [Á e,Á e]; rfl
   ·rw [Ã e,Ã e,aG0 (p:=p) (by
     obtain ⟨z,hz,hv⟩:=h
     rcases Ô.1 hz with q | q
     ·omega
     ·exact ⟨z,q,hv⟩)]
    rfl
theorem aBp {v:Int}:∀ {p:List Int} (q:List Int),(∀ x ∈ p,x < v)->vI v (p ++ q) = p ++ vI v q
 | [],q,_=>rfl
 | x :: p,q,h=>by
  have hx:=h x (by simp)
  show vI v (x :: (p ++ q)) = _
  rw [show vI v (x :: (p ++ q)) = if v < x then v :: x :: (p ++ q) else if v = x then x :: (p ++ q) else x :: vI v (p ++ q) from rfl,Ã (by omega),Ã (by omega),aBp q (fun z hz=>h z (by simp [hz]))]
  rfl
theorem aGD (a:List Int) (v:Int) (hl:a.length <= 100000) (ha:LG a):lT a v = some (vI v a):=by
 unfold lT
 rw [aEX a v (by omega),À]
 by_cases hv:v ∈ a
 ·rw [Á (by simpa using hv),aGy ha hv]
 ·rw [Ã (by simpa using hv)]
  have key:∃ x,bV (fun (w:Bool × Int × List Int)=>bK a v w.1 w.2.1 w.2.2) (false,0,[]) = some x ∧ ((x.1 = false ∧ (∀ z ∈ a,z < v) ∧ x.2 = a) ∨ (x.1 = true ∧ x.2 = vI v a)):=by
   refine bO (step:=fun (w:Bool × Int × List Int)=>bK a v w.1 w.2.1 w.2.2) (fun k (z:Bool × List Int)=>(z.1,(k:Int),z.2)) a.length (fun k z=>(z.1 = false ∧ (∀ x ∈ a.take k,x < v) ∧ z.2 = a.take k) ∨ (z.1 = true ∧ (∃ x ∈ a.take k,v < x) ∧ z.2 = vI v (a.take k))) _ ?_ ?_ (false,[]) (.inl ⟨rfl,by simp,by simp⟩)
   ·rintro k ⟨p,q⟩ hk hq
    have w3:=aO (n:=k) (by omega)
    have hj:∀ (b:Bool) (z:List Int),z.length <= k + 1->jG a v k b z = some (z ++ [el a k]):=fun b z hz=>by
     unfold jG
     rw [bA a k hk,À,Á (by omega)]
    have htk:a.take (k + 1) = a.take k ++ [el a k]:=by rw [ã hk,kJ _ _ hk]
    have hkm:=kS a k hk
    rcases hq with ⟨rfl,h1,h2⟩ | ⟨rfl,h1,h2⟩
    ·simp only at h2
     subst h2
     by_cases c:v < el a k
     ·refine .inl ⟨(true,vI v (a.take (k + 1))),?_,.inr ⟨rfl,⟨el a k,by rw [htk]; simp,c⟩,rfl⟩⟩
      show bK a v false k _ = _
      unfold bK
      rw [Á (by simpa using hk),w3,Á (by simp),bA a k hk,À,Á (by simpa using c),Á (by simp; omega),hj _ _ (by simp; omega),htk,aBp _ h1]
      have:vI v [el a k] = [v,el a k]:=by unfold vI; rw [Á c]
      rw [this]
      simp
     ·refine .inl ⟨(false,a.take (k + 1)),?_,.inl ⟨rfl,fun x hx=>?_,rfl⟩⟩
      ·show bK a v false k _ = _
       unfold bK
       rw [Á (by simpa using hk),w3,Á (by simp),bA a k hk,À,Ã (by simpa using c),hj _ _ (by simp; omega),htk]
       rfl
      ·rw [htk] at hx
       rcases Ê.1 hx with q | q
       ·exact h1 x q
       ·have:x = el a k:=by simpa using q
        have:v ≠ el a k:=fun e=>hv (e ▸ hkm)
        omega
    ·simp only at h2
     subst h2
     have hlen:(vI v (a.take k)).length <= k + 1:=by
      have:∀ p:List Int,(vI v p).length <= p.length + 1:=by
       intro p
       induction p with
       | nil=>simp [vI]
       | cons x p ih =>
        unfold vI
        split
        ·simp
        ·split
         ·simp
         ·simp; exact ih
      have:=this (a.take k)
      rw [ç] at this
      omega
     refine .inl ⟨(true,vI v (a.take (k + 1))),?_,.inr ⟨rfl,?_,rfl⟩⟩
     ·show bK a v true k _ = _
      unfold bK
      rw [Á (by simpa using hk),w3,Ã (by simp),hj _ _ hlen,htk,aG0 h1]
      rfl
     ·obtain ⟨x,hx,hxv⟩:=h1
      exact ⟨x,by rw [htk]; simp [hx],hxv⟩
   ·rintro ⟨p,q⟩ hq
    refine ⟨(p,q),?_,?_⟩
    ·show bK a v p a.length q = _
     unfold bK
     rw [Ã (by simp)]
    ·rw [ì] at hq
     rcases hq with ⟨h1,h2,h3⟩ | ⟨h1,_,h3⟩
     ·exact .inl ⟨h1,h2,h3⟩
     ·exact .inr ⟨h1,h3⟩
  obtain ⟨⟨p,q⟩,h1,h2⟩:=key
  unfold sK
  rw [h1,À]
  simp only at h2 ⊢
  rcases h2 with ⟨rfl,h3,rfl⟩ | ⟨rfl,rfl⟩
  ·rw [Á (by simp),Á (by omega)]
   have:=aBp (v:=v) [] h3
   rw [Û] at this
   rw [this]
   rfl
  ·rw [Ã (by simp)]
theorem SU (h9:l.length <= 9) (hr:∀ i,i < l.length->(el l i).Rights.length <= 12):gP l = some (FU l):=by
 have hS:FU l = G5 (JB l):=by
  unfold FU GA
  rw [XM,S6]
 rw [hS]
 unfold gP oV
 have hfl:∀ (p:List Int) (n:Nat),p.length <= n->(G5 p).length <= n:=fun p n hp=>by
  have:(GA (EM p)).length <= (EM p).length:=Lib.compact_length_le _
  unfold GA at this
  rw [KW,XM,S6] at this
  omega
 have hsn:∀ (p:List Int) (v:Int),vI v (G5 p) = G5 (p ++ [v]):=fun p v=>by
  unfold G5
  rw [ü]
  rfl
 have key:∃ x,bV (fun (w:List Int × Int)=>b8 l w.1 w.2) ([],0) = some x ∧ x = G5 (JB l):=by
  refine bO (step:=fun (w:List Int × Int)=>b8 l w.1 w.2) (fun k (z:List Int)=>(z,(k:Int))) l.length (fun k z=>z = G5 (JB (l.take k))) _ ?_ ?_ [] (by simp [JB,G5])
  ·rintro k z hk rfl
   have w3:=aO (n:=k) (by omega)
   have hol:=TO hr k (by omega)
   have hin:∃ x,kT l k (G5 (JB (l.take k))) 0 = some x ∧ x = G5 (JB (l.take (k + 1))):=by
    have hrk:=hr k hk
    unfold kT
    refine bO (step:=fun (w:List Int × Int)=>dH l k w.1 w.2) (fun i (y:List Int)=>(y,(i:Int))) (el l k).Rights.length (fun i y=>y = G5 (JB (l.take k) ++ ((el l k).Rights.take i).map (·.Owner))) _ ?_ ?_ _ (by simp)
    ·rintro i y hi rfl
     have w4:=aO (n:=i) (by omega)
     refine .inl ⟨_,?_,rfl⟩
     show dH l k _ i = _
     unfold dH
     rw [bA l k hk,À,Á (by simpa using hi),À,bA _ i hi,À,aGD _ _ (by have:=hfl (JB (l.take k) ++ ((el l k).Rights.take i).map (·.Owner)) 10000 (by simp; omega); omega) (aAL _),À,w4,hsn,xF (·.Owner) _ i hi,è]
    ·rintro y rfl
     refine ⟨_,?_,rfl⟩
     show dH l k _ ((el l k).Rights.length:Nat) = _
     unfold dH
     rw [bA l k hk,À,Ã (by simp),ì,U2 hk]
   obtain ⟨x,e1,rfl⟩:=hin
   refine .inl ⟨_,?_,rfl⟩
   show b8 l _ k = _
   unfold b8
   rw [Á (by simpa using hk),e1,À,w3]
  ·rintro z rfl
   refine ⟨_,?_,rfl⟩
   show b8 l _ l.length = _
   unfold b8
   rw [Ã (by simp),ì]
 obtain ⟨x,h1,rfl⟩:=key
 rw [h1]; rfl
end
end
section
open Go.RowKit Vm
section
structure aAK (a b:List Int) (i j:Nat) (c:List Int):Prop where
 hi:i <= a.length
 hj:j <= b.length
 asc:LG c
 len:c.length <= i + j
 mem:∀ x,x ∈ c ↔ x ∈ a.take i ∨ x ∈ b.take j
 la:∀ x ∈ c,∀ y ∈ a.drop i,x < y
 lb:∀ x ∈ c,∀ y ∈ b.drop j,x < y
theorem TF {c:List Int} {v:Int} (h:LG c) (hv:∀ x ∈ c,x < v):LG (c ++ [v]):=by
 refine ý.2 ⟨h,Þ.2 ⟨fun _ q=>(by cases q),List.Pairwise.nil⟩,fun x hx y hy=>?_⟩
 have:y = v:=by simpa using hy
 rw [this]; exact hv x hx
theorem XU {a:List Int} (ha:LG a) {i:Nat} (hi:i < a.length):∀ y ∈ a.drop (i + 1),el a i < y:=by
 intro y hy
 have h:=ha.sublist (List.drop_sublist i a)
 rw [Ģ hi] at h
 rw [kJ _ _ hi]
 exact (Þ.1 h).1 y hy
theorem WN {a:List Int} {i:Nat} (hi:i < a.length):el a i ∈ a.drop i:=by
 rw [Ģ hi,kJ _ _ hi]
 exact à
theorem Y4 {a:List Int} {i:Nat}:∀ y ∈ a.drop (i + 1),y ∈ a.drop i:=fun y hy=>List.mem_of_mem_drop (i:=1) (by rw [Ś]; exact hy)
theorem JK {a:List Int} {i:Nat} (hi:i < a.length) (x:Int):x ∈ a.take (i + 1) ↔ x ∈ a.take i ∨ x = el a i:=by
 rw [ã hi,kJ _ _ hi,Ê,ê]
theorem aAK.left {a b c:List Int} {i j:Nat} (ha:LG a) (h:aAK a b i j c) (hi:i < a.length) (hb:∀ y ∈ b.drop j,el a i < y):aAK a b (i + 1) j (c ++ [el a i]) where
 hi:=hi
 hj:=h.hj
 asc:=TF h.asc fun x hx=>h.la x hx _ (WN hi)
 len:=by have:=h.len; simp; omega
 mem:=fun x=>by
  rw [Ê,h.mem,JK hi]
  simp only [ê]
  constructor
  ·rintro ((q | q) | q)
   ·exact .inl (.inl q)
   ·exact .inr q
   ·exact .inl (.inr q)
  ·rintro ((q | q) | q)
   ·exact .inl (.inl q)
   ·exact .inr q
   ·exact .inl (.inr q)
 la:=fun x hx y hy=>by
  rcases Ê.1 hx with q | q
  ·exact h.la x q y (Y4 y hy)
  ·have:x = el a i:=by simpa using q
   rw [this]; exact XU ha hi y hy
 lb:=fun x hx y hy=>by
  rcases Ê.1 hx with q | q
  ·exact h.lb x q y hy
  ·have:x = el a i:=by simpa using q
   rw [this]; exact hb y hy
theorem aAK.both {a b c:List Int} {i j:Nat} (ha:LG a) (hb:LG b) (h:aAK a b i j c) (hi:i < a.length) (hj:j < b.length) (e:el a i = el b j):aAK a b (i + 1) (j + 1) (c ++ [el a i]) where
 hi:=hi
 hj:=hj
 asc:=TF h.asc fun x hx=>h.la x hx _ (WN hi)
 len:=by have:=h.len; simp; omega
 mem:=fun x=>by
  rw [Ê,h.mem,JK hi,JK hj,← e]
  simp only [ê]
  constructor
  ·rintro ((q | q) | q)
   ·exact .inl (.inl q)
   ·exact .inr (.inl q)
   ·exact .inl (.inr q)
  ·rintro ((q | q) | (q | q))
   ·exact .inl (.inl q)
   ·exact .inr q
   ·exact .inl (.inr q)
   ·exact .inr q
 la:=fun x hx y hy=>by
  rcases Ê.1 hx with q | q
  ·exact h.la x q y (Y4 y hy)
  ·have:x = el a i:=by simpa using q
   rw [this]; exact XU ha hi y hy
 lb:=fun x hx y hy=>by
  rcases Ê.1 hx with q | q
  ·exact h.lb x q y (Y4 y hy)
  ·have:x = el a i:=by simpa using q
   rw [this,e]; exact XU hb hj y hy
end
section
variable {m:Nat} {l:List aF}
noncomputable def EA (m:Nat) (l:List aF) (a:List Int):Int:=match nI m l a with
 | some r=>OM r.1
 | none=>0
theorem ZM {a:List Int} (h:xA l a) (hk:D5 m (l.map iD)):∃ X q y,nI m l a = some (X,q) ∧ yD m l a X q y ∧ EA m l a = OM X ∧ EA m l a = eY (el X) l.length:=by
 obtain ⟨X,q,y,h1,b⟩:=aDK h hk
 refine ⟨X,q,y,h1,b,?_,?_⟩
 ·unfold EA; rw [h1]
 ·unfold EA; rw [h1]; exact b.total hk
theorem TQ {a b:List Int} (ha:xA l a) (hb:xA l b) (hk:D5 m (l.map iD)) (h:∀ x ∈ a,x ∈ b):EA m l a <= EA m l b:=by
 obtain ⟨X,q,y,_,b1,_,e1⟩:=ZM ha hk
 obtain ⟨X',q',y',_,b2,_,e2⟩:=ZM hb hk
 rw [e1,e2]
 exact aJh hk (fun i hi hf=>aHt h hf) b1 b2
theorem aHB {a b:List Int} (ha:xA l a) (hb:xA l b) (hk:D5 m (l.map iD)) (h:∀ x,x ∈ a ↔ x ∈ b):EA m l a = EA m l b:=by
 have h1:=TQ ha hb hk fun x=>(h x).1
 have h2:=TQ hb ha hk fun x=>(h x).2
 omega
end
end
section
open Go.RowKit Vm
section
variable {asked:List Int}
def oth (O asked:List Int):List Int:=O.filter fun x=>!(asked.contains x)
theorem Y9 (x:Int) (ha:asked.length < 4611686018427387904):kR x asked = some (asked.contains x):=by
 unfold kR
 rw [RM _ _ ha]
 rfl
theorem aNH (O:List Int) (ha:asked.length < 4611686018427387904) (hO:O.length < 4611686018427387904):c7 O asked = some ((xJ (fun i=>if asked.contains (el O i) = true then some (i:Int) else none) 0 O.length).getD (-1)):=by
 unfold c7 hU
 have key:=D6 (step:=fun w=>a8 O asked w) (fun i:Nat=>(i:Int)) O.length (fun i=>if asked.contains (el O i) = true then some (i:Int) else none) () ?_ ?_
 ·refine (Ą (fun o=>Option.bind o _) key).trans ?_
  exact OR (fun i=>asked.contains (el O i)) O.length
 ·intro i hi
  show a8 O asked i = _
  unfold a8
  have w3:=aO (n:=i) (by omega)
  have e2:O[(i:Int).toNat]? = some (el O i):=by rw [Ä]; exact DH O i hi
  simp only [Á (show decide ((i:Int) < (O.length:Int)) = true by simpa using hi),bA O i hi,À,Y9 _ ha,w3]
  cases asked.contains (el O i) <;> rfl
 ·show a8 O asked O.length = _
  unfold a8
  rw [Ã (by simp)]
theorem ZZ (p:List Int) {k:Nat} (x:Int) (hk:k < p.length):(p.set k x).take (k + 1) = p.take k ++ [x]:=by
 refine č fun i=>?_
 rw [Ö,ĥ]
 by_cases h1:i < k
 ·rw [Á (by omega),Ã (by omega),ë (by rw [ç]; omega),Ö,Á h1]
 ·by_cases h2:i = k
  ·subst h2
   rw [Á (by omega),Á rfl,Á hk,ó (by rw [ç]; omega),ç,ŀ (by omega),Nat.sub_self]
   rfl
  ·rw [Ã (by omega),ô (by rw [ß,ç]; simp; omega)]
theorem aC7 (p:List Int) {k j:Nat} (x:Int) (h:k < j):(p.set k x).drop j = p.drop j:=by
 refine č fun i=>?_
 rw [â,â,List.getElem?_set_ne (by omega)]
theorem aRn (n:Int) (l:List aF) (O:List Int) (ha:asked.length < 4611686018427387904) (hO:O.length <= 100000) {r:Nat} (hr:r < O.length) (hb:∀ i,i < r->asked.contains (el O i) = false) (hc:asked.contains (el O r) = true) :
  ∃ (k:Nat) (p:List Int),qL n l asked r ((r + 1:Nat):Int) O = some ((k:Int),p) ∧ p.length = O.length ∧ k <= O.length ∧ p.take k = oth O asked:=by
 unfold qL
 have htk:∀ j,j < O.length->(O.take (j + 1)).filter (fun x=>!(asked.contains x)) = (O.take j).filter (fun x=>!(asked.contains x)) ++ if asked.contains (el O j) = true then [] else [el O j]:=fun j hj=>by
  rw [ã hj,İ,kJ _ _ hj]
  congr 1
  rw [Ŧ,ĵ]
  cases asked.contains O[j] <;> rfl
 have key:=K7 (step:=fun (w:Int × Int × List Int)=>fD n l asked w.1 w.2.1 w.2.2) (fun w=>∃ k j:Nat,w.1 = k ∧ w.2.1 = j ∧ k < j ∧ j <= O.length ∧ w.2.2.length = O.length ∧ w.2.2.take k = (O.take j).filter (fun x=>!(asked.contains x)) ∧ w.2.2.drop j = O.drop j) (fun w=>O.length - w.2.1.toNat) (fun x=>∃ k:Nat,x.1 = k ∧ x.2.length = O.length ∧ k <= O.length ∧ x.2.take k = oth O asked) ?_ ((r:Int),((r + 1:Nat):Int),O) ⟨r,r + 1,rfl,rfl,by omega,by omega,rfl,?_,rfl⟩
 ·obtain ⟨⟨x1,x2⟩,h1,k,h2,h3,h4,h5⟩:=key
  simp only at h2 h3 h5
  subst h2
  exact ⟨k,x2,h1,h3,h4,h5⟩
 ·rintro ⟨p5,p6,p7⟩ ⟨k,j,h1,h2,h3,h4,h5,h6,h7⟩
  simp only at h1 h2 h5 h6 h7
  subst h1 h2
  by_cases hj:j < O.length
  ·left
   have w3:=aO (n:=j) (by omega)
   have w4:=aO (n:=k) (by omega)
   have hpj:p7[(j:Int).toNat]? = some (el O j):=by
    rw [Ä]
    have:=Ą (fun z=>z[0]?) h7
    simp only [â,ď] at this
    rw [this]; exact DH O j hj
   have hpk:p7[(k:Int).toNat]? = some (el p7 k):=by
    rw [Ä]; exact DH p7 k (by omega)
   have hd:p7.drop (j + 1) = O.drop (j + 1):=by
    have:=Ą (List.drop 1) h7
    simpa [Ś] using this
   cases c:asked.contains (el O j) with
   | true =>
    refine ⟨((k:Int),((j + 1:Nat):Int),p7),?_,⟨k,j + 1,rfl,rfl,by omega,hj,h5,?_,hd⟩,by simp; omega⟩
    ·show fD n l asked k j p7 = _
     unfold fD
     rw [Á (by simp; omega),Á ⟨by omega,by simp; omega⟩,hpj,À,Y9 _ ha,c,À,Ã (by decide),w3]
    ·rw [h6,htk j hj,Á c,Û]
   | false =>
    refine ⟨(((k + 1:Nat):Int),((j + 1:Nat):Int),p7.set k (el O j)),?_,⟨k + 1,j + 1,rfl,rfl,by omega,hj,by simp [h5],?_,?_⟩,by simp; omega⟩
    ·show fD n l asked k j p7 = _
     unfold fD
     rw [Á (by simp; omega),Á ⟨by omega,by simp; omega⟩,hpj,À,Y9 _ ha,c,À,Á (by decide),Á ⟨by omega,by simp; omega⟩,hpk,À,w3,w4,Ä]
    ·show (p7.set k (el O j)).take (k + 1) = _
     rw [ZZ _ _ (by omega),h6,htk j hj,c]
     rfl
    ·show (p7.set k (el O j)).drop (j + 1) = _
     rw [aC7 _ _ (by omega),hd]
  ·right
   refine ⟨((k:Int),p7),?_,k,rfl,h5,by omega,?_⟩
   ·show fD n l asked k j p7 = _
    unfold fD
    rw [Ã (by simp; omega)]
   ·rw [h6,Ğ (by omega)]
    rfl
 ·rw [htk r hr,Á hc,Û]
  symm
  rw [ŕ]
  intro x hx
  obtain ⟨i,hi,rfl⟩:=E9 hx
  rw [ç] at hi
  have:el (O.take r) i = el O i:=by rw [kJ _ _ (by rw [ç]; exact hi),kJ _ _ (by omega),List.getElem_take]
  rw [this,hb i (by omega)]
  rfl
theorem aTE (n:Int) (l:List aF) (O:List Int) (ha:asked.length < 4611686018427387904) (hO:O.length <= 100000) (K:List Int->Option (Int × List (List Int))) :
  ((c7 O asked).bind fun (r4:Int)=>if (r4 == (-1)) = true then (K O).bind fun r=>some (r.2,r.1) else (qL n l asked r4 (IntKind.wrap .i64 (r4 + 1)) O).bind fun (r13:Int × List Int)=>if 0 <= r13.1 ∧ r13.1.toNat <= r13.2.length then if 0 <= r13.1 ∧ r13.1.toNat <= (AL r13.1.toNat r13.2).length then (K ((AL r13.1.toNat r13.2).take r13.1.toNat)).bind fun r=>some (r.2,r.1) else none else none) = (K (oth O asked)).bind fun r=>some (r.2,r.1):=by
 rw [aNH O ha (by omega),À]
 cases e:xJ (fun i=>if asked.contains (el O i) = true then some (i:Int) else none) 0 O.length with
 | none =>
  rw [Option.getD_none,Á (by decide)]
  have h:=(ER O.length 0).1 e
  have:oth O asked = O:=by
   unfold oth
   rw [ŕ]
   intro x hx
   obtain ⟨i,hi,rfl⟩:=E9 hx
   have:=h i (Ė _) (by omega)
   cases c:asked.contains (el O i) with
   | true=>rw [Á c] at this; cases this
   | false=>rfl
  rw [this]
 | some x =>
  obtain ⟨i,_,hi,h1,h2⟩:=OT O.length 0 e
  have hc:asked.contains (el O i) = true:=by
   cases c:asked.contains (el O i) with
   | true=>rfl
   | false=>rw [c] at h1; cases h1
  rw [Á hc] at h1
  have hx:=õ h1
  subst hx
  have hb:∀ j,j < i->asked.contains (el O j) = false:=fun j hj=>by
   have:=h2 j (Ė _) hj
   cases c:asked.contains (el O j) with
   | true=>rw [Á c] at this; cases this
   | false=>rfl
  obtain ⟨k,p,q1,q2,q3,q4⟩:=aRn n l O ha hO (by omega) hb hc
  have w3:=aO (n:=i) (by omega)
  have htl:(AL k p).length = p.length:=by
   unfold AL
   rw [ß,ç,Ë]
   omega
  have htt:(AL k p).take k = p.take k:=by
   unfold AL
   rw [List.take_left' (by rw [ç]; omega)]
  rw [ī,Ã (show ¬ (((i:Nat):Int) == (-1)) = true by simp),w3,q1,À]
  simp only
  rw [Á ⟨by omega,by simp; omega⟩,Ä,Á ⟨by omega,by omega⟩,htt,q4]
end
end
section
open Go.RowKit Vm
theorem aKL (p:Nat->Bool) (n:Nat):(!(wR (fun i=>!(p i)) n)) = true ↔ ∃ i,i < n ∧ p i = true:=by
 cases h:wR (fun i=>!(p i)) n with
 | true =>
  have:=iT.1 h
  constructor
  ·intro q; cases q
  ·rintro ⟨i,hi,hp⟩
   have:=this i hi
   rw [hp] at this; cases this
 | false =>
  refine ⟨fun _=>?_,fun _=>rfl⟩
  apply å
  intro hn
  have:wR (fun i=>!(p i)) n = true:=iT.2 fun i hi=>by
   cases hp:p i with
   | false=>rfl
   | true=>exact absurd ⟨i,hi,hp⟩ hn
  rw [h] at this; cases this
theorem aRA {α:Type} [Inhabited α] (p:α->Bool) (l:List α):l.any p = !(wR (fun i=>!(p (el l i))) l.length):=by
 rw [Ł,Ĭ,aKL]
 constructor
 ·rintro ⟨x,hx,hp⟩
  obtain ⟨i,hi,rfl⟩:=E9 hx
  exact ⟨i,hi,hp⟩
 ·rintro ⟨i,hi,hp⟩
  exact ⟨_,kS l i hi,hp⟩
section
theorem aLH (a b:List Int) (ha:a.length < 4611686018427387904) (hb:b.length < 4611686018427387904):uU a b = some (a.all fun x=>b.contains x):=by
 unfold uU fB gB gZ
 have key:=D6 (step:=fun w=>aZ a b w) (fun i:Nat=>(i:Int)) a.length (fun i=>if (!(b.contains (el a i))) = true then some (i:Int) else none) () ?_ ?_
 ·refine (Ą (fun o=>Option.bind (Option.bind (Option.bind o _) _) _) key).trans ?_
  rw [À,OR (fun i=>!(b.contains (el a i))),À,À,QT (fun i=>!(b.contains (el a i))),RN]
  simp
 ·intro i hi
  show aZ a b i = _
  unfold aZ pM
  have w3:=aO (n:=i) (by omega)
  rw [Á (by simpa using hi),bA a i hi,À,RM _ _ hb,À,À,w3]
  cases b.contains (el a i) <;> rfl
 ·show aZ a b a.length = _
  unfold aZ
  rw [Ã (by simp)]
theorem aRX (F:List (List Int)) (s:List Int) (hF:F.length < 4611686018427387904) (hs:s.length < 4611686018427387904) (hd:∀ i,i < F.length->(el F i).length < 4611686018427387904):dK F s = some (F.any fun d=>d.all fun x=>s.contains x):=by
 unfold dK gC hJ
 have key:=D6 (step:=fun w=>aY F s w) (fun i:Nat=>(i:Int)) F.length (fun i=>if ((el F i).all fun x=>s.contains x) = true then some (i:Int) else none) () ?_ ?_
 ·refine (Ą (fun o=>Option.bind (Option.bind o _) _) key).trans ?_
  rw [À,OR (fun i=>(el F i).all fun x=>s.contains x),À,QT (fun i=>(el F i).all fun x=>s.contains x),aRA]
 ·intro i hi
  show aY F s i = _
  unfold aY qS
  have w3:=aO (n:=i) (by omega)
  rw [Á (by simpa using hi),bA F i hi,À,aLH _ _ (hd i hi) hs,À,À,w3]
  cases ((el F i).all fun x=>s.contains x) <;> rfl
 ·show aY F s F.length = _
  unfold aY
  rw [Ã (by simp)]
end
def stI (s:List Int):Nat:=if s = [] then 0 else (el s (s.length - 1) + 1).toNat
def FX (N:Nat) (s:List Int):List (List Int):=(List.range' (stI s) (N - stI s)).map fun (t:Nat)=>s ++ [(t:Int)]
def lv (N:Nat):Nat->List (List Int)
 | 0=>[[]]
 | k + 1=>(lv N k).flatMap (FX N)
structure Ix (N:Nat) (s:List Int):Prop where
 asc:LG s
 rng:∀ e ∈ s,0 <= e ∧ e < N
theorem Ix.st {N:Nat} {s:List Int} (h:Ix N s):stI s <= N ∧ ∀ e ∈ s,e < stI s:=by
 unfold stI
 by_cases c:s = []
 ·rw [Á c,c]
  exact ⟨Ė _,fun e he=>by cases he⟩
 ·rw [Ã c]
  have hl:0 < s.length:=Ŕ.2 c
  have hm:=h.rng _ (kS s (s.length - 1) (by omega))
  refine ⟨by omega,fun e he=>?_⟩
  obtain ⟨i,hi,rfl⟩:=E9 he
  by_cases q:i = s.length - 1
  ·rw [q]; omega
  ·have:=æ.1 h.asc i (s.length - 1) hi (by omega) (by omega)
   rw [← kJ _ _ hi,← kJ _ _ (by omega)] at this
   omega
theorem E4 {N:Nat}:∀ k s,s ∈ lv N k ↔ s.length = k ∧ Ix N s
 | 0,s=>by
  show s ∈ [[]] ↔ _
  constructor
  ·intro h
   have:s = []:=by simpa using h
   subst this
   exact ⟨rfl,List.Pairwise.nil,fun e he=>by cases he⟩
  ·rintro ⟨h,_⟩
   have:s = []:=Ñ h
   subst this; simp
 | k + 1,s=>by
  show s ∈ (lv N k).flatMap (FX N) ↔ _
  rw [Ð]
  constructor
  ·rintro ⟨p,hp,hs⟩
   obtain ⟨h1,h2⟩:=(E4 k p).1 hp
   unfold FX at hs
   obtain ⟨t,ht,rfl⟩:=Ú.1 hs
   rw [Ō] at ht
   have hst:=h2.st
   refine ⟨by simp [h1],TF h2.asc fun x hx=>by have:=hst.2 x hx; omega,fun e he=>?_⟩
   rcases Ê.1 he with q | q
   ·exact h2.rng e q
   ·have:e = (t:Int):=by simpa using q
    omega
  ·rintro ⟨h1,h2⟩
   have hk:k < s.length:=by omega
   have hs:s = s.take k ++ [el s k]:=by
    rw [kJ _ _ hk,← ã hk,Ğ (by omega)]
   have hix:Ix N (s.take k):=⟨h2.asc.sublist (List.take_sublist _ _),fun e he=>h2.rng e (List.mem_of_mem_take he)⟩
   refine ⟨s.take k,(E4 k _).2 ⟨by rw [ç]; omega,hix⟩,?_⟩
   have hr:=h2.rng _ (kS s k hk)
   unfold FX
   refine Ú.2 ⟨(el s k).toNat,Ō.2 ?_,?_⟩
   ·have hst:stI (s.take k) <= (el s k).toNat:=by
     unfold stI
     by_cases c:s.take k = []
     ·rw [Á c]; omega
     ·rw [Ã c]
      have hl:0 < (s.take k).length:=Ŕ.2 c
      have hl2:(s.take k).length = k:=by rw [ç]; omega
      have e1:el (s.take k) ((s.take k).length - 1) = el s (k - 1):=by
       rw [hl2,kJ _ _ (by omega),kJ _ _ (by omega),List.getElem_take]
      have:=æ.1 h2.asc (k - 1) k (by omega) hk (by omega)
      rw [← kJ _ _ (by omega),← kJ _ _ hk] at this
      rw [e1]
      omega
    omega
   ·rw [ĕ hr.1,← hs]
theorem aJO {N:Nat}:∀ k,(lv N k).length <= N ^ k
 | 0=>by simp [lv]
 | k + 1=>by
  have ih:=aJO (N:=N) k
  have:∀ p:List (List Int),(p.flatMap (FX N)).length <= p.length * N:=by
   intro p
   induction p with
   | nil=>simp
   | cons x p ih =>
    rw [ÿ,ß,ï,Ā,Nat.one_mul]
    have:(FX N x).length <= N:=by simp [FX]
    omega
  show ((lv N k).flatMap (FX N)).length <= N ^ k * N
  exact ñ (this _) (Ù _ ih)
end
section
open Go.RowKit Vm
section
variable {n:Int} {l:List aF} {asked:List Int}
theorem aSI (p14:List Int) (p17 p19:List (List Int)) (p18 p20 r16:Int) (S:List Int) (st:Nat) (p26:List (List Int)) (hN:p14.length <= 100) (hst:st <= p14.length) (hS:S.length <= 100) (hp:p26.length <= 100000) :
  u9 n l asked p14 p17 p18 p19 p20 r16 S st p26 = some (p26 ++ (List.range' st (p14.length - st)).map fun (t:Nat)=>S ++ [(t:Int)]):=by
 unfold u9
 have key:∃ x,bV (fun (w:Int × List (List Int))=>fZ n l asked p14 p17 p18 p19 p20 r16 S w.1 w.2) (((st + 0:Nat):Int),p26) = some x ∧ x = p26 ++ (List.range' st (p14.length - st)).map fun (t:Nat)=>S ++ [(t:Int)]:=by
  refine bO (step:=fun (w:Int × List (List Int))=>fZ n l asked p14 p17 p18 p19 p20 r16 S w.1 w.2) (fun k (a:List (List Int))=>(((st + k:Nat):Int),a)) (p14.length - st) (fun k a=>a = p26 ++ (List.range' st k).map fun (t:Nat)=>S ++ [(t:Int)]) _ ?_ ?_ p26 (by simp)
  ·rintro k a hk rfl
   refine .inl ⟨_,?_,rfl⟩
   show fZ n l asked p14 p17 p18 p19 p20 r16 S ((st + k:Nat):Int) _ = _
   unfold fZ gF
   have w3:IntKind.wrap .i64 (((st + k:Nat):Int) + 1) = ((st + (k + 1):Nat):Int):=by rw [aO (by omega)]; rfl
   rw [Á (by simp; omega),Á (by omega),À,Á (by omega),Á (by simp; omega),w3,List.range'_1_concat]
   simp
  ·rintro a rfl
   refine ⟨_,?_,rfl⟩
   show fZ n l asked p14 p17 p18 p19 p20 r16 S ((st + (p14.length - st):Nat):Int) _ = _
   unfold fZ
   rw [Ã (by simp; omega)]
 obtain ⟨x,h1,rfl⟩:=key
 exact h1
theorem aR4 (p14:List Int) (p17 p19:List (List Int)) (p18 r16:Int) (hN:p14.length <= 100) (hI:∀ s ∈ p17,Ix p14.length s ∧ s.length <= 100) (hl:p17.length <= 300) :
  u8 n l asked p14 p17 p18 p19 r16 0 [] = some (p17.flatMap (FX p14.length)):=by
 unfold u8
 have hfl:∀ k,((p17.take k).flatMap (FX p14.length)).length <= k * 100:=by
  have:∀ p:List (List Int),(p.flatMap (FX p14.length)).length <= p.length * 100:=by
   intro p
   induction p with
   | nil=>simp
   | cons x p ih =>
    rw [ÿ,ß,ï,Ā,Nat.one_mul]
    have:(FX p14.length x).length <= 100:=by simp [FX]; omega
    omega
  intro k
  refine ñ (this _) (Ù _ ?_)
  rw [ç]; omega
 have key:∃ x,bV (fun (w:Int × List (List Int))=>fX n l asked p14 p17 p18 p19 r16 w.1 w.2) (0,[]) = some x ∧ x = p17.flatMap (FX p14.length):=by
  refine bO (step:=fun (w:Int × List (List Int))=>fX n l asked p14 p17 p18 p19 r16 w.1 w.2) (fun k (a:List (List Int))=>((k:Int),a)) p17.length (fun k a=>a = (p17.take k).flatMap (FX p14.length)) _ ?_ ?_ [] (by simp)
  ·rintro k a hk rfl
   refine .inl ⟨_,?_,rfl⟩
   show fX n l asked p14 p17 p18 p19 r16 k _ = _
   unfold fX
   have w3:=aO (n:=k) (by omega)
   obtain ⟨hix,hsl⟩:=hI _ (kS p17 k hk)
   have hst:=hix.st
   have hfk:=hfl k
   rw [Á (by simpa using hk),bA p17 k hk,À,w3]
   have htk:(p17.take (k + 1)).flatMap (FX p14.length) = (p17.take k).flatMap (FX p14.length) ++ FX p14.length (el p17 k):=by
    rw [ã hk,Ī,kJ _ _ hk]; simp
   rw [htk]
   have hj3:qN n l asked p14 p17 p18 p19 k ((p17.take k).flatMap (FX p14.length)) r16 (el p17 k) (stI (el p17 k)) = some ((p17.take k).flatMap (FX p14.length) ++ FX p14.length (el p17 k)):=by
    unfold qN
    rw [aSI p14 p17 p19 p18 k r16 (el p17 k) _ _ hN hst.1 hsl (by omega)]
    rfl
   by_cases c:el p17 k = []
   ·have h0:stI (el p17 k) = 0:=by unfold stI; rw [Á c]
    rw [h0] at hj3
    rw [Ã (by rw [c]; simp)]
    rw [show (0:Int) = ((0:Nat):Int) from rfl,hj3]
    rfl
   ·have hpos:=Ŕ.2 c
    have hlast:=hix.rng _ (kS (el p17 k) ((el p17 k).length - 1) (by omega))
    have h0:(stI (el p17 k):Int) = el (el p17 k) ((el p17 k).length - 1) + 1:=by
     unfold stI; rw [Ã c,ĕ (by omega)]
    have w5:IntKind.wrap .i64 (((el p17 k).length:Int) - 1) = (((el p17 k).length - 1:Nat):Int):=by rw [gL (by omega) (by omega)]; omega
    rw [Á (by simp; omega),w5,bA _ _ (by omega),À,gL (by omega) (by omega),← h0,hj3]
    rfl
  ·rintro a rfl
   refine ⟨_,?_,rfl⟩
   show fX n l asked p14 p17 p18 p19 r16 p17.length _ = _
   unfold fX
   rw [Ã (by simp),ì]
 obtain ⟨x,h1,rfl⟩:=key
 exact h1
def fC (O S:List Int):List Int:=S.map fun e=>el O e.toNat
theorem aS8 (O:List Int) (p18 p35:Int) (p36 r34:List (List Int)) (r16:Int) (S:List Int) (hS:S.length <= 1000) (hI:Ix O.length S):u7 n l asked O p18 p35 p36 r16 r34 S 0 [] = some (fC O S):=by
 unfold u7
 have key:∃ x,bV (fun (w:Int × List Int)=>gA n l asked O p18 p35 p36 r16 r34 S w.1 w.2) (0,[]) = some x ∧ x = fC O S:=by
  refine bO (step:=fun (w:Int × List Int)=>gA n l asked O p18 p35 p36 r16 r34 S w.1 w.2) (fun k (a:List Int)=>((k:Int),a)) S.length (fun k a=>a = fC O (S.take k)) _ ?_ ?_ [] (by simp [fC])
  ·rintro k a hk rfl
   refine .inl ⟨_,?_,rfl⟩
   show gA n l asked O p18 p35 p36 r16 r34 S k _ = _
   unfold gA
   have w3:=aO (n:=k) (by omega)
   have hr:=hI.rng _ (kS S k hk)
   have e2:O[(el S k).toNat]? = some (el O (el S k).toNat):=DH O _ (by omega)
   rw [Á (by simpa using hk),bA S k hk,À,Á ⟨hr.1,by omega⟩,e2,À,Á (by simp [fC]; omega),w3]
   unfold fC
   rw [xF _ S k hk]
  ·rintro a rfl
   refine ⟨_,?_,rfl⟩
   show gA n l asked O p18 p35 p36 r16 r34 S S.length _ = _
   unfold gA
   rw [Ã (by simp),ì]
 obtain ⟨x,h1,rfl⟩:=key
 exact h1
noncomputable def LC (m:Nat) (l:List aF) (asked:List Int) (base:Int) (F:List (List Int)) (s:List Int):List (List Int) :=
 if (F.any fun d=>d.all fun x=>s.contains x) = true then F else if EA m l (asked ++ s) > base then F ++ [s] else F
theorem aD9 (m:Nat) (base:Int) (F:List (List Int)) (s:List Int):(LC m l asked base F s).length <= F.length + 1 ∧ ∀ d ∈ LC m l asked base F s,d ∈ F ∨ d = s:=by
 unfold LC
 split
 ·exact ⟨by omega,fun d h=>.inl h⟩
 ·split
  ·exact ⟨by simp,fun d h=>by simpa using h⟩
  ·exact ⟨by omega,fun d h=>.inl h⟩
theorem aTc {m:Nat} (hl:l.length <= 9) (hr:∀ i,i < l.length->(el l i).Rights.length <= 12) (hk:D5 m (l.map iD)) (ha:asked.length <= 1000) (O:List Int) (p18 base:Int) (R F0:List (List Int)) (hR:∀ S ∈ R,Ix O.length S ∧ S.length <= 100) (hRl:R.length <= 1000) (hF:F0.length <= 100000) (hF2:∀ d ∈ F0,d.length <= 100) :
  uQ m l asked O p18 base R 0 F0 = some ((R.map (fC O)).foldl (LC m l asked base) F0):=by
 unfold uQ
 have key:∃ x,bV (fun (w:Int × List (List Int))=>fW m l asked O p18 base R w.1 w.2) (0,F0) = some x ∧ x = (R.map (fC O)).foldl (LC m l asked base) F0:=by
  refine bO (step:=fun (w:Int × List (List Int))=>fW m l asked O p18 base R w.1 w.2) (fun k (a:List (List Int))=>((k:Int),a)) R.length (fun k a=>a = ((R.take k).map (fC O)).foldl (LC m l asked base) F0 ∧ a.length <= 100000 + k ∧ ∀ d ∈ a,d.length <= 100) _ ?_ ?_ F0 ⟨by simp,by omega,hF2⟩
  ·rintro k a hk' ⟨hA,h2,h3⟩
   obtain ⟨hix,hsl⟩:=hR _ (kS R k hk')
   have hset:(fC O (el R k)).length <= 100:=by simp [fC]; exact hsl
   have ht:=aD9 (l:=l) (asked:=asked) m base a (fC O (el R k))
   refine .inl ⟨LC m l asked base a (fC O (el R k)),?_,?_,by omega,fun d hd=>?_⟩
   ·show fW m l asked O p18 base R k a = _
    unfold fW
    have w3:=aO (n:=k) (by omega)
    have e2:R[(k:Int).toNat]? = some (el R k):=by rw [Ä]; exact DH R k hk'
    rw [Á (by simpa using hk'),Á ⟨by omega,by simp; omega⟩,e2,À,aS8 O _ _ _ _ _ _ (by omega) hix,À,aRX _ _ (by omega) (by omega) (fun i hi=>by have:=h3 _ (kS a i hi); omega),À,w3]
    unfold LC
    cases hh:(a.any fun d=>d.all fun x=>(fC O (el R k)).contains x) with
    | true=>rfl
    | false =>
     have hS:xA l (asked ++ fC O (el R k)):=GH hl hr (by rw [ß]; omega)
     obtain ⟨X,q,y,e3,_,e4,_⟩:=ZM hS hk
     unfold gF
     rw [Ã (by decide),Á (by omega),À,Á (by omega),e3,À,aGC,À,← e4,Ã (show ¬ (false = true) by decide)]
     by_cases c:EA m l (asked ++ fC O (el R k)) > base
     ·rw [Á (by simpa using c),Á (by omega),Á c]
     ·rw [Ã (by simpa using c),Ã c]
   ·rw [xF _ R k hk',ü,← hA]
    rfl
   ·rcases ht.2 d hd with q | q
    ·exact h3 d q
    ·rw [q]; exact hset
  ·rintro a ⟨hA,_,_⟩
   rw [ì] at hA
   refine ⟨a,?_,hA⟩
   show fW m l asked O p18 base R R.length a = _
   unfold fW
   rw [Ã (by simp)]
 obtain ⟨x,h1,rfl⟩:=key
 exact h1
def J5 (O:List Int) (k:Nat):List (List Int):=(List.range k).flatMap fun i=>(lv O.length (i + 1)).map (fC O)
noncomputable def xZ (m:Nat) (l:List aF) (asked O:List Int) (base:Int) (k:Nat):List (List Int):=(J5 O k).foldl (LC m l asked base) []
theorem aD7 (m:Nat) (base:Int) (Z:List (List Int)):∀ F:List (List Int),(Z.foldl (LC m l asked base) F).length <= F.length + Z.length ∧ ∀ d ∈ Z.foldl (LC m l asked base) F,d ∈ F ∨ d ∈ Z:=by
 induction Z with
 | nil=>exact fun F=>⟨by simp,fun d h=>.inl h⟩
 | cons s Z ih =>
  intro F
  have h1:=aD9 (l:=l) (asked:=asked) m base F s
  have h2:=ih (LC m l asked base F s)
  refine ⟨by rw [ð,ï]; omega,fun d hd=>?_⟩
  rw [ð] at hd
  rcases h2.2 d hd with q | q
  ·rcases h1.2 d q with z | z
   ·exact .inl z
   ·exact .inr (by simp [z])
  ·exact .inr (by simp [q])
theorem QS (O:List Int) (k:Nat):J5 O (k + 1) = J5 O k ++ (lv O.length (k + 1)).map (fC O):=by
 unfold J5
 rw [Ĉ,Ī]
 simp
theorem GB {O:List Int} {k:Nat} {s:List Int}:s ∈ J5 O k ↔ ∃ S,Ix O.length S ∧ 0 < S.length ∧ S.length <= k ∧ fC O S = s:=by
 unfold J5
 rw [Ð]
 constructor
 ·rintro ⟨i,hi,hs⟩
  obtain ⟨S,hS,rfl⟩:=Ú.1 hs
  obtain ⟨h1,h2⟩:=(E4 _ _).1 hS
  have:=Ď.1 hi
  exact ⟨S,h2,by omega,by omega,rfl⟩
 ·rintro ⟨S,h1,h2,h3,rfl⟩
  exact ⟨S.length - 1,Ď.2 (by omega),Ú.2 ⟨S,(E4 _ _).2 ⟨by omega,h1⟩,rfl⟩⟩
theorem aSc {m:Nat} (hl:l.length <= 9) (hr:∀ i,i < l.length->(el l i).Rights.length <= 12) (hk:D5 m (l.map iD)) (ha:asked.length <= 1000) (O:List Int) (hO:O.length <= 4) (base:Int) :
  vE m l asked O base [[]] 0 [] = some (xZ m l asked O base O.length):=by
 unfold vE
 have hll:∀ k,k <= O.length->(lv O.length k).length <= 256:=fun k hk=>by
  refine ñ (aJO k) ?_
  have h1:O.length ^ k <= 4 ^ k:=Nat.pow_le_pow_left hO k
  have h2:4 ^ k <= 4 ^ 4:=Ľ (by omega) (by omega)
  omega
 have hal:∀ k,k <= O.length->(J5 O k).length <= k * 256:=by
  intro k
  induction k with
  | zero=>intro _; simp [J5]
  | succ k ih =>
   intro hk
   have:=ih (by omega)
   have:=hll (k + 1) hk
   rw [QS,ß,È]
   omega
 have key:∃ x,bV (fun (w:List (List Int) × Int × List (List Int))=>fV m l asked O base w.1 w.2.1 w.2.2) ([[]],0,[]) = some x ∧ x = xZ m l asked O base O.length:=by
  refine bO (step:=fun (w:List (List Int) × Int × List (List Int))=>fV m l asked O base w.1 w.2.1 w.2.2) (fun k (a:List (List Int) × List (List Int))=>(a.1,(k:Int),a.2)) O.length (fun k a=>a = (lv O.length k,xZ m l asked O base k)) _ ?_ ?_ ([[]],[]) rfl
  ·rintro k a hk' rfl
   refine .inl ⟨_,?_,rfl⟩
   show fV m l asked O base (lv O.length k) k (xZ m l asked O base k) = _
   unfold fV
   have w3:=aO (n:=k) (by omega)
   have hfl:=aD7 (l:=l) (asked:=asked) m base (J5 O k) []
   have hak:=hal k (by omega)
   have hlk:=hll k (by omega)
   have hlk1:=hll (k + 1) hk'
   rw [Á (by simpa using hk'),aR4 O (lv O.length k) _ _ _ (by omega) (fun s hs=>by
    obtain ⟨h1,h2⟩:=(E4 _ _).1 hs
    exact ⟨h2,by omega⟩) (by omega),À]
   rw [show (lv O.length k).flatMap (FX O.length) = lv O.length (k + 1) from rfl]
   rw [aTc hl hr hk ha O _ base (lv O.length (k + 1)) (xZ m l asked O base k) (fun s hs=>by
    obtain ⟨h1,h2⟩:=(E4 _ _).1 hs
    exact ⟨h2,by omega⟩) (by omega) (by unfold xZ; have:=hfl.1; simp at this; omega) (fun d hd=>by
    rcases hfl.2 d hd with q | q
    ·cases q
    ·obtain ⟨S,_,_,h3,rfl⟩:=GB.1 q
     simp [fC]; omega),À,w3]
   unfold xZ
   rw [QS,ü]
  ·rintro a rfl
   refine ⟨_,?_,rfl⟩
   show fV m l asked O base _ O.length _ = _
   unfold fV
   rw [Ã (by simp)]
 obtain ⟨x,h1,rfl⟩:=key
 exact h1
theorem aKt {m:Nat} (hl:l.length <= 9) (hr:∀ i,i < l.length->(el l i).Rights.length <= 12) (hO:(FU l).length <= 4) (hc:mR m l = true) (hra:rP asked = true) (hk:D5 m (l.map iD)) (ha:asked.length <= 1000) :
  iJ m l asked = some (xZ m l asked (oth (FU l) asked) (EA m l asked) (oth (FU l) asked).length,0):=by
 unfold iJ
 have hoth:(oth (FU l) asked).length <= (FU l).length:=Ę _ _
 rw [TK _ _ (by omega),hc,À,Ã (by decide),TD _ (by omega),hra,À,Ã (by decide),aDi hl hr,À]
 refine (aTE (asked:=asked) m l (FU l) (by omega) (by omega) (fun O=>qK m l asked O)).trans ?_
 have hS:xA l asked:=GH hl hr (by omega)
 obtain ⟨X,q,y,e3,_,e4,_⟩:=ZM hS hk
 unfold qK
 rw [Ã (by simp; omega),e3,À,aGC,À,← e4,aSc hl hr hk ha _ (by omega),À]
 rfl
end
end
section
open Go.RowKit Vm
section
variable {m:Nat} {l:List aF} {asked:List Int} {base:Int}
structure FI (m:Nat) (l:List aF) (asked:List Int) (base:Int) (Z F:List (List Int)):Prop where
 fine:∀ d ∈ F,∃ P1 P2,Z = P1 ++ d :: P2 ∧ EA m l (asked ++ d) > base ∧ ∀ s ∈ P1,(∀ x ∈ s,x ∈ d)->¬ EA m l (asked ++ s) > base
 all:∀ s ∈ Z,(∃ d ∈ F,∀ x ∈ d,x ∈ s) ∨ ¬ EA m l (asked ++ s) > base
theorem aDI {F:List (List Int)} {s:List Int}:(F.any fun d=>d.all fun x=>s.contains x) = true ↔ ∃ d ∈ F,∀ x ∈ d,x ∈ s:=by
 simp
theorem FI.step {Z F:List (List Int)} (h:FI m l asked base Z F) (s:List Int):FI m l asked base (Z ++ [s]) (LC m l asked base F s):=by
 have old:∀ d ∈ F,∃ P1 P2,Z ++ [s] = P1 ++ d :: P2 ∧ EA m l (asked ++ d) > base ∧ ∀ s ∈ P1,(∀ x ∈ s,x ∈ d)->¬ EA m l (asked ++ s) > base:=fun d hd=>by
  obtain ⟨P1,P2,e,h1,h2⟩:=h.fine d hd
  exact ⟨P1,P2 ++ [s],by rw [e]; simp,h1,h2⟩
 unfold LC
 by_cases c:(F.any fun d=>d.all fun x=>s.contains x) = true
 ·rw [Á c]
  refine ⟨old,fun z hz=>?_⟩
  rcases Ê.1 hz with q | q
  ·exact h.all z q
  ·have:z = s:=by simpa using q
   rw [this]; exact .inl (aDI.1 c)
 ·rw [Ã c]
  by_cases c2:EA m l (asked ++ s) > base
  ·rw [Á c2]
   refine ⟨fun d hd=>?_,fun z hz=>?_⟩
   ·rcases Ê.1 hd with q | q
    ·exact old d q
    ·have:d = s:=by simpa using q
     subst this
     refine ⟨Z,[],rfl,c2,fun z hz hs=>?_⟩
     rcases h.all z hz with ⟨d2,h1,h2⟩ | q
     ·exact absurd (aDI.2 ⟨d2,h1,fun x hx=>hs x (h2 x hx)⟩) c
     ·exact q
   ·rcases Ê.1 hz with q | q
    ·rcases h.all z q with ⟨d,h1,h2⟩ | q
     ·exact .inl ⟨d,by simp [h1],h2⟩
     ·exact .inr q
    ·have:z = s:=by simpa using q
     subst this
     exact .inl ⟨z,by simp,fun x hx=>hx⟩
  ·rw [Ã c2]
   refine ⟨old,fun z hz=>?_⟩
   rcases Ê.1 hz with q | q
   ·exact h.all z q
   ·have:z = s:=by simpa using q
    rw [this]; exact .inr c2
theorem FI.fold:∀ (Z2 Z F:List (List Int)),FI m l asked base Z F->FI m l asked base (Z ++ Z2) (Z2.foldl (LC m l asked base) F)
 | [],Z,F,h=>by rw [Û]; exact h
 | s :: Z2,Z,F,h=>by
  have:=FI.fold Z2 _ _ (h.step s)
  rw [è] at this
  exact this
theorem aCM (O:List Int) (k:Nat):FI m l asked base (J5 O k) (xZ m l asked O base k):=by
 have:=FI.fold (m:=m) (l:=l) (asked:=asked) (base:=base) (J5 O k) [] [] ⟨fun d h=>(by cases h),fun s h=>(by cases h)⟩
 exact this
theorem aGl (O:List Int):∀ k,(J5 O k).Pairwise fun a b=>a.length <= b.length
 | 0=>by simp [J5]
 | k + 1=>by
  rw [QS]
  refine ý.2 ⟨aGl O k,?_,fun a ha b hb=>?_⟩
  ·rw [Ļ]
   refine Ŀ (R:=fun _ _=>True) (fun {a b} ha hb _=>?_) (List.pairwise_of_forall (fun _ _=>trivial))
   have h1:=((E4 _ _).1 ha).1
   have h2:=((E4 _ _).1 hb).1
   simp [fC]; omega
  ·obtain ⟨S,_,_,h3,rfl⟩:=GB.1 ha
   obtain ⟨T,hT,rfl⟩:=Ú.1 hb
   have h2:=((E4 _ _).1 hT).1
   simp [fC]; omega
theorem aAP {O S:List Int} (h:Ix O.length S):∀ x ∈ fC O S,x ∈ O:=by
 intro x hx
 obtain ⟨e,he,rfl⟩:=Ú.1 hx
 have:=h.rng e he
 exact kS O _ (by omega)
theorem aHN {O S:List Int} (hO:LG O) (h:Ix O.length S):LG (fC O S):=by
 unfold fC LG
 rw [Ļ]
 refine Ŀ (fun {a b} ha hb q=>?_) h.asc
 have h1:=h.rng a ha
 have h2:=h.rng b hb
 rw [kJ _ _ (by omega),kJ _ _ (by omega)]
 exact æ.1 hO _ _ (by omega) (by omega) (by omega)
theorem aFv {O S:List Int} (i:Nat):(fC O S).take i ++ (fC O S).drop (i + 1) = fC O (S.take i ++ S.drop (i + 1)):=by
 unfold fC
 rw [Ă,Ţ,List.map_drop]
theorem aCA {S:List Int} (i:Nat):(S.take i ++ S.drop (i + 1)).Sublist S:=by
 have h:S.take i ++ S.drop i = S:=List.take_append_drop i S
 have h2:(S.drop (i + 1)).Sublist (S.drop i):=by
  rw [show S.drop (i + 1) = (S.drop i).drop 1 by rw [Ś]]
  exact List.drop_sublist _ _
 have h3:(S.take i ++ S.drop (i + 1)).Sublist (S.take i ++ S.drop i):=(List.Sublist.refl _).append h2
 rwa [h] at h3
structure aUf (m:Nat) (l:List aF) (asked O:List Int) (d:List Int):Prop where
 pos:0 < d.length
 len:d.length <= O.length
 asc:LG d
 sub:∀ x ∈ d,x ∈ O
 more:EA m l (asked ++ d) > EA m l asked
 less:∀ i,i < d.length->EA m l (asked ++ (d.take i ++ d.drop (i + 1))) = EA m l asked
theorem LJ (hk:D5 m (l.map iD)) (hsh:∀ z:List Int,z.length <= 100->xA l (asked ++ z)) {O:List Int} (hO:LG O) (hOl:O.length <= 50) {d:List Int} (hd:d ∈ xZ m l asked O (EA m l asked) O.length):aUf m l asked O d:=by
 obtain ⟨P1,P2,hZ,h1,h2⟩:=(aCM (m:=m) (l:=l) (asked:=asked) (base:=EA m l asked) O O.length).fine d hd
 have hin:d ∈ J5 O O.length:=by rw [hZ]; simp
 obtain ⟨S,hI,hp,hle,rfl⟩:=GB.1 hin
 have hsl:(fC O S).length = S.length:=by simp [fC]
 have hempty:xA l asked:=by have:=hsh [] (by simp); rwa [Û] at this
 refine ⟨by omega,by omega,aHN hO hI,aAP hI,h1,fun i hi=>?_⟩
 rw [aFv]
 have hsub:=aCA (S:=S) i
 have hI' : Ix O.length (S.take i ++ S.drop (i + 1)):=⟨hI.asc.sublist hsub,fun e he=>hI.rng e (hsub.subset he)⟩
 have hlen:(S.take i ++ S.drop (i + 1)).length + 1 = S.length:=by
  rw [ß,ç,List.length_drop]
  omega
 have hge:EA m l asked <= EA m l (asked ++ fC O (S.take i ++ S.drop (i + 1))):=TQ hempty (hsh _ (by simp [fC] at *; omega)) hk fun x hx=>by simp [hx]
 have hle2:¬ EA m l (asked ++ fC O (S.take i ++ S.drop (i + 1))) > EA m l asked:=by
  by_cases c:(S.take i ++ S.drop (i + 1)).length = 0
  ·have:S.take i ++ S.drop (i + 1) = []:=Ñ c
   rw [this]
   show ¬ EA m l (asked ++ []) > _
   rw [Û]; omega
  ·have hin2:fC O (S.take i ++ S.drop (i + 1)) ∈ J5 O O.length:=GB.2 ⟨_,hI',by omega,by omega,rfl⟩
   have hl2:(fC O (S.take i ++ S.drop (i + 1))).length + 1 = (fC O S).length:=by
    rw [hsl,← hlen]; simp [fC]
   have hup:=aGl O O.length
   rw [hZ] at hin2 hup
   have hpw:=ý.1 hup
   rcases Ê.1 hin2 with q | q
   ·exact h2 _ q fun x hx=>by
     obtain ⟨e,he,rfl⟩:=Ú.1 hx
     exact Ú.2 ⟨e,hsub.subset he,rfl⟩
   ·rcases Ô.1 q with q | q
    ·rw [q] at hl2; omega
    ·have:=(Þ.1 hpw.2.1).1 _ q
     omega
 omega
theorem OY {a:List Int} (h:rP a = true):LG a ∧ ∀ x ∈ a,0 <= x ∧ x < 200:=by
 unfold rP at h
 have h1:∀ i,i < a.length->(if i = 0 then -1 else el a (i - 1)) < el a i ∧ el a i < 200:=fun i hi=>Ü (iT.1 h i hi)
 have h2:∀ j i,i < j->j < a.length->el a i < el a j:=by
  intro j
  induction j with
  | zero=>intro i hi; omega
  | succ j ih =>
   intro i hi hj
   have h3:=(h1 (j + 1) hj).1
   rw [Ã (by omega),Nat.add_sub_cancel] at h3
   by_cases e:i = j
   ·rw [e]; exact h3
   ·have:=ih i (by omega) (by omega)
    omega
 refine ⟨æ.2 fun i j hi hj hij=>?_,fun x hx=>?_⟩
 ·have:=h2 j i hij hj
  rwa [kJ _ _ hi,kJ _ _ hj] at this
 ·obtain ⟨i,hi,rfl⟩:=E9 hx
  have h3:=h1 i hi
  refine ⟨?_,h3.2⟩
  by_cases e:i = 0
  ·rw [Á e] at h3; omega
  ·have h4:=h2 i 0 (by omega) hi
   have h5:=(h1 0 (by omega)).1
   rw [Á rfl] at h5
   omega
end
end
section
open Go.RowKit Vm
def vP:List Int->List Int->Bool
 | x :: a,y :: b=>if x = y then vP a b else decide (x < y)
 | _,_=>false
def BM (a b:List Int):Bool:=if a.length = b.length then vP a b else decide (a.length < b.length)
theorem ZQ:∀ {a b:List Int},vP a b = true->vP b a = false
 | [],_,h=>by simp [vP] at h
 | _ :: _,[],h=>by simp [vP] at h
 | x :: a,y :: b,h=>by
  unfold vP at h ⊢
  by_cases e:x = y
  ·rw [Á e] at h
   rw [Á e.symm]
   exact ZQ h
  ·rw [Ã e] at h
   rw [Ã (fun q=>e q.symm)]
   have:=Ü h
   exact û (by omega)
theorem YZ:∀ {a b c:List Int},vP a b = true->vP b c = true->vP a c = true
 | [],_,_,h,_=>by simp [vP] at h
 | _ :: _,[],_,h,_=>by simp [vP] at h
 | _ :: _,_ :: _,[],_,h=>by simp [vP] at h
 | x :: a,y :: b,z :: c,h1,h2=>by
  unfold vP at h1 h2 ⊢
  by_cases e:x = y
  ·subst e
   rw [Á rfl] at h1
   by_cases e2:x = z
   ·subst e2
    rw [Á rfl] at h2 ⊢
    exact YZ h1 h2
   ·rw [Ã e2] at h2 ⊢
    exact h2
  ·rw [Ã e] at h1
   have q1:=Ü h1
   by_cases e2:y = z
   ·subst e2
    rw [Ã e]
    exact h1
   ·rw [Ã e2] at h2
    have q2:=Ü h2
    rw [Ã (by omega)]
    exact Í (by omega)
theorem YL:∀ {a b:List Int},a.length = b.length->vP a b = false->vP b a = false->a = b
 | [],[],_,_,_=>rfl
 | [],_ :: _,h,_,_=>by simp at h
 | _ :: _,[],h,_,_=>by simp at h
 | x :: a,y :: b,h,h1,h2=>by
  unfold vP at h1 h2
  by_cases e:x = y
  ·subst e
   rw [Á rfl] at h1 h2
   rw [YL (by simpa using h) h1 h2]
  ·rw [Ã e] at h1
   rw [Ã (fun q=>e q.symm)] at h2
   have q1:=ł h1
   have q2:=ł h2
   omega
theorem YQ {a b:List Int} (h:BM a b = true):BM b a = false:=by
 unfold BM at h ⊢
 by_cases e:a.length = b.length
 ·rw [Á e] at h
  rw [Á e.symm]
  exact ZQ h
 ·rw [Ã e] at h
  rw [Ã (fun q=>e q.symm)]
  have:=Ü h
  exact û (by omega)
theorem aEi {a b c:List Int} (h1:BM a b = true) (h2:BM b c = true):BM a c = true:=by
 unfold BM at h1 h2 ⊢
 by_cases e:a.length = b.length
 ·rw [Á e] at h1
  by_cases e2:b.length = c.length
  ·rw [Á e2] at h2
   rw [Á (e.trans e2)]
   exact YZ h1 h2
  ·rw [Ã e2] at h2
   have:=Ü h2
   rw [Ã (by omega)]
   exact Í (by omega)
 ·rw [Ã e] at h1
  have q1:=Ü h1
  by_cases e2:b.length = c.length
  ·rw [Ã (by omega)]
   exact Í (by omega)
  ·rw [Ã e2] at h2
   have:=Ü h2
   rw [Ã (by omega)]
   exact Í (by omega)
theorem aF7 {a b:List Int} (h1:BM a b = false) (h2:BM b a = false):a = b:=by
 unfold BM at h1 h2
 by_cases e:a.length = b.length
 ·rw [Á e] at h1
  rw [Á e.symm] at h2
  exact YL e h1 h2
 ·rw [Ã e] at h1
  rw [Ã (fun q=>e q.symm)] at h2
  have q1:=ł h1
  have q2:=ł h2
  omega
theorem HU (a:List Int):BM a a = false:=by
 cases h:BM a a with
 | false=>rfl
 | true =>
  have:=YQ h
  rw [h] at this
  cases this
theorem XK:∀ {l1 l2:List (List Int)},l1.Pairwise (fun a b=>BM a b = true)->l2.Pairwise (fun a b=>BM a b = true)->(∀ x,x ∈ l1 ↔ x ∈ l2)->l1 = l2
 | [],[],_,_,_=>rfl
 | [],b :: _,_,_,h=>by
  have:=(h b).2 (by simp)
  cases this
 | a :: _,[],_,_,h=>by
  have:=(h a).1 (by simp)
  cases this
 | a :: l1,b :: l2,h1,h2,h=>by
  have p1:=Þ.1 h1
  have p2:=Þ.1 h2
  have e:a = b:=by
   rcases Ô.1 ((h a).1 (by simp)) with q | q
   ·exact q
   ·rcases Ô.1 ((h b).2 (by simp)) with q' | q'
    ·exact q'.symm
    ·have:=YQ (p1.1 b q')
     rw [p2.1 a q] at this
     cases this
  subst e
  rw [XK p1.2 p2.2 fun x=>?_]
  have hx:=h x
  constructor
  ·intro q
   rcases Ô.1 (hx.1 (by simp [q])) with z | z
   ·subst z
    have:=p1.1 x q
    rw [HU] at this
    cases this
   ·exact z
  ·intro q
   rcases Ô.1 (hx.2 (by simp [q])) with z | z
   ·subst z
    have:=p2.1 x q
    rw [HU] at this
    cases this
   ·exact z
theorem ZJ {s:List Int} {p q:List (List Int)} (h:(p ++ q).Pairwise (fun a b=>BM a b = true)) (hs:s ∉ p ++ q) (hp:∀ x ∈ p,BM s x = false) (hq:∀ y,q.head? = some y->BM s y = true):(p ++ s :: q).Pairwise (fun a b=>BM a b = true):=by
 obtain ⟨h1,h2,h3⟩:=ý.1 h
 have hq' : ∀ y ∈ q,BM s y = true:=by
  cases q with
  | nil=>intro y hy; cases hy
  | cons z q =>
   intro y hy
   have hz:=hq z rfl
   rcases Ô.1 hy with e | e
   ·rw [e]; exact hz
   ·exact aEi hz ((Þ.1 h2).1 y e)
 refine ý.2 ⟨h1,Þ.2 ⟨hq',h2⟩,fun x hx y hy=>?_⟩
 rcases Ô.1 hy with e | e
 ·subst e
  cases c:BM x y with
  | true=>rfl
  | false =>
   have:=aF7 c (hp x hx)
   exact absurd (by rw [← this]; simp [hx]) hs
 ·exact h3 x hx y e
def W5 (b:Nat):Nat->List Int
 | 0=>[]
 | k + 1=>W5 b k ++ if b.testBit k = true then [(k:Int)] else []
theorem LQ {b:Nat} {x:Int}:∀ {k:Nat},x ∈ W5 b k ↔ ∃ i:Nat,i < k ∧ b.testBit i = true ∧ (i:Int) = x
 | 0=>by
  constructor
  ·intro h; cases h
  ·rintro ⟨i,h,_⟩; omega
 | k + 1=>by
  unfold W5
  rw [Ê,LQ]
  constructor
  ·rintro (⟨i,h1,h2,h3⟩ | h)
   ·exact ⟨i,by omega,h2,h3⟩
   ·split at h
    ·rename_i c
     exact ⟨k,by omega,c,(ê.1 h).symm⟩
    ·cases h
  ·rintro ⟨i,h1,h2,h3⟩
   by_cases e:i = k
   ·subst e
    right
    rw [Á h2,← h3]
    simp
   ·exact .inl ⟨i,by omega,h2,h3⟩
theorem XC (b:Nat):∀ k,LG (W5 b k)
 | 0=>List.Pairwise.nil
 | k + 1=>by
  unfold W5
  by_cases c:b.testBit k = true
  ·rw [Á c]
   refine TF (XC b k) fun x hx=>?_
   obtain ⟨i,h1,_,h3⟩:=LQ.1 hx
   omega
  ·rw [Ã c,Û]
   exact XC b k
theorem aKd (b n:Nat):Ix n (W5 b n):=⟨XC b n,fun e he=>by
 obtain ⟨i,h1,_,h3⟩:=LQ.1 he
 omega⟩
theorem QW (b:Nat):∀ k,(W5 b k).length <= k
 | 0=>É _
 | k + 1=>by
  have:=QW b k
  unfold W5
  rw [ß]
  split <;> simp <;> omega
def OP (S:List Int):Nat->Nat
 | 0=>0
 | k + 1=>OP S k + if (k:Int) ∈ S then 2 ^ k else 0
theorem U8 (S:List Int):∀ k,OP S k < 2 ^ k
 | 0=>by simp [OP]
 | k + 1=>by
  have:=U8 S k
  unfold OP
  rw [Nat.pow_succ]
  split <;> omega
theorem RK (S:List Int) {i:Nat}:∀ {k:Nat},i < k->((OP S k).testBit i = true ↔ (i:Int) ∈ S)
 | 0,h=>by omega
 | k + 1,h=>by
  have hl:=U8 S k
  unfold OP
  by_cases e:i = k
  ·subst e
   by_cases c:(i:Int) ∈ S
   ·rw [Á c,ŉ,Nat.testBit_two_pow_add_eq,Ĳ hl]
    simp [c]
   ·rw [Ã c,ď,Ĳ hl]
    simp [c]
  ·have ih:=RK S (i:=i) (k:=k) (by omega)
   split
   ·rw [ŉ,Nat.testBit_two_pow_add_gt (by omega)]
    exact ih
   ·rw [ď]; exact ih
theorem aF4 {S:List Int} {n:Nat} (h:Ix n S):W5 (OP S n) n = S:=by
 refine aBL (XC _ _) h.asc fun x=>?_
 rw [LQ]
 constructor
 ·rintro ⟨i,h1,h2,rfl⟩
  exact (RK S h1).1 h2
 ·intro hx
  have hr:=h.rng x hx
  refine ⟨x.toNat,by omega,(RK S (by omega)).2 ?_,by omega⟩
  rw [ĕ hr.1]
  exact hx
def OA (O:List Int) (b:Nat):List Int:=fC O (W5 b O.length)
theorem W8 {O:List Int} {b:Nat} {x:Int}:x ∈ OA O b ↔ ∃ i,i < O.length ∧ b.testBit i = true ∧ el O i = x:=by
 unfold OA fC
 rw [Ú]
 constructor
 ·rintro ⟨e,he,rfl⟩
  obtain ⟨i,h1,h2,rfl⟩:=LQ.1 he
  exact ⟨i,h1,h2,rfl⟩
 ·rintro ⟨i,h1,h2,rfl⟩
  exact ⟨_,LQ.2 ⟨i,h1,h2,rfl⟩,rfl⟩
theorem aON {O:List Int} (hO:LG O) {i j:Nat} (hi:i < O.length) (hj:j < O.length) (h:el O i = el O j):i = j:=by
 rw [kJ _ _ hi,kJ _ _ hj] at h
 rcases Nat.lt_trichotomy i j with q | q | q
 ·have:=æ.1 hO i j hi hj q
  omega
 ·exact q
 ·have:=æ.1 hO j i hj hi q
  omega
theorem UI {O:List Int} (hO:LG O) {p b:Nat} (hp:p < 2 ^ O.length):(∀ x ∈ OA O p,x ∈ OA O b) ↔ p &&& b = p:=by
 constructor
 ·intro h
  refine Nat.eq_of_testBit_eq fun i=>?_
  rw [Nat.testBit_and]
  cases c:p.testBit i with
  | false=>rfl
  | true =>
   have hi:i < O.length:=by
    apply å
    intro hn
    have h1:p < 2 ^ i:=ę hp (Ľ (by omega) (by omega))
    rw [Ĳ h1] at c
    cases c
   obtain ⟨j,h1,h2,h3⟩:=W8.1 (h _ (W8.2 ⟨i,hi,c,rfl⟩))
   obtain rfl:=aON hO h1 hi h3
   rw [h2]; rfl
 ·intro h x hx
  obtain ⟨i,h1,h2,rfl⟩:=W8.1 hx
  refine W8.2 ⟨i,h1,?_,rfl⟩
  rw [← h,Nat.testBit_and] at h2
  exact (Ø _ _ ▸ h2).2
theorem aCs (O:List Int):OA O 0 = []:=by
 have:∀ k,W5 0 k = []:=by
  intro k
  induction k with
  | zero=>rfl
  | succ k ih=>unfold W5; rw [ih]; simp
 unfold OA
 rw [this]; rfl
theorem aPe {O:List Int} {b:Nat} (hb:b < 2 ^ O.length) (h:b ≠ 0):OA O b ∈ J5 O O.length:=by
 refine GB.2 ⟨_,aKd b O.length,?_,QW b _,rfl⟩
 obtain ⟨i,hi⟩:=Nat.exists_testBit_of_ne_zero h
 have hil:i < O.length:=by
  apply å
  intro hn
  have h1:b < 2 ^ i:=ę hb (Ľ (by omega) (by omega))
  rw [Ĳ h1] at hi
  cases hi
 exact List.length_pos_of_mem (LQ.2 ⟨i,hil,hi,rfl⟩)
theorem aGz {O s:List Int} (h:s ∈ J5 O O.length):∃ b,b < 2 ^ O.length ∧ b ≠ 0 ∧ OA O b = s:=by
 obtain ⟨S,h1,h2,_,rfl⟩:=GB.1 h
 have he:=aF4 h1
 refine ⟨OP S O.length,U8 _ _,fun h0=>?_,?_⟩
 ·rw [h0] at he
  have:fC O (W5 0 O.length) = []:=aCs O
  rw [he] at this
  unfold fC at this
  have:=List.map_eq_nil_iff.1 this
  rw [this] at h2
  simp at h2
 ·unfold OA
  rw [he]
section
variable {m:Nat} {l:List aF} {asked:List Int}
def aBk (m:Nat) (l:List aF) (asked O:List Int) (b:Nat):Prop :=
 EA m l (asked ++ OA O b) > EA m l asked ∧ ∀ p,p < b->p &&& b = p->¬ EA m l (asked ++ OA O p) > EA m l asked
theorem aD5 (hk:D5 m (l.map iD)) (hsh:∀ z:List Int,z.length <= 100->xA l (asked ++ z)) {O:List Int} (hO:LG O) (hOl:O.length <= 50) (d:List Int) :
  d ∈ xZ m l asked O (EA m l asked) O.length ↔ ∃ b,b < 2 ^ O.length ∧ OA O b = d ∧ aBk m l asked O b:=by
 have hfi:=aCM (m:=m) (l:=l) (asked:=asked) (base:=EA m l asked) O O.length
 have hlen:∀ b,(OA O b).length <= 100:=fun b=>by
  have:=QW b O.length
  simp [OA,fC]; omega
 -- a set within one that is found,and that raises,holds it
 have hmin:∀ d ∈ xZ m l asked O (EA m l asked) O.length,∀ s:List Int,s.length <= 100->(∀ x ∈ s,x ∈ d)->EA m l (asked ++ s) > EA m l asked->∀ x ∈ d,x ∈ s:=by
  intro d hd s hs hsub hr x hx
  have g:=LJ hk hsh hO hOl hd
  apply å
  intro hn
  obtain ⟨i,hi,rfl⟩:=E9 hx
  have hle:=TQ (m:=m) (hsh s hs) (hsh (d.take i ++ d.drop (i + 1)) (by have:=g.len; simp; omega)) hk fun y hy=>by
   rcases Ê.1 hy with q | q
   ·simp [q]
   ·have hyd:=hsub y q
    obtain ⟨j,hj,rfl⟩:=E9 hyd
    have hij:j ≠ i:=fun e=>hn (e ▸ q)
    rw [Ê,Ê]
    right
    rcases Ŝ hij with c | c
    ·left
     rw [kJ _ _ hj]
     exact List.mem_take_iff_getElem.2 ⟨j,by omega,rfl⟩
    ·right
     rw [kJ _ _ hj]
     exact List.mem_drop_iff_getElem.2 ⟨j - (i + 1),by omega,by congr 1; omega⟩
  have:=g.less i hi
  omega
 constructor
 ·intro hd
  have g:=LJ hk hsh hO hOl hd
  obtain ⟨P1,P2,hZ,_,_⟩:=hfi.fine d hd
  obtain ⟨b,hb,_,rfl⟩:=aGz (O:=O) (s:=d) (by rw [hZ]; simp)
  refine ⟨b,hb,rfl,g.more,fun p hp hpb hr=>?_⟩
  have h1:=hmin _ hd (OA O p) (hlen p) ((UI hO (by omega)).2 hpb) hr
  have h2:=(UI hO hb).1 h1
  have h3:b &&& p <= p:=Nat.and_le_right
  omega
 ·rintro ⟨b,hb,rfl,hr,hl⟩
  have hb0:b ≠ 0:=by
   intro e
   subst e
   rw [aCs,Û] at hr
   omega
  rcases hfi.all _ (aPe hb hb0) with ⟨d,hd,hsub⟩ | q
  ·have g:=LJ hk hsh hO hOl hd
   obtain ⟨P1,P2,hZ,_,_⟩:=hfi.fine d hd
   obtain ⟨p,hp,_,rfl⟩:=aGz (O:=O) (s:=d) (by rw [hZ]; simp)
   have h1:=(UI hO hp).1 hsub
   have h3:p &&& b <= b:=Nat.and_le_right
   by_cases e:p = b
   ·rw [← e]; exact hd
   ·exact absurd g.more (hl p (by omega) h1)
  ·exact absurd hr q
theorem WC (base:Int):∀ (Z F:List (List Int)),∃ G,Z.foldl (LC m l asked base) F = F ++ G ∧ G.Sublist Z
 | [],F=>⟨[],by simp,List.Sublist.refl _⟩
 | s :: Z,F=>by
  have h:LC m l asked base F s = F ∨ LC m l asked base F s = F ++ [s]:=by
   unfold LC
   split
   ·exact .inl rfl
   ·split
    ·exact .inr rfl
    ·exact .inl rfl
  obtain ⟨G,h1,h2⟩:=WC base Z (LC m l asked base F s)
  rw [ð,h1]
  rcases h with e | e
  ·rw [e]
   exact ⟨G,rfl,h2.cons s⟩
  ·rw [e]
   exact ⟨s :: G,by simp,h2.cons_cons s⟩
theorem aAB:∀ {a b:List Int} {x y:Int},vP a b = true->vP (a ++ [x]) (b ++ [y]) = true
 | [],_,_,_,h=>by simp [vP] at h
 | _ :: _,[],_,_,h=>by simp [vP] at h
 | u :: a,v :: b,x,y,h=>by
  rw [ą,ą]
  unfold vP at h ⊢
  by_cases e:u = v
  ·rw [Á e] at h ⊢
   exact aAB h
  ·rw [Ã e] at h ⊢
   exact h
theorem aA7:∀ (a:List Int) {x y:Int},x < y->vP (a ++ [x]) (a ++ [y]) = true
 | [],x,y,h=>by
  show (if x = y then _ else decide (x < y)) = true
  rw [Ã (by omega)]
  exact Í h
 | u :: a,x,y,h=>by
  rw [ą,ą]
  unfold vP
  rw [Á rfl]
  exact aA7 a h
theorem aLe (N:Nat):∀ k,(lv N k).Pairwise fun a b=>vP a b = true
 | 0=>by simp [lv]
 | k + 1=>by
  show ((lv N k).flatMap (FX N)).Pairwise _
  have ih:=aLe N k
  revert ih
  generalize lv N k = Z
  intro ih
  induction Z with
  | nil=>exact List.Pairwise.nil
  | cons p Z ihZ =>
   have hp:=Þ.1 ih
   rw [ÿ]
   refine ý.2 ⟨?_,ihZ hp.2,fun a ha b hb=>?_⟩
   ·unfold FX
    rw [Ļ]
    refine (List.pairwise_lt_range' (s:=stI p) (n:=N - stI p) (step:=1) (by omega)).imp fun q=>?_
    exact aA7 p (by omega)
   ·obtain ⟨t,_,rfl⟩:=Ú.1 ha
    obtain ⟨q,hq,hb'⟩:=Ð.1 hb
    obtain ⟨u,_,rfl⟩:=Ú.1 hb'
    exact aAB (hp.1 q hq)
theorem aAX {O:List Int} (hO:LG O):∀ {a b:List Int},(∀ e ∈ a,0 <= e ∧ e < O.length)->(∀ e ∈ b,0 <= e ∧ e < O.length)->vP a b = true->vP (fC O a) (fC O b) = true
 | [],_,_,_,h=>by simp [vP] at h
 | _ :: _,[],_,_,h=>by simp [vP] at h
 | u :: a,v :: b,ha,hb,h=>by
  have hu:=ha u (by simp)
  have hv:=hb v (by simp)
  show vP (el O u.toNat :: fC O a) (el O v.toNat :: fC O b) = true
  unfold vP at h ⊢
  by_cases e:u = v
  ·subst e
   rw [Á rfl] at h ⊢
   exact aAX hO (fun e he=>ha e (by simp [he])) (fun e he=>hb e (by simp [he])) h
  ·rw [Ã e] at h
   have q:=Ü h
   have:=æ.1 hO u.toNat v.toNat (by omega) (by omega) (by omega)
   rw [← kJ _ _ (by omega),← kJ _ _ (by omega)] at this
   rw [Ã (by omega)]
   exact Í this
theorem V5 {O:List Int} (hO:LG O):∀ k,(J5 O k).Pairwise fun a b=>BM a b = true
 | 0=>by simp [J5]
 | k + 1=>by
  rw [QS]
  refine ý.2 ⟨V5 hO k,?_,fun a ha b hb=>?_⟩
  ·rw [Ļ]
   refine Ŀ (fun {a b} ha hb q=>?_) (aLe O.length (k + 1))
   obtain ⟨a1,a2⟩:=(E4 _ _).1 ha
   obtain ⟨b1,b2⟩:=(E4 _ _).1 hb
   unfold BM
   rw [Á (by simp [fC]; omega)]
   exact aAX hO a2.rng b2.rng q
  ·obtain ⟨S,_,_,h3,rfl⟩:=GB.1 ha
   obtain ⟨T,hT,rfl⟩:=Ú.1 hb
   have h2:=((E4 _ _).1 hT).1
   unfold BM
   rw [Ã (by simp [fC]; omega)]
   exact Í (by simp [fC]; omega)
theorem aBN {O:List Int} (hO:LG O) (base:Int) (k:Nat):(xZ m l asked O base k).Pairwise fun a b=>BM a b = true:=by
 obtain ⟨G,h1,h2⟩:=WC (m:=m) (l:=l) (asked:=asked) base (J5 O k) []
 unfold xZ
 rw [h1,Đ]
 exact (V5 hO k).sublist h2
end
end
end Go.Proofs.Ytgjcnbgfaimepaa
