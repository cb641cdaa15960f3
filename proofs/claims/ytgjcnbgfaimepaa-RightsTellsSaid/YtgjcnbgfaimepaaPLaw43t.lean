/- Law 43: the program tells what the reference tells (RightsTells). -/
import Derived.Test.YtgjcnbgfaimepaaPRight16
namespace Go.Proofs.Ytgjcnbgfaimepaa
open Go.RowKit Vm
theorem HX (l:List Int) (hl:l.length < 9223372036854775807):dL l l = some true:=by
 unfold dL
 rw [Ã (by simp)]
 have key:=oC? (step:=fun w=>eH l l w) (fun i:Nat=>(i:Int)) l.length (fun _=>true) () ?_ ?_
 ·refine (Ą (fun o=>Option.bind o _) key).trans ?_
  rw [iT.2 fun _ _=>rfl]
  rfl
 ·intro i hi
  show eH l l i = _
  unfold eH
  have w3:=aO (n:=i) (by omega)
  rw [Á (by simpa using hi),bA l i hi,À,À,Ã (by simp),w3]
  rfl
 ·show eH l l l.length = _
  unfold eH
  rw [Ã (by simp)]
theorem Z6 (l:List b6) (hl:l.length < 9223372036854775807):jV l l = some true:=by
 unfold jV
 rw [Ã (by simp)]
 have key:=oC? (step:=fun w=>cD l l w) (fun i:Nat=>(i:Int)) l.length (fun _=>true) () ?_ ?_
 ·refine (Ą (fun o=>Option.bind o _) key).trans ?_
  rw [iT.2 fun _ _=>rfl]
  rfl
 ·intro i hi
  show cD l l i = _
  unfold cD
  have w3:=aO (n:=i) (by omega)
  rw [Á (by simpa using hi),bA l i hi,À,À,Ã (by simp),w3]
  rfl
 ·show cD l l l.length = _
  unfold cD
  rw [Ã (by simp)]
def GR (l:List aF) (X:List Int) (day:Int):Nat->List Int × List b6
 | 0=>([],[])
 | k + 1=>if el X k > 0 then ((GR l X day k).1 ++ [(el l k).File],(GR l X day k).2 ++ [b6.mk 6 (el l k).From (el l k).To (el l k).Part (el l k).Sign (el X k) day 0 0]) else GR l X day k
theorem aAV (l:List aF) (X:List Int) (day:Int) (k:Nat):GR l X day (k + 1) = if el X k > 0 then ((GR l X day k).1 ++ [(el l k).File],(GR l X day k).2 ++ [b6.mk 6 (el l k).From (el l k).To (el l k).Part (el l k).Sign (el X k) day 0 0]) else GR l X day k:=rfl
theorem aC5 (l:List aF) (X:List Int) (day:Int):∀ k,(GR l X day k).1.length <= k ∧ (GR l X day k).2.length <= k
 | 0=>⟨É _,É _⟩
 | k + 1=>by
  have:=aC5 l X day k
  unfold GR
  split
  ·simp; omega
  ·omega
section
variable {l:List aF} {asked:List Int}
theorem aMq (h9:l.length <= 9) (X:List Int) (day:Int):∃ P,m8 l X day 0 = some P ∧ jO l X day 0 = some P ∧ P.1.length <= 9 ∧ P.2.length <= 9:=by
 unfold m8 jO
 by_cases hX:X.length = l.length
 ·have hpl:=aC5 l X day
  refine ⟨GR l X day l.length,?_,?_,by have:=hpl l.length; omega,by have:=hpl l.length; omega⟩
  ·rw [Ã (by simp [hX])]
   obtain ⟨x,h1,rfl⟩ : ∃ x,pK l X day 0 0 [] [] = some x ∧ x = GR l X day l.length:=by
    unfold pK
    refine bO (step:=fun (w:Int × List Int × List b6)=>fG l X day 0 w.1 w.2.1 w.2.2) (fun k (a:List Int × List b6)=>((k:Int),a.1,a.2)) l.length (fun k a=>a = GR l X day k) _ ?_ ?_ ([],[]) rfl
    ·rintro k a hk rfl
     refine .inl ⟨_,?_,rfl⟩
     show fG l X day 0 k (GR l X day k).1 (GR l X day k).2 = _
     unfold fG
     have w3:=aO (n:=k) (by omega)
     have:=hpl k
     rw [Á (by simpa using hk),bA l k hk,À,bA X k (by omega),À,w3]
     rw [aAV]
     by_cases c:el X k > 0
     ·rw [Á (by simpa using c),Á (by omega),À,Á (by omega),Á c]
     ·rw [Ã (by simpa using c),Ã c]
    ·rintro a rfl
     refine ⟨_,?_,rfl⟩
     show fG l X day 0 l.length (GR l X day l.length).1 (GR l X day l.length).2 = _
     unfold fG
     rw [Ã (by simp)]
   rw [h1]; rfl
  ·obtain ⟨x,h1,rfl⟩ : ∃ x,fK l X day 0 0 [] [] = some x ∧ x = GR l X day l.length:=by
    unfold fK
    refine bO (step:=fun (w:Int × List Int × List b6)=>bJ l X day 0 w.1 w.2.1 w.2.2) (fun k (a:List Int × List b6)=>((k:Int),a.1,a.2)) l.length (fun k a=>a = GR l X day k) _ ?_ ?_ ([],[]) rfl
    ·rintro k a hk rfl
     refine .inl ⟨_,?_,rfl⟩
     show bJ l X day 0 k (GR l X day k).1 (GR l X day k).2 = _
     unfold bJ
     have w3:=aO (n:=k) (by omega)
     have:=hpl k
     rw [Á (by simpa using hk),Á (by simp [hX]),bA X k (by omega),À,bA l k hk,w3]
     rw [aAV]
     by_cases c:el X k > 0
     ·rw [Á (by simpa using c),À,Á (by omega),À,À,À,À,À,Á (by omega),Á c]
     ·rw [Ã (by simpa using c),Ã c]
    ·rintro a rfl
     refine ⟨_,?_,rfl⟩
     show bJ l X day 0 l.length (GR l X day l.length).1 (GR l X day l.length).2 = _
     unfold bJ
     rw [Ã (by simp)]
   rw [h1]; rfl
 ·refine ⟨([],[]),?_,?_,by simp,by simp⟩
  ·rw [Á (by simp; omega)]
  ·have h1:fK l X day 0 0 [] [] = some ([],[]):=by
    unfold fK
    refine pJ ?_
    show bJ l X day 0 0 [] [] = _
    unfold bJ
    split
    ·rw [Ã (by simp; omega)]
    ·rfl
   rw [h1]; rfl
theorem aKO (h:xA l asked) (X:List Int):mE l X asked = some (decide (X.length = l.length) && wR (fun i=>decide (el X i = 0) || kC asked (el l i)) l.length):=by
 unfold mE
 have hlen:=h.len
 have k1:lV l X asked 0 = some (if wR (fun i=>decide (el X i = 0) || kC asked (el l i)) (min l.length X.length) = true then .inl () else .inr ()):=by
  unfold lV
  refine oC? (step:=fun w=>dQ l X asked w) (fun i:Nat=>(i:Int)) (min l.length X.length) (fun i=>decide (el X i = 0) || kC asked (el l i)) () ?_ ?_
  ·intro i hi
   show dQ l X asked i = _
   unfold dQ
   have w3:=aO (n:=i) (by omega)
   rw [Á (by simp; omega),Á (by simp; omega),bA X i (by omega),À,w3]
   by_cases c:el X i = 0
   ·rw [Ã (by simpa using c),Í c]; rfl
   ·rw [Á (by simpa using c),bA l i (by omega),À,û c,aBG _ _ h.asked (by have:=h.rights i (by omega); omega),À]
    cases kC asked (el l i) <;> rfl
  ·show dQ l X asked ((min l.length X.length:Nat):Int) = _
   unfold dQ
   by_cases c:X.length < l.length
   ·rw [Á (by simp; omega),Ã (by simp; omega)]
   ·rw [Ã (by simp; omega)]
 rw [k1,À]
 by_cases hX:X.length = l.length
 ·rw [Í hX,hX,Nat.min_self]
  cases wR (fun i=>decide (el X i = 0) || kC asked (el l i)) l.length
  ·rfl
  ·simp
 ·rw [û hX]
  cases wR (fun i=>decide (el X i = 0) || kC asked (el l i)) (min l.length X.length)
  ·rfl
  ·show some ((X.length:Int) == (l.length:Int)) = some false
   congr 1
   simp
   omega
theorem aSN (n:Int) (l:List aF) (hl:l.length < 4611686018427387904):∃ b,oI n l = some b ∧ (b = true->l.length <= 9 ∧ (∀ i,i < l.length->(el l i).Rights.length <= 12) ∧ (FU l).length <= 4):=by
 unfold oI sJ
 have key:=oC? (step:=fun w=>dV n l w) (fun i:Nat=>(i:Int)) l.length (fun i=>decide ((el l i).Rights.length <= 12)) () ?_ ?_
 ·change bV (fun w=>dV n l w) 0 = _ at key
  rw [key,À]
  cases hA:wR (fun i=>decide ((el l i).Rights.length <= 12)) l.length with
  | false=>exact ⟨false,rfl,nofun⟩
  | true =>
   have hr:∀ i,i < l.length->(el l i).Rights.length <= 12:=fun i hi=>Ü (iT.1 hA i hi)
   rw [Á rfl,ņ]
   by_cases h9:l.length <= 9
   ·rw [Á (by simp; omega),aBY l h9,À]
    obtain ⟨b,hb⟩:=aPr n (l.map iD)
    rw [hb,À]
    cases b with
    | false=>exact ⟨false,rfl,nofun⟩
    | true =>
     rw [Á rfl,SU h9 hr,À]
     exact ⟨_,rfl,fun h=>⟨h9,hr,by have:=Ü h; omega⟩⟩
   ·rw [Ã (by simp; omega)]
    exact ⟨false,rfl,nofun⟩
 ·intro i hi
  show dV n l i = _
  unfold dV
  have w3:=aO (n:=i) (by omega)
  rw [Á (by simpa using hi),bA l i hi,À,w3]
  by_cases c:(el l i).Rights.length <= 12
  ·rw [Ã (by simp; omega),Á (Í c)]
  ·rw [Á (by simp; omega),Ã (by simpa using c)]
 ·show dV n l l.length = _
  unfold dV
  rw [Ã (by simp)]
theorem aC0 (hs:j5 = some true) (n:Int) (l:List aF) (asked sums:List Int) (day:Int) (hl:l.length < 4611686018427387904) (ha:asked.length < 4611686018427387904):jW n l asked sums day = some true:=by
 unfold jW
 obtain ⟨bf,hb,hf⟩:=aSN n l hl
 rw [hs,À,hb,À]
 cases bf with
 | false=>rfl
 | true =>
  obtain ⟨h9,hr,h4⟩:=hf rfl
  have hS:=GH h9 hr ha
  rw [Ã (by decide)]
  by_cases h20:asked.length > 20
  ·rw [Á (by simp; omega)]
  rw [Ã (by simp; omega)]
  by_cases h21:sums.length > 20
  ·rw [Á (by simp; omega)]
  rw [Ã (by simp; omega)]
  have key:∃ a p e x g,iK n l asked = some (a,p,e) ∧ fJ n l asked = some (a,p,e) ∧ iJ n l asked = some (x,g) ∧ gG n l asked = some (x,g) ∧ a.length <= 1000 ∧ p.length <= 1000 ∧ x.length <= 1000 ∧ ∀ s ∈ x,s.length <= 1000:=by
   cases hc:mR n l && rP asked with
   | false =>
    exact ⟨[],[],1,[],1,aMm hS hc,aIB h9 ha hc,aEs hS hc,aHK h9 ha hc,by simp,by simp,by simp,nofun⟩
   | true =>
    rw [Ø] at hc
    obtain ⟨m,X,q,y,rfl,hk,e1,b⟩:=aMA hS hc.1 hc.2
    obtain ⟨e2,h2,h3⟩:=aH8 h9 hr h4 hc.1 hc.2 hk (by omega)
    have hq:=b.best.lenQ
    have hX:=b.len
    have hn:=hk.nn
    exact ⟨X,q,0,_,0,e1,aAA hS h9 hc.1 hc.2 hk b,aKt h9 hr h4 hc.1 hc.2 hk (by omega),e2,by omega,by omega,by omega,fun s hs=>by have:=h3 s hs; omega⟩
  obtain ⟨a,p,e,x,g,e1,e2,e3,e4,l1,l2,l3,l4⟩:=key
  obtain ⟨P,e5,e6,l5,l6⟩:=aMq h9 sums day
  have hol:(FU l).length < 9223372036854775807:=by omega
  rw [e1,À,e2,À,e3,À,e4,À,e5,À,e6,À]
  dsimp only
  rw [HX a (by omega),À,Ã (by decide),HX p (by omega),À,Ã (by decide),Ã (by simp)]
  rw [aFV x (by omega) (fun s hs=>by have:=l4 s hs; omega),À,Ã (by decide),Ã (by simp)]
  rw [HX P.1 (by omega),À,Ã (by decide),Z6 P.2 (by omega),À,Ã (by decide),Á rfl]
  rw [TK _ _ (by omega),À,OU _ _ h9,À,Á (by simp),aDi h9 hr,À,SU h9 hr,À,HX _ hol,À,Á rfl]
  rw [aM4 hS,À,aKO hS,À]
  simp
end
end Go.Proofs.Ytgjcnbgfaimepaa
