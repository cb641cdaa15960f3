/- Law 43: the reference's Check, Right, Free, Clear, and its total. -/
import Derived.Test.YtgjcnbgfaimepaaPRb
import Derived.Test.YtgjcnbgfaimepaaPRf
namespace Go.Proofs.Ytgjcnbgfaimepaa
open Go.RowKit Vm
section
variable {l:List aF} {asked:List Int}
theorem aNo (l:List aF) (p3:Int) (d:aF) (hr:d.Rights.length <= 8):lI l p3 d 0 = some (if d.Rights.all rOk = true then .inl () else .inr ()):=by
 unfold lI
 rw [RN]
 refine oC? (step:=fun w=>dR l p3 d w) (fun i:Nat=>(i:Int)) d.Rights.length (fun i=>rOk (el d.Rights i)) () ?_ ?_
 ·intro i hi
  show dR l p3 d i = _
  unfold dR
  have w3:=aO (n:=i) (by omega)
  rw [Á (by simpa using hi),bA d.Rights i hi,À,w3]
  generalize el d.Rights i = r
  have hiff:rOk r = true ↔ (0 <= r.Kind ∧ r.Kind < 4) ∧ 0 <= r.Owner ∧ r.Owner < 200:=by
   unfold rOk
   rw [Ø,Ò,Ò]
  by_cases h1:r.Kind < 0
  ·rw [Á (by simpa using h1),Ã (fun q=>by have:=hiff.1 q; omega)]
  rw [Ã (by simpa using h1)]
  by_cases h2:r.Kind ≥ 4
  ·rw [Á (by simpa using h2),Ã (fun q=>by have:=hiff.1 q; omega)]
  rw [Ã (by simpa using h2)]
  by_cases h3:r.Owner < 0
  ·rw [Á (by simpa using h3),Ã (fun q=>by have:=hiff.1 q; omega)]
  rw [Ã (by simpa using h3)]
  by_cases h4:r.Owner ≥ 200
  ·rw [Á (by simpa using h4),Ã (fun q=>by have:=hiff.1 q; omega)]
  rw [Ã (by simpa using h4),Á (hiff.2 (by omega))]
 ·show dR l p3 d d.Rights.length = _
  unfold dR
  rw [Ã (by simp)]
theorem OU (n:Int) (l:List aF) (h9:l.length <= 9):iL n l = some (if mR n l = true then 0 else 1):=by
 unfold iL mR
 rw [aBY l h9,À,aDu,À]
 have k2:lP l 0 = some (if l.all F9 = true then .inl () else .inr ()):=by
  unfold lP
  rw [RN]
  refine oC? (step:=fun w=>dX l w) (fun i:Nat=>(i:Int)) l.length (fun i=>F9 (el l i)) () ?_ ?_
  ·intro i hi
   show dX l i = _
   unfold dX
   have w3:=aO (n:=i) (by omega)
   rw [Á (by simpa using hi),bA l i hi,À,w3]
   generalize el l i = d
   have hiff:F9 d = true ↔ (0 <= d.File ∧ d.File < 50) ∧ (0 <= d.Part ∧ d.Part < 4) ∧ (0 <= d.Sign ∧ d.Sign < 40) ∧ d.Rights.length <= 8 ∧ d.Rights.all rOk = true:=by
    unfold F9
    rw [Ø,Ø,Ø,Ø,Ò,Ò,Ò,Ò]
    constructor
    ·rintro ⟨⟨⟨⟨a,b⟩,c⟩,d⟩,e⟩; exact ⟨a,b,c,d,e⟩
    ·rintro ⟨a,b,c,d,e⟩; exact ⟨⟨⟨⟨a,b⟩,c⟩,d⟩,e⟩
   by_cases h1:d.File < 0
   ·rw [Á (by simpa using h1),Ã (fun q=>by have:=hiff.1 q; omega)]
   rw [Ã (by simpa using h1)]
   by_cases h2:d.File ≥ 50
   ·rw [Á (by simpa using h2),Ã (fun q=>by have:=hiff.1 q; omega)]
   rw [Ã (by simpa using h2)]
   by_cases h3:d.Part < 0
   ·rw [Á (by simpa using h3),Ã (fun q=>by have:=hiff.1 q; omega)]
   rw [Ã (by simpa using h3)]
   by_cases h4:d.Part ≥ 4
   ·rw [Á (by simpa using h4),Ã (fun q=>by have:=hiff.1 q; omega)]
   rw [Ã (by simpa using h4)]
   by_cases h5:d.Sign < 0
   ·rw [Á (by simpa using h5),Ã (fun q=>by have:=hiff.1 q; omega)]
   rw [Ã (by simpa using h5)]
   by_cases h6:d.Sign ≥ 40
   ·rw [Á (by simpa using h6),Ã (fun q=>by have:=hiff.1 q; omega)]
   rw [Ã (by simpa using h6)]
   by_cases h7:d.Rights.length <= 8
   ·rw [Ã (show ¬ decide ((d.Rights.length:Int) > 8) = true by simp; omega),aNo l i d h7,À]
    by_cases h8:d.Rights.all rOk = true
    ·rw [Á h8,Á (hiff.2 ⟨by omega,by omega,by omega,h7,h8⟩)]
     rfl
    ·rw [Ã h8,Ã (fun q=>h8 (hiff.1 q).2.2.2.2)]
     rfl
   ·rw [Á (show decide ((d.Rights.length:Int) > 8) = true by simp; omega),Ã (fun q=>h7 (hiff.1 q).2.2.2.1)]
  ·show dX l l.length = _
   unfold dX
   rw [Ã (by simp)]
 cases hR:LZ n (l.map iD) with
 | false =>
  rw [Bool.and_false]
  rfl
 | true =>
  rw [Ã (by decide),k2,À,Bool.and_true]
  cases l.all F9 <;> rfl
theorem QP (a:List Int) (hl:a.length < 4611686018427387904):j0 a = some (rP a):=by
 unfold j0 qH
 have key:=oC? (step:=fun w=>dZ a w) (fun i:Nat=>(i:Int)) a.length (fun i=>decide ((0 <= el a i ∧ el a i < 200) ∧ (0 < i->el a (i - 1) < el a i))) () ?_ ?_
 ·refine (Ą (fun o=>Option.bind o _) key).trans ?_
  have he:wR (fun i=>decide ((0 <= el a i ∧ el a i < 200) ∧ (0 < i->el a (i - 1) < el a i))) a.length = rP a:=by
   rw [Ł,iT]
   constructor
   ·intro h
    unfold rP
    refine iT.2 fun i hi=>Í ?_
    have:=Ü (h i hi)
    by_cases c:i = 0
    ·rw [Á c]; omega
    ·rw [Ã c]
     exact ⟨this.2 (by omega),this.1.2⟩
   ·intro h i hi
    have h1:=(OY h).2 _ (kS a i hi)
    refine Í ⟨h1,fun hp=>?_⟩
    have:=æ.1 (OY h).1 (i - 1) i (by omega) hi (by omega)
    rwa [← kJ _ _ (by omega),← kJ _ _ hi] at this
  rw [À,he]
  cases rP a <;> rfl
 ·intro i hi
  show dZ a i = _
  unfold dZ
  have w3:=aO (n:=i) (by omega)
  rw [Á (by simpa using hi),bA a i hi,À,w3]
  by_cases h1:el a i < 0
  ·rw [Á (by simpa using h1),Ã (fun q=>by have:=Ü q; omega)]
  rw [Ã (by simpa using h1),À]
  by_cases h2:el a i ≥ 200
  ·rw [Á (by simpa using h2),Ã (fun q=>by have:=Ü q; omega)]
  rw [Ã (by simpa using h2)]
  by_cases h3:0 < i
  ·have w4:IntKind.wrap .i64 ((i:Int) - 1) = ((i - 1:Nat):Int):=by rw [gL (by omega) (by omega)]; omega
   rw [Á (show decide ((i:Int) > 0) = true by simp; omega),w4,bA a (i - 1) (by omega),À,À]
   by_cases h4:el a (i - 1) ≥ el a i
   ·rw [Á (by simpa using h4),Ã (fun q=>by have:=(Ü q).2 h3; omega)]
   ·rw [Ã (by simpa using h4),Á (Í ⟨by omega,fun _=>by omega⟩)]
  ·rw [Ã (show ¬ decide ((i:Int) > 0) = true by simp; omega),Á (Í ⟨by omega,fun q=>absurd q h3⟩)]
 ·show dZ a a.length = _
  unfold dZ
  rw [Ã (by simp)]
theorem aBG (d:aF) (asked:List Int) (hl:asked.length < 4611686018427387904) (hr:d.Rights.length < 4611686018427387904):jD d asked = some (kC asked d):=by
 unfold jD rE
 have key:=oC? (step:=fun w=>eJ d asked w) (fun i:Nat=>(i:Int)) d.Rights.length (fun i=>asked.contains (el d.Rights i).Owner) () ?_ ?_
 ·refine (Ą (fun o=>Option.bind o _) key).trans ?_
  rw [À]
  unfold kC
  rw [RN]
  cases wR (fun i=>asked.contains (el d.Rights i).Owner) d.Rights.length <;> rfl
 ·intro i hi
  show eJ d asked i = _
  unfold eJ
  have w3:=aO (n:=i) (by omega)
  rw [Á (by simpa using hi),bA d.Rights i hi,À,aEX _ _ hl,À,w3]
  cases asked.contains (el d.Rights i).Owner <;> rfl
 ·show eJ d asked d.Rights.length = _
  unfold eJ
  rw [Ã (by simp)]
theorem aDx (k:Nat):vJ asked l (k + 1) = vJ asked l k ++ if kC asked (el l k) = true then [k] else []:=rfl
theorem aHT (n:Int) (h:xA l asked):lR n l asked 0 [] = some ((vJ asked l l.length).map fun k=>el l k):=by
 unfold lR
 have hlen:=h.len
 obtain ⟨x,h1,rfl⟩ : ∃ x,bV (fun (w:Int × List aF)=>cR n l asked w.1 w.2) (0,[]) = some x ∧ x = (vJ asked l l.length).map fun k=>el l k:=by
  refine bO (step:=fun (w:Int × List aF)=>cR n l asked w.1 w.2) (fun k (a:List aF)=>((k:Int),a)) l.length (fun k a=>a = (vJ asked l k).map fun k=>el l k) _ ?_ ?_ [] rfl
  ·rintro k a hk rfl
   refine .inl ⟨_,?_,rfl⟩
   show cR n l asked k _ = _
   unfold cR
   have w3:=aO (n:=k) (by omega)
   have hfl:=LY (asked:=asked) (l:=l) k
   rw [Á (by simpa using hk),bA l k hk,À,aBG _ _ h.asked (by have:=h.rights k hk; omega),À,w3,aDx]
   cases hf:kC asked (el l k) with
   | true =>
    rw [Á rfl,À,Á (by simp; omega)]
    simp
   | false=>simp
  ·rintro a rfl
   refine ⟨_,?_,rfl⟩
   show cR n l asked l.length _ = _
   unfold cR
   rw [Ã (by simp)]
 exact h1
theorem aIB {n:Int} (h9:l.length <= 9) (ha:asked.length < 4611686018427387904) (hc:(mR n l && rP asked) = false):fJ n l asked = some ([],[],1):=by
 unfold fJ
 rw [OU n l h9,À]
 cases h1:mR n l with
 | false=>rfl
 | true =>
  rw [h1] at hc
  simp only [ķ] at hc
  rw [Ã (by decide),QP _ ha,hc]
  rfl
theorem aAA {m:Nat} (h:xA l asked) (h9:l.length <= 9) (hc:mR m l = true) (hr:rP asked = true) (hk:D5 m (l.map iD)) {X q y:List Int} (b:yD m l asked X q y):fJ m l asked = some (X,q,0):=by
 obtain ⟨y',q',e1,b'⟩:=aOl (aBC (asked:=asked) hk)
 obtain ⟨rfl,rfl⟩:=b.best.one (aBC (asked:=asked) hk) b'
 have hfl:=LY (asked:=asked) (l:=l) l.length
 unfold fJ
 rw [OU _ l h9,hc,À,Ã (by decide),QP _ h.asked,hr,À,Ã (by decide),aHT _ h,À,aBY _ (by simp; omega),À]
 rw [show ((vJ asked l l.length).map fun k=>el l k).map iD = uZ asked l by unfold uZ; rw [List.map_map]; rfl,e1,À]
 have k2:lO l asked (y,q,0) 0 0 [] = some X:=by
  unfold lO
  obtain ⟨x,h1,rfl⟩ : ∃ x,bV (fun (w:Int × Int × List Int)=>cO l asked (y,q,0) w.1 w.2.1 w.2.2) (0,0,[]) = some x ∧ x = X:=by
   refine bO (step:=fun (w:Int × Int × List Int)=>cO l asked (y,q,0) w.1 w.2.1 w.2.2) (fun k (a:Int × List Int)=>(a.1,(k:Int),a.2)) l.length (fun k a=>a = (((vJ asked l k).length:Int),X.take k)) _ ?_ ?_ (0,[]) rfl
   ·rintro k a hk rfl
    refine .inl ⟨_,?_,rfl⟩
    show cO l asked (y,q,0) ((vJ asked l k).length:Int) k (X.take k) = _
    unfold cO
    have w3:=aO (n:=k) (by omega)
    have hkl:=LY (asked:=asked) (l:=l) k
    have w4:IntKind.wrap .i64 (((vJ asked l k).length:Int) + 1) = (((vJ asked l k).length + 1:Nat):Int):=aO (by omega)
    have hXl:=b.len
    have htk:X.take (k + 1) = X.take k ++ [el X k]:=by rw [ã (by omega),kJ _ _ (by omega)]
    rw [Á (by simpa using hk),bA l k hk,À,aBG _ _ h.asked (by have:=h.rights k hk; omega),À,w3,aDx,htk]
    cases hf:kC asked (el l k) with
    | true =>
     have hyl:=b.ylen
     have hlt:=(YM hk hf).1
     rw [Á rfl,Á rfl]
     dsimp only
     rw [bA y _ (by omega),À,Á (by simp; omega),w4,b.val hk hf]
     simp
    | false =>
     rw [Ã (by decide),Á (by simp; omega),b.off k hk hf]
     simp
   ·rintro a rfl
    refine ⟨X.take l.length,?_,by rw [← b.len,ì]⟩
    show cO l asked (y,q,0) _ l.length (X.take l.length) = _
    unfold cO
    rw [Ã (by simp)]
  exact h1
 rw [k2]
 rfl
theorem aMf {m:Nat} (h:xA l asked) (h9:l.length <= 9) (hc:mR m l = true) (hr:rP asked = true) (hk:D5 m (l.map iD)):j6 m l asked = some (EA m l asked):=by
 obtain ⟨X,q,y,_,b,e,_⟩:=ZM h hk
 unfold j6
 rw [aAA h h9 hc hr hk b,À,aKM,À,e]
end
end Go.Proofs.Ytgjcnbgfaimepaa
