/- Law 43: what the reference's Raise finds: the same sets in the same order. -/
import Derived.Test.YtgjcnbgfaimepaaPRight15
namespace Go.Proofs.Ytgjcnbgfaimepaa
open Go.RowKit Vm
set_option maxRecDepth 100000 in
theorem aQm:∀ b,b < 16->∀ k,k < 4->((((IntKind.wrap .i64 (BitVec.ofInt (IntKind.bits .i64) (((b:Nat):Int).fdiv (2 ^ (((k:Nat):Int)).toNat)) &&& BitVec.ofInt (IntKind.bits .i64) 1).toNat) == 1) = true) ↔ Nat.testBit b k = true):=by decide +kernel
set_option maxRecDepth 100000 in
theorem aSj:∀ p,p < 16->∀ b,b < 16->((((IntKind.wrap .i64 (BitVec.ofInt (IntKind.bits .i64) ((p:Nat):Int) &&& BitVec.ofInt (IntKind.bits .i64) ((b:Nat):Int)).toNat) == ((p:Nat):Int)) = true) ↔ p &&& b = p):=by decide +kernel
theorem aQx:∀ n,n <= 4->IntKind.wrap .i64 (1 * 2 ^ (((n:Nat):Int)).toNat) = ((2 ^ n:Nat):Int):=by decide +kernel
theorem aLW {n:Nat} (h:n <= 4):2 ^ n <= 16:=Ľ (n:=2) (by omega) h
theorem S7 (a b:List Int) (hl:a.length < 4611686018427387904):gS a b = some (BM a b):=by
 unfold gS BM
 by_cases e:a.length = b.length
 ·rw [Ã (by simp [e]),Á e]
  obtain ⟨x,h1,h2⟩ : ∃ x,bV (fun w=>bM a b w) 0 = some x ∧ Sum.elim (fun _=>vP a b = false) (fun z=>vP a b = z) x:=by
   refine bO (step:=fun w=>bM a b w) (fun k (_:Unit)=>(k:Int)) a.length (fun k _=>vP a b = vP (a.drop k) (b.drop k)) _ ?_ ?_ () rfl
   ·rintro k _ hk hI
    have w3:=aO (n:=k) (by omega)
    have hb:k < b.length:=by omega
    have hd:vP (a.drop k) (b.drop k) = if el a k = el b k then vP (a.drop (k + 1)) (b.drop (k + 1)) else decide (el a k < el b k):=by
     rw [Ģ hk,Ģ hb,kJ _ _ hk,kJ _ _ hb]
     rfl
    by_cases c:el a k = el b k
    ·refine .inl ⟨(),?_,?_⟩
     ·show bM a b k = _
      unfold bM
      rw [Á (by simpa using hk),bA a k hk,À,bA b k hb,À,Ã (by simp [c]),w3]
     ·rw [hI,hd,Á c]
    ·refine .inr ⟨.inr (decide (el a k < el b k)),?_,?_⟩
     ·show bM a b k = _
      unfold bM
      rw [Á (by simpa using hk),bA a k hk,À,bA b k hb,À,Á (by simpa using c),À,À]
     ·show vP a b = _
      rw [hI,hd,Ã c]
   ·rintro _ hI
    refine ⟨.inl (),?_,?_⟩
    ·show bM a b a.length = _
     unfold bM
     rw [Ã (by simp)]
    ·show vP a b = false
     rw [hI,List.drop_of_length_le (É _)]
     rfl
  unfold oJ
  rw [h1,À]
  cases x with
  | inl u=>simp only [ņ] at h2 ⊢; rw [h2]
  | inr z=>simp only [Sum.elim_inr] at h2 ⊢; rw [h2]
 ·rw [Á (by simp; omega),Ã e]
  congr 1
  rw [Ł,Ò,Ò]
  omega
theorem aFV (a:List (List Int)) (hl:a.length < 4611686018427387904) (hs:∀ x ∈ a,x.length < 4611686018427387904):fH a a = some true:=by
 unfold fH
 rw [Ã (by simp)]
 have key:=oC? (step:=fun w=>bZ a a w) (fun i:Nat=>(i:Int)) a.length (fun _=>true) () ?_ ?_
 ·refine (Ą (fun o=>Option.bind o _) key).trans ?_
  rw [iT.2 fun _ _=>rfl]
  rfl
 ·intro i hi
  show bZ a a i = _
  unfold bZ
  have w3:=aO (n:=i) (by omega)
  rw [Á (by simpa using hi),bA a i hi,À,À,S7 _ _ (hs _ (kS a i hi)),HU,À,Ã (by decide),À,À,S7 _ _ (hs _ (kS a i hi)),HU,À,Ã (by decide),w3]
  rfl
 ·show bZ a a a.length = _
  unfold bZ
  rw [Ã (by simp)]
section
variable {m:Nat} {l:List aF} {asked:List Int}
theorem aDX (O:List Int) (hO:O.length <= 4) {b:Nat} (hb:b < 16):jE O b = some (OA O b):=by
 unfold jE o9
 obtain ⟨x,h1,rfl⟩ : ∃ x,bV (fun (w:Int × List Int)=>b7 O b w.1 w.2) (0,[]) = some x ∧ x = OA O b:=by
  refine bO (step:=fun (w:Int × List Int)=>b7 O b w.1 w.2) (fun k (a:List Int)=>((k:Int),a)) O.length (fun k a=>a = fC O (W5 b k)) _ ?_ ?_ [] rfl
  ·rintro k a hk rfl
   refine .inl ⟨_,?_,rfl⟩
   show b7 O b k _ = _
   unfold b7
   have w3:=aO (n:=k) (by omega)
   have hil:=QW b k
   have e1:fC O (W5 b (k + 1)) = fC O (W5 b k) ++ if b.testBit k = true then [el O k] else []:=by
    unfold fC
    rw [show W5 b (k + 1) = W5 b k ++ if b.testBit k = true then [(k:Int)] else [] from rfl,Ă]
    congr 1
    split <;> simp
   have hbit:=aQm b hb k (by omega)
   rw [Á (by simpa using hk),Á ⟨by omega,by omega⟩,bA O k hk,À,w3,e1]
   cases c:b.testBit k with
   | true =>
    rw [Á (hbit.2 c),Á (by simp [fC]; omega),Á rfl]
   | false =>
    rw [Ã (fun q=>by rw [hbit.1 q] at c; cases c),Ã (by decide),Û]
  ·rintro a rfl
   refine ⟨_,?_,rfl⟩
   show b7 O b O.length _ = _
   unfold b7
   rw [Ã (by simp)]
   rfl
 rw [h1]
 rfl
theorem aDs (x:Int):∀ p:List Int,(vI x p).length <= p.length + 1
 | []=>by simp [vI]
 | y :: p=>by
  have:=aDs x p
  unfold vI
  split
  ·simp
  ·split
   ·simp
   ·simp; exact this
theorem aKA (h9:l.length <= 9) (hr:∀ i,i < l.length->(el l i).Rights.length <= 12) (hc:mR m l = true) (hk:D5 m (l.map iD)) (ha:rP asked = true) (hal:asked.length <= 1000) {O:List Int} (hOr:∀ x ∈ O,0 <= x ∧ x < 200) (hO:O.length <= 4) {b:Nat} (hb:b < 16) :
  kX m l asked O b = some (decide (EA m l (asked ++ OA O b) > EA m l asked)):=by
 obtain ⟨ha1,ha2⟩:=OY ha
 unfold kX oT
 obtain ⟨x,h1,h2,h3,h4⟩ : ∃ x,bV (fun (w:List Int × Int)=>bL m l asked O b w.1 w.2) (asked,0) = some x ∧ LG x ∧ x.length <= asked.length + O.length ∧ ∀ z,z ∈ x ↔ z ∈ asked ∨ z ∈ fC O (W5 b O.length):=by
  refine bO (step:=fun (w:List Int × Int)=>bL m l asked O b w.1 w.2) (fun k (a:List Int)=>(a,(k:Int))) O.length (fun k a=>LG a ∧ a.length <= asked.length + k ∧ ∀ z,z ∈ a ↔ z ∈ asked ∨ z ∈ fC O (W5 b k)) _ ?_ ?_ asked ⟨ha1,É _,fun z=>by simp [fC,W5]⟩
  ·rintro k a hk ⟨q1,q2,q3⟩
   have w3:=aO (n:=k) (by omega)
   have e1:fC O (W5 b (k + 1)) = fC O (W5 b k) ++ if b.testBit k = true then [el O k] else []:=by
    unfold fC
    rw [show W5 b (k + 1) = W5 b k ++ if b.testBit k = true then [(k:Int)] else [] from rfl,Ă]
    congr 1
    split <;> simp
   have hbit:=aQm b hb k (by omega)
   cases c:b.testBit k with
   | true =>
    have hil:=aDs (el O k) a
    refine .inl ⟨vI (el O k) a,?_,ZF q1,by omega,fun z=>?_⟩
    ·show bL m l asked O b a k = _
     unfold bL
     rw [Á (by simpa using hk),Á ⟨by omega,by omega⟩,Á (hbit.2 c),bA O k hk,À,aGD _ _ (by omega) q1,À,w3]
    ·rw [TX,q3,e1,Á c,Ê,ê]
     constructor
     ·rintro (p | p | p)
      ·exact .inr (.inr p)
      ·exact .inl p
      ·exact .inr (.inl p)
     ·rintro (p | p | p)
      ·exact .inr (.inl p)
      ·exact .inr (.inr p)
      ·exact .inl p
   | false =>
    refine .inl ⟨a,?_,q1,by omega,fun z=>?_⟩
    ·show bL m l asked O b a k = _
     unfold bL
     rw [Á (by simpa using hk),Á ⟨by omega,by omega⟩,Ã (fun q=>by rw [hbit.1 q] at c; cases c),w3]
    ·rw [q3,e1,c]
     simp
  ·rintro a hq
   refine ⟨a,?_,hq⟩
   show bL m l asked O b a O.length = _
   unfold bL
   rw [Ã (by simp)]
 have hrx:rP x = true:=aFm h2 fun z hz=>by
  rcases (h4 z).1 hz with q | q
  ·exact ha2 z q
  ·exact hOr z (aAP (aKd b O.length) z q)
 have hS:xA l asked:=GH h9 hr (by omega)
 have hSx:xA l x:=GH h9 hr (by omega)
 have hil:=QW b O.length
 have hS2:xA l (asked ++ OA O b):=GH h9 hr (by simp [OA,fC]; omega)
 rw [h1,À,aMf hSx h9 hc hrx hk,À,aMf hS h9 hc ha hk,À]
 rw [aHB hSx hS2 hk fun z=>by rw [h4,Ê]; rfl]
theorem aSZ (out:List (List Int)) (O:List Int) (g:Nat->Bool) {N b:Nat} (hN:N <= 16) (hb:b < N):∃ z,lS out b O ((List.range N).map g) (g b) 0 = some z ∧ (z = true ↔ g b = true ∧ ∀ p,p < b->p &&& b = p->g p = false):=by
 unfold lS
 refine bO (step:=fun (w:Bool × Int)=>bE out b O ((List.range N).map g) w.1 w.2) (fun k (a:Bool)=>(a,(k:Int))) b (fun k z=>z = true ↔ g b = true ∧ ∀ p,p < k->p &&& b = p->g p = false) _ ?_ ?_ (g b) ⟨fun h=>⟨h,fun p hp=>by omega⟩,fun h=>h.1⟩
 ·rintro k z hk hI
  have w3:=aO (n:=k) (by omega)
  have hand:=aSj k (by omega) b (by omega)
  have hget:((List.range N).map g)[(k:Int).toNat]? = some (g k):=by
   rw [Ä,Ç,ĉ (by omega)]; rfl
  have hlen:((List.range N).map g).length = N:=by simp
  by_cases c:k &&& b = k
  ·cases hg:g k with
   | true =>
    refine .inl ⟨false,?_,⟨nofun,fun q=>?_⟩⟩
    ·show bE out b O _ z k = _
     unfold bE
     rw [Á (by simpa using hk),Á (hand.2 c),Á ⟨by omega,by rw [hlen]; omega⟩,hget,À,hg,Á rfl,w3]
    ·have:=q.2 k (by omega) c
     rw [hg] at this
     cases this
   | false =>
    refine .inl ⟨z,?_,hI.trans ⟨fun q=>⟨q.1,fun p hp hpb=>?_⟩,fun q=>⟨q.1,fun p hp=>q.2 p (by omega)⟩⟩⟩
    ·show bE out b O _ z k = _
     unfold bE
     rw [Á (by simpa using hk),Á (hand.2 c),Á ⟨by omega,by rw [hlen]; omega⟩,hget,À,hg,Ã (by decide),w3]
    ·by_cases e:p = k
     ·rw [e]; exact hg
     ·exact q.2 p (by omega) hpb
  ·refine .inl ⟨z,?_,hI.trans ⟨fun q=>⟨q.1,fun p hp hpb=>?_⟩,fun q=>⟨q.1,fun p hp=>q.2 p (by omega)⟩⟩⟩
   ·show bE out b O _ z k = _
    unfold bE
    rw [Á (by simpa using hk),Ã (fun q=>c (hand.1 q)),w3]
   ·by_cases e:p = k
    ·rw [e] at hpb; exact absurd hpb c
    ·exact q.2 p (by omega) hpb
 ·rintro z hI
  refine ⟨z,?_,hI⟩
  show bE out b O _ z b = _
  unfold bE
  rw [Ã (by simp)]
structure aSS (s:List Int) (out:List (List Int)) (k:Nat) (a:Bool × List (List Int)):Prop where
 len:a.2.length <= k + 1
 no:a.1 = false->a.2 = out.take k ∧ ∀ x ∈ out.take k,BM s x = false
 yes:a.1 = true->∃ p q,out.take k = p ++ q ∧ a.2 = p ++ s :: q ∧ (∀ x ∈ p,BM s x = false) ∧ ∃ y,q.head? = some y ∧ BM s y = true
theorem aMW (out:List (List Int)) (b:Int) (O:List Int) (good:List Bool) (s:List Int) (hs:s.length < 4611686018427387904) (ho:out.length <= 1000):∃ a,jT out b O good s false 0 [] = some a ∧ aSS s out out.length a:=by
 unfold jT
 refine bO (step:=fun (w:Bool × Int × List (List Int))=>bG out b O good s w.1 w.2.1 w.2.2) (fun k (a:Bool × List (List Int))=>(a.1,(k:Int),a.2)) out.length (fun k a=>aSS s out k a) _ ?_ ?_ (false,[]) ⟨by simp,fun _=>⟨rfl,fun x hx=>by cases hx⟩,fun h=>by cases h⟩
 ·rintro k ⟨d,nx⟩ hk hI
  have w3:=aO (n:=k) (by omega)
  have htk:out.take (k + 1) = out.take k ++ [el out k]:=by rw [ã hk,kJ _ _ hk]
  have hj:∀ (z:Bool) (q:List (List Int)),q.length <= k + 2->gY out b k O good s z q = some (q ++ [el out k]):=fun z q hq=>by
   unfold gY
   rw [bA out k hk,À,Á (by omega)]
  have hnl:=hI.len
  simp only at hnl
  cases d with
  | false =>
   obtain ⟨e,hno⟩:=hI.no rfl
   simp only at e
   subst e
   have htl:(out.take k).length <= k:=by rw [ç]; omega
   cases c:BM s (el out k) with
   | true =>
    refine .inl ⟨(true,(out.take k ++ [s]) ++ [el out k]),?_,⟨by simp; omega,nofun,fun _=>⟨out.take k,[el out k],htk,by simp,hno,el out k,rfl,c⟩⟩⟩
    show bG out b O good s false k (out.take k) = _
    unfold bG
    rw [Á (by simpa using hk),Á (by decide),bA out k hk,À,S7 _ _ hs,c,À,Á rfl,Á (by omega),hj _ _ (by simp; omega),À,w3]
   | false =>
    refine .inl ⟨(false,out.take k ++ [el out k]),?_,⟨by simp; omega,fun _=>⟨htk.symm,fun x hx=>?_⟩,fun h=>by cases h⟩⟩
    ·show bG out b O good s false k (out.take k) = _
     unfold bG
     rw [Á (by simpa using hk),Á (by decide),bA out k hk,À,S7 _ _ hs,c,À,Ã (by decide),hj _ _ (by omega),À,w3]
    ·rw [htk] at hx
     rcases Ê.1 hx with q | q
     ·exact hno x q
     ·have:x = el out k:=by simpa using q
      rw [this]; exact c
  | true =>
   obtain ⟨p,q,e1,e2,h3,y,h4,h5⟩:=hI.yes rfl
   simp only at e2
   refine .inl ⟨(true,nx ++ [el out k]),?_,⟨by simp; omega,nofun,fun _=>⟨p,q ++ [el out k],by rw [htk,e1]; simp,by rw [e2]; simp,h3,y,by rw [List.head?_append,h4]; rfl,h5⟩⟩⟩
   show bG out b O good s true k nx = _
   unfold bG
   rw [Á (by simpa using hk),Ã (by decide),hj _ _ (by omega),À,w3]
 ·rintro ⟨d,nx⟩ hI
  refine ⟨(d,nx),?_,hI⟩
  show bG out b O good s d out.length nx = _
  unfold bG
  rw [Ã (by simp)]
structure aSX (m:Nat) (l:List aF) (asked O:List Int) (k:Nat) (out:List (List Int)):Prop where
 len:out.length <= k
 sorted:out.Pairwise fun a b=>BM a b = true
 mem:∀ d,d ∈ out ↔ ∃ b,b < k ∧ OA O b = d ∧ aBk m l asked O b
theorem aMU {O:List Int} (hO:LG O) {p b:Nat} (hp:p < 2 ^ O.length) (hb:b < 2 ^ O.length) (h:OA O p = OA O b):p = b:=by
 have h1:=(UI hO (b:=b) hp).1 (by rw [h]; exact fun x hx=>hx)
 have h2:=(UI hO (b:=p) hb).1 (by rw [h]; exact fun x hx=>hx)
 rw [Nat.and_comm] at h2
 omega
theorem aRM {O:List Int} (hO:LG O) (hOl:O.length <= 4) (g:Nat->Bool) (hg:∀ b,b < 2 ^ O.length->(g b = true ↔ EA m l (asked ++ OA O b) > EA m l asked)) :
  ∃ out,lJ O ((List.range (2 ^ O.length)).map g) [] 0 = some out ∧ aSX m l asked O (2 ^ O.length) out:=by
 have hN:=aLW hOl
 unfold lJ
 refine bO (step:=fun (w:List (List Int) × Int)=>dS O ((List.range (2 ^ O.length)).map g) w.1 w.2) (fun k (a:List (List Int))=>(a,(k:Int))) (2 ^ O.length) (fun k a=>aSX m l asked O k a) _ ?_ ?_ [] ⟨by simp,List.Pairwise.nil,fun d=>⟨nofun,fun ⟨b,h,_⟩=>by omega⟩⟩
 ·rintro k out hk hI
  have w3:=aO (n:=k) (by omega)
  have hlen:((List.range (2 ^ O.length)).map g).length = 2 ^ O.length:=by simp
  have hget:((List.range (2 ^ O.length)).map g)[(k:Int).toNat]? = some (g k):=by
   rw [Ä,Ç,ĉ hk]; rfl
  obtain ⟨z,e1,hz⟩:=aSZ out O g hN hk
  have hzl:z = true ↔ aBk m l asked O k:=by
   rw [hz,hg k hk]
   unfold aBk
   constructor
   ·rintro ⟨q1,q2⟩
    refine ⟨q1,fun p hp hpb hr=>?_⟩
    have:=q2 p hp hpb
    rw [(hg p (by omega)).2 hr] at this
    cases this
   ·rintro ⟨q1,q2⟩
    refine ⟨q1,fun p hp hpb=>?_⟩
    cases c:g p with
    | false=>rfl
    | true=>exact absurd ((hg p (by omega)).1 c) (q2 p hp hpb)
  have hol:=hI.len
  have head:∀ X,dS O ((List.range (2 ^ O.length)).map g) out k = X ↔ (if z = true then
    (jE O k).bind fun (r24:(List Int)) =>
    (jT out k O ((List.range (2 ^ O.length)).map g) r24 false 0 []).bind fun (r39:Bool × (List (List Int))) =>
    if (!(r39.1)) = true then
     if (r39.2.length + 1) * 24 <= 140737488355328 then
      some (.inl (r39.2 ++ [r24],IntKind.wrap .i64 ((k:Int) + 1)))
     else none
    else
     some (.inl (r39.2,IntKind.wrap .i64 ((k:Int) + 1)))
   else
    some (.inl (out,IntKind.wrap .i64 ((k:Int) + 1)))) = X:=fun X=>by
   unfold dS
   rw [Á (Í (by rw [hlen]; exact Int.ofNat_lt.2 hk)),Á ⟨by omega,by rw [hlen]; omega⟩,hget,À,e1,À]
  cases z with
  | false =>
   refine .inl ⟨out,(head _).2 ?_,⟨by omega,hI.sorted,fun d=>(hI.mem d).trans ⟨fun ⟨b,h1,h2⟩=>⟨b,by omega,h2⟩,fun ⟨b,h1,h2,h3⟩=>⟨b,?_,h2,h3⟩⟩⟩⟩
   ·rw [Ã (by decide),w3]
   ·by_cases e:b = k
    ·rw [e] at h3
     cases hzl.2 h3
    ·omega
  | true =>
   have hL:=hzl.1 rfl
   have hil:=QW k O.length
   have hcl:(OA O k).length <= 4:=by simp [OA,fC]; omega
   have hnin:OA O k ∉ out:=fun h=>by
    obtain ⟨b,h1,h2,_⟩:=(hI.mem _).1 h
    have:=aMU hO (by omega) hk h2
    omega
   have hmem:∀ (out' : List (List Int)),(∀ d,d ∈ out' ↔ d = OA O k ∨ d ∈ out)->∀ d,d ∈ out' ↔ ∃ b,b < k + 1 ∧ OA O b = d ∧ aBk m l asked O b:=fun out' h d=>by
    rw [h,hI.mem]
    constructor
    ·rintro (q | ⟨b,h1,h2⟩)
     ·exact ⟨k,by omega,q.symm,hL⟩
     ·exact ⟨b,by omega,h2⟩
    ·rintro ⟨b,h1,h2,h3⟩
     by_cases e:b = k
     ·rw [e] at h2; exact .inl h2.symm
     ·exact .inr ⟨b,by omega,h2,h3⟩
   obtain ⟨⟨d,nx⟩,e2,hP⟩:=aMW out k O ((List.range (2 ^ O.length)).map g) (OA O k) (by omega) (by omega)
   have hpl:=hP.len
   simp only at hpl
   cases d with
   | false =>
    obtain ⟨e3,hno⟩:=hP.no rfl
    rw [ì] at e3 hno
    simp only at e3
    subst e3
    refine .inl ⟨nx ++ [OA O k],(head _).2 ?_,⟨by simp; omega,?_,hmem _ fun d=>by rw [Ê,ê]; exact Or.comm⟩⟩
    ·rw [Á rfl,aDX O hOl (by omega),À,e2,À]
     simp only
     rw [Á (by decide),Á (by omega),w3]
    ·exact ZJ (p:=nx) (q:=[]) (by rw [Û]; exact hI.sorted) (by rw [Û]; exact hnin) hno (fun y h=>by cases h)
   | true =>
    obtain ⟨p,q,e3,e4,h3,y,h4,h5⟩:=hP.yes rfl
    rw [ì] at e3
    simp only at e4
    subst e4
    refine .inl ⟨p ++ OA O k :: q,(head _).2 ?_,⟨?_,?_,hmem _ fun d=>?_⟩⟩
    ·rw [Á rfl,aDX O hOl (by omega),À,e2,À]
     simp only
     rw [Ã (by decide),w3]
    ·rw [e3] at hol
     simp at hol ⊢
     omega
    ·exact ZJ (e3 ▸ hI.sorted) (e3 ▸ hnin) h3 (fun y' h=>by rw [h4] at h; cases h; exact h5)
    ·rw [e3,Ê,Ê,Ô]
     constructor
     ·rintro (h | h | h)
      ·exact .inr (.inl h)
      ·exact .inl h
      ·exact .inr (.inr h)
     ·rintro (h | h | h)
      ·exact .inr (.inl h)
      ·exact .inl h
      ·exact .inr (.inr h)
 ·rintro out hI
  refine ⟨out,?_,hI⟩
  show dS O ((List.range (2 ^ O.length)).map g) out ((2 ^ O.length:Nat):Int) = _
  unfold dS
  rw [Ã (by simp)]
theorem aEs {n:Int} (h:xA l asked) (hc:(mR n l && rP asked) = false):iJ n l asked = some ([],1):=by
 unfold iJ
 have:=h.len
 rw [TK _ _ (by omega),À]
 cases h1:mR n l with
 | false=>rfl
 | true =>
  rw [h1] at hc
  simp only [ķ] at hc
  rw [Ã (by decide),TD _ h.asked,hc]
  rfl
theorem aHK {n:Int} (h9:l.length <= 9) (ha:asked.length < 4611686018427387904) (hc:(mR n l && rP asked) = false):gG n l asked = some ([],1):=by
 unfold gG
 rw [OU n l h9,À]
 cases h1:mR n l with
 | false=>rfl
 | true =>
  rw [h1] at hc
  simp only [ķ] at hc
  rw [Ã (by decide),QP _ ha,hc]
  rfl
theorem aRE (n:Int) (O:List Int) (ha:asked.length < 4611686018427387904) (hO:O.length <= 1000):lW n l asked O 0 [] = some (oth O asked):=by
 unfold lW
 obtain ⟨x,h1,rfl⟩ : ∃ x,bV (fun (w:Int × List Int)=>cN n l asked O w.1 w.2) (0,[]) = some x ∧ x = oth O asked:=by
  refine bO (step:=fun (w:Int × List Int)=>cN n l asked O w.1 w.2) (fun k (a:List Int)=>((k:Int),a)) O.length (fun k a=>a = (O.take k).filter fun x=>!(asked.contains x)) _ ?_ ?_ [] (by simp)
  ·rintro k a hk rfl
   refine .inl ⟨_,?_,rfl⟩
   show cN n l asked O k ((O.take k).filter fun x=>!(asked.contains x)) = _
   unfold cN
   have w3:=aO (n:=k) (by omega)
   have hfl:((O.take k).filter fun x=>!(asked.contains x)).length <= k:=ñ (Ę _ _) (by rw [ç]; omega)
   rw [Á (by simpa using hk),bA O k hk,À,aEX _ _ ha,À,w3,ã hk,İ,← kJ _ _ hk]
   cases c:asked.contains (el O k) with
   | true =>
    rw [Ã (by decide),Ŧ,ĵ,c]
    simp
   | false =>
    rw [Á (by decide),À,Á (by omega),Ŧ,ĵ,c]
    simp
  ·rintro a rfl
   refine ⟨_,?_,rfl⟩
   show cN n l asked O O.length _ = _
   unfold cN
   rw [Ã (by simp),ì]
   rfl
 exact h1
theorem aH8 (h9:l.length <= 9) (hr:∀ i,i < l.length->(el l i).Rights.length <= 12) (h4:(FU l).length <= 4) (hc:mR m l = true) (ha:rP asked = true) (hk:D5 m (l.map iD)) (hal:asked.length <= 1000) :
  gG m l asked = some (xZ m l asked (oth (FU l) asked) (EA m l asked) (oth (FU l) asked).length,0) ∧ (xZ m l asked (oth (FU l) asked) (EA m l asked) (oth (FU l) asked).length).length <= 16 ∧ ∀ d ∈ xZ m l asked (oth (FU l) asked) (EA m l asked) (oth (FU l) asked).length,d.length <= 4:=by
 unfold gG
 rw [OU _ l h9,hc,À,Ã (by decide),QP _ (by omega),ha,À,Ã (by decide),SU h9 hr,À,aRE _ _ (by omega) (by omega),À]
 generalize hO:oth (FU l) asked = O
 have hOa:LG O:=by rw [← hO]; exact aKX.sublist List.filter_sublist
 have hOl:O.length <= 4:=by rw [← hO]; exact ñ (Ę _ _) h4
 have hOr:∀ x ∈ O,0 <= x ∧ x < 200:=fun x hx=>by
  rw [← hO] at hx
  exact aKS hc (ă.1 hx).1
 have hN:=aLW hOl
 rw [Ã (by simp; omega)]
 have k2:lK m l asked O 0 [] = some ((List.range (2 ^ O.length)).map fun b=>decide (EA m l (asked ++ OA O b) > EA m l asked)):=by
  unfold lK
  obtain ⟨x,h1,rfl⟩ : ∃ x,bV (fun (w:Int × List Bool)=>cQ m l asked O w.1 w.2) (0,[]) = some x ∧ x = (List.range (2 ^ O.length)).map fun b=>decide (EA m l (asked ++ OA O b) > EA m l asked):=by
   refine bO (step:=fun (w:Int × List Bool)=>cQ m l asked O w.1 w.2) (fun k (a:List Bool)=>((k:Int),a)) (2 ^ O.length) (fun k a=>a = (List.range k).map fun b=>decide (EA m l (asked ++ OA O b) > EA m l asked)) _ ?_ ?_ [] rfl
   ·rintro k a hk' rfl
    refine .inl ⟨_,?_,rfl⟩
    show cQ m l asked O k _ = _
    unfold cQ
    have w3:=aO (n:=k) (by omega)
    rw [Á ⟨by omega,by omega⟩,aQx _ hOl,Á (Í (Int.ofNat_lt.2 hk')),aKA h9 hr hc hk ha hal hOr hOl (by omega),À,Á (by simp; omega),w3,Ĉ,Ă]
    rfl
   ·rintro a rfl
    refine ⟨_,?_,rfl⟩
    show cQ m l asked O ((2 ^ O.length:Nat):Int) _ = _
    unfold cQ
    rw [Á ⟨by omega,by omega⟩,aQx _ hOl,Ã (by simp)]
  exact h1
 obtain ⟨out,e1,hI⟩:=aRM (m:=m) (l:=l) (asked:=asked) hOa hOl (fun b=>decide (EA m l (asked ++ OA O b) > EA m l asked)) (fun b _=>decide_eq_true_iff)
 rw [k2,À,e1,À]
 have hsh:∀ z:List Int,z.length <= 100->xA l (asked ++ z):=fun z hz=>GH h9 hr (by rw [ß]; omega)
 have he:=XK hI.sorted (aBN (m:=m) (l:=l) (asked:=asked) hOa (EA m l asked) O.length) fun d=>by rw [hI.mem,aD5 hk hsh hOa (by omega)]
 have hol:=hI.len
 refine ⟨by rw [he],by rw [← he]; omega,fun d hd=>?_⟩
 have:=(LJ hk hsh hOa (by omega) hd).len
 omega
end
end Go.Proofs.Ytgjcnbgfaimepaa
