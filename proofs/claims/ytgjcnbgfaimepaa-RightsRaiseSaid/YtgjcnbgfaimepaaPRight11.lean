/- Law 43: what Raise finds. -/
import Derived.Test.YtgjcnbgfaimepaaPRight10
set_option linter.unusedVariables false
set_option linter.unusedSimpArgs false
namespace Go.Proofs.Ytgjcnbgfaimepaa
open Go.RowKit Vm
section
variable {n:Int} {l:List aE} {asked:List Int}
theorem aSU (p14:List Int) (p17 p19:List (List Int)) (p18 p20 r16:Int) (S:List Int) (st:Nat) (p26:List (List Int)) (hN:p14.length <= 100) (hst:st <= p14.length) (hS:S.length <= 100) (hp:p26.length <= 100000) :
  oV n l asked p14 p17 p18 p19 p20 r16 S st p26 = some (p26 ++ (List.range' st (p14.length - st)).map fun (t:Nat)=>S ++ [(t:Int)]):=by
 unfold oV
 have key:∃ x,dK (fun (w:Int × List (List Int))=>dV n l asked p14 p17 p18 p19 p20 r16 S w.1 w.2) (((st + 0:Nat):Int),p26) = some x ∧ x = p26 ++ (List.range' st (p14.length - st)).map fun (t:Nat)=>S ++ [(t:Int)]:=by
  refine eQ (step:=fun (w:Int × List (List Int))=>dV n l asked p14 p17 p18 p19 p20 r16 S w.1 w.2) (fun k (a:List (List Int))=>(((st + k:Nat):Int),a)) (p14.length - st) (fun k a=>a = p26 ++ (List.range' st k).map fun (t:Nat)=>S ++ [(t:Int)]) _ ?_ ?_ p26 (by simp)
  ·rintro k a hk rfl
   refine .inl ⟨_,?_,rfl⟩
   show dV n l asked p14 p17 p18 p19 p20 r16 S ((st + k:Nat):Int) _ = _
   unfold dV eG
   have w3:IntKind.wrap .i64 (((st + k:Nat):Int) + 1) = ((st + (k + 1):Nat):Int):=by rw [bC (by omega)]; rfl
   rw [if_pos (by simp; omega),if_pos (by omega),Option.bind_some,if_pos (by omega),if_pos (by simp; omega),w3,List.range'_1_concat]
   simp
  ·rintro a rfl
   refine ⟨_,?_,rfl⟩
   show dV n l asked p14 p17 p18 p19 p20 r16 S ((st + (p14.length - st):Nat):Int) _ = _
   unfold dV
   rw [if_neg (by simp; omega)]
 obtain ⟨x,h1,rfl⟩:=key
 exact h1
theorem aTQ (p14:List Int) (p17 p19:List (List Int)) (p18 r16:Int) (hN:p14.length <= 100) (hI:∀ s ∈ p17,Ix p14.length s ∧ s.length <= 100) (hl:p17.length <= 300) :
  oP n l asked p14 p17 p18 p19 r16 0 [] = some (p17.flatMap (BZ p14.length)):=by
 unfold oP
 have hfl:∀ k,((p17.take k).flatMap (BZ p14.length)).length <= k * 100:=by
  have:∀ p:List (List Int),(p.flatMap (BZ p14.length)).length <= p.length * 100:=by
   intro p
   induction p with
   | nil=>simp
   | cons x p ih =>
    rw [List.flatMap_cons,List.length_append,List.length_cons,Nat.add_mul,Nat.one_mul]
    have:(BZ p14.length x).length <= 100:=by simp [BZ]; omega
    omega
  intro k
  refine Nat.le_trans (this _) (Nat.mul_le_mul_right _ ?_)
  rw [List.length_take]; omega
 have key:∃ x,dK (fun (w:Int × List (List Int))=>dZ n l asked p14 p17 p18 p19 r16 w.1 w.2) (0,[]) = some x ∧ x = p17.flatMap (BZ p14.length):=by
  refine eQ (step:=fun (w:Int × List (List Int))=>dZ n l asked p14 p17 p18 p19 r16 w.1 w.2) (fun k (a:List (List Int))=>((k:Int),a)) p17.length (fun k a=>a = (p17.take k).flatMap (BZ p14.length)) _ ?_ ?_ [] (by simp)
  ·rintro k a hk rfl
   refine .inl ⟨_,?_,rfl⟩
   show dZ n l asked p14 p17 p18 p19 r16 k _ = _
   unfold dZ
   have w3:IntKind.wrap .i64 ((k:Int) + 1) = ((k + 1:Nat):Int):=bC (by omega)
   obtain ⟨hix,hsl⟩:=hI _ (mF p17 k hk)
   have hst:=hix.st
   have hfk:=hfl k
   rw [if_pos (by simpa using hk),bU p17 k hk,Option.bind_some,w3]
   have htk:(p17.take (k + 1)).flatMap (BZ p14.length) = (p17.take k).flatMap (BZ p14.length) ++ BZ p14.length (el p17 k):=by
    rw [List.take_succ_eq_append_getElem hk,List.flatMap_append,kA _ _ hk]; simp
   rw [htk]
   have hj3:lQ n l asked p14 p17 p18 p19 k ((p17.take k).flatMap (BZ p14.length)) r16 (el p17 k) (stI (el p17 k)) = some ((p17.take k).flatMap (BZ p14.length) ++ BZ p14.length (el p17 k)):=by
    unfold lQ
    rw [aSU p14 p17 p19 p18 k r16 (el p17 k) _ _ hN hst.1 hsl (by omega)]
    rfl
   by_cases c:el p17 k = []
   ·have h0:stI (el p17 k) = 0:=by unfold stI; rw [if_pos c]
    rw [h0] at hj3
    rw [if_neg (by rw [c]; simp)]
    rw [show (0:Int) = ((0:Nat):Int) from rfl,hj3]
    rfl
   ·have hpos:=List.length_pos_iff.2 c
    have hlast:=hix.rng _ (mF (el p17 k) ((el p17 k).length - 1) (by omega))
    have h0:(stI (el p17 k):Int) = el (el p17 k) ((el p17 k).length - 1) + 1:=by
     unfold stI; rw [if_neg c,Int.toNat_of_nonneg (by omega)]
    have w5:IntKind.wrap .i64 (((el p17 k).length:Int) - 1) = (((el p17 k).length - 1:Nat):Int):=by rw [lL (by omega) (by omega)]; omega
    rw [if_pos (by simp; omega),w5,bU _ _ (by omega),Option.bind_some,lL (by omega) (by omega),← h0,hj3]
    rfl
  ·rintro a rfl
   refine ⟨_,?_,rfl⟩
   show dZ n l asked p14 p17 p18 p19 r16 p17.length _ = _
   unfold dZ
   rw [if_neg (by simp),List.take_length]
 obtain ⟨x,h1,rfl⟩:=key
 exact h1
def jC (O S:List Int):List Int:=S.map fun e=>el O e.toNat
theorem aTE (O:List Int) (p18 p35:Int) (p36 r34:List (List Int)) (r16:Int) (S:List Int) (hS:S.length <= 1000) (hI:Ix O.length S):oS n l asked O p18 p35 p36 r16 r34 S 0 [] = some (jC O S):=by
 unfold oS
 have key:∃ x,dK (fun (w:Int × List Int)=>dY n l asked O p18 p35 p36 r16 r34 S w.1 w.2) (0,[]) = some x ∧ x = jC O S:=by
  refine eQ (step:=fun (w:Int × List Int)=>dY n l asked O p18 p35 p36 r16 r34 S w.1 w.2) (fun k (a:List Int)=>((k:Int),a)) S.length (fun k a=>a = jC O (S.take k)) _ ?_ ?_ [] (by simp [jC])
  ·rintro k a hk rfl
   refine .inl ⟨_,?_,rfl⟩
   show dY n l asked O p18 p35 p36 r16 r34 S k _ = _
   unfold dY
   have w3:IntKind.wrap .i64 ((k:Int) + 1) = ((k + 1:Nat):Int):=bC (by omega)
   have hr:=hI.rng _ (mF S k hk)
   have e2:O[(el S k).toNat]? = some (el O (el S k).toNat):=EG O _ (by omega)
   rw [if_pos (by simpa using hk),bU S k hk,Option.bind_some,if_pos ⟨hr.1,by omega⟩,e2,Option.bind_some,if_pos (by simp [jC]; omega),w3]
   unfold jC
   rw [qW _ S k hk]
  ·rintro a rfl
   refine ⟨_,?_,rfl⟩
   show dY n l asked O p18 p35 p36 r16 r34 S S.length _ = _
   unfold dY
   rw [if_neg (by simp),List.take_length]
 obtain ⟨x,h1,rfl⟩:=key
 exact h1
noncomputable def K6 (m:Nat) (l:List aE) (asked:List Int) (base:Int) (F:List (List Int)) (s:List Int):List (List Int) :=
 if (F.any fun d=>d.all fun x=>s.contains x) = true then F else if AF m l (asked ++ s) > base then F ++ [s] else F
theorem aAf (m:Nat) (base:Int) (F:List (List Int)) (s:List Int):(K6 m l asked base F s).length <= F.length + 1 ∧ ∀ d ∈ K6 m l asked base F s,d ∈ F ∨ d = s:=by
 unfold K6
 split
 ·exact ⟨by omega,fun d h=>.inl h⟩
 ·split
  ·exact ⟨by simp,fun d h=>by simpa using h⟩
  ·exact ⟨by omega,fun d h=>.inl h⟩
theorem aSB {m:Nat} (hl:l.length <= 9) (hr:∀ i,i < l.length->(el l i).Rights.length <= 12) (hk:EM m (l.map gD)) (ha:asked.length <= 1000) (O:List Int) (p18 base:Int) (R F0:List (List Int)) (hR:∀ S ∈ R,Ix O.length S ∧ S.length <= 100) (hRl:R.length <= 1000) (hF:F0.length <= 100000) (hF2:∀ d ∈ F0,d.length <= 100) :
  pD m l asked O p18 base R 0 F0 = some ((R.map (jC O)).foldl (K6 m l asked base) F0):=by
 unfold pD
 have key:∃ x,dK (fun (w:Int × List (List Int))=>dX m l asked O p18 base R w.1 w.2) (0,F0) = some x ∧ x = (R.map (jC O)).foldl (K6 m l asked base) F0:=by
  refine eQ (step:=fun (w:Int × List (List Int))=>dX m l asked O p18 base R w.1 w.2) (fun k (a:List (List Int))=>((k:Int),a)) R.length (fun k a=>a = ((R.take k).map (jC O)).foldl (K6 m l asked base) F0 ∧ a.length <= 100000 + k ∧ ∀ d ∈ a,d.length <= 100) _ ?_ ?_ F0 ⟨by simp,by omega,hF2⟩
  ·rintro k a hk' ⟨hA,h2,h3⟩
   obtain ⟨hix,hsl⟩:=hR _ (mF R k hk')
   have hset:(jC O (el R k)).length <= 100:=by simp [jC]; exact hsl
   have ht:=aAf (l:=l) (asked:=asked) m base a (jC O (el R k))
   refine .inl ⟨K6 m l asked base a (jC O (el R k)),?_,?_,by omega,fun d hd=>?_⟩
   ·show dX m l asked O p18 base R k a = _
    unfold dX
    have w3:IntKind.wrap .i64 ((k:Int) + 1) = ((k + 1:Nat):Int):=bC (by omega)
    have e2:R[(k:Int).toNat]? = some (el R k):=by rw [Int.toNat_natCast]; exact EG R k hk'
    rw [if_pos (by simpa using hk'),if_pos ⟨by omega,by simp; omega⟩,e2,Option.bind_some,aTE O _ _ _ _ _ _ (by omega) hix,Option.bind_some,aR8 _ _ (by omega) (by omega) (fun i hi=>by have:=h3 _ (mF a i hi); omega),Option.bind_some,w3]
    unfold K6
    cases hh:(a.any fun d=>d.all fun x=>(jC O (el R k)).contains x) with
    | true=>rfl
    | false =>
     have hS:xH l (asked ++ jC O (el R k)):=D6 hl hr (by rw [List.length_append]; omega)
     obtain ⟨X,q,y,e3,_,e4,_⟩:=RH hS hk
     unfold eG
     rw [if_neg (by decide),if_pos (by omega),Option.bind_some,if_pos (by omega),e3,Option.bind_some,WJ,Option.bind_some,← e4,if_neg (show ¬ (false = true) by decide)]
     by_cases c:AF m l (asked ++ jC O (el R k)) > base
     ·rw [if_pos (by simpa using c),if_pos (by omega),if_pos c]
     ·rw [if_neg (by simpa using c),if_neg c]
   ·rw [qW _ R k hk',List.foldl_append,← hA]
    rfl
   ·rcases ht.2 d hd with q | q
    ·exact h3 d q
    ·rw [q]; exact hset
  ·rintro a ⟨hA,_,_⟩
   rw [List.take_length] at hA
   refine ⟨a,?_,hA⟩
   show dX m l asked O p18 base R R.length a = _
   unfold dX
   rw [if_neg (by simp)]
 obtain ⟨x,h1,rfl⟩:=key
 exact h1
def ED (O:List Int) (k:Nat):List (List Int):=(List.range k).flatMap fun i=>(lv O.length (i + 1)).map (jC O)
noncomputable def zX (m:Nat) (l:List aE) (asked O:List Int) (base:Int) (k:Nat):List (List Int):=(ED O k).foldl (K6 m l asked base) []
theorem ON (m:Nat) (base:Int) (Z:List (List Int)):∀ F:List (List Int),(Z.foldl (K6 m l asked base) F).length <= F.length + Z.length ∧ ∀ d ∈ Z.foldl (K6 m l asked base) F,d ∈ F ∨ d ∈ Z:=by
 induction Z with
 | nil=>exact fun F=>⟨by simp,fun d h=>.inl h⟩
 | cons s Z ih =>
  intro F
  have h1:=aAf (l:=l) (asked:=asked) m base F s
  have h2:=ih (K6 m l asked base F s)
  refine ⟨by rw [List.foldl_cons,List.length_cons]; omega,fun d hd=>?_⟩
  rw [List.foldl_cons] at hd
  rcases h2.2 d hd with q | q
  ·rcases h1.2 d q with z | z
   ·exact .inl z
   ·exact .inr (by simp [z])
  ·exact .inr (by simp [q])
theorem I1 (O:List Int) (k:Nat):ED O (k + 1) = ED O k ++ (lv O.length (k + 1)).map (jC O):=by
 unfold ED
 rw [List.range_succ,List.flatMap_append]
 simp
theorem H5 {O:List Int} {k:Nat} {s:List Int}:s ∈ ED O k ↔ ∃ S,Ix O.length S ∧ 0 < S.length ∧ S.length <= k ∧ jC O S = s:=by
 unfold ED
 rw [List.mem_flatMap]
 constructor
 ·rintro ⟨i,hi,hs⟩
  obtain ⟨S,hS,rfl⟩:=List.mem_map.1 hs
  obtain ⟨h1,h2⟩:=(FG _ _).1 hS
  have:=List.mem_range.1 hi
  exact ⟨S,h2,by omega,by omega,rfl⟩
 ·rintro ⟨S,h1,h2,h3,rfl⟩
  exact ⟨S.length - 1,List.mem_range.2 (by omega),List.mem_map.2 ⟨S,(FG _ _).2 ⟨by omega,h1⟩,rfl⟩⟩
theorem aTN {m:Nat} (hl:l.length <= 9) (hr:∀ i,i < l.length->(el l i).Rights.length <= 12) (hk:EM m (l.map gD)) (ha:asked.length <= 1000) (O:List Int) (hO:O.length <= 4) (base:Int) :
  pG m l asked O base [[]] 0 [] = some (zX m l asked O base O.length):=by
 unfold pG
 have hll:∀ k,k <= O.length->(lv O.length k).length <= 256:=fun k hk=>by
  refine Nat.le_trans (aBX k) ?_
  have h1:O.length ^ k <= 4 ^ k:=Nat.pow_le_pow_left hO k
  have h2:4 ^ k <= 4 ^ 4:=Nat.pow_le_pow_right (by omega) (by omega)
  omega
 have hal:∀ k,k <= O.length->(ED O k).length <= k * 256:=by
  intro k
  induction k with
  | zero=>intro _; simp [ED]
  | succ k ih =>
   intro hk
   have:=ih (by omega)
   have:=hll (k + 1) hk
   rw [I1,List.length_append,List.length_map]
   omega
 have key:∃ x,dK (fun (w:List (List Int) × Int × List (List Int))=>dU m l asked O base w.1 w.2.1 w.2.2) ([[]],0,[]) = some x ∧ x = zX m l asked O base O.length:=by
  refine eQ (step:=fun (w:List (List Int) × Int × List (List Int))=>dU m l asked O base w.1 w.2.1 w.2.2) (fun k (a:List (List Int) × List (List Int))=>(a.1,(k:Int),a.2)) O.length (fun k a=>a = (lv O.length k,zX m l asked O base k)) _ ?_ ?_ ([[]],[]) rfl
  ·rintro k a hk' rfl
   refine .inl ⟨_,?_,rfl⟩
   show dU m l asked O base (lv O.length k) k (zX m l asked O base k) = _
   unfold dU
   have w3:IntKind.wrap .i64 ((k:Int) + 1) = ((k + 1:Nat):Int):=bC (by omega)
   have hfl:=ON (l:=l) (asked:=asked) m base (ED O k) []
   have hak:=hal k (by omega)
   have hlk:=hll k (by omega)
   have hlk1:=hll (k + 1) hk'
   rw [if_pos (by simpa using hk'),aTQ O (lv O.length k) _ _ _ (by omega) (fun s hs=>by
    obtain ⟨h1,h2⟩:=(FG _ _).1 hs
    exact ⟨h2,by omega⟩) (by omega),Option.bind_some]
   rw [show (lv O.length k).flatMap (BZ O.length) = lv O.length (k + 1) from rfl]
   rw [aSB hl hr hk ha O _ base (lv O.length (k + 1)) (zX m l asked O base k) (fun s hs=>by
    obtain ⟨h1,h2⟩:=(FG _ _).1 hs
    exact ⟨h2,by omega⟩) (by omega) (by unfold zX; have:=hfl.1; simp at this; omega) (fun d hd=>by
    rcases hfl.2 d hd with q | q
    ·cases q
    ·obtain ⟨S,_,_,h3,rfl⟩:=H5.1 q
     simp [jC]; omega),Option.bind_some,w3]
   unfold zX
   rw [I1,List.foldl_append]
  ·rintro a rfl
   refine ⟨_,?_,rfl⟩
   show dU m l asked O base _ O.length _ = _
   unfold dU
   rw [if_neg (by simp)]
 obtain ⟨x,h1,rfl⟩:=key
 exact h1
theorem aIL {m:Nat} (hl:l.length <= 9) (hr:∀ i,i < l.length->(el l i).Rights.length <= 12) (hO:(uP l).length <= 4) (hc:rL m l = true) (hra:wM asked = true) (hk:EM m (l.map gD)) (ha:asked.length <= 1000) :
  gB m l asked = some (zX m l asked (oth (uP l) asked) (AF m l asked) (oth (uP l) asked).length,0):=by
 unfold gB
 have hoth:(oth (uP l) asked).length <= (uP l).length:=List.length_filter_le _ _
 rw [MF _ _ (by omega),hc,Option.bind_some,if_neg (by decide),HJ _ (by omega),hra,Option.bind_some,if_neg (by decide),aAH hl hr,Option.bind_some]
 refine (aTk (asked:=asked) m l (uP l) (by omega) (by omega) (fun O=>lP m l asked O)).trans ?_
 have hS:xH l asked:=D6 hl hr (by omega)
 obtain ⟨X,q,y,e3,_,e4,_⟩:=RH hS hk
 unfold lP
 rw [if_neg (by simp; omega),e3,Option.bind_some,WJ,Option.bind_some,← e4,aTN hl hr hk ha _ (by omega),Option.bind_some]
 rfl
end
end Go.Proofs.Ytgjcnbgfaimepaa
