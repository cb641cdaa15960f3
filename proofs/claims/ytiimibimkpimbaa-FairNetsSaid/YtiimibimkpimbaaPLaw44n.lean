/- Law 44: FairNets. -/
import Derived.Test.YtiimibimkpimbaaPFb
set_option linter.unusedVariables false
set_option linter.unusedSimpArgs false
namespace Go.Proofs.Ytiimibimkpimbaa
open Go.RowKit Vm
theorem K0 {α:Type} (p:α→Bool):∀ (l:List α) (a:Bool),l.foldl (fun a x=>a || p x) a = (a || l.any p)
 | [],a=>by simp
 | x :: l,a=>by
  rw [List.foldl_cons,K0 p l,List.any_cons,Bool.or_assoc]
def WL (c:aC) (y x:aA):Bool:=(x.Kind == 1) && (x.No == c.No) && (x.From == y.To)
def aDC (c:aC) (y:aA):Bool:=(y.Kind == 0) && (y.No == c.No) && (y.Room == c.Room) && !decide (y.Sum < c.Sum)
section
variable (n r c:Int) (l:List aA) (hl:l.length ≤ 100) (p4:Int) (b:Bool) (os:List aC) (x5:aC)
include hl
theorem aH5 {k:Nat} {y:aA} (hy:l[k]? = some y) (a:Bool):iK n r c l p4 k b os x5 a 0 = some (a || l.any (WL x5 y)):=by
 unfold iK
 have h:=nJ (step:=fun (w:Bool × Int)=>c9 n r c l p4 k b os x5 w.1 w.2) (fun j a=>(a,(j:Int))) l (fun a x=>a || WL x5 y x) (fun _ _=>True) id (fun j a x hx _=>by
  have hj:=nH hx
  have w3:IntKind.wrap .i64 ((j:Int) + 1) = ((j + 1:Nat):Int):=dN (by omega)
  refine ⟨?_,trivial⟩
  show c9 n r c l p4 k b os x5 a j = _
  unfold c9 WL
  simp only [fL hx,if_true,kP hx,kP hy,Option.bind_some,w3]
  cases a with
  | true=>rfl
  | false =>
   by_cases c1:x.Kind = 1
   ·by_cases c2:x.No = x5.No
    ·simp [c1,c2]
    ·simp [c1,c2]
   ·simp [c1]) (fun a _=>by
  show c9 n r c l p4 k b os x5 a l.length = _
  unfold c9
  rw [if_neg (by simp)]
  rfl) a trivial
 rw [K0] at h
 exact h.1
theorem aHU:iL n r c l p4 b os x5 false 0 = some (l.any fun y=>aDC x5 y && l.any (WL x5 y)):=by
 unfold iL
 have h:=nJ (step:=fun (w:Bool × Int)=>dC n r c l p4 b os x5 w.1 w.2) (fun j a=>(a,(j:Int))) l (fun a y=>a || (aDC x5 y && l.any (WL x5 y))) (fun _ _=>True) id (fun j a x hx _=>by
  have hj:=nH hx
  have w3:IntKind.wrap .i64 ((j:Int) + 1) = ((j + 1:Nat):Int):=dN (by omega)
  refine ⟨?_,trivial⟩
  show dC n r c l p4 b os x5 a j = _
  unfold dC aDC
  simp only [fL hx,if_true,kP hx,Option.bind_some,w3,aH5 n r c l hl p4 b os x5 hx a]
  by_cases c1:x.Kind = 0
  ·by_cases c2:x.No = x5.No
   ·by_cases c3:x.Room = x5.Room
    ·by_cases c4:x.Sum < x5.Sum
     ·simp [c1,c2,c3,c4]
     ·simp [c1,c2,c3,c4]
    ·simp [c1,c2,c3]
   ·simp [c1,c2]
  ·simp [c1]) (fun a _=>by
  show dC n r c l p4 b os x5 a l.length = _
  unfold dC
  rw [if_neg (by simp)]
  rfl) false trivial
 rw [K0,Bool.false_or] at h
 exact h.1
end
theorem aGh (n r c:Int) {l:List aA} (hl:l.length ≤ 100) (b:Bool) {os:List aC} (hol:os.length ≤ 100000) (h1:∀ x ∈ os,x.Kind = 4 ∧ 1 ≤ x.Sum ∧ (l.any fun y=>aDC x y && l.any (WL x y)) = true) (h2:os.Pairwise fun a b=>a.No < b.No) :
  dQ n r c l b os 0 = some (.inl ()):=by
 unfold dQ
 refine KN (step:=fun w=>cY n r c l b os w) os hol (fun k x hx=>?_) ?_
 ·show cY n r c l b os k = _
  have hk:=nH hx
  obtain ⟨q1,q2,q3⟩:=h1 x (List.mem_of_getElem? hx)
  unfold cY
  simp only [fL hx,if_true,kP hx,Option.bind_some,aHU n r c l hl k b os x,q3]
  rw [if_neg (by simpa using q1),if_neg (by simpa using q2),if_neg (by decide)]
  by_cases c0:k = 0
  ·subst c0
   rw [if_neg (by simp)]
  ·have w4:IntKind.wrap .i64 ((k:Int) - 1) = ((k - 1:Nat):Int):=by
    rw [kF (by omega) (by omega)]; omega
   have hy:os[k - 1]? = some os[k - 1]:=List.getElem?_eq_getElem (by omega)
   have hlt:os[k - 1].No < x.No:=by
    have:=(List.pairwise_iff_getElem.1 h2) (k - 1) k (by omega) hk (by omega)
    rw [List.getElem?_eq_getElem hk,Option.some.injEq] at hx
    rw [← hx]
    exact this
   rw [if_pos (by simp only [decide_eq_true_eq]; omega),w4,kP hy,Option.bind_some,if_neg (by simp only [decide_eq_true_eq]; omega)]
 ·show cY n r c l b os os.length = _
  unfold cY
  rw [if_neg (by simp)]
theorem aGT {N:Nat} {o:List aA} (ho:qI N o) (b:Bool) {os:List aC} (hol:os.length ≤ 100000) {cc:aA→Int} (hc:∀ x ∈ o,ofS os x.No = cc x ∧ 0 ≤ cc x ∧ cc x ≤ 1099511627776) {p:Nat} {e:aA} (hp:o[p]? = some e) :
  ∃ z,iJ N p b o os 0 (List.replicate N (0:Int)) = some (.inl z) ∧ z.length = N ∧ ∀ v:Nat,v < N→el z v = AF (BH (u4 e) o) cc v:=by
 unfold iJ
 have hlen:=ho.len
 obtain ⟨x,h1,h2⟩:=o8 (step:=fun (w:Int × (List Int))=>b9 N p b o os w.1 w.2) (fun k a=>((k:Int),a)) o.length
  (fun k (a:List Int)=>a.length = N ∧ ∀ v:Nat,v < N→el a v = AF (BH (u4 e) (o.take k)) cc v ∧ -(1099511627776 * (k:Int)) ≤ el a v ∧ el a v ≤ 1099511627776 * (k:Int))
  (fun x=>∃ z,x = (.inl z:List Int ⊕ Unit) ∧ z.length = N ∧ ∀ v:Nat,v < N→el z v = AF (BH (u4 e) o) cc v) (fun k a hk hI=>by
  obtain ⟨x,hx⟩ : ∃ x,o[k]? = some x:=⟨o[k],List.getElem?_eq_getElem hk⟩
  have hxo:=List.mem_of_getElem? hx
  obtain ⟨i1,i2⟩:=hI
  obtain ⟨⟨f1,f2⟩,⟨t1,t2⟩,ft,_⟩:=ho.each x hxo
  obtain ⟨o1,o2,o3⟩:=hc x hxo
  have w3:IntKind.wrap .i64 ((k:Int) + 1) = ((k + 1:Nat):Int):=dN (by omega)
  have hst:b9 N p b o os k a = b9 N p b o os k a:=rfl
  conv at hst=>rhs; unfold b9
  simp only [fL hx,if_true,kP hx,kP hp,Option.bind_some,w3] at hst
  rw [if_neg (by simpa using f1),if_neg (by simpa using f2),if_neg (by simpa using t1),if_neg (by simpa using t2)] at hst
  have ht:o.take (k + 1) = o.take k ++ [x]:=w8 hx
  by_cases g:RM (u4 e) x = true
  ·have g2:=g
   unfold RM u4 at g2
   rw [Bool.and_eq_true] at g2
   have hg:BH (u4 e) (o.take (k + 1)) = BH (u4 e) (o.take k) ++ [x]:=by
    rw [ht]
    unfold BH
    rw [List.filter_append,List.filter_cons,if_pos g]
    rfl
   have hF:x.From.toNat < N:=by omega
   have hT:x.To.toNat < N:=by omega
   obtain ⟨_,rF1,rF2⟩:=i2 x.From.toNat hF
   obtain ⟨_,rT1,rT2⟩:=i2 x.To.toNat hT
   have hne:x.From.toNat ≠ x.To.toNat:=by omega
   have w4:IntKind.wrap .i64 (el a x.From.toNat - cc x) = el a x.From.toNat - cc x:=kF (by omega) (by omega)
   have w5:IntKind.wrap .i64 (el a x.To.toNat + cc x) = el a x.To.toNat + cc x:=kF (by omega) (by omega)
   have hj:iM N p k a b o os x = some ((a.set x.From.toNat (el a x.From.toNat - cc x)).set x.To.toNat (el a x.To.toNat + cc x)):=by
    unfold iM
    rw [if_pos ⟨f1,by omega⟩,CO a _ (by omega),Option.bind_some,aLx os hol,Option.bind_some,o1,w4,if_pos ⟨f1,by omega⟩,Option.bind_some,if_pos ⟨t1,by rw [List.length_set]; omega⟩,CO _ _ (by rw [List.length_set]; omega),Option.bind_some,Option.bind_some,if_pos ⟨t1,by rw [List.length_set]; omega⟩,Option.bind_some,e9,if_neg (fun q=>hne q.1.symm),w5]
   rw [if_pos (show (x.Currency == e.Currency) = true from g2.1),if_pos (show (x.Due == e.Due) = true from g2.2),hj,Option.bind_some] at hst
   refine .inl ⟨_,hst,by rw [List.length_set,List.length_set]; exact i1,fun v hv=>?_⟩
   obtain ⟨q1,q2,q3⟩:=i2 v hv
   rw [hg,PK,← q1,e9,e9,List.length_set]
   unfold EV
   by_cases c1:x.To = (v:Int)
   ·have e1:v = x.To.toNat:=by omega
    have e2:¬ x.From = (v:Int):=by omega
    rw [if_pos ⟨e1,by omega⟩,if_pos c1,if_neg e2,← e1]
    omega
   ·have e1:¬ v = x.To.toNat:=by omega
    rw [if_neg (fun q=>e1 q.1),if_neg c1]
    by_cases c2:x.From = (v:Int)
    ·have e2:v = x.From.toNat:=by omega
     rw [if_pos ⟨e2,by omega⟩,if_pos c2,← e2]
     omega
    ·have e2:¬ v = x.From.toNat:=by omega
     rw [if_neg (fun q=>e2 q.1),if_neg c2]
     omega
  ·have hg:BH (u4 e) (o.take (k + 1)) = BH (u4 e) (o.take k):=by
    rw [ht]
    unfold BH
    rw [List.filter_append,List.filter_cons,if_neg g]
    simp
   have hst2:b9 N p b o os k a = some (.inl (((k + 1:Nat):Int),a)):=by
    rw [hst]
    by_cases c1:x.Currency = e.Currency
    ·rw [if_pos (by simpa using c1)]
     by_cases c2:x.Due = e.Due
     ·exact absurd (show RM (u4 e) x = true by simp [RM,u4,c1,c2]) g
     ·rw [if_neg (by simpa using c2)]
    ·rw [if_neg (by simpa using c1)]
   refine .inl ⟨_,hst2,i1,fun v hv=>?_⟩
   obtain ⟨q1,q2,q3⟩:=i2 v hv
   rw [hg]
   exact ⟨q1,by omega,by omega⟩) (fun a hI=>by
  refine ⟨.inl a,?_,a,rfl,hI.1,fun v hv=>?_⟩
  ·show b9 N p b o os o.length a = _
   unfold b9
   rw [if_neg (by simp)]
  ·have:=(hI.2 v hv).1
   rw [List.take_length] at this
   exact this) (List.replicate N (0:Int)) ⟨List.length_replicate,fun v hv=>by
  have e0:el (List.replicate N (0:Int)) v = 0:=by
   rw [vE _ v (by rw [List.length_replicate]; exact hv),List.getElem_replicate]
  rw [e0]
  exact ⟨rfl,by omega,by omega⟩⟩
 obtain ⟨z,rfl,h3⟩:=h2
 exact ⟨z,h1,h3⟩
theorem Y7 {N:Nat} {o:List aA} (ho:qI N o) (hN:N ≤ 40) (b:Bool) {os:List aC} (hol:os.length ≤ 100000) {cc:aA→Int} (hc:∀ x ∈ o,ofS os x.No = cc x ∧ 0 ≤ cc x ∧ cc x ≤ 1099511627776) (hz:∀ e ∈ o,∀ v:Nat,v < N→AF (BH (u4 e) o) cc v = 0) :
  eK N b o os 0 = some (.inl ()):=by
 unfold eK
 refine KN (step:=fun w=>dB N b o os w) o (by have:=ho.len; omega) (fun k e he=>?_) ?_
 ·show dB N b o os k = _
  unfold dB
  have heo:=List.mem_of_getElem? he
  obtain ⟨z,h1,h2,h3⟩:=aGT ho b hol hc he
  rw [if_pos (by simp only [decide_eq_true_eq]; have:=nH he; omega),if_pos (by omega),Int.toNat_natCast,h1,Option.bind_some]
  have h6:gF N k b o os z 0 = some (.inl ()):=by
   unfold gF
   refine KN (step:=fun w=>dA N k b o os z w) z (by omega) (fun v y hy=>?_) ?_
   ·show dA N k b o os z v = _
    have hv:=nH hy
    have ey:y = 0:=by
     rw [CO z v hv,Option.some.injEq] at hy
     rw [← hy,h3 v (by omega)]
     exact hz e heo v (by omega)
    unfold dA
    rw [if_pos (by simp only [decide_eq_true_eq]; omega),if_pos ⟨by omega,by rw [Int.toNat_natCast]; exact hv⟩,Int.toNat_natCast,hy,Option.bind_some,ey,if_neg (by decide)]
   ·show dA N k b o os z z.length = _
    unfold dA
    rw [if_neg (by simp only [decide_eq_true_eq]; omega)]
  show (gF N k b o os z 0).bind _ = _
  rw [h6]
  rfl
 ·show dB N b o os o.length = _
  unfold dB
  rw [if_neg (by simp)]
theorem aBt (n r c:Int) (l:List aA):(eA n r c l).length ≤ l.length:=by
 have h2:=(C7 (fun (x:aA)=>x.No) (vW c (sH n r c l) (uF n r c l))).length_eq
 have h3:=PV c (sH n r c l) (uF n r c l)
 have h4:(sH n r c l).length ≤ l.length:=List.length_filter_le _ _
 show (isK _ _).length ≤ _
 omega
theorem Z9 {n r c:Int} {l:List aA} {e:aA} (he:e ∈ eA n r c l):e ∈ l ∧ e.Kind = 0 ∧ ∃ x ∈ l,x.Kind = 1 ∧ x.No = e.No ∧ x.From = e.To:=by
 obtain ⟨h1,h2⟩:=O1.1 he
 unfold yY at h2
 simp only [Bool.and_eq_true,beq_iff_eq] at h2
 have h3:GF (sH n r c l) 1 e.No e.To = true:=h2.1.1.2
 unfold GF at h3
 obtain ⟨x,hx,q⟩:=List.any_eq_true.1 h3
 unfold aDz at q
 simp only [Bool.and_eq_true,beq_iff_eq] at q
 exact ⟨(List.mem_filter.1 h1).1,h2.1.1.1.1.1,x,(List.mem_filter.1 hx).1,q.1.1,q.1.2,q.2⟩
theorem XW (hs:i9 = some true) {n r c:Int} {l:List aA} (hw:∀ e ∈ l,dW e.Sum):jZ n r c l = some true:=by
 unfold jZ kL
 rw [hs,Option.bind_some,Option.bind_some]
 by_cases hl:l.length ≤ 100
 ·rw [if_neg (by simp; omega)]
  by_cases n1:n < 1
  ·rw [if_pos (by simpa using n1)]
  ·rw [if_neg (by simpa using n1)]
   by_cases n2:n > 40
   ·rw [if_pos (by simpa using n2)]
   ·rw [if_neg (by simpa using n2)]
    obtain ⟨N,hN⟩ : ∃ N:Nat,n = N:=⟨n.toNat,by omega⟩
    have hN' : N ≤ 40:=by omega
    by_cases hf:sS n r c l = true
    ·have hel:=AQ n r c l
     obtain ⟨hg,hnt⟩:=aGi (r:=r) (c:=c) hN hN' l hw
     rw [N8 hN hN' hf hw,Option.bind_some,aIR hN hN' hf hw]
     rcases aFa l (cQ n r c l).2.2.2 with q | ⟨k,h1,h2,h3⟩
     ·obtain ⟨o1,o2⟩:=OE n r c l q
      rw [o1]
      have e3:dQ n r c l true (SK none) 0 = some (.inl ()):=fN rfl
      rw [e3,Option.bind_some]
      show (dJ l (cQ n r c l).2.2.2).bind _ = _
      rw [VT l _ (by omega) hel q,Option.bind_some,if_pos (CV (Nat.le_refl _)),xJ,List.take_length,BE hf,Option.bind_some]
      have ho:=GM (n:=n) (r:=r) (c:=c) hN hw (by have:=aBt n r c l; omega)
      subst hN
      rw [Y7 ho hN' true (os:=SK none) (by decide) (cc:=fun _=>0) (fun x _=>⟨rfl,by decide,by decide⟩) (fun e _ v _=>ON fun x _=>rfl)]
      rfl
     ·obtain ⟨e1,e2,_⟩:=VL n r c l k h1 h2 h3
      obtain ⟨m',e'⟩:=VP n r c (l.take (k + 1)) (by rw [e1]) (l.drop (k + 1))
      rw [List.take_append_drop] at e'
      rw [e'] at hg hnt
      rw [e']
      obtain ⟨ho,hm⟩ : qI N (eA n r c (l.take k)) ∧ NM (eA n r c (l.take k)) m':=hg
      have hol:=S8 (eA n r c (l.take k)) m'
      have hlen:=ho.len
      have e3:dQ n r c l true (wK (eA n r c (l.take k)) m') 0 = some (.inl ()):=by
       refine aGh n r c hl true (by omega) (fun x hx=>?_) ?_
       ·unfold wK at hx
        obtain ⟨e,he,rfl⟩:=List.mem_map.1 hx
        obtain ⟨he1,he2⟩:=List.mem_filter.1 he
        rw [decide_eq_true_eq] at he2
        obtain ⟨s1,s2,y,s3,s4,s5,s6⟩:=Z9 he1
        have s7:=(hm e he1).2
        refine ⟨rfl,by show 1 ≤ cl m' e; omega,?_⟩
        rw [List.any_eq_true]
        refine ⟨e,List.mem_of_mem_take s1,?_⟩
        rw [Bool.and_eq_true]
        constructor
        ·unfold aDC
         simp only [s2,beq_self_eq_true,Bool.true_and,Bool.not_eq_true',decide_eq_false_iff_not]
         omega
        ·rw [List.any_eq_true]
         refine ⟨y,List.mem_of_mem_take s3,?_⟩
         unfold WL
         simp [s4,s5,s6]
       ·unfold wK
        rw [List.pairwise_map]
        exact List.Pairwise.filter _ (SS n r c (l.take k))
      show (dQ n r c l true (wK (eA n r c (l.take k)) m') 0).bind _ = _
      rw [e3,Option.bind_some]
      show (dJ l (cQ n r c l).2.2.2).bind _ = _
      rw [aDd l _ (by omega) hel h1 h2 h3,Option.bind_some,if_pos (CV (by omega)),xJ,BE (ZT hf (by rw [List.length_take]; omega)),Option.bind_some]
      show (eK n true (eA n r c (l.take k)) (wK (eA n r c (l.take k)) m') 0).bind _ = _
      have e7:eK n true (eA n r c (l.take k)) (wK (eA n r c (l.take k)) m') 0 = some (.inl ()):=by
       subst hN
       exact Y7 ho hN' true (by omega) (cc:=cl m') (fun x hx=>⟨aCO ho.diff hx (hm x hx).1,(hm x hx).1,by have:=(hm x hx).2; have:=(ho.each x hx).2.2.2.1; omega⟩) hnt
      rw [e7]
      rfl
    ·rw [Bool.not_eq_true] at hf
     have e3:dQ n r c l true [] 0 = some (.inl ()):=fN rfl
     rw [V8 hf,Option.bind_some,e3,Option.bind_some,aJJ hf]
     show (dJ l []).bind _ = _
     rw [aAE,Option.bind_some,if_pos (CV (Nat.le_refl _)),xJ,List.take_length,UK hf,Option.bind_some]
     have e7:eK n true [] [] 0 = some (.inl ()):=fN rfl
     rw [e7]
     rfl
 ·rw [if_pos (by simp; omega)]
end Go.Proofs.Ytiimibimkpimbaa
