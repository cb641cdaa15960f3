/- Law 44: FairReopens. -/
import Derived.Test.YtiimibimkpimbaaPFb
set_option linter.unusedVariables false
set_option linter.unusedSimpArgs false
namespace Go.Proofs.Ytiimibimkpimbaa
open Go.RowKit Vm
theorem aLu (n no:Int) (b:Bool) {o:List aA} (hl:o.length <= 100) (r3:(List aC) × (List Int)) (r4:List aC) (r5:(List aC) × (List Int)) (r6:List aC) {e:aA} (he:e ∈ o) (hno:e.No = no) (hd:uB o) :
  ∃ i:Nat,gH n no b o r3 r4 r5 r6 (-1) 0 = some (i:Int) ∧ o[i]? = some e:=by
 unfold gH
 obtain ⟨x,h1,h2⟩:=n8 (step:=fun (w:Int × Int)=>bZ n no b o r3 r4 r5 r6 w.1 w.2) (fun k a=>(a,(k:Int))) o.length
  (fun k (a:Int)=>(a = -1 ∧ ∀ j,j < k->(el o j).No ≠ no) ∨ ∃ i:Nat,a = (i:Int) ∧ o[i]? = some e)
  (fun x=>(x = -1 ∧ ∀ j,j < o.length->(el o j).No ≠ no) ∨ ∃ i:Nat,x = (i:Int) ∧ o[i]? = some e) (fun k a hk hI=>by
  obtain ⟨x,hx⟩ : ∃ x,o[k]? = some x:=⟨o[k],List.getElem?_eq_getElem hk⟩
  have w3:IntKind.wrap .i64 ((k:Int) + 1) = ((k + 1:Nat):Int):=dL (by omega)
  have hst:bZ n no b o r3 r4 r5 r6 a k = bZ n no b o r3 r4 r5 r6 a k:=rfl
  conv at hst=>rhs; unfold bZ
  simp only [fZ hx,if_true,mO hx,Option.bind_some,w3] at hst
  by_cases c:x.No = no
  ·rw [if_pos (by simpa using c)] at hst
   have:x = e:=hd.one x (List.mem_of_getElem? hx) e he (c.trans hno.symm)
   exact .inl ⟨_,hst,.inr ⟨k,rfl,this ▸ hx⟩⟩
  ·rw [if_neg (by simpa using c)] at hst
   refine .inl ⟨_,hst,?_⟩
   rcases hI with ⟨q1,q2⟩ | q
   ·refine .inl ⟨q1,fun j hj=>?_⟩
    by_cases e' : j = k
    ·rw [e',wJ o k hk]
     rw [List.getElem?_eq_getElem hk,Option.some.injEq] at hx
     rw [hx]; exact c
    ·exact q2 j (by omega)
   ·exact .inr q) (fun a hI=>by
  refine ⟨a,?_,hI⟩
  show bZ n no b o r3 r4 r5 r6 a o.length = _
  unfold bZ
  rw [if_neg (by simp)]) (-1) (.inl ⟨rfl,fun j hj=>absurd hj (Nat.not_lt_zero _)⟩)
 have h1' : eW (fun (w:Int × Int)=>bZ n no b o r3 r4 r5 r6 w.1 w.2) (-1,0) = some x:=h1
 rcases h2 with ⟨_,q⟩ | ⟨i,rfl,hi⟩
 ·obtain ⟨j,hj,e'⟩:=PY he
  exact absurd (e' ▸ hno) (q j hj)
 ·exact ⟨i,h1',hi⟩
theorem aLg {N:Nat} {o:List aA} (ho:sN N o) (hN:N <= 40) {m:MI} (hm:MJ o m) (b:Bool) {e:aA} {i:Nat} (hi:o[i]? = some e) (r3 r5:(List aC) × (List Int))
  (hg:gX r5.1 (r3.1.length:Int) (r5.1.length:Int) = lX o m (sX N o m e.No)) :
  eX N e.No b o i r3 (pP o m) r5 (pP o (sX N o m e.No)) 0 0 [] = some (.inl (V5 (uH (kL e.No o) (vX e.No m) o) (cl (sX N o m e.No)),(uH (kL e.No o) (vX e.No m) o).map (pW (vX e.No m)))):=by
 unfold eX
 have hlen:=ho.len
 have heo:=List.mem_of_getElem? hi
 have hG:kL e.No o = wZ e:=UA ho.diff heo rfl
 have hm':=aEC ho hN hm e.No
 have l1:=AD o m
 have l2:=AD o (sX N o m e.No)
 have l3:=FR o m (sX N o m e.No)
 have h:=pS (step:=fun (w:Int × Int × (List aK))=>cJ N e.No b o i r3 (pP o m) r5 (pP o (sX N o m e.No)) w.1 w.2.1 w.2.2) (fun k (a:Int × List aK)=>(a.1,(k:Int),a.2)) o
  (fun (a:Int × List aK) x=>if (M9 (kL e.No o) x && decide (0 < vX e.No m x)) = true then (a.1 + cl (sX N o m e.No) x,a.2 ++ [pW (vX e.No m) x]) else a)
  (fun k a=>a.2.length <= k ∧ 0 <= a.1 ∧ a.1 <= 1099511627776 * (k:Int)) (fun a=>(.inl a:(Int × List aK) ⊕ Unit)) (fun k a x hx hI=>by
  have hk:=qM hx
  have hxo:=List.mem_of_getElem? hx
  obtain ⟨i1,i2,i3⟩:=hI
  have w3:IntKind.wrap .i64 ((k:Int) + 1) = ((k + 1:Nat):Int):=dL (by omega)
  obtain ⟨m1,m2⟩:=hm x hxo
  have m3:=(ho.each x hxo).2.2.2.1
  obtain ⟨q1,q2⟩:=aIC ho hN hm e.No hxo
  have w4:IntKind.wrap .i64 (cl m x - cl (sX N o m e.No) x) = cl m x - cl (sX N o m e.No) x:=j5 (by omega) (by omega)
  have w5:IntKind.wrap .i64 (a.1 + cl (sX N o m e.No) x) = a.1 + cl (sX N o m e.No) x:=j5 (by omega) (by omega)
  have c3:(a.2.length + 1) * 24 <= 140737488355328:=by omega
  constructor
  ·show cJ N e.No b o i r3 (pP o m) r5 (pP o (sX N o m e.No)) a.1 k a.2 = _
   unfold cJ gD gE
   simp only [fZ hx,if_true,mO hx,mO hi,Option.bind_some,w3,S7 _ (show (pP o m).length <= 100000 by omega),S7 _ (show (pP o (sX N o m e.No)).length <= 100000 by omega),GL ho.diff hxo m1,GL ho.diff hxo q1,hg,S7 _ (show (lX o m (sX N o m e.No)).length <= 100000 by omega),aJJ ho.diff hxo q2,w4,w5,if_pos c3]
   have n1:¬ decide (cl (sX N o m e.No) x > cl m x) = true:=by simp only [decide_eq_true_eq]; omega
   have n2:¬ (cl m x - cl (sX N o m e.No) x != cl m x - cl (sX N o m e.No) x) = true:=by simp
   simp only [if_neg n1,if_neg n2]
   rw [hG]
   unfold vX pW M9 wZ
   by_cases c1:x.Currency = e.Currency
   ·by_cases c2:x.Due = e.Due
    ·by_cases c4:x.No = e.No
     ·simp [c1,c2,c4]
     ·by_cases c5:0 < cl m x
      ·simp [c1,c2,c4,c5,vX]
      ·simp [c1,c2,c4,c5]
    ·have hoff:cl (sX N o m e.No) x = cl m x:=aCg ho e.No hxo (by rw [hG]; simp [M9,wZ,c2])
     simp [c1,c2,hoff]
   ·have hoff:cl (sX N o m e.No) x = cl m x:=aCg ho e.No hxo (by rw [hG]; simp [M9,wZ,c1])
    simp [c1,hoff]
  ·split
   ·exact ⟨by rw [List.length_append,List.length_singleton]; omega,by show 0 <= a.1 + _; omega,by show a.1 + _ <= _; omega⟩
   ·exact ⟨by omega,i2,by omega⟩) (fun a hI=>by
  show cJ N e.No b o i r3 (pP o m) r5 (pP o (sX N o m e.No)) a.1 o.length a.2 = _
  unfold cJ
  rw [if_neg (by simp)]) (0,[]) ⟨Nat.le_refl _,by decide,by decide⟩
 refine h.1.trans ?_
 have key:∀ (s:List aA) (t:Int) (d:List aK),s.foldl (fun (a:Int × List aK) x=>if (M9 (kL e.No o) x && decide (0 < vX e.No m x)) = true then (a.1 + cl (sX N o m e.No) x,a.2 ++ [pW (vX e.No m) x]) else a) (t,d) = ((uH (kL e.No o) (vX e.No m) s).foldl (fun a x=>a + cl (sX N o m e.No) x) t,d ++ (uH (kL e.No o) (vX e.No m) s).map (pW (vX e.No m))):=by
  intro s
  induction s with
  | nil=>intro t d; simp [uH]
  | cons x s ih =>
   intro t d
   rw [List.foldl_cons]
   unfold uH
   rw [List.filter_cons]
   by_cases c:(M9 (kL e.No o) x && decide (0 < vX e.No m x)) = true
   ·rw [if_pos c,if_pos c,ih]
    simp [uH]
   ·rw [if_neg c,if_neg c,ih]
    rfl
 rw [key]
 rfl
theorem NQ (hs:i5 = some true) {n r c:Int} {l:List aA} (hn:dP n) (hw:∀ e ∈ l,dP e.Sum) (no day:Int):iK n r c l no day = some true:=by
 unfold iK kC
 rw [hs,Option.bind_some,Option.bind_some]
 by_cases hl:l.length <= 100
 ·rw [if_neg (by simp; omega)]
  have hw' : ∀ e ∈ l ++ [(⟨5,0,day,no,0,0,0,0,0⟩ : aA)],dP e.Sum:=fun e he=>by
   rcases List.mem_append.1 he with he | he
   ·exact hw e he
   ·rw [List.mem_singleton.1 he]
    exact aJh
  have hl' : (l ++ [(⟨5,0,day,no,0,0,0,0,0⟩ : aA)]).length = l.length + 1:=by rw [List.length_append]; rfl
  rw [List.nil_append]
  by_cases hf:sB n r c l = true
  ·obtain ⟨d1,_⟩:=BT hf
   obtain ⟨n1,n2⟩:=aKT hn d1
   obtain ⟨N,hN⟩ : ∃ N:Nat,n = N:=⟨n.toNat,by omega⟩
   have hN' : N <= 40:=by omega
   have hf' : sB n r c (l ++ [⟨5,0,day,no,0,0,0,0,0⟩]) = true:=J4 hf (by omega)
   have hel:=zQ n r c l
   have hol:=NO (r:=r) (c:=c) hN hN' l hw
   have hg:=B1 (n:=n) (r:=r) (c:=c) hN hN' hw l.length
   rw [List.take_length] at hg
   have hk:=aHW n r c l
   rw [aEU hN hN' hf hw,Option.bind_some,H5 hN hN' hf hw,Option.bind_some,if_pos (by omega),if_pos (by omega),aEU hN hN' hf' hw',Option.bind_some,H5 hN hN' hf' hw',Option.bind_some]
   have hS:bM n r c (l ++ [⟨5,0,day,no,0,0,0,0,0⟩]) = (l ++ [⟨5,0,day,no,0,0,0,0,0⟩],(eG n r c l (bM n r c l).2.1 ⟨5,0,day,no,0,0,0,0,0⟩).1,(bM n r c l).2.2.1 ++ (eG n r c l (bM n r c l).2.1 ⟨5,0,day,no,0,0,0,0,0⟩).2.1,(bM n r c l).2.2.2 ++ [(eG n r c l (bM n r c l).2.1 ⟨5,0,day,no,0,0,0,0,0⟩).2.2]):=by
    rw [iZ]
    unfold HL
    rw [AH]
   rw [hS]
   dsimp only
   rw [if_neg (by simp only [decide_eq_true_eq,List.length_append]; omega),if_pos (C0 (by rw [List.length_append]; omega)),WG,wX _ (by omega),Option.bind_some,if_neg (by decide),if_neg (by simp only [List.length_append,hel]; simp)]
   have hat:at? ((bM n r c l).2.2.2 ++ [(eG n r c l (bM n r c l).2.1 ⟨5,0,day,no,0,0,0,0,0⟩).2.2]) (l.length:Int) = some (eG n r c l (bM n r c l).2.1 ⟨5,0,day,no,0,0,0,0,0⟩).2.2:=by
    rw [at?_nat,← hel]
    simp
   rw [hat,Option.bind_some]
   have hcl:∀ st:StF,PP N st->(B4 st).length <= 100000:=fun st hst=>by
    cases st with
    | none=>exact Nat.zero_le _
    | some s =>
     obtain ⟨o,m⟩:=s
     have h1:=AD o m
     have h2:=hst.1.len
     show (pP o m).length <= _
     omega
   have hno:∀ x,eG n r c l (bM n r c l).2.1 ⟨5,0,day,no,0,0,0,0,0⟩ = ((bM n r c l).2.1,[],x)->x ≠ 0->(if ((eG n r c l (bM n r c l).2.1 ⟨5,0,day,no,0,0,0,0,0⟩).2.2 != 0) = true then
     if true = true then
      if ((((bM n r c l).2.2.1 ++ (eG n r c l (bM n r c l).2.1 ⟨5,0,day,no,0,0,0,0,0⟩).2.1).length:Int) == ((bM n r c l).2.2.1.length:Int)) = true then
       (bU (B4 (bM n r c l).2.1) (B4 (eG n r c l (bM n r c l).2.1 ⟨5,0,day,no,0,0,0,0,0⟩).1)).bind fun (r10:Bool)=>some r10
      else some false
     else some false
    else (none:Option Bool)) = some true:=fun x hx h0=>by
    rw [hx]
    dsimp only
    rw [if_pos (by simpa using h0),if_pos rfl,List.append_nil,if_pos (by simp),wX _ (hcl _ hg)]
    rfl
   by_cases ck:M8 n r ⟨5,0,day,no,0,0,0,0,0⟩ = false
   ·have ht:eG n r c l (bM n r c l).2.1 ⟨5,0,day,no,0,0,0,0,0⟩ = ((bM n r c l).2.1,[],1):=by
     unfold eG
     rw [if_pos ck]
    have:=hno 1 ht (by decide)
    rw [if_pos (by rw [ht]; rfl)] at this ⊢
    exact this
   ·cases est:(bM n r c l).2.1 with
    | none =>
     have ht:eG n r c l (bM n r c l).2.1 ⟨5,0,day,no,0,0,0,0,0⟩ = ((bM n r c l).2.1,[],7):=by
      rw [est]
      unfold eG
      rw [if_neg ck]
      rfl
     have:=hno 7 ht (by decide)
     rw [est] at this ht
     rw [if_pos (by rw [ht]; rfl)] at this ⊢
     exact this
    | some s =>
     obtain ⟨o,m⟩:=s
     by_cases hz:fT no 0 m = 0
     ·have ht:eG n r c l (bM n r c l).2.1 ⟨5,0,day,no,0,0,0,0,0⟩ = ((bM n r c l).2.1,[],4):=by
       rw [est]
       unfold eG
       rw [if_neg ck]
       dsimp only
       rw [if_neg (by decide),if_pos rfl,if_pos hz]
      have:=hno 4 ht (by decide)
      rw [est] at this ht
      rw [if_pos (by rw [ht]; rfl)] at this ⊢
      exact this
     ·have ht:eG n r c l (some (o,m)) ⟨5,0,day,no,0,0,0,0,0⟩ = (some (o,sX n o m no),lX o m (sX n o m no),0):=by
       unfold eG
       rw [if_neg ck]
       dsimp only
       rw [if_neg (by decide),if_pos rfl,if_neg hz]
      rw [est] at hg hk
      obtain ⟨ho,hm⟩ : sN N o ∧ MJ o m:=hg
      have hk' : I3 o m:=hk
      obtain ⟨k,k1,k2,k3,k4⟩:=WU n r c l est
      obtain ⟨e,he,hen⟩ : ∃ e ∈ o,e.No = no:=by
       by_cases q:∃ e ∈ o,e.No = no
       ·exact q
       ·exact absurd (hk' no fun e he e'=>q ⟨e,he,e'⟩) hz
      have l1:=FR o m (sX n o m no)
      have hlen:=ho.len
      rw [ht]
      dsimp only
      rw [if_neg (by decide),if_pos (show qC _ _ _ from ⟨by omega,by rw [List.length_append]; omega,by rw [Int.toNat_natCast]; exact Nat.le_refl _⟩),Option.bind_some]
      dsimp only
      rw [aEP l _ (by omega) hel k1 k3 k4,Option.bind_some,if_pos (C0 (by omega)),B3,FM (J4 hf (by rw [List.length_take]; omega)),Option.bind_some,← k2]
      subst hN
      subst hen
      obtain ⟨i,hi1,hi2⟩:=aLu N e.No true hlen ((bM N r c l).2.2.1,(bM N r c l).2.2.2) (B4 (some (o,m))) ((bM N r c l).2.2.1 ++ lX o m (sX N o m e.No),(bM N r c l).2.2.2 ++ [0]) (B4 (some (o,sX N o m e.No))) he rfl ho.diff
      rw [hi1,Option.bind_some,if_neg (by simp only [decide_eq_true_eq]; omega)]
      have l2:=AD o m
      have l3:=AD o (sX N o m e.No)
      have hze:cl m e ≠ 0:=hz
      have hme:=hm e he
      have hre:=aIC ho hN' hm e.No he
      have hOf4:dM (B4 (some (o,m))) e.No = some (cl m e):=by
       show dM (pP o m) e.No = _
       rw [S7 _ (by omega),GL ho.diff he hme.1]
      have hOf6:dM (B4 (some (o,sX N o m e.No))) e.No = some 0:=by
       show dM (pP o (sX N o m e.No)) e.No = _
       rw [S7 _ (by omega),GL ho.diff he hre.1,aHd ho e.No he rfl]
      rw [hOf4,Option.bind_some,if_neg (by simp only [decide_eq_true_eq]; omega),hOf6,Option.bind_some,if_neg (by decide)]
      have h4:=aLg ho hN' hm true hi2 ((bM N r c l).2.2.1,(bM N r c l).2.2.2) ((bM N r c l).2.2.1 ++ lX o m (sX N o m e.No),(bM N r c l).2.2.2 ++ [0]) (CL _ _)
      have h4' : eX N e.No true o i ((bM N r c l).2.2.1,(bM N r c l).2.2.2) (B4 (some (o,m))) ((bM N r c l).2.2.1 ++ lX o m (sX N o m e.No),(bM N r c l).2.2.2 ++ [0]) (B4 (some (o,sX N o m e.No))) 0 0 [] = _:=h4
      rw [h4',Option.bind_some]
      have h5:∀ z,eY N true ((bM N r c l).2.2.1,(bM N r c l).2.2.2) ((bM N r c l).2.2.1 ++ lX o m (sX N o m e.No),(bM N r c l).2.2.2 ++ [0]) z 0 = some (.inl ()):=fun z=>by
       unfold eY
       refine YE (step:=fun w=>cN N true ((bM N r c l).2.2.1,(bM N r c l).2.2.2) ((bM N r c l).2.2.1 ++ lX o m (sX N o m e.No),(bM N r c l).2.2.2 ++ [0]) z w) (lX o m (sX N o m e.No)) (by omega) (fun j x hx=>?_) ?_
       ·show cN N true _ _ z j = _
        unfold cN
        rw [CL]
        simp only [fZ hx,if_true,mO hx,Option.bind_some]
        have hx':=List.mem_of_getElem? hx
        unfold lX at hx'
        obtain ⟨y,hy,rfl⟩:=List.mem_map.1 hx'
        have h0:=(List.mem_filter.1 hy).2
        rw [decide_eq_true_eq] at h0
        rw [if_neg (by simp),if_neg (by simp only [decide_eq_true_eq]; omega)]
       ·show cN N true _ _ z _ = _
        unfold cN
        rw [CL,if_neg (by simp)]
      show (eY _ _ _ _ _ 0).bind _ = _
      rw [h5,Option.bind_some]
      have hsm:=QI hm ho e.No
      have hd:=FW ho hN' hsm (kL e.No o)
      obtain ⟨pot,hc,hb⟩:=JD hd
      have his:=EP ho hN' hsm (kL e.No o) m
      show (gG N ((uH (kL e.No o) (vX e.No m) o).map (pW (vX e.No m)))).bind _ = _
      rw [hc,Option.bind_some,if_pos rfl,if_pos (by rfl),aFG,WA hd hb.len hb.bald,Option.bind_some]
      have hsum:fI (el (rV N ((uH (kL e.No o) (vX e.No m) o).map (pW (vX e.No m))))) ((uH (kL e.No o) (vX e.No m) o).map (pW (vX e.No m))).length = V5 (uH (kL e.No o) (vX e.No m) o) (cl (sX N o m e.No)):=by
       rw [aC9]
       have his' : (uH (kL e.No o) (vX e.No m) o).map (cl (sX N o m e.No)) = rV N ((uH (kL e.No o) (vX e.No m) o).map (pW (vX e.No m))):=his
       rw [his',hb.len]
      rw [hsum]
      simp
  ·have hf0:∀ p:List aA,p.length <= 400->sB n r c p = false:=fun p hp=>by
    rw [Bool.eq_false_iff]
    exact fun q=>hf (J4 q (by omega))
   have s0:bU [] [] = some true:=wX [] (by decide)
   rw [aDU (hf0 l (by omega)),Option.bind_some,LL (hf0 l (by omega)),Option.bind_some,if_pos (by omega),if_pos (by omega),aDU (hf0 _ (by omega)),Option.bind_some,LL (hf0 _ (by omega)),Option.bind_some]
   dsimp only
   rw [if_neg (by decide),if_pos (show qC _ _ _ from C0 (Nat.le_refl _))]
   show (bU [] []).bind _ = _
   rw [s0,Option.bind_some,if_neg (by decide),if_pos (by rw [hl']; simp; omega),if_pos rfl,if_pos (by decide),Option.bind_some]
 ·rw [if_pos (by simp; omega)]
end Go.Proofs.Ytiimibimkpimbaa
