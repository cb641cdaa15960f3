/- Law 43: RightsMore: who is asked more clears no less. -/
import Derived.Test.YtgjcnbgfaimepaaPRight4
import Derived.Test.YtgjcnbgfaimepaaNextS
set_option linter.unusedVariables false
set_option linter.unusedSimpArgs false
namespace Go.Proofs.Ytgjcnbgfaimepaa
open Go.RowKit Vm
section
variable {m:Nat} {l:List aE} {asked:List Int}
theorem VF (g:Nat->Int):∀ k,k <= l.length->(∀ i,i < k->jD asked (el l i) = false->g i = 0)->dH g k = dH (fun j=>g (el (qK asked l l.length) j)) (qK asked l k).length
 | 0,_,_=>rfl
 | k + 1,hk,h=>by
  have ih:=VF g k (by omega) (fun i hi=>h i (by omega))
  show dH g k + g k = _
  rw [ih]
  cases hf:jD asked (el l k) with
  | false =>
   rw [show qK asked l (k + 1) = qK asked l k ++ if jD asked (el l k) = true then [k] else [] from rfl,hf,h k (by omega) hf]
   simp
  | true =>
   obtain ⟨h1,h2⟩:=U7 (by omega:k < l.length) hf
   rw [show (qK asked l (k + 1)).length = (qK asked l k).length + 1 by rw [show qK asked l (k + 1) = qK asked l k ++ if jD asked (el l k) = true then [k] else [] from rfl,if_pos hf]; simp]
   show _ = dH _ _ + g (el (qK asked l l.length) (qK asked l k).length)
   rw [h2]
theorem aMv (h:IW m (l.map iL)) {Z:List Int} (h0:∀ i,i < l.length->jD asked (el l i) = false->el Z i = 0) (hr:∀ i,i < l.length->0 <= el Z i ∧ el Z i <= (el l i).Sum) (hn:∀ v,v < m->netF (nH (l.map iL)) (pR (l.map iL)) l.length (el Z) v = 0) :
  u9 (nH (nU asked l)) (pR (nU asked l)) (sM (nU asked l)) m (nU asked l).length (fun j=>el Z (el (qK asked l l.length) j)) where
 lo:=fun j hj=>by
  rw [lD] at hj
  exact (hr _ (L0 hj).1).1
 hi:=fun j hj=>by
  rw [lD] at hj
  unfold sM
  rw [CL hj]
  exact (hr _ (L0 hj).1).2
 net:=fun v hv=>by
  have e:=hn v hv
  unfold netF at e ⊢
  rw [VF (asked:=asked) _ l.length (Nat.le_refl _) (fun i hi hf=>by rw [h0 i hi hf]; simp)] at e
  rw [lD]
  refine Eq.trans (gM fun j hj=>?_) e
  have hl:=(L0 hj).1
  unfold nH pR
  rw [CL hj,fN iL l _ hl]
theorem rO.sum {X q y:List Int} (b:rO m l asked X q y):dH (el X) l.length = dH (el y) (nU asked l).length:=by
 rw [VF (asked:=asked) (el X) l.length (Nat.le_refl _) b.off,lD]
 exact gM fun j hj=>b.at' j hj
theorem rO.all {X q y:List Int} (b:rO m l asked X q y) {v:Nat} (hv:v < m):Go.Proofs.Ytgjcnbgfaimepaa.netF (nH (l.map iL)) (pR (l.map iL)) l.length (el X) v = 0:=by
 rw [b.netF v _ (Nat.le_refl _)]
 have:=b.best.bald.net v hv
 rwa [lD] at this
theorem SC {asked' X q y X' q' y' : List Int} (h:IW m (l.map iL)) (hsub:∀ i,i < l.length->jD asked (el l i) = true->jD asked' (el l i) = true) (b:rO m l asked X q y) (b' : rO m l asked' X' q' y'):dH (el X) l.length <= dH (el X') l.length:=by
 have h0:∀ i,i < l.length->jD asked' (el l i) = false->el X i = 0:=fun i hi hf=>b.off i hi (by
  cases c:jD asked (el l i) with
  | false=>rfl
  | true=>rw [hsub i hi c] at hf; cases hf)
 have hb:=aMv (asked:=asked') h h0 (fun i hi=>b.rng h hi) (fun v hv=>b.all hv)
 have hk:=aHN (asked:=asked') h
 rw [b'.sum,VF (asked:=asked') (el X) l.length (Nat.le_refl _) h0,← lD]
 exact HR hk.fr hk.tt b'.best.bald hb b'.best.cert
theorem rO.total {X q y:List Int} (h:IW m (l.map iL)) (b:rO m l asked X q y):J9 X = dH (el X) l.length:=by
 have hl:=h.len
 rw [List.length_map] at hl
 have hok:NM X = true:=by
  unfold NM
  refine kG.2 fun i hi=>?_
  rw [b.len] at hi
  have:=b.rng h hi
  have:=(F3 h hi).2.2.2.2
  exact decide_eq_true ⟨by omega,by omega⟩
 unfold J9
 rw [if_pos ⟨by rw [b.len]; exact hl,hok⟩,b.len]
def KS (l:List aE):List Int:=l.flatMap fun d=>d.Rights.map (·.Owner)
theorem TD {k:Nat} (hk:k < l.length):KS (l.take (k + 1)) = KS (l.take k) ++ (el l k).Rights.map (·.Owner):=by
 unfold KS
 rw [List.take_succ_eq_append_getElem hk,List.flatMap_append,FD _ _ hk]
 simp
theorem LO (hr:∀ i,i < l.length->(el l i).Rights.length <= 12):∀ k,k <= l.length->(KS (l.take k)).length <= 12 * k
 | 0,_=>by simp [KS]
 | k + 1,hk=>by
  have:=LO hr k (by omega)
  have h2:=hr k (by omega)
  rw [TD (by omega),List.length_append,List.length_map]
  omega
def sX (l:List aE):List Int:=E4 (yS (KS l))
theorem aHj (h9:l.length <= 9) (hr:∀ i,i < l.length->(el l i).Rights.length <= 12):gD l = some (sX l):=by
 unfold gD
 have key:∃ x,mT l 0 [] = some x ∧ x = KS l:=by
  unfold mT
  refine iM (step:=fun (w:Int × List Int)=>dS l w.1 w.2) (fun k (z:List Int)=>((k:Int),z)) l.length (fun k z=>z = KS (l.take k)) _ ?_ ?_ [] (by simp [KS])
  ·rintro k z hk rfl
   have w3:IntKind.wrap .i64 ((k:Int) + 1) = ((k + 1:Nat):Int):=cD (by omega)
   have hol:=LO hr k (by omega)
   have hrk:=hr k hk
   have hin:∃ x,mE l k (el l k) 0 (KS (l.take k)) = some x ∧ x = KS (l.take k) ++ (el l k).Rights.map (·.Owner):=by
    unfold mE
    refine iM (step:=fun (w:Int × List Int)=>dP l k (el l k) w.1 w.2) (fun i (y:List Int)=>((i:Int),y)) (el l k).Rights.length (fun i y=>y = KS (l.take k) ++ ((el l k).Rights.take i).map (·.Owner)) _ ?_ ?_ _ (by simp)
    ·rintro i y hi rfl
     have w4:IntKind.wrap .i64 ((i:Int) + 1) = ((i + 1:Nat):Int):=cD (by omega)
     refine .inl ⟨_,?_,rfl⟩
     show dP l k (el l k) i _ = _
     unfold dP
     rw [if_pos (by simpa using hi),eO _ i hi,Option.bind_some,if_pos (by simp; omega),w4,BV (·.Owner) _ i hi,List.append_assoc]
    ·rintro y rfl
     refine ⟨_,?_,rfl⟩
     show dP l k (el l k) ((el l k).Rights.length:Nat) _ = _
     unfold dP
     rw [if_neg (by simp),List.take_length]
   obtain ⟨x,e1,rfl⟩:=hin
   refine .inl ⟨_,?_,rfl⟩
   show dS l k _ = _
   unfold dS
   rw [if_pos (by simpa using hk),eO l k hk,Option.bind_some,e1,Option.bind_some,w3,TD hk]
  ·rintro z rfl
   refine ⟨_,?_,rfl⟩
   show dS l l.length _ = _
   unfold dS
   rw [if_neg (by simp),List.take_length]
 obtain ⟨x,h1,rfl⟩:=key
 have hol:=LO hr l.length (Nat.le_refl _)
 rw [List.take_length] at hol
 rw [h1,Option.bind_some,if_pos (by omega)]
 rfl
theorem aKR:Asc (sX l):=XJ (D6 _)
theorem YS {x:Int}:x ∈ sX l ↔ ∃ d ∈ l,∃ r ∈ d.Rights,r.Owner = x:=by
 unfold sX E4
 rw [VO,(DF _).mem_iff]
 unfold KS
 simp
theorem aJw {n:Int} (hc:DA n l = true) {x:Int} (hx:x ∈ sX l):0 <= x ∧ x < 200:=by
 obtain ⟨d,hd,r,hr,rfl⟩:=YS.1 hx
 unfold DA at hc
 rw [Bool.and_eq_true,List.all_eq_true] at hc
 have:=hc.1 d hd
 unfold ME at this
 simp only [Bool.and_eq_true,List.all_eq_true] at this
 have:=this.2 r hr
 unfold rOk at this
 simp at this
 exact this.2
theorem aBt {a:List Int} (h:Asc a) (hr:∀ x ∈ a,0 <= x ∧ x < 200):MM a = true:=by
 unfold MM
 refine kG.2 fun i hi=>decide_eq_true ?_
 have hm:=hr _ (EH a i hi)
 refine ⟨?_,hm.2⟩
 by_cases e:i = 0
 ·rw [if_pos e]; omega
 ·rw [if_neg e,FD _ _ hi,FD _ _ (by omega)]
  exact List.pairwise_iff_getElem.1 h (i - 1) i (by omega) hi (by omega)
theorem SX {a b:List Int} (h:∀ x ∈ a,x ∈ b) {d:aE} (hf:jD a d = true):jD b d = true:=by
 unfold jD at hf ⊢
 rw [List.all_eq_true] at hf ⊢
 intro r hr
 have:=hf r hr
 simp at this ⊢
 exact h _ this
theorem aH0 {d:aE} (hd:d ∈ l):jD (sX l) d = true:=by
 unfold jD
 rw [List.all_eq_true]
 intro r hr
 simp
 exact YS.2 ⟨d,hd,r,hr,rfl⟩
theorem aCx (h:∀ i,i < l.length->jD asked (el l i) = true):∀ k,k <= l.length->qK asked l k = List.range k
 | 0,_=>rfl
 | k + 1,hk=>by
  show qK asked l k ++ _ = _
  rw [aCx h k (by omega),if_pos (h k (by omega)),List.range_succ]
theorem Q0 (h:∀ i,i < l.length->jD asked (el l i) = true):nU asked l = l.map iL:=by
 unfold nU
 rw [aCx h _ (Nat.le_refl _)]
 refine List.ext_getElem? fun j=>?_
 rw [List.getElem?_map,List.getElem?_map]
 by_cases hj:j < l.length
 ·rw [List.getElem?_range hj,Option.map_some,List.getElem?_eq_getElem hj,Option.map_some,FD _ _ hj]
 ·rw [List.getElem?_eq_none (by simp; omega),List.getElem?_eq_none (by omega)]; rfl
theorem aB8 (hs:fV = some true) (n:Int) (l:List aE) (a2:Int) (hl:l.length < 4611686018427387904) (ha:0 <= a2 ∧ a2 <= 4294967295):gB n l a2 = some true:=by
 unfold gB
 obtain ⟨bf,hb,hf⟩:=aRT n l hl
 rw [hs,Option.bind_some,hb,Option.bind_some]
 cases bf with
 | false=>rfl
 | true =>
  obtain ⟨h9,hr⟩:=hf rfl
  rw [if_neg (by decide),aC3 n l (by omega),Option.bind_some]
  cases hc:DA n l with
  | false=>rfl
  | true =>
   rw [if_pos rfl,if_neg (by decide),aHj h9 hr,Option.bind_some]
   have hOl:(sX l).length <= 108:=by
    have h1:=LO hr l.length (Nat.le_refl _)
    rw [List.take_length] at h1
    have h2:(sX l).length <= (yS (KS l)).length:=Lib.compact_length_le _
    rw [CZ] at h2
    omega
   have hrt:∀ k,MM ((sX l).take k) = true:=fun k=>aBt (aKR.sublist (List.take_sublist _ _)) fun x hx=>aJw hc (List.mem_of_mem_take hx)
   have hclr:∀ k,∃ (m:Nat) (X q y:List Int),n = m ∧ IW m (l.map iL) ∧ dK n l ((sX l).take k) = some (X,q,0) ∧ rO m l ((sX l).take k) X q y:=fun k=>aG5 (aIq h9 hr (by rw [List.length_take]; omega)) hc (hrt k)
   obtain ⟨m,X5,q5,y5,rfl,hk,e5,b5⟩:=hclr (sX l).length
   rw [List.take_length] at e5 b5
   obtain ⟨m8,X8,q8,y8,em8,_,e8,b8⟩:=hclr 0
   rw [List.take_zero] at e8 b8
   obtain rfl:m = m8:=by omega
   rw [e5,Option.bind_some,aDv l h9,Option.bind_some]
   obtain ⟨x7,q7,e7,b7⟩:=aC4 hk
   rw [e7,Option.bind_some,e8,Option.bind_some,if_neg (by simp),if_neg (by simp),if_neg (by simp)]
   have hall:∀ i,i < l.length->jD (sX l) (el l i) = true:=fun i hi=>aH0 (EH l i hi)
   have hy:y5 = x7:=by
    have hb5:=b5.best
    rw [Q0 hall] at hb5
    exact (hb5.one hk b7).1
   have ht7:J9 x7 = J9 X5:=by
    rw [b5.total hk,b5.sum,Q0 hall,hy]
    have h7:=b7.len
    have hok:NM x7 = true:=by
     unfold NM
     refine kG.2 fun i hi=>?_
     rw [h7] at hi
     have c1:=b7.bald.lo i hi
     have c2:=b7.bald.hi i hi
     have:=(hk.each i hi).2.2.2.2
     unfold sM at c2
     exact decide_eq_true ⟨c1,by omega⟩
    unfold J9
    rw [if_pos ⟨by rw [h7]; exact hk.len,hok⟩,h7]
   simp only
   rw [LJ,Option.bind_some,LJ,Option.bind_some,ht7,if_neg (by simp),if_neg (by simp [b8.len])]
   have key:=xS? (step:=fun w=>bG m l a2 true (sX l) (X8,q8,0) w) (fun i:Nat=>(i:Int)) l.length (fun _=>true) () ?_ ?_
   ·change gY m l a2 true (sX l) (X8,q8,0) 0 = _ at key
    rw [key,kG.2 fun _ _=>rfl,if_pos rfl,Option.bind_some,Sum.elim_inl]
    by_cases h0:(sX l).length = 0
    ·rw [if_pos (by simpa using h0)]
    ·rw [if_neg (by simpa using h0),jS (n:=((sX l).length:Int) + 1) (by omega) (by omega),if_neg (by omega),jS (n:=a2) (by omega) (by omega)]
     obtain ⟨k,hkk,hkl⟩ : ∃ k:Nat,a2.tmod (((sX l).length:Int) + 1) = k ∧ k <= (sX l).length:=by
      have h1:0 <= a2.tmod (((sX l).length:Int) + 1):=Int.tmod_nonneg _ ha.1
      have h2:a2.tmod (((sX l).length:Int) + 1) < ((sX l).length:Int) + 1:=Int.tmod_lt_of_pos _ (by omega)
      exact ⟨(a2.tmod (((sX l).length:Int) + 1)).toNat,by omega,by omega⟩
     rw [hkk]
     obtain ⟨k2,hk2,hk2l,hkk2⟩ : ∃ k2:Nat,(if IntKind.wrap .i64 ((k:Int) + 1) < ((sX l).length:Int) then IntKind.wrap .i64 ((k:Int) + 1) else ((sX l).length:Int)) = k2 ∧ k2 <= (sX l).length ∧ k <= k2:=by
      rw [jS (by omega) (by omega)]
      split
      ·exact ⟨k + 1,by omega,by omega,by omega⟩
      ·exact ⟨(sX l).length,rfl,Nat.le_refl _,hkl⟩
     rw [hk2]
     have hsl:∀ j:Nat,j8 (sX l) 0 (j:Int) = (sX l).take j:=fun j=>by simp [j8]
     obtain ⟨ma,Xa,qa,ya,ema,_,ea,ba⟩:=hclr k
     obtain ⟨mb,Xb,qb,yb,emb,_,eb,bb⟩:=hclr k2
     obtain rfl:m = ma:=by omega
     obtain rfl:m = mb:=by omega
     rw [if_pos ⟨by omega,by omega,by simpa using hkl⟩,hsl,ea,Option.bind_some,if_pos ⟨by omega,by omega,by simpa using hk2l⟩,hsl,eb,Option.bind_some,if_pos trivial,if_pos (by simp),if_pos (by simp)]
     simp only
     rw [LJ,Option.bind_some,LJ,Option.bind_some,ba.total hk,bb.total hk]
     have m1:=SC hk (fun i hi hf=>SX (fun x hx=>(List.take_subset_take_left (sX l) hkk2) hx) hf) ba bb
     rw [if_pos (by simpa using m1),LJ,Option.bind_some,b8.total hk]
     have m2:=SC hk (fun i hi hf=>SX (fun x hx=>by cases hx) hf) b8 ba
     simp [m2]
   ·intro i hi
    show bG m l a2 true (sX l) (X8,q8,0) i = _
    unfold bG
    have w3:IntKind.wrap .i64 ((i:Int) + 1) = ((i + 1:Nat):Int):=cD (by omega)
    rw [if_pos (by simpa using hi)]
    simp only
    rw [eO X8 i (by rw [b8.len]; exact hi),Option.bind_some,w3]
    by_cases c:el X8 i > 0
    ·rw [if_pos (by simpa using c),eO l i hi,Option.bind_some]
     have hfr:jD [] (el l i) = true:=by
      cases hfr:jD [] (el l i) with
      | true=>rfl
      | false=>rw [b8.off i hi hfr] at c; omega
     have:(el l i).Rights.length = 0:=by
      unfold jD at hfr
      cases hR:(el l i).Rights with
      | nil=>rfl
      | cons r t=>rw [hR] at hfr; simp at hfr
     rw [if_neg (by rw [this]; decide)]
     rfl
    ·rw [if_neg (by simpa using c)]
     rfl
   ·show bG m l a2 true (sX l) (X8,q8,0) l.length = _
    unfold bG
    rw [if_neg (by simp)]
end
end Go.Proofs.Ytgjcnbgfaimepaa
