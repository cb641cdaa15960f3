/- Law 44: FairOrder. -/
import Derived.Test.YtiimibimkpimbaaPFb
set_option linter.unusedVariables false
set_option linter.unusedSimpArgs false
namespace Go.Proofs.Ytiimibimkpimbaa
open Go.RowKit Vm
theorem FS {α:Type} {a b:List α} (p:α→Bool) (h:∀ x,p x = true→(x ∈ a ↔ x ∈ b)):a.any p = b.any p:=by
 rw [Bool.eq_iff_iff,List.any_eq_true,List.any_eq_true]
 exact ⟨fun ⟨x,h1,h2⟩=>⟨x,(h x h2).1 h1,h2⟩,fun ⟨x,h1,h2⟩=>⟨x,(h x h2).2 h1,h2⟩⟩
theorem XL {n r c:Int} {a b:List aA} (h:∀ x,JD n r x = true→x.Kind ≠ 4→(x ∈ a ↔ x ∈ b)):dM n r c a = dM n r c b:=by
 have hL:∀ x,x ∈ mH n r c a ↔ x ∈ mH n r c b:=fun x=>by
  unfold mH
  rw [List.mem_filter,List.mem_filter]
  constructor <;> rintro ⟨h1,h2⟩ <;> refine ⟨?_,h2⟩ <;> unfold O2 at h2 <;> simp only [Bool.and_eq_true,beq_iff_eq] at h2
  ·exact (h x h2.1.1 (by omega)).1 h1
  ·exact (h x h2.1.1 (by omega)).2 h1
 have hB:∀ room day,xJ (mH n r c a) room day = xJ (mH n r c b) room day:=fun room day=>FS _ fun x _=>hL x
 have hE:∀ x,x ∈ qD n r c a ↔ x ∈ qD n r c b:=fun x=>by
  unfold qD
  rw [List.mem_filter,List.mem_filter]
  have e:xV n r c (mH n r c a) x = xV n r c (mH n r c b) x:=by
   unfold xV
   rw [hB]
  rw [e]
  constructor <;> rintro ⟨h1,h2⟩ <;> refine ⟨?_,h2⟩ <;> unfold xV at h2 <;> simp only [Bool.and_eq_true,decide_eq_true_eq] at h2
  ·exact (h x h2.1.1.1 (by omega)).1 h1
  ·exact (h x h2.1.1.1 (by omega)).2 h1
 refine aCk (KH n r c a) (KH n r c b) fun x=>?_
 rw [HI,HI,hE]
 have e:vJ c (qD n r c a) (mH n r c a) x = vJ c (qD n r c b) (mH n r c b) x:=by
  unfold vJ GK H4
  rw [hB,FS (aBx x) fun y _=>hE y,FS (W7 1 x.No x.To) fun y _=>hE y,FS (W7 2 x.No x.From) fun y _=>hE y,FS (W7 2 x.No x.To) fun y _=>hE y]
 rw [e]
theorem OR (n r c:Int) (p p' : List aA) (s:List aA × MI) (e:aA):fE n r c p (some s) e = fE n r c p' (some s) e:=by
 obtain ⟨o,m⟩:=s
 rfl
theorem UW (n r c:Int) (p:List aA) (s:List aA × MI) (e:aA):∃ s',(fE n r c p (some s) e).1 = some s':=by
 obtain ⟨o,m⟩:=s
 unfold fE
 split
 ·exact ⟨_,rfl⟩
 ·dsimp only
  split
  ·exact ⟨_,rfl⟩
  ·split
   ·split
    ·exact ⟨_,rfl⟩
    ·exact ⟨_,rfl⟩
   ·exact ⟨_,rfl⟩
theorem aIm (n r c:Int):∀ (l:List aA) (a b:N7) (s:List aA × MI),a.2.1 = some s→b.2.1 = some s→a.2.2.1 = b.2.2.1→(l.foldl (AN n r c) a).2.1 = (l.foldl (AN n r c) b).2.1 ∧ (l.foldl (AN n r c) a).2.2.1 = (l.foldl (AN n r c) b).2.2.1
 | [],a,b,s,h1,h2,h3=>⟨h1.trans h2.symm,h3⟩
 | e :: l,a,b,s,h1,h2,h3=>by
  rw [List.foldl_cons,List.foldl_cons]
  obtain ⟨s',hs⟩:=UW n r c a.1 s e
  refine aIm n r c l _ _ s' ?_ ?_ ?_
  ·show (fE n r c a.1 a.2.1 e).1 = _
   rw [h1]; exact hs
  ·show (fE n r c b.1 b.2.1 e).1 = _
   rw [h2,OR n r c b.1 a.1]; exact hs
  ·show a.2.2.1 ++ (fE n r c a.1 a.2.1 e).2.1 = b.2.2.1 ++ (fE n r c b.1 b.2.1 e).2.1
   rw [h1,h2,h3,OR n r c b.1 a.1]
theorem NL (n r c:Int) (a b:List aA):bX n r c (a ++ b) = b.foldl (AN n r c) (bX n r c a):=by
 unfold bX
 rw [List.foldl_append]
section
variable (n r c:Int) (l:List aA) (hl:l.length ≤ 100) (sw tw:List Int) (b:Bool) (r3:(List aC) × (List Int)) (k:Nat) (hk:k ≤ l.length)
include hl hk
theorem aJs (ht:tw.length ≤ 50) (hu:∀ x ∈ tw,0 ≤ x ∧ x ≤ 255):∃ ext:List aA,eQ n r c l sw tw b r3 k 0 (l.take k) = some (l.take k ++ ext) ∧ ext.length ≤ 50 ∧ ∀ x ∈ ext,x ∈ l.take k ∧ x.Kind ≠ 4:=by
 unfold eQ
 obtain ⟨x,h1,h2⟩:=mA (step:=fun (w:Int × (List aA))=>cG n r c l sw tw b r3 k w.1 w.2) (fun j a=>((j:Int),a)) tw.length
  (fun j (a:List aA)=>∃ ext:List aA,a = l.take k ++ ext ∧ ext.length ≤ j ∧ ∀ x ∈ ext,x ∈ l.take k ∧ x.Kind ≠ 4)
  (fun a=>∃ ext:List aA,a = l.take k ++ ext ∧ ext.length ≤ tw.length ∧ ∀ x ∈ ext,x ∈ l.take k ∧ x.Kind ≠ 4) (fun j a hj hI=>by
  obtain ⟨ext,rfl,e1,e2⟩:=hI
  have w3:IntKind.wrap .i64 ((j:Int) + 1) = ((j + 1:Nat):Int):=dJ (by omega)
  obtain ⟨y,hy⟩ : ∃ y,tw[j]? = some y:=⟨tw[j],List.getElem?_eq_getElem hj⟩
  have hst:cG n r c l sw tw b r3 k j (l.take k ++ ext) = cG n r c l sw tw b r3 k j (l.take k ++ ext):=rfl
  conv at hst=>rhs; unfold cG
  rw [if_pos (by simp only [decide_eq_true_eq]; omega)] at hst
  by_cases k0:k = 0
  ·rw [if_neg (by simp only [decide_eq_true_eq]; omega)] at hst
   exact .inr ⟨_,hst,ext,rfl,by omega,e2⟩
  ·obtain ⟨u1,u2⟩:=hu y (List.mem_of_getElem? hy)
   have w5:IntKind.wrap .i64 y = y:=jT (by omega) (by omega)
   rw [if_pos (by simp only [decide_eq_true_eq]; omega),mO hy,Option.bind_some,if_neg (by omega),w5,Int.tmod_eq_emod_of_nonneg u1] at hst
   have m1:0 ≤ y % (k:Int):=Int.emod_nonneg _ (by omega)
   have m2:y % (k:Int) < (k:Int):=Int.emod_lt_of_pos _ (by omega)
   rw [aKY l _ m1 (by omega),Option.bind_some,w3] at hst
   have hin:el l (y % (k:Int)).toNat ∈ l.take k:=by
    rw [vL l _ (by omega)]
    refine List.mem_iff_getElem.2 ⟨(y % (k:Int)).toNat,by rw [List.length_take]; omega,?_⟩
    rw [List.getElem_take]
   by_cases c4:(el l (y % (k:Int)).toNat).Kind = 4
   ·rw [if_neg (by simpa using c4)] at hst
    exact .inl ⟨_,hst,ext,rfl,by omega,e2⟩
   ·rw [if_pos (by simpa using c4),if_pos (by rw [List.length_append,List.length_take]; omega)] at hst
    refine .inl ⟨_,hst,ext ++ [el l (y % (k:Int)).toNat],by rw [List.append_assoc],by rw [List.length_append,List.length_singleton]; omega,fun x hx=>?_⟩
    rcases List.mem_append.1 hx with hx | hx
    ·exact e2 x hx
    ·rw [List.mem_singleton.1 hx]
     exact ⟨hin,c4⟩) (fun a hI=>by
  refine ⟨a,?_,hI⟩
  show cG n r c l sw tw b r3 k tw.length a = _
  unfold cG
  rw [if_neg (by simp)]) (l.take k) ⟨[],by simp,Nat.le_refl _,fun x hx=>by cases hx⟩
 obtain ⟨ext,rfl,e1,e2⟩:=h2
 exact ⟨ext,h1,by omega,e2⟩
omit hl hk in
theorem aJm (hsw:sw.length ≤ 200) (hu:∀ x ∈ sw,0 ≤ x ∧ x ≤ 255) (p:List aA) (hp:k ≤ p.length) (hpl:p.length ≤ 1000):∃ q,eV n r c l sw b r3 k 0 p = some q ∧ q.Perm p:=by
 unfold eV
 obtain ⟨x,h1,h2⟩:=mA (step:=fun (w:Int × (List aA))=>cJ n r c l sw b r3 k w.1 w.2) (fun j a=>((j:Int),a)) (sw.length - 1) (fun j (a:List aA)=>a.Perm p) (fun a=>a.Perm p) (fun j a hj hI=>by
  have w3:IntKind.wrap .i64 ((j:Int) + 1) = ((j + 1:Nat):Int):=dJ (by omega)
  have hst:cJ n r c l sw b r3 k j a = cJ n r c l sw b r3 k j a:=rfl
  conv at hst=>rhs; unfold cJ
  rw [w3,if_pos (by simp only [decide_eq_true_eq]; omega)] at hst
  by_cases k0:k = 0
  ·rw [if_neg (by simp only [decide_eq_true_eq]; omega)] at hst
   exact .inr ⟨_,hst,hI⟩
  ·have hlen:=hI.length_eq
   obtain ⟨y,hy⟩ : ∃ y,sw[j]? = some y:=⟨sw[j],List.getElem?_eq_getElem (by omega)⟩
   obtain ⟨z,hz⟩ : ∃ z,sw[j + 1]? = some z:=⟨sw[j + 1],List.getElem?_eq_getElem (by omega)⟩
   obtain ⟨y1,y2⟩:=hu y (List.mem_of_getElem? hy)
   obtain ⟨z1,z2⟩:=hu z (List.mem_of_getElem? hz)
   have wy:IntKind.wrap .i64 y = y:=jT (by omega) (by omega)
   have wz:IntKind.wrap .i64 z = z:=jT (by omega) (by omega)
   have my1:0 ≤ y % (a.length:Int):=Int.emod_nonneg _ (by omega)
   have my2:y % (a.length:Int) < (a.length:Int):=Int.emod_lt_of_pos _ (by omega)
   have mz1:0 ≤ z % (a.length:Int):=Int.emod_nonneg _ (by omega)
   have mz2:z % (a.length:Int) < (a.length:Int):=Int.emod_lt_of_pos _ (by omega)
   have hi:(y % (a.length:Int)).toNat < a.length:=by omega
   have hj' : (z % (a.length:Int)).toNat < a.length:=by omega
   rw [if_pos (by simp only [decide_eq_true_eq]; omega),mO hy,Option.bind_some,if_neg (by omega),mO hz,Option.bind_some,if_neg (by omega),wy,wz,Int.tmod_eq_emod_of_nonneg y1,Int.tmod_eq_emod_of_nonneg z1] at hst
   generalize (y % (a.length:Int)) = u at hst my1 my2 hi
   generalize (z % (a.length:Int)) = v at hst mz1 mz2 hj'
   rw [if_pos ⟨my1,hi⟩,List.getElem?_eq_getElem hi,Option.bind_some,if_pos ⟨mz1,hj'⟩,List.getElem?_eq_getElem hj',Option.bind_some,if_pos ⟨my1,hi⟩,Option.bind_some,if_pos ⟨mz1,by rw [List.length_set]; exact hj'⟩,List.getElem?_eq_getElem (by rw [List.length_set]; exact hj'),Option.bind_some] at hst
   exact .inl ⟨_,hst,(List.set_set_perm hi hj').trans hI⟩) (fun a hI=>by
  refine ⟨a,?_,hI⟩
  have w3:IntKind.wrap .i64 (((sw.length - 1:Nat):Int) + 1) = ((sw.length - 1 + 1:Nat):Int):=dJ (by omega)
  show cJ n r c l sw b r3 k ((sw.length - 1:Nat):Int) a = _
  unfold cJ
  rw [w3,if_neg (by simp only [decide_eq_true_eq]; omega)]) p (List.Perm.refl _)
 exact ⟨x,h1,h2⟩
end
def yA (x:aA):aA:=if x.Kind = 4 then ⟨-1,0,0,0,0,0,0,0,0⟩ else x
theorem aIT (n r c:Int) (l:List aA) (b:Bool) (r3:(List aC) × (List Int)) (k:Int) (q:List aA) (hq:q.length ≤ 1000):eU n r c l b r3 k 0 q = some (q.map yA):=by
 unfold eU
 obtain ⟨x,h1,h2⟩:=mA (step:=fun (w:Int × (List aA))=>cH n r c l b r3 k w.1 w.2) (fun j a=>((j:Int),a)) q.length
  (fun j (a:List aA)=>a.length = q.length ∧ ∀ i,i < q.length→el a i = if i < j then yA (el q i) else el q i) (fun a=>a = q.map yA) (fun j a hj hI=>by
  obtain ⟨i1,i2⟩:=hI
  have w3:IntKind.wrap .i64 ((j:Int) + 1) = ((j + 1:Nat):Int):=dJ (by omega)
  have hst:cH n r c l b r3 k j a = cH n r c l b r3 k j a:=rfl
  conv at hst=>rhs; unfold cH
  have hj2:=i2 j hj
  rw [if_neg (Nat.lt_irrefl _)] at hj2
  rw [if_pos (by simp only [decide_eq_true_eq]; omega),if_pos ⟨by omega,by rw [Int.toNat_natCast]; omega⟩,Int.toNat_natCast,DV a j (by omega),Option.bind_some,w3,hj2] at hst
  by_cases c4:(el q j).Kind = 4
  ·rw [if_pos (by simpa using c4),if_pos ⟨by omega,by omega⟩,Option.bind_some] at hst
   refine .inl ⟨_,hst,by rw [List.length_set]; exact i1,fun i hi=>?_⟩
   rw [fH]
   by_cases e:i = j
   ·rw [if_pos ⟨e,by omega⟩,if_pos (by omega),e]
    unfold yA
    rw [if_pos c4]
   ·rw [if_neg (fun q=>e q.1),i2 i hi]
    by_cases e2:i < j
    ·rw [if_pos e2,if_pos (by omega)]
    ·rw [if_neg e2,if_neg (by omega)]
  ·rw [if_neg (by simpa using c4)] at hst
   refine .inl ⟨_,hst,i1,fun i hi=>?_⟩
   rw [i2 i hi]
   by_cases e:i = j
   ·rw [if_neg (by omega),if_pos (by omega),e]
    unfold yA
    rw [if_neg c4]
   ·by_cases e2:i < j
    ·rw [if_pos e2,if_pos (by omega)]
    ·rw [if_neg e2,if_neg (by omega)]) (fun a hI=>by
  obtain ⟨i1,i2⟩:=hI
  refine ⟨a,?_,?_⟩
  ·show cH n r c l b r3 k q.length a = _
   unfold cH
   rw [if_neg (by simp only [decide_eq_true_eq]; omega)]
  ·refine xP (by rw [List.length_map]; exact i1) fun i hi=>?_
   rw [i2 i (by omega),if_pos (by omega),PV yA (by omega)]) q ⟨rfl,fun i hi=>by rw [if_neg (Nat.not_lt_zero _)]⟩
 rw [h2] at h1
 exact h1
theorem QV (hs:iQ = some true) {n r c:Int} {l:List aA} {sw tw:List Int} (hn:dO n) (hw:∀ e ∈ l,dO e.Sum) (hsw:∀ x ∈ sw,0 ≤ x ∧ x ≤ 255) (htw:∀ x ∈ tw,0 ≤ x ∧ x ≤ 255):iS n r c l sw tw = some true:=by
 unfold iS jW
 rw [hs,Option.bind_some,Option.bind_some]
 by_cases hl:l.length ≤ 100
 ·rw [if_neg (by simp; omega)]
  by_cases hls:sw.length ≤ 200
  ·rw [if_neg (by simp only [decide_eq_true_eq]; omega)]
   by_cases hlt:tw.length ≤ 50
   ·rw [if_neg (by simp only [decide_eq_true_eq]; omega)]
    -- the other order of what stands ahead of the k-th
    have ord:∀ (k:Nat) (r3:(List aC) × (List Int)),k ≤ l.length→∃ s:List aA,s.length ≤ 150 ∧ (∀ x ∈ s,x.Kind ≠ 4 ∧ dO x.Sum) ∧ (∀ x,x.Kind ≠ 4→x.Kind ≠ -1→(x ∈ s ↔ x ∈ l.take k)) ∧
      ∀ K:List aA→Option Bool,((eQ n r c l sw tw true r3 k 0 (([]:List aA) ++ l.take k)).bind fun (r10:(List aA))=>(eV n r c l sw true r3 k 0 r10).bind fun (r20:(List aA))=>(eU n r c l true r3 k 0 r20).bind K) = K s:=by
     intro k r3 hk
     obtain ⟨ext,h1,h2,h3⟩:=aJs n r c l hl sw tw true r3 k hk hlt htw
     have hpl:(l.take k ++ ext).length ≤ 150:=by rw [List.length_append,List.length_take]; omega
     obtain ⟨q,h4,h5⟩:=aJm n r c l sw true r3 k hls hsw (l.take k ++ ext) (by rw [List.length_append,List.length_take]; omega) (by omega)
     have hql:=h5.length_eq
     have hq:∀ x,x ∈ q ↔ x ∈ l.take k:=fun x=>by
      rw [h5.mem_iff,List.mem_append]
      exact ⟨fun z=>z.elim id fun z=>(h3 x z).1,.inl⟩
     refine ⟨q.map yA,by rw [List.length_map]; omega,fun x hx=>?_,fun x x4 x1=>?_,fun K=>?_⟩
     ·obtain ⟨y,hy,rfl⟩:=List.mem_map.1 hx
      unfold yA
      split
      ·exact ⟨by decide,aI8⟩
      ·rename_i c4
       exact ⟨c4,hw y (List.mem_of_mem_take ((hq y).1 hy))⟩
     ·rw [List.mem_map,← hq]
      constructor
      ·rintro ⟨y,hy,e⟩
       unfold yA at e
       split at e
       ·exact absurd (by rw [← e]) x1
       ·rw [← e]; exact hy
      ·intro hx
       refine ⟨x,hx,?_⟩
       unfold yA
       rw [if_neg x4]
     ·rw [List.nil_append,h1,Option.bind_some,h4,Option.bind_some,aIT n r c l true r3 k q (by omega),Option.bind_some]
    by_cases hf:rU n r c l = true
    ·obtain ⟨d1,_⟩:=A3 hf
     obtain ⟨n1,n2⟩:=aJY hn d1
     obtain ⟨N,hN⟩ : ∃ N:Nat,n = N:=⟨n.toNat,by omega⟩
     have hN' : N ≤ 40:=by omega
     have hel:=yI n r c l
     have hol:=MK (r:=r) (c:=c) hN hN' l hw
     have hcl:∀ st:StF,OB N st→(YB st).length ≤ 100000:=fun st hst=>by
      cases st with
      | none=>exact Nat.zero_le _
      | some s =>
       obtain ⟨o,m⟩:=s
       have h1:=RH o m
       have h2:=hst.1.len
       show (yJ o m).length ≤ _
       omega
     have hg:=AR (n:=n) (r:=r) (c:=c) hN hN' hw l.length
     rw [List.take_length] at hg
     -- the two runs agree
     have fin:∀ (k:Nat),k ≤ l.length→dP l (bX n r c l).2.2.2 = some (k:Int)→(∀ s:List aA,(∀ x ∈ s,x.Kind ≠ 4 ∧ dO x.Sum)→(∀ x,x.Kind ≠ 4→x.Kind ≠ -1→(x ∈ s ↔ x ∈ l.take k))→(bX n r c (s ++ l.drop k)).2.1 = (bX n r c l).2.1 ∧ (bX n r c (s ++ l.drop k)).2.2.1 = (bX n r c l).2.2.1) →
       ((iV n r c l).bind fun (r3:(List aC) × (List Int)) =>
    (dP l r3.2).bind fun (r4:Int) =>
    if o0 l.length 0 r4 then
     if (0 + (nO l 0 r4).length) * 72 ≤ 140737488355328 then
      (eQ n r c l sw tw true r3 r4 0 (([]:List aA) ++ (nO l 0 r4))).bind fun (r10:(List aA)) =>
      (eV n r c l sw true r3 r4 0 r10).bind fun (r20:(List aA)) =>
      (eU n r c l true r3 r4 0 r20).bind fun (r26:(List aA)) =>
      if (0 + r26.length) * 72 ≤ 140737488355328 then
       if o0 l.length r4 (l.length:Int) then
        if ((([]:List aA) ++ r26).length + (nO l r4 (l.length:Int)).length) * 72 ≤ 140737488355328 then
         (iV n r c ((([]:List aA) ++ r26) ++ (nO l r4 (l.length:Int)))).bind fun (r27:(List aC) × (List Int)) =>
         if true = true then
          (bV r3.1 r27.1).bind fun (r28:Bool) =>
          if r28 = true then
           (fG n r c l).bind fun (r29:(List aC)) =>
           (fG n r c ((([]:List aA) ++ r26) ++ (nO l r4 (l.length:Int)))).bind fun (r30:(List aC)) =>
           (bV r29 r30).bind fun (r31:Bool) =>
           some r31
          else
           some false
         else
          some false
        else none
       else none
      else none
     else none
    else none) = some true:=fun k hk hfirst hsame=>by
      rw [aCR hN hN' hf hw,Option.bind_some]
      dsimp only
      rw [hfirst,Option.bind_some,if_pos (F4 hk),AJ,if_pos (by rw [List.length_take]; omega)]
      obtain ⟨s,s1,s2,s3,s4⟩:=ord k ((bX n r c l).2.2.1,(bX n r c l).2.2.2) hk
      refine (s4 _).trans ?_
      have hd:nO l (k:Int) (l.length:Int) = l.drop k:=by
       unfold nO
       rw [Int.toNat_natCast,Int.toNat_natCast,List.take_length]
      obtain ⟨q1,q2⟩:=hsame s s2 s3
      have hsl:(s ++ l.drop k).length ≤ 400:=by rw [List.length_append,List.length_drop]; omega
      have hsw' : ∀ e ∈ s ++ l.drop k,dO e.Sum:=fun e he=>by
       rcases List.mem_append.1 he with he | he
       ·exact (s2 e he).2
       ·exact hw e (List.mem_of_mem_drop he)
      rw [if_pos (by omega),if_pos (show o0 _ _ _ from ⟨by omega,by omega,by rw [Int.toNat_natCast]; exact Nat.le_refl _⟩),hd,List.nil_append,if_pos (by rw [List.length_drop]; omega),aCR hN hN' (JE hf hsl) hsw',Option.bind_some,if_pos rfl]
      dsimp only
      rw [q2,wA _ (by omega),Option.bind_some,if_pos rfl,G1 hN hN' hf hw,Option.bind_some,G1 hN hN' (JE hf hsl) hsw',Option.bind_some,q1,wA _ (hcl _ hg)]
      rfl
     rcases aB3 l (bX n r c l).2.2.2 with q | ⟨k,h1,h2,h3⟩
     ·refine fin l.length (Nat.le_refl _) (V4 l _ (by omega) hel q) fun s s2 s3=>?_
      obtain ⟨o1,o2⟩:=DU n r c l q
      rw [List.drop_length,List.append_nil,o1,o2]
      refine DU n r c s fun i hi z=>?_
      exact (s2 (el s i) (B5 s i hi)).1 z.1
     ·refine fin k (by omega) (aEv l _ (by omega) hel h1 h2 h3) fun s s2 s3=>?_
      obtain ⟨e1,e2,e3,e4⟩:=VN n r c l k h1 h2 h3
      obtain ⟨o1,o2⟩:=DU n r c s fun i hi z=>(s2 (el s i) (B5 s i hi)).1 z.1
      have hck:∀ x,JD n r x = true→x.Kind ≠ -1:=fun x hx q=>by
       unfold JD T4 at hx
       rw [q] at hx
       simp at hx
      have hcount:dM n r c s = dM n r c (l.take k):=XL fun x hx x4=>s3 x x4 (hck x hx)
      have hdrop:l.drop k = el l k :: l.drop (k + 1):=by
       rw [List.drop_eq_getElem_cons h1,vL l k h1]
      have hfull:bX n r c l = (l.drop (k + 1)).foldl (AN n r c) (bX n r c (l.take (k + 1))):=by
       rw [← NL,List.take_append_drop]
      have hs' : bX n r c (s ++ l.drop k) = (l.drop (k + 1)).foldl (AN n r c) (bX n r c (s ++ [el l k])):=by
       rw [hdrop,← NL,List.append_assoc]
       rfl
      have hsn:bX n r c (s ++ [el l k]) = (s ++ [el l k],some (dM n r c (l.take k),lM n (dM n r c (l.take k))),yJ (dM n r c (l.take k)) (lM n (dM n r c (l.take k))),(bX n r c s).2.2.2 ++ [0]):=by
       have ht:fE n r c s none (el l k) = (some (dM n r c (l.take k),lM n (dM n r c (l.take k))),yJ (dM n r c (l.take k)) (lM n (dM n r c (l.take k))),0):=by
        unfold fE
        rw [e3,if_neg (by decide)]
        dsimp only
        rw [if_pos h2.1,if_neg e4,hcount,if_neg (by omega)]
       rw [j0]
       show ((bX n r c s).1 ++ [el l k],(fE n r c (bX n r c s).1 (bX n r c s).2.1 (el l k)).1,(bX n r c s).2.2.1 ++ (fE n r c (bX n r c s).1 (bX n r c s).2.1 (el l k)).2.1,(bX n r c s).2.2.2 ++ [(fE n r c (bX n r c s).1 (bX n r c s).2.1 (el l k)).2.2]) = _
       rw [yO,o1,o2,ht,List.nil_append]
      rw [hfull,hs']
      exact aIm n r c _ _ _ (dM n r c (l.take k),lM n (dM n r c (l.take k))) (by rw [hsn]) (by rw [e1]) (by rw [hsn,e1])
    ·have hf0:∀ p:List aA,p.length ≤ 400→rU n r c p = false:=fun p hp=>by
      rw [Bool.eq_false_iff]
      exact fun q=>hf (JE q (by omega))
     rw [aCS (hf0 l (by omega)),Option.bind_some]
     dsimp only
     rw [aAn,Option.bind_some,if_pos (F4 (Nat.le_refl _)),AJ,if_pos (by rw [List.length_take]; omega)]
     obtain ⟨s,s1,s2,s3,s4⟩:=ord l.length ([],[]) (Nat.le_refl _)
     refine (s4 _).trans ?_
     have hd:nO l (l.length:Int) (l.length:Int) = []:=by
      unfold nO
      rw [Int.toNat_natCast,List.take_length,List.drop_length]
     have s0:bV [] [] = some true:=wA [] (by decide)
     rw [if_pos (by omega),if_pos (show o0 _ _ _ from ⟨by omega,by omega,by rw [Int.toNat_natCast]; exact Nat.le_refl _⟩),hd,List.nil_append,if_pos (by simp; omega),List.append_nil,aCS (hf0 s (by omega)),Option.bind_some,if_pos rfl]
     dsimp only
     rw [s0,Option.bind_some,if_pos rfl,KW (hf0 l (by omega)),Option.bind_some,KW (hf0 s (by omega)),Option.bind_some,s0]
     rfl
   ·rw [if_pos (by simp only [decide_eq_true_eq]; omega)]
  ·rw [if_pos (by simp only [decide_eq_true_eq]; omega)]
 ·rw [if_pos (by simp; omega)]
end Go.Proofs.Ytiimibimkpimbaa
