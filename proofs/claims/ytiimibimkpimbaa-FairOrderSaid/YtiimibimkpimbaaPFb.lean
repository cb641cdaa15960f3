/- fair.Run and fair.Cleared do what is told in plain terms: the inner loops. fair.Run and fair.Cleared do what is told in plain terms. Law 44: what comes of the first closing; FairCut. Law 44: the reference's small functions; the sanity function. Law 44: the sum of a number among what is told. Law 44: what is cleared nets to nothing in each group. Law 44: reopening. -/
import Derived.Test.YtiimibimkpimbaaPFa
set_option linter.unusedVariables false
set_option linter.unusedSimpArgs false
namespace Go.Proofs.Ytiimibimkpimbaa
open Go.RowKit Vm
theorem aHj {S A X:Type} {step:S→Option (S ⊕ X)} (st:Nat→A→S) (n:Nat) (I:Nat→A→Prop) (Q:X→Prop)
  (h:∀ k a,k < n→I k a→(∃ a',step (st k a) = some (.inl (st (k + 1) a')) ∧ I (k + 1) a') ∨ ∃ x,step (st k a) = some (.inr x) ∧ Q x)
  (he:∀ a,I n a→∃ x,step (st n a) = some (.inr x) ∧ Q x) (k0:Nat) (hk0:k0 ≤ n) (a:A) (h0:I k0 a):∃ x,eX step (st k0 a) = some x ∧ Q x:=by
 have key:∀ m k a,k + m = n→I k a→∃ x,eX step (st k a) = some x ∧ Q x:=by
  intro m
  induction m with
  | zero =>
   intro k a hk hI
   obtain rfl:k = n:=by omega
   obtain ⟨x,h1,h2⟩:=he a hI
   exact ⟨x,gN h1,h2⟩
  | succ m ih =>
   intro k a hk hI
   rcases h k a (by omega) hI with ⟨a',h1,h2⟩ | ⟨x,h1,h2⟩
   ·rw [gH h1]
    exact ih (k + 1) a' (by omega) h2
   ·exact ⟨x,gN h1,h2⟩
 exact key (n - k0) k0 a (by omega) h0
theorem vD {α β:Type} (p:α→Bool) (F:α→β):∀ (l:List α) (acc:List β),l.foldl (fun out x=>if p x = true then out ++ [F x] else out) acc = acc ++ (l.filter p).map F
 | [],acc=>by simp
 | x :: l,acc=>by
  rw [List.foldl_cons,vD p F l,List.filter_cons]
  split <;> simp
theorem HQ {k:Int} (h:0 ≤ k ∧ k < 1000):dO k:=⟨by omega,by omega⟩
theorem aI8:dO 0:=⟨by decide,by decide⟩
section
variable (a0 a1 a2:Int) (a3:List aA) (p2:Int) (p3:List aC) (p4:List Int) (p8:Int) (p10:MB)
theorem aJL {o:List aA} (hl:o.length ≤ 400) (hno:∀ e ∈ o,0 ≤ e.No ∧ e.No < 1000) (g:aE) (m:MI) (hm:m.length ≤ 100000000000) :
  sD a0 a1 a2 a3 p10 p2 p3 p4 p8 g o 0 m [] [] = some (vT (IQ g o) m,(xX g (fun x=>x.Sum) o).map (tJ fun x=>x.Sum),(xX g (fun x=>x.Sum) o).map (·.No)):=by
 unfold sD
 refine HW (step:=fun (w:Int × MI × (List aM) × (List Int))=>jC a0 a1 a2 a3 p10 p2 p3 p4 p8 g o w.1 w.2.1 w.2.2.1 w.2.2.2) g (fun x=>x.Sum) o hl m hm (fun k e m d u hx h1 h2 h3=>?_) (fun a=>?_)
 ·show jC a0 a1 a2 a3 p10 p2 p3 p4 p8 g o k m d u = _
  have hk:=qR hx
  have w3:IntKind.wrap .i64 ((k:Int) + 1) = ((k + 1:Nat):Int):=dJ (by omega)
  have hi:=HQ (hno e (List.mem_of_getElem? hx))
  unfold jC tH kC
  simp only [gY hx,if_true,mO hx,Option.bind_some,aG9,w3,if_pos hi,if_pos aI8,if_pos h1]
  unfold S2
  by_cases c:XW g e = true
  ·have c' : ((AH e).currency == g.currency && (AH e).due == g.due) = true:=c
   rw [c',if_neg (by decide),if_pos c]
   by_cases c2:0 < e.Sum
   ·rw [if_pos (decide_eq_true (show e.Sum > 0 from c2)),if_pos (by omega),if_pos (by omega),if_pos c2,if_pos c2]
    rfl
   ·rw [if_neg (by simpa using c2),if_neg c2,if_neg c2]
  ·have c' : ((AH e).currency == g.currency && (AH e).due == g.due) = false:=by
    rw [Bool.not_eq_true] at c; exact c
   rw [c',if_pos (by decide),if_neg c]
 ·show jC a0 a1 a2 a3 p10 p2 p3 p4 p8 g o o.length a.1 a.2.1 a.2.2 = _
  unfold jC
  rw [if_neg (by simp)]
theorem aIK (r12:aE) (r27:MI × (List aM) × (List Int)) (r28:(List Int) × (List Int) × Int) (r7:List aA) (hl:r28.1.length = r27.2.2.length) (hu:r27.2.2.length ≤ 400)
  (hi:∀ i ∈ r27.2.2,dO i) (hv:∀ i ∈ r28.1,dO i) (m:MI) (hm:m.length ≤ 100000000000) :
  sG a0 a1 a2 a3 p10 p2 p3 p4 p8 r12 r27 r28 r7 0 m = some (nP r27.2.2 r28.1 m):=by
 unfold sG
 refine QT (step:=fun (w:Int × MI)=>jA a0 a1 a2 a3 p10 p2 p3 p4 p8 r12 r27 r28 r7 w.1 w.2) r27.2.2 r28.1 hl hu m hm (fun k i v m h1 h2 h3=>?_) (fun m=>?_)
 ·show jA a0 a1 a2 a3 p10 p2 p3 p4 p8 r12 r27 r28 r7 k m = _
  have hk:=qR h1
  have w3:IntKind.wrap .i64 ((k:Int) + 1) = ((k + 1:Nat):Int):=dJ (by omega)
  unfold jA
  simp only [gY h2,if_true,mO h2,Option.bind_some,w3,Int.toNat_natCast,h1,if_pos (hi i (List.mem_of_getElem? h1)),if_pos (hv v (List.mem_of_getElem? h2)),if_pos h3]
  rw [if_pos ⟨by omega,hk⟩]
 ·show jA a0 a1 a2 a3 p10 p2 p3 p4 p8 r12 r27 r28 r7 r28.1.length m = _
  unfold jA
  rw [if_neg (by simp)]
theorem aDR {N:Nat} {d:List aM} (h:E4 N d):∀ v ∈ sA N d,dO v:=by
 intro v hv
 obtain ⟨q,_,hb⟩:=K5 h
 obtain ⟨i,hi,rfl⟩:=WG hv
 rw [hb.len] at hi
 have h1:=hb.bald.lo i hi
 have h2:=hb.bald.hi i hi
 unfold qU at h2
 have h3:=(h.each i hi).2.2.2.2
 exact ⟨by omega,by omega⟩
theorem aJB {N:Nat} {o:List aA} (ho:tM N o) (hN:N ≤ 40):sP N a1 a2 a3 p2 p3 p4 o 0 [] [] = some (lM N o):=by
 unfold sP
 have h:=pB (step:=fun (w:Int × MI × MB)=>jE N a1 a2 a3 p2 p3 p4 o w.1 w.2.1 w.2.2) (fun k a=>((k:Int),a)) o (u7 N o) (fun k a=>EP N o (o.take k) a) (fun a=>a.1) (fun k a e hx hI=>by
  have hk:=qR hx
  have he:e ∈ o:=List.mem_of_getElem? hx
  have w3:IntKind.wrap .i64 ((k:Int) + 1) = ((k + 1:Nat):Int):=dJ (by have:=ho.len; omega)
  have hs:=hI.step ho hN (fun x hx=>List.mem_of_mem_take hx) he
  have ht:o.take k ++ [e] = o.take (k + 1):=by
   rw [List.take_add_one,hx]; rfl
  rw [ht] at hs
  refine ⟨?_,hs⟩
  show jE N a1 a2 a3 p2 p3 p4 o k a.1 a.2 = _
  obtain ⟨_,_,_,_,_,q1,q2⟩:=ho.each e he
  have i1:dO e.Currency:=⟨by omega,by omega⟩
  have i2:dO e.Due:=⟨by omega,by omega⟩
  have l1:=hI.len1
  have l2:=hI.len2
  rw [List.length_take] at l1 l2
  have l3:=ho.len
  have hss:∀ x ∈ o,(fun x:aA=>x.Sum) x ≤ x.Sum:=fun x _=>Int.le_refl _
  have hd:=KA ho hN hss (AH e)
  obtain ⟨q,hc,hb⟩:=K5 hd
  unfold jE
  simp only [gY hx,if_true,mO hx,Option.bind_some,aG9,w3]
  show (if dO e.Currency then _ else none) = _
  rw [if_pos i1]
  show (if dO e.Due then _ else none) = _
  rw [if_pos i2]
  unfold u7
  show (if (!fT (fC e.Currency e.Due) false a.2) = true then _ else _) = _
  by_cases c:fT (fC e.Currency e.Due) false a.2 = true
  ·rw [c,if_neg (by decide),if_pos rfl]
  ·have c' : fT (fC e.Currency e.Due) false a.2 = false:=by
    rw [Bool.not_eq_true] at c; exact c
   rw [c',if_pos (show (!false) = true from rfl),if_neg Bool.false_ne_true]
   show (if dO e.Currency then _ else none) = _
   rw [if_pos i1]
   show (if dO e.Due then _ else none) = _
   rw [if_pos i2,if_pos (by omega),aJL _ _ _ _ _ _ _ _ _ (by omega) (fun e he=>(ho.each e he).2.2.2.2.1) _ _ (by omega),Option.bind_some]
   dsimp only
   rw [hc,Option.bind_some,aIK _ _ _ _ _ _ _ _ _ _ _ _ _ (by dsimp only; rw [O8 hd,List.length_map,List.length_map]) (by
    dsimp only
    rw [List.length_map]
    have:(xX (AH e) (fun x=>x.Sum) o).length ≤ o.length:=List.length_filter_le _ _
    omega) (fun i hi=>by
    obtain ⟨x,hx,rfl⟩:=List.mem_map.1 hi
    exact HQ (ho.each x (FJ.1 hx).1).2.2.2.2.1) (fun v hv=>aDR hd v hv) _ (by
    have h1:=DY (IQ (AH e) o) a.1
    have h2:(IQ (AH e) o).length ≤ o.length:=List.length_filter_le _ _
    omega)]
   rfl) (fun a _=>by
  show jE N a1 a2 a3 p2 p3 p4 o o.length a.1 a.2 = _
  unfold jE
  rw [if_neg (by simp)]) ([],[]) ⟨fun e he=>(by simp [fT]),fun e he=>(by simp at he),(by simp),(by simp)⟩
 exact h.1
theorem aDS {o:List aA} (hl:o.length ≤ 400) (hno:∀ e ∈ o,0 ≤ e.No ∧ e.No < 1000) (m:MI):qC a0 a1 a2 a3 p2 p3 p4 m o 0 [] = some (yJ o m):=by
 unfold qC
 have h:=pB (step:=fun (w:Int × (List aC))=>jH a0 a1 a2 a3 p2 p3 p4 m o w.1 w.2) (fun k a=>((k:Int),a)) o (fun out x=>if decide (0 < cl m x) = true then out ++ [⟨4,x.Room,x.No,cl m x⟩] else out) (fun k a=>a.length ≤ k) id (fun k a x hx hI=>by
  have hk:=qR hx
  have w3:IntKind.wrap .i64 ((k:Int) + 1) = ((k + 1:Nat):Int):=dJ (by omega)
  constructor
  ·show jH a0 a1 a2 a3 p2 p3 p4 m o k a = _
   unfold jH
   simp only [gY hx,if_true,mO hx,Option.bind_some,w3,if_pos (HQ (hno x (List.mem_of_getElem? hx)))]
   by_cases c:0 < cl m x
   ·rw [if_pos (decide_eq_true (show fT x.No 0 m > 0 from c)),if_pos (by omega),if_pos (decide_eq_true c)]
    rfl
   ·rw [if_neg (by simpa [cl] using c),if_neg (by simpa using c)]
  ·split
   ·rw [List.length_append,List.length_singleton]; omega
   ·omega) (fun a hI=>by
  show jH a0 a1 a2 a3 p2 p3 p4 m o o.length a = _
  unfold jH
  rw [if_neg (by simp)]
  rfl) [] (Nat.le_refl _)
 rw [vD] at h
 exact h.1
end
def LX (no:Int) (m:MI) (a:aE × MI) (e:aA):aE × MI:=(if e.No = no then AH e else a.1,fL e.No (cl m e) a.2)
theorem Q7 (no:Int) (m:MI):∀ (o:List aA) (g:aE) (b:MI),(o.foldl (LX no m) (g,b)).1 = o.foldl (fun g e=>if e.No = no then AH e else g) g ∧ (∀ k,fT k 0 (o.foldl (LX no m) (g,b)).2 = if (∃ e ∈ o,e.No = k) then fT k 0 m else fT k 0 b) ∧ (o.foldl (LX no m) (g,b)).2.length ≤ b.length + o.length
 | [],g,b=>by simp
 | e :: o,g,b=>by
  obtain ⟨h1,h2,h3⟩:=Q7 no m o (if e.No = no then AH e else g) (fL e.No (cl m e) b)
  refine ⟨h1,fun k=>?_,?_⟩
  ·show fT k 0 (o.foldl (LX no m) (_,fL e.No (cl m e) b)).2 = _
   refine (h2 k).trans ?_
   rw [FL]
   by_cases c1:∃ x ∈ o,x.No = k
   ·rw [if_pos c1,if_pos]
    obtain ⟨x,hx,e'⟩:=c1
    exact ⟨x,List.mem_cons_of_mem _ hx,e'⟩
   ·rw [if_neg c1]
    by_cases c2:k = e.No
    ·rw [if_pos c2,if_pos ⟨e,List.mem_cons_self,c2.symm⟩,c2]
     rfl
    ·rw [if_neg c2,if_neg]
     rintro ⟨x,hx,e'⟩
     rcases List.mem_cons.1 hx with rfl | hx
     ·exact c2 e'.symm
     ·exact c1 ⟨x,hx,e'⟩
  ·have:=BF e.No (cl m e) b
   rw [List.length_cons]
   refine Nat.le_trans h3 ?_
   omega
section
variable (a0 a1 a2:Int) (a3:List aA) (p52:Int) (p53:List aC) (p54:List Int) (x56:aA) (z50:Int × (List aA) × (List aC) × (List Int) × MI)
theorem aIy (hl:z50.2.1.length ≤ 400) (hno:∀ e ∈ z50.2.1,0 ≤ e.No ∧ e.No < 1000) (m:MI) (hm:∀ e ∈ z50.2.1,dO (cl m e)) :
  oZ a0 a1 a2 a3 p52 p53 p54 m x56 z50 0 (aE.mk 0 0) [] = some (z50.2.1.foldl (LX x56.No m) (⟨0,0⟩,[])):=by
 unfold oZ
 have h:=pB (step:=fun (w:Int × aE × MI)=>jI a0 a1 a2 a3 p52 p53 p54 m x56 z50 w.1 w.2.1 w.2.2) (fun k a=>((k:Int),a)) z50.2.1 (LX x56.No m) (fun k a=>a.2.length ≤ k) id (fun k a e hx hI=>by
  have hk:=qR hx
  have he:=List.mem_of_getElem? hx
  have w3:IntKind.wrap .i64 ((k:Int) + 1) = ((k + 1:Nat):Int):=dJ (by omega)
  have i3:dO (fT e.No 0 m):=hm e he
  constructor
  ·show jI a0 a1 a2 a3 p52 p53 p54 m x56 z50 k a.1 a.2 = _
   unfold jI
   simp only [gY hx,if_true,mO hx,Option.bind_some,w3,if_pos (HQ (hno e he)),if_pos i3,aG9]
   rw [if_pos (by omega)]
   unfold LX
   by_cases c:e.No = x56.No
   ·rw [if_pos (by simpa using c),if_pos c]
    rfl
   ·rw [if_neg (by simpa using c),if_neg c]
    rfl
  ·have:=BF e.No (cl m e) a.2
   show (fL e.No (cl m e) a.2).length ≤ k + 1
   omega) (fun a hI=>by
  show jI a0 a1 a2 a3 p52 p53 p54 m x56 z50 z50.2.1.length a.1 a.2 = _
  unfold jI
  rw [if_neg (by simp)]
  rfl) (⟨0,0⟩,[]) (Nat.le_refl _)
 exact h.1
theorem aJw (r65:aE × MI) (hl:z50.2.1.length ≤ 400) (hno:∀ e ∈ z50.2.1,0 ≤ e.No ∧ e.No < 1000) (m:MI) (hm:m.length ≤ 100000000000) :
  sQ a0 a1 a2 a3 p52 p53 p54 r65 x56 z50 0 m [] [] = some (vT (IQ r65.1 z50.2.1) m,(xX r65.1 (K4 x56.No r65.2) z50.2.1).map (tJ (K4 x56.No r65.2)),(xX r65.1 (K4 x56.No r65.2) z50.2.1).map (·.No)):=by
 unfold sQ
 refine HW (step:=fun (w:Int × MI × (List aM) × (List Int))=>jB a0 a1 a2 a3 p52 p53 p54 r65 x56 z50 w.1 w.2.1 w.2.2.1 w.2.2.2) r65.1 (K4 x56.No r65.2) z50.2.1 hl m hm (fun k e m d u hx h1 h2 h3=>?_) (fun a=>?_)
 ·show jB a0 a1 a2 a3 p52 p53 p54 r65 x56 z50 k m d u = _
  have hk:=qR hx
  have w3:IntKind.wrap .i64 ((k:Int) + 1) = ((k + 1:Nat):Int):=dJ (by omega)
  have hi:=HQ (hno e (List.mem_of_getElem? hx))
  have hs:fF e x56.No (some r65.2) = some (K4 x56.No r65.2 e):=by
   unfold fF K4
   by_cases c:e.No = x56.No
   ·rw [if_pos (by simpa using c),if_pos c]
   ·rw [if_neg (by simpa using c),if_neg c,if_pos hi]
    rfl
  unfold jB sE
  simp only [gY hx,if_true,mO hx,Option.bind_some,aG9,w3,hs,if_pos hi,if_pos aI8,if_pos h1]
  unfold S2
  by_cases c:XW r65.1 e = true
  ·have c' : ((AH e).currency == r65.1.currency && (AH e).due == r65.1.due) = true:=c
   rw [c',if_neg (by decide),if_pos c]
   by_cases c2:0 < K4 x56.No r65.2 e
   ·rw [if_pos (decide_eq_true (show K4 x56.No r65.2 e > 0 from c2)),if_pos (by omega),if_pos (by omega),if_pos c2,if_pos c2]
    rfl
   ·rw [if_neg (by simpa using c2),if_neg c2,if_neg c2]
  ·have c' : ((AH e).currency == r65.1.currency && (AH e).due == r65.1.due) = false:=by
    rw [Bool.not_eq_true] at c; exact c
   rw [c',if_pos (by decide),if_neg c]
 ·show jB a0 a1 a2 a3 p52 p53 p54 r65 x56 z50 z50.2.1.length a.1 a.2.1 a.2.2 = _
  unfold jB
  rw [if_neg (by simp)]
theorem aHw (r65:aE × MI) (r80:MI × (List aM) × (List Int)) (r81:(List Int) × (List Int) × Int) (hl:r81.1.length = r80.2.2.length) (hu:r80.2.2.length ≤ 400)
  (hi:∀ i ∈ r80.2.2,dO i) (hv:∀ i ∈ r81.1,dO i) (m:MI) (hm:m.length ≤ 100000000000) :
  rF a0 a1 a2 a3 p52 p53 p54 r65 r80 r81 z50 0 m = some (nP r80.2.2 r81.1 m):=by
 unfold rF
 refine QT (step:=fun (w:Int × MI)=>iJ a0 a1 a2 a3 p52 p53 p54 r65 r80 r81 z50 w.1 w.2) r80.2.2 r81.1 hl hu m hm (fun k i v m h1 h2 h3=>?_) (fun m=>?_)
 ·show iJ a0 a1 a2 a3 p52 p53 p54 r65 r80 r81 z50 k m = _
  have hk:=qR h1
  have w3:IntKind.wrap .i64 ((k:Int) + 1) = ((k + 1:Nat):Int):=dJ (by omega)
  unfold iJ
  simp only [gY h2,if_true,mO h2,Option.bind_some,w3,Int.toNat_natCast,h1,if_pos (hi i (List.mem_of_getElem? h1)),if_pos (hv v (List.mem_of_getElem? h2)),if_pos h3]
  rw [if_pos ⟨by omega,hk⟩]
 ·show iJ a0 a1 a2 a3 p52 p53 p54 r65 r80 r81 z50 r81.1.length m = _
  unfold iJ
  rw [if_neg (by simp)]
theorem aGP (r65:aE × MI) (r87:MI) (hl:z50.2.1.length ≤ 400) (hno:∀ e ∈ z50.2.1,0 ≤ e.No ∧ e.No < 1000) (hb:∀ e ∈ z50.2.1,0 ≤ cl r65.2 e ∧ cl r65.2 e ≤ 1099511627776 ∧ 0 ≤ cl r87 e ∧ cl r87 e ≤ 1099511627776) :
  rC a0 a1 a2 a3 p52 p53 p54 r65 r87 z50 0 [] = some (u9 z50.2.1 r65.2 r87):=by
 unfold rC
 have h:=pB (step:=fun (w:Int × (List aC))=>iI a0 a1 a2 a3 p52 p53 p54 r65 r87 z50 w.1 w.2) (fun k a=>((k:Int),a)) z50.2.1 (fun out x=>if decide (0 < cl r65.2 x - cl r87 x) = true then out ++ [⟨5,x.Room,x.No,cl r65.2 x - cl r87 x⟩] else out) (fun k a=>a.length ≤ k) id (fun k a x hx hI=>by
  have hk:=qR hx
  have he:=List.mem_of_getElem? hx
  have w3:IntKind.wrap .i64 ((k:Int) + 1) = ((k + 1:Nat):Int):=dJ (by omega)
  obtain ⟨b1,b2,b3,b4⟩:=hb x he
  have w4:IntKind.wrap .i64 (R9 x.No 0 (some r65.2) - fT x.No 0 r87) = cl r65.2 x - cl r87 x:=by
   show IntKind.wrap .i64 (cl r65.2 x - cl r87 x) = _
   exact jT (by omega) (by omega)
  constructor
  ·show iI a0 a1 a2 a3 p52 p53 p54 r65 r87 z50 k a = _
   unfold iI
   simp only [gY hx,if_true,mO hx,Option.bind_some,w3,if_pos (HQ (hno x he)),w4]
   by_cases c:0 < cl r65.2 x - cl r87 x
   ·rw [if_pos (decide_eq_true (show cl r65.2 x - cl r87 x > 0 from c)),if_pos (by omega),if_pos (decide_eq_true c)]
   ·rw [if_neg (by simpa using c),if_neg (by simpa using c)]
  ·split
   ·rw [List.length_append,List.length_singleton]; omega
   ·omega) (fun a hI=>by
  show iI a0 a1 a2 a3 p52 p53 p54 r65 r87 z50 z50.2.1.length a = _
  unfold iI
  rw [if_neg (by simp)]
  rfl) [] (Nat.le_refl _)
 rw [vD] at h
 exact h.1
end
end Go.Proofs.Ytiimibimkpimbaa
set_option linter.unusedVariables false
set_option linter.unusedSimpArgs false
namespace Go.Proofs.Ytiimibimkpimbaa
open Go.RowKit Vm
theorem A3 {n r c:Int} {l:List aA} (h:rU n r c l = true):SF n r = true ∧ (0 ≤ c ∧ c < 100001) ∧ l.length ≤ 400:=by
 unfold rU at h
 rw [Bool.and_eq_true,Bool.and_eq_true,decide_eq_true_eq] at h
 exact ⟨h.1.1,DZ.1 h.1.2,h.2⟩
theorem JE {n r c:Int} {l:List aA} (h:rU n r c l = true) {l' : List aA} (hl:l'.length ≤ 400):rU n r c l' = true:=by
 obtain ⟨h1,h2,h3⟩:=A3 h
 unfold rU
 rw [h1,DZ.2 h2,decide_eq_true hl]
 rfl
theorem AJ {α:Type} (l:List α) (k:Nat):nO l 0 (k:Int) = l.take k:=rfl
theorem F4 {n k:Nat} (h:k ≤ n):o0 n 0 (k:Int):=⟨by omega,by omega,by rw [Int.toNat_natCast]; exact h⟩
theorem zX {α:Type} {l:List α} {k:Nat} {x:α} (h:l[k]? = some x):l.take (k + 1) = l.take k ++ [x]:=by
 rw [List.take_add_one,h]; rfl
section
variable {N:Nat} {n r c:Int} {l:List aA}
theorem AR (hn:n = N) (hN:N ≤ 40) (hw:∀ e ∈ l,dO e.Sum) (k:Nat):OB N (bX n r c (l.take k)).2.1 :=
 T8 hn hN (l.take k) ([],none,[],[]) (fun e he=>by cases he) (fun e he=>hw e (List.mem_of_mem_take he)) trivial
structure L1 (n r c:Int) (l:List aA) (k:Nat) (a:List aC × List Int):Prop where
 eq:bX n r c (l.take k) = (l.take k,none,a.1,a.2)
 len1:a.1.length ≤ 100 * k
 len2:a.2.length = k
structure H7 (n r c:Int) (l:List aA) (o:List aA) (k:Nat) (a:List aC × List Int × MI):Prop where
 eq:bX n r c (l.take k) = (l.take k,some (o,a.2.2),a.1,a.2.1)
 len1:a.1.length ≤ 100 * k
 len2:a.2.1.length = k
 len3:a.2.2.length ≤ 20000 + 200 * k
theorem L1.next {k:Nat} {a:List aC × List Int} (h:L1 n r c l k a) {e:aA} (he:l[k]? = some e) {x:Int} (ht:fE n r c (l.take k) none e = (none,[],x)):L1 n r c l (k + 1) (a.1 ++ [],a.2 ++ [x]):=by
 refine ⟨?_,?_,?_⟩
 ·rw [zX he,j0,h.eq]
  unfold AN
  dsimp only
  rw [ht]
 ·have:=h.len1
  rw [List.append_nil]; show a.1.length ≤ _; omega
 ·show (a.2 ++ [x]).length = _
  rw [List.length_append,h.len2]; rfl
theorem L1.shut {k:Nat} {a:List aC × List Int} (h:L1 n r c l k a) {e:aA} (he:l[k]? = some e) {o:List aA} {m:MI} {os:List aC} (ht:fE n r c (l.take k) none e = (some (o,m),os,0)) (hm:m.length ≤ 20000) (ho:os.length ≤ 100):H7 n r c l o (k + 1) (a.1 ++ os,a.2 ++ [0],m):=by
 refine ⟨?_,?_,?_,?_⟩
 ·rw [zX he,j0,h.eq]
  unfold AN
  dsimp only
  rw [ht]
 ·have:=h.len1
  show (a.1 ++ os).length ≤ _
  rw [List.length_append]; omega
 ·show (a.2 ++ [0]).length = _
  rw [List.length_append,h.len2]; rfl
 ·show m.length ≤ _
  omega
theorem H7.next {o:List aA} {k:Nat} {a:List aC × List Int × MI} (h:H7 n r c l o k a) {e:aA} (he:l[k]? = some e) {m:MI} {os:List aC} {x:Int} (ht:fE n r c (l.take k) (some (o,a.2.2)) e = (some (o,m),os,x)) (hm:m.length ≤ a.2.2.length + 200) (ho:os.length ≤ 100):H7 n r c l o (k + 1) (a.1 ++ os,a.2.1 ++ [x],m):=by
 refine ⟨?_,?_,?_,?_⟩
 ·rw [zX he,j0,h.eq]
  unfold AN
  dsimp only
  rw [ht]
 ·have:=h.len1
  show (a.1 ++ os).length ≤ _
  rw [List.length_append]; omega
 ·show (a.2.1 ++ [x]).length = _
  rw [List.length_append,h.len2]; rfl
 ·have:=h.len3
  show m.length ≤ _
  omega
theorem RH (o:List aA) (m:MI):(yJ o m).length ≤ o.length:=by
 unfold yJ
 rw [List.length_map]
 exact List.length_filter_le _ _
theorem WY (o:List aA) (m m' : MI):(u9 o m m').length ≤ o.length:=by
 unfold u9
 rw [List.length_map]
 exact List.length_filter_le _ _
theorem aC4 (hn:n = N) (hN:N ≤ 40) (hf:rU n r c l = true) (hw:∀ e ∈ l,dO e.Sum) :
  ∃ x,qB n r c l 0 [] [] = some x ∧ ((∃ (k:Nat) (o:List aA) (a:List aC × List Int × MI),x = .inl ((k:Int),o,a.1,a.2.1,a.2.2) ∧ k ≤ l.length ∧ H7 n r c l o k a) ∨ ∃ a,x = .inr a ∧ L1 n r c l l.length a):=by
 subst hn
 obtain ⟨hd,hc,hl⟩:=A3 hf
 unfold qB
 refine mA (step:=fun (w:Int × (List aC) × (List Int))=>iE N r c l w.1 w.2.1 w.2.2) (fun k a=>((k:Int),a)) l.length (L1 N r c l) _ ?_ ?_ ([],[]) ⟨rfl,Nat.zero_le _,rfl⟩
 ·rintro k ⟨p,q⟩ hk hI
  obtain ⟨e,he⟩ : ∃ e,l[k]? = some e:=⟨l[k],List.getElem?_eq_getElem hk⟩
  have w3:IntKind.wrap .i64 ((k:Int) + 1) = ((k + 1:Nat):Int):=dJ (by omega)
  have l1:p.length ≤ 100 * k:=hI.len1
  have l2:q.length = k:=hI.len2
  have c1:(p.length + 0) * 32 ≤ 140737488355328:=by omega
  have c2:(q.length + 1) * 8 ≤ 140737488355328:=by omega
  have hst:iE N r c l k p q = iE N r c l k p q:=rfl
  conv at hst=>rhs; unfold iE
  simp only [gY he,if_true,mO he,Option.bind_some,if_pos (F4 (Nat.le_of_lt hk)),CB,X5,w3,AJ,if_pos c1,if_pos c2] at hst
  by_cases ck:JD N r e = false
  ·rw [if_pos ck] at hst
   exact .inl ⟨_,hst,hI.next he (by unfold fE; rw [if_pos ck])⟩
  ·rw [if_neg ck] at hst
   by_cases k4:e.Kind = 4
   ·rw [if_pos (by simpa using k4)] at hst
    by_cases hday:e.Day < c
    ·rw [if_pos (by simpa using hday)] at hst
     exact .inl ⟨_,hst,hI.next he (by unfold fE; rw [if_neg ck]; dsimp only; rw [if_pos k4,if_pos hday])⟩
    ·rw [if_neg (by simpa using hday),L7 (JE hf (by rw [List.length_take]; omega)),Option.bind_some] at hst
     by_cases hfull:100 < (dM N r c (l.take k)).length
     ·rw [if_pos (by simp only [decide_eq_true_eq,gt_iff_lt]; omega)] at hst
      exact .inl ⟨_,hst,hI.next he (by unfold fE; rw [if_neg ck]; dsimp only; rw [if_pos k4,if_neg hday,if_pos hfull])⟩
     ·have ho:=TN (r:=r) (c:=c) (N:=N) rfl (fun e he=>hw e (List.mem_of_mem_take he)) (show (dM N r c (l.take k)).length ≤ 100 by omega)
      rw [if_neg (by simp only [decide_eq_true_eq,gt_iff_lt]; omega),aJB _ _ _ _ _ _ ho hN,Option.bind_some,aDS _ _ _ _ _ _ _ (by omega) (fun e he=>(ho.each e he).2.2.2.2.1),Option.bind_some] at hst
      have ol:=RH (dM N r c (l.take k)) (lM N (dM N r c (l.take k)))
      rw [if_pos (by omega)] at hst
      exact .inr ⟨_,hst,.inl ⟨k + 1,_,(p ++ _,q ++ [0],_),rfl,hk,hI.shut he (by unfold fE; rw [if_neg ck]; dsimp only; rw [if_pos k4,if_neg hday,if_neg hfull]; rfl) (Z4 ho hN) (by omega)⟩⟩
   ·rw [if_neg (by simpa using k4)] at hst
    by_cases k5:e.Kind = 5
    ·rw [if_pos (by simpa using k5)] at hst
     exact .inl ⟨_,hst,hI.next he (by unfold fE; rw [if_neg ck]; dsimp only; rw [if_neg k4,if_pos k5])⟩
    ·rw [if_neg (by simpa using k5)] at hst
     by_cases hday:c < e.Day
     ·rw [if_pos (by simpa using hday)] at hst
      exact .inl ⟨_,hst,hI.next he (by unfold fE; rw [if_neg ck]; dsimp only; rw [if_neg k4,if_neg k5,if_pos hday])⟩
     ·rw [if_neg (by simpa using hday)] at hst
      exact .inl ⟨_,hst,hI.next he (by unfold fE; rw [if_neg ck]; dsimp only; rw [if_neg k4,if_neg k5,if_neg hday])⟩
 ·rintro ⟨p,q⟩ hI
  refine ⟨.inr (p,q),?_,.inr ⟨_,rfl,hI⟩⟩
  show iE N r c l l.length p q = _
  unfold iE
  rw [if_neg (by simp)]
theorem YN (hn:n = N) (hN:N ≤ 40) (hf:rU n r c l = true) (hw:∀ e ∈ l,dO e.Sum) {z50:Int × (List aA) × (List aC) × (List Int) × MI} {k0:Nat} (hk0:k0 ≤ l.length) {a0:List aC × List Int × MI} (h0:H7 n r c l z50.2.1 k0 a0) :
  ∃ x,lO n r c l z50 k0 a0.1 a0.2.1 a0.2.2 = some x ∧ H7 n r c l z50.2.1 l.length x:=by
 subst hn
 obtain ⟨hd,hc,hl⟩:=A3 hf
 unfold lO
 refine aHj (step:=fun (w:Int × (List aC) × (List Int) × MI)=>gO N r c l z50 w.1 w.2.1 w.2.2.1 w.2.2.2) (fun k a=>((k:Int),a)) l.length (H7 N r c l z50.2.1) _ ?_ ?_ k0 hk0 a0 h0
 ·rintro k ⟨p,q,m⟩ hk hI
  obtain ⟨e,he⟩ : ∃ e,l[k]? = some e:=⟨l[k],List.getElem?_eq_getElem hk⟩
  have w3:IntKind.wrap .i64 ((k:Int) + 1) = ((k + 1:Nat):Int):=dJ (by omega)
  have l1:p.length ≤ 100 * k:=hI.len1
  have l2:q.length = k:=hI.len2
  have l3:m.length ≤ 20000 + 200 * k:=hI.len3
  have c1:(p.length + 0) * 32 ≤ 140737488355328:=by omega
  have c2:(q.length + 1) * 8 ≤ 140737488355328:=by omega
  have hg:=AR (n:=N) (r:=r) (c:=c) rfl hN hw k
  rw [hI.eq] at hg
  obtain ⟨ho,hm⟩ : tM N z50.2.1 ∧ PU z50.2.1 m:=hg
  have hno:∀ e ∈ z50.2.1,0 ≤ e.No ∧ e.No < 1000:=fun e he=>(ho.each e he).2.2.2.2.1
  have ol:=ho.len
  have hst:gO N r c l z50 k p q m = gO N r c l z50 k p q m:=rfl
  conv at hst=>rhs; unfold gO
  simp only [gY he,if_true,mO he,Option.bind_some,if_pos (F4 (Nat.le_of_lt hk)),CB,X5,w3,AJ,if_pos c1,if_pos c2] at hst
  refine .inl ?_
  by_cases ck:JD N r e = false
  ·rw [if_pos ck] at hst
   exact ⟨_,hst,hI.next he (by unfold fE; rw [if_pos ck]) (by show m.length ≤ m.length + 200; omega) (by simp)⟩
  ·rw [if_neg ck] at hst
   by_cases k4:e.Kind = 4
   ·rw [if_pos (by simpa using k4)] at hst
    exact ⟨_,hst,hI.next he (by unfold fE; rw [if_neg ck]; dsimp only; rw [if_pos k4]) (by show m.length ≤ m.length + 200; omega) (by simp)⟩
   ·rw [if_neg (by simpa using k4)] at hst
    by_cases k5:e.Kind = 5
    ·rw [if_pos (by simpa using k5),if_pos (HQ (aDr (by simpa using ck)))] at hst
     by_cases hz:fT e.No 0 m = 0
     ·rw [if_pos (by simpa using hz)] at hst
      exact ⟨_,hst,hI.next he (by unfold fE; rw [if_neg ck]; dsimp only; rw [if_neg k4,if_pos k5,if_pos hz]) (by show m.length ≤ m.length + 200; omega) (by simp)⟩
     ·rw [if_neg (by simpa using hz)] at hst
      obtain ⟨b1,b2,b3⟩:=Q7 e.No m z50.2.1 ⟨0,0⟩ []
      have hbe:∀ x ∈ z50.2.1,cl (z50.2.1.foldl (LX e.No m) (⟨0,0⟩,[])).2 x = cl m x:=fun x hx=>(b2 x.No).trans (if_pos ⟨x,hx,rfl⟩)
      have hsm:∀ x ∈ z50.2.1,K4 e.No (z50.2.1.foldl (LX e.No m) (⟨0,0⟩,[])).2 x = K4 e.No m x:=fun x hx=>by
       unfold K4
       rw [hbe x hx]
      have hrange:∀ x ∈ z50.2.1,0 ≤ cl m x ∧ cl m x ≤ 1099511627776:=fun x hx=>by
       have:=hm x hx
       have:=(ho.each x hx).2.2.2.1
       omega
      have hle:=aBR hm ho e.No
      have hd:=KA ho hN hle (xH e.No z50.2.1)
      obtain ⟨pot,hc',hb'⟩:=K5 hd
      have hm':=aH5 ho hN hm e.No
      rw [aIy _ _ _ _ _ _ _ _ _ (by omega) hno m (fun x hx=>by have:=hrange x hx; exact ⟨by omega,by omega⟩),Option.bind_some,
       aJw _ _ _ _ _ _ _ _ _ _ (by omega) hno m (by omega),Option.bind_some] at hst
      obtain ⟨a1,a2⟩:=ZK (g:=xH e.No z50.2.1) hsm
      have b1' : (z50.2.1.foldl (LX e.No m) (⟨0,0⟩,[])).1 = xH e.No z50.2.1:=b1
      rw [b1',a2,a1] at hst
      dsimp only at hst
      have al:(xX (xH e.No z50.2.1) (K4 e.No m) z50.2.1).length ≤ z50.2.1.length:=List.length_filter_le _ _
      have gl:(IQ (xH e.No z50.2.1) z50.2.1).length ≤ z50.2.1.length:=List.length_filter_le _ _
      have zl:=DY (IQ (xH e.No z50.2.1) z50.2.1) m
      have cln:(sA N ((xX (xH e.No z50.2.1) (K4 e.No m) z50.2.1).map (tJ (K4 e.No m)))).length = (xX (xH e.No z50.2.1) (K4 e.No m) z50.2.1).length:=by rw [O8 hd,List.length_map]
      rw [hc',Option.bind_some,aHw _ _ _ _ _ _ _ _ _ _ _ (by dsimp only; rw [cln,List.length_map]) (by dsimp only; rw [List.length_map]; omega) (fun i hi=>by
       obtain ⟨x,hx,rfl⟩:=List.mem_map.1 hi
       exact HQ (hno x (FJ.1 hx).1)) (fun v hv=>aDR hd v hv) _ (by omega),Option.bind_some] at hst
      have hre:nP ((xX (xH e.No z50.2.1) (K4 e.No m) z50.2.1).map (·.No)) (sA N ((xX (xH e.No z50.2.1) (K4 e.No m) z50.2.1).map (tJ (K4 e.No m)))) (vT (IQ (xH e.No z50.2.1) z50.2.1) m) = UE N z50.2.1 m e.No:=rfl
      dsimp only at hst
      rw [hre,aGP _ _ _ _ _ _ _ _ _ _ (by omega) hno (fun x hx=>by
       rw [hbe x hx]
       have h1:=hrange x hx
       have h2:=hm' x hx
       have h3:=(ho.each x hx).2.2.2.1
       exact ⟨h1.1,h1.2,h2.1,by omega⟩),Option.bind_some] at hst
      have hro:u9 z50.2.1 (z50.2.1.foldl (LX e.No m) (⟨0,0⟩,[])).2 (UE N z50.2.1 m e.No) = u9 z50.2.1 m (UE N z50.2.1 m e.No):=by
       unfold u9
       rw [List.filter_congr fun x hx=>by rw [hbe x hx]]
       exact List.map_congr_left fun x hx=>by rw [hbe x (List.mem_filter.1 hx).1]
      rw [hro] at hst
      have rl:=WY z50.2.1 m (UE N z50.2.1 m e.No)
      rw [if_pos (by omega)] at hst
      refine ⟨_,hst,hI.next he (by unfold fE; rw [if_neg ck]; dsimp only; rw [if_neg k4,if_pos k5,if_neg hz]) ?_ (by omega)⟩
      have:=KV N (xH e.No z50.2.1) (K4 e.No m) z50.2.1 m cln
      show (mK N (xH e.No z50.2.1) (K4 e.No m) z50.2.1 m).length ≤ m.length + 200
      omega
    ·rw [if_neg (by simpa using k5)] at hst
     exact ⟨_,hst,hI.next he (by unfold fE; rw [if_neg ck]; dsimp only; rw [if_neg k4,if_neg k5]) (by show m.length ≤ m.length + 200; omega) (by simp)⟩
 ·rintro ⟨p,q,m⟩ hI
  refine ⟨(p,q,m),?_,hI⟩
  show gO N r c l z50 l.length p q m = _
  unfold gO
  rw [if_neg (by simp)]
theorem aCR (hn:n = N) (hN:N ≤ 40) (hf:rU n r c l = true) (hw:∀ e ∈ l,dO e.Sum):iV n r c l = some ((bX n r c l).2.2.1,(bX n r c l).2.2.2):=by
 unfold iV
 rw [FU,hf,Option.bind_some,if_neg (by decide)]
 obtain ⟨x,h1,h2⟩:=aC4 hn hN hf hw
 rw [h1,Option.bind_some]
 rcases h2 with ⟨k,o,a,rfl,hk,hI⟩ | ⟨a,rfl,hI⟩
 ·obtain ⟨y,h3,h4⟩:=YN hn hN hf hw (z50:=((k:Int),o,a.1,a.2.1,a.2.2)) hk hI
  have e:=h4.eq
  rw [List.take_length] at e
  show (lO n r c l ((k:Int),o,a.1,a.2.1,a.2.2) (k:Int) a.1 a.2.1 a.2.2).bind _ = _
  rw [h3,Option.bind_some,e]
 ·have e:=hI.eq
  rw [List.take_length] at e
  show some (a.1,a.2) = _
  rw [e]
theorem aCS (hf:rU n r c l = false):iV n r c l = some ([],[]):=by
 unfold iV
 rw [FU,hf]
 rfl
theorem aIu (r96:(List aC) × (List Int) × MI) (z50:Int × (List aA) × (List aC) × (List Int) × MI):pK n r c r96 z50 0 [] = qC n r c l 0 [] [] r96.2.2 z50.2.1 0 []:=rfl
def YB:StF→List aC
 | none=>[]
 | some (o,m)=>yJ o m
theorem G1 (hn:n = N) (hN:N ≤ 40) (hf:rU n r c l = true) (hw:∀ e ∈ l,dO e.Sum):fG n r c l = some (YB (bX n r c l).2.1):=by
 unfold fG
 rw [FU,hf,Option.bind_some,if_neg (by decide)]
 obtain ⟨x,h1,h2⟩:=aC4 hn hN hf hw
 rw [h1,Option.bind_some]
 rcases h2 with ⟨k,o,a,rfl,hk,hI⟩ | ⟨a,rfl,hI⟩
 ·obtain ⟨y,h3,h4⟩:=YN hn hN hf hw (z50:=((k:Int),o,a.1,a.2.1,a.2.2)) hk hI
  have e:=h4.eq
  rw [List.take_length] at e
  have hg:=AR (n:=n) (r:=r) (c:=c) hn hN hw l.length
  rw [h4.eq] at hg
  obtain ⟨ho,hm⟩ : tM N o ∧ PU o y.2.2:=hg
  show (lO n r c l ((k:Int),o,a.1,a.2.1,a.2.2) (k:Int) a.1 a.2.1 a.2.2).bind _ = _
  rw [h3,Option.bind_some,e]
  unfold pH
  rw [aIu (l:=l),aDS _ _ _ _ _ _ _ (by have:=ho.len; omega) (fun e he=>(ho.each e he).2.2.2.2.1),Option.bind_some,Option.bind_some]
  rfl
 ·have e:=hI.eq
  rw [List.take_length] at e
  rw [e]
  have h15:mY n r c = some ():=by
   unfold mY
   exact gN rfl
  show (nC n r c).bind _ = _
  unfold nC
  rw [h15]
  rfl
theorem KW (hf:rU n r c l = false):fG n r c l = some []:=by
 unfold fG
 rw [FU,hf]
 rfl
end
end Go.Proofs.Ytiimibimkpimbaa
set_option linter.unusedVariables false
set_option linter.unusedSimpArgs false
namespace Go.Proofs.Ytiimibimkpimbaa
open Go.RowKit Vm
theorem B2 {α:Type} {P:List α→Prop} (h0:P []) (hs:∀ l x,P l→P (l ++ [x])) (l:List α):P l:=by
 have key:∀ (r p:List α),P p→P (p ++ r):=by
  intro r
  induction r with
  | nil=>intro p h; rw [List.append_nil]; exact h
  | cons x r ih =>
   intro p h
   have:=ih (p ++ [x]) (hs p x h)
   rw [List.append_assoc] at this
   exact this
 exact key l [] h0
theorem aCk {α:Type} {key:α→Int}:∀ {a b:List α},(a.Pairwise fun x y=>key x < key y)→(b.Pairwise fun x y=>key x < key y)→(∀ x,x ∈ a ↔ x ∈ b)→a = b
 | [],[],_,_,_=>rfl
 | [],y :: b,_,_,h=>absurd ((h y).2 List.mem_cons_self) (by simp)
 | x :: a,[],_,_,h=>absurd ((h x).1 List.mem_cons_self) (by simp)
 | x :: a,y :: b,ha,hb,h=>by
  obtain ⟨a1,a2⟩:=List.pairwise_cons.1 ha
  obtain ⟨b1,b2⟩:=List.pairwise_cons.1 hb
  have hxy:x = y:=by
   rcases List.mem_cons.1 ((h x).1 List.mem_cons_self) with e | h1
   ·exact e
   ·rcases List.mem_cons.1 ((h y).2 List.mem_cons_self) with e | h2
    ·exact e.symm
    ·have q1:=b1 x h1
     have q2:=a1 y h2
     omega
  subst hxy
  rw [aCk a2 b2 fun z=>?_]
  constructor
  ·intro hz
   rcases List.mem_cons.1 ((h z).1 (List.mem_cons_of_mem _ hz)) with e | h1
   ·have:=a1 z hz
    rw [e] at this
    omega
   ·exact h1
  ·intro hz
   rcases List.mem_cons.1 ((h z).2 (List.mem_cons_of_mem _ hz)) with e | h1
   ·have:=b1 z hz
    rw [e] at this
    omega
   ·exact h1
def rN (l:List aA) (errs:List Int) (i:Nat):Prop:=(el l i).Kind = 4 ∧ el errs i = 0
section
variable (n r c:Int)
theorem yI (l:List aA):(bX n r c l).2.2.2.length = l.length:=by
 refine B2 (P:=fun l=>(bX n r c l).2.2.2.length = l.length) rfl (fun l x h=>?_) l
 rw [j0]
 show ((bX n r c l).2.2.2 ++ [_]).length = _
 rw [List.length_append,List.length_append,h]
 rfl
theorem OW (l:List aA) (k:Nat):(bX n r c (l.take k)).2.2.2 = (bX n r c l).2.2.2.take k:=by
 have key:∀ (s p:List aA),∃ z,(bX n r c (p ++ s)).2.2.2 = (bX n r c p).2.2.2 ++ z:=by
  intro s
  refine B2 (P:=fun s=>∀ p,∃ z,(bX n r c (p ++ s)).2.2.2 = (bX n r c p).2.2.2 ++ z) (fun p=>⟨[],by simp⟩) (fun s x ih p=>?_) s
  obtain ⟨z,hz⟩:=ih p
  rw [← List.append_assoc,j0]
  refine ⟨z ++ [(fE n r c (bX n r c (p ++ s)).1 (bX n r c (p ++ s)).2.1 x).2.2],?_⟩
  show (bX n r c (p ++ s)).2.2.2 ++ [(fE n r c (bX n r c (p ++ s)).1 (bX n r c (p ++ s)).2.1 x).2.2] = _
  rw [hz,List.append_assoc]
 obtain ⟨z,hz⟩:=key (l.drop k) (l.take k)
 rw [List.take_append_drop] at hz
 rw [hz]
 have:=yI n r c (l.take k)
 rw [List.length_take] at this
 have h1:=yI n r c l
 rw [hz] at h1
 generalize (bX n r c (l.take k)).2.2.2 = A at h1 this ⊢
 by_cases hk:k ≤ l.length
 ·rw [List.take_append_of_le_length (by omega),List.take_of_length_le (by omega)]
 ·have hz2:z = []:=by
   rw [List.length_append] at h1
   exact List.eq_nil_of_length_eq_zero (by omega)
  rw [hz2,List.append_nil,List.take_of_length_le (by omega)]
theorem DU (l:List aA) (h:∀ i,i < l.length→¬ rN l (bX n r c l).2.2.2 i):(bX n r c l).2.1 = none ∧ (bX n r c l).2.2.1 = []:=by
 refine B2 (P:=fun l=>(∀ i,i < l.length→¬ rN l (bX n r c l).2.2.2 i)→(bX n r c l).2.1 = none ∧ (bX n r c l).2.2.1 = []) (fun _=>⟨rfl,rfl⟩) (fun l x ih h=>?_) l h
 have hl:=yI n r c l
 rw [j0] at h ⊢
 obtain ⟨h1,h2⟩:=ih fun i hi q=>by
  refine h i (by rw [List.length_append]; omega) ⟨?_,?_⟩
  ·have:=q.1
   rw [vL l i hi] at this
   rw [vL _ i (by rw [List.length_append]; omega),List.getElem_append_left hi]
   exact this
  ·have:=q.2
   rw [vL _ i (by omega)] at this
   show el ((bX n r c l).2.2.2 ++ [_]) i = 0
   rw [vL _ i (by rw [List.length_append]; omega),List.getElem_append_left (by omega)]
   exact this
 have hx:=h l.length (by simp)
 unfold rN at hx
 have e1:el (l ++ [x]) l.length = x:=by simp [el]
 have e2:el (AN n r c (bX n r c l) x).2.2.2 l.length = (fE n r c l none x).2.2:=by
  show el ((bX n r c l).2.2.2 ++ [(fE n r c (bX n r c l).1 (bX n r c l).2.1 x).2.2]) l.length = _
  rw [yO,h1,← hl]
  simp [el]
 rw [e1,e2] at hx
 show (fE n r c (bX n r c l).1 (bX n r c l).2.1 x).1 = none ∧ (bX n r c l).2.2.1 ++ (fE n r c (bX n r c l).1 (bX n r c l).2.1 x).2.1 = []
 rw [h1,h2,yO,List.nil_append]
 unfold fE at hx ⊢
 by_cases ck:JD n r x = false
 ·rw [if_pos ck]; exact ⟨rfl,rfl⟩
 ·rw [if_neg ck] at hx ⊢
  dsimp only at hx ⊢
  by_cases k4:x.Kind = 4
  ·rw [if_pos k4] at hx ⊢
   by_cases hd:x.Day < c
   ·rw [if_pos hd]; exact ⟨rfl,rfl⟩
   ·rw [if_neg hd] at hx ⊢
    by_cases hf:100 < (dM n r c l).length
    ·rw [if_pos hf]; exact ⟨rfl,rfl⟩
    ·rw [if_neg hf] at hx
     exact absurd ⟨k4,rfl⟩ hx
  ·rw [if_neg k4]
   by_cases k5:x.Kind = 5
   ·rw [if_pos k5]; exact ⟨rfl,rfl⟩
   ·rw [if_neg k5]
    by_cases hd:c < x.Day
    ·rw [if_pos hd]; exact ⟨rfl,rfl⟩
    ·rw [if_neg hd]; exact ⟨rfl,rfl⟩
theorem VN (l:List aA) (k:Nat) (hk:k < l.length) (hs:rN l (bX n r c l).2.2.2 k) (hb:∀ i,i < k→¬ rN l (bX n r c l).2.2.2 i) :
  bX n r c (l.take (k + 1)) = (l.take (k + 1),some (dM n r c (l.take k),lM n (dM n r c (l.take k))),yJ (dM n r c (l.take k)) (lM n (dM n r c (l.take k))),(bX n r c (l.take k)).2.2.2 ++ [0]) ∧ (dM n r c (l.take k)).length ≤ 100 ∧ JD n r (el l k) = true ∧ ¬ (el l k).Day < c:=by
 have hel:=yI n r c l
 have ht:=OW n r c l k
 have ht1:=OW n r c l (k + 1)
 obtain ⟨h1,h2⟩:=DU n r c (l.take k) fun i hi q=>by
  rw [List.length_take] at hi
  refine hb i (by omega) ⟨?_,?_⟩
  ·have:=q.1
   rw [vL _ i (by rw [List.length_take]; omega),List.getElem_take] at this
   rw [vL l i (by omega)]
   exact this
  ·have:=q.2
   rw [ht,vL _ i (by rw [List.length_take]; omega),List.getElem_take] at this
   rw [vL _ i (by omega)]
   exact this
 have hx:l[k]? = some (el l k):=by rw [vL l k hk]; exact List.getElem?_eq_getElem hk
 have hkk:=hs.1
 have e0:(fE n r c (l.take k) none (el l k)).2.2 = 0:=by
  have e1:(bX n r c (l.take (k + 1))).2.2.2 = (bX n r c (l.take k)).2.2.2 ++ [(fE n r c (l.take k) none (el l k)).2.2]:=by
   rw [zX hx,j0]
   show (bX n r c (l.take k)).2.2.2 ++ [(fE n r c (bX n r c (l.take k)).1 (bX n r c (l.take k)).2.1 (el l k)).2.2] = _
   rw [yO,h1]
  have e2:=hs.2
  have hlk:(bX n r c (l.take k)).2.2.2.length = k:=by rw [yI,List.length_take]; omega
  have e3:(bX n r c (l.take (k + 1))).2.2.2[k]? = some 0:=by
   rw [ht1,List.getElem?_take,if_pos (by omega)]
   rw [vL _ k (by omega)] at e2
   rw [List.getElem?_eq_getElem (by omega),e2]
  rw [e1,List.getElem?_append_right (by omega),hlk,Nat.sub_self] at e3
  simpa using e3
 rw [zX hx,j0]
 have e5:AN n r c (bX n r c (l.take k)) (el l k) = (l.take k ++ [el l k],(fE n r c (l.take k) none (el l k)).1,(fE n r c (l.take k) none (el l k)).2.1,(bX n r c (l.take k)).2.2.2 ++ [(fE n r c (l.take k) none (el l k)).2.2]):=by
  show ((bX n r c (l.take k)).1 ++ [el l k],(fE n r c (bX n r c (l.take k)).1 (bX n r c (l.take k)).2.1 (el l k)).1,(bX n r c (l.take k)).2.2.1 ++ (fE n r c (bX n r c (l.take k)).1 (bX n r c (l.take k)).2.1 (el l k)).2.1,_) = _
  rw [yO,h1,h2,List.nil_append]
 rw [e5,e0]
 unfold fE at e0 ⊢
 by_cases ck:JD n r (el l k) = false
 ·rw [if_pos ck] at e0
  exact absurd e0 (by decide)
 ·rw [if_neg ck] at e0
  rw [if_neg ck]
  dsimp only at e0 ⊢
  rw [if_pos hkk] at e0
  rw [if_pos hkk]
  by_cases hd:(el l k).Day < c
  ·rw [if_pos hd] at e0
   exact absurd e0 (by decide)
  ·rw [if_neg hd] at e0
   rw [if_neg hd]
   by_cases hf:100 < (dM n r c (l.take k)).length
   ·rw [if_pos hf] at e0
    exact absurd e0 (by decide)
   ·rw [if_neg hf]
    exact ⟨rfl,by omega,by simpa using ck,hd⟩
theorem aB3 (l:List aA) (errs:List Int):(∀ i,i < l.length→¬ rN l errs i) ∨ ∃ k,k < l.length ∧ rN l errs k ∧ ∀ i,i < k→¬ rN l errs i:=by
 have key:∀ m,(∀ i,i < m→¬ rN l errs i) ∨ ∃ k,k < m ∧ rN l errs k ∧ ∀ i,i < k→¬ rN l errs i:=by
  intro m
  induction m with
  | zero=>exact .inl fun i hi=>absurd hi (Nat.not_lt_zero _)
  | succ m ih =>
   rcases ih with h | ⟨k,h1,h2,h3⟩
   ·by_cases q:rN l errs m
    ·exact .inr ⟨m,Nat.lt_succ_self _,q,h⟩
    ·refine .inl fun i hi=>?_
     by_cases e:i = m
     ·rw [e]; exact q
     ·exact h i (by omega)
   ·exact .inr ⟨k,by omega,h2,h3⟩
 exact key l.length
end
end Go.Proofs.Ytiimibimkpimbaa
set_option linter.unusedVariables false
set_option linter.unusedSimpArgs false
namespace Go.Proofs.Ytiimibimkpimbaa
open Go.RowKit Vm
theorem aGS {α:Type} {step:Int→Option (Int ⊕ (Unit ⊕ Unit))} (l:List α) (hl:l.length ≤ 100000)
  (h:∀ (k:Nat) x,l[k]? = some x→step k = some (.inl (IntKind.wrap .i64 ((k:Int) + 1)))) (he:step l.length = some (.inr (.inl ()))):eX (fun (w:Int)=>step w) 0 = some (.inl ()):=by
 have:=pB (step:=fun (w:Int)=>step w) (fun k (_:Unit)=>(k:Int)) l (fun _ _=>()) (fun _ _=>True) (fun _=>(.inl ():Unit ⊕ Unit)) (fun k a x hx _=>by
  have hk:=qR hx
  have e:=h k x hx
  rw [dJ (by omega)] at e
  exact ⟨e,trivial⟩) (fun _ _=>he) () trivial
 exact this.1
theorem wA (a:List aC) (hl:a.length ≤ 100000):bV a a = some true:=by
 unfold bV jP
 rw [if_neg (by simp),aGS (step:=fun w=>dA a a w) a hl (fun k x hx=>by
  show dA a a k = _
  unfold dA
  simp only [gY hx,if_true,mO hx,Option.bind_some,beq_self_eq_true,Bool.and_self,Bool.not_true,Bool.false_eq_true,if_false]) (by
  show dA a a a.length = _
  unfold dA
  rw [if_neg (by simp)])]
 rfl
theorem V4 (l:List aA) (e:List Int) (hl:l.length ≤ 100000) (he:e.length = l.length) (h:∀ i,i < l.length→¬ rN l e i):dP l e = some (l.length:Int):=by
 unfold dP gZ
 have:=pB (step:=fun (w:Int)=>bN l e w) (fun k (_:Unit)=>(k:Int)) l (fun _ _=>()) (fun _ _=>True) (fun _=>(.inl ():Unit ⊕ Int)) (fun k a x hx _=>by
  have hk:=qR hx
  have w3:IntKind.wrap .i64 ((k:Int) + 1) = ((k + 1:Nat):Int):=dJ (by omega)
  refine ⟨?_,trivial⟩
  show bN l e k = _
  unfold bN
  have hx2:at? e (k:Int) = some (el e k):=YU e k (by omega)
  simp only [gY hx,if_true,mO hx,Option.bind_some,hx2,w3]
  rw [if_pos (by simp only [decide_eq_true_eq]; omega)]
  by_cases c:x.Kind = 4
  ·rw [if_pos (by simpa using c),if_neg]
   intro q
   refine h k hk ⟨?_,by simpa using q⟩
   rw [vL l k hk]
   rw [List.getElem?_eq_getElem hk,Option.some.injEq] at hx
   rw [hx]; exact c
  ·rw [if_neg (by simpa using c)]) (fun a _=>by
  show bN l e l.length = _
  unfold bN
  rw [if_neg (by simp)]) () trivial
 have e0:eX (fun (w:Int)=>bN l e w) 0 = some (.inl ()):=this.1
 rw [e0]
 rfl
theorem aEv (l:List aA) (e:List Int) (hl:l.length ≤ 100000) (he:e.length = l.length) {k:Nat} (hk:k < l.length) (hs:rN l e k) (h:∀ i,i < k→¬ rN l e i):dP l e = some (k:Int):=by
 unfold dP gZ
 obtain ⟨x,h1,h2⟩:=mA (step:=fun (w:Int)=>bN l e w) (fun k (_:Unit)=>(k:Int)) l.length (fun j _=>j ≤ k) (fun x=>x = (.inr (k:Int):Unit ⊕ Int)) (fun j a hj hI=>by
  have w3:IntKind.wrap .i64 ((j:Int) + 1) = ((j + 1:Nat):Int):=dJ (by omega)
  have hst:bN l e j = bN l e j:=rfl
  conv at hst=>rhs; unfold bN
  rw [if_pos (by simp only [decide_eq_true_eq]; omega),if_pos (by simp only [decide_eq_true_eq]; omega),YU l j hj,Option.bind_some,YU e j (by omega),Option.bind_some,w3] at hst
  by_cases c:j = k
  ·subst c
   rw [if_pos (by simpa using hs.1),if_pos (by simpa using hs.2)] at hst
   exact .inr ⟨_,hst,rfl⟩
  ·refine .inl ⟨(),?_,by omega⟩
   have hn:=h j (by omega)
   by_cases c4:(el l j).Kind = 4
   ·rw [if_pos (by simpa using c4),if_neg (by simpa using fun q=>hn ⟨c4,q⟩)] at hst
    exact hst
   ·rw [if_neg (by simpa using c4)] at hst
    exact hst) (fun a hI=>absurd hI (by omega)) () (Nat.zero_le _)
 have e0:eX (fun (w:Int)=>bN l e w) 0 = some x:=h1
 rw [e0,h2]
 rfl
end Go.Proofs.Ytiimibimkpimbaa
set_option linter.unusedVariables false
set_option linter.unusedSimpArgs false
namespace Go.Proofs.Ytiimibimkpimbaa
open Go.RowKit Vm
theorem aAn (l:List aA):dP l [] = some (l.length:Int):=by
 unfold dP gZ
 have:bN l [] 0 = some (.inr (.inl ())):=by
  unfold bN
  split <;> rfl
 rw [gN this]
 rfl
end Go.Proofs.Ytiimibimkpimbaa
set_option linter.unusedVariables false
set_option linter.unusedSimpArgs false
namespace Go.Proofs.Ytiimibimkpimbaa
open Go.RowKit Vm
end Go.Proofs.Ytiimibimkpimbaa
set_option linter.unusedVariables false
set_option linter.unusedSimpArgs false
namespace Go.Proofs.Ytiimibimkpimbaa
open Go.RowKit Vm
theorem MK {n r c:Int} {N:Nat} (hn:n = N) (hN:N ≤ 40) (l:List aA) (hw:∀ e ∈ l,dO e.Sum):(bX n r c l).2.2.1.length ≤ 100 * l.length:=by
 refine B2 (P:=fun l=>(∀ e ∈ l,dO e.Sum)→(bX n r c l).2.2.1.length ≤ 100 * l.length) (fun _=>Nat.le_refl _) (fun l x ih hw=>?_) l hw
 have hw' : ∀ e ∈ l,dO e.Sum:=fun e he=>hw e (List.mem_append_left _ he)
 have h1:=ih hw'
 have hg:=AR (n:=n) (r:=r) (c:=c) hn hN hw' l.length
 rw [List.take_length] at hg
 rw [j0]
 show ((bX n r c l).2.2.1 ++ (fE n r c (bX n r c l).1 (bX n r c l).2.1 x).2.1).length ≤ _
 have h2:=K2 n r c (bX n r c l).1 (bX n r c l).2.1 x fun o m e=>by
  rw [e] at hg
  exact hg.1.len
 rw [List.length_append,List.length_append,List.length_singleton]
 omega
section
variable {N:Nat} {o:List aA} (ho:tM N o) (hN:N ≤ 40) {m:MI} (hm:PU o m) (no:Int)
include ho hN hm
omit hN hm in
omit hN hm in
end
end Go.Proofs.Ytiimibimkpimbaa
