/- fair.Run and fair.Cleared do what is told in plain terms: the inner loops. fair.Run and fair.Cleared do what is told in plain terms. Law 44: what comes of the first closing; FairCut. Law 44: the reference's small functions; the sanity function. Law 44: the sum of a number among what is told. Law 44: what is cleared nets to nothing in each group. Law 44: reopening. -/
import Derived.Test.YtiimibimkpimbaaPFa
set_option linter.unusedVariables false
set_option linter.unusedSimpArgs false
namespace Go.Proofs.Ytiimibimkpimbaa
open Go.RowKit Vm
theorem aHr {S A X:Type} {step:S->Option (S ⊕ X)} (st:Nat->A->S) (n:Nat) (I:Nat->A->Prop) (Q:X->Prop)
  (h:∀ k a,k < n->I k a->(∃ a',step (st k a) = some (.inl (st (k + 1) a')) ∧ I (k + 1) a') ∨ ∃ x,step (st k a) = some (.inr x) ∧ Q x)
  (he:∀ a,I n a->∃ x,step (st n a) = some (.inr x) ∧ Q x) (k0:Nat) (hk0:k0 <= n) (a:A) (h0:I k0 a):∃ x,eW step (st k0 a) = some x ∧ Q x:=by
 have key:∀ m k a,k + m = n->I k a->∃ x,eW step (st k a) = some x ∧ Q x:=by
  intro m
  induction m with
  | zero =>
   intro k a hk hI
   obtain rfl:k = n:=by omega
   obtain ⟨x,h1,h2⟩:=he a hI
   exact ⟨x,gP h1,h2⟩
  | succ m ih =>
   intro k a hk hI
   rcases h k a (by omega) hI with ⟨a',h1,h2⟩ | ⟨x,h1,h2⟩
   ·rw [gL h1]
    exact ih (k + 1) a' (by omega) h2
   ·exact ⟨x,gP h1,h2⟩
 exact key (n - k0) k0 a (by omega) h0
theorem vZ {α β:Type} (p:α->Bool) (F:α->β):∀ (l:List α) (acc:List β),l.foldl (fun out x=>if p x = true then out ++ [F x] else out) acc = acc ++ (l.filter p).map F
 | [],acc=>by simp
 | x :: l,acc=>by
  rw [List.foldl_cons,vZ p F l,List.filter_cons]
  split <;> simp
theorem IF {k:Int} (h:0 <= k ∧ k < 1000):dP k:=⟨by omega,by omega⟩
theorem aJh:dP 0:=⟨by decide,by decide⟩
section
variable (a0 a1 a2:Int) (a3:List aA) (p2:Int) (p3:List aC) (p4:List Int) (p8:Int) (p10:MB)
theorem aJH {o:List aA} (hl:o.length <= 400) (hno:∀ e ∈ o,0 <= e.No ∧ e.No < 1000) (g:aE) (m:MI) (hm:m.length <= 100000000000) :
  tK a0 a1 a2 a3 p10 p2 p3 p4 p8 g o 0 m [] [] = some (wB (I1 g o) m,(uH g (fun x=>x.Sum) o).map (pW fun x=>x.Sum),(uH g (fun x=>x.Sum) o).map (·.No)):=by
 unfold tK
 refine IP (step:=fun (w:Int × MI × (List aK) × (List Int))=>jL a0 a1 a2 a3 p10 p2 p3 p4 p8 g o w.1 w.2.1 w.2.2.1 w.2.2.2) g (fun x=>x.Sum) o hl m hm (fun k e m d u hx h1 h2 h3=>?_) (fun a=>?_)
 ·show jL a0 a1 a2 a3 p10 p2 p3 p4 p8 g o k m d u = _
  have hk:=qM hx
  have w3:IntKind.wrap .i64 ((k:Int) + 1) = ((k + 1:Nat):Int):=dL (by omega)
  have hi:=IF (hno e (List.mem_of_getElem? hx))
  unfold jL tA kT
  simp only [fZ hx,if_true,mO hx,Option.bind_some,aH4,w3,if_pos hi,if_pos aJh,if_pos h1]
  unfold T6
  by_cases c:M9 g e = true
  ·have c' : ((wZ e).currency == g.currency && (wZ e).due == g.due) = true:=c
   rw [c',if_neg (by decide),if_pos c]
   by_cases c2:0 < e.Sum
   ·rw [if_pos (decide_eq_true (show e.Sum > 0 from c2)),if_pos (by omega),if_pos (by omega),if_pos c2,if_pos c2]
    rfl
   ·rw [if_neg (by simpa using c2),if_neg c2,if_neg c2]
  ·have c' : ((wZ e).currency == g.currency && (wZ e).due == g.due) = false:=by
    rw [Bool.not_eq_true] at c; exact c
   rw [c',if_pos (by decide),if_neg c]
 ·show jL a0 a1 a2 a3 p10 p2 p3 p4 p8 g o o.length a.1 a.2.1 a.2.2 = _
  unfold jL
  rw [if_neg (by simp)]
theorem aJs (r12:aE) (r27:MI × (List aK) × (List Int)) (r28:(List Int) × (List Int) × Int) (r7:List aA) (hl:r28.1.length = r27.2.2.length) (hu:r27.2.2.length <= 400)
  (hi:∀ i ∈ r27.2.2,dP i) (hv:∀ i ∈ r28.1,dP i) (m:MI) (hm:m.length <= 100000000000) :
  tI a0 a1 a2 a3 p10 p2 p3 p4 p8 r12 r27 r28 r7 0 m = some (oH r27.2.2 r28.1 m):=by
 unfold tI
 refine SY (step:=fun (w:Int × MI)=>jJ a0 a1 a2 a3 p10 p2 p3 p4 p8 r12 r27 r28 r7 w.1 w.2) r27.2.2 r28.1 hl hu m hm (fun k i v m h1 h2 h3=>?_) (fun m=>?_)
 ·show jJ a0 a1 a2 a3 p10 p2 p3 p4 p8 r12 r27 r28 r7 k m = _
  have hk:=qM h1
  have w3:IntKind.wrap .i64 ((k:Int) + 1) = ((k + 1:Nat):Int):=dL (by omega)
  unfold jJ
  simp only [fZ h2,if_true,mO h2,Option.bind_some,w3,Int.toNat_natCast,h1,if_pos (hi i (List.mem_of_getElem? h1)),if_pos (hv v (List.mem_of_getElem? h2)),if_pos h3]
  rw [if_pos ⟨by omega,hk⟩]
 ·show jJ a0 a1 a2 a3 p10 p2 p3 p4 p8 r12 r27 r28 r7 r28.1.length m = _
  unfold jJ
  rw [if_neg (by simp)]
theorem aCU {N:Nat} {d:List aK} (h:FS N d):∀ v ∈ rV N d,dP v:=by
 intro v hv
 obtain ⟨q,_,hb⟩:=JD h
 obtain ⟨i,hi,rfl⟩:=PY hv
 rw [hb.len] at hi
 have h1:=hb.bald.lo i hi
 have h2:=hb.bald.hi i hi
 unfold rC at h2
 have h3:=(h.each i hi).2.2.2.2
 exact ⟨by omega,by omega⟩
theorem aJl {N:Nat} {o:List aA} (ho:sN N o) (hN:N <= 40):tM N a1 a2 a3 p2 p3 p4 o 0 [] [] = some (oZ N o):=by
 unfold tM
 have h:=pS (step:=fun (w:Int × MI × MB)=>jN N a1 a2 a3 p2 p3 p4 o w.1 w.2.1 w.2.2) (fun k a=>((k:Int),a)) o (tE N o) (fun k a=>FD N o (o.take k) a) (fun a=>a.1) (fun k a e hx hI=>by
  have hk:=qM hx
  have he:e ∈ o:=List.mem_of_getElem? hx
  have w3:IntKind.wrap .i64 ((k:Int) + 1) = ((k + 1:Nat):Int):=dL (by have:=ho.len; omega)
  have hs:=hI.step ho hN (fun x hx=>List.mem_of_mem_take hx) he
  have ht:o.take k ++ [e] = o.take (k + 1):=by
   rw [List.take_add_one,hx]; rfl
  rw [ht] at hs
  refine ⟨?_,hs⟩
  show jN N a1 a2 a3 p2 p3 p4 o k a.1 a.2 = _
  obtain ⟨_,_,_,_,_,q1,q2⟩:=ho.each e he
  have i1:dP e.Currency:=⟨by omega,by omega⟩
  have i2:dP e.Due:=⟨by omega,by omega⟩
  have l1:=hI.len1
  have l2:=hI.len2
  rw [List.length_take] at l1 l2
  have l3:=ho.len
  have hss:∀ x ∈ o,(fun x:aA=>x.Sum) x <= x.Sum:=fun x _=>Int.le_refl _
  have hd:=FW ho hN hss (wZ e)
  obtain ⟨q,hc,hb⟩:=JD hd
  unfold jN
  simp only [fZ hx,if_true,mO hx,Option.bind_some,aH4,w3]
  show (if dP e.Currency then _ else none) = _
  rw [if_pos i1]
  show (if dP e.Due then _ else none) = _
  rw [if_pos i2]
  unfold tE
  show (if (!fT (fC e.Currency e.Due) false a.2) = true then _ else _) = _
  by_cases c:fT (fC e.Currency e.Due) false a.2 = true
  ·rw [c,if_neg (by decide),if_pos rfl]
  ·have c' : fT (fC e.Currency e.Due) false a.2 = false:=by
    rw [Bool.not_eq_true] at c; exact c
   rw [c',if_pos (show (!false) = true from rfl),if_neg Bool.false_ne_true]
   show (if dP e.Currency then _ else none) = _
   rw [if_pos i1]
   show (if dP e.Due then _ else none) = _
   rw [if_pos i2,if_pos (by omega),aJH _ _ _ _ _ _ _ _ _ (by omega) (fun e he=>(ho.each e he).2.2.2.2.1) _ _ (by omega),Option.bind_some]
   dsimp only
   rw [hc,Option.bind_some,aJs _ _ _ _ _ _ _ _ _ _ _ _ _ (by dsimp only; rw [QV hd,List.length_map,List.length_map]) (by
    dsimp only
    rw [List.length_map]
    have:(uH (wZ e) (fun x=>x.Sum) o).length <= o.length:=List.length_filter_le _ _
    omega) (fun i hi=>by
    obtain ⟨x,hx,rfl⟩:=List.mem_map.1 hi
    exact IF (ho.each x (ED.1 hx).1).2.2.2.2.1) (fun v hv=>aCU hd v hv) _ (by
    have h1:=EB (I1 (wZ e) o) a.1
    have h2:(I1 (wZ e) o).length <= o.length:=List.length_filter_le _ _
    omega)]
   rfl) (fun a _=>by
  show jN N a1 a2 a3 p2 p3 p4 o o.length a.1 a.2 = _
  unfold jN
  rw [if_neg (by simp)]) ([],[]) ⟨fun e he=>(by simp [fT]),fun e he=>(by simp at he),(by simp),(by simp)⟩
 exact h.1
theorem aCD {o:List aA} (hl:o.length <= 400) (hno:∀ e ∈ o,0 <= e.No ∧ e.No < 1000) (m:MI):qW a0 a1 a2 a3 p2 p3 p4 m o 0 [] = some (pP o m):=by
 unfold qW
 have h:=pS (step:=fun (w:Int × (List aC))=>jQ a0 a1 a2 a3 p2 p3 p4 m o w.1 w.2) (fun k a=>((k:Int),a)) o (fun out x=>if decide (0 < cl m x) = true then out ++ [⟨4,x.Room,x.No,cl m x⟩] else out) (fun k a=>a.length <= k) id (fun k a x hx hI=>by
  have hk:=qM hx
  have w3:IntKind.wrap .i64 ((k:Int) + 1) = ((k + 1:Nat):Int):=dL (by omega)
  constructor
  ·show jQ a0 a1 a2 a3 p2 p3 p4 m o k a = _
   unfold jQ
   simp only [fZ hx,if_true,mO hx,Option.bind_some,w3,if_pos (IF (hno x (List.mem_of_getElem? hx)))]
   by_cases c:0 < cl m x
   ·rw [if_pos (decide_eq_true (show fT x.No 0 m > 0 from c)),if_pos (by omega),if_pos (decide_eq_true c)]
    rfl
   ·rw [if_neg (by simpa [cl] using c),if_neg (by simpa using c)]
  ·split
   ·rw [List.length_append,List.length_singleton]; omega
   ·omega) (fun a hI=>by
  show jQ a0 a1 a2 a3 p2 p3 p4 m o o.length a = _
  unfold jQ
  rw [if_neg (by simp)]
  rfl) [] (Nat.le_refl _)
 rw [vZ] at h
 exact h.1
end
def LT (no:Int) (m:MI) (a:aE × MI) (e:aA):aE × MI:=(if e.No = no then wZ e else a.1,fM e.No (cl m e) a.2)
theorem UV (no:Int) (m:MI):∀ (o:List aA) (g:aE) (b:MI),(o.foldl (LT no m) (g,b)).1 = o.foldl (fun g e=>if e.No = no then wZ e else g) g ∧ (∀ k,fT k 0 (o.foldl (LT no m) (g,b)).2 = if (∃ e ∈ o,e.No = k) then fT k 0 m else fT k 0 b) ∧ (o.foldl (LT no m) (g,b)).2.length <= b.length + o.length
 | [],g,b=>by simp
 | e :: o,g,b=>by
  obtain ⟨h1,h2,h3⟩:=UV no m o (if e.No = no then wZ e else g) (fM e.No (cl m e) b)
  refine ⟨h1,fun k=>?_,?_⟩
  ·show fT k 0 (o.foldl (LT no m) (_,fM e.No (cl m e) b)).2 = _
   refine (h2 k).trans ?_
   rw [F0]
   by_cases c1:∃ x ∈ o,x.No = k
   ·rw [if_pos c1,if_pos]
    obtain ⟨x,hx,e'⟩:=c1
    exact ⟨x,List.mem_cons_of_mem _ hx,e'⟩
   ·rw [if_neg c1]
    by_cases c2:k = e.No
    ·rw [if_pos c2,if_pos ⟨e,List.mem_cons_self,c2.symm⟩,c2]
     rfl
    ·rw [if_neg c2,if_neg]
     rintro ⟨x,hx,e'⟩
     rcases List.mem_cons.1 hx with rfl | hx
     ·exact c2 e'.symm
     ·exact c1 ⟨x,hx,e'⟩
  ·have:=BV e.No (cl m e) b
   rw [List.length_cons]
   refine Nat.le_trans h3 ?_
   omega
section
variable (a0 a1 a2:Int) (a3:List aA) (p52:Int) (p53:List aC) (p54:List Int) (x56:aA) (z50:Int × (List aA) × (List aC) × (List Int) × MI)
theorem aJQ (hl:z50.2.1.length <= 400) (hno:∀ e ∈ z50.2.1,0 <= e.No ∧ e.No < 1000) (m:MI) (hm:∀ e ∈ z50.2.1,dP (cl m e)) :
  pM a0 a1 a2 a3 p52 p53 p54 m x56 z50 0 (aE.mk 0 0) [] = some (z50.2.1.foldl (LT x56.No m) (⟨0,0⟩,[])):=by
 unfold pM
 have h:=pS (step:=fun (w:Int × aE × MI)=>jP a0 a1 a2 a3 p52 p53 p54 m x56 z50 w.1 w.2.1 w.2.2) (fun k a=>((k:Int),a)) z50.2.1 (LT x56.No m) (fun k a=>a.2.length <= k) id (fun k a e hx hI=>by
  have hk:=qM hx
  have he:=List.mem_of_getElem? hx
  have w3:IntKind.wrap .i64 ((k:Int) + 1) = ((k + 1:Nat):Int):=dL (by omega)
  have i3:dP (fT e.No 0 m):=hm e he
  constructor
  ·show jP a0 a1 a2 a3 p52 p53 p54 m x56 z50 k a.1 a.2 = _
   unfold jP
   simp only [fZ hx,if_true,mO hx,Option.bind_some,w3,if_pos (IF (hno e he)),if_pos i3,aH4]
   rw [if_pos (by omega)]
   unfold LT
   by_cases c:e.No = x56.No
   ·rw [if_pos (by simpa using c),if_pos c]
    rfl
   ·rw [if_neg (by simpa using c),if_neg c]
    rfl
  ·have:=BV e.No (cl m e) a.2
   show (fM e.No (cl m e) a.2).length <= k + 1
   omega) (fun a hI=>by
  show jP a0 a1 a2 a3 p52 p53 p54 m x56 z50 z50.2.1.length a.1 a.2 = _
  unfold jP
  rw [if_neg (by simp)]
  rfl) (⟨0,0⟩,[]) (Nat.le_refl _)
 exact h.1
theorem aJe (r65:aE × MI) (hl:z50.2.1.length <= 400) (hno:∀ e ∈ z50.2.1,0 <= e.No ∧ e.No < 1000) (m:MI) (hm:m.length <= 100000000000) :
  uE a0 a1 a2 a3 p52 p53 p54 r65 x56 z50 0 m [] [] = some (wB (I1 r65.1 z50.2.1) m,(uH r65.1 (vX x56.No r65.2) z50.2.1).map (pW (vX x56.No r65.2)),(uH r65.1 (vX x56.No r65.2) z50.2.1).map (·.No)):=by
 unfold uE
 refine IP (step:=fun (w:Int × MI × (List aK) × (List Int))=>jO a0 a1 a2 a3 p52 p53 p54 r65 x56 z50 w.1 w.2.1 w.2.2.1 w.2.2.2) r65.1 (vX x56.No r65.2) z50.2.1 hl m hm (fun k e m d u hx h1 h2 h3=>?_) (fun a=>?_)
 ·show jO a0 a1 a2 a3 p52 p53 p54 r65 x56 z50 k m d u = _
  have hk:=qM hx
  have w3:IntKind.wrap .i64 ((k:Int) + 1) = ((k + 1:Nat):Int):=dL (by omega)
  have hi:=IF (hno e (List.mem_of_getElem? hx))
  have hs:fF e x56.No (some r65.2) = some (vX x56.No r65.2 e):=by
   unfold fF vX
   by_cases c:e.No = x56.No
   ·rw [if_pos (by simpa using c),if_pos c]
   ·rw [if_neg (by simpa using c),if_neg c,if_pos hi]
    rfl
  unfold jO uA
  simp only [fZ hx,if_true,mO hx,Option.bind_some,aH4,w3,hs,if_pos hi,if_pos aJh,if_pos h1]
  unfold T6
  by_cases c:M9 r65.1 e = true
  ·have c' : ((wZ e).currency == r65.1.currency && (wZ e).due == r65.1.due) = true:=c
   rw [c',if_neg (by decide),if_pos c]
   by_cases c2:0 < vX x56.No r65.2 e
   ·rw [if_pos (decide_eq_true (show vX x56.No r65.2 e > 0 from c2)),if_pos (by omega),if_pos (by omega),if_pos c2,if_pos c2]
    rfl
   ·rw [if_neg (by simpa using c2),if_neg c2,if_neg c2]
  ·have c' : ((wZ e).currency == r65.1.currency && (wZ e).due == r65.1.due) = false:=by
    rw [Bool.not_eq_true] at c; exact c
   rw [c',if_pos (by decide),if_neg c]
 ·show jO a0 a1 a2 a3 p52 p53 p54 r65 x56 z50 z50.2.1.length a.1 a.2.1 a.2.2 = _
  unfold jO
  rw [if_neg (by simp)]
theorem aGv (r65:aE × MI) (r80:MI × (List aK) × (List Int)) (r81:(List Int) × (List Int) × Int) (hl:r81.1.length = r80.2.2.length) (hu:r80.2.2.length <= 400)
  (hi:∀ i ∈ r80.2.2,dP i) (hv:∀ i ∈ r81.1,dP i) (m:MI) (hm:m.length <= 100000000000) :
  rT a0 a1 a2 a3 p52 p53 p54 r65 r80 r81 z50 0 m = some (oH r80.2.2 r81.1 m):=by
 unfold rT
 refine SY (step:=fun (w:Int × MI)=>iV a0 a1 a2 a3 p52 p53 p54 r65 r80 r81 z50 w.1 w.2) r80.2.2 r81.1 hl hu m hm (fun k i v m h1 h2 h3=>?_) (fun m=>?_)
 ·show iV a0 a1 a2 a3 p52 p53 p54 r65 r80 r81 z50 k m = _
  have hk:=qM h1
  have w3:IntKind.wrap .i64 ((k:Int) + 1) = ((k + 1:Nat):Int):=dL (by omega)
  unfold iV
  simp only [fZ h2,if_true,mO h2,Option.bind_some,w3,Int.toNat_natCast,h1,if_pos (hi i (List.mem_of_getElem? h1)),if_pos (hv v (List.mem_of_getElem? h2)),if_pos h3]
  rw [if_pos ⟨by omega,hk⟩]
 ·show iV a0 a1 a2 a3 p52 p53 p54 r65 r80 r81 z50 r81.1.length m = _
  unfold iV
  rw [if_neg (by simp)]
theorem aGC (r65:aE × MI) (r87:MI) (hl:z50.2.1.length <= 400) (hno:∀ e ∈ z50.2.1,0 <= e.No ∧ e.No < 1000) (hb:∀ e ∈ z50.2.1,0 <= cl r65.2 e ∧ cl r65.2 e <= 1099511627776 ∧ 0 <= cl r87 e ∧ cl r87 e <= 1099511627776) :
  rP a0 a1 a2 a3 p52 p53 p54 r65 r87 z50 0 [] = some (lX z50.2.1 r65.2 r87):=by
 unfold rP
 have h:=pS (step:=fun (w:Int × (List aC))=>iW a0 a1 a2 a3 p52 p53 p54 r65 r87 z50 w.1 w.2) (fun k a=>((k:Int),a)) z50.2.1 (fun out x=>if decide (0 < cl r65.2 x - cl r87 x) = true then out ++ [⟨5,x.Room,x.No,cl r65.2 x - cl r87 x⟩] else out) (fun k a=>a.length <= k) id (fun k a x hx hI=>by
  have hk:=qM hx
  have he:=List.mem_of_getElem? hx
  have w3:IntKind.wrap .i64 ((k:Int) + 1) = ((k + 1:Nat):Int):=dL (by omega)
  obtain ⟨b1,b2,b3,b4⟩:=hb x he
  have w4:IntKind.wrap .i64 (R6 x.No 0 (some r65.2) - fT x.No 0 r87) = cl r65.2 x - cl r87 x:=by
   show IntKind.wrap .i64 (cl r65.2 x - cl r87 x) = _
   exact j5 (by omega) (by omega)
  constructor
  ·show iW a0 a1 a2 a3 p52 p53 p54 r65 r87 z50 k a = _
   unfold iW
   simp only [fZ hx,if_true,mO hx,Option.bind_some,w3,if_pos (IF (hno x he)),w4]
   by_cases c:0 < cl r65.2 x - cl r87 x
   ·rw [if_pos (decide_eq_true (show cl r65.2 x - cl r87 x > 0 from c)),if_pos (by omega),if_pos (decide_eq_true c)]
   ·rw [if_neg (by simpa using c),if_neg (by simpa using c)]
  ·split
   ·rw [List.length_append,List.length_singleton]; omega
   ·omega) (fun a hI=>by
  show iW a0 a1 a2 a3 p52 p53 p54 r65 r87 z50 z50.2.1.length a = _
  unfold iW
  rw [if_neg (by simp)]
  rfl) [] (Nat.le_refl _)
 rw [vZ] at h
 exact h.1
end
end Go.Proofs.Ytiimibimkpimbaa
set_option linter.unusedVariables false
set_option linter.unusedSimpArgs false
namespace Go.Proofs.Ytiimibimkpimbaa
open Go.RowKit Vm
theorem BT {n r c:Int} {l:List aA} (h:sB n r c l = true):RU n r = true ∧ (0 <= c ∧ c < 100001) ∧ l.length <= 400:=by
 unfold sB at h
 rw [Bool.and_eq_true,Bool.and_eq_true,decide_eq_true_eq] at h
 exact ⟨h.1.1,EO.1 h.1.2,h.2⟩
theorem J4 {n r c:Int} {l:List aA} (h:sB n r c l = true) {l' : List aA} (hl:l'.length <= 400):sB n r c l' = true:=by
 obtain ⟨h1,h2,h3⟩:=BT h
 unfold sB
 rw [h1,EO.2 h2,decide_eq_true hl]
 rfl
theorem B3 {α:Type} (l:List α) (k:Nat):gX l 0 (k:Int) = l.take k:=rfl
theorem C0 {n k:Nat} (h:k <= n):qC n 0 (k:Int):=⟨by omega,by omega,by rw [Int.toNat_natCast]; exact h⟩
theorem zR {α:Type} {l:List α} {k:Nat} {x:α} (h:l[k]? = some x):l.take (k + 1) = l.take k ++ [x]:=by
 rw [List.take_add_one,h]; rfl
section
variable {N:Nat} {n r c:Int} {l:List aA}
theorem B1 (hn:n = N) (hN:N <= 40) (hw:∀ e ∈ l,dP e.Sum) (k:Nat):PP N (bM n r c (l.take k)).2.1 :=
 RO hn hN (l.take k) ([],none,[],[]) (fun e he=>by cases he) (fun e he=>hw e (List.mem_of_mem_take he)) trivial
structure KH (n r c:Int) (l:List aA) (k:Nat) (a:List aC × List Int):Prop where
 eq:bM n r c (l.take k) = (l.take k,none,a.1,a.2)
 len1:a.1.length <= 100 * k
 len2:a.2.length = k
structure JO (n r c:Int) (l:List aA) (o:List aA) (k:Nat) (a:List aC × List Int × MI):Prop where
 eq:bM n r c (l.take k) = (l.take k,some (o,a.2.2),a.1,a.2.1)
 len1:a.1.length <= 100 * k
 len2:a.2.1.length = k
 len3:a.2.2.length <= 20000 + 200 * k
theorem KH.next {k:Nat} {a:List aC × List Int} (h:KH n r c l k a) {e:aA} (he:l[k]? = some e) {x:Int} (ht:eG n r c (l.take k) none e = (none,[],x)):KH n r c l (k + 1) (a.1 ++ [],a.2 ++ [x]):=by
 refine ⟨?_,?_,?_⟩
 ·rw [zR he,iZ,h.eq]
  unfold HL
  dsimp only
  rw [ht]
 ·have:=h.len1
  rw [List.append_nil]; show a.1.length <= _; omega
 ·show (a.2 ++ [x]).length = _
  rw [List.length_append,h.len2]; rfl
theorem KH.shut {k:Nat} {a:List aC × List Int} (h:KH n r c l k a) {e:aA} (he:l[k]? = some e) {o:List aA} {m:MI} {os:List aC} (ht:eG n r c (l.take k) none e = (some (o,m),os,0)) (hm:m.length <= 20000) (ho:os.length <= 100):JO n r c l o (k + 1) (a.1 ++ os,a.2 ++ [0],m):=by
 refine ⟨?_,?_,?_,?_⟩
 ·rw [zR he,iZ,h.eq]
  unfold HL
  dsimp only
  rw [ht]
 ·have:=h.len1
  show (a.1 ++ os).length <= _
  rw [List.length_append]; omega
 ·show (a.2 ++ [0]).length = _
  rw [List.length_append,h.len2]; rfl
 ·show m.length <= _
  omega
theorem JO.next {o:List aA} {k:Nat} {a:List aC × List Int × MI} (h:JO n r c l o k a) {e:aA} (he:l[k]? = some e) {m:MI} {os:List aC} {x:Int} (ht:eG n r c (l.take k) (some (o,a.2.2)) e = (some (o,m),os,x)) (hm:m.length <= a.2.2.length + 200) (ho:os.length <= 100):JO n r c l o (k + 1) (a.1 ++ os,a.2.1 ++ [x],m):=by
 refine ⟨?_,?_,?_,?_⟩
 ·rw [zR he,iZ,h.eq]
  unfold HL
  dsimp only
  rw [ht]
 ·have:=h.len1
  show (a.1 ++ os).length <= _
  rw [List.length_append]; omega
 ·show (a.2.1 ++ [x]).length = _
  rw [List.length_append,h.len2]; rfl
 ·have:=h.len3
  show m.length <= _
  omega
theorem AD (o:List aA) (m:MI):(pP o m).length <= o.length:=by
 unfold pP
 rw [List.length_map]
 exact List.length_filter_le _ _
theorem FR (o:List aA) (m m' : MI):(lX o m m').length <= o.length:=by
 unfold lX
 rw [List.length_map]
 exact List.length_filter_le _ _
theorem aEb (hn:n = N) (hN:N <= 40) (hf:sB n r c l = true) (hw:∀ e ∈ l,dP e.Sum) :
  ∃ x,qZ n r c l 0 [] [] = some x ∧ ((∃ (k:Nat) (o:List aA) (a:List aC × List Int × MI),x = .inl ((k:Int),o,a.1,a.2.1,a.2.2) ∧ k <= l.length ∧ JO n r c l o k a) ∨ ∃ a,x = .inr a ∧ KH n r c l l.length a):=by
 subst hn
 obtain ⟨hd,hc,hl⟩:=BT hf
 unfold qZ
 refine n8 (step:=fun (w:Int × (List aC) × (List Int))=>iR N r c l w.1 w.2.1 w.2.2) (fun k a=>((k:Int),a)) l.length (KH N r c l) _ ?_ ?_ ([],[]) ⟨rfl,Nat.zero_le _,rfl⟩
 ·rintro k ⟨p,q⟩ hk hI
  obtain ⟨e,he⟩ : ∃ e,l[k]? = some e:=⟨l[k],List.getElem?_eq_getElem hk⟩
  have w3:IntKind.wrap .i64 ((k:Int) + 1) = ((k + 1:Nat):Int):=dL (by omega)
  have l1:p.length <= 100 * k:=hI.len1
  have l2:q.length = k:=hI.len2
  have c1:(p.length + 0) * 32 <= 140737488355328:=by omega
  have c2:(q.length + 1) * 8 <= 140737488355328:=by omega
  have hst:iR N r c l k p q = iR N r c l k p q:=rfl
  conv at hst=>rhs; unfold iR
  simp only [fZ he,if_true,mO he,Option.bind_some,if_pos (C0 (Nat.le_of_lt hk)),CK,YI,w3,B3,if_pos c1,if_pos c2] at hst
  by_cases ck:M8 N r e = false
  ·rw [if_pos ck] at hst
   exact .inl ⟨_,hst,hI.next he (by unfold eG; rw [if_pos ck])⟩
  ·rw [if_neg ck] at hst
   by_cases k4:e.Kind = 4
   ·rw [if_pos (by simpa using k4)] at hst
    by_cases hday:e.Day < c
    ·rw [if_pos (by simpa using hday)] at hst
     exact .inl ⟨_,hst,hI.next he (by unfold eG; rw [if_neg ck]; dsimp only; rw [if_pos k4,if_pos hday])⟩
    ·rw [if_neg (by simpa using hday),FM (J4 hf (by rw [List.length_take]; omega)),Option.bind_some] at hst
     by_cases hfull:100 < (fG N r c (l.take k)).length
     ·rw [if_pos (by simp only [decide_eq_true_eq,gt_iff_lt]; omega)] at hst
      exact .inl ⟨_,hst,hI.next he (by unfold eG; rw [if_neg ck]; dsimp only; rw [if_pos k4,if_neg hday,if_pos hfull])⟩
     ·have ho:=TU (r:=r) (c:=c) (N:=N) rfl (fun e he=>hw e (List.mem_of_mem_take he)) (show (fG N r c (l.take k)).length <= 100 by omega)
      rw [if_neg (by simp only [decide_eq_true_eq,gt_iff_lt]; omega),aJl _ _ _ _ _ _ ho hN,Option.bind_some,aCD _ _ _ _ _ _ _ (by omega) (fun e he=>(ho.each e he).2.2.2.2.1),Option.bind_some] at hst
      have ol:=AD (fG N r c (l.take k)) (oZ N (fG N r c (l.take k)))
      rw [if_pos (by omega)] at hst
      exact .inr ⟨_,hst,.inl ⟨k + 1,_,(p ++ _,q ++ [0],_),rfl,hk,hI.shut he (by unfold eG; rw [if_neg ck]; dsimp only; rw [if_pos k4,if_neg hday,if_neg hfull]; rfl) (aAg ho hN) (by omega)⟩⟩
   ·rw [if_neg (by simpa using k4)] at hst
    by_cases k5:e.Kind = 5
    ·rw [if_pos (by simpa using k5)] at hst
     exact .inl ⟨_,hst,hI.next he (by unfold eG; rw [if_neg ck]; dsimp only; rw [if_neg k4,if_pos k5])⟩
    ·rw [if_neg (by simpa using k5)] at hst
     by_cases hday:c < e.Day
     ·rw [if_pos (by simpa using hday)] at hst
      exact .inl ⟨_,hst,hI.next he (by unfold eG; rw [if_neg ck]; dsimp only; rw [if_neg k4,if_neg k5,if_pos hday])⟩
     ·rw [if_neg (by simpa using hday)] at hst
      exact .inl ⟨_,hst,hI.next he (by unfold eG; rw [if_neg ck]; dsimp only; rw [if_neg k4,if_neg k5,if_neg hday])⟩
 ·rintro ⟨p,q⟩ hI
  refine ⟨.inr (p,q),?_,.inr ⟨_,rfl,hI⟩⟩
  show iR N r c l l.length p q = _
  unfold iR
  rw [if_neg (by simp)]
theorem YH (hn:n = N) (hN:N <= 40) (hf:sB n r c l = true) (hw:∀ e ∈ l,dP e.Sum) {z50:Int × (List aA) × (List aC) × (List Int) × MI} {k0:Nat} (hk0:k0 <= l.length) {a0:List aC × List Int × MI} (h0:JO n r c l z50.2.1 k0 a0) :
  ∃ x,mG n r c l z50 k0 a0.1 a0.2.1 a0.2.2 = some x ∧ JO n r c l z50.2.1 l.length x:=by
 subst hn
 obtain ⟨hd,hc,hl⟩:=BT hf
 unfold mG
 refine aHr (step:=fun (w:Int × (List aC) × (List Int) × MI)=>gZ N r c l z50 w.1 w.2.1 w.2.2.1 w.2.2.2) (fun k a=>((k:Int),a)) l.length (JO N r c l z50.2.1) _ ?_ ?_ k0 hk0 a0 h0
 ·rintro k ⟨p,q,m⟩ hk hI
  obtain ⟨e,he⟩ : ∃ e,l[k]? = some e:=⟨l[k],List.getElem?_eq_getElem hk⟩
  have w3:IntKind.wrap .i64 ((k:Int) + 1) = ((k + 1:Nat):Int):=dL (by omega)
  have l1:p.length <= 100 * k:=hI.len1
  have l2:q.length = k:=hI.len2
  have l3:m.length <= 20000 + 200 * k:=hI.len3
  have c1:(p.length + 0) * 32 <= 140737488355328:=by omega
  have c2:(q.length + 1) * 8 <= 140737488355328:=by omega
  have hg:=B1 (n:=N) (r:=r) (c:=c) rfl hN hw k
  rw [hI.eq] at hg
  obtain ⟨ho,hm⟩ : sN N z50.2.1 ∧ MJ z50.2.1 m:=hg
  have hno:∀ e ∈ z50.2.1,0 <= e.No ∧ e.No < 1000:=fun e he=>(ho.each e he).2.2.2.2.1
  have ol:=ho.len
  have hst:gZ N r c l z50 k p q m = gZ N r c l z50 k p q m:=rfl
  conv at hst=>rhs; unfold gZ
  simp only [fZ he,if_true,mO he,Option.bind_some,if_pos (C0 (Nat.le_of_lt hk)),CK,YI,w3,B3,if_pos c1,if_pos c2] at hst
  refine .inl ?_
  by_cases ck:M8 N r e = false
  ·rw [if_pos ck] at hst
   exact ⟨_,hst,hI.next he (by unfold eG; rw [if_pos ck]) (by show m.length <= m.length + 200; omega) (by simp)⟩
  ·rw [if_neg ck] at hst
   by_cases k4:e.Kind = 4
   ·rw [if_pos (by simpa using k4)] at hst
    exact ⟨_,hst,hI.next he (by unfold eG; rw [if_neg ck]; dsimp only; rw [if_pos k4]) (by show m.length <= m.length + 200; omega) (by simp)⟩
   ·rw [if_neg (by simpa using k4)] at hst
    by_cases k5:e.Kind = 5
    ·rw [if_pos (by simpa using k5),if_pos (IF (aD3 (by simpa using ck)))] at hst
     by_cases hz:fT e.No 0 m = 0
     ·rw [if_pos (by simpa using hz)] at hst
      exact ⟨_,hst,hI.next he (by unfold eG; rw [if_neg ck]; dsimp only; rw [if_neg k4,if_pos k5,if_pos hz]) (by show m.length <= m.length + 200; omega) (by simp)⟩
     ·rw [if_neg (by simpa using hz)] at hst
      obtain ⟨b1,b2,b3⟩:=UV e.No m z50.2.1 ⟨0,0⟩ []
      have hbe:∀ x ∈ z50.2.1,cl (z50.2.1.foldl (LT e.No m) (⟨0,0⟩,[])).2 x = cl m x:=fun x hx=>(b2 x.No).trans (if_pos ⟨x,hx,rfl⟩)
      have hsm:∀ x ∈ z50.2.1,vX e.No (z50.2.1.foldl (LT e.No m) (⟨0,0⟩,[])).2 x = vX e.No m x:=fun x hx=>by
       unfold vX
       rw [hbe x hx]
      have hrange:∀ x ∈ z50.2.1,0 <= cl m x ∧ cl m x <= 1099511627776:=fun x hx=>by
       have:=hm x hx
       have:=(ho.each x hx).2.2.2.1
       omega
      have hle:=QI hm ho e.No
      have hd:=FW ho hN hle (kL e.No z50.2.1)
      obtain ⟨pot,hc',hb'⟩:=JD hd
      have hm':=aEC ho hN hm e.No
      rw [aJQ _ _ _ _ _ _ _ _ _ (by omega) hno m (fun x hx=>by have:=hrange x hx; exact ⟨by omega,by omega⟩),Option.bind_some,
       aJe _ _ _ _ _ _ _ _ _ _ (by omega) hno m (by omega),Option.bind_some] at hst
      obtain ⟨a1,a2⟩:=aBn (g:=kL e.No z50.2.1) hsm
      have b1' : (z50.2.1.foldl (LT e.No m) (⟨0,0⟩,[])).1 = kL e.No z50.2.1:=b1
      rw [b1',a2,a1] at hst
      dsimp only at hst
      have al:(uH (kL e.No z50.2.1) (vX e.No m) z50.2.1).length <= z50.2.1.length:=List.length_filter_le _ _
      have gl:(I1 (kL e.No z50.2.1) z50.2.1).length <= z50.2.1.length:=List.length_filter_le _ _
      have zl:=EB (I1 (kL e.No z50.2.1) z50.2.1) m
      have cln:(rV N ((uH (kL e.No z50.2.1) (vX e.No m) z50.2.1).map (pW (vX e.No m)))).length = (uH (kL e.No z50.2.1) (vX e.No m) z50.2.1).length:=by rw [QV hd,List.length_map]
      rw [hc',Option.bind_some,aGv _ _ _ _ _ _ _ _ _ _ _ (by dsimp only; rw [cln,List.length_map]) (by dsimp only; rw [List.length_map]; omega) (fun i hi=>by
       obtain ⟨x,hx,rfl⟩:=List.mem_map.1 hi
       exact IF (hno x (ED.1 hx).1)) (fun v hv=>aCU hd v hv) _ (by omega),Option.bind_some] at hst
      have hre:oH ((uH (kL e.No z50.2.1) (vX e.No m) z50.2.1).map (·.No)) (rV N ((uH (kL e.No z50.2.1) (vX e.No m) z50.2.1).map (pW (vX e.No m)))) (wB (I1 (kL e.No z50.2.1) z50.2.1) m) = sX N z50.2.1 m e.No:=rfl
      dsimp only at hst
      rw [hre,aGC _ _ _ _ _ _ _ _ _ _ (by omega) hno (fun x hx=>by
       rw [hbe x hx]
       have h1:=hrange x hx
       have h2:=hm' x hx
       have h3:=(ho.each x hx).2.2.2.1
       exact ⟨h1.1,h1.2,h2.1,by omega⟩),Option.bind_some] at hst
      have hro:lX z50.2.1 (z50.2.1.foldl (LT e.No m) (⟨0,0⟩,[])).2 (sX N z50.2.1 m e.No) = lX z50.2.1 m (sX N z50.2.1 m e.No):=by
       unfold lX
       rw [List.filter_congr fun x hx=>by rw [hbe x hx]]
       exact List.map_congr_left fun x hx=>by rw [hbe x (List.mem_filter.1 hx).1]
      rw [hro] at hst
      have rl:=FR z50.2.1 m (sX N z50.2.1 m e.No)
      rw [if_pos (by omega)] at hst
      refine ⟨_,hst,hI.next he (by unfold eG; rw [if_neg ck]; dsimp only; rw [if_neg k4,if_pos k5,if_neg hz]) ?_ (by omega)⟩
      have:=KW N (kL e.No z50.2.1) (vX e.No m) z50.2.1 m cln
      show (lB N (kL e.No z50.2.1) (vX e.No m) z50.2.1 m).length <= m.length + 200
      omega
    ·rw [if_neg (by simpa using k5)] at hst
     exact ⟨_,hst,hI.next he (by unfold eG; rw [if_neg ck]; dsimp only; rw [if_neg k4,if_neg k5]) (by show m.length <= m.length + 200; omega) (by simp)⟩
 ·rintro ⟨p,q,m⟩ hI
  refine ⟨(p,q,m),?_,hI⟩
  show gZ N r c l z50 l.length p q m = _
  unfold gZ
  rw [if_neg (by simp)]
theorem aEU (hn:n = N) (hN:N <= 40) (hf:sB n r c l = true) (hw:∀ e ∈ l,dP e.Sum):jU n r c l = some ((bM n r c l).2.2.1,(bM n r c l).2.2.2):=by
 unfold jU
 rw [GM,hf,Option.bind_some,if_neg (by decide)]
 obtain ⟨x,h1,h2⟩:=aEb hn hN hf hw
 rw [h1,Option.bind_some]
 rcases h2 with ⟨k,o,a,rfl,hk,hI⟩ | ⟨a,rfl,hI⟩
 ·obtain ⟨y,h3,h4⟩:=YH hn hN hf hw (z50:=((k:Int),o,a.1,a.2.1,a.2.2)) hk hI
  have e:=h4.eq
  rw [List.take_length] at e
  show (mG n r c l ((k:Int),o,a.1,a.2.1,a.2.2) (k:Int) a.1 a.2.1 a.2.2).bind _ = _
  rw [h3,Option.bind_some,e]
 ·have e:=hI.eq
  rw [List.take_length] at e
  show some (a.1,a.2) = _
  rw [e]
theorem aDU (hf:sB n r c l = false):jU n r c l = some ([],[]):=by
 unfold jU
 rw [GM,hf]
 rfl
theorem aJm (r96:(List aC) × (List Int) × MI) (z50:Int × (List aA) × (List aC) × (List Int) × MI):pX n r c r96 z50 0 [] = qW n r c l 0 [] [] r96.2.2 z50.2.1 0 []:=rfl
def B4:StF->List aC
 | none=>[]
 | some (o,m)=>pP o m
theorem H5 (hn:n = N) (hN:N <= 40) (hf:sB n r c l = true) (hw:∀ e ∈ l,dP e.Sum):gJ n r c l = some (B4 (bM n r c l).2.1):=by
 unfold gJ
 rw [GM,hf,Option.bind_some,if_neg (by decide)]
 obtain ⟨x,h1,h2⟩:=aEb hn hN hf hw
 rw [h1,Option.bind_some]
 rcases h2 with ⟨k,o,a,rfl,hk,hI⟩ | ⟨a,rfl,hI⟩
 ·obtain ⟨y,h3,h4⟩:=YH hn hN hf hw (z50:=((k:Int),o,a.1,a.2.1,a.2.2)) hk hI
  have e:=h4.eq
  rw [List.take_length] at e
  have hg:=B1 (n:=n) (r:=r) (c:=c) hn hN hw l.length
  rw [h4.eq] at hg
  obtain ⟨ho,hm⟩ : sN N o ∧ MJ o y.2.2:=hg
  show (mG n r c l ((k:Int),o,a.1,a.2.1,a.2.2) (k:Int) a.1 a.2.1 a.2.2).bind _ = _
  rw [h3,Option.bind_some,e]
  unfold qB
  rw [aJm (l:=l),aCD _ _ _ _ _ _ _ (by have:=ho.len; omega) (fun e he=>(ho.each e he).2.2.2.2.1),Option.bind_some,Option.bind_some]
  rfl
 ·have e:=hI.eq
  rw [List.take_length] at e
  rw [e]
  have h15:nM n r c = some ():=by
   unfold nM
   exact gP rfl
  show (nJ n r c).bind _ = _
  unfold nJ
  rw [h15]
  rfl
theorem LL (hf:sB n r c l = false):gJ n r c l = some []:=by
 unfold gJ
 rw [GM,hf]
 rfl
end
end Go.Proofs.Ytiimibimkpimbaa
set_option linter.unusedVariables false
set_option linter.unusedSimpArgs false
namespace Go.Proofs.Ytiimibimkpimbaa
open Go.RowKit Vm
theorem vB {α:Type} {P:List α->Prop} (h0:P []) (hs:∀ l x,P l->P (l ++ [x])) (l:List α):P l:=by
 have key:∀ (r p:List α),P p->P (p ++ r):=by
  intro r
  induction r with
  | nil=>intro p h; rw [List.append_nil]; exact h
  | cons x r ih =>
   intro p h
   have:=ih (p ++ [x]) (hs p x h)
   rw [List.append_assoc] at this
   exact this
 exact key l [] h0
def rM (l:List aA) (errs:List Int) (i:Nat):Prop:=(el l i).Kind = 4 ∧ el errs i = 0
section
variable (n r c:Int)
theorem zQ (l:List aA):(bM n r c l).2.2.2.length = l.length:=by
 refine vB (P:=fun l=>(bM n r c l).2.2.2.length = l.length) rfl (fun l x h=>?_) l
 rw [iZ]
 show ((bM n r c l).2.2.2 ++ [_]).length = _
 rw [List.length_append,List.length_append,h]
 rfl
theorem O6 (l:List aA) (k:Nat):(bM n r c (l.take k)).2.2.2 = (bM n r c l).2.2.2.take k:=by
 have key:∀ (s p:List aA),∃ z,(bM n r c (p ++ s)).2.2.2 = (bM n r c p).2.2.2 ++ z:=by
  intro s
  refine vB (P:=fun s=>∀ p,∃ z,(bM n r c (p ++ s)).2.2.2 = (bM n r c p).2.2.2 ++ z) (fun p=>⟨[],by simp⟩) (fun s x ih p=>?_) s
  obtain ⟨z,hz⟩:=ih p
  rw [← List.append_assoc,iZ]
  refine ⟨z ++ [(eG n r c (bM n r c (p ++ s)).1 (bM n r c (p ++ s)).2.1 x).2.2],?_⟩
  show (bM n r c (p ++ s)).2.2.2 ++ [(eG n r c (bM n r c (p ++ s)).1 (bM n r c (p ++ s)).2.1 x).2.2] = _
  rw [hz,List.append_assoc]
 obtain ⟨z,hz⟩:=key (l.drop k) (l.take k)
 rw [List.take_append_drop] at hz
 rw [hz]
 have:=zQ n r c (l.take k)
 rw [List.length_take] at this
 have h1:=zQ n r c l
 rw [hz] at h1
 generalize (bM n r c (l.take k)).2.2.2 = A at h1 this ⊢
 by_cases hk:k <= l.length
 ·rw [List.take_append_of_le_length (by omega),List.take_of_length_le (by omega)]
 ·have hz2:z = []:=by
   rw [List.length_append] at h1
   exact List.eq_nil_of_length_eq_zero (by omega)
  rw [hz2,List.append_nil,List.take_of_length_le (by omega)]
theorem PA (l:List aA) (h:∀ i,i < l.length->¬ rM l (bM n r c l).2.2.2 i):(bM n r c l).2.1 = none ∧ (bM n r c l).2.2.1 = []:=by
 refine vB (P:=fun l=>(∀ i,i < l.length->¬ rM l (bM n r c l).2.2.2 i)->(bM n r c l).2.1 = none ∧ (bM n r c l).2.2.1 = []) (fun _=>⟨rfl,rfl⟩) (fun l x ih h=>?_) l h
 have hl:=zQ n r c l
 rw [iZ] at h ⊢
 obtain ⟨h1,h2⟩:=ih fun i hi q=>by
  refine h i (by rw [List.length_append]; omega) ⟨?_,?_⟩
  ·have:=q.1
   rw [wJ l i hi] at this
   rw [wJ _ i (by rw [List.length_append]; omega),List.getElem_append_left hi]
   exact this
  ·have:=q.2
   rw [wJ _ i (by omega)] at this
   show el ((bM n r c l).2.2.2 ++ [_]) i = 0
   rw [wJ _ i (by rw [List.length_append]; omega),List.getElem_append_left (by omega)]
   exact this
 have hx:=h l.length (by simp)
 unfold rM at hx
 have e1:el (l ++ [x]) l.length = x:=by simp [el]
 have e2:el (HL n r c (bM n r c l) x).2.2.2 l.length = (eG n r c l none x).2.2:=by
  show el ((bM n r c l).2.2.2 ++ [(eG n r c (bM n r c l).1 (bM n r c l).2.1 x).2.2]) l.length = _
  rw [AH,h1,← hl]
  simp [el]
 rw [e1,e2] at hx
 show (eG n r c (bM n r c l).1 (bM n r c l).2.1 x).1 = none ∧ (bM n r c l).2.2.1 ++ (eG n r c (bM n r c l).1 (bM n r c l).2.1 x).2.1 = []
 rw [h1,h2,AH,List.nil_append]
 unfold eG at hx ⊢
 by_cases ck:M8 n r x = false
 ·rw [if_pos ck]; exact ⟨rfl,rfl⟩
 ·rw [if_neg ck] at hx ⊢
  dsimp only at hx ⊢
  by_cases k4:x.Kind = 4
  ·rw [if_pos k4] at hx ⊢
   by_cases hd:x.Day < c
   ·rw [if_pos hd]; exact ⟨rfl,rfl⟩
   ·rw [if_neg hd] at hx ⊢
    by_cases hf:100 < (fG n r c l).length
    ·rw [if_pos hf]; exact ⟨rfl,rfl⟩
    ·rw [if_neg hf] at hx
     exact absurd ⟨k4,rfl⟩ hx
  ·rw [if_neg k4]
   by_cases k5:x.Kind = 5
   ·rw [if_pos k5]; exact ⟨rfl,rfl⟩
   ·rw [if_neg k5]
    by_cases hd:c < x.Day
    ·rw [if_pos hd]; exact ⟨rfl,rfl⟩
    ·rw [if_neg hd]; exact ⟨rfl,rfl⟩
theorem WP (l:List aA) (k:Nat) (hk:k < l.length) (hs:rM l (bM n r c l).2.2.2 k) (hb:∀ i,i < k->¬ rM l (bM n r c l).2.2.2 i) :
  bM n r c (l.take (k + 1)) = (l.take (k + 1),some (fG n r c (l.take k),oZ n (fG n r c (l.take k))),pP (fG n r c (l.take k)) (oZ n (fG n r c (l.take k))),(bM n r c (l.take k)).2.2.2 ++ [0]) ∧ (fG n r c (l.take k)).length <= 100 ∧ M8 n r (el l k) = true ∧ ¬ (el l k).Day < c:=by
 have hel:=zQ n r c l
 have ht:=O6 n r c l k
 have ht1:=O6 n r c l (k + 1)
 obtain ⟨h1,h2⟩:=PA n r c (l.take k) fun i hi q=>by
  rw [List.length_take] at hi
  refine hb i (by omega) ⟨?_,?_⟩
  ·have:=q.1
   rw [wJ _ i (by rw [List.length_take]; omega),List.getElem_take] at this
   rw [wJ l i (by omega)]
   exact this
  ·have:=q.2
   rw [ht,wJ _ i (by rw [List.length_take]; omega),List.getElem_take] at this
   rw [wJ _ i (by omega)]
   exact this
 have hx:l[k]? = some (el l k):=by rw [wJ l k hk]; exact List.getElem?_eq_getElem hk
 have hkk:=hs.1
 have e0:(eG n r c (l.take k) none (el l k)).2.2 = 0:=by
  have e1:(bM n r c (l.take (k + 1))).2.2.2 = (bM n r c (l.take k)).2.2.2 ++ [(eG n r c (l.take k) none (el l k)).2.2]:=by
   rw [zR hx,iZ]
   show (bM n r c (l.take k)).2.2.2 ++ [(eG n r c (bM n r c (l.take k)).1 (bM n r c (l.take k)).2.1 (el l k)).2.2] = _
   rw [AH,h1]
  have e2:=hs.2
  have hlk:(bM n r c (l.take k)).2.2.2.length = k:=by rw [zQ,List.length_take]; omega
  have e3:(bM n r c (l.take (k + 1))).2.2.2[k]? = some 0:=by
   rw [ht1,List.getElem?_take,if_pos (by omega)]
   rw [wJ _ k (by omega)] at e2
   rw [List.getElem?_eq_getElem (by omega),e2]
  rw [e1,List.getElem?_append_right (by omega),hlk,Nat.sub_self] at e3
  simpa using e3
 rw [zR hx,iZ]
 have e5:HL n r c (bM n r c (l.take k)) (el l k) = (l.take k ++ [el l k],(eG n r c (l.take k) none (el l k)).1,(eG n r c (l.take k) none (el l k)).2.1,(bM n r c (l.take k)).2.2.2 ++ [(eG n r c (l.take k) none (el l k)).2.2]):=by
  show ((bM n r c (l.take k)).1 ++ [el l k],(eG n r c (bM n r c (l.take k)).1 (bM n r c (l.take k)).2.1 (el l k)).1,(bM n r c (l.take k)).2.2.1 ++ (eG n r c (bM n r c (l.take k)).1 (bM n r c (l.take k)).2.1 (el l k)).2.1,_) = _
  rw [AH,h1,h2,List.nil_append]
 rw [e5,e0]
 unfold eG at e0 ⊢
 by_cases ck:M8 n r (el l k) = false
 ·rw [if_pos ck] at e0
  exact absurd e0 (by decide)
 ·rw [if_neg ck] at e0
  rw [if_neg ck]
  dsimp only at e0 ⊢
  rw [if_pos hkk] at e0
  rw [if_pos hkk]
  by_cases hd:(el l k).Day < c
  ·rw [if_pos hd] at e0
   exact absurd e0 (by decide)
  ·rw [if_neg hd] at e0
   rw [if_neg hd]
   by_cases hf:100 < (fG n r c (l.take k)).length
   ·rw [if_pos hf] at e0
    exact absurd e0 (by decide)
   ·rw [if_neg hf]
    exact ⟨rfl,by omega,by simpa using ck,hd⟩
theorem U6 (p:List aA) {o:List aA} {m:MI} (h:(bM n r c p).2.1 = some (o,m)) (s:List aA):∃ m',(bM n r c (p ++ s)).2.1 = some (o,m'):=by
 refine vB (P:=fun s=>∃ m',(bM n r c (p ++ s)).2.1 = some (o,m')) ⟨m,by rw [List.append_nil]; exact h⟩ (fun s x ih=>?_) s
 obtain ⟨m',h'⟩:=ih
 rw [← List.append_assoc,iZ]
 show ∃ m',(eG n r c (bM n r c (p ++ s)).1 (bM n r c (p ++ s)).2.1 x).1 = some (o,m')
 rw [h']
 unfold eG
 split
 ·exact ⟨_,rfl⟩
 ·dsimp only
  split
  ·exact ⟨_,rfl⟩
  ·split
   ·split
    ·exact ⟨_,rfl⟩
    ·exact ⟨_,rfl⟩
   ·exact ⟨_,rfl⟩
theorem aEu (l:List aA) (errs:List Int):(∀ i,i < l.length->¬ rM l errs i) ∨ ∃ k,k < l.length ∧ rM l errs k ∧ ∀ i,i < k->¬ rM l errs i:=by
 have key:∀ m,(∀ i,i < m->¬ rM l errs i) ∨ ∃ k,k < m ∧ rM l errs k ∧ ∀ i,i < k->¬ rM l errs i:=by
  intro m
  induction m with
  | zero=>exact .inl fun i hi=>absurd hi (Nat.not_lt_zero _)
  | succ m ih =>
   rcases ih with h | ⟨k,h1,h2,h3⟩
   ·by_cases q:rM l errs m
    ·exact .inr ⟨m,Nat.lt_succ_self _,q,h⟩
    ·refine .inl fun i hi=>?_
     by_cases e:i = m
     ·rw [e]; exact q
     ·exact h i (by omega)
   ·exact .inr ⟨k,by omega,h2,h3⟩
 exact key l.length
theorem WU (l:List aA) {o:List aA} {m:MI} (h:(bM n r c l).2.1 = some (o,m)):∃ k,k < l.length ∧ o = fG n r c (l.take k) ∧ rM l (bM n r c l).2.2.2 k ∧ ∀ i,i < k->¬ rM l (bM n r c l).2.2.2 i:=by
 rcases aEu l (bM n r c l).2.2.2 with q | ⟨k,h1,h2,h3⟩
 ·rw [(PA n r c l q).1] at h
  cases h
 ·obtain ⟨e,_⟩:=WP n r c l k h1 h2 h3
  obtain ⟨m',e'⟩:=U6 n r c (l.take (k + 1)) (by rw [e]) (l.drop (k + 1))
  rw [List.take_append_drop,h,Option.some.injEq,Prod.mk.injEq] at e'
  exact ⟨k,h1,e'.1,h2,h3⟩
end
end Go.Proofs.Ytiimibimkpimbaa
set_option linter.unusedVariables false
set_option linter.unusedSimpArgs false
namespace Go.Proofs.Ytiimibimkpimbaa
open Go.RowKit Vm
theorem YE {α:Type} {step:Int->Option (Int ⊕ (Unit ⊕ Unit))} (l:List α) (hl:l.length <= 100000)
  (h:∀ (k:Nat) x,l[k]? = some x->step k = some (.inl (IntKind.wrap .i64 ((k:Int) + 1)))) (he:step l.length = some (.inr (.inl ()))):eW (fun (w:Int)=>step w) 0 = some (.inl ()):=by
 have:=pS (step:=fun (w:Int)=>step w) (fun k (_:Unit)=>(k:Int)) l (fun _ _=>()) (fun _ _=>True) (fun _=>(.inl ():Unit ⊕ Unit)) (fun k a x hx _=>by
  have hk:=qM hx
  have e:=h k x hx
  rw [dL (by omega)] at e
  exact ⟨e,trivial⟩) (fun _ _=>he) () trivial
 exact this.1
theorem wX (a:List aC) (hl:a.length <= 100000):bU a a = some true:=by
 unfold bU j0
 rw [if_neg (by simp),YE (step:=fun w=>c9 a a w) a hl (fun k x hx=>by
  show c9 a a k = _
  unfold c9
  simp only [fZ hx,if_true,mO hx,Option.bind_some,beq_self_eq_true,Bool.and_self,Bool.not_true,Bool.false_eq_true,if_false]) (by
  show c9 a a a.length = _
  unfold c9
  rw [if_neg (by simp)])]
 rfl
theorem aEP (l:List aA) (e:List Int) (hl:l.length <= 100000) (he:e.length = l.length) {k:Nat} (hk:k < l.length) (hs:rM l e k) (h:∀ i,i < k->¬ rM l e i):jV l e = some (k:Int):=by
 unfold jV mD
 obtain ⟨x,h1,h2⟩:=n8 (step:=fun (w:Int)=>dO l e w) (fun k (_:Unit)=>(k:Int)) l.length (fun j _=>j <= k) (fun x=>x = (.inr (k:Int):Unit ⊕ Int)) (fun j a hj hI=>by
  have w3:IntKind.wrap .i64 ((j:Int) + 1) = ((j + 1:Nat):Int):=dL (by omega)
  have hst:dO l e j = dO l e j:=rfl
  conv at hst=>rhs; unfold dO
  rw [if_pos (by simp only [decide_eq_true_eq]; omega),if_pos (by simp only [decide_eq_true_eq]; omega),aIN l j hj,Option.bind_some,aIN e j (by omega),Option.bind_some,w3] at hst
  by_cases c:j = k
  ·subst c
   rw [if_pos (by simpa using hs.1),if_pos (by simpa using hs.2)] at hst
   exact .inr ⟨_,hst,rfl⟩
  ·refine .inl ⟨(),?_,by omega⟩
   have hn:=h j (by omega)
   by_cases c4:(el l j).Kind = 4
   ·rw [if_pos (by simpa using c4),if_neg (by simpa using fun q=>hn ⟨c4,q⟩)] at hst
    exact hst
   ·rw [if_neg (by simpa using c4)] at hst
    exact hst) (fun a hI=>absurd hI (by omega)) () (Nat.zero_le _)
 have e0:eW (fun (w:Int)=>dO l e w) 0 = some x:=h1
 rw [e0,h2]
 rfl
end Go.Proofs.Ytiimibimkpimbaa
set_option linter.unusedVariables false
set_option linter.unusedSimpArgs false
namespace Go.Proofs.Ytiimibimkpimbaa
open Go.RowKit Vm
def ofS:List aC->Int->Int
 | [],_=>0
 | x :: l,no=>if x.No = no then x.Sum else ofS l no
theorem S7 (l:List aC) (hl:l.length <= 100000) (no:Int):dM l no = some (ofS l no):=by
 unfold dM oV
 have key:∀ (r q:List aC),l = q ++ r->∃ z,eW (fun (w:Int)=>eA l no w) (q.length:Int) = some z ∧ (Sum.elim (fun z6=>some 0) (fun z7=>some z7) z:Option Int) = some (ofS r no):=by
  intro r
  induction r with
  | nil =>
   intro q e
   rw [List.append_nil] at e
   subst e
   refine ⟨.inl (),gP ?_,rfl⟩
   unfold eA
   rw [if_neg (by simp)]
  | cons x r ih =>
   intro q e
   have hx:l[q.length]? = some x:=by rw [e]; simp
   have hk:=qM hx
   have w3:IntKind.wrap .i64 ((q.length:Int) + 1) = ((q.length + 1:Nat):Int):=dL (by omega)
   have hst:eA l no q.length = eA l no q.length:=rfl
   conv at hst=>rhs; unfold eA
   simp only [fZ hx,if_true,mO hx,Option.bind_some,w3] at hst
   by_cases c:x.No = no
   ·rw [if_pos (by simpa using c)] at hst
    refine ⟨.inr x.Sum,gP hst,?_⟩
    unfold ofS
    rw [if_pos c]
    rfl
   ·rw [if_neg (by simpa using c)] at hst
    obtain ⟨z,h1,h2⟩:=ih (q ++ [x]) (by rw [e]; simp)
    rw [List.length_append,List.length_singleton] at h1
    refine ⟨z,(gL hst).trans h1,?_⟩
    rw [h2]
    conv=>rhs; unfold ofS
    rw [if_neg c]
 obtain ⟨z,h1,h2⟩:=key l [] rfl
 have e0:eW (fun (w:Int)=>eA l no w) 0 = some z:=h1
 rw [e0,Option.bind_some]
 exact h2
theorem ZH {o:List aA} (h:uB o) (p:aA->Bool) (F:aA->aC) (hF:∀ e,(F e).No = e.No) {e:aA} (he:e ∈ o):ofS ((o.filter p).map F) e.No = if p e = true then (F e).Sum else 0:=by
 induction o with
 | nil=>cases he
 | cons x o ih =>
  obtain ⟨h1,h2⟩:=List.pairwise_cons.1 h
  rw [List.filter_cons]
  rcases List.mem_cons.1 he with e1 | he'
  ·subst e1
   by_cases c:p e = true
   ·rw [if_pos c,if_pos c,List.map_cons]
    unfold ofS
    rw [if_pos (hF e)]
   ·rw [if_neg c,if_neg c]
    have:∀ l:List aA,(∀ y ∈ l,e.No ≠ y.No)->ofS (l.map F) e.No = 0:=by
     intro l
     induction l with
     | nil=>intro _; rfl
     | cons y l ih' =>
      intro hl
      rw [List.map_cons]
      unfold ofS
      rw [if_neg (by rw [hF]; exact fun q=>hl y List.mem_cons_self q.symm)]
      exact ih' fun z hz=>hl z (List.mem_cons_of_mem _ hz)
    exact this _ fun y hy=>h1 y (List.mem_filter.1 hy).1
  ·have hne:x.No ≠ e.No:=h1 e he'
   by_cases c:p x = true
   ·rw [if_pos c,List.map_cons]
    conv=>lhs; unfold ofS
    rw [if_neg (by rw [hF]; exact hne)]
    exact ih h2 he'
   ·rw [if_neg c]
    exact ih h2 he'
theorem GL {o:List aA} (h:uB o) {m:MI} {e:aA} (he:e ∈ o) (h0:0 <= cl m e):ofS (pP o m) e.No = cl m e:=by
 unfold pP
 rw [ZH h _ _ (fun _=>rfl) he]
 by_cases c:0 < cl m e
 ·rw [if_pos (by simpa using c)]
 ·rw [if_neg (by simpa using c)]
  omega
theorem aJJ {o:List aA} (h:uB o) {m m' : MI} {e:aA} (he:e ∈ o) (h0:cl m' e <= cl m e):ofS (lX o m m') e.No = cl m e - cl m' e:=by
 unfold lX
 rw [ZH h _ _ (fun _=>rfl) he]
 by_cases c:0 < cl m e - cl m' e
 ·rw [if_pos (by simpa using c)]
 ·rw [if_neg (by simpa using c)]
  omega
end Go.Proofs.Ytiimibimkpimbaa
set_option linter.unusedVariables false
set_option linter.unusedSimpArgs false
namespace Go.Proofs.Ytiimibimkpimbaa
open Go.RowKit Vm
end Go.Proofs.Ytiimibimkpimbaa
set_option linter.unusedVariables false
set_option linter.unusedSimpArgs false
namespace Go.Proofs.Ytiimibimkpimbaa
open Go.RowKit Vm
def I3 (o:List aA) (m:MI):Prop:=∀ k,(∀ e ∈ o,e.No ≠ k)->fT k 0 m = 0
theorem L6 {n:Int} {g:aE} {sm:aA->Int} {o:List aA} {m:MI} (h:I3 o m):I3 o (lB n g sm o m):=by
 intro k hk
 unfold lB
 rw [zU,D5,if_neg]
 ·exact h k hk
 ·rintro ⟨x,hx,e⟩
  exact hk x (List.mem_filter.1 hx).1 e
 ·intro q
  obtain ⟨x,hx,e⟩:=List.mem_map.1 q
  exact hk x (List.mem_filter.1 hx).1 e
theorem aBX (n:Int) (o:List aA):I3 o (oZ n o):=by
 have key:∀ (r:List aA) (a:MI × MB),I3 o a.1->I3 o (r.foldl (tE n o) a).1:=by
  intro r
  induction r with
  | nil=>intro a h; exact h
  | cons x r ih =>
   intro a h
   rw [List.foldl_cons]
   refine ih _ ?_
   unfold tE
   split
   ·exact h
   ·exact L6 h
 exact key o ([],[]) fun k _=>rfl
def aJ8:StF->Prop
 | none=>True
 | some (o,m)=>I3 o m
theorem aHW (n r c:Int) (l:List aA):aJ8 (bM n r c l).2.1:=by
 refine vB (P:=fun l=>aJ8 (bM n r c l).2.1) trivial (fun l x ih=>?_) l
 rw [iZ]
 show aJ8 (eG n r c (bM n r c l).1 (bM n r c l).2.1 x).1
 cases e:(bM n r c l).2.1 with
 | none =>
  unfold eG
  split
  ·trivial
  ·dsimp only
   split
   ·split
    ·trivial
    ·split
     ·trivial
     ·exact aBX _ _
   ·split
    ·trivial
    ·split <;> trivial
 | some s =>
  obtain ⟨o,m⟩:=s
  rw [e] at ih
  have ih' : I3 o m:=ih
  unfold eG
  split
  ·exact ih'
  ·dsimp only
   split
   ·exact ih'
   ·split
    ·split
     ·exact ih'
     ·exact L6 ih'
    ·exact ih'
theorem UA {o:List aA} (ho:uB o) {e:aA} (he:e ∈ o) {no:Int} (hno:e.No = no):kL no o = wZ e:=by
 unfold kL
 have key:∀ (r:List aA) (g:aE),(∀ x ∈ r,x.No = no->x = e)->(g = wZ e ∨ e ∈ r)->r.foldl (fun g x=>if x.No = no then wZ x else g) g = wZ e:=by
  intro r
  induction r with
  | nil =>
   intro g _ h
   rcases h with h | h
   ·exact h
   ·cases h
  | cons x r ih =>
   intro g hx h
   rw [List.foldl_cons]
   refine ih _ (fun y hy=>hx y (List.mem_cons_of_mem _ hy)) ?_
   by_cases c:x.No = no
   ·rw [if_pos c,hx x List.mem_cons_self c]
    exact .inl rfl
   ·rw [if_neg c]
    rcases h with h | h
    ·exact .inl h
    ·rcases List.mem_cons.1 h with h | h
     ·exact absurd (h ▸ hno) c
     ·exact .inr h
 exact key o _ (fun x hx e'=>ho.one x hx e he (e'.trans hno.symm)) (.inr he)
theorem NO {n r c:Int} {N:Nat} (hn:n = N) (hN:N <= 40) (l:List aA) (hw:∀ e ∈ l,dP e.Sum):(bM n r c l).2.2.1.length <= 100 * l.length:=by
 refine vB (P:=fun l=>(∀ e ∈ l,dP e.Sum)->(bM n r c l).2.2.1.length <= 100 * l.length) (fun _=>Nat.le_refl _) (fun l x ih hw=>?_) l hw
 have hw' : ∀ e ∈ l,dP e.Sum:=fun e he=>hw e (List.mem_append_left _ he)
 have h1:=ih hw'
 have hg:=B1 (n:=n) (r:=r) (c:=c) hn hN hw' l.length
 rw [List.take_length] at hg
 rw [iZ]
 show ((bM n r c l).2.2.1 ++ (eG n r c (bM n r c l).1 (bM n r c l).2.1 x).2.1).length <= _
 have h2:=KZ n r c (bM n r c l).1 (bM n r c l).2.1 x fun o m e=>by
  rw [e] at hg
  exact hg.1.len
 rw [List.length_append,List.length_append,List.length_singleton]
 omega
theorem WG {α:Type} (a b:List α):gX (a ++ b) 0 (a.length:Int) = a:=by
 rw [B3,List.take_left]
theorem CL {α:Type} (a b:List α):gX (a ++ b) (a.length:Int) ((a ++ b).length:Int) = b:=by
 unfold gX
 rw [Int.toNat_natCast,Int.toNat_natCast,List.take_length,List.drop_left]
def V5 (L:List aA) (c:aA->Int):Int:=L.foldl (fun a x=>a + c x) 0
theorem aC9 (c:aA->Int):∀ L:List aA,V5 L c = fI (el (L.map c)) (L.map c).length:=by
 intro L
 refine vB (P:=fun L=>V5 L c = fI (el (L.map c)) (L.map c).length) rfl (fun L x ih=>?_) L
 have e0:V5 (L ++ [x]) c = V5 L c + c x:=by
  unfold V5
  rw [List.foldl_append]
  rfl
 rw [e0,ih,List.map_append,List.length_append]
 show _ = fI (el (L.map c ++ [c x])) (L.map c).length + el (L.map c ++ [c x]) (L.map c).length
 have e1:el (L.map c ++ [c x]) (L.map c).length = c x:=by simp [el]
 rw [e1]
 congr 1
 refine jK fun i hi=>?_
 rw [wJ _ i hi,wJ _ i (by rw [List.length_append]; omega),List.getElem_append_left hi]
section
variable {N:Nat} {o:List aA} (ho:sN N o) (hN:N <= 40) {m:MI} (hm:MJ o m) (no:Int)
include ho hN hm
theorem aIC {e:aA} (he:e ∈ o):0 <= cl (sX N o m no) e ∧ cl (sX N o m no) e <= cl m e:=by
 have hs:=QI hm ho no
 have h0:=hm e he
 by_cases g:M9 (kL no o) e = true
 ·by_cases p:0 < vX no m e
  ·have h1:=MS (FW ho hN hs (kL no o)) (EP ho hN hs (kL no o) m) e (ED.2 ⟨he,g,p⟩)
   have h2:vX no m e <= cl m e:=by
    unfold vX
    split <;> omega
   exact ⟨h1.1,Int.le_trans h1.2 h2⟩
  ·have:=CZ (n:=(N:Int)) (m:=m) ho.diff he g p
   unfold sX
   rw [this]
   exact ⟨Int.le_refl _,h0.1⟩
 ·rw [Bool.not_eq_true] at g
  have:=B2 (n:=(N:Int)) (sm:=vX no m) (m:=m) ho.diff he g
  unfold sX
  rw [this]
  exact ⟨h0.1,Int.le_refl _⟩
omit hN hm in
theorem aCg {e:aA} (he:e ∈ o) (g:M9 (kL no o) e = false):cl (sX N o m no) e = cl m e:=B2 (n:=(N:Int)) (sm:=vX no m) (m:=m) ho.diff he g
omit hN hm in
theorem aHd {e:aA} (he:e ∈ o) (hno:e.No = no):cl (sX N o m no) e = 0:=by
 refine CZ (n:=(N:Int)) (m:=m) ho.diff he ?_ ?_
 ·rw [UA ho.diff he hno]
  exact KF.2 rfl
 ·unfold vX
  rw [if_pos hno]
  omega
end
end Go.Proofs.Ytiimibimkpimbaa
