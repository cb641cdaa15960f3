/- fair.Run and fair.Cleared do what is told in plain terms: the inner loops. fair.Run and fair.Cleared do what is told in plain terms. Law 44: what comes of the first closing; FairCut. Law 44: the reference's small functions; the sanity function. Law 44: the sum of a number among what is told. Law 44: what is cleared nets to nothing in each group. Law 44: reopening. -/
import Derived.Test.YtiimibimkpimbaaPFa
set_option linter.unusedVariables false
set_option linter.unusedSimpArgs false
namespace Go.Proofs.Ytiimibimkpimbaa
open Go.RowKit Vm
theorem aGZ {S A X:Type} {step:S→Option (S ⊕ X)} (st:Nat→A→S) (n:Nat) (I:Nat→A→Prop) (Q:X→Prop)
  (h:∀ k a,k < n→I k a→(∃ a',step (st k a) = some (.inl (st (k + 1) a')) ∧ I (k + 1) a') ∨ ∃ x,step (st k a) = some (.inr x) ∧ Q x)
  (he:∀ a,I n a→∃ x,step (st n a) = some (.inr x) ∧ Q x) (k0:Nat) (hk0:k0 ≤ n) (a:A) (h0:I k0 a):∃ x,eZ step (st k0 a) = some x ∧ Q x:=by
 have key:∀ m k a,k + m = n→I k a→∃ x,eZ step (st k a) = some x ∧ Q x:=by
  intro m
  induction m with
  | zero =>
   intro k a hk hI
   obtain rfl:k = n:=by omega
   obtain ⟨x,h1,h2⟩:=he a hI
   exact ⟨x,fN h1,h2⟩
  | succ m ih =>
   intro k a hk hI
   rcases h k a (by omega) hI with ⟨a',h1,h2⟩ | ⟨x,h1,h2⟩
   ·rw [gJ h1]
    exact ih (k + 1) a' (by omega) h2
   ·exact ⟨x,fN h1,h2⟩
 exact key (n - k0) k0 a (by omega) h0
theorem vV {α β:Type} (p:α→Bool) (F:α→β):∀ (l:List α) (acc:List β),l.foldl (fun out x=>if p x = true then out ++ [F x] else out) acc = acc ++ (l.filter p).map F
 | [],acc=>by simp
 | x :: l,acc=>by
  rw [List.foldl_cons,vV p F l,List.filter_cons]
  split <;> simp
theorem JH {k:Int} (h:0 ≤ k ∧ k < 1000):dW k:=⟨by omega,by omega⟩
theorem aLD:dW 0:=⟨by decide,by decide⟩
section
variable (a0 a1 a2:Int) (a3:List aA) (p2:Int) (p3:List aC) (p4:List Int) (p8:Int) (p10:MB)
theorem aKz {o:List aA} (hl:o.length ≤ 400) (hno:∀ e ∈ o,0 ≤ e.No ∧ e.No < 1000) (g:aE) (m:MI) (hm:m.length ≤ 100000000000) :
  uC a0 a1 a2 a3 p10 p2 p3 p4 p8 g o 0 m [] [] = some (v8 (BH g o) m,(xY g (fun x=>x.Sum) o).map (rK fun x=>x.Sum),(xY g (fun x=>x.Sum) o).map (·.No)):=by
 unfold uC
 refine IP (step:=fun (w:Int × MI × (List aS) × (List Int))=>jW a0 a1 a2 a3 p10 p2 p3 p4 p8 g o w.1 w.2.1 w.2.2.1 w.2.2.2) g (fun x=>x.Sum) o hl m hm (fun k e m d u hx h1 h2 h3=>?_) (fun a=>?_)
 ·show jW a0 a1 a2 a3 p10 p2 p3 p4 p8 g o k m d u = _
  have hk:=nH hx
  have w3:IntKind.wrap .i64 ((k:Int) + 1) = ((k + 1:Nat):Int):=dN (by omega)
  have hi:=JH (hno e (List.mem_of_getElem? hx))
  unfold jW tL kV
  simp only [fL hx,if_true,kP hx,Option.bind_some,aHM,w3,if_pos hi,if_pos aLD,if_pos h1]
  unfold T2
  by_cases c:RM g e = true
  ·have c' : ((u4 e).currency == g.currency && (u4 e).due == g.due) = true:=c
   rw [c',if_neg (by decide),if_pos c]
   by_cases c2:0 < e.Sum
   ·rw [if_pos (decide_eq_true (show e.Sum > 0 from c2)),if_pos (by omega),if_pos (by omega),if_pos c2,if_pos c2]
    rfl
   ·rw [if_neg (by simpa using c2),if_neg c2,if_neg c2]
  ·have c' : ((u4 e).currency == g.currency && (u4 e).due == g.due) = false:=by
    rw [Bool.not_eq_true] at c; exact c
   rw [c',if_pos (by decide),if_neg c]
 ·show jW a0 a1 a2 a3 p10 p2 p3 p4 p8 g o o.length a.1 a.2.1 a.2.2 = _
  unfold jW
  rw [if_neg (by simp)]
theorem aKl (r12:aE) (r27:MI × (List aS) × (List Int)) (r28:(List Int) × (List Int) × Int) (r7:List aA) (hl:r28.1.length = r27.2.2.length) (hu:r27.2.2.length ≤ 400)
  (hi:∀ i ∈ r27.2.2,dW i) (hv:∀ i ∈ r28.1,dW i) (m:MI) (hm:m.length ≤ 100000000000) :
  tX a0 a1 a2 a3 p10 p2 p3 p4 p8 r12 r27 r28 r7 0 m = some (oG r27.2.2 r28.1 m):=by
 unfold tX
 refine T1 (step:=fun (w:Int × MI)=>jY a0 a1 a2 a3 p10 p2 p3 p4 p8 r12 r27 r28 r7 w.1 w.2) r27.2.2 r28.1 hl hu m hm (fun k i v m h1 h2 h3=>?_) (fun m=>?_)
 ·show jY a0 a1 a2 a3 p10 p2 p3 p4 p8 r12 r27 r28 r7 k m = _
  have hk:=nH h1
  have w3:IntKind.wrap .i64 ((k:Int) + 1) = ((k + 1:Nat):Int):=dN (by omega)
  unfold jY
  simp only [fL h2,if_true,kP h2,Option.bind_some,w3,Int.toNat_natCast,h1,if_pos (hi i (List.mem_of_getElem? h1)),if_pos (hv v (List.mem_of_getElem? h2)),if_pos h3]
  rw [if_pos ⟨by omega,hk⟩]
 ·show jY a0 a1 a2 a3 p10 p2 p3 p4 p8 r12 r27 r28 r7 r28.1.length m = _
  unfold jY
  rw [if_neg (by simp)]
theorem aC4 {N:Nat} {d:List aS} (h:FR N d):∀ v ∈ sM N d,dW v:=by
 intro v hv
 obtain ⟨q,_,hb⟩:=JJ h
 obtain ⟨i,hi,rfl⟩:=X8 hv
 rw [hb.len] at hi
 have h1:=hb.bald.lo i hi
 have h2:=hb.bald.hi i hi
 unfold rQ at h2
 have h3:=(h.each i hi).2.2.2.2
 exact ⟨by omega,by omega⟩
theorem aJt {N:Nat} {o:List aA} (ho:qI N o) (hN:N ≤ 40):uE N a1 a2 a3 p2 p3 p4 o 0 [] [] = some (pO N o):=by
 unfold uE
 have h:=nJ (step:=fun (w:Int × MI × MB)=>j6 N a1 a2 a3 p2 p3 p4 o w.1 w.2.1 w.2.2) (fun k a=>((k:Int),a)) o (vX N o) (fun k a=>FH N o (o.take k) a) (fun a=>a.1) (fun k a e hx hI=>by
  have hk:=nH hx
  have he:e ∈ o:=List.mem_of_getElem? hx
  have w3:IntKind.wrap .i64 ((k:Int) + 1) = ((k + 1:Nat):Int):=dN (by have:=ho.len; omega)
  have hs:=hI.step ho hN (fun x hx=>List.mem_of_mem_take hx) he
  have ht:o.take k ++ [e] = o.take (k + 1):=by
   rw [List.take_add_one,hx]; rfl
  rw [ht] at hs
  refine ⟨?_,hs⟩
  show j6 N a1 a2 a3 p2 p3 p4 o k a.1 a.2 = _
  obtain ⟨_,_,_,_,_,q1,q2⟩:=ho.each e he
  have i1:dW e.Currency:=⟨by omega,by omega⟩
  have i2:dW e.Due:=⟨by omega,by omega⟩
  have l1:=hI.len1
  have l2:=hI.len2
  rw [List.length_take] at l1 l2
  have l3:=ho.len
  have hss:∀ x ∈ o,(fun x:aA=>x.Sum) x ≤ x.Sum:=fun x _=>Int.le_refl _
  have hd:=HY ho hN hss (u4 e)
  obtain ⟨q,hc,hb⟩:=JJ hd
  unfold j6
  simp only [fL hx,if_true,kP hx,Option.bind_some,aHM,w3]
  show (if dW e.Currency then _ else none) = _
  rw [if_pos i1]
  show (if dW e.Due then _ else none) = _
  rw [if_pos i2]
  unfold vX
  show (if (!gC (fG e.Currency e.Due) false a.2) = true then _ else _) = _
  by_cases c:gC (fG e.Currency e.Due) false a.2 = true
  ·rw [c,if_neg (by decide),if_pos rfl]
  ·have c' : gC (fG e.Currency e.Due) false a.2 = false:=by
    rw [Bool.not_eq_true] at c; exact c
   rw [c',if_pos (show (!false) = true from rfl),if_neg Bool.false_ne_true]
   show (if dW e.Currency then _ else none) = _
   rw [if_pos i1]
   show (if dW e.Due then _ else none) = _
   rw [if_pos i2,if_pos (by omega),aKz _ _ _ _ _ _ _ _ _ (by omega) (fun e he=>(ho.each e he).2.2.2.2.1) _ _ (by omega),Option.bind_some]
   dsimp only
   rw [hc,Option.bind_some,aKl _ _ _ _ _ _ _ _ _ _ _ _ _ (by dsimp only; rw [QD hd,List.length_map,List.length_map]) (by
    dsimp only
    rw [List.length_map]
    have:(xY (u4 e) (fun x=>x.Sum) o).length ≤ o.length:=List.length_filter_le _ _
    omega) (fun i hi=>by
    obtain ⟨x,hx,rfl⟩:=List.mem_map.1 hi
    exact JH (ho.each x (F9.1 hx).1).2.2.2.2.1) (fun v hv=>aC4 hd v hv) _ (by
    have h1:=D7 (BH (u4 e) o) a.1
    have h2:(BH (u4 e) o).length ≤ o.length:=List.length_filter_le _ _
    omega)]
   rfl) (fun a _=>by
  show j6 N a1 a2 a3 p2 p3 p4 o o.length a.1 a.2 = _
  unfold j6
  rw [if_neg (by simp)]) ([],[]) ⟨fun e he=>(by simp [gC]),fun e he=>(by simp at he),(by simp),(by simp)⟩
 exact h.1
theorem aDo {o:List aA} (hl:o.length ≤ 400) (hno:∀ e ∈ o,0 ≤ e.No ∧ e.No < 1000) (m:MI):rB a0 a1 a2 a3 p2 p3 p4 m o 0 [] = some (wK o m):=by
 unfold rB
 have h:=nJ (step:=fun (w:Int × (List aC))=>j5 a0 a1 a2 a3 p2 p3 p4 m o w.1 w.2) (fun k a=>((k:Int),a)) o (fun out x=>if decide (0 < cl m x) = true then out ++ [⟨4,x.Room,x.No,cl m x⟩] else out) (fun k a=>a.length ≤ k) id (fun k a x hx hI=>by
  have hk:=nH hx
  have w3:IntKind.wrap .i64 ((k:Int) + 1) = ((k + 1:Nat):Int):=dN (by omega)
  constructor
  ·show j5 a0 a1 a2 a3 p2 p3 p4 m o k a = _
   unfold j5
   simp only [fL hx,if_true,kP hx,Option.bind_some,w3,if_pos (JH (hno x (List.mem_of_getElem? hx)))]
   by_cases c:0 < cl m x
   ·rw [if_pos (decide_eq_true (show gC x.No 0 m > 0 from c)),if_pos (by omega),if_pos (decide_eq_true c)]
    rfl
   ·rw [if_neg (by simpa [cl] using c),if_neg (by simpa using c)]
  ·split
   ·rw [List.length_append,List.length_singleton]; omega
   ·omega) (fun a hI=>by
  show j5 a0 a1 a2 a3 p2 p3 p4 m o o.length a = _
  unfold j5
  rw [if_neg (by simp)]
  rfl) [] (Nat.le_refl _)
 rw [vV] at h
 exact h.1
end
def LA (no:Int) (m:MI) (a:aE × MI) (e:aA):aE × MI:=(if e.No = no then u4 e else a.1,fQ e.No (cl m e) a.2)
theorem U5 (no:Int) (m:MI):∀ (o:List aA) (g:aE) (b:MI),(o.foldl (LA no m) (g,b)).1 = o.foldl (fun g e=>if e.No = no then u4 e else g) g ∧ (∀ k,gC k 0 (o.foldl (LA no m) (g,b)).2 = if (∃ e ∈ o,e.No = k) then gC k 0 m else gC k 0 b) ∧ (o.foldl (LA no m) (g,b)).2.length ≤ b.length + o.length
 | [],g,b=>by simp
 | e :: o,g,b=>by
  obtain ⟨h1,h2,h3⟩:=U5 no m o (if e.No = no then u4 e else g) (fQ e.No (cl m e) b)
  refine ⟨h1,fun k=>?_,?_⟩
  ·show gC k 0 (o.foldl (LA no m) (_,fQ e.No (cl m e) b)).2 = _
   refine (h2 k).trans ?_
   rw [GG]
   by_cases c1:∃ x ∈ o,x.No = k
   ·rw [if_pos c1,if_pos]
    obtain ⟨x,hx,e'⟩:=c1
    exact ⟨x,List.mem_cons_of_mem _ hx,e'⟩
   ·rw [if_neg c1]
    by_cases c2:k = e.No
    ·rw [if_pos c2,if_pos ⟨e,List.mem_cons_self,c2.symm⟩,c2]
     rfl
    ·rw [if_neg c2,if_neg]
     rintro ⟨x,hx,e'⟩
     rcases List.mem_cons.1 hx with rfl | hx
     ·exact c2 e'.symm
     ·exact c1 ⟨x,hx,e'⟩
  ·have:=B4 e.No (cl m e) b
   rw [List.length_cons]
   refine Nat.le_trans h3 ?_
   omega
section
variable (a0 a1 a2:Int) (a3:List aA) (p52:Int) (p53:List aC) (p54:List Int) (x56:aA) (z50:Int × (List aA) × (List aC) × (List Int) × MI)
theorem aJY (hl:z50.2.1.length ≤ 400) (hno:∀ e ∈ z50.2.1,0 ≤ e.No ∧ e.No < 1000) (m:MI) (hm:∀ e ∈ z50.2.1,dW (cl m e)) :
  pL a0 a1 a2 a3 p52 p53 p54 m x56 z50 0 (aE.mk 0 0) [] = some (z50.2.1.foldl (LA x56.No m) (⟨0,0⟩,[])):=by
 unfold pL
 have h:=nJ (step:=fun (w:Int × aE × MI)=>jX a0 a1 a2 a3 p52 p53 p54 m x56 z50 w.1 w.2.1 w.2.2) (fun k a=>((k:Int),a)) z50.2.1 (LA x56.No m) (fun k a=>a.2.length ≤ k) id (fun k a e hx hI=>by
  have hk:=nH hx
  have he:=List.mem_of_getElem? hx
  have w3:IntKind.wrap .i64 ((k:Int) + 1) = ((k + 1:Nat):Int):=dN (by omega)
  have i3:dW (gC e.No 0 m):=hm e he
  constructor
  ·show jX a0 a1 a2 a3 p52 p53 p54 m x56 z50 k a.1 a.2 = _
   unfold jX
   simp only [fL hx,if_true,kP hx,Option.bind_some,w3,if_pos (JH (hno e he)),if_pos i3,aHM]
   rw [if_pos (by omega)]
   unfold LA
   by_cases c:e.No = x56.No
   ·rw [if_pos (by simpa using c),if_pos c]
    rfl
   ·rw [if_neg (by simpa using c),if_neg c]
    rfl
  ·have:=B4 e.No (cl m e) a.2
   show (fQ e.No (cl m e) a.2).length ≤ k + 1
   omega) (fun a hI=>by
  show jX a0 a1 a2 a3 p52 p53 p54 m x56 z50 z50.2.1.length a.1 a.2 = _
  unfold jX
  rw [if_neg (by simp)]
  rfl) (⟨0,0⟩,[]) (Nat.le_refl _)
 exact h.1
theorem aKs (r65:aE × MI) (hl:z50.2.1.length ≤ 400) (hno:∀ e ∈ z50.2.1,0 ≤ e.No ∧ e.No < 1000) (m:MI) (hm:m.length ≤ 100000000000) :
  uG a0 a1 a2 a3 p52 p53 p54 r65 x56 z50 0 m [] [] = some (v8 (BH r65.1 z50.2.1) m,(xY r65.1 (M3 x56.No r65.2) z50.2.1).map (rK (M3 x56.No r65.2)),(xY r65.1 (M3 x56.No r65.2) z50.2.1).map (·.No)):=by
 unfold uG
 refine IP (step:=fun (w:Int × MI × (List aS) × (List Int))=>jT a0 a1 a2 a3 p52 p53 p54 r65 x56 z50 w.1 w.2.1 w.2.2.1 w.2.2.2) r65.1 (M3 x56.No r65.2) z50.2.1 hl m hm (fun k e m d u hx h1 h2 h3=>?_) (fun a=>?_)
 ·show jT a0 a1 a2 a3 p52 p53 p54 r65 x56 z50 k m d u = _
  have hk:=nH hx
  have w3:IntKind.wrap .i64 ((k:Int) + 1) = ((k + 1:Nat):Int):=dN (by omega)
  have hi:=JH (hno e (List.mem_of_getElem? hx))
  have hs:fK e x56.No (some r65.2) = some (M3 x56.No r65.2 e):=by
   unfold fK M3
   by_cases c:e.No = x56.No
   ·rw [if_pos (by simpa using c),if_pos c]
   ·rw [if_neg (by simpa using c),if_neg c,if_pos hi]
    rfl
  unfold jT tB
  simp only [fL hx,if_true,kP hx,Option.bind_some,aHM,w3,hs,if_pos hi,if_pos aLD,if_pos h1]
  unfold T2
  by_cases c:RM r65.1 e = true
  ·have c' : ((u4 e).currency == r65.1.currency && (u4 e).due == r65.1.due) = true:=c
   rw [c',if_neg (by decide),if_pos c]
   by_cases c2:0 < M3 x56.No r65.2 e
   ·rw [if_pos (decide_eq_true (show M3 x56.No r65.2 e > 0 from c2)),if_pos (by omega),if_pos (by omega),if_pos c2,if_pos c2]
    rfl
   ·rw [if_neg (by simpa using c2),if_neg c2,if_neg c2]
  ·have c' : ((u4 e).currency == r65.1.currency && (u4 e).due == r65.1.due) = false:=by
    rw [Bool.not_eq_true] at c; exact c
   rw [c',if_pos (by decide),if_neg c]
 ·show jT a0 a1 a2 a3 p52 p53 p54 r65 x56 z50 z50.2.1.length a.1 a.2.1 a.2.2 = _
  unfold jT
  rw [if_neg (by simp)]
theorem aHA (r65:aE × MI) (r80:MI × (List aS) × (List Int)) (r81:(List Int) × (List Int) × Int) (hl:r81.1.length = r80.2.2.length) (hu:r80.2.2.length ≤ 400)
  (hi:∀ i ∈ r80.2.2,dW i) (hv:∀ i ∈ r81.1,dW i) (m:MI) (hm:m.length ≤ 100000000000) :
  rR a0 a1 a2 a3 p52 p53 p54 r65 r80 r81 z50 0 m = some (oG r80.2.2 r81.1 m):=by
 unfold rR
 refine T1 (step:=fun (w:Int × MI)=>iX a0 a1 a2 a3 p52 p53 p54 r65 r80 r81 z50 w.1 w.2) r80.2.2 r81.1 hl hu m hm (fun k i v m h1 h2 h3=>?_) (fun m=>?_)
 ·show iX a0 a1 a2 a3 p52 p53 p54 r65 r80 r81 z50 k m = _
  have hk:=nH h1
  have w3:IntKind.wrap .i64 ((k:Int) + 1) = ((k + 1:Nat):Int):=dN (by omega)
  unfold iX
  simp only [fL h2,if_true,kP h2,Option.bind_some,w3,Int.toNat_natCast,h1,if_pos (hi i (List.mem_of_getElem? h1)),if_pos (hv v (List.mem_of_getElem? h2)),if_pos h3]
  rw [if_pos ⟨by omega,hk⟩]
 ·show iX a0 a1 a2 a3 p52 p53 p54 r65 r80 r81 z50 r81.1.length m = _
  unfold iX
  rw [if_neg (by simp)]
theorem aIu (r65:aE × MI) (r87:MI) (hl:z50.2.1.length ≤ 400) (hno:∀ e ∈ z50.2.1,0 ≤ e.No ∧ e.No < 1000) (hb:∀ e ∈ z50.2.1,0 ≤ cl r65.2 e ∧ cl r65.2 e ≤ 1099511627776 ∧ 0 ≤ cl r87 e ∧ cl r87 e ≤ 1099511627776) :
  rT a0 a1 a2 a3 p52 p53 p54 r65 r87 z50 0 [] = some (yU z50.2.1 r65.2 r87):=by
 unfold rT
 have h:=nJ (step:=fun (w:Int × (List aC))=>iY a0 a1 a2 a3 p52 p53 p54 r65 r87 z50 w.1 w.2) (fun k a=>((k:Int),a)) z50.2.1 (fun out x=>if decide (0 < cl r65.2 x - cl r87 x) = true then out ++ [⟨5,x.Room,x.No,cl r65.2 x - cl r87 x⟩] else out) (fun k a=>a.length ≤ k) id (fun k a x hx hI=>by
  have hk:=nH hx
  have he:=List.mem_of_getElem? hx
  have w3:IntKind.wrap .i64 ((k:Int) + 1) = ((k + 1:Nat):Int):=dN (by omega)
  obtain ⟨b1,b2,b3,b4⟩:=hb x he
  have w4:IntKind.wrap .i64 (SP x.No 0 (some r65.2) - gC x.No 0 r87) = cl r65.2 x - cl r87 x:=by
   show IntKind.wrap .i64 (cl r65.2 x - cl r87 x) = _
   exact kF (by omega) (by omega)
  constructor
  ·show iY a0 a1 a2 a3 p52 p53 p54 r65 r87 z50 k a = _
   unfold iY
   simp only [fL hx,if_true,kP hx,Option.bind_some,w3,if_pos (JH (hno x he)),w4]
   by_cases c:0 < cl r65.2 x - cl r87 x
   ·rw [if_pos (decide_eq_true (show cl r65.2 x - cl r87 x > 0 from c)),if_pos (by omega),if_pos (decide_eq_true c)]
   ·rw [if_neg (by simpa using c),if_neg (by simpa using c)]
  ·split
   ·rw [List.length_append,List.length_singleton]; omega
   ·omega) (fun a hI=>by
  show iY a0 a1 a2 a3 p52 p53 p54 r65 r87 z50 z50.2.1.length a = _
  unfold iY
  rw [if_neg (by simp)]
  rfl) [] (Nat.le_refl _)
 rw [vV] at h
 exact h.1
end
end Go.Proofs.Ytiimibimkpimbaa
set_option linter.unusedVariables false
set_option linter.unusedSimpArgs false
namespace Go.Proofs.Ytiimibimkpimbaa
open Go.RowKit Vm
theorem FT {n r c:Int} {l:List aA} (h:sS n r c l = true):aCh n r = true ∧ (0 ≤ c ∧ c < 100001) ∧ l.length ≤ 400:=by
 unfold sS at h
 rw [Bool.and_eq_true,Bool.and_eq_true,decide_eq_true_eq] at h
 exact ⟨h.1.1,EJ.1 h.1.2,h.2⟩
theorem ZT {n r c:Int} {l:List aA} (h:sS n r c l = true) {l' : List aA} (hl:l'.length ≤ 400):sS n r c l' = true:=by
 obtain ⟨h1,h2,h3⟩:=FT h
 unfold sS
 rw [h1,EJ.2 h2,decide_eq_true hl]
 rfl
theorem xJ {α:Type} (l:List α) (k:Nat):C4 l 0 (k:Int) = l.take k:=rfl
theorem CV {n k:Nat} (h:k ≤ n):u5 n 0 (k:Int):=⟨by omega,by omega,by rw [Int.toNat_natCast]; exact h⟩
theorem w8 {α:Type} {l:List α} {k:Nat} {x:α} (h:l[k]? = some x):l.take (k + 1) = l.take k ++ [x]:=by
 rw [List.take_add_one,h]; rfl
section
variable {N:Nat} {n r c:Int} {l:List aA}
theorem L5 (hn:n = N) (hN:N ≤ 40) (hw:∀ e ∈ l,dW e.Sum) (k:Nat):GQ N (cQ n r c (l.take k)).2.1 :=
 SW hn hN (l.take k) ([],none,[],[]) (fun e he=>by cases he) (fun e he=>hw e (List.mem_of_mem_take he)) trivial
structure NA (n r c:Int) (l:List aA) (k:Nat) (a:List aC × List Int):Prop where
 eq:cQ n r c (l.take k) = (l.take k,none,a.1,a.2)
 len1:a.1.length ≤ 100 * k
 len2:a.2.length = k
structure JO (n r c:Int) (l:List aA) (o:List aA) (k:Nat) (a:List aC × List Int × MI):Prop where
 eq:cQ n r c (l.take k) = (l.take k,some (o,a.2.2),a.1,a.2.1)
 len1:a.1.length ≤ 100 * k
 len2:a.2.1.length = k
 len3:a.2.2.length ≤ 20000 + 200 * k
theorem NA.next {k:Nat} {a:List aC × List Int} (h:NA n r c l k a) {e:aA} (he:l[k]? = some e) {x:Int} (ht:gS n r c (l.take k) none e = (none,[],x)):NA n r c l (k + 1) (a.1 ++ [],a.2 ++ [x]):=by
 refine ⟨?_,?_,?_⟩
 ·rw [w8 he,kO,h.eq]
  unfold JX
  dsimp only
  rw [ht]
 ·have:=h.len1
  rw [List.append_nil]; show a.1.length ≤ _; omega
 ·show (a.2 ++ [x]).length = _
  rw [List.length_append,h.len2]; rfl
theorem NA.shut {k:Nat} {a:List aC × List Int} (h:NA n r c l k a) {e:aA} (he:l[k]? = some e) {o:List aA} {m:MI} {os:List aC} (ht:gS n r c (l.take k) none e = (some (o,m),os,0)) (hm:m.length ≤ 20000) (ho:os.length ≤ 100):JO n r c l o (k + 1) (a.1 ++ os,a.2 ++ [0],m):=by
 refine ⟨?_,?_,?_,?_⟩
 ·rw [w8 he,kO,h.eq]
  unfold JX
  dsimp only
  rw [ht]
 ·have:=h.len1
  show (a.1 ++ os).length ≤ _
  rw [List.length_append]; omega
 ·show (a.2 ++ [0]).length = _
  rw [List.length_append,h.len2]; rfl
 ·show m.length ≤ _
  omega
theorem JO.next {o:List aA} {k:Nat} {a:List aC × List Int × MI} (h:JO n r c l o k a) {e:aA} (he:l[k]? = some e) {m:MI} {os:List aC} {x:Int} (ht:gS n r c (l.take k) (some (o,a.2.2)) e = (some (o,m),os,x)) (hm:m.length ≤ a.2.2.length + 200) (ho:os.length ≤ 100):JO n r c l o (k + 1) (a.1 ++ os,a.2.1 ++ [x],m):=by
 refine ⟨?_,?_,?_,?_⟩
 ·rw [w8 he,kO,h.eq]
  unfold JX
  dsimp only
  rw [ht]
 ·have:=h.len1
  show (a.1 ++ os).length ≤ _
  rw [List.length_append]; omega
 ·show (a.2.1 ++ [x]).length = _
  rw [List.length_append,h.len2]; rfl
 ·have:=h.len3
  show m.length ≤ _
  omega
theorem S8 (o:List aA) (m:MI):(wK o m).length ≤ o.length:=by
 unfold wK
 rw [List.length_map]
 exact List.length_filter_le _ _
theorem W3 (o:List aA) (m m' : MI):(yU o m m').length ≤ o.length:=by
 unfold yU
 rw [List.length_map]
 exact List.length_filter_le _ _
theorem aCK (hn:n = N) (hN:N ≤ 40) (hf:sS n r c l = true) (hw:∀ e ∈ l,dW e.Sum) :
  ∃ x,rC n r c l 0 [] [] = some x ∧ ((∃ (k:Nat) (o:List aA) (a:List aC × List Int × MI),x = .inl ((k:Int),o,a.1,a.2.1,a.2.2) ∧ k ≤ l.length ∧ JO n r c l o k a) ∨ ∃ a,x = .inr a ∧ NA n r c l l.length a):=by
 subst hn
 obtain ⟨hd,hc,hl⟩:=FT hf
 unfold rC
 refine o8 (step:=fun (w:Int × (List aC) × (List Int))=>iT N r c l w.1 w.2.1 w.2.2) (fun k a=>((k:Int),a)) l.length (NA N r c l) _ ?_ ?_ ([],[]) ⟨rfl,Nat.zero_le _,rfl⟩
 ·rintro k ⟨p,q⟩ hk hI
  obtain ⟨e,he⟩ : ∃ e,l[k]? = some e:=⟨l[k],List.getElem?_eq_getElem hk⟩
  have w3:IntKind.wrap .i64 ((k:Int) + 1) = ((k + 1:Nat):Int):=dN (by omega)
  have l1:p.length ≤ 100 * k:=hI.len1
  have l2:q.length = k:=hI.len2
  have c1:(p.length + 0) * 32 ≤ 140737488355328:=by omega
  have c2:(q.length + 1) * 8 ≤ 140737488355328:=by omega
  have hst:iT N r c l k p q = iT N r c l k p q:=rfl
  conv at hst=>rhs; unfold iT
  simp only [fL he,if_true,kP he,Option.bind_some,if_pos (CV (Nat.le_of_lt hk)),D2,ZP,w3,xJ,if_pos c1,if_pos c2] at hst
  by_cases ck:NV N r e = false
  ·rw [if_pos ck] at hst
   exact .inl ⟨_,hst,hI.next he (by unfold gS; rw [if_pos ck])⟩
  ·rw [if_neg ck] at hst
   by_cases k4:e.Kind = 4
   ·rw [if_pos (by simpa using k4)] at hst
    by_cases hday:e.Day < c
    ·rw [if_pos (by simpa using hday)] at hst
     exact .inl ⟨_,hst,hI.next he (by unfold gS; rw [if_neg ck]; dsimp only; rw [if_pos k4,if_pos hday])⟩
    ·rw [if_neg (by simpa using hday),BE (ZT hf (by rw [List.length_take]; omega)),Option.bind_some] at hst
     by_cases hfull:100 < (eA N r c (l.take k)).length
     ·rw [if_pos (by simp only [decide_eq_true_eq,gt_iff_lt]; omega)] at hst
      exact .inl ⟨_,hst,hI.next he (by unfold gS; rw [if_neg ck]; dsimp only; rw [if_pos k4,if_neg hday,if_pos hfull])⟩
     ·have ho:=GM (r:=r) (c:=c) (N:=N) rfl (fun e he=>hw e (List.mem_of_mem_take he)) (show (eA N r c (l.take k)).length ≤ 100 by omega)
      rw [if_neg (by simp only [decide_eq_true_eq,gt_iff_lt]; omega),aJt _ _ _ _ _ _ ho hN,Option.bind_some,aDo _ _ _ _ _ _ _ (by omega) (fun e he=>(ho.each e he).2.2.2.2.1),Option.bind_some] at hst
      have ol:=S8 (eA N r c (l.take k)) (pO N (eA N r c (l.take k)))
      rw [if_pos (by omega)] at hst
      exact .inr ⟨_,hst,.inl ⟨k + 1,_,(p ++ _,q ++ [0],_),rfl,hk,hI.shut he (by unfold gS; rw [if_neg ck]; dsimp only; rw [if_pos k4,if_neg hday,if_neg hfull]; rfl) (Z0 ho hN) (by omega)⟩⟩
   ·rw [if_neg (by simpa using k4)] at hst
    by_cases k5:e.Kind = 5
    ·rw [if_pos (by simpa using k5)] at hst
     exact .inl ⟨_,hst,hI.next he (by unfold gS; rw [if_neg ck]; dsimp only; rw [if_neg k4,if_pos k5])⟩
    ·rw [if_neg (by simpa using k5)] at hst
     by_cases hday:c < e.Day
     ·rw [if_pos (by simpa using hday)] at hst
      exact .inl ⟨_,hst,hI.next he (by unfold gS; rw [if_neg ck]; dsimp only; rw [if_neg k4,if_neg k5,if_pos hday])⟩
     ·rw [if_neg (by simpa using hday)] at hst
      exact .inl ⟨_,hst,hI.next he (by unfold gS; rw [if_neg ck]; dsimp only; rw [if_neg k4,if_neg k5,if_neg hday])⟩
 ·rintro ⟨p,q⟩ hI
  refine ⟨.inr (p,q),?_,.inr ⟨_,rfl,hI⟩⟩
  show iT N r c l l.length p q = _
  unfold iT
  rw [if_neg (by simp)]
theorem Y2 (hn:n = N) (hN:N ≤ 40) (hf:sS n r c l = true) (hw:∀ e ∈ l,dW e.Sum) {z50:Int × (List aA) × (List aC) × (List Int) × MI} {k0:Nat} (hk0:k0 ≤ l.length) {a0:List aC × List Int × MI} (h0:JO n r c l z50.2.1 k0 a0) :
  ∃ x,mL n r c l z50 k0 a0.1 a0.2.1 a0.2.2 = some x ∧ JO n r c l z50.2.1 l.length x:=by
 subst hn
 obtain ⟨hd,hc,hl⟩:=FT hf
 unfold mL
 refine aGZ (step:=fun (w:Int × (List aC) × (List Int) × MI)=>hU N r c l z50 w.1 w.2.1 w.2.2.1 w.2.2.2) (fun k a=>((k:Int),a)) l.length (JO N r c l z50.2.1) _ ?_ ?_ k0 hk0 a0 h0
 ·rintro k ⟨p,q,m⟩ hk hI
  obtain ⟨e,he⟩ : ∃ e,l[k]? = some e:=⟨l[k],List.getElem?_eq_getElem hk⟩
  have w3:IntKind.wrap .i64 ((k:Int) + 1) = ((k + 1:Nat):Int):=dN (by omega)
  have l1:p.length ≤ 100 * k:=hI.len1
  have l2:q.length = k:=hI.len2
  have l3:m.length ≤ 20000 + 200 * k:=hI.len3
  have c1:(p.length + 0) * 32 ≤ 140737488355328:=by omega
  have c2:(q.length + 1) * 8 ≤ 140737488355328:=by omega
  have hg:=L5 (n:=N) (r:=r) (c:=c) rfl hN hw k
  rw [hI.eq] at hg
  obtain ⟨ho,hm⟩ : qI N z50.2.1 ∧ NM z50.2.1 m:=hg
  have hno:∀ e ∈ z50.2.1,0 ≤ e.No ∧ e.No < 1000:=fun e he=>(ho.each e he).2.2.2.2.1
  have ol:=ho.len
  have hst:hU N r c l z50 k p q m = hU N r c l z50 k p q m:=rfl
  conv at hst=>rhs; unfold hU
  simp only [fL he,if_true,kP he,Option.bind_some,if_pos (CV (Nat.le_of_lt hk)),D2,ZP,w3,xJ,if_pos c1,if_pos c2] at hst
  refine .inl ?_
  by_cases ck:NV N r e = false
  ·rw [if_pos ck] at hst
   exact ⟨_,hst,hI.next he (by unfold gS; rw [if_pos ck]) (by show m.length ≤ m.length + 200; omega) (by simp)⟩
  ·rw [if_neg ck] at hst
   by_cases k4:e.Kind = 4
   ·rw [if_pos (by simpa using k4)] at hst
    exact ⟨_,hst,hI.next he (by unfold gS; rw [if_neg ck]; dsimp only; rw [if_pos k4]) (by show m.length ≤ m.length + 200; omega) (by simp)⟩
   ·rw [if_neg (by simpa using k4)] at hst
    by_cases k5:e.Kind = 5
    ·rw [if_pos (by simpa using k5),if_pos (JH (aFw (by simpa using ck)))] at hst
     by_cases hz:gC e.No 0 m = 0
     ·rw [if_pos (by simpa using hz)] at hst
      exact ⟨_,hst,hI.next he (by unfold gS; rw [if_neg ck]; dsimp only; rw [if_neg k4,if_pos k5,if_pos hz]) (by show m.length ≤ m.length + 200; omega) (by simp)⟩
     ·rw [if_neg (by simpa using hz)] at hst
      obtain ⟨b1,b2,b3⟩:=U5 e.No m z50.2.1 ⟨0,0⟩ []
      have hbe:∀ x ∈ z50.2.1,cl (z50.2.1.foldl (LA e.No m) (⟨0,0⟩,[])).2 x = cl m x:=fun x hx=>(b2 x.No).trans (if_pos ⟨x,hx,rfl⟩)
      have hsm:∀ x ∈ z50.2.1,M3 e.No (z50.2.1.foldl (LA e.No m) (⟨0,0⟩,[])).2 x = M3 e.No m x:=fun x hx=>by
       unfold M3
       rw [hbe x hx]
      have hrange:∀ x ∈ z50.2.1,0 ≤ cl m x ∧ cl m x ≤ 1099511627776:=fun x hx=>by
       have:=hm x hx
       have:=(ho.each x hx).2.2.2.1
       omega
      have hle:=VG hm ho e.No
      have hd:=HY ho hN hle (yF e.No z50.2.1)
      obtain ⟨pot,hc',hb'⟩:=JJ hd
      have hm':=aIP ho hN hm e.No
      rw [aJY _ _ _ _ _ _ _ _ _ (by omega) hno m (fun x hx=>by have:=hrange x hx; exact ⟨by omega,by omega⟩),Option.bind_some,
       aKs _ _ _ _ _ _ _ _ _ _ (by omega) hno m (by omega),Option.bind_some] at hst
      obtain ⟨a1,a2⟩:=aBH (g:=yF e.No z50.2.1) hsm
      have b1' : (z50.2.1.foldl (LA e.No m) (⟨0,0⟩,[])).1 = yF e.No z50.2.1:=b1
      rw [b1',a2,a1] at hst
      dsimp only at hst
      have al:(xY (yF e.No z50.2.1) (M3 e.No m) z50.2.1).length ≤ z50.2.1.length:=List.length_filter_le _ _
      have gl:(BH (yF e.No z50.2.1) z50.2.1).length ≤ z50.2.1.length:=List.length_filter_le _ _
      have zl:=D7 (BH (yF e.No z50.2.1) z50.2.1) m
      have cln:(sM N ((xY (yF e.No z50.2.1) (M3 e.No m) z50.2.1).map (rK (M3 e.No m)))).length = (xY (yF e.No z50.2.1) (M3 e.No m) z50.2.1).length:=by rw [QD hd,List.length_map]
      rw [hc',Option.bind_some,aHA _ _ _ _ _ _ _ _ _ _ _ (by dsimp only; rw [cln,List.length_map]) (by dsimp only; rw [List.length_map]; omega) (fun i hi=>by
       obtain ⟨x,hx,rfl⟩:=List.mem_map.1 hi
       exact JH (hno x (F9.1 hx).1)) (fun v hv=>aC4 hd v hv) _ (by omega),Option.bind_some] at hst
      have hre:oG ((xY (yF e.No z50.2.1) (M3 e.No m) z50.2.1).map (·.No)) (sM N ((xY (yF e.No z50.2.1) (M3 e.No m) z50.2.1).map (rK (M3 e.No m)))) (v8 (BH (yF e.No z50.2.1) z50.2.1) m) = X6 N z50.2.1 m e.No:=rfl
      dsimp only at hst
      rw [hre,aIu _ _ _ _ _ _ _ _ _ _ (by omega) hno (fun x hx=>by
       rw [hbe x hx]
       have h1:=hrange x hx
       have h2:=hm' x hx
       have h3:=(ho.each x hx).2.2.2.1
       exact ⟨h1.1,h1.2,h2.1,by omega⟩),Option.bind_some] at hst
      have hro:yU z50.2.1 (z50.2.1.foldl (LA e.No m) (⟨0,0⟩,[])).2 (X6 N z50.2.1 m e.No) = yU z50.2.1 m (X6 N z50.2.1 m e.No):=by
       unfold yU
       rw [List.filter_congr fun x hx=>by rw [hbe x hx]]
       exact List.map_congr_left fun x hx=>by rw [hbe x (List.mem_filter.1 hx).1]
      rw [hro] at hst
      have rl:=W3 z50.2.1 m (X6 N z50.2.1 m e.No)
      rw [if_pos (by omega)] at hst
      refine ⟨_,hst,hI.next he (by unfold gS; rw [if_neg ck]; dsimp only; rw [if_neg k4,if_pos k5,if_neg hz]) ?_ (by omega)⟩
      have:=MC N (yF e.No z50.2.1) (M3 e.No m) z50.2.1 m cln
      show (mA N (yF e.No z50.2.1) (M3 e.No m) z50.2.1 m).length ≤ m.length + 200
      omega
    ·rw [if_neg (by simpa using k5)] at hst
     exact ⟨_,hst,hI.next he (by unfold gS; rw [if_neg ck]; dsimp only; rw [if_neg k4,if_neg k5]) (by show m.length ≤ m.length + 200; omega) (by simp)⟩
 ·rintro ⟨p,q,m⟩ hI
  refine ⟨(p,q,m),?_,hI⟩
  show hU N r c l z50 l.length p q m = _
  unfold hU
  rw [if_neg (by simp)]
theorem aIR (hn:n = N) (hN:N ≤ 40) (hf:sS n r c l = true) (hw:∀ e ∈ l,dW e.Sum):k8 n r c l = some ((cQ n r c l).2.2.1,(cQ n r c l).2.2.2):=by
 unfold k8
 rw [EP,hf,Option.bind_some,if_neg (by decide)]
 obtain ⟨x,h1,h2⟩:=aCK hn hN hf hw
 rw [h1,Option.bind_some]
 rcases h2 with ⟨k,o,a,rfl,hk,hI⟩ | ⟨a,rfl,hI⟩
 ·obtain ⟨y,h3,h4⟩:=Y2 hn hN hf hw (z50:=((k:Int),o,a.1,a.2.1,a.2.2)) hk hI
  have e:=h4.eq
  rw [List.take_length] at e
  show (mL n r c l ((k:Int),o,a.1,a.2.1,a.2.2) (k:Int) a.1 a.2.1 a.2.2).bind _ = _
  rw [h3,Option.bind_some,e]
 ·have e:=hI.eq
  rw [List.take_length] at e
  show some (a.1,a.2) = _
  rw [e]
theorem aJJ (hf:sS n r c l = false):k8 n r c l = some ([],[]):=by
 unfold k8
 rw [EP,hf]
 rfl
theorem aJE (r96:(List aC) × (List Int) × MI) (z50:Int × (List aA) × (List aC) × (List Int) × MI):pV n r c r96 z50 0 [] = rB n r c l 0 [] [] r96.2.2 z50.2.1 0 []:=rfl
def SK:StF→List aC
 | none=>[]
 | some (o,m)=>wK o m
theorem N8 (hn:n = N) (hN:N ≤ 40) (hf:sS n r c l = true) (hw:∀ e ∈ l,dW e.Sum):g9 n r c l = some (SK (cQ n r c l).2.1):=by
 unfold g9
 rw [EP,hf,Option.bind_some,if_neg (by decide)]
 obtain ⟨x,h1,h2⟩:=aCK hn hN hf hw
 rw [h1,Option.bind_some]
 rcases h2 with ⟨k,o,a,rfl,hk,hI⟩ | ⟨a,rfl,hI⟩
 ·obtain ⟨y,h3,h4⟩:=Y2 hn hN hf hw (z50:=((k:Int),o,a.1,a.2.1,a.2.2)) hk hI
  have e:=h4.eq
  rw [List.take_length] at e
  have hg:=L5 (n:=n) (r:=r) (c:=c) hn hN hw l.length
  rw [h4.eq] at hg
  obtain ⟨ho,hm⟩ : qI N o ∧ NM o y.2.2:=hg
  show (mL n r c l ((k:Int),o,a.1,a.2.1,a.2.2) (k:Int) a.1 a.2.1 a.2.2).bind _ = _
  rw [h3,Option.bind_some,e]
  unfold pU
  rw [aJE (l:=l),aDo _ _ _ _ _ _ _ (by have:=ho.len; omega) (fun e he=>(ho.each e he).2.2.2.2.1),Option.bind_some,Option.bind_some]
  rfl
 ·have e:=hI.eq
  rw [List.take_length] at e
  rw [e]
  have h15:nV n r c = some ():=by
   unfold nV
   exact fN rfl
  show (nO n r c).bind _ = _
  unfold nO
  rw [h15]
  rfl
theorem V8 (hf:sS n r c l = false):g9 n r c l = some []:=by
 unfold g9
 rw [EP,hf]
 rfl
end
end Go.Proofs.Ytiimibimkpimbaa
set_option linter.unusedVariables false
set_option linter.unusedSimpArgs false
namespace Go.Proofs.Ytiimibimkpimbaa
open Go.RowKit Vm
theorem xC {α:Type} {P:List α→Prop} (h0:P []) (hs:∀ l x,P l→P (l ++ [x])) (l:List α):P l:=by
 have key:∀ (r p:List α),P p→P (p ++ r):=by
  intro r
  induction r with
  | nil=>intro p h; rw [List.append_nil]; exact h
  | cons x r ih =>
   intro p h
   have:=ih (p ++ [x]) (hs p x h)
   rw [List.append_assoc] at this
   exact this
 exact key l [] h0
def sN (l:List aA) (errs:List Int) (i:Nat):Prop:=(el l i).Kind = 4 ∧ el errs i = 0
section
variable (n r c:Int)
theorem AQ (l:List aA):(cQ n r c l).2.2.2.length = l.length:=by
 refine xC (P:=fun l=>(cQ n r c l).2.2.2.length = l.length) rfl (fun l x h=>?_) l
 rw [kO]
 show ((cQ n r c l).2.2.2 ++ [_]).length = _
 rw [List.length_append,List.length_append,h]
 rfl
theorem OA (l:List aA) (k:Nat):(cQ n r c (l.take k)).2.2.2 = (cQ n r c l).2.2.2.take k:=by
 have key:∀ (s p:List aA),∃ z,(cQ n r c (p ++ s)).2.2.2 = (cQ n r c p).2.2.2 ++ z:=by
  intro s
  refine xC (P:=fun s=>∀ p,∃ z,(cQ n r c (p ++ s)).2.2.2 = (cQ n r c p).2.2.2 ++ z) (fun p=>⟨[],by simp⟩) (fun s x ih p=>?_) s
  obtain ⟨z,hz⟩:=ih p
  rw [← List.append_assoc,kO]
  refine ⟨z ++ [(gS n r c (cQ n r c (p ++ s)).1 (cQ n r c (p ++ s)).2.1 x).2.2],?_⟩
  show (cQ n r c (p ++ s)).2.2.2 ++ [(gS n r c (cQ n r c (p ++ s)).1 (cQ n r c (p ++ s)).2.1 x).2.2] = _
  rw [hz,List.append_assoc]
 obtain ⟨z,hz⟩:=key (l.drop k) (l.take k)
 rw [List.take_append_drop] at hz
 rw [hz]
 have:=AQ n r c (l.take k)
 rw [List.length_take] at this
 have h1:=AQ n r c l
 rw [hz] at h1
 generalize (cQ n r c (l.take k)).2.2.2 = A at h1 this ⊢
 by_cases hk:k ≤ l.length
 ·rw [List.take_append_of_le_length (by omega),List.take_of_length_le (by omega)]
 ·have hz2:z = []:=by
   rw [List.length_append] at h1
   exact List.eq_nil_of_length_eq_zero (by omega)
  rw [hz2,List.append_nil,List.take_of_length_le (by omega)]
theorem OE (l:List aA) (h:∀ i,i < l.length→¬ sN l (cQ n r c l).2.2.2 i):(cQ n r c l).2.1 = none ∧ (cQ n r c l).2.2.1 = []:=by
 refine xC (P:=fun l=>(∀ i,i < l.length→¬ sN l (cQ n r c l).2.2.2 i)→(cQ n r c l).2.1 = none ∧ (cQ n r c l).2.2.1 = []) (fun _=>⟨rfl,rfl⟩) (fun l x ih h=>?_) l h
 have hl:=AQ n r c l
 rw [kO] at h ⊢
 obtain ⟨h1,h2⟩:=ih fun i hi q=>by
  refine h i (by rw [List.length_append]; omega) ⟨?_,?_⟩
  ·have:=q.1
   rw [vE l i hi] at this
   rw [vE _ i (by rw [List.length_append]; omega),List.getElem_append_left hi]
   exact this
  ·have:=q.2
   rw [vE _ i (by omega)] at this
   show el ((cQ n r c l).2.2.2 ++ [_]) i = 0
   rw [vE _ i (by rw [List.length_append]; omega),List.getElem_append_left (by omega)]
   exact this
 have hx:=h l.length (by simp)
 unfold sN at hx
 have e1:el (l ++ [x]) l.length = x:=by simp [el]
 have e2:el (JX n r c (cQ n r c l) x).2.2.2 l.length = (gS n r c l none x).2.2:=by
  show el ((cQ n r c l).2.2.2 ++ [(gS n r c (cQ n r c l).1 (cQ n r c l).2.1 x).2.2]) l.length = _
  rw [AZ,h1,← hl]
  simp [el]
 rw [e1,e2] at hx
 show (gS n r c (cQ n r c l).1 (cQ n r c l).2.1 x).1 = none ∧ (cQ n r c l).2.2.1 ++ (gS n r c (cQ n r c l).1 (cQ n r c l).2.1 x).2.1 = []
 rw [h1,h2,AZ,List.nil_append]
 unfold gS at hx ⊢
 by_cases ck:NV n r x = false
 ·rw [if_pos ck]; exact ⟨rfl,rfl⟩
 ·rw [if_neg ck] at hx ⊢
  dsimp only at hx ⊢
  by_cases k4:x.Kind = 4
  ·rw [if_pos k4] at hx ⊢
   by_cases hd:x.Day < c
   ·rw [if_pos hd]; exact ⟨rfl,rfl⟩
   ·rw [if_neg hd] at hx ⊢
    by_cases hf:100 < (eA n r c l).length
    ·rw [if_pos hf]; exact ⟨rfl,rfl⟩
    ·rw [if_neg hf] at hx
     exact absurd ⟨k4,rfl⟩ hx
  ·rw [if_neg k4]
   by_cases k5:x.Kind = 5
   ·rw [if_pos k5]; exact ⟨rfl,rfl⟩
   ·rw [if_neg k5]
    by_cases hd:c < x.Day
    ·rw [if_pos hd]; exact ⟨rfl,rfl⟩
    ·rw [if_neg hd]; exact ⟨rfl,rfl⟩
theorem VL (l:List aA) (k:Nat) (hk:k < l.length) (hs:sN l (cQ n r c l).2.2.2 k) (hb:∀ i,i < k→¬ sN l (cQ n r c l).2.2.2 i) :
  cQ n r c (l.take (k + 1)) = (l.take (k + 1),some (eA n r c (l.take k),pO n (eA n r c (l.take k))),wK (eA n r c (l.take k)) (pO n (eA n r c (l.take k))),(cQ n r c (l.take k)).2.2.2 ++ [0]) ∧ (eA n r c (l.take k)).length ≤ 100 ∧ NV n r (el l k) = true ∧ ¬ (el l k).Day < c:=by
 have hel:=AQ n r c l
 have ht:=OA n r c l k
 have ht1:=OA n r c l (k + 1)
 obtain ⟨h1,h2⟩:=OE n r c (l.take k) fun i hi q=>by
  rw [List.length_take] at hi
  refine hb i (by omega) ⟨?_,?_⟩
  ·have:=q.1
   rw [vE _ i (by rw [List.length_take]; omega),List.getElem_take] at this
   rw [vE l i (by omega)]
   exact this
  ·have:=q.2
   rw [ht,vE _ i (by rw [List.length_take]; omega),List.getElem_take] at this
   rw [vE _ i (by omega)]
   exact this
 have hx:l[k]? = some (el l k):=by rw [vE l k hk]; exact List.getElem?_eq_getElem hk
 have hkk:=hs.1
 have e0:(gS n r c (l.take k) none (el l k)).2.2 = 0:=by
  have e1:(cQ n r c (l.take (k + 1))).2.2.2 = (cQ n r c (l.take k)).2.2.2 ++ [(gS n r c (l.take k) none (el l k)).2.2]:=by
   rw [w8 hx,kO]
   show (cQ n r c (l.take k)).2.2.2 ++ [(gS n r c (cQ n r c (l.take k)).1 (cQ n r c (l.take k)).2.1 (el l k)).2.2] = _
   rw [AZ,h1]
  have e2:=hs.2
  have hlk:(cQ n r c (l.take k)).2.2.2.length = k:=by rw [AQ,List.length_take]; omega
  have e3:(cQ n r c (l.take (k + 1))).2.2.2[k]? = some 0:=by
   rw [ht1,List.getElem?_take,if_pos (by omega)]
   rw [vE _ k (by omega)] at e2
   rw [List.getElem?_eq_getElem (by omega),e2]
  rw [e1,List.getElem?_append_right (by omega),hlk,Nat.sub_self] at e3
  simpa using e3
 rw [w8 hx,kO]
 have e5:JX n r c (cQ n r c (l.take k)) (el l k) = (l.take k ++ [el l k],(gS n r c (l.take k) none (el l k)).1,(gS n r c (l.take k) none (el l k)).2.1,(cQ n r c (l.take k)).2.2.2 ++ [(gS n r c (l.take k) none (el l k)).2.2]):=by
  show ((cQ n r c (l.take k)).1 ++ [el l k],(gS n r c (cQ n r c (l.take k)).1 (cQ n r c (l.take k)).2.1 (el l k)).1,(cQ n r c (l.take k)).2.2.1 ++ (gS n r c (cQ n r c (l.take k)).1 (cQ n r c (l.take k)).2.1 (el l k)).2.1,_) = _
  rw [AZ,h1,h2,List.nil_append]
 rw [e5,e0]
 unfold gS at e0 ⊢
 by_cases ck:NV n r (el l k) = false
 ·rw [if_pos ck] at e0
  exact absurd e0 (by decide)
 ·rw [if_neg ck] at e0
  rw [if_neg ck]
  dsimp only at e0 ⊢
  rw [if_pos hkk] at e0
  rw [if_pos hkk]
  by_cases hd:(el l k).Day < c
  ·rw [if_pos hd] at e0
   exact absurd e0 (by decide)
  ·rw [if_neg hd] at e0
   rw [if_neg hd]
   by_cases hf:100 < (eA n r c (l.take k)).length
   ·rw [if_pos hf] at e0
    exact absurd e0 (by decide)
   ·rw [if_neg hf]
    exact ⟨rfl,by omega,by simpa using ck,hd⟩
theorem VP (p:List aA) {o:List aA} {m:MI} (h:(cQ n r c p).2.1 = some (o,m)) (s:List aA):∃ m',(cQ n r c (p ++ s)).2.1 = some (o,m'):=by
 refine xC (P:=fun s=>∃ m',(cQ n r c (p ++ s)).2.1 = some (o,m')) ⟨m,by rw [List.append_nil]; exact h⟩ (fun s x ih=>?_) s
 obtain ⟨m',h'⟩:=ih
 rw [← List.append_assoc,kO]
 show ∃ m',(gS n r c (cQ n r c (p ++ s)).1 (cQ n r c (p ++ s)).2.1 x).1 = some (o,m')
 rw [h']
 unfold gS
 split
 ·exact ⟨_,rfl⟩
 ·dsimp only
  split
  ·exact ⟨_,rfl⟩
  ·split
   ·split
    ·exact ⟨_,rfl⟩
    ·exact ⟨_,rfl⟩
   ·exact ⟨_,rfl⟩
theorem aFa (l:List aA) (errs:List Int):(∀ i,i < l.length→¬ sN l errs i) ∨ ∃ k,k < l.length ∧ sN l errs k ∧ ∀ i,i < k→¬ sN l errs i:=by
 have key:∀ m,(∀ i,i < m→¬ sN l errs i) ∨ ∃ k,k < m ∧ sN l errs k ∧ ∀ i,i < k→¬ sN l errs i:=by
  intro m
  induction m with
  | zero=>exact .inl fun i hi=>absurd hi (Nat.not_lt_zero _)
  | succ m ih =>
   rcases ih with h | ⟨k,h1,h2,h3⟩
   ·by_cases q:sN l errs m
    ·exact .inr ⟨m,Nat.lt_succ_self _,q,h⟩
    ·refine .inl fun i hi=>?_
     by_cases e:i = m
     ·rw [e]; exact q
     ·exact h i (by omega)
   ·exact .inr ⟨k,by omega,h2,h3⟩
 exact key l.length
end
end Go.Proofs.Ytiimibimkpimbaa
set_option linter.unusedVariables false
set_option linter.unusedSimpArgs false
namespace Go.Proofs.Ytiimibimkpimbaa
open Go.RowKit Vm
theorem KN {α:Type} {step:Int→Option (Int ⊕ (Unit ⊕ Unit))} (l:List α) (hl:l.length ≤ 100000)
  (h:∀ (k:Nat) x,l[k]? = some x→step k = some (.inl (IntKind.wrap .i64 ((k:Int) + 1)))) (he:step l.length = some (.inr (.inl ()))):eZ (fun (w:Int)=>step w) 0 = some (.inl ()):=by
 have:=nJ (step:=fun (w:Int)=>step w) (fun k (_:Unit)=>(k:Int)) l (fun _ _=>()) (fun _ _=>True) (fun _=>(.inl ():Unit ⊕ Unit)) (fun k a x hx _=>by
  have hk:=nH hx
  have e:=h k x hx
  rw [dN (by omega)] at e
  exact ⟨e,trivial⟩) (fun _ _=>he) () trivial
 exact this.1
theorem HX (a:List aC) (hl:a.length ≤ 100000):dI a a = some true:=by
 unfold dI kH
 rw [if_neg (by simp),KN (step:=fun w=>cZ a a w) a hl (fun k x hx=>by
  show cZ a a k = _
  unfold cZ
  simp only [fL hx,if_true,kP hx,Option.bind_some,beq_self_eq_true,Bool.and_self,Bool.not_true,Bool.false_eq_true,if_false]) (by
  show cZ a a a.length = _
  unfold cZ
  rw [if_neg (by simp)])]
 rfl
theorem VT (l:List aA) (e:List Int) (hl:l.length ≤ 100000) (he:e.length = l.length) (h:∀ i,i < l.length→¬ sN l e i):dJ l e = some (l.length:Int):=by
 unfold dJ iC
 have:=nJ (step:=fun (w:Int)=>bP l e w) (fun k (_:Unit)=>(k:Int)) l (fun _ _=>()) (fun _ _=>True) (fun _=>(.inl ():Unit ⊕ Int)) (fun k a x hx _=>by
  have hk:=nH hx
  have w3:IntKind.wrap .i64 ((k:Int) + 1) = ((k + 1:Nat):Int):=dN (by omega)
  refine ⟨?_,trivial⟩
  show bP l e k = _
  unfold bP
  have hx2:at? e (k:Int) = some (el e k):=aEM e k (by omega)
  simp only [fL hx,if_true,kP hx,Option.bind_some,hx2,w3]
  rw [if_pos (by simp only [decide_eq_true_eq]; omega)]
  by_cases c:x.Kind = 4
  ·rw [if_pos (by simpa using c),if_neg]
   intro q
   refine h k hk ⟨?_,by simpa using q⟩
   rw [vE l k hk]
   rw [List.getElem?_eq_getElem hk,Option.some.injEq] at hx
   rw [hx]; exact c
  ·rw [if_neg (by simpa using c)]) (fun a _=>by
  show bP l e l.length = _
  unfold bP
  rw [if_neg (by simp)]) () trivial
 have e0:eZ (fun (w:Int)=>bP l e w) 0 = some (.inl ()):=this.1
 rw [e0]
 rfl
theorem aDd (l:List aA) (e:List Int) (hl:l.length ≤ 100000) (he:e.length = l.length) {k:Nat} (hk:k < l.length) (hs:sN l e k) (h:∀ i,i < k→¬ sN l e i):dJ l e = some (k:Int):=by
 unfold dJ iC
 obtain ⟨x,h1,h2⟩:=o8 (step:=fun (w:Int)=>bP l e w) (fun k (_:Unit)=>(k:Int)) l.length (fun j _=>j ≤ k) (fun x=>x = (.inr (k:Int):Unit ⊕ Int)) (fun j a hj hI=>by
  have w3:IntKind.wrap .i64 ((j:Int) + 1) = ((j + 1:Nat):Int):=dN (by omega)
  have hst:bP l e j = bP l e j:=rfl
  conv at hst=>rhs; unfold bP
  rw [if_pos (by simp only [decide_eq_true_eq]; omega),if_pos (by simp only [decide_eq_true_eq]; omega),aEM l j hj,Option.bind_some,aEM e j (by omega),Option.bind_some,w3] at hst
  by_cases c:j = k
  ·subst c
   rw [if_pos (by simpa using hs.1),if_pos (by simpa using hs.2)] at hst
   exact .inr ⟨_,hst,rfl⟩
  ·refine .inl ⟨(),?_,by omega⟩
   have hn:=h j (by omega)
   by_cases c4:(el l j).Kind = 4
   ·rw [if_pos (by simpa using c4),if_neg (by simpa using fun q=>hn ⟨c4,q⟩)] at hst
    exact hst
   ·rw [if_neg (by simpa using c4)] at hst
    exact hst) (fun a hI=>absurd hI (by omega)) () (Nat.zero_le _)
 have e0:eZ (fun (w:Int)=>bP l e w) 0 = some x:=h1
 rw [e0,h2]
 rfl
end Go.Proofs.Ytiimibimkpimbaa
set_option linter.unusedVariables false
set_option linter.unusedSimpArgs false
namespace Go.Proofs.Ytiimibimkpimbaa
open Go.RowKit Vm
def ofS:List aC→Int→Int
 | [],_=>0
 | x :: l,no=>if x.No = no then x.Sum else ofS l no
theorem aLx (l:List aC) (hl:l.length ≤ 100000) (no:Int):kR l no = some (ofS l no):=by
 unfold kR oV
 have key:∀ (r q:List aC),l = q ++ r→∃ z,eZ (fun (w:Int)=>eH l no w) (q.length:Int) = some z ∧ (Sum.elim (fun z6=>some 0) (fun z7=>some z7) z:Option Int) = some (ofS r no):=by
  intro r
  induction r with
  | nil =>
   intro q e
   rw [List.append_nil] at e
   subst e
   refine ⟨.inl (),fN ?_,rfl⟩
   unfold eH
   rw [if_neg (by simp)]
  | cons x r ih =>
   intro q e
   have hx:l[q.length]? = some x:=by rw [e]; simp
   have hk:=nH hx
   have w3:IntKind.wrap .i64 ((q.length:Int) + 1) = ((q.length + 1:Nat):Int):=dN (by omega)
   have hst:eH l no q.length = eH l no q.length:=rfl
   conv at hst=>rhs; unfold eH
   simp only [fL hx,if_true,kP hx,Option.bind_some,w3] at hst
   by_cases c:x.No = no
   ·rw [if_pos (by simpa using c)] at hst
    refine ⟨.inr x.Sum,fN hst,?_⟩
    unfold ofS
    rw [if_pos c]
    rfl
   ·rw [if_neg (by simpa using c)] at hst
    obtain ⟨z,h1,h2⟩:=ih (q ++ [x]) (by rw [e]; simp)
    rw [List.length_append,List.length_singleton] at h1
    refine ⟨z,(gJ hst).trans h1,?_⟩
    rw [h2]
    conv=>rhs; unfold ofS
    rw [if_neg c]
 obtain ⟨z,h1,h2⟩:=key l [] rfl
 have e0:eZ (fun (w:Int)=>eH l no w) 0 = some z:=h1
 rw [e0,Option.bind_some]
 exact h2
theorem aHi {o:List aA} (h:xR o) (p:aA→Bool) (F:aA→aC) (hF:∀ e,(F e).No = e.No) {e:aA} (he:e ∈ o):ofS ((o.filter p).map F) e.No = if p e = true then (F e).Sum else 0:=by
 induction o with
 | nil=>cases he
 | cons x o ih =>
  obtain ⟨h1,h2⟩:=List.pairwise_cons.1 h
  rw [List.filter_cons]
  rcases List.mem_cons.1 he with e1 | he'
  ·subst e1
   by_cases c:p e = true
   ·rw [if_pos c,if_pos c,List.map_cons]
    unfold ofS
    rw [if_pos (hF e)]
   ·rw [if_neg c,if_neg c]
    have:∀ l:List aA,(∀ y ∈ l,e.No ≠ y.No)→ofS (l.map F) e.No = 0:=by
     intro l
     induction l with
     | nil=>intro _; rfl
     | cons y l ih' =>
      intro hl
      rw [List.map_cons]
      unfold ofS
      rw [if_neg (by rw [hF]; exact fun q=>hl y List.mem_cons_self q.symm)]
      exact ih' fun z hz=>hl z (List.mem_cons_of_mem _ hz)
    exact this _ fun y hy=>h1 y (List.mem_filter.1 hy).1
  ·have hne:x.No ≠ e.No:=h1 e he'
   by_cases c:p x = true
   ·rw [if_pos c,List.map_cons]
    conv=>lhs; unfold ofS
    rw [if_neg (by rw [hF]; exact hne)]
    exact ih h2 he'
   ·rw [if_neg c]
    exact ih h2 he'
theorem aCO {o:List aA} (h:xR o) {m:MI} {e:aA} (he:e ∈ o) (h0:0 ≤ cl m e):ofS (wK o m) e.No = cl m e:=by
 unfold wK
 rw [aHi h _ _ (fun _=>rfl) he]
 by_cases c:0 < cl m e
 ·rw [if_pos (by simpa using c)]
 ·rw [if_neg (by simpa using c)]
  omega
theorem aAE (l:List aA):dJ l [] = some (l.length:Int):=by
 unfold dJ iC
 have:bP l [] 0 = some (.inr (.inl ())):=by
  unfold bP
  split <;> rfl
 rw [fN this]
 rfl
end Go.Proofs.Ytiimibimkpimbaa
set_option linter.unusedVariables false
set_option linter.unusedSimpArgs false
namespace Go.Proofs.Ytiimibimkpimbaa
open Go.RowKit Vm
def EV (c:aA→Int) (v:Int) (x:aA):Int:=(if x.To = v then c x else 0) - (if x.From = v then c x else 0)
def AF (L:List aA) (c:aA→Int) (v:Int):Int:=L.foldl (fun a x=>a + EV c v x) 0
theorem HS (c:aA→Int) (v:Int):∀ (L:List aA) (a:Int),L.foldl (fun a x=>a + EV c v x) a = a + AF L c v
 | [],a=>by simp [AF]
 | x :: L,a=>by
  show L.foldl _ (a + EV c v x) = a + L.foldl _ (0 + EV c v x)
  rw [HS c v L,HS c v L]
  omega
theorem AU (x:aA) (L:List aA) (c:aA→Int) (v:Int):AF (x :: L) c v = EV c v x + AF L c v:=by
 show L.foldl _ (0 + EV c v x) = _
 rw [HS]
 omega
theorem PK (L:List aA) (x:aA) (c:aA→Int) (v:Int):AF (L ++ [x]) c v = AF L c v + EV c v x:=by
 unfold AF
 rw [List.foldl_append]
 rfl
theorem KX {c d:aA→Int} {v:Int}:∀ {L:List aA},(∀ x ∈ L,c x = d x)→AF L c v = AF L d v
 | [],_=>rfl
 | x :: L,h=>by
  rw [AU,AU,KX fun y hy=>h y (List.mem_cons_of_mem _ hy)]
  unfold EV
  rw [h x List.mem_cons_self]
theorem ON {c:aA→Int} {v:Int}:∀ {L:List aA},(∀ x ∈ L,c x = 0)→AF L c v = 0
 | [],_=>rfl
 | x :: L,h=>by
  rw [AU,ON fun y hy=>h y (List.mem_cons_of_mem _ hy)]
  unfold EV
  rw [h x List.mem_cons_self]
  split <;> split <;> rfl
theorem JS {c:aA→Int} {v:Int} (p:aA→Bool):∀ {L:List aA},(∀ x ∈ L,p x = false→c x = 0)→AF L c v = AF (L.filter p) c v
 | [],_=>rfl
 | x :: L,h=>by
  rw [AU,JS p fun y hy=>h y (List.mem_cons_of_mem _ hy),List.filter_cons]
  by_cases q:p x = true
  ·rw [if_pos q,AU]
  ·rw [if_neg q]
   have:c x = 0:=h x List.mem_cons_self (by simpa using q)
   unfold EV
   rw [this]
   simp
theorem aC0 (c:aA→Int) (v:Int):∀ L:List aA,AF L c v = gQ (fun i=>EV c v (el L i)) L.length:=by
 intro L
 refine xC (P:=fun L=>AF L c v = gQ (fun i=>EV c v (el L i)) L.length) rfl (fun L x ih=>?_) L
 rw [PK,ih,List.length_append,List.length_singleton]
 show _ = gQ (fun i=>EV c v (el (L ++ [x]) i)) L.length + EV c v (el (L ++ [x]) L.length)
 have e1:el (L ++ [x]) L.length = x:=by simp [el]
 rw [e1]
 congr 1
 refine i6 fun i hi=>?_
 rw [vE L i hi,vE _ i (by rw [List.length_append]; omega),List.getElem_append_left hi]
theorem SR {N:Nat} {L:List aA} {sm c:aA→Int} (h:FR N (L.map (rK sm))) (hx:L.map c = sM N (L.map (rK sm))) {v:Nat} (hv:v < N):AF L c v = 0:=by
 obtain ⟨q,_,hb⟩:=JJ h
 have h1:=hb.bald.net v hv
 unfold pB at h1
 rw [List.length_map,← hx] at h1
 rw [aC0,← h1]
 refine i6 fun i hi=>?_
 have hh:=h.each i (by rw [List.length_map]; exact hi)
 unfold pQ oP EV
 rw [KG c hi,KG (rK sm) hi] at *
 obtain ⟨⟨a1,_⟩,⟨a2,_⟩,_⟩:=hh
 have b1:((rK sm (el L i)).To.toNat = v) = ((el L i).To = (v:Int)):=by
  have:0 ≤ (el L i).To:=a2
  show ((el L i).To.toNat = v) = _
  exact propext (by omega)
 have b2:((rK sm (el L i)).From.toNat = v) = ((el L i).From = (v:Int)):=by
  have:0 ≤ (el L i).From:=a1
  show ((el L i).From.toNat = v) = _
  exact propext (by omega)
 simp only [b1,b2]
def ZU (N:Nat) (o:List aA) (m:MI):Prop:=∀ e ∈ o,∀ v:Nat,v < N→AF (BH (u4 e) o) (cl m) v = 0
theorem aB4 {N:Nat} {o:List aA} (ho:qI N o) (hN:N ≤ 40):ZU N o (pO N o):=fun e he v hv =>
 SR (aEE ho hN (u4 e)) (KU ho hN he) hv
theorem aHf (g:aE) (sm:aA→Int) (o:List aA):(BH g o).filter (fun e=>decide (0 < sm e)) = xY g sm o:=by
 unfold BH xY
 rw [List.filter_filter]
 exact List.filter_congr fun e _=>Bool.and_comm _ _
theorem VV {N:Nat} {o:List aA} (ho:qI N o) (hN:N ≤ 40) {m:MI} {sm:aA→Int} (hs:∀ e ∈ o,sm e ≤ e.Sum) (hm:ZU N o m) (g:aE):ZU N o (mA N g sm o m):=by
 intro e he v hv
 by_cases q:u4 e = g
 ·rw [q,JS (fun e=>decide (0 < sm e)) fun x hx hp=>by
   obtain ⟨x1,x2⟩:=KK.1 hx
   exact JD ho.diff x1 x2 (by simpa using hp),aHf]
  exact SR (HY ho hN hs g) (IG ho hN hs g m) hv
 ·rw [← hm e he v hv]
  refine KX fun x hx=>?_
  obtain ⟨x1,x2⟩:=KK.1 hx
  refine FV ho.diff x1 ?_
  rw [Bool.eq_false_iff]
  intro q2
  exact q ((GN.1 x2).symm.trans (GN.1 q2))
def aFg (N:Nat):StF→Prop
 | none=>True
 | some (o,m)=>ZU N o m
theorem aDE {n r c:Int} {N:Nat} (hn:n = N) (hN:N ≤ 40) {pre:List aA} (hw:∀ e ∈ pre,dW e.Sum) {st:StF} (hg:GQ N st) (h:aFg N st) (e:aA):aFg N (gS n r c pre st e).1:=by
 subst hn
 unfold gS
 split
 ·exact h
 ·cases st with
  | none =>
   dsimp only
   split
   ·split
    ·trivial
    ·split
     ·trivial
     ·have ho:=GM (r:=r) (c:=c) rfl hw (show (eA (N:Int) r c pre).length ≤ 100 by omega)
      exact aB4 ho hN
   ·split
    ·trivial
    ·split <;> trivial
  | some s =>
   obtain ⟨o,m⟩:=s
   dsimp only
   split
   ·exact h
   ·split
    ·split
     ·exact h
     ·exact VV hg.1 hN (VG hg.2 hg.1 _) h _
    ·exact h
theorem aGi {n r c:Int} {N:Nat} (hn:n = N) (hN:N ≤ 40) (l:List aA) (hw:∀ e ∈ l,dW e.Sum):GQ N (cQ n r c l).2.1 ∧ aFg N (cQ n r c l).2.1:=by
 refine xC (P:=fun l=>(∀ e ∈ l,dW e.Sum)→GQ N (cQ n r c l).2.1 ∧ aFg N (cQ n r c l).2.1) (fun _=>⟨trivial,trivial⟩) (fun l x ih hw=>?_) l hw
 have hw' : ∀ e ∈ l,dW e.Sum:=fun e he=>hw e (List.mem_append_left _ he)
 obtain ⟨h1,h2⟩:=ih hw'
 rw [kO]
 show GQ N (gS n r c (cQ n r c l).1 (cQ n r c l).2.1 x).1 ∧ aFg N (gS n r c (cQ n r c l).1 (cQ n r c l).2.1 x).1
 rw [AZ]
 exact ⟨OZ hn hN hw' h1 x,aDE hn hN hw' h1 h2 x⟩
end Go.Proofs.Ytiimibimkpimbaa
set_option linter.unusedVariables false
set_option linter.unusedSimpArgs false
namespace Go.Proofs.Ytiimibimkpimbaa
open Go.RowKit Vm
section
variable {N:Nat} {o:List aA} (ho:qI N o) (hN:N ≤ 40) {m:MI} (hm:NM o m) (no:Int)
include ho hN hm
omit hN hm in
omit hN hm in
end
end Go.Proofs.Ytiimibimkpimbaa
