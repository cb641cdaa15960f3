/- fair.Run and fair.Cleared do what is told in plain terms: the inner loops. fair.Run and fair.Cleared do what is told in plain terms. Law 44: what comes of the first closing; FairCut. Law 44: the reference's small functions; the sanity function. Law 44: the sum of a number among what is told. Law 44: what is cleared nets to nothing in each group. -/
import Derived.Test.YtiimibimkpimbaaPFa
set_option linter.unusedVariables false
set_option linter.unusedSimpArgs false
namespace Go.Proofs.Ytiimibimkpimbaa
open Go.RowKit Vm
theorem aFR {S A X:Type} {step:S→Option (S ⊕ X)} (st:Nat→A→S) (n:Nat) (I:Nat→A→Prop) (Q:X→Prop)
  (h:∀ k a,k < n→I k a→(∃ a',step (st k a) = some (.inl (st (k + 1) a')) ∧ I (k + 1) a') ∨ ∃ x,step (st k a) = some (.inr x) ∧ Q x)
  (he:∀ a,I n a→∃ x,step (st n a) = some (.inr x) ∧ Q x) (k0:Nat) (hk0:k0 ≤ n) (a:A) (h0:I k0 a):∃ x,eU step (st k0 a) = some x ∧ Q x:=by
 have key:∀ m k a,k + m = n→I k a→∃ x,eU step (st k a) = some x ∧ Q x:=by
  intro m
  induction m with
  | zero =>
   intro k a hk hI
   obtain rfl:k = n:=by omega
   obtain ⟨x,h1,h2⟩:=he a hI
   exact ⟨x,gB h1,h2⟩
  | succ m ih =>
   intro k a hk hI
   rcases h k a (by omega) hI with ⟨a',h1,h2⟩ | ⟨x,h1,h2⟩
   ·rw [gH h1]
    exact ih (k + 1) a' (by omega) h2
   ·exact ⟨x,gB h1,h2⟩
 exact key (n - k0) k0 a (by omega) h0
theorem v8 {α β:Type} (p:α→Bool) (F:α→β):∀ (l:List α) (acc:List β),l.foldl (fun out x=>if p x = true then out ++ [F x] else out) acc = acc ++ (l.filter p).map F
 | [],acc=>by simp
 | x :: l,acc=>by
  rw [List.foldl_cons,v8 p F l,List.filter_cons]
  split <;> simp
theorem I5 {k:Int} (h:0 ≤ k ∧ k < 1000):dW k:=⟨by omega,by omega⟩
theorem aLo:dW 0:=⟨by decide,by decide⟩
section
variable (a0 a1 a2:Int) (a3:List aA) (p2:Int) (p3:List aC) (p4:List Int) (p8:Int) (p10:MB)
theorem aJr {o:List aA} (hl:o.length ≤ 400) (hno:∀ e ∈ o,0 ≤ e.No ∧ e.No < 1000) (g:aE) (m:MI) (hm:m.length ≤ 100000000000) :
  s7 a0 a1 a2 a3 p10 p2 p3 p4 p8 g o 0 m [] [] = some (wE (EJ g o) m,(yT g (fun x=>x.Sum) o).map (qZ fun x=>x.Sum),(yT g (fun x=>x.Sum) o).map (·.No)):=by
 unfold s7
 refine JP (step:=fun (w:Int × MI × (List aG) × (List Int))=>jN a0 a1 a2 a3 p10 p2 p3 p4 p8 g o w.1 w.2.1 w.2.2.1 w.2.2.2) g (fun x=>x.Sum) o hl m hm (fun k e m d u hx h1 h2 h3=>?_) (fun a=>?_)
 ·show jN a0 a1 a2 a3 p10 p2 p3 p4 p8 g o k m d u = _
  have hk:=pC hx
  have w3:IntKind.wrap .i64 ((k:Int) + 1) = ((k + 1:Nat):Int):=dB (by omega)
  have hi:=I5 (hno e (List.mem_of_getElem? hx))
  unfold jN tZ kJ
  simp only [fX hx,if_true,mH hx,Option.bind_some,aHX,w3,if_pos hi,if_pos aLo,if_pos h1]
  unfold S8
  by_cases c:RE g e = true
  ·have c' : ((wM e).currency == g.currency && (wM e).due == g.due) = true:=c
   rw [c',if_neg (by decide),if_pos c]
   by_cases c2:0 < e.Sum
   ·rw [if_pos (decide_eq_true (show e.Sum > 0 from c2)),if_pos (by omega),if_pos (by omega),if_pos c2,if_pos c2]
    rfl
   ·rw [if_neg (by simpa using c2),if_neg c2,if_neg c2]
  ·have c' : ((wM e).currency == g.currency && (wM e).due == g.due) = false:=by
    rw [Bool.not_eq_true] at c; exact c
   rw [c',if_pos (by decide),if_neg c]
 ·show jN a0 a1 a2 a3 p10 p2 p3 p4 p8 g o o.length a.1 a.2.1 a.2.2 = _
  unfold jN
  rw [if_neg (by simp)]
theorem aKj (r12:aE) (r27:MI × (List aG) × (List Int)) (r28:(List Int) × (List Int) × Int) (r7:List aA) (hl:r28.1.length = r27.2.2.length) (hu:r27.2.2.length ≤ 400)
  (hi:∀ i ∈ r27.2.2,dW i) (hv:∀ i ∈ r28.1,dW i) (m:MI) (hm:m.length ≤ 100000000000) :
  tY a0 a1 a2 a3 p10 p2 p3 p4 p8 r12 r27 r28 r7 0 m = some (oG r27.2.2 r28.1 m):=by
 unfold tY
 refine SI (step:=fun (w:Int × MI)=>jG a0 a1 a2 a3 p10 p2 p3 p4 p8 r12 r27 r28 r7 w.1 w.2) r27.2.2 r28.1 hl hu m hm (fun k i v m h1 h2 h3=>?_) (fun m=>?_)
 ·show jG a0 a1 a2 a3 p10 p2 p3 p4 p8 r12 r27 r28 r7 k m = _
  have hk:=pC h1
  have w3:IntKind.wrap .i64 ((k:Int) + 1) = ((k + 1:Nat):Int):=dB (by omega)
  unfold jG
  simp only [fX h2,if_true,mH h2,Option.bind_some,w3,Int.toNat_natCast,h1,if_pos (hi i (List.mem_of_getElem? h1)),if_pos (hv v (List.mem_of_getElem? h2)),if_pos h3]
  rw [if_pos ⟨by omega,hk⟩]
 ·show jG a0 a1 a2 a3 p10 p2 p3 p4 p8 r12 r27 r28 r7 r28.1.length m = _
  unfold jG
  rw [if_neg (by simp)]
theorem aDs {N:Nat} {d:List aG} (h:EA N d):∀ v ∈ sH N d,dW v:=by
 intro v hv
 obtain ⟨q,_,hb⟩:=JH h
 obtain ⟨i,hi,rfl⟩:=VR hv
 rw [hb.len] at hi
 have h1:=hb.bald.lo i hi
 have h2:=hb.bald.hi i hi
 unfold pV at h2
 have h3:=(h.each i hi).2.2.2.2
 exact ⟨by omega,by omega⟩
theorem aJp {N:Nat} {o:List aA} (ho:uM N o) (hN:N ≤ 40):uA N a1 a2 a3 p2 p3 p4 o 0 [] [] = some (nI N o):=by
 unfold uA
 have h:=pF (step:=fun (w:Int × MI × MB)=>jI N a1 a2 a3 p2 p3 p4 o w.1 w.2.1 w.2.2) (fun k a=>((k:Int),a)) o (vU N o) (fun k a=>FV N o (o.take k) a) (fun a=>a.1) (fun k a e hx hI=>by
  have hk:=pC hx
  have he:e ∈ o:=List.mem_of_getElem? hx
  have w3:IntKind.wrap .i64 ((k:Int) + 1) = ((k + 1:Nat):Int):=dB (by have:=ho.len; omega)
  have hs:=hI.step ho hN (fun x hx=>List.mem_of_mem_take hx) he
  have ht:o.take k ++ [e] = o.take (k + 1):=by
   rw [List.take_add_one,hx]; rfl
  rw [ht] at hs
  refine ⟨?_,hs⟩
  show jI N a1 a2 a3 p2 p3 p4 o k a.1 a.2 = _
  obtain ⟨_,_,_,_,_,q1,q2⟩:=ho.each e he
  have i1:dW e.Currency:=⟨by omega,by omega⟩
  have i2:dW e.Due:=⟨by omega,by omega⟩
  have l1:=hI.len1
  have l2:=hI.len2
  rw [List.length_take] at l1 l2
  have l3:=ho.len
  have hss:∀ x ∈ o,(fun x:aA=>x.Sum) x ≤ x.Sum:=fun x _=>Int.le_refl _
  have hd:=K0 ho hN hss (wM e)
  obtain ⟨q,hc,hb⟩:=JH hd
  unfold jI
  simp only [fX hx,if_true,mH hx,Option.bind_some,aHX,w3]
  show (if dW e.Currency then _ else none) = _
  rw [if_pos i1]
  show (if dW e.Due then _ else none) = _
  rw [if_pos i2]
  unfold vU
  show (if (!fT (fD e.Currency e.Due) false a.2) = true then _ else _) = _
  by_cases c:fT (fD e.Currency e.Due) false a.2 = true
  ·rw [c,if_neg (by decide),if_pos rfl]
  ·have c' : fT (fD e.Currency e.Due) false a.2 = false:=by
    rw [Bool.not_eq_true] at c; exact c
   rw [c',if_pos (show (!false) = true from rfl),if_neg Bool.false_ne_true]
   show (if dW e.Currency then _ else none) = _
   rw [if_pos i1]
   show (if dW e.Due then _ else none) = _
   rw [if_pos i2,if_pos (by omega),aJr _ _ _ _ _ _ _ _ _ (by omega) (fun e he=>(ho.each e he).2.2.2.2.1) _ _ (by omega),Option.bind_some]
   dsimp only
   rw [hc,Option.bind_some,aKj _ _ _ _ _ _ _ _ _ _ _ _ _ (by dsimp only; rw [RD hd,List.length_map,List.length_map]) (by
    dsimp only
    rw [List.length_map]
    have:(yT (wM e) (fun x=>x.Sum) o).length ≤ o.length:=List.length_filter_le _ _
    omega) (fun i hi=>by
    obtain ⟨x,hx,rfl⟩:=List.mem_map.1 hi
    exact I5 (ho.each x (G5.1 hx).1).2.2.2.2.1) (fun v hv=>aDs hd v hv) _ (by
    have h1:=EP (EJ (wM e) o) a.1
    have h2:(EJ (wM e) o).length ≤ o.length:=List.length_filter_le _ _
    omega)]
   rfl) (fun a _=>by
  show jI N a1 a2 a3 p2 p3 p4 o o.length a.1 a.2 = _
  unfold jI
  rw [if_neg (by simp)]) ([],[]) ⟨fun e he=>(by simp [fT]),fun e he=>(by simp at he),(by simp),(by simp)⟩
 exact h.1
theorem aEW {o:List aA} (hl:o.length ≤ 400) (hno:∀ e ∈ o,0 ≤ e.No ∧ e.No < 1000) (m:MI):rE a0 a1 a2 a3 p2 p3 p4 m o 0 [] = some (sN o m):=by
 unfold rE
 have h:=pF (step:=fun (w:Int × (List aC))=>jF a0 a1 a2 a3 p2 p3 p4 m o w.1 w.2) (fun k a=>((k:Int),a)) o (fun out x=>if decide (0 < cl m x) = true then out ++ [⟨4,x.Room,x.No,cl m x⟩] else out) (fun k a=>a.length ≤ k) id (fun k a x hx hI=>by
  have hk:=pC hx
  have w3:IntKind.wrap .i64 ((k:Int) + 1) = ((k + 1:Nat):Int):=dB (by omega)
  constructor
  ·show jF a0 a1 a2 a3 p2 p3 p4 m o k a = _
   unfold jF
   simp only [fX hx,if_true,mH hx,Option.bind_some,w3,if_pos (I5 (hno x (List.mem_of_getElem? hx)))]
   by_cases c:0 < cl m x
   ·rw [if_pos (decide_eq_true (show fT x.No 0 m > 0 from c)),if_pos (by omega),if_pos (decide_eq_true c)]
    rfl
   ·rw [if_neg (by simpa [cl] using c),if_neg (by simpa using c)]
  ·split
   ·rw [List.length_append,List.length_singleton]; omega
   ·omega) (fun a hI=>by
  show jF a0 a1 a2 a3 p2 p3 p4 m o o.length a = _
  unfold jF
  rw [if_neg (by simp)]
  rfl) [] (Nat.le_refl _)
 rw [v8] at h
 exact h.1
end
def MK (no:Int) (m:MI) (a:aE × MI) (e:aA):aE × MI:=(if e.No = no then wM e else a.1,fI e.No (cl m e) a.2)
theorem SA (no:Int) (m:MI):∀ (o:List aA) (g:aE) (b:MI),(o.foldl (MK no m) (g,b)).1 = o.foldl (fun g e=>if e.No = no then wM e else g) g ∧ (∀ k,fT k 0 (o.foldl (MK no m) (g,b)).2 = if (∃ e ∈ o,e.No = k) then fT k 0 m else fT k 0 b) ∧ (o.foldl (MK no m) (g,b)).2.length ≤ b.length + o.length
 | [],g,b=>by simp
 | e :: o,g,b=>by
  obtain ⟨h1,h2,h3⟩:=SA no m o (if e.No = no then wM e else g) (fI e.No (cl m e) b)
  refine ⟨h1,fun k=>?_,?_⟩
  ·show fT k 0 (o.foldl (MK no m) (_,fI e.No (cl m e) b)).2 = _
   refine (h2 k).trans ?_
   rw [F3]
   by_cases c1:∃ x ∈ o,x.No = k
   ·rw [if_pos c1,if_pos]
    obtain ⟨x,hx,e'⟩:=c1
    exact ⟨x,List.mem_cons_of_mem _ hx,e'⟩
   ·rw [if_neg c1]
    by_cases c2:k = e.No
    ·rw [if_pos c2,if_pos ⟨e,List.mem_cons_self,c2.symm⟩,c2]
     rfl
    ·rw [if_neg c2,if_neg]
     rintro ⟨x,hx,e'⟩
     rcases List.mem_cons.1 hx with rfl | hx
     ·exact c2 e'.symm
     ·exact c1 ⟨x,hx,e'⟩
  ·have:=BP e.No (cl m e) b
   rw [List.length_cons]
   refine Nat.le_trans h3 ?_
   omega
section
variable (a0 a1 a2:Int) (a3:List aA) (p52:Int) (p53:List aC) (p54:List Int) (x56:aA) (z50:Int × (List aA) × (List aC) × (List Int) × MI)
theorem aJT (hl:z50.2.1.length ≤ 400) (hno:∀ e ∈ z50.2.1,0 ≤ e.No ∧ e.No < 1000) (m:MI) (hm:∀ e ∈ z50.2.1,dW (cl m e)) :
  pL a0 a1 a2 a3 p52 p53 p54 m x56 z50 0 (aE.mk 0 0) [] = some (z50.2.1.foldl (MK x56.No m) (⟨0,0⟩,[])):=by
 unfold pL
 have h:=pF (step:=fun (w:Int × aE × MI)=>jE a0 a1 a2 a3 p52 p53 p54 m x56 z50 w.1 w.2.1 w.2.2) (fun k a=>((k:Int),a)) z50.2.1 (MK x56.No m) (fun k a=>a.2.length ≤ k) id (fun k a e hx hI=>by
  have hk:=pC hx
  have he:=List.mem_of_getElem? hx
  have w3:IntKind.wrap .i64 ((k:Int) + 1) = ((k + 1:Nat):Int):=dB (by omega)
  have i3:dW (fT e.No 0 m):=hm e he
  constructor
  ·show jE a0 a1 a2 a3 p52 p53 p54 m x56 z50 k a.1 a.2 = _
   unfold jE
   simp only [fX hx,if_true,mH hx,Option.bind_some,w3,if_pos (I5 (hno e he)),if_pos i3,aHX]
   rw [if_pos (by omega)]
   unfold MK
   by_cases c:e.No = x56.No
   ·rw [if_pos (by simpa using c),if_pos c]
    rfl
   ·rw [if_neg (by simpa using c),if_neg c]
    rfl
  ·have:=BP e.No (cl m e) a.2
   show (fI e.No (cl m e) a.2).length ≤ k + 1
   omega) (fun a hI=>by
  show jE a0 a1 a2 a3 p52 p53 p54 m x56 z50 z50.2.1.length a.1 a.2 = _
  unfold jE
  rw [if_neg (by simp)]
  rfl) (⟨0,0⟩,[]) (Nat.le_refl _)
 exact h.1
theorem aKe (r65:aE × MI) (hl:z50.2.1.length ≤ 400) (hno:∀ e ∈ z50.2.1,0 ≤ e.No ∧ e.No < 1000) (m:MI) (hm:m.length ≤ 100000000000) :
  tW a0 a1 a2 a3 p52 p53 p54 r65 x56 z50 0 m [] [] = some (wE (EJ r65.1 z50.2.1) m,(yT r65.1 (MW x56.No r65.2) z50.2.1).map (qZ (MW x56.No r65.2)),(yT r65.1 (MW x56.No r65.2) z50.2.1).map (·.No)):=by
 unfold tW
 refine JP (step:=fun (w:Int × MI × (List aG) × (List Int))=>jJ a0 a1 a2 a3 p52 p53 p54 r65 x56 z50 w.1 w.2.1 w.2.2.1 w.2.2.2) r65.1 (MW x56.No r65.2) z50.2.1 hl m hm (fun k e m d u hx h1 h2 h3=>?_) (fun a=>?_)
 ·show jJ a0 a1 a2 a3 p52 p53 p54 r65 x56 z50 k m d u = _
  have hk:=pC hx
  have w3:IntKind.wrap .i64 ((k:Int) + 1) = ((k + 1:Nat):Int):=dB (by omega)
  have hi:=I5 (hno e (List.mem_of_getElem? hx))
  have hs:fG e x56.No (some r65.2) = some (MW x56.No r65.2 e):=by
   unfold fG MW
   by_cases c:e.No = x56.No
   ·rw [if_pos (by simpa using c),if_pos c]
   ·rw [if_neg (by simpa using c),if_neg c,if_pos hi]
    rfl
  unfold jJ tP
  simp only [fX hx,if_true,mH hx,Option.bind_some,aHX,w3,hs,if_pos hi,if_pos aLo,if_pos h1]
  unfold S8
  by_cases c:RE r65.1 e = true
  ·have c' : ((wM e).currency == r65.1.currency && (wM e).due == r65.1.due) = true:=c
   rw [c',if_neg (by decide),if_pos c]
   by_cases c2:0 < MW x56.No r65.2 e
   ·rw [if_pos (decide_eq_true (show MW x56.No r65.2 e > 0 from c2)),if_pos (by omega),if_pos (by omega),if_pos c2,if_pos c2]
    rfl
   ·rw [if_neg (by simpa using c2),if_neg c2,if_neg c2]
  ·have c' : ((wM e).currency == r65.1.currency && (wM e).due == r65.1.due) = false:=by
    rw [Bool.not_eq_true] at c; exact c
   rw [c',if_pos (by decide),if_neg c]
 ·show jJ a0 a1 a2 a3 p52 p53 p54 r65 x56 z50 z50.2.1.length a.1 a.2.1 a.2.2 = _
  unfold jJ
  rw [if_neg (by simp)]
theorem aFy (r65:aE × MI) (r80:MI × (List aG) × (List Int)) (r81:(List Int) × (List Int) × Int) (hl:r81.1.length = r80.2.2.length) (hu:r80.2.2.length ≤ 400)
  (hi:∀ i ∈ r80.2.2,dW i) (hv:∀ i ∈ r81.1,dW i) (m:MI) (hm:m.length ≤ 100000000000) :
  sA a0 a1 a2 a3 p52 p53 p54 r65 r80 r81 z50 0 m = some (oG r80.2.2 r81.1 m):=by
 unfold sA
 refine SI (step:=fun (w:Int × MI)=>iO a0 a1 a2 a3 p52 p53 p54 r65 r80 r81 z50 w.1 w.2) r80.2.2 r81.1 hl hu m hm (fun k i v m h1 h2 h3=>?_) (fun m=>?_)
 ·show iO a0 a1 a2 a3 p52 p53 p54 r65 r80 r81 z50 k m = _
  have hk:=pC h1
  have w3:IntKind.wrap .i64 ((k:Int) + 1) = ((k + 1:Nat):Int):=dB (by omega)
  unfold iO
  simp only [fX h2,if_true,mH h2,Option.bind_some,w3,Int.toNat_natCast,h1,if_pos (hi i (List.mem_of_getElem? h1)),if_pos (hv v (List.mem_of_getElem? h2)),if_pos h3]
  rw [if_pos ⟨by omega,hk⟩]
 ·show iO a0 a1 a2 a3 p52 p53 p54 r65 r80 r81 z50 r81.1.length m = _
  unfold iO
  rw [if_neg (by simp)]
theorem aHa (r65:aE × MI) (r87:MI) (hl:z50.2.1.length ≤ 400) (hno:∀ e ∈ z50.2.1,0 ≤ e.No ∧ e.No < 1000) (hb:∀ e ∈ z50.2.1,0 ≤ cl r65.2 e ∧ cl r65.2 e ≤ 1099511627776 ∧ 0 ≤ cl r87 e ∧ cl r87 e ≤ 1099511627776) :
  sB a0 a1 a2 a3 p52 p53 p54 r65 r87 z50 0 [] = some (zO z50.2.1 r65.2 r87):=by
 unfold sB
 have h:=pF (step:=fun (w:Int × (List aC))=>iP a0 a1 a2 a3 p52 p53 p54 r65 r87 z50 w.1 w.2) (fun k a=>((k:Int),a)) z50.2.1 (fun out x=>if decide (0 < cl r65.2 x - cl r87 x) = true then out ++ [⟨5,x.Room,x.No,cl r65.2 x - cl r87 x⟩] else out) (fun k a=>a.length ≤ k) id (fun k a x hx hI=>by
  have hk:=pC hx
  have he:=List.mem_of_getElem? hx
  have w3:IntKind.wrap .i64 ((k:Int) + 1) = ((k + 1:Nat):Int):=dB (by omega)
  obtain ⟨b1,b2,b3,b4⟩:=hb x he
  have w4:IntKind.wrap .i64 (SY x.No 0 (some r65.2) - fT x.No 0 r87) = cl r65.2 x - cl r87 x:=by
   show IntKind.wrap .i64 (cl r65.2 x - cl r87 x) = _
   exact jZ (by omega) (by omega)
  constructor
  ·show iP a0 a1 a2 a3 p52 p53 p54 r65 r87 z50 k a = _
   unfold iP
   simp only [fX hx,if_true,mH hx,Option.bind_some,w3,if_pos (I5 (hno x he)),w4]
   by_cases c:0 < cl r65.2 x - cl r87 x
   ·rw [if_pos (decide_eq_true (show cl r65.2 x - cl r87 x > 0 from c)),if_pos (by omega),if_pos (decide_eq_true c)]
   ·rw [if_neg (by simpa using c),if_neg (by simpa using c)]
  ·split
   ·rw [List.length_append,List.length_singleton]; omega
   ·omega) (fun a hI=>by
  show iP a0 a1 a2 a3 p52 p53 p54 r65 r87 z50 z50.2.1.length a = _
  unfold iP
  rw [if_neg (by simp)]
  rfl) [] (Nat.le_refl _)
 rw [v8] at h
 exact h.1
end
end Go.Proofs.Ytiimibimkpimbaa
set_option linter.unusedVariables false
set_option linter.unusedSimpArgs false
namespace Go.Proofs.Ytiimibimkpimbaa
open Go.RowKit Vm
theorem BU {n r c:Int} {l:List aA} (h:tV n r c l = true):ST n r = true ∧ (0 ≤ c ∧ c < 100001) ∧ l.length ≤ 400:=by
 unfold tV at h
 rw [Bool.and_eq_true,Bool.and_eq_true,decide_eq_true_eq] at h
 exact ⟨h.1.1,EE.1 h.1.2,h.2⟩
theorem QT {n r c:Int} {l:List aA} (h:tV n r c l = true) {l' : List aA} (hl:l'.length ≤ 400):tV n r c l' = true:=by
 obtain ⟨h1,h2,h3⟩:=BU h
 unfold tV
 rw [h1,EE.2 h2,decide_eq_true hl]
 rfl
theorem BJ {α:Type} (l:List α) (k:Nat):BX l 0 (k:Int) = l.take k:=rfl
theorem GR {n k:Nat} (h:k ≤ n):tE n 0 (k:Int):=⟨by omega,by omega,by rw [Int.toNat_natCast]; exact h⟩
theorem AL {α:Type} {l:List α} {k:Nat} {x:α} (h:l[k]? = some x):l.take (k + 1) = l.take k ++ [x]:=by
 rw [List.take_add_one,h]; rfl
section
variable {N:Nat} {n r c:Int} {l:List aA}
theorem KM (hn:n = N) (hN:N ≤ 40) (hw:∀ e ∈ l,dW e.Sum) (k:Nat):UQ N (dN n r c (l.take k)).2.1 :=
 TD hn hN (l.take k) ([],none,[],[]) (fun e he=>by cases he) (fun e he=>hw e (List.mem_of_mem_take he)) trivial
structure LT (n r c:Int) (l:List aA) (k:Nat) (a:List aC × List Int):Prop where
 eq:dN n r c (l.take k) = (l.take k,none,a.1,a.2)
 len1:a.1.length ≤ 100 * k
 len2:a.2.length = k
structure IK (n r c:Int) (l:List aA) (o:List aA) (k:Nat) (a:List aC × List Int × MI):Prop where
 eq:dN n r c (l.take k) = (l.take k,some (o,a.2.2),a.1,a.2.1)
 len1:a.1.length ≤ 100 * k
 len2:a.2.1.length = k
 len3:a.2.2.length ≤ 20000 + 200 * k
theorem LT.next {k:Nat} {a:List aC × List Int} (h:LT n r c l k a) {e:aA} (he:l[k]? = some e) {x:Int} (ht:iQ n r c (l.take k) none e = (none,[],x)):LT n r c l (k + 1) (a.1 ++ [],a.2 ++ [x]):=by
 refine ⟨?_,?_,?_⟩
 ·rw [AL he,mS,h.eq]
  unfold J4
  dsimp only
  rw [ht]
 ·have:=h.len1
  rw [List.append_nil]; show a.1.length ≤ _; omega
 ·show (a.2 ++ [x]).length = _
  rw [List.length_append,h.len2]; rfl
theorem LT.shut {k:Nat} {a:List aC × List Int} (h:LT n r c l k a) {e:aA} (he:l[k]? = some e) {o:List aA} {m:MI} {os:List aC} (ht:iQ n r c (l.take k) none e = (some (o,m),os,0)) (hm:m.length ≤ 20000) (ho:os.length ≤ 100):IK n r c l o (k + 1) (a.1 ++ os,a.2 ++ [0],m):=by
 refine ⟨?_,?_,?_,?_⟩
 ·rw [AL he,mS,h.eq]
  unfold J4
  dsimp only
  rw [ht]
 ·have:=h.len1
  show (a.1 ++ os).length ≤ _
  rw [List.length_append]; omega
 ·show (a.2 ++ [0]).length = _
  rw [List.length_append,h.len2]; rfl
 ·show m.length ≤ _
  omega
theorem IK.next {o:List aA} {k:Nat} {a:List aC × List Int × MI} (h:IK n r c l o k a) {e:aA} (he:l[k]? = some e) {m:MI} {os:List aC} {x:Int} (ht:iQ n r c (l.take k) (some (o,a.2.2)) e = (some (o,m),os,x)) (hm:m.length ≤ a.2.2.length + 200) (ho:os.length ≤ 100):IK n r c l o (k + 1) (a.1 ++ os,a.2.1 ++ [x],m):=by
 refine ⟨?_,?_,?_,?_⟩
 ·rw [AL he,mS,h.eq]
  unfold J4
  dsimp only
  rw [ht]
 ·have:=h.len1
  show (a.1 ++ os).length ≤ _
  rw [List.length_append]; omega
 ·show (a.2.1 ++ [x]).length = _
  rw [List.length_append,h.len2]; rfl
 ·have:=h.len3
  show m.length ≤ _
  omega
theorem SV (o:List aA) (m:MI):(sN o m).length ≤ o.length:=by
 unfold sN
 rw [List.length_map]
 exact List.length_filter_le _ _
theorem V7 (o:List aA) (m m' : MI):(zO o m m').length ≤ o.length:=by
 unfold zO
 rw [List.length_map]
 exact List.length_filter_le _ _
theorem aEm (hn:n = N) (hN:N ≤ 40) (hf:tV n r c l = true) (hw:∀ e ∈ l,dW e.Sum) :
  ∃ x,rB n r c l 0 [] [] = some x ∧ ((∃ (k:Nat) (o:List aA) (a:List aC × List Int × MI),x = .inl ((k:Int),o,a.1,a.2.1,a.2.2) ∧ k ≤ l.length ∧ IK n r c l o k a) ∨ ∃ a,x = .inr a ∧ LT n r c l l.length a):=by
 subst hn
 obtain ⟨hd,hc,hl⟩:=BU hf
 unfold rB
 refine pD (step:=fun (w:Int × (List aC) × (List Int))=>iL N r c l w.1 w.2.1 w.2.2) (fun k a=>((k:Int),a)) l.length (LT N r c l) _ ?_ ?_ ([],[]) ⟨rfl,Nat.zero_le _,rfl⟩
 ·rintro k ⟨p,q⟩ hk hI
  obtain ⟨e,he⟩ : ∃ e,l[k]? = some e:=⟨l[k],List.getElem?_eq_getElem hk⟩
  have w3:IntKind.wrap .i64 ((k:Int) + 1) = ((k + 1:Nat):Int):=dB (by omega)
  have l1:p.length ≤ 100 * k:=hI.len1
  have l2:q.length = k:=hI.len2
  have c1:(p.length + 0) * 32 ≤ 140737488355328:=by omega
  have c2:(q.length + 1) * 8 ≤ 140737488355328:=by omega
  have hst:iL N r c l k p q = iL N r c l k p q:=rfl
  conv at hst=>rhs; unfold iL
  simp only [fX he,if_true,mH he,Option.bind_some,if_pos (GR (Nat.le_of_lt hk)),DB,YM,w3,BJ,if_pos c1,if_pos c2] at hst
  by_cases ck:NO N r e = false
  ·rw [if_pos ck] at hst
   exact .inl ⟨_,hst,hI.next he (by unfold iQ; rw [if_pos ck])⟩
  ·rw [if_neg ck] at hst
   by_cases k4:e.Kind = 4
   ·rw [if_pos (by simpa using k4)] at hst
    by_cases hday:e.Day < c
    ·rw [if_pos (by simpa using hday)] at hst
     exact .inl ⟨_,hst,hI.next he (by unfold iQ; rw [if_neg ck]; dsimp only; rw [if_pos k4,if_pos hday])⟩
    ·rw [if_neg (by simpa using hday),FW (QT hf (by rw [List.length_take]; omega)),Option.bind_some] at hst
     by_cases hfull:100 < (fQ N r c (l.take k)).length
     ·rw [if_pos (by simp only [decide_eq_true_eq,gt_iff_lt]; omega)] at hst
      exact .inl ⟨_,hst,hI.next he (by unfold iQ; rw [if_neg ck]; dsimp only; rw [if_pos k4,if_neg hday,if_pos hfull])⟩
     ·have ho:=LY (r:=r) (c:=c) (N:=N) rfl (fun e he=>hw e (List.mem_of_mem_take he)) (show (fQ N r c (l.take k)).length ≤ 100 by omega)
      rw [if_neg (by simp only [decide_eq_true_eq,gt_iff_lt]; omega),aJp _ _ _ _ _ _ ho hN,Option.bind_some,aEW _ _ _ _ _ _ _ (by omega) (fun e he=>(ho.each e he).2.2.2.2.1),Option.bind_some] at hst
      have ol:=SV (fQ N r c (l.take k)) (nI N (fQ N r c (l.take k)))
      rw [if_pos (by omega)] at hst
      exact .inr ⟨_,hst,.inl ⟨k + 1,_,(p ++ _,q ++ [0],_),rfl,hk,hI.shut he (by unfold iQ; rw [if_neg ck]; dsimp only; rw [if_pos k4,if_neg hday,if_neg hfull]; rfl) (aBJ ho hN) (by omega)⟩⟩
   ·rw [if_neg (by simpa using k4)] at hst
    by_cases k5:e.Kind = 5
    ·rw [if_pos (by simpa using k5)] at hst
     exact .inl ⟨_,hst,hI.next he (by unfold iQ; rw [if_neg ck]; dsimp only; rw [if_neg k4,if_pos k5])⟩
    ·rw [if_neg (by simpa using k5)] at hst
     by_cases hday:c < e.Day
     ·rw [if_pos (by simpa using hday)] at hst
      exact .inl ⟨_,hst,hI.next he (by unfold iQ; rw [if_neg ck]; dsimp only; rw [if_neg k4,if_neg k5,if_pos hday])⟩
     ·rw [if_neg (by simpa using hday)] at hst
      exact .inl ⟨_,hst,hI.next he (by unfold iQ; rw [if_neg ck]; dsimp only; rw [if_neg k4,if_neg k5,if_neg hday])⟩
 ·rintro ⟨p,q⟩ hI
  refine ⟨.inr (p,q),?_,.inr ⟨_,rfl,hI⟩⟩
  show iL N r c l l.length p q = _
  unfold iL
  rw [if_neg (by simp)]
theorem YT (hn:n = N) (hN:N ≤ 40) (hf:tV n r c l = true) (hw:∀ e ∈ l,dW e.Sum) {z50:Int × (List aA) × (List aC) × (List Int) × MI} {k0:Nat} (hk0:k0 ≤ l.length) {a0:List aC × List Int × MI} (h0:IK n r c l z50.2.1 k0 a0) :
  ∃ x,mC n r c l z50 k0 a0.1 a0.2.1 a0.2.2 = some x ∧ IK n r c l z50.2.1 l.length x:=by
 subst hn
 obtain ⟨hd,hc,hl⟩:=BU hf
 unfold mC
 refine aFR (step:=fun (w:Int × (List aC) × (List Int) × MI)=>gT N r c l z50 w.1 w.2.1 w.2.2.1 w.2.2.2) (fun k a=>((k:Int),a)) l.length (IK N r c l z50.2.1) _ ?_ ?_ k0 hk0 a0 h0
 ·rintro k ⟨p,q,m⟩ hk hI
  obtain ⟨e,he⟩ : ∃ e,l[k]? = some e:=⟨l[k],List.getElem?_eq_getElem hk⟩
  have w3:IntKind.wrap .i64 ((k:Int) + 1) = ((k + 1:Nat):Int):=dB (by omega)
  have l1:p.length ≤ 100 * k:=hI.len1
  have l2:q.length = k:=hI.len2
  have l3:m.length ≤ 20000 + 200 * k:=hI.len3
  have c1:(p.length + 0) * 32 ≤ 140737488355328:=by omega
  have c2:(q.length + 1) * 8 ≤ 140737488355328:=by omega
  have hg:=KM (n:=N) (r:=r) (c:=c) rfl hN hw k
  rw [hI.eq] at hg
  obtain ⟨ho,hm⟩ : uM N z50.2.1 ∧ Q6 z50.2.1 m:=hg
  have hno:∀ e ∈ z50.2.1,0 ≤ e.No ∧ e.No < 1000:=fun e he=>(ho.each e he).2.2.2.2.1
  have ol:=ho.len
  have hst:gT N r c l z50 k p q m = gT N r c l z50 k p q m:=rfl
  conv at hst=>rhs; unfold gT
  simp only [fX he,if_true,mH he,Option.bind_some,if_pos (GR (Nat.le_of_lt hk)),DB,YM,w3,BJ,if_pos c1,if_pos c2] at hst
  refine .inl ?_
  by_cases ck:NO N r e = false
  ·rw [if_pos ck] at hst
   exact ⟨_,hst,hI.next he (by unfold iQ; rw [if_pos ck]) (by show m.length ≤ m.length + 200; omega) (by simp)⟩
  ·rw [if_neg ck] at hst
   by_cases k4:e.Kind = 4
   ·rw [if_pos (by simpa using k4)] at hst
    exact ⟨_,hst,hI.next he (by unfold iQ; rw [if_neg ck]; dsimp only; rw [if_pos k4]) (by show m.length ≤ m.length + 200; omega) (by simp)⟩
   ·rw [if_neg (by simpa using k4)] at hst
    by_cases k5:e.Kind = 5
    ·rw [if_pos (by simpa using k5),if_pos (I5 (aCi (by simpa using ck)))] at hst
     by_cases hz:fT e.No 0 m = 0
     ·rw [if_pos (by simpa using hz)] at hst
      exact ⟨_,hst,hI.next he (by unfold iQ; rw [if_neg ck]; dsimp only; rw [if_neg k4,if_pos k5,if_pos hz]) (by show m.length ≤ m.length + 200; omega) (by simp)⟩
     ·rw [if_neg (by simpa using hz)] at hst
      obtain ⟨b1,b2,b3⟩:=SA e.No m z50.2.1 ⟨0,0⟩ []
      have hbe:∀ x ∈ z50.2.1,cl (z50.2.1.foldl (MK e.No m) (⟨0,0⟩,[])).2 x = cl m x:=fun x hx=>(b2 x.No).trans (if_pos ⟨x,hx,rfl⟩)
      have hsm:∀ x ∈ z50.2.1,MW e.No (z50.2.1.foldl (MK e.No m) (⟨0,0⟩,[])).2 x = MW e.No m x:=fun x hx=>by
       unfold MW
       rw [hbe x hx]
      have hrange:∀ x ∈ z50.2.1,0 ≤ cl m x ∧ cl m x ≤ 1099511627776:=fun x hx=>by
       have:=hm x hx
       have:=(ho.each x hx).2.2.2.1
       omega
      have hle:=aEp hm ho e.No
      have hd:=K0 ho hN hle (yH e.No z50.2.1)
      obtain ⟨pot,hc',hb'⟩:=JH hd
      have hm':=aIt ho hN hm e.No
      rw [aJT _ _ _ _ _ _ _ _ _ (by omega) hno m (fun x hx=>by have:=hrange x hx; exact ⟨by omega,by omega⟩),Option.bind_some,
       aKe _ _ _ _ _ _ _ _ _ _ (by omega) hno m (by omega),Option.bind_some] at hst
      obtain ⟨a1,a2⟩:=aBl (g:=yH e.No z50.2.1) hsm
      have b1' : (z50.2.1.foldl (MK e.No m) (⟨0,0⟩,[])).1 = yH e.No z50.2.1:=b1
      rw [b1',a2,a1] at hst
      dsimp only at hst
      have al:(yT (yH e.No z50.2.1) (MW e.No m) z50.2.1).length ≤ z50.2.1.length:=List.length_filter_le _ _
      have gl:(EJ (yH e.No z50.2.1) z50.2.1).length ≤ z50.2.1.length:=List.length_filter_le _ _
      have zl:=EP (EJ (yH e.No z50.2.1) z50.2.1) m
      have cln:(sH N ((yT (yH e.No z50.2.1) (MW e.No m) z50.2.1).map (qZ (MW e.No m)))).length = (yT (yH e.No z50.2.1) (MW e.No m) z50.2.1).length:=by rw [RD hd,List.length_map]
      rw [hc',Option.bind_some,aFy _ _ _ _ _ _ _ _ _ _ _ (by dsimp only; rw [cln,List.length_map]) (by dsimp only; rw [List.length_map]; omega) (fun i hi=>by
       obtain ⟨x,hx,rfl⟩:=List.mem_map.1 hi
       exact I5 (hno x (G5.1 hx).1)) (fun v hv=>aDs hd v hv) _ (by omega),Option.bind_some] at hst
      have hre:oG ((yT (yH e.No z50.2.1) (MW e.No m) z50.2.1).map (·.No)) (sH N ((yT (yH e.No z50.2.1) (MW e.No m) z50.2.1).map (qZ (MW e.No m)))) (wE (EJ (yH e.No z50.2.1) z50.2.1) m) = WM N z50.2.1 m e.No:=rfl
      dsimp only at hst
      rw [hre,aHa _ _ _ _ _ _ _ _ _ _ (by omega) hno (fun x hx=>by
       rw [hbe x hx]
       have h1:=hrange x hx
       have h2:=hm' x hx
       have h3:=(ho.each x hx).2.2.2.1
       exact ⟨h1.1,h1.2,h2.1,by omega⟩),Option.bind_some] at hst
      have hro:zO z50.2.1 (z50.2.1.foldl (MK e.No m) (⟨0,0⟩,[])).2 (WM N z50.2.1 m e.No) = zO z50.2.1 m (WM N z50.2.1 m e.No):=by
       unfold zO
       rw [List.filter_congr fun x hx=>by rw [hbe x hx]]
       exact List.map_congr_left fun x hx=>by rw [hbe x (List.mem_filter.1 hx).1]
      rw [hro] at hst
      have rl:=V7 z50.2.1 m (WM N z50.2.1 m e.No)
      rw [if_pos (by omega)] at hst
      refine ⟨_,hst,hI.next he (by unfold iQ; rw [if_neg ck]; dsimp only; rw [if_neg k4,if_pos k5,if_neg hz]) ?_ (by omega)⟩
      have:=LF N (yH e.No z50.2.1) (MW e.No m) z50.2.1 m cln
      show (nA N (yH e.No z50.2.1) (MW e.No m) z50.2.1 m).length ≤ m.length + 200
      omega
    ·rw [if_neg (by simpa using k5)] at hst
     exact ⟨_,hst,hI.next he (by unfold iQ; rw [if_neg ck]; dsimp only; rw [if_neg k4,if_neg k5]) (by show m.length ≤ m.length + 200; omega) (by simp)⟩
 ·rintro ⟨p,q,m⟩ hI
  refine ⟨(p,q,m),?_,hI⟩
  show gT N r c l z50 l.length p q m = _
  unfold gT
  rw [if_neg (by simp)]
theorem aIv (hn:n = N) (hN:N ≤ 40) (hf:tV n r c l = true) (hw:∀ e ∈ l,dW e.Sum):k7 n r c l = some ((dN n r c l).2.2.1,(dN n r c l).2.2.2):=by
 unfold k7
 rw [GD,hf,Option.bind_some,if_neg (by decide)]
 obtain ⟨x,h1,h2⟩:=aEm hn hN hf hw
 rw [h1,Option.bind_some]
 rcases h2 with ⟨k,o,a,rfl,hk,hI⟩ | ⟨a,rfl,hI⟩
 ·obtain ⟨y,h3,h4⟩:=YT hn hN hf hw (z50:=((k:Int),o,a.1,a.2.1,a.2.2)) hk hI
  have e:=h4.eq
  rw [List.take_length] at e
  show (mC n r c l ((k:Int),o,a.1,a.2.1,a.2.2) (k:Int) a.1 a.2.1 a.2.2).bind _ = _
  rw [h3,Option.bind_some,e]
 ·have e:=hI.eq
  rw [List.take_length] at e
  show some (a.1,a.2) = _
  rw [e]
theorem aJG (hf:tV n r c l = false):k7 n r c l = some ([],[]):=by
 unfold k7
 rw [GD,hf]
 rfl
theorem aJ6 (r96:(List aC) × (List Int) × MI) (z50:Int × (List aA) × (List aC) × (List Int) × MI):qH n r c r96 z50 0 [] = rE n r c l 0 [] [] r96.2.2 z50.2.1 0 []:=rfl
def aDD:StF→List aC
 | none=>[]
 | some (o,m)=>sN o m
theorem HJ (hn:n = N) (hN:N ≤ 40) (hf:tV n r c l = true) (hw:∀ e ∈ l,dW e.Sum):gI n r c l = some (aDD (dN n r c l).2.1):=by
 unfold gI
 rw [GD,hf,Option.bind_some,if_neg (by decide)]
 obtain ⟨x,h1,h2⟩:=aEm hn hN hf hw
 rw [h1,Option.bind_some]
 rcases h2 with ⟨k,o,a,rfl,hk,hI⟩ | ⟨a,rfl,hI⟩
 ·obtain ⟨y,h3,h4⟩:=YT hn hN hf hw (z50:=((k:Int),o,a.1,a.2.1,a.2.2)) hk hI
  have e:=h4.eq
  rw [List.take_length] at e
  have hg:=KM (n:=n) (r:=r) (c:=c) hn hN hw l.length
  rw [h4.eq] at hg
  obtain ⟨ho,hm⟩ : uM N o ∧ Q6 o y.2.2:=hg
  show (mC n r c l ((k:Int),o,a.1,a.2.1,a.2.2) (k:Int) a.1 a.2.1 a.2.2).bind _ = _
  rw [h3,Option.bind_some,e]
  unfold qA
  rw [aJ6 (l:=l),aEW _ _ _ _ _ _ _ (by have:=ho.len; omega) (fun e he=>(ho.each e he).2.2.2.2.1),Option.bind_some,Option.bind_some]
  rfl
 ·have e:=hI.eq
  rw [List.take_length] at e
  rw [e]
  have h15:nW n r c = some ():=by
   unfold nW
   exact gB rfl
  show (oC n r c).bind _ = _
  unfold oC
  rw [h15]
  rfl
theorem V0 (hf:tV n r c l = false):gI n r c l = some []:=by
 unfold gI
 rw [GD,hf]
 rfl
end
end Go.Proofs.Ytiimibimkpimbaa
set_option linter.unusedVariables false
set_option linter.unusedSimpArgs false
namespace Go.Proofs.Ytiimibimkpimbaa
open Go.RowKit Vm
theorem GI {α:Type} {P:List α→Prop} (h0:P []) (hs:∀ l x,P l→P (l ++ [x])) (l:List α):P l:=by
 have key:∀ (r p:List α),P p→P (p ++ r):=by
  intro r
  induction r with
  | nil=>intro p h; rw [List.append_nil]; exact h
  | cons x r ih =>
   intro p h
   have:=ih (p ++ [x]) (hs p x h)
   rw [List.append_assoc] at this
   exact this
 exact key l [] h0
def sI (l:List aA) (errs:List Int) (i:Nat):Prop:=(el l i).Kind = 4 ∧ el errs i = 0
section
variable (n r c:Int)
theorem AK (l:List aA):(dN n r c l).2.2.2.length = l.length:=by
 refine GI (P:=fun l=>(dN n r c l).2.2.2.length = l.length) rfl (fun l x h=>?_) l
 rw [mS]
 show ((dN n r c l).2.2.2 ++ [_]).length = _
 rw [List.length_append,List.length_append,h]
 rfl
theorem O2 (l:List aA) (k:Nat):(dN n r c (l.take k)).2.2.2 = (dN n r c l).2.2.2.take k:=by
 have key:∀ (s p:List aA),∃ z,(dN n r c (p ++ s)).2.2.2 = (dN n r c p).2.2.2 ++ z:=by
  intro s
  refine GI (P:=fun s=>∀ p,∃ z,(dN n r c (p ++ s)).2.2.2 = (dN n r c p).2.2.2 ++ z) (fun p=>⟨[],by simp⟩) (fun s x ih p=>?_) s
  obtain ⟨z,hz⟩:=ih p
  rw [← List.append_assoc,mS]
  refine ⟨z ++ [(iQ n r c (dN n r c (p ++ s)).1 (dN n r c (p ++ s)).2.1 x).2.2],?_⟩
  show (dN n r c (p ++ s)).2.2.2 ++ [(iQ n r c (dN n r c (p ++ s)).1 (dN n r c (p ++ s)).2.1 x).2.2] = _
  rw [hz,List.append_assoc]
 obtain ⟨z,hz⟩:=key (l.drop k) (l.take k)
 rw [List.take_append_drop] at hz
 rw [hz]
 have:=AK n r c (l.take k)
 rw [List.length_take] at this
 have h1:=AK n r c l
 rw [hz] at h1
 generalize (dN n r c (l.take k)).2.2.2 = A at h1 this ⊢
 by_cases hk:k ≤ l.length
 ·rw [List.take_append_of_le_length (by omega),List.take_of_length_le (by omega)]
 ·have hz2:z = []:=by
   rw [List.length_append] at h1
   exact List.eq_nil_of_length_eq_zero (by omega)
  rw [hz2,List.append_nil,List.take_of_length_le (by omega)]
theorem OC (l:List aA) (h:∀ i,i < l.length→¬ sI l (dN n r c l).2.2.2 i):(dN n r c l).2.1 = none ∧ (dN n r c l).2.2.1 = []:=by
 refine GI (P:=fun l=>(∀ i,i < l.length→¬ sI l (dN n r c l).2.2.2 i)→(dN n r c l).2.1 = none ∧ (dN n r c l).2.2.1 = []) (fun _=>⟨rfl,rfl⟩) (fun l x ih h=>?_) l h
 have hl:=AK n r c l
 rw [mS] at h ⊢
 obtain ⟨h1,h2⟩:=ih fun i hi q=>by
  refine h i (by rw [List.length_append]; omega) ⟨?_,?_⟩
  ·have:=q.1
   rw [xX l i hi] at this
   rw [xX _ i (by rw [List.length_append]; omega),List.getElem_append_left hi]
   exact this
  ·have:=q.2
   rw [xX _ i (by omega)] at this
   show el ((dN n r c l).2.2.2 ++ [_]) i = 0
   rw [xX _ i (by rw [List.length_append]; omega),List.getElem_append_left (by omega)]
   exact this
 have hx:=h l.length (by simp)
 unfold sI at hx
 have e1:el (l ++ [x]) l.length = x:=by simp [el]
 have e2:el (J4 n r c (dN n r c l) x).2.2.2 l.length = (iQ n r c l none x).2.2:=by
  show el ((dN n r c l).2.2.2 ++ [(iQ n r c (dN n r c l).1 (dN n r c l).2.1 x).2.2]) l.length = _
  rw [EI,h1,← hl]
  simp [el]
 rw [e1,e2] at hx
 show (iQ n r c (dN n r c l).1 (dN n r c l).2.1 x).1 = none ∧ (dN n r c l).2.2.1 ++ (iQ n r c (dN n r c l).1 (dN n r c l).2.1 x).2.1 = []
 rw [h1,h2,EI,List.nil_append]
 unfold iQ at hx ⊢
 by_cases ck:NO n r x = false
 ·rw [if_pos ck]; exact ⟨rfl,rfl⟩
 ·rw [if_neg ck] at hx ⊢
  dsimp only at hx ⊢
  by_cases k4:x.Kind = 4
  ·rw [if_pos k4] at hx ⊢
   by_cases hd:x.Day < c
   ·rw [if_pos hd]; exact ⟨rfl,rfl⟩
   ·rw [if_neg hd] at hx ⊢
    by_cases hf:100 < (fQ n r c l).length
    ·rw [if_pos hf]; exact ⟨rfl,rfl⟩
    ·rw [if_neg hf] at hx
     exact absurd ⟨k4,rfl⟩ hx
  ·rw [if_neg k4]
   by_cases k5:x.Kind = 5
   ·rw [if_pos k5]; exact ⟨rfl,rfl⟩
   ·rw [if_neg k5]
    by_cases hd:c < x.Day
    ·rw [if_pos hd]; exact ⟨rfl,rfl⟩
    ·rw [if_neg hd]; exact ⟨rfl,rfl⟩
theorem WY (l:List aA) (k:Nat) (hk:k < l.length) (hs:sI l (dN n r c l).2.2.2 k) (hb:∀ i,i < k→¬ sI l (dN n r c l).2.2.2 i) :
  dN n r c (l.take (k + 1)) = (l.take (k + 1),some (fQ n r c (l.take k),nI n (fQ n r c (l.take k))),sN (fQ n r c (l.take k)) (nI n (fQ n r c (l.take k))),(dN n r c (l.take k)).2.2.2 ++ [0]) ∧ (fQ n r c (l.take k)).length ≤ 100 ∧ NO n r (el l k) = true ∧ ¬ (el l k).Day < c:=by
 have hel:=AK n r c l
 have ht:=O2 n r c l k
 have ht1:=O2 n r c l (k + 1)
 obtain ⟨h1,h2⟩:=OC n r c (l.take k) fun i hi q=>by
  rw [List.length_take] at hi
  refine hb i (by omega) ⟨?_,?_⟩
  ·have:=q.1
   rw [xX _ i (by rw [List.length_take]; omega),List.getElem_take] at this
   rw [xX l i (by omega)]
   exact this
  ·have:=q.2
   rw [ht,xX _ i (by rw [List.length_take]; omega),List.getElem_take] at this
   rw [xX _ i (by omega)]
   exact this
 have hx:l[k]? = some (el l k):=by rw [xX l k hk]; exact List.getElem?_eq_getElem hk
 have hkk:=hs.1
 have e0:(iQ n r c (l.take k) none (el l k)).2.2 = 0:=by
  have e1:(dN n r c (l.take (k + 1))).2.2.2 = (dN n r c (l.take k)).2.2.2 ++ [(iQ n r c (l.take k) none (el l k)).2.2]:=by
   rw [AL hx,mS]
   show (dN n r c (l.take k)).2.2.2 ++ [(iQ n r c (dN n r c (l.take k)).1 (dN n r c (l.take k)).2.1 (el l k)).2.2] = _
   rw [EI,h1]
  have e2:=hs.2
  have hlk:(dN n r c (l.take k)).2.2.2.length = k:=by rw [AK,List.length_take]; omega
  have e3:(dN n r c (l.take (k + 1))).2.2.2[k]? = some 0:=by
   rw [ht1,List.getElem?_take,if_pos (by omega)]
   rw [xX _ k (by omega)] at e2
   rw [List.getElem?_eq_getElem (by omega),e2]
  rw [e1,List.getElem?_append_right (by omega),hlk,Nat.sub_self] at e3
  simpa using e3
 rw [AL hx,mS]
 have e5:J4 n r c (dN n r c (l.take k)) (el l k) = (l.take k ++ [el l k],(iQ n r c (l.take k) none (el l k)).1,(iQ n r c (l.take k) none (el l k)).2.1,(dN n r c (l.take k)).2.2.2 ++ [(iQ n r c (l.take k) none (el l k)).2.2]):=by
  show ((dN n r c (l.take k)).1 ++ [el l k],(iQ n r c (dN n r c (l.take k)).1 (dN n r c (l.take k)).2.1 (el l k)).1,(dN n r c (l.take k)).2.2.1 ++ (iQ n r c (dN n r c (l.take k)).1 (dN n r c (l.take k)).2.1 (el l k)).2.1,_) = _
  rw [EI,h1,h2,List.nil_append]
 rw [e5,e0]
 unfold iQ at e0 ⊢
 by_cases ck:NO n r (el l k) = false
 ·rw [if_pos ck] at e0
  exact absurd e0 (by decide)
 ·rw [if_neg ck] at e0
  rw [if_neg ck]
  dsimp only at e0 ⊢
  rw [if_pos hkk] at e0
  rw [if_pos hkk]
  by_cases hd:(el l k).Day < c
  ·rw [if_pos hd] at e0
   exact absurd e0 (by decide)
  ·rw [if_neg hd] at e0
   rw [if_neg hd]
   by_cases hf:100 < (fQ n r c (l.take k)).length
   ·rw [if_pos hf] at e0
    exact absurd e0 (by decide)
   ·rw [if_neg hf]
    exact ⟨rfl,by omega,by simpa using ck,hd⟩
theorem aCG (l:List aA) (errs:List Int):(∀ i,i < l.length→¬ sI l errs i) ∨ ∃ k,k < l.length ∧ sI l errs k ∧ ∀ i,i < k→¬ sI l errs i:=by
 have key:∀ m,(∀ i,i < m→¬ sI l errs i) ∨ ∃ k,k < m ∧ sI l errs k ∧ ∀ i,i < k→¬ sI l errs i:=by
  intro m
  induction m with
  | zero=>exact .inl fun i hi=>absurd hi (Nat.not_lt_zero _)
  | succ m ih =>
   rcases ih with h | ⟨k,h1,h2,h3⟩
   ·by_cases q:sI l errs m
    ·exact .inr ⟨m,Nat.lt_succ_self _,q,h⟩
    ·refine .inl fun i hi=>?_
     by_cases e:i = m
     ·rw [e]; exact q
     ·exact h i (by omega)
   ·exact .inr ⟨k,by omega,h2,h3⟩
 exact key l.length
end
end Go.Proofs.Ytiimibimkpimbaa
set_option linter.unusedVariables false
set_option linter.unusedSimpArgs false
namespace Go.Proofs.Ytiimibimkpimbaa
open Go.RowKit Vm
theorem Q1 {α:Type} {step:Int→Option (Int ⊕ (Unit ⊕ Unit))} (l:List α) (hl:l.length ≤ 100000)
  (h:∀ (k:Nat) x,l[k]? = some x→step k = some (.inl (IntKind.wrap .i64 ((k:Int) + 1)))) (he:step l.length = some (.inr (.inl ()))):eU (fun (w:Int)=>step w) 0 = some (.inl ()):=by
 have:=pF (step:=fun (w:Int)=>step w) (fun k (_:Unit)=>(k:Int)) l (fun _ _=>()) (fun _ _=>True) (fun _=>(.inl ():Unit ⊕ Unit)) (fun k a x hx _=>by
  have hk:=pC hx
  have e:=h k x hx
  rw [dB (by omega)] at e
  exact ⟨e,trivial⟩) (fun _ _=>he) () trivial
 exact this.1
theorem HT (a:List aC) (hl:a.length ≤ 100000):dF a a = some true:=by
 unfold dF jV
 rw [if_neg (by simp),Q1 (step:=fun w=>cW a a w) a hl (fun k x hx=>by
  show cW a a k = _
  unfold cW
  simp only [fX hx,if_true,mH hx,Option.bind_some,beq_self_eq_true,Bool.and_self,Bool.not_true,Bool.false_eq_true,if_false]) (by
  show cW a a a.length = _
  unfold cW
  rw [if_neg (by simp)])]
 rfl
theorem WJ (l:List aA) (e:List Int) (hl:l.length ≤ 100000) (he:e.length = l.length) (h:∀ i,i < l.length→¬ sI l e i):eZ l e = some (l.length:Int):=by
 unfold eZ gW
 have:=pF (step:=fun (w:Int)=>bO l e w) (fun k (_:Unit)=>(k:Int)) l (fun _ _=>()) (fun _ _=>True) (fun _=>(.inl ():Unit ⊕ Int)) (fun k a x hx _=>by
  have hk:=pC hx
  have w3:IntKind.wrap .i64 ((k:Int) + 1) = ((k + 1:Nat):Int):=dB (by omega)
  refine ⟨?_,trivial⟩
  show bO l e k = _
  unfold bO
  have hx2:at? e (k:Int) = some (el e k):=aCR e k (by omega)
  simp only [fX hx,if_true,mH hx,Option.bind_some,hx2,w3]
  rw [if_pos (by simp only [decide_eq_true_eq]; omega)]
  by_cases c:x.Kind = 4
  ·rw [if_pos (by simpa using c),if_neg]
   intro q
   refine h k hk ⟨?_,by simpa using q⟩
   rw [xX l k hk]
   rw [List.getElem?_eq_getElem hk,Option.some.injEq] at hx
   rw [hx]; exact c
  ·rw [if_neg (by simpa using c)]) (fun a _=>by
  show bO l e l.length = _
  unfold bO
  rw [if_neg (by simp)]) () trivial
 have e0:eU (fun (w:Int)=>bO l e w) 0 = some (.inl ()):=this.1
 rw [e0]
 rfl
theorem aDP (l:List aA) (e:List Int) (hl:l.length ≤ 100000) (he:e.length = l.length) {k:Nat} (hk:k < l.length) (hs:sI l e k) (h:∀ i,i < k→¬ sI l e i):eZ l e = some (k:Int):=by
 unfold eZ gW
 obtain ⟨x,h1,h2⟩:=pD (step:=fun (w:Int)=>bO l e w) (fun k (_:Unit)=>(k:Int)) l.length (fun j _=>j ≤ k) (fun x=>x = (.inr (k:Int):Unit ⊕ Int)) (fun j a hj hI=>by
  have w3:IntKind.wrap .i64 ((j:Int) + 1) = ((j + 1:Nat):Int):=dB (by omega)
  have hst:bO l e j = bO l e j:=rfl
  conv at hst=>rhs; unfold bO
  rw [if_pos (by simp only [decide_eq_true_eq]; omega),if_pos (by simp only [decide_eq_true_eq]; omega),aCR l j hj,Option.bind_some,aCR e j (by omega),Option.bind_some,w3] at hst
  by_cases c:j = k
  ·subst c
   rw [if_pos (by simpa using hs.1),if_pos (by simpa using hs.2)] at hst
   exact .inr ⟨_,hst,rfl⟩
  ·refine .inl ⟨(),?_,by omega⟩
   have hn:=h j (by omega)
   by_cases c4:(el l j).Kind = 4
   ·rw [if_pos (by simpa using c4),if_neg (by simpa using fun q=>hn ⟨c4,q⟩)] at hst
    exact hst
   ·rw [if_neg (by simpa using c4)] at hst
    exact hst) (fun a hI=>absurd hI (by omega)) () (Nat.zero_le _)
 have e0:eU (fun (w:Int)=>bO l e w) 0 = some x:=h1
 rw [e0,h2]
 rfl
end Go.Proofs.Ytiimibimkpimbaa
set_option linter.unusedVariables false
set_option linter.unusedSimpArgs false
namespace Go.Proofs.Ytiimibimkpimbaa
open Go.RowKit Vm
def ofS:List aC→Int→Int
 | [],_=>0
 | x :: l,no=>if x.No = no then x.Sum else ofS l no
theorem aKF (l:List aC) (hl:l.length ≤ 100000) (no:Int):mE l no = some (ofS l no):=by
 unfold mE oW
 have key:∀ (r q:List aC),l = q ++ r→∃ z,eU (fun (w:Int)=>eA l no w) (q.length:Int) = some z ∧ (Sum.elim (fun z6=>some 0) (fun z7=>some z7) z:Option Int) = some (ofS r no):=by
  intro r
  induction r with
  | nil =>
   intro q e
   rw [List.append_nil] at e
   subst e
   refine ⟨.inl (),gB ?_,rfl⟩
   unfold eA
   rw [if_neg (by simp)]
  | cons x r ih =>
   intro q e
   have hx:l[q.length]? = some x:=by rw [e]; simp
   have hk:=pC hx
   have w3:IntKind.wrap .i64 ((q.length:Int) + 1) = ((q.length + 1:Nat):Int):=dB (by omega)
   have hst:eA l no q.length = eA l no q.length:=rfl
   conv at hst=>rhs; unfold eA
   simp only [fX hx,if_true,mH hx,Option.bind_some,w3] at hst
   by_cases c:x.No = no
   ·rw [if_pos (by simpa using c)] at hst
    refine ⟨.inr x.Sum,gB hst,?_⟩
    unfold ofS
    rw [if_pos c]
    rfl
   ·rw [if_neg (by simpa using c)] at hst
    obtain ⟨z,h1,h2⟩:=ih (q ++ [x]) (by rw [e]; simp)
    rw [List.length_append,List.length_singleton] at h1
    refine ⟨z,(gH hst).trans h1,?_⟩
    rw [h2]
    conv=>rhs; unfold ofS
    rw [if_neg c]
 obtain ⟨z,h1,h2⟩:=key l [] rfl
 have e0:eU (fun (w:Int)=>eA l no w) 0 = some z:=h1
 rw [e0,Option.bind_some]
 exact h2
theorem aGy {o:List aA} (h:v7 o) (p:aA→Bool) (F:aA→aC) (hF:∀ e,(F e).No = e.No) {e:aA} (he:e ∈ o):ofS ((o.filter p).map F) e.No = if p e = true then (F e).Sum else 0:=by
 induction o with
 | nil=>cases he
 | cons x o ih =>
  obtain ⟨h1,h2⟩:=List.pairwise_cons.1 h
  rw [List.filter_cons]
  rcases List.mem_cons.1 he with e1 | he'
  ·subst e1
   by_cases c:p e = true
   ·rw [if_pos c,if_pos c,List.map_cons]
    unfold ofS
    rw [if_pos (hF e)]
   ·rw [if_neg c,if_neg c]
    have:∀ l:List aA,(∀ y ∈ l,e.No ≠ y.No)→ofS (l.map F) e.No = 0:=by
     intro l
     induction l with
     | nil=>intro _; rfl
     | cons y l ih' =>
      intro hl
      rw [List.map_cons]
      unfold ofS
      rw [if_neg (by rw [hF]; exact fun q=>hl y List.mem_cons_self q.symm)]
      exact ih' fun z hz=>hl z (List.mem_cons_of_mem _ hz)
    exact this _ fun y hy=>h1 y (List.mem_filter.1 hy).1
  ·have hne:x.No ≠ e.No:=h1 e he'
   by_cases c:p x = true
   ·rw [if_pos c,List.map_cons]
    conv=>lhs; unfold ofS
    rw [if_neg (by rw [hF]; exact hne)]
    exact ih h2 he'
   ·rw [if_neg c]
    exact ih h2 he'
theorem aCc {o:List aA} (h:v7 o) {m:MI} {e:aA} (he:e ∈ o) (h0:0 ≤ cl m e):ofS (sN o m) e.No = cl m e:=by
 unfold sN
 rw [aGy h _ _ (fun _=>rfl) he]
 by_cases c:0 < cl m e
 ·rw [if_pos (by simpa using c)]
 ·rw [if_neg (by simpa using c)]
  omega
theorem aB1 (l:List aA):eZ l [] = some (l.length:Int):=by
 unfold eZ gW
 have:bO l [] 0 = some (.inr (.inl ())):=by
  unfold bO
  split <;> rfl
 rw [gB this]
 rfl
end Go.Proofs.Ytiimibimkpimbaa
set_option linter.unusedVariables false
set_option linter.unusedSimpArgs false
namespace Go.Proofs.Ytiimibimkpimbaa
open Go.RowKit Vm
end Go.Proofs.Ytiimibimkpimbaa
