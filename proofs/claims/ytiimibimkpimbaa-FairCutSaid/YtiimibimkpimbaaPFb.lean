/- fair.Run and fair.Cleared do what is told in plain terms: the inner loops. fair.Run and fair.Cleared do what is told in plain terms. Law 44: what comes of the first closing; FairCut. Law 44: the reference's small functions; the sanity function. Law 44: the sum of a number among what is told. Law 44: what is cleared nets to nothing in each group. -/
import Derived.Test.YtiimibimkpimbaaPFa
set_option linter.unusedVariables false
set_option linter.unusedSimpArgs false
namespace Go.Proofs.Ytiimibimkpimbaa
open Go.RowKit Vm
theorem aHW {S A X:Type} {step:S→Option (S ⊕ X)} (st:Nat→A→S) (n:Nat) (I:Nat→A→Prop) (Q:X→Prop)
  (h:∀ k a,k < n→I k a→(∃ a',step (st k a) = some (.inl (st (k + 1) a')) ∧ I (k + 1) a') ∨ ∃ x,step (st k a) = some (.inr x) ∧ Q x)
  (he:∀ a,I n a→∃ x,step (st n a) = some (.inr x) ∧ Q x) (k0:Nat) (hk0:k0 ≤ n) (a:A) (h0:I k0 a):∃ x,fE step (st k0 a) = some x ∧ Q x:=by
 have key:∀ m k a,k + m = n→I k a→∃ x,fE step (st k a) = some x ∧ Q x:=by
  intro m
  induction m with
  | zero =>
   intro k a hk hI
   obtain rfl:k = n:=by omega
   obtain ⟨x,h1,h2⟩:=he a hI
   exact ⟨x,fT h1,h2⟩
  | succ m ih =>
   intro k a hk hI
   rcases h k a (by omega) hI with ⟨a',h1,h2⟩ | ⟨x,h1,h2⟩
   ·rw [gP h1]
    exact ih (k + 1) a' (by omega) h2
   ·exact ⟨x,fT h1,h2⟩
 exact key (n - k0) k0 a (by omega) h0
theorem vG {α β:Type} (p:α→Bool) (F:α→β):∀ (l:List α) (acc:List β),l.foldl (fun out x=>if p x = true then out ++ [F x] else out) acc = acc ++ (l.filter p).map F
 | [],acc=>by simp
 | x :: l,acc=>by
  rw [List.foldl_cons,vG p F l,List.filter_cons]
  split <;> simp
theorem H3 {k:Int} (h:0 ≤ k ∧ k < 1000):dY k:=⟨by omega,by omega⟩
theorem aKS:dY 0:=⟨by decide,by decide⟩
section
variable (a0 a1 a2:Int) (a3:List aA) (p2:Int) (p3:List aC) (p4:List Int) (p8:Int) (p10:MB)
theorem aIV {o:List aA} (hl:o.length ≤ 400) (hno:∀ e ∈ o,0 ≤ e.No ∧ e.No < 1000) (g:aE) (m:MI) (hm:m.length ≤ 100000000000) :
  tA a0 a1 a2 a3 p10 p2 p3 p4 p8 g o 0 m [] [] = some (vW (H6 g o) m,(yF g (fun x=>x.Sum) o).map (tS fun x=>x.Sum),(yF g (fun x=>x.Sum) o).map (·.No)):=by
 unfold tA
 refine II (step:=fun (w:Int × MI × (List aM) × (List Int))=>jG a0 a1 a2 a3 p10 p2 p3 p4 p8 g o w.1 w.2.1 w.2.2.1 w.2.2.2) g (fun x=>x.Sum) o hl m hm (fun k e m d u hx h1 h2 h3=>?_) (fun a=>?_)
 ·show jG a0 a1 a2 a3 p10 p2 p3 p4 p8 g o k m d u = _
  have hk:=pO hx
  have w3:IntKind.wrap .i64 ((k:Int) + 1) = ((k + 1:Nat):Int):=eV (by omega)
  have hi:=H3 (hno e (List.mem_of_getElem? hx))
  unfold jG sM kM
  simp only [fR hx,if_true,lY hx,Option.bind_some,aGw,w3,if_pos hi,if_pos aKS,if_pos h1]
  unfold SU
  by_cases c:YO g e = true
  ·have c' : ((BI e).currency == g.currency && (BI e).due == g.due) = true:=c
   rw [c',if_neg (by decide),if_pos c]
   by_cases c2:0 < e.Sum
   ·rw [if_pos (decide_eq_true (show e.Sum > 0 from c2)),if_pos (by omega),if_pos (by omega),if_pos c2,if_pos c2]
    rfl
   ·rw [if_neg (by simpa using c2),if_neg c2,if_neg c2]
  ·have c' : ((BI e).currency == g.currency && (BI e).due == g.due) = false:=by
    rw [Bool.not_eq_true] at c; exact c
   rw [c',if_pos (by decide),if_neg c]
 ·show jG a0 a1 a2 a3 p10 p2 p3 p4 p8 g o o.length a.1 a.2.1 a.2.2 = _
  unfold jG
  rw [if_neg (by simp)]
theorem aIp (r12:aE) (r27:MI × (List aM) × (List Int)) (r28:(List Int) × (List Int) × Int) (r7:List aA) (hl:r28.1.length = r27.2.2.length) (hu:r27.2.2.length ≤ 400)
  (hi:∀ i ∈ r27.2.2,dY i) (hv:∀ i ∈ r28.1,dY i) (m:MI) (hm:m.length ≤ 100000000000) :
  s9 a0 a1 a2 a3 p10 p2 p3 p4 p8 r12 r27 r28 r7 0 m = some (nZ r27.2.2 r28.1 m):=by
 unfold s9
 refine SZ (step:=fun (w:Int × MI)=>jQ a0 a1 a2 a3 p10 p2 p3 p4 p8 r12 r27 r28 r7 w.1 w.2) r27.2.2 r28.1 hl hu m hm (fun k i v m h1 h2 h3=>?_) (fun m=>?_)
 ·show jQ a0 a1 a2 a3 p10 p2 p3 p4 p8 r12 r27 r28 r7 k m = _
  have hk:=pO h1
  have w3:IntKind.wrap .i64 ((k:Int) + 1) = ((k + 1:Nat):Int):=eV (by omega)
  unfold jQ
  simp only [fR h2,if_true,lY h2,Option.bind_some,w3,Int.toNat_natCast,h1,if_pos (hi i (List.mem_of_getElem? h1)),if_pos (hv v (List.mem_of_getElem? h2)),if_pos h3]
  rw [if_pos ⟨by omega,hk⟩]
 ·show jQ a0 a1 a2 a3 p10 p2 p3 p4 p8 r12 r27 r28 r7 r28.1.length m = _
  unfold jQ
  rw [if_neg (by simp)]
theorem aC1 {N:Nat} {d:List aM} (h:FB N d):∀ v ∈ sF N d,dY v:=by
 intro v hv
 obtain ⟨q,_,hb⟩:=KD h
 obtain ⟨i,hi,rfl⟩:=WU hv
 rw [hb.len] at hi
 have h1:=hb.bald.lo i hi
 have h2:=hb.bald.hi i hi
 unfold rC at h2
 have h3:=(h.each i hi).2.2.2.2
 exact ⟨by omega,by omega⟩
theorem aJi {N:Nat} {o:List aA} (ho:u0 N o) (hN:N ≤ 40):sK N a1 a2 a3 p2 p3 p4 o 0 [] [] = some (pE N o):=by
 unfold sK
 have h:=pD (step:=fun (w:Int × MI × MB)=>jS N a1 a2 a3 p2 p3 p4 o w.1 w.2.1 w.2.2) (fun k a=>((k:Int),a)) o (vI N o) (fun k a=>E9 N o (o.take k) a) (fun a=>a.1) (fun k a e hx hI=>by
  have hk:=pO hx
  have he:e ∈ o:=List.mem_of_getElem? hx
  have w3:IntKind.wrap .i64 ((k:Int) + 1) = ((k + 1:Nat):Int):=eV (by have:=ho.len; omega)
  have hs:=hI.step ho hN (fun x hx=>List.mem_of_mem_take hx) he
  have ht:o.take k ++ [e] = o.take (k + 1):=by
   rw [List.take_add_one,hx]; rfl
  rw [ht] at hs
  refine ⟨?_,hs⟩
  show jS N a1 a2 a3 p2 p3 p4 o k a.1 a.2 = _
  obtain ⟨_,_,_,_,_,q1,q2⟩:=ho.each e he
  have i1:dY e.Currency:=⟨by omega,by omega⟩
  have i2:dY e.Due:=⟨by omega,by omega⟩
  have l1:=hI.len1
  have l2:=hI.len2
  rw [List.length_take] at l1 l2
  have l3:=ho.len
  have hss:∀ x ∈ o,(fun x:aA=>x.Sum) x ≤ x.Sum:=fun x _=>Int.le_refl _
  have hd:=K2 ho hN hss (BI e)
  obtain ⟨q,hc,hb⟩:=KD hd
  unfold jS
  simp only [fR hx,if_true,lY hx,Option.bind_some,aGw,w3]
  show (if dY e.Currency then _ else none) = _
  rw [if_pos i1]
  show (if dY e.Due then _ else none) = _
  rw [if_pos i2]
  unfold vI
  show (if (!fV (fC e.Currency e.Due) false a.2) = true then _ else _) = _
  by_cases c:fV (fC e.Currency e.Due) false a.2 = true
  ·rw [c,if_neg (by decide),if_pos rfl]
  ·have c' : fV (fC e.Currency e.Due) false a.2 = false:=by
    rw [Bool.not_eq_true] at c; exact c
   rw [c',if_pos (show (!false) = true from rfl),if_neg Bool.false_ne_true]
   show (if dY e.Currency then _ else none) = _
   rw [if_pos i1]
   show (if dY e.Due then _ else none) = _
   rw [if_pos i2,if_pos (by omega),aIV _ _ _ _ _ _ _ _ _ (by omega) (fun e he=>(ho.each e he).2.2.2.2.1) _ _ (by omega),Option.bind_some]
   dsimp only
   rw [hc,Option.bind_some,aIp _ _ _ _ _ _ _ _ _ _ _ _ _ (by dsimp only; rw [PP hd,List.length_map,List.length_map]) (by
    dsimp only
    rw [List.length_map]
    have:(yF (BI e) (fun x=>x.Sum) o).length ≤ o.length:=List.length_filter_le _ _
    omega) (fun i hi=>by
    obtain ⟨x,hx,rfl⟩:=List.mem_map.1 hi
    exact H3 (ho.each x (GG.1 hx).1).2.2.2.2.1) (fun v hv=>aC1 hd v hv) _ (by
    have h1:=DO (H6 (BI e) o) a.1
    have h2:(H6 (BI e) o).length ≤ o.length:=List.length_filter_le _ _
    omega)]
   rfl) (fun a _=>by
  show jS N a1 a2 a3 p2 p3 p4 o o.length a.1 a.2 = _
  unfold jS
  rw [if_neg (by simp)]) ([],[]) ⟨fun e he=>(by simp [fV]),fun e he=>(by simp at he),(by simp),(by simp)⟩
 exact h.1
theorem aCd {o:List aA} (hl:o.length ≤ 400) (hno:∀ e ∈ o,0 ≤ e.No ∧ e.No < 1000) (m:MI):qN a0 a1 a2 a3 p2 p3 p4 m o 0 [] = some (CO o m):=by
 unfold qN
 have h:=pD (step:=fun (w:Int × (List aC))=>jR a0 a1 a2 a3 p2 p3 p4 m o w.1 w.2) (fun k a=>((k:Int),a)) o (fun out x=>if decide (0 < cl m x) = true then out ++ [⟨4,x.Room,x.No,cl m x⟩] else out) (fun k a=>a.length ≤ k) id (fun k a x hx hI=>by
  have hk:=pO hx
  have w3:IntKind.wrap .i64 ((k:Int) + 1) = ((k + 1:Nat):Int):=eV (by omega)
  constructor
  ·show jR a0 a1 a2 a3 p2 p3 p4 m o k a = _
   unfold jR
   simp only [fR hx,if_true,lY hx,Option.bind_some,w3,if_pos (H3 (hno x (List.mem_of_getElem? hx)))]
   by_cases c:0 < cl m x
   ·rw [if_pos (decide_eq_true (show fV x.No 0 m > 0 from c)),if_pos (by omega),if_pos (decide_eq_true c)]
    rfl
   ·rw [if_neg (by simpa [cl] using c),if_neg (by simpa using c)]
  ·split
   ·rw [List.length_append,List.length_singleton]; omega
   ·omega) (fun a hI=>by
  show jR a0 a1 a2 a3 p2 p3 p4 m o o.length a = _
  unfold jR
  rw [if_neg (by simp)]
  rfl) [] (Nat.le_refl _)
 rw [vG] at h
 exact h.1
end
def LM (no:Int) (m:MI) (a:aE × MI) (e:aA):aE × MI:=(if e.No = no then BI e else a.1,fI e.No (cl m e) a.2)
theorem SS (no:Int) (m:MI):∀ (o:List aA) (g:aE) (b:MI),(o.foldl (LM no m) (g,b)).1 = o.foldl (fun g e=>if e.No = no then BI e else g) g ∧ (∀ k,fV k 0 (o.foldl (LM no m) (g,b)).2 = if (∃ e ∈ o,e.No = k) then fV k 0 m else fV k 0 b) ∧ (o.foldl (LM no m) (g,b)).2.length ≤ b.length + o.length
 | [],g,b=>by simp
 | e :: o,g,b=>by
  obtain ⟨h1,h2,h3⟩:=SS no m o (if e.No = no then BI e else g) (fI e.No (cl m e) b)
  refine ⟨h1,fun k=>?_,?_⟩
  ·show fV k 0 (o.foldl (LM no m) (_,fI e.No (cl m e) b)).2 = _
   refine (h2 k).trans ?_
   rw [FM]
   by_cases c1:∃ x ∈ o,x.No = k
   ·rw [if_pos c1,if_pos]
    obtain ⟨x,hx,e'⟩:=c1
    exact ⟨x,List.mem_cons_of_mem _ hx,e'⟩
   ·rw [if_neg c1]
    by_cases c2:k = e.No
    ·rw [if_pos c2,if_pos ⟨e,List.mem_cons_self,c2.symm⟩,c2]
     rfl
    ·rw [if_neg c2,if_neg]
     rintro ⟨x,hx,e'⟩
     rcases List.mem_cons.1 hx with rfl | hx
     ·exact c2 e'.symm
     ·exact c1 ⟨x,hx,e'⟩
  ·have:=AH e.No (cl m e) b
   rw [List.length_cons]
   refine Nat.le_trans h3 ?_
   omega
section
variable (a0 a1 a2:Int) (a3:List aA) (p52:Int) (p53:List aC) (p54:List Int) (x56:aA) (z50:Int × (List aA) × (List aC) × (List Int) × MI)
theorem aI2 (hl:z50.2.1.length ≤ 400) (hno:∀ e ∈ z50.2.1,0 ≤ e.No ∧ e.No < 1000) (m:MI) (hm:∀ e ∈ z50.2.1,dY (cl m e)) :
  o7 a0 a1 a2 a3 p52 p53 p54 m x56 z50 0 (aE.mk 0 0) [] = some (z50.2.1.foldl (LM x56.No m) (⟨0,0⟩,[])):=by
 unfold o7
 have h:=pD (step:=fun (w:Int × aE × MI)=>jL a0 a1 a2 a3 p52 p53 p54 m x56 z50 w.1 w.2.1 w.2.2) (fun k a=>((k:Int),a)) z50.2.1 (LM x56.No m) (fun k a=>a.2.length ≤ k) id (fun k a e hx hI=>by
  have hk:=pO hx
  have he:=List.mem_of_getElem? hx
  have w3:IntKind.wrap .i64 ((k:Int) + 1) = ((k + 1:Nat):Int):=eV (by omega)
  have i3:dY (fV e.No 0 m):=hm e he
  constructor
  ·show jL a0 a1 a2 a3 p52 p53 p54 m x56 z50 k a.1 a.2 = _
   unfold jL
   simp only [fR hx,if_true,lY hx,Option.bind_some,w3,if_pos (H3 (hno e he)),if_pos i3,aGw]
   rw [if_pos (by omega)]
   unfold LM
   by_cases c:e.No = x56.No
   ·rw [if_pos (by simpa using c),if_pos c]
    rfl
   ·rw [if_neg (by simpa using c),if_neg c]
    rfl
  ·have:=AH e.No (cl m e) a.2
   show (fI e.No (cl m e) a.2).length ≤ k + 1
   omega) (fun a hI=>by
  show jL a0 a1 a2 a3 p52 p53 p54 m x56 z50 z50.2.1.length a.1 a.2 = _
  unfold jL
  rw [if_neg (by simp)]
  rfl) (⟨0,0⟩,[]) (Nat.le_refl _)
 exact h.1
theorem aI4 (r65:aE × MI) (hl:z50.2.1.length ≤ 400) (hno:∀ e ∈ z50.2.1,0 ≤ e.No ∧ e.No < 1000) (m:MI) (hm:m.length ≤ 100000000000) :
  sX a0 a1 a2 a3 p52 p53 p54 r65 x56 z50 0 m [] [] = some (vW (H6 r65.1 z50.2.1) m,(yF r65.1 (K7 x56.No r65.2) z50.2.1).map (tS (K7 x56.No r65.2)),(yF r65.1 (K7 x56.No r65.2) z50.2.1).map (·.No)):=by
 unfold sX
 refine II (step:=fun (w:Int × MI × (List aM) × (List Int))=>jF a0 a1 a2 a3 p52 p53 p54 r65 x56 z50 w.1 w.2.1 w.2.2.1 w.2.2.2) r65.1 (K7 x56.No r65.2) z50.2.1 hl m hm (fun k e m d u hx h1 h2 h3=>?_) (fun a=>?_)
 ·show jF a0 a1 a2 a3 p52 p53 p54 r65 x56 z50 k m d u = _
  have hk:=pO hx
  have w3:IntKind.wrap .i64 ((k:Int) + 1) = ((k + 1:Nat):Int):=eV (by omega)
  have hi:=H3 (hno e (List.mem_of_getElem? hx))
  have hs:fG e x56.No (some r65.2) = some (K7 x56.No r65.2 e):=by
   unfold fG K7
   by_cases c:e.No = x56.No
   ·rw [if_pos (by simpa using c),if_pos c]
   ·rw [if_neg (by simpa using c),if_neg c,if_pos hi]
    rfl
  unfold jF tO
  simp only [fR hx,if_true,lY hx,Option.bind_some,aGw,w3,hs,if_pos hi,if_pos aKS,if_pos h1]
  unfold SU
  by_cases c:YO r65.1 e = true
  ·have c' : ((BI e).currency == r65.1.currency && (BI e).due == r65.1.due) = true:=c
   rw [c',if_neg (by decide),if_pos c]
   by_cases c2:0 < K7 x56.No r65.2 e
   ·rw [if_pos (decide_eq_true (show K7 x56.No r65.2 e > 0 from c2)),if_pos (by omega),if_pos (by omega),if_pos c2,if_pos c2]
    rfl
   ·rw [if_neg (by simpa using c2),if_neg c2,if_neg c2]
  ·have c' : ((BI e).currency == r65.1.currency && (BI e).due == r65.1.due) = false:=by
    rw [Bool.not_eq_true] at c; exact c
   rw [c',if_pos (by decide),if_neg c]
 ·show jF a0 a1 a2 a3 p52 p53 p54 r65 x56 z50 z50.2.1.length a.1 a.2.1 a.2.2 = _
  unfold jF
  rw [if_neg (by simp)]
theorem aF6 (r65:aE × MI) (r80:MI × (List aM) × (List Int)) (r81:(List Int) × (List Int) × Int) (hl:r81.1.length = r80.2.2.length) (hu:r80.2.2.length ≤ 400)
  (hi:∀ i ∈ r80.2.2,dY i) (hv:∀ i ∈ r81.1,dY i) (m:MI) (hm:m.length ≤ 100000000000) :
  rN a0 a1 a2 a3 p52 p53 p54 r65 r80 r81 z50 0 m = some (nZ r80.2.2 r81.1 m):=by
 unfold rN
 refine SZ (step:=fun (w:Int × MI)=>iR a0 a1 a2 a3 p52 p53 p54 r65 r80 r81 z50 w.1 w.2) r80.2.2 r81.1 hl hu m hm (fun k i v m h1 h2 h3=>?_) (fun m=>?_)
 ·show iR a0 a1 a2 a3 p52 p53 p54 r65 r80 r81 z50 k m = _
  have hk:=pO h1
  have w3:IntKind.wrap .i64 ((k:Int) + 1) = ((k + 1:Nat):Int):=eV (by omega)
  unfold iR
  simp only [fR h2,if_true,lY h2,Option.bind_some,w3,Int.toNat_natCast,h1,if_pos (hi i (List.mem_of_getElem? h1)),if_pos (hv v (List.mem_of_getElem? h2)),if_pos h3]
  rw [if_pos ⟨by omega,hk⟩]
 ·show iR a0 a1 a2 a3 p52 p53 p54 r65 r80 r81 z50 r81.1.length m = _
  unfold iR
  rw [if_neg (by simp)]
theorem aHT (r65:aE × MI) (r87:MI) (hl:z50.2.1.length ≤ 400) (hno:∀ e ∈ z50.2.1,0 ≤ e.No ∧ e.No < 1000) (hb:∀ e ∈ z50.2.1,0 ≤ cl r65.2 e ∧ cl r65.2 e ≤ 1099511627776 ∧ 0 ≤ cl r87 e ∧ cl r87 e ≤ 1099511627776) :
  rF a0 a1 a2 a3 p52 p53 p54 r65 r87 z50 0 [] = some (xW z50.2.1 r65.2 r87):=by
 unfold rF
 have h:=pD (step:=fun (w:Int × (List aC))=>iQ a0 a1 a2 a3 p52 p53 p54 r65 r87 z50 w.1 w.2) (fun k a=>((k:Int),a)) z50.2.1 (fun out x=>if decide (0 < cl r65.2 x - cl r87 x) = true then out ++ [⟨5,x.Room,x.No,cl r65.2 x - cl r87 x⟩] else out) (fun k a=>a.length ≤ k) id (fun k a x hx hI=>by
  have hk:=pO hx
  have he:=List.mem_of_getElem? hx
  have w3:IntKind.wrap .i64 ((k:Int) + 1) = ((k + 1:Nat):Int):=eV (by omega)
  obtain ⟨b1,b2,b3,b4⟩:=hb x he
  have w4:IntKind.wrap .i64 (T0 x.No 0 (some r65.2) - fV x.No 0 r87) = cl r65.2 x - cl r87 x:=by
   show IntKind.wrap .i64 (cl r65.2 x - cl r87 x) = _
   exact kY (by omega) (by omega)
  constructor
  ·show iQ a0 a1 a2 a3 p52 p53 p54 r65 r87 z50 k a = _
   unfold iQ
   simp only [fR hx,if_true,lY hx,Option.bind_some,w3,if_pos (H3 (hno x he)),w4]
   by_cases c:0 < cl r65.2 x - cl r87 x
   ·rw [if_pos (decide_eq_true (show cl r65.2 x - cl r87 x > 0 from c)),if_pos (by omega),if_pos (decide_eq_true c)]
   ·rw [if_neg (by simpa using c),if_neg (by simpa using c)]
  ·split
   ·rw [List.length_append,List.length_singleton]; omega
   ·omega) (fun a hI=>by
  show iQ a0 a1 a2 a3 p52 p53 p54 r65 r87 z50 z50.2.1.length a = _
  unfold iQ
  rw [if_neg (by simp)]
  rfl) [] (Nat.le_refl _)
 rw [vG] at h
 exact h.1
end
end Go.Proofs.Ytiimibimkpimbaa
set_option linter.unusedVariables false
set_option linter.unusedSimpArgs false
namespace Go.Proofs.Ytiimibimkpimbaa
open Go.RowKit Vm
theorem BJ {n r c:Int} {l:List aA} (h:rX n r c l = true):QB n r = true ∧ (0 ≤ c ∧ c < 100001) ∧ l.length ≤ 400:=by
 unfold rX at h
 rw [Bool.and_eq_true,Bool.and_eq_true,decide_eq_true_eq] at h
 exact ⟨h.1.1,DZ.1 h.1.2,h.2⟩
theorem DJ {n r c:Int} {l:List aA} (h:rX n r c l = true) {l' : List aA} (hl:l'.length ≤ 400):rX n r c l' = true:=by
 obtain ⟨h1,h2,h3⟩:=BJ h
 unfold rX
 rw [h1,DZ.2 h2,decide_eq_true hl]
 rfl
theorem ME {α:Type} (l:List α) (k:Nat):EN l 0 (k:Int) = l.take k:=rfl
theorem RB {n k:Nat} (h:k ≤ n):v8 n 0 (k:Int):=⟨by omega,by omega,by rw [Int.toNat_natCast]; exact h⟩
theorem yT {α:Type} {l:List α} {k:Nat} {x:α} (h:l[k]? = some x):l.take (k + 1) = l.take k ++ [x]:=by
 rw [List.take_add_one,h]; rfl
section
variable {N:Nat} {n r c:Int} {l:List aA}
theorem KH (hn:n = N) (hN:N ≤ 40) (hw:∀ e ∈ l,dY e.Sum) (k:Nat):S9 N (cQ n r c (l.take k)).2.1 :=
 SG hn hN (l.take k) ([],none,[],[]) (fun e he=>by cases he) (fun e he=>hw e (List.mem_of_mem_take he)) trivial
structure MH (n r c:Int) (l:List aA) (k:Nat) (a:List aC × List Int):Prop where
 eq:cQ n r c (l.take k) = (l.take k,none,a.1,a.2)
 len1:a.1.length ≤ 100 * k
 len2:a.2.length = k
structure IV (n r c:Int) (l:List aA) (o:List aA) (k:Nat) (a:List aC × List Int × MI):Prop where
 eq:cQ n r c (l.take k) = (l.take k,some (o,a.2.2),a.1,a.2.1)
 len1:a.1.length ≤ 100 * k
 len2:a.2.1.length = k
 len3:a.2.2.length ≤ 20000 + 200 * k
theorem MH.next {k:Nat} {a:List aC × List Int} (h:MH n r c l k a) {e:aA} (he:l[k]? = some e) {x:Int} (ht:iJ n r c (l.take k) none e = (none,[],x)):MH n r c l (k + 1) (a.1 ++ [],a.2 ++ [x]):=by
 refine ⟨?_,?_,?_⟩
 ·rw [yT he,lD,h.eq]
  unfold JB
  dsimp only
  rw [ht]
 ·have:=h.len1
  rw [List.append_nil]; show a.1.length ≤ _; omega
 ·show (a.2 ++ [x]).length = _
  rw [List.length_append,h.len2]; rfl
theorem MH.shut {k:Nat} {a:List aC × List Int} (h:MH n r c l k a) {e:aA} (he:l[k]? = some e) {o:List aA} {m:MI} {os:List aC} (ht:iJ n r c (l.take k) none e = (some (o,m),os,0)) (hm:m.length ≤ 20000) (ho:os.length ≤ 100):IV n r c l o (k + 1) (a.1 ++ os,a.2 ++ [0],m):=by
 refine ⟨?_,?_,?_,?_⟩
 ·rw [yT he,lD,h.eq]
  unfold JB
  dsimp only
  rw [ht]
 ·have:=h.len1
  show (a.1 ++ os).length ≤ _
  rw [List.length_append]; omega
 ·show (a.2 ++ [0]).length = _
  rw [List.length_append,h.len2]; rfl
 ·show m.length ≤ _
  omega
theorem IV.next {o:List aA} {k:Nat} {a:List aC × List Int × MI} (h:IV n r c l o k a) {e:aA} (he:l[k]? = some e) {m:MI} {os:List aC} {x:Int} (ht:iJ n r c (l.take k) (some (o,a.2.2)) e = (some (o,m),os,x)) (hm:m.length ≤ a.2.2.length + 200) (ho:os.length ≤ 100):IV n r c l o (k + 1) (a.1 ++ os,a.2.1 ++ [x],m):=by
 refine ⟨?_,?_,?_,?_⟩
 ·rw [yT he,lD,h.eq]
  unfold JB
  dsimp only
  rw [ht]
 ·have:=h.len1
  show (a.1 ++ os).length ≤ _
  rw [List.length_append]; omega
 ·show (a.2.1 ++ [x]).length = _
  rw [List.length_append,h.len2]; rfl
 ·have:=h.len3
  show m.length ≤ _
  omega
theorem TU (o:List aA) (m:MI):(CO o m).length ≤ o.length:=by
 unfold CO
 rw [List.length_map]
 exact List.length_filter_le _ _
theorem W2 (o:List aA) (m m' : MI):(xW o m m').length ≤ o.length:=by
 unfold xW
 rw [List.length_map]
 exact List.length_filter_le _ _
theorem aEb (hn:n = N) (hN:N ≤ 40) (hf:rX n r c l = true) (hw:∀ e ∈ l,dY e.Sum) :
  ∃ x,qL n r c l 0 [] [] = some x ∧ ((∃ (k:Nat) (o:List aA) (a:List aC × List Int × MI),x = .inl ((k:Int),o,a.1,a.2.1,a.2.2) ∧ k ≤ l.length ∧ IV n r c l o k a) ∨ ∃ a,x = .inr a ∧ MH n r c l l.length a):=by
 subst hn
 obtain ⟨hd,hc,hl⟩:=BJ hf
 unfold qL
 refine qI (step:=fun (w:Int × (List aC) × (List Int))=>iL N r c l w.1 w.2.1 w.2.2) (fun k a=>((k:Int),a)) l.length (MH N r c l) _ ?_ ?_ ([],[]) ⟨rfl,Nat.zero_le _,rfl⟩
 ·rintro k ⟨p,q⟩ hk hI
  obtain ⟨e,he⟩ : ∃ e,l[k]? = some e:=⟨l[k],List.getElem?_eq_getElem hk⟩
  have w3:IntKind.wrap .i64 ((k:Int) + 1) = ((k + 1:Nat):Int):=eV (by omega)
  have l1:p.length ≤ 100 * k:=hI.len1
  have l2:q.length = k:=hI.len2
  have c1:(p.length + 0) * 32 ≤ 140737488355328:=by omega
  have c2:(q.length + 1) * 8 ≤ 140737488355328:=by omega
  have hst:iL N r c l k p q = iL N r c l k p q:=rfl
  conv at hst=>rhs; unfold iL
  simp only [fR he,if_true,lY he,Option.bind_some,if_pos (RB (Nat.le_of_lt hk)),CL,Y0,w3,ME,if_pos c1,if_pos c2] at hst
  by_cases ck:KP N r e = false
  ·rw [if_pos ck] at hst
   exact .inl ⟨_,hst,hI.next he (by unfold iJ; rw [if_pos ck])⟩
  ·rw [if_neg ck] at hst
   by_cases k4:e.Kind = 4
   ·rw [if_pos (by simpa using k4)] at hst
    by_cases hday:e.Day < c
    ·rw [if_pos (by simpa using hday)] at hst
     exact .inl ⟨_,hst,hI.next he (by unfold iJ; rw [if_neg ck]; dsimp only; rw [if_pos k4,if_pos hday])⟩
    ·rw [if_neg (by simpa using hday),uB (DJ hf (by rw [List.length_take]; omega)),Option.bind_some] at hst
     by_cases hfull:100 < (cW N r c (l.take k)).length
     ·rw [if_pos (by simp only [decide_eq_true_eq,gt_iff_lt]; omega)] at hst
      exact .inl ⟨_,hst,hI.next he (by unfold iJ; rw [if_neg ck]; dsimp only; rw [if_pos k4,if_neg hday,if_pos hfull])⟩
     ·have ho:=RY (r:=r) (c:=c) (N:=N) rfl (fun e he=>hw e (List.mem_of_mem_take he)) (show (cW N r c (l.take k)).length ≤ 100 by omega)
      rw [if_neg (by simp only [decide_eq_true_eq,gt_iff_lt]; omega),aJi _ _ _ _ _ _ ho hN,Option.bind_some,aCd _ _ _ _ _ _ _ (by omega) (fun e he=>(ho.each e he).2.2.2.2.1),Option.bind_some] at hst
      have ol:=TU (cW N r c (l.take k)) (pE N (cW N r c (l.take k)))
      rw [if_pos (by omega)] at hst
      exact .inr ⟨_,hst,.inl ⟨k + 1,_,(p ++ _,q ++ [0],_),rfl,hk,hI.shut he (by unfold iJ; rw [if_neg ck]; dsimp only; rw [if_pos k4,if_neg hday,if_neg hfull]; rfl) (aAb ho hN) (by omega)⟩⟩
   ·rw [if_neg (by simpa using k4)] at hst
    by_cases k5:e.Kind = 5
    ·rw [if_pos (by simpa using k5)] at hst
     exact .inl ⟨_,hst,hI.next he (by unfold iJ; rw [if_neg ck]; dsimp only; rw [if_neg k4,if_pos k5])⟩
    ·rw [if_neg (by simpa using k5)] at hst
     by_cases hday:c < e.Day
     ·rw [if_pos (by simpa using hday)] at hst
      exact .inl ⟨_,hst,hI.next he (by unfold iJ; rw [if_neg ck]; dsimp only; rw [if_neg k4,if_neg k5,if_pos hday])⟩
     ·rw [if_neg (by simpa using hday)] at hst
      exact .inl ⟨_,hst,hI.next he (by unfold iJ; rw [if_neg ck]; dsimp only; rw [if_neg k4,if_neg k5,if_neg hday])⟩
 ·rintro ⟨p,q⟩ hI
  refine ⟨.inr (p,q),?_,.inr ⟨_,rfl,hI⟩⟩
  show iL N r c l l.length p q = _
  unfold iL
  rw [if_neg (by simp)]
theorem YS (hn:n = N) (hN:N ≤ 40) (hf:rX n r c l = true) (hw:∀ e ∈ l,dY e.Sum) {z50:Int × (List aA) × (List aC) × (List Int) × MI} {k0:Nat} (hk0:k0 ≤ l.length) {a0:List aC × List Int × MI} (h0:IV n r c l z50.2.1 k0 a0) :
  ∃ x,lZ n r c l z50 k0 a0.1 a0.2.1 a0.2.2 = some x ∧ IV n r c l z50.2.1 l.length x:=by
 subst hn
 obtain ⟨hd,hc,hl⟩:=BJ hf
 unfold lZ
 refine aHW (step:=fun (w:Int × (List aC) × (List Int) × MI)=>gZ N r c l z50 w.1 w.2.1 w.2.2.1 w.2.2.2) (fun k a=>((k:Int),a)) l.length (IV N r c l z50.2.1) _ ?_ ?_ k0 hk0 a0 h0
 ·rintro k ⟨p,q,m⟩ hk hI
  obtain ⟨e,he⟩ : ∃ e,l[k]? = some e:=⟨l[k],List.getElem?_eq_getElem hk⟩
  have w3:IntKind.wrap .i64 ((k:Int) + 1) = ((k + 1:Nat):Int):=eV (by omega)
  have l1:p.length ≤ 100 * k:=hI.len1
  have l2:q.length = k:=hI.len2
  have l3:m.length ≤ 20000 + 200 * k:=hI.len3
  have c1:(p.length + 0) * 32 ≤ 140737488355328:=by omega
  have c2:(q.length + 1) * 8 ≤ 140737488355328:=by omega
  have hg:=KH (n:=N) (r:=r) (c:=c) rfl hN hw k
  rw [hI.eq] at hg
  obtain ⟨ho,hm⟩ : u0 N z50.2.1 ∧ TH z50.2.1 m:=hg
  have hno:∀ e ∈ z50.2.1,0 ≤ e.No ∧ e.No < 1000:=fun e he=>(ho.each e he).2.2.2.2.1
  have ol:=ho.len
  have hst:gZ N r c l z50 k p q m = gZ N r c l z50 k p q m:=rfl
  conv at hst=>rhs; unfold gZ
  simp only [fR he,if_true,lY he,Option.bind_some,if_pos (RB (Nat.le_of_lt hk)),CL,Y0,w3,ME,if_pos c1,if_pos c2] at hst
  refine .inl ?_
  by_cases ck:KP N r e = false
  ·rw [if_pos ck] at hst
   exact ⟨_,hst,hI.next he (by unfold iJ; rw [if_pos ck]) (by show m.length ≤ m.length + 200; omega) (by simp)⟩
  ·rw [if_neg ck] at hst
   by_cases k4:e.Kind = 4
   ·rw [if_pos (by simpa using k4)] at hst
    exact ⟨_,hst,hI.next he (by unfold iJ; rw [if_neg ck]; dsimp only; rw [if_pos k4]) (by show m.length ≤ m.length + 200; omega) (by simp)⟩
   ·rw [if_neg (by simpa using k4)] at hst
    by_cases k5:e.Kind = 5
    ·rw [if_pos (by simpa using k5),if_pos (H3 (aCA (by simpa using ck)))] at hst
     by_cases hz:fV e.No 0 m = 0
     ·rw [if_pos (by simpa using hz)] at hst
      exact ⟨_,hst,hI.next he (by unfold iJ; rw [if_neg ck]; dsimp only; rw [if_neg k4,if_pos k5,if_pos hz]) (by show m.length ≤ m.length + 200; omega) (by simp)⟩
     ·rw [if_neg (by simpa using hz)] at hst
      obtain ⟨b1,b2,b3⟩:=SS e.No m z50.2.1 ⟨0,0⟩ []
      have hbe:∀ x ∈ z50.2.1,cl (z50.2.1.foldl (LM e.No m) (⟨0,0⟩,[])).2 x = cl m x:=fun x hx=>(b2 x.No).trans (if_pos ⟨x,hx,rfl⟩)
      have hsm:∀ x ∈ z50.2.1,K7 e.No (z50.2.1.foldl (LM e.No m) (⟨0,0⟩,[])).2 x = K7 e.No m x:=fun x hx=>by
       unfold K7
       rw [hbe x hx]
      have hrange:∀ x ∈ z50.2.1,0 ≤ cl m x ∧ cl m x ≤ 1099511627776:=fun x hx=>by
       have:=hm x hx
       have:=(ho.each x hx).2.2.2.1
       omega
      have hle:=aDM hm ho e.No
      have hd:=K2 ho hN hle (xJ e.No z50.2.1)
      obtain ⟨pot,hc',hb'⟩:=KD hd
      have hm':=aIf ho hN hm e.No
      rw [aI2 _ _ _ _ _ _ _ _ _ (by omega) hno m (fun x hx=>by have:=hrange x hx; exact ⟨by omega,by omega⟩),Option.bind_some,
       aI4 _ _ _ _ _ _ _ _ _ _ (by omega) hno m (by omega),Option.bind_some] at hst
      obtain ⟨a1,a2⟩:=aBH (g:=xJ e.No z50.2.1) hsm
      have b1' : (z50.2.1.foldl (LM e.No m) (⟨0,0⟩,[])).1 = xJ e.No z50.2.1:=b1
      rw [b1',a2,a1] at hst
      dsimp only at hst
      have al:(yF (xJ e.No z50.2.1) (K7 e.No m) z50.2.1).length ≤ z50.2.1.length:=List.length_filter_le _ _
      have gl:(H6 (xJ e.No z50.2.1) z50.2.1).length ≤ z50.2.1.length:=List.length_filter_le _ _
      have zl:=DO (H6 (xJ e.No z50.2.1) z50.2.1) m
      have cln:(sF N ((yF (xJ e.No z50.2.1) (K7 e.No m) z50.2.1).map (tS (K7 e.No m)))).length = (yF (xJ e.No z50.2.1) (K7 e.No m) z50.2.1).length:=by rw [PP hd,List.length_map]
      rw [hc',Option.bind_some,aF6 _ _ _ _ _ _ _ _ _ _ _ (by dsimp only; rw [cln,List.length_map]) (by dsimp only; rw [List.length_map]; omega) (fun i hi=>by
       obtain ⟨x,hx,rfl⟩:=List.mem_map.1 hi
       exact H3 (hno x (GG.1 hx).1)) (fun v hv=>aC1 hd v hv) _ (by omega),Option.bind_some] at hst
      have hre:nZ ((yF (xJ e.No z50.2.1) (K7 e.No m) z50.2.1).map (·.No)) (sF N ((yF (xJ e.No z50.2.1) (K7 e.No m) z50.2.1).map (tS (K7 e.No m)))) (vW (H6 (xJ e.No z50.2.1) z50.2.1) m) = W3 N z50.2.1 m e.No:=rfl
      dsimp only at hst
      rw [hre,aHT _ _ _ _ _ _ _ _ _ _ (by omega) hno (fun x hx=>by
       rw [hbe x hx]
       have h1:=hrange x hx
       have h2:=hm' x hx
       have h3:=(ho.each x hx).2.2.2.1
       exact ⟨h1.1,h1.2,h2.1,by omega⟩),Option.bind_some] at hst
      have hro:xW z50.2.1 (z50.2.1.foldl (LM e.No m) (⟨0,0⟩,[])).2 (W3 N z50.2.1 m e.No) = xW z50.2.1 m (W3 N z50.2.1 m e.No):=by
       unfold xW
       rw [List.filter_congr fun x hx=>by rw [hbe x hx]]
       exact List.map_congr_left fun x hx=>by rw [hbe x (List.mem_filter.1 hx).1]
      rw [hro] at hst
      have rl:=W2 z50.2.1 m (W3 N z50.2.1 m e.No)
      rw [if_pos (by omega)] at hst
      refine ⟨_,hst,hI.next he (by unfold iJ; rw [if_neg ck]; dsimp only; rw [if_neg k4,if_pos k5,if_neg hz]) ?_ (by omega)⟩
      have:=J5 N (xJ e.No z50.2.1) (K7 e.No m) z50.2.1 m cln
      show (mV N (xJ e.No z50.2.1) (K7 e.No m) z50.2.1 m).length ≤ m.length + 200
      omega
    ·rw [if_neg (by simpa using k5)] at hst
     exact ⟨_,hst,hI.next he (by unfold iJ; rw [if_neg ck]; dsimp only; rw [if_neg k4,if_neg k5]) (by show m.length ≤ m.length + 200; omega) (by simp)⟩
 ·rintro ⟨p,q,m⟩ hI
  refine ⟨(p,q,m),?_,hI⟩
  show gZ N r c l z50 l.length p q m = _
  unfold gZ
  rw [if_neg (by simp)]
theorem aKE (hn:n = N) (hN:N ≤ 40) (hf:rX n r c l = true) (hw:∀ e ∈ l,dY e.Sum):oM n r c l = some ((cQ n r c l).2.2.1,(cQ n r c l).2.2.2):=by
 unfold oM
 rw [FW,hf,Option.bind_some,if_neg (by decide)]
 obtain ⟨x,h1,h2⟩:=aEb hn hN hf hw
 rw [h1,Option.bind_some]
 rcases h2 with ⟨k,o,a,rfl,hk,hI⟩ | ⟨a,rfl,hI⟩
 ·obtain ⟨y,h3,h4⟩:=YS hn hN hf hw (z50:=((k:Int),o,a.1,a.2.1,a.2.2)) hk hI
  have e:=h4.eq
  rw [List.take_length] at e
  show (lZ n r c l ((k:Int),o,a.1,a.2.1,a.2.2) (k:Int) a.1 a.2.1 a.2.2).bind _ = _
  rw [h3,Option.bind_some,e]
 ·have e:=hI.eq
  rw [List.take_length] at e
  show some (a.1,a.2) = _
  rw [e]
theorem aJC (r96:(List aC) × (List Int) × MI) (z50:Int × (List aA) × (List aC) × (List Int) × MI):pK n r c r96 z50 0 [] = qN n r c l 0 [] [] r96.2.2 z50.2.1 0 []:=rfl
def L1:StF→List aC
 | none=>[]
 | some (o,m)=>CO o m
theorem ND (hn:n = N) (hN:N ≤ 40) (hf:rX n r c l = true) (hw:∀ e ∈ l,dY e.Sum):gY n r c l = some (L1 (cQ n r c l).2.1):=by
 unfold gY
 rw [FW,hf,Option.bind_some,if_neg (by decide)]
 obtain ⟨x,h1,h2⟩:=aEb hn hN hf hw
 rw [h1,Option.bind_some]
 rcases h2 with ⟨k,o,a,rfl,hk,hI⟩ | ⟨a,rfl,hI⟩
 ·obtain ⟨y,h3,h4⟩:=YS hn hN hf hw (z50:=((k:Int),o,a.1,a.2.1,a.2.2)) hk hI
  have e:=h4.eq
  rw [List.take_length] at e
  have hg:=KH (n:=n) (r:=r) (c:=c) hn hN hw l.length
  rw [h4.eq] at hg
  obtain ⟨ho,hm⟩ : u0 N o ∧ TH o y.2.2:=hg
  show (lZ n r c l ((k:Int),o,a.1,a.2.1,a.2.2) (k:Int) a.1 a.2.1 a.2.2).bind _ = _
  rw [h3,Option.bind_some,e]
  unfold pI
  rw [aJC (l:=l),aCd _ _ _ _ _ _ _ (by have:=ho.len; omega) (fun e he=>(ho.each e he).2.2.2.2.1),Option.bind_some,Option.bind_some]
  rfl
 ·have e:=hI.eq
  rw [List.take_length] at e
  rw [e]
  have h15:nO n r c = some ():=by
   unfold nO
   exact fT rfl
  show (nB n r c).bind _ = _
  unfold nB
  rw [h15]
  rfl
theorem UP (hf:rX n r c l = false):gY n r c l = some []:=by
 unfold gY
 rw [FW,hf]
 rfl
end
end Go.Proofs.Ytiimibimkpimbaa
set_option linter.unusedVariables false
set_option linter.unusedSimpArgs false
namespace Go.Proofs.Ytiimibimkpimbaa
open Go.RowKit Vm
theorem CF {α:Type} {P:List α→Prop} (h0:P []) (hs:∀ l x,P l→P (l ++ [x])) (l:List α):P l:=by
 have key:∀ (r p:List α),P p→P (p ++ r):=by
  intro r
  induction r with
  | nil=>intro p h; rw [List.append_nil]; exact h
  | cons x r ih =>
   intro p h
   have:=ih (p ++ [x]) (hs p x h)
   rw [List.append_assoc] at this
   exact this
 exact key l [] h0
theorem aB5 {α:Type} {key:α→Int}:∀ {a b:List α},(a.Pairwise fun x y=>key x < key y)→(b.Pairwise fun x y=>key x < key y)→(∀ x,x ∈ a ↔ x ∈ b)→a = b
 | [],[],_,_,_=>rfl
 | [],y :: b,_,_,h=>absurd ((h y).2 List.mem_cons_self) (by simp)
 | x :: a,[],_,_,h=>absurd ((h x).1 List.mem_cons_self) (by simp)
 | x :: a,y :: b,ha,hb,h=>by
  obtain ⟨a1,a2⟩:=List.pairwise_cons.1 ha
  obtain ⟨b1,b2⟩:=List.pairwise_cons.1 hb
  have hxy:x = y:=by
   rcases List.mem_cons.1 ((h x).1 List.mem_cons_self) with e | h1
   ·exact e
   ·rcases List.mem_cons.1 ((h y).2 List.mem_cons_self) with e | h2
    ·exact e.symm
    ·have q1:=b1 x h1
     have q2:=a1 y h2
     omega
  subst hxy
  rw [aB5 a2 b2 fun z=>?_]
  constructor
  ·intro hz
   rcases List.mem_cons.1 ((h z).1 (List.mem_cons_of_mem _ hz)) with e | h1
   ·have:=a1 z hz
    rw [e] at this
    omega
   ·exact h1
  ·intro hz
   rcases List.mem_cons.1 ((h z).2 (List.mem_cons_of_mem _ hz)) with e | h1
   ·have:=b1 z hz
    rw [e] at this
    omega
   ·exact h1
theorem aGn {o:List aA} (h:yJ o) {x:aA} (hx:x ∈ o):(o.filter fun y=>decide (y.No ≠ x.No)).length + 1 = o.length:=by
 induction o with
 | nil=>cases hx
 | cons y o ih =>
  obtain ⟨h1,h2⟩:=List.pairwise_cons.1 h
  rw [List.filter_cons]
  rcases List.mem_cons.1 hx with e | hx'
  ·subst e
   rw [if_neg (by simp),List.length_cons]
   have:(o.filter fun y=>decide (y.No ≠ x.No)) = o:=List.filter_eq_self.2 fun z hz=>by
    have:=h1 z hz
    simpa using fun q=>this q.symm
   rw [this]
  ·rw [if_pos (by simpa using h1 x hx'),List.length_cons,List.length_cons,ih h2 hx']
def tM (l:List aA) (errs:List Int) (i:Nat):Prop:=(el l i).Kind = 4 ∧ el errs i = 0
section
variable (n r c:Int)
theorem CJ (l:List aA):(cQ n r c l).2.2.2.length = l.length:=by
 refine CF (P:=fun l=>(cQ n r c l).2.2.2.length = l.length) rfl (fun l x h=>?_) l
 rw [lD]
 show ((cQ n r c l).2.2.2 ++ [_]).length = _
 rw [List.length_append,List.length_append,h]
 rfl
theorem OT (l:List aA) (k:Nat):(cQ n r c (l.take k)).2.2.2 = (cQ n r c l).2.2.2.take k:=by
 have key:∀ (s p:List aA),∃ z,(cQ n r c (p ++ s)).2.2.2 = (cQ n r c p).2.2.2 ++ z:=by
  intro s
  refine CF (P:=fun s=>∀ p,∃ z,(cQ n r c (p ++ s)).2.2.2 = (cQ n r c p).2.2.2 ++ z) (fun p=>⟨[],by simp⟩) (fun s x ih p=>?_) s
  obtain ⟨z,hz⟩:=ih p
  rw [← List.append_assoc,lD]
  refine ⟨z ++ [(iJ n r c (cQ n r c (p ++ s)).1 (cQ n r c (p ++ s)).2.1 x).2.2],?_⟩
  show (cQ n r c (p ++ s)).2.2.2 ++ [(iJ n r c (cQ n r c (p ++ s)).1 (cQ n r c (p ++ s)).2.1 x).2.2] = _
  rw [hz,List.append_assoc]
 obtain ⟨z,hz⟩:=key (l.drop k) (l.take k)
 rw [List.take_append_drop] at hz
 rw [hz]
 have:=CJ n r c (l.take k)
 rw [List.length_take] at this
 have h1:=CJ n r c l
 rw [hz] at h1
 generalize (cQ n r c (l.take k)).2.2.2 = A at h1 this ⊢
 by_cases hk:k ≤ l.length
 ·rw [List.take_append_of_le_length (by omega),List.take_of_length_le (by omega)]
 ·have hz2:z = []:=by
   rw [List.length_append] at h1
   exact List.eq_nil_of_length_eq_zero (by omega)
  rw [hz2,List.append_nil,List.take_of_length_le (by omega)]
theorem N6 (l:List aA) (h:∀ i,i < l.length→¬ tM l (cQ n r c l).2.2.2 i):(cQ n r c l).2.1 = none ∧ (cQ n r c l).2.2.1 = []:=by
 refine CF (P:=fun l=>(∀ i,i < l.length→¬ tM l (cQ n r c l).2.2.2 i)→(cQ n r c l).2.1 = none ∧ (cQ n r c l).2.2.1 = []) (fun _=>⟨rfl,rfl⟩) (fun l x ih h=>?_) l h
 have hl:=CJ n r c l
 rw [lD] at h ⊢
 obtain ⟨h1,h2⟩:=ih fun i hi q=>by
  refine h i (by rw [List.length_append]; omega) ⟨?_,?_⟩
  ·have:=q.1
   rw [BL l i hi] at this
   rw [BL _ i (by rw [List.length_append]; omega),List.getElem_append_left hi]
   exact this
  ·have:=q.2
   rw [BL _ i (by omega)] at this
   show el ((cQ n r c l).2.2.2 ++ [_]) i = 0
   rw [BL _ i (by rw [List.length_append]; omega),List.getElem_append_left (by omega)]
   exact this
 have hx:=h l.length (by simp)
 unfold tM at hx
 have e1:el (l ++ [x]) l.length = x:=by simp [el]
 have e2:el (JB n r c (cQ n r c l) x).2.2.2 l.length = (iJ n r c l none x).2.2:=by
  show el ((cQ n r c l).2.2.2 ++ [(iJ n r c (cQ n r c l).1 (cQ n r c l).2.1 x).2.2]) l.length = _
  rw [DD,h1,← hl]
  simp [el]
 rw [e1,e2] at hx
 show (iJ n r c (cQ n r c l).1 (cQ n r c l).2.1 x).1 = none ∧ (cQ n r c l).2.2.1 ++ (iJ n r c (cQ n r c l).1 (cQ n r c l).2.1 x).2.1 = []
 rw [h1,h2,DD,List.nil_append]
 unfold iJ at hx ⊢
 by_cases ck:KP n r x = false
 ·rw [if_pos ck]; exact ⟨rfl,rfl⟩
 ·rw [if_neg ck] at hx ⊢
  dsimp only at hx ⊢
  by_cases k4:x.Kind = 4
  ·rw [if_pos k4] at hx ⊢
   by_cases hd:x.Day < c
   ·rw [if_pos hd]; exact ⟨rfl,rfl⟩
   ·rw [if_neg hd] at hx ⊢
    by_cases hf:100 < (cW n r c l).length
    ·rw [if_pos hf]; exact ⟨rfl,rfl⟩
    ·rw [if_neg hf] at hx
     exact absurd ⟨k4,rfl⟩ hx
  ·rw [if_neg k4]
   by_cases k5:x.Kind = 5
   ·rw [if_pos k5]; exact ⟨rfl,rfl⟩
   ·rw [if_neg k5]
    by_cases hd:c < x.Day
    ·rw [if_pos hd]; exact ⟨rfl,rfl⟩
    ·rw [if_neg hd]; exact ⟨rfl,rfl⟩
theorem VO (l:List aA) (k:Nat) (hk:k < l.length) (hs:tM l (cQ n r c l).2.2.2 k) (hb:∀ i,i < k→¬ tM l (cQ n r c l).2.2.2 i) :
  cQ n r c (l.take (k + 1)) = (l.take (k + 1),some (cW n r c (l.take k),pE n (cW n r c (l.take k))),CO (cW n r c (l.take k)) (pE n (cW n r c (l.take k))),(cQ n r c (l.take k)).2.2.2 ++ [0]) ∧ (cW n r c (l.take k)).length ≤ 100 ∧ KP n r (el l k) = true ∧ ¬ (el l k).Day < c:=by
 have hel:=CJ n r c l
 have ht:=OT n r c l k
 have ht1:=OT n r c l (k + 1)
 obtain ⟨h1,h2⟩:=N6 n r c (l.take k) fun i hi q=>by
  rw [List.length_take] at hi
  refine hb i (by omega) ⟨?_,?_⟩
  ·have:=q.1
   rw [BL _ i (by rw [List.length_take]; omega),List.getElem_take] at this
   rw [BL l i (by omega)]
   exact this
  ·have:=q.2
   rw [ht,BL _ i (by rw [List.length_take]; omega),List.getElem_take] at this
   rw [BL _ i (by omega)]
   exact this
 have hx:l[k]? = some (el l k):=by rw [BL l k hk]; exact List.getElem?_eq_getElem hk
 have hkk:=hs.1
 have e0:(iJ n r c (l.take k) none (el l k)).2.2 = 0:=by
  have e1:(cQ n r c (l.take (k + 1))).2.2.2 = (cQ n r c (l.take k)).2.2.2 ++ [(iJ n r c (l.take k) none (el l k)).2.2]:=by
   rw [yT hx,lD]
   show (cQ n r c (l.take k)).2.2.2 ++ [(iJ n r c (cQ n r c (l.take k)).1 (cQ n r c (l.take k)).2.1 (el l k)).2.2] = _
   rw [DD,h1]
  have e2:=hs.2
  have hlk:(cQ n r c (l.take k)).2.2.2.length = k:=by rw [CJ,List.length_take]; omega
  have e3:(cQ n r c (l.take (k + 1))).2.2.2[k]? = some 0:=by
   rw [ht1,List.getElem?_take,if_pos (by omega)]
   rw [BL _ k (by omega)] at e2
   rw [List.getElem?_eq_getElem (by omega),e2]
  rw [e1,List.getElem?_append_right (by omega),hlk,Nat.sub_self] at e3
  simpa using e3
 rw [yT hx,lD]
 have e5:JB n r c (cQ n r c (l.take k)) (el l k) = (l.take k ++ [el l k],(iJ n r c (l.take k) none (el l k)).1,(iJ n r c (l.take k) none (el l k)).2.1,(cQ n r c (l.take k)).2.2.2 ++ [(iJ n r c (l.take k) none (el l k)).2.2]):=by
  show ((cQ n r c (l.take k)).1 ++ [el l k],(iJ n r c (cQ n r c (l.take k)).1 (cQ n r c (l.take k)).2.1 (el l k)).1,(cQ n r c (l.take k)).2.2.1 ++ (iJ n r c (cQ n r c (l.take k)).1 (cQ n r c (l.take k)).2.1 (el l k)).2.1,_) = _
  rw [DD,h1,h2,List.nil_append]
 rw [e5,e0]
 unfold iJ at e0 ⊢
 by_cases ck:KP n r (el l k) = false
 ·rw [if_pos ck] at e0
  exact absurd e0 (by decide)
 ·rw [if_neg ck] at e0
  rw [if_neg ck]
  dsimp only at e0 ⊢
  rw [if_pos hkk] at e0
  rw [if_pos hkk]
  by_cases hd:(el l k).Day < c
  ·rw [if_pos hd] at e0
   exact absurd e0 (by decide)
  ·rw [if_neg hd] at e0
   rw [if_neg hd]
   by_cases hf:100 < (cW n r c (l.take k)).length
   ·rw [if_pos hf] at e0
    exact absurd e0 (by decide)
   ·rw [if_neg hf]
    exact ⟨rfl,by omega,by simpa using ck,hd⟩
theorem V5 (p:List aA) {o:List aA} {m:MI} (h:(cQ n r c p).2.1 = some (o,m)) (s:List aA):∃ m',(cQ n r c (p ++ s)).2.1 = some (o,m'):=by
 refine CF (P:=fun s=>∃ m',(cQ n r c (p ++ s)).2.1 = some (o,m')) ⟨m,by rw [List.append_nil]; exact h⟩ (fun s x ih=>?_) s
 obtain ⟨m',h'⟩:=ih
 rw [← List.append_assoc,lD]
 show ∃ m',(iJ n r c (cQ n r c (p ++ s)).1 (cQ n r c (p ++ s)).2.1 x).1 = some (o,m')
 rw [h']
 unfold iJ
 split
 ·exact ⟨_,rfl⟩
 ·dsimp only
  split
  ·exact ⟨_,rfl⟩
  ·split
   ·split
    ·exact ⟨_,rfl⟩
    ·exact ⟨_,rfl⟩
   ·exact ⟨_,rfl⟩
theorem aEq (l:List aA) (errs:List Int):(∀ i,i < l.length→¬ tM l errs i) ∨ ∃ k,k < l.length ∧ tM l errs k ∧ ∀ i,i < k→¬ tM l errs i:=by
 have key:∀ m,(∀ i,i < m→¬ tM l errs i) ∨ ∃ k,k < m ∧ tM l errs k ∧ ∀ i,i < k→¬ tM l errs i:=by
  intro m
  induction m with
  | zero=>exact .inl fun i hi=>absurd hi (Nat.not_lt_zero _)
  | succ m ih =>
   rcases ih with h | ⟨k,h1,h2,h3⟩
   ·by_cases q:tM l errs m
    ·exact .inr ⟨m,Nat.lt_succ_self _,q,h⟩
    ·refine .inl fun i hi=>?_
     by_cases e:i = m
     ·rw [e]; exact q
     ·exact h i (by omega)
   ·exact .inr ⟨k,by omega,h2,h3⟩
 exact key l.length
theorem KT (l:List aA) {o:List aA} {m:MI} (h:(cQ n r c l).2.1 = some (o,m)):∃ k,k < l.length ∧ o = cW n r c (l.take k) ∧ tM l (cQ n r c l).2.2.2 k ∧ ∀ i,i < k→¬ tM l (cQ n r c l).2.2.2 i:=by
 rcases aEq l (cQ n r c l).2.2.2 with q | ⟨k,h1,h2,h3⟩
 ·rw [(N6 n r c l q).1] at h
  cases h
 ·obtain ⟨e,_⟩:=VO n r c l k h1 h2 h3
  obtain ⟨m',e'⟩:=V5 n r c (l.take (k + 1)) (by rw [e]) (l.drop (k + 1))
  rw [List.take_append_drop,h,Option.some.injEq,Prod.mk.injEq] at e'
  exact ⟨k,h1,e'.1,h2,h3⟩
end
end Go.Proofs.Ytiimibimkpimbaa
set_option linter.unusedVariables false
set_option linter.unusedSimpArgs false
namespace Go.Proofs.Ytiimibimkpimbaa
open Go.RowKit Vm
theorem FD {α:Type} {step:Int→Option (Int ⊕ (Unit ⊕ Unit))} (l:List α) (hl:l.length ≤ 100000)
  (h:∀ (k:Nat) x,l[k]? = some x→step k = some (.inl (IntKind.wrap .i64 ((k:Int) + 1)))) (he:step l.length = some (.inr (.inl ()))):fE (fun (w:Int)=>step w) 0 = some (.inl ()):=by
 have:=pD (step:=fun (w:Int)=>step w) (fun k (_:Unit)=>(k:Int)) l (fun _ _=>()) (fun _ _=>True) (fun _=>(.inl ():Unit ⊕ Unit)) (fun k a x hx _=>by
  have hk:=pO hx
  have e:=h k x hx
  rw [eV (by omega)] at e
  exact ⟨e,trivial⟩) (fun _ _=>he) () trivial
 exact this.1
theorem GN (a:List aC) (hl:a.length ≤ 100000):dD a a = some true:=by
 unfold dD j5
 rw [if_neg (by simp),FD (step:=fun w=>cY a a w) a hl (fun k x hx=>by
  show cY a a k = _
  unfold cY
  simp only [fR hx,if_true,lY hx,Option.bind_some,beq_self_eq_true,Bool.and_self,Bool.not_true,Bool.false_eq_true,if_false]) (by
  show cY a a a.length = _
  unfold cY
  rw [if_neg (by simp)])]
 rfl
end Go.Proofs.Ytiimibimkpimbaa
set_option linter.unusedVariables false
set_option linter.unusedSimpArgs false
namespace Go.Proofs.Ytiimibimkpimbaa
open Go.RowKit Vm
end Go.Proofs.Ytiimibimkpimbaa
set_option linter.unusedVariables false
set_option linter.unusedSimpArgs false
namespace Go.Proofs.Ytiimibimkpimbaa
open Go.RowKit Vm
end Go.Proofs.Ytiimibimkpimbaa
