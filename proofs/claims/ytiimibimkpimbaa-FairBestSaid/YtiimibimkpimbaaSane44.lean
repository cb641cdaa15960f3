/- The sanity function of law 44 holds. -/
import Derived.Test.YtiimibimkpimbaaPFb
import Derived.KernelRfl
set_option linter.unusedVariables false
set_option linter.unusedSimpArgs false
namespace Go.Proofs.Ytiimibimkpimbaa
open Go.RowKit Vm
theorem aDO {N:Nat} {d:List aG} (hN:N ≤ 40) (hl:d.length ≤ 100) (h:∀ e ∈ d,(0 ≤ e.From ∧ e.From < N) ∧ (0 ≤ e.To ∧ e.To < N) ∧ e.From ≠ e.To ∧ 1 ≤ e.Sum ∧ e.Sum ≤ 1099511627776):EA N d :=
 ⟨hN,hl,fun i hi=>h _ (FO d i hi)⟩
theorem MF {n r c:Int} (l:List aA) (h:∀ e ∈ l,NO n r e = true ∧ e.Kind ≠ 4 ∧ e.Kind ≠ 5 ∧ ¬ c < e.Day):dN n r c l = (l,none,[],List.replicate l.length 0):=by
 refine GI (P:=fun l=>(∀ e ∈ l,NO n r e = true ∧ e.Kind ≠ 4 ∧ e.Kind ≠ 5 ∧ ¬ c < e.Day)→dN n r c l = (l,none,[],List.replicate l.length 0)) (fun _=>rfl) (fun l x ih h=>?_) l h
 rw [mS,ih fun e he=>h e (List.mem_append_left _ he)]
 obtain ⟨h1,h2,h3,h4⟩:=h x (List.mem_append_right _ (List.mem_singleton.2 rfl))
 have ht:iQ n r c l none x = (none,[],0):=by
  unfold iQ
  rw [h1,if_neg (by decide)]
  dsimp only
  rw [if_neg h2,if_neg h3,if_neg h4]
 unfold J4
 dsimp only
 rw [ht,List.length_append,List.length_singleton,List.replicate_succ']
 rfl
theorem G9 {n r c:Int} {p:List aA} {z:List Int} (h:dN n r c p = (p,none,[],z)) {e:aA} (h1:NO n r e = true) (h2:e.Kind = 4) (h3:¬ e.Day < c) (h4:¬ 100 < (fQ n r c p).length) :
  dN n r c (p ++ [e]) = (p ++ [e],some (fQ n r c p,nI n (fQ n r c p)),sN (fQ n r c p) (nI n (fQ n r c p)),z ++ [0]):=by
 have ht:iQ n r c p none e = (some (fQ n r c p,nI n (fQ n r c p)),sN (fQ n r c p) (nI n (fQ n r c p)),0):=by
  unfold iQ
  rw [h1,if_neg (by decide)]
  dsimp only
  rw [if_pos h2,if_neg h3,if_neg h4]
 rw [mS,h]
 unfold J4
 dsimp only
 rw [ht]
 rfl
theorem WV {n r c:Int} {p:List aA} {z:List Int} {o:List aA} {m:MI} {os:List aC} (h:dN n r c p = (p,some (o,m),os,z)) {e:aA} (h1:NO n r e = true) (h2:e.Kind = 5) (h3:fT e.No 0 m ≠ 0) :
  dN n r c (p ++ [e]) = (p ++ [e],some (o,WM n o m e.No),os ++ zO o m (WM n o m e.No),z ++ [0]):=by
 have ht:iQ n r c p (some (o,m)) e = (some (o,WM n o m e.No),zO o m (WM n o m e.No),0):=by
  unfold iQ
  rw [h1,if_neg (by decide)]
  dsimp only
  rw [if_neg (by omega),if_pos h2,if_neg h3]
 rw [mS,h]
 unfold J4
 dsimp only
 rw [ht]
def JZ (lease:Int) (w2:Bool):List aA:=[⟨3,0,0,0,0,0,0,lease,0⟩,⟨0,0,1,1,0,1,0,30,10⟩,⟨0,0,1,2,1,2,0,30,7⟩,⟨0,0,1,3,2,0,0,30,8⟩,⟨1,0,1,1,1,0,0,0,0⟩] ++ ((if w2 = true then [⟨1,0,1,2,2,0,0,0,0⟩] else []) ++ [⟨1,0,1,3,0,0,0,0,0⟩])
def QH:aA:=⟨4,0,5,0,0,0,0,0,0⟩
def reE:aA:=⟨5,0,6,2,0,0,0,0,0⟩
def JX:aA:=⟨0,0,1,1,0,1,0,30,10⟩
def UY:aA:=⟨0,0,1,2,1,2,0,30,7⟩
def JY:aA:=⟨0,0,1,3,2,0,0,30,8⟩
theorem LD {wo p:Int} {l:List aA} (h1:p ≤ 3) (h2:p ≠ wo) (h3:l.length ≤ 100) {p' : Int} (h4:IntKind.wrap .i64 (p + 1) = p'):bA wo p l = some (.inl (p',l ++ [⟨1,0,1,p,p.tmod 3,0,0,0,0⟩])):=by
 unfold bA
 rw [if_pos (by simpa using h1),if_pos (by simpa using h2),if_pos (by omega),h4]
theorem aLe {wo p:Int} {l:List aA} (h1:p ≤ 3) (h2:p = wo) {p' : Int} (h4:IntKind.wrap .i64 (p + 1) = p'):bA wo p l = some (.inl (p',l)):=by
 unfold bA
 rw [if_pos (by simpa using h1),if_neg (by simpa using h2),h4]
theorem aEJ {wo:Int} {l:List aA}:bA wo 4 l = some (.inr l):=by
 unfold bA
 rw [if_neg (by decide)]
theorem aIX (l:List aA) (h:l.length ≤ 90):eU (fun (w:Int × (List aA))=>bA 0 w.1 w.2) (1,l) = some (l ++ [⟨1,0,1,1,1,0,0,0,0⟩] ++ [⟨1,0,1,2,2,0,0,0,0⟩] ++ [⟨1,0,1,3,0,0,0,0,0⟩]):=by
 have a1:bA 0 1 l = some (.inl (2,l ++ [⟨1,0,1,1,1,0,0,0,0⟩])):=LD (by decide) (by decide) (by omega) (by decide)
 have a2:bA 0 2 (l ++ [⟨1,0,1,1,1,0,0,0,0⟩]) = some (.inl (3,l ++ [⟨1,0,1,1,1,0,0,0,0⟩] ++ [⟨1,0,1,2,2,0,0,0,0⟩])):=LD (by decide) (by decide) (by simp; omega) (by decide)
 have a3:bA 0 3 (l ++ [⟨1,0,1,1,1,0,0,0,0⟩] ++ [⟨1,0,1,2,2,0,0,0,0⟩]) = some (.inl (4,l ++ [⟨1,0,1,1,1,0,0,0,0⟩] ++ [⟨1,0,1,2,2,0,0,0,0⟩] ++ [⟨1,0,1,3,0,0,0,0,0⟩])):=LD (by decide) (by decide) (by simp; omega) (by decide)
 exact (gH (step:=fun (w:Int × (List aA))=>bA 0 w.1 w.2) (s:=(1,_)) a1).trans ((gH (step:=fun (w:Int × (List aA))=>bA 0 w.1 w.2) (s:=(2,_)) a2).trans ((gH (step:=fun (w:Int × (List aA))=>bA 0 w.1 w.2) (s:=(3,_)) a3).trans (gB aEJ)))
theorem aJt (l:List aA) (h:l.length ≤ 90):eU (fun (w:Int × (List aA))=>bA 2 w.1 w.2) (1,l) = some (l ++ [⟨1,0,1,1,1,0,0,0,0⟩] ++ [⟨1,0,1,3,0,0,0,0,0⟩]):=by
 have a1:bA 2 1 l = some (.inl (2,l ++ [⟨1,0,1,1,1,0,0,0,0⟩])):=LD (by decide) (by decide) (by omega) (by decide)
 have a2:bA 2 2 (l ++ [⟨1,0,1,1,1,0,0,0,0⟩]) = some (.inl (3,l ++ [⟨1,0,1,1,1,0,0,0,0⟩])):=aLe (by decide) rfl (by decide)
 have a3:bA 2 3 (l ++ [⟨1,0,1,1,1,0,0,0,0⟩]) = some (.inl (4,l ++ [⟨1,0,1,1,1,0,0,0,0⟩] ++ [⟨1,0,1,3,0,0,0,0,0⟩])):=LD (by decide) (by decide) (by simp; omega) (by decide)
 exact (gH (step:=fun (w:Int × (List aA))=>bA 2 w.1 w.2) (s:=(1,_)) a1).trans ((gH (step:=fun (w:Int × (List aA))=>bA 2 w.1 w.2) (s:=(2,_)) a2).trans ((gH (step:=fun (w:Int × (List aA))=>bA 2 w.1 w.2) (s:=(3,_)) a3).trans (gB aEJ)))
theorem HD (lease wo:Int) (w2:Bool) (hw:(wo = 0 ∧ w2 = true) ∨ (wo = 2 ∧ w2 = false)):b9 lease wo = some (JZ lease w2 ++ [QH]):=by
 unfold b9 kT
 rcases hw with ⟨rfl,rfl⟩ | ⟨rfl,rfl⟩
 ·rw [aIX _ (by simp),Option.bind_some,if_pos (by simp)]
  rfl
 ·rw [aJt _ (by simp),Option.bind_some,if_pos (by simp)]
  rfl
def uO:List aG:=[⟨0,1,10⟩,⟨1,2,7⟩,⟨2,0,8⟩]
theorem okC:EA 3 uO:=aDO (by decide) (by decide) fun e he=>by
 rcases List.mem_cons.1 he with rfl | he
 ·decide
 ·rcases List.mem_cons.1 he with rfl | he
  ·decide
  ·rcases List.mem_cons.1 he with rfl | he
   ·decide
   ·cases he
theorem aLa {x:List Int} (h:x.length = 3):∃ a b c,x = [a,b,c]:=by
 match x,h with
 | [a,b,c],_=>exact ⟨a,b,c,rfl⟩
theorem two {x:List Int} (h:x.length = 2):∃ a b,x = [a,b]:=by
 match x,h with
 | [a,b],_=>exact ⟨a,b,rfl⟩
theorem aL3:sH 3 uO = [7,7,7]:=by
 obtain ⟨q,_,hb⟩:=JH okC
 have hx:(sH ((3:Nat):Int) uO).length = 3:=hb.len
 show sH ((3:Nat):Int) uO = _
 generalize sH ((3:Nat):Int) uO = x at hb hx
 obtain ⟨a,b,c,rfl⟩:=aLa hx
 have n0:=hb.bald.net 0 (by decide)
 have n1:=hb.bald.net 1 (by decide)
 have n2:=hb.bald.net 2 (by decide)
 have u1:b ≤ 7:=hb.bald.hi 1 (by decide)
 have f7:sX (mF uO) (nL uO) (pV uO) 3 uO.length (el [7,7,7]):=⟨fun i hi=>by
  match i,hi with
  | 0,_=>decide
  | 1,_=>decide
  | 2,_=>decide,fun i hi=>by
  match i,hi with
  | 0,_=>decide
  | 1,_=>decide
  | 2,_=>decide,fun v hv=>by
  match v,hv with
  | 0,_=>decide
  | 1,_=>decide
  | 2,_=>decide⟩
 have hs:=ET okC.fr okC.tt hb.bald f7 hb.cert
 have e1:c - a = 0:=by
  have:lN (mF uO) (nL uO) uO.length (el [a,b,c]) 0 = (0 + (0 - a) + (0 - 0)) + (c - 0):=rfl
  rw [this] at n0
  omega
 have e2:a - b = 0:=by
  have:lN (mF uO) (nL uO) uO.length (el [a,b,c]) 1 = (0 + (a - 0) + (0 - b)) + (0 - 0):=rfl
  rw [this] at n1
  omega
 have e3:(21:Int) ≤ a + b + c:=by
  have h1:gU (el ([7,7,7]:List Int)) uO.length = 21:=rfl
  have h2:gU (el [a,b,c]) uO.length = 0 + a + b + c:=rfl
  rw [h1,h2] at hs
  omega
 have:a = 7 ∧ b = 7 ∧ c = 7:=by omega
 rw [this.1,this.2.1,this.2.2]
theorem aLq {s1 s2:Int} (h1:1 ≤ s1 ∧ s1 ≤ 1099511627776) (h2:1 ≤ s2 ∧ s2 ≤ 1099511627776):sH 3 [⟨0,1,s1⟩,⟨2,0,s2⟩] = [0,0]:=by
 have ok:EA 3 [⟨0,1,s1⟩,⟨2,0,s2⟩]:=aDO (by decide) (by simp) fun e he=>by
  rcases List.mem_cons.1 he with rfl | he
  ·exact ⟨⟨by simp,by simp⟩,⟨by simp,by simp⟩,by simp,h1⟩
  ·rcases List.mem_cons.1 he with rfl | he
   ·exact ⟨⟨by simp,by simp⟩,⟨by simp,by simp⟩,by simp,h2⟩
   ·cases he
 obtain ⟨q,_,hb⟩:=JH ok
 have hx:(sH ((3:Nat):Int) [⟨0,1,s1⟩,⟨2,0,s2⟩]).length = 2:=hb.len
 show sH ((3:Nat):Int) [⟨0,1,s1⟩,⟨2,0,s2⟩] = _
 generalize sH ((3:Nat):Int) [⟨0,1,s1⟩,⟨2,0,s2⟩] = x at hb hx
 obtain ⟨a,b,rfl⟩:=two hx
 have n1:=hb.bald.net 1 (by decide)
 have n2:=hb.bald.net 2 (by decide)
 have e1:lN (mF [⟨0,1,s1⟩,⟨2,0,s2⟩]) (nL [⟨0,1,s1⟩,⟨2,0,s2⟩]) 2 (el [a,b]) 1 = (0 + (a - 0)) + (0 - 0):=rfl
 have e2:lN (mF [⟨0,1,s1⟩,⟨2,0,s2⟩]) (nL [⟨0,1,s1⟩,⟨2,0,s2⟩]) 2 (el [a,b]) 2 = (0 + (0 - 0)) + (0 - b):=rfl
 have n1' : (0 + (a - 0)) + (0 - 0) = 0:=e1.symm.trans n1
 have n2' : (0 + (0 - 0)) + (0 - b) = 0:=e2.symm.trans n2
 have:a = 0 ∧ b = 0:=by omega
 rw [this.1,this.2]
theorem aD4:fQ 3 1 5 (JZ 9 true) = [JX,UY,JY]:=by kernel_rfl
theorem aD9:fQ 3 1 5 (JZ 9 false) = [JX,JY]:=by kernel_rfl
theorem aDm:fQ 3 1 5 (JZ 4 true) = []:=by kernel_rfl
def m7:MI:=[(1,7),(2,7),(3,7)]
def m0:MI:=[(1,0),(2,0),(3,0)]
theorem aJW:nI 3 [JX,UY,JY] = m7:=by
 have h1:vU 3 [JX,UY,JY] ([],[]) JX = (nA 3 ⟨0,30⟩ (fun x=>x.Sum) [JX,UY,JY] [],fI (fD 0 30) true []):=if_neg (by decide)
 have h2:∀ m,vU 3 [JX,UY,JY] (m,fI (fD 0 30) true []) UY = (m,fI (fD 0 30) true []):=fun m=>if_pos (show fT (fD 0 30) false (fI (fD 0 30) true ([]:MB)) = true by decide)
 have h3:∀ m,vU 3 [JX,UY,JY] (m,fI (fD 0 30) true []) JY = (m,fI (fD 0 30) true []):=fun m=>if_pos (show fT (fD 0 30) false (fI (fD 0 30) true ([]:MB)) = true by decide)
 have h4:nA 3 ⟨0,30⟩ (fun x=>x.Sum) [JX,UY,JY] [] = oG [1,2,3] (sH 3 uO) [(1,0),(2,0),(3,0)]:=rfl
 unfold nI
 rw [List.foldl_cons,h1,List.foldl_cons,h2,List.foldl_cons,h3,h4,aL3]
 rfl
theorem aKc:nI 3 [JX,JY] = [(1,0),(3,0)]:=by
 have h1:vU 3 [JX,JY] ([],[]) JX = (nA 3 ⟨0,30⟩ (fun x=>x.Sum) [JX,JY] [],fI (fD 0 30) true []):=if_neg (by decide)
 have h3:∀ m,vU 3 [JX,JY] (m,fI (fD 0 30) true []) JY = (m,fI (fD 0 30) true []):=fun m=>if_pos (show fT (fD 0 30) false (fI (fD 0 30) true ([]:MB)) = true by decide)
 have h4:nA 3 ⟨0,30⟩ (fun x=>x.Sum) [JX,JY] [] = oG [1,3] (sH 3 [⟨0,1,10⟩,⟨2,0,8⟩]) [(1,0),(3,0)]:=rfl
 unfold nI
 rw [List.foldl_cons,h1,List.foldl_cons,h3,h4,aLq (by decide) (by decide)]
 rfl
theorem reA:WM 3 [JX,UY,JY] m7 2 = m0:=by
 have h4:WM 3 [JX,UY,JY] m7 2 = oG [1,3] (sH 3 [⟨0,1,7⟩,⟨2,0,7⟩]) m0:=rfl
 rw [h4,aLq (by decide) (by decide)]
 rfl
def P3:List aC:=[⟨4,0,1,7⟩,⟨4,0,2,7⟩,⟨4,0,3,7⟩]
def aH9:List aC:=[⟨5,0,1,7⟩,⟨5,0,2,7⟩,⟨5,0,3,7⟩]
theorem aC6:dN 3 1 5 (JZ 9 true ++ [QH]) = (JZ 9 true ++ [QH],some ([JX,UY,JY],m7),P3,List.replicate 8 0):=by
 rw [G9 (MF (JZ 9 true) (by decide)) (by decide) rfl (by decide) (by rw [aD4]; decide),aD4,aJW]
 rfl
theorem aIL:dN 3 1 5 (JZ 9 true ++ [QH] ++ [reE]) = (JZ 9 true ++ [QH] ++ [reE],some ([JX,UY,JY],m0),P3 ++ aH9,List.replicate 9 0):=by
 rw [WV aC6 (by decide) rfl (by decide)]
 show (_,some (_,WM 3 [JX,UY,JY] m7 2),P3 ++ zO [JX,UY,JY] m7 (WM 3 [JX,UY,JY] m7 2),_) = _
 rw [reA]
 rfl
theorem aKp:dN 3 1 5 (JZ 9 false ++ [QH]) = (JZ 9 false ++ [QH],some ([JX,JY],[(1,0),(3,0)]),[],List.replicate 7 0):=by
 rw [G9 (MF (JZ 9 false) (by decide)) (by decide) rfl (by decide) (by rw [aD9]; decide),aD9,aKc]
 rfl
theorem aLC:dN 3 1 5 (JZ 4 true ++ [QH]) = (JZ 4 true ++ [QH],some ([],[]),[],List.replicate 8 0):=by
 rw [G9 (MF (JZ 4 true) (by decide)) (by decide) rfl (by decide) (by rw [aDm]; decide),aDm]
 rfl
theorem aJb:iR = some true:=by
 have hrun:∀ l:List aA,l.length ≤ 20→(∀ e ∈ l,dW e.Sum)→k7 3 1 5 l = some ((dN 3 1 5 l).2.2.1,(dN 3 1 5 l).2.2.2) ∧ gI 3 1 5 l = some (aDD (dN 3 1 5 l).2.1):=fun l hl hw=>by
  have hf:tV 3 1 5 l = true:=by
   have:ST 3 1 = true:=by decide
   unfold tV
   rw [this,decide_eq_true (show l.length ≤ 400 by omega)]
   rfl
  exact ⟨aIv (N:=3) rfl (by decide) hf hw,HJ (N:=3) rfl (by decide) hf hw⟩
 unfold iR
 rw [HD 9 0 true (.inl ⟨rfl,rfl⟩),Option.bind_some,(hrun (JZ 9 true ++ [QH]) (by decide) (by decide)).1,Option.bind_some,Option.bind_some,if_pos (by decide)]
 have hR:k7 3 1 5 (JZ 9 true ++ [QH] ++ [⟨5,0,6,2,0,0,0,0,0⟩]) = some (P3 ++ aH9,List.replicate 9 0):=by
  have:=(hrun (JZ 9 true ++ [QH] ++ [reE]) (by decide) (by decide)).1
  rw [aIL] at this
  exact this
 have hCR:gI 3 1 5 (JZ 9 true ++ [QH] ++ [⟨5,0,6,2,0,0,0,0,0⟩]) = some []:=by
  have:=(hrun (JZ 9 true ++ [QH] ++ [reE]) (by decide) (by decide)).2
  rw [aIL] at this
  exact this
 rw [hR,Option.bind_some,HD 9 2 false (.inr ⟨rfl,rfl⟩),Option.bind_some,(hrun (JZ 9 false ++ [QH]) (by decide) (by decide)).1,Option.bind_some,HD 4 0 true (.inl ⟨rfl,rfl⟩),Option.bind_some,(hrun (JZ 4 true ++ [QH]) (by decide) (by decide)).1,Option.bind_some,aC6,aKp,aLC]
 have c1:(((List.replicate 8 (0:Int)).length:Int) != 8) = false:=by decide
 dsimp only
 rw [c1,if_neg (by decide)]
 have s1:dF P3 [⟨4,0,1,7⟩,⟨4,0,2,7⟩,⟨4,0,3,7⟩] = some true:=HT P3 (by decide)
 have s2:dF (P3 ++ aH9) ((([]:List aC) ++ [⟨4,0,1,7⟩,⟨4,0,2,7⟩,⟨4,0,3,7⟩]) ++ [⟨5,0,1,7⟩,⟨5,0,2,7⟩,⟨5,0,3,7⟩]) = some true:=HT (P3 ++ aH9) (by decide)
 rw [s1,Option.bind_some,if_neg (by decide),if_pos (by decide),if_pos (by decide),s2,Option.bind_some,if_neg (by decide),if_neg (by decide),if_neg (by decide),Option.bind_some,(hrun (JZ 9 true ++ [QH]) (by decide) (by decide)).2,aC6,Option.bind_some]
 have s3:dF (aDD (some ([JX,UY,JY],m7))) [⟨4,0,1,7⟩,⟨4,0,2,7⟩,⟨4,0,3,7⟩] = some true:=HT P3 (by decide)
 dsimp only
 rw [s3,Option.bind_some,if_pos rfl,hCR,Option.bind_some,if_pos (by decide),Option.bind_some]
 have hf:tV 3 1 5 (JZ 9 false ++ [QH]) = true:=by decide
 have hc:fQ 3 1 5 (JZ 9 false ++ [QH]) = [JX,JY]:=by kernel_rfl
 rw [FW hf,hc,Option.bind_some,if_pos (by decide),DB,Option.bind_some]
 have:NO 3 1 ⟨0,0,0,0,0,0,0,0,0⟩ = false:=by decide
 rw [this]
 rfl
end Go.Proofs.Ytiimibimkpimbaa
