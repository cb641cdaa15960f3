/- The sanity function of law 44 holds. -/
import Derived.Test.YtiimibimkpimbaaPFb
import Derived.KernelRfl
set_option linter.unusedVariables false
set_option linter.unusedSimpArgs false
namespace Go.Proofs.Ytiimibimkpimbaa
open Go.RowKit Vm
theorem aEd {N:Nat} {d:List aS} (hN:N ≤ 40) (hl:d.length ≤ 100) (h:∀ e ∈ d,(0 ≤ e.From ∧ e.From < N) ∧ (0 ≤ e.To ∧ e.To < N) ∧ e.From ≠ e.To ∧ 1 ≤ e.Sum ∧ e.Sum ≤ 1099511627776):FR N d :=
 ⟨hN,hl,fun i hi=>h _ (H4 d i hi)⟩
theorem M9 {n r c:Int} (l:List aA) (h:∀ e ∈ l,NV n r e = true ∧ e.Kind ≠ 4 ∧ e.Kind ≠ 5 ∧ ¬ c < e.Day):cQ n r c l = (l,none,[],List.replicate l.length 0):=by
 refine xC (P:=fun l=>(∀ e ∈ l,NV n r e = true ∧ e.Kind ≠ 4 ∧ e.Kind ≠ 5 ∧ ¬ c < e.Day)→cQ n r c l = (l,none,[],List.replicate l.length 0)) (fun _=>rfl) (fun l x ih h=>?_) l h
 rw [kO,ih fun e he=>h e (List.mem_append_left _ he)]
 obtain ⟨h1,h2,h3,h4⟩:=h x (List.mem_append_right _ (List.mem_singleton.2 rfl))
 have ht:gS n r c l none x = (none,[],0):=by
  unfold gS
  rw [h1,if_neg (by decide)]
  dsimp only
  rw [if_neg h2,if_neg h3,if_neg h4]
 unfold JX
 dsimp only
 rw [ht,List.length_append,List.length_singleton,List.replicate_succ']
 rfl
theorem G9 {n r c:Int} {p:List aA} {z:List Int} (h:cQ n r c p = (p,none,[],z)) {e:aA} (h1:NV n r e = true) (h2:e.Kind = 4) (h3:¬ e.Day < c) (h4:¬ 100 < (eA n r c p).length) :
  cQ n r c (p ++ [e]) = (p ++ [e],some (eA n r c p,pO n (eA n r c p)),wK (eA n r c p) (pO n (eA n r c p)),z ++ [0]):=by
 have ht:gS n r c p none e = (some (eA n r c p,pO n (eA n r c p)),wK (eA n r c p) (pO n (eA n r c p)),0):=by
  unfold gS
  rw [h1,if_neg (by decide)]
  dsimp only
  rw [if_pos h2,if_neg h3,if_neg h4]
 rw [kO,h]
 unfold JX
 dsimp only
 rw [ht]
 rfl
theorem XZ {n r c:Int} {p:List aA} {z:List Int} {o:List aA} {m:MI} {os:List aC} (h:cQ n r c p = (p,some (o,m),os,z)) {e:aA} (h1:NV n r e = true) (h2:e.Kind = 5) (h3:gC e.No 0 m ≠ 0) :
  cQ n r c (p ++ [e]) = (p ++ [e],some (o,X6 n o m e.No),os ++ yU o m (X6 n o m e.No),z ++ [0]):=by
 have ht:gS n r c p (some (o,m)) e = (some (o,X6 n o m e.No),yU o m (X6 n o m e.No),0):=by
  unfold gS
  rw [h1,if_neg (by decide)]
  dsimp only
  rw [if_neg (by omega),if_pos h2,if_neg h3]
 rw [kO,h]
 unfold JX
 dsimp only
 rw [ht]
def J5 (lease:Int) (w2:Bool):List aA:=[⟨3,0,0,0,0,0,0,lease,0⟩,⟨0,0,1,1,0,1,0,30,10⟩,⟨0,0,1,2,1,2,0,30,7⟩,⟨0,0,1,3,2,0,0,30,8⟩,⟨1,0,1,1,1,0,0,0,0⟩] ++ ((if w2 = true then [⟨1,0,1,2,2,0,0,0,0⟩] else []) ++ [⟨1,0,1,3,0,0,0,0,0⟩])
def QZ:aA:=⟨4,0,5,0,0,0,0,0,0⟩
def reE:aA:=⟨5,0,6,2,0,0,0,0,0⟩
def J6:aA:=⟨0,0,1,1,0,1,0,30,10⟩
def U7:aA:=⟨0,0,1,2,1,2,0,30,7⟩
def J4:aA:=⟨0,0,1,3,2,0,0,30,8⟩
theorem MN {wo p:Int} {l:List aA} (h1:p ≤ 3) (h2:p ≠ wo) (h3:l.length ≤ 100) {p' : Int} (h4:IntKind.wrap .i64 (p + 1) = p'):bA wo p l = some (.inl (p',l ++ [⟨1,0,1,p,p.tmod 3,0,0,0,0⟩])):=by
 unfold bA
 rw [if_pos (by simpa using h1),if_pos (by simpa using h2),if_pos (by omega),h4]
theorem aLy {wo p:Int} {l:List aA} (h1:p ≤ 3) (h2:p = wo) {p' : Int} (h4:IntKind.wrap .i64 (p + 1) = p'):bA wo p l = some (.inl (p',l)):=by
 unfold bA
 rw [if_pos (by simpa using h1),if_neg (by simpa using h2),h4]
theorem aDZ {wo:Int} {l:List aA}:bA wo 4 l = some (.inr l):=by
 unfold bA
 rw [if_neg (by decide)]
theorem aJ2 (l:List aA) (h:l.length ≤ 90):eZ (fun (w:Int × (List aA))=>bA 0 w.1 w.2) (1,l) = some (l ++ [⟨1,0,1,1,1,0,0,0,0⟩] ++ [⟨1,0,1,2,2,0,0,0,0⟩] ++ [⟨1,0,1,3,0,0,0,0,0⟩]):=by
 have a1:bA 0 1 l = some (.inl (2,l ++ [⟨1,0,1,1,1,0,0,0,0⟩])):=MN (by decide) (by decide) (by omega) (by decide)
 have a2:bA 0 2 (l ++ [⟨1,0,1,1,1,0,0,0,0⟩]) = some (.inl (3,l ++ [⟨1,0,1,1,1,0,0,0,0⟩] ++ [⟨1,0,1,2,2,0,0,0,0⟩])):=MN (by decide) (by decide) (by simp; omega) (by decide)
 have a3:bA 0 3 (l ++ [⟨1,0,1,1,1,0,0,0,0⟩] ++ [⟨1,0,1,2,2,0,0,0,0⟩]) = some (.inl (4,l ++ [⟨1,0,1,1,1,0,0,0,0⟩] ++ [⟨1,0,1,2,2,0,0,0,0⟩] ++ [⟨1,0,1,3,0,0,0,0,0⟩])):=MN (by decide) (by decide) (by simp; omega) (by decide)
 exact (gJ (step:=fun (w:Int × (List aA))=>bA 0 w.1 w.2) (s:=(1,_)) a1).trans ((gJ (step:=fun (w:Int × (List aA))=>bA 0 w.1 w.2) (s:=(2,_)) a2).trans ((gJ (step:=fun (w:Int × (List aA))=>bA 0 w.1 w.2) (s:=(3,_)) a3).trans (fN aDZ)))
theorem aKi (l:List aA) (h:l.length ≤ 90):eZ (fun (w:Int × (List aA))=>bA 2 w.1 w.2) (1,l) = some (l ++ [⟨1,0,1,1,1,0,0,0,0⟩] ++ [⟨1,0,1,3,0,0,0,0,0⟩]):=by
 have a1:bA 2 1 l = some (.inl (2,l ++ [⟨1,0,1,1,1,0,0,0,0⟩])):=MN (by decide) (by decide) (by omega) (by decide)
 have a2:bA 2 2 (l ++ [⟨1,0,1,1,1,0,0,0,0⟩]) = some (.inl (3,l ++ [⟨1,0,1,1,1,0,0,0,0⟩])):=aLy (by decide) rfl (by decide)
 have a3:bA 2 3 (l ++ [⟨1,0,1,1,1,0,0,0,0⟩]) = some (.inl (4,l ++ [⟨1,0,1,1,1,0,0,0,0⟩] ++ [⟨1,0,1,3,0,0,0,0,0⟩])):=MN (by decide) (by decide) (by simp; omega) (by decide)
 exact (gJ (step:=fun (w:Int × (List aA))=>bA 2 w.1 w.2) (s:=(1,_)) a1).trans ((gJ (step:=fun (w:Int × (List aA))=>bA 2 w.1 w.2) (s:=(2,_)) a2).trans ((gJ (step:=fun (w:Int × (List aA))=>bA 2 w.1 w.2) (s:=(3,_)) a3).trans (fN aDZ)))
theorem G8 (lease wo:Int) (w2:Bool) (hw:(wo = 0 ∧ w2 = true) ∨ (wo = 2 ∧ w2 = false)):b8 lease wo = some (J5 lease w2 ++ [QZ]):=by
 unfold b8 lE
 rcases hw with ⟨rfl,rfl⟩ | ⟨rfl,rfl⟩
 ·rw [aJ2 _ (by simp),Option.bind_some,if_pos (by simp)]
  rfl
 ·rw [aKi _ (by simp),Option.bind_some,if_pos (by simp)]
  rfl
def uN:List aS:=[⟨0,1,10⟩,⟨1,2,7⟩,⟨2,0,8⟩]
theorem okC:FR 3 uN:=aEd (by decide) (by decide) fun e he=>by
 rcases List.mem_cons.1 he with rfl | he
 ·decide
 ·rcases List.mem_cons.1 he with rfl | he
  ·decide
  ·rcases List.mem_cons.1 he with rfl | he
   ·decide
   ·cases he
theorem aLC {x:List Int} (h:x.length = 3):∃ a b c,x = [a,b,c]:=by
 match x,h with
 | [a,b,c],_=>exact ⟨a,b,c,rfl⟩
theorem two {x:List Int} (h:x.length = 2):∃ a b,x = [a,b]:=by
 match x,h with
 | [a,b],_=>exact ⟨a,b,rfl⟩
theorem aMq:sM 3 uN = [7,7,7]:=by
 obtain ⟨q,_,hb⟩:=JJ okC
 have hx:(sM ((3:Nat):Int) uN).length = 3:=hb.len
 show sM ((3:Nat):Int) uN = _
 generalize sM ((3:Nat):Int) uN = x at hb hx
 obtain ⟨a,b,c,rfl⟩:=aLC hx
 have n0:=hb.bald.net 0 (by decide)
 have n1:=hb.bald.net 1 (by decide)
 have n2:=hb.bald.net 2 (by decide)
 have u1:b ≤ 7:=hb.bald.hi 1 (by decide)
 have f7:sY (oP uN) (pQ uN) (rQ uN) 3 uN.length (el [7,7,7]):=⟨fun i hi=>by
  match i,hi with
  | 0,_=>decide
  | 1,_=>decide
  | 2,_=>decide,fun i hi=>by
  match i,hi with
  | 0,_=>decide
  | 1,_=>decide
  | 2,_=>decide,fun v hv=>by
  match v,hv with
  | 0,_=>decide
  | 1,_=>decide
  | 2,_=>decide⟩
 have hs:=EH okC.fr okC.tt hb.bald f7 hb.cert
 have e1:c - a = 0:=by
  have:pB (oP uN) (pQ uN) uN.length (el [a,b,c]) 0 = (0 + (0 - a) + (0 - 0)) + (c - 0):=rfl
  rw [this] at n0
  omega
 have e2:a - b = 0:=by
  have:pB (oP uN) (pQ uN) uN.length (el [a,b,c]) 1 = (0 + (a - 0) + (0 - b)) + (0 - 0):=rfl
  rw [this] at n1
  omega
 have e3:(21:Int) ≤ a + b + c:=by
  have h1:gQ (el ([7,7,7]:List Int)) uN.length = 21:=rfl
  have h2:gQ (el [a,b,c]) uN.length = 0 + a + b + c:=rfl
  rw [h1,h2] at hs
  omega
 have:a = 7 ∧ b = 7 ∧ c = 7:=by omega
 rw [this.1,this.2.1,this.2.2]
theorem aK4 {s1 s2:Int} (h1:1 ≤ s1 ∧ s1 ≤ 1099511627776) (h2:1 ≤ s2 ∧ s2 ≤ 1099511627776):sM 3 [⟨0,1,s1⟩,⟨2,0,s2⟩] = [0,0]:=by
 have ok:FR 3 [⟨0,1,s1⟩,⟨2,0,s2⟩]:=aEd (by decide) (by simp) fun e he=>by
  rcases List.mem_cons.1 he with rfl | he
  ·exact ⟨⟨by simp,by simp⟩,⟨by simp,by simp⟩,by simp,h1⟩
  ·rcases List.mem_cons.1 he with rfl | he
   ·exact ⟨⟨by simp,by simp⟩,⟨by simp,by simp⟩,by simp,h2⟩
   ·cases he
 obtain ⟨q,_,hb⟩:=JJ ok
 have hx:(sM ((3:Nat):Int) [⟨0,1,s1⟩,⟨2,0,s2⟩]).length = 2:=hb.len
 show sM ((3:Nat):Int) [⟨0,1,s1⟩,⟨2,0,s2⟩] = _
 generalize sM ((3:Nat):Int) [⟨0,1,s1⟩,⟨2,0,s2⟩] = x at hb hx
 obtain ⟨a,b,rfl⟩:=two hx
 have n1:=hb.bald.net 1 (by decide)
 have n2:=hb.bald.net 2 (by decide)
 have e1:pB (oP [⟨0,1,s1⟩,⟨2,0,s2⟩]) (pQ [⟨0,1,s1⟩,⟨2,0,s2⟩]) 2 (el [a,b]) 1 = (0 + (a - 0)) + (0 - 0):=rfl
 have e2:pB (oP [⟨0,1,s1⟩,⟨2,0,s2⟩]) (pQ [⟨0,1,s1⟩,⟨2,0,s2⟩]) 2 (el [a,b]) 2 = (0 + (0 - 0)) + (0 - b):=rfl
 have n1' : (0 + (a - 0)) + (0 - 0) = 0:=e1.symm.trans n1
 have n2' : (0 + (0 - 0)) + (0 - b) = 0:=e2.symm.trans n2
 have:a = 0 ∧ b = 0:=by omega
 rw [this.1,this.2]
theorem aCq:eA 3 1 5 (J5 9 true) = [J6,U7,J4]:=by kernel_rfl
theorem aCw:eA 3 1 5 (J5 9 false) = [J6,J4]:=by kernel_rfl
theorem aEy:eA 3 1 5 (J5 4 true) = []:=by kernel_rfl
def m7:MI:=[(1,7),(2,7),(3,7)]
def m0:MI:=[(1,0),(2,0),(3,0)]
theorem aKu:pO 3 [J6,U7,J4] = m7:=by
 have h1:vX 3 [J6,U7,J4] ([],[]) J6 = (mA 3 ⟨0,30⟩ (fun x=>x.Sum) [J6,U7,J4] [],fQ (fG 0 30) true []):=if_neg (by decide)
 have h2:∀ m,vX 3 [J6,U7,J4] (m,fQ (fG 0 30) true []) U7 = (m,fQ (fG 0 30) true []):=fun m=>if_pos (show gC (fG 0 30) false (fQ (fG 0 30) true ([]:MB)) = true by decide)
 have h3:∀ m,vX 3 [J6,U7,J4] (m,fQ (fG 0 30) true []) J4 = (m,fQ (fG 0 30) true []):=fun m=>if_pos (show gC (fG 0 30) false (fQ (fG 0 30) true ([]:MB)) = true by decide)
 have h4:mA 3 ⟨0,30⟩ (fun x=>x.Sum) [J6,U7,J4] [] = oG [1,2,3] (sM 3 uN) [(1,0),(2,0),(3,0)]:=rfl
 unfold pO
 rw [List.foldl_cons,h1,List.foldl_cons,h2,List.foldl_cons,h3,h4,aMq]
 rfl
theorem aKp:pO 3 [J6,J4] = [(1,0),(3,0)]:=by
 have h1:vX 3 [J6,J4] ([],[]) J6 = (mA 3 ⟨0,30⟩ (fun x=>x.Sum) [J6,J4] [],fQ (fG 0 30) true []):=if_neg (by decide)
 have h3:∀ m,vX 3 [J6,J4] (m,fQ (fG 0 30) true []) J4 = (m,fQ (fG 0 30) true []):=fun m=>if_pos (show gC (fG 0 30) false (fQ (fG 0 30) true ([]:MB)) = true by decide)
 have h4:mA 3 ⟨0,30⟩ (fun x=>x.Sum) [J6,J4] [] = oG [1,3] (sM 3 [⟨0,1,10⟩,⟨2,0,8⟩]) [(1,0),(3,0)]:=rfl
 unfold pO
 rw [List.foldl_cons,h1,List.foldl_cons,h3,h4,aK4 (by decide) (by decide)]
 rfl
theorem reA:X6 3 [J6,U7,J4] m7 2 = m0:=by
 have h4:X6 3 [J6,U7,J4] m7 2 = oG [1,3] (sM 3 [⟨0,1,7⟩,⟨2,0,7⟩]) m0:=rfl
 rw [h4,aK4 (by decide) (by decide)]
 rfl
def QW:List aC:=[⟨4,0,1,7⟩,⟨4,0,2,7⟩,⟨4,0,3,7⟩]
def aHb:List aC:=[⟨5,0,1,7⟩,⟨5,0,2,7⟩,⟨5,0,3,7⟩]
theorem aFq:cQ 3 1 5 (J5 9 true ++ [QZ]) = (J5 9 true ++ [QZ],some ([J6,U7,J4],m7),QW,List.replicate 8 0):=by
 rw [G9 (M9 (J5 9 true) (by decide)) (by decide) rfl (by decide) (by rw [aCq]; decide),aCq,aKu]
 rfl
theorem aI9:cQ 3 1 5 (J5 9 true ++ [QZ] ++ [reE]) = (J5 9 true ++ [QZ] ++ [reE],some ([J6,U7,J4],m0),QW ++ aHb,List.replicate 9 0):=by
 rw [XZ aFq (by decide) rfl (by decide)]
 show (_,some (_,X6 3 [J6,U7,J4] m7 2),QW ++ yU [J6,U7,J4] m7 (X6 3 [J6,U7,J4] m7 2),_) = _
 rw [reA]
 rfl
theorem aKV:cQ 3 1 5 (J5 9 false ++ [QZ]) = (J5 9 false ++ [QZ],some ([J6,J4],[(1,0),(3,0)]),[],List.replicate 7 0):=by
 rw [G9 (M9 (J5 9 false) (by decide)) (by decide) rfl (by decide) (by rw [aCw]; decide),aCw,aKp]
 rfl
theorem aLp:cQ 3 1 5 (J5 4 true ++ [QZ]) = (J5 4 true ++ [QZ],some ([],[]),[],List.replicate 8 0):=by
 rw [G9 (M9 (J5 4 true) (by decide)) (by decide) rfl (by decide) (by rw [aEy]; decide),aEy]
 rfl
theorem aJi:i9 = some true:=by
 have hrun:∀ l:List aA,l.length ≤ 20→(∀ e ∈ l,dW e.Sum)→k8 3 1 5 l = some ((cQ 3 1 5 l).2.2.1,(cQ 3 1 5 l).2.2.2) ∧ g9 3 1 5 l = some (SK (cQ 3 1 5 l).2.1):=fun l hl hw=>by
  have hf:sS 3 1 5 l = true:=by
   have:aCh 3 1 = true:=by decide
   unfold sS
   rw [this,decide_eq_true (show l.length ≤ 400 by omega)]
   rfl
  exact ⟨aIR (N:=3) rfl (by decide) hf hw,N8 (N:=3) rfl (by decide) hf hw⟩
 unfold i9
 rw [G8 9 0 true (.inl ⟨rfl,rfl⟩),Option.bind_some,(hrun (J5 9 true ++ [QZ]) (by decide) (by decide)).1,Option.bind_some,Option.bind_some,if_pos (by decide)]
 have hR:k8 3 1 5 (J5 9 true ++ [QZ] ++ [⟨5,0,6,2,0,0,0,0,0⟩]) = some (QW ++ aHb,List.replicate 9 0):=by
  have:=(hrun (J5 9 true ++ [QZ] ++ [reE]) (by decide) (by decide)).1
  rw [aI9] at this
  exact this
 have hCR:g9 3 1 5 (J5 9 true ++ [QZ] ++ [⟨5,0,6,2,0,0,0,0,0⟩]) = some []:=by
  have:=(hrun (J5 9 true ++ [QZ] ++ [reE]) (by decide) (by decide)).2
  rw [aI9] at this
  exact this
 rw [hR,Option.bind_some,G8 9 2 false (.inr ⟨rfl,rfl⟩),Option.bind_some,(hrun (J5 9 false ++ [QZ]) (by decide) (by decide)).1,Option.bind_some,G8 4 0 true (.inl ⟨rfl,rfl⟩),Option.bind_some,(hrun (J5 4 true ++ [QZ]) (by decide) (by decide)).1,Option.bind_some,aFq,aKV,aLp]
 have c1:(((List.replicate 8 (0:Int)).length:Int) != 8) = false:=by decide
 dsimp only
 rw [c1,if_neg (by decide)]
 have s1:dI QW [⟨4,0,1,7⟩,⟨4,0,2,7⟩,⟨4,0,3,7⟩] = some true:=HX QW (by decide)
 have s2:dI (QW ++ aHb) ((([]:List aC) ++ [⟨4,0,1,7⟩,⟨4,0,2,7⟩,⟨4,0,3,7⟩]) ++ [⟨5,0,1,7⟩,⟨5,0,2,7⟩,⟨5,0,3,7⟩]) = some true:=HX (QW ++ aHb) (by decide)
 rw [s1,Option.bind_some,if_neg (by decide),if_pos (by decide),if_pos (by decide),s2,Option.bind_some,if_neg (by decide),if_neg (by decide),if_neg (by decide),Option.bind_some,(hrun (J5 9 true ++ [QZ]) (by decide) (by decide)).2,aFq,Option.bind_some]
 have s3:dI (SK (some ([J6,U7,J4],m7))) [⟨4,0,1,7⟩,⟨4,0,2,7⟩,⟨4,0,3,7⟩] = some true:=HX QW (by decide)
 dsimp only
 rw [s3,Option.bind_some,if_pos rfl,hCR,Option.bind_some,if_pos (by decide),Option.bind_some]
 have hf:sS 3 1 5 (J5 9 false ++ [QZ]) = true:=by decide
 have hc:eA 3 1 5 (J5 9 false ++ [QZ]) = [J6,J4]:=by kernel_rfl
 rw [BE hf,hc,Option.bind_some,if_pos (by decide),D2,Option.bind_some]
 have:NV 3 1 ⟨0,0,0,0,0,0,0,0,0⟩ = false:=by decide
 rw [this]
 rfl
end Go.Proofs.Ytiimibimkpimbaa
