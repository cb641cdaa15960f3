/- The sanity function of law 44 holds. -/
import Derived.Test.YtiimibimkpimbaaPFb
import Derived.KernelRfl
set_option linter.unusedVariables false
set_option linter.unusedSimpArgs false
namespace Go.Proofs.Ytiimibimkpimbaa
open Go.RowKit Vm
theorem aED {N:Nat} {d:List aM} (hN:N ≤ 40) (hl:d.length ≤ 100) (h:∀ e ∈ d,(0 ≤ e.From ∧ e.From < N) ∧ (0 ≤ e.To ∧ e.To < N) ∧ e.From ≠ e.To ∧ 1 ≤ e.Sum ∧ e.Sum ≤ 1099511627776):FB N d :=
 ⟨hN,hl,fun i hi=>h _ (GL d i hi)⟩
theorem LD {n r c:Int} (l:List aA) (h:∀ e ∈ l,KP n r e = true ∧ e.Kind ≠ 4 ∧ e.Kind ≠ 5 ∧ ¬ c < e.Day):cQ n r c l = (l,none,[],List.replicate l.length 0):=by
 refine CF (P:=fun l=>(∀ e ∈ l,KP n r e = true ∧ e.Kind ≠ 4 ∧ e.Kind ≠ 5 ∧ ¬ c < e.Day)→cQ n r c l = (l,none,[],List.replicate l.length 0)) (fun _=>rfl) (fun l x ih h=>?_) l h
 rw [lD,ih fun e he=>h e (List.mem_append_left _ he)]
 obtain ⟨h1,h2,h3,h4⟩:=h x (List.mem_append_right _ (List.mem_singleton.2 rfl))
 have ht:iJ n r c l none x = (none,[],0):=by
  unfold iJ
  rw [h1,if_neg (by decide)]
  dsimp only
  rw [if_neg h2,if_neg h3,if_neg h4]
 unfold JB
 dsimp only
 rw [ht,List.length_append,List.length_singleton,List.replicate_succ']
 rfl
theorem GZ {n r c:Int} {p:List aA} {z:List Int} (h:cQ n r c p = (p,none,[],z)) {e:aA} (h1:KP n r e = true) (h2:e.Kind = 4) (h3:¬ e.Day < c) (h4:¬ 100 < (cW n r c p).length) :
  cQ n r c (p ++ [e]) = (p ++ [e],some (cW n r c p,pE n (cW n r c p)),CO (cW n r c p) (pE n (cW n r c p)),z ++ [0]):=by
 have ht:iJ n r c p none e = (some (cW n r c p,pE n (cW n r c p)),CO (cW n r c p) (pE n (cW n r c p)),0):=by
  unfold iJ
  rw [h1,if_neg (by decide)]
  dsimp only
  rw [if_pos h2,if_neg h3,if_neg h4]
 rw [lD,h]
 unfold JB
 dsimp only
 rw [ht]
 rfl
theorem XB {n r c:Int} {p:List aA} {z:List Int} {o:List aA} {m:MI} {os:List aC} (h:cQ n r c p = (p,some (o,m),os,z)) {e:aA} (h1:KP n r e = true) (h2:e.Kind = 5) (h3:fV e.No 0 m ≠ 0) :
  cQ n r c (p ++ [e]) = (p ++ [e],some (o,W3 n o m e.No),os ++ xW o m (W3 n o m e.No),z ++ [0]):=by
 have ht:iJ n r c p (some (o,m)) e = (some (o,W3 n o m e.No),xW o m (W3 n o m e.No),0):=by
  unfold iJ
  rw [h1,if_neg (by decide)]
  dsimp only
  rw [if_neg (by omega),if_pos h2,if_neg h3]
 rw [lD,h]
 unfold JB
 dsimp only
 rw [ht]
def JG (lease:Int) (w2:Bool):List aA:=[⟨3,0,0,0,0,0,0,lease,0⟩,⟨0,0,1,1,0,1,0,30,10⟩,⟨0,0,1,2,1,2,0,30,7⟩,⟨0,0,1,3,2,0,0,30,8⟩,⟨1,0,1,1,1,0,0,0,0⟩] ++ ((if w2 = true then [⟨1,0,1,2,2,0,0,0,0⟩] else []) ++ [⟨1,0,1,3,0,0,0,0,0⟩])
def PM:aA:=⟨4,0,5,0,0,0,0,0,0⟩
def reE:aA:=⟨5,0,6,2,0,0,0,0,0⟩
def JD:aA:=⟨0,0,1,1,0,1,0,30,10⟩
def UF:aA:=⟨0,0,1,2,1,2,0,30,7⟩
def JC:aA:=⟨0,0,1,3,2,0,0,30,8⟩
theorem MD {wo p:Int} {l:List aA} (h1:p ≤ 3) (h2:p ≠ wo) (h3:l.length ≤ 100) {p' : Int} (h4:IntKind.wrap .i64 (p + 1) = p'):bA wo p l = some (.inl (p',l ++ [⟨1,0,1,p,p.tmod 3,0,0,0,0⟩])):=by
 unfold bA
 rw [if_pos (by simpa using h1),if_pos (by simpa using h2),if_pos (by omega),h4]
theorem aK0 {wo p:Int} {l:List aA} (h1:p ≤ 3) (h2:p = wo) {p' : Int} (h4:IntKind.wrap .i64 (p + 1) = p'):bA wo p l = some (.inl (p',l)):=by
 unfold bA
 rw [if_pos (by simpa using h1),if_neg (by simpa using h2),h4]
theorem aCg {wo:Int} {l:List aA}:bA wo 4 l = some (.inr l):=by
 unfold bA
 rw [if_neg (by decide)]
theorem aJp (l:List aA) (h:l.length ≤ 90):fE (fun (w:Int × (List aA))=>bA 0 w.1 w.2) (1,l) = some (l ++ [⟨1,0,1,1,1,0,0,0,0⟩] ++ [⟨1,0,1,2,2,0,0,0,0⟩] ++ [⟨1,0,1,3,0,0,0,0,0⟩]):=by
 have a1:bA 0 1 l = some (.inl (2,l ++ [⟨1,0,1,1,1,0,0,0,0⟩])):=MD (by decide) (by decide) (by omega) (by decide)
 have a2:bA 0 2 (l ++ [⟨1,0,1,1,1,0,0,0,0⟩]) = some (.inl (3,l ++ [⟨1,0,1,1,1,0,0,0,0⟩] ++ [⟨1,0,1,2,2,0,0,0,0⟩])):=MD (by decide) (by decide) (by simp; omega) (by decide)
 have a3:bA 0 3 (l ++ [⟨1,0,1,1,1,0,0,0,0⟩] ++ [⟨1,0,1,2,2,0,0,0,0⟩]) = some (.inl (4,l ++ [⟨1,0,1,1,1,0,0,0,0⟩] ++ [⟨1,0,1,2,2,0,0,0,0⟩] ++ [⟨1,0,1,3,0,0,0,0,0⟩])):=MD (by decide) (by decide) (by simp; omega) (by decide)
 exact (gP (step:=fun (w:Int × (List aA))=>bA 0 w.1 w.2) (s:=(1,_)) a1).trans ((gP (step:=fun (w:Int × (List aA))=>bA 0 w.1 w.2) (s:=(2,_)) a2).trans ((gP (step:=fun (w:Int × (List aA))=>bA 0 w.1 w.2) (s:=(3,_)) a3).trans (fT aCg)))
theorem aI6 (l:List aA) (h:l.length ≤ 90):fE (fun (w:Int × (List aA))=>bA 2 w.1 w.2) (1,l) = some (l ++ [⟨1,0,1,1,1,0,0,0,0⟩] ++ [⟨1,0,1,3,0,0,0,0,0⟩]):=by
 have a1:bA 2 1 l = some (.inl (2,l ++ [⟨1,0,1,1,1,0,0,0,0⟩])):=MD (by decide) (by decide) (by omega) (by decide)
 have a2:bA 2 2 (l ++ [⟨1,0,1,1,1,0,0,0,0⟩]) = some (.inl (3,l ++ [⟨1,0,1,1,1,0,0,0,0⟩])):=aK0 (by decide) rfl (by decide)
 have a3:bA 2 3 (l ++ [⟨1,0,1,1,1,0,0,0,0⟩]) = some (.inl (4,l ++ [⟨1,0,1,1,1,0,0,0,0⟩] ++ [⟨1,0,1,3,0,0,0,0,0⟩])):=MD (by decide) (by decide) (by simp; omega) (by decide)
 exact (gP (step:=fun (w:Int × (List aA))=>bA 2 w.1 w.2) (s:=(1,_)) a1).trans ((gP (step:=fun (w:Int × (List aA))=>bA 2 w.1 w.2) (s:=(2,_)) a2).trans ((gP (step:=fun (w:Int × (List aA))=>bA 2 w.1 w.2) (s:=(3,_)) a3).trans (fT aCg)))
theorem HC (lease wo:Int) (w2:Bool) (hw:(wo = 0 ∧ w2 = true) ∨ (wo = 2 ∧ w2 = false)):b9 lease wo = some (JG lease w2 ++ [PM]):=by
 unfold b9 kX
 rcases hw with ⟨rfl,rfl⟩ | ⟨rfl,rfl⟩
 ·rw [aJp _ (by simp),Option.bind_some,if_pos (by simp)]
  rfl
 ·rw [aI6 _ (by simp),Option.bind_some,if_pos (by simp)]
  rfl
def tW:List aM:=[⟨0,1,10⟩,⟨1,2,7⟩,⟨2,0,8⟩]
theorem okC:FB 3 tW:=aED (by decide) (by decide) fun e he=>by
 rcases List.mem_cons.1 he with rfl | he
 ·decide
 ·rcases List.mem_cons.1 he with rfl | he
  ·decide
  ·rcases List.mem_cons.1 he with rfl | he
   ·decide
   ·cases he
theorem aKj {x:List Int} (h:x.length = 3):∃ a b c,x = [a,b,c]:=by
 match x,h with
 | [a,b,c],_=>exact ⟨a,b,c,rfl⟩
theorem two {x:List Int} (h:x.length = 2):∃ a b,x = [a,b]:=by
 match x,h with
 | [a,b],_=>exact ⟨a,b,rfl⟩
theorem aLm:sF 3 tW = [7,7,7]:=by
 obtain ⟨q,_,hb⟩:=KD okC
 have hx:(sF ((3:Nat):Int) tW).length = 3:=hb.len
 show sF ((3:Nat):Int) tW = _
 generalize sF ((3:Nat):Int) tW = x at hb hx
 obtain ⟨a,b,c,rfl⟩:=aKj hx
 have n0:=hb.bald.net 0 (by decide)
 have n1:=hb.bald.net 1 (by decide)
 have n2:=hb.bald.net 2 (by decide)
 have u1:b ≤ 7:=hb.bald.hi 1 (by decide)
 have f7:sI (oV tW) (pB tW) (rC tW) 3 tW.length (el [7,7,7]):=⟨fun i hi=>by
  match i,hi with
  | 0,_=>decide
  | 1,_=>decide
  | 2,_=>decide,fun i hi=>by
  match i,hi with
  | 0,_=>decide
  | 1,_=>decide
  | 2,_=>decide,fun v hv=>by
  match v,hv with
  | 0,_=>decide
  | 1,_=>decide
  | 2,_=>decide⟩
 have hs:=DC okC.fr okC.tt hb.bald f7 hb.cert
 have e1:c - a = 0:=by
  have:o0 (oV tW) (pB tW) tW.length (el [a,b,c]) 0 = (0 + (0 - a) + (0 - 0)) + (c - 0):=rfl
  rw [this] at n0
  omega
 have e2:a - b = 0:=by
  have:o0 (oV tW) (pB tW) tW.length (el [a,b,c]) 1 = (0 + (a - 0) + (0 - b)) + (0 - 0):=rfl
  rw [this] at n1
  omega
 have e3:(21:Int) ≤ a + b + c:=by
  have h1:g9 (el ([7,7,7]:List Int)) tW.length = 21:=rfl
  have h2:g9 (el [a,b,c]) tW.length = 0 + a + b + c:=rfl
  rw [h1,h2] at hs
  omega
 have:a = 7 ∧ b = 7 ∧ c = 7:=by omega
 rw [this.1,this.2.1,this.2.2]
theorem aKB {s1 s2:Int} (h1:1 ≤ s1 ∧ s1 ≤ 1099511627776) (h2:1 ≤ s2 ∧ s2 ≤ 1099511627776):sF 3 [⟨0,1,s1⟩,⟨2,0,s2⟩] = [0,0]:=by
 have ok:FB 3 [⟨0,1,s1⟩,⟨2,0,s2⟩]:=aED (by decide) (by simp) fun e he=>by
  rcases List.mem_cons.1 he with rfl | he
  ·exact ⟨⟨by simp,by simp⟩,⟨by simp,by simp⟩,by simp,h1⟩
  ·rcases List.mem_cons.1 he with rfl | he
   ·exact ⟨⟨by simp,by simp⟩,⟨by simp,by simp⟩,by simp,h2⟩
   ·cases he
 obtain ⟨q,_,hb⟩:=KD ok
 have hx:(sF ((3:Nat):Int) [⟨0,1,s1⟩,⟨2,0,s2⟩]).length = 2:=hb.len
 show sF ((3:Nat):Int) [⟨0,1,s1⟩,⟨2,0,s2⟩] = _
 generalize sF ((3:Nat):Int) [⟨0,1,s1⟩,⟨2,0,s2⟩] = x at hb hx
 obtain ⟨a,b,rfl⟩:=two hx
 have n1:=hb.bald.net 1 (by decide)
 have n2:=hb.bald.net 2 (by decide)
 have e1:o0 (oV [⟨0,1,s1⟩,⟨2,0,s2⟩]) (pB [⟨0,1,s1⟩,⟨2,0,s2⟩]) 2 (el [a,b]) 1 = (0 + (a - 0)) + (0 - 0):=rfl
 have e2:o0 (oV [⟨0,1,s1⟩,⟨2,0,s2⟩]) (pB [⟨0,1,s1⟩,⟨2,0,s2⟩]) 2 (el [a,b]) 2 = (0 + (0 - 0)) + (0 - b):=rfl
 have n1' : (0 + (a - 0)) + (0 - 0) = 0:=e1.symm.trans n1
 have n2' : (0 + (0 - 0)) + (0 - b) = 0:=e2.symm.trans n2
 have:a = 0 ∧ b = 0:=by omega
 rw [this.1,this.2]
theorem aDA:cW 3 1 5 (JG 9 true) = [JD,UF,JC]:=by kernel_rfl
theorem aDw:cW 3 1 5 (JG 9 false) = [JD,JC]:=by kernel_rfl
theorem aDs:cW 3 1 5 (JG 4 true) = []:=by kernel_rfl
def m7:MI:=[(1,7),(2,7),(3,7)]
def m0:MI:=[(1,0),(2,0),(3,0)]
theorem aJr:pE 3 [JD,UF,JC] = m7:=by
 have h1:vI 3 [JD,UF,JC] ([],[]) JD = (mV 3 ⟨0,30⟩ (fun x=>x.Sum) [JD,UF,JC] [],fI (fC 0 30) true []):=if_neg (by decide)
 have h2:∀ m,vI 3 [JD,UF,JC] (m,fI (fC 0 30) true []) UF = (m,fI (fC 0 30) true []):=fun m=>if_pos (show fV (fC 0 30) false (fI (fC 0 30) true ([]:MB)) = true by decide)
 have h3:∀ m,vI 3 [JD,UF,JC] (m,fI (fC 0 30) true []) JC = (m,fI (fC 0 30) true []):=fun m=>if_pos (show fV (fC 0 30) false (fI (fC 0 30) true ([]:MB)) = true by decide)
 have h4:mV 3 ⟨0,30⟩ (fun x=>x.Sum) [JD,UF,JC] [] = nZ [1,2,3] (sF 3 tW) [(1,0),(2,0),(3,0)]:=rfl
 unfold pE
 rw [List.foldl_cons,h1,List.foldl_cons,h2,List.foldl_cons,h3,h4,aLm]
 rfl
theorem aJm:pE 3 [JD,JC] = [(1,0),(3,0)]:=by
 have h1:vI 3 [JD,JC] ([],[]) JD = (mV 3 ⟨0,30⟩ (fun x=>x.Sum) [JD,JC] [],fI (fC 0 30) true []):=if_neg (by decide)
 have h3:∀ m,vI 3 [JD,JC] (m,fI (fC 0 30) true []) JC = (m,fI (fC 0 30) true []):=fun m=>if_pos (show fV (fC 0 30) false (fI (fC 0 30) true ([]:MB)) = true by decide)
 have h4:mV 3 ⟨0,30⟩ (fun x=>x.Sum) [JD,JC] [] = nZ [1,3] (sF 3 [⟨0,1,10⟩,⟨2,0,8⟩]) [(1,0),(3,0)]:=rfl
 unfold pE
 rw [List.foldl_cons,h1,List.foldl_cons,h3,h4,aKB (by decide) (by decide)]
 rfl
theorem reA:W3 3 [JD,UF,JC] m7 2 = m0:=by
 have h4:W3 3 [JD,UF,JC] m7 2 = nZ [1,3] (sF 3 [⟨0,1,7⟩,⟨2,0,7⟩]) m0:=rfl
 rw [h4,aKB (by decide) (by decide)]
 rfl
def O3:List aC:=[⟨4,0,1,7⟩,⟨4,0,2,7⟩,⟨4,0,3,7⟩]
def aGZ:List aC:=[⟨5,0,1,7⟩,⟨5,0,2,7⟩,⟨5,0,3,7⟩]
theorem aEO:cQ 3 1 5 (JG 9 true ++ [PM]) = (JG 9 true ++ [PM],some ([JD,UF,JC],m7),O3,List.replicate 8 0):=by
 rw [GZ (LD (JG 9 true) (by decide)) (by decide) rfl (by decide) (by rw [aDA]; decide),aDA,aJr]
 rfl
theorem aIc:cQ 3 1 5 (JG 9 true ++ [PM] ++ [reE]) = (JG 9 true ++ [PM] ++ [reE],some ([JD,UF,JC],m0),O3 ++ aGZ,List.replicate 9 0):=by
 rw [XB aEO (by decide) rfl (by decide)]
 show (_,some (_,W3 3 [JD,UF,JC] m7 2),O3 ++ xW [JD,UF,JC] m7 (W3 3 [JD,UF,JC] m7 2),_) = _
 rw [reA]
 rfl
theorem aKO:cQ 3 1 5 (JG 9 false ++ [PM]) = (JG 9 false ++ [PM],some ([JD,JC],[(1,0),(3,0)]),[],List.replicate 7 0):=by
 rw [GZ (LD (JG 9 false) (by decide)) (by decide) rfl (by decide) (by rw [aDw]; decide),aDw,aJm]
 rfl
theorem aJO:cQ 3 1 5 (JG 4 true ++ [PM]) = (JG 4 true ++ [PM],some ([],[]),[],List.replicate 8 0):=by
 rw [GZ (LD (JG 4 true) (by decide)) (by decide) rfl (by decide) (by rw [aDs]; decide),aDs]
 rfl
theorem aJu:iU = some true:=by
 have hrun:∀ l:List aA,l.length ≤ 20→(∀ e ∈ l,dY e.Sum)→oM 3 1 5 l = some ((cQ 3 1 5 l).2.2.1,(cQ 3 1 5 l).2.2.2) ∧ gY 3 1 5 l = some (L1 (cQ 3 1 5 l).2.1):=fun l hl hw=>by
  have hf:rX 3 1 5 l = true:=by
   have:QB 3 1 = true:=by decide
   unfold rX
   rw [this,decide_eq_true (show l.length ≤ 400 by omega)]
   rfl
  exact ⟨aKE (N:=3) rfl (by decide) hf hw,ND (N:=3) rfl (by decide) hf hw⟩
 unfold iU
 rw [HC 9 0 true (.inl ⟨rfl,rfl⟩),Option.bind_some,(hrun (JG 9 true ++ [PM]) (by decide) (by decide)).1,Option.bind_some,Option.bind_some,if_pos (by decide)]
 have hR:oM 3 1 5 (JG 9 true ++ [PM] ++ [⟨5,0,6,2,0,0,0,0,0⟩]) = some (O3 ++ aGZ,List.replicate 9 0):=by
  have:=(hrun (JG 9 true ++ [PM] ++ [reE]) (by decide) (by decide)).1
  rw [aIc] at this
  exact this
 have hCR:gY 3 1 5 (JG 9 true ++ [PM] ++ [⟨5,0,6,2,0,0,0,0,0⟩]) = some []:=by
  have:=(hrun (JG 9 true ++ [PM] ++ [reE]) (by decide) (by decide)).2
  rw [aIc] at this
  exact this
 rw [hR,Option.bind_some,HC 9 2 false (.inr ⟨rfl,rfl⟩),Option.bind_some,(hrun (JG 9 false ++ [PM]) (by decide) (by decide)).1,Option.bind_some,HC 4 0 true (.inl ⟨rfl,rfl⟩),Option.bind_some,(hrun (JG 4 true ++ [PM]) (by decide) (by decide)).1,Option.bind_some,aEO,aKO,aJO]
 have c1:(((List.replicate 8 (0:Int)).length:Int) != 8) = false:=by decide
 dsimp only
 rw [c1,if_neg (by decide)]
 have s1:dD O3 [⟨4,0,1,7⟩,⟨4,0,2,7⟩,⟨4,0,3,7⟩] = some true:=GN O3 (by decide)
 have s2:dD (O3 ++ aGZ) ((([]:List aC) ++ [⟨4,0,1,7⟩,⟨4,0,2,7⟩,⟨4,0,3,7⟩]) ++ [⟨5,0,1,7⟩,⟨5,0,2,7⟩,⟨5,0,3,7⟩]) = some true:=GN (O3 ++ aGZ) (by decide)
 rw [s1,Option.bind_some,if_neg (by decide),if_pos (by decide),if_pos (by decide),s2,Option.bind_some,if_neg (by decide),if_neg (by decide),if_neg (by decide),Option.bind_some,(hrun (JG 9 true ++ [PM]) (by decide) (by decide)).2,aEO,Option.bind_some]
 have s3:dD (L1 (some ([JD,UF,JC],m7))) [⟨4,0,1,7⟩,⟨4,0,2,7⟩,⟨4,0,3,7⟩] = some true:=GN O3 (by decide)
 dsimp only
 rw [s3,Option.bind_some,if_pos rfl,hCR,Option.bind_some,if_pos (by decide),Option.bind_some]
 have hf:rX 3 1 5 (JG 9 false ++ [PM]) = true:=by decide
 have hc:cW 3 1 5 (JG 9 false ++ [PM]) = [JD,JC]:=by kernel_rfl
 rw [uB hf,hc,Option.bind_some,if_pos (by decide),CL,Option.bind_some]
 have:KP 3 1 ⟨0,0,0,0,0,0,0,0,0⟩ = false:=by decide
 rw [this]
 rfl
end Go.Proofs.Ytiimibimkpimbaa
