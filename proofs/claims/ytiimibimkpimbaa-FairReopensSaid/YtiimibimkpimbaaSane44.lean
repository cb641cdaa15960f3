/- The sanity function of law 44 holds. -/
import Derived.Test.YtiimibimkpimbaaPFb
import Derived.KernelRfl
set_option linter.unusedVariables false
set_option linter.unusedSimpArgs false
namespace Go.Proofs.Ytiimibimkpimbaa
open Go.RowKit Vm
theorem aCA {N:Nat} {d:List aK} (hN:N <= 40) (hl:d.length <= 100) (h:∀ e ∈ d,(0 <= e.From ∧ e.From < N) ∧ (0 <= e.To ∧ e.To < N) ∧ e.From ≠ e.To ∧ 1 <= e.Sum ∧ e.Sum <= 1099511627776):FS N d :=
 ⟨hN,hl,fun i hi=>h _ (G9 d i hi)⟩
theorem M7 {n r c:Int} (l:List aA) (h:∀ e ∈ l,M8 n r e = true ∧ e.Kind ≠ 4 ∧ e.Kind ≠ 5 ∧ ¬ c < e.Day):bM n r c l = (l,none,[],List.replicate l.length 0):=by
 refine vB (P:=fun l=>(∀ e ∈ l,M8 n r e = true ∧ e.Kind ≠ 4 ∧ e.Kind ≠ 5 ∧ ¬ c < e.Day)->bM n r c l = (l,none,[],List.replicate l.length 0)) (fun _=>rfl) (fun l x ih h=>?_) l h
 rw [iZ,ih fun e he=>h e (List.mem_append_left _ he)]
 obtain ⟨h1,h2,h3,h4⟩:=h x (List.mem_append_right _ (List.mem_singleton.2 rfl))
 have ht:eG n r c l none x = (none,[],0):=by
  unfold eG
  rw [h1,if_neg (by decide)]
  dsimp only
  rw [if_neg h2,if_neg h3,if_neg h4]
 unfold HL
 dsimp only
 rw [ht,List.length_append,List.length_singleton,List.replicate_succ']
 rfl
theorem H0 {n r c:Int} {p:List aA} {z:List Int} (h:bM n r c p = (p,none,[],z)) {e:aA} (h1:M8 n r e = true) (h2:e.Kind = 4) (h3:¬ e.Day < c) (h4:¬ 100 < (fG n r c p).length) :
  bM n r c (p ++ [e]) = (p ++ [e],some (fG n r c p,oZ n (fG n r c p)),pP (fG n r c p) (oZ n (fG n r c p)),z ++ [0]):=by
 have ht:eG n r c p none e = (some (fG n r c p,oZ n (fG n r c p)),pP (fG n r c p) (oZ n (fG n r c p)),0):=by
  unfold eG
  rw [h1,if_neg (by decide)]
  dsimp only
  rw [if_pos h2,if_neg h3,if_neg h4]
 rw [iZ,h]
 unfold HL
 dsimp only
 rw [ht]
 rfl
theorem WS {n r c:Int} {p:List aA} {z:List Int} {o:List aA} {m:MI} {os:List aC} (h:bM n r c p = (p,some (o,m),os,z)) {e:aA} (h1:M8 n r e = true) (h2:e.Kind = 5) (h3:fT e.No 0 m ≠ 0) :
  bM n r c (p ++ [e]) = (p ++ [e],some (o,sX n o m e.No),os ++ lX o m (sX n o m e.No),z ++ [0]):=by
 have ht:eG n r c p (some (o,m)) e = (some (o,sX n o m e.No),lX o m (sX n o m e.No),0):=by
  unfold eG
  rw [h1,if_neg (by decide)]
  dsimp only
  rw [if_neg (by omega),if_pos h2,if_neg h3]
 rw [iZ,h]
 unfold HL
 dsimp only
 rw [ht]
def JU (lease:Int) (w2:Bool):List aA:=[⟨3,0,0,0,0,0,0,lease,0⟩,⟨0,0,1,1,0,1,0,30,10⟩,⟨0,0,1,2,1,2,0,30,7⟩,⟨0,0,1,3,2,0,0,30,8⟩,⟨1,0,1,1,1,0,0,0,0⟩] ++ ((if w2 = true then [⟨1,0,1,2,2,0,0,0,0⟩] else []) ++ [⟨1,0,1,3,0,0,0,0,0⟩])
def QQ:aA:=⟨4,0,5,0,0,0,0,0,0⟩
def reE:aA:=⟨5,0,6,2,0,0,0,0,0⟩
def JR:aA:=⟨0,0,1,1,0,1,0,30,10⟩
def U0:aA:=⟨0,0,1,2,1,2,0,30,7⟩
def JX:aA:=⟨0,0,1,3,2,0,0,30,8⟩
theorem LQ {wo p:Int} {l:List aA} (h1:p <= 3) (h2:p ≠ wo) (h3:l.length <= 100) {p' : Int} (h4:IntKind.wrap .i64 (p + 1) = p'):bA wo p l = some (.inl (p',l ++ [⟨1,0,1,p,p.tmod 3,0,0,0,0⟩])):=by
 unfold bA
 rw [if_pos (by simpa using h1),if_pos (by simpa using h2),if_pos (by omega),h4]
theorem aKx {wo p:Int} {l:List aA} (h1:p <= 3) (h2:p = wo) {p' : Int} (h4:IntKind.wrap .i64 (p + 1) = p'):bA wo p l = some (.inl (p',l)):=by
 unfold bA
 rw [if_pos (by simpa using h1),if_neg (by simpa using h2),h4]
theorem aEZ {wo:Int} {l:List aA}:bA wo 4 l = some (.inr l):=by
 unfold bA
 rw [if_neg (by decide)]
theorem aI0 (l:List aA) (h:l.length <= 90):eW (fun (w:Int × (List aA))=>bA 0 w.1 w.2) (1,l) = some (l ++ [⟨1,0,1,1,1,0,0,0,0⟩] ++ [⟨1,0,1,2,2,0,0,0,0⟩] ++ [⟨1,0,1,3,0,0,0,0,0⟩]):=by
 have a1:bA 0 1 l = some (.inl (2,l ++ [⟨1,0,1,1,1,0,0,0,0⟩])):=LQ (by decide) (by decide) (by omega) (by decide)
 have a2:bA 0 2 (l ++ [⟨1,0,1,1,1,0,0,0,0⟩]) = some (.inl (3,l ++ [⟨1,0,1,1,1,0,0,0,0⟩] ++ [⟨1,0,1,2,2,0,0,0,0⟩])):=LQ (by decide) (by decide) (by simp; omega) (by decide)
 have a3:bA 0 3 (l ++ [⟨1,0,1,1,1,0,0,0,0⟩] ++ [⟨1,0,1,2,2,0,0,0,0⟩]) = some (.inl (4,l ++ [⟨1,0,1,1,1,0,0,0,0⟩] ++ [⟨1,0,1,2,2,0,0,0,0⟩] ++ [⟨1,0,1,3,0,0,0,0,0⟩])):=LQ (by decide) (by decide) (by simp; omega) (by decide)
 exact (gL (step:=fun (w:Int × (List aA))=>bA 0 w.1 w.2) (s:=(1,_)) a1).trans ((gL (step:=fun (w:Int × (List aA))=>bA 0 w.1 w.2) (s:=(2,_)) a2).trans ((gL (step:=fun (w:Int × (List aA))=>bA 0 w.1 w.2) (s:=(3,_)) a3).trans (gP aEZ)))
theorem aJi (l:List aA) (h:l.length <= 90):eW (fun (w:Int × (List aA))=>bA 2 w.1 w.2) (1,l) = some (l ++ [⟨1,0,1,1,1,0,0,0,0⟩] ++ [⟨1,0,1,3,0,0,0,0,0⟩]):=by
 have a1:bA 2 1 l = some (.inl (2,l ++ [⟨1,0,1,1,1,0,0,0,0⟩])):=LQ (by decide) (by decide) (by omega) (by decide)
 have a2:bA 2 2 (l ++ [⟨1,0,1,1,1,0,0,0,0⟩]) = some (.inl (3,l ++ [⟨1,0,1,1,1,0,0,0,0⟩])):=aKx (by decide) rfl (by decide)
 have a3:bA 2 3 (l ++ [⟨1,0,1,1,1,0,0,0,0⟩]) = some (.inl (4,l ++ [⟨1,0,1,1,1,0,0,0,0⟩] ++ [⟨1,0,1,3,0,0,0,0,0⟩])):=LQ (by decide) (by decide) (by simp; omega) (by decide)
 exact (gL (step:=fun (w:Int × (List aA))=>bA 2 w.1 w.2) (s:=(1,_)) a1).trans ((gL (step:=fun (w:Int × (List aA))=>bA 2 w.1 w.2) (s:=(2,_)) a2).trans ((gL (step:=fun (w:Int × (List aA))=>bA 2 w.1 w.2) (s:=(3,_)) a3).trans (gP aEZ)))
theorem G5 (lease wo:Int) (w2:Bool) (hw:(wo = 0 ∧ w2 = true) ∨ (wo = 2 ∧ w2 = false)):cC lease wo = some (JU lease w2 ++ [QQ]):=by
 unfold cC kZ
 rcases hw with ⟨rfl,rfl⟩ | ⟨rfl,rfl⟩
 ·rw [aI0 _ (by simp),Option.bind_some,if_pos (by simp)]
  rfl
 ·rw [aJi _ (by simp),Option.bind_some,if_pos (by simp)]
  rfl
def uM:List aK:=[⟨0,1,10⟩,⟨1,2,7⟩,⟨2,0,8⟩]
theorem okC:FS 3 uM:=aCA (by decide) (by decide) fun e he=>by
 rcases List.mem_cons.1 he with rfl | he
 ·decide
 ·rcases List.mem_cons.1 he with rfl | he
  ·decide
  ·rcases List.mem_cons.1 he with rfl | he
   ·decide
   ·cases he
theorem aLa {x:List Int} (h:x.length = 3):∃ a b c,x = [a,b,c]:=by
 match x,h with
 | [a,b,c],_=>exact ⟨a,b,c,rfl⟩
theorem two {x:List Int} (h:x.length = 2):∃ a b,x = [a,b]:=by
 match x,h with
 | [a,b],_=>exact ⟨a,b,rfl⟩
theorem aL8:rV 3 uM = [7,7,7]:=by
 obtain ⟨q,_,hb⟩:=JD okC
 have hx:(rV ((3:Nat):Int) uM).length = 3:=hb.len
 show rV ((3:Nat):Int) uM = _
 generalize rV ((3:Nat):Int) uM = x at hb hx
 obtain ⟨a,b,c,rfl⟩:=aLa hx
 have n0:=hb.bald.net 0 (by decide)
 have n1:=hb.bald.net 1 (by decide)
 have n2:=hb.bald.net 2 (by decide)
 have u1:b <= 7:=hb.bald.hi 1 (by decide)
 have f7:sL (oT uM) (pR uM) (rC uM) 3 uM.length (el [7,7,7]):=⟨fun i hi=>by
  match i,hi with
  | 0,_=>decide
  | 1,_=>decide
  | 2,_=>decide,fun i hi=>by
  match i,hi with
  | 0,_=>decide
  | 1,_=>decide
  | 2,_=>decide,fun v hv=>by
  match v,hv with
  | 0,_=>decide
  | 1,_=>decide
  | 2,_=>decide⟩
 have hs:=EG okC.fr okC.tt hb.bald f7 hb.cert
 have e1:c - a = 0:=by
  have:pF (oT uM) (pR uM) uM.length (el [a,b,c]) 0 = (0 + (0 - a) + (0 - 0)) + (c - 0):=rfl
  rw [this] at n0
  omega
 have e2:a - b = 0:=by
  have:pF (oT uM) (pR uM) uM.length (el [a,b,c]) 1 = (0 + (a - 0) + (0 - b)) + (0 - 0):=rfl
  rw [this] at n1
  omega
 have e3:(21:Int) <= a + b + c:=by
  have h1:fI (el ([7,7,7]:List Int)) uM.length = 21:=rfl
  have h2:fI (el [a,b,c]) uM.length = 0 + a + b + c:=rfl
  rw [h1,h2] at hs
  omega
 have:a = 7 ∧ b = 7 ∧ c = 7:=by omega
 rw [this.1,this.2.1,this.2.2]
theorem aLy {s1 s2:Int} (h1:1 <= s1 ∧ s1 <= 1099511627776) (h2:1 <= s2 ∧ s2 <= 1099511627776):rV 3 [⟨0,1,s1⟩,⟨2,0,s2⟩] = [0,0]:=by
 have ok:FS 3 [⟨0,1,s1⟩,⟨2,0,s2⟩]:=aCA (by decide) (by simp) fun e he=>by
  rcases List.mem_cons.1 he with rfl | he
  ·exact ⟨⟨by simp,by simp⟩,⟨by simp,by simp⟩,by simp,h1⟩
  ·rcases List.mem_cons.1 he with rfl | he
   ·exact ⟨⟨by simp,by simp⟩,⟨by simp,by simp⟩,by simp,h2⟩
   ·cases he
 obtain ⟨q,_,hb⟩:=JD ok
 have hx:(rV ((3:Nat):Int) [⟨0,1,s1⟩,⟨2,0,s2⟩]).length = 2:=hb.len
 show rV ((3:Nat):Int) [⟨0,1,s1⟩,⟨2,0,s2⟩] = _
 generalize rV ((3:Nat):Int) [⟨0,1,s1⟩,⟨2,0,s2⟩] = x at hb hx
 obtain ⟨a,b,rfl⟩:=two hx
 have n1:=hb.bald.net 1 (by decide)
 have n2:=hb.bald.net 2 (by decide)
 have e1:pF (oT [⟨0,1,s1⟩,⟨2,0,s2⟩]) (pR [⟨0,1,s1⟩,⟨2,0,s2⟩]) 2 (el [a,b]) 1 = (0 + (a - 0)) + (0 - 0):=rfl
 have e2:pF (oT [⟨0,1,s1⟩,⟨2,0,s2⟩]) (pR [⟨0,1,s1⟩,⟨2,0,s2⟩]) 2 (el [a,b]) 2 = (0 + (0 - 0)) + (0 - b):=rfl
 have n1' : (0 + (a - 0)) + (0 - 0) = 0:=e1.symm.trans n1
 have n2' : (0 + (0 - 0)) + (0 - b) = 0:=e2.symm.trans n2
 have:a = 0 ∧ b = 0:=by omega
 rw [this.1,this.2]
theorem aDs:fG 3 1 5 (JU 9 true) = [JR,U0,JX]:=by kernel_rfl
theorem aFu:fG 3 1 5 (JU 9 false) = [JR,JX]:=by kernel_rfl
theorem aEw:fG 3 1 5 (JU 4 true) = []:=by kernel_rfl
def m7:MI:=[(1,7),(2,7),(3,7)]
def m0:MI:=[(1,0),(2,0),(3,0)]
theorem aJx:oZ 3 [JR,U0,JX] = m7:=by
 have h1:tE 3 [JR,U0,JX] ([],[]) JR = (lB 3 ⟨0,30⟩ (fun x=>x.Sum) [JR,U0,JX] [],fM (fC 0 30) true []):=if_neg (by decide)
 have h2:∀ m,tE 3 [JR,U0,JX] (m,fM (fC 0 30) true []) U0 = (m,fM (fC 0 30) true []):=fun m=>if_pos (show fT (fC 0 30) false (fM (fC 0 30) true ([]:MB)) = true by decide)
 have h3:∀ m,tE 3 [JR,U0,JX] (m,fM (fC 0 30) true []) JX = (m,fM (fC 0 30) true []):=fun m=>if_pos (show fT (fC 0 30) false (fM (fC 0 30) true ([]:MB)) = true by decide)
 have h4:lB 3 ⟨0,30⟩ (fun x=>x.Sum) [JR,U0,JX] [] = oH [1,2,3] (rV 3 uM) [(1,0),(2,0),(3,0)]:=rfl
 unfold oZ
 rw [List.foldl_cons,h1,List.foldl_cons,h2,List.foldl_cons,h3,h4,aL8]
 rfl
theorem aKj:oZ 3 [JR,JX] = [(1,0),(3,0)]:=by
 have h1:tE 3 [JR,JX] ([],[]) JR = (lB 3 ⟨0,30⟩ (fun x=>x.Sum) [JR,JX] [],fM (fC 0 30) true []):=if_neg (by decide)
 have h3:∀ m,tE 3 [JR,JX] (m,fM (fC 0 30) true []) JX = (m,fM (fC 0 30) true []):=fun m=>if_pos (show fT (fC 0 30) false (fM (fC 0 30) true ([]:MB)) = true by decide)
 have h4:lB 3 ⟨0,30⟩ (fun x=>x.Sum) [JR,JX] [] = oH [1,3] (rV 3 [⟨0,1,10⟩,⟨2,0,8⟩]) [(1,0),(3,0)]:=rfl
 unfold oZ
 rw [List.foldl_cons,h1,List.foldl_cons,h3,h4,aLy (by decide) (by decide)]
 rfl
theorem reA:sX 3 [JR,U0,JX] m7 2 = m0:=by
 have h4:sX 3 [JR,U0,JX] m7 2 = oH [1,3] (rV 3 [⟨0,1,7⟩,⟨2,0,7⟩]) m0:=rfl
 rw [h4,aLy (by decide) (by decide)]
 rfl
def Q4:List aC:=[⟨4,0,1,7⟩,⟨4,0,2,7⟩,⟨4,0,3,7⟩]
def aG8:List aC:=[⟨5,0,1,7⟩,⟨5,0,2,7⟩,⟨5,0,3,7⟩]
theorem aCi:bM 3 1 5 (JU 9 true ++ [QQ]) = (JU 9 true ++ [QQ],some ([JR,U0,JX],m7),Q4,List.replicate 8 0):=by
 rw [H0 (M7 (JU 9 true) (by decide)) (by decide) rfl (by decide) (by rw [aDs]; decide),aDs,aJx]
 rfl
theorem aII:bM 3 1 5 (JU 9 true ++ [QQ] ++ [reE]) = (JU 9 true ++ [QQ] ++ [reE],some ([JR,U0,JX],m0),Q4 ++ aG8,List.replicate 9 0):=by
 rw [WS aCi (by decide) rfl (by decide)]
 show (_,some (_,sX 3 [JR,U0,JX] m7 2),Q4 ++ lX [JR,U0,JX] m7 (sX 3 [JR,U0,JX] m7 2),_) = _
 rw [reA]
 rfl
theorem aLx:bM 3 1 5 (JU 9 false ++ [QQ]) = (JU 9 false ++ [QQ],some ([JR,JX],[(1,0),(3,0)]),[],List.replicate 7 0):=by
 rw [H0 (M7 (JU 9 false) (by decide)) (by decide) rfl (by decide) (by rw [aFu]; decide),aFu,aKj]
 rfl
theorem aLj:bM 3 1 5 (JU 4 true ++ [QQ]) = (JU 4 true ++ [QQ],some ([],[]),[],List.replicate 8 0):=by
 rw [H0 (M7 (JU 4 true) (by decide)) (by decide) rfl (by decide) (by rw [aEw]; decide),aEw]
 rfl
theorem aJT:i5 = some true:=by
 have hrun:∀ l:List aA,l.length <= 20->(∀ e ∈ l,dP e.Sum)->jU 3 1 5 l = some ((bM 3 1 5 l).2.2.1,(bM 3 1 5 l).2.2.2) ∧ gJ 3 1 5 l = some (B4 (bM 3 1 5 l).2.1):=fun l hl hw=>by
  have hf:sB 3 1 5 l = true:=by
   have:RU 3 1 = true:=by decide
   unfold sB
   rw [this,decide_eq_true (show l.length <= 400 by omega)]
   rfl
  exact ⟨aEU (N:=3) rfl (by decide) hf hw,H5 (N:=3) rfl (by decide) hf hw⟩
 unfold i5
 rw [G5 9 0 true (.inl ⟨rfl,rfl⟩),Option.bind_some,(hrun (JU 9 true ++ [QQ]) (by decide) (by decide)).1,Option.bind_some,Option.bind_some,if_pos (by decide)]
 have hR:jU 3 1 5 (JU 9 true ++ [QQ] ++ [⟨5,0,6,2,0,0,0,0,0⟩]) = some (Q4 ++ aG8,List.replicate 9 0):=by
  have:=(hrun (JU 9 true ++ [QQ] ++ [reE]) (by decide) (by decide)).1
  rw [aII] at this
  exact this
 have hCR:gJ 3 1 5 (JU 9 true ++ [QQ] ++ [⟨5,0,6,2,0,0,0,0,0⟩]) = some []:=by
  have:=(hrun (JU 9 true ++ [QQ] ++ [reE]) (by decide) (by decide)).2
  rw [aII] at this
  exact this
 rw [hR,Option.bind_some,G5 9 2 false (.inr ⟨rfl,rfl⟩),Option.bind_some,(hrun (JU 9 false ++ [QQ]) (by decide) (by decide)).1,Option.bind_some,G5 4 0 true (.inl ⟨rfl,rfl⟩),Option.bind_some,(hrun (JU 4 true ++ [QQ]) (by decide) (by decide)).1,Option.bind_some,aCi,aLx,aLj]
 have c1:(((List.replicate 8 (0:Int)).length:Int) != 8) = false:=by decide
 dsimp only
 rw [c1,if_neg (by decide)]
 have s1:bU Q4 [⟨4,0,1,7⟩,⟨4,0,2,7⟩,⟨4,0,3,7⟩] = some true:=wX Q4 (by decide)
 have s2:bU (Q4 ++ aG8) ((([]:List aC) ++ [⟨4,0,1,7⟩,⟨4,0,2,7⟩,⟨4,0,3,7⟩]) ++ [⟨5,0,1,7⟩,⟨5,0,2,7⟩,⟨5,0,3,7⟩]) = some true:=wX (Q4 ++ aG8) (by decide)
 rw [s1,Option.bind_some,if_neg (by decide),if_pos (by decide),if_pos (by decide),s2,Option.bind_some,if_neg (by decide),if_neg (by decide),if_neg (by decide),Option.bind_some,(hrun (JU 9 true ++ [QQ]) (by decide) (by decide)).2,aCi,Option.bind_some]
 have s3:bU (B4 (some ([JR,U0,JX],m7))) [⟨4,0,1,7⟩,⟨4,0,2,7⟩,⟨4,0,3,7⟩] = some true:=wX Q4 (by decide)
 dsimp only
 rw [s3,Option.bind_some,if_pos rfl,hCR,Option.bind_some,if_pos (by decide),Option.bind_some]
 have hf:sB 3 1 5 (JU 9 false ++ [QQ]) = true:=by decide
 have hc:fG 3 1 5 (JU 9 false ++ [QQ]) = [JR,JX]:=by kernel_rfl
 rw [FM hf,hc,Option.bind_some,if_pos (by decide),CK,Option.bind_some]
 have:M8 3 1 ⟨0,0,0,0,0,0,0,0,0⟩ = false:=by decide
 rw [this]
 rfl
end Go.Proofs.Ytiimibimkpimbaa
