/- The sanity function of law 44 holds. -/
import Derived.Test.YtiimibimkpimbaaPFb
import Derived.KernelRfl
set_option linter.unusedVariables false
set_option linter.unusedSimpArgs false
namespace Go.Proofs.Ytiimibimkpimbaa
open Go.RowKit Vm
theorem aDn {N:Nat} {d:List aM} (hN:N ≤ 40) (hl:d.length ≤ 100) (h:∀ e ∈ d,(0 ≤ e.From ∧ e.From < N) ∧ (0 ≤ e.To ∧ e.To < N) ∧ e.From ≠ e.To ∧ 1 ≤ e.Sum ∧ e.Sum ≤ 1099511627776):E4 N d :=
 ⟨hN,hl,fun i hi=>h _ (B5 d i hi)⟩
theorem J5 {n r c:Int} (l:List aA) (h:∀ e ∈ l,JD n r e = true ∧ e.Kind ≠ 4 ∧ e.Kind ≠ 5 ∧ ¬ c < e.Day):bX n r c l = (l,none,[],List.replicate l.length 0):=by
 refine B2 (P:=fun l=>(∀ e ∈ l,JD n r e = true ∧ e.Kind ≠ 4 ∧ e.Kind ≠ 5 ∧ ¬ c < e.Day)→bX n r c l = (l,none,[],List.replicate l.length 0)) (fun _=>rfl) (fun l x ih h=>?_) l h
 rw [j0,ih fun e he=>h e (List.mem_append_left _ he)]
 obtain ⟨h1,h2,h3,h4⟩:=h x (List.mem_append_right _ (List.mem_singleton.2 rfl))
 have ht:fE n r c l none x = (none,[],0):=by
  unfold fE
  rw [h1,if_neg (by decide)]
  dsimp only
  rw [if_neg h2,if_neg h3,if_neg h4]
 unfold AN
 dsimp only
 rw [ht,List.length_append,List.length_singleton,List.replicate_succ']
 rfl
theorem G8 {n r c:Int} {p:List aA} {z:List Int} (h:bX n r c p = (p,none,[],z)) {e:aA} (h1:JD n r e = true) (h2:e.Kind = 4) (h3:¬ e.Day < c) (h4:¬ 100 < (dM n r c p).length) :
  bX n r c (p ++ [e]) = (p ++ [e],some (dM n r c p,lM n (dM n r c p)),yJ (dM n r c p) (lM n (dM n r c p)),z ++ [0]):=by
 have ht:fE n r c p none e = (some (dM n r c p,lM n (dM n r c p)),yJ (dM n r c p) (lM n (dM n r c p)),0):=by
  unfold fE
  rw [h1,if_neg (by decide)]
  dsimp only
  rw [if_pos h2,if_neg h3,if_neg h4]
 rw [j0,h]
 unfold AN
 dsimp only
 rw [ht]
 rfl
theorem UK {n r c:Int} {p:List aA} {z:List Int} {o:List aA} {m:MI} {os:List aC} (h:bX n r c p = (p,some (o,m),os,z)) {e:aA} (h1:JD n r e = true) (h2:e.Kind = 5) (h3:fT e.No 0 m ≠ 0) :
  bX n r c (p ++ [e]) = (p ++ [e],some (o,UE n o m e.No),os ++ u9 o m (UE n o m e.No),z ++ [0]):=by
 have ht:fE n r c p (some (o,m)) e = (some (o,UE n o m e.No),u9 o m (UE n o m e.No),0):=by
  unfold fE
  rw [h1,if_neg (by decide)]
  dsimp only
  rw [if_neg (by omega),if_pos h2,if_neg h3]
 rw [j0,h]
 unfold AN
 dsimp only
 rw [ht]
def I6 (lease:Int) (w2:Bool):List aA:=[⟨3,0,0,0,0,0,0,lease,0⟩,⟨0,0,1,1,0,1,0,30,10⟩,⟨0,0,1,2,1,2,0,30,7⟩,⟨0,0,1,3,2,0,0,30,8⟩,⟨1,0,1,1,1,0,0,0,0⟩] ++ ((if w2 = true then [⟨1,0,1,2,2,0,0,0,0⟩] else []) ++ [⟨1,0,1,3,0,0,0,0,0⟩])
def PE:aA:=⟨4,0,5,0,0,0,0,0,0⟩
def reE:aA:=⟨5,0,6,2,0,0,0,0,0⟩
def IX:aA:=⟨0,0,1,1,0,1,0,30,10⟩
def UD:aA:=⟨0,0,1,2,1,2,0,30,7⟩
def IW:aA:=⟨0,0,1,3,2,0,0,30,8⟩
theorem KQ {wo p:Int} {l:List aA} (h1:p ≤ 3) (h2:p ≠ wo) (h3:l.length ≤ 100) {p' : Int} (h4:IntKind.wrap .i64 (p + 1) = p'):aU wo p l = some (.inl (p',l ++ [⟨1,0,1,p,p.tmod 3,0,0,0,0⟩])):=by
 unfold aU
 rw [if_pos (by simpa using h1),if_pos (by simpa using h2),if_pos (by omega),h4]
theorem aKr {wo p:Int} {l:List aA} (h1:p ≤ 3) (h2:p = wo) {p' : Int} (h4:IntKind.wrap .i64 (p + 1) = p'):aU wo p l = some (.inl (p',l)):=by
 unfold aU
 rw [if_pos (by simpa using h1),if_neg (by simpa using h2),h4]
theorem aDT {wo:Int} {l:List aA}:aU wo 4 l = some (.inr l):=by
 unfold aU
 rw [if_neg (by decide)]
theorem aJP (l:List aA) (h:l.length ≤ 90):eX (fun (w:Int × (List aA))=>aU 0 w.1 w.2) (1,l) = some (l ++ [⟨1,0,1,1,1,0,0,0,0⟩] ++ [⟨1,0,1,2,2,0,0,0,0⟩] ++ [⟨1,0,1,3,0,0,0,0,0⟩]):=by
 have a1:aU 0 1 l = some (.inl (2,l ++ [⟨1,0,1,1,1,0,0,0,0⟩])):=KQ (by decide) (by decide) (by omega) (by decide)
 have a2:aU 0 2 (l ++ [⟨1,0,1,1,1,0,0,0,0⟩]) = some (.inl (3,l ++ [⟨1,0,1,1,1,0,0,0,0⟩] ++ [⟨1,0,1,2,2,0,0,0,0⟩])):=KQ (by decide) (by decide) (by simp; omega) (by decide)
 have a3:aU 0 3 (l ++ [⟨1,0,1,1,1,0,0,0,0⟩] ++ [⟨1,0,1,2,2,0,0,0,0⟩]) = some (.inl (4,l ++ [⟨1,0,1,1,1,0,0,0,0⟩] ++ [⟨1,0,1,2,2,0,0,0,0⟩] ++ [⟨1,0,1,3,0,0,0,0,0⟩])):=KQ (by decide) (by decide) (by simp; omega) (by decide)
 exact (gH (step:=fun (w:Int × (List aA))=>aU 0 w.1 w.2) (s:=(1,_)) a1).trans ((gH (step:=fun (w:Int × (List aA))=>aU 0 w.1 w.2) (s:=(2,_)) a2).trans ((gH (step:=fun (w:Int × (List aA))=>aU 0 w.1 w.2) (s:=(3,_)) a3).trans (gN aDT)))
theorem aJU (l:List aA) (h:l.length ≤ 90):eX (fun (w:Int × (List aA))=>aU 2 w.1 w.2) (1,l) = some (l ++ [⟨1,0,1,1,1,0,0,0,0⟩] ++ [⟨1,0,1,3,0,0,0,0,0⟩]):=by
 have a1:aU 2 1 l = some (.inl (2,l ++ [⟨1,0,1,1,1,0,0,0,0⟩])):=KQ (by decide) (by decide) (by omega) (by decide)
 have a2:aU 2 2 (l ++ [⟨1,0,1,1,1,0,0,0,0⟩]) = some (.inl (3,l ++ [⟨1,0,1,1,1,0,0,0,0⟩])):=aKr (by decide) rfl (by decide)
 have a3:aU 2 3 (l ++ [⟨1,0,1,1,1,0,0,0,0⟩]) = some (.inl (4,l ++ [⟨1,0,1,1,1,0,0,0,0⟩] ++ [⟨1,0,1,3,0,0,0,0,0⟩])):=KQ (by decide) (by decide) (by simp; omega) (by decide)
 exact (gH (step:=fun (w:Int × (List aA))=>aU 2 w.1 w.2) (s:=(1,_)) a1).trans ((gH (step:=fun (w:Int × (List aA))=>aU 2 w.1 w.2) (s:=(2,_)) a2).trans ((gH (step:=fun (w:Int × (List aA))=>aU 2 w.1 w.2) (s:=(3,_)) a3).trans (gN aDT)))
theorem GV (lease wo:Int) (w2:Bool) (hw:(wo = 0 ∧ w2 = true) ∨ (wo = 2 ∧ w2 = false)):b9 lease wo = some (I6 lease w2 ++ [PE]):=by
 unfold b9 kL
 rcases hw with ⟨rfl,rfl⟩ | ⟨rfl,rfl⟩
 ·rw [aJP _ (by simp),Option.bind_some,if_pos (by simp)]
  rfl
 ·rw [aJU _ (by simp),Option.bind_some,if_pos (by simp)]
  rfl
def tN:List aM:=[⟨0,1,10⟩,⟨1,2,7⟩,⟨2,0,8⟩]
theorem okC:E4 3 tN:=aDn (by decide) (by decide) fun e he=>by
 rcases List.mem_cons.1 he with rfl | he
 ·decide
 ·rcases List.mem_cons.1 he with rfl | he
  ·decide
  ·rcases List.mem_cons.1 he with rfl | he
   ·decide
   ·cases he
theorem aKd {x:List Int} (h:x.length = 3):∃ a b c,x = [a,b,c]:=by
 match x,h with
 | [a,b,c],_=>exact ⟨a,b,c,rfl⟩
theorem two {x:List Int} (h:x.length = 2):∃ a b,x = [a,b]:=by
 match x,h with
 | [a,b],_=>exact ⟨a,b,rfl⟩
theorem aLL:sA 3 tN = [7,7,7]:=by
 obtain ⟨q,_,hb⟩:=K5 okC
 have hx:(sA ((3:Nat):Int) tN).length = 3:=hb.len
 show sA ((3:Nat):Int) tN = _
 generalize sA ((3:Nat):Int) tN = x at hb hx
 obtain ⟨a,b,c,rfl⟩:=aKd hx
 have n0:=hb.bald.net 0 (by decide)
 have n1:=hb.bald.net 1 (by decide)
 have n2:=hb.bald.net 2 (by decide)
 have u1:b ≤ 7:=hb.bald.hi 1 (by decide)
 have f7:sC (oL tN) (pD tN) (qU tN) 3 tN.length (el [7,7,7]):=⟨fun i hi=>by
  match i,hi with
  | 0,_=>decide
  | 1,_=>decide
  | 2,_=>decide,fun i hi=>by
  match i,hi with
  | 0,_=>decide
  | 1,_=>decide
  | 2,_=>decide,fun v hv=>by
  match v,hv with
  | 0,_=>decide
  | 1,_=>decide
  | 2,_=>decide⟩
 have hs:=DX okC.fr okC.tt hb.bald f7 hb.cert
 have e1:c - a = 0:=by
  have:oS (oL tN) (pD tN) tN.length (el [a,b,c]) 0 = (0 + (0 - a) + (0 - 0)) + (c - 0):=rfl
  rw [this] at n0
  omega
 have e2:a - b = 0:=by
  have:oS (oL tN) (pD tN) tN.length (el [a,b,c]) 1 = (0 + (a - 0) + (0 - b)) + (0 - 0):=rfl
  rw [this] at n1
  omega
 have e3:(21:Int) ≤ a + b + c:=by
  have h1:gQ (el ([7,7,7]:List Int)) tN.length = 21:=rfl
  have h2:gQ (el [a,b,c]) tN.length = 0 + a + b + c:=rfl
  rw [h1,h2] at hs
  omega
 have:a = 7 ∧ b = 7 ∧ c = 7:=by omega
 rw [this.1,this.2.1,this.2.2]
theorem aKG {s1 s2:Int} (h1:1 ≤ s1 ∧ s1 ≤ 1099511627776) (h2:1 ≤ s2 ∧ s2 ≤ 1099511627776):sA 3 [⟨0,1,s1⟩,⟨2,0,s2⟩] = [0,0]:=by
 have ok:E4 3 [⟨0,1,s1⟩,⟨2,0,s2⟩]:=aDn (by decide) (by simp) fun e he=>by
  rcases List.mem_cons.1 he with rfl | he
  ·exact ⟨⟨by simp,by simp⟩,⟨by simp,by simp⟩,by simp,h1⟩
  ·rcases List.mem_cons.1 he with rfl | he
   ·exact ⟨⟨by simp,by simp⟩,⟨by simp,by simp⟩,by simp,h2⟩
   ·cases he
 obtain ⟨q,_,hb⟩:=K5 ok
 have hx:(sA ((3:Nat):Int) [⟨0,1,s1⟩,⟨2,0,s2⟩]).length = 2:=hb.len
 show sA ((3:Nat):Int) [⟨0,1,s1⟩,⟨2,0,s2⟩] = _
 generalize sA ((3:Nat):Int) [⟨0,1,s1⟩,⟨2,0,s2⟩] = x at hb hx
 obtain ⟨a,b,rfl⟩:=two hx
 have n1:=hb.bald.net 1 (by decide)
 have n2:=hb.bald.net 2 (by decide)
 have e1:oS (oL [⟨0,1,s1⟩,⟨2,0,s2⟩]) (pD [⟨0,1,s1⟩,⟨2,0,s2⟩]) 2 (el [a,b]) 1 = (0 + (a - 0)) + (0 - 0):=rfl
 have e2:oS (oL [⟨0,1,s1⟩,⟨2,0,s2⟩]) (pD [⟨0,1,s1⟩,⟨2,0,s2⟩]) 2 (el [a,b]) 2 = (0 + (0 - 0)) + (0 - b):=rfl
 have n1' : (0 + (a - 0)) + (0 - 0) = 0:=e1.symm.trans n1
 have n2' : (0 + (0 - 0)) + (0 - b) = 0:=e2.symm.trans n2
 have:a = 0 ∧ b = 0:=by omega
 rw [this.1,this.2]
theorem aDj:dM 3 1 5 (I6 9 true) = [IX,UD,IW]:=by kernel_rfl
theorem aCJ:dM 3 1 5 (I6 9 false) = [IX,IW]:=by kernel_rfl
theorem aC5:dM 3 1 5 (I6 4 true) = []:=by kernel_rfl
def m7:MI:=[(1,7),(2,7),(3,7)]
def m0:MI:=[(1,0),(2,0),(3,0)]
theorem aIF:lM 3 [IX,UD,IW] = m7:=by
 have h1:u7 3 [IX,UD,IW] ([],[]) IX = (mK 3 ⟨0,30⟩ (fun x=>x.Sum) [IX,UD,IW] [],fL (fC 0 30) true []):=if_neg (by decide)
 have h2:∀ m,u7 3 [IX,UD,IW] (m,fL (fC 0 30) true []) UD = (m,fL (fC 0 30) true []):=fun m=>if_pos (show fT (fC 0 30) false (fL (fC 0 30) true ([]:MB)) = true by decide)
 have h3:∀ m,u7 3 [IX,UD,IW] (m,fL (fC 0 30) true []) IW = (m,fL (fC 0 30) true []):=fun m=>if_pos (show fT (fC 0 30) false (fL (fC 0 30) true ([]:MB)) = true by decide)
 have h4:mK 3 ⟨0,30⟩ (fun x=>x.Sum) [IX,UD,IW] [] = nP [1,2,3] (sA 3 tN) [(1,0),(2,0),(3,0)]:=rfl
 unfold lM
 rw [List.foldl_cons,h1,List.foldl_cons,h2,List.foldl_cons,h3,h4,aLL]
 rfl
theorem aJh:lM 3 [IX,IW] = [(1,0),(3,0)]:=by
 have h1:u7 3 [IX,IW] ([],[]) IX = (mK 3 ⟨0,30⟩ (fun x=>x.Sum) [IX,IW] [],fL (fC 0 30) true []):=if_neg (by decide)
 have h3:∀ m,u7 3 [IX,IW] (m,fL (fC 0 30) true []) IW = (m,fL (fC 0 30) true []):=fun m=>if_pos (show fT (fC 0 30) false (fL (fC 0 30) true ([]:MB)) = true by decide)
 have h4:mK 3 ⟨0,30⟩ (fun x=>x.Sum) [IX,IW] [] = nP [1,3] (sA 3 [⟨0,1,10⟩,⟨2,0,8⟩]) [(1,0),(3,0)]:=rfl
 unfold lM
 rw [List.foldl_cons,h1,List.foldl_cons,h3,h4,aKG (by decide) (by decide)]
 rfl
theorem reA:UE 3 [IX,UD,IW] m7 2 = m0:=by
 have h4:UE 3 [IX,UD,IW] m7 2 = nP [1,3] (sA 3 [⟨0,1,7⟩,⟨2,0,7⟩]) m0:=rfl
 rw [h4,aKG (by decide) (by decide)]
 rfl
def PC:List aC:=[⟨4,0,1,7⟩,⟨4,0,2,7⟩,⟨4,0,3,7⟩]
def aHd:List aC:=[⟨5,0,1,7⟩,⟨5,0,2,7⟩,⟨5,0,3,7⟩]
theorem aEl:bX 3 1 5 (I6 9 true ++ [PE]) = (I6 9 true ++ [PE],some ([IX,UD,IW],m7),PC,List.replicate 8 0):=by
 rw [G8 (J5 (I6 9 true) (by decide)) (by decide) rfl (by decide) (by rw [aDj]; decide),aDj,aIF]
 rfl
theorem aH7:bX 3 1 5 (I6 9 true ++ [PE] ++ [reE]) = (I6 9 true ++ [PE] ++ [reE],some ([IX,UD,IW],m0),PC ++ aHd,List.replicate 9 0):=by
 rw [UK aEl (by decide) rfl (by decide)]
 show (_,some (_,UE 3 [IX,UD,IW] m7 2),PC ++ u9 [IX,UD,IW] m7 (UE 3 [IX,UD,IW] m7 2),_) = _
 rw [reA]
 rfl
theorem aLa:bX 3 1 5 (I6 9 false ++ [PE]) = (I6 9 false ++ [PE],some ([IX,IW],[(1,0),(3,0)]),[],List.replicate 7 0):=by
 rw [G8 (J5 (I6 9 false) (by decide)) (by decide) rfl (by decide) (by rw [aCJ]; decide),aCJ,aJh]
 rfl
theorem aKb:bX 3 1 5 (I6 4 true ++ [PE]) = (I6 4 true ++ [PE],some ([],[]),[],List.replicate 8 0):=by
 rw [G8 (J5 (I6 4 true) (by decide)) (by decide) rfl (by decide) (by rw [aC5]; decide),aC5]
 rfl
theorem aI6:iQ = some true:=by
 have hrun:∀ l:List aA,l.length ≤ 20→(∀ e ∈ l,dO e.Sum)→iV 3 1 5 l = some ((bX 3 1 5 l).2.2.1,(bX 3 1 5 l).2.2.2) ∧ fG 3 1 5 l = some (YB (bX 3 1 5 l).2.1):=fun l hl hw=>by
  have hf:rU 3 1 5 l = true:=by
   have:SF 3 1 = true:=by decide
   unfold rU
   rw [this,decide_eq_true (show l.length ≤ 400 by omega)]
   rfl
  exact ⟨aCR (N:=3) rfl (by decide) hf hw,G1 (N:=3) rfl (by decide) hf hw⟩
 unfold iQ
 rw [GV 9 0 true (.inl ⟨rfl,rfl⟩),Option.bind_some,(hrun (I6 9 true ++ [PE]) (by decide) (by decide)).1,Option.bind_some,Option.bind_some,if_pos (by decide)]
 have hR:iV 3 1 5 (I6 9 true ++ [PE] ++ [⟨5,0,6,2,0,0,0,0,0⟩]) = some (PC ++ aHd,List.replicate 9 0):=by
  have:=(hrun (I6 9 true ++ [PE] ++ [reE]) (by decide) (by decide)).1
  rw [aH7] at this
  exact this
 have hCR:fG 3 1 5 (I6 9 true ++ [PE] ++ [⟨5,0,6,2,0,0,0,0,0⟩]) = some []:=by
  have:=(hrun (I6 9 true ++ [PE] ++ [reE]) (by decide) (by decide)).2
  rw [aH7] at this
  exact this
 rw [hR,Option.bind_some,GV 9 2 false (.inr ⟨rfl,rfl⟩),Option.bind_some,(hrun (I6 9 false ++ [PE]) (by decide) (by decide)).1,Option.bind_some,GV 4 0 true (.inl ⟨rfl,rfl⟩),Option.bind_some,(hrun (I6 4 true ++ [PE]) (by decide) (by decide)).1,Option.bind_some,aEl,aLa,aKb]
 have c1:(((List.replicate 8 (0:Int)).length:Int) != 8) = false:=by decide
 dsimp only
 rw [c1,if_neg (by decide)]
 have s1:bV PC [⟨4,0,1,7⟩,⟨4,0,2,7⟩,⟨4,0,3,7⟩] = some true:=wA PC (by decide)
 have s2:bV (PC ++ aHd) ((([]:List aC) ++ [⟨4,0,1,7⟩,⟨4,0,2,7⟩,⟨4,0,3,7⟩]) ++ [⟨5,0,1,7⟩,⟨5,0,2,7⟩,⟨5,0,3,7⟩]) = some true:=wA (PC ++ aHd) (by decide)
 rw [s1,Option.bind_some,if_neg (by decide),if_pos (by decide),if_pos (by decide),s2,Option.bind_some,if_neg (by decide),if_neg (by decide),if_neg (by decide),Option.bind_some,(hrun (I6 9 true ++ [PE]) (by decide) (by decide)).2,aEl,Option.bind_some]
 have s3:bV (YB (some ([IX,UD,IW],m7))) [⟨4,0,1,7⟩,⟨4,0,2,7⟩,⟨4,0,3,7⟩] = some true:=wA PC (by decide)
 dsimp only
 rw [s3,Option.bind_some,if_pos rfl,hCR,Option.bind_some,if_pos (by decide),Option.bind_some]
 have hf:rU 3 1 5 (I6 9 false ++ [PE]) = true:=by decide
 have hc:dM 3 1 5 (I6 9 false ++ [PE]) = [IX,IW]:=by kernel_rfl
 rw [L7 hf,hc,Option.bind_some,if_pos (by decide),CB,Option.bind_some]
 have:JD 3 1 ⟨0,0,0,0,0,0,0,0,0⟩ = false:=by decide
 rw [this]
 rfl
end Go.Proofs.Ytiimibimkpimbaa
