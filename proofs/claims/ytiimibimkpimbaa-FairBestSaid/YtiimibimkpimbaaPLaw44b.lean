/- Law 44: FairBest. -/
import Derived.Test.YtiimibimkpimbaaPFb
import Derived.Test.YtiimibimkpimbaaPCb
set_option linter.unusedVariables false
set_option linter.unusedSimpArgs false
namespace Go.Proofs.Ytiimibimkpimbaa
open Go.RowKit Vm
theorem aFA (n:Int) {o:List aA} {m:MI} (ho:v7 o) (hl:o.length ≤ 100) (hm:Q6 o m) (b:Bool) {p:Nat} {e:aA} (hp:o[p]? = some e) :
  iB n p b (sN o m) o 0 [] [] = some ((EJ (wM e) o).map (qZ fun x=>x.Sum),(EJ (wM e) o).map (cl m)):=by
 unfold iB
 have hol:=SV o m
 have h:=pF (step:=fun (w:Int × (List aG) × (List Int))=>cY n p b (sN o m) o w.1 w.2.1 w.2.2) (fun k a=>((k:Int),a)) o
  (fun (a:List aG × List Int) x=>if RE (wM e) x = true then (a.1 ++ [qZ (fun x=>x.Sum) x],a.2 ++ [cl m x]) else a) (fun k a=>a.1.length ≤ k ∧ a.2.length ≤ k) id (fun k a x hx hI=>by
  have hk:=pC hx
  have hxo:=List.mem_of_getElem? hx
  have w3:IntKind.wrap .i64 ((k:Int) + 1) = ((k + 1:Nat):Int):=dB (by omega)
  constructor
  ·show cY n p b (sN o m) o k a.1 a.2 = _
   unfold cY j0
   simp only [fX hx,if_true,mH hx,mH hp,Option.bind_some,w3,aKF _ (show (sN o m).length ≤ 100000 by omega),aCc ho hxo (hm x hxo).1]
   rw [if_pos (show (a.1.length + 1) * 24 ≤ 140737488355328 by omega),if_pos (show (a.2.length + 1) * 8 ≤ 140737488355328 by omega),Option.bind_some]
   unfold RE wM
   by_cases c1:x.Currency = e.Currency
   ·by_cases c2:x.Due = e.Due
    ·simp [c1,c2,qZ]
    ·simp [c1,c2]
   ·simp [c1]
  ·split
   ·exact ⟨by rw [List.length_append,List.length_singleton]; omega,by rw [List.length_append,List.length_singleton]; omega⟩
   ·omega) (fun a hI=>by
  show cY n p b (sN o m) o o.length a.1 a.2 = _
  unfold cY
  rw [if_neg (by simp)]
  rfl) ([],[]) ⟨Nat.le_refl _,Nat.le_refl _⟩
 refine h.1.trans ?_
 have key:∀ (s:List aA) (a1:List aG) (a2:List Int),s.foldl (fun (a:List aG × List Int) x=>if RE (wM e) x = true then (a.1 ++ [qZ (fun x=>x.Sum) x],a.2 ++ [cl m x]) else a) (a1,a2) = (a1 ++ (EJ (wM e) s).map (qZ fun x=>x.Sum),a2 ++ (EJ (wM e) s).map (cl m)):=by
  intro s
  induction s with
  | nil=>intro a1 a2; simp [EJ]
  | cons x s ih =>
   intro a1 a2
   rw [List.foldl_cons]
   unfold EJ
   rw [List.filter_cons]
   by_cases c:RE (wM e) x = true
   ·rw [if_pos c,if_pos c,ih]
    simp [EJ]
   ·rw [if_neg c,if_neg c,ih]
    rfl
 show some (o.foldl _ ([],[])) = _
 rw [key]
 simp
theorem aHz (n:Int) (p:Int) (b:Bool) (d:List aG) (x q:List Int) (e:Int) (os:List aC) (o:List aA) (hl:x.length ≤ 100000):iD n p b (d,x) (x,q,e) os o 0 = some (.inl ()):=by
 unfold iD
 refine Q1 (step:=fun w=>cZ n p b (d,x) (x,q,e) os o w) x hl (fun k y hy=>?_) ?_
 ·show cZ n p b (d,x) (x,q,e) os o k = _
  unfold cZ
  have hk:=pC hy
  simp only [fX hy,if_true,mH hy,Option.bind_some,Int.toNat_natCast,hy]
  rw [if_pos ⟨by omega,hk⟩,if_neg (by simp)]
 ·show cZ n p b (d,x) (x,q,e) os o x.length = _
  unfold cZ
  rw [if_neg (by simp)]
theorem aGS {N:Nat} {o:List aA} (ho:uM N o) (hN:N ≤ 40) (b:Bool):fY N b (sN o (nI N o)) o 0 = some (.inl ()):=by
 unfold fY
 refine Q1 (step:=fun w=>cX N b (sN o (nI N o)) o w) o (by have:=ho.len; omega) (fun k e he=>?_) ?_
 ·show cX N b (sN o (nI N o)) o k = _
  unfold cX
  have heo:=List.mem_of_getElem? he
  have hd:=aCU ho hN (wM e)
  obtain ⟨q,hc,hb⟩:=JH hd
  have hcb:=L6 ho hN heo
  obtain ⟨pr,hp1,hp2⟩:=aAE hd (x:=sH N ((EJ (wM e) o).map (qZ fun x=>x.Sum))) (q:=q)
  have hpt:pr = true:=hp2.2 (hb.prov hd)
  rw [hpt] at hp1
  have hlen:=hb.len
  have hdl:=hd.len
  rw [if_pos (by simp only [decide_eq_true_eq]; have:=pC he; omega),aFA N ho.diff ho.len (UP ho hN) b he,Option.bind_some]
  dsimp only
  rw [hc,Option.bind_some,if_neg (by simp),hcb,if_neg (by simp),hp1,Option.bind_some,if_neg (by decide),aHz _ _ _ _ _ _ _ _ _ (by omega)]
  rfl
 ·show cX N b (sN o (nI N o)) o o.length = _
  unfold cX
  rw [if_neg (by simp)]
theorem XG (hs:iR = some true) {n r c:Int} {l:List aA} (hn:dW n) (hw:∀ e ∈ l,dW e.Sum):jL n r c l = some true:=by
 unfold jL j7
 rw [hs,Option.bind_some,Option.bind_some]
 by_cases hl:l.length ≤ 100
 ·rw [if_neg (by simp; omega)]
  by_cases hf:tV n r c l = true
  ·obtain ⟨d1,_⟩:=BU hf
   obtain ⟨n1,n2⟩:=aKv hn d1
   obtain ⟨N,hN⟩ : ∃ N:Nat,n = N:=⟨n.toNat,by omega⟩
   have hN' : N ≤ 40:=by omega
   have hel:=AK n r c l
   rw [aIv hN hN' hf hw,Option.bind_some]
   dsimp only
   rcases aCG l (dN n r c l).2.2.2 with q | ⟨k,h1,h2,h3⟩
   ·obtain ⟨o1,o2⟩:=OC n r c l q
    rw [WJ l _ (by omega) hel q,Option.bind_some,if_pos (by simp),if_pos rfl,o2,if_pos (by simp),HJ hN hN' hf hw,o1,Option.bind_some]
    rfl
   ·obtain ⟨e1,e2,_⟩:=WY n r c l k h1 h2 h3
    have w3:IntKind.wrap .i64 ((k:Int) + 1) = ((k + 1:Nat):Int):=dB (by omega)
    rw [aDP l _ (by omega) hel h1 h2 h3,Option.bind_some,if_neg (by simp only [decide_eq_true_eq]; omega),w3,if_pos (GR (by omega)),BJ,HJ hN hN' (QT hf (by rw [List.length_take]; omega)) (fun e he=>hw e (List.mem_of_mem_take he)),Option.bind_some,if_pos (GR (by omega)),BJ,FW (QT hf (by rw [List.length_take]; omega)),Option.bind_some,e1]
    have ho:=LY (n:=n) (r:=r) (c:=c) hN (fun e he=>hw e (List.mem_of_mem_take he)) e2
    subst hN
    show (fY _ _ (sN _ _) _ 0).bind _ = _
    rw [aGS ho hN' true]
    rfl
  ·rw [Bool.not_eq_true] at hf
   rw [aJG hf,Option.bind_some]
   dsimp only
   rw [aB1,Option.bind_some,if_pos (by simp),if_pos rfl,if_pos (by simp),V0 hf]
   rfl
 ·rw [if_pos (by simp; omega)]
end Go.Proofs.Ytiimibimkpimbaa
