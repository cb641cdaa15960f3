/- Law 44: FairCut. -/
import Derived.Test.YtiimibimkpimbaaPFb
set_option linter.unusedVariables false
set_option linter.unusedSimpArgs false
namespace Go.Proofs.Ytiimibimkpimbaa
open Go.RowKit Vm
def sN (room c:Int) (e:aA):Bool:=(e.Kind != 3) || (e.Room != room) || decide (e.Due < c)
def E2 (no:Int) (e:aA):Bool:=(e.Kind != 1) || (e.No != no)
theorem aKy (n r c:Int) (l:List aA) (room no:Int) (b:Bool) (hl:l.length ≤ 100):iO n r c l room no b 0 [] [] = some (l.filter (sN room c),l.filter (E2 no)):=by
 unfold iO
 have h:=pD (step:=fun (w:Int × (List aA) × (List aA))=>dJ n r c l room no b w.1 w.2.1 w.2.2) (fun k a=>((k:Int),a)) l
  (fun (a:List aA × List aA) x=>(if sN room c x = true then a.1 ++ [x] else a.1,if E2 no x = true then a.2 ++ [x] else a.2)) (fun k a=>a.1.length ≤ k ∧ a.2.length ≤ k) id (fun k a x hx hI=>by
  have hk:=pO hx
  have w3:IntKind.wrap .i64 ((k:Int) + 1) = ((k + 1:Nat):Int):=eV (by omega)
  have hj:∀ q,eQ n r c l room no k a.2 b q = some (if E2 no x = true then a.2 ++ [x] else a.2):=fun q=>by
   unfold eQ E2
   simp only [lY hx,Option.bind_some]
   by_cases c1:x.Kind = 1
   ·by_cases c2:x.No = no
    ·simp [c1,c2]
    ·simp only [c1,c2,bne_self_eq_false,Bool.false_or,bne_iff_ne,ne_eq,not_false_eq_true,if_true,Bool.false_eq_true,if_false]
     rw [if_pos (by omega)]
   ·have:(x.Kind != 1) = true:=by simpa using c1
    simp only [this,if_true,Bool.true_or]
    rw [if_pos (by omega)]
  constructor
  ·show dJ n r c l room no b k a.1 a.2 = _
   unfold dJ sN
   simp only [fR hx,if_true,lY hx,Option.bind_some,w3,hj]
   have hlen:(a.1.length + 1) * 72 ≤ 140737488355328:=by omega
   by_cases c1:x.Kind = 3
   ·by_cases c2:x.Room = room
    ·by_cases c3:x.Due < c
     ·simp [c1,c2,c3,hlen]
     ·simp [c1,c2,c3]
    ·simp [c1,c2,hlen]
   ·simp [c1,hlen]
  ·constructor
   ·show (if sN room c x = true then a.1 ++ [x] else a.1).length ≤ k + 1
    split
    ·rw [List.length_append,List.length_singleton]; omega
    ·omega
   ·show (if E2 no x = true then a.2 ++ [x] else a.2).length ≤ k + 1
    split
    ·rw [List.length_append,List.length_singleton]; omega
    ·omega) (fun a hI=>by
  show dJ n r c l room no b l.length a.1 a.2 = _
  unfold dJ
  rw [if_neg (by simp)]
  rfl) ([],[]) ⟨Nat.le_refl _,Nat.le_refl _⟩
 refine h.1.trans ?_
 have key:∀ (s:List aA) (a1 a2:List aA),s.foldl (fun (a:List aA × List aA) x=>(if sN room c x = true then a.1 ++ [x] else a.1,if E2 no x = true then a.2 ++ [x] else a.2)) (a1,a2) = (a1 ++ s.filter (sN room c),a2 ++ s.filter (E2 no)):=by
  intro s
  induction s with
  | nil=>intro a1 a2; simp
  | cons x s ih =>
   intro a1 a2
   rw [List.foldl_cons,ih,List.filter_cons,List.filter_cons]
   dsimp only
   split <;> split <;> simp
 show some (l.foldl _ ([],[])) = _
 rw [key]
 simp
theorem WJ {n r c:Int} {l:List aA} {e:aA} (he:e ∈ cW n r c l):∃ x ∈ l,x.Kind = 3 ∧ x.Room = e.Room ∧ c ≤ x.Due:=by
 obtain ⟨h1,h2⟩:=uK.1 he
 unfold qZ at h2
 simp only [Bool.and_eq_true] at h2
 have h3:vZ (kH n r c l) e.Room c = true:=h2.1.1.1.2
 unfold vZ at h3
 obtain ⟨x,hx,q⟩:=List.any_eq_true.1 h3
 unfold aEJ at q
 simp only [Bool.and_eq_true,beq_iff_eq,decide_eq_true_eq] at q
 exact ⟨x,(List.mem_filter.1 hx).1,q.1.1.1,q.1.1.2,q.2⟩
theorem UG {n r c:Int} {l:List aA} {e:aA} (he:e ∈ cW n r c l):∃ x ∈ l,x.Kind = 1 ∧ x.No = e.No ∧ x.From = e.To:=by
 obtain ⟨h1,h2⟩:=uK.1 he
 unfold qZ at h2
 simp only [Bool.and_eq_true] at h2
 have h3:tX (fS n r c l) 1 e.No e.To = true:=h2.1.1.2
 unfold tX at h3
 obtain ⟨x,hx,q⟩:=List.any_eq_true.1 h3
 unfold P2 at q
 simp only [Bool.and_eq_true,beq_iff_eq] at q
 exact ⟨x,(List.mem_filter.1 hx).1,q.1.1,q.1.2,q.2⟩
theorem RU {n r c:Int} {l:List aA} {room:Int} {p:List aA} (hp:∀ x ∈ p,x ∈ l.filter (sN room c)) {e:aA} (he:e ∈ cW n r c p):e.Room ≠ room:=by
 obtain ⟨x,hx,h1,h2,h3⟩:=WJ he
 have h4:=(List.mem_filter.1 (hp x hx)).2
 unfold sN at h4
 intro q
 rw [h1,h2,q] at h4
 simp at h4
 omega
theorem WA {n r c:Int} {l:List aA} (hf:QB n r = true) {x:aA} (hx:x ∈ cW n r c l):(cW n r c (l ++ [⟨2,x.Room,x.Day,x.No,x.From,0,0,0,0⟩])).length + 1 = (cW n r c l).length:=by
 obtain ⟨hx1,hx2⟩:=uK.1 hx
 obtain ⟨hx3,hx4,hx5,hx6,hx7⟩:=HM hx1
 have hk:x.Kind = 0:=by
  unfold qZ at hx2
  simp only [Bool.and_eq_true,beq_iff_eq] at hx2
  exact hx2.1.1.1.1.1
 generalize hw:(⟨2,x.Room,x.Day,x.No,x.From,0,0,0,0⟩ : aA) = w
 have wk:w.Kind = 2:=by rw [← hw]
 have wr:w.Room = x.Room:=by rw [← hw]
 have wd:w.Day = x.Day:=by rw [← hw]
 have wn:w.No = x.No:=by rw [← hw]
 have wf:w.From = x.From:=by rw [← hw]
 have hck:KP n r w = true:=by
  unfold KP R7 at hx4 ⊢
  rw [if_pos hk] at hx4
  simp only [Bool.and_eq_true] at hx4
  obtain ⟨⟨⟨⟨_,q1⟩,⟨⟨⟨⟨⟨q2,_⟩,_⟩,_⟩,_⟩,_⟩⟩,q3⟩,q4⟩:=hx4
  rw [if_neg (by omega),if_pos (.inr wk),hf,wr,wd,wn,wf,q1,q2,q3,q4,← hw]
  rfl
 have hL:kH n r c (l ++ [w]) = kH n r c l:=by
  unfold kH
  rw [List.filter_append,List.filter_cons,if_neg (by unfold QH; rw [wk]; simp)]
  simp
 have hE:fS n r c (l ++ [w]) = fS n r c l ++ [w]:=by
  unfold fS
  rw [hL,List.filter_append,List.filter_cons,if_pos (by unfold E0; rw [hck,wk,wd,wr,hx7]; simpa using hx6)]
  rfl
 have hO:∀ e,A4 (fS n r c l ++ [w]) e = A4 (fS n r c l) e:=fun e=>by
  unfold A4
  rw [List.any_append]
  have:[w].any (US e) = false:=by
   rw [List.any_cons,List.any_nil,Bool.or_false]
   unfold US
   rw [wk]; rfl
  rw [this,Bool.or_false]
 have hS1:∀ no f,tX (fS n r c l ++ [w]) 1 no f = tX (fS n r c l) 1 no f:=fun no f=>by
  unfold tX
  rw [List.any_append]
  have:[w].any (P2 1 no f) = false:=by
   rw [List.any_cons,List.any_nil,Bool.or_false]
   unfold P2
   rw [wk]; rfl
  rw [this,Bool.or_false]
 have hS2:∀ no f,tX (fS n r c l ++ [w]) 2 no f = (tX (fS n r c l) 2 no f || ((x.No == no) && (x.From == f))):=fun no f=>by
  unfold tX
  rw [List.any_append]
  have:[w].any (P2 2 no f) = ((x.No == no) && (x.From == f)):=by
   rw [List.any_cons,List.any_nil,Bool.or_false]
   unfold P2
   rw [wk,wn,wf]; rfl
  rw [this]
 have hmem:∀ y,y ∈ cW n r c (l ++ [w]) ↔ y ∈ (cW n r c l).filter fun y=>decide (y.No ≠ x.No):=fun y=>by
  rw [uK,List.mem_filter,uK,hE,hL,List.mem_append,List.mem_singleton]
  have hcp:qZ c (fS n r c l ++ [w]) (kH n r c l) y = (qZ c (fS n r c l) (kH n r c l) y && !((x.No == y.No) && (x.From == y.From)) && !((x.No == y.No) && (x.From == y.To))):=by
   unfold qZ
   rw [hO,hS1,hS2,hS2]
   generalize (y.Kind == 0) = b1
   generalize A4 (fS n r c l) y = b2
   generalize vZ (kH n r c l) y.Room c = b3
   generalize tX (fS n r c l) 1 y.No y.To = b4
   generalize tX (fS n r c l) 2 y.No y.From = b5
   generalize tX (fS n r c l) 2 y.No y.To = b6
   generalize ((x.No == y.No) && (x.From == y.From)) = b7
   generalize ((x.No == y.No) && (x.From == y.To)) = b8
   cases b1 <;> cases b2 <;> cases b3 <;> cases b4 <;> cases b5 <;> cases b6 <;> cases b7 <;> cases b8 <;> rfl
  rw [hcp]
  simp only [Bool.and_eq_true,Bool.not_eq_true',decide_eq_true_eq]
  constructor
  ·rintro ⟨hy,⟨h1,h2⟩,h3⟩
   have hy' : y ∈ fS n r c l:=by
    rcases hy with hy | hy
    ·exact hy
    ·unfold qZ at h1
     rw [hy,wk] at h1
     simp at h1
   refine ⟨⟨hy',h1⟩,fun q=>?_⟩
   have:y = x:=(EO n r c l).one y (uK.2 ⟨hy',h1⟩) x hx q
   rw [this] at h2
   simp at h2
  ·rintro ⟨⟨hy,h1⟩,h2⟩
   have:(x.No == y.No) = false:=by simpa using fun q=>h2 q.symm
   exact ⟨.inl hy,⟨h1,by rw [this]; rfl⟩,by rw [this]; rfl⟩
 rw [aB5 (LL n r c (l ++ [w])) ((LL n r c l).filter _) hmem]
 exact aGn (EO n r c l) hx
theorem aBK (hs:iU = some true) {n r c:Int} {l:List aA} (hn:dY n) (hw:∀ e ∈ l,dY e.Sum) (room no:Int):kD n r c l room no = some true:=by
 unfold kD j8
 rw [hs,Option.bind_some,Option.bind_some]
 by_cases hl:l.length ≤ 100
 ·rw [if_neg (by simp; omega),aKy _ _ _ _ _ _ _ hl,Option.bind_some]
  dsimp only
  have l1:(l.filter (sN room c)).length ≤ l.length:=List.length_filter_le _ _
  have l2:(l.filter (E2 no)).length ≤ l.length:=List.length_filter_le _ _
  by_cases hf:rX n r c l = true
  ·obtain ⟨d1,_⟩:=BJ hf
   obtain ⟨n1,n2⟩:=aKK hn d1
   obtain ⟨N,hN⟩ : ∃ N:Nat,n = N:=⟨n.toNat,by omega⟩
   have hN' : N ≤ 40:=by omega
   rw [ND hN hN' (DJ hf (by omega)) (fun e he=>hw e (List.mem_filter.1 he).1),Option.bind_some,uB (DJ hf (by omega)),Option.bind_some]
   have hA:∀ x ∈ L1 (cQ n r c (l.filter (sN room c))).2.1,x.Room ≠ room:=by
    intro x hx
    cases e:(cQ n r c (l.filter (sN room c))).2.1 with
    | none=>rw [e] at hx; cases hx
    | some s =>
     obtain ⟨o,m⟩:=s
     rw [e] at hx
     obtain ⟨k,_,ho,_⟩:=KT n r c _ e
     have hx' : x ∈ CO o m:=hx
     unfold CO at hx'
     obtain ⟨y,hy,rfl⟩:=List.mem_map.1 hx'
     have:=(List.mem_filter.1 hy).1
     rw [ho] at this
     exact RU (fun z hz=>List.mem_of_mem_take hz) this
   have lA:(L1 (cQ n r c (l.filter (sN room c))).2.1).length ≤ 100000:=by
    cases e:(cQ n r c (l.filter (sN room c))).2.1 with
    | none=>exact Nat.zero_le _
    | some s =>
     obtain ⟨o,m⟩:=s
     obtain ⟨k,_,ho,_⟩:=KT n r c _ e
     have h1:=TU o m
     have h2:=(z8 (fun (x:aA)=>x.No) (sW c (fS n r c ((l.filter (sN room c)).take k)) (kH n r c ((l.filter (sN room c)).take k)))).length_eq
     have h3:=HA c (fS n r c ((l.filter (sN room c)).take k)) (kH n r c ((l.filter (sN room c)).take k))
     have h4:(fS n r c ((l.filter (sN room c)).take k)).length ≤ ((l.filter (sN room c)).take k).length:=List.length_filter_le _ _
     rw [List.length_take] at h4
     have h5:o.length = (sW c (fS n r c ((l.filter (sN room c)).take k)) (kH n r c ((l.filter (sN room c)).take k))).length:=by rw [ho]; exact h2
     show (CO o m).length ≤ _
     omega
   have lc:∀ p:List aA,p.length ≤ 400→(cW n r c p).length ≤ 400:=fun p hp=>by
    have h2:=(z8 (fun (x:aA)=>x.No) (sW c (fS n r c p) (kH n r c p))).length_eq
    have h3:=HA c (fS n r c p) (kH n r c p)
    have h4:(fS n r c p).length ≤ p.length:=List.length_filter_le _ _
    show (isK _ _).length ≤ _
    omega
   have e3:∀ b q,gF n r c l room no b q (L1 (cQ n r c (l.filter (sN room c))).2.1) (cW n r c (l.filter (sN room c))) 0 = some (.inl ()):=fun b q=>by
    unfold gF
    refine FD (step:=fun w=>dI n r c l room no b q (L1 (cQ n r c (l.filter (sN room c))).2.1) (cW n r c (l.filter (sN room c))) w) _ lA (fun k x hx=>?_) ?_
    ·show dI n r c l room no b q _ _ k = _
     unfold dI
     simp only [fR hx,if_true,lY hx,Option.bind_some]
     rw [if_neg (by simpa using hA x (List.mem_of_getElem? hx))]
    ·show dI n r c l room no b q _ _ _ = _
     unfold dI
     rw [if_neg (by simp)]
   have e4:∀ b q,eO n r c l room no b q (cW n r c (l.filter (sN room c))) 0 = some (.inl ()):=fun b q=>by
    unfold eO
    refine FD (step:=fun w=>dF n r c l room no b q (cW n r c (l.filter (sN room c))) w) (cW n r c (l.filter (sN room c))) (by have:=lc (l.filter (sN room c)) (by omega); omega) (fun k x hx=>?_) ?_
    ·show dF n r c l room no b q _ k = _
     unfold dF
     simp only [fR hx,if_true,lY hx,Option.bind_some]
     rw [if_neg (by simpa using RU (fun z hz=>hz) (List.mem_of_getElem? hx))]
    ·show dF n r c l room no b q _ _ = _
     unfold dF
     rw [if_neg (by simp)]
   have e5:∀ b,gG n r c l no b (cW n r c (l.filter (E2 no))) 0 = some (.inl ()):=fun b=>by
    unfold gG
    refine FD (step:=fun w=>dC n r c l no b (cW n r c (l.filter (E2 no))) w) (cW n r c (l.filter (E2 no))) (by have:=lc (l.filter (E2 no)) (by omega); omega) (fun k x hx=>?_) ?_
    ·show dC n r c l no b _ k = _
     unfold dC
     simp only [fR hx,if_true,lY hx,Option.bind_some]
     rw [if_neg]
     intro q
     obtain ⟨y,hy,h1,h2,_⟩:=UG (List.mem_of_getElem? hx)
     have h3:=(List.mem_filter.1 hy).2
     unfold E2 at h3
     rw [h1,h2,beq_iff_eq.1 q] at h3
     simp at h3
    ·show dC n r c l no b _ _ = _
     unfold dC
     rw [if_neg (by simp)]
   have e6:∀ b,gH n r c l b (cW n r c l) 0 = some (.inl ()):=fun b=>by
    unfold gH
    have hlc:=lc l (by omega)
    refine FD (step:=fun w=>dE n r c l b (cW n r c l) w) (cW n r c l) (by omega) (fun k x hx=>?_) ?_
    ·show dE n r c l b (cW n r c l) k = _
     unfold dE
     simp only [fR hx,if_true,lY hx,Option.bind_some,List.nil_append]
     have hx':=List.mem_of_getElem? hx
     have hk:=pO hx
     have q:=WA (c:=c) d1 hx'
     rw [if_pos (by omega),if_pos (by omega),uB (DJ hf (by rw [List.length_append,List.length_singleton]; omega)),Option.bind_some,if_pos (by simp only [decide_eq_true_eq]; omega),if_neg]
     rw [kY (by omega) (by omega)]
     simp only [bne_iff_ne,ne_eq,Decidable.not_not]
     omega
    ·show dE n r c l b (cW n r c l) _ = _
     unfold dE
     rw [if_neg (by simp)]
   rw [e3,Option.bind_some]
   show (eO _ _ _ _ _ _ _ _ _ _).bind _ = _
   rw [e4,Option.bind_some]
   show (dW n r c (l.filter (E2 no))).bind _ = _
   rw [uB (DJ hf (by omega)),Option.bind_some,e5,Option.bind_some]
   show (dW n r c l).bind _ = _
   rw [uB hf,Option.bind_some,e6]
   rfl
  ·have hf0:∀ p:List aA,p.length ≤ 400→rX n r c p = false:=fun p hp=>by
    rw [Bool.eq_false_iff]
    exact fun q=>hf (DJ q (by omega))
   rw [UP (hf0 _ (by omega)),Option.bind_some,CY (hf0 _ (by omega)),Option.bind_some]
   have e3:∀ b q,gF n r c l room no b q [] [] 0 = some (.inl ()):=fun b q=>fT rfl
   have e4:∀ b q,eO n r c l room no b q [] 0 = some (.inl ()):=fun b q=>fT rfl
   have e5:∀ b,gG n r c l no b [] 0 = some (.inl ()):=fun b=>fT rfl
   have e6:∀ b,gH n r c l b [] 0 = some (.inl ()):=fun b=>fT rfl
   rw [e3,Option.bind_some]
   show (eO _ _ _ _ _ _ _ _ _ _).bind _ = _
   rw [e4,Option.bind_some]
   show (dW n r c (l.filter (E2 no))).bind _ = _
   rw [CY (hf0 _ (by omega)),Option.bind_some,e5,Option.bind_some]
   show (dW n r c l).bind _ = _
   rw [CY (hf0 _ (by omega)),Option.bind_some,e6]
   rfl
 ·rw [if_pos (by simp; omega)]
end Go.Proofs.Ytiimibimkpimbaa
