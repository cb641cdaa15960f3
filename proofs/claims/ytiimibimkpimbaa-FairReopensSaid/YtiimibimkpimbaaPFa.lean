/- What fair.Counting returns. What fair.Counting returns: the offers that count, by their numbers. Clearing a group of offers: the loops of settle. What a fair does, event by event, in plain terms; what stays right. -/
import Derived.Test.YtiimibimkpimbaaFn
import Derived.Test.YtiimibimkpimbaaLoops3
import Derived.Test.YtiimibimkpimbaaPCb
set_option linter.unusedVariables false
set_option linter.unusedSimpArgs false
namespace Go.Proofs.Ytiimibimkpimbaa
open Go.RowKit Vm
theorem pS {α S A X:Type} {step:S->Option (S ⊕ X)} (st:Nat->A->S) (l:List α) (f:A->α->A) (I:Nat->A->Prop) (fin:A->X)
  (h:∀ k a x,l[k]? = some x->I k a->step (st k a) = some (.inl (st (k + 1) (f a x))) ∧ I (k + 1) (f a x))
  (he:∀ a,I l.length a->step (st l.length a) = some (.inr (fin a))) (a:A) (h0:I 0 a) :
  eW step (st 0 a) = some (fin (l.foldl f a)) ∧ I l.length (l.foldl f a):=by
 have key:∀ (r p:List α) (a:A),l = p ++ r->I p.length a->eW step (st p.length a) = some (fin (r.foldl f a)) ∧ I l.length (r.foldl f a):=by
  intro r
  induction r with
  | nil =>
   intro p a e hI
   rw [List.append_nil] at e
   subst e
   exact ⟨gP (he a hI),hI⟩
  | cons x r ih =>
   intro p a e hI
   obtain ⟨h1,h2⟩:=h p.length a x (by rw [e]; simp) hI
   rw [gL h1]
   have:=ih (p ++ [x]) (f a x) (by rw [e]; simp) (by rw [List.length_append]; exact h2)
   rw [List.length_append] at this
   exact this
 exact key l [] a rfl h0
theorem mO {α:Type} {l:List α} {k:Nat} {x:α} (h:l[k]? = some x):at? l (k:Int) = some x:=by rw [at?_nat]; exact h
theorem qM {α:Type} {l:List α} {k:Nat} {x:α} (h:l[k]? = some x):k < l.length:=(List.getElem?_eq_some_iff.1 h).1
theorem fZ {α:Type} {l:List α} {k:Nat} {x:α} (h:l[k]? = some x):(decide ((k:Int) < (l.length:Int)) = true) = True:=by
 have:=qM h
 simp only [decide_eq_true_eq,eq_iff_iff,iff_true]
 omega
theorem BJ {α:Type} (p:α->Bool):∀ (l acc:List α),l.foldl (fun out x=>if p x = true then out ++ [x] else out) acc = acc ++ l.filter p
 | [],acc=>by simp
 | x :: l,acc=>by
  rw [List.foldl_cons,BJ p l,List.filter_cons]
  split <;> simp
theorem aCS {α S:Type} {step:S->Option (S ⊕ (Unit ⊕ Int))} (st:Nat->S) (l:List α) (p:α->Bool)
  (h:∀ k x,l[k]? = some x->step (st k) = if p x = true then some (.inr (.inr (k:Int))) else some (.inl (st (k + 1))))
  (he:step (st l.length) = some (.inr (.inl ()))) :
  ∃ r,eW step (st 0) = some r ∧ ((r = .inl () ∧ l.any p = false) ∨ ∃ k:Nat,r = .inr (k:Int) ∧ l.any p = true):=by
 have key:∀ (r q:List α),l = q ++ r->∃ z,eW step (st q.length) = some z ∧ ((z = .inl () ∧ r.any p = false) ∨ ∃ k:Nat,z = .inr (k:Int) ∧ r.any p = true):=by
  intro r
  induction r with
  | nil =>
   intro q e
   rw [List.append_nil] at e
   subst e
   exact ⟨_,gP he,.inl ⟨rfl,rfl⟩⟩
  | cons x r ih =>
   intro q e
   have hs:=h q.length x (by rw [e]; simp)
   by_cases hp:p x = true
   ·rw [if_pos hp] at hs
    exact ⟨_,gP hs,.inr ⟨q.length,rfl,by simp [hp]⟩⟩
   ·rw [if_neg hp] at hs
    rw [gL hs]
    obtain ⟨z,h1,h2⟩:=ih (q ++ [x]) (by rw [e]; simp)
    rw [List.length_append] at h1
    refine ⟨z,h1,?_⟩
    have e2:(x :: r).any p = r.any p:=by
     simp only [List.any_cons,Bool.not_eq_true] at hp ⊢
     rw [hp,Bool.false_or]
    rw [e2]
    exact h2
 exact key l [] rfl
def DF (i n:Int):Bool:=decide (0 <= i) && decide (i < n)
theorem EO {i n:Int}:DF i n = true ↔ 0 <= i ∧ i < n:=by simp [DF]
theorem EE (i n:Int):dY i n = some (DF i n):=by
 unfold dY DF
 by_cases h:0 <= i
 ·rw [if_pos (by simpa using h)]; simp [h]
 ·rw [if_neg (by simpa using h)]; simp [h]
def RU (n r:Int):Bool:=DF (IntKind.wrap .i64 (n - 1)) 40 && DF (IntKind.wrap .i64 (r - 1)) 8
def YM (n:Int) (e:aA):Bool :=
 if e.Kind = 0 then DF e.From n && DF e.To n && (e.From != e.To) && DF e.Currency 8 && DF e.Due 100001 && DF (IntKind.wrap .i64 (e.Sum - 1)) 1099511627776
 else if e.Kind = 1 ∨ e.Kind = 2 then DF e.From n && (0 == e.To) && (0 == e.Currency) && (0 == e.Due) && (0 == e.Sum)
 else if e.Kind = 3 then decide (e.Due ≥ e.Day) && decide (e.Due <= 100000) && (0 == e.No) && (0 == e.From) && (0 == e.To) && (0 == e.Currency) && (0 == e.Sum)
 else if e.Kind = 5 then (0 == e.Room) && (0 == e.From) && (0 == e.To) && (0 == e.Currency) && (0 == e.Due) && (0 == e.Sum)
 else if e.Kind = 4 then (0 == e.Room) && (0 == e.No) && (0 == e.From) && (0 == e.To) && (0 == e.Currency) && (0 == e.Due) && (0 == e.Sum)
 else false
def M8 (n r:Int) (e:aA):Bool:=RU n r && DF e.Day 100001 && YM n e && DF e.Room r && DF e.No 1000
def UF (b:Bool):Int:=if b = true then 0 else 1
theorem aK1 (r:Int) (e:aA) (b:Bool) (x1 x2 x3 x4 x5 x6 x7:Int):dE r e b x1 x2 x3 x4 x5 x6 x7 = some (UF (b && ((x1 == e.Room) && (x2 == e.No) && (x3 == e.From) && (x4 == e.To) && (x5 == e.Currency) && (x6 == e.Due) && (x7 == e.Sum)) && DF e.Room r && DF e.No 1000)):=by
 unfold dE
 simp only [EE,Option.bind_some,beq_self_eq_true,Bool.true_and]
 generalize (x1 == e.Room) = c1
 generalize (x2 == e.No) = c2
 generalize (x3 == e.From) = c3
 generalize (x4 == e.To) = c4
 generalize (x5 == e.Currency) = c5
 generalize (x6 == e.Due) = c6
 generalize (x7 == e.Sum) = c7
 generalize DF e.Room r = d1
 generalize DF e.No 1000 = d2
 have:∀ c:Bool,(c1 && (c2 && (c3 && (c4 && (c5 && (c6 && c7)))))) = c->(if (!b) = true then some (1:Int) else if (!c) = true then some 1 else if (!d1) = true then some 1 else if (!d2) = true then some 1 else some 0) = some (UF (b && c && d1 && d2)):=by
  intro c _
  cases b <;> cases c <;> cases d1 <;> cases d2 <;> rfl
 rw [this _ rfl]
 simp only [Bool.and_assoc]
theorem aKP (n r:Int) (e:aA) (b:Bool):mP n r e b = some (UF (b && YM n e && DF e.Room r && DF e.No 1000)):=by
 unfold mP qJ
 simp only [EE,Option.bind_some,aK1,beq_self_eq_true,Bool.true_and,Bool.and_true,beq_iff_eq]
 unfold YM
 by_cases k0:e.Kind = 0
 ·rw [if_pos k0,if_pos k0]
  generalize DF e.From n = c1
  generalize DF e.To n = c2
  generalize (e.From != e.To) = c3
  generalize DF e.Currency 8 = c4
  generalize DF e.Due 100001 = c5
  generalize DF (IntKind.wrap .i64 (e.Sum - 1)) 1099511627776 = c6
  cases b <;> cases c1 <;> cases c2 <;> cases c3 <;> cases c4 <;> cases c5 <;> simp
 ·rw [if_neg k0,if_neg k0]
  by_cases k1:e.Kind = 1
  ·rw [if_pos k1,if_pos k1,if_pos (show e.Kind = 1 ∨ e.Kind = 2 from .inl k1)]
   generalize DF e.From n = c1
   cases b <;> simp [Bool.and_assoc]
  ·rw [if_neg k1]
   by_cases k2:e.Kind = 2
   ·rw [if_pos k2,if_pos (show e.Kind = 1 ∨ e.Kind = 2 from .inr k2)]
    generalize DF e.From n = c1
    cases b <;> simp [Bool.and_assoc]
   ·rw [if_neg k2,if_neg (show ¬(e.Kind = 1 ∨ e.Kind = 2) from fun q=>q.elim k1 k2)]
    by_cases k3:e.Kind = 3
    ·rw [if_pos k3,if_pos k3]
     generalize decide (e.Due ≥ e.Day) = c1
     generalize decide (e.Due <= 100000) = c2
     cases b <;> cases c1 <;> simp [Bool.and_assoc]
    ·rw [if_neg k3,if_neg k3]
     by_cases k5:e.Kind = 5
     ·rw [if_pos k5,if_pos k5]
      cases b <;> simp [Bool.and_assoc]
     ·rw [if_neg k5,if_neg k5]
      by_cases k4:e.Kind = 4
      ·rw [if_pos k4,if_pos k4]
       cases b <;> simp [Bool.and_assoc]
      ·rw [if_neg k4,if_neg k4]
       simp
theorem CK (n r:Int) (e:aA):kU n r e = some (UF (M8 n r e)):=by
 unfold kU M8 RU
 simp only [EE,Option.bind_some,aKP]
 generalize DF (IntKind.wrap .i64 (n - 1)) 40 = c1
 generalize DF (IntKind.wrap .i64 (r - 1)) 8 = c2
 cases c1 <;> cases c2 <;> simp
theorem aEK (b:Bool):((UF b == 0) = true) = (b = true):=by cases b <;> simp [UF]
theorem YI (b:Bool):((UF b != 0) = true) = (b = false):=by cases b <;> simp [UF]
end Go.Proofs.Ytiimibimkpimbaa
set_option linter.unusedVariables false
set_option linter.unusedSimpArgs false
namespace Go.Proofs.Ytiimibimkpimbaa
open Go.RowKit Vm
theorem KA {α:Type} {step:Int->Option (Int ⊕ (Unit ⊕ Int))} (l:List α) (hl:l.length <= 100000) (p:α->Bool)
  (h:∀ (k:Nat) x,l[k]? = some x->step k = if p x = true then some (.inr (.inr (k:Int))) else some (.inl (IntKind.wrap .i64 ((k:Int) + 1))))
  (he:step l.length = some (.inr (.inl ()))) :
  ∃ i:Int,(eW (fun (w:Int)=>step w) 0).bind (fun (r5:Unit ⊕ Int)=>Sum.elim (fun z6=>some (-1)) (fun z7=>some z7) r5) = some i ∧ decide (i ≥ 0) = l.any p:=by
 obtain ⟨r,h1,h2⟩:=aCS (step:=fun (w:Int)=>step w) (fun k:Nat=>(k:Int)) l p (fun k x hx=>by
  have:=qM hx
  have e:=h k x hx
  rw [dL (by omega)] at e
  exact e) he
 have e0:eW (fun (w:Int)=>step w) 0 = some r:=h1
 rw [e0,Option.bind_some]
 rcases h2 with ⟨rfl,h3⟩ | ⟨k,rfl,h3⟩
 ·exact ⟨-1,rfl,by rw [h3]; rfl⟩
 ·exact ⟨k,rfl,by rw [h3]; simp⟩
def eqE (a b:aA):Bool:=(a.Kind == b.Kind) && ((a.Room == b.Room) && ((a.Day == b.Day) && ((a.No == b.No) && ((a.From == b.From) && ((a.To == b.To) && ((a.Currency == b.Currency) && ((a.Due == b.Due) && (a.Sum == b.Sum))))))))
theorem P9 {a b:aA}:eqE a b = true ↔ a = b:=by
 unfold eqE
 cases a; cases b
 simp
theorem aDk (a:aA):eqE a a = true:=P9.2 rfl
def aGp (room day:Int) (e:aA):Bool:=(e.Kind == 3) && (e.Room == room) && decide (e.Day <= day) && decide (day <= e.Due)
def D3 (s:List aA) (room day:Int):Bool:=s.any (aGp room day)
def aFY (kind no from_:Int) (e:aA):Bool:=(e.Kind == kind) && (e.No == no) && (e.From == from_)
def KP (v:List aA) (kind no from_:Int):Bool:=v.any (aFY kind no from_)
def aCI (e x:aA):Bool:=(x.Kind == 0) && (x.No == e.No) && !eqE x e
def MF (v:List aA) (e:aA):Bool:=v.any (aCI e)
theorem OL {s:List aA} (hs:s.length <= 100000) (room day:Int):pL s room day = some (D3 s room day):=by
 obtain ⟨i,h1,h2⟩:=KA (step:=fun w=>bG s room day w) s hs (aGp room day) (fun k x hx=>by
  show bG s room day k = _
  unfold bG
  simp only [fZ hx,if_true,mO hx,Option.bind_some]
  have:kW x room day = some (aGp room day x):=by
   unfold kW aGp
   by_cases c1:x.Kind = 3 <;> by_cases c2:x.Room = room <;> by_cases c3:x.Day <= day <;> simp [c1,c2,c3]
  rw [this,Option.bind_some]) (by
  show bG s room day s.length = _
  unfold bG
  rw [if_neg (by simp)])
 unfold pL cE cP dC
 rw [h1,Option.bind_some,h2]
 rfl
theorem aFX {v:List aA} (hv:v.length <= 100000) (kind no from_:Int):gN kind no from_ v = some (KP v kind no from_):=by
 obtain ⟨i,h1,h2⟩:=KA (step:=fun w=>bD v kind no from_ w) v hv (aFY kind no from_) (fun k x hx=>by
  show bD v kind no from_ k = _
  unfold bD
  simp only [fZ hx,if_true,mO hx,Option.bind_some]
  have:iP x kind no from_ = some (aFY kind no from_ x):=by
   unfold iP aFY
   by_cases c1:x.Kind = kind <;> by_cases c2:x.No = no <;> simp [c1,c2]
  rw [this,Option.bind_some]) (by
  show bD v kind no from_ v.length = _
  unfold bD
  rw [if_neg (by simp)])
 unfold gN cH cQ dA
 rw [h1,Option.bind_some,h2]
 rfl
theorem aE5 {v:List aA} (hv:v.length <= 100000) (e:aA):bX v e = some (MF v e):=by
 obtain ⟨i,h1,h2⟩:=KA (step:=fun w=>bE v e w) v hv (aCI e) (fun k x hx=>by
  show bE v e k = _
  unfold bE
  simp only [fZ hx,if_true,mO hx,Option.bind_some]
  have:jT x e = some (aCI e x):=by
   unfold jT aCI eqE
   by_cases c1:x.Kind = 0 <;> by_cases c2:x.No = e.No <;> simp [c1,c2]
  rw [this,Option.bind_some]) (by
  show bE v e v.length = _
  unfold bE
  rw [if_neg (by simp)])
 unfold bX cU dB
 rw [h1,Option.bind_some,h2]
 rfl
theorem TW {v:List aA} (hv:v.length <= 100000) (e:aA):cG v e = some (v.any (eqE e)):=by
 obtain ⟨i,h1,h2⟩:=KA (step:=fun w=>bJ v e w) v hv (eqE e) (fun k x hx=>by
  show bJ v e k = _
  unfold bJ
  simp only [fZ hx,if_true,mO hx,Option.bind_some]
  rfl) (by
  show bJ v e v.length = _
  unfold bJ
  rw [if_neg (by simp)])
 unfold cG dH d9
 rw [h1,Option.bind_some,h2]
def VP (n r c:Int) (e:aA):Bool:=M8 n r e && (e.Kind == 3) && decide (e.Day <= c)
def wP (n r c:Int) (l:List aA):List aA:=l.filter (VP n r c)
def G4 (n r c:Int) (s:List aA) (e:aA):Bool:=M8 n r e && decide (e.Kind <= 2) && decide (e.Day <= c) && D3 s e.Room e.Day
def yH (n r c:Int) (l:List aA):List aA:=l.filter (G4 n r c (wP n r c l))
def BI (c:Int) (v s:List aA) (e:aA):Bool:=(e.Kind == 0) && !MF v e && D3 s e.Room c && KP v 1 e.No e.To && !KP v 2 e.No e.From && !KP v 2 e.No e.To
def B5 (c:Int) (v s out:List aA) (e:aA):List aA:=if (BI c v s e && !out.any (eqE e)) = true then out ++ [e] else out
def xF (c:Int) (v s:List aA):List aA:=v.foldl (B5 c v s) []
def fG (n r c:Int) (l:List aA):List aA:=isK (fun (x:aA)=>x.No) (xF c (yH n r c l) (wP n r c l))
def sB (n r c:Int) (l:List aA):Bool:=RU n r && DF c 100001 && decide (l.length <= 400)
theorem GM (n r c:Int) (l:List aA):qP n r c l = some (sB n r c l):=by
 unfold qP sB RU
 simp only [EE,Option.bind_some]
 generalize DF (IntKind.wrap .i64 (n - 1)) 40 = c1
 generalize DF (IntKind.wrap .i64 (r - 1)) 8 = c2
 generalize DF c 100001 = c3
 cases c1 <;> cases c2 <;> cases c3 <;> simp
 omega
theorem OR {α:Type} {f:List α->α->List α} (hf:∀ o x,f o x = o ∨ f o x = o ++ [x]):∀ (l o:List α),(l.foldl f o).length <= o.length + l.length
 | [],o=>by simp
 | x :: l,o=>by
  rw [List.foldl_cons]
  have:=OR hf l (f o x)
  rcases hf o x with e | e <;> rw [e] at this ⊢ <;> simp only [List.length_append,List.length_cons,List.length_nil] at this ⊢ <;> omega
theorem aDQ {l:List aA} (hl:l.length <= 400) (n r c:Int):nU n r c l 0 [] = some (wP n r c l):=by
 unfold nU
 have h:=pS (step:=fun (w:Int × (List aA))=>fK n r c l w.1 w.2) (fun k a=>((k:Int),a)) l (fun out x=>if VP n r c x = true then out ++ [x] else out) (fun k a=>a.length <= k) id (fun k a x hx hI=>by
  have hk:=qM hx
  have w3:IntKind.wrap .i64 ((k:Int) + 1) = ((k + 1:Nat):Int):=dL (by omega)
  constructor
  ·show fK n r c l k a = _
   unfold fK VP
   simp only [fZ hx,if_true,mO hx,Option.bind_some,CK,aEK,w3]
   by_cases c1:M8 n r x = true
   ·by_cases c2:x.Kind = 3
    ·by_cases c3:x.Day <= c
     ·simp only [c1,c2,c3,if_true,beq_self_eq_true,decide_true,Bool.and_self]
      rw [if_pos (by omega)]
     ·simp [c1,c2,c3]
    ·simp [c1,c2]
   ·simp [c1]
  ·split
   ·rw [List.length_append,List.length_singleton]; omega
   ·omega) (fun a hI=>by
  show fK n r c l l.length a = _
  unfold fK
  rw [if_neg (by simp)]
  rfl) [] (Nat.le_refl _)
 rw [BJ] at h
 exact h.1
theorem aDE {l s:List aA} (hl:l.length <= 400) (hs:s.length <= 400) (n r c:Int):nO n r c l s 0 [] = some (l.filter (G4 n r c s)):=by
 unfold nO
 have h:=pS (step:=fun (w:Int × (List aA))=>fN n r c l s w.1 w.2) (fun k a=>((k:Int),a)) l (fun out x=>if G4 n r c s x = true then out ++ [x] else out) (fun k a=>a.length <= k) id (fun k a x hx hI=>by
  have hk:=qM hx
  have w3:IntKind.wrap .i64 ((k:Int) + 1) = ((k + 1:Nat):Int):=dL (by omega)
  constructor
  ·show fN n r c l s k a = _
   unfold fN G4
   simp only [fZ hx,if_true,mO hx,Option.bind_some,CK,aEK,w3,OL (show s.length <= 100000 by omega)]
   by_cases c1:M8 n r x = true
   ·by_cases c2:x.Kind <= 2
    ·by_cases c3:x.Day <= c
     ·by_cases c4:D3 s x.Room x.Day = true
      ·simp only [c1,c2,c3,c4,if_true,beq_self_eq_true,decide_true,Bool.and_self]
       rw [if_pos (by omega)]
      ·simp [c1,c2,c3,c4]
     ·simp [c1,c2,c3]
    ·simp [c1,c2]
   ·simp [c1]
  ·split
   ·rw [List.length_append,List.length_singleton]; omega
   ·omega) (fun a hI=>by
  show fN n r c l s l.length a = _
  unfold fN
  rw [if_neg (by simp)]
  rfl) [] (Nat.le_refl _)
 rw [BJ] at h
 exact h.1
theorem aHN {v s:List aA} (hv:v.length <= 400) (hs:s.length <= 400) (c:Int):kY c v s 0 [] = some (xF c v s):=by
 unfold kY
 have h:=pS (step:=fun (w:Int × (List aA))=>fL c v s w.1 w.2) (fun k a=>((k:Int),a)) v (B5 c v s) (fun k a=>a.length <= k) id (fun k a x hx hI=>by
  have hk:=qM hx
  have w3:IntKind.wrap .i64 ((k:Int) + 1) = ((k + 1:Nat):Int):=dL (by omega)
  constructor
  ·show fL c v s k a = _
   unfold fL B5 BI
   simp only [fZ hx,if_true,mO hx,Option.bind_some,w3,OL (show s.length <= 100000 by omega),aE5 (show v.length <= 100000 by omega),aFX (show v.length <= 100000 by omega),TW (show a.length <= 100000 by omega)]
   by_cases c1:x.Kind = 0
   ·have c1' : (x.Kind != 0) = false:=by simp [c1]
    have c1'' : (x.Kind == 0) = true:=by simp [c1]
    rw [c1',c1'',if_neg (by decide)]
    have hl:(a.length + 1) * 72 <= 140737488355328:=by omega
    generalize MF v x = b1
    generalize a.any (eqE x) = b2
    generalize D3 s x.Room c = b3
    generalize KP v 1 x.No x.To = b4
    generalize KP v 2 x.No x.From = b5
    generalize KP v 2 x.No x.To = b6
    cases b1 <;> cases b2 <;> cases b3 <;> cases b4 <;> cases b5 <;> cases b6 <;> simp [hl]
   ·simp [c1]
  ·unfold B5
   split
   ·rw [List.length_append,List.length_singleton]; omega
   ·omega) (fun a hI=>by
  show fL c v s v.length a = _
  unfold fL
  rw [if_neg (by simp)]
  rfl) [] (Nat.le_refl _)
 exact h.1
theorem IA (c:Int) (v s:List aA):∀ (l out:List aA),out.Nodup->(l.foldl (B5 c v s) out).Nodup ∧ ∀ x,x ∈ l.foldl (B5 c v s) out ↔ x ∈ out ∨ (x ∈ l ∧ BI c v s x = true)
 | [],out,h=>⟨h,fun x=>by simp⟩
 | y :: l,out,h=>by
  rw [List.foldl_cons]
  have key:(B5 c v s out y).Nodup ∧ ∀ x,x ∈ B5 c v s out y ↔ x ∈ out ∨ (x = y ∧ BI c v s x = true):=by
   unfold B5
   have hm:out.any (eqE y) = true ↔ y ∈ out:=by
    rw [List.any_eq_true]
    exact ⟨fun ⟨z,h1,h2⟩=>by rw [P9.1 h2]; exact h1,fun h1=>⟨y,h1,aDk y⟩⟩
   by_cases cy:BI c v s y = true
   ·by_cases hy:y ∈ out
    ·rw [hm.2 hy,if_neg (by simp)]
     exact ⟨h,fun x=>⟨.inl,fun q=>q.elim id fun q=>by rw [q.1]; exact hy⟩⟩
    ·have:out.any (eqE y) = false:=by
      rw [Bool.eq_false_iff]; exact fun q=>hy (hm.1 q)
     rw [this,if_pos (by simp [cy])]
     refine ⟨List.nodup_append.2 ⟨h,by simp,fun a ha b hb=>?_⟩,fun x=>?_⟩
     ·rw [List.mem_singleton] at hb
      subst hb
      exact fun e=>hy (e ▸ ha)
     ·rw [List.mem_append,List.mem_singleton]
      exact ⟨fun q=>q.elim .inl fun q=>.inr ⟨q,by rw [q]; exact cy⟩,fun q=>q.elim .inl fun q=>.inr q.1⟩
   ·rw [if_neg (by simp [cy])]
    exact ⟨h,fun x=>⟨.inl,fun q=>q.elim id fun q=>absurd (q.1 ▸ q.2) cy⟩⟩
  obtain ⟨h1,h2⟩:=IA c v s l _ key.1
  refine ⟨h1,fun x=>?_⟩
  rw [h2,key.2,List.mem_cons]
  constructor
  ·rintro ((q | q) | q)
   ·exact .inl q
   ·exact .inr ⟨.inl q.1,q.2⟩
   ·exact .inr ⟨.inr q.1,q.2⟩
  ·rintro (q | ⟨q | q,q2⟩)
   ·exact .inl (.inl q)
   ·exact .inl (.inr ⟨q,q2⟩)
   ·exact .inr ⟨q,q2⟩
theorem D7 {c:Int} {v s:List aA} {x:aA}:x ∈ xF c v s ↔ x ∈ v ∧ BI c v s x = true:=by
 have:=(IA c v s v [] List.nodup_nil).2 x
 simpa [xF] using this
theorem JA (c:Int) (v s:List aA):(xF c v s).Nodup:=(IA c v s v [] List.nodup_nil).1
theorem OH {c:Int} {v s:List aA} {x y:aA} (hx:x ∈ xF c v s) (hy:y ∈ xF c v s) (h:x.No = y.No):x = y:=by
 obtain ⟨h1,h2⟩:=D7.1 hx
 obtain ⟨h3,h4⟩:=D7.1 hy
 unfold BI at h2 h4
 simp only [Bool.and_eq_true,Bool.not_eq_true',beq_iff_eq] at h2 h4
 have h5:MF v y = false:=h4.1.1.1.1.2
 unfold MF at h5
 rw [List.any_eq_false] at h5
 have h6:=h5 x h1
 unfold aCI at h6
 rw [h2.1.1.1.1.1,h,Bool.not_eq_true] at h6
 simp only [beq_self_eq_true,Bool.and_self,Bool.true_and,Bool.not_eq_false'] at h6
 exact P9.1 h6
theorem TD {α:Type} {key:α->Int}:∀ {l:List α},l.Nodup->(∀ x ∈ l,∀ y ∈ l,key x = key y->x = y)->N6 key l = true
 | [],_,_=>rfl
 | r :: l,h,hk=>by
  obtain ⟨h1,h2⟩:=List.nodup_cons.1 h
  show (l.all (fun s=>decide (key s ≠ key r)) && N6 key l) = true
  rw [TD h2 fun x hx y hy=>hk x (List.mem_cons_of_mem _ hx) y (List.mem_cons_of_mem _ hy),Bool.and_true,List.all_eq_true]
  intro x hx
  rw [decide_eq_true_eq]
  intro e
  have:=hk x (List.mem_cons_of_mem _ hx) r List.mem_cons_self e
  exact h1 (this ▸ hx)
theorem MV {α:Type} (p:α->Bool) (l:List α):(l.filter p).length <= l.length:=List.length_filter_le p l
theorem aCj (c:Int) (v s o:List aA) (x:aA):B5 c v s o x = o ∨ B5 c v s o x = o ++ [x]:=by
 unfold B5
 split
 ·exact .inr rfl
 ·exact .inl rfl
theorem aAI (c:Int) (v s:List aA):(xF c v s).length <= v.length:=by
 have:=OR (aCj c v s) v []
 simpa [xF] using this
theorem aD3 {n r:Int} {e:aA} (h:M8 n r e = true):0 <= e.No ∧ e.No < 1000:=by
 unfold M8 at h
 rw [Bool.and_eq_true] at h
 exact EO.1 h.2
theorem OE {n r c:Int} {s l:List aA} {e:aA} (h:e ∈ l.filter (G4 n r c s)):e ∈ l ∧ M8 n r e = true ∧ e.Kind <= 2 ∧ e.Day <= c ∧ D3 s e.Room e.Day = true:=by
 obtain ⟨h1,h2⟩:=List.mem_filter.1 h
 unfold G4 at h2
 simp only [Bool.and_eq_true,decide_eq_true_eq] at h2
 exact ⟨h1,h2.1.1.1,h2.1.1.2,h2.1.2,h2.2⟩
theorem FM {n r c:Int} {l:List aA} (h:sB n r c l = true):kQ n r c l = some (fG n r c l):=by
 have hl:l.length <= 400:=by
  unfold sB at h
  rw [Bool.and_eq_true,decide_eq_true_eq] at h
  exact h.2
 have h1:(wP n r c l).length <= 400:=Nat.le_trans (MV _ _) hl
 have h2:(yH n r c l).length <= 400:=Nat.le_trans (MV _ _) hl
 have h3:=aAI c (yH n r c l) (wP n r c l)
 have hok:okK (fun (x:aA)=>x.No) (xF c (yH n r c l) (wP n r c l)) = true:=by
  unfold okK
  rw [TD (JA _ _ _) fun x hx y hy e=>OH hx hy e,Bool.and_true,Bool.and_eq_true,decide_eq_true_eq,List.all_eq_true]
  refine ⟨fun x hx=>?_,by omega⟩
  rw [decide_eq_true_eq]
  exact aD3 (OE (D7.1 hx).1).2.1
 unfold kQ
 rw [GM,h,Option.bind_some,if_neg (by decide),aDQ hl,Option.bind_some,aDE hl h1,Option.bind_some]
 show (kY c (yH n r c l) (wP n r c l) 0 []).bind _ = _
 rw [aHN h2 h1,Option.bind_some]
 unfold dZ
 rw [if_pos hok]
 rfl
end Go.Proofs.Ytiimibimkpimbaa
set_option linter.unusedVariables false
set_option linter.unusedSimpArgs false
namespace Go.Proofs.Ytiimibimkpimbaa
open Go.RowKit Vm
theorem JE {α:Type} {k k' : Int} (v:α) (h:k ≠ k'):∀ l:List (Int × α),(rR k v l).find? (fun p=>decide (p.1 = k')) = l.find? fun p=>decide (p.1 = k')
 | []=>by simp [rR,h]
 | y :: l=>by
  unfold rR
  split
  ·rw [List.find?_cons]
   simp [h]
  ·rw [List.find?_cons,List.find?_cons,JE v h l]
theorem IK {α:Type} {k:Int} (v:α):∀ l:List (Int × α),(∀ p ∈ l,p.1 ≠ k)->(rR k v l).find? (fun p=>decide (p.1 = k)) = some (k,v)
 | [],_=>by simp [rR]
 | y :: l,h=>by
  unfold rR
  split
  ·rw [List.find?_cons]
   simp
  ·have:=h y List.mem_cons_self
   rw [List.find?_cons,IK v l fun p hp=>h p (List.mem_cons_of_mem _ hp)]
   simp [this]
theorem I6 {α:Type} {k k' : Int} (h:k ≠ k'):∀ l:List (Int × α),(v8 k l).find? (fun p=>decide (p.1 = k')) = l.find? fun p=>decide (p.1 = k')
 | []=>rfl
 | y :: l=>by
  unfold v8
  rw [List.filter_cons]
  have ih:=I6 h l
  unfold v8 at ih
  by_cases e:y.1 = k
  ·rw [if_neg (by simp [e]),ih,List.find?_cons]
   have:¬ y.1 = k':=fun q=>h (e.symm.trans q)
   simp [this]
  ·rw [if_pos (by simp [e]),List.find?_cons,List.find?_cons,ih]
theorem F0 {α:Type} (k k' : Int) (v z:α) (m:List (Int × α)):fT k' z (fM k v m) = if k' = k then v else fT k' z m:=by
 unfold fT fM
 by_cases h:k' = k
 ·subst h
  rw [if_pos rfl,IK v _ fun p hp=>by
   have:=(List.mem_filter.1 hp).2
   simpa using this]
 ·rw [if_neg h,JE v (fun q=>h q.symm),I6 fun q=>h q.symm]
theorem BV {α:Type} (k:Int) (v:α) (m:List (Int × α)):(fM k v m).length <= m.length + 1:=by
 unfold fM
 rw [LC]
 have:=List.length_filter_le (fun p:Int × α=>!decide (p.1 = k)) m
 unfold v8
 omega
def M9 (g:aE) (e:aA):Bool:=(e.Currency == g.currency) && (e.Due == g.due)
def wZ (e:aA):aE:=⟨e.Currency,e.Due⟩
theorem aH4 (e:aA):vQ e = some (wZ e):=rfl
theorem KF {g:aE} {e:aA}:M9 g e = true ↔ wZ e = g:=by
 cases g
 simp [M9,wZ]
def pW (sm:aA->Int) (e:aA):aK:=⟨e.From,e.To,sm e⟩
def T6 (g:aE) (sm:aA->Int) (a:MI × List aK × List Int) (e:aA):MI × List aK × List Int :=
 if M9 g e = true then (fM e.No 0 a.1,if 0 < sm e then a.2.1 ++ [pW sm e] else a.2.1,if 0 < sm e then a.2.2 ++ [e.No] else a.2.2) else a
def I1 (g:aE) (o:List aA):List aA:=o.filter (M9 g)
def uH (g:aE) (sm:aA->Int) (o:List aA):List aA:=o.filter fun e=>M9 g e && decide (0 < sm e)
def wB (l:List aA) (m:MI):MI:=l.foldl (fun m e=>fM e.No 0 m) m
theorem KN (g:aE) (sm:aA->Int):∀ (o:List aA) (m:MI) (d:List aK) (u:List Int),o.foldl (T6 g sm) (m,d,u) = (wB (I1 g o) m,d ++ (uH g sm o).map (pW sm),u ++ (uH g sm o).map (·.No))
 | [],m,d,u=>by simp [wB,I1,uH]
 | e :: o,m,d,u=>by
  rw [List.foldl_cons]
  by_cases c:M9 g e = true
  ·have e1:T6 g sm (m,d,u) e = (fM e.No 0 m,if 0 < sm e then d ++ [pW sm e] else d,if 0 < sm e then u ++ [e.No] else u):=if_pos c
   rw [e1,KN g sm o]
   unfold I1 uH wB
   rw [List.filter_cons,if_pos c,List.filter_cons,c,Bool.true_and,List.foldl_cons]
   by_cases c2:0 < sm e
   ·rw [if_pos c2,if_pos c2,if_pos (by simpa using c2)]
    simp [pW]
   ·rw [if_neg c2,if_neg c2,if_neg (by simpa using c2)]
  ·have e1:T6 g sm (m,d,u) e = (m,d,u):=if_neg c
   rw [e1,KN g sm o]
   unfold I1 uH wB
   rw [List.filter_cons,if_neg c,List.filter_cons,if_neg (by simp [c])]
theorem EB:∀ (l:List aA) (m:MI),(wB l m).length <= m.length + l.length
 | [],m=>Nat.le_refl _
 | e :: l,m=>by
  have h1:=EB l (fM e.No 0 m)
  have h2:=BV e.No (0:Int) m
  show (wB l (fM e.No 0 m)).length <= _
  rw [List.length_cons]
  omega
theorem D5 (k:Int):∀ (l:List aA) (m:MI),fT k 0 (wB l m) = if (∃ e ∈ l,e.No = k) then 0 else fT k 0 m
 | [],m=>by simp [wB]
 | e :: l,m=>by
  show fT k 0 (wB l (fM e.No 0 m)) = _
  rw [D5 k l,F0]
  by_cases h1:∃ x ∈ l,x.No = k
  ·rw [if_pos h1,if_pos]
   obtain ⟨x,hx,e'⟩:=h1
   exact ⟨x,List.mem_cons_of_mem _ hx,e'⟩
  ·rw [if_neg h1]
   by_cases h2:k = e.No
   ·rw [if_pos h2,if_pos ⟨e,List.mem_cons_self,h2.symm⟩]
   ·rw [if_neg h2,if_neg]
    rintro ⟨x,hx,e'⟩
    rcases List.mem_cons.1 hx with rfl | hx
    ·exact h2 e'.symm
    ·exact h1 ⟨x,hx,e'⟩
def oH:List Int->List Int->MI->MI
 | k :: u,v :: x,m=>oH u x (fM k v m)
 | _,_,m=>m
theorem MU:∀ (u x:List Int) (m:MI),(oH u x m).length <= m.length + x.length
 | [],x,m=>by simp [oH]
 | _ :: _,[],m=>by simp [oH]
 | k :: u,v :: x,m=>by
  have h1:=MU u x (fM k v m)
  have h2:=BV k v m
  show (oH u x (fM k v m)).length <= _
  rw [List.length_cons]
  omega
theorem zU {k:Int}:∀ (u x:List Int) (m:MI),k ∉ u->fT k 0 (oH u x m) = fT k 0 m
 | [],x,m,_=>by simp [oH]
 | _ :: _,[],m,_=>by simp [oH]
 | i :: u,v :: x,m,h=>by
  show fT k 0 (oH u x (fM i v m)) = _
  rw [zU u x _ fun q=>h (List.mem_cons_of_mem _ q),F0,if_neg fun q=>h (by rw [q]; exact List.mem_cons_self)]
theorem MA:∀ (u x:List Int) (m:MI),u.Nodup->u.length = x.length->u.map (fun k=>fT k 0 (oH u x m)) = x
 | [],[],m,_,_=>rfl
 | [],_ :: _,m,_,h=>by cases h
 | _ :: _,[],m,_,h=>by cases h
 | k :: u,v :: x,m,hn,h=>by
  obtain ⟨h1,h2⟩:=List.nodup_cons.1 hn
  show fT k 0 (oH u x (fM k v m)) :: u.map (fun k'=>fT k' 0 (oH u x (fM k v m))) = _
  rw [MA u x _ h2 (by simpa using h),zU u x _ h1,F0,if_pos rfl]
noncomputable def rV (n:Int) (d:List aK):List Int:=match gG n d with
 | some r=>r.1
 | none=>[]
noncomputable def lB (n:Int) (g:aE) (sm:aA->Int) (o:List aA) (m:MI):MI :=
 oH ((uH g sm o).map (·.No)) (rV n ((uH g sm o).map (pW sm))) (wB (I1 g o) m)
def uB (o:List aA):Prop:=o.Pairwise fun a b=>a.No ≠ b.No
theorem uB.one {o:List aA} (h:uB o):∀ a ∈ o,∀ b ∈ o,a.No = b.No->a = b:=by
 induction o with
 | nil=>intro a ha; cases ha
 | cons x o ih =>
  obtain ⟨h1,h2⟩:=List.pairwise_cons.1 h
  intro a ha b hb e
  rcases List.mem_cons.1 ha with e1 | ha'
  ·rcases List.mem_cons.1 hb with e2 | hb'
   ·rw [e1,e2]
   ·rw [e1] at e
    exact absurd e (h1 b hb')
  ·rcases List.mem_cons.1 hb with e2 | hb'
   ·rw [e2] at e
    exact absurd e.symm (h1 a ha')
   ·exact ih h2 a ha' b hb' e
theorem uB.nos {o:List aA} (h:uB o) (p:aA->Bool):((o.filter p).map (·.No)).Nodup:=by
 have h1:(o.filter p).Pairwise fun a b=>a.No ≠ b.No:=List.Pairwise.filter p h
 exact List.pairwise_map.2 h1
def cl (m:MI) (e:aA):Int:=fT e.No 0 m
theorem aB9 {n:Int} {g:aE} {sm:aA->Int} {o:List aA} {m:MI} (ho:uB o) (hl:(rV n ((uH g sm o).map (pW sm))).length = (uH g sm o).length) :
  (uH g sm o).map (cl (lB n g sm o m)) = rV n ((uH g sm o).map (pW sm)):=by
 have:=MA ((uH g sm o).map (·.No)) (rV n ((uH g sm o).map (pW sm))) (wB (I1 g o) m) (ho.nos _) (by rw [List.length_map,hl])
 rw [List.map_map] at this
 exact this
theorem CZ {n:Int} {g:aE} {sm:aA->Int} {o:List aA} {m:MI} (ho:uB o) {e:aA} (he:e ∈ o) (hg:M9 g e = true) (hs:¬ 0 < sm e):cl (lB n g sm o m) e = 0:=by
 unfold cl lB
 rw [zU,D5,if_pos ⟨e,List.mem_filter.2 ⟨he,hg⟩,rfl⟩]
 intro q
 obtain ⟨x,hx,e'⟩:=List.mem_map.1 q
 obtain ⟨h1,h2⟩:=List.mem_filter.1 hx
 have:=ho.one x h1 e he e'
 subst this
 rw [Bool.and_eq_true,decide_eq_true_eq] at h2
 exact hs h2.2
theorem B2 {n:Int} {g:aE} {sm:aA->Int} {o:List aA} {m:MI} (ho:uB o) {e:aA} (he:e ∈ o) (hg:M9 g e = false):cl (lB n g sm o m) e = cl m e:=by
 unfold cl lB
 rw [zU,D5,if_neg]
 ·rintro ⟨x,hx,e'⟩
  obtain ⟨h1,h2⟩:=List.mem_filter.1 hx
  have:=ho.one x h1 e he e'
  subst this
  rw [hg] at h2
  cases h2
 ·intro q
  obtain ⟨x,hx,e'⟩:=List.mem_map.1 q
  obtain ⟨h1,h2⟩:=List.mem_filter.1 hx
  have:=ho.one x h1 e he e'
  subst this
  rw [hg] at h2
  cases h2
theorem KW (n:Int) (g:aE) (sm:aA->Int) (o:List aA) (m:MI) (hl:(rV n ((uH g sm o).map (pW sm))).length = (uH g sm o).length):(lB n g sm o m).length <= m.length + 2 * o.length:=by
 have h1:=MU ((uH g sm o).map (·.No)) (rV n ((uH g sm o).map (pW sm))) (wB (I1 g o) m)
 have h2:=EB (I1 g o) m
 have h3:(uH g sm o).length <= o.length:=List.length_filter_le _ _
 have h4:(I1 g o).length <= o.length:=List.length_filter_le _ _
 unfold lB
 omega
theorem IP {step:Int × MI × List aK × List Int->Option ((Int × MI × List aK × List Int) ⊕ (MI × List aK × List Int))} (g:aE) (sm:aA->Int) (o:List aA) (hl:o.length <= 400) (m:MI) (hm:m.length <= 100000000000)
  (h:∀ (k:Nat) e m d u,o[k]? = some e->m.length < 1000000000000->d.length <= 400->u.length <= 400->step ((k:Int),m,d,u) = some (.inl (((k + 1:Nat):Int),T6 g sm (m,d,u) e)))
  (he:∀ a,step ((o.length:Int),a) = some (.inr a)) :
  eW step (0,m,[],[]) = some (wB (I1 g o) m,(uH g sm o).map (pW sm),(uH g sm o).map (·.No)):=by
 have:=(pS (step:=step) (fun k a=>((k:Int),a)) o (T6 g sm) (fun k a=>a.1.length <= m.length + k ∧ a.2.1.length <= k ∧ a.2.2.length <= k) id (fun k a x hx hI=>by
  obtain ⟨m',d,u⟩:=a
  obtain ⟨h1,h2,h3⟩:=hI
  have hk:=qM hx
  dsimp only at h1 h2 h3
  refine ⟨h k x m' d u hx (by omega) (by omega) (by omega),?_⟩
  unfold T6
  have:=BV x.No (0:Int) m'
  split
  ·refine ⟨by show (fM x.No 0 m').length <= _; omega,?_,?_⟩
   ·show (if 0 < sm x then d ++ [pW sm x] else d).length <= k + 1
    split
    ·rw [List.length_append,List.length_singleton]; omega
    ·omega
   ·show (if 0 < sm x then u ++ [x.No] else u).length <= k + 1
    split
    ·rw [List.length_append,List.length_singleton]; omega
    ·omega
  ·exact ⟨by show m'.length <= _; omega,by show d.length <= _; omega,by show u.length <= _; omega⟩) (fun a _=>he a) (m,[],[]) ⟨Nat.le_refl _,Nat.le_refl _,Nat.le_refl _⟩).1
 rw [KN] at this
 simpa using this
theorem SY {step:Int × MI->Option ((Int × MI) ⊕ MI)} (u x:List Int) (hl:x.length = u.length) (hu:u.length <= 400) (m:MI) (hm:m.length <= 100000000000)
  (h:∀ (k:Nat) i v m,u[k]? = some i->x[k]? = some v->m.length < 1000000000000->step ((k:Int),m) = some (.inl (((k + 1:Nat):Int),fM i v m)))
  (he:∀ m,step ((x.length:Int),m) = some (.inr m)) :
  eW step (0,m) = some (oH u x m):=by
 have key:∀ (u' x' p q:List Int) (m:MI),u = p ++ u'->x = q ++ x'->p.length = q.length->m.length <= 100000000000 + p.length->eW step ((p.length:Int),m) = some (oH u' x' m):=by
  intro u'
  induction u' with
  | nil =>
   intro x' p q m e1 e2 e3 hm
   have e4:x' = []:=by
    rw [e1,e2] at hl
    simp only [List.length_append,List.length_nil] at hl
    exact List.eq_nil_of_length_eq_zero (by omega)
   subst e4
   have:(p.length:Int) = (x.length:Int):=by rw [e2,List.append_nil,e3]
   rw [this,gP (he m)]
   rfl
  | cons i u' ih =>
   intro x' p q m e1 e2 e3 hm
   cases x' with
   | nil =>
    rw [e1,e2] at hl
    simp only [List.length_append,List.length_nil,List.length_cons] at hl
    omega
   | cons v x' =>
    have hp:p.length < u.length:=by rw [e1]; simp
    rw [gL (h p.length i v m (by rw [e1]; simp) (by rw [e2,e3]; simp) (by omega))]
    have hq:=BV i v m
    have:=ih x' (p ++ [i]) (q ++ [v]) (fM i v m) (by rw [e1]; simp) (by rw [e2]; simp) (by simp [e3]) (by rw [List.length_append,List.length_singleton]; omega)
    rw [List.length_append,List.length_singleton] at this
    exact this
 exact key u x [] [] m rfl rfl rfl (by simpa using hm)
end Go.Proofs.Ytiimibimkpimbaa
set_option linter.unusedVariables false
set_option linter.unusedSimpArgs false
namespace Go.Proofs.Ytiimibimkpimbaa
open Go.RowKit Vm
theorem R7 {n:Int} (h:dP n) {b:Int} (hb:b <= 4611686018427387904) (hw:DF (IntKind.wrap .i64 (n - 1)) b = true):1 <= n ∧ n <= b:=by
 obtain ⟨h1,h2⟩:=EO.1 hw
 obtain ⟨h3,h4⟩:=h
 by_cases e:n = -9223372036854775808
 ·subst e
  have:IntKind.wrap .i64 (-9223372036854775808 - 1) = 9223372036854775807:=by decide
  rw [this] at h2
  omega
 ·rw [j5 (by omega) (by omega)] at h1 h2
  exact ⟨by omega,by omega⟩
theorem aKT {n r:Int} (h:dP n) (hd:RU n r = true):1 <= n ∧ n <= 40:=by
 unfold RU at hd
 rw [Bool.and_eq_true] at hd
 exact R7 h (by omega) hd.1
structure sN (N:Nat) (o:List aA):Prop where
 len:o.length <= 100
 diff:uB o
 each:∀ e ∈ o,(0 <= e.From ∧ e.From < N) ∧ (0 <= e.To ∧ e.To < N) ∧ e.From ≠ e.To ∧ (1 <= e.Sum ∧ e.Sum <= 1099511627776) ∧ (0 <= e.No ∧ e.No < 1000) ∧ (0 <= e.Currency ∧ e.Currency < 8) ∧ (0 <= e.Due ∧ e.Due < 100001)
theorem H8 {α:Type} (key:α->Int) (r:α):∀ l,(NA key r l).Perm (r :: l)
 | []=>.refl _
 | y :: l=>by
  unfold NA
  split
  ·exact .refl _
  ·exact ((H8 key r l).cons y).trans (.swap r y l)
theorem F5 {α:Type} (key:α->Int):∀ l,(isK key l).Perm l
 | []=>.refl _
 | r :: l=>(H8 key r (isK key l)).trans ((F5 key l).cons r)
theorem I7 {α:Type} (key:α->Int) (r:α):∀ l:List α,l.Pairwise (fun a b=>key a <= key b)->(NA key r l).Pairwise (fun a b=>key a <= key b)
 | [],_=>by simp [NA]
 | y :: l,h=>by
  unfold NA
  obtain ⟨h1,h2⟩:=List.pairwise_cons.1 h
  split
  ·rename_i c
   refine List.pairwise_cons.2 ⟨fun z hz=>?_,h⟩
   rcases List.mem_cons.1 hz with rfl | hz
   ·omega
   ·have:=h1 z hz; omega
  ·rename_i c
   refine List.pairwise_cons.2 ⟨fun z hz=>?_,I7 key r l h2⟩
   rcases List.mem_cons.1 ((H8 key r l).mem_iff.1 hz) with rfl | hz
   ·omega
   ·exact h1 z hz
theorem LY {α:Type} (key:α->Int):∀ l:List α,(isK key l).Pairwise (fun a b=>key a <= key b)
 | []=>.nil
 | r :: l=>I7 key r _ (LY key l)
theorem aBr {n r c:Int} {l:List aA} {x:aA}:x ∈ fG n r c l ↔ x ∈ yH n r c l ∧ BI c (yH n r c l) (wP n r c l) x = true:=by
 unfold fG
 rw [(F5 _ _).mem_iff,D7]
theorem aE2 (n r c:Int) (l:List aA):(fG n r c l).Pairwise fun a b=>a.No < b.No:=by
 have h1:(fG n r c l).Pairwise fun a b=>a.No <= b.No:=LY (fun (x:aA)=>x.No) _
 have h2:(fG n r c l).Pairwise fun a b=>a ≠ b:=((F5 _ _).nodup_iff).2 (JA _ _ _)
 have hm:∀ a ∈ fG n r c l,a ∈ xF c (yH n r c l) (wP n r c l):=fun a ha=>(F5 _ _).mem_iff.1 ha
 refine (h1.and h2).imp_of_mem fun {a b} ha hb h=>?_
 have:a.No ≠ b.No:=fun e=>h.2 (OH (hm a ha) (hm b hb) e)
 omega
theorem WY (n r c:Int) (l:List aA):uB (fG n r c l):=(aE2 n r c l).imp fun h=>by omega
theorem TU {n r c:Int} {N:Nat} (hN:n = N) {l:List aA} (hw:∀ e ∈ l,dP e.Sum) (h:(fG n r c l).length <= 100):sN N (fG n r c l):=by
 refine ⟨h,WY n r c l,fun e he=>?_⟩
 obtain ⟨h1,h2⟩:=aBr.1 he
 obtain ⟨h3,h4,_⟩:=OE h1
 unfold BI at h2
 simp only [Bool.and_eq_true,beq_iff_eq] at h2
 have hk:e.Kind = 0:=h2.1.1.1.1.1
 have hno:=aD3 h4
 unfold M8 YM at h4
 rw [if_pos hk] at h4
 simp only [Bool.and_eq_true,EO,bne_iff_ne] at h4
 obtain ⟨⟨⟨⟨_,_⟩,⟨⟨⟨⟨⟨q1,q2⟩,q3⟩,q4⟩,q5⟩,q6⟩⟩,_⟩,_⟩:=h4
 subst hN
 exact ⟨q1,q2,q3,R7 (hw e h3) (by omega) (EO.2 q6),hno,q4,q5⟩
theorem YV {g:aE} {o:List aA} {e:aA}:e ∈ I1 g o ↔ e ∈ o ∧ M9 g e = true:=List.mem_filter
theorem ED {g:aE} {sm:aA->Int} {o:List aA} {e:aA}:e ∈ uH g sm o ↔ e ∈ o ∧ M9 g e = true ∧ 0 < sm e:=by
 unfold uH
 rw [List.mem_filter,Bool.and_eq_true,decide_eq_true_eq]
theorem FW {N:Nat} {o:List aA} (ho:sN N o) (hN:N <= 40) {sm:aA->Int} (hs:∀ e ∈ o,sm e <= e.Sum) (g:aE):FS N ((uH g sm o).map (pW sm)):=by
 refine ⟨hN,?_,fun i hi=>?_⟩
 ·rw [List.length_map]
  exact Nat.le_trans (List.length_filter_le _ _) ho.len
 ·have hm:=G9 _ i hi
  obtain ⟨e,he,h1⟩:=List.mem_map.1 hm
  obtain ⟨h2,_,h3⟩:=ED.1 he
  obtain ⟨q1,q2,q3,q4,_⟩:=ho.each e h2
  have:=hs e h2
  rw [← h1]
  exact ⟨q1,q2,q3,by show 1 <= sm e; omega,by show sm e <= _; omega⟩
theorem JD {N:Nat} {d:List aK} (h:FS N d):∃ q,gG N d = some (rV N d,q,0) ∧ SR N d (rV N d) q:=by
 have hR:=aHY N d
 rw [XP.2 ⟨N,rfl,h⟩] at hR
 obtain ⟨x,q,h1,h2⟩:=aJ9 h hR
 have:rV N d = x:=by unfold rV; rw [h1]
 rw [this]
 exact ⟨q,h1,h2⟩
theorem QV {N:Nat} {d:List aK} (h:FS N d):(rV N d).length = d.length:=by
 obtain ⟨q,_,h2⟩:=JD h
 exact h2.len
theorem Y2 {α β:Type} [Inhabited α] [Inhabited β] (f:α->β) {l:List α} {i:Nat} (h:i < l.length):el (l.map f) i = f (el l i):=jD f l i h
theorem MS {N:Nat} {L:List aA} {sm c:aA->Int} (h:FS N (L.map (pW sm))) (hx:L.map c = rV N (L.map (pW sm))):∀ e ∈ L,0 <= c e ∧ c e <= sm e:=by
 intro e he
 obtain ⟨q,_,hb⟩:=JD h
 obtain ⟨i,hi,rfl⟩:=PY he
 have h1:=hb.bald.lo i (by rw [List.length_map]; exact hi)
 have h2:=hb.bald.hi i (by rw [List.length_map]; exact hi)
 rw [← hx,Y2 c hi] at h1 h2
 unfold rC at h2
 rw [Y2 (pW sm) hi] at h2
 exact ⟨h1,h2⟩
def MJ (o:List aA) (m:MI):Prop:=∀ e ∈ o,0 <= cl m e ∧ cl m e <= e.Sum
section
variable {N:Nat} {o:List aA} (ho:sN N o) (hN:N <= 40)
include ho hN
theorem IJ {sm:aA->Int} (hs:∀ e ∈ o,sm e <= e.Sum) (g:aE) (m:MI):(rV N ((uH g sm o).map (pW sm))).length = (uH g sm o).length:=by
 rw [QV (FW ho hN hs g),List.length_map]
theorem EP {sm:aA->Int} (hs:∀ e ∈ o,sm e <= e.Sum) (g:aE) (m:MI):(uH g sm o).map (cl (lB N g sm o m)) = rV N ((uH g sm o).map (pW sm)) :=
 aB9 ho.diff (IJ ho hN hs g m)
theorem aBb {sm:aA->Int} (hs:∀ e ∈ o,sm e <= e.Sum) (g:aE) {m:MI} (hm:∀ e ∈ o,M9 g e = false->0 <= cl m e ∧ cl m e <= e.Sum):MJ o (lB N g sm o m):=by
 intro e he
 by_cases hg:M9 g e = true
 ·by_cases hp:0 < sm e
  ·have:=MS (FW ho hN hs g) (EP ho hN hs g m) e (ED.2 ⟨he,hg,hp⟩)
   have:=hs e he
   omega
  ·rw [CZ ho.diff he hg hp]
   have:=(ho.each e he).2.2.2.1
   omega
 ·rw [Bool.not_eq_true] at hg
  rw [B2 ho.diff he hg]
  exact hm e he hg
end
theorem aBn {g:aE} {sm sm' : aA->Int} {o:List aA} (h:∀ e ∈ o,sm e = sm' e):uH g sm o = uH g sm' o ∧ (uH g sm o).map (pW sm) = (uH g sm o).map (pW sm'):=by
 refine ⟨List.filter_congr fun e he=>by rw [h e he],List.map_congr_left fun e he=>?_⟩
 unfold pW
 rw [h e (ED.1 he).1]
noncomputable def tE (n:Int) (o:List aA) (a:MI × MB) (e:aA):MI × MB :=
 if fT (fC e.Currency e.Due) false a.2 = true then a else (lB n (wZ e) (fun x=>x.Sum) o a.1,fM (fC e.Currency e.Due) true a.2)
noncomputable def oZ (n:Int) (o:List aA):MI:=(o.foldl (tE n o) ([],[])).1
theorem aC4 {N:Nat} {o:List aA} (ho:sN N o) {a b:aA} (ha:a ∈ o) (hb:b ∈ o) (h:fC a.Currency a.Due = fC b.Currency b.Due):wZ a = wZ b:=by
 obtain ⟨_,_,_,_,_,a1,a2⟩:=ho.each a ha
 obtain ⟨_,_,_,_,_,b1,b2⟩:=ho.each b hb
 unfold fC at h
 unfold wZ
 rw [aE.mk.injEq]
 omega
theorem ZM {N:Nat} {o:List aA} (ho:sN N o) (g:aE):uH g (fun x=>x.Sum) o = I1 g o:=by
 unfold uH I1
 refine List.filter_congr fun e he=>?_
 have:=(ho.each e he).2.2.2.1
 rw [decide_eq_true (show 0 < e.Sum by omega),Bool.and_true]
structure FD (N:Nat) (o p:List aA) (a:MI × MB):Prop where
 seen:∀ e ∈ o,fT (fC e.Currency e.Due) false a.2 = true ↔ ∃ x ∈ p,wZ x = wZ e
 best:∀ e ∈ p,(I1 (wZ e) o).map (cl a.1) = rV N ((I1 (wZ e) o).map (pW fun x=>x.Sum))
 len1:a.1.length <= 200 * p.length
 len2:a.2.length <= p.length
theorem FD.step {N:Nat} {o:List aA} (ho:sN N o) (hN:N <= 40) {p:List aA} {a:MI × MB} (h:FD N o p a) (hp:∀ x ∈ p,x ∈ o) {e:aA} (he:e ∈ o):FD N o (p ++ [e]) (tE N o a e):=by
 unfold tE
 by_cases c:fT (fC e.Currency e.Due) false a.2 = true
 ·rw [if_pos c]
  obtain ⟨x,hx,ex⟩:=(h.seen e he).1 c
  refine ⟨fun y hy=>?_,fun y hy=>?_,by rw [List.length_append]; have:=h.len1; omega,by rw [List.length_append]; have:=h.len2; omega⟩
  ·rw [h.seen y hy]
   constructor
   ·rintro ⟨z,hz,q⟩
    exact ⟨z,List.mem_append_left _ hz,q⟩
   ·rintro ⟨z,hz,q⟩
    rcases List.mem_append.1 hz with hz | hz
    ·exact ⟨z,hz,q⟩
    ·rw [List.mem_singleton.1 hz] at q
     exact ⟨x,hx,ex.trans q⟩
  ·rcases List.mem_append.1 hy with hy | hy
   ·exact h.best y hy
   ·rw [List.mem_singleton.1 hy,← ex]
    exact h.best x hx
 ·rw [if_neg c]
  have hs:∀ x ∈ o,(fun x:aA=>x.Sum) x <= x.Sum:=fun x _=>Int.le_refl _
  have hl:=IJ ho hN hs (wZ e) a.1
  refine ⟨fun y hy=>?_,fun y hy=>?_,?_,?_⟩
  ·show fT (fC y.Currency y.Due) false (fM (fC e.Currency e.Due) true a.2) = true ↔ _
   rw [F0]
   by_cases q:fC y.Currency y.Due = fC e.Currency e.Due
   ·rw [if_pos q]
    exact ⟨fun _=>⟨e,List.mem_append_right _ (List.mem_singleton.2 rfl),(aC4 ho hy he q).symm⟩,fun _=>rfl⟩
   ·rw [if_neg q,h.seen y hy]
    constructor
    ·rintro ⟨z,hz,q⟩
     exact ⟨z,List.mem_append_left _ hz,q⟩
    ·rintro ⟨z,hz,q'⟩
     rcases List.mem_append.1 hz with hz | hz
     ·exact ⟨z,hz,q'⟩
     ·rw [List.mem_singleton.1 hz] at q'
      unfold wZ at q'
      rw [aE.mk.injEq] at q'
      exact absurd (by rw [q'.1,q'.2]) q
  ·show (I1 (wZ y) o).map (cl (lB N (wZ e) (fun x=>x.Sum) o a.1)) = _
   by_cases q:wZ y = wZ e
   ·rw [q]
    have:=EP ho hN hs (wZ e) a.1
    rw [ZM ho] at this
    exact this
   ·have hy' : y ∈ p:=by
     rcases List.mem_append.1 hy with hy | hy
     ·exact hy
     ·exact absurd (by rw [List.mem_singleton.1 hy]) q
    rw [← h.best y hy']
    refine List.map_congr_left fun z hz=>?_
    obtain ⟨z1,z2⟩:=YV.1 hz
    refine B2 ho.diff z1 ?_
    rw [Bool.eq_false_iff]
    intro q2
    exact q ((KF.1 z2).symm.trans (KF.1 q2))
  ·have h1:=KW N (wZ e) (fun x=>x.Sum) o a.1 hl
   have h2:=h.len1
   have h3:=ho.len
   rw [List.length_append,List.length_singleton]
   show (lB N (wZ e) (fun x=>x.Sum) o a.1).length <= _
   omega
  ·have h1:=BV (fC e.Currency e.Due) true a.2
   have h2:=h.len2
   rw [List.length_append,List.length_singleton]
   show (fM (fC e.Currency e.Due) true a.2).length <= _
   omega
theorem PC {N:Nat} {o:List aA} (ho:sN N o) (hN:N <= 40):FD N o o (o.foldl (tE N o) ([],[])):=by
 have key:∀ (r p:List aA) (a:MI × MB),o = p ++ r->FD N o p a->FD N o o (r.foldl (tE N o) a):=by
  intro r
  induction r with
  | nil =>
   intro p a e h
   rw [List.append_nil] at e
   rw [← e] at h
   exact h
  | cons x r ih =>
   intro p a e h
   rw [List.foldl_cons]
   exact ih (p ++ [x]) _ (by rw [e]; simp) (h.step ho hN (fun y hy=>by rw [e]; exact List.mem_append_left _ hy) (by rw [e]; simp))
 exact key o [] _ rfl ⟨fun e he=>(by simp [fT]),fun e he=>(by cases he),(by simp),(by simp)⟩
theorem XT {N:Nat} {o:List aA} (ho:sN N o) (hN:N <= 40) {e:aA} (he:e ∈ o):(I1 (wZ e) o).map (cl (oZ N o)) = rV N ((I1 (wZ e) o).map (pW fun x=>x.Sum)):=(PC ho hN).best e he
theorem aI6 {N:Nat} {o:List aA} (ho:sN N o) (hN:N <= 40) (g:aE):FS N ((I1 g o).map (pW fun x=>x.Sum)):=by
 rw [← ZM ho g]
 exact FW ho hN (fun x _=>Int.le_refl _) g
theorem aEh {N:Nat} {o:List aA} (ho:sN N o) (hN:N <= 40):MJ o (oZ N o):=fun e he =>
 MS (aI6 ho hN (wZ e)) (XT ho hN he) e (YV.2 ⟨he,KF.2 rfl⟩)
theorem aAg {N:Nat} {o:List aA} (ho:sN N o) (hN:N <= 40):(oZ N o).length <= 20000:=by
 have h1:=(PC ho hN).len1
 have h2:=ho.len
 unfold oZ
 omega
def pP (o:List aA) (m:MI):List aC:=(o.filter fun e=>decide (0 < cl m e)).map fun e=>⟨4,e.Room,e.No,cl m e⟩
def kL (no:Int) (o:List aA):aE:=o.foldl (fun g e=>if e.No = no then wZ e else g) ⟨0,0⟩
def vX (no:Int) (m:MI) (e:aA):Int:=if e.No = no then 0 else cl m e
noncomputable def sX (n:Int) (o:List aA) (m:MI) (no:Int):MI:=lB n (kL no o) (vX no m) o m
def lX (o:List aA) (m m' : MI):List aC:=(o.filter fun e=>decide (0 < cl m e - cl m' e)).map fun e=>⟨5,e.Room,e.No,cl m e - cl m' e⟩
theorem QI {o:List aA} {m:MI} (h:MJ o m) {N:Nat} (ho:sN N o) (no:Int):∀ e ∈ o,vX no m e <= e.Sum:=fun e he=>by
 unfold vX
 have:=(ho.each e he).2.2.2.1
 have:=h e he
 split <;> omega
theorem aEC {N:Nat} {o:List aA} (ho:sN N o) (hN:N <= 40) {m:MI} (h:MJ o m) (no:Int):MJ o (sX N o m no):=aBb ho hN (QI h ho no) _ fun e he _=>h e he
abbrev StF:=Option (List aA × MI)
noncomputable def eG (n r c:Int) (pre:List aA) (st:StF) (e:aA):StF × List aC × Int :=
 if M8 n r e = false then (st,[],1) else match st with
 | none=>if e.Kind = 4 then (if e.Day < c then (none,[],13) else if 100 < (fG n r c pre).length then (none,[],6) else (some (fG n r c pre,oZ n (fG n r c pre)),pP (fG n r c pre) (oZ n (fG n r c pre)),0))
  else if e.Kind = 5 then (none,[],7) else if c < e.Day then (none,[],16) else (none,[],0)
 | some (o,m)=>if e.Kind = 4 then (st,[],7) else if e.Kind = 5 then (if fT e.No 0 m = 0 then (st,[],4) else (some (o,sX n o m e.No),lX o m (sX n o m e.No),0)) else (st,[],16)
abbrev SW:=List aA × StF × List aC × List Int
noncomputable def HL (n r c:Int) (a:SW) (e:aA):SW :=
 (a.1 ++ [e],(eG n r c a.1 a.2.1 e).1,a.2.2.1 ++ (eG n r c a.1 a.2.1 e).2.1,a.2.2.2 ++ [(eG n r c a.1 a.2.1 e).2.2])
noncomputable def bM (n r c:Int) (l:List aA):SW:=l.foldl (HL n r c) ([],none,[],[])
theorem iZ (n r c:Int) (l:List aA) (e:aA):bM n r c (l ++ [e]) = HL n r c (bM n r c l) e:=by
 unfold bM
 rw [List.foldl_append]
 rfl
theorem PN (n r c:Int):∀ (l:List aA) (a:SW),(l.foldl (HL n r c) a).1 = a.1 ++ l
 | [],a=>by simp
 | e :: l,a=>by
  rw [List.foldl_cons,PN n r c l]
  show a.1 ++ [e] ++ l = _
  simp
theorem AH (n r c:Int) (l:List aA):(bM n r c l).1 = l:=by
 have:=PN n r c l ([],none,[],[])
 simpa [bM] using this
theorem KZ (n r c:Int) (pre:List aA) (st:StF) (e:aA) (h:∀ o m,st = some (o,m)->o.length <= 100):(eG n r c pre st e).2.1.length <= 100:=by
 unfold eG
 split
 ·exact Nat.zero_le _
 ·cases st with
  | none =>
   dsimp only
   split
   ·split
    ·exact Nat.zero_le _
    ·split
     ·exact Nat.zero_le _
     ·rename_i hc
      show (pP _ _).length <= 100
      unfold pP
      rw [List.length_map]
      have:=List.length_filter_le (fun e=>decide (0 < cl (oZ n (fG n r c pre)) e)) (fG n r c pre)
      omega
   ·split
    ·exact Nat.zero_le _
    ·split <;> exact Nat.zero_le _
  | some s =>
   obtain ⟨o,m⟩:=s
   dsimp only
   split
   ·exact Nat.zero_le _
   ·split
    ·split
     ·exact Nat.zero_le _
     ·show (lX _ _ _).length <= 100
      unfold lX
      rw [List.length_map]
      have:=List.length_filter_le (fun e'=>decide (0 < cl m e' - cl (sX n o m e.No) e')) o
      have:=h o m rfl
      omega
    ·exact Nat.zero_le _
def PP (N:Nat):StF->Prop
 | none=>True
 | some (o,m)=>sN N o ∧ MJ o m
theorem aAO {n r c:Int} {N:Nat} (hn:n = N) (hN:N <= 40) {pre:List aA} (hw:∀ e ∈ pre,dP e.Sum) {st:StF} (h:PP N st) (e:aA):PP N (eG n r c pre st e).1:=by
 subst hn
 unfold eG
 split
 ·exact h
 ·cases st with
  | none =>
   dsimp only
   split
   ·split
    ·trivial
    ·split
     ·trivial
     ·have ho:=TU (r:=r) (c:=c) rfl hw (show (fG (N:Int) r c pre).length <= 100 by omega)
      exact ⟨ho,aEh ho hN⟩
   ·split
    ·trivial
    ·split <;> trivial
  | some s =>
   obtain ⟨o,m⟩:=s
   dsimp only
   split
   ·exact h
   ·split
    ·split
     ·exact h
     ·exact ⟨h.1,aEC h.1 hN h.2 _⟩
    ·exact h
theorem RO {n r c:Int} {N:Nat} (hn:n = N) (hN:N <= 40):∀ (l:List aA) (a:SW),(∀ e ∈ a.1,dP e.Sum)->(∀ e ∈ l,dP e.Sum)->PP N a.2.1->PP N (l.foldl (HL n r c) a).2.1
 | [],a,_,_,h=>h
 | e :: l,a,h1,h2,h=>by
  rw [List.foldl_cons]
  refine RO hn hN l _ (fun x hx=>?_) (fun x hx=>h2 x (List.mem_cons_of_mem _ hx)) (aAO hn hN h1 h e)
  rcases List.mem_append.1 hx with hx | hx
  ·exact h1 x hx
  ·rw [List.mem_singleton.1 hx]
   exact h2 e List.mem_cons_self
end Go.Proofs.Ytiimibimkpimbaa
