/- What fair.Counting returns. What fair.Counting returns: the offers that count, by their numbers. Clearing a group of offers: the loops of settle. What a fair does, event by event, in plain terms; what stays right. -/
import Derived.Test.YtiimibimkpimbaaFn
import Derived.Test.YtiimibimkpimbaaLoops3
import Derived.Test.YtiimibimkpimbaaPCb
set_option linter.unusedVariables false
set_option linter.unusedSimpArgs false
namespace Go.Proofs.Ytiimibimkpimbaa
open Go.RowKit Vm
theorem pF {α S A X:Type} {step:S→Option (S ⊕ X)} (st:Nat→A→S) (l:List α) (f:A→α→A) (I:Nat→A→Prop) (fin:A→X)
  (h:∀ k a x,l[k]? = some x→I k a→step (st k a) = some (.inl (st (k + 1) (f a x))) ∧ I (k + 1) (f a x))
  (he:∀ a,I l.length a→step (st l.length a) = some (.inr (fin a))) (a:A) (h0:I 0 a) :
  eU step (st 0 a) = some (fin (l.foldl f a)) ∧ I l.length (l.foldl f a):=by
 have key:∀ (r p:List α) (a:A),l = p ++ r→I p.length a→eU step (st p.length a) = some (fin (r.foldl f a)) ∧ I l.length (r.foldl f a):=by
  intro r
  induction r with
  | nil =>
   intro p a e hI
   rw [List.append_nil] at e
   subst e
   exact ⟨gB (he a hI),hI⟩
  | cons x r ih =>
   intro p a e hI
   obtain ⟨h1,h2⟩:=h p.length a x (by rw [e]; simp) hI
   rw [gH h1]
   have:=ih (p ++ [x]) (f a x) (by rw [e]; simp) (by rw [List.length_append]; exact h2)
   rw [List.length_append] at this
   exact this
 exact key l [] a rfl h0
theorem mH {α:Type} {l:List α} {k:Nat} {x:α} (h:l[k]? = some x):at? l (k:Int) = some x:=by rw [at?_nat]; exact h
theorem pC {α:Type} {l:List α} {k:Nat} {x:α} (h:l[k]? = some x):k < l.length:=(List.getElem?_eq_some_iff.1 h).1
theorem fX {α:Type} {l:List α} {k:Nat} {x:α} (h:l[k]? = some x):(decide ((k:Int) < (l.length:Int)) = true) = True:=by
 have:=pC h
 simp only [decide_eq_true_eq,eq_iff_iff,iff_true]
 omega
theorem BC {α:Type} (p:α→Bool):∀ (l acc:List α),l.foldl (fun out x=>if p x = true then out ++ [x] else out) acc = acc ++ l.filter p
 | [],acc=>by simp
 | x :: l,acc=>by
  rw [List.foldl_cons,BC p l,List.filter_cons]
  split <;> simp
theorem aFm {α S:Type} {step:S→Option (S ⊕ (Unit ⊕ Int))} (st:Nat→S) (l:List α) (p:α→Bool)
  (h:∀ k x,l[k]? = some x→step (st k) = if p x = true then some (.inr (.inr (k:Int))) else some (.inl (st (k + 1))))
  (he:step (st l.length) = some (.inr (.inl ()))) :
  ∃ r,eU step (st 0) = some r ∧ ((r = .inl () ∧ l.any p = false) ∨ ∃ k:Nat,r = .inr (k:Int) ∧ l.any p = true):=by
 have key:∀ (r q:List α),l = q ++ r→∃ z,eU step (st q.length) = some z ∧ ((z = .inl () ∧ r.any p = false) ∨ ∃ k:Nat,z = .inr (k:Int) ∧ r.any p = true):=by
  intro r
  induction r with
  | nil =>
   intro q e
   rw [List.append_nil] at e
   subst e
   exact ⟨_,gB he,.inl ⟨rfl,rfl⟩⟩
  | cons x r ih =>
   intro q e
   have hs:=h q.length x (by rw [e]; simp)
   by_cases hp:p x = true
   ·rw [if_pos hp] at hs
    exact ⟨_,gB hs,.inr ⟨q.length,rfl,by simp [hp]⟩⟩
   ·rw [if_neg hp] at hs
    rw [gH hs]
    obtain ⟨z,h1,h2⟩:=ih (q ++ [x]) (by rw [e]; simp)
    rw [List.length_append] at h1
    refine ⟨z,h1,?_⟩
    have e2:(x :: r).any p = r.any p:=by
     simp only [List.any_cons,Bool.not_eq_true] at hp ⊢
     rw [hp,Bool.false_or]
    rw [e2]
    exact h2
 exact key l [] rfl
def C6 (i n:Int):Bool:=decide (0 ≤ i) && decide (i < n)
theorem EE {i n:Int}:C6 i n = true ↔ 0 ≤ i ∧ i < n:=by simp [C6]
theorem EM (i n:Int):d9 i n = some (C6 i n):=by
 unfold d9 C6
 by_cases h:0 ≤ i
 ·rw [if_pos (by simpa using h)]; simp [h]
 ·rw [if_neg (by simpa using h)]; simp [h]
def ST (n r:Int):Bool:=C6 (IntKind.wrap .i64 (n - 1)) 40 && C6 (IntKind.wrap .i64 (r - 1)) 8
def ZG (n:Int) (e:aA):Bool :=
 if e.Kind = 0 then C6 e.From n && C6 e.To n && (e.From != e.To) && C6 e.Currency 8 && C6 e.Due 100001 && C6 (IntKind.wrap .i64 (e.Sum - 1)) 1099511627776
 else if e.Kind = 1 ∨ e.Kind = 2 then C6 e.From n && (0 == e.To) && (0 == e.Currency) && (0 == e.Due) && (0 == e.Sum)
 else if e.Kind = 3 then decide (e.Due ≥ e.Day) && decide (e.Due ≤ 100000) && (0 == e.No) && (0 == e.From) && (0 == e.To) && (0 == e.Currency) && (0 == e.Sum)
 else if e.Kind = 5 then (0 == e.Room) && (0 == e.From) && (0 == e.To) && (0 == e.Currency) && (0 == e.Due) && (0 == e.Sum)
 else if e.Kind = 4 then (0 == e.Room) && (0 == e.No) && (0 == e.From) && (0 == e.To) && (0 == e.Currency) && (0 == e.Due) && (0 == e.Sum)
 else false
def NO (n r:Int) (e:aA):Bool:=ST n r && C6 e.Day 100001 && ZG n e && C6 e.Room r && C6 e.No 1000
def SM (b:Bool):Int:=if b = true then 0 else 1
theorem aKE (r:Int) (e:aA) (b:Bool) (x1 x2 x3 x4 x5 x6 x7:Int):dE r e b x1 x2 x3 x4 x5 x6 x7 = some (SM (b && ((x1 == e.Room) && (x2 == e.No) && (x3 == e.From) && (x4 == e.To) && (x5 == e.Currency) && (x6 == e.Due) && (x7 == e.Sum)) && C6 e.Room r && C6 e.No 1000)):=by
 unfold dE
 simp only [EM,Option.bind_some,beq_self_eq_true,Bool.true_and]
 generalize (x1 == e.Room) = c1
 generalize (x2 == e.No) = c2
 generalize (x3 == e.From) = c3
 generalize (x4 == e.To) = c4
 generalize (x5 == e.Currency) = c5
 generalize (x6 == e.Due) = c6
 generalize (x7 == e.Sum) = c7
 generalize C6 e.Room r = d1
 generalize C6 e.No 1000 = d2
 have:∀ c:Bool,(c1 && (c2 && (c3 && (c4 && (c5 && (c6 && c7)))))) = c→(if (!b) = true then some (1:Int) else if (!c) = true then some 1 else if (!d1) = true then some 1 else if (!d2) = true then some 1 else some 0) = some (SM (b && c && d1 && d2)):=by
  intro c _
  cases b <;> cases c <;> cases d1 <;> cases d2 <;> rfl
 rw [this _ rfl]
 simp only [Bool.and_assoc]
theorem aKx (n r:Int) (e:aA) (b:Bool):mP n r e b = some (SM (b && ZG n e && C6 e.Room r && C6 e.No 1000)):=by
 unfold mP qY
 simp only [EM,Option.bind_some,aKE,beq_self_eq_true,Bool.true_and,Bool.and_true,beq_iff_eq]
 unfold ZG
 by_cases k0:e.Kind = 0
 ·rw [if_pos k0,if_pos k0]
  generalize C6 e.From n = c1
  generalize C6 e.To n = c2
  generalize (e.From != e.To) = c3
  generalize C6 e.Currency 8 = c4
  generalize C6 e.Due 100001 = c5
  generalize C6 (IntKind.wrap .i64 (e.Sum - 1)) 1099511627776 = c6
  cases b <;> cases c1 <;> cases c2 <;> cases c3 <;> cases c4 <;> cases c5 <;> simp
 ·rw [if_neg k0,if_neg k0]
  by_cases k1:e.Kind = 1
  ·rw [if_pos k1,if_pos k1,if_pos (show e.Kind = 1 ∨ e.Kind = 2 from .inl k1)]
   generalize C6 e.From n = c1
   cases b <;> simp [Bool.and_assoc]
  ·rw [if_neg k1]
   by_cases k2:e.Kind = 2
   ·rw [if_pos k2,if_pos (show e.Kind = 1 ∨ e.Kind = 2 from .inr k2)]
    generalize C6 e.From n = c1
    cases b <;> simp [Bool.and_assoc]
   ·rw [if_neg k2,if_neg (show ¬(e.Kind = 1 ∨ e.Kind = 2) from fun q=>q.elim k1 k2)]
    by_cases k3:e.Kind = 3
    ·rw [if_pos k3,if_pos k3]
     generalize decide (e.Due ≥ e.Day) = c1
     generalize decide (e.Due ≤ 100000) = c2
     cases b <;> cases c1 <;> simp [Bool.and_assoc]
    ·rw [if_neg k3,if_neg k3]
     by_cases k5:e.Kind = 5
     ·rw [if_pos k5,if_pos k5]
      cases b <;> simp [Bool.and_assoc]
     ·rw [if_neg k5,if_neg k5]
      by_cases k4:e.Kind = 4
      ·rw [if_pos k4,if_pos k4]
       cases b <;> simp [Bool.and_assoc]
      ·rw [if_neg k4,if_neg k4]
       simp
theorem DB (n r:Int) (e:aA):kP n r e = some (SM (NO n r e)):=by
 unfold kP NO ST
 simp only [EM,Option.bind_some,aKx]
 generalize C6 (IntKind.wrap .i64 (n - 1)) 40 = c1
 generalize C6 (IntKind.wrap .i64 (r - 1)) 8 = c2
 cases c1 <;> cases c2 <;> simp
theorem aD1 (b:Bool):((SM b == 0) = true) = (b = true):=by cases b <;> simp [SM]
theorem YM (b:Bool):((SM b != 0) = true) = (b = false):=by cases b <;> simp [SM]
end Go.Proofs.Ytiimibimkpimbaa
set_option linter.unusedVariables false
set_option linter.unusedSimpArgs false
namespace Go.Proofs.Ytiimibimkpimbaa
open Go.RowKit Vm
theorem KF {α:Type} {step:Int→Option (Int ⊕ (Unit ⊕ Int))} (l:List α) (hl:l.length ≤ 100000) (p:α→Bool)
  (h:∀ (k:Nat) x,l[k]? = some x→step k = if p x = true then some (.inr (.inr (k:Int))) else some (.inl (IntKind.wrap .i64 ((k:Int) + 1))))
  (he:step l.length = some (.inr (.inl ()))) :
  ∃ i:Int,(eU (fun (w:Int)=>step w) 0).bind (fun (r5:Unit ⊕ Int)=>Sum.elim (fun z6=>some (-1)) (fun z7=>some z7) r5) = some i ∧ decide (i ≥ 0) = l.any p:=by
 obtain ⟨r,h1,h2⟩:=aFm (step:=fun (w:Int)=>step w) (fun k:Nat=>(k:Int)) l p (fun k x hx=>by
  have:=pC hx
  have e:=h k x hx
  rw [dB (by omega)] at e
  exact e) he
 have e0:eU (fun (w:Int)=>step w) 0 = some r:=h1
 rw [e0,Option.bind_some]
 rcases h2 with ⟨rfl,h3⟩ | ⟨k,rfl,h3⟩
 ·exact ⟨-1,rfl,by rw [h3]; rfl⟩
 ·exact ⟨k,rfl,by rw [h3]; simp⟩
def eqE (a b:aA):Bool:=(a.Kind == b.Kind) && ((a.Room == b.Room) && ((a.Day == b.Day) && ((a.No == b.No) && ((a.From == b.From) && ((a.To == b.To) && ((a.Currency == b.Currency) && ((a.Due == b.Due) && (a.Sum == b.Sum))))))))
theorem P5 {a b:aA}:eqE a b = true ↔ a = b:=by
 unfold eqE
 cases a; cases b
 simp
theorem aCQ (a:aA):eqE a a = true:=P5.2 rfl
def aGz (room day:Int) (e:aA):Bool:=(e.Kind == 3) && (e.Room == room) && decide (e.Day ≤ day) && decide (day ≤ e.Due)
def ER (s:List aA) (room day:Int):Bool:=s.any (aGz room day)
def aGq (kind no from_:Int) (e:aA):Bool:=(e.Kind == kind) && (e.No == no) && (e.From == from_)
def K3 (v:List aA) (kind no from_:Int):Bool:=v.any (aGq kind no from_)
def aDM (e x:aA):Bool:=(x.Kind == 0) && (x.No == e.No) && !eqE x e
def MO (v:List aA) (e:aA):Bool:=v.any (aDM e)
theorem OW {s:List aA} (hs:s.length ≤ 100000) (room day:Int):pP s room day = some (ER s room day):=by
 obtain ⟨i,h1,h2⟩:=KF (step:=fun w=>bH s room day w) s hs (aGz room day) (fun k x hx=>by
  show bH s room day k = _
  unfold bH
  simp only [fX hx,if_true,mH hx,Option.bind_some]
  have:kW x room day = some (aGz room day x):=by
   unfold kW aGz
   by_cases c1:x.Kind = 3 <;> by_cases c2:x.Room = room <;> by_cases c3:x.Day ≤ day <;> simp [c1,c2,c3]
  rw [this,Option.bind_some]) (by
  show bH s room day s.length = _
  unfold bH
  rw [if_neg (by simp)])
 unfold pP cE cJ dA
 rw [h1,Option.bind_some,h2]
 rfl
theorem aG7 {v:List aA} (hv:v.length ≤ 100000) (kind no from_:Int):gJ kind no from_ v = some (K3 v kind no from_):=by
 obtain ⟨i,h1,h2⟩:=KF (step:=fun w=>bE v kind no from_ w) v hv (aGq kind no from_) (fun k x hx=>by
  show bE v kind no from_ k = _
  unfold bE
  simp only [fX hx,if_true,mH hx,Option.bind_some]
  have:iI x kind no from_ = some (aGq kind no from_ x):=by
   unfold iI aGq
   by_cases c1:x.Kind = kind <;> by_cases c2:x.No = no <;> simp [c1,c2]
  rw [this,Option.bind_some]) (by
  show bE v kind no from_ v.length = _
  unfold bE
  rw [if_neg (by simp)])
 unfold gJ cD cO c9
 rw [h1,Option.bind_some,h2]
 rfl
theorem aEo {v:List aA} (hv:v.length ≤ 100000) (e:aA):bX v e = some (MO v e):=by
 obtain ⟨i,h1,h2⟩:=KF (step:=fun w=>bD v e w) v hv (aDM e) (fun k x hx=>by
  show bD v e k = _
  unfold bD
  simp only [fX hx,if_true,mH hx,Option.bind_some]
  have:jP x e = some (aDM e x):=by
   unfold jP aDM eqE
   by_cases c1:x.Kind = 0 <;> by_cases c2:x.No = e.No <;> simp [c1,c2]
  rw [this,Option.bind_some]) (by
  show bD v e v.length = _
  unfold bD
  rw [if_neg (by simp)])
 unfold bX cH dC
 rw [h1,Option.bind_some,h2]
 rfl
theorem RO {v:List aA} (hv:v.length ≤ 100000) (e:aA):cC v e = some (v.any (eqE e)):=by
 obtain ⟨i,h1,h2⟩:=KF (step:=fun w=>bK v e w) v hv (eqE e) (fun k x hx=>by
  show bK v e k = _
  unfold bK
  simp only [fX hx,if_true,mH hx,Option.bind_some]
  rfl) (by
  show bK v e v.length = _
  unfold bK
  rw [if_neg (by simp)])
 unfold cC dI dZ
 rw [h1,Option.bind_some,h2]
def XM (n r c:Int) (e:aA):Bool:=NO n r e && (e.Kind == 3) && decide (e.Day ≤ c)
def wX (n r c:Int) (l:List aA):List aA:=l.filter (XM n r c)
def IJ (n r c:Int) (s:List aA) (e:aA):Bool:=NO n r e && decide (e.Kind ≤ 2) && decide (e.Day ≤ c) && ER s e.Room e.Day
def yK (n r c:Int) (l:List aA):List aA:=l.filter (IJ n r c (wX n r c l))
def A8 (c:Int) (v s:List aA) (e:aA):Bool:=(e.Kind == 0) && !MO v e && ER s e.Room c && K3 v 1 e.No e.To && !K3 v 2 e.No e.From && !K3 v 2 e.No e.To
def CD (c:Int) (v s:List aA) (out:List aA) (e:aA):List aA:=if (A8 c v s e && !out.any (eqE e)) = true then out ++ [e] else out
def w8 (c:Int) (v s:List aA):List aA:=v.foldl (CD c v s) []
def fQ (n r c:Int) (l:List aA):List aA:=isK (fun (x:aA)=>x.No) (w8 c (yK n r c l) (wX n r c l))
def tV (n r c:Int) (l:List aA):Bool:=ST n r && C6 c 100001 && decide (l.length ≤ 400)
theorem GD (n r c:Int) (l:List aA):qM n r c l = some (tV n r c l):=by
 unfold qM tV ST
 simp only [EM,Option.bind_some]
 generalize C6 (IntKind.wrap .i64 (n - 1)) 40 = c1
 generalize C6 (IntKind.wrap .i64 (r - 1)) 8 = c2
 generalize C6 c 100001 = c3
 cases c1 <;> cases c2 <;> cases c3 <;> simp
 omega
theorem OQ {α:Type} {f:List α→α→List α} (hf:∀ o x,f o x = o ∨ f o x = o ++ [x]):∀ (l o:List α),(l.foldl f o).length ≤ o.length + l.length
 | [],o=>by simp
 | x :: l,o=>by
  rw [List.foldl_cons]
  have:=OQ hf l (f o x)
  rcases hf o x with e | e <;> rw [e] at this ⊢ <;> simp only [List.length_append,List.length_cons,List.length_nil] at this ⊢ <;> omega
theorem aDC {l:List aA} (hl:l.length ≤ 400) (n r c:Int):oE n r c l 0 [] = some (wX n r c l):=by
 unfold oE
 have h:=pF (step:=fun (w:Int × (List aA))=>fK n r c l w.1 w.2) (fun k a=>((k:Int),a)) l (fun out x=>if XM n r c x = true then out ++ [x] else out) (fun k a=>a.length ≤ k) id (fun k a x hx hI=>by
  have hk:=pC hx
  have w3:IntKind.wrap .i64 ((k:Int) + 1) = ((k + 1:Nat):Int):=dB (by omega)
  constructor
  ·show fK n r c l k a = _
   unfold fK XM
   simp only [fX hx,if_true,mH hx,Option.bind_some,DB,aD1,w3]
   by_cases c1:NO n r x = true
   ·by_cases c2:x.Kind = 3
    ·by_cases c3:x.Day ≤ c
     ·simp only [c1,c2,c3,if_true,beq_self_eq_true,decide_true,Bool.and_self]
      rw [if_pos (by omega)]
     ·simp [c1,c2,c3]
    ·simp [c1,c2]
   ·simp [c1]
  ·split
   ·rw [List.length_append,List.length_singleton]; omega
   ·omega) (fun a hI=>by
  show fK n r c l l.length a = _
  unfold fK
  rw [if_neg (by simp)]
  rfl) [] (Nat.le_refl _)
 rw [BC] at h
 exact h.1
theorem aCA {l s:List aA} (hl:l.length ≤ 400) (hs:s.length ≤ 400) (n r c:Int):n7 n r c l s 0 [] = some (l.filter (IJ n r c s)):=by
 unfold n7
 have h:=pF (step:=fun (w:Int × (List aA))=>fJ n r c l s w.1 w.2) (fun k a=>((k:Int),a)) l (fun out x=>if IJ n r c s x = true then out ++ [x] else out) (fun k a=>a.length ≤ k) id (fun k a x hx hI=>by
  have hk:=pC hx
  have w3:IntKind.wrap .i64 ((k:Int) + 1) = ((k + 1:Nat):Int):=dB (by omega)
  constructor
  ·show fJ n r c l s k a = _
   unfold fJ IJ
   simp only [fX hx,if_true,mH hx,Option.bind_some,DB,aD1,w3,OW (show s.length ≤ 100000 by omega)]
   by_cases c1:NO n r x = true
   ·by_cases c2:x.Kind ≤ 2
    ·by_cases c3:x.Day ≤ c
     ·by_cases c4:ER s x.Room x.Day = true
      ·simp only [c1,c2,c3,c4,if_true,beq_self_eq_true,decide_true,Bool.and_self]
       rw [if_pos (by omega)]
      ·simp [c1,c2,c3,c4]
     ·simp [c1,c2,c3]
    ·simp [c1,c2]
   ·simp [c1]
  ·split
   ·rw [List.length_append,List.length_singleton]; omega
   ·omega) (fun a hI=>by
  show fJ n r c l s l.length a = _
  unfold fJ
  rw [if_neg (by simp)]
  rfl) [] (Nat.le_refl _)
 rw [BC] at h
 exact h.1
theorem aFE {v s:List aA} (hv:v.length ≤ 400) (hs:s.length ≤ 400) (c:Int):kQ c v s 0 [] = some (w8 c v s):=by
 unfold kQ
 have h:=pF (step:=fun (w:Int × (List aA))=>fL c v s w.1 w.2) (fun k a=>((k:Int),a)) v (CD c v s) (fun k a=>a.length ≤ k) id (fun k a x hx hI=>by
  have hk:=pC hx
  have w3:IntKind.wrap .i64 ((k:Int) + 1) = ((k + 1:Nat):Int):=dB (by omega)
  constructor
  ·show fL c v s k a = _
   unfold fL CD A8
   simp only [fX hx,if_true,mH hx,Option.bind_some,w3,OW (show s.length ≤ 100000 by omega),aEo (show v.length ≤ 100000 by omega),aG7 (show v.length ≤ 100000 by omega),RO (show a.length ≤ 100000 by omega)]
   by_cases c1:x.Kind = 0
   ·have c1' : (x.Kind != 0) = false:=by simp [c1]
    have c1'' : (x.Kind == 0) = true:=by simp [c1]
    rw [c1',c1'',if_neg (by decide)]
    have hl:(a.length + 1) * 72 ≤ 140737488355328:=by omega
    generalize MO v x = b1
    generalize a.any (eqE x) = b2
    generalize ER s x.Room c = b3
    generalize K3 v 1 x.No x.To = b4
    generalize K3 v 2 x.No x.From = b5
    generalize K3 v 2 x.No x.To = b6
    cases b1 <;> cases b2 <;> cases b3 <;> cases b4 <;> cases b5 <;> cases b6 <;> simp [hl]
   ·simp [c1]
  ·unfold CD
   split
   ·rw [List.length_append,List.length_singleton]; omega
   ·omega) (fun a hI=>by
  show fL c v s v.length a = _
  unfold fL
  rw [if_neg (by simp)]
  rfl) [] (Nat.le_refl _)
 exact h.1
theorem HQ (c:Int) (v s:List aA):∀ (l out:List aA),out.Nodup→(l.foldl (CD c v s) out).Nodup ∧ ∀ x,x ∈ l.foldl (CD c v s) out ↔ x ∈ out ∨ (x ∈ l ∧ A8 c v s x = true)
 | [],out,h=>⟨h,fun x=>by simp⟩
 | y :: l,out,h=>by
  rw [List.foldl_cons]
  have key:(CD c v s out y).Nodup ∧ ∀ x,x ∈ CD c v s out y ↔ x ∈ out ∨ (x = y ∧ A8 c v s x = true):=by
   unfold CD
   have hm:out.any (eqE y) = true ↔ y ∈ out:=by
    rw [List.any_eq_true]
    exact ⟨fun ⟨z,h1,h2⟩=>by rw [P5.1 h2]; exact h1,fun h1=>⟨y,h1,aCQ y⟩⟩
   by_cases cy:A8 c v s y = true
   ·by_cases hy:y ∈ out
    ·rw [hm.2 hy,if_neg (by simp)]
     exact ⟨h,fun x=>⟨.inl,fun q=>q.elim id fun q=>by rw [q.1]; exact hy⟩⟩
    ·have:out.any (eqE y) = false:=by
      rw [Bool.eq_false_iff]; exact fun q=>hy (hm.1 q)
     rw [this,if_pos (by simp [cy])]
     refine ⟨List.nodup_append.2 ⟨h,by simp,fun a ha b hb=>?_⟩,fun x=>?_⟩
     ·rw [List.mem_singleton] at hb
      subst hb
      exact fun e=>hy (e ▸ ha)
     ·rw [List.mem_append,List.mem_singleton]
      exact ⟨fun q=>q.elim .inl fun q=>.inr ⟨q,by rw [q]; exact cy⟩,fun q=>q.elim .inl fun q=>.inr q.1⟩
   ·rw [if_neg (by simp [cy])]
    exact ⟨h,fun x=>⟨.inl,fun q=>q.elim id fun q=>absurd (q.1 ▸ q.2) cy⟩⟩
  obtain ⟨h1,h2⟩:=HQ c v s l _ key.1
  refine ⟨h1,fun x=>?_⟩
  rw [h2,key.2,List.mem_cons]
  constructor
  ·rintro ((q | q) | q)
   ·exact .inl q
   ·exact .inr ⟨.inl q.1,q.2⟩
   ·exact .inr ⟨.inr q.1,q.2⟩
  ·rintro (q | ⟨q | q,q2⟩)
   ·exact .inl (.inl q)
   ·exact .inl (.inr ⟨q,q2⟩)
   ·exact .inr ⟨q,q2⟩
theorem EL {c:Int} {v s:List aA} {x:aA}:x ∈ w8 c v s ↔ x ∈ v ∧ A8 c v s x = true:=by
 have:=(HQ c v s v [] List.nodup_nil).2 x
 simpa [w8] using this
theorem JK (c:Int) (v s:List aA):(w8 c v s).Nodup:=(HQ c v s v [] List.nodup_nil).1
theorem OK {c:Int} {v s:List aA} {x y:aA} (hx:x ∈ w8 c v s) (hy:y ∈ w8 c v s) (h:x.No = y.No):x = y:=by
 obtain ⟨h1,h2⟩:=EL.1 hx
 obtain ⟨h3,h4⟩:=EL.1 hy
 unfold A8 at h2 h4
 simp only [Bool.and_eq_true,Bool.not_eq_true',beq_iff_eq] at h2 h4
 have h5:MO v y = false:=h4.1.1.1.1.2
 unfold MO at h5
 rw [List.any_eq_false] at h5
 have h6:=h5 x h1
 unfold aDM at h6
 rw [h2.1.1.1.1.1,h,Bool.not_eq_true] at h6
 simp only [beq_self_eq_true,Bool.and_self,Bool.true_and,Bool.not_eq_false'] at h6
 exact P5.1 h6
theorem RP {α:Type} {key:α→Int}:∀ {l:List α},l.Nodup→(∀ x ∈ l,∀ y ∈ l,key x = key y→x = y)→PP key l = true
 | [],_,_=>rfl
 | r :: l,h,hk=>by
  obtain ⟨h1,h2⟩:=List.nodup_cons.1 h
  show (l.all (fun s=>decide (key s ≠ key r)) && PP key l) = true
  rw [RP h2 fun x hx y hy=>hk x (List.mem_cons_of_mem _ hx) y (List.mem_cons_of_mem _ hy),Bool.and_true,List.all_eq_true]
  intro x hx
  rw [decide_eq_true_eq]
  intro e
  have:=hk x (List.mem_cons_of_mem _ hx) r List.mem_cons_self e
  exact h1 (this ▸ hx)
theorem LN {α:Type} (p:α→Bool) (l:List α):(l.filter p).length ≤ l.length:=List.length_filter_le p l
theorem aDU (c:Int) (v s o:List aA) (x:aA):CD c v s o x = o ∨ CD c v s o x = o ++ [x]:=by
 unfold CD
 split
 ·exact .inr rfl
 ·exact .inl rfl
theorem Z1 (c:Int) (v s:List aA):(w8 c v s).length ≤ v.length:=by
 have:=OQ (aDU c v s) v []
 simpa [w8] using this
theorem aCi {n r:Int} {e:aA} (h:NO n r e = true):0 ≤ e.No ∧ e.No < 1000:=by
 unfold NO at h
 rw [Bool.and_eq_true] at h
 exact EE.1 h.2
theorem PB {n r c:Int} {s l:List aA} {e:aA} (h:e ∈ l.filter (IJ n r c s)):e ∈ l ∧ NO n r e = true ∧ e.Kind ≤ 2 ∧ e.Day ≤ c ∧ ER s e.Room e.Day = true:=by
 obtain ⟨h1,h2⟩:=List.mem_filter.1 h
 unfold IJ at h2
 simp only [Bool.and_eq_true,decide_eq_true_eq] at h2
 exact ⟨h1,h2.1.1.1,h2.1.1.2,h2.1.2,h2.2⟩
theorem FW {n r c:Int} {l:List aA} (h:tV n r c l = true):kN n r c l = some (fQ n r c l):=by
 have hl:l.length ≤ 400:=by
  unfold tV at h
  rw [Bool.and_eq_true,decide_eq_true_eq] at h
  exact h.2
 have h1:(wX n r c l).length ≤ 400:=Nat.le_trans (LN _ _) hl
 have h2:(yK n r c l).length ≤ 400:=Nat.le_trans (LN _ _) hl
 have h3:=Z1 c (yK n r c l) (wX n r c l)
 have hok:okK (fun (x:aA)=>x.No) (w8 c (yK n r c l) (wX n r c l)) = true:=by
  unfold okK
  rw [RP (JK _ _ _) fun x hx y hy e=>OK hx hy e,Bool.and_true,Bool.and_eq_true,decide_eq_true_eq,List.all_eq_true]
  refine ⟨fun x hx=>?_,by omega⟩
  rw [decide_eq_true_eq]
  exact aCi (PB (EL.1 hx).1).2.1
 unfold kN
 rw [GD,h,Option.bind_some,if_neg (by decide),aDC hl,Option.bind_some,aCA hl h1,Option.bind_some]
 show (kQ c (yK n r c l) (wX n r c l) 0 []).bind _ = _
 rw [aFE h2 h1,Option.bind_some]
 unfold dX
 rw [if_pos hok]
 rfl
end Go.Proofs.Ytiimibimkpimbaa
set_option linter.unusedVariables false
set_option linter.unusedSimpArgs false
namespace Go.Proofs.Ytiimibimkpimbaa
open Go.RowKit Vm
theorem JA {α:Type} {k k' : Int} (v:α) (h:k ≠ k'):∀ l:List (Int × α),(rX k v l).find? (fun p=>decide (p.1 = k')) = l.find? fun p=>decide (p.1 = k')
 | []=>by simp [rX,h]
 | y :: l=>by
  unfold rX
  split
  ·rw [List.find?_cons]
   simp [h]
  ·rw [List.find?_cons,List.find?_cons,JA v h l]
theorem I7 {α:Type} {k:Int} (v:α):∀ l:List (Int × α),(∀ p ∈ l,p.1 ≠ k)→(rX k v l).find? (fun p=>decide (p.1 = k)) = some (k,v)
 | [],_=>by simp [rX]
 | y :: l,h=>by
  unfold rX
  split
  ·rw [List.find?_cons]
   simp
  ·have:=h y List.mem_cons_self
   rw [List.find?_cons,I7 v l fun p hp=>h p (List.mem_cons_of_mem _ hp)]
   simp [this]
theorem IZ {α:Type} {k k' : Int} (h:k ≠ k'):∀ l:List (Int × α),(vY k l).find? (fun p=>decide (p.1 = k')) = l.find? fun p=>decide (p.1 = k')
 | []=>rfl
 | y :: l=>by
  unfold vY
  rw [List.filter_cons]
  have ih:=IZ h l
  unfold vY at ih
  by_cases e:y.1 = k
  ·rw [if_neg (by simp [e]),ih,List.find?_cons]
   have:¬ y.1 = k':=fun q=>h (e.symm.trans q)
   simp [this]
  ·rw [if_pos (by simp [e]),List.find?_cons,List.find?_cons,ih]
theorem F3 {α:Type} (k k' : Int) (v z:α) (m:List (Int × α)):fT k' z (fI k v m) = if k' = k then v else fT k' z m:=by
 unfold fT fI
 by_cases h:k' = k
 ·subst h
  rw [if_pos rfl,I7 v _ fun p hp=>by
   have:=(List.mem_filter.1 hp).2
   simpa using this]
 ·rw [if_neg h,JA v (fun q=>h q.symm),IZ fun q=>h q.symm]
theorem BP {α:Type} (k:Int) (v:α) (m:List (Int × α)):(fI k v m).length ≤ m.length + 1:=by
 unfold fI
 rw [L9]
 have:=List.length_filter_le (fun p:Int × α=>!decide (p.1 = k)) m
 unfold vY
 omega
def RE (g:aE) (e:aA):Bool:=(e.Currency == g.currency) && (e.Due == g.due)
def wM (e:aA):aE:=⟨e.Currency,e.Due⟩
theorem aHX (e:aA):vB e = some (wM e):=rfl
theorem PT {g:aE} {e:aA}:RE g e = true ↔ wM e = g:=by
 cases g
 simp [RE,wM]
def qZ (sm:aA→Int) (e:aA):aG:=⟨e.From,e.To,sm e⟩
def S8 (g:aE) (sm:aA→Int) (a:MI × List aG × List Int) (e:aA):MI × List aG × List Int :=
 if RE g e = true then (fI e.No 0 a.1,if 0 < sm e then a.2.1 ++ [qZ sm e] else a.2.1,if 0 < sm e then a.2.2 ++ [e.No] else a.2.2) else a
def EJ (g:aE) (o:List aA):List aA:=o.filter (RE g)
def yT (g:aE) (sm:aA→Int) (o:List aA):List aA:=o.filter fun e=>RE g e && decide (0 < sm e)
def wE (l:List aA) (m:MI):MI:=l.foldl (fun m e=>fI e.No 0 m) m
theorem LM (g:aE) (sm:aA→Int):∀ (o:List aA) (m:MI) (d:List aG) (u:List Int),o.foldl (S8 g sm) (m,d,u) = (wE (EJ g o) m,d ++ (yT g sm o).map (qZ sm),u ++ (yT g sm o).map (·.No))
 | [],m,d,u=>by simp [wE,EJ,yT]
 | e :: o,m,d,u=>by
  rw [List.foldl_cons]
  by_cases c:RE g e = true
  ·have e1:S8 g sm (m,d,u) e = (fI e.No 0 m,if 0 < sm e then d ++ [qZ sm e] else d,if 0 < sm e then u ++ [e.No] else u):=if_pos c
   rw [e1,LM g sm o]
   unfold EJ yT wE
   rw [List.filter_cons,if_pos c,List.filter_cons,c,Bool.true_and,List.foldl_cons]
   by_cases c2:0 < sm e
   ·rw [if_pos c2,if_pos c2,if_pos (by simpa using c2)]
    simp [qZ]
   ·rw [if_neg c2,if_neg c2,if_neg (by simpa using c2)]
  ·have e1:S8 g sm (m,d,u) e = (m,d,u):=if_neg c
   rw [e1,LM g sm o]
   unfold EJ yT wE
   rw [List.filter_cons,if_neg c,List.filter_cons,if_neg (by simp [c])]
theorem EP:∀ (l:List aA) (m:MI),(wE l m).length ≤ m.length + l.length
 | [],m=>Nat.le_refl _
 | e :: l,m=>by
  have h1:=EP l (fI e.No 0 m)
  have h2:=BP e.No (0:Int) m
  show (wE l (fI e.No 0 m)).length ≤ _
  rw [List.length_cons]
  omega
theorem HX (k:Int):∀ (l:List aA) (m:MI),fT k 0 (wE l m) = if (∃ e ∈ l,e.No = k) then 0 else fT k 0 m
 | [],m=>by simp [wE]
 | e :: l,m=>by
  show fT k 0 (wE l (fI e.No 0 m)) = _
  rw [HX k l,F3]
  by_cases h1:∃ x ∈ l,x.No = k
  ·rw [if_pos h1,if_pos]
   obtain ⟨x,hx,e'⟩:=h1
   exact ⟨x,List.mem_cons_of_mem _ hx,e'⟩
  ·rw [if_neg h1]
   by_cases h2:k = e.No
   ·rw [if_pos h2,if_pos ⟨e,List.mem_cons_self,h2.symm⟩]
   ·rw [if_neg h2,if_neg]
    rintro ⟨x,hx,e'⟩
    rcases List.mem_cons.1 hx with rfl | hx
    ·exact h2 e'.symm
    ·exact h1 ⟨x,hx,e'⟩
def oG:List Int→List Int→MI→MI
 | k :: u,v :: x,m=>oG u x (fI k v m)
 | _,_,m=>m
theorem MY:∀ (u x:List Int) (m:MI),(oG u x m).length ≤ m.length + x.length
 | [],x,m=>by simp [oG]
 | _ :: _,[],m=>by simp [oG]
 | k :: u,v :: x,m=>by
  have h1:=MY u x (fI k v m)
  have h2:=BP k v m
  show (oG u x (fI k v m)).length ≤ _
  rw [List.length_cons]
  omega
theorem EG {k:Int}:∀ (u x:List Int) (m:MI),k ∉ u→fT k 0 (oG u x m) = fT k 0 m
 | [],x,m,_=>by simp [oG]
 | _ :: _,[],m,_=>by simp [oG]
 | i :: u,v :: x,m,h=>by
  show fT k 0 (oG u x (fI i v m)) = _
  rw [EG u x _ fun q=>h (List.mem_cons_of_mem _ q),F3,if_neg fun q=>h (by rw [q]; exact List.mem_cons_self)]
theorem LJ:∀ (u x:List Int) (m:MI),u.Nodup→u.length = x.length→u.map (fun k=>fT k 0 (oG u x m)) = x
 | [],[],m,_,_=>rfl
 | [],_ :: _,m,_,h=>by cases h
 | _ :: _,[],m,_,h=>by cases h
 | k :: u,v :: x,m,hn,h=>by
  obtain ⟨h1,h2⟩:=List.nodup_cons.1 hn
  show fT k 0 (oG u x (fI k v m)) :: u.map (fun k'=>fT k' 0 (oG u x (fI k v m))) = _
  rw [LJ u x _ h2 (by simpa using h),EG u x _ h1,F3,if_pos rfl]
noncomputable def sH (n:Int) (d:List aG):List Int:=match gS n d with
 | some r=>r.1
 | none=>[]
noncomputable def nA (n:Int) (g:aE) (sm:aA→Int) (o:List aA) (m:MI):MI :=
 oG ((yT g sm o).map (·.No)) (sH n ((yT g sm o).map (qZ sm))) (wE (EJ g o) m)
def v7 (o:List aA):Prop:=o.Pairwise fun a b=>a.No ≠ b.No
theorem v7.one {o:List aA} (h:v7 o):∀ a ∈ o,∀ b ∈ o,a.No = b.No→a = b:=by
 induction o with
 | nil=>intro a ha; cases ha
 | cons x o ih =>
  obtain ⟨h1,h2⟩:=List.pairwise_cons.1 h
  intro a ha b hb e
  rcases List.mem_cons.1 ha with e1 | ha'
  ·rcases List.mem_cons.1 hb with e2 | hb'
   ·rw [e1,e2]
   ·rw [e1] at e
    exact absurd e (h1 b hb')
  ·rcases List.mem_cons.1 hb with e2 | hb'
   ·rw [e2] at e
    exact absurd e.symm (h1 a ha')
   ·exact ih h2 a ha' b hb' e
theorem v7.nos {o:List aA} (h:v7 o) (p:aA→Bool):((o.filter p).map (·.No)).Nodup:=by
 have h1:(o.filter p).Pairwise fun a b=>a.No ≠ b.No:=List.Pairwise.filter p h
 exact List.pairwise_map.2 h1
def cl (m:MI) (e:aA):Int:=fT e.No 0 m
theorem aAB {n:Int} {g:aE} {sm:aA→Int} {o:List aA} {m:MI} (ho:v7 o) (hl:(sH n ((yT g sm o).map (qZ sm))).length = (yT g sm o).length) :
  (yT g sm o).map (cl (nA n g sm o m)) = sH n ((yT g sm o).map (qZ sm)):=by
 have:=LJ ((yT g sm o).map (·.No)) (sH n ((yT g sm o).map (qZ sm))) (wE (EJ g o) m) (ho.nos _) (by rw [List.length_map,hl])
 rw [List.map_map] at this
 exact this
theorem RQ {n:Int} {g:aE} {sm:aA→Int} {o:List aA} {m:MI} (ho:v7 o) {e:aA} (he:e ∈ o) (hg:RE g e = true) (hs:¬ 0 < sm e):cl (nA n g sm o m) e = 0:=by
 unfold cl nA
 rw [EG,HX,if_pos ⟨e,List.mem_filter.2 ⟨he,hg⟩,rfl⟩]
 intro q
 obtain ⟨x,hx,e'⟩:=List.mem_map.1 q
 obtain ⟨h1,h2⟩:=List.mem_filter.1 hx
 have:=ho.one x h1 e he e'
 subst this
 rw [Bool.and_eq_true,decide_eq_true_eq] at h2
 exact hs h2.2
theorem MN {n:Int} {g:aE} {sm:aA→Int} {o:List aA} {m:MI} (ho:v7 o) {e:aA} (he:e ∈ o) (hg:RE g e = false):cl (nA n g sm o m) e = cl m e:=by
 unfold cl nA
 rw [EG,HX,if_neg]
 ·rintro ⟨x,hx,e'⟩
  obtain ⟨h1,h2⟩:=List.mem_filter.1 hx
  have:=ho.one x h1 e he e'
  subst this
  rw [hg] at h2
  cases h2
 ·intro q
  obtain ⟨x,hx,e'⟩:=List.mem_map.1 q
  obtain ⟨h1,h2⟩:=List.mem_filter.1 hx
  have:=ho.one x h1 e he e'
  subst this
  rw [hg] at h2
  cases h2
theorem LF (n:Int) (g:aE) (sm:aA→Int) (o:List aA) (m:MI) (hl:(sH n ((yT g sm o).map (qZ sm))).length = (yT g sm o).length):(nA n g sm o m).length ≤ m.length + 2 * o.length:=by
 have h1:=MY ((yT g sm o).map (·.No)) (sH n ((yT g sm o).map (qZ sm))) (wE (EJ g o) m)
 have h2:=EP (EJ g o) m
 have h3:(yT g sm o).length ≤ o.length:=List.length_filter_le _ _
 have h4:(EJ g o).length ≤ o.length:=List.length_filter_le _ _
 unfold nA
 omega
theorem JP {step:Int × MI × List aG × List Int→Option ((Int × MI × List aG × List Int) ⊕ (MI × List aG × List Int))} (g:aE) (sm:aA→Int) (o:List aA) (hl:o.length ≤ 400) (m:MI) (hm:m.length ≤ 100000000000)
  (h:∀ (k:Nat) e m d u,o[k]? = some e→m.length < 1000000000000→d.length ≤ 400→u.length ≤ 400→step ((k:Int),m,d,u) = some (.inl (((k + 1:Nat):Int),S8 g sm (m,d,u) e)))
  (he:∀ a,step ((o.length:Int),a) = some (.inr a)) :
  eU step (0,m,[],[]) = some (wE (EJ g o) m,(yT g sm o).map (qZ sm),(yT g sm o).map (·.No)):=by
 have:=(pF (step:=step) (fun k a=>((k:Int),a)) o (S8 g sm) (fun k a=>a.1.length ≤ m.length + k ∧ a.2.1.length ≤ k ∧ a.2.2.length ≤ k) id (fun k a x hx hI=>by
  obtain ⟨m',d,u⟩:=a
  obtain ⟨h1,h2,h3⟩:=hI
  have hk:=pC hx
  dsimp only at h1 h2 h3
  refine ⟨h k x m' d u hx (by omega) (by omega) (by omega),?_⟩
  unfold S8
  have:=BP x.No (0:Int) m'
  split
  ·refine ⟨by show (fI x.No 0 m').length ≤ _; omega,?_,?_⟩
   ·show (if 0 < sm x then d ++ [qZ sm x] else d).length ≤ k + 1
    split
    ·rw [List.length_append,List.length_singleton]; omega
    ·omega
   ·show (if 0 < sm x then u ++ [x.No] else u).length ≤ k + 1
    split
    ·rw [List.length_append,List.length_singleton]; omega
    ·omega
  ·exact ⟨by show m'.length ≤ _; omega,by show d.length ≤ _; omega,by show u.length ≤ _; omega⟩) (fun a _=>he a) (m,[],[]) ⟨Nat.le_refl _,Nat.le_refl _,Nat.le_refl _⟩).1
 rw [LM] at this
 simpa using this
theorem SI {step:Int × MI→Option ((Int × MI) ⊕ MI)} (u x:List Int) (hl:x.length = u.length) (hu:u.length ≤ 400) (m:MI) (hm:m.length ≤ 100000000000)
  (h:∀ (k:Nat) i v m,u[k]? = some i→x[k]? = some v→m.length < 1000000000000→step ((k:Int),m) = some (.inl (((k + 1:Nat):Int),fI i v m)))
  (he:∀ m,step ((x.length:Int),m) = some (.inr m)) :
  eU step (0,m) = some (oG u x m):=by
 have key:∀ (u' x' p q:List Int) (m:MI),u = p ++ u'→x = q ++ x'→p.length = q.length→m.length ≤ 100000000000 + p.length→eU step ((p.length:Int),m) = some (oG u' x' m):=by
  intro u'
  induction u' with
  | nil =>
   intro x' p q m e1 e2 e3 hm
   have e4:x' = []:=by
    rw [e1,e2] at hl
    simp only [List.length_append,List.length_nil] at hl
    exact List.eq_nil_of_length_eq_zero (by omega)
   subst e4
   have:(p.length:Int) = (x.length:Int):=by rw [e2,List.append_nil,e3]
   rw [this,gB (he m)]
   rfl
  | cons i u' ih =>
   intro x' p q m e1 e2 e3 hm
   cases x' with
   | nil =>
    rw [e1,e2] at hl
    simp only [List.length_append,List.length_nil,List.length_cons] at hl
    omega
   | cons v x' =>
    have hp:p.length < u.length:=by rw [e1]; simp
    rw [gH (h p.length i v m (by rw [e1]; simp) (by rw [e2,e3]; simp) (by omega))]
    have hq:=BP i v m
    have:=ih x' (p ++ [i]) (q ++ [v]) (fI i v m) (by rw [e1]; simp) (by rw [e2]; simp) (by simp [e3]) (by rw [List.length_append,List.length_singleton]; omega)
    rw [List.length_append,List.length_singleton] at this
    exact this
 exact key u x [] [] m rfl rfl rfl (by simpa using hm)
end Go.Proofs.Ytiimibimkpimbaa
set_option linter.unusedVariables false
set_option linter.unusedSimpArgs false
namespace Go.Proofs.Ytiimibimkpimbaa
open Go.RowKit Vm
theorem UA {n:Int} (h:dW n) {b:Int} (hb:b ≤ 4611686018427387904) (hw:C6 (IntKind.wrap .i64 (n - 1)) b = true):1 ≤ n ∧ n ≤ b:=by
 obtain ⟨h1,h2⟩:=EE.1 hw
 obtain ⟨h3,h4⟩:=h
 by_cases e:n = -9223372036854775808
 ·subst e
  have:IntKind.wrap .i64 (-9223372036854775808 - 1) = 9223372036854775807:=by decide
  rw [this] at h2
  omega
 ·rw [jZ (by omega) (by omega)] at h1 h2
  exact ⟨by omega,by omega⟩
theorem aKv {n r:Int} (h:dW n) (hd:ST n r = true):1 ≤ n ∧ n ≤ 40:=by
 unfold ST at hd
 rw [Bool.and_eq_true] at hd
 exact UA h (by omega) hd.1
structure uM (N:Nat) (o:List aA):Prop where
 len:o.length ≤ 100
 diff:v7 o
 each:∀ e ∈ o,(0 ≤ e.From ∧ e.From < N) ∧ (0 ≤ e.To ∧ e.To < N) ∧ e.From ≠ e.To ∧ (1 ≤ e.Sum ∧ e.Sum ≤ 1099511627776) ∧ (0 ≤ e.No ∧ e.No < 1000) ∧ (0 ≤ e.Currency ∧ e.Currency < 8) ∧ (0 ≤ e.Due ∧ e.Due < 100001)
theorem IB {α:Type} (key:α→Int) (r:α):∀ l,(NP key r l).Perm (r :: l)
 | []=>.refl _
 | y :: l=>by
  unfold NP
  split
  ·exact .refl _
  ·exact ((IB key r l).cons y).trans (.swap r y l)
theorem F4 {α:Type} (key:α→Int):∀ l,(isK key l).Perm l
 | []=>.refl _
 | r :: l=>(IB key r (isK key l)).trans ((F4 key l).cons r)
theorem IV {α:Type} (key:α→Int) (r:α):∀ l:List α,l.Pairwise (fun a b=>key a ≤ key b)→(NP key r l).Pairwise (fun a b=>key a ≤ key b)
 | [],_=>by simp [NP]
 | y :: l,h=>by
  unfold NP
  obtain ⟨h1,h2⟩:=List.pairwise_cons.1 h
  split
  ·rename_i c
   refine List.pairwise_cons.2 ⟨fun z hz=>?_,h⟩
   rcases List.mem_cons.1 hz with rfl | hz
   ·omega
   ·have:=h1 z hz; omega
  ·rename_i c
   refine List.pairwise_cons.2 ⟨fun z hz=>?_,IV key r l h2⟩
   rcases List.mem_cons.1 ((IB key r l).mem_iff.1 hz) with rfl | hz
   ·omega
   ·exact h1 z hz
theorem K2 {α:Type} (key:α→Int):∀ l:List α,(isK key l).Pairwise (fun a b=>key a ≤ key b)
 | []=>.nil
 | r :: l=>IV key r _ (K2 key l)
theorem aBb {n r c:Int} {l:List aA} {x:aA}:x ∈ fQ n r c l ↔ x ∈ yK n r c l ∧ A8 c (yK n r c l) (wX n r c l) x = true:=by
 unfold fQ
 rw [(F4 _ _).mem_iff,EL]
theorem aE9 (n r c:Int) (l:List aA):(fQ n r c l).Pairwise fun a b=>a.No < b.No:=by
 have h1:(fQ n r c l).Pairwise fun a b=>a.No ≤ b.No:=K2 (fun (x:aA)=>x.No) _
 have h2:(fQ n r c l).Pairwise fun a b=>a ≠ b:=((F4 _ _).nodup_iff).2 (JK _ _ _)
 have hm:∀ a ∈ fQ n r c l,a ∈ w8 c (yK n r c l) (wX n r c l):=fun a ha=>(F4 _ _).mem_iff.1 ha
 refine (h1.and h2).imp_of_mem fun {a b} ha hb h=>?_
 have:a.No ≠ b.No:=fun e=>h.2 (OK (hm a ha) (hm b hb) e)
 omega
theorem X9 (n r c:Int) (l:List aA):v7 (fQ n r c l):=(aE9 n r c l).imp fun h=>by omega
theorem LY {n r c:Int} {N:Nat} (hN:n = N) {l:List aA} (hw:∀ e ∈ l,dW e.Sum) (h:(fQ n r c l).length ≤ 100):uM N (fQ n r c l):=by
 refine ⟨h,X9 n r c l,fun e he=>?_⟩
 obtain ⟨h1,h2⟩:=aBb.1 he
 obtain ⟨h3,h4,_⟩:=PB h1
 unfold A8 at h2
 simp only [Bool.and_eq_true,beq_iff_eq] at h2
 have hk:e.Kind = 0:=h2.1.1.1.1.1
 have hno:=aCi h4
 unfold NO ZG at h4
 rw [if_pos hk] at h4
 simp only [Bool.and_eq_true,EE,bne_iff_ne] at h4
 obtain ⟨⟨⟨⟨_,_⟩,⟨⟨⟨⟨⟨q1,q2⟩,q3⟩,q4⟩,q5⟩,q6⟩⟩,_⟩,_⟩:=h4
 subst hN
 exact ⟨q1,q2,q3,UA (hw e h3) (by omega) (EE.2 q6),hno,q4,q5⟩
theorem YL {g:aE} {o:List aA} {e:aA}:e ∈ EJ g o ↔ e ∈ o ∧ RE g e = true:=List.mem_filter
theorem G5 {g:aE} {sm:aA→Int} {o:List aA} {e:aA}:e ∈ yT g sm o ↔ e ∈ o ∧ RE g e = true ∧ 0 < sm e:=by
 unfold yT
 rw [List.mem_filter,Bool.and_eq_true,decide_eq_true_eq]
theorem K0 {N:Nat} {o:List aA} (ho:uM N o) (hN:N ≤ 40) {sm:aA→Int} (hs:∀ e ∈ o,sm e ≤ e.Sum) (g:aE):EA N ((yT g sm o).map (qZ sm)):=by
 refine ⟨hN,?_,fun i hi=>?_⟩
 ·rw [List.length_map]
  exact Nat.le_trans (List.length_filter_le _ _) ho.len
 ·have hm:=FO _ i hi
  obtain ⟨e,he,h1⟩:=List.mem_map.1 hm
  obtain ⟨h2,_,h3⟩:=G5.1 he
  obtain ⟨q1,q2,q3,q4,_⟩:=ho.each e h2
  have:=hs e h2
  rw [← h1]
  exact ⟨q1,q2,q3,by show 1 ≤ sm e; omega,by show sm e ≤ _; omega⟩
theorem JH {N:Nat} {d:List aG} (h:EA N d):∃ q,gS N d = some (sH N d,q,0) ∧ MV N d (sH N d) q:=by
 have hR:=Y3 N d
 rw [MX.2 ⟨N,rfl,h⟩] at hR
 obtain ⟨x,q,h1,h2⟩:=aJO h hR
 have:sH N d = x:=by unfold sH; rw [h1]
 rw [this]
 exact ⟨q,h1,h2⟩
theorem RD {N:Nat} {d:List aG} (h:EA N d):(sH N d).length = d.length:=by
 obtain ⟨q,_,h2⟩:=JH h
 exact h2.len
theorem YA {α β:Type} [Inhabited α] [Inhabited β] (f:α→β) {l:List α} {i:Nat} (h:i < l.length):el (l.map f) i = f (el l i):=iH f l i h
theorem RU {N:Nat} {L:List aA} {sm c:aA→Int} (h:EA N (L.map (qZ sm))) (hx:L.map c = sH N (L.map (qZ sm))):∀ e ∈ L,0 ≤ c e ∧ c e ≤ sm e:=by
 intro e he
 obtain ⟨q,_,hb⟩:=JH h
 obtain ⟨i,hi,rfl⟩:=VR he
 have h1:=hb.bald.lo i (by rw [List.length_map]; exact hi)
 have h2:=hb.bald.hi i (by rw [List.length_map]; exact hi)
 rw [← hx,YA c hi] at h1 h2
 unfold pV at h2
 rw [YA (qZ sm) hi] at h2
 exact ⟨h1,h2⟩
def Q6 (o:List aA) (m:MI):Prop:=∀ e ∈ o,0 ≤ cl m e ∧ cl m e ≤ e.Sum
section
variable {N:Nat} {o:List aA} (ho:uM N o) (hN:N ≤ 40)
include ho hN
theorem IW {sm:aA→Int} (hs:∀ e ∈ o,sm e ≤ e.Sum) (g:aE) (m:MI):(sH N ((yT g sm o).map (qZ sm))).length = (yT g sm o).length:=by
 rw [RD (K0 ho hN hs g),List.length_map]
theorem N4 {sm:aA→Int} (hs:∀ e ∈ o,sm e ≤ e.Sum) (g:aE) (m:MI):(yT g sm o).map (cl (nA N g sm o m)) = sH N ((yT g sm o).map (qZ sm)) :=
 aAB ho.diff (IW ho hN hs g m)
theorem aBI {sm:aA→Int} (hs:∀ e ∈ o,sm e ≤ e.Sum) (g:aE) {m:MI} (hm:∀ e ∈ o,RE g e = false→0 ≤ cl m e ∧ cl m e ≤ e.Sum):Q6 o (nA N g sm o m):=by
 intro e he
 by_cases hg:RE g e = true
 ·by_cases hp:0 < sm e
  ·have:=RU (K0 ho hN hs g) (N4 ho hN hs g m) e (G5.2 ⟨he,hg,hp⟩)
   have:=hs e he
   omega
  ·rw [RQ ho.diff he hg hp]
   have:=(ho.each e he).2.2.2.1
   omega
 ·rw [Bool.not_eq_true] at hg
  rw [MN ho.diff he hg]
  exact hm e he hg
end
theorem aBl {g:aE} {sm sm' : aA→Int} {o:List aA} (h:∀ e ∈ o,sm e = sm' e):yT g sm o = yT g sm' o ∧ (yT g sm o).map (qZ sm) = (yT g sm o).map (qZ sm'):=by
 refine ⟨List.filter_congr fun e he=>by rw [h e he],List.map_congr_left fun e he=>?_⟩
 unfold qZ
 rw [h e (G5.1 he).1]
noncomputable def vU (n:Int) (o:List aA) (a:MI × MB) (e:aA):MI × MB :=
 if fT (fD e.Currency e.Due) false a.2 = true then a else (nA n (wM e) (fun x=>x.Sum) o a.1,fI (fD e.Currency e.Due) true a.2)
noncomputable def nI (n:Int) (o:List aA):MI:=(o.foldl (vU n o) ([],[])).1
theorem aC4 {N:Nat} {o:List aA} (ho:uM N o) {a b:aA} (ha:a ∈ o) (hb:b ∈ o) (h:fD a.Currency a.Due = fD b.Currency b.Due):wM a = wM b:=by
 obtain ⟨_,_,_,_,_,a1,a2⟩:=ho.each a ha
 obtain ⟨_,_,_,_,_,b1,b2⟩:=ho.each b hb
 unfold fD at h
 unfold wM
 rw [aE.mk.injEq]
 omega
theorem ZC {N:Nat} {o:List aA} (ho:uM N o) (g:aE):yT g (fun x=>x.Sum) o = EJ g o:=by
 unfold yT EJ
 refine List.filter_congr fun e he=>?_
 have:=(ho.each e he).2.2.2.1
 rw [decide_eq_true (show 0 < e.Sum by omega),Bool.and_true]
structure FV (N:Nat) (o p:List aA) (a:MI × MB):Prop where
 seen:∀ e ∈ o,fT (fD e.Currency e.Due) false a.2 = true ↔ ∃ x ∈ p,wM x = wM e
 best:∀ e ∈ p,(EJ (wM e) o).map (cl a.1) = sH N ((EJ (wM e) o).map (qZ fun x=>x.Sum))
 len1:a.1.length ≤ 200 * p.length
 len2:a.2.length ≤ p.length
theorem FV.step {N:Nat} {o:List aA} (ho:uM N o) (hN:N ≤ 40) {p:List aA} {a:MI × MB} (h:FV N o p a) (hp:∀ x ∈ p,x ∈ o) {e:aA} (he:e ∈ o):FV N o (p ++ [e]) (vU N o a e):=by
 unfold vU
 by_cases c:fT (fD e.Currency e.Due) false a.2 = true
 ·rw [if_pos c]
  obtain ⟨x,hx,ex⟩:=(h.seen e he).1 c
  refine ⟨fun y hy=>?_,fun y hy=>?_,by rw [List.length_append]; have:=h.len1; omega,by rw [List.length_append]; have:=h.len2; omega⟩
  ·rw [h.seen y hy]
   constructor
   ·rintro ⟨z,hz,q⟩
    exact ⟨z,List.mem_append_left _ hz,q⟩
   ·rintro ⟨z,hz,q⟩
    rcases List.mem_append.1 hz with hz | hz
    ·exact ⟨z,hz,q⟩
    ·rw [List.mem_singleton.1 hz] at q
     exact ⟨x,hx,ex.trans q⟩
  ·rcases List.mem_append.1 hy with hy | hy
   ·exact h.best y hy
   ·rw [List.mem_singleton.1 hy,← ex]
    exact h.best x hx
 ·rw [if_neg c]
  have hs:∀ x ∈ o,(fun x:aA=>x.Sum) x ≤ x.Sum:=fun x _=>Int.le_refl _
  have hl:=IW ho hN hs (wM e) a.1
  refine ⟨fun y hy=>?_,fun y hy=>?_,?_,?_⟩
  ·show fT (fD y.Currency y.Due) false (fI (fD e.Currency e.Due) true a.2) = true ↔ _
   rw [F3]
   by_cases q:fD y.Currency y.Due = fD e.Currency e.Due
   ·rw [if_pos q]
    exact ⟨fun _=>⟨e,List.mem_append_right _ (List.mem_singleton.2 rfl),(aC4 ho hy he q).symm⟩,fun _=>rfl⟩
   ·rw [if_neg q,h.seen y hy]
    constructor
    ·rintro ⟨z,hz,q⟩
     exact ⟨z,List.mem_append_left _ hz,q⟩
    ·rintro ⟨z,hz,q'⟩
     rcases List.mem_append.1 hz with hz | hz
     ·exact ⟨z,hz,q'⟩
     ·rw [List.mem_singleton.1 hz] at q'
      unfold wM at q'
      rw [aE.mk.injEq] at q'
      exact absurd (by rw [q'.1,q'.2]) q
  ·show (EJ (wM y) o).map (cl (nA N (wM e) (fun x=>x.Sum) o a.1)) = _
   by_cases q:wM y = wM e
   ·rw [q]
    have:=N4 ho hN hs (wM e) a.1
    rw [ZC ho] at this
    exact this
   ·have hy' : y ∈ p:=by
     rcases List.mem_append.1 hy with hy | hy
     ·exact hy
     ·exact absurd (by rw [List.mem_singleton.1 hy]) q
    rw [← h.best y hy']
    refine List.map_congr_left fun z hz=>?_
    obtain ⟨z1,z2⟩:=YL.1 hz
    refine MN ho.diff z1 ?_
    rw [Bool.eq_false_iff]
    intro q2
    exact q ((PT.1 z2).symm.trans (PT.1 q2))
  ·have h1:=LF N (wM e) (fun x=>x.Sum) o a.1 hl
   have h2:=h.len1
   have h3:=ho.len
   rw [List.length_append,List.length_singleton]
   show (nA N (wM e) (fun x=>x.Sum) o a.1).length ≤ _
   omega
  ·have h1:=BP (fD e.Currency e.Due) true a.2
   have h2:=h.len2
   rw [List.length_append,List.length_singleton]
   show (fI (fD e.Currency e.Due) true a.2).length ≤ _
   omega
theorem OD {N:Nat} {o:List aA} (ho:uM N o) (hN:N ≤ 40):FV N o o (o.foldl (vU N o) ([],[])):=by
 have key:∀ (r p:List aA) (a:MI × MB),o = p ++ r→FV N o p a→FV N o o (r.foldl (vU N o) a):=by
  intro r
  induction r with
  | nil =>
   intro p a e h
   rw [List.append_nil] at e
   rw [← e] at h
   exact h
  | cons x r ih =>
   intro p a e h
   rw [List.foldl_cons]
   exact ih (p ++ [x]) _ (by rw [e]; simp) (h.step ho hN (fun y hy=>by rw [e]; exact List.mem_append_left _ hy) (by rw [e]; simp))
 exact key o [] _ rfl ⟨fun e he=>(by simp [fT]),fun e he=>(by cases he),(by simp),(by simp)⟩
theorem L6 {N:Nat} {o:List aA} (ho:uM N o) (hN:N ≤ 40) {e:aA} (he:e ∈ o):(EJ (wM e) o).map (cl (nI N o)) = sH N ((EJ (wM e) o).map (qZ fun x=>x.Sum)):=(OD ho hN).best e he
theorem aCU {N:Nat} {o:List aA} (ho:uM N o) (hN:N ≤ 40) (g:aE):EA N ((EJ g o).map (qZ fun x=>x.Sum)):=by
 rw [← ZC ho g]
 exact K0 ho hN (fun x _=>Int.le_refl _) g
theorem UP {N:Nat} {o:List aA} (ho:uM N o) (hN:N ≤ 40):Q6 o (nI N o):=fun e he =>
 RU (aCU ho hN (wM e)) (L6 ho hN he) e (YL.2 ⟨he,PT.2 rfl⟩)
theorem aBJ {N:Nat} {o:List aA} (ho:uM N o) (hN:N ≤ 40):(nI N o).length ≤ 20000:=by
 have h1:=(OD ho hN).len1
 have h2:=ho.len
 unfold nI
 omega
def sN (o:List aA) (m:MI):List aC:=(o.filter fun e=>decide (0 < cl m e)).map fun e=>⟨4,e.Room,e.No,cl m e⟩
def yH (no:Int) (o:List aA):aE:=o.foldl (fun g e=>if e.No = no then wM e else g) ⟨0,0⟩
def MW (no:Int) (m:MI) (e:aA):Int:=if e.No = no then 0 else cl m e
noncomputable def WM (n:Int) (o:List aA) (m:MI) (no:Int):MI:=nA n (yH no o) (MW no m) o m
def zO (o:List aA) (m m' : MI):List aC:=(o.filter fun e=>decide (0 < cl m e - cl m' e)).map fun e=>⟨5,e.Room,e.No,cl m e - cl m' e⟩
theorem aEp {o:List aA} {m:MI} (h:Q6 o m) {N:Nat} (ho:uM N o) (no:Int):∀ e ∈ o,MW no m e ≤ e.Sum:=fun e he=>by
 unfold MW
 have:=(ho.each e he).2.2.2.1
 have:=h e he
 split <;> omega
theorem aIt {N:Nat} {o:List aA} (ho:uM N o) (hN:N ≤ 40) {m:MI} (h:Q6 o m) (no:Int):Q6 o (WM N o m no):=aBI ho hN (aEp h ho no) _ fun e he _=>h e he
abbrev StF:=Option (List aA × MI)
noncomputable def iQ (n r c:Int) (pre:List aA) (st:StF) (e:aA):StF × List aC × Int :=
 if NO n r e = false then (st,[],1) else match st with
 | none=>if e.Kind = 4 then (if e.Day < c then (none,[],13) else if 100 < (fQ n r c pre).length then (none,[],6) else (some (fQ n r c pre,nI n (fQ n r c pre)),sN (fQ n r c pre) (nI n (fQ n r c pre)),0))
  else if e.Kind = 5 then (none,[],7) else if c < e.Day then (none,[],16) else (none,[],0)
 | some (o,m)=>if e.Kind = 4 then (st,[],7) else if e.Kind = 5 then (if fT e.No 0 m = 0 then (st,[],4) else (some (o,WM n o m e.No),zO o m (WM n o m e.No),0)) else (st,[],16)
abbrev R4:=List aA × StF × List aC × List Int
noncomputable def J4 (n r c:Int) (a:R4) (e:aA):R4 :=
 (a.1 ++ [e],(iQ n r c a.1 a.2.1 e).1,a.2.2.1 ++ (iQ n r c a.1 a.2.1 e).2.1,a.2.2.2 ++ [(iQ n r c a.1 a.2.1 e).2.2])
noncomputable def dN (n r c:Int) (l:List aA):R4:=l.foldl (J4 n r c) ([],none,[],[])
theorem mS (n r c:Int) (l:List aA) (e:aA):dN n r c (l ++ [e]) = J4 n r c (dN n r c l) e:=by
 unfold dN
 rw [List.foldl_append]
 rfl
theorem PC (n r c:Int):∀ (l:List aA) (a:R4),(l.foldl (J4 n r c) a).1 = a.1 ++ l
 | [],a=>by simp
 | e :: l,a=>by
  rw [List.foldl_cons,PC n r c l]
  show a.1 ++ [e] ++ l = _
  simp
theorem EI (n r c:Int) (l:List aA):(dN n r c l).1 = l:=by
 have:=PC n r c l ([],none,[],[])
 simpa [dN] using this
def UQ (N:Nat):StF→Prop
 | none=>True
 | some (o,m)=>uM N o ∧ Q6 o m
theorem aAC {n r c:Int} {N:Nat} (hn:n = N) (hN:N ≤ 40) {pre:List aA} (hw:∀ e ∈ pre,dW e.Sum) {st:StF} (h:UQ N st) (e:aA):UQ N (iQ n r c pre st e).1:=by
 subst hn
 unfold iQ
 split
 ·exact h
 ·cases st with
  | none =>
   dsimp only
   split
   ·split
    ·trivial
    ·split
     ·trivial
     ·have ho:=LY (r:=r) (c:=c) rfl hw (show (fQ (N:Int) r c pre).length ≤ 100 by omega)
      exact ⟨ho,UP ho hN⟩
   ·split
    ·trivial
    ·split <;> trivial
  | some s =>
   obtain ⟨o,m⟩:=s
   dsimp only
   split
   ·exact h
   ·split
    ·split
     ·exact h
     ·exact ⟨h.1,aIt h.1 hN h.2 _⟩
    ·exact h
theorem TD {n r c:Int} {N:Nat} (hn:n = N) (hN:N ≤ 40):∀ (l:List aA) (a:R4),(∀ e ∈ a.1,dW e.Sum)→(∀ e ∈ l,dW e.Sum)→UQ N a.2.1→UQ N (l.foldl (J4 n r c) a).2.1
 | [],a,_,_,h=>h
 | e :: l,a,h1,h2,h=>by
  rw [List.foldl_cons]
  refine TD hn hN l _ (fun x hx=>?_) (fun x hx=>h2 x (List.mem_cons_of_mem _ hx)) (aAC hn hN h1 h e)
  rcases List.mem_append.1 hx with hx | hx
  ·exact h1 x hx
  ·rw [List.mem_singleton.1 hx]
   exact h2 e List.mem_cons_self
end Go.Proofs.Ytiimibimkpimbaa
