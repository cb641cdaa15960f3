/- What fair.Counting returns. What fair.Counting returns: the offers that count, by their numbers. Clearing a group of offers: the loops of settle. What a fair does, event by event, in plain terms; what stays right. -/
import Derived.Test.YtiimibimkpimbaaFn
import Derived.Test.YtiimibimkpimbaaLoops3
import Derived.Test.YtiimibimkpimbaaPCb
set_option linter.unusedVariables false
set_option linter.unusedSimpArgs false
namespace Go.Proofs.Ytiimibimkpimbaa
open Go.RowKit Vm
theorem pB {α S A X:Type} {step:S→Option (S ⊕ X)} (st:Nat→A→S) (l:List α) (f:A→α→A) (I:Nat→A→Prop) (fin:A→X)
  (h:∀ k a x,l[k]? = some x→I k a→step (st k a) = some (.inl (st (k + 1) (f a x))) ∧ I (k + 1) (f a x))
  (he:∀ a,I l.length a→step (st l.length a) = some (.inr (fin a))) (a:A) (h0:I 0 a) :
  eX step (st 0 a) = some (fin (l.foldl f a)) ∧ I l.length (l.foldl f a):=by
 have key:∀ (r p:List α) (a:A),l = p ++ r→I p.length a→eX step (st p.length a) = some (fin (r.foldl f a)) ∧ I l.length (r.foldl f a):=by
  intro r
  induction r with
  | nil =>
   intro p a e hI
   rw [List.append_nil] at e
   subst e
   exact ⟨gN (he a hI),hI⟩
  | cons x r ih =>
   intro p a e hI
   obtain ⟨h1,h2⟩:=h p.length a x (by rw [e]; simp) hI
   rw [gH h1]
   have:=ih (p ++ [x]) (f a x) (by rw [e]; simp) (by rw [List.length_append]; exact h2)
   rw [List.length_append] at this
   exact this
 exact key l [] a rfl h0
theorem mO {α:Type} {l:List α} {k:Nat} {x:α} (h:l[k]? = some x):at? l (k:Int) = some x:=by rw [at?_nat]; exact h
theorem qR {α:Type} {l:List α} {k:Nat} {x:α} (h:l[k]? = some x):k < l.length:=(List.getElem?_eq_some_iff.1 h).1
theorem gY {α:Type} {l:List α} {k:Nat} {x:α} (h:l[k]? = some x):(decide ((k:Int) < (l.length:Int)) = true) = True:=by
 have:=qR h
 simp only [decide_eq_true_eq,eq_iff_iff,iff_true]
 omega
theorem AD {α:Type} (p:α→Bool):∀ (l acc:List α),l.foldl (fun out x=>if p x = true then out ++ [x] else out) acc = acc ++ l.filter p
 | [],acc=>by simp
 | x :: l,acc=>by
  rw [List.foldl_cons,AD p l,List.filter_cons]
  split <;> simp
theorem aEX {α S:Type} {step:S→Option (S ⊕ (Unit ⊕ Int))} (st:Nat→S) (l:List α) (p:α→Bool)
  (h:∀ k x,l[k]? = some x→step (st k) = if p x = true then some (.inr (.inr (k:Int))) else some (.inl (st (k + 1))))
  (he:step (st l.length) = some (.inr (.inl ()))) :
  ∃ r,eX step (st 0) = some r ∧ ((r = .inl () ∧ l.any p = false) ∨ ∃ k:Nat,r = .inr (k:Int) ∧ l.any p = true):=by
 have key:∀ (r q:List α),l = q ++ r→∃ z,eX step (st q.length) = some z ∧ ((z = .inl () ∧ r.any p = false) ∨ ∃ k:Nat,z = .inr (k:Int) ∧ r.any p = true):=by
  intro r
  induction r with
  | nil =>
   intro q e
   rw [List.append_nil] at e
   subst e
   exact ⟨_,gN he,.inl ⟨rfl,rfl⟩⟩
  | cons x r ih =>
   intro q e
   have hs:=h q.length x (by rw [e]; simp)
   by_cases hp:p x = true
   ·rw [if_pos hp] at hs
    exact ⟨_,gN hs,.inr ⟨q.length,rfl,by simp [hp]⟩⟩
   ·rw [if_neg hp] at hs
    rw [gH hs]
    obtain ⟨z,h1,h2⟩:=ih (q ++ [x]) (by rw [e]; simp)
    rw [List.length_append] at h1
    refine ⟨z,h1,?_⟩
    have e2:(x :: r).any p = r.any p:=by
     simp only [List.any_cons,Bool.not_eq_true] at hp ⊢
     rw [hp,Bool.false_or]
    rw [e2]
    exact h2
 exact key l [] rfl
def CG (i n:Int):Bool:=decide (0 ≤ i) && decide (i < n)
theorem DZ {i n:Int}:CG i n = true ↔ 0 ≤ i ∧ i < n:=by simp [CG]
theorem DW (i n:Int):dY i n = some (CG i n):=by
 unfold dY CG
 by_cases h:0 ≤ i
 ·rw [if_pos (by simpa using h)]; simp [h]
 ·rw [if_neg (by simpa using h)]; simp [h]
def SF (n r:Int):Bool:=CG (IntKind.wrap .i64 (n - 1)) 40 && CG (IntKind.wrap .i64 (r - 1)) 8
def T4 (n:Int) (e:aA):Bool :=
 if e.Kind = 0 then CG e.From n && CG e.To n && (e.From != e.To) && CG e.Currency 8 && CG e.Due 100001 && CG (IntKind.wrap .i64 (e.Sum - 1)) 1099511627776
 else if e.Kind = 1 ∨ e.Kind = 2 then CG e.From n && (0 == e.To) && (0 == e.Currency) && (0 == e.Due) && (0 == e.Sum)
 else if e.Kind = 3 then decide (e.Due ≥ e.Day) && decide (e.Due ≤ 100000) && (0 == e.No) && (0 == e.From) && (0 == e.To) && (0 == e.Currency) && (0 == e.Sum)
 else if e.Kind = 5 then (0 == e.Room) && (0 == e.From) && (0 == e.To) && (0 == e.Currency) && (0 == e.Due) && (0 == e.Sum)
 else if e.Kind = 4 then (0 == e.Room) && (0 == e.No) && (0 == e.From) && (0 == e.To) && (0 == e.Currency) && (0 == e.Due) && (0 == e.Sum)
 else false
def JD (n r:Int) (e:aA):Bool:=SF n r && CG e.Day 100001 && T4 n e && CG e.Room r && CG e.No 1000
def RZ (b:Bool):Int:=if b = true then 0 else 1
theorem aKW (r:Int) (e:aA) (b:Bool) (x1 x2 x3 x4 x5 x6 x7:Int):dF r e b x1 x2 x3 x4 x5 x6 x7 = some (RZ (b && ((x1 == e.Room) && (x2 == e.No) && (x3 == e.From) && (x4 == e.To) && (x5 == e.Currency) && (x6 == e.Due) && (x7 == e.Sum)) && CG e.Room r && CG e.No 1000)):=by
 unfold dF
 simp only [DW,Option.bind_some,beq_self_eq_true,Bool.true_and]
 generalize (x1 == e.Room) = c1
 generalize (x2 == e.No) = c2
 generalize (x3 == e.From) = c3
 generalize (x4 == e.To) = c4
 generalize (x5 == e.Currency) = c5
 generalize (x6 == e.Due) = c6
 generalize (x7 == e.Sum) = c7
 generalize CG e.Room r = d1
 generalize CG e.No 1000 = d2
 have:∀ c:Bool,(c1 && (c2 && (c3 && (c4 && (c5 && (c6 && c7)))))) = c→(if (!b) = true then some (1:Int) else if (!c) = true then some 1 else if (!d1) = true then some 1 else if (!d2) = true then some 1 else some 0) = some (RZ (b && c && d1 && d2)):=by
  intro c _
  cases b <;> cases c <;> cases d1 <;> cases d2 <;> rfl
 rw [this _ rfl]
 simp only [Bool.and_assoc]
theorem aJ9 (n r:Int) (e:aA) (b:Bool):lW n r e b = some (RZ (b && T4 n e && CG e.Room r && CG e.No 1000)):=by
 unfold lW pR
 simp only [DW,Option.bind_some,aKW,beq_self_eq_true,Bool.true_and,Bool.and_true,beq_iff_eq]
 unfold T4
 by_cases k0:e.Kind = 0
 ·rw [if_pos k0,if_pos k0]
  generalize CG e.From n = c1
  generalize CG e.To n = c2
  generalize (e.From != e.To) = c3
  generalize CG e.Currency 8 = c4
  generalize CG e.Due 100001 = c5
  generalize CG (IntKind.wrap .i64 (e.Sum - 1)) 1099511627776 = c6
  cases b <;> cases c1 <;> cases c2 <;> cases c3 <;> cases c4 <;> cases c5 <;> simp
 ·rw [if_neg k0,if_neg k0]
  by_cases k1:e.Kind = 1
  ·rw [if_pos k1,if_pos k1,if_pos (show e.Kind = 1 ∨ e.Kind = 2 from .inl k1)]
   generalize CG e.From n = c1
   cases b <;> simp [Bool.and_assoc]
  ·rw [if_neg k1]
   by_cases k2:e.Kind = 2
   ·rw [if_pos k2,if_pos (show e.Kind = 1 ∨ e.Kind = 2 from .inr k2)]
    generalize CG e.From n = c1
    cases b <;> simp [Bool.and_assoc]
   ·rw [if_neg k2,if_neg (show ¬(e.Kind = 1 ∨ e.Kind = 2) from fun q=>q.elim k1 k2)]
    by_cases k3:e.Kind = 3
    ·rw [if_pos k3,if_pos k3]
     generalize decide (e.Due ≥ e.Day) = c1
     generalize decide (e.Due ≤ 100000) = c2
     cases b <;> cases c1 <;> simp [Bool.and_assoc]
    ·rw [if_neg k3,if_neg k3]
     by_cases k5:e.Kind = 5
     ·rw [if_pos k5,if_pos k5]
      cases b <;> simp [Bool.and_assoc]
     ·rw [if_neg k5,if_neg k5]
      by_cases k4:e.Kind = 4
      ·rw [if_pos k4,if_pos k4]
       cases b <;> simp [Bool.and_assoc]
      ·rw [if_neg k4,if_neg k4]
       simp
theorem CB (n r:Int) (e:aA):kB n r e = some (RZ (JD n r e)):=by
 unfold kB JD SF
 simp only [DW,Option.bind_some,aJ9]
 generalize CG (IntKind.wrap .i64 (n - 1)) 40 = c1
 generalize CG (IntKind.wrap .i64 (r - 1)) 8 = c2
 cases c1 <;> cases c2 <;> simp
theorem aEE (b:Bool):((RZ b == 0) = true) = (b = true):=by cases b <;> simp [RZ]
theorem X5 (b:Bool):((RZ b != 0) = true) = (b = false):=by cases b <;> simp [RZ]
end Go.Proofs.Ytiimibimkpimbaa
set_option linter.unusedVariables false
set_option linter.unusedSimpArgs false
namespace Go.Proofs.Ytiimibimkpimbaa
open Go.RowKit Vm
theorem JL {α:Type} {step:Int→Option (Int ⊕ (Unit ⊕ Int))} (l:List α) (hl:l.length ≤ 100000) (p:α→Bool)
  (h:∀ (k:Nat) x,l[k]? = some x→step k = if p x = true then some (.inr (.inr (k:Int))) else some (.inl (IntKind.wrap .i64 ((k:Int) + 1))))
  (he:step l.length = some (.inr (.inl ()))) :
  ∃ i:Int,(eX (fun (w:Int)=>step w) 0).bind (fun (r5:Unit ⊕ Int)=>Sum.elim (fun z6=>some (-1)) (fun z7=>some z7) r5) = some i ∧ decide (i ≥ 0) = l.any p:=by
 obtain ⟨r,h1,h2⟩:=aEX (step:=fun (w:Int)=>step w) (fun k:Nat=>(k:Int)) l p (fun k x hx=>by
  have:=qR hx
  have e:=h k x hx
  rw [dJ (by omega)] at e
  exact e) he
 have e0:eX (fun (w:Int)=>step w) 0 = some r:=h1
 rw [e0,Option.bind_some]
 rcases h2 with ⟨rfl,h3⟩ | ⟨k,rfl,h3⟩
 ·exact ⟨-1,rfl,by rw [h3]; rfl⟩
 ·exact ⟨k,rfl,by rw [h3]; simp⟩
def eqE (a b:aA):Bool:=(a.Kind == b.Kind) && ((a.Room == b.Room) && ((a.Day == b.Day) && ((a.No == b.No) && ((a.From == b.From) && ((a.To == b.To) && ((a.Currency == b.Currency) && ((a.Due == b.Due) && (a.Sum == b.Sum))))))))
theorem QE {a b:aA}:eqE a b = true ↔ a = b:=by
 unfold eqE
 cases a; cases b
 simp
theorem aEd (a:aA):eqE a a = true:=QE.2 rfl
def aFA (room day:Int) (e:aA):Bool:=(e.Kind == 3) && (e.Room == room) && decide (e.Day ≤ day) && decide (day ≤ e.Due)
def xJ (s:List aA) (room day:Int):Bool:=s.any (aFA room day)
def W7 (kind no from_:Int) (e:aA):Bool:=(e.Kind == kind) && (e.No == no) && (e.From == from_)
def H4 (v:List aA) (kind no from_:Int):Bool:=v.any (W7 kind no from_)
def aBx (e x:aA):Bool:=(x.Kind == 0) && (x.No == e.No) && !eqE x e
def GK (v:List aA) (e:aA):Bool:=v.any (aBx e)
theorem N9 {s:List aA} (hs:s.length ≤ 100000) (room day:Int):oV s room day = some (xJ s room day):=by
 obtain ⟨i,h1,h2⟩:=JL (step:=fun w=>bD s room day w) s hs (aFA room day) (fun k x hx=>by
  show bD s room day k = _
  unfold bD
  simp only [gY hx,if_true,mO hx,Option.bind_some]
  have:kN x room day = some (aFA room day x):=by
   unfold kN aFA
   by_cases c1:x.Kind = 3 <;> by_cases c2:x.Room = room <;> by_cases c3:x.Day ≤ day <;> simp [c1,c2,c3]
  rw [this,Option.bind_some]) (by
  show bD s room day s.length = _
  unfold bD
  rw [if_neg (by simp)])
 unfold oV cE cR dB
 rw [h1,Option.bind_some,h2]
 rfl
theorem aGc {v:List aA} (hv:v.length ≤ 100000) (kind no from_:Int):gD kind no from_ v = some (H4 v kind no from_):=by
 obtain ⟨i,h1,h2⟩:=JL (step:=fun w=>bG v kind no from_ w) v hv (W7 kind no from_) (fun k x hx=>by
  show bG v kind no from_ k = _
  unfold bG
  simp only [gY hx,if_true,mO hx,Option.bind_some]
  have:iB x kind no from_ = some (W7 kind no from_ x):=by
   unfold iB W7
   by_cases c1:x.Kind = kind <;> by_cases c2:x.No = no <;> simp [c1,c2]
  rw [this,Option.bind_some]) (by
  show bG v kind no from_ v.length = _
  unfold bG
  rw [if_neg (by simp)])
 unfold gD cD cU dD
 rw [h1,Option.bind_some,h2]
 rfl
theorem aCH {v:List aA} (hv:v.length ≤ 100000) (e:aA):bU v e = some (GK v e):=by
 obtain ⟨i,h1,h2⟩:=JL (step:=fun w=>bE v e w) v hv (aBx e) (fun k x hx=>by
  show bE v e k = _
  unfold bE
  simp only [gY hx,if_true,mO hx,Option.bind_some]
  have:jJ x e = some (aBx e x):=by
   unfold jJ aBx eqE
   by_cases c1:x.Kind = 0 <;> by_cases c2:x.No = e.No <;> simp [c1,c2]
  rw [this,Option.bind_some]) (by
  show bE v e v.length = _
  unfold bE
  rw [if_neg (by simp)])
 unfold bU cQ dC
 rw [h1,Option.bind_some,h2]
 rfl
theorem T1 {v:List aA} (hv:v.length ≤ 100000) (e:aA):cC v e = some (v.any (eqE e)):=by
 obtain ⟨i,h1,h2⟩:=JL (step:=fun w=>bJ v e w) v hv (eqE e) (fun k x hx=>by
  show bJ v e k = _
  unfold bJ
  simp only [gY hx,if_true,mO hx,Option.bind_some]
  rfl) (by
  show bJ v e v.length = _
  unfold bJ
  rw [if_neg (by simp)])
 unfold cC dI dX
 rw [h1,Option.bind_some,h2]
def O2 (n r c:Int) (e:aA):Bool:=JD n r e && (e.Kind == 3) && decide (e.Day ≤ c)
def mH (n r c:Int) (l:List aA):List aA:=l.filter (O2 n r c)
def xV (n r c:Int) (s:List aA) (e:aA):Bool:=JD n r e && decide (e.Kind ≤ 2) && decide (e.Day ≤ c) && xJ s e.Room e.Day
def qD (n r c:Int) (l:List aA):List aA:=l.filter (xV n r c (mH n r c l))
def vJ (c:Int) (v s:List aA) (e:aA):Bool:=(e.Kind == 0) && !GK v e && xJ s e.Room c && H4 v 1 e.No e.To && !H4 v 2 e.No e.From && !H4 v 2 e.No e.To
def BK (c:Int) (v s:List aA) (out:List aA) (e:aA):List aA:=if (vJ c v s e && !out.any (eqE e)) = true then out ++ [e] else out
def wT (c:Int) (v s:List aA):List aA:=v.foldl (BK c v s) []
def dM (n r c:Int) (l:List aA):List aA:=isK (fun (x:aA)=>x.No) (wT c (qD n r c l) (mH n r c l))
def rU (n r c:Int) (l:List aA):Bool:=SF n r && CG c 100001 && decide (l.length ≤ 400)
theorem FU (n r c:Int) (l:List aA):pY n r c l = some (rU n r c l):=by
 unfold pY rU SF
 simp only [DW,Option.bind_some]
 generalize CG (IntKind.wrap .i64 (n - 1)) 40 = c1
 generalize CG (IntKind.wrap .i64 (r - 1)) 8 = c2
 generalize CG c 100001 = c3
 cases c1 <;> cases c2 <;> cases c3 <;> simp
 omega
theorem ON {α:Type} {f:List α→α→List α} (hf:∀ o x,f o x = o ∨ f o x = o ++ [x]):∀ (l o:List α),(l.foldl f o).length ≤ o.length + l.length
 | [],o=>by simp
 | x :: l,o=>by
  rw [List.foldl_cons]
  have:=ON hf l (f o x)
  rcases hf o x with e | e <;> rw [e] at this ⊢ <;> simp only [List.length_append,List.length_cons,List.length_nil] at this ⊢ <;> omega
theorem aEx {l:List aA} (hl:l.length ≤ 400) (n r c:Int):nB n r c l 0 [] = some (mH n r c l):=by
 unfold nB
 have h:=pB (step:=fun (w:Int × (List aA))=>fI n r c l w.1 w.2) (fun k a=>((k:Int),a)) l (fun out x=>if O2 n r c x = true then out ++ [x] else out) (fun k a=>a.length ≤ k) id (fun k a x hx hI=>by
  have hk:=qR hx
  have w3:IntKind.wrap .i64 ((k:Int) + 1) = ((k + 1:Nat):Int):=dJ (by omega)
  constructor
  ·show fI n r c l k a = _
   unfold fI O2
   simp only [gY hx,if_true,mO hx,Option.bind_some,CB,aEE,w3]
   by_cases c1:JD n r x = true
   ·by_cases c2:x.Kind = 3
    ·by_cases c3:x.Day ≤ c
     ·simp only [c1,c2,c3,if_true,beq_self_eq_true,decide_true,Bool.and_self]
      rw [if_pos (by omega)]
     ·simp [c1,c2,c3]
    ·simp [c1,c2]
   ·simp [c1]
  ·split
   ·rw [List.length_append,List.length_singleton]; omega
   ·omega) (fun a hI=>by
  show fI n r c l l.length a = _
  unfold fI
  rw [if_neg (by simp)]
  rfl) [] (Nat.le_refl _)
 rw [AD] at h
 exact h.1
theorem aCq {l s:List aA} (hl:l.length ≤ 400) (hs:s.length ≤ 400) (n r c:Int):nM n r c l s 0 [] = some (l.filter (xV n r c s)):=by
 unfold nM
 have h:=pB (step:=fun (w:Int × (List aA))=>fK n r c l s w.1 w.2) (fun k a=>((k:Int),a)) l (fun out x=>if xV n r c s x = true then out ++ [x] else out) (fun k a=>a.length ≤ k) id (fun k a x hx hI=>by
  have hk:=qR hx
  have w3:IntKind.wrap .i64 ((k:Int) + 1) = ((k + 1:Nat):Int):=dJ (by omega)
  constructor
  ·show fK n r c l s k a = _
   unfold fK xV
   simp only [gY hx,if_true,mO hx,Option.bind_some,CB,aEE,w3,N9 (show s.length ≤ 100000 by omega)]
   by_cases c1:JD n r x = true
   ·by_cases c2:x.Kind ≤ 2
    ·by_cases c3:x.Day ≤ c
     ·by_cases c4:xJ s x.Room x.Day = true
      ·simp only [c1,c2,c3,c4,if_true,beq_self_eq_true,decide_true,Bool.and_self]
       rw [if_pos (by omega)]
      ·simp [c1,c2,c3,c4]
     ·simp [c1,c2,c3]
    ·simp [c1,c2]
   ·simp [c1]
  ·split
   ·rw [List.length_append,List.length_singleton]; omega
   ·omega) (fun a hI=>by
  show fK n r c l s l.length a = _
  unfold fK
  rw [if_neg (by simp)]
  rfl) [] (Nat.le_refl _)
 rw [AD] at h
 exact h.1
theorem aFk {v s:List aA} (hv:v.length ≤ 400) (hs:s.length ≤ 400) (c:Int):kK c v s 0 [] = some (wT c v s):=by
 unfold kK
 have h:=pB (step:=fun (w:Int × (List aA))=>fJ c v s w.1 w.2) (fun k a=>((k:Int),a)) v (BK c v s) (fun k a=>a.length ≤ k) id (fun k a x hx hI=>by
  have hk:=qR hx
  have w3:IntKind.wrap .i64 ((k:Int) + 1) = ((k + 1:Nat):Int):=dJ (by omega)
  constructor
  ·show fJ c v s k a = _
   unfold fJ BK vJ
   simp only [gY hx,if_true,mO hx,Option.bind_some,w3,N9 (show s.length ≤ 100000 by omega),aCH (show v.length ≤ 100000 by omega),aGc (show v.length ≤ 100000 by omega),T1 (show a.length ≤ 100000 by omega)]
   by_cases c1:x.Kind = 0
   ·have c1' : (x.Kind != 0) = false:=by simp [c1]
    have c1'' : (x.Kind == 0) = true:=by simp [c1]
    rw [c1',c1'',if_neg (by decide)]
    have hl:(a.length + 1) * 72 ≤ 140737488355328:=by omega
    generalize GK v x = b1
    generalize a.any (eqE x) = b2
    generalize xJ s x.Room c = b3
    generalize H4 v 1 x.No x.To = b4
    generalize H4 v 2 x.No x.From = b5
    generalize H4 v 2 x.No x.To = b6
    cases b1 <;> cases b2 <;> cases b3 <;> cases b4 <;> cases b5 <;> cases b6 <;> simp [hl]
   ·simp [c1]
  ·unfold BK
   split
   ·rw [List.length_append,List.length_singleton]; omega
   ·omega) (fun a hI=>by
  show fJ c v s v.length a = _
  unfold fJ
  rw [if_neg (by simp)]
  rfl) [] (Nat.le_refl _)
 exact h.1
theorem GU (c:Int) (v s:List aA):∀ (l out:List aA),out.Nodup→(l.foldl (BK c v s) out).Nodup ∧ ∀ x,x ∈ l.foldl (BK c v s) out ↔ x ∈ out ∨ (x ∈ l ∧ vJ c v s x = true)
 | [],out,h=>⟨h,fun x=>by simp⟩
 | y :: l,out,h=>by
  rw [List.foldl_cons]
  have key:(BK c v s out y).Nodup ∧ ∀ x,x ∈ BK c v s out y ↔ x ∈ out ∨ (x = y ∧ vJ c v s x = true):=by
   unfold BK
   have hm:out.any (eqE y) = true ↔ y ∈ out:=by
    rw [List.any_eq_true]
    exact ⟨fun ⟨z,h1,h2⟩=>by rw [QE.1 h2]; exact h1,fun h1=>⟨y,h1,aEd y⟩⟩
   by_cases cy:vJ c v s y = true
   ·by_cases hy:y ∈ out
    ·rw [hm.2 hy,if_neg (by simp)]
     exact ⟨h,fun x=>⟨.inl,fun q=>q.elim id fun q=>by rw [q.1]; exact hy⟩⟩
    ·have:out.any (eqE y) = false:=by
      rw [Bool.eq_false_iff]; exact fun q=>hy (hm.1 q)
     rw [this,if_pos (by simp [cy])]
     refine ⟨List.nodup_append.2 ⟨h,by simp,fun a ha b hb=>?_⟩,fun x=>?_⟩
     ·rw [List.mem_singleton] at hb
      subst hb
      exact fun e=>hy (e ▸ ha)
     ·rw [List.mem_append,List.mem_singleton]
      exact ⟨fun q=>q.elim .inl fun q=>.inr ⟨q,by rw [q]; exact cy⟩,fun q=>q.elim .inl fun q=>.inr q.1⟩
   ·rw [if_neg (by simp [cy])]
    exact ⟨h,fun x=>⟨.inl,fun q=>q.elim id fun q=>absurd (q.1 ▸ q.2) cy⟩⟩
  obtain ⟨h1,h2⟩:=GU c v s l _ key.1
  refine ⟨h1,fun x=>?_⟩
  rw [h2,key.2,List.mem_cons]
  constructor
  ·rintro ((q | q) | q)
   ·exact .inl q
   ·exact .inr ⟨.inl q.1,q.2⟩
   ·exact .inr ⟨.inr q.1,q.2⟩
  ·rintro (q | ⟨q | q,q2⟩)
   ·exact .inl (.inl q)
   ·exact .inl (.inr ⟨q,q2⟩)
   ·exact .inr ⟨q,q2⟩
theorem DD {c:Int} {v s:List aA} {x:aA}:x ∈ wT c v s ↔ x ∈ v ∧ vJ c v s x = true:=by
 have:=(GU c v s v [] List.nodup_nil).2 x
 simpa [wT] using this
theorem HY (c:Int) (v s:List aA):(wT c v s).Nodup:=(GU c v s v [] List.nodup_nil).1
theorem NQ {c:Int} {v s:List aA} {x y:aA} (hx:x ∈ wT c v s) (hy:y ∈ wT c v s) (h:x.No = y.No):x = y:=by
 obtain ⟨h1,h2⟩:=DD.1 hx
 obtain ⟨h3,h4⟩:=DD.1 hy
 unfold vJ at h2 h4
 simp only [Bool.and_eq_true,Bool.not_eq_true',beq_iff_eq] at h2 h4
 have h5:GK v y = false:=h4.1.1.1.1.2
 unfold GK at h5
 rw [List.any_eq_false] at h5
 have h6:=h5 x h1
 unfold aBx at h6
 rw [h2.1.1.1.1.1,h,Bool.not_eq_true] at h6
 simp only [beq_self_eq_true,Bool.and_self,Bool.true_and,Bool.not_eq_false'] at h6
 exact QE.1 h6
theorem RY {α:Type} {key:α→Int}:∀ {l:List α},l.Nodup→(∀ x ∈ l,∀ y ∈ l,key x = key y→x = y)→N5 key l = true
 | [],_,_=>rfl
 | r :: l,h,hk=>by
  obtain ⟨h1,h2⟩:=List.nodup_cons.1 h
  show (l.all (fun s=>decide (key s ≠ key r)) && N5 key l) = true
  rw [RY h2 fun x hx y hy=>hk x (List.mem_cons_of_mem _ hx) y (List.mem_cons_of_mem _ hy),Bool.and_true,List.all_eq_true]
  intro x hx
  rw [decide_eq_true_eq]
  intro e
  have:=hk x (List.mem_cons_of_mem _ hx) r List.mem_cons_self e
  exact h1 (this ▸ hx)
theorem LO {α:Type} (p:α→Bool) (l:List α):(l.filter p).length ≤ l.length:=List.length_filter_le p l
theorem aDl (c:Int) (v s o:List aA) (x:aA):BK c v s o x = o ∨ BK c v s o x = o ++ [x]:=by
 unfold BK
 split
 ·exact .inr rfl
 ·exact .inl rfl
theorem aAk (c:Int) (v s:List aA):(wT c v s).length ≤ v.length:=by
 have:=ON (aDl c v s) v []
 simpa [wT] using this
theorem aDr {n r:Int} {e:aA} (h:JD n r e = true):0 ≤ e.No ∧ e.No < 1000:=by
 unfold JD at h
 rw [Bool.and_eq_true] at h
 exact DZ.1 h.2
theorem N6 {n r c:Int} {s l:List aA} {e:aA} (h:e ∈ l.filter (xV n r c s)):e ∈ l ∧ JD n r e = true ∧ e.Kind ≤ 2 ∧ e.Day ≤ c ∧ xJ s e.Room e.Day = true:=by
 obtain ⟨h1,h2⟩:=List.mem_filter.1 h
 unfold xV at h2
 simp only [Bool.and_eq_true,decide_eq_true_eq] at h2
 exact ⟨h1,h2.1.1.1,h2.1.1.2,h2.1.2,h2.2⟩
theorem L7 {n r c:Int} {l:List aA} (h:rU n r c l = true):lT n r c l = some (dM n r c l):=by
 have hl:l.length ≤ 400:=by
  unfold rU at h
  rw [Bool.and_eq_true,decide_eq_true_eq] at h
  exact h.2
 have h1:(mH n r c l).length ≤ 400:=Nat.le_trans (LO _ _) hl
 have h2:(qD n r c l).length ≤ 400:=Nat.le_trans (LO _ _) hl
 have h3:=aAk c (qD n r c l) (mH n r c l)
 have hok:okK (fun (x:aA)=>x.No) (wT c (qD n r c l) (mH n r c l)) = true:=by
  unfold okK
  rw [RY (HY _ _ _) fun x hx y hy e=>NQ hx hy e,Bool.and_true,Bool.and_eq_true,decide_eq_true_eq,List.all_eq_true]
  refine ⟨fun x hx=>?_,by omega⟩
  rw [decide_eq_true_eq]
  exact aDr (N6 (DD.1 hx).1).2.1
 unfold lT
 rw [FU,h,Option.bind_some,if_neg (by decide),aEx hl,Option.bind_some,aCq hl h1,Option.bind_some]
 show (kK c (qD n r c l) (mH n r c l) 0 []).bind _ = _
 rw [aFk h2 h1,Option.bind_some]
 unfold d9
 rw [if_pos hok]
 rfl
end Go.Proofs.Ytiimibimkpimbaa
set_option linter.unusedVariables false
set_option linter.unusedSimpArgs false
namespace Go.Proofs.Ytiimibimkpimbaa
open Go.RowKit Vm
theorem H9 {α:Type} {k k' : Int} (v:α) (h:k ≠ k'):∀ l:List (Int × α),(qV k v l).find? (fun p=>decide (p.1 = k')) = l.find? fun p=>decide (p.1 = k')
 | []=>by simp [qV,h]
 | y :: l=>by
  unfold qV
  split
  ·rw [List.find?_cons]
   simp [h]
  ·rw [List.find?_cons,List.find?_cons,H9 v h l]
theorem IF {α:Type} {k:Int} (v:α):∀ l:List (Int × α),(∀ p ∈ l,p.1 ≠ k)→(qV k v l).find? (fun p=>decide (p.1 = k)) = some (k,v)
 | [],_=>by simp [qV]
 | y :: l,h=>by
  unfold qV
  split
  ·rw [List.find?_cons]
   simp
  ·have:=h y List.mem_cons_self
   rw [List.find?_cons,IF v l fun p hp=>h p (List.mem_cons_of_mem _ hp)]
   simp [this]
theorem IM {α:Type} {k k' : Int} (h:k ≠ k'):∀ l:List (Int × α),(vC k l).find? (fun p=>decide (p.1 = k')) = l.find? fun p=>decide (p.1 = k')
 | []=>rfl
 | y :: l=>by
  unfold vC
  rw [List.filter_cons]
  have ih:=IM h l
  unfold vC at ih
  by_cases e:y.1 = k
  ·rw [if_neg (by simp [e]),ih,List.find?_cons]
   have:¬ y.1 = k':=fun q=>h (e.symm.trans q)
   simp [this]
  ·rw [if_pos (by simp [e]),List.find?_cons,List.find?_cons,ih]
theorem FL {α:Type} (k k' : Int) (v z:α) (m:List (Int × α)):fT k' z (fL k v m) = if k' = k then v else fT k' z m:=by
 unfold fT fL
 by_cases h:k' = k
 ·subst h
  rw [if_pos rfl,IF v _ fun p hp=>by
   have:=(List.mem_filter.1 hp).2
   simpa using this]
 ·rw [if_neg h,H9 v (fun q=>h q.symm),IM fun q=>h q.symm]
theorem BF {α:Type} (k:Int) (v:α) (m:List (Int × α)):(fL k v m).length ≤ m.length + 1:=by
 unfold fL
 rw [LI]
 have:=List.length_filter_le (fun p:Int × α=>!decide (p.1 = k)) m
 unfold vC
 omega
def XW (g:aE) (e:aA):Bool:=(e.Currency == g.currency) && (e.Due == g.due)
def AH (e:aA):aE:=⟨e.Currency,e.Due⟩
theorem aG9 (e:aA):uQ e = some (AH e):=rfl
theorem PF {g:aE} {e:aA}:XW g e = true ↔ AH e = g:=by
 cases g
 simp [XW,AH]
def tJ (sm:aA→Int) (e:aA):aM:=⟨e.From,e.To,sm e⟩
def S2 (g:aE) (sm:aA→Int) (a:MI × List aM × List Int) (e:aA):MI × List aM × List Int :=
 if XW g e = true then (fL e.No 0 a.1,if 0 < sm e then a.2.1 ++ [tJ sm e] else a.2.1,if 0 < sm e then a.2.2 ++ [e.No] else a.2.2) else a
def IQ (g:aE) (o:List aA):List aA:=o.filter (XW g)
def xX (g:aE) (sm:aA→Int) (o:List aA):List aA:=o.filter fun e=>XW g e && decide (0 < sm e)
def vT (l:List aA) (m:MI):MI:=l.foldl (fun m e=>fL e.No 0 m) m
theorem KJ (g:aE) (sm:aA→Int):∀ (o:List aA) (m:MI) (d:List aM) (u:List Int),o.foldl (S2 g sm) (m,d,u) = (vT (IQ g o) m,d ++ (xX g sm o).map (tJ sm),u ++ (xX g sm o).map (·.No))
 | [],m,d,u=>by simp [vT,IQ,xX]
 | e :: o,m,d,u=>by
  rw [List.foldl_cons]
  by_cases c:XW g e = true
  ·have e1:S2 g sm (m,d,u) e = (fL e.No 0 m,if 0 < sm e then d ++ [tJ sm e] else d,if 0 < sm e then u ++ [e.No] else u):=if_pos c
   rw [e1,KJ g sm o]
   unfold IQ xX vT
   rw [List.filter_cons,if_pos c,List.filter_cons,c,Bool.true_and,List.foldl_cons]
   by_cases c2:0 < sm e
   ·rw [if_pos c2,if_pos c2,if_pos (by simpa using c2)]
    simp [tJ]
   ·rw [if_neg c2,if_neg c2,if_neg (by simpa using c2)]
  ·have e1:S2 g sm (m,d,u) e = (m,d,u):=if_neg c
   rw [e1,KJ g sm o]
   unfold IQ xX vT
   rw [List.filter_cons,if_neg c,List.filter_cons,if_neg (by simp [c])]
theorem DY:∀ (l:List aA) (m:MI),(vT l m).length ≤ m.length + l.length
 | [],m=>Nat.le_refl _
 | e :: l,m=>by
  have h1:=DY l (fL e.No 0 m)
  have h2:=BF e.No (0:Int) m
  show (vT l (fL e.No 0 m)).length ≤ _
  rw [List.length_cons]
  omega
theorem G2 (k:Int):∀ (l:List aA) (m:MI),fT k 0 (vT l m) = if (∃ e ∈ l,e.No = k) then 0 else fT k 0 m
 | [],m=>by simp [vT]
 | e :: l,m=>by
  show fT k 0 (vT l (fL e.No 0 m)) = _
  rw [G2 k l,FL]
  by_cases h1:∃ x ∈ l,x.No = k
  ·rw [if_pos h1,if_pos]
   obtain ⟨x,hx,e'⟩:=h1
   exact ⟨x,List.mem_cons_of_mem _ hx,e'⟩
  ·rw [if_neg h1]
   by_cases h2:k = e.No
   ·rw [if_pos h2,if_pos ⟨e,List.mem_cons_self,h2.symm⟩]
   ·rw [if_neg h2,if_neg]
    rintro ⟨x,hx,e'⟩
    rcases List.mem_cons.1 hx with rfl | hx
    ·exact h2 e'.symm
    ·exact h1 ⟨x,hx,e'⟩
def nP:List Int→List Int→MI→MI
 | k :: u,v :: x,m=>nP u x (fL k v m)
 | _,_,m=>m
theorem JY:∀ (u x:List Int) (m:MI),(nP u x m).length ≤ m.length + x.length
 | [],x,m=>by simp [nP]
 | _ :: _,[],m=>by simp [nP]
 | k :: u,v :: x,m=>by
  have h1:=JY u x (fL k v m)
  have h2:=BF k v m
  show (nP u x (fL k v m)).length ≤ _
  rw [List.length_cons]
  omega
theorem DS {k:Int}:∀ (u x:List Int) (m:MI),k ∉ u→fT k 0 (nP u x m) = fT k 0 m
 | [],x,m,_=>by simp [nP]
 | _ :: _,[],m,_=>by simp [nP]
 | i :: u,v :: x,m,h=>by
  show fT k 0 (nP u x (fL i v m)) = _
  rw [DS u x _ fun q=>h (List.mem_cons_of_mem _ q),FL,if_neg fun q=>h (by rw [q]; exact List.mem_cons_self)]
theorem LZ:∀ (u x:List Int) (m:MI),u.Nodup→u.length = x.length→u.map (fun k=>fT k 0 (nP u x m)) = x
 | [],[],m,_,_=>rfl
 | [],_ :: _,m,_,h=>by cases h
 | _ :: _,[],m,_,h=>by cases h
 | k :: u,v :: x,m,hn,h=>by
  obtain ⟨h1,h2⟩:=List.nodup_cons.1 hn
  show fT k 0 (nP u x (fL k v m)) :: u.map (fun k'=>fT k' 0 (nP u x (fL k v m))) = _
  rw [LZ u x _ h2 (by simpa using h),DS u x _ h1,FL,if_pos rfl]
noncomputable def sA (n:Int) (d:List aM):List Int:=match iK n d with
 | some r=>r.1
 | none=>[]
noncomputable def mK (n:Int) (g:aE) (sm:aA→Int) (o:List aA) (m:MI):MI :=
 nP ((xX g sm o).map (·.No)) (sA n ((xX g sm o).map (tJ sm))) (vT (IQ g o) m)
def A5 (o:List aA):Prop:=o.Pairwise fun a b=>a.No ≠ b.No
theorem A5.one {o:List aA} (h:A5 o):∀ a ∈ o,∀ b ∈ o,a.No = b.No→a = b:=by
 induction o with
 | nil=>intro a ha; cases ha
 | cons x o ih =>
  obtain ⟨h1,h2⟩:=List.pairwise_cons.1 h
  intro a ha b hb e
  rcases List.mem_cons.1 ha with e1 | ha'
  ·rcases List.mem_cons.1 hb with e2 | hb'
   ·rw [e1,e2]
   ·rw [e1] at e
    exact absurd e (h1 b hb')
  ·rcases List.mem_cons.1 hb with e2 | hb'
   ·rw [e2] at e
    exact absurd e.symm (h1 a ha')
   ·exact ih h2 a ha' b hb' e
theorem A5.nos {o:List aA} (h:A5 o) (p:aA→Bool):((o.filter p).map (·.No)).Nodup:=by
 have h1:(o.filter p).Pairwise fun a b=>a.No ≠ b.No:=List.Pairwise.filter p h
 exact List.pairwise_map.2 h1
def cl (m:MI) (e:aA):Int:=fT e.No 0 m
theorem aBr {n:Int} {g:aE} {sm:aA→Int} {o:List aA} {m:MI} (ho:A5 o) (hl:(sA n ((xX g sm o).map (tJ sm))).length = (xX g sm o).length) :
  (xX g sm o).map (cl (mK n g sm o m)) = sA n ((xX g sm o).map (tJ sm)):=by
 have:=LZ ((xX g sm o).map (·.No)) (sA n ((xX g sm o).map (tJ sm))) (vT (IQ g o) m) (ho.nos _) (by rw [List.length_map,hl])
 rw [List.map_map] at this
 exact this
theorem RD {n:Int} {g:aE} {sm:aA→Int} {o:List aA} {m:MI} (ho:A5 o) {e:aA} (he:e ∈ o) (hg:XW g e = true) (hs:¬ 0 < sm e):cl (mK n g sm o m) e = 0:=by
 unfold cl mK
 rw [DS,G2,if_pos ⟨e,List.mem_filter.2 ⟨he,hg⟩,rfl⟩]
 intro q
 obtain ⟨x,hx,e'⟩:=List.mem_map.1 q
 obtain ⟨h1,h2⟩:=List.mem_filter.1 hx
 have:=ho.one x h1 e he e'
 subst this
 rw [Bool.and_eq_true,decide_eq_true_eq] at h2
 exact hs h2.2
theorem L5 {n:Int} {g:aE} {sm:aA→Int} {o:List aA} {m:MI} (ho:A5 o) {e:aA} (he:e ∈ o) (hg:XW g e = false):cl (mK n g sm o m) e = cl m e:=by
 unfold cl mK
 rw [DS,G2,if_neg]
 ·rintro ⟨x,hx,e'⟩
  obtain ⟨h1,h2⟩:=List.mem_filter.1 hx
  have:=ho.one x h1 e he e'
  subst this
  rw [hg] at h2
  cases h2
 ·intro q
  obtain ⟨x,hx,e'⟩:=List.mem_map.1 q
  obtain ⟨h1,h2⟩:=List.mem_filter.1 hx
  have:=ho.one x h1 e he e'
  subst this
  rw [hg] at h2
  cases h2
theorem KV (n:Int) (g:aE) (sm:aA→Int) (o:List aA) (m:MI) (hl:(sA n ((xX g sm o).map (tJ sm))).length = (xX g sm o).length):(mK n g sm o m).length ≤ m.length + 2 * o.length:=by
 have h1:=JY ((xX g sm o).map (·.No)) (sA n ((xX g sm o).map (tJ sm))) (vT (IQ g o) m)
 have h2:=DY (IQ g o) m
 have h3:(xX g sm o).length ≤ o.length:=List.length_filter_le _ _
 have h4:(IQ g o).length ≤ o.length:=List.length_filter_le _ _
 unfold mK
 omega
theorem HW {step:Int × MI × List aM × List Int→Option ((Int × MI × List aM × List Int) ⊕ (MI × List aM × List Int))} (g:aE) (sm:aA→Int) (o:List aA) (hl:o.length ≤ 400) (m:MI) (hm:m.length ≤ 100000000000)
  (h:∀ (k:Nat) e m d u,o[k]? = some e→m.length < 1000000000000→d.length ≤ 400→u.length ≤ 400→step ((k:Int),m,d,u) = some (.inl (((k + 1:Nat):Int),S2 g sm (m,d,u) e)))
  (he:∀ a,step ((o.length:Int),a) = some (.inr a)) :
  eX step (0,m,[],[]) = some (vT (IQ g o) m,(xX g sm o).map (tJ sm),(xX g sm o).map (·.No)):=by
 have:=(pB (step:=step) (fun k a=>((k:Int),a)) o (S2 g sm) (fun k a=>a.1.length ≤ m.length + k ∧ a.2.1.length ≤ k ∧ a.2.2.length ≤ k) id (fun k a x hx hI=>by
  obtain ⟨m',d,u⟩:=a
  obtain ⟨h1,h2,h3⟩:=hI
  have hk:=qR hx
  dsimp only at h1 h2 h3
  refine ⟨h k x m' d u hx (by omega) (by omega) (by omega),?_⟩
  unfold S2
  have:=BF x.No (0:Int) m'
  split
  ·refine ⟨by show (fL x.No 0 m').length ≤ _; omega,?_,?_⟩
   ·show (if 0 < sm x then d ++ [tJ sm x] else d).length ≤ k + 1
    split
    ·rw [List.length_append,List.length_singleton]; omega
    ·omega
   ·show (if 0 < sm x then u ++ [x.No] else u).length ≤ k + 1
    split
    ·rw [List.length_append,List.length_singleton]; omega
    ·omega
  ·exact ⟨by show m'.length ≤ _; omega,by show d.length ≤ _; omega,by show u.length ≤ _; omega⟩) (fun a _=>he a) (m,[],[]) ⟨Nat.le_refl _,Nat.le_refl _,Nat.le_refl _⟩).1
 rw [KJ] at this
 simpa using this
theorem QT {step:Int × MI→Option ((Int × MI) ⊕ MI)} (u x:List Int) (hl:x.length = u.length) (hu:u.length ≤ 400) (m:MI) (hm:m.length ≤ 100000000000)
  (h:∀ (k:Nat) i v m,u[k]? = some i→x[k]? = some v→m.length < 1000000000000→step ((k:Int),m) = some (.inl (((k + 1:Nat):Int),fL i v m)))
  (he:∀ m,step ((x.length:Int),m) = some (.inr m)) :
  eX step (0,m) = some (nP u x m):=by
 have key:∀ (u' x' p q:List Int) (m:MI),u = p ++ u'→x = q ++ x'→p.length = q.length→m.length ≤ 100000000000 + p.length→eX step ((p.length:Int),m) = some (nP u' x' m):=by
  intro u'
  induction u' with
  | nil =>
   intro x' p q m e1 e2 e3 hm
   have e4:x' = []:=by
    rw [e1,e2] at hl
    simp only [List.length_append,List.length_nil] at hl
    exact List.eq_nil_of_length_eq_zero (by omega)
   subst e4
   have:(p.length:Int) = (x.length:Int):=by rw [e2,List.append_nil,e3]
   rw [this,gN (he m)]
   rfl
  | cons i u' ih =>
   intro x' p q m e1 e2 e3 hm
   cases x' with
   | nil =>
    rw [e1,e2] at hl
    simp only [List.length_append,List.length_nil,List.length_cons] at hl
    omega
   | cons v x' =>
    have hp:p.length < u.length:=by rw [e1]; simp
    rw [gH (h p.length i v m (by rw [e1]; simp) (by rw [e2,e3]; simp) (by omega))]
    have hq:=BF i v m
    have:=ih x' (p ++ [i]) (q ++ [v]) (fL i v m) (by rw [e1]; simp) (by rw [e2]; simp) (by simp [e3]) (by rw [List.length_append,List.length_singleton]; omega)
    rw [List.length_append,List.length_singleton] at this
    exact this
 exact key u x [] [] m rfl rfl rfl (by simpa using hm)
end Go.Proofs.Ytiimibimkpimbaa
set_option linter.unusedVariables false
set_option linter.unusedSimpArgs false
namespace Go.Proofs.Ytiimibimkpimbaa
open Go.RowKit Vm
theorem UB {n:Int} (h:dO n) {b:Int} (hb:b ≤ 4611686018427387904) (hw:CG (IntKind.wrap .i64 (n - 1)) b = true):1 ≤ n ∧ n ≤ b:=by
 obtain ⟨h1,h2⟩:=DZ.1 hw
 obtain ⟨h3,h4⟩:=h
 by_cases e:n = -9223372036854775808
 ·subst e
  have:IntKind.wrap .i64 (-9223372036854775808 - 1) = 9223372036854775807:=by decide
  rw [this] at h2
  omega
 ·rw [jT (by omega) (by omega)] at h1 h2
  exact ⟨by omega,by omega⟩
theorem aJY {n r:Int} (h:dO n) (hd:SF n r = true):1 ≤ n ∧ n ≤ 40:=by
 unfold SF at hd
 rw [Bool.and_eq_true] at hd
 exact UB h (by omega) hd.1
structure tM (N:Nat) (o:List aA):Prop where
 len:o.length ≤ 100
 diff:A5 o
 each:∀ e ∈ o,(0 ≤ e.From ∧ e.From < N) ∧ (0 ≤ e.To ∧ e.To < N) ∧ e.From ≠ e.To ∧ (1 ≤ e.Sum ∧ e.Sum ≤ 1099511627776) ∧ (0 ≤ e.No ∧ e.No < 1000) ∧ (0 ≤ e.Currency ∧ e.Currency < 8) ∧ (0 ≤ e.Due ∧ e.Due < 100001)
theorem GS {α:Type} (key:α→Int) (r:α):∀ l,(M4 key r l).Perm (r :: l)
 | []=>.refl _
 | y :: l=>by
  unfold M4
  split
  ·exact .refl _
  ·exact ((GS key r l).cons y).trans (.swap r y l)
theorem FN {α:Type} (key:α→Int):∀ l,(isK key l).Perm l
 | []=>.refl _
 | r :: l=>(GS key r (isK key l)).trans ((FN key l).cons r)
theorem HV {α:Type} (key:α→Int) (r:α):∀ l:List α,l.Pairwise (fun a b=>key a ≤ key b)→(M4 key r l).Pairwise (fun a b=>key a ≤ key b)
 | [],_=>by simp [M4]
 | y :: l,h=>by
  unfold M4
  obtain ⟨h1,h2⟩:=List.pairwise_cons.1 h
  split
  ·rename_i c
   refine List.pairwise_cons.2 ⟨fun z hz=>?_,h⟩
   rcases List.mem_cons.1 hz with rfl | hz
   ·omega
   ·have:=h1 z hz; omega
  ·rename_i c
   refine List.pairwise_cons.2 ⟨fun z hz=>?_,HV key r l h2⟩
   rcases List.mem_cons.1 ((GS key r l).mem_iff.1 hz) with rfl | hz
   ·omega
   ·exact h1 z hz
theorem MC {α:Type} (key:α→Int):∀ l:List α,(isK key l).Pairwise (fun a b=>key a ≤ key b)
 | []=>.nil
 | r :: l=>HV key r _ (MC key l)
theorem HI {n r c:Int} {l:List aA} {x:aA}:x ∈ dM n r c l ↔ x ∈ qD n r c l ∧ vJ c (qD n r c l) (mH n r c l) x = true:=by
 unfold dM
 rw [(FN _ _).mem_iff,DD]
theorem KH (n r c:Int) (l:List aA):(dM n r c l).Pairwise fun a b=>a.No < b.No:=by
 have h1:(dM n r c l).Pairwise fun a b=>a.No ≤ b.No:=MC (fun (x:aA)=>x.No) _
 have h2:(dM n r c l).Pairwise fun a b=>a ≠ b:=((FN _ _).nodup_iff).2 (HY _ _ _)
 have hm:∀ a ∈ dM n r c l,a ∈ wT c (qD n r c l) (mH n r c l):=fun a ha=>(FN _ _).mem_iff.1 ha
 refine (h1.and h2).imp_of_mem fun {a b} ha hb h=>?_
 have:a.No ≠ b.No:=fun e=>h.2 (NQ (hm a ha) (hm b hb) e)
 omega
theorem V3 (n r c:Int) (l:List aA):A5 (dM n r c l):=(KH n r c l).imp fun h=>by omega
theorem TN {n r c:Int} {N:Nat} (hN:n = N) {l:List aA} (hw:∀ e ∈ l,dO e.Sum) (h:(dM n r c l).length ≤ 100):tM N (dM n r c l):=by
 refine ⟨h,V3 n r c l,fun e he=>?_⟩
 obtain ⟨h1,h2⟩:=HI.1 he
 obtain ⟨h3,h4,_⟩:=N6 h1
 unfold vJ at h2
 simp only [Bool.and_eq_true,beq_iff_eq] at h2
 have hk:e.Kind = 0:=h2.1.1.1.1.1
 have hno:=aDr h4
 unfold JD T4 at h4
 rw [if_pos hk] at h4
 simp only [Bool.and_eq_true,DZ,bne_iff_ne] at h4
 obtain ⟨⟨⟨⟨_,_⟩,⟨⟨⟨⟨⟨q1,q2⟩,q3⟩,q4⟩,q5⟩,q6⟩⟩,_⟩,_⟩:=h4
 subst hN
 exact ⟨q1,q2,q3,UB (hw e h3) (by omega) (DZ.2 q6),hno,q4,q5⟩
theorem X8 {g:aE} {o:List aA} {e:aA}:e ∈ IQ g o ↔ e ∈ o ∧ XW g e = true:=List.mem_filter
theorem FJ {g:aE} {sm:aA→Int} {o:List aA} {e:aA}:e ∈ xX g sm o ↔ e ∈ o ∧ XW g e = true ∧ 0 < sm e:=by
 unfold xX
 rw [List.mem_filter,Bool.and_eq_true,decide_eq_true_eq]
theorem KA {N:Nat} {o:List aA} (ho:tM N o) (hN:N ≤ 40) {sm:aA→Int} (hs:∀ e ∈ o,sm e ≤ e.Sum) (g:aE):E4 N ((xX g sm o).map (tJ sm)):=by
 refine ⟨hN,?_,fun i hi=>?_⟩
 ·rw [List.length_map]
  exact Nat.le_trans (List.length_filter_le _ _) ho.len
 ·have hm:=B5 _ i hi
  obtain ⟨e,he,h1⟩:=List.mem_map.1 hm
  obtain ⟨h2,_,h3⟩:=FJ.1 he
  obtain ⟨q1,q2,q3,q4,_⟩:=ho.each e h2
  have:=hs e h2
  rw [← h1]
  exact ⟨q1,q2,q3,by show 1 ≤ sm e; omega,by show sm e ≤ _; omega⟩
theorem K5 {N:Nat} {d:List aM} (h:E4 N d):∃ q,iK N d = some (sA N d,q,0) ∧ T3 N d (sA N d) q:=by
 have hR:=aFr N d
 rw [VT.2 ⟨N,rfl,h⟩] at hR
 obtain ⟨x,q,h1,h2⟩:=aJS h hR
 have:sA N d = x:=by unfold sA; rw [h1]
 rw [this]
 exact ⟨q,h1,h2⟩
theorem O8 {N:Nat} {d:List aM} (h:E4 N d):(sA N d).length = d.length:=by
 obtain ⟨q,_,h2⟩:=K5 h
 exact h2.len
theorem PV {α β:Type} [Inhabited α] [Inhabited β] (f:α→β) {l:List α} {i:Nat} (h:i < l.length):el (l.map f) i = f (el l i):=i5 f l i h
theorem RI {N:Nat} {L:List aA} {sm c:aA→Int} (h:E4 N (L.map (tJ sm))) (hx:L.map c = sA N (L.map (tJ sm))):∀ e ∈ L,0 ≤ c e ∧ c e ≤ sm e:=by
 intro e he
 obtain ⟨q,_,hb⟩:=K5 h
 obtain ⟨i,hi,rfl⟩:=WG he
 have h1:=hb.bald.lo i (by rw [List.length_map]; exact hi)
 have h2:=hb.bald.hi i (by rw [List.length_map]; exact hi)
 rw [← hx,PV c hi] at h1 h2
 unfold qU at h2
 rw [PV (tJ sm) hi] at h2
 exact ⟨h1,h2⟩
def PU (o:List aA) (m:MI):Prop:=∀ e ∈ o,0 ≤ cl m e ∧ cl m e ≤ e.Sum
section
variable {N:Nat} {o:List aA} (ho:tM N o) (hN:N ≤ 40)
include ho hN
theorem II {sm:aA→Int} (hs:∀ e ∈ o,sm e ≤ e.Sum) (g:aE) (m:MI):(sA N ((xX g sm o).map (tJ sm))).length = (xX g sm o).length:=by
 rw [O8 (KA ho hN hs g),List.length_map]
theorem NO {sm:aA→Int} (hs:∀ e ∈ o,sm e ≤ e.Sum) (g:aE) (m:MI):(xX g sm o).map (cl (mK N g sm o m)) = sA N ((xX g sm o).map (tJ sm)) :=
 aBr ho.diff (II ho hN hs g m)
theorem Z6 {sm:aA→Int} (hs:∀ e ∈ o,sm e ≤ e.Sum) (g:aE) {m:MI} (hm:∀ e ∈ o,XW g e = false→0 ≤ cl m e ∧ cl m e ≤ e.Sum):PU o (mK N g sm o m):=by
 intro e he
 by_cases hg:XW g e = true
 ·by_cases hp:0 < sm e
  ·have:=RI (KA ho hN hs g) (NO ho hN hs g m) e (FJ.2 ⟨he,hg,hp⟩)
   have:=hs e he
   omega
  ·rw [RD ho.diff he hg hp]
   have:=(ho.each e he).2.2.2.1
   omega
 ·rw [Bool.not_eq_true] at hg
  rw [L5 ho.diff he hg]
  exact hm e he hg
end
theorem ZK {g:aE} {sm sm' : aA→Int} {o:List aA} (h:∀ e ∈ o,sm e = sm' e):xX g sm o = xX g sm' o ∧ (xX g sm o).map (tJ sm) = (xX g sm o).map (tJ sm'):=by
 refine ⟨List.filter_congr fun e he=>by rw [h e he],List.map_congr_left fun e he=>?_⟩
 unfold tJ
 rw [h e (FJ.1 he).1]
noncomputable def u7 (n:Int) (o:List aA) (a:MI × MB) (e:aA):MI × MB :=
 if fT (fC e.Currency e.Due) false a.2 = true then a else (mK n (AH e) (fun x=>x.Sum) o a.1,fL (fC e.Currency e.Due) true a.2)
noncomputable def lM (n:Int) (o:List aA):MI:=(o.foldl (u7 n o) ([],[])).1
theorem aCe {N:Nat} {o:List aA} (ho:tM N o) {a b:aA} (ha:a ∈ o) (hb:b ∈ o) (h:fC a.Currency a.Due = fC b.Currency b.Due):AH a = AH b:=by
 obtain ⟨_,_,_,_,_,a1,a2⟩:=ho.each a ha
 obtain ⟨_,_,_,_,_,b1,b2⟩:=ho.each b hb
 unfold fC at h
 unfold AH
 rw [aE.mk.injEq]
 omega
theorem X6 {N:Nat} {o:List aA} (ho:tM N o) (g:aE):xX g (fun x=>x.Sum) o = IQ g o:=by
 unfold xX IQ
 refine List.filter_congr fun e he=>?_
 have:=(ho.each e he).2.2.2.1
 rw [decide_eq_true (show 0 < e.Sum by omega),Bool.and_true]
structure EP (N:Nat) (o p:List aA) (a:MI × MB):Prop where
 seen:∀ e ∈ o,fT (fC e.Currency e.Due) false a.2 = true ↔ ∃ x ∈ p,AH x = AH e
 best:∀ e ∈ p,(IQ (AH e) o).map (cl a.1) = sA N ((IQ (AH e) o).map (tJ fun x=>x.Sum))
 len1:a.1.length ≤ 200 * p.length
 len2:a.2.length ≤ p.length
theorem EP.step {N:Nat} {o:List aA} (ho:tM N o) (hN:N ≤ 40) {p:List aA} {a:MI × MB} (h:EP N o p a) (hp:∀ x ∈ p,x ∈ o) {e:aA} (he:e ∈ o):EP N o (p ++ [e]) (u7 N o a e):=by
 unfold u7
 by_cases c:fT (fC e.Currency e.Due) false a.2 = true
 ·rw [if_pos c]
  obtain ⟨x,hx,ex⟩:=(h.seen e he).1 c
  refine ⟨fun y hy=>?_,fun y hy=>?_,by rw [List.length_append]; have:=h.len1; omega,by rw [List.length_append]; have:=h.len2; omega⟩
  ·rw [h.seen y hy]
   constructor
   ·rintro ⟨z,hz,q⟩
    exact ⟨z,List.mem_append_left _ hz,q⟩
   ·rintro ⟨z,hz,q⟩
    rcases List.mem_append.1 hz with hz | hz
    ·exact ⟨z,hz,q⟩
    ·rw [List.mem_singleton.1 hz] at q
     exact ⟨x,hx,ex.trans q⟩
  ·rcases List.mem_append.1 hy with hy | hy
   ·exact h.best y hy
   ·rw [List.mem_singleton.1 hy,← ex]
    exact h.best x hx
 ·rw [if_neg c]
  have hs:∀ x ∈ o,(fun x:aA=>x.Sum) x ≤ x.Sum:=fun x _=>Int.le_refl _
  have hl:=II ho hN hs (AH e) a.1
  refine ⟨fun y hy=>?_,fun y hy=>?_,?_,?_⟩
  ·show fT (fC y.Currency y.Due) false (fL (fC e.Currency e.Due) true a.2) = true ↔ _
   rw [FL]
   by_cases q:fC y.Currency y.Due = fC e.Currency e.Due
   ·rw [if_pos q]
    exact ⟨fun _=>⟨e,List.mem_append_right _ (List.mem_singleton.2 rfl),(aCe ho hy he q).symm⟩,fun _=>rfl⟩
   ·rw [if_neg q,h.seen y hy]
    constructor
    ·rintro ⟨z,hz,q⟩
     exact ⟨z,List.mem_append_left _ hz,q⟩
    ·rintro ⟨z,hz,q'⟩
     rcases List.mem_append.1 hz with hz | hz
     ·exact ⟨z,hz,q'⟩
     ·rw [List.mem_singleton.1 hz] at q'
      unfold AH at q'
      rw [aE.mk.injEq] at q'
      exact absurd (by rw [q'.1,q'.2]) q
  ·show (IQ (AH y) o).map (cl (mK N (AH e) (fun x=>x.Sum) o a.1)) = _
   by_cases q:AH y = AH e
   ·rw [q]
    have:=NO ho hN hs (AH e) a.1
    rw [X6 ho] at this
    exact this
   ·have hy' : y ∈ p:=by
     rcases List.mem_append.1 hy with hy | hy
     ·exact hy
     ·exact absurd (by rw [List.mem_singleton.1 hy]) q
    rw [← h.best y hy']
    refine List.map_congr_left fun z hz=>?_
    obtain ⟨z1,z2⟩:=X8.1 hz
    refine L5 ho.diff z1 ?_
    rw [Bool.eq_false_iff]
    intro q2
    exact q ((PF.1 z2).symm.trans (PF.1 q2))
  ·have h1:=KV N (AH e) (fun x=>x.Sum) o a.1 hl
   have h2:=h.len1
   have h3:=ho.len
   rw [List.length_append,List.length_singleton]
   show (mK N (AH e) (fun x=>x.Sum) o a.1).length ≤ _
   omega
  ·have h1:=BF (fC e.Currency e.Due) true a.2
   have h2:=h.len2
   rw [List.length_append,List.length_singleton]
   show (fL (fC e.Currency e.Due) true a.2).length ≤ _
   omega
theorem NT {N:Nat} {o:List aA} (ho:tM N o) (hN:N ≤ 40):EP N o o (o.foldl (u7 N o) ([],[])):=by
 have key:∀ (r p:List aA) (a:MI × MB),o = p ++ r→EP N o p a→EP N o o (r.foldl (u7 N o) a):=by
  intro r
  induction r with
  | nil =>
   intro p a e h
   rw [List.append_nil] at e
   rw [← e] at h
   exact h
  | cons x r ih =>
   intro p a e h
   rw [List.foldl_cons]
   exact ih (p ++ [x]) _ (by rw [e]; simp) (h.step ho hN (fun y hy=>by rw [e]; exact List.mem_append_left _ hy) (by rw [e]; simp))
 exact key o [] _ rfl ⟨fun e he=>(by simp [fT]),fun e he=>(by cases he),(by simp),(by simp)⟩
theorem UU {N:Nat} {o:List aA} (ho:tM N o) (hN:N ≤ 40) {e:aA} (he:e ∈ o):(IQ (AH e) o).map (cl (lM N o)) = sA N ((IQ (AH e) o).map (tJ fun x=>x.Sum)):=(NT ho hN).best e he
theorem aJJ {N:Nat} {o:List aA} (ho:tM N o) (hN:N ≤ 40) (g:aE):E4 N ((IQ g o).map (tJ fun x=>x.Sum)):=by
 rw [← X6 ho g]
 exact KA ho hN (fun x _=>Int.le_refl _) g
theorem aDZ {N:Nat} {o:List aA} (ho:tM N o) (hN:N ≤ 40):PU o (lM N o):=fun e he =>
 RI (aJJ ho hN (AH e)) (UU ho hN he) e (X8.2 ⟨he,PF.2 rfl⟩)
theorem Z4 {N:Nat} {o:List aA} (ho:tM N o) (hN:N ≤ 40):(lM N o).length ≤ 20000:=by
 have h1:=(NT ho hN).len1
 have h2:=ho.len
 unfold lM
 omega
def yJ (o:List aA) (m:MI):List aC:=(o.filter fun e=>decide (0 < cl m e)).map fun e=>⟨4,e.Room,e.No,cl m e⟩
def xH (no:Int) (o:List aA):aE:=o.foldl (fun g e=>if e.No = no then AH e else g) ⟨0,0⟩
def K4 (no:Int) (m:MI) (e:aA):Int:=if e.No = no then 0 else cl m e
noncomputable def UE (n:Int) (o:List aA) (m:MI) (no:Int):MI:=mK n (xH no o) (K4 no m) o m
def u9 (o:List aA) (m m' : MI):List aC:=(o.filter fun e=>decide (0 < cl m e - cl m' e)).map fun e=>⟨5,e.Room,e.No,cl m e - cl m' e⟩
theorem aBR {o:List aA} {m:MI} (h:PU o m) {N:Nat} (ho:tM N o) (no:Int):∀ e ∈ o,K4 no m e ≤ e.Sum:=fun e he=>by
 unfold K4
 have:=(ho.each e he).2.2.2.1
 have:=h e he
 split <;> omega
theorem aH5 {N:Nat} {o:List aA} (ho:tM N o) (hN:N ≤ 40) {m:MI} (h:PU o m) (no:Int):PU o (UE N o m no):=Z6 ho hN (aBR h ho no) _ fun e he _=>h e he
abbrev StF:=Option (List aA × MI)
noncomputable def fE (n r c:Int) (pre:List aA) (st:StF) (e:aA):StF × List aC × Int :=
 if JD n r e = false then (st,[],1) else match st with
 | none=>if e.Kind = 4 then (if e.Day < c then (none,[],13) else if 100 < (dM n r c pre).length then (none,[],6) else (some (dM n r c pre,lM n (dM n r c pre)),yJ (dM n r c pre) (lM n (dM n r c pre)),0))
  else if e.Kind = 5 then (none,[],7) else if c < e.Day then (none,[],16) else (none,[],0)
 | some (o,m)=>if e.Kind = 4 then (st,[],7) else if e.Kind = 5 then (if fT e.No 0 m = 0 then (st,[],4) else (some (o,UE n o m e.No),u9 o m (UE n o m e.No),0)) else (st,[],16)
abbrev N7:=List aA × StF × List aC × List Int
noncomputable def AN (n r c:Int) (a:N7) (e:aA):N7 :=
 (a.1 ++ [e],(fE n r c a.1 a.2.1 e).1,a.2.2.1 ++ (fE n r c a.1 a.2.1 e).2.1,a.2.2.2 ++ [(fE n r c a.1 a.2.1 e).2.2])
noncomputable def bX (n r c:Int) (l:List aA):N7:=l.foldl (AN n r c) ([],none,[],[])
theorem j0 (n r c:Int) (l:List aA) (e:aA):bX n r c (l ++ [e]) = AN n r c (bX n r c l) e:=by
 unfold bX
 rw [List.foldl_append]
 rfl
theorem NA (n r c:Int):∀ (l:List aA) (a:N7),(l.foldl (AN n r c) a).1 = a.1 ++ l
 | [],a=>by simp
 | e :: l,a=>by
  rw [List.foldl_cons,NA n r c l]
  show a.1 ++ [e] ++ l = _
  simp
theorem yO (n r c:Int) (l:List aA):(bX n r c l).1 = l:=by
 have:=NA n r c l ([],none,[],[])
 simpa [bX] using this
theorem K2 (n r c:Int) (pre:List aA) (st:StF) (e:aA) (h:∀ o m,st = some (o,m)→o.length ≤ 100):(fE n r c pre st e).2.1.length ≤ 100:=by
 unfold fE
 split
 ·exact Nat.zero_le _
 ·cases st with
  | none =>
   dsimp only
   split
   ·split
    ·exact Nat.zero_le _
    ·split
     ·exact Nat.zero_le _
     ·rename_i hc
      show (yJ _ _).length ≤ 100
      unfold yJ
      rw [List.length_map]
      have:=List.length_filter_le (fun e=>decide (0 < cl (lM n (dM n r c pre)) e)) (dM n r c pre)
      omega
   ·split
    ·exact Nat.zero_le _
    ·split <;> exact Nat.zero_le _
  | some s =>
   obtain ⟨o,m⟩:=s
   dsimp only
   split
   ·exact Nat.zero_le _
   ·split
    ·split
     ·exact Nat.zero_le _
     ·show (u9 _ _ _).length ≤ 100
      unfold u9
      rw [List.length_map]
      have:=List.length_filter_le (fun e'=>decide (0 < cl m e' - cl (UE n o m e.No) e')) o
      have:=h o m rfl
      omega
    ·exact Nat.zero_le _
def OB (N:Nat):StF→Prop
 | none=>True
 | some (o,m)=>tM N o ∧ PU o m
theorem aAO {n r c:Int} {N:Nat} (hn:n = N) (hN:N ≤ 40) {pre:List aA} (hw:∀ e ∈ pre,dO e.Sum) {st:StF} (h:OB N st) (e:aA):OB N (fE n r c pre st e).1:=by
 subst hn
 unfold fE
 split
 ·exact h
 ·cases st with
  | none =>
   dsimp only
   split
   ·split
    ·trivial
    ·split
     ·trivial
     ·have ho:=TN (r:=r) (c:=c) rfl hw (show (dM (N:Int) r c pre).length ≤ 100 by omega)
      exact ⟨ho,aDZ ho hN⟩
   ·split
    ·trivial
    ·split <;> trivial
  | some s =>
   obtain ⟨o,m⟩:=s
   dsimp only
   split
   ·exact h
   ·split
    ·split
     ·exact h
     ·exact ⟨h.1,aH5 h.1 hN h.2 _⟩
    ·exact h
theorem T8 {n r c:Int} {N:Nat} (hn:n = N) (hN:N ≤ 40):∀ (l:List aA) (a:N7),(∀ e ∈ a.1,dO e.Sum)→(∀ e ∈ l,dO e.Sum)→OB N a.2.1→OB N (l.foldl (AN n r c) a).2.1
 | [],a,_,_,h=>h
 | e :: l,a,h1,h2,h=>by
  rw [List.foldl_cons]
  refine T8 hn hN l _ (fun x hx=>?_) (fun x hx=>h2 x (List.mem_cons_of_mem _ hx)) (aAO hn hN h1 h e)
  rcases List.mem_append.1 hx with hx | hx
  ·exact h1 x hx
  ·rw [List.mem_singleton.1 hx]
   exact h2 e List.mem_cons_self
end Go.Proofs.Ytiimibimkpimbaa
