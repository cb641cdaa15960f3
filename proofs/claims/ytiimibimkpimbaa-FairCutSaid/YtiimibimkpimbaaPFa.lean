/- What fair.Counting returns. What fair.Counting returns: the offers that count, by their numbers. Clearing a group of offers: the loops of settle. What a fair does, event by event, in plain terms; what stays right. -/
import Derived.Test.YtiimibimkpimbaaFn
import Derived.Test.YtiimibimkpimbaaLoops3
import Derived.Test.YtiimibimkpimbaaPCb
set_option linter.unusedVariables false
set_option linter.unusedSimpArgs false
namespace Go.Proofs.Ytiimibimkpimbaa
open Go.RowKit Vm
theorem pD {α S A X:Type} {step:S→Option (S ⊕ X)} (st:Nat→A→S) (l:List α) (f:A→α→A) (I:Nat→A→Prop) (fin:A→X)
  (h:∀ k a x,l[k]? = some x→I k a→step (st k a) = some (.inl (st (k + 1) (f a x))) ∧ I (k + 1) (f a x))
  (he:∀ a,I l.length a→step (st l.length a) = some (.inr (fin a))) (a:A) (h0:I 0 a) :
  fE step (st 0 a) = some (fin (l.foldl f a)) ∧ I l.length (l.foldl f a):=by
 have key:∀ (r p:List α) (a:A),l = p ++ r→I p.length a→fE step (st p.length a) = some (fin (r.foldl f a)) ∧ I l.length (r.foldl f a):=by
  intro r
  induction r with
  | nil =>
   intro p a e hI
   rw [List.append_nil] at e
   subst e
   exact ⟨fT (he a hI),hI⟩
  | cons x r ih =>
   intro p a e hI
   obtain ⟨h1,h2⟩:=h p.length a x (by rw [e]; simp) hI
   rw [gP h1]
   have:=ih (p ++ [x]) (f a x) (by rw [e]; simp) (by rw [List.length_append]; exact h2)
   rw [List.length_append] at this
   exact this
 exact key l [] a rfl h0
theorem lY {α:Type} {l:List α} {k:Nat} {x:α} (h:l[k]? = some x):at? l (k:Int) = some x:=by rw [at?_nat]; exact h
theorem pO {α:Type} {l:List α} {k:Nat} {x:α} (h:l[k]? = some x):k < l.length:=(List.getElem?_eq_some_iff.1 h).1
theorem fR {α:Type} {l:List α} {k:Nat} {x:α} (h:l[k]? = some x):(decide ((k:Int) < (l.length:Int)) = true) = True:=by
 have:=pO h
 simp only [decide_eq_true_eq,eq_iff_iff,iff_true]
 omega
theorem AS {α:Type} (p:α→Bool):∀ (l acc:List α),l.foldl (fun out x=>if p x = true then out ++ [x] else out) acc = acc ++ l.filter p
 | [],acc=>by simp
 | x :: l,acc=>by
  rw [List.foldl_cons,AS p l,List.filter_cons]
  split <;> simp
theorem aDh {α S:Type} {step:S→Option (S ⊕ (Unit ⊕ Int))} (st:Nat→S) (l:List α) (p:α→Bool)
  (h:∀ k x,l[k]? = some x→step (st k) = if p x = true then some (.inr (.inr (k:Int))) else some (.inl (st (k + 1))))
  (he:step (st l.length) = some (.inr (.inl ()))) :
  ∃ r,fE step (st 0) = some r ∧ ((r = .inl () ∧ l.any p = false) ∨ ∃ k:Nat,r = .inr (k:Int) ∧ l.any p = true):=by
 have key:∀ (r q:List α),l = q ++ r→∃ z,fE step (st q.length) = some z ∧ ((z = .inl () ∧ r.any p = false) ∨ ∃ k:Nat,z = .inr (k:Int) ∧ r.any p = true):=by
  intro r
  induction r with
  | nil =>
   intro q e
   rw [List.append_nil] at e
   subst e
   exact ⟨_,fT he,.inl ⟨rfl,rfl⟩⟩
  | cons x r ih =>
   intro q e
   have hs:=h q.length x (by rw [e]; simp)
   by_cases hp:p x = true
   ·rw [if_pos hp] at hs
    exact ⟨_,fT hs,.inr ⟨q.length,rfl,by simp [hp]⟩⟩
   ·rw [if_neg hp] at hs
    rw [gP hs]
    obtain ⟨z,h1,h2⟩:=ih (q ++ [x]) (by rw [e]; simp)
    rw [List.length_append] at h1
    refine ⟨z,h1,?_⟩
    have e2:(x :: r).any p = r.any p:=by
     simp only [List.any_cons,Bool.not_eq_true] at hp ⊢
     rw [hp,Bool.false_or]
    rw [e2]
    exact h2
 exact key l [] rfl
def B6 (i n:Int):Bool:=decide (0 ≤ i) && decide (i < n)
theorem DZ {i n:Int}:B6 i n = true ↔ 0 ≤ i ∧ i < n:=by simp [B6]
theorem DY (i n:Int):eA i n = some (B6 i n):=by
 unfold eA B6
 by_cases h:0 ≤ i
 ·rw [if_pos (by simpa using h)]; simp [h]
 ·rw [if_neg (by simpa using h)]; simp [h]
def QB (n r:Int):Bool:=B6 (IntKind.wrap .i64 (n - 1)) 40 && B6 (IntKind.wrap .i64 (r - 1)) 8
def R7 (n:Int) (e:aA):Bool :=
 if e.Kind = 0 then B6 e.From n && B6 e.To n && (e.From != e.To) && B6 e.Currency 8 && B6 e.Due 100001 && B6 (IntKind.wrap .i64 (e.Sum - 1)) 1099511627776
 else if e.Kind = 1 ∨ e.Kind = 2 then B6 e.From n && (0 == e.To) && (0 == e.Currency) && (0 == e.Due) && (0 == e.Sum)
 else if e.Kind = 3 then decide (e.Due ≥ e.Day) && decide (e.Due ≤ 100000) && (0 == e.No) && (0 == e.From) && (0 == e.To) && (0 == e.Currency) && (0 == e.Sum)
 else if e.Kind = 5 then (0 == e.Room) && (0 == e.From) && (0 == e.To) && (0 == e.Currency) && (0 == e.Due) && (0 == e.Sum)
 else if e.Kind = 4 then (0 == e.Room) && (0 == e.No) && (0 == e.From) && (0 == e.To) && (0 == e.Currency) && (0 == e.Due) && (0 == e.Sum)
 else false
def KP (n r:Int) (e:aA):Bool:=QB n r && B6 e.Day 100001 && R7 n e && B6 e.Room r && B6 e.No 1000
def TP (b:Bool):Int:=if b = true then 0 else 1
theorem aK2 (r:Int) (e:aA) (b:Bool) (x1 x2 x3 x4 x5 x6 x7:Int):dH r e b x1 x2 x3 x4 x5 x6 x7 = some (TP (b && ((x1 == e.Room) && (x2 == e.No) && (x3 == e.From) && (x4 == e.To) && (x5 == e.Currency) && (x6 == e.Due) && (x7 == e.Sum)) && B6 e.Room r && B6 e.No 1000)):=by
 unfold dH
 simp only [DY,Option.bind_some,beq_self_eq_true,Bool.true_and]
 generalize (x1 == e.Room) = c1
 generalize (x2 == e.No) = c2
 generalize (x3 == e.From) = c3
 generalize (x4 == e.To) = c4
 generalize (x5 == e.Currency) = c5
 generalize (x6 == e.Due) = c6
 generalize (x7 == e.Sum) = c7
 generalize B6 e.Room r = d1
 generalize B6 e.No 1000 = d2
 have:∀ c:Bool,(c1 && (c2 && (c3 && (c4 && (c5 && (c6 && c7)))))) = c→(if (!b) = true then some (1:Int) else if (!c) = true then some 1 else if (!d1) = true then some 1 else if (!d2) = true then some 1 else some 0) = some (TP (b && c && d1 && d2)):=by
  intro c _
  cases b <;> cases c <;> cases d1 <;> cases d2 <;> rfl
 rw [this _ rfl]
 simp only [Bool.and_assoc]
theorem aKH (n r:Int) (e:aA) (b:Bool):mF n r e b = some (TP (b && R7 n e && B6 e.Room r && B6 e.No 1000)):=by
 unfold mF pX
 simp only [DY,Option.bind_some,aK2,beq_self_eq_true,Bool.true_and,Bool.and_true,beq_iff_eq]
 unfold R7
 by_cases k0:e.Kind = 0
 ·rw [if_pos k0,if_pos k0]
  generalize B6 e.From n = c1
  generalize B6 e.To n = c2
  generalize (e.From != e.To) = c3
  generalize B6 e.Currency 8 = c4
  generalize B6 e.Due 100001 = c5
  generalize B6 (IntKind.wrap .i64 (e.Sum - 1)) 1099511627776 = c6
  cases b <;> cases c1 <;> cases c2 <;> cases c3 <;> cases c4 <;> cases c5 <;> simp
 ·rw [if_neg k0,if_neg k0]
  by_cases k1:e.Kind = 1
  ·rw [if_pos k1,if_pos k1,if_pos (show e.Kind = 1 ∨ e.Kind = 2 from .inl k1)]
   generalize B6 e.From n = c1
   cases b <;> simp [Bool.and_assoc]
  ·rw [if_neg k1]
   by_cases k2:e.Kind = 2
   ·rw [if_pos k2,if_pos (show e.Kind = 1 ∨ e.Kind = 2 from .inr k2)]
    generalize B6 e.From n = c1
    cases b <;> simp [Bool.and_assoc]
   ·rw [if_neg k2,if_neg (show ¬(e.Kind = 1 ∨ e.Kind = 2) from fun q=>q.elim k1 k2)]
    by_cases k3:e.Kind = 3
    ·rw [if_pos k3,if_pos k3]
     generalize decide (e.Due ≥ e.Day) = c1
     generalize decide (e.Due ≤ 100000) = c2
     cases b <;> cases c1 <;> simp [Bool.and_assoc]
    ·rw [if_neg k3,if_neg k3]
     by_cases k5:e.Kind = 5
     ·rw [if_pos k5,if_pos k5]
      cases b <;> simp [Bool.and_assoc]
     ·rw [if_neg k5,if_neg k5]
      by_cases k4:e.Kind = 4
      ·rw [if_pos k4,if_pos k4]
       cases b <;> simp [Bool.and_assoc]
      ·rw [if_neg k4,if_neg k4]
       simp
theorem CL (n r:Int) (e:aA):kN n r e = some (TP (KP n r e)):=by
 unfold kN KP QB
 simp only [DY,Option.bind_some,aKH]
 generalize B6 (IntKind.wrap .i64 (n - 1)) 40 = c1
 generalize B6 (IntKind.wrap .i64 (r - 1)) 8 = c2
 cases c1 <;> cases c2 <;> simp
theorem aCb (b:Bool):((TP b == 0) = true) = (b = true):=by cases b <;> simp [TP]
theorem Y0 (b:Bool):((TP b != 0) = true) = (b = false):=by cases b <;> simp [TP]
end Go.Proofs.Ytiimibimkpimbaa
set_option linter.unusedVariables false
set_option linter.unusedSimpArgs false
namespace Go.Proofs.Ytiimibimkpimbaa
open Go.RowKit Vm
theorem JH {α:Type} {step:Int→Option (Int ⊕ (Unit ⊕ Int))} (l:List α) (hl:l.length ≤ 100000) (p:α→Bool)
  (h:∀ (k:Nat) x,l[k]? = some x→step k = if p x = true then some (.inr (.inr (k:Int))) else some (.inl (IntKind.wrap .i64 ((k:Int) + 1))))
  (he:step l.length = some (.inr (.inl ()))) :
  ∃ i:Int,(fE (fun (w:Int)=>step w) 0).bind (fun (r5:Unit ⊕ Int)=>Sum.elim (fun z6=>some (-1)) (fun z7=>some z7) r5) = some i ∧ decide (i ≥ 0) = l.any p:=by
 obtain ⟨r,h1,h2⟩:=aDh (step:=fun (w:Int)=>step w) (fun k:Nat=>(k:Int)) l p (fun k x hx=>by
  have:=pO hx
  have e:=h k x hx
  rw [eV (by omega)] at e
  exact e) he
 have e0:fE (fun (w:Int)=>step w) 0 = some r:=h1
 rw [e0,Option.bind_some]
 rcases h2 with ⟨rfl,h3⟩ | ⟨k,rfl,h3⟩
 ·exact ⟨-1,rfl,by rw [h3]; rfl⟩
 ·exact ⟨k,rfl,by rw [h3]; simp⟩
def eqE (a b:aA):Bool:=(a.Kind == b.Kind) && ((a.Room == b.Room) && ((a.Day == b.Day) && ((a.No == b.No) && ((a.From == b.From) && ((a.To == b.To) && ((a.Currency == b.Currency) && ((a.Due == b.Due) && (a.Sum == b.Sum))))))))
theorem QD {a b:aA}:eqE a b = true ↔ a = b:=by
 unfold eqE
 cases a; cases b
 simp
theorem aDf (a:aA):eqE a a = true:=QD.2 rfl
def aEJ (room day:Int) (e:aA):Bool:=(e.Kind == 3) && (e.Room == room) && decide (e.Day ≤ day) && decide (day ≤ e.Due)
def vZ (s:List aA) (room day:Int):Bool:=s.any (aEJ room day)
def P2 (kind no from_:Int) (e:aA):Bool:=(e.Kind == kind) && (e.No == no) && (e.From == from_)
def tX (v:List aA) (kind no from_:Int):Bool:=v.any (P2 kind no from_)
def US (e x:aA):Bool:=(x.Kind == 0) && (x.No == e.No) && !eqE x e
def A4 (v:List aA) (e:aA):Bool:=v.any (US e)
theorem NN {s:List aA} (hs:s.length ≤ 100000) (room day:Int):o5 s room day = some (vZ s room day):=by
 obtain ⟨i,h1,h2⟩:=JH (step:=fun w=>bD s room day w) s hs (aEJ room day) (fun k x hx=>by
  show bD s room day k = _
  unfold bD
  simp only [fR hx,if_true,lY hx,Option.bind_some]
  have:kR x room day = some (aEJ room day x):=by
   unfold kR aEJ
   by_cases c1:x.Kind = 3 <;> by_cases c2:x.Room = room <;> by_cases c3:x.Day ≤ day <;> simp [c1,c2,c3]
  rw [this,Option.bind_some]) (by
  show bD s room day s.length = _
  unfold bD
  rw [if_neg (by simp)])
 unfold o5 cD cJ c9
 rw [h1,Option.bind_some,h2]
 rfl
theorem aFS {v:List aA} (hv:v.length ≤ 100000) (kind no from_:Int):gK kind no from_ v = some (tX v kind no from_):=by
 obtain ⟨i,h1,h2⟩:=JH (step:=fun w=>bG v kind no from_ w) v hv (P2 kind no from_) (fun k x hx=>by
  show bG v kind no from_ k = _
  unfold bG
  simp only [fR hx,if_true,lY hx,Option.bind_some]
  have:iK x kind no from_ = some (P2 kind no from_ x):=by
   unfold iK P2
   by_cases c1:x.Kind = kind <;> by_cases c2:x.No = no <;> simp [c1,c2]
  rw [this,Option.bind_some]) (by
  show bG v kind no from_ v.length = _
  unfold bG
  rw [if_neg (by simp)])
 unfold gK cE cN dB
 rw [h1,Option.bind_some,h2]
 rfl
theorem aEd {v:List aA} (hv:v.length ≤ 100000) (e:aA):bU v e = some (A4 v e):=by
 obtain ⟨i,h1,h2⟩:=JH (step:=fun w=>bE v e w) v hv (US e) (fun k x hx=>by
  show bE v e k = _
  unfold bE
  simp only [fR hx,if_true,lY hx,Option.bind_some]
  have:jT x e = some (US e x):=by
   unfold jT US eqE
   by_cases c1:x.Kind = 0 <;> by_cases c2:x.No = e.No <;> simp [c1,c2]
  rw [this,Option.bind_some]) (by
  show bE v e v.length = _
  unfold bE
  rw [if_neg (by simp)])
 unfold bU cO dA
 rw [h1,Option.bind_some,h2]
 rfl
theorem RT {v:List aA} (hv:v.length ≤ 100000) (e:aA):cC v e = some (v.any (eqE e)):=by
 obtain ⟨i,h1,h2⟩:=JH (step:=fun w=>bJ v e w) v hv (eqE e) (fun k x hx=>by
  show bJ v e k = _
  unfold bJ
  simp only [fR hx,if_true,lY hx,Option.bind_some]
  rfl) (by
  show bJ v e v.length = _
  unfold bJ
  rw [if_neg (by simp)])
 unfold cC dM dZ
 rw [h1,Option.bind_some,h2]
def QH (n r c:Int) (e:aA):Bool:=KP n r e && (e.Kind == 3) && decide (e.Day ≤ c)
def kH (n r c:Int) (l:List aA):List aA:=l.filter (QH n r c)
def E0 (n r c:Int) (s:List aA) (e:aA):Bool:=KP n r e && decide (e.Kind ≤ 2) && decide (e.Day ≤ c) && vZ s e.Room e.Day
def fS (n r c:Int) (l:List aA):List aA:=l.filter (E0 n r c (kH n r c l))
def qZ (c:Int) (v s:List aA) (e:aA):Bool:=(e.Kind == 0) && !A4 v e && vZ s e.Room c && tX v 1 e.No e.To && !tX v 2 e.No e.From && !tX v 2 e.No e.To
def BP (c:Int) (v s:List aA) (out:List aA) (e:aA):List aA:=if (qZ c v s e && !out.any (eqE e)) = true then out ++ [e] else out
def sW (c:Int) (v s:List aA):List aA:=v.foldl (BP c v s) []
def cW (n r c:Int) (l:List aA):List aA:=isK (fun (x:aA)=>x.No) (sW c (fS n r c l) (kH n r c l))
def rX (n r c:Int) (l:List aA):Bool:=QB n r && B6 c 100001 && decide (l.length ≤ 400)
theorem FW (n r c:Int) (l:List aA):qD n r c l = some (rX n r c l):=by
 unfold qD rX QB
 simp only [DY,Option.bind_some]
 generalize B6 (IntKind.wrap .i64 (n - 1)) 40 = c1
 generalize B6 (IntKind.wrap .i64 (r - 1)) 8 = c2
 generalize B6 c 100001 = c3
 cases c1 <;> cases c2 <;> cases c3 <;> simp
 omega
theorem OY {α:Type} {f:List α→α→List α} (hf:∀ o x,f o x = o ∨ f o x = o ++ [x]):∀ (l o:List α),(l.foldl f o).length ≤ o.length + l.length
 | [],o=>by simp
 | x :: l,o=>by
  rw [List.foldl_cons]
  have:=OY hf l (f o x)
  rcases hf o x with e | e <;> rw [e] at this ⊢ <;> simp only [List.length_append,List.length_cons,List.length_nil] at this ⊢ <;> omega
theorem aEn {l:List aA} (hl:l.length ≤ 400) (n r c:Int):nK n r c l 0 [] = some (kH n r c l):=by
 unfold nK
 have h:=pD (step:=fun (w:Int × (List aA))=>fH n r c l w.1 w.2) (fun k a=>((k:Int),a)) l (fun out x=>if QH n r c x = true then out ++ [x] else out) (fun k a=>a.length ≤ k) id (fun k a x hx hI=>by
  have hk:=pO hx
  have w3:IntKind.wrap .i64 ((k:Int) + 1) = ((k + 1:Nat):Int):=eV (by omega)
  constructor
  ·show fH n r c l k a = _
   unfold fH QH
   simp only [fR hx,if_true,lY hx,Option.bind_some,CL,aCb,w3]
   by_cases c1:KP n r x = true
   ·by_cases c2:x.Kind = 3
    ·by_cases c3:x.Day ≤ c
     ·simp only [c1,c2,c3,if_true,beq_self_eq_true,decide_true,Bool.and_self]
      rw [if_pos (by omega)]
     ·simp [c1,c2,c3]
    ·simp [c1,c2]
   ·simp [c1]
  ·split
   ·rw [List.length_append,List.length_singleton]; omega
   ·omega) (fun a hI=>by
  show fH n r c l l.length a = _
  unfold fH
  rw [if_neg (by simp)]
  rfl) [] (Nat.le_refl _)
 rw [AS] at h
 exact h.1
theorem aDE {l s:List aA} (hl:l.length ≤ 400) (hs:s.length ≤ 400) (n r c:Int):nI n r c l s 0 [] = some (l.filter (E0 n r c s)):=by
 unfold nI
 have h:=pD (step:=fun (w:Int × (List aA))=>fK n r c l s w.1 w.2) (fun k a=>((k:Int),a)) l (fun out x=>if E0 n r c s x = true then out ++ [x] else out) (fun k a=>a.length ≤ k) id (fun k a x hx hI=>by
  have hk:=pO hx
  have w3:IntKind.wrap .i64 ((k:Int) + 1) = ((k + 1:Nat):Int):=eV (by omega)
  constructor
  ·show fK n r c l s k a = _
   unfold fK E0
   simp only [fR hx,if_true,lY hx,Option.bind_some,CL,aCb,w3,NN (show s.length ≤ 100000 by omega)]
   by_cases c1:KP n r x = true
   ·by_cases c2:x.Kind ≤ 2
    ·by_cases c3:x.Day ≤ c
     ·by_cases c4:vZ s x.Room x.Day = true
      ·simp only [c1,c2,c3,c4,if_true,beq_self_eq_true,decide_true,Bool.and_self]
       rw [if_pos (by omega)]
      ·simp [c1,c2,c3,c4]
     ·simp [c1,c2,c3]
    ·simp [c1,c2]
   ·simp [c1]
  ·split
   ·rw [List.length_append,List.length_singleton]; omega
   ·omega) (fun a hI=>by
  show fK n r c l s l.length a = _
  unfold fK
  rw [if_neg (by simp)]
  rfl) [] (Nat.le_refl _)
 rw [AS] at h
 exact h.1
theorem aHE {v s:List aA} (hv:v.length ≤ 400) (hs:s.length ≤ 400) (c:Int):k6 c v s 0 [] = some (sW c v s):=by
 unfold k6
 have h:=pD (step:=fun (w:Int × (List aA))=>fJ c v s w.1 w.2) (fun k a=>((k:Int),a)) v (BP c v s) (fun k a=>a.length ≤ k) id (fun k a x hx hI=>by
  have hk:=pO hx
  have w3:IntKind.wrap .i64 ((k:Int) + 1) = ((k + 1:Nat):Int):=eV (by omega)
  constructor
  ·show fJ c v s k a = _
   unfold fJ BP qZ
   simp only [fR hx,if_true,lY hx,Option.bind_some,w3,NN (show s.length ≤ 100000 by omega),aEd (show v.length ≤ 100000 by omega),aFS (show v.length ≤ 100000 by omega),RT (show a.length ≤ 100000 by omega)]
   by_cases c1:x.Kind = 0
   ·have c1' : (x.Kind != 0) = false:=by simp [c1]
    have c1'' : (x.Kind == 0) = true:=by simp [c1]
    rw [c1',c1'',if_neg (by decide)]
    have hl:(a.length + 1) * 72 ≤ 140737488355328:=by omega
    generalize A4 v x = b1
    generalize a.any (eqE x) = b2
    generalize vZ s x.Room c = b3
    generalize tX v 1 x.No x.To = b4
    generalize tX v 2 x.No x.From = b5
    generalize tX v 2 x.No x.To = b6
    cases b1 <;> cases b2 <;> cases b3 <;> cases b4 <;> cases b5 <;> cases b6 <;> simp [hl]
   ·simp [c1]
  ·unfold BP
   split
   ·rw [List.length_append,List.length_singleton]; omega
   ·omega) (fun a hI=>by
  show fJ c v s v.length a = _
  unfold fJ
  rw [if_neg (by simp)]
  rfl) [] (Nat.le_refl _)
 exact h.1
theorem HI (c:Int) (v s:List aA):∀ (l out:List aA),out.Nodup→(l.foldl (BP c v s) out).Nodup ∧ ∀ x,x ∈ l.foldl (BP c v s) out ↔ x ∈ out ∨ (x ∈ l ∧ qZ c v s x = true)
 | [],out,h=>⟨h,fun x=>by simp⟩
 | y :: l,out,h=>by
  rw [List.foldl_cons]
  have key:(BP c v s out y).Nodup ∧ ∀ x,x ∈ BP c v s out y ↔ x ∈ out ∨ (x = y ∧ qZ c v s x = true):=by
   unfold BP
   have hm:out.any (eqE y) = true ↔ y ∈ out:=by
    rw [List.any_eq_true]
    exact ⟨fun ⟨z,h1,h2⟩=>by rw [QD.1 h2]; exact h1,fun h1=>⟨y,h1,aDf y⟩⟩
   by_cases cy:qZ c v s y = true
   ·by_cases hy:y ∈ out
    ·rw [hm.2 hy,if_neg (by simp)]
     exact ⟨h,fun x=>⟨.inl,fun q=>q.elim id fun q=>by rw [q.1]; exact hy⟩⟩
    ·have:out.any (eqE y) = false:=by
      rw [Bool.eq_false_iff]; exact fun q=>hy (hm.1 q)
     rw [this,if_pos (by simp [cy])]
     refine ⟨List.nodup_append.2 ⟨h,by simp,fun a ha b hb=>?_⟩,fun x=>?_⟩
     ·rw [List.mem_singleton] at hb
      subst hb
      exact fun e=>hy (e ▸ ha)
     ·rw [List.mem_append,List.mem_singleton]
      exact ⟨fun q=>q.elim .inl fun q=>.inr ⟨q,by rw [q]; exact cy⟩,fun q=>q.elim .inl fun q=>.inr q.1⟩
   ·rw [if_neg (by simp [cy])]
    exact ⟨h,fun x=>⟨.inl,fun q=>q.elim id fun q=>absurd (q.1 ▸ q.2) cy⟩⟩
  obtain ⟨h1,h2⟩:=HI c v s l _ key.1
  refine ⟨h1,fun x=>?_⟩
  rw [h2,key.2,List.mem_cons]
  constructor
  ·rintro ((q | q) | q)
   ·exact .inl q
   ·exact .inr ⟨.inl q.1,q.2⟩
   ·exact .inr ⟨.inr q.1,q.2⟩
  ·rintro (q | ⟨q | q,q2⟩)
   ·exact .inl (.inl q)
   ·exact .inl (.inr ⟨q,q2⟩)
   ·exact .inr ⟨q,q2⟩
theorem DF {c:Int} {v s:List aA} {x:aA}:x ∈ sW c v s ↔ x ∈ v ∧ qZ c v s x = true:=by
 have:=(HI c v s v [] List.nodup_nil).2 x
 simpa [sW] using this
theorem HP (c:Int) (v s:List aA):(sW c v s).Nodup:=(HI c v s v [] List.nodup_nil).1
theorem NG {c:Int} {v s:List aA} {x y:aA} (hx:x ∈ sW c v s) (hy:y ∈ sW c v s) (h:x.No = y.No):x = y:=by
 obtain ⟨h1,h2⟩:=DF.1 hx
 obtain ⟨h3,h4⟩:=DF.1 hy
 unfold qZ at h2 h4
 simp only [Bool.and_eq_true,Bool.not_eq_true',beq_iff_eq] at h2 h4
 have h5:A4 v y = false:=h4.1.1.1.1.2
 unfold A4 at h5
 rw [List.any_eq_false] at h5
 have h6:=h5 x h1
 unfold US at h6
 rw [h2.1.1.1.1.1,h,Bool.not_eq_true] at h6
 simp only [beq_self_eq_true,Bool.and_self,Bool.true_and,Bool.not_eq_false'] at h6
 exact QD.1 h6
theorem S3 {α:Type} {key:α→Int}:∀ {l:List α},l.Nodup→(∀ x ∈ l,∀ y ∈ l,key x = key y→x = y)→OX key l = true
 | [],_,_=>rfl
 | r :: l,h,hk=>by
  obtain ⟨h1,h2⟩:=List.nodup_cons.1 h
  show (l.all (fun s=>decide (key s ≠ key r)) && OX key l) = true
  rw [S3 h2 fun x hx y hy=>hk x (List.mem_cons_of_mem _ hx) y (List.mem_cons_of_mem _ hy),Bool.and_true,List.all_eq_true]
  intro x hx
  rw [decide_eq_true_eq]
  intro e
  have:=hk x (List.mem_cons_of_mem _ hx) r List.mem_cons_self e
  exact h1 (this ▸ hx)
theorem JX {α:Type} (p:α→Bool) (l:List α):(l.filter p).length ≤ l.length:=List.length_filter_le p l
theorem aDY (c:Int) (v s o:List aA) (x:aA):BP c v s o x = o ∨ BP c v s o x = o ++ [x]:=by
 unfold BP
 split
 ·exact .inr rfl
 ·exact .inl rfl
theorem HA (c:Int) (v s:List aA):(sW c v s).length ≤ v.length:=by
 have:=OY (aDY c v s) v []
 simpa [sW] using this
theorem aCA {n r:Int} {e:aA} (h:KP n r e = true):0 ≤ e.No ∧ e.No < 1000:=by
 unfold KP at h
 rw [Bool.and_eq_true] at h
 exact DZ.1 h.2
theorem HM {n r c:Int} {s l:List aA} {e:aA} (h:e ∈ l.filter (E0 n r c s)):e ∈ l ∧ KP n r e = true ∧ e.Kind ≤ 2 ∧ e.Day ≤ c ∧ vZ s e.Room e.Day = true:=by
 obtain ⟨h1,h2⟩:=List.mem_filter.1 h
 unfold E0 at h2
 simp only [Bool.and_eq_true,decide_eq_true_eq] at h2
 exact ⟨h1,h2.1.1.1,h2.1.1.2,h2.1.2,h2.2⟩
theorem uB {n r c:Int} {l:List aA} (h:rX n r c l = true):dW n r c l = some (cW n r c l):=by
 have hl:l.length ≤ 400:=by
  unfold rX at h
  rw [Bool.and_eq_true,decide_eq_true_eq] at h
  exact h.2
 have h1:(kH n r c l).length ≤ 400:=Nat.le_trans (JX _ _) hl
 have h2:(fS n r c l).length ≤ 400:=Nat.le_trans (JX _ _) hl
 have h3:=HA c (fS n r c l) (kH n r c l)
 have hok:okK (fun (x:aA)=>x.No) (sW c (fS n r c l) (kH n r c l)) = true:=by
  unfold okK
  rw [S3 (HP _ _ _) fun x hx y hy e=>NG hx hy e,Bool.and_true,Bool.and_eq_true,decide_eq_true_eq,List.all_eq_true]
  refine ⟨fun x hx=>?_,by omega⟩
  rw [decide_eq_true_eq]
  exact aCA (HM (DF.1 hx).1).2.1
 unfold dW
 rw [FW,h,Option.bind_some,if_neg (by decide),aEn hl,Option.bind_some,aDE hl h1,Option.bind_some]
 show (k6 c (fS n r c l) (kH n r c l) 0 []).bind _ = _
 rw [aHE h2 h1,Option.bind_some]
 unfold d9
 rw [if_pos hok]
 rfl
theorem CY {n r c:Int} {l:List aA} (h:rX n r c l = false):dW n r c l = some []:=by
 unfold dW
 rw [FW,h]
 rfl
end Go.Proofs.Ytiimibimkpimbaa
set_option linter.unusedVariables false
set_option linter.unusedSimpArgs false
namespace Go.Proofs.Ytiimibimkpimbaa
open Go.RowKit Vm
theorem HV {α:Type} {k k' : Int} (v:α) (h:k ≠ k'):∀ l:List (Int × α),(rL k v l).find? (fun p=>decide (p.1 = k')) = l.find? fun p=>decide (p.1 = k')
 | []=>by simp [rL,h]
 | y :: l=>by
  unfold rL
  split
  ·rw [List.find?_cons]
   simp [h]
  ·rw [List.find?_cons,List.find?_cons,HV v h l]
theorem H9 {α:Type} {k:Int} (v:α):∀ l:List (Int × α),(∀ p ∈ l,p.1 ≠ k)→(rL k v l).find? (fun p=>decide (p.1 = k)) = some (k,v)
 | [],_=>by simp [rL]
 | y :: l,h=>by
  unfold rL
  split
  ·rw [List.find?_cons]
   simp
  ·have:=h y List.mem_cons_self
   rw [List.find?_cons,H9 v l fun p hp=>h p (List.mem_cons_of_mem _ hp)]
   simp [this]
theorem IF {α:Type} {k k' : Int} (h:k ≠ k'):∀ l:List (Int × α),(vJ k l).find? (fun p=>decide (p.1 = k')) = l.find? fun p=>decide (p.1 = k')
 | []=>rfl
 | y :: l=>by
  unfold vJ
  rw [List.filter_cons]
  have ih:=IF h l
  unfold vJ at ih
  by_cases e:y.1 = k
  ·rw [if_neg (by simp [e]),ih,List.find?_cons]
   have:¬ y.1 = k':=fun q=>h (e.symm.trans q)
   simp [this]
  ·rw [if_pos (by simp [e]),List.find?_cons,List.find?_cons,ih]
theorem FM {α:Type} (k k' : Int) (v z:α) (m:List (Int × α)):fV k' z (fI k v m) = if k' = k then v else fV k' z m:=by
 unfold fV fI
 by_cases h:k' = k
 ·subst h
  rw [if_pos rfl,H9 v _ fun p hp=>by
   have:=(List.mem_filter.1 hp).2
   simpa using this]
 ·rw [if_neg h,HV v (fun q=>h q.symm),IF fun q=>h q.symm]
theorem AH {α:Type} (k:Int) (v:α) (m:List (Int × α)):(fI k v m).length ≤ m.length + 1:=by
 unfold fI
 rw [KQ]
 have:=List.length_filter_le (fun p:Int × α=>!decide (p.1 = k)) m
 unfold vJ
 omega
def YO (g:aE) (e:aA):Bool:=(e.Currency == g.currency) && (e.Due == g.due)
def BI (e:aA):aE:=⟨e.Currency,e.Due⟩
theorem aGw (e:aA):uS e = some (BI e):=rfl
theorem PT {g:aE} {e:aA}:YO g e = true ↔ BI e = g:=by
 cases g
 simp [YO,BI]
def tS (sm:aA→Int) (e:aA):aM:=⟨e.From,e.To,sm e⟩
def SU (g:aE) (sm:aA→Int) (a:MI × List aM × List Int) (e:aA):MI × List aM × List Int :=
 if YO g e = true then (fI e.No 0 a.1,if 0 < sm e then a.2.1 ++ [tS sm e] else a.2.1,if 0 < sm e then a.2.2 ++ [e.No] else a.2.2) else a
def H6 (g:aE) (o:List aA):List aA:=o.filter (YO g)
def yF (g:aE) (sm:aA→Int) (o:List aA):List aA:=o.filter fun e=>YO g e && decide (0 < sm e)
def vW (l:List aA) (m:MI):MI:=l.foldl (fun m e=>fI e.No 0 m) m
theorem K3 (g:aE) (sm:aA→Int):∀ (o:List aA) (m:MI) (d:List aM) (u:List Int),o.foldl (SU g sm) (m,d,u) = (vW (H6 g o) m,d ++ (yF g sm o).map (tS sm),u ++ (yF g sm o).map (·.No))
 | [],m,d,u=>by simp [vW,H6,yF]
 | e :: o,m,d,u=>by
  rw [List.foldl_cons]
  by_cases c:YO g e = true
  ·have e1:SU g sm (m,d,u) e = (fI e.No 0 m,if 0 < sm e then d ++ [tS sm e] else d,if 0 < sm e then u ++ [e.No] else u):=if_pos c
   rw [e1,K3 g sm o]
   unfold H6 yF vW
   rw [List.filter_cons,if_pos c,List.filter_cons,c,Bool.true_and,List.foldl_cons]
   by_cases c2:0 < sm e
   ·rw [if_pos c2,if_pos c2,if_pos (by simpa using c2)]
    simp [tS]
   ·rw [if_neg c2,if_neg c2,if_neg (by simpa using c2)]
  ·have e1:SU g sm (m,d,u) e = (m,d,u):=if_neg c
   rw [e1,K3 g sm o]
   unfold H6 yF vW
   rw [List.filter_cons,if_neg c,List.filter_cons,if_neg (by simp [c])]
theorem DO:∀ (l:List aA) (m:MI),(vW l m).length ≤ m.length + l.length
 | [],m=>Nat.le_refl _
 | e :: l,m=>by
  have h1:=DO l (fI e.No 0 m)
  have h2:=AH e.No (0:Int) m
  show (vW l (fI e.No 0 m)).length ≤ _
  rw [List.length_cons]
  omega
theorem GO (k:Int):∀ (l:List aA) (m:MI),fV k 0 (vW l m) = if (∃ e ∈ l,e.No = k) then 0 else fV k 0 m
 | [],m=>by simp [vW]
 | e :: l,m=>by
  show fV k 0 (vW l (fI e.No 0 m)) = _
  rw [GO k l,FM]
  by_cases h1:∃ x ∈ l,x.No = k
  ·rw [if_pos h1,if_pos]
   obtain ⟨x,hx,e'⟩:=h1
   exact ⟨x,List.mem_cons_of_mem _ hx,e'⟩
  ·rw [if_neg h1]
   by_cases h2:k = e.No
   ·rw [if_pos h2,if_pos ⟨e,List.mem_cons_self,h2.symm⟩]
   ·rw [if_neg h2,if_neg]
    rintro ⟨x,hx,e'⟩
    rcases List.mem_cons.1 hx with rfl | hx
    ·exact h2 e'.symm
    ·exact h1 ⟨x,hx,e'⟩
def nZ:List Int→List Int→MI→MI
 | k :: u,v :: x,m=>nZ u x (fI k v m)
 | _,_,m=>m
theorem LR:∀ (u x:List Int) (m:MI),(nZ u x m).length ≤ m.length + x.length
 | [],x,m=>by simp [nZ]
 | _ :: _,[],m=>by simp [nZ]
 | k :: u,v :: x,m=>by
  have h1:=LR u x (fI k v m)
  have h2:=AH k v m
  show (nZ u x (fI k v m)).length ≤ _
  rw [List.length_cons]
  omega
theorem D0 {k:Int}:∀ (u x:List Int) (m:MI),k ∉ u→fV k 0 (nZ u x m) = fV k 0 m
 | [],x,m,_=>by simp [nZ]
 | _ :: _,[],m,_=>by simp [nZ]
 | i :: u,v :: x,m,h=>by
  show fV k 0 (nZ u x (fI i v m)) = _
  rw [D0 u x _ fun q=>h (List.mem_cons_of_mem _ q),FM,if_neg fun q=>h (by rw [q]; exact List.mem_cons_self)]
theorem L7:∀ (u x:List Int) (m:MI),u.Nodup→u.length = x.length→u.map (fun k=>fV k 0 (nZ u x m)) = x
 | [],[],m,_,_=>rfl
 | [],_ :: _,m,_,h=>by cases h
 | _ :: _,[],m,_,h=>by cases h
 | k :: u,v :: x,m,hn,h=>by
  obtain ⟨h1,h2⟩:=List.nodup_cons.1 hn
  show fV k 0 (nZ u x (fI k v m)) :: u.map (fun k'=>fV k' 0 (nZ u x (fI k v m))) = _
  rw [L7 u x _ h2 (by simpa using h),D0 u x _ h1,FM,if_pos rfl]
noncomputable def sF (n:Int) (d:List aM):List Int:=match iS n d with
 | some r=>r.1
 | none=>[]
noncomputable def mV (n:Int) (g:aE) (sm:aA→Int) (o:List aA) (m:MI):MI :=
 nZ ((yF g sm o).map (·.No)) (sF n ((yF g sm o).map (tS sm))) (vW (H6 g o) m)
def yJ (o:List aA):Prop:=o.Pairwise fun a b=>a.No ≠ b.No
theorem yJ.one {o:List aA} (h:yJ o):∀ a ∈ o,∀ b ∈ o,a.No = b.No→a = b:=by
 induction o with
 | nil=>intro a ha; cases ha
 | cons x o ih =>
  obtain ⟨h1,h2⟩:=List.pairwise_cons.1 h
  intro a ha b hb e
  rcases List.mem_cons.1 ha with e1 | ha'
  ·rcases List.mem_cons.1 hb with e2 | hb'
   ·rw [e1,e2]
   ·rw [e1] at e
    exact absurd e (h1 b hb')
  ·rcases List.mem_cons.1 hb with e2 | hb'
   ·rw [e2] at e
    exact absurd e.symm (h1 a ha')
   ·exact ih h2 a ha' b hb' e
theorem yJ.nos {o:List aA} (h:yJ o) (p:aA→Bool):((o.filter p).map (·.No)).Nodup:=by
 have h1:(o.filter p).Pairwise fun a b=>a.No ≠ b.No:=List.Pairwise.filter p h
 exact List.pairwise_map.2 h1
def cl (m:MI) (e:aA):Int:=fV e.No 0 m
theorem aBD {n:Int} {g:aE} {sm:aA→Int} {o:List aA} {m:MI} (ho:yJ o) (hl:(sF n ((yF g sm o).map (tS sm))).length = (yF g sm o).length) :
  (yF g sm o).map (cl (mV n g sm o m)) = sF n ((yF g sm o).map (tS sm)):=by
 have:=L7 ((yF g sm o).map (·.No)) (sF n ((yF g sm o).map (tS sm))) (vW (H6 g o) m) (ho.nos _) (by rw [List.length_map,hl])
 rw [List.map_map] at this
 exact this
theorem Q1 {n:Int} {g:aE} {sm:aA→Int} {o:List aA} {m:MI} (ho:yJ o) {e:aA} (he:e ∈ o) (hg:YO g e = true) (hs:¬ 0 < sm e):cl (mV n g sm o m) e = 0:=by
 unfold cl mV
 rw [D0,GO,if_pos ⟨e,List.mem_filter.2 ⟨he,hg⟩,rfl⟩]
 intro q
 obtain ⟨x,hx,e'⟩:=List.mem_map.1 q
 obtain ⟨h1,h2⟩:=List.mem_filter.1 hx
 have:=ho.one x h1 e he e'
 subst this
 rw [Bool.and_eq_true,decide_eq_true_eq] at h2
 exact hs h2.2
theorem L0 {n:Int} {g:aE} {sm:aA→Int} {o:List aA} {m:MI} (ho:yJ o) {e:aA} (he:e ∈ o) (hg:YO g e = false):cl (mV n g sm o m) e = cl m e:=by
 unfold cl mV
 rw [D0,GO,if_neg]
 ·rintro ⟨x,hx,e'⟩
  obtain ⟨h1,h2⟩:=List.mem_filter.1 hx
  have:=ho.one x h1 e he e'
  subst this
  rw [hg] at h2
  cases h2
 ·intro q
  obtain ⟨x,hx,e'⟩:=List.mem_map.1 q
  obtain ⟨h1,h2⟩:=List.mem_filter.1 hx
  have:=ho.one x h1 e he e'
  subst this
  rw [hg] at h2
  cases h2
theorem J5 (n:Int) (g:aE) (sm:aA→Int) (o:List aA) (m:MI) (hl:(sF n ((yF g sm o).map (tS sm))).length = (yF g sm o).length):(mV n g sm o m).length ≤ m.length + 2 * o.length:=by
 have h1:=LR ((yF g sm o).map (·.No)) (sF n ((yF g sm o).map (tS sm))) (vW (H6 g o) m)
 have h2:=DO (H6 g o) m
 have h3:(yF g sm o).length ≤ o.length:=List.length_filter_le _ _
 have h4:(H6 g o).length ≤ o.length:=List.length_filter_le _ _
 unfold mV
 omega
theorem II {step:Int × MI × List aM × List Int→Option ((Int × MI × List aM × List Int) ⊕ (MI × List aM × List Int))} (g:aE) (sm:aA→Int) (o:List aA) (hl:o.length ≤ 400) (m:MI) (hm:m.length ≤ 100000000000)
  (h:∀ (k:Nat) e m d u,o[k]? = some e→m.length < 1000000000000→d.length ≤ 400→u.length ≤ 400→step ((k:Int),m,d,u) = some (.inl (((k + 1:Nat):Int),SU g sm (m,d,u) e)))
  (he:∀ a,step ((o.length:Int),a) = some (.inr a)) :
  fE step (0,m,[],[]) = some (vW (H6 g o) m,(yF g sm o).map (tS sm),(yF g sm o).map (·.No)):=by
 have:=(pD (step:=step) (fun k a=>((k:Int),a)) o (SU g sm) (fun k a=>a.1.length ≤ m.length + k ∧ a.2.1.length ≤ k ∧ a.2.2.length ≤ k) id (fun k a x hx hI=>by
  obtain ⟨m',d,u⟩:=a
  obtain ⟨h1,h2,h3⟩:=hI
  have hk:=pO hx
  dsimp only at h1 h2 h3
  refine ⟨h k x m' d u hx (by omega) (by omega) (by omega),?_⟩
  unfold SU
  have:=AH x.No (0:Int) m'
  split
  ·refine ⟨by show (fI x.No 0 m').length ≤ _; omega,?_,?_⟩
   ·show (if 0 < sm x then d ++ [tS sm x] else d).length ≤ k + 1
    split
    ·rw [List.length_append,List.length_singleton]; omega
    ·omega
   ·show (if 0 < sm x then u ++ [x.No] else u).length ≤ k + 1
    split
    ·rw [List.length_append,List.length_singleton]; omega
    ·omega
  ·exact ⟨by show m'.length ≤ _; omega,by show d.length ≤ _; omega,by show u.length ≤ _; omega⟩) (fun a _=>he a) (m,[],[]) ⟨Nat.le_refl _,Nat.le_refl _,Nat.le_refl _⟩).1
 rw [K3] at this
 simpa using this
theorem SZ {step:Int × MI→Option ((Int × MI) ⊕ MI)} (u x:List Int) (hl:x.length = u.length) (hu:u.length ≤ 400) (m:MI) (hm:m.length ≤ 100000000000)
  (h:∀ (k:Nat) i v m,u[k]? = some i→x[k]? = some v→m.length < 1000000000000→step ((k:Int),m) = some (.inl (((k + 1:Nat):Int),fI i v m)))
  (he:∀ m,step ((x.length:Int),m) = some (.inr m)) :
  fE step (0,m) = some (nZ u x m):=by
 have key:∀ (u' x' p q:List Int) (m:MI),u = p ++ u'→x = q ++ x'→p.length = q.length→m.length ≤ 100000000000 + p.length→fE step ((p.length:Int),m) = some (nZ u' x' m):=by
  intro u'
  induction u' with
  | nil =>
   intro x' p q m e1 e2 e3 hm
   have e4:x' = []:=by
    rw [e1,e2] at hl
    simp only [List.length_append,List.length_nil] at hl
    exact List.eq_nil_of_length_eq_zero (by omega)
   subst e4
   have:(p.length:Int) = (x.length:Int):=by rw [e2,List.append_nil,e3]
   rw [this,fT (he m)]
   rfl
  | cons i u' ih =>
   intro x' p q m e1 e2 e3 hm
   cases x' with
   | nil =>
    rw [e1,e2] at hl
    simp only [List.length_append,List.length_nil,List.length_cons] at hl
    omega
   | cons v x' =>
    have hp:p.length < u.length:=by rw [e1]; simp
    rw [gP (h p.length i v m (by rw [e1]; simp) (by rw [e2,e3]; simp) (by omega))]
    have hq:=AH i v m
    have:=ih x' (p ++ [i]) (q ++ [v]) (fI i v m) (by rw [e1]; simp) (by rw [e2]; simp) (by simp [e3]) (by rw [List.length_append,List.length_singleton]; omega)
    rw [List.length_append,List.length_singleton] at this
    exact this
 exact key u x [] [] m rfl rfl rfl (by simpa using hm)
end Go.Proofs.Ytiimibimkpimbaa
set_option linter.unusedVariables false
set_option linter.unusedSimpArgs false
namespace Go.Proofs.Ytiimibimkpimbaa
open Go.RowKit Vm
theorem RM {n:Int} (h:dY n) {b:Int} (hb:b ≤ 4611686018427387904) (hw:B6 (IntKind.wrap .i64 (n - 1)) b = true):1 ≤ n ∧ n ≤ b:=by
 obtain ⟨h1,h2⟩:=DZ.1 hw
 obtain ⟨h3,h4⟩:=h
 by_cases e:n = -9223372036854775808
 ·subst e
  have:IntKind.wrap .i64 (-9223372036854775808 - 1) = 9223372036854775807:=by decide
  rw [this] at h2
  omega
 ·rw [kY (by omega) (by omega)] at h1 h2
  exact ⟨by omega,by omega⟩
theorem aKK {n r:Int} (h:dY n) (hd:QB n r = true):1 ≤ n ∧ n ≤ 40:=by
 unfold QB at hd
 rw [Bool.and_eq_true] at hd
 exact RM h (by omega) hd.1
structure u0 (N:Nat) (o:List aA):Prop where
 len:o.length ≤ 100
 diff:yJ o
 each:∀ e ∈ o,(0 ≤ e.From ∧ e.From < N) ∧ (0 ≤ e.To ∧ e.To < N) ∧ e.From ≠ e.To ∧ (1 ≤ e.Sum ∧ e.Sum ≤ 1099511627776) ∧ (0 ≤ e.No ∧ e.No < 1000) ∧ (0 ≤ e.Currency ∧ e.Currency < 8) ∧ (0 ≤ e.Due ∧ e.Due < 100001)
theorem G2 {α:Type} (key:α→Int) (r:α):∀ l,(M7 key r l).Perm (r :: l)
 | []=>.refl _
 | y :: l=>by
  unfold M7
  split
  ·exact .refl _
  ·exact ((G2 key r l).cons y).trans (.swap r y l)
theorem z8 {α:Type} (key:α→Int):∀ l,(isK key l).Perm l
 | []=>.refl _
 | r :: l=>(G2 key r (isK key l)).trans ((z8 key l).cons r)
theorem IX {α:Type} (key:α→Int) (r:α):∀ l:List α,l.Pairwise (fun a b=>key a ≤ key b)→(M7 key r l).Pairwise (fun a b=>key a ≤ key b)
 | [],_=>by simp [M7]
 | y :: l,h=>by
  unfold M7
  obtain ⟨h1,h2⟩:=List.pairwise_cons.1 h
  split
  ·rename_i c
   refine List.pairwise_cons.2 ⟨fun z hz=>?_,h⟩
   rcases List.mem_cons.1 hz with rfl | hz
   ·omega
   ·have:=h1 z hz; omega
  ·rename_i c
   refine List.pairwise_cons.2 ⟨fun z hz=>?_,IX key r l h2⟩
   rcases List.mem_cons.1 ((G2 key r l).mem_iff.1 hz) with rfl | hz
   ·omega
   ·exact h1 z hz
theorem L4 {α:Type} (key:α→Int):∀ l:List α,(isK key l).Pairwise (fun a b=>key a ≤ key b)
 | []=>.nil
 | r :: l=>IX key r _ (L4 key l)
theorem uK {n r c:Int} {l:List aA} {x:aA}:x ∈ cW n r c l ↔ x ∈ fS n r c l ∧ qZ c (fS n r c l) (kH n r c l) x = true:=by
 unfold cW
 rw [(z8 _ _).mem_iff,DF]
theorem LL (n r c:Int) (l:List aA):(cW n r c l).Pairwise fun a b=>a.No < b.No:=by
 have h1:(cW n r c l).Pairwise fun a b=>a.No ≤ b.No:=L4 (fun (x:aA)=>x.No) _
 have h2:(cW n r c l).Pairwise fun a b=>a ≠ b:=((z8 _ _).nodup_iff).2 (HP _ _ _)
 have hm:∀ a ∈ cW n r c l,a ∈ sW c (fS n r c l) (kH n r c l):=fun a ha=>(z8 _ _).mem_iff.1 ha
 refine (h1.and h2).imp_of_mem fun {a b} ha hb h=>?_
 have:a.No ≠ b.No:=fun e=>h.2 (NG (hm a ha) (hm b hb) e)
 omega
theorem EO (n r c:Int) (l:List aA):yJ (cW n r c l):=(LL n r c l).imp fun h=>by omega
theorem RY {n r c:Int} {N:Nat} (hN:n = N) {l:List aA} (hw:∀ e ∈ l,dY e.Sum) (h:(cW n r c l).length ≤ 100):u0 N (cW n r c l):=by
 refine ⟨h,EO n r c l,fun e he=>?_⟩
 obtain ⟨h1,h2⟩:=uK.1 he
 obtain ⟨h3,h4,_⟩:=HM h1
 unfold qZ at h2
 simp only [Bool.and_eq_true,beq_iff_eq] at h2
 have hk:e.Kind = 0:=h2.1.1.1.1.1
 have hno:=aCA h4
 unfold KP R7 at h4
 rw [if_pos hk] at h4
 simp only [Bool.and_eq_true,DZ,bne_iff_ne] at h4
 obtain ⟨⟨⟨⟨_,_⟩,⟨⟨⟨⟨⟨q1,q2⟩,q3⟩,q4⟩,q5⟩,q6⟩⟩,_⟩,_⟩:=h4
 subst hN
 exact ⟨q1,q2,q3,RM (hw e h3) (by omega) (DZ.2 q6),hno,q4,q5⟩
theorem X3 {g:aE} {o:List aA} {e:aA}:e ∈ H6 g o ↔ e ∈ o ∧ YO g e = true:=List.mem_filter
theorem GG {g:aE} {sm:aA→Int} {o:List aA} {e:aA}:e ∈ yF g sm o ↔ e ∈ o ∧ YO g e = true ∧ 0 < sm e:=by
 unfold yF
 rw [List.mem_filter,Bool.and_eq_true,decide_eq_true_eq]
theorem K2 {N:Nat} {o:List aA} (ho:u0 N o) (hN:N ≤ 40) {sm:aA→Int} (hs:∀ e ∈ o,sm e ≤ e.Sum) (g:aE):FB N ((yF g sm o).map (tS sm)):=by
 refine ⟨hN,?_,fun i hi=>?_⟩
 ·rw [List.length_map]
  exact Nat.le_trans (List.length_filter_le _ _) ho.len
 ·have hm:=GL _ i hi
  obtain ⟨e,he,h1⟩:=List.mem_map.1 hm
  obtain ⟨h2,_,h3⟩:=GG.1 he
  obtain ⟨q1,q2,q3,q4,_⟩:=ho.each e h2
  have:=hs e h2
  rw [← h1]
  exact ⟨q1,q2,q3,by show 1 ≤ sm e; omega,by show sm e ≤ _; omega⟩
theorem KD {N:Nat} {d:List aM} (h:FB N d):∃ q,iS N d = some (sF N d,q,0) ∧ R5 N d (sF N d) q:=by
 have hR:=aFg N d
 rw [WI.2 ⟨N,rfl,h⟩] at hR
 obtain ⟨x,q,h1,h2⟩:=aIK h hR
 have:sF N d = x:=by unfold sF; rw [h1]
 rw [this]
 exact ⟨q,h1,h2⟩
theorem PP {N:Nat} {d:List aM} (h:FB N d):(sF N d).length = d.length:=by
 obtain ⟨q,_,h2⟩:=KD h
 exact h2.len
theorem XU {α β:Type} [Inhabited α] [Inhabited β] (f:α→β) {l:List α} {i:Nat} (h:i < l.length):el (l.map f) i = f (el l i):=i9 f l i h
theorem TQ {N:Nat} {L:List aA} {sm c:aA→Int} (h:FB N (L.map (tS sm))) (hx:L.map c = sF N (L.map (tS sm))):∀ e ∈ L,0 ≤ c e ∧ c e ≤ sm e:=by
 intro e he
 obtain ⟨q,_,hb⟩:=KD h
 obtain ⟨i,hi,rfl⟩:=WU he
 have h1:=hb.bald.lo i (by rw [List.length_map]; exact hi)
 have h2:=hb.bald.hi i (by rw [List.length_map]; exact hi)
 rw [← hx,XU c hi] at h1 h2
 unfold rC at h2
 rw [XU (tS sm) hi] at h2
 exact ⟨h1,h2⟩
def TH (o:List aA) (m:MI):Prop:=∀ e ∈ o,0 ≤ cl m e ∧ cl m e ≤ e.Sum
section
variable {N:Nat} {o:List aA} (ho:u0 N o) (hN:N ≤ 40)
include ho hN
theorem IP {sm:aA→Int} (hs:∀ e ∈ o,sm e ≤ e.Sum) (g:aE) (m:MI):(sF N ((yF g sm o).map (tS sm))).length = (yF g sm o).length:=by
 rw [PP (K2 ho hN hs g),List.length_map]
theorem NH {sm:aA→Int} (hs:∀ e ∈ o,sm e ≤ e.Sum) (g:aE) (m:MI):(yF g sm o).map (cl (mV N g sm o m)) = sF N ((yF g sm o).map (tS sm)) :=
 aBD ho.diff (IP ho hN hs g m)
theorem aBr {sm:aA→Int} (hs:∀ e ∈ o,sm e ≤ e.Sum) (g:aE) {m:MI} (hm:∀ e ∈ o,YO g e = false→0 ≤ cl m e ∧ cl m e ≤ e.Sum):TH o (mV N g sm o m):=by
 intro e he
 by_cases hg:YO g e = true
 ·by_cases hp:0 < sm e
  ·have:=TQ (K2 ho hN hs g) (NH ho hN hs g m) e (GG.2 ⟨he,hg,hp⟩)
   have:=hs e he
   omega
  ·rw [Q1 ho.diff he hg hp]
   have:=(ho.each e he).2.2.2.1
   omega
 ·rw [Bool.not_eq_true] at hg
  rw [L0 ho.diff he hg]
  exact hm e he hg
end
theorem aBH {g:aE} {sm sm' : aA→Int} {o:List aA} (h:∀ e ∈ o,sm e = sm' e):yF g sm o = yF g sm' o ∧ (yF g sm o).map (tS sm) = (yF g sm o).map (tS sm'):=by
 refine ⟨List.filter_congr fun e he=>by rw [h e he],List.map_congr_left fun e he=>?_⟩
 unfold tS
 rw [h e (GG.1 he).1]
noncomputable def vI (n:Int) (o:List aA) (a:MI × MB) (e:aA):MI × MB :=
 if fV (fC e.Currency e.Due) false a.2 = true then a else (mV n (BI e) (fun x=>x.Sum) o a.1,fI (fC e.Currency e.Due) true a.2)
noncomputable def pE (n:Int) (o:List aA):MI:=(o.foldl (vI n o) ([],[])).1
theorem aES {N:Nat} {o:List aA} (ho:u0 N o) {a b:aA} (ha:a ∈ o) (hb:b ∈ o) (h:fC a.Currency a.Due = fC b.Currency b.Due):BI a = BI b:=by
 obtain ⟨_,_,_,_,_,a1,a2⟩:=ho.each a ha
 obtain ⟨_,_,_,_,_,b1,b2⟩:=ho.each b hb
 unfold fC at h
 unfold BI
 rw [aE.mk.injEq]
 omega
theorem YC {N:Nat} {o:List aA} (ho:u0 N o) (g:aE):yF g (fun x=>x.Sum) o = H6 g o:=by
 unfold yF H6
 refine List.filter_congr fun e he=>?_
 have:=(ho.each e he).2.2.2.1
 rw [decide_eq_true (show 0 < e.Sum by omega),Bool.and_true]
structure E9 (N:Nat) (o p:List aA) (a:MI × MB):Prop where
 seen:∀ e ∈ o,fV (fC e.Currency e.Due) false a.2 = true ↔ ∃ x ∈ p,BI x = BI e
 best:∀ e ∈ p,(H6 (BI e) o).map (cl a.1) = sF N ((H6 (BI e) o).map (tS fun x=>x.Sum))
 len1:a.1.length ≤ 200 * p.length
 len2:a.2.length ≤ p.length
theorem E9.step {N:Nat} {o:List aA} (ho:u0 N o) (hN:N ≤ 40) {p:List aA} {a:MI × MB} (h:E9 N o p a) (hp:∀ x ∈ p,x ∈ o) {e:aA} (he:e ∈ o):E9 N o (p ++ [e]) (vI N o a e):=by
 unfold vI
 by_cases c:fV (fC e.Currency e.Due) false a.2 = true
 ·rw [if_pos c]
  obtain ⟨x,hx,ex⟩:=(h.seen e he).1 c
  refine ⟨fun y hy=>?_,fun y hy=>?_,by rw [List.length_append]; have:=h.len1; omega,by rw [List.length_append]; have:=h.len2; omega⟩
  ·rw [h.seen y hy]
   constructor
   ·rintro ⟨z,hz,q⟩
    exact ⟨z,List.mem_append_left _ hz,q⟩
   ·rintro ⟨z,hz,q⟩
    rcases List.mem_append.1 hz with hz | hz
    ·exact ⟨z,hz,q⟩
    ·rw [List.mem_singleton.1 hz] at q
     exact ⟨x,hx,ex.trans q⟩
  ·rcases List.mem_append.1 hy with hy | hy
   ·exact h.best y hy
   ·rw [List.mem_singleton.1 hy,← ex]
    exact h.best x hx
 ·rw [if_neg c]
  have hs:∀ x ∈ o,(fun x:aA=>x.Sum) x ≤ x.Sum:=fun x _=>Int.le_refl _
  have hl:=IP ho hN hs (BI e) a.1
  refine ⟨fun y hy=>?_,fun y hy=>?_,?_,?_⟩
  ·show fV (fC y.Currency y.Due) false (fI (fC e.Currency e.Due) true a.2) = true ↔ _
   rw [FM]
   by_cases q:fC y.Currency y.Due = fC e.Currency e.Due
   ·rw [if_pos q]
    exact ⟨fun _=>⟨e,List.mem_append_right _ (List.mem_singleton.2 rfl),(aES ho hy he q).symm⟩,fun _=>rfl⟩
   ·rw [if_neg q,h.seen y hy]
    constructor
    ·rintro ⟨z,hz,q⟩
     exact ⟨z,List.mem_append_left _ hz,q⟩
    ·rintro ⟨z,hz,q'⟩
     rcases List.mem_append.1 hz with hz | hz
     ·exact ⟨z,hz,q'⟩
     ·rw [List.mem_singleton.1 hz] at q'
      unfold BI at q'
      rw [aE.mk.injEq] at q'
      exact absurd (by rw [q'.1,q'.2]) q
  ·show (H6 (BI y) o).map (cl (mV N (BI e) (fun x=>x.Sum) o a.1)) = _
   by_cases q:BI y = BI e
   ·rw [q]
    have:=NH ho hN hs (BI e) a.1
    rw [YC ho] at this
    exact this
   ·have hy' : y ∈ p:=by
     rcases List.mem_append.1 hy with hy | hy
     ·exact hy
     ·exact absurd (by rw [List.mem_singleton.1 hy]) q
    rw [← h.best y hy']
    refine List.map_congr_left fun z hz=>?_
    obtain ⟨z1,z2⟩:=X3.1 hz
    refine L0 ho.diff z1 ?_
    rw [Bool.eq_false_iff]
    intro q2
    exact q ((PT.1 z2).symm.trans (PT.1 q2))
  ·have h1:=J5 N (BI e) (fun x=>x.Sum) o a.1 hl
   have h2:=h.len1
   have h3:=ho.len
   rw [List.length_append,List.length_singleton]
   show (mV N (BI e) (fun x=>x.Sum) o a.1).length ≤ _
   omega
  ·have h1:=AH (fC e.Currency e.Due) true a.2
   have h2:=h.len2
   rw [List.length_append,List.length_singleton]
   show (fI (fC e.Currency e.Due) true a.2).length ≤ _
   omega
theorem OQ {N:Nat} {o:List aA} (ho:u0 N o) (hN:N ≤ 40):E9 N o o (o.foldl (vI N o) ([],[])):=by
 have key:∀ (r p:List aA) (a:MI × MB),o = p ++ r→E9 N o p a→E9 N o o (r.foldl (vI N o) a):=by
  intro r
  induction r with
  | nil =>
   intro p a e h
   rw [List.append_nil] at e
   rw [← e] at h
   exact h
  | cons x r ih =>
   intro p a e h
   rw [List.foldl_cons]
   exact ih (p ++ [x]) _ (by rw [e]; simp) (h.step ho hN (fun y hy=>by rw [e]; exact List.mem_append_left _ hy) (by rw [e]; simp))
 exact key o [] _ rfl ⟨fun e he=>(by simp [fV]),fun e he=>(by cases he),(by simp),(by simp)⟩
theorem W8 {N:Nat} {o:List aA} (ho:u0 N o) (hN:N ≤ 40) {e:aA} (he:e ∈ o):(H6 (BI e) o).map (cl (pE N o)) = sF N ((H6 (BI e) o).map (tS fun x=>x.Sum)):=(OQ ho hN).best e he
theorem aI0 {N:Nat} {o:List aA} (ho:u0 N o) (hN:N ≤ 40) (g:aE):FB N ((H6 g o).map (tS fun x=>x.Sum)):=by
 rw [← YC ho g]
 exact K2 ho hN (fun x _=>Int.le_refl _) g
theorem aDo {N:Nat} {o:List aA} (ho:u0 N o) (hN:N ≤ 40):TH o (pE N o):=fun e he =>
 TQ (aI0 ho hN (BI e)) (W8 ho hN he) e (X3.2 ⟨he,PT.2 rfl⟩)
theorem aAb {N:Nat} {o:List aA} (ho:u0 N o) (hN:N ≤ 40):(pE N o).length ≤ 20000:=by
 have h1:=(OQ ho hN).len1
 have h2:=ho.len
 unfold pE
 omega
def CO (o:List aA) (m:MI):List aC:=(o.filter fun e=>decide (0 < cl m e)).map fun e=>⟨4,e.Room,e.No,cl m e⟩
def xJ (no:Int) (o:List aA):aE:=o.foldl (fun g e=>if e.No = no then BI e else g) ⟨0,0⟩
def K7 (no:Int) (m:MI) (e:aA):Int:=if e.No = no then 0 else cl m e
noncomputable def W3 (n:Int) (o:List aA) (m:MI) (no:Int):MI:=mV n (xJ no o) (K7 no m) o m
def xW (o:List aA) (m m' : MI):List aC:=(o.filter fun e=>decide (0 < cl m e - cl m' e)).map fun e=>⟨5,e.Room,e.No,cl m e - cl m' e⟩
theorem aDM {o:List aA} {m:MI} (h:TH o m) {N:Nat} (ho:u0 N o) (no:Int):∀ e ∈ o,K7 no m e ≤ e.Sum:=fun e he=>by
 unfold K7
 have:=(ho.each e he).2.2.2.1
 have:=h e he
 split <;> omega
theorem aIf {N:Nat} {o:List aA} (ho:u0 N o) (hN:N ≤ 40) {m:MI} (h:TH o m) (no:Int):TH o (W3 N o m no):=aBr ho hN (aDM h ho no) _ fun e he _=>h e he
abbrev StF:=Option (List aA × MI)
noncomputable def iJ (n r c:Int) (pre:List aA) (st:StF) (e:aA):StF × List aC × Int :=
 if KP n r e = false then (st,[],1) else match st with
 | none=>if e.Kind = 4 then (if e.Day < c then (none,[],13) else if 100 < (cW n r c pre).length then (none,[],6) else (some (cW n r c pre,pE n (cW n r c pre)),CO (cW n r c pre) (pE n (cW n r c pre)),0))
  else if e.Kind = 5 then (none,[],7) else if c < e.Day then (none,[],16) else (none,[],0)
 | some (o,m)=>if e.Kind = 4 then (st,[],7) else if e.Kind = 5 then (if fV e.No 0 m = 0 then (st,[],4) else (some (o,W3 n o m e.No),xW o m (W3 n o m e.No),0)) else (st,[],16)
abbrev S2:=List aA × StF × List aC × List Int
noncomputable def JB (n r c:Int) (a:S2) (e:aA):S2 :=
 (a.1 ++ [e],(iJ n r c a.1 a.2.1 e).1,a.2.2.1 ++ (iJ n r c a.1 a.2.1 e).2.1,a.2.2.2 ++ [(iJ n r c a.1 a.2.1 e).2.2])
noncomputable def cQ (n r c:Int) (l:List aA):S2:=l.foldl (JB n r c) ([],none,[],[])
theorem lD (n r c:Int) (l:List aA) (e:aA):cQ n r c (l ++ [e]) = JB n r c (cQ n r c l) e:=by
 unfold cQ
 rw [List.foldl_append]
 rfl
theorem NM (n r c:Int):∀ (l:List aA) (a:S2),(l.foldl (JB n r c) a).1 = a.1 ++ l
 | [],a=>by simp
 | e :: l,a=>by
  rw [List.foldl_cons,NM n r c l]
  show a.1 ++ [e] ++ l = _
  simp
theorem DD (n r c:Int) (l:List aA):(cQ n r c l).1 = l:=by
 have:=NM n r c l ([],none,[],[])
 simpa [cQ] using this
def S9 (N:Nat):StF→Prop
 | none=>True
 | some (o,m)=>u0 N o ∧ TH o m
theorem aBM {n r c:Int} {N:Nat} (hn:n = N) (hN:N ≤ 40) {pre:List aA} (hw:∀ e ∈ pre,dY e.Sum) {st:StF} (h:S9 N st) (e:aA):S9 N (iJ n r c pre st e).1:=by
 subst hn
 unfold iJ
 split
 ·exact h
 ·cases st with
  | none =>
   dsimp only
   split
   ·split
    ·trivial
    ·split
     ·trivial
     ·have ho:=RY (r:=r) (c:=c) rfl hw (show (cW (N:Int) r c pre).length ≤ 100 by omega)
      exact ⟨ho,aDo ho hN⟩
   ·split
    ·trivial
    ·split <;> trivial
  | some s =>
   obtain ⟨o,m⟩:=s
   dsimp only
   split
   ·exact h
   ·split
    ·split
     ·exact h
     ·exact ⟨h.1,aIf h.1 hN h.2 _⟩
    ·exact h
theorem SG {n r c:Int} {N:Nat} (hn:n = N) (hN:N ≤ 40):∀ (l:List aA) (a:S2),(∀ e ∈ a.1,dY e.Sum)→(∀ e ∈ l,dY e.Sum)→S9 N a.2.1→S9 N (l.foldl (JB n r c) a).2.1
 | [],a,_,_,h=>h
 | e :: l,a,h1,h2,h=>by
  rw [List.foldl_cons]
  refine SG hn hN l _ (fun x hx=>?_) (fun x hx=>h2 x (List.mem_cons_of_mem _ hx)) (aBM hn hN h1 h e)
  rcases List.mem_append.1 hx with hx | hx
  ·exact h1 x hx
  ·rw [List.mem_singleton.1 hx]
   exact h2 e List.mem_cons_self
end Go.Proofs.Ytiimibimkpimbaa
