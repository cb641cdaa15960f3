/- What fair.Counting returns. What fair.Counting returns: the offers that count, by their numbers. Clearing a group of offers: the loops of settle. What a fair does, event by event, in plain terms; what stays right. -/
import Derived.Test.YtiimibimkpimbaaFn
import Derived.Test.YtiimibimkpimbaaLoops3
import Derived.Test.YtiimibimkpimbaaPCb
set_option linter.unusedVariables false
set_option linter.unusedSimpArgs false
namespace Go.Proofs.Ytiimibimkpimbaa
open Go.RowKit Vm
theorem nJ {α S A X:Type} {step:S→Option (S ⊕ X)} (st:Nat→A→S) (l:List α) (f:A→α→A) (I:Nat→A→Prop) (fin:A→X)
  (h:∀ k a x,l[k]? = some x→I k a→step (st k a) = some (.inl (st (k + 1) (f a x))) ∧ I (k + 1) (f a x))
  (he:∀ a,I l.length a→step (st l.length a) = some (.inr (fin a))) (a:A) (h0:I 0 a) :
  eZ step (st 0 a) = some (fin (l.foldl f a)) ∧ I l.length (l.foldl f a):=by
 have key:∀ (r p:List α) (a:A),l = p ++ r→I p.length a→eZ step (st p.length a) = some (fin (r.foldl f a)) ∧ I l.length (r.foldl f a):=by
  intro r
  induction r with
  | nil =>
   intro p a e hI
   rw [List.append_nil] at e
   subst e
   exact ⟨fN (he a hI),hI⟩
  | cons x r ih =>
   intro p a e hI
   obtain ⟨h1,h2⟩:=h p.length a x (by rw [e]; simp) hI
   rw [gJ h1]
   have:=ih (p ++ [x]) (f a x) (by rw [e]; simp) (by rw [List.length_append]; exact h2)
   rw [List.length_append] at this
   exact this
 exact key l [] a rfl h0
theorem kP {α:Type} {l:List α} {k:Nat} {x:α} (h:l[k]? = some x):at? l (k:Int) = some x:=by rw [at?_nat]; exact h
theorem nH {α:Type} {l:List α} {k:Nat} {x:α} (h:l[k]? = some x):k < l.length:=(List.getElem?_eq_some_iff.1 h).1
theorem fL {α:Type} {l:List α} {k:Nat} {x:α} (h:l[k]? = some x):(decide ((k:Int) < (l.length:Int)) = true) = True:=by
 have:=nH h
 simp only [decide_eq_true_eq,eq_iff_iff,iff_true]
 omega
theorem B2 {α:Type} (p:α→Bool):∀ (l acc:List α),l.foldl (fun out x=>if p x = true then out ++ [x] else out) acc = acc ++ l.filter p
 | [],acc=>by simp
 | x :: l,acc=>by
  rw [List.foldl_cons,B2 p l,List.filter_cons]
  split <;> simp
theorem aEU {α S:Type} {step:S→Option (S ⊕ (Unit ⊕ Int))} (st:Nat→S) (l:List α) (p:α→Bool)
  (h:∀ k x,l[k]? = some x→step (st k) = if p x = true then some (.inr (.inr (k:Int))) else some (.inl (st (k + 1))))
  (he:step (st l.length) = some (.inr (.inl ()))) :
  ∃ r,eZ step (st 0) = some r ∧ ((r = .inl () ∧ l.any p = false) ∨ ∃ k:Nat,r = .inr (k:Int) ∧ l.any p = true):=by
 have key:∀ (r q:List α),l = q ++ r→∃ z,eZ step (st q.length) = some z ∧ ((z = .inl () ∧ r.any p = false) ∨ ∃ k:Nat,z = .inr (k:Int) ∧ r.any p = true):=by
  intro r
  induction r with
  | nil =>
   intro q e
   rw [List.append_nil] at e
   subst e
   exact ⟨_,fN he,.inl ⟨rfl,rfl⟩⟩
  | cons x r ih =>
   intro q e
   have hs:=h q.length x (by rw [e]; simp)
   by_cases hp:p x = true
   ·rw [if_pos hp] at hs
    exact ⟨_,fN hs,.inr ⟨q.length,rfl,by simp [hp]⟩⟩
   ·rw [if_neg hp] at hs
    rw [gJ hs]
    obtain ⟨z,h1,h2⟩:=ih (q ++ [x]) (by rw [e]; simp)
    rw [List.length_append] at h1
    refine ⟨z,h1,?_⟩
    have e2:(x :: r).any p = r.any p:=by
     simp only [List.any_cons,Bool.not_eq_true] at hp ⊢
     rw [hp,Bool.false_or]
    rw [e2]
    exact h2
 exact key l [] rfl
def D4 (i n:Int):Bool:=decide (0 ≤ i) && decide (i < n)
theorem EJ {i n:Int}:D4 i n = true ↔ 0 ≤ i ∧ i < n:=by simp [D4]
theorem D9 (i n:Int):eE i n = some (D4 i n):=by
 unfold eE D4
 by_cases h:0 ≤ i
 ·rw [if_pos (by simpa using h)]; simp [h]
 ·rw [if_neg (by simpa using h)]; simp [h]
def aCh (n r:Int):Bool:=D4 (IntKind.wrap .i64 (n - 1)) 40 && D4 (IntKind.wrap .i64 (r - 1)) 8
def YP (n:Int) (e:aA):Bool :=
 if e.Kind = 0 then D4 e.From n && D4 e.To n && (e.From != e.To) && D4 e.Currency 8 && D4 e.Due 100001 && D4 (IntKind.wrap .i64 (e.Sum - 1)) 1099511627776
 else if e.Kind = 1 ∨ e.Kind = 2 then D4 e.From n && (0 == e.To) && (0 == e.Currency) && (0 == e.Due) && (0 == e.Sum)
 else if e.Kind = 3 then decide (e.Due ≥ e.Day) && decide (e.Due ≤ 100000) && (0 == e.No) && (0 == e.From) && (0 == e.To) && (0 == e.Currency) && (0 == e.Sum)
 else if e.Kind = 5 then (0 == e.Room) && (0 == e.From) && (0 == e.To) && (0 == e.Currency) && (0 == e.Due) && (0 == e.Sum)
 else if e.Kind = 4 then (0 == e.Room) && (0 == e.No) && (0 == e.From) && (0 == e.To) && (0 == e.Currency) && (0 == e.Due) && (0 == e.Sum)
 else false
def NV (n r:Int) (e:aA):Bool:=aCh n r && D4 e.Day 100001 && YP n e && D4 e.Room r && D4 e.No 1000
def TQ (b:Bool):Int:=if b = true then 0 else 1
theorem aKX (r:Int) (e:aA) (b:Bool) (x1 x2 x3 x4 x5 x6 x7:Int):dG r e b x1 x2 x3 x4 x5 x6 x7 = some (TQ (b && ((x1 == e.Room) && (x2 == e.No) && (x3 == e.From) && (x4 == e.To) && (x5 == e.Currency) && (x6 == e.Due) && (x7 == e.Sum)) && D4 e.Room r && D4 e.No 1000)):=by
 unfold dG
 simp only [D9,Option.bind_some,beq_self_eq_true,Bool.true_and]
 generalize (x1 == e.Room) = c1
 generalize (x2 == e.No) = c2
 generalize (x3 == e.From) = c3
 generalize (x4 == e.To) = c4
 generalize (x5 == e.Currency) = c5
 generalize (x6 == e.Due) = c6
 generalize (x7 == e.Sum) = c7
 generalize D4 e.Room r = d1
 generalize D4 e.No 1000 = d2
 have:∀ c:Bool,(c1 && (c2 && (c3 && (c4 && (c5 && (c6 && c7)))))) = c→(if (!b) = true then some (1:Int) else if (!c) = true then some 1 else if (!d1) = true then some 1 else if (!d2) = true then some 1 else some 0) = some (TQ (b && c && d1 && d2)):=by
  intro c _
  cases b <;> cases c <;> cases d1 <;> cases d2 <;> rfl
 rw [this _ rfl]
 simp only [Bool.and_assoc]
theorem aLw (n r:Int) (e:aA) (b:Bool):mX n r e b = some (TQ (b && YP n e && D4 e.Room r && D4 e.No 1000)):=by
 unfold mX qV
 simp only [D9,Option.bind_some,aKX,beq_self_eq_true,Bool.true_and,Bool.and_true,beq_iff_eq]
 unfold YP
 by_cases k0:e.Kind = 0
 ·rw [if_pos k0,if_pos k0]
  generalize D4 e.From n = c1
  generalize D4 e.To n = c2
  generalize (e.From != e.To) = c3
  generalize D4 e.Currency 8 = c4
  generalize D4 e.Due 100001 = c5
  generalize D4 (IntKind.wrap .i64 (e.Sum - 1)) 1099511627776 = c6
  cases b <;> cases c1 <;> cases c2 <;> cases c3 <;> cases c4 <;> cases c5 <;> simp
 ·rw [if_neg k0,if_neg k0]
  by_cases k1:e.Kind = 1
  ·rw [if_pos k1,if_pos k1,if_pos (show e.Kind = 1 ∨ e.Kind = 2 from .inl k1)]
   generalize D4 e.From n = c1
   cases b <;> simp [Bool.and_assoc]
  ·rw [if_neg k1]
   by_cases k2:e.Kind = 2
   ·rw [if_pos k2,if_pos (show e.Kind = 1 ∨ e.Kind = 2 from .inr k2)]
    generalize D4 e.From n = c1
    cases b <;> simp [Bool.and_assoc]
   ·rw [if_neg k2,if_neg (show ¬(e.Kind = 1 ∨ e.Kind = 2) from fun q=>q.elim k1 k2)]
    by_cases k3:e.Kind = 3
    ·rw [if_pos k3,if_pos k3]
     generalize decide (e.Due ≥ e.Day) = c1
     generalize decide (e.Due ≤ 100000) = c2
     cases b <;> cases c1 <;> simp [Bool.and_assoc]
    ·rw [if_neg k3,if_neg k3]
     by_cases k5:e.Kind = 5
     ·rw [if_pos k5,if_pos k5]
      cases b <;> simp [Bool.and_assoc]
     ·rw [if_neg k5,if_neg k5]
      by_cases k4:e.Kind = 4
      ·rw [if_pos k4,if_pos k4]
       cases b <;> simp [Bool.and_assoc]
      ·rw [if_neg k4,if_neg k4]
       simp
theorem D2 (n r:Int) (e:aA):kY n r e = some (TQ (NV n r e)):=by
 unfold kY NV aCh
 simp only [D9,Option.bind_some,aLw]
 generalize D4 (IntKind.wrap .i64 (n - 1)) 40 = c1
 generalize D4 (IntKind.wrap .i64 (r - 1)) 8 = c2
 cases c1 <;> cases c2 <;> simp
theorem aEf (b:Bool):((TQ b == 0) = true) = (b = true):=by cases b <;> simp [TQ]
theorem ZP (b:Bool):((TQ b != 0) = true) = (b = false):=by cases b <;> simp [TQ]
end Go.Proofs.Ytiimibimkpimbaa
set_option linter.unusedVariables false
set_option linter.unusedSimpArgs false
namespace Go.Proofs.Ytiimibimkpimbaa
open Go.RowKit Vm
theorem KA {α:Type} {step:Int→Option (Int ⊕ (Unit ⊕ Int))} (l:List α) (hl:l.length ≤ 100000) (p:α→Bool)
  (h:∀ (k:Nat) x,l[k]? = some x→step k = if p x = true then some (.inr (.inr (k:Int))) else some (.inl (IntKind.wrap .i64 ((k:Int) + 1))))
  (he:step l.length = some (.inr (.inl ()))) :
  ∃ i:Int,(eZ (fun (w:Int)=>step w) 0).bind (fun (r5:Unit ⊕ Int)=>Sum.elim (fun z6=>some (-1)) (fun z7=>some z7) r5) = some i ∧ decide (i ≥ 0) = l.any p:=by
 obtain ⟨r,h1,h2⟩:=aEU (step:=fun (w:Int)=>step w) (fun k:Nat=>(k:Int)) l p (fun k x hx=>by
  have:=nH hx
  have e:=h k x hx
  rw [dN (by omega)] at e
  exact e) he
 have e0:eZ (fun (w:Int)=>step w) 0 = some r:=h1
 rw [e0,Option.bind_some]
 rcases h2 with ⟨rfl,h3⟩ | ⟨k,rfl,h3⟩
 ·exact ⟨-1,rfl,by rw [h3]; rfl⟩
 ·exact ⟨k,rfl,by rw [h3]; simp⟩
def eqE (a b:aA):Bool:=(a.Kind == b.Kind) && ((a.Room == b.Room) && ((a.Day == b.Day) && ((a.No == b.No) && ((a.From == b.From) && ((a.To == b.To) && ((a.Currency == b.Currency) && ((a.Due == b.Due) && (a.Sum == b.Sum))))))))
theorem QI {a b:aA}:eqE a b = true ↔ a = b:=by
 unfold eqE
 cases a; cases b
 simp
theorem aCD (a:aA):eqE a a = true:=QI.2 rfl
def aG0 (room day:Int) (e:aA):Bool:=(e.Kind == 3) && (e.Room == room) && decide (e.Day ≤ day) && decide (day ≤ e.Due)
def D5 (s:List aA) (room day:Int):Bool:=s.any (aG0 room day)
def aDz (kind no from_:Int) (e:aA):Bool:=(e.Kind == kind) && (e.No == no) && (e.From == from_)
def GF (v:List aA) (kind no from_:Int):Bool:=v.any (aDz kind no from_)
def aC1 (e x:aA):Bool:=(x.Kind == 0) && (x.No == e.No) && !eqE x e
def K8 (v:List aA) (e:aA):Bool:=v.any (aC1 e)
theorem OC {s:List aA} (hs:s.length ≤ 100000) (room day:Int):pM s room day = some (D5 s room day):=by
 obtain ⟨i,h1,h2⟩:=KA (step:=fun w=>bG s room day w) s hs (aG0 room day) (fun k x hx=>by
  show bG s room day k = _
  unfold bG
  simp only [fL hx,if_true,kP hx,Option.bind_some]
  have:lG x room day = some (aG0 room day x):=by
   unfold lG aG0
   by_cases c1:x.Kind = 3 <;> by_cases c2:x.Room = room <;> by_cases c3:x.Day ≤ day <;> simp [c1,c2,c3]
  rw [this,Option.bind_some]) (by
  show bG s room day s.length = _
  unfold bG
  rw [if_neg (by simp)])
 unfold pM cC cJ dD
 rw [h1,Option.bind_some,h2]
 rfl
theorem aGe {v:List aA} (hv:v.length ≤ 100000) (kind no from_:Int):gN kind no from_ v = some (GF v kind no from_):=by
 obtain ⟨i,h1,h2⟩:=KA (step:=fun w=>bE v kind no from_ w) v hv (aDz kind no from_) (fun k x hx=>by
  show bE v kind no from_ k = _
  unfold bE
  simp only [fL hx,if_true,kP hx,Option.bind_some]
  have:iR x kind no from_ = some (aDz kind no from_ x):=by
   unfold iR aDz
   by_cases c1:x.Kind = kind <;> by_cases c2:x.No = no <;> simp [c1,c2]
  rw [this,Option.bind_some]) (by
  show bE v kind no from_ v.length = _
  unfold bE
  rw [if_neg (by simp)])
 unfold gN cE cO dE
 rw [h1,Option.bind_some,h2]
 rfl
theorem aD4 {v:List aA} (hv:v.length ≤ 100000) (e:aA):bV v e = some (K8 v e):=by
 obtain ⟨i,h1,h2⟩:=KA (step:=fun w=>bD v e w) v hv (aC1 e) (fun k x hx=>by
  show bD v e k = _
  unfold bD
  simp only [fL hx,if_true,kP hx,Option.bind_some]
  have:j7 x e = some (aC1 e x):=by
   unfold j7 aC1 eqE
   by_cases c1:x.Kind = 0 <;> by_cases c2:x.No = e.No <;> simp [c1,c2]
  rw [this,Option.bind_some]) (by
  show bD v e v.length = _
  unfold bD
  rw [if_neg (by simp)])
 unfold bV cP dF
 rw [h1,Option.bind_some,h2]
 rfl
theorem RV {v:List aA} (hv:v.length ≤ 100000) (e:aA):cD v e = some (v.any (eqE e)):=by
 obtain ⟨i,h1,h2⟩:=KA (step:=fun w=>bK v e w) v hv (eqE e) (fun k x hx=>by
  show bK v e k = _
  unfold bK
  simp only [fL hx,if_true,kP hx,Option.bind_some]
  rfl) (by
  show bK v e v.length = _
  unfold bK
  rw [if_neg (by simp)])
 unfold cD dM eB
 rw [h1,Option.bind_some,h2]
def XG (n r c:Int) (e:aA):Bool:=NV n r e && (e.Kind == 3) && decide (e.Day ≤ c)
def uF (n r c:Int) (l:List aA):List aA:=l.filter (XG n r c)
def HR (n r c:Int) (s:List aA) (e:aA):Bool:=NV n r e && decide (e.Kind ≤ 2) && decide (e.Day ≤ c) && D5 s e.Room e.Day
def sH (n r c:Int) (l:List aA):List aA:=l.filter (HR n r c (uF n r c l))
def yY (c:Int) (v s:List aA) (e:aA):Bool:=(e.Kind == 0) && !K8 v e && D5 s e.Room c && GF v 1 e.No e.To && !GF v 2 e.No e.From && !GF v 2 e.No e.To
def CD (c:Int) (v s:List aA) (out:List aA) (e:aA):List aA:=if (yY c v s e && !out.any (eqE e)) = true then out ++ [e] else out
def vW (c:Int) (v s:List aA):List aA:=v.foldl (CD c v s) []
def eA (n r c:Int) (l:List aA):List aA:=isK (fun (x:aA)=>x.No) (vW c (sH n r c l) (uF n r c l))
def sS (n r c:Int) (l:List aA):Bool:=aCh n r && D4 c 100001 && decide (l.length ≤ 400)
theorem EP (n r c:Int) (l:List aA):qL n r c l = some (sS n r c l):=by
 unfold qL sS aCh
 simp only [D9,Option.bind_some]
 generalize D4 (IntKind.wrap .i64 (n - 1)) 40 = c1
 generalize D4 (IntKind.wrap .i64 (r - 1)) 8 = c2
 generalize D4 c 100001 = c3
 cases c1 <;> cases c2 <;> cases c3 <;> simp
 omega
theorem PF {α:Type} {f:List α→α→List α} (hf:∀ o x,f o x = o ∨ f o x = o ++ [x]):∀ (l o:List α),(l.foldl f o).length ≤ o.length + l.length
 | [],o=>by simp
 | x :: l,o=>by
  rw [List.foldl_cons]
  have:=PF hf l (f o x)
  rcases hf o x with e | e <;> rw [e] at this ⊢ <;> simp only [List.length_append,List.length_cons,List.length_nil] at this ⊢ <;> omega
theorem aCU {l:List aA} (hl:l.length ≤ 400) (n r c:Int):nZ n r c l 0 [] = some (uF n r c l):=by
 unfold nZ
 have h:=nJ (step:=fun (w:Int × (List aA))=>fS n r c l w.1 w.2) (fun k a=>((k:Int),a)) l (fun out x=>if XG n r c x = true then out ++ [x] else out) (fun k a=>a.length ≤ k) id (fun k a x hx hI=>by
  have hk:=nH hx
  have w3:IntKind.wrap .i64 ((k:Int) + 1) = ((k + 1:Nat):Int):=dN (by omega)
  constructor
  ·show fS n r c l k a = _
   unfold fS XG
   simp only [fL hx,if_true,kP hx,Option.bind_some,D2,aEf,w3]
   by_cases c1:NV n r x = true
   ·by_cases c2:x.Kind = 3
    ·by_cases c3:x.Day ≤ c
     ·simp only [c1,c2,c3,if_true,beq_self_eq_true,decide_true,Bool.and_self]
      rw [if_pos (by omega)]
     ·simp [c1,c2,c3]
    ·simp [c1,c2]
   ·simp [c1]
  ·split
   ·rw [List.length_append,List.length_singleton]; omega
   ·omega) (fun a hI=>by
  show fS n r c l l.length a = _
  unfold fS
  rw [if_neg (by simp)]
  rfl) [] (Nat.le_refl _)
 rw [B2] at h
 exact h.1
theorem aCr {l s:List aA} (hl:l.length ≤ 400) (hs:s.length ≤ 400) (n r c:Int):n8 n r c l s 0 [] = some (l.filter (HR n r c s)):=by
 unfold n8
 have h:=nJ (step:=fun (w:Int × (List aA))=>fP n r c l s w.1 w.2) (fun k a=>((k:Int),a)) l (fun out x=>if HR n r c s x = true then out ++ [x] else out) (fun k a=>a.length ≤ k) id (fun k a x hx hI=>by
  have hk:=nH hx
  have w3:IntKind.wrap .i64 ((k:Int) + 1) = ((k + 1:Nat):Int):=dN (by omega)
  constructor
  ·show fP n r c l s k a = _
   unfold fP HR
   simp only [fL hx,if_true,kP hx,Option.bind_some,D2,aEf,w3,OC (show s.length ≤ 100000 by omega)]
   by_cases c1:NV n r x = true
   ·by_cases c2:x.Kind ≤ 2
    ·by_cases c3:x.Day ≤ c
     ·by_cases c4:D5 s x.Room x.Day = true
      ·simp only [c1,c2,c3,c4,if_true,beq_self_eq_true,decide_true,Bool.and_self]
       rw [if_pos (by omega)]
      ·simp [c1,c2,c3,c4]
     ·simp [c1,c2,c3]
    ·simp [c1,c2]
   ·simp [c1]
  ·split
   ·rw [List.length_append,List.length_singleton]; omega
   ·omega) (fun a hI=>by
  show fP n r c l s l.length a = _
  unfold fP
  rw [if_neg (by simp)]
  rfl) [] (Nat.le_refl _)
 rw [B2] at h
 exact h.1
theorem aGg {v s:List aA} (hv:v.length ≤ 400) (hs:s.length ≤ 400) (c:Int):lB c v s 0 [] = some (vW c v s):=by
 unfold lB
 have h:=nJ (step:=fun (w:Int × (List aA))=>fR c v s w.1 w.2) (fun k a=>((k:Int),a)) v (CD c v s) (fun k a=>a.length ≤ k) id (fun k a x hx hI=>by
  have hk:=nH hx
  have w3:IntKind.wrap .i64 ((k:Int) + 1) = ((k + 1:Nat):Int):=dN (by omega)
  constructor
  ·show fR c v s k a = _
   unfold fR CD yY
   simp only [fL hx,if_true,kP hx,Option.bind_some,w3,OC (show s.length ≤ 100000 by omega),aD4 (show v.length ≤ 100000 by omega),aGe (show v.length ≤ 100000 by omega),RV (show a.length ≤ 100000 by omega)]
   by_cases c1:x.Kind = 0
   ·have c1' : (x.Kind != 0) = false:=by simp [c1]
    have c1'' : (x.Kind == 0) = true:=by simp [c1]
    rw [c1',c1'',if_neg (by decide)]
    have hl:(a.length + 1) * 72 ≤ 140737488355328:=by omega
    generalize K8 v x = b1
    generalize a.any (eqE x) = b2
    generalize D5 s x.Room c = b3
    generalize GF v 1 x.No x.To = b4
    generalize GF v 2 x.No x.From = b5
    generalize GF v 2 x.No x.To = b6
    cases b1 <;> cases b2 <;> cases b3 <;> cases b4 <;> cases b5 <;> cases b6 <;> simp [hl]
   ·simp [c1]
  ·unfold CD
   split
   ·rw [List.length_append,List.length_singleton]; omega
   ·omega) (fun a hI=>by
  show fR c v s v.length a = _
  unfold fR
  rw [if_neg (by simp)]
  rfl) [] (Nat.le_refl _)
 exact h.1
theorem HJ (c:Int) (v s:List aA):∀ (l out:List aA),out.Nodup→(l.foldl (CD c v s) out).Nodup ∧ ∀ x,x ∈ l.foldl (CD c v s) out ↔ x ∈ out ∨ (x ∈ l ∧ yY c v s x = true)
 | [],out,h=>⟨h,fun x=>by simp⟩
 | y :: l,out,h=>by
  rw [List.foldl_cons]
  have key:(CD c v s out y).Nodup ∧ ∀ x,x ∈ CD c v s out y ↔ x ∈ out ∨ (x = y ∧ yY c v s x = true):=by
   unfold CD
   have hm:out.any (eqE y) = true ↔ y ∈ out:=by
    rw [List.any_eq_true]
    exact ⟨fun ⟨z,h1,h2⟩=>by rw [QI.1 h2]; exact h1,fun h1=>⟨y,h1,aCD y⟩⟩
   by_cases cy:yY c v s y = true
   ·by_cases hy:y ∈ out
    ·rw [hm.2 hy,if_neg (by simp)]
     exact ⟨h,fun x=>⟨.inl,fun q=>q.elim id fun q=>by rw [q.1]; exact hy⟩⟩
    ·have:out.any (eqE y) = false:=by
      rw [Bool.eq_false_iff]; exact fun q=>hy (hm.1 q)
     rw [this,if_pos (by simp [cy])]
     refine ⟨List.nodup_append.2 ⟨h,by simp,fun a ha b hb=>?_⟩,fun x=>?_⟩
     ·rw [List.mem_singleton] at hb
      subst hb
      exact fun e=>hy (e ▸ ha)
     ·rw [List.mem_append,List.mem_singleton]
      exact ⟨fun q=>q.elim .inl fun q=>.inr ⟨q,by rw [q]; exact cy⟩,fun q=>q.elim .inl fun q=>.inr q.1⟩
   ·rw [if_neg (by simp [cy])]
    exact ⟨h,fun x=>⟨.inl,fun q=>q.elim id fun q=>absurd (q.1 ▸ q.2) cy⟩⟩
  obtain ⟨h1,h2⟩:=HJ c v s l _ key.1
  refine ⟨h1,fun x=>?_⟩
  rw [h2,key.2,List.mem_cons]
  constructor
  ·rintro ((q | q) | q)
   ·exact .inl q
   ·exact .inr ⟨.inl q.1,q.2⟩
   ·exact .inr ⟨.inr q.1,q.2⟩
  ·rintro (q | ⟨q | q,q2⟩)
   ·exact .inl (.inl q)
   ·exact .inl (.inr ⟨q,q2⟩)
   ·exact .inr ⟨q,q2⟩
theorem EI {c:Int} {v s:List aA} {x:aA}:x ∈ vW c v s ↔ x ∈ v ∧ yY c v s x = true:=by
 have:=(HJ c v s v [] List.nodup_nil).2 x
 simpa [vW] using this
theorem I0 (c:Int) (v s:List aA):(vW c v s).Nodup:=(HJ c v s v [] List.nodup_nil).1
theorem PR {c:Int} {v s:List aA} {x y:aA} (hx:x ∈ vW c v s) (hy:y ∈ vW c v s) (h:x.No = y.No):x = y:=by
 obtain ⟨h1,h2⟩:=EI.1 hx
 obtain ⟨h3,h4⟩:=EI.1 hy
 unfold yY at h2 h4
 simp only [Bool.and_eq_true,Bool.not_eq_true',beq_iff_eq] at h2 h4
 have h5:K8 v y = false:=h4.1.1.1.1.2
 unfold K8 at h5
 rw [List.any_eq_false] at h5
 have h6:=h5 x h1
 unfold aC1 at h6
 rw [h2.1.1.1.1.1,h,Bool.not_eq_true] at h6
 simp only [beq_self_eq_true,Bool.and_self,Bool.true_and,Bool.not_eq_false'] at h6
 exact QI.1 h6
theorem UC {α:Type} {key:α→Int}:∀ {l:List α},l.Nodup→(∀ x ∈ l,∀ y ∈ l,key x = key y→x = y)→PH key l = true
 | [],_,_=>rfl
 | r :: l,h,hk=>by
  obtain ⟨h1,h2⟩:=List.nodup_cons.1 h
  show (l.all (fun s=>decide (key s ≠ key r)) && PH key l) = true
  rw [UC h2 fun x hx y hy=>hk x (List.mem_cons_of_mem _ hx) y (List.mem_cons_of_mem _ hy),Bool.and_true,List.all_eq_true]
  intro x hx
  rw [decide_eq_true_eq]
  intro e
  have:=hk x (List.mem_cons_of_mem _ hx) r List.mem_cons_self e
  exact h1 (this ▸ hx)
theorem L3 {α:Type} (p:α→Bool) (l:List α):(l.filter p).length ≤ l.length:=List.length_filter_le p l
theorem aEc (c:Int) (v s o:List aA) (x:aA):CD c v s o x = o ∨ CD c v s o x = o ++ [x]:=by
 unfold CD
 split
 ·exact .inr rfl
 ·exact .inl rfl
theorem PV (c:Int) (v s:List aA):(vW c v s).length ≤ v.length:=by
 have:=PF (aEc c v s) v []
 simpa [vW] using this
theorem aFw {n r:Int} {e:aA} (h:NV n r e = true):0 ≤ e.No ∧ e.No < 1000:=by
 unfold NV at h
 rw [Bool.and_eq_true] at h
 exact EJ.1 h.2
theorem PB {n r c:Int} {s l:List aA} {e:aA} (h:e ∈ l.filter (HR n r c s)):e ∈ l ∧ NV n r e = true ∧ e.Kind ≤ 2 ∧ e.Day ≤ c ∧ D5 s e.Room e.Day = true:=by
 obtain ⟨h1,h2⟩:=List.mem_filter.1 h
 unfold HR at h2
 simp only [Bool.and_eq_true,decide_eq_true_eq] at h2
 exact ⟨h1,h2.1.1.1,h2.1.1.2,h2.1.2,h2.2⟩
theorem BE {n r c:Int} {l:List aA} (h:sS n r c l = true):iS n r c l = some (eA n r c l):=by
 have hl:l.length ≤ 400:=by
  unfold sS at h
  rw [Bool.and_eq_true,decide_eq_true_eq] at h
  exact h.2
 have h1:(uF n r c l).length ≤ 400:=Nat.le_trans (L3 _ _) hl
 have h2:(sH n r c l).length ≤ 400:=Nat.le_trans (L3 _ _) hl
 have h3:=PV c (sH n r c l) (uF n r c l)
 have hok:okK (fun (x:aA)=>x.No) (vW c (sH n r c l) (uF n r c l)) = true:=by
  unfold okK
  rw [UC (I0 _ _ _) fun x hx y hy e=>PR hx hy e,Bool.and_true,Bool.and_eq_true,decide_eq_true_eq,List.all_eq_true]
  refine ⟨fun x hx=>?_,by omega⟩
  rw [decide_eq_true_eq]
  exact aFw (PB (EI.1 hx).1).2.1
 unfold iS
 rw [EP,h,Option.bind_some,if_neg (by decide),aCU hl,Option.bind_some,aCr hl h1,Option.bind_some]
 show (lB c (sH n r c l) (uF n r c l) 0 []).bind _ = _
 rw [aGg h2 h1,Option.bind_some]
 unfold eC
 rw [if_pos hok]
 rfl
theorem UK {n r c:Int} {l:List aA} (h:sS n r c l = false):iS n r c l = some []:=by
 unfold iS
 rw [EP,h]
 rfl
end Go.Proofs.Ytiimibimkpimbaa
set_option linter.unusedVariables false
set_option linter.unusedSimpArgs false
namespace Go.Proofs.Ytiimibimkpimbaa
open Go.RowKit Vm
theorem IV {α:Type} {k k' : Int} (v:α) (h:k ≠ k'):∀ l:List (Int × α),(rW k v l).find? (fun p=>decide (p.1 = k')) = l.find? fun p=>decide (p.1 = k')
 | []=>by simp [rW,h]
 | y :: l=>by
  unfold rW
  split
  ·rw [List.find?_cons]
   simp [h]
  ·rw [List.find?_cons,List.find?_cons,IV v h l]
theorem JM {α:Type} {k:Int} (v:α):∀ l:List (Int × α),(∀ p ∈ l,p.1 ≠ k)→(rW k v l).find? (fun p=>decide (p.1 = k)) = some (k,v)
 | [],_=>by simp [rW]
 | y :: l,h=>by
  unfold rW
  split
  ·rw [List.find?_cons]
   simp
  ·have:=h y List.mem_cons_self
   rw [List.find?_cons,JM v l fun p hp=>h p (List.mem_cons_of_mem _ hp)]
   simp [this]
theorem IX {α:Type} {k k' : Int} (h:k ≠ k'):∀ l:List (Int × α),(v6 k l).find? (fun p=>decide (p.1 = k')) = l.find? fun p=>decide (p.1 = k')
 | []=>rfl
 | y :: l=>by
  unfold v6
  rw [List.filter_cons]
  have ih:=IX h l
  unfold v6 at ih
  by_cases e:y.1 = k
  ·rw [if_neg (by simp [e]),ih,List.find?_cons]
   have:¬ y.1 = k':=fun q=>h (e.symm.trans q)
   simp [this]
  ·rw [if_pos (by simp [e]),List.find?_cons,List.find?_cons,ih]
theorem GG {α:Type} (k k' : Int) (v z:α) (m:List (Int × α)):gC k' z (fQ k v m) = if k' = k then v else gC k' z m:=by
 unfold gC fQ
 by_cases h:k' = k
 ·subst h
  rw [if_pos rfl,JM v _ fun p hp=>by
   have:=(List.mem_filter.1 hp).2
   simpa using this]
 ·rw [if_neg h,IV v (fun q=>h q.symm),IX fun q=>h q.symm]
theorem B4 {α:Type} (k:Int) (v:α) (m:List (Int × α)):(fQ k v m).length ≤ m.length + 1:=by
 unfold fQ
 rw [M1]
 have:=List.length_filter_le (fun p:Int × α=>!decide (p.1 = k)) m
 unfold v6
 omega
def RM (g:aE) (e:aA):Bool:=(e.Currency == g.currency) && (e.Due == g.due)
def u4 (e:aA):aE:=⟨e.Currency,e.Due⟩
theorem aHM (e:aA):vA e = some (u4 e):=rfl
theorem GN {g:aE} {e:aA}:RM g e = true ↔ u4 e = g:=by
 cases g
 simp [RM,u4]
def rK (sm:aA→Int) (e:aA):aS:=⟨e.From,e.To,sm e⟩
def T2 (g:aE) (sm:aA→Int) (a:MI × List aS × List Int) (e:aA):MI × List aS × List Int :=
 if RM g e = true then (fQ e.No 0 a.1,if 0 < sm e then a.2.1 ++ [rK sm e] else a.2.1,if 0 < sm e then a.2.2 ++ [e.No] else a.2.2) else a
def BH (g:aE) (o:List aA):List aA:=o.filter (RM g)
def xY (g:aE) (sm:aA→Int) (o:List aA):List aA:=o.filter fun e=>RM g e && decide (0 < sm e)
def v8 (l:List aA) (m:MI):MI:=l.foldl (fun m e=>fQ e.No 0 m) m
theorem LZ (g:aE) (sm:aA→Int):∀ (o:List aA) (m:MI) (d:List aS) (u:List Int),o.foldl (T2 g sm) (m,d,u) = (v8 (BH g o) m,d ++ (xY g sm o).map (rK sm),u ++ (xY g sm o).map (·.No))
 | [],m,d,u=>by simp [v8,BH,xY]
 | e :: o,m,d,u=>by
  rw [List.foldl_cons]
  by_cases c:RM g e = true
  ·have e1:T2 g sm (m,d,u) e = (fQ e.No 0 m,if 0 < sm e then d ++ [rK sm e] else d,if 0 < sm e then u ++ [e.No] else u):=if_pos c
   rw [e1,LZ g sm o]
   unfold BH xY v8
   rw [List.filter_cons,if_pos c,List.filter_cons,c,Bool.true_and,List.foldl_cons]
   by_cases c2:0 < sm e
   ·rw [if_pos c2,if_pos c2,if_pos (by simpa using c2)]
    simp [rK]
   ·rw [if_neg c2,if_neg c2,if_neg (by simpa using c2)]
  ·have e1:T2 g sm (m,d,u) e = (m,d,u):=if_neg c
   rw [e1,LZ g sm o]
   unfold BH xY v8
   rw [List.filter_cons,if_neg c,List.filter_cons,if_neg (by simp [c])]
theorem D7:∀ (l:List aA) (m:MI),(v8 l m).length ≤ m.length + l.length
 | [],m=>Nat.le_refl _
 | e :: l,m=>by
  have h1:=D7 l (fQ e.No 0 m)
  have h2:=B4 e.No (0:Int) m
  show (v8 l (fQ e.No 0 m)).length ≤ _
  rw [List.length_cons]
  omega
theorem HU (k:Int):∀ (l:List aA) (m:MI),gC k 0 (v8 l m) = if (∃ e ∈ l,e.No = k) then 0 else gC k 0 m
 | [],m=>by simp [v8]
 | e :: l,m=>by
  show gC k 0 (v8 l (fQ e.No 0 m)) = _
  rw [HU k l,GG]
  by_cases h1:∃ x ∈ l,x.No = k
  ·rw [if_pos h1,if_pos]
   obtain ⟨x,hx,e'⟩:=h1
   exact ⟨x,List.mem_cons_of_mem _ hx,e'⟩
  ·rw [if_neg h1]
   by_cases h2:k = e.No
   ·rw [if_pos h2,if_pos ⟨e,List.mem_cons_self,h2.symm⟩]
   ·rw [if_neg h2,if_neg]
    rintro ⟨x,hx,e'⟩
    rcases List.mem_cons.1 hx with rfl | hx
    ·exact h2 e'.symm
    ·exact h1 ⟨x,hx,e'⟩
def oG:List Int→List Int→MI→MI
 | k :: u,v :: x,m=>oG u x (fQ k v m)
 | _,_,m=>m
theorem LK:∀ (u x:List Int) (m:MI),(oG u x m).length ≤ m.length + x.length
 | [],x,m=>by simp [oG]
 | _ :: _,[],m=>by simp [oG]
 | k :: u,v :: x,m=>by
  have h1:=LK u x (fQ k v m)
  have h2:=B4 k v m
  show (oG u x (fQ k v m)).length ≤ _
  rw [List.length_cons]
  omega
theorem EF {k:Int}:∀ (u x:List Int) (m:MI),k ∉ u→gC k 0 (oG u x m) = gC k 0 m
 | [],x,m,_=>by simp [oG]
 | _ :: _,[],m,_=>by simp [oG]
 | i :: u,v :: x,m,h=>by
  show gC k 0 (oG u x (fQ i v m)) = _
  rw [EF u x _ fun q=>h (List.mem_cons_of_mem _ q),GG,if_neg fun q=>h (by rw [q]; exact List.mem_cons_self)]
theorem MK:∀ (u x:List Int) (m:MI),u.Nodup→u.length = x.length→u.map (fun k=>gC k 0 (oG u x m)) = x
 | [],[],m,_,_=>rfl
 | [],_ :: _,m,_,h=>by cases h
 | _ :: _,[],m,_,h=>by cases h
 | k :: u,v :: x,m,hn,h=>by
  obtain ⟨h1,h2⟩:=List.nodup_cons.1 hn
  show gC k 0 (oG u x (fQ k v m)) :: u.map (fun k'=>gC k' 0 (oG u x (fQ k v m))) = _
  rw [MK u x _ h2 (by simpa using h),EF u x _ h1,GG,if_pos rfl]
noncomputable def sM (n:Int) (d:List aS):List Int:=match i0 n d with
 | some r=>r.1
 | none=>[]
noncomputable def mA (n:Int) (g:aE) (sm:aA→Int) (o:List aA) (m:MI):MI :=
 oG ((xY g sm o).map (·.No)) (sM n ((xY g sm o).map (rK sm))) (v8 (BH g o) m)
def xR (o:List aA):Prop:=o.Pairwise fun a b=>a.No ≠ b.No
theorem xR.one {o:List aA} (h:xR o):∀ a ∈ o,∀ b ∈ o,a.No = b.No→a = b:=by
 induction o with
 | nil=>intro a ha; cases ha
 | cons x o ih =>
  obtain ⟨h1,h2⟩:=List.pairwise_cons.1 h
  intro a ha b hb e
  rcases List.mem_cons.1 ha with e1 | ha'
  ·rcases List.mem_cons.1 hb with e2 | hb'
   ·rw [e1,e2]
   ·rw [e1] at e
    exact absurd e (h1 b hb')
  ·rcases List.mem_cons.1 hb with e2 | hb'
   ·rw [e2] at e
    exact absurd e.symm (h1 a ha')
   ·exact ih h2 a ha' b hb' e
theorem xR.nos {o:List aA} (h:xR o) (p:aA→Bool):((o.filter p).map (·.No)).Nodup:=by
 have h1:(o.filter p).Pairwise fun a b=>a.No ≠ b.No:=List.Pairwise.filter p h
 exact List.pairwise_map.2 h1
def cl (m:MI) (e:aA):Int:=gC e.No 0 m
theorem aBu {n:Int} {g:aE} {sm:aA→Int} {o:List aA} {m:MI} (ho:xR o) (hl:(sM n ((xY g sm o).map (rK sm))).length = (xY g sm o).length) :
  (xY g sm o).map (cl (mA n g sm o m)) = sM n ((xY g sm o).map (rK sm)):=by
 have:=MK ((xY g sm o).map (·.No)) (sM n ((xY g sm o).map (rK sm))) (v8 (BH g o) m) (ho.nos _) (by rw [List.length_map,hl])
 rw [List.map_map] at this
 exact this
theorem JD {n:Int} {g:aE} {sm:aA→Int} {o:List aA} {m:MI} (ho:xR o) {e:aA} (he:e ∈ o) (hg:RM g e = true) (hs:¬ 0 < sm e):cl (mA n g sm o m) e = 0:=by
 unfold cl mA
 rw [EF,HU,if_pos ⟨e,List.mem_filter.2 ⟨he,hg⟩,rfl⟩]
 intro q
 obtain ⟨x,hx,e'⟩:=List.mem_map.1 q
 obtain ⟨h1,h2⟩:=List.mem_filter.1 hx
 have:=ho.one x h1 e he e'
 subst this
 rw [Bool.and_eq_true,decide_eq_true_eq] at h2
 exact hs h2.2
theorem FV {n:Int} {g:aE} {sm:aA→Int} {o:List aA} {m:MI} (ho:xR o) {e:aA} (he:e ∈ o) (hg:RM g e = false):cl (mA n g sm o m) e = cl m e:=by
 unfold cl mA
 rw [EF,HU,if_neg]
 ·rintro ⟨x,hx,e'⟩
  obtain ⟨h1,h2⟩:=List.mem_filter.1 hx
  have:=ho.one x h1 e he e'
  subst this
  rw [hg] at h2
  cases h2
 ·intro q
  obtain ⟨x,hx,e'⟩:=List.mem_map.1 q
  obtain ⟨h1,h2⟩:=List.mem_filter.1 hx
  have:=ho.one x h1 e he e'
  subst this
  rw [hg] at h2
  cases h2
theorem MC (n:Int) (g:aE) (sm:aA→Int) (o:List aA) (m:MI) (hl:(sM n ((xY g sm o).map (rK sm))).length = (xY g sm o).length):(mA n g sm o m).length ≤ m.length + 2 * o.length:=by
 have h1:=LK ((xY g sm o).map (·.No)) (sM n ((xY g sm o).map (rK sm))) (v8 (BH g o) m)
 have h2:=D7 (BH g o) m
 have h3:(xY g sm o).length ≤ o.length:=List.length_filter_le _ _
 have h4:(BH g o).length ≤ o.length:=List.length_filter_le _ _
 unfold mA
 omega
theorem IP {step:Int × MI × List aS × List Int→Option ((Int × MI × List aS × List Int) ⊕ (MI × List aS × List Int))} (g:aE) (sm:aA→Int) (o:List aA) (hl:o.length ≤ 400) (m:MI) (hm:m.length ≤ 100000000000)
  (h:∀ (k:Nat) e m d u,o[k]? = some e→m.length < 1000000000000→d.length ≤ 400→u.length ≤ 400→step ((k:Int),m,d,u) = some (.inl (((k + 1:Nat):Int),T2 g sm (m,d,u) e)))
  (he:∀ a,step ((o.length:Int),a) = some (.inr a)) :
  eZ step (0,m,[],[]) = some (v8 (BH g o) m,(xY g sm o).map (rK sm),(xY g sm o).map (·.No)):=by
 have:=(nJ (step:=step) (fun k a=>((k:Int),a)) o (T2 g sm) (fun k a=>a.1.length ≤ m.length + k ∧ a.2.1.length ≤ k ∧ a.2.2.length ≤ k) id (fun k a x hx hI=>by
  obtain ⟨m',d,u⟩:=a
  obtain ⟨h1,h2,h3⟩:=hI
  have hk:=nH hx
  dsimp only at h1 h2 h3
  refine ⟨h k x m' d u hx (by omega) (by omega) (by omega),?_⟩
  unfold T2
  have:=B4 x.No (0:Int) m'
  split
  ·refine ⟨by show (fQ x.No 0 m').length ≤ _; omega,?_,?_⟩
   ·show (if 0 < sm x then d ++ [rK sm x] else d).length ≤ k + 1
    split
    ·rw [List.length_append,List.length_singleton]; omega
    ·omega
   ·show (if 0 < sm x then u ++ [x.No] else u).length ≤ k + 1
    split
    ·rw [List.length_append,List.length_singleton]; omega
    ·omega
  ·exact ⟨by show m'.length ≤ _; omega,by show d.length ≤ _; omega,by show u.length ≤ _; omega⟩) (fun a _=>he a) (m,[],[]) ⟨Nat.le_refl _,Nat.le_refl _,Nat.le_refl _⟩).1
 rw [LZ] at this
 simpa using this
theorem T1 {step:Int × MI→Option ((Int × MI) ⊕ MI)} (u x:List Int) (hl:x.length = u.length) (hu:u.length ≤ 400) (m:MI) (hm:m.length ≤ 100000000000)
  (h:∀ (k:Nat) i v m,u[k]? = some i→x[k]? = some v→m.length < 1000000000000→step ((k:Int),m) = some (.inl (((k + 1:Nat):Int),fQ i v m)))
  (he:∀ m,step ((x.length:Int),m) = some (.inr m)) :
  eZ step (0,m) = some (oG u x m):=by
 have key:∀ (u' x' p q:List Int) (m:MI),u = p ++ u'→x = q ++ x'→p.length = q.length→m.length ≤ 100000000000 + p.length→eZ step ((p.length:Int),m) = some (oG u' x' m):=by
  intro u'
  induction u' with
  | nil =>
   intro x' p q m e1 e2 e3 hm
   have e4:x' = []:=by
    rw [e1,e2] at hl
    simp only [List.length_append,List.length_nil] at hl
    exact List.eq_nil_of_length_eq_zero (by omega)
   subst e4
   have:(p.length:Int) = (x.length:Int):=by rw [e2,List.append_nil,e3]
   rw [this,fN (he m)]
   rfl
  | cons i u' ih =>
   intro x' p q m e1 e2 e3 hm
   cases x' with
   | nil =>
    rw [e1,e2] at hl
    simp only [List.length_append,List.length_nil,List.length_cons] at hl
    omega
   | cons v x' =>
    have hp:p.length < u.length:=by rw [e1]; simp
    rw [gJ (h p.length i v m (by rw [e1]; simp) (by rw [e2,e3]; simp) (by omega))]
    have hq:=B4 i v m
    have:=ih x' (p ++ [i]) (q ++ [v]) (fQ i v m) (by rw [e1]; simp) (by rw [e2]; simp) (by simp [e3]) (by rw [List.length_append,List.length_singleton]; omega)
    rw [List.length_append,List.length_singleton] at this
    exact this
 exact key u x [] [] m rfl rfl rfl (by simpa using hm)
end Go.Proofs.Ytiimibimkpimbaa
set_option linter.unusedVariables false
set_option linter.unusedSimpArgs false
namespace Go.Proofs.Ytiimibimkpimbaa
open Go.RowKit Vm
theorem aFo {n:Int} (h:dW n) {b:Int} (hb:b ≤ 4611686018427387904) (hw:D4 (IntKind.wrap .i64 (n - 1)) b = true):1 ≤ n ∧ n ≤ b:=by
 obtain ⟨h1,h2⟩:=EJ.1 hw
 obtain ⟨h3,h4⟩:=h
 by_cases e:n = -9223372036854775808
 ·subst e
  have:IntKind.wrap .i64 (-9223372036854775808 - 1) = 9223372036854775807:=by decide
  rw [this] at h2
  omega
 ·rw [kF (by omega) (by omega)] at h1 h2
  exact ⟨by omega,by omega⟩
structure qI (N:Nat) (o:List aA):Prop where
 len:o.length ≤ 100
 diff:xR o
 each:∀ e ∈ o,(0 ≤ e.From ∧ e.From < N) ∧ (0 ≤ e.To ∧ e.To < N) ∧ e.From ≠ e.To ∧ (1 ≤ e.Sum ∧ e.Sum ≤ 1099511627776) ∧ (0 ≤ e.No ∧ e.No < 1000) ∧ (0 ≤ e.Currency ∧ e.Currency < 8) ∧ (0 ≤ e.Due ∧ e.Due < 100001)
theorem HT {α:Type} (key:α→Int) (r:α):∀ l,(NH key r l).Perm (r :: l)
 | []=>.refl _
 | y :: l=>by
  unfold NH
  split
  ·exact .refl _
  ·exact ((HT key r l).cons y).trans (.swap r y l)
theorem C7 {α:Type} (key:α→Int):∀ l,(isK key l).Perm l
 | []=>.refl _
 | r :: l=>(HT key r (isK key l)).trans ((C7 key l).cons r)
theorem JF {α:Type} (key:α→Int) (r:α):∀ l:List α,l.Pairwise (fun a b=>key a ≤ key b)→(NH key r l).Pairwise (fun a b=>key a ≤ key b)
 | [],_=>by simp [NH]
 | y :: l,h=>by
  unfold NH
  obtain ⟨h1,h2⟩:=List.pairwise_cons.1 h
  split
  ·rename_i c
   refine List.pairwise_cons.2 ⟨fun z hz=>?_,h⟩
   rcases List.mem_cons.1 hz with rfl | hz
   ·omega
   ·have:=h1 z hz; omega
  ·rename_i c
   refine List.pairwise_cons.2 ⟨fun z hz=>?_,JF key r l h2⟩
   rcases List.mem_cons.1 ((HT key r l).mem_iff.1 hz) with rfl | hz
   ·omega
   ·exact h1 z hz
theorem MM {α:Type} (key:α→Int):∀ l:List α,(isK key l).Pairwise (fun a b=>key a ≤ key b)
 | []=>.nil
 | r :: l=>JF key r _ (MM key l)
theorem O1 {n r c:Int} {l:List aA} {x:aA}:x ∈ eA n r c l ↔ x ∈ sH n r c l ∧ yY c (sH n r c l) (uF n r c l) x = true:=by
 unfold eA
 rw [(C7 _ _).mem_iff,EI]
theorem SS (n r c:Int) (l:List aA):(eA n r c l).Pairwise fun a b=>a.No < b.No:=by
 have h1:(eA n r c l).Pairwise fun a b=>a.No ≤ b.No:=MM (fun (x:aA)=>x.No) _
 have h2:(eA n r c l).Pairwise fun a b=>a ≠ b:=((C7 _ _).nodup_iff).2 (I0 _ _ _)
 have hm:∀ a ∈ eA n r c l,a ∈ vW c (sH n r c l) (uF n r c l):=fun a ha=>(C7 _ _).mem_iff.1 ha
 refine (h1.and h2).imp_of_mem fun {a b} ha hb h=>?_
 have:a.No ≠ b.No:=fun e=>h.2 (PR (hm a ha) (hm b hb) e)
 omega
theorem XJ (n r c:Int) (l:List aA):xR (eA n r c l):=(SS n r c l).imp fun h=>by omega
theorem GM {n r c:Int} {N:Nat} (hN:n = N) {l:List aA} (hw:∀ e ∈ l,dW e.Sum) (h:(eA n r c l).length ≤ 100):qI N (eA n r c l):=by
 refine ⟨h,XJ n r c l,fun e he=>?_⟩
 obtain ⟨h1,h2⟩:=O1.1 he
 obtain ⟨h3,h4,_⟩:=PB h1
 unfold yY at h2
 simp only [Bool.and_eq_true,beq_iff_eq] at h2
 have hk:e.Kind = 0:=h2.1.1.1.1.1
 have hno:=aFw h4
 unfold NV YP at h4
 rw [if_pos hk] at h4
 simp only [Bool.and_eq_true,EJ,bne_iff_ne] at h4
 obtain ⟨⟨⟨⟨_,_⟩,⟨⟨⟨⟨⟨q1,q2⟩,q3⟩,q4⟩,q5⟩,q6⟩⟩,_⟩,_⟩:=h4
 subst hN
 exact ⟨q1,q2,q3,aFo (hw e h3) (by omega) (EJ.2 q6),hno,q4,q5⟩
theorem KK {g:aE} {o:List aA} {e:aA}:e ∈ BH g o ↔ e ∈ o ∧ RM g e = true:=List.mem_filter
theorem F9 {g:aE} {sm:aA→Int} {o:List aA} {e:aA}:e ∈ xY g sm o ↔ e ∈ o ∧ RM g e = true ∧ 0 < sm e:=by
 unfold xY
 rw [List.mem_filter,Bool.and_eq_true,decide_eq_true_eq]
theorem HY {N:Nat} {o:List aA} (ho:qI N o) (hN:N ≤ 40) {sm:aA→Int} (hs:∀ e ∈ o,sm e ≤ e.Sum) (g:aE):FR N ((xY g sm o).map (rK sm)):=by
 refine ⟨hN,?_,fun i hi=>?_⟩
 ·rw [List.length_map]
  exact Nat.le_trans (List.length_filter_le _ _) ho.len
 ·have hm:=H4 _ i hi
  obtain ⟨e,he,h1⟩:=List.mem_map.1 hm
  obtain ⟨h2,_,h3⟩:=F9.1 he
  obtain ⟨q1,q2,q3,q4,_⟩:=ho.each e h2
  have:=hs e h2
  rw [← h1]
  exact ⟨q1,q2,q3,by show 1 ≤ sm e; omega,by show sm e ≤ _; omega⟩
theorem JJ {N:Nat} {d:List aS} (h:FR N d):∃ q,i0 N d = some (sM N d,q,0) ∧ UI N d (sM N d) q:=by
 have hR:=aG6 N d
 rw [WR.2 ⟨N,rfl,h⟩] at hR
 obtain ⟨x,q,h1,h2⟩:=aJx h hR
 have:sM N d = x:=by unfold sM; rw [h1]
 rw [this]
 exact ⟨q,h1,h2⟩
theorem QD {N:Nat} {d:List aS} (h:FR N d):(sM N d).length = d.length:=by
 obtain ⟨q,_,h2⟩:=JJ h
 exact h2.len
theorem KG {α β:Type} [Inhabited α] [Inhabited β] (f:α→β) {l:List α} {i:Nat} (h:i < l.length):el (l.map f) i = f (el l i):=jK f l i h
theorem UX {N:Nat} {L:List aA} {sm c:aA→Int} (h:FR N (L.map (rK sm))) (hx:L.map c = sM N (L.map (rK sm))):∀ e ∈ L,0 ≤ c e ∧ c e ≤ sm e:=by
 intro e he
 obtain ⟨q,_,hb⟩:=JJ h
 obtain ⟨i,hi,rfl⟩:=X8 he
 have h1:=hb.bald.lo i (by rw [List.length_map]; exact hi)
 have h2:=hb.bald.hi i (by rw [List.length_map]; exact hi)
 rw [← hx,KG c hi] at h1 h2
 unfold rQ at h2
 rw [KG (rK sm) hi] at h2
 exact ⟨h1,h2⟩
def NM (o:List aA) (m:MI):Prop:=∀ e ∈ o,0 ≤ cl m e ∧ cl m e ≤ e.Sum
section
variable {N:Nat} {o:List aA} (ho:qI N o) (hN:N ≤ 40)
include ho hN
theorem I1 {sm:aA→Int} (hs:∀ e ∈ o,sm e ≤ e.Sum) (g:aE) (m:MI):(sM N ((xY g sm o).map (rK sm))).length = (xY g sm o).length:=by
 rw [QD (HY ho hN hs g),List.length_map]
theorem IG {sm:aA→Int} (hs:∀ e ∈ o,sm e ≤ e.Sum) (g:aE) (m:MI):(xY g sm o).map (cl (mA N g sm o m)) = sM N ((xY g sm o).map (rK sm)) :=
 aBu ho.diff (I1 ho hN hs g m)
theorem aAz {sm:aA→Int} (hs:∀ e ∈ o,sm e ≤ e.Sum) (g:aE) {m:MI} (hm:∀ e ∈ o,RM g e = false→0 ≤ cl m e ∧ cl m e ≤ e.Sum):NM o (mA N g sm o m):=by
 intro e he
 by_cases hg:RM g e = true
 ·by_cases hp:0 < sm e
  ·have:=UX (HY ho hN hs g) (IG ho hN hs g m) e (F9.2 ⟨he,hg,hp⟩)
   have:=hs e he
   omega
  ·rw [JD ho.diff he hg hp]
   have:=(ho.each e he).2.2.2.1
   omega
 ·rw [Bool.not_eq_true] at hg
  rw [FV ho.diff he hg]
  exact hm e he hg
end
theorem aBH {g:aE} {sm sm' : aA→Int} {o:List aA} (h:∀ e ∈ o,sm e = sm' e):xY g sm o = xY g sm' o ∧ (xY g sm o).map (rK sm) = (xY g sm o).map (rK sm'):=by
 refine ⟨List.filter_congr fun e he=>by rw [h e he],List.map_congr_left fun e he=>?_⟩
 unfold rK
 rw [h e (F9.1 he).1]
noncomputable def vX (n:Int) (o:List aA) (a:MI × MB) (e:aA):MI × MB :=
 if gC (fG e.Currency e.Due) false a.2 = true then a else (mA n (u4 e) (fun x=>x.Sum) o a.1,fQ (fG e.Currency e.Due) true a.2)
noncomputable def pO (n:Int) (o:List aA):MI:=(o.foldl (vX n o) ([],[])).1
theorem aCW {N:Nat} {o:List aA} (ho:qI N o) {a b:aA} (ha:a ∈ o) (hb:b ∈ o) (h:fG a.Currency a.Due = fG b.Currency b.Due):u4 a = u4 b:=by
 obtain ⟨_,_,_,_,_,a1,a2⟩:=ho.each a ha
 obtain ⟨_,_,_,_,_,b1,b2⟩:=ho.each b hb
 unfold fG at h
 unfold u4
 rw [aE.mk.injEq]
 omega
theorem ZQ {N:Nat} {o:List aA} (ho:qI N o) (g:aE):xY g (fun x=>x.Sum) o = BH g o:=by
 unfold xY BH
 refine List.filter_congr fun e he=>?_
 have:=(ho.each e he).2.2.2.1
 rw [decide_eq_true (show 0 < e.Sum by omega),Bool.and_true]
structure FH (N:Nat) (o p:List aA) (a:MI × MB):Prop where
 seen:∀ e ∈ o,gC (fG e.Currency e.Due) false a.2 = true ↔ ∃ x ∈ p,u4 x = u4 e
 best:∀ e ∈ p,(BH (u4 e) o).map (cl a.1) = sM N ((BH (u4 e) o).map (rK fun x=>x.Sum))
 len1:a.1.length ≤ 200 * p.length
 len2:a.2.length ≤ p.length
theorem FH.step {N:Nat} {o:List aA} (ho:qI N o) (hN:N ≤ 40) {p:List aA} {a:MI × MB} (h:FH N o p a) (hp:∀ x ∈ p,x ∈ o) {e:aA} (he:e ∈ o):FH N o (p ++ [e]) (vX N o a e):=by
 unfold vX
 by_cases c:gC (fG e.Currency e.Due) false a.2 = true
 ·rw [if_pos c]
  obtain ⟨x,hx,ex⟩:=(h.seen e he).1 c
  refine ⟨fun y hy=>?_,fun y hy=>?_,by rw [List.length_append]; have:=h.len1; omega,by rw [List.length_append]; have:=h.len2; omega⟩
  ·rw [h.seen y hy]
   constructor
   ·rintro ⟨z,hz,q⟩
    exact ⟨z,List.mem_append_left _ hz,q⟩
   ·rintro ⟨z,hz,q⟩
    rcases List.mem_append.1 hz with hz | hz
    ·exact ⟨z,hz,q⟩
    ·rw [List.mem_singleton.1 hz] at q
     exact ⟨x,hx,ex.trans q⟩
  ·rcases List.mem_append.1 hy with hy | hy
   ·exact h.best y hy
   ·rw [List.mem_singleton.1 hy,← ex]
    exact h.best x hx
 ·rw [if_neg c]
  have hs:∀ x ∈ o,(fun x:aA=>x.Sum) x ≤ x.Sum:=fun x _=>Int.le_refl _
  have hl:=I1 ho hN hs (u4 e) a.1
  refine ⟨fun y hy=>?_,fun y hy=>?_,?_,?_⟩
  ·show gC (fG y.Currency y.Due) false (fQ (fG e.Currency e.Due) true a.2) = true ↔ _
   rw [GG]
   by_cases q:fG y.Currency y.Due = fG e.Currency e.Due
   ·rw [if_pos q]
    exact ⟨fun _=>⟨e,List.mem_append_right _ (List.mem_singleton.2 rfl),(aCW ho hy he q).symm⟩,fun _=>rfl⟩
   ·rw [if_neg q,h.seen y hy]
    constructor
    ·rintro ⟨z,hz,q⟩
     exact ⟨z,List.mem_append_left _ hz,q⟩
    ·rintro ⟨z,hz,q'⟩
     rcases List.mem_append.1 hz with hz | hz
     ·exact ⟨z,hz,q'⟩
     ·rw [List.mem_singleton.1 hz] at q'
      unfold u4 at q'
      rw [aE.mk.injEq] at q'
      exact absurd (by rw [q'.1,q'.2]) q
  ·show (BH (u4 y) o).map (cl (mA N (u4 e) (fun x=>x.Sum) o a.1)) = _
   by_cases q:u4 y = u4 e
   ·rw [q]
    have:=IG ho hN hs (u4 e) a.1
    rw [ZQ ho] at this
    exact this
   ·have hy' : y ∈ p:=by
     rcases List.mem_append.1 hy with hy | hy
     ·exact hy
     ·exact absurd (by rw [List.mem_singleton.1 hy]) q
    rw [← h.best y hy']
    refine List.map_congr_left fun z hz=>?_
    obtain ⟨z1,z2⟩:=KK.1 hz
    refine FV ho.diff z1 ?_
    rw [Bool.eq_false_iff]
    intro q2
    exact q ((GN.1 z2).symm.trans (GN.1 q2))
  ·have h1:=MC N (u4 e) (fun x=>x.Sum) o a.1 hl
   have h2:=h.len1
   have h3:=ho.len
   rw [List.length_append,List.length_singleton]
   show (mA N (u4 e) (fun x=>x.Sum) o a.1).length ≤ _
   omega
  ·have h1:=B4 (fG e.Currency e.Due) true a.2
   have h2:=h.len2
   rw [List.length_append,List.length_singleton]
   show (fQ (fG e.Currency e.Due) true a.2).length ≤ _
   omega
theorem O9 {N:Nat} {o:List aA} (ho:qI N o) (hN:N ≤ 40):FH N o o (o.foldl (vX N o) ([],[])):=by
 have key:∀ (r p:List aA) (a:MI × MB),o = p ++ r→FH N o p a→FH N o o (r.foldl (vX N o) a):=by
  intro r
  induction r with
  | nil =>
   intro p a e h
   rw [List.append_nil] at e
   rw [← e] at h
   exact h
  | cons x r ih =>
   intro p a e h
   rw [List.foldl_cons]
   exact ih (p ++ [x]) _ (by rw [e]; simp) (h.step ho hN (fun y hy=>by rw [e]; exact List.mem_append_left _ hy) (by rw [e]; simp))
 exact key o [] _ rfl ⟨fun e he=>(by simp [gC]),fun e he=>(by cases he),(by simp),(by simp)⟩
theorem KU {N:Nat} {o:List aA} (ho:qI N o) (hN:N ≤ 40) {e:aA} (he:e ∈ o):(BH (u4 e) o).map (cl (pO N o)) = sM N ((BH (u4 e) o).map (rK fun x=>x.Sum)):=(O9 ho hN).best e he
theorem aEE {N:Nat} {o:List aA} (ho:qI N o) (hN:N ≤ 40) (g:aE):FR N ((BH g o).map (rK fun x=>x.Sum)):=by
 rw [← ZQ ho g]
 exact HY ho hN (fun x _=>Int.le_refl _) g
theorem aFj {N:Nat} {o:List aA} (ho:qI N o) (hN:N ≤ 40):NM o (pO N o):=fun e he =>
 UX (aEE ho hN (u4 e)) (KU ho hN he) e (KK.2 ⟨he,GN.2 rfl⟩)
theorem Z0 {N:Nat} {o:List aA} (ho:qI N o) (hN:N ≤ 40):(pO N o).length ≤ 20000:=by
 have h1:=(O9 ho hN).len1
 have h2:=ho.len
 unfold pO
 omega
def wK (o:List aA) (m:MI):List aC:=(o.filter fun e=>decide (0 < cl m e)).map fun e=>⟨4,e.Room,e.No,cl m e⟩
def yF (no:Int) (o:List aA):aE:=o.foldl (fun g e=>if e.No = no then u4 e else g) ⟨0,0⟩
def M3 (no:Int) (m:MI) (e:aA):Int:=if e.No = no then 0 else cl m e
noncomputable def X6 (n:Int) (o:List aA) (m:MI) (no:Int):MI:=mA n (yF no o) (M3 no m) o m
def yU (o:List aA) (m m' : MI):List aC:=(o.filter fun e=>decide (0 < cl m e - cl m' e)).map fun e=>⟨5,e.Room,e.No,cl m e - cl m' e⟩
theorem VG {o:List aA} {m:MI} (h:NM o m) {N:Nat} (ho:qI N o) (no:Int):∀ e ∈ o,M3 no m e ≤ e.Sum:=fun e he=>by
 unfold M3
 have:=(ho.each e he).2.2.2.1
 have:=h e he
 split <;> omega
theorem aIP {N:Nat} {o:List aA} (ho:qI N o) (hN:N ≤ 40) {m:MI} (h:NM o m) (no:Int):NM o (X6 N o m no):=aAz ho hN (VG h ho no) _ fun e he _=>h e he
abbrev StF:=Option (List aA × MI)
noncomputable def gS (n r c:Int) (pre:List aA) (st:StF) (e:aA):StF × List aC × Int :=
 if NV n r e = false then (st,[],1) else match st with
 | none=>if e.Kind = 4 then (if e.Day < c then (none,[],13) else if 100 < (eA n r c pre).length then (none,[],6) else (some (eA n r c pre,pO n (eA n r c pre)),wK (eA n r c pre) (pO n (eA n r c pre)),0))
  else if e.Kind = 5 then (none,[],7) else if c < e.Day then (none,[],16) else (none,[],0)
 | some (o,m)=>if e.Kind = 4 then (st,[],7) else if e.Kind = 5 then (if gC e.No 0 m = 0 then (st,[],4) else (some (o,X6 n o m e.No),yU o m (X6 n o m e.No),0)) else (st,[],16)
abbrev TS:=List aA × StF × List aC × List Int
noncomputable def JX (n r c:Int) (a:TS) (e:aA):TS :=
 (a.1 ++ [e],(gS n r c a.1 a.2.1 e).1,a.2.2.1 ++ (gS n r c a.1 a.2.1 e).2.1,a.2.2.2 ++ [(gS n r c a.1 a.2.1 e).2.2])
noncomputable def cQ (n r c:Int) (l:List aA):TS:=l.foldl (JX n r c) ([],none,[],[])
theorem kO (n r c:Int) (l:List aA) (e:aA):cQ n r c (l ++ [e]) = JX n r c (cQ n r c l) e:=by
 unfold cQ
 rw [List.foldl_append]
 rfl
theorem OL (n r c:Int):∀ (l:List aA) (a:TS),(l.foldl (JX n r c) a).1 = a.1 ++ l
 | [],a=>by simp
 | e :: l,a=>by
  rw [List.foldl_cons,OL n r c l]
  show a.1 ++ [e] ++ l = _
  simp
theorem AZ (n r c:Int) (l:List aA):(cQ n r c l).1 = l:=by
 have:=OL n r c l ([],none,[],[])
 simpa [cQ] using this
def GQ (N:Nat):StF→Prop
 | none=>True
 | some (o,m)=>qI N o ∧ NM o m
theorem OZ {n r c:Int} {N:Nat} (hn:n = N) (hN:N ≤ 40) {pre:List aA} (hw:∀ e ∈ pre,dW e.Sum) {st:StF} (h:GQ N st) (e:aA):GQ N (gS n r c pre st e).1:=by
 subst hn
 unfold gS
 split
 ·exact h
 ·cases st with
  | none =>
   dsimp only
   split
   ·split
    ·trivial
    ·split
     ·trivial
     ·have ho:=GM (r:=r) (c:=c) rfl hw (show (eA (N:Int) r c pre).length ≤ 100 by omega)
      exact ⟨ho,aFj ho hN⟩
   ·split
    ·trivial
    ·split <;> trivial
  | some s =>
   obtain ⟨o,m⟩:=s
   dsimp only
   split
   ·exact h
   ·split
    ·split
     ·exact h
     ·exact ⟨h.1,aIP h.1 hN h.2 _⟩
    ·exact h
theorem SW {n r c:Int} {N:Nat} (hn:n = N) (hN:N ≤ 40):∀ (l:List aA) (a:TS),(∀ e ∈ a.1,dW e.Sum)→(∀ e ∈ l,dW e.Sum)→GQ N a.2.1→GQ N (l.foldl (JX n r c) a).2.1
 | [],a,_,_,h=>h
 | e :: l,a,h1,h2,h=>by
  rw [List.foldl_cons]
  refine SW hn hN l _ (fun x hx=>?_) (fun x hx=>h2 x (List.mem_cons_of_mem _ hx)) (OZ hn hN h1 h e)
  rcases List.mem_append.1 hx with hx | hx
  ·exact h1 x hx
  ·rw [List.mem_singleton.1 hx]
   exact h2 e List.mem_cons_self
end Go.Proofs.Ytiimibimkpimbaa
