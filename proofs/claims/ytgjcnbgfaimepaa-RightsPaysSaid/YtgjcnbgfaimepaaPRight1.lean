/- Law 43: what the parts of rights compute: Check, right, free, best, Clear. -/
import Derived.Test.YtgjcnbgfaimepaaPCb
set_option linter.unusedVariables false
set_option linter.unusedSimpArgs false
namespace Go.Proofs.Ytgjcnbgfaimepaa
open Go.RowKit Vm
theorem aNT {n:Nat} {dues:List aI} (h:LR n dues):∃ x q,kW n dues = some (x,q,0) ∧ UU n dues x q:=by
 have hR:=aD4 n dues
 rw [R0.2 ⟨n,rfl,h⟩] at hR
 exact aQV h hR
theorem aIc (x n:Int):nM x n = some (decide (0 <= x ∧ x < n)):=by
 unfold nM
 by_cases h:0 <= x
 ·rw [if_pos (by simpa using h)]
  simp [h]
 ·rw [if_neg (by simpa using h)]
  simp [h]
theorem XG (p:Nat->Bool) (n:Nat):Sum.elim (fun _=>some (-1:Int)) (fun z=>some z) (toS () (s0 (fun i=>if p i = true then some (i:Int) else none) 0 n)) = some (((s0 (fun i=>if p i = true then some (i:Int) else none) 0 n)).getD (-1)):=by
 cases s0 (fun i=>if p i = true then some (i:Int) else none) 0 n <;> rfl
theorem T3 (p:Nat->Bool) (n:Nat):decide (((s0 (fun i=>if p i = true then some (i:Int) else none) 0 n)).getD (-1) ≥ 0) = !(AB (fun i=>!(p i)) n):=by
 cases e:s0 (fun i=>if p i = true then some (i:Int) else none) 0 n with
 | none =>
  have h:=(CX n 0).1 e
  have:AB (fun i=>!(p i)) n = true:=nE.2 fun i hi=>by
   have:=h i (Nat.zero_le _) (by omega)
   cases hp:p i with
   | false=>rfl
   | true=>simp [hp] at this
  rw [this]; rfl
 | some x =>
  obtain ⟨i,_,hi,h1,_⟩:=O6 n 0 e
  have hp:p i = true:=by
   cases hp:p i with
   | true=>rfl
   | false=>simp [hp] at h1
  rw [hp] at h1
  simp at h1
  have:AB (fun i=>!(p i)) n = false:=by
   cases h:AB (fun i=>!(p i)) n with
   | false=>rfl
   | true =>
    have:=nE.1 h i (by omega)
    rw [hp] at this; cases this
  rw [this,← h1]
  simp
theorem aAn (a:List Int) (v:Int):a.contains v = !(AB (fun i=>!(decide (v = el a i))) a.length):=by
 by_cases h:v ∈ a
 ·obtain ⟨i,hi,e⟩:=aBF h
  have:AB (fun i=>!(decide (v = el a i))) a.length = false:=by
   cases h2:AB (fun i=>!(decide (v = el a i))) a.length with
   | false=>rfl
   | true =>
    have:=nE.1 h2 i hi
    rw [e] at this; simp at this
  rw [this]
  simpa using h
 ·have:AB (fun i=>!(decide (v = el a i))) a.length = true:=nE.2 fun i hi=>by
   have:=F3 a i hi
   simp
   intro e
   exact h (e ▸ this)
  rw [this]
  simpa using h
theorem aPg (a:List Int) (v:Int) (hl:a.length < 4611686018427387904):gK a v = some ((s0 (fun i=>if decide (v = el a i) = true then some (i:Int) else none) 0 a.length).getD (-1)):=by
 unfold gK jU
 have key:=KG (step:=fun w=>bZ a v w) (fun i:Nat=>(i:Int)) a.length (fun i=>if decide (v = el a i) = true then some (i:Int) else none) () ?_ ?_
 ·refine (congrArg (fun o=>Option.bind o _) key).trans ?_
  exact XG _ _
 ·intro i hi
  show bZ a v i = _
  unfold bZ
  have w3:IntKind.wrap .i64 ((i:Int) + 1) = ((i + 1:Nat):Int):=cD (by omega)
  rw [if_pos (by simpa using hi),dU a i hi,Option.bind_some,w3]
  by_cases e:v = el a i
  ·rw [if_pos (by simpa using e)]; simp [e]
  ·rw [if_neg (by simpa using e)]; simp [e]
 ·show bZ a v a.length = _
  unfold bZ
  rw [if_neg (by simp)]
theorem aAG (a:List Int) (v:Int) (hl:a.length < 4611686018427387904):cZ a v = some (a.contains v):=by
 unfold cZ
 rw [aPg a v hl,Option.bind_some,T3,aAn]
def yG (asked:List Int) (d:aE):Bool:=d.Rights.all fun r=>asked.contains r.Owner
theorem aBR {α:Type} [Inhabited α] (p:α->Bool) (l:List α):l.all p = AB (fun i=>p (el l i)) l.length:=by
 rw [Bool.eq_iff_iff,List.all_eq_true,nE]
 constructor
 ·exact fun h i hi=>h _ (F3 l i hi)
 ·intro h x hx
  obtain ⟨i,hi,rfl⟩:=aBF hx
  exact h i hi
theorem aQP (d:aE) (asked:List Int) (hl:asked.length < 4611686018427387904) (hr:d.Rights.length < 4611686018427387904):qN d asked = some (yG asked d):=by
 unfold qN bX cC cR
 have key:=KG (step:=fun w=>aT d.Rights asked w) (fun i:Nat=>(i:Int)) d.Rights.length (fun i=>if (!(asked.contains (el d.Rights i).Owner)) = true then some (i:Int) else none) () ?_ ?_
 ·refine (congrArg (fun o=>Option.bind (Option.bind (Option.bind o _) _) _) key).trans ?_
  rw [Option.bind_some,XG (fun i=>!(asked.contains (el d.Rights i).Owner)),Option.bind_some,Option.bind_some,T3 (fun i=>!(asked.contains (el d.Rights i).Owner))]
  unfold yG
  rw [aBR]
  simp
 ·intro i hi
  show aT d.Rights asked i = _
  unfold aT nG
  have w3:IntKind.wrap .i64 ((i:Int) + 1) = ((i + 1:Nat):Int):=cD (by omega)
  rw [if_pos (by simpa using hi),dU d.Rights i hi,Option.bind_some,aAG _ _ hl,Option.bind_some,Option.bind_some,w3]
  cases asked.contains (el d.Rights i).Owner <;> rfl
 ·show aT d.Rights asked d.Rights.length = _
  unfold aT
  rw [if_neg (by simp)]
def QP (a:List Int):Bool:=AB (fun i=>decide ((if i = 0 then -1 else el a (i - 1)) < el a i ∧ el a i < 200)) a.length
theorem XN (a:List Int) (hl:a.length < 4611686018427387904):nQ a = some (QP a):=by
 unfold nQ sK
 have key:=zT? (step:=fun (w:Int × Int)=>eU a w.1 w.2) (fun i:Nat=>((if i = 0 then -1 else el a (i - 1)),(i:Int))) a.length (fun i=>decide ((if i = 0 then -1 else el a (i - 1)) < el a i ∧ el a i < 200)) () ?_ ?_
 ·refine (congrArg (fun o=>Option.bind o _) key).trans ?_
  rw [Option.bind_some]
  unfold QP
  cases AB (fun i=>decide ((if i = 0 then -1 else el a (i - 1)) < el a i ∧ el a i < 200)) a.length <;> rfl
 ·intro i hi
  show eU a (if i = 0 then -1 else el a (i - 1)) i = _
  unfold eU
  have w3:IntKind.wrap .i64 ((i:Int) + 1) = ((i + 1:Nat):Int):=cD (by omega)
  rw [if_pos (by simpa using hi),dU a i hi,Option.bind_some,w3]
  generalize (if i = 0 then -1 else el a (i - 1)) = p
  by_cases h1:el a i <= p
  ·have c:¬ (p < el a i ∧ el a i < 200):=by omega
   rw [if_pos (by simpa using h1),if_neg (by simpa using c)]
  ·rw [if_neg (by simpa using h1)]
   by_cases h2:el a i ≥ 200
   ·have c:¬ (p < el a i ∧ el a i < 200):=by omega
    rw [if_pos (by simpa using h2),if_neg (by simpa using c)]
   ·have c:p < el a i ∧ el a i < 200:=by omega
    rw [if_neg (by simpa using h2),if_pos (by simpa using c)]
    rfl
 ·show eU a _ a.length = _
  unfold eU
  rw [if_neg (by simp)]
def kH (d:aE):aI:=⟨d.From,d.To,d.Sum⟩
theorem aP4 (d:aE):vR d = some (kH d):=rfl
def rOk (r:aK):Bool:=decide (0 <= r.Kind ∧ r.Kind < 4) && decide (0 <= r.Owner ∧ r.Owner < 200)
def RW (d:aE):Bool:=decide (0 <= d.File ∧ d.File < 50) && decide (0 <= d.Part ∧ d.Part < 4) && decide (0 <= d.Sign ∧ d.Sign < 40) && decide (d.Rights.length <= 8) && d.Rights.all rOk
def EX (n:Int) (l:List aE):Bool:=l.all RW && N3 n (l.map kH)
theorem aSr (n:Int) (l:List aE) (p1:Int) (p2:List aI) (r4:aI) (d:aE) (hr:d.Rights.length <= 8):oT n l p1 p2 r4 d 0 = some (if d.Rights.all rOk = true then .inl () else .inr ()):=by
 unfold oT
 rw [aBR]
 refine zT? (step:=fun w=>eO n l p1 p2 r4 d w) (fun i:Nat=>(i:Int)) d.Rights.length (fun i=>rOk (el d.Rights i)) () ?_ ?_
 ·intro i hi
  show eO n l p1 p2 r4 d i = _
  unfold eO
  have w3:IntKind.wrap .i64 ((i:Int) + 1) = ((i + 1:Nat):Int):=cD (by omega)
  rw [if_pos (by simpa using hi),dU d.Rights i hi,Option.bind_some,aIc,Option.bind_some,aIc,Option.bind_some,w3]
  unfold rOk
  cases decide (0 <= (el d.Rights i).Kind ∧ (el d.Rights i).Kind < 4) <;> cases decide (0 <= (el d.Rights i).Owner ∧ (el d.Rights i).Owner < 200) <;> rfl
 ·show eO n l p1 p2 r4 d d.Rights.length = _
  unfold eO
  rw [if_neg (by simp)]
theorem J9 {α β:Type} [Inhabited α] (f:α->β) (l:List α) (k:Nat) (h:k < l.length):(l.take (k + 1)).map f = (l.take k).map f ++ [f (el l k)]:=by
 rw [List.take_succ_eq_append_getElem h,List.map_append,O9 l k h]
 rfl
theorem aH6 (n:Int) (l:List aE) (hl:l.length * 24 <= 140737488351232):oK n l 0 [] = some (if l.all RW = true then .inl (l.map kH) else .inr ()):=by
 unfold oK
 have key:=zT? (step:=fun (w:Int × List aI)=>eN n l w.1 w.2) (fun i:Nat=>((i:Int),(l.take i).map kH)) l.length (fun i=>RW (el l i)) (l.map kH) ?_ ?_
 ·rw [aBR]
  exact key
 ·intro i hi
  show eN n l i ((l.take i).map kH) = _
  unfold eN
  have w3:IntKind.wrap .i64 ((i:Int) + 1) = ((i + 1:Nat):Int):=cD (by omega)
  rw [if_pos (by simpa using hi),dU l i hi,Option.bind_some,aP4,Option.bind_some,if_pos (by simp; omega),aIc,Option.bind_some,aIc,Option.bind_some,aIc,Option.bind_some,w3]
  rw [J9 kH l i hi]
  generalize el l i = d
  unfold RW
  by_cases h8:d.Rights.length <= 8
  ·have c:¬ decide ((d.Rights.length:Int) > 8) = true:=by simp; omega
   rw [if_neg c,aSr _ _ _ _ _ _ h8,decide_eq_true h8]
   cases decide (0 <= d.File ∧ d.File < 50) <;> cases decide (0 <= d.Part ∧ d.Part < 4) <;> cases decide (0 <= d.Sign ∧ d.Sign < 40) <;> cases d.Rights.all rOk <;> rfl
  ·have c:decide ((d.Rights.length:Int) > 8) = true:=by simp; omega
   rw [if_pos c,decide_eq_false h8]
   cases decide (0 <= d.File ∧ d.File < 50) <;> cases decide (0 <= d.Part ∧ d.Part < 4) <;> cases decide (0 <= d.Sign ∧ d.Sign < 40) <;> rfl
 ·show eN n l l.length ((l.take l.length).map kH) = _
  unfold eN
  rw [if_neg (by simp),List.take_length]
theorem aEd (n:Int) (l:List aE) (hl:l.length * 24 <= 140737488351232):jV n l = some (if EX n l = true then 0 else 1):=by
 unfold jV EX
 rw [aH6 n l hl,Option.bind_some]
 cases l.all RW with
 | false=>rfl
 | true =>
  simp only [if_true,Sum.elim_inl,Bool.true_and]
  rw [aD4,Option.bind_some]
  cases N3 n (l.map kH) <;> rfl
end Go.Proofs.Ytgjcnbgfaimepaa
