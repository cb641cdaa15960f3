/- Law 43: what the parts of rights compute: Check, right, free, best, Clear. -/
import Derived.Test.YtgjcnbgfaimepaaPCb
set_option linter.unusedVariables false
set_option linter.unusedSimpArgs false
namespace Go.Proofs.Ytgjcnbgfaimepaa
open Go.RowKit Vm
theorem aC4 {n:Nat} {dues:List aF} (h:IW n dues):∃ x q,iT n dues = some (x,q,0) ∧ ST n dues x q:=by
 have hR:=aCX n dues
 rw [QV.2 ⟨n,rfl,h⟩] at hR
 exact aQc h hR
theorem aIW (x n:Int):mZ x n = some (decide (0 <= x ∧ x < n)):=by
 unfold mZ
 by_cases h:0 <= x
 ·rw [if_pos (by simpa using h)]
  simp [h]
 ·rw [if_neg (by simpa using h)]
  simp [h]
theorem YB (p:Nat->Bool) (n:Nat):Sum.elim (fun _=>some (-1:Int)) (fun z=>some z) (toS () (sH (fun i=>if p i = true then some (i:Int) else none) 0 n)) = some (((sH (fun i=>if p i = true then some (i:Int) else none) 0 n)).getD (-1)):=by
 cases sH (fun i=>if p i = true then some (i:Int) else none) 0 n <;> rfl
theorem SR (p:Nat->Bool) (n:Nat):decide (((sH (fun i=>if p i = true then some (i:Int) else none) 0 n)).getD (-1) ≥ 0) = !(yK (fun i=>!(p i)) n):=by
 cases e:sH (fun i=>if p i = true then some (i:Int) else none) 0 n with
 | none =>
  have h:=(BI n 0).1 e
  have:yK (fun i=>!(p i)) n = true:=kG.2 fun i hi=>by
   have:=h i (Nat.zero_le _) (by omega)
   cases hp:p i with
   | false=>rfl
   | true=>simp [hp] at this
  rw [this]; rfl
 | some x =>
  obtain ⟨i,_,hi,h1,_⟩:=M4 n 0 e
  have hp:p i = true:=by
   cases hp:p i with
   | true=>rfl
   | false=>simp [hp] at h1
  rw [hp] at h1
  simp at h1
  have:yK (fun i=>!(p i)) n = false:=by
   cases h:yK (fun i=>!(p i)) n with
   | false=>rfl
   | true =>
    have:=kG.1 h i (by omega)
    rw [hp] at this; cases this
  rw [this,← h1]
  simp
theorem ZE (a:List Int) (v:Int):a.contains v = !(yK (fun i=>!(decide (v = el a i))) a.length):=by
 by_cases h:v ∈ a
 ·obtain ⟨i,hi,e⟩:=ZX h
  have:yK (fun i=>!(decide (v = el a i))) a.length = false:=by
   cases h2:yK (fun i=>!(decide (v = el a i))) a.length with
   | false=>rfl
   | true =>
    have:=kG.1 h2 i hi
    rw [e] at this; simp at this
  rw [this]
  simpa using h
 ·have:yK (fun i=>!(decide (v = el a i))) a.length = true:=kG.2 fun i hi=>by
   have:=EH a i hi
   simp
   intro e
   exact h (e ▸ this)
  rw [this]
  simpa using h
theorem aOu (a:List Int) (v:Int) (hl:a.length < 4611686018427387904):fZ a v = some ((sH (fun i=>if decide (v = el a i) = true then some (i:Int) else none) 0 a.length).getD (-1)):=by
 unfold fZ jH
 have key:=I5 (step:=fun w=>bO a v w) (fun i:Nat=>(i:Int)) a.length (fun i=>if decide (v = el a i) = true then some (i:Int) else none) () ?_ ?_
 ·refine (congrArg (fun o=>Option.bind o _) key).trans ?_
  exact YB _ _
 ·intro i hi
  show bO a v i = _
  unfold bO
  have w3:IntKind.wrap .i64 ((i:Int) + 1) = ((i + 1:Nat):Int):=cD (by omega)
  rw [if_pos (by simpa using hi),eO a i hi,Option.bind_some,w3]
  by_cases e:v = el a i
  ·rw [if_pos (by simpa using e)]; simp [e]
  ·rw [if_neg (by simpa using e)]; simp [e]
 ·show bO a v a.length = _
  unfold bO
  rw [if_neg (by simp)]
theorem aAS (a:List Int) (v:Int) (hl:a.length < 4611686018427387904):cP a v = some (a.contains v):=by
 unfold cP
 rw [aOu a v hl,Option.bind_some,SR,ZE]
def jD (asked:List Int) (d:aE):Bool:=d.Rights.all fun r=>asked.contains r.Owner
theorem aCf {α:Type} [Inhabited α] (p:α->Bool) (l:List α):l.all p = yK (fun i=>p (el l i)) l.length:=by
 rw [Bool.eq_iff_iff,List.all_eq_true,kG]
 constructor
 ·exact fun h i hi=>h _ (EH l i hi)
 ·intro h x hx
  obtain ⟨i,hi,rfl⟩:=ZX hx
  exact h i hi
theorem aPM (d:aE) (asked:List Int) (hl:asked.length < 4611686018427387904) (hr:d.Rights.length < 4611686018427387904):oF d asked = some (jD asked d):=by
 unfold oF bN bW cG
 have key:=I5 (step:=fun w=>aR d.Rights asked w) (fun i:Nat=>(i:Int)) d.Rights.length (fun i=>if (!(asked.contains (el d.Rights i).Owner)) = true then some (i:Int) else none) () ?_ ?_
 ·refine (congrArg (fun o=>Option.bind (Option.bind (Option.bind o _) _) _) key).trans ?_
  rw [Option.bind_some,YB (fun i=>!(asked.contains (el d.Rights i).Owner)),Option.bind_some,Option.bind_some,SR (fun i=>!(asked.contains (el d.Rights i).Owner))]
  unfold jD
  rw [aCf]
  simp
 ·intro i hi
  show aR d.Rights asked i = _
  unfold aR mO
  have w3:IntKind.wrap .i64 ((i:Int) + 1) = ((i + 1:Nat):Int):=cD (by omega)
  rw [if_pos (by simpa using hi),eO d.Rights i hi,Option.bind_some,aAS _ _ hl,Option.bind_some,Option.bind_some,w3]
  cases asked.contains (el d.Rights i).Owner <;> rfl
 ·show aR d.Rights asked d.Rights.length = _
  unfold aR
  rw [if_neg (by simp)]
def MM (a:List Int):Bool:=yK (fun i=>decide ((if i = 0 then -1 else el a (i - 1)) < el a i ∧ el a i < 200)) a.length
theorem aGN (a:List Int) (hl:a.length < 4611686018427387904):m9 a = some (MM a):=by
 unfold m9 rF
 have key:=xS? (step:=fun (w:Int × Int)=>eJ a w.1 w.2) (fun i:Nat=>((if i = 0 then -1 else el a (i - 1)),(i:Int))) a.length (fun i=>decide ((if i = 0 then -1 else el a (i - 1)) < el a i ∧ el a i < 200)) () ?_ ?_
 ·refine (congrArg (fun o=>Option.bind o _) key).trans ?_
  rw [Option.bind_some]
  unfold MM
  cases yK (fun i=>decide ((if i = 0 then -1 else el a (i - 1)) < el a i ∧ el a i < 200)) a.length <;> rfl
 ·intro i hi
  show eJ a (if i = 0 then -1 else el a (i - 1)) i = _
  unfold eJ
  have w3:IntKind.wrap .i64 ((i:Int) + 1) = ((i + 1:Nat):Int):=cD (by omega)
  rw [if_pos (by simpa using hi),eO a i hi,Option.bind_some,w3]
  generalize (if i = 0 then -1 else el a (i - 1)) = p
  by_cases h1:el a i <= p
  ·have c:¬ (p < el a i ∧ el a i < 200):=by omega
   rw [if_pos (by simpa using h1),if_neg (by simpa using c)]
  ·rw [if_neg (by simpa using h1)]
   by_cases h2:el a i ≥ 200
   ·have c:¬ (p < el a i ∧ el a i < 200):=by omega
    rw [if_pos (by simpa using h2),if_neg (by simpa using c)]
   ·have c:p < el a i ∧ el a i < 200:=by omega
    rw [if_neg (by simpa using h2),if_pos (by simpa using c)]
    rfl
 ·show eJ a _ a.length = _
  unfold eJ
  rw [if_neg (by simp)]
def iL (d:aE):aF:=⟨d.From,d.To,d.Sum⟩
theorem aOW (d:aE):uJ d = some (iL d):=rfl
def rOk (r:aJ):Bool:=decide (0 <= r.Kind ∧ r.Kind < 4) && decide (0 <= r.Owner ∧ r.Owner < 200)
def ME (d:aE):Bool:=decide (0 <= d.File ∧ d.File < 50) && decide (0 <= d.Part ∧ d.Part < 4) && decide (0 <= d.Sign ∧ d.Sign < 40) && decide (d.Rights.length <= 8) && d.Rights.all rOk
def DA (n:Int) (l:List aE):Bool:=l.all ME && MT n (l.map iL)
theorem aRK (n:Int) (l:List aE) (p1:Int) (p2:List aF) (r4:aF) (d:aE) (hr:d.Rights.length <= 8):n7 n l p1 p2 r4 d 0 = some (if d.Rights.all rOk = true then .inl () else .inr ()):=by
 unfold n7
 rw [aCf]
 refine xS? (step:=fun w=>eH n l p1 p2 r4 d w) (fun i:Nat=>(i:Int)) d.Rights.length (fun i=>rOk (el d.Rights i)) () ?_ ?_
 ·intro i hi
  show eH n l p1 p2 r4 d i = _
  unfold eH
  have w3:IntKind.wrap .i64 ((i:Int) + 1) = ((i + 1:Nat):Int):=cD (by omega)
  rw [if_pos (by simpa using hi),eO d.Rights i hi,Option.bind_some,aIW,Option.bind_some,aIW,Option.bind_some,w3]
  unfold rOk
  cases decide (0 <= (el d.Rights i).Kind ∧ (el d.Rights i).Kind < 4) <;> cases decide (0 <= (el d.Rights i).Owner ∧ (el d.Rights i).Owner < 200) <;> rfl
 ·show eH n l p1 p2 r4 d d.Rights.length = _
  unfold eH
  rw [if_neg (by simp)]
theorem BV {α β:Type} [Inhabited α] (f:α->β) (l:List α) (k:Nat) (h:k < l.length):(l.take (k + 1)).map f = (l.take k).map f ++ [f (el l k)]:=by
 rw [List.take_succ_eq_append_getElem h,List.map_append,FD l k h]
 rfl
theorem aKE (n:Int) (l:List aE) (hl:l.length * 24 <= 140737488351232):nP n l 0 [] = some (if l.all ME = true then .inl (l.map iL) else .inr ()):=by
 unfold nP
 have key:=xS? (step:=fun (w:Int × List aF)=>eG n l w.1 w.2) (fun i:Nat=>((i:Int),(l.take i).map iL)) l.length (fun i=>ME (el l i)) (l.map iL) ?_ ?_
 ·rw [aCf]
  exact key
 ·intro i hi
  show eG n l i ((l.take i).map iL) = _
  unfold eG
  have w3:IntKind.wrap .i64 ((i:Int) + 1) = ((i + 1:Nat):Int):=cD (by omega)
  rw [if_pos (by simpa using hi),eO l i hi,Option.bind_some,aOW,Option.bind_some,if_pos (by simp; omega),aIW,Option.bind_some,aIW,Option.bind_some,aIW,Option.bind_some,w3]
  rw [BV iL l i hi]
  generalize el l i = d
  unfold ME
  by_cases h8:d.Rights.length <= 8
  ·have c:¬ decide ((d.Rights.length:Int) > 8) = true:=by simp; omega
   rw [if_neg c,aRK _ _ _ _ _ _ h8,decide_eq_true h8]
   cases decide (0 <= d.File ∧ d.File < 50) <;> cases decide (0 <= d.Part ∧ d.Part < 4) <;> cases decide (0 <= d.Sign ∧ d.Sign < 40) <;> cases d.Rights.all rOk <;> rfl
  ·have c:decide ((d.Rights.length:Int) > 8) = true:=by simp; omega
   rw [if_pos c,decide_eq_false h8]
   cases decide (0 <= d.File ∧ d.File < 50) <;> cases decide (0 <= d.Part ∧ d.Part < 4) <;> cases decide (0 <= d.Sign ∧ d.Sign < 40) <;> rfl
 ·show eG n l l.length ((l.take l.length).map iL) = _
  unfold eG
  rw [if_neg (by simp),List.take_length]
theorem aC3 (n:Int) (l:List aE) (hl:l.length * 24 <= 140737488351232):iD n l = some (if DA n l = true then 0 else 1):=by
 unfold iD DA
 rw [aKE n l hl,Option.bind_some]
 cases l.all ME with
 | false=>rfl
 | true =>
  simp only [if_true,Sum.elim_inl,Bool.true_and]
  rw [aCX,Option.bind_some]
  cases MT n (l.map iL) <;> rfl
end Go.Proofs.Ytgjcnbgfaimepaa
