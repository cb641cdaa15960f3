/- Law 43: what the parts of rights compute: Check, right, free, best, Clear. -/
import Derived.Test.YtgjcnbgfaimepaaPCb
set_option linter.unusedVariables false
set_option linter.unusedSimpArgs false
namespace Go.Proofs.Ytgjcnbgfaimepaa
open Go.RowKit Vm
theorem aPr {n:Nat} {dues:List aH} (h:EM n dues):∃ x q,kV n dues = some (x,q,0) ∧ UL n dues x q:=by
 have hR:=aDI n dues
 rw [QE.2 ⟨n,rfl,h⟩] at hR
 exact aQS h hR
theorem aMa (x n:Int):nX x n = some (decide (0 <= x ∧ x < n)):=by
 unfold nX
 by_cases h:0 <= x
 ·rw [if_pos (by simpa using h)]
  simp [h]
 ·rw [if_neg (by simpa using h)]
  simp [h]
theorem II (p:Nat->Bool) (n:Nat):Sum.elim (fun _=>some (-1:Int)) (fun z=>some z) (toS () (rH (fun i=>if p i = true then some (i:Int) else none) 0 n)) = some (((rH (fun i=>if p i = true then some (i:Int) else none) 0 n)).getD (-1)):=by
 cases rH (fun i=>if p i = true then some (i:Int) else none) 0 n <;> rfl
theorem IZ (p:Nat->Bool) (n:Nat):decide (((rH (fun i=>if p i = true then some (i:Int) else none) 0 n)).getD (-1) ≥ 0) = !(vY (fun i=>!(p i)) n):=by
 cases e:rH (fun i=>if p i = true then some (i:Int) else none) 0 n with
 | none =>
  have h:=(yR n 0).1 e
  have:vY (fun i=>!(p i)) n = true:=i7.2 fun i hi=>by
   have:=h i (Nat.zero_le _) (by omega)
   cases hp:p i with
   | false=>rfl
   | true=>simp [hp] at this
  rw [this]; rfl
 | some x =>
  obtain ⟨i,_,hi,h1,_⟩:=HN n 0 e
  have hp:p i = true:=by
   cases hp:p i with
   | true=>rfl
   | false=>simp [hp] at h1
  rw [hp] at h1
  simp at h1
  have:vY (fun i=>!(p i)) n = false:=by
   cases h:vY (fun i=>!(p i)) n with
   | false=>rfl
   | true =>
    have:=i7.1 h i (by omega)
    rw [hp] at this; cases this
  rw [this,← h1]
  simp
theorem O8 (a:List Int) (v:Int):a.contains v = !(vY (fun i=>!(decide (v = el a i))) a.length):=by
 by_cases h:v ∈ a
 ·obtain ⟨i,hi,e⟩:=IV h
  have:vY (fun i=>!(decide (v = el a i))) a.length = false:=by
   cases h2:vY (fun i=>!(decide (v = el a i))) a.length with
   | false=>rfl
   | true =>
    have:=i7.1 h2 i hi
    rw [e] at this; simp at this
  rw [this]
  simpa using h
 ·have:vY (fun i=>!(decide (v = el a i))) a.length = true:=i7.2 fun i hi=>by
   have:=mF a i hi
   simp
   intro e
   exact h (e ▸ this)
  rw [this]
  simpa using h
theorem aOy (a:List Int) (v:Int) (hl:a.length < 4611686018427387904):gW a v = some ((rH (fun i=>if decide (v = el a i) = true then some (i:Int) else none) 0 a.length).getD (-1)):=by
 unfold gW jZ
 have key:=xO (step:=fun w=>bZ a v w) (fun i:Nat=>(i:Int)) a.length (fun i=>if decide (v = el a i) = true then some (i:Int) else none) () ?_ ?_
 ·refine (congrArg (fun o=>Option.bind o _) key).trans ?_
  exact II _ _
 ·intro i hi
  show bZ a v i = _
  unfold bZ
  have w3:IntKind.wrap .i64 ((i:Int) + 1) = ((i + 1:Nat):Int):=bC (by omega)
  rw [if_pos (by simpa using hi),bU a i hi,Option.bind_some,w3]
  by_cases e:v = el a i
  ·rw [if_pos (by simpa using e)]; simp [e]
  ·rw [if_neg (by simpa using e)]; simp [e]
 ·show bZ a v a.length = _
  unfold bZ
  rw [if_neg (by simp)]
theorem K2 (a:List Int) (v:Int) (hl:a.length < 4611686018427387904):c8 a v = some (a.contains v):=by
 unfold c8
 rw [aOy a v hl,Option.bind_some,IZ,O8]
def nA (asked:List Int) (d:aE):Bool:=d.Rights.all fun r=>asked.contains r.Owner
theorem WN {α:Type} [Inhabited α] (p:α->Bool) (l:List α):l.all p = vY (fun i=>p (el l i)) l.length:=by
 rw [Bool.eq_iff_iff,List.all_eq_true,i7]
 constructor
 ·exact fun h i hi=>h _ (mF l i hi)
 ·intro h x hx
  obtain ⟨i,hi,rfl⟩:=IV hx
  exact h i hi
theorem aR3 (d:aE) (asked:List Int) (hl:asked.length < 4611686018427387904) (hr:d.Rights.length < 4611686018427387904):qM d asked = some (nA asked d):=by
 unfold qM bX cD cV
 have key:=xO (step:=fun w=>aS d.Rights asked w) (fun i:Nat=>(i:Int)) d.Rights.length (fun i=>if (!(asked.contains (el d.Rights i).Owner)) = true then some (i:Int) else none) () ?_ ?_
 ·refine (congrArg (fun o=>Option.bind (Option.bind (Option.bind o _) _) _) key).trans ?_
  rw [Option.bind_some,II (fun i=>!(asked.contains (el d.Rights i).Owner)),Option.bind_some,Option.bind_some,IZ (fun i=>!(asked.contains (el d.Rights i).Owner))]
  unfold nA
  rw [WN]
  simp
 ·intro i hi
  show aS d.Rights asked i = _
  unfold aS nK
  have w3:IntKind.wrap .i64 ((i:Int) + 1) = ((i + 1:Nat):Int):=bC (by omega)
  rw [if_pos (by simpa using hi),bU d.Rights i hi,Option.bind_some,K2 _ _ hl,Option.bind_some,Option.bind_some,w3]
  cases asked.contains (el d.Rights i).Owner <;> rfl
 ·show aS d.Rights asked d.Rights.length = _
  unfold aS
  rw [if_neg (by simp)]
def wM (a:List Int):Bool:=vY (fun i=>decide ((if i = 0 then -1 else el a (i - 1)) < el a i ∧ el a i < 200)) a.length
theorem HJ (a:List Int) (hl:a.length < 4611686018427387904):nU a = some (wM a):=by
 unfold nU sI
 have key:=uE? (step:=fun (w:Int × Int)=>fG a w.1 w.2) (fun i:Nat=>((if i = 0 then -1 else el a (i - 1)),(i:Int))) a.length (fun i=>decide ((if i = 0 then -1 else el a (i - 1)) < el a i ∧ el a i < 200)) () ?_ ?_
 ·refine (congrArg (fun o=>Option.bind o _) key).trans ?_
  rw [Option.bind_some]
  unfold wM
  cases vY (fun i=>decide ((if i = 0 then -1 else el a (i - 1)) < el a i ∧ el a i < 200)) a.length <;> rfl
 ·intro i hi
  show fG a (if i = 0 then -1 else el a (i - 1)) i = _
  unfold fG
  have w3:IntKind.wrap .i64 ((i:Int) + 1) = ((i + 1:Nat):Int):=bC (by omega)
  rw [if_pos (by simpa using hi),bU a i hi,Option.bind_some,w3]
  generalize (if i = 0 then -1 else el a (i - 1)) = p
  by_cases h1:el a i <= p
  ·have c:¬ (p < el a i ∧ el a i < 200):=by omega
   rw [if_pos (by simpa using h1),if_neg (by simpa using c)]
  ·rw [if_neg (by simpa using h1)]
   by_cases h2:el a i ≥ 200
   ·have c:¬ (p < el a i ∧ el a i < 200):=by omega
    rw [if_pos (by simpa using h2),if_neg (by simpa using c)]
   ·have c:p < el a i ∧ el a i < 200:=by omega
    rw [if_neg (by simpa using h2),if_pos (by simpa using c)]
    rfl
 ·show fG a _ a.length = _
  unfold fG
  rw [if_neg (by simp)]
def gD (d:aE):aH:=⟨d.From,d.To,d.Sum⟩
theorem aQk (d:aE):vO d = some (gD d):=rfl
def rOk (r:aJ):Bool:=decide (0 <= r.Kind ∧ r.Kind < 4) && decide (0 <= r.Owner ∧ r.Owner < 200)
def NB (d:aE):Bool:=decide (0 <= d.File ∧ d.File < 50) && decide (0 <= d.Part ∧ d.Part < 4) && decide (0 <= d.Sign ∧ d.Sign < 40) && decide (d.Rights.length <= 8) && d.Rights.all rOk
def rL (n:Int) (l:List aE):Bool:=l.all NB && OC n (l.map gD)
theorem aTr (n:Int) (l:List aE) (p1:Int) (p2:List aH) (r4:aH) (d:aE) (hr:d.Rights.length <= 8):pB n l p1 p2 r4 d 0 = some (if d.Rights.all rOk = true then .inl () else .inr ()):=by
 unfold pB
 rw [WN]
 refine uE? (step:=fun w=>fA n l p1 p2 r4 d w) (fun i:Nat=>(i:Int)) d.Rights.length (fun i=>rOk (el d.Rights i)) () ?_ ?_
 ·intro i hi
  show fA n l p1 p2 r4 d i = _
  unfold fA
  have w3:IntKind.wrap .i64 ((i:Int) + 1) = ((i + 1:Nat):Int):=bC (by omega)
  rw [if_pos (by simpa using hi),bU d.Rights i hi,Option.bind_some,aMa,Option.bind_some,aMa,Option.bind_some,w3]
  unfold rOk
  cases decide (0 <= (el d.Rights i).Kind ∧ (el d.Rights i).Kind < 4) <;> cases decide (0 <= (el d.Rights i).Owner ∧ (el d.Rights i).Owner < 200) <;> rfl
 ·show fA n l p1 p2 r4 d d.Rights.length = _
  unfold fA
  rw [if_neg (by simp)]
theorem qW {α β:Type} [Inhabited α] (f:α->β) (l:List α) (k:Nat) (h:k < l.length):(l.take (k + 1)).map f = (l.take k).map f ++ [f (el l k)]:=by
 rw [List.take_succ_eq_append_getElem h,List.map_append,kA l k h]
 rfl
theorem aLA (n:Int) (l:List aE) (hl:l.length * 24 <= 140737488351232):oR n l 0 [] = some (if l.all NB = true then .inl (l.map gD) else .inr ()):=by
 unfold oR
 have key:=uE? (step:=fun (w:Int × List aH)=>fC n l w.1 w.2) (fun i:Nat=>((i:Int),(l.take i).map gD)) l.length (fun i=>NB (el l i)) (l.map gD) ?_ ?_
 ·rw [WN]
  exact key
 ·intro i hi
  show fC n l i ((l.take i).map gD) = _
  unfold fC
  have w3:IntKind.wrap .i64 ((i:Int) + 1) = ((i + 1:Nat):Int):=bC (by omega)
  rw [if_pos (by simpa using hi),bU l i hi,Option.bind_some,aQk,Option.bind_some,if_pos (by simp; omega),aMa,Option.bind_some,aMa,Option.bind_some,aMa,Option.bind_some,w3]
  rw [qW gD l i hi]
  generalize el l i = d
  unfold NB
  by_cases h8:d.Rights.length <= 8
  ·have c:¬ decide ((d.Rights.length:Int) > 8) = true:=by simp; omega
   rw [if_neg c,aTr _ _ _ _ _ _ h8,decide_eq_true h8]
   cases decide (0 <= d.File ∧ d.File < 50) <;> cases decide (0 <= d.Part ∧ d.Part < 4) <;> cases decide (0 <= d.Sign ∧ d.Sign < 40) <;> cases d.Rights.all rOk <;> rfl
  ·have c:decide ((d.Rights.length:Int) > 8) = true:=by simp; omega
   rw [if_pos c,decide_eq_false h8]
   cases decide (0 <= d.File ∧ d.File < 50) <;> cases decide (0 <= d.Part ∧ d.Part < 4) <;> cases decide (0 <= d.Sign ∧ d.Sign < 40) <;> rfl
 ·show fC n l l.length ((l.take l.length).map gD) = _
  unfold fC
  rw [if_neg (by simp),List.take_length]
theorem MF (n:Int) (l:List aE) (hl:l.length * 24 <= 140737488351232):j6 n l = some (if rL n l = true then 0 else 1):=by
 unfold j6 rL
 rw [aLA n l hl,Option.bind_some]
 cases l.all NB with
 | false=>rfl
 | true =>
  simp only [if_true,Sum.elim_inl,Bool.true_and]
  rw [aDI,Option.bind_some]
  cases OC n (l.map gD) <;> rfl
end Go.Proofs.Ytgjcnbgfaimepaa
