/- Law 43: what the parts of rights compute: Check, right, free, best, Clear. -/
import Derived.Test.YtgjcnbgfaimepaaPCb
set_option linter.unusedVariables false
set_option linter.unusedSimpArgs false
namespace Go.Proofs.Ytgjcnbgfaimepaa
open Go.RowKit Vm
theorem aMn {n:Nat} {dues:List aF} (h:I1 n dues):∃ x q,kE n dues = some (x,q,0) ∧ OZ n dues x q:=by
 have hR:=VE n dues
 rw [KO.2 ⟨n,rfl,h⟩] at hR
 exact aQH h hR
theorem aIA (x n:Int):nH x n = some (decide (0 <= x ∧ x < n)):=by
 unfold nH
 by_cases h:0 <= x
 ·rw [if_pos (by simpa using h)]
  simp [h]
 ·rw [if_neg (by simpa using h)]
  simp [h]
theorem W7 (p:Nat->Bool) (n:Nat):Sum.elim (fun _=>some (-1:Int)) (fun z=>some z) (toS () (sS (fun i=>if p i = true then some (i:Int) else none) 0 n)) = some (((sS (fun i=>if p i = true then some (i:Int) else none) 0 n)).getD (-1)):=by
 cases sS (fun i=>if p i = true then some (i:Int) else none) 0 n <;> rfl
theorem UC (p:Nat->Bool) (n:Nat):decide (((sS (fun i=>if p i = true then some (i:Int) else none) 0 n)).getD (-1) ≥ 0) = !(tQ (fun i=>!(p i)) n):=by
 cases e:sS (fun i=>if p i = true then some (i:Int) else none) 0 n with
 | none =>
  have h:=(B5 n 0).1 e
  have:tQ (fun i=>!(p i)) n = true:=lQ.2 fun i hi=>by
   have:=h i (Nat.zero_le _) (by omega)
   cases hp:p i with
   | false=>rfl
   | true=>simp [hp] at this
  rw [this]; rfl
 | some x =>
  obtain ⟨i,_,hi,h1,_⟩:=ON n 0 e
  have hp:p i = true:=by
   cases hp:p i with
   | true=>rfl
   | false=>simp [hp] at h1
  rw [hp] at h1
  simp at h1
  have:tQ (fun i=>!(p i)) n = false:=by
   cases h:tQ (fun i=>!(p i)) n with
   | false=>rfl
   | true =>
    have:=lQ.1 h i (by omega)
    rw [hp] at this; cases this
  rw [this,← h1]
  simp
theorem Z0 (a:List Int) (v:Int):a.contains v = !(tQ (fun i=>!(decide (v = el a i))) a.length):=by
 by_cases h:v ∈ a
 ·obtain ⟨i,hi,e⟩:=aBY h
  have:tQ (fun i=>!(decide (v = el a i))) a.length = false:=by
   cases h2:tQ (fun i=>!(decide (v = el a i))) a.length with
   | false=>rfl
   | true =>
    have:=lQ.1 h2 i hi
    rw [e] at this; simp at this
  rw [this]
  simpa using h
 ·have:tQ (fun i=>!(decide (v = el a i))) a.length = true:=lQ.2 fun i hi=>by
   have:=IB a i hi
   simp
   intro e
   exact h (e ▸ this)
  rw [this]
  simpa using h
theorem aND (a:List Int) (v:Int) (hl:a.length < 4611686018427387904):gD a v = some ((sS (fun i=>if decide (v = el a i) = true then some (i:Int) else none) 0 a.length).getD (-1)):=by
 unfold gD jL
 have key:=KX (step:=fun w=>bQ a v w) (fun i:Nat=>(i:Int)) a.length (fun i=>if decide (v = el a i) = true then some (i:Int) else none) () ?_ ?_
 ·refine (congrArg (fun o=>Option.bind o _) key).trans ?_
  exact W7 _ _
 ·intro i hi
  show bQ a v i = _
  unfold bQ
  have w3:IntKind.wrap .i64 ((i:Int) + 1) = ((i + 1:Nat):Int):=bW (by omega)
  rw [if_pos (by simpa using hi),dK a i hi,Option.bind_some,w3]
  by_cases e:v = el a i
  ·rw [if_pos (by simpa using e)]; simp [e]
  ·rw [if_neg (by simpa using e)]; simp [e]
 ·show bQ a v a.length = _
  unfold bQ
  rw [if_neg (by simp)]
theorem aAf (a:List Int) (v:Int) (hl:a.length < 4611686018427387904):cX a v = some (a.contains v):=by
 unfold cX
 rw [aND a v hl,Option.bind_some,UC,Z0]
def oQ (asked:List Int) (d:aE):Bool:=d.Rights.all fun r=>asked.contains r.Owner
theorem aCu {α:Type} [Inhabited α] (p:α->Bool) (l:List α):l.all p = tQ (fun i=>p (el l i)) l.length:=by
 rw [Bool.eq_iff_iff,List.all_eq_true,lQ]
 constructor
 ·exact fun h i hi=>h _ (IB l i hi)
 ·intro h x hx
  obtain ⟨i,hi,rfl⟩:=aBY hx
  exact h i hi
theorem aJ8 (d:aE) (asked:List Int) (hl:asked.length < 4611686018427387904) (hr:d.Rights.length < 4611686018427387904):qB d asked = some (oQ asked d):=by
 unfold qB bO b5 cH
 have key:=KX (step:=fun w=>aR d.Rights asked w) (fun i:Nat=>(i:Int)) d.Rights.length (fun i=>if (!(asked.contains (el d.Rights i).Owner)) = true then some (i:Int) else none) () ?_ ?_
 ·refine (congrArg (fun o=>Option.bind (Option.bind (Option.bind o _) _) _) key).trans ?_
  rw [Option.bind_some,W7 (fun i=>!(asked.contains (el d.Rights i).Owner)),Option.bind_some,Option.bind_some,UC (fun i=>!(asked.contains (el d.Rights i).Owner))]
  unfold oQ
  rw [aCu]
  simp
 ·intro i hi
  show aR d.Rights asked i = _
  unfold aR nD
  have w3:IntKind.wrap .i64 ((i:Int) + 1) = ((i + 1:Nat):Int):=bW (by omega)
  rw [if_pos (by simpa using hi),dK d.Rights i hi,Option.bind_some,aAf _ _ hl,Option.bind_some,Option.bind_some,w3]
  cases asked.contains (el d.Rights i).Owner <;> rfl
 ·show aR d.Rights asked d.Rights.length = _
  unfold aR
  rw [if_neg (by simp)]
def RN (a:List Int):Bool:=tQ (fun i=>decide ((if i = 0 then -1 else el a (i - 1)) < el a i ∧ el a i < 200)) a.length
theorem W4 (a:List Int) (hl:a.length < 4611686018427387904):nI a = some (RN a):=by
 unfold nI sE
 have key:=rP? (step:=fun (w:Int × Int)=>eE a w.1 w.2) (fun i:Nat=>((if i = 0 then -1 else el a (i - 1)),(i:Int))) a.length (fun i=>decide ((if i = 0 then -1 else el a (i - 1)) < el a i ∧ el a i < 200)) () ?_ ?_
 ·refine (congrArg (fun o=>Option.bind o _) key).trans ?_
  rw [Option.bind_some]
  unfold RN
  cases tQ (fun i=>decide ((if i = 0 then -1 else el a (i - 1)) < el a i ∧ el a i < 200)) a.length <;> rfl
 ·intro i hi
  show eE a (if i = 0 then -1 else el a (i - 1)) i = _
  unfold eE
  have w3:IntKind.wrap .i64 ((i:Int) + 1) = ((i + 1:Nat):Int):=bW (by omega)
  rw [if_pos (by simpa using hi),dK a i hi,Option.bind_some,w3]
  generalize (if i = 0 then -1 else el a (i - 1)) = p
  by_cases h1:el a i <= p
  ·have c:¬ (p < el a i ∧ el a i < 200):=by omega
   rw [if_pos (by simpa using h1),if_neg (by simpa using c)]
  ·rw [if_neg (by simpa using h1)]
   by_cases h2:el a i ≥ 200
   ·have c:¬ (p < el a i ∧ el a i < 200):=by omega
    rw [if_pos (by simpa using h2),if_neg (by simpa using c)]
   ·have c:p < el a i ∧ el a i < 200:=by omega
    rw [if_neg (by simpa using h2),if_pos (by simpa using c)]
    rfl
 ·show eE a _ a.length = _
  unfold eE
  rw [if_neg (by simp)]
def fK (d:aE):aF:=⟨d.From,d.To,d.Sum⟩
theorem aPH (d:aE):u7 d = some (fK d):=rfl
def rOk (r:aJ):Bool:=decide (0 <= r.Kind ∧ r.Kind < 4) && decide (0 <= r.Owner ∧ r.Owner < 200)
def QT (d:aE):Bool:=decide (0 <= d.File ∧ d.File < 50) && decide (0 <= d.Part ∧ d.Part < 4) && decide (0 <= d.Sign ∧ d.Sign < 40) && decide (d.Rights.length <= 8) && d.Rights.all rOk
def FE (n:Int) (l:List aE):Bool:=l.all QT && KA n (l.map fK)
theorem aR5 (n:Int) (l:List aE) (p1:Int) (p2:List aF) (r4:aF) (d:aE) (hr:d.Rights.length <= 8):oH n l p1 p2 r4 d 0 = some (if d.Rights.all rOk = true then .inl () else .inr ()):=by
 unfold oH
 rw [aCu]
 refine rP? (step:=fun w=>eJ n l p1 p2 r4 d w) (fun i:Nat=>(i:Int)) d.Rights.length (fun i=>rOk (el d.Rights i)) () ?_ ?_
 ·intro i hi
  show eJ n l p1 p2 r4 d i = _
  unfold eJ
  have w3:IntKind.wrap .i64 ((i:Int) + 1) = ((i + 1:Nat):Int):=bW (by omega)
  rw [if_pos (by simpa using hi),dK d.Rights i hi,Option.bind_some,aIA,Option.bind_some,aIA,Option.bind_some,w3]
  unfold rOk
  cases decide (0 <= (el d.Rights i).Kind ∧ (el d.Rights i).Kind < 4) <;> cases decide (0 <= (el d.Rights i).Owner ∧ (el d.Rights i).Owner < 200) <;> rfl
 ·show eJ n l p1 p2 r4 d d.Rights.length = _
  unfold eJ
  rw [if_neg (by simp)]
theorem JS {α β:Type} [Inhabited α] (f:α->β) (l:List α) (k:Nat) (h:k < l.length):(l.take (k + 1)).map f = (l.take k).map f ++ [f (el l k)]:=by
 rw [List.take_succ_eq_append_getElem h,List.map_append,L6 l k h]
 rfl
theorem aKn (n:Int) (l:List aE) (hl:l.length * 24 <= 140737488351232):oD n l 0 [] = some (if l.all QT = true then .inl (l.map fK) else .inr ()):=by
 unfold oD
 have key:=rP? (step:=fun (w:Int × List aF)=>eG n l w.1 w.2) (fun i:Nat=>((i:Int),(l.take i).map fK)) l.length (fun i=>QT (el l i)) (l.map fK) ?_ ?_
 ·rw [aCu]
  exact key
 ·intro i hi
  show eG n l i ((l.take i).map fK) = _
  unfold eG
  have w3:IntKind.wrap .i64 ((i:Int) + 1) = ((i + 1:Nat):Int):=bW (by omega)
  rw [if_pos (by simpa using hi),dK l i hi,Option.bind_some,aPH,Option.bind_some,if_pos (by simp; omega),aIA,Option.bind_some,aIA,Option.bind_some,aIA,Option.bind_some,w3]
  rw [JS fK l i hi]
  generalize el l i = d
  unfold QT
  by_cases h8:d.Rights.length <= 8
  ·have c:¬ decide ((d.Rights.length:Int) > 8) = true:=by simp; omega
   rw [if_neg c,aR5 _ _ _ _ _ _ h8,decide_eq_true h8]
   cases decide (0 <= d.File ∧ d.File < 50) <;> cases decide (0 <= d.Part ∧ d.Part < 4) <;> cases decide (0 <= d.Sign ∧ d.Sign < 40) <;> cases d.Rights.all rOk <;> rfl
  ·have c:decide ((d.Rights.length:Int) > 8) = true:=by simp; omega
   rw [if_pos c,decide_eq_false h8]
   cases decide (0 <= d.File ∧ d.File < 50) <;> cases decide (0 <= d.Part ∧ d.Part < 4) <;> cases decide (0 <= d.Sign ∧ d.Sign < 40) <;> rfl
 ·show eG n l l.length ((l.take l.length).map fK) = _
  unfold eG
  rw [if_neg (by simp),List.take_length]
theorem aDw (n:Int) (l:List aE) (hl:l.length * 24 <= 140737488351232):jK n l = some (if FE n l = true then 0 else 1):=by
 unfold jK FE
 rw [aKn n l hl,Option.bind_some]
 cases l.all QT with
 | false=>rfl
 | true =>
  simp only [if_true,Sum.elim_inl,Bool.true_and]
  rw [VE,Option.bind_some]
  cases KA n (l.map fK) <;> rfl
end Go.Proofs.Ytgjcnbgfaimepaa
