/- The laws of layer 14: RecordDays. -/
import Derived.Test.YtfhebiceipgdmaaPRec14d
set_option linter.unusedVariables false
set_option linter.unusedSimpArgs false
namespace Go.Proofs.Ytfhebiceipgdmaa
open Go.RowKit Vm
theorem aIz (S:List aO) (d:Int) (i:Nat) (h:i < (wQ S d).length):el (wQ S d) i = el S i:=by
 have e:=iR S (wQ S d).length i h
 have e2:S.take (wQ S d).length = wQ S d:=tD _ _
 rwa [e2] at e
theorem aH1 (S:List bB) (d:Int) (i:Nat) (h:i < (DX S d).length):el (DX S d) i = el S i:=by
 have e:=iR S (DX S d).length i h
 have e2:S.take (DX S d).length = DX S d:=tD _ _
 rwa [e2] at e
theorem VK (hs:eY = some true) (r:aA) (f:aB) (a b:Int) (w:aA.wf r):gF r f a b = some true:=by
 unfold gF
 obtain ⟨x,hb,hr⟩:=QN r
 rw [hs,Option.bind_some,hb,Option.bind_some]
 cases x with
 | false=>rfl
 | true =>
  have bg:=(hr rfl).big
  rw [if_neg (by simp),QM,Option.bind_some]
  cases hd:decide (f.Signs.length ≤ 50 ∧ f.Alters.length ≤ 10 ∧ f.Acts.length ≤ 110 ∧ f.Facts.length ≤ 220) with
  | false=>rfl
  | true =>
   obtain ⟨f1,f2,f3,f4⟩:=QX hd
   obtain ⟨a1,a2,a3,a4⟩:=I0 f a
   obtain ⟨b1,b2,b3,b4⟩:=I0 f b
   have t1:mU (mU f a) b = mU f (if b < a then b else a):=aC4 f a b _ (by split <;> omega)
   have t2:mU (mU f b) a = mU f (if b < a then b else a):=aC4 f b a _ (by split <;> omega)
   obtain ⟨c1,c2,c3,c4⟩:=I0 f (if b < a then b else a)
   rw [if_neg (by simp),AR f a (by omega) (by omega) (by omega) (by omega),Option.bind_some,AR (mU f a) b (by omega) (by omega) (by omega) (by omega),Option.bind_some,AR f (if b < a then b else a) (by omega) (by omega) (by omega) (by omega),Option.bind_some,t1,HE _ (by omega) (by omega) (by omega) (by omega),Option.bind_some,if_neg (by simp),AR f b (by omega) (by omega) (by omega) (by omega),Option.bind_some,AR (mU f b) a (by omega) (by omega) (by omega) (by omega),Option.bind_some,t2,HE _ (by omega) (by omega) (by omega) (by omega),Option.bind_some,if_neg (by simp),GW r f bg w,Option.bind_some]
   by_cases h0:yB r f = 0
   ·rw [if_neg (by simp [h0])]
    by_cases ha:a < f.Bill.Day
    ·rw [if_pos (decide_eq_true ha)]
    ·have l1:gL f a true (mU f a) 0 = some (.inl ()):=fB (step:=fun w:Int=>cG f a true (mU f a) w) (fun i=>(i:Int)) (wQ f.Signs a).length (.inl ()) (by
      intro i hi
      have e:=aIz f.Signs a i hi
      have hi2:i < f.Signs.length:=by have:=I4 f.Signs a; omega
      have q:(el f.Signs i).Day ≤ a:=of_decide_eq_true (yR (fun x:aO=>decide (x.Day ≤ a)) f.Signs i hi)
      show cG f a true (mU f a) (i:Int) = _
      simp only [cG,show (mU f a).Signs = wQ f.Signs a from rfl,mN hi,if_true,eQ _ _ hi,eQ _ _ hi2,e,Option.bind_some,b9 (show i < 9223372036854775807 by omega),beq_self_eq_true,Bool.and_true,Bool.not_true,Bool.false_eq_true,if_false,decide_eq_true_eq]
      rw [if_neg (by omega)]) (by
      show cG f a true (mU f a) (((wQ f.Signs a).length:Nat):Int) = _
      simp only [cG,show (mU f a).Signs = wQ f.Signs a from rfl,oF,if_false])
     have l2:gM f a true (mU f a) 0 = some (.inl ()):=fB (step:=fun w:Int=>cF f a true (mU f a) w) (fun i=>(i:Int)) (DX f.Acts a).length (.inl ()) (by
      intro i hi
      have e:=aH1 f.Acts a i hi
      have hi2:i < f.Acts.length:=by have:=OT f.Acts a; omega
      have q:(el f.Acts i).Day ≤ a:=of_decide_eq_true (yR (fun x:bB=>decide (x.Day ≤ a)) f.Acts i hi)
      show cF f a true (mU f a) (i:Int) = _
      simp only [cF,show (mU f a).Acts = DX f.Acts a from rfl,mN hi,if_true,eQ _ _ hi,eQ _ _ hi2,e,Option.bind_some,b9 (show i < 9223372036854775807 by omega),beq_self_eq_true,Bool.and_true,Bool.not_true,Bool.false_eq_true,if_false,decide_eq_true_eq]
      rw [if_neg (by omega)]) (by
      show cF f a true (mU f a) (((DX f.Acts a).length:Nat):Int) = _
      simp only [cF,show (mU f a).Acts = DX f.Acts a from rfl,oF,if_false])
     have j3:dY f a true (mU f a) true = some true:=by
      unfold dY
      rw [show (mU f a).Acts = DX f.Acts a from rfl]
      have hl:=OT f.Acts a
      by_cases e:(DX f.Acts a).length = f.Acts.length
      ·rw [if_pos (by simp [e]),if_pos rfl,if_pos rfl]
      ·have hn:(DX f.Acts a).length < f.Acts.length:=by omega
       have q:=of_decide_eq_false (BB (fun x:bB=>decide (x.Day ≤ a)) f.Acts hn)
       rw [if_neg (by simp; omega),eQ _ _ hn,Option.bind_some,if_pos rfl,if_pos rfl]
       exact congrArg some (decide_eq_true (by unfold DX; omega))
     rw [if_neg (by simpa using ha),GW r (mU f a) bg w,Option.bind_some,if_neg (by simp [aDa h0 a (by omega)]),AR f 100000 (by omega) (by omega) (by omega) (by omega),Option.bind_some,aCQ h0,HE _ (by omega) (by omega) (by omega) (by omega),Option.bind_some,if_neg (by simp),l1,Option.bind_some,Sum.elim_inl,l2,Option.bind_some,Sum.elim_inl,show (mU f a).Signs = wQ f.Signs a from rfl]
     have hl:=I4 f.Signs a
     by_cases e:(wQ f.Signs a).length = f.Signs.length
     ·rw [if_pos (by simp [e]),j3]; rfl
     ·have hn:(wQ f.Signs a).length < f.Signs.length:=by omega
      have q:=of_decide_eq_false (BB (fun x:aO=>decide (x.Day ≤ a)) f.Signs hn)
      rw [if_neg (by simp; omega),eQ _ _ hn,Option.bind_some,decide_eq_true (show (el f.Signs (wQ f.Signs a).length).Day > a by unfold wQ; omega),j3]
      rfl
   ·rw [if_pos (by simpa using h0)]
end Go.Proofs.Ytfhebiceipgdmaa
