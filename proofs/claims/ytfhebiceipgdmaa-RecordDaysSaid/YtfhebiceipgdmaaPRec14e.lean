/- The laws of layer 14: RecordDays. -/
import Derived.Test.YtfhebiceipgdmaaPRec14d
set_option linter.unusedVariables false
set_option linter.unusedSimpArgs false
namespace Go.Proofs.Ytfhebiceipgdmaa
open Go.RowKit Vm
theorem aIV (S:List aO) (d:Int) (i:Nat) (h:i < (wU S d).length):el (wU S d) i = el S i:=by
 have e:=iM S (wU S d).length i h
 have e2:S.take (wU S d).length = wU S d:=tE _ _
 rwa [e2] at e
theorem aHF (S:List bB) (d:Int) (i:Nat) (h:i < (DV S d).length):el (DV S d) i = el S i:=by
 have e:=iM S (DV S d).length i h
 have e2:S.take (DV S d).length = DV S d:=tE _ _
 rwa [e2] at e
theorem S4 (hs:eW = some true) (r:aA) (f:aB) (a b:Int) (w:aA.wf r):gD r f a b = some true:=by
 unfold gD
 obtain ⟨x,hb,hr⟩:=PX r
 rw [hs,Option.bind_some,hb,Option.bind_some]
 cases x with
 | false=>rfl
 | true =>
  have bg:=(hr rfl).big
  rw [if_neg (by simp),PN,Option.bind_some]
  cases hd:decide (f.Signs.length ≤ 50 ∧ f.Alters.length ≤ 10 ∧ f.Acts.length ≤ 110 ∧ f.Facts.length ≤ 220) with
  | false=>rfl
  | true =>
   obtain ⟨f1,f2,f3,f4⟩:=Q3 hd
   obtain ⟨a1,a2,a3,a4⟩:=I0 f a
   obtain ⟨b1,b2,b3,b4⟩:=I0 f b
   have t1:mV (mV f a) b = mV f (if b < a then b else a):=aDi f a b _ (by split <;> omega)
   have t2:mV (mV f b) a = mV f (if b < a then b else a):=aDi f b a _ (by split <;> omega)
   obtain ⟨c1,c2,c3,c4⟩:=I0 f (if b < a then b else a)
   rw [if_neg (by simp),A7 f a (by omega) (by omega) (by omega) (by omega),Option.bind_some,A7 (mV f a) b (by omega) (by omega) (by omega) (by omega),Option.bind_some,A7 f (if b < a then b else a) (by omega) (by omega) (by omega) (by omega),Option.bind_some,t1,GN _ (by omega) (by omega) (by omega) (by omega),Option.bind_some,if_neg (by simp),A7 f b (by omega) (by omega) (by omega) (by omega),Option.bind_some,A7 (mV f b) a (by omega) (by omega) (by omega) (by omega),Option.bind_some,t2,GN _ (by omega) (by omega) (by omega) (by omega),Option.bind_some,if_neg (by simp),GQ r f bg w,Option.bind_some]
   by_cases h0:yK r f = 0
   ·rw [if_neg (by simp [h0])]
    by_cases ha:a < f.Bill.Day
    ·rw [if_pos (decide_eq_true ha)]
    ·have l1:gL f a true (mV f a) 0 = some (.inl ()):=fB (step:=fun w:Int=>cG f a true (mV f a) w) (fun i=>(i:Int)) (wU f.Signs a).length (.inl ()) (by
      intro i hi
      have e:=aIV f.Signs a i hi
      have hi2:i < f.Signs.length:=by have:=KV f.Signs a; omega
      have q:(el f.Signs i).Day ≤ a:=of_decide_eq_true (yW (fun x:aO=>decide (x.Day ≤ a)) f.Signs i hi)
      show cG f a true (mV f a) (i:Int) = _
      simp only [cG,show (mV f a).Signs = wU f.Signs a from rfl,mN hi,if_true,eQ _ _ hi,eQ _ _ hi2,e,Option.bind_some,b9 (show i < 9223372036854775807 by omega),beq_self_eq_true,Bool.and_true,Bool.not_true,Bool.false_eq_true,if_false,decide_eq_true_eq]
      rw [if_neg (by omega)]) (by
      show cG f a true (mV f a) (((wU f.Signs a).length:Nat):Int) = _
      simp only [cG,show (mV f a).Signs = wU f.Signs a from rfl,oF,if_false])
     have l2:gM f a true (mV f a) 0 = some (.inl ()):=fB (step:=fun w:Int=>cF f a true (mV f a) w) (fun i=>(i:Int)) (DV f.Acts a).length (.inl ()) (by
      intro i hi
      have e:=aHF f.Acts a i hi
      have hi2:i < f.Acts.length:=by have:=OT f.Acts a; omega
      have q:(el f.Acts i).Day ≤ a:=of_decide_eq_true (yW (fun x:bB=>decide (x.Day ≤ a)) f.Acts i hi)
      show cF f a true (mV f a) (i:Int) = _
      simp only [cF,show (mV f a).Acts = DV f.Acts a from rfl,mN hi,if_true,eQ _ _ hi,eQ _ _ hi2,e,Option.bind_some,b9 (show i < 9223372036854775807 by omega),beq_self_eq_true,Bool.and_true,Bool.not_true,Bool.false_eq_true,if_false,decide_eq_true_eq]
      rw [if_neg (by omega)]) (by
      show cF f a true (mV f a) (((DV f.Acts a).length:Nat):Int) = _
      simp only [cF,show (mV f a).Acts = DV f.Acts a from rfl,oF,if_false])
     have j3:dZ f a true (mV f a) true = some true:=by
      unfold dZ
      rw [show (mV f a).Acts = DV f.Acts a from rfl]
      have hl:=OT f.Acts a
      by_cases e:(DV f.Acts a).length = f.Acts.length
      ·rw [if_pos (by simp [e]),if_pos rfl,if_pos rfl]
      ·have hn:(DV f.Acts a).length < f.Acts.length:=by omega
       have q:=of_decide_eq_false (A6 (fun x:bB=>decide (x.Day ≤ a)) f.Acts hn)
       rw [if_neg (by simp; omega),eQ _ _ hn,Option.bind_some,if_pos rfl,if_pos rfl]
       exact congrArg some (decide_eq_true (by unfold DV; omega))
     rw [if_neg (by simpa using ha),GQ r (mV f a) bg w,Option.bind_some,if_neg (by simp [aCo h0 a (by omega)]),A7 f 100000 (by omega) (by omega) (by omega) (by omega),Option.bind_some,aC3 h0,GN _ (by omega) (by omega) (by omega) (by omega),Option.bind_some,if_neg (by simp),l1,Option.bind_some,Sum.elim_inl,l2,Option.bind_some,Sum.elim_inl,show (mV f a).Signs = wU f.Signs a from rfl]
     have hl:=KV f.Signs a
     by_cases e:(wU f.Signs a).length = f.Signs.length
     ·rw [if_pos (by simp [e]),j3]; rfl
     ·have hn:(wU f.Signs a).length < f.Signs.length:=by omega
      have q:=of_decide_eq_false (A6 (fun x:aO=>decide (x.Day ≤ a)) f.Signs hn)
      rw [if_neg (by simp; omega),eQ _ _ hn,Option.bind_some,decide_eq_true (show (el f.Signs (wU f.Signs a).length).Day > a by unfold wU; omega),j3]
      rfl
   ·rw [if_pos (by simpa using h0)]
end Go.Proofs.Ytfhebiceipgdmaa
