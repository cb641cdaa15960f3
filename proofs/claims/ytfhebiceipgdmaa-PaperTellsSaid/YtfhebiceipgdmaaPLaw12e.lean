/- The laws of layer 12 (paper): PaperPuts, PaperTells. -/
import Derived.Test.YtfhebiceipgdmaaPLaw12d
set_option linter.unusedVariables false
set_option linter.unusedSimpArgs false
namespace Go.Proofs.Ytfhebiceipgdmaa
open Go.RowKit Vm
theorem L9 (f:aB) (h1:f.Signs.length < 1000) (h2:f.Alters.length < 1000) (h3:f.Acts.length < 1000) (h4:f.Facts.length < 1000):iB f f = some true:=by
 have l1:nN f f 0 = some (.inl ()):=by
  refine dB (step:=fun w=>fB f f w) (fun i:Nat=>(i:Int)) f.Signs.length _ ?_ ?_
  ·intro i hi
   simp only [fB,i8 hi,if_true,cY _ _ hi,Option.bind_some,b9 (show i < 9223372036854775807 by omega),beq_self_eq_true,Bool.and_self,Bool.not_true,Bool.false_eq_true,if_false]
  ·simp only [fB,kH,if_false]
 have l2:nI f f 0 = some (.inl ()):=by
  refine dB (step:=fun w=>fE f f w) (fun i:Nat=>(i:Int)) f.Alters.length _ ?_ ?_
  ·intro i hi
   simp only [fE,i8 hi,if_true,cY _ _ hi,Option.bind_some,b9 (show i < 9223372036854775807 by omega),beq_self_eq_true,Bool.and_self,Bool.not_true,Bool.false_eq_true,if_false]
  ·simp only [fE,kH,if_false]
 have l3:nJ f f 0 = some (.inl ()):=by
  refine dB (step:=fun w=>fH f f w) (fun i:Nat=>(i:Int)) f.Acts.length _ ?_ ?_
  ·intro i hi
   simp only [fH,i8 hi,if_true,cY _ _ hi,Option.bind_some,b9 (show i < 9223372036854775807 by omega),beq_self_eq_true,Bool.and_self,Bool.not_true,Bool.false_eq_true,if_false]
  ·simp only [fH,kH,if_false]
 have l4:nO f f 0 = some (.inl ()):=by
  refine dB (step:=fun w=>eX f f w) (fun i:Nat=>(i:Int)) f.Facts.length _ ?_ ?_
  ·intro i hi
   simp only [eX,i8 hi,if_true,cY _ _ hi,Option.bind_some,b9 (show i < 9223372036854775807 by omega),beq_self_eq_true,Bool.and_self,Bool.not_true,Bool.false_eq_true,if_false]
  ·simp only [eX,kH,if_false]
 unfold iB
 simp only [beq_self_eq_true,Bool.and_self,Bool.not_true,Bool.false_eq_true,if_false,bne_self_eq_false,l1,l2,l3,l4,Option.bind_some,Sum.elim_inl]
theorem H8 (l:List Int) (hl:l.length < 9223372036854775807):dJ l l = some true:=by
 unfold dJ
 have:kT l l 0 = some (.inl ()):=by
  refine dB (step:=fun w=>dK l l w) (fun i=>(i:Int)) l.length _ ?_ ?_
  ·intro i hi
   simp only [dK,i8 hi,if_true,cY _ _ hi,Option.bind_some,b9 (show i < 9223372036854775807 by omega),bne_self_eq_false,Bool.false_eq_true,if_false]
  ·simp only [dK,kH,if_false]
 rw [this]
 simp
theorem NQ (l:List Bool) (hl:l.length < 9223372036854775807):gD l l = some true:=by
 unfold gD
 have:iW l l 0 = some (.inl ()):=by
  refine dB (step:=fun w=>dD l l w) (fun i=>(i:Int)) l.length _ ?_ ?_
  ·intro i hi
   simp only [dD,i8 hi,if_true,cY _ _ hi,Option.bind_some,b9 (show i < 9223372036854775807 by omega),beq_self_eq_true,Bool.not_true,Bool.false_eq_true,if_false]
  ·simp only [dD,kH,if_false]
 rw [this]
 simp
abbrev TF (f:aB) (s:aX):aB:=aB.mk f.Bill (f.Signs ++ [s]) f.Alters f.Acts f.Facts
abbrev aKi:aB:=aB.mk (bF.mk 0 0 0 0 0 (bR.mk 0 0 0) 0 0 0 0 0 0 0) [] [] [] []
noncomputable def NG (r:aA) (f:aB) (s:aX):aB × Int:=if GK r (TF f s) = 0 then (TF f s,0) else (aKi,GK r (TF f s))
theorem aKo (r:aA) (f:aB) (s:aX) (bg:wT r) (w:aA.wf r) (h1:f.Signs.length < 1000) (h2:f.Alters.length < 1000) (h3:f.Acts.length < 1000) (h4:f.Facts.length < 1000):fY r f s = some (NG r f s):=by
 unfold fY eU eA fJ eT NG
 rw [if_pos (by omega),Option.bind_some,if_pos (by omega),if_pos (by omega),if_pos (by omega),if_pos (by omega)]
 simp only [Option.bind_some,QR r _ bg w,bne_iff_ne]
 by_cases c:GK r (TF f s) = 0
 ·rw [if_neg (not_not_intro c),if_pos c]
 ·rw [if_pos c,if_neg c]
theorem WH (r:aA) (f:aB) (s:aX) (bg:wT r) (w:aA.wf r) (wf:∀ i,i < f.Signs.length→pL (el f.Signs i).Flags) (ws:pL s.Flags) (h1:f.Signs.length < 1000):mI r f s = some (NG r f s):=by
 unfold mI NG
 have wa:∀ i,i < (TF f s).Signs.length→pL (el (TF f s).Signs i).Flags:=by
  intro i hi
  have hi' : i < f.Signs.length + 1:=by
   have:(f.Signs ++ [s]).length = f.Signs.length + 1:=by simp
   rw [← this]; exact hi
  show pL (el (f.Signs ++ [s]) i).Flags
  by_cases c:i < f.Signs.length
  ·have e:el (f.Signs ++ [s]) i = el f.Signs i:=by
    unfold el
    rw [List.getD_eq_getElem?_getD,List.getD_eq_getElem?_getD,List.getElem?_append_left c]
   rw [e]; exact wf i c
  ·have e:el (f.Signs ++ [s]) i = s:=by
    have:i = f.Signs.length:=by omega
    subst this
    unfold el
    rw [List.getD_eq_getElem?_getD,List.getElem?_append_right (Nat.le_refl _)]; simp
   rw [e]; exact ws
 simp only [List.nil_append]
 rw [if_pos (by omega),if_pos (by omega)]
 simp only [L1 r (TF f s) bg w wa,Option.bind_some,bne_iff_ne]
 by_cases c:GK r (TF f s) = 0
 ·rw [if_neg (not_not_intro c),if_pos c]
 ·rw [if_pos c,if_neg c]
theorem aBF (f:aB) (part:Int) (hl:f.Signs.length ≤ 50):nC f part = some (ofL f part):=by
 have l1:mU f part 0 [] = some (ofL f part):=by
  unfold mU
  refine dB (step:=fun w=>fV f part w.1 w.2) (fun k:Nat=>((k:Int),(ofN f.Signs part k).map fun i:Nat=>(i:Int))) f.Signs.length (ofL f part) ?_ ?_
  ·intro k hk
   have:=R0 f.Signs part k
   simp only [fV,i8 hk,if_true,RO f _ _ (.inr ⟨show (0:Int) ≤ (k:Int) by omega,show (k:Int) < f.Signs.length by omega⟩),Option.bind_some,b9 (show k < 9223372036854775807 by omega),UU,List.length_map]
   by_cases h:SU f.Signs (k:Int) part = true
   ·rw [if_pos h,if_pos (by omega),if_pos h]; simp
   ·rw [if_neg h,if_neg h]
  ·simp only [fV,kH,if_false]; rfl
 unfold nC
 rw [l1]; rfl
theorem OQ (f:aB) (hl:f.Signs.length ≤ 50):gY f = some (WZ f):=by
 have l1:hU f 0 [] = some (WZ f):=by
  unfold hU
  refine dB (step:=fun w=>dW f w.1 w.2) (fun k:Nat=>((k:Int),(MK f.Signs k).map fun i:Nat=>(i:Int))) f.Signs.length (WZ f) ?_ ?_
  ·intro k hk
   have h1:=List.length_filter_le (fun i:Nat=>(el f.Signs i).Kind == 1) (List.range k)
   have h2:(MK f.Signs k).length ≤ k:=by simpa [MK] using h1
   simp only [dW,i8 hk,if_true,cY _ _ hk,Option.bind_some,b9 (show k < 9223372036854775807 by omega),QE,List.length_map]
   by_cases h:((el f.Signs k).Kind == 1) = true
   ·rw [if_pos h,if_pos (by omega),if_pos h]; simp
   ·rw [if_neg h,if_neg h]
  ·simp only [dW,kH,if_false]; rfl
 unfold gY
 rw [l1]; rfl
theorem PX (f:aB) (day:Int) (h1:f.Signs.length ≤ 50) (h2:f.Acts.length < 1000):iN f day = some (zP f day f.Acts.length):=by
 have l2:iG f day 0 [] = some (zP f day f.Acts.length):=by
  unfold iG
  refine dB (step:=fun w=>eE f day w.1 w.2) (fun i:Nat=>((i:Int),(List.range i).map fun i:Nat=>MW f day f.Acts.length (i:Int))) f.Signs.length _ ?_ ?_
  ·intro i hi
   have l1:∀ l,iF f day i l false 0 = some (MW f day f.Acts.length (i:Nat)):=by
    intro l
    unfold iF
    refine dB (step:=fun w=>eH f day i l w.1 w.2) (fun k:Nat=>(MW f day k (i:Nat),(k:Int))) f.Acts.length (MW f day f.Acts.length (i:Nat)) ?_ ?_
    ·intro k hk
     simp only [eH,i8 hk,if_true,cY _ _ hk,Option.bind_some,b9 (show k < 9223372036854775807 by omega),KP _ _ _ _ hk]
     cases MW f day k (i:Nat) with
     | true=>rfl
     | false =>
      simp only [Bool.false_eq_true,if_false,Bool.false_or,NY]
      cases (el f.Acts k).Kind == 7 with
      | false=>rfl
      | true =>
       simp only [if_true,Bool.true_and]
       cases (el f.Acts k).At == (i:Int) with
       | false=>rfl
       | true=>rfl
    ·simp only [eH,kH,if_false]
   simp only [eE,i8 hi,if_true,l1,Option.bind_some,b9 (show i < 9223372036854775807 by omega),List.length_map,List.length_range]
   rw [if_pos (by omega),List.range_succ,List.map_append]; rfl
  ·simp only [eE,kH,if_false]; rfl
 unfold iN
 rw [l2]; rfl
theorem R9 (f:aB) (i:Int) (hl:f.Alters.length < 1000):kD f i = some (FK f.Alters f.Bill.Sum i):=by
 have key:∀ m:Nat,m ≤ f.Alters.length→∃ x,jP f i ((m:Int) - 1) = some x ∧ Sum.elim (fun _=>some f.Bill.Sum) (fun z=>some z) x = some (FK (f.Alters.take m) f.Bill.Sum i):=by
  intro m
  unfold jP
  induction m with
  | zero =>
   intro _
   refine ⟨.inl (),rT ?_,rfl⟩
   simp only [eQ]
   rw [if_neg (fun q=>absurd (of_decide_eq_true q) (by omega))]
  | succ m ih =>
   intro hm
   have e:((m + 1:Nat):Int) - 1 = (m:Int):=by omega
   rw [e,G6 _ _ (by omega),WV]
   have hs:eQ f i (m:Int) = if (el f.Alters m).At ≤ i then some (.inr (.inr (el f.Alters m).Sum)) else some (.inl ((m:Int) - 1)):=by
    simp only [eQ]
    rw [if_pos (decide_eq_true (show (m:Int) ≥ 0 by omega)),cY f.Alters m (by omega),dG (by omega) (by omega)]
    simp only [Option.bind_some,decide_eq_true_eq]
   by_cases c:(el f.Alters m).At ≤ i
   ·rw [if_pos c] at hs
    rw [if_pos c]
    exact ⟨_,rT hs,rfl⟩
   ·rw [if_neg c] at hs
    rw [if_neg c,D1 hs]
    exact ih (by omega)
 obtain ⟨x,h1,h2⟩:=key f.Alters.length (Nat.le_refl _)
 unfold kD
 rw [dG (by omega) (by omega),h1,Option.bind_some]
 rw [List.take_length] at h2
 exact h2
section
variable (hs:fN = some true)
include hs
theorem TG (r:aA) (f:aB) (s:aX) (i day:Int) (bg:wT r) (w:aA.wf r) (wf:aB.wf f) (ws:aX.wf s):hX r f s i day = some true:=by
 unfold hX
 obtain ⟨x,e1,g⟩:=XN f
 rw [hs,e1]
 cases x with
 | false=>rfl
 | true =>
  obtain ⟨g1,g2,g3,g4⟩:=g rfl
  have wfl:∀ i,i < f.Signs.length→pL (el f.Signs i).Flags:=fun i hi=>by
   have:=wf.2.1.2 _ (GT _ i hi)
   exact this.2.2.2.2.2.2.2.2
  have wsl:pL s.Flags:=ws.2.2.2.2.2.2.2.2
  have hsame:iB (NG r f s).1 (NG r f s).1 = some true:=by
   unfold NG
   split
   ·exact L9 _ (by show (f.Signs ++ [s]).length < 1000; simp; omega) (by show f.Alters.length < 1000; omega) (by show f.Acts.length < 1000; omega) (by show f.Facts.length < 1000; omega)
   ·exact L9 _ (Nat.zero_lt_succ 999) (Nat.zero_lt_succ 999) (Nat.zero_lt_succ 999) (Nat.zero_lt_succ 999)
  have ho:=R0 f.Signs i f.Signs.length
  have ha:=List.length_filter_le (fun i:Nat=>(el f.Signs i).Kind == 1) (List.range f.Signs.length)
  rw [List.length_range] at ha
  simp only [Option.bind_some,Bool.not_true,Bool.false_eq_true,if_false,aKo r f s bg w (by omega) (by omega) (by omega) (by omega),WH r f s bg w wfl wsl (by omega),bne_self_eq_false,hsame,QR r f bg w,L1 r f bg w wfl,if_true,
   aK1 f i (by omega),aBF f i (by omega),aAK f day g1 g3,PX f day (by omega) (by omega),WI f (by omega),OQ f (by omega),aEQ f i (by omega),R9 f i (by omega)]
  rw [H8 _ (by unfold ofL; rw [List.length_map]; omega)]
  simp only [Option.bind_some,if_true]
  rw [NQ _ (by rw [T1]; omega)]
  simp only [Option.bind_some,if_true]
  rw [H8 _ (by unfold WZ MK; rw [List.length_map]; omega)]
  simp only [Option.bind_some,if_true,beq_self_eq_true]
end
end Go.Proofs.Ytfhebiceipgdmaa
