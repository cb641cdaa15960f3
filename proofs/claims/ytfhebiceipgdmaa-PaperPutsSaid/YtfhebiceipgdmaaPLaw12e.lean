/- The laws of layer 12 (paper): PaperPuts, PaperTells. -/
import Derived.Test.YtfhebiceipgdmaaPLaw12d
set_option linter.unusedVariables false
set_option linter.unusedSimpArgs false
namespace Go.Proofs.Ytfhebiceipgdmaa
open Go.RowKit Vm
theorem same12_refl (f:GFile) (h1:f.Signs.length < 1000) (h2:f.Alters.length < 1000) (h3:f.Acts.length < 1000) (h4:f.Facts.length < 1000):mallongeref12_Same f f = some true:=by
 have l1:mallongeref12_Same_l1 f f 0 = some (.inl ()):=by
  refine iter_all (step:=fun w=>mallongeref12_Same_l1_s f f w) (fun i:Nat=>(i:Int)) f.Signs.length _ ?_ ?_
  ·intro i hi
   simp only [mallongeref12_Same_l1_s,lt_t hi,if_true,at_el _ _ hi,Option.bind_some,wrap_succ (show i < 9223372036854775807 by omega),beq_self_eq_true,Bool.and_self,Bool.not_true,Bool.false_eq_true,if_false]
  ·simp only [mallongeref12_Same_l1_s,lt_f,if_false]
 have l2:mallongeref12_Same_l2 f f 0 = some (.inl ()):=by
  refine iter_all (step:=fun w=>mallongeref12_Same_l2_s f f w) (fun i:Nat=>(i:Int)) f.Alters.length _ ?_ ?_
  ·intro i hi
   simp only [mallongeref12_Same_l2_s,lt_t hi,if_true,at_el _ _ hi,Option.bind_some,wrap_succ (show i < 9223372036854775807 by omega),beq_self_eq_true,Bool.and_self,Bool.not_true,Bool.false_eq_true,if_false]
  ·simp only [mallongeref12_Same_l2_s,lt_f,if_false]
 have l3:mallongeref12_Same_l3 f f 0 = some (.inl ()):=by
  refine iter_all (step:=fun w=>mallongeref12_Same_l3_s f f w) (fun i:Nat=>(i:Int)) f.Acts.length _ ?_ ?_
  ·intro i hi
   simp only [mallongeref12_Same_l3_s,lt_t hi,if_true,at_el _ _ hi,Option.bind_some,wrap_succ (show i < 9223372036854775807 by omega),beq_self_eq_true,Bool.and_self,Bool.not_true,Bool.false_eq_true,if_false]
  ·simp only [mallongeref12_Same_l3_s,lt_f,if_false]
 have l4:mallongeref12_Same_l4 f f 0 = some (.inl ()):=by
  refine iter_all (step:=fun w=>mallongeref12_Same_l4_s f f w) (fun i:Nat=>(i:Int)) f.Facts.length _ ?_ ?_
  ·intro i hi
   simp only [mallongeref12_Same_l4_s,lt_t hi,if_true,at_el _ _ hi,Option.bind_some,wrap_succ (show i < 9223372036854775807 by omega),beq_self_eq_true,Bool.and_self,Bool.not_true,Bool.false_eq_true,if_false]
  ·simp only [mallongeref12_Same_l4_s,lt_f,if_false]
 unfold mallongeref12_Same
 simp only [beq_self_eq_true,Bool.and_self,Bool.not_true,Bool.false_eq_true,if_false,bne_self_eq_false,l1,l2,l3,l4,Option.bind_some,Sum.elim_inl]
abbrev addS (f:GFile) (s:GSign):GFile:=GFile.mk f.Bill (f.Signs ++ [s]) f.Alters f.Acts f.Facts
abbrev noFile:GFile:=GFile.mk (GBill.mk 0 0 0 0 0 (GTenor.mk 0 0 0) 0 0 0 0 0 0 0) [] [] [] []
noncomputable def putOf (r:GRealm) (f:GFile) (s:GSign):GFile × Int:=if checkP r (addS f s) = 0 then (addS f s,0) else (noFile,checkP r (addS f s))
theorem put_eq (r:GRealm) (f:GFile) (s:GSign) (bg:BigL r) (w:GRealm.wf r) (h1:f.Signs.length < 1000) (h2:f.Alters.length < 1000) (h3:f.Acts.length < 1000) (h4:f.Facts.length < 1000):mpaper_Put r f s = some (putOf r f s):=by
 unfold mpaper_Put mslices_Clone_api_Sign_api_Sign mslices_Clone_api_Alter_api_Alter mslices_Clone_api_Act_api_Act mslices_Clone_api_Fact_api_Fact putOf
 rw [if_pos (by omega),Option.bind_some,if_pos (by omega),if_pos (by omega),if_pos (by omega),if_pos (by omega)]
 simp only [Option.bind_some,checkP_eq r _ bg w,bne_iff_ne]
 by_cases c:checkP r (addS f s) = 0
 ·rw [if_neg (not_not_intro c),if_pos c]
 ·rw [if_pos c,if_neg c]
theorem onB_take (S:List GSign) (k:Nat) (m part:Int) (h:m.toNat < k):onB (S.take k) m part = onB S m part:=by
 unfold onB
 rw [el_take _ _ _ h]
theorem bearB_take (S:List GSign) (k i:Nat) (ks:List Int) (h:i < k):bearB (S.take k) i ks = bearB S i ks:=by
 unfold bearB
 rw [el_take _ _ _ h]
 by_cases c:0 ≤ (el S i).For ∧ (el S i).For ≤ (i:Int) - 1
 ·rw [onB_take _ _ _ _ (by omega),el_take _ _ _ (by omega)]
 ·rw [decide_eq_false c]; rfl
theorem signErr_take (r:GRealm) (f:GFile) (al:List GAlter) (ac:List GAct) (fa:List GFact) (k i:Nat) (h:i < k):signErr r (GFile.mk f.Bill (f.Signs.take k) al ac fa) i = signErr r f i:=by
 have e1:el (f.Signs.take k) i = el f.Signs i:=el_take _ _ _ h
 have e2:el (f.Signs.take k) (i - 1) = el f.Signs (i - 1):=el_take _ _ _ (by omega)
 have e3:∀ p2 s p4,kindB r (GFile.mk f.Bill (f.Signs.take k) al ac fa) i p2 s p4 = kindB r f i p2 s p4:=by
  intro p2 s p4
  unfold kindB
  simp only [bearB_take _ _ _ _ h]
 have e4:∀ s,twB (f.Signs.take k) s i = twB f.Signs s i:=by
  intro s
  unfold twB
  rw [List.take_take,Nat.min_eq_left (by omega)]
 unfold signErr fitB firstD
 simp only [e1,e2,e3,e4]
theorem pre_zero {r:GRealm} {f:GFile} (k:Nat) (hk:0 < k) (h:checkP r f = 0):checkP r (GFile.mk f.Bill (f.Signs.take k) [] [] []) = 0:=by
 obtain ⟨h1,h2,h3,h4,h5,h6,h7⟩:=checkP_zero.1 h
 have hl:(f.Signs.take k).length ≤ f.Signs.length ∧ (f.Signs.take k).length ≤ k ∧ 0 < (f.Signs.take k).length:=by simp; omega
 refine checkP_zero.2 ⟨⟨by show (f.Signs.take k).length ≤ 40; omega,Nat.zero_le _,Nat.zero_le _,Nat.zero_le _⟩,h2,hl.2.2,fun i hi=>?_,fun i hi=>absurd hi (Nat.not_lt_zero _),fun i hi=>absurd hi (Nat.not_lt_zero _),fun i hi=>absurd hi (Nat.not_lt_zero _)⟩
 have hi' : i < (f.Signs.take k).length:=hi
 rw [signErr_take r f [] [] [] k i (by omega)]
 exact h4 i (by omega)
section
variable (hs:mallongelaw12_sane = some true)
include hs
theorem law12_puts (r:GRealm) (f:GFile) (bg:BigL r) (w:GRealm.wf r):mallongelaw12_PaperPuts r f = some true:=by
 unfold mallongelaw12_PaperPuts
 obtain ⟨x,e1,g⟩:=few12_spec f
 rw [hs,e1]
 cases x with
 | false=>rfl
 | true =>
  obtain ⟨g1,g2,g3,g4⟩:=g rfl
  simp only [Option.bind_some,Bool.not_true,Bool.false_eq_true,if_false,checkP_eq r f bg w,bne_iff_ne]
  by_cases h0:checkP r f = 0
  ·rw [if_neg (not_not_intro h0)]
   have key:mallongelaw12_PaperPuts_l1 r f true 0 f.Bill.Drawer f.Bill.Drawee f.Bill.Payee f.Bill.Sum f.Bill.Currency f.Bill.Tenor.Kind f.Bill.Tenor.N f.Bill.Tenor.Unit f.Bill.Day f.Bill.City f.Bill.Pay f.Bill.Need f.Bill.Rate f.Bill.Flags f.Bill.Parts [] [] [] [] =
     some (.inl (f.Bill.Drawer,f.Bill.Drawee,f.Bill.Payee,f.Bill.Sum,f.Bill.Currency,f.Bill.Tenor.Kind,f.Bill.Tenor.N,f.Bill.Tenor.Unit,f.Bill.Day,f.Bill.City,f.Bill.Pay,f.Bill.Need,f.Bill.Rate,f.Bill.Flags,f.Bill.Parts,f.Signs,[],[],[])):=by
    unfold mallongelaw12_PaperPuts_l1
    refine iter_all (fun k:Nat=>((k:Int),f.Bill.Drawer,f.Bill.Drawee,f.Bill.Payee,f.Bill.Sum,f.Bill.Currency,f.Bill.Tenor.Kind,f.Bill.Tenor.N,f.Bill.Tenor.Unit,f.Bill.Day,f.Bill.City,f.Bill.Pay,f.Bill.Need,f.Bill.Rate,f.Bill.Flags,f.Bill.Parts,f.Signs.take k,[],[],[])) f.Signs.length _ ?_ ?_
    ·intro k hk
     have hp:=put_eq r (GFile.mk f.Bill (f.Signs.take k) [] [] []) (el f.Signs k) bg w (by show (f.Signs.take k).length < 1000; simp; omega) (Nat.zero_lt_succ 999) (Nat.zero_lt_succ 999) (Nat.zero_lt_succ 999)
     have ha:addS (GFile.mk f.Bill (f.Signs.take k) [] [] []) (el f.Signs k) = GFile.mk f.Bill (f.Signs.take (k + 1)) [] [] []:=by
      show GFile.mk f.Bill (f.Signs.take k ++ [el f.Signs k]) [] [] [] = _
      rw [← take_el12 _ _ hk]
     unfold putOf at hp
     rw [ha,if_pos (pre_zero (k + 1) (by omega) h0)] at hp
     have hp' : mpaper_Put r (GFile.mk (GBill.mk f.Bill.Drawer f.Bill.Drawee f.Bill.Payee f.Bill.Sum f.Bill.Currency (GTenor.mk f.Bill.Tenor.Kind f.Bill.Tenor.N f.Bill.Tenor.Unit) f.Bill.Day f.Bill.City f.Bill.Pay f.Bill.Need f.Bill.Rate f.Bill.Flags f.Bill.Parts) (f.Signs.take k) [] [] []) (el f.Signs k) = some (GFile.mk f.Bill (f.Signs.take (k + 1)) [] [] [],0):=hp
     have hl:(f.Signs.take (k + 1)).length = k + 1:=by simp; omega
     have he:el (f.Signs.take (k + 1)) k = el f.Signs k:=el_take _ _ _ (by omega)
     simp only [mallongelaw12_PaperPuts_l1_s,lt_t hk,if_true,at_el _ _ hk,Option.bind_some,hp',bne_self_eq_false,Bool.false_eq_true,if_false,wrap_succ (show k < 9223372036854775807 by omega),hl,at_el (f.Signs.take (k + 1)) k (by omega),he,beq_self_eq_true,Bool.and_self,Bool.not_true,checkP_eq r _ bg w,pre_zero (k + 1) (by omega) h0]
    ·simp only [mallongelaw12_PaperPuts_l1_s,lt_f,if_false,List.take_length]
   rw [key]
   simp only [Option.bind_some,Sum.elim_inl,if_true]
   have e:mallongeref12_Same (GFile.mk f.Bill f.Signs [] [] []) (GFile.mk f.Bill f.Signs [] [] []) = some true:=same12_refl _ (by show f.Signs.length < 1000; omega) (Nat.zero_lt_succ 999) (Nat.zero_lt_succ 999) (Nat.zero_lt_succ 999)
   exact congrArg (fun o=>o.bind fun r51:Bool=>some r51) e
  ·rw [if_pos h0]
end
end Go.Proofs.Ytfhebiceipgdmaa
