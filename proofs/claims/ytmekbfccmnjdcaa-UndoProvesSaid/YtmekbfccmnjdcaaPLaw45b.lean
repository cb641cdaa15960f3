/- Layer 45 (undo): what falls, and what comes back. -/
import Derived.Test.YtmekbfccmnjdcaaPLaw45
set_option linter.unusedVariables false
set_option linter.unusedSimpArgs false
namespace Go.Proofs.Ytmekbfccmnjdcaa
open Go.RowKit Vm
theorem extB {l m:List Bool} (h:l.length = m.length) (e:∀ i,i < l.length→el l i = el m i):l = m:=by
 apply List.ext_getElem h
 intro i h1 h2
 have:=e i h1
 rwa [el_lt l i h1,el_lt m i h2] at this
theorem take_set (more:List Int) (k:Nat) (hk:k < more.length) (b:Bool) (sk:List Bool):(setAll (more.take k) b sk).set (el more k).toNat b = setAll (more.take (k + 1)) b sk:=by
 unfold setAll
 rw [List.take_add_one,List.foldl_append,List.getElem?_eq_getElem hk,el_lt _ _ hk]
 rfl
theorem take_ok {n:Nat} {more:List Int} {k:Nat} (hk:k < more.length) (h:∀ z ∈ more.take k,0 ≤ z ∧ z.toNat < n) (h2:0 ≤ el more k ∧ (el more k).toNat < n):∀ z ∈ more.take (k + 1),0 ≤ z ∧ z.toNat < n:=by
 intro z hz
 rw [List.take_add_one,List.mem_append,List.getElem?_eq_getElem hk] at hz
 rcases hz with q | q
 ·exact h z q
 ·simp at q
  rw [q,← el_lt more k hk]
  exact h2
theorem law45_back (hs:mallongelaw45_sane = some true) (l:List GLean) (sk:List Bool) (more:List Int):mallongelaw45_UndoBack l sk more = some true:=by
 unfold mallongelaw45_UndoBack
 rw [hs,Option.bind_some]
 obtain ⟨b,hb⟩:=few_total l
 rw [hb,Option.bind_some]
 cases b with
 | false=>rfl
 | true =>
  rw [if_neg (by decide),rightU_eq,Option.bind_some]
  by_cases c1:rightL l
  case neg=>rw [decide_eq_false c1]; rfl
  rw [decide_eq_true c1,if_neg (by decide)]
  have hn:=c1.1
  by_cases c2:sk.length = l.length
  case neg=>rw [if_pos (by simp; omega)]
  rw [if_neg (by rw [c2]; simp)]
  by_cases c3:(more.length:Int) > 60
  case pos=>rw [if_pos (decide_eq_true c3)]
  rw [if_neg (by simpa using c3),if_pos (by omega)]
  obtain ⟨x,h1,h2⟩:=iter_for (step:=fun (w:Int × List Bool)=>mallongelaw45_UndoBack_l1_s l sk more true w.1 w.2) (fun (k:Nat) (p:List Bool)=>((k:Int),p)) more.length
   (fun k p=>p = setAll (more.take k) true sk ∧ (∀ z ∈ more.take k,0 ≤ z ∧ z.toNat < l.length) ∧ ∀ z ∈ more.take k,el sk z.toNat = false)
   (fun x=>x = .inr () ∨ (x = .inl (setAll more true sk) ∧ okM l.length more ∧ ∀ z ∈ more,el sk z.toNat = false))
   (fun k p hk ⟨q1,q2,q3⟩=>by
    simp only [mallongelaw45_UndoBack_l1_s]
    rw [if_pos (by simp; omega),at_el more k hk,Option.bind_some]
    by_cases d1:el more k < 0
    case pos=>right; exact ⟨_,if_pos (decide_eq_true d1),.inl rfl⟩
    rw [if_neg (by simpa using d1),Option.bind_some]
    by_cases d2:el more k ≥ (l.length:Int)
    case pos=>right; exact ⟨_,if_pos (decide_eq_true d2),.inl rfl⟩
    rw [if_neg (by simpa using d2),Option.bind_some,at_eq sk _ (by omega) (by omega),Option.bind_some]
    cases d3:el sk (el more k).toNat with
    | true=>right; exact ⟨_,if_pos rfl,.inl rfl⟩
    | false =>
     left
     have hlen:p.length = l.length:=by rw [q1,setAll_len]; exact c2
     rw [if_neg (by decide),Option.bind_some,if_pos ⟨by omega,by omega⟩,List.getElem?_eq_getElem (by omega),Option.bind_some,wrap_succ (by omega)]
     refine ⟨_,rfl,by rw [q1,take_set _ _ hk],take_ok hk q2 ⟨by omega,by omega⟩,fun z hz=>?_⟩
     rw [List.take_add_one,List.mem_append,List.getElem?_eq_getElem hk] at hz
     rcases hz with q | q
     ·exact q3 z q
     ·simp at q
      rw [q,← el_lt more k hk]
      exact d3)
   (fun p ⟨q1,q2,q3⟩=>⟨_,by simp only [mallongelaw45_UndoBack_l1_s]; rw [if_neg (by simp)],.inr ⟨by rw [q1,List.take_length],by rw [List.take_length] at q2; exact q2,by rw [List.take_length] at q3; exact q3⟩⟩)
   (([]:List Bool) ++ sk) ⟨rfl,by simp,by simp⟩
  rw [show ((0:Nat):Int) = 0 from rfl] at h1
  unfold mallongelaw45_UndoBack_l1
  rw [h1,Option.bind_some]
  rcases h2 with rfl | ⟨rfl,hok,hf⟩
  ·rfl
  ·simp only [Sum.elim_inl]
   have hback:setAll more false (setAll more true sk) = sk:=extB (by rw [setAll_len,setAll_len]) fun i hi=>by
    have hok' : ∀ k ∈ more,0 ≤ k ∧ k.toNat < sk.length:=by rw [c2]; exact hok
    rw [setAll_el false more _ (by rw [setAll_len]; exact hok'),setAll_el true more _ hok']
    by_cases e:(i:Int) ∈ more
    ·rw [if_pos e]
     have:=hf _ e
     rw [Int.toNat_natCast] at this
     exact this.symm
    ·rw [if_neg e,if_neg e]
   have hok2:okS l sk more:=⟨⟨c1,c2⟩,hok⟩
   have hok3:okS l (setAll more true sk) more:=⟨⟨c1,by rw [setAll_len]; exact c2⟩,hok⟩
   rw [if_pos trivial,Strike_eq _ _ _ (by omega),Restore_eq _ _ _ (by omega),if_pos hok2,if_pos hok3,hback,Option.bind_some,Option.bind_some,sameI_eq _ _ (by have:=idL_len l.length fun i=>stand l sk i && !stand l (setAll more true sk) i; omega) rfl]
   rfl
theorem law45_falls (hs:mallongelaw45_sane = some true) (l:List GLean) (sk:List Bool) (more:List Int):mallongelaw45_UndoFalls l sk more = some true:=by
 unfold mallongelaw45_UndoFalls
 rw [hs,Option.bind_some]
 obtain ⟨b,hb⟩:=few_total l
 rw [hb,Option.bind_some]
 cases b with
 | false=>rfl
 | true =>
  rw [if_neg (by decide),rightU_eq,Option.bind_some]
  by_cases c1:rightL l
  case neg=>rw [decide_eq_false c1]; rfl
  rw [decide_eq_true c1,if_neg (by decide)]
  have hn:=c1.1
  by_cases c2:sk.length = l.length
  case neg=>rw [if_pos (by simp; omega)]
  rw [if_neg (by rw [c2]; simp)]
  by_cases c3:(more.length:Int) > 60
  case pos=>rw [if_pos (decide_eq_true c3)]
  rw [if_neg (by simpa using c3),if_pos (by omega)]
  have hbad:∀ k,k < more.length→¬ (0 ≤ el more k ∧ (el more k).toNat < l.length)→mundo_Strike l sk more = some []:=fun k hk hq=>by
   rw [Strike_eq _ _ _ (by omega),if_neg fun q=>hq (q.2 _ (el_mem more k hk))]
  obtain ⟨x,h1,h2⟩:=iter_for (step:=fun (w:Int × List Bool)=>mallongelaw45_UndoFalls_l1_s l sk more true w.1 w.2) (fun (k:Nat) (p:List Bool)=>((k:Int),p)) more.length
   (fun k p=>p = setAll (more.take k) true sk ∧ (∀ z ∈ more.take k,0 ≤ z ∧ z.toNat < l.length))
   (fun x=>x = .inr true ∨ (x = .inl (setAll more true sk) ∧ okM l.length more))
   (fun k p hk ⟨q1,q2⟩=>by
    simp only [mallongelaw45_UndoFalls_l1_s]
    rw [if_pos (by simp; omega),at_el more k hk,Option.bind_some]
    by_cases d1:el more k < 0
    case pos =>
     right
     rw [if_pos (decide_eq_true d1),if_pos trivial,hbad k hk (by omega)]
     exact ⟨_,rfl,.inl rfl⟩
    rw [if_neg (by simpa using d1),Option.bind_some]
    by_cases d2:el more k ≥ (l.length:Int)
    case pos =>
     right
     rw [if_pos (decide_eq_true d2),if_pos trivial,hbad k hk (by omega)]
     exact ⟨_,rfl,.inl rfl⟩
    left
    have hlen:p.length = l.length:=by rw [q1,setAll_len]; exact c2
    rw [if_neg (by simpa using d2),Option.bind_some,if_pos ⟨by omega,by omega⟩,List.getElem?_eq_getElem (by omega),Option.bind_some,wrap_succ (by omega)]
    exact ⟨_,rfl,by rw [q1,take_set _ _ hk],take_ok hk q2 ⟨by omega,by omega⟩⟩)
   (fun p ⟨q1,q2⟩=>⟨_,by simp only [mallongelaw45_UndoFalls_l1_s]; rw [if_neg (by simp)],.inr ⟨by rw [q1,List.take_length],by rw [List.take_length] at q2; exact q2⟩⟩)
   (([]:List Bool) ++ sk) ⟨rfl,by simp⟩
  rw [show ((0:Nat):Int) = 0 from rfl] at h1
  unfold mallongelaw45_UndoFalls_l1
  rw [h1,Option.bind_some]
  rcases h2 with rfl | ⟨rfl,hok⟩
  ·rfl
  ·simp only [Sum.elim_inl]
   have hok' : ∀ k ∈ more,0 ≤ k ∧ k.toNat < sk.length:=by rw [c2]; exact hok
   have hok2:okS l sk more:=⟨⟨c1,c2⟩,hok⟩
   have hnl:(setAll more true sk).length = l.length:=by rw [setAll_len]; exact c2
   rw [Standing_ok c1 c2,Option.bind_some,Standing_ok c1 hnl,Option.bind_some,Strike_eq _ _ _ (by omega),if_pos hok2,Option.bind_some,if_neg (by rw [ints_len]; simp),if_neg (by rw [ints_len]; simp)]
   generalize hnx:setAll more true sk = nx at hnl ⊢
   have hsub:∀ i,i < l.length→el sk i = true→el nx i = true:=fun i hi q=>by
    rw [← hnx,setAll_el true more _ hok']
    split
    ·rfl
    ·exact q
   have hmono:=stand_mono c1 hsub
   have hfl:=idL_len l.length fun i=>stand l sk i && !stand l nx i
   generalize hfell:idL l.length (fun i=>stand l sk i && !stand l nx i) = fell at hfl ⊢
   have hrise:risingP fell l.length:=by rw [← hfell]; exact idL_rising _ _
   rw [refRising_eq _ _ (by omega),Option.bind_some,decide_eq_true hrise,if_neg (by decide),if_pos (by omega),Int.toNat_natCast]
   have hfok:okM (List.replicate l.length false).length fell:=fun k hk=>by
    have:=rising_mem hrise hk
    rw [List.length_replicate]
    omega
   have l2:mallongelaw45_UndoFalls_l2 l true (ints l.length (stand l sk)) (ints l.length (stand l nx)) fell nx 0 (List.replicate l.length false) = some (setAll fell true (List.replicate l.length false)):=by
    unfold mallongelaw45_UndoFalls_l2
    refine setloop true fell _ (by omega) hfok (fun i q hi hq=>?_) fun q=>?_
    ·simp only [mallongelaw45_UndoFalls_l2_s]
     have hk:=hfok _ (el_mem fell i hi)
     rw [if_pos (by simp; omega),at_el _ i hi,Option.bind_some,if_pos ⟨hk.1,by rw [hq]; exact hk.2⟩,List.getElem?_eq_getElem (by rw [hq]; exact hk.2),Option.bind_some,wrap_succ (by omega)]
    ·simp only [mallongelaw45_UndoFalls_l2_s]
     rw [if_neg (by simp)]
   rw [l2,Option.bind_some]
   have hFlen:(setAll fell true (List.replicate l.length false)).length = l.length:=by rw [setAll_len,List.length_replicate]
   have hF:∀ i,i < l.length→el (setAll fell true (List.replicate l.length false)) i = (stand l sk i && !stand l nx i):=fun i hi=>by
    rw [setAll_el true fell _ hfok]
    have hrep:el (List.replicate l.length false) i = false:=by simp [el,hi]
    rw [hrep,Bool.eq_iff_iff]
    have:(i:Int) ∈ fell ↔ (stand l sk i && !stand l nx i) = true:=by
     rw [← hfell,idL_mem]
     exact ⟨fun ⟨j,q1,q2,q3⟩=>by
      have:i = j:=by omega
      rw [this]; exact q2,fun q=>⟨i,hi,q,rfl⟩⟩
    by_cases e:(i:Int) ∈ fell
    ·rw [if_pos e]; exact ⟨fun _=>this.1 e,fun _=>rfl⟩
    ·rw [if_neg e]; exact ⟨fun q=>(by cases q),fun q=>absurd (this.2 q) e⟩
   generalize setAll fell true (List.replicate l.length false) = falls at hFlen hF ⊢
   have l3:∀ i,i < l.length→stand l nx i = false→el nx i = false→mallongelaw45_UndoFalls_l3 l (i:Int) true (ints l.length (stand l sk)) (ints l.length (stand l nx)) falls nx 0 = some (.inl ()):=fun i hi hst hnx'=>by
    have hsup:=(c1.2 i hi).1
    rw [stand_eq c1 nx hi,hnx'] at hst
    have hheld:heldF (el l i) (stand l nx) = false:=by simpa using hst
    have hh:=iter_all? (step:=fun w=>mallongelaw45_UndoFalls_l3_s l (i:Int) true (ints l.length (stand l sk)) (ints l.length (stand l nx)) falls nx w) (fun k:Nat=>(k:Int)) (el l i).Supports.length (fun _=>true) () (fun k hk=>by
     have hmem:=el_mem (el l i).Supports k hk
     have hr:=right_sup c1 hi hmem
     have hin:∀ z ∈ el (el l i).Supports k,0 ≤ z ∧ z.toNat < l.length:=fun z hz=>by have:=right_mem c1 hi hmem hz; omega
     unfold mallongelaw45_UndoFalls_l3_s
     rw [at_el l i hi,Option.bind_some,if_pos (by simp; omega),Option.bind_some,at_el _ k hk,Option.bind_some,all_eq _ _ (by have:=hr.1.2; omega) (by rw [ints_len]; exact hin),Option.bind_some,wrap_succ (by omega)]
     have hw:wholeF (el (el l i).Supports k) (el (ints l.length (stand l sk))) = wholeF (el (el l i).Supports k) (stand l sk):=wholeF_congr fun z hz=>ints_el (hin z hz).2
     rw [hw]
     cases c:wholeF (el (el l i).Supports k) (stand l sk) with
     | false=>rfl
     | true =>
      rw [if_pos rfl,Option.bind_some,at_el _ k hk,Option.bind_some,some_eq _ _ (by have:=hr.1.2; omega) (by rw [hFlen]; exact hin),Option.bind_some]
      have:((el (el l i).Supports k).any fun z=>el falls z.toNat) = true:=by
       rw [List.any_eq_true]
       have hnw:wholeF (el (el l i).Supports k) (stand l nx) = false:=by
        cases q:wholeF (el (el l i).Supports k) (stand l nx) with
        | false=>rfl
        | true =>
         have:heldF (el l i) (stand l nx) = true:=by
          unfold heldF
          rw [Bool.or_eq_true]
          exact .inr (List.any_eq_true.2 ⟨_,hmem,q⟩)
         rw [this] at hheld; cases hheld
       unfold wholeF at hnw c
       have hex:¬ ∀ z ∈ el (el l i).Supports k,stand l nx z.toNat = true:=fun q=>by rw [List.all_eq_true.2 q] at hnw; cases hnw
       rw [Classical.not_forall] at hex
       obtain ⟨z,hz⟩:=hex
       rw [Classical.not_imp] at hz
       refine ⟨z,hz.1,?_⟩
       rw [hF _ (hin z hz.1).2,List.all_eq_true.1 c z hz.1]
       have:stand l nx z.toNat = false:=by simpa using hz.2
       rw [this]; rfl
      rw [this]; rfl) (by
     unfold mallongelaw45_UndoFalls_l3_s
     rw [at_el l i hi,Option.bind_some,if_neg (by simp)])
    rw [show ((0:Nat):Int) = 0 from rfl] at hh
    unfold mallongelaw45_UndoFalls_l3
    rw [hh,if_pos (allN_iff.2 fun _ _=>rfl)]
   have j4:∀ i,i < l.length→mallongelaw45_UndoFalls_j4 l (i:Int) true (ints l.length (stand l sk)) (ints l.length (stand l nx)) falls nx = some (.inl ()) ∨ mallongelaw45_UndoFalls_j4 l (i:Int) true (ints l.length (stand l sk)) (ints l.length (stand l nx)) falls nx = some (.inr (.inl ())):=fun i hi=>by
    unfold mallongelaw45_UndoFalls_j4
    rw [if_pos ⟨by omega,by rw [Int.toNat_natCast]; omega⟩,Int.toNat_natCast,List.getElem?_eq_getElem (by omega),Option.bind_some,← el_lt falls i (by omega),hF i hi]
    cases e1:stand l sk i with
    | false=>left; rfl
    | true =>
     cases e2:stand l nx i with
     | true=>left; rfl
     | false =>
      rw [if_neg (by decide),at_el nx i (by omega),Option.bind_some]
      cases e3:el nx i with
      | true=>left; rfl
      | false =>
       right
       rw [if_neg (by decide),l3 i hi e2 e3,Option.bind_some]
       simp only [Sum.elim_inl]
       rw [at_el l i hi,Option.bind_some,if_neg]
       intro q
       have hnil:(el l i).Supports = []:=List.eq_nil_of_length_eq_zero (by simpa using q)
       rw [stand_eq c1 nx hi,e3] at e2
       unfold heldF at e2
       rw [hnil] at e2
       cases e2
   have h5:=iter_all? (step:=fun w=>mallongelaw45_UndoFalls_l5_s l true (ints l.length (stand l sk)) (ints l.length (stand l nx)) falls nx w) (fun i:Nat=>(i:Int)) l.length (fun _=>true) () (fun i hi=>by
    unfold mallongelaw45_UndoFalls_l5_s
    rw [if_pos (by simp; omega),if_pos ⟨by omega,by rw [Int.toNat_natCast]; omega⟩,Int.toNat_natCast,List.getElem?_eq_getElem (by omega),Option.bind_some,← el_lt falls i (by omega),hF i hi,at_el _ i (by rw [ints_len]; exact hi),Option.bind_some,at_el (ints l.length (stand l nx)) i (by rw [ints_len]; exact hi),ints_el hi,ints_el hi,wrap_succ (by omega)]
    have hm:=hmono i hi
    have hj:=j4 i hi
    cases e1:stand l sk i with
    | true =>
     cases e2:stand l nx i with
     | true =>
      simp only [Option.bind_some,if_true]
      rcases hj with hj | hj <;> rw [hj] <;> rfl
     | false =>
      simp only [Option.bind_some,if_true]
      rcases hj with hj | hj <;> rw [hj] <;> rfl
    | false =>
     cases e2:stand l nx i with
     | true=>rw [e1] at hm; exact absurd (hm e2) (by decide)
     | false =>
      simp only [Option.bind_some,Bool.false_eq_true,if_false]
      rcases hj with hj | hj <;> rw [hj] <;> rfl) (by
    unfold mallongelaw45_UndoFalls_l5_s
    rw [if_neg (by simp)])
   rw [show ((0:Nat):Int) = 0 from rfl] at h5
   unfold mallongelaw45_UndoFalls_l5
   rw [h5,if_pos (allN_iff.2 fun _ _=>rfl)]
   rfl
end Go.Proofs.Ytmekbfccmnjdcaa
