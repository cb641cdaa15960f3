/- Layer 45 (undo): reasons and refutations. -/
import Derived.Test.YtmekbfccmnjdcaaPUndo2
set_option linter.unusedVariables false
set_option linter.unusedSimpArgs false
namespace Go.Proofs.Ytmekbfccmnjdcaa
open Go.RowKit Vm
theorem fill_all {step:Int × MB→Option ((Int × MB) ⊕ MB)} (n:Nat) (hn:n ≤ 1000) (h:∀ (k:Nat) (a:MB),k < n→a.length ≤ n→step ((k:Int),a) = some (.inl (((k + 1:Nat):Int),putG (k:Int) true a))) (he:∀ a,step ((n:Int),a) = some (.inr a)) :
  Iter step (0,[]) = some (can n fun _=>true):=by
 obtain ⟨x,h1,h2⟩:=iter_for (step:=step) (fun (k:Nat) (p:MB)=>((k:Int),p)) n (fun k p=>p = can n fun i=>decide (i < k)) (fun x=>x = can n fun _=>true)
  (fun k p hk hp=>.inl ⟨_,h k p hk (by rw [hp]; exact can_len _ _),by
   rw [hp,can_put _ _ _ hk]
   exact can_congr fun i _=>by
    by_cases e:i = k
    ·subst e; simp
    ·have:decide (i < k + 1) = decide (i < k):=decide_eq_decide.2 ⟨fun q=>by omega,fun q=>by omega⟩
     rw [this,decide_eq_false e,Bool.or_false]⟩)
  (fun p hp=>⟨p,he p,by rw [hp]; exact can_congr fun i hi=>by simp [hi]⟩) [] (by rw [← can_none n]; exact can_congr fun i _=>by simp)
 rw [show ((0:Nat):Int) = 0 from rfl] at h1
 rw [h1,h2]
theorem whyAll (l:List GLean) (r2:MB) (hn:l.length ≤ 300):mundo_Why_l1 l r2 0 [] = some (can l.length fun _=>true) :=
 fill_all l.length (by omega) (fun k a hk ha=>by
  simp only [mundo_Why_l1_s]
  rw [if_pos (by simp; omega),if_pos (in64_small (by omega) (by omega)),if_pos (by omega),wrap_succ (by omega)]) (fun a=>by
  simp only [mundo_Why_l1_s]
  rw [if_neg (by simp)])
theorem whySub (n:Nat) (f g:Nat→Bool):mundo_Why_l2 (can n g) 0 (can n f) = some (can n fun i=>f i && !g i) :=
 loop_one (by
  simp only [mundo_Why_l2_s]
  rw [if_pos (by simp),if_pos (by omega),wrap1]
  simp only [Int.toNat_zero,List.getElem?_cons_zero,Option.bind_some,subO,can_sub]) (by
  simp only [mundo_Why_l2_s]
  rw [if_neg (by simp)])
def memF (s:List Int) (i:Nat):Bool:=s.any fun k=>decide (k = (i:Int))
theorem memF_iff {s:List Int} {i:Nat}:memF s i = true ↔ (i:Int) ∈ s:=by
 unfold memF
 rw [List.any_eq_true]
 exact ⟨fun ⟨k,h1,h2⟩=>by have:=of_decide_eq_true h2; rw [← this]; exact h1,fun h=>⟨_,h,decide_eq_true rfl⟩⟩
theorem take_memF {s:List Int} {k i:Nat} (hk:k < s.length) (h:0 ≤ el s k):(memF (s.take k) i || decide (i = (el s k).toNat)) = memF (s.take (k + 1)) i:=by
 rw [Bool.eq_iff_iff,Bool.or_eq_true,memF_iff,memF_iff,decide_eq_true_eq,List.take_add_one,List.mem_append,List.getElem?_eq_getElem hk,el_lt s k hk]
 rw [el_lt s k hk] at h
 simp only [Option.toList_some,List.mem_singleton]
 constructor
 ·rintro (q | q)
  ·exact .inl q
  ·right; omega
 ·rintro (q | q)
  ·exact .inl q
  ·right; omega
theorem whyPut (l:List GLean) (a:Int) (r2:MB) (s:List Int) (n:Nat) (f:Nat→Bool) (hn:n ≤ 1000) (hs:s.length ≤ 1000000) (hok:∀ k ∈ s,0 ≤ k ∧ k.toNat < n):mundo_Why_l3 l a r2 s 0 (can n f) = some (can n fun i=>f i || memF s i):=by
 unfold mundo_Why_l3
 obtain ⟨x,h1,h2⟩:=iter_for (step:=fun (w:Int × MB)=>mundo_Why_l3_s l a r2 s w.1 w.2) (fun (k:Nat) (p:MB)=>((k:Int),p)) s.length (fun k p=>p = can n fun i=>f i || memF (s.take k) i) (fun x=>x = can n fun i=>f i || memF s i)
  (fun k p hk hp=>by
   subst hp
   have hm:=hok _ (el_mem s k hk)
   refine .inl ⟨can n fun i=>f i || memF (s.take (k + 1)) i,?_,rfl⟩
   simp only [mundo_Why_l3_s]
   rw [if_pos (by simp; omega),at_el s k hk,Option.bind_some,if_pos (in64_small hm.1 (by omega)),if_pos (by have:=can_len n (fun i=>f i || memF (s.take k) i); omega),wrap_succ (by omega)]
   have:=can_put n (fun i=>f i || memF (s.take k) i) (el s k).toNat hm.2
   rw [Int.toNat_of_nonneg hm.1] at this
   rw [this]
   congr 3
   exact can_congr fun i _=>by rw [Bool.or_assoc,take_memF hk hm.1])
  (fun p hp=>⟨p,by simp only [mundo_Why_l3_s]; rw [if_neg (by simp)],by rw [hp,List.take_length]⟩) (can n f) (can_congr fun i _=>by simp [memF])
 rw [show ((0:Nat):Int) = 0 from rfl] at h1
 rw [h1,h2]
theorem whyNone (r:MB):mundo_Why_l6 r = some ():=iter_end (by
 unfold mundo_Why_l6_s
 rw [if_neg (by decide)])
theorem contains_eq (s:List Int) (a:Int) (hs:s.length ≤ 1000000):mslices_Contains_int_int s a = some (decide (a ∈ s)):=by
 obtain ⟨r,h1,h2⟩:=index_first (step:=fun w=>mslices_Index_int_int_l1_s s a w) s.length (fun i=>a == el s i) (fun i hi=>by
  unfold mslices_Index_int_int_l1_s
  rw [if_pos (by simp; omega),at_el s i hi,Option.bind_some,wrap_succ (by omega)]
  cases a == el s i <;> rfl) (by
  unfold mslices_Index_int_int_l1_s
  rw [if_neg (by simp)])
 unfold mslices_Contains_int_int mslices_Index_int_int mslices_Index_int_int_l1
 rw [h1,Option.bind_some,h2]
 congr 1
 rw [Bool.eq_iff_iff,decide_eq_true_eq]
 constructor
 ·intro q
  have q2:¬ ∀ i,i < s.length→(!(a == el s i)) = true:=fun z=>by rw [allN_iff.2 z] at q; cases q
  rw [Classical.not_forall] at q2
  obtain ⟨i,q3⟩:=q2
  rw [Classical.not_imp] at q3
  have:a = el s i:=by simpa using q3.2
  rw [this]
  exact el_mem s i q3.1
 ·intro hm
  obtain ⟨i,hi,he⟩:=mem_el hm
  cases q:allN (fun i=>!(a == el s i)) s.length with
  | false=>rfl
  | true=>have:=allN_iff.1 q i hi; rw [he] at this; simp at this
def provesAt (l:List GLean) (sk:List Bool) (list:List Int) (stands:Bool) (k:Nat):Bool:=if stands = true then !el sk k && heldF (el l k) (memF list) else el sk k || !heldF (el l k) (fun i=>!memF list i)
def provesB (l:List GLean) (sk:List Bool) (list:List Int) (stands:Bool):Bool:=list.all fun k=>provesAt l sk list stands k.toNat
def okP (l:List GLean) (sk:List Bool) (act:Int) (list:List Int):Prop:=((rightL l ∧ sk.length = l.length) ∧ risingP list l.length) ∧ act ∈ list
instance (l:List GLean) (sk:List Bool) (act:Int) (list:List Int):Decidable (okP l sk act list):=by unfold okP; exact inferInstance
theorem Proves_eq (l:List GLean) (sk:List Bool) (act:Int) (list:List Int) (stands:Bool) (hlist:list.length ≤ 1000000):mundo_Proves l sk act list stands = some (decide (okP l sk act list) && provesB l sk list stands):=by
 unfold mundo_Proves
 rw [rightU_eq,Option.bind_some]
 by_cases c1:rightL l
 case neg=>rw [decide_eq_false c1,if_pos (by decide),decide_eq_false fun q=>c1 q.1.1.1]; rfl
 rw [decide_eq_true c1,if_neg (by decide)]
 have hn:=c1.1
 by_cases c2:sk.length = l.length
 case neg=>rw [if_pos (by simp; omega),decide_eq_false fun q=>c2 q.1.1.2]; rfl
 rw [if_neg (by rw [c2]; simp),rising_eq _ _ hlist,Option.bind_some]
 by_cases c3:risingP list l.length
 case neg=>rw [decide_eq_false c3,if_pos (by decide),decide_eq_false fun q=>c3 q.1.2]; rfl
 rw [decide_eq_true c3,if_neg (by decide),contains_eq _ _ hlist,Option.bind_some]
 by_cases c4:act ∈ list
 case neg=>rw [decide_eq_false c4,if_pos (by decide),decide_eq_false fun q=>c4 q.2]; rfl
 have hokP:okP l sk act list:=⟨⟨⟨c1,c2⟩,c3⟩,c4⟩
 rw [decide_eq_true c4,if_neg (by decide),decide_eq_true hokP,Bool.true_and]
 have hin:∀ k ∈ list,0 ≤ k ∧ k.toNat < l.length:=fun k hk=>by have:=rising_mem c3 hk; omega
 have l1:mundo_Proves_l1 l sk list stands 0 [] = some (can l.length fun _=>true):=fill_all l.length (by omega) (fun k a hk ha=>by
  simp only [mundo_Proves_l1_s]
  rw [if_pos (by simp; omega),if_pos (in64_small (by omega) (by omega)),if_pos (by omega),wrap_succ (by omega)]) (fun a=>by
  simp only [mundo_Proves_l1_s]
  rw [if_neg (by simp)])
 have l2:mundo_Proves_l2 l sk list stands 0 [] (can l.length fun _=>true) = some (can l.length (memF list),can l.length fun i=>!memF list i):=by
  unfold mundo_Proves_l2
  obtain ⟨x,h1,h2⟩:=iter_for (step:=fun (w:Int × MB × MB)=>mundo_Proves_l2_s l sk list stands w.1 w.2.1 w.2.2) (fun (k:Nat) (p:MB × MB)=>((k:Int),p.1,p.2)) list.length
   (fun k p=>p = (can l.length (memF (list.take k)),can l.length fun i=>!memF (list.take k) i)) (fun x=>x = (can l.length (memF list),can l.length fun i=>!memF list i))
   (fun k p hk hp=>by
    subst hp
    have hm:=hin _ (el_mem list k hk)
    refine .inl ⟨(can l.length (memF (list.take (k + 1))),can l.length fun i=>!memF (list.take (k + 1)) i),?_,rfl⟩
    simp only [mundo_Proves_l2_s]
    rw [if_pos (by simp; omega),at_el list k hk,Option.bind_some,if_pos (in64_small hm.1 (by omega)),if_pos (by have:=can_len l.length (memF (list.take k)); omega),if_pos (in64_small hm.1 (by omega)),wrap_succ (by omega)]
    have e1:=can_put l.length (memF (list.take k)) (el list k).toNat hm.2
    have e2:=can_del l.length (fun i=>!memF (list.take k) i) (el list k).toNat
    rw [Int.toNat_of_nonneg hm.1] at e1 e2
    rw [e1,e2]
    have g1:(can l.length fun i=>memF (list.take k) i || decide (i = (el list k).toNat)) = can l.length (memF (list.take (k + 1))):=can_congr fun i _=>take_memF hk hm.1
    have g2:(can l.length fun i=>!memF (list.take k) i && !decide (i = (el list k).toNat)) = can l.length fun i=>!memF (list.take (k + 1)) i:=can_congr fun i _=>by rw [← take_memF hk hm.1,Bool.not_or]
    rw [g1,g2])
   (fun p hp=>⟨p,by simp only [mundo_Proves_l2_s]; rw [if_neg (by simp)],by rw [hp,List.take_length]⟩) ([],can l.length fun _=>true) (by
    have:(fun i=>!memF (list.take 0) i) = fun _=>true:=by funext i; simp [memF]
    rw [this]
    have:can l.length (memF (list.take 0)) = []:=by rw [← can_none l.length]; exact can_congr fun i _=>by simp [memF]
    rw [this])
  rw [show ((0:Nat):Int) = 0 from rfl] at h1
  rw [h1,h2]
 rw [l1,Option.bind_some,l2,Option.bind_some]
 have j3:∀ (p:Int) (k:Nat),k < l.length→mundo_Proves_j3 l sk list stands p (can l.length (memF list),can l.length fun i=>!memF list i) (k:Int) = some (if (stands || (el sk k || !heldF (el l k) fun i=>!memF list i)) = true then .inl () else .inr ()):=fun p k hk=>by
  unfold mundo_Proves_j3
  cases stands with
  | true=>rfl
  | false =>
   rw [if_pos (by decide),at_el sk k (by omega),Option.bind_some]
   cases c:el sk k with
   | true=>rfl
   | false =>
    rw [if_pos (by decide),at_el l k hk,Option.bind_some]
    simp only
    rw [held_right c1 hk,Option.bind_some]
    cases heldF (el l k) fun i=>!memF list i <;> rfl
 have h:=iter_all? (step:=fun w=>mundo_Proves_l4_s l sk list stands (can l.length (memF list),can l.length fun i=>!memF list i) w) (fun i:Nat=>(i:Int)) list.length (fun i=>provesAt l sk list stands (el list i).toNat) () (fun i hi=>by
  have hm:=hin _ (el_mem list i hi)
  unfold mundo_Proves_l4_s
  rw [if_pos (by simp; omega),at_el list i hi,Option.bind_some,wrap_succ (by omega)]
  obtain ⟨k,hk⟩ : ∃ k:Nat,el list i = k:=⟨(el list i).toNat,by omega⟩
  rw [hk] at hm ⊢
  rw [Int.toNat_natCast] at hm ⊢
  unfold provesAt
  cases hs:stands with
  | true =>
   rw [if_pos rfl,if_pos rfl,at_el sk k (by omega),Option.bind_some]
   cases c:el sk k with
   | true=>rfl
   | false =>
    rw [if_neg (by decide),at_el l k hm.2,Option.bind_some]
    simp only
    rw [held_right c1 hm.2,Option.bind_some]
    cases heldF (el l k) (memF list) with
    | false=>rfl
    | true =>
     have:=j3 (i:Int) k hm.2
     rw [hs] at this
     rw [if_neg (by decide),this,Option.bind_some]
     rfl
  | false =>
   have:=j3 (i:Int) k hm.2
   rw [hs] at this
   simp only [Bool.false_eq_true,if_false,this,Option.bind_some,Bool.false_or]
   cases el sk k || !heldF (el l k) fun i=>!memF list i <;> rfl) (by
  unfold mundo_Proves_l4_s
  rw [if_neg (by simp)])
 rw [show ((0:Nat):Int) = 0 from rfl] at h
 unfold mundo_Proves_l4
 rw [h,Option.bind_some]
 have:allN (fun i=>provesAt l sk list stands (el list i).toNat) list.length = provesB l sk list stands:=by
  rw [Bool.eq_iff_iff,allN_iff]
  unfold provesB
  rw [List.all_eq_true]
  exact ⟨fun q k hk=>by obtain ⟨i,hi,rfl⟩:=mem_el hk; exact q i hi,fun q i hi=>q _ (el_mem list i hi)⟩
 rw [this]
 cases provesB l sk list stands <;> rfl
end Go.Proofs.Ytmekbfccmnjdcaa
