/- Layer 45 (undo): the program tells what the reference tells. -/
import Derived.Test.YtmekbfccmnjdcaaPRef45b
set_option linter.unusedVariables false
set_option linter.unusedSimpArgs false
namespace Go.Proofs.Ytmekbfccmnjdcaa
open Go.RowKit Vm
theorem refMarked_eq (sk:List Bool) (list:List Int) (mark:Bool) (hs:sk.length ≤ 1000) (hm:list.length ≤ 1000):mallongeref45_marked sk list mark = some (if okM sk.length list then (setAll list mark sk,true) else ([],false)):=by
 unfold mallongeref45_marked mallongeref45_marked_l1
 obtain ⟨x,h1,h2⟩:=iter_for (step:=fun (w:Int × List Bool)=>mallongeref45_marked_l1_s sk list mark w.1 w.2) (fun (k:Nat) (p:List Bool)=>((k:Int),p)) list.length
  (fun k p=>p = setAll (list.take k) mark sk ∧ okM sk.length (list.take k)) (fun x=>(okM sk.length list ∧ x = .inl (setAll list mark sk)) ∨ (¬ okM sk.length list ∧ x = .inr ()))
  (fun k p hk ⟨q1,q2⟩=>by
   have hlen:p.length = sk.length:=by rw [q1,setAll_len]
   simp only [mallongeref45_marked_l1_s]
   rw [if_pos (by simp; omega),at_el list k hk,Option.bind_some]
   by_cases c1:el list k < 0
   ·rw [if_pos (decide_eq_true c1)]
    exact .inr ⟨_,rfl,.inr ⟨fun q=>by have:=(q _ (el_mem list k hk)).1; omega,rfl⟩⟩
   rw [if_neg (by simpa using c1),Option.bind_some]
   by_cases c2:el list k ≥ (sk.length:Int)
   ·rw [if_pos (decide_eq_true c2)]
    exact .inr ⟨_,rfl,.inr ⟨fun q=>by have:=(q _ (el_mem list k hk)).2; omega,rfl⟩⟩
   rw [if_neg (by simpa using c2),Option.bind_some,if_pos ⟨by omega,by rw [hlen]; omega⟩,get45 _ _ (by rw [hlen]; omega),Option.bind_some,wrap_succ (by omega)]
   exact .inl ⟨_,rfl,by rw [q1,take_set list k hk],take_ok hk q2 (by omega)⟩)
  (fun p ⟨q1,q2⟩=>⟨_,by
   simp only [mallongeref45_marked_l1_s]
   rw [if_neg (by simp)],by
   rw [List.take_length] at q1 q2
   exact .inl ⟨q2,by rw [q1]⟩⟩) sk ⟨rfl,fun z hz=>by simp at hz⟩
 rw [show ((0:Nat):Int) = 0 from rfl] at h1
 rw [if_pos (by omega),List.nil_append,h1,Option.bind_some]
 rcases h2 with ⟨q,rfl⟩ | ⟨q,rfl⟩
 ·rw [if_pos q]; rfl
 ·rw [if_neg q]; rfl
theorem refStrike_eq (l:List GLean) (sk:List Bool) (more:List Int) (hs:sk.length ≤ 1000) (hm:more.length ≤ 1000):mallongeref45_Strike l sk more = some (if okS l sk more then idL l.length (fun i=>stand l sk i && !stand l (setAll more true sk) i) else []):=by
 unfold mallongeref45_Strike
 rw [refStanding_eq,Option.bind_some,refMarked_eq _ _ _ hs hm,Option.bind_some]
 by_cases c1:rightL l ∧ sk.length = l.length
 ·rw [if_pos c1]
  have hn:=c1.1.1
  have hlen:=ints_len l.length (stand l sk)
  by_cases c2:okM l.length more
  ·have c3:okM sk.length more:=by rw [c1.2]; exact c2
   rw [if_pos c3,if_pos ⟨c1,c2⟩]
   simp only
   have hlen2:=ints_len l.length (stand l (setAll more true sk))
   rw [refStanding_eq,if_pos ⟨c1.1,by rw [setAll_len]; exact c1.2⟩,Option.bind_some]
   unfold mallongeref45_Strike_l1
   rw [idL_loop l.length (by omega) (fun i=>stand l sk i && !stand l (setAll more true sk) i) (fun k p hk hp=>by
    simp only [mallongeref45_Strike_l1_s]
    rw [if_pos (by rw [hlen]; simp; omega),if_pos trivial,at_el _ k (by rw [hlen]; exact hk),Option.bind_some,ints_el hk,wrap_succ (by omega)]
    cases stand l sk k with
    | false=>rw [if_neg (by decide)]; rfl
    | true =>
     rw [if_pos rfl,at_el _ k (by rw [hlen2]; exact hk),Option.bind_some,ints_el hk]
     cases stand l (setAll more true sk) k with
     | false=>rw [if_pos (by decide),if_pos (by omega)]; rfl
     | true=>rw [if_neg (by decide)]; rfl) (fun p=>by
    simp only [mallongeref45_Strike_l1_s]
    rw [if_neg (by rw [hlen]; simp)])]
   rfl
  ·have c3:¬ okM sk.length more:=by rw [c1.2]; exact c2
   rw [if_neg c3,if_neg (show ¬ okS l sk more from fun q=>c2 q.2)]
   simp only
   rw [refStanding_eq,Option.bind_some]
   unfold mallongeref45_Strike_l1
   rw [iter_end (x:=[]) (by
    simp only [mallongeref45_Strike_l1_s]
    split <;> rfl)]
   rfl
 ·rw [if_neg c1,if_neg (show ¬ okS l sk more from fun q=>c1 q.1),refStanding_eq,Option.bind_some]
  unfold mallongeref45_Strike_l1
  rw [iter_end (x:=[]) (by
   simp only [mallongeref45_Strike_l1_s]
   rw [if_neg (by simp)])]
  rfl
theorem refRestore_eq (l:List GLean) (sk:List Bool) (more:List Int) (hs:sk.length ≤ 1000) (hm:more.length ≤ 1000):mallongeref45_Restore l sk more = some (if okS l sk more then idL l.length (fun i=>stand l (setAll more false sk) i && !stand l sk i) else []):=by
 unfold mallongeref45_Restore
 rw [refStanding_eq,Option.bind_some,refMarked_eq _ _ _ hs hm,Option.bind_some]
 by_cases c1:rightL l ∧ sk.length = l.length
 ·rw [if_pos c1]
  have hn:=c1.1.1
  have hlen:=ints_len l.length (stand l sk)
  by_cases c2:okM l.length more
  ·have c3:okM sk.length more:=by rw [c1.2]; exact c2
   rw [if_pos c3,if_pos ⟨c1,c2⟩]
   simp only
   have hlen2:=ints_len l.length (stand l (setAll more false sk))
   rw [refStanding_eq,if_pos ⟨c1.1,by rw [setAll_len]; exact c1.2⟩,Option.bind_some]
   unfold mallongeref45_Restore_l1
   rw [idL_loop l.length (by omega) (fun i=>stand l (setAll more false sk) i && !stand l sk i) (fun k p hk hp=>by
    simp only [mallongeref45_Restore_l1_s]
    rw [if_pos (by rw [hlen]; simp; omega),if_pos trivial,at_el _ k (by rw [hlen]; exact hk),Option.bind_some,ints_el hk,wrap_succ (by omega)]
    cases stand l sk k with
    | true=>rw [if_neg (by decide),Bool.not_true,Bool.and_false]; rfl
    | false =>
     rw [if_pos (by decide),at_el _ k (by rw [hlen2]; exact hk),Option.bind_some,ints_el hk]
     cases stand l (setAll more false sk) k with
     | true=>rw [if_pos (by decide),if_pos (by omega)]; rfl
     | false=>rw [if_neg (by decide)]; rfl) (fun p=>by
    simp only [mallongeref45_Restore_l1_s]
    rw [if_neg (by rw [hlen]; simp)])]
   rfl
  ·have c3:¬ okM sk.length more:=by rw [c1.2]; exact c2
   rw [if_neg c3,if_neg (show ¬ okS l sk more from fun q=>c2 q.2)]
   simp only
   rw [refStanding_eq,Option.bind_some]
   unfold mallongeref45_Restore_l1
   rw [iter_end (x:=[]) (by
    simp only [mallongeref45_Restore_l1_s]
    split <;> rfl)]
   rfl
 ·rw [if_neg c1,if_neg (show ¬ okS l sk more from fun q=>c1 q.1),refStanding_eq,Option.bind_some]
  unfold mallongeref45_Restore_l1
  rw [iter_end (x:=[]) (by
   simp only [mallongeref45_Restore_l1_s]
   rw [if_neg (by simp)])]
  rfl
theorem any_whole (s:List Int) (f:Nat→Bool):(s.any fun z=>f z.toNat) = !wholeF s fun i=>!f i:=by
 unfold wholeF
 induction s with
 | nil=>rfl
 | cons a t ih=>rw [List.any_cons,List.all_cons,ih,Bool.not_and,Bool.not_not]
theorem any_congr' {s:List Int} {f g:Nat→Bool} (h:∀ z ∈ s,f z.toNat = g z.toNat):(s.any fun z=>f z.toNat) = s.any fun z=>g z.toNat:=by
 rw [any_whole,any_whole,wholeF_congr (f:=fun i=>!f i) (g:=fun i=>!g i) fun k hk=>by rw [h k hk]]
theorem take_last45 (s:List Int) (k:Nat) (hk:k < s.length):s.take (k + 1) = s.take k ++ [el s k]:=by
 rw [List.take_add_one,List.getElem?_eq_getElem hk,el_lt s k hk]; rfl
theorem refProves_l1 (l:List GLean) (sk:List Bool) (act:Int) (list:List Int) (stands:Bool) (hn:l.length ≤ 300) (hlist:list.length ≤ 1000) (hin:okM l.length list):∃ m,mallongeref45_Proves_l1 l sk act list stands false 0 (List.replicate l.length false) = some (decide (act ∈ list),m) ∧ m.length = l.length ∧ ∀ i,i < l.length→el m i = memF list i:=by
 unfold mallongeref45_Proves_l1
 obtain ⟨x,h1,h2,h3,h4⟩:=iter_for (step:=fun (w:Bool × Int × List Bool)=>mallongeref45_Proves_l1_s l sk act list stands w.1 w.2.1 w.2.2) (fun (k:Nat) (p:Bool × List Bool)=>(p.1,(k:Int),p.2)) list.length
  (fun k p=>p.1 = decide (act ∈ list.take k) ∧ p.2.length = l.length ∧ ∀ i,i < l.length→el p.2 i = memF (list.take k) i) (fun x=>x.1 = decide (act ∈ list) ∧ x.2.length = l.length ∧ ∀ i,i < l.length→el x.2 i = memF list i)
  (fun k p hk ⟨q1,q2,q3⟩=>by
   obtain ⟨b,m⟩:=p
   simp only at q1 q2 q3 ⊢
   have hm:=hin _ (el_mem list k hk)
   have hset:∀ i,i < l.length→el (m.set (el list k).toNat true) i = memF (list.take (k + 1)) i:=fun i hi=>by
    rw [el_setB _ _ _ _ (by rw [q2]; exact hm.2),← take_memF hk hm.1,← q3 i hi]
    by_cases e:i = (el list k).toNat
    ·rw [if_pos e,decide_eq_true e,Bool.or_true]
    ·rw [if_neg e,decide_eq_false e,Bool.or_false]
   simp only [mallongeref45_Proves_l1_s]
   rw [if_pos (by simp; omega),at_el list k hk,Option.bind_some,if_pos ⟨hm.1,by rw [q2]; exact hm.2⟩,get45 _ _ (by rw [q2]; exact hm.2),Option.bind_some,wrap_succ (by omega)]
   left
   cases b with
   | true =>
    rw [if_pos rfl]
    refine ⟨(true,_),rfl,?_,by rw [List.length_set]; exact q2,hset⟩
    have:=of_decide_eq_true q1.symm
    rw [take_last45 list k hk]
    exact (decide_eq_true (List.mem_append_left _ this)).symm
   | false =>
    rw [if_neg (by decide),Option.bind_some]
    refine ⟨(el list k == act,_),rfl,?_,by rw [List.length_set]; exact q2,hset⟩
    have:=of_decide_eq_false q1.symm
    show (el list k == act) = _
    rw [take_last45 list k hk,Bool.eq_iff_iff,decide_eq_true_eq,List.mem_append,List.mem_singleton,beq_iff_eq]
    exact ⟨fun q=>.inr q.symm,fun q=>q.elim (fun z=>absurd z this) fun z=>z.symm⟩)
  (fun p ⟨q1,q2,q3⟩=>⟨(p.1,p.2),by
   simp only [mallongeref45_Proves_l1_s]
   rw [if_neg (by simp)],by rw [List.take_length] at q1; exact q1,q2,by rw [List.take_length] at q3; exact q3⟩) (false,List.replicate l.length false) ⟨by simp,by simp,fun i hi=>by
   rw [List.eq_of_mem_replicate (el_mem (List.replicate l.length false) i (by simpa using hi))]
   rfl⟩
 rw [show ((0:Nat):Int) = 0 from rfl] at h1
 obtain ⟨b,m⟩:=x
 simp only at h2 h3 h4
 exact ⟨m,by rw [h1,h2],h3,h4⟩
theorem refProves_j3 {l:List GLean} (h:rightL l) (sk:List Bool) (list:List Int) (stands:Bool) (p:Int) (b:Bool) (m:List Bool) (hm:m.length = l.length) (hm2:∀ i,i < l.length→el m i = memF list i) {k:Nat} (hk:k < l.length) :
  mallongeref45_Proves_j3 l sk list stands p (b,m) (el l k) = some (if heldF (el l k) (fun i=>!memF list i) = true then .inr () else .inl ()):=by
 have hsup:=(h.2 k hk).1
 unfold mallongeref45_Proves_j3
 by_cases c:(el l k).Supports.length = 0
 ·have:(el l k).Supports = []:=List.eq_nil_of_length_eq_zero c
  rw [if_pos (by rw [c]; rfl),if_pos (by unfold heldF; rw [this]; rfl)]
 ·rw [if_neg (by simpa using c)]
  have hh:=iter_all? (step:=fun w=>mallongeref45_Proves_l2_s l sk list stands p (b,m) (el l k) w) (fun j:Nat=>(j:Int)) (el l k).Supports.length (fun j=>!wholeF (el (el l k).Supports j) fun i=>!memF list i) () (fun j hj=>by
   have hmem:=el_mem (el l k).Supports j hj
   have hr:=right_sup h hk hmem
   have hin:okM l.length (el (el l k).Supports j):=fun z hz=>by have:=right_mem h hk hmem hz; omega
   unfold mallongeref45_Proves_l2_s
   rw [if_pos (by simp; omega),at_el _ j hj,Option.bind_some]
   simp only
   rw [some_eq _ _ (by have:=hr.1.2; omega) (by rw [hm]; exact hin),Option.bind_some,any_congr' (f:=el m) (g:=memF list) (fun z hz=>hm2 _ (hin z hz).2),any_whole,wrap_succ (by omega)]
   cases wholeF (el (el l k).Supports j) fun i=>!memF list i <;> rfl) (by
   unfold mallongeref45_Proves_l2_s
   rw [if_neg (by simp)])
  rw [show ((0:Nat):Int) = 0 from rfl] at hh
  unfold mallongeref45_Proves_l2
  rw [hh,Option.bind_some]
  have e:allN (fun j=>!wholeF (el (el l k).Supports j) fun i=>!memF list i) (el l k).Supports.length = !((el l k).Supports.any fun s=>wholeF s fun i=>!memF list i):=by
   rw [Bool.eq_iff_iff,allN_iff,Bool.not_eq_true',List.any_eq_false]
   exact ⟨fun q s hs=>by obtain ⟨j,hj,rfl⟩:=mem_el hs; simpa using q j hj,fun q j hj=>by simpa using q _ (el_mem _ j hj)⟩
  have e2:(el l k).Supports.isEmpty = false:=by
   cases e3:(el l k).Supports with
   | nil=>rw [e3] at c; exact absurd rfl c
   | cons _ _=>rfl
  rw [e]
  unfold heldF
  rw [e2,Bool.false_or]
  cases (el l k).Supports.any fun s=>wholeF s fun i=>!memF list i <;> rfl
theorem refProves_eq (l:List GLean) (sk:List Bool) (act:Int) (list:List Int) (stands:Bool) (hlist:list.length ≤ 1000):mallongeref45_Proves l sk act list stands = some (decide (okP l sk act list) && provesB l sk list stands):=by
 unfold mallongeref45_Proves
 rw [refRight_eq,Option.bind_some]
 by_cases c1:rightL l
 case neg=>rw [decide_eq_false c1,if_pos (by decide),decide_eq_false fun q=>c1 q.1.1.1]; rfl
 rw [decide_eq_true c1,if_neg (by decide)]
 have hn:=c1.1
 by_cases c2:sk.length = l.length
 case neg=>rw [if_pos (by simp; omega),decide_eq_false fun q=>c2 q.1.1.2]; rfl
 rw [if_neg (by rw [c2]; simp),refRising_eq _ _ (by omega),Option.bind_some]
 by_cases c3:risingP list l.length
 case neg=>rw [decide_eq_false c3,if_pos (by decide),decide_eq_false fun q=>c3 q.1.2]; rfl
 have hin:okM l.length list:=fun k hk=>by have:=rising_mem c3 hk; omega
 rw [decide_eq_true c3,if_neg (by decide),if_pos (by omega),Int.toNat_natCast]
 obtain ⟨m,g1,g2,g3⟩:=refProves_l1 l sk act list stands hn hlist hin
 rw [g1,Option.bind_some]
 unfold mallongeref45_Proves_l5
 by_cases c4:act ∈ list
 case neg =>
  rw [decide_eq_false c4,decide_eq_false fun q=>c4 q.2,iter_end (x:=.inl ()) (by
   simp only [mallongeref45_Proves_l5_s]
   split <;> rfl)]
  rfl
 have hokP:okP l sk act list:=⟨⟨⟨c1,c2⟩,c3⟩,c4⟩
 rw [decide_eq_true c4,decide_eq_true hokP,Bool.true_and]
 have h:=iter_all? (step:=fun w=>mallongeref45_Proves_l5_s l sk list stands (true,m) w) (fun i:Nat=>(i:Int)) list.length (fun i=>provesAt l sk list stands (el list i).toNat) () (fun i hi=>by
  have hm:=hin _ (el_mem list i hi)
  unfold mallongeref45_Proves_l5_s
  rw [if_pos (by simp; omega),if_pos rfl,at_el list i hi,Option.bind_some,wrap_succ (by omega)]
  obtain ⟨k,hk⟩ : ∃ k:Nat,el list i = k:=⟨(el list i).toNat,by omega⟩
  have hkl:k < l.length:=by have:=hm.2; rw [hk] at this; simpa using this
  rw [hk,Int.toNat_natCast,at_el l k hkl,Option.bind_some]
  have hj4:mallongeref45_Proves_j4 l sk list stands (i:Int) (true,m) (el l k) = some (if (stands || (el sk k || !heldF (el l k) fun i=>!memF list i)) = true then .inl () else .inr ()):=by
   unfold mallongeref45_Proves_j4
   cases stands with
   | true=>rw [if_neg (by decide)]; rfl
   | false =>
    rw [if_pos (by decide),at_el list i hi,Option.bind_some,hk,at_el sk k (by omega),Option.bind_some]
    cases c:el sk k with
    | true=>rw [if_neg (by decide)]; rfl
    | false =>
     rw [if_pos (by decide),refProves_j3 c1 sk list false (i:Int) true m g2 g3 hkl,Option.bind_some]
     cases heldF (el l k) fun i=>!memF list i <;> rfl
  have hcg:heldF (el l k) (el m) = heldF (el l k) (memF list):=heldF_congr fun s hs z hz=>g3 _ (by have:=right_mem c1 hkl hs hz; omega)
  unfold provesAt
  rw [hj4]
  cases hs:stands with
  | true =>
   rw [if_pos rfl,if_pos rfl,Option.bind_some,at_el sk k (by omega),Option.bind_some]
   cases c:el sk k with
   | true=>rfl
   | false =>
    rw [if_neg (by decide)]
    simp only
    rw [refHeld_eq c1 hkl m g2,Option.bind_some,hcg]
    cases heldF (el l k) (memF list) <;> rfl
  | false =>
   simp only [Bool.false_eq_true,if_false,Option.bind_some,Bool.false_or]
   cases el sk k || !heldF (el l k) fun i=>!memF list i <;> rfl) (by
  unfold mallongeref45_Proves_l5_s
  rw [if_neg (by simp)])
 rw [show ((0:Nat):Int) = 0 from rfl] at h
 rw [h,Option.bind_some]
 have:allN (fun i=>provesAt l sk list stands (el list i).toNat) list.length = provesB l sk list stands:=by
  rw [Bool.eq_iff_iff,allN_iff]
  unfold provesB
  rw [List.all_eq_true]
  exact ⟨fun q k hk=>by obtain ⟨i,hi,rfl⟩:=mem_el hk; exact q i hi,fun q i hi=>q _ (el_mem list i hi)⟩
 rw [this]
 cases provesB l sk list stands <;> rfl
theorem why_all (l:List GLean) (sk:List Bool) (act:Int):∃ r,mundo_Why l sk act = some r ∧ mallongeref45_Why l sk act = some r ∧ r.1.length ≤ 300:=by
 by_cases c1:rightL l ∧ sk.length = l.length
 ·by_cases c2:act < 0
  ·have hn:=c1.1.1
   refine ⟨([],false),?_,?_,by simp⟩
   ·unfold mundo_Why
    rw [rightU_eq,Option.bind_some,decide_eq_true c1.1,if_neg (by decide),if_neg (by rw [c1.2]; simp),if_pos (decide_eq_true c2)]
   ·unfold mallongeref45_Why
    rw [refStanding_eq,Option.bind_some,if_pos (decide_eq_true c2)]
  by_cases c3:act ≥ (l.length:Int)
  ·refine ⟨([],false),?_,?_,by simp⟩
   ·unfold mundo_Why
    rw [rightU_eq,Option.bind_some,decide_eq_true c1.1,if_neg (by decide),if_neg (by rw [c1.2]; simp),if_neg (by simpa using c2),if_pos (decide_eq_true c3)]
   ·unfold mallongeref45_Why
    rw [refStanding_eq,if_pos c1,Option.bind_some,if_neg (by simpa using c2),if_pos (by rw [ints_len]; exact decide_eq_true c3)]
  obtain ⟨a,rfl⟩ : ∃ a:Nat,act = a:=⟨act.toNat,by omega⟩
  obtain ⟨why,w1,w2,w3⟩:=why_same c1.1 c1.2 (act:=a) (by omega)
  exact ⟨_,w1,w2,w3⟩
 ·refine ⟨([],false),?_,?_,by simp⟩
  ·unfold mundo_Why
   rw [rightU_eq,Option.bind_some]
   by_cases c2:rightL l
   ·rw [decide_eq_true c2,if_neg (by decide),if_pos (by have:sk.length ≠ l.length:=fun q=>c1 ⟨c2,q⟩; simp; omega)]
   ·rw [decide_eq_false c2,if_pos (by decide)]
  ·unfold mallongeref45_Why
   rw [refStanding_eq,if_neg c1,Option.bind_some]
   by_cases c2:act < 0
   ·rw [if_pos (decide_eq_true c2)]
   ·rw [if_neg (by simpa using c2),if_pos (by simp; omega)]
theorem law45_tells (hs:mallongelaw45_sane = some true) (l:List GLean) (sk:List Bool) (list:List Int) (act:Int) (stands:Bool):mallongelaw45_UndoTells l sk list act stands = some true:=by
 unfold mallongelaw45_UndoTells
 rw [hs,Option.bind_some]
 obtain ⟨b,hb⟩:=few_total l
 rw [hb,Option.bind_some]
 cases b with
 | false=>rfl
 | true =>
  rw [if_neg (by decide)]
  by_cases c1:(sk.length:Int) > 600
  ·rw [if_pos (decide_eq_true c1)]
  rw [if_neg (by simpa using c1)]
  by_cases c2:(list.length:Int) > 60
  ·rw [if_pos (decide_eq_true c2)]
  rw [if_neg (by simpa using c2)]
  obtain ⟨r,r1,r2,r3⟩:=why_all l sk act
  have hst:(if rightL l ∧ sk.length = l.length then ints l.length (stand l sk) else []).length ≤ 1000000:=by
   split
   ·rename_i q; rw [ints_len]; have:=q.1.1; omega
   ·simp
  have hid:∀ f:Nat→Bool,(if okS l sk list then idL l.length f else []).length ≤ 1000000:=fun f=>by
   split
   ·rename_i q; have:=idL_len l.length f; have:=q.1.1.1; omega
   ·simp
  rw [r1,Option.bind_some,r2,Option.bind_some,if_neg (by simp),sameI_eq _ _ (by omega) rfl,Option.bind_some,if_neg (by decide),rightU_eq,Option.bind_some,refRight_eq,Option.bind_some,if_neg (by simp),Standing_eq,Option.bind_some,refStanding_eq,Option.bind_some,
   sameB_eq _ _ hst rfl,Option.bind_some,if_neg (by decide),if_pos rfl,Strike_eq _ _ _ (by omega),Option.bind_some,refStrike_eq _ _ _ (by omega) (by omega),Option.bind_some,sameI_eq _ _ (hid _) rfl,Option.bind_some,if_pos rfl,
   Restore_eq _ _ _ (by omega),Option.bind_some,refRestore_eq _ _ _ (by omega) (by omega),Option.bind_some,sameI_eq _ _ (hid _) rfl,Option.bind_some,if_pos rfl,Proves_eq _ _ _ _ _ (by omega),Option.bind_some,refProves_eq _ _ _ _ _ (by omega),Option.bind_some]
  simp
end Go.Proofs.Ytmekbfccmnjdcaa
