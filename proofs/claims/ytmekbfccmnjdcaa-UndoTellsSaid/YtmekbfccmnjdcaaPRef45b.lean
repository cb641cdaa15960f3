/- Layer 45 (undo): the reason that the reference finds is the reason that the program finds. -/
import Derived.Test.YtmekbfccmnjdcaaPRef45
set_option linter.unusedVariables false
set_option linter.unusedSimpArgs false
namespace Go.Proofs.Ytmekbfccmnjdcaa
open Go.RowKit Vm
theorem idL_succ (n:Nat) (f:Nat→Bool):idL (n + 1) f = idL n f ++ (if f n = true then [(n:Int)] else []):=by
 unfold idL
 rw [List.range_succ,List.filter_append,List.map_append]
 congr 1
 cases c:f n <;> simp [c]
theorem idL_loop {step:Int × List Int→Option ((Int × List Int) ⊕ List Int)} (n:Nat) (hn:n ≤ 1000) (f:Nat→Bool) (h:∀ (k:Nat) (p:List Int),k < n→p.length ≤ 1000→step ((k:Int),p) = some (.inl (((k + 1:Nat):Int),if f k = true then p ++ [(k:Int)] else p)))
  (he:∀ p,step ((n:Int),p) = some (.inr p)):Iter step (0,[]) = some (idL n f):=by
 obtain ⟨x,h1,h2⟩:=iter_for (step:=step) (fun (k:Nat) (p:List Int)=>((k:Int),p)) n (fun k p=>p = idL k f) (fun x=>x = idL n f)
  (fun k p hk hp=>.inl ⟨_,h k p hk (by rw [hp]; have:=idL_len k f; omega),by
   rw [idL_succ,hp]
   cases f k <;> simp⟩)
  (fun p hp=>⟨p,he p,hp⟩) [] rfl
 rw [show ((0:Nat):Int) = 0 from rfl] at h1
 rw [h1,h2]
def pick (l:List GLean) (F:Nat→Bool) (i:Nat):List Int:=((el l i).Supports.find? fun s=>wholeF s F).getD []
def pE (l:List GLean) (F:Nat→Bool) (i k:Nat):Prop:=(k:Int) ∈ pick l F i
theorem find_at {p:List Int→Bool}:∀ {S:List (List Int)} {k:Nat},k < S.length→(∀ j,j < k→p (el S j) = false)→p (el S k) = true→S.find? p = some (el S k)
 | [],k,hk,_,_=>absurd hk (by simp)
 | a :: t,0,hk,h1,h2=>by
  have e:el (a :: t) 0 = a:=rfl
  rw [e] at h2 ⊢
  rw [List.find?_cons,h2]
 | a :: t,k + 1,hk,h1,h2=>by
  have e:∀ j,el (a :: t) (j + 1) = el t j:=fun j=>by simp [el]
  have h0:=h1 0 (by omega)
  have e0:el (a :: t) 0 = a:=rfl
  rw [e0] at h0
  rw [e] at h2 ⊢
  rw [List.find?_cons,h0]
  exact find_at (by simpa using hk) (fun j hj=>by have:=h1 (j + 1) (by omega); rwa [e] at this) h2
theorem pick_at {l:List GLean} {F:Nat→Bool} {i k:Nat} (hk:k < (el l i).Supports.length) (h1:∀ j,j < k→wholeF (el (el l i).Supports j) F = false) (h2:wholeF (el (el l i).Supports k) F = true):pick l F i = el (el l i).Supports k:=by
 unfold pick
 rw [find_at (p:=fun s=>wholeF s F) hk h1 h2]
 rfl
theorem pick_none {l:List GLean} {F:Nat→Bool} {i:Nat} (h:∀ j,j < (el l i).Supports.length→wholeF (el (el l i).Supports j) F = false):pick l F i = []:=by
 unfold pick
 rw [List.find?_eq_none.2 fun s hs=>by obtain ⟨k,hk,rfl⟩:=mem_el hs; rw [h k hk]; decide]
 rfl
theorem pick_mem {l:List GLean} (h:rightL l) {F:Nat→Bool} {i:Nat} (hi:i < l.length) {z:Int} (hz:z ∈ pick l F i):0 ≤ z ∧ z.toNat < i:=by
 unfold pick at hz
 cases c:(el l i).Supports.find? fun s=>wholeF s F with
 | none=>rw [c] at hz; simp at hz
 | some s =>
  rw [c] at hz
  exact right_mem h hi (List.mem_of_find?_eq_some c) hz
theorem closed_all {l:List GLean} (h:rightL l) {F R:Nat→Bool} {act:Nat} (ha:act < l.length) (h1:R act = true) (h2:∀ v,v < l.length→R v = true→∀ z ∈ pick l F v,R z.toNat = true):∀ v,Rc45 (pE l F) act v→v < l.length ∧ R v = true:=by
 intro v hv
 induction hv with
 | refl=>exact ⟨ha,h1⟩
 | tail _ e ih =>
  have hm:=pick_mem h ih.1 e
  rw [Int.toNat_natCast] at hm
  have:=h2 _ ih.1 ih.2 _ e
  rw [Int.toNat_natCast] at this
  exact ⟨by omega,this⟩
def FP (l:List GLean) (F:Nat→Bool) (act:Nat) (a b:List Bool):Prop:=b.length = l.length ∧ (∀ v,v < l.length→el a v = true→el b v = true) ∧ el b act = true ∧ (∀ v,v < l.length→el b v = true→el a v = true ∨ Rc45 (pE l F) act v) ∧
 ∀ v,v < l.length→el b v = true→el a v = false→∀ z ∈ pick l F v,el b z.toNat = true
section
variable [RecF] {l:List GLean} (h:rightL l) (F:Nat→Bool) (M:List Bool) {act:Nat} (ha:act < l.length) (hR:∀ k,k < act→∀ a:List Bool,a.length = l.length→∃ b,RecF.run l M (k:Int) a = some b ∧ FP l F k a b)
include h ha hR
theorem first_l1 (s:List Int) (hs:s.length ≤ 20) (hok:∀ z ∈ s,0 ≤ z ∧ z.toNat < act) (out:List Bool) (ho:out.length = l.length):∃ b,mallongeref45_firstB_l1 l M s 0 out = some b ∧ b.length = l.length ∧ (∀ v,v < l.length→el out v = true→el b v = true) ∧
  (∀ v,v < l.length→el b v = true→el out v = true ∨ ∃ j,j < s.length ∧ Rc45 (pE l F) (el s j).toNat v) ∧ (∀ v,v < l.length→el b v = true→el out v = false→∀ z ∈ pick l F v,el b z.toNat = true) ∧ ∀ j,j < s.length→el b (el s j).toNat = true:=by
 unfold mallongeref45_firstB_l1
 obtain ⟨x,h1,h2⟩:=iter_for (step:=fun (w:Int × List Bool)=>mallongeref45_firstB_l1_s l M s w.1 w.2) (fun (k:Nat) (a:List Bool)=>((k:Int),a)) s.length
  (fun k a=>a.length = l.length ∧ (∀ v,v < l.length→el out v = true→el a v = true) ∧ (∀ v,v < l.length→el a v = true→el out v = true ∨ ∃ j,j < s.length ∧ Rc45 (pE l F) (el s j).toNat v) ∧ (∀ v,v < l.length→el a v = true→el out v = false→∀ z ∈ pick l F v,el a z.toNat = true) ∧ ∀ j,j < k→el a (el s j).toNat = true)
  (fun b=>b.length = l.length ∧ (∀ v,v < l.length→el out v = true→el b v = true) ∧ (∀ v,v < l.length→el b v = true→el out v = true ∨ ∃ j,j < s.length ∧ Rc45 (pE l F) (el s j).toNat v) ∧ (∀ v,v < l.length→el b v = true→el out v = false→∀ z ∈ pick l F v,el b z.toNat = true) ∧ ∀ j,j < s.length→el b (el s j).toNat = true)
  (fun k a hk ⟨q1,q2,q3,q4,q5⟩=>by
   have hm:=hok _ (el_mem s k hk)
   left
   simp only [mallongeref45_firstB_l1_s]
   rw [if_pos (by simp; omega),at_el s k hk,Option.bind_some,if_pos ⟨hm.1,by rw [q1]; omega⟩,get45 _ _ (by rw [q1]; omega),Option.bind_some,wrap_succ (by omega)]
   cases c:el a (el s k).toNat with
   | true =>
    rw [if_neg (by decide)]
    exact ⟨_,rfl,q1,q2,q3,q4,fun j hj=>by
     by_cases e:j = k
     ·rw [e]; exact c
     ·exact q5 j (by omega)⟩
   | false =>
    obtain ⟨b,b1,b2,b3,b4,b5,b6⟩:=hR (el s k).toNat hm.2 a q1
    rw [Int.toNat_of_nonneg hm.1] at b1
    rw [if_pos (by decide),Option.bind_some,b1,Option.bind_some]
    refine ⟨_,rfl,b2,fun v hv q=>b3 v hv (q2 v hv q),fun v hv q=>?_,fun v hv q q' z hz=>?_,fun j hj=>?_⟩
    ·rcases b5 v hv q with y | y
     ·exact q3 v hv y
     ·exact .inr ⟨k,hk,y⟩
    ·have hzm:=pick_mem h hv hz
     cases c2:el a v with
     | true=>exact b3 _ (by omega) (q4 v hv c2 q' z hz)
     | false=>exact b6 v hv q c2 z hz
    ·by_cases e:j = k
     ·rw [e]; exact b4
     ·have:=hok _ (el_mem s j (by omega))
      exact b3 _ (by omega) (q5 j (by omega)))
  (fun a q=>⟨a,by
   simp only [mallongeref45_firstB_l1_s]
   rw [if_neg (by simp)],q⟩) out ⟨ho,fun v hv q=>q,fun v hv q=>.inl q,fun v hv q q'=>(by rw [q] at q'; cases q'),fun j hj=>absurd hj (by omega)⟩
 rw [show ((0:Nat):Int) = 0 from rfl] at h1
 exact ⟨x,h1,h2⟩
theorem firstB_ok (hM:M.length = l.length) (hF:∀ v,v < l.length→el M v = F v) (out:List Bool) (ho:out.length = l.length):∃ b,mallongeref45_firstB l M (act:Int) out = some b ∧ FP l F act out b:=by
 have hsup:=(h.2 act ha).1
 have hset:∀ v,el (out.set act true) v = if v = act then true else el out v:=fun v=>el_setB _ _ _ _ (by rw [ho]; exact ha)
 unfold mallongeref45_firstB
 rw [if_pos ⟨by omega,by rw [Int.toNat_natCast,ho]; exact ha⟩,Int.toNat_natCast,get45 _ _ (by rw [ho]; exact ha),Option.bind_some]
 unfold mallongeref45_firstB_l2
 obtain ⟨x,h1,h2⟩:=iter_spec (step:=fun w=>mallongeref45_firstB_l2_s l M (act:Int) out w) (fun k:Nat=>(k:Int)) (el l act).Supports.length (fun k=>wholeF (el (el l act).Supports k) F = false)
  (fun x=>(x = .inl () ∧ FP l F act out (out.set act true)) ∨ ∃ b,x = .inr b ∧ FP l F act out b)
  (fun k hk=>by
   have hmem:=el_mem (el l act).Supports k hk
   have hr:=right_sup h ha hmem
   have hin:∀ z ∈ el (el l act).Supports k,0 ≤ z ∧ z.toNat < act:=fun z hz=>right_mem h ha hmem hz
   have hw:wholeF (el (el l act).Supports k) (el M) = wholeF (el (el l act).Supports k) F:=wholeF_congr fun z hz=>hF _ (by have:=hin z hz; omega)
   simp only [mallongeref45_firstB_l2_s]
   rw [at_el l act ha,Option.bind_some,if_pos (by simp; omega),Option.bind_some,at_el _ k hk,Option.bind_some,all_eq _ _ (by have:=hr.1.2; omega) (fun z hz=>by have:=hin z hz; omega),Option.bind_some,hw]
   cases c:wholeF (el (el l act).Supports k) F with
   | false =>
    left
    rw [if_neg (by decide),wrap_succ (by omega)]
    exact ⟨rfl,rfl⟩
   | true =>
    right
    obtain ⟨b,b1,b2,b3,b4,b5,b6⟩:=first_l1 h F M ha hR (el (el l act).Supports k) hr.1.2 hin (out.set act true) (by rw [List.length_set]; exact ho)
    rw [if_pos rfl,Int.toNat_natCast,b1,Option.bind_some]
    refine ⟨_,rfl,fun hall=>.inr ⟨b,rfl,b2,fun v hv q=>b3 v hv ?_,b3 act ha (by rw [hset,if_pos rfl]),fun v hv q=>?_,fun v hv q q' z hz=>?_⟩⟩
    ·rw [hset]
     by_cases e:v = act
     ·rw [if_pos e]
     ·rw [if_neg e]; exact q
    ·rcases b4 v hv q with y | ⟨j,hj,y⟩
     ·rw [hset] at y
      by_cases e:v = act
      ·rw [e]; exact .inr .refl
      ·rw [if_neg e] at y; exact .inl y
     ·right
      refine Rc45.trans (.tail .refl ?_) y
      show (((el (el (el l act).Supports k) j).toNat:Nat):Int) ∈ pick l F act
      rw [Int.toNat_of_nonneg (hin _ (el_mem _ j hj)).1,pick_at hk hall c]
      exact el_mem _ j hj
    ·by_cases e:v = act
     ·subst e
      rw [pick_at hk hall c] at hz
      obtain ⟨j,hj,rfl⟩:=mem_el hz
      exact b6 j hj
     ·exact b5 v hv q (by rw [hset,if_neg e]; exact q') z hz)
  (⟨.inl (),by
   simp only [mallongeref45_firstB_l2_s]
   rw [at_el l act ha,Option.bind_some,if_neg (by simp)],fun hall=>.inl ⟨rfl,by rw [List.length_set]; exact ho,fun v hv q=>by
    rw [hset]
    by_cases e:v = act
    ·rw [if_pos e]
    ·rw [if_neg e]; exact q,by rw [hset,if_pos rfl],fun v hv q=>by
    rw [hset] at q
    by_cases e:v = act
    ·rw [e]; exact .inr .refl
    ·rw [if_neg e] at q; exact .inl q,fun v hv q q' z hz=>by
    rw [hset] at q
    by_cases e:v = act
    ·subst e
     rw [pick_none hall] at hz
     cases hz
    ·rw [if_neg e,q'] at q; cases q⟩⟩)
 rw [show ((0:Nat):Int) = 0 from rfl] at h1
 rw [h1,Option.bind_some]
 rcases h2 with ⟨rfl,q⟩ | ⟨b,rfl,q⟩
 ·exact ⟨_,rfl,q⟩
 ·exact ⟨b,rfl,q⟩
end
theorem recN_first {l:List GLean} (h:rightL l) (F:Nat→Bool) (M:List Bool) (hM:M.length = l.length) (hF:∀ v,v < l.length→el M v = F v):∀ (n act:Nat),act < n→act < l.length→∀ a:List Bool,a.length = l.length→∃ b,recN n l M (act:Int) a = some b ∧ FP l F act a b
 | 0,act,h1,_,_,_=>absurd h1 (by omega)
 | n + 1,act,h1,h2,a,ha=>@firstB_ok ⟨recN n⟩ l h F M act h2 (fun k hk a ha=>recN_first h F M hM hF n k (by omega) (by omega) a ha) hM hF a ha
theorem first_exact {l:List GLean} (h:rightL l) (F:Nat→Bool) (M:List Bool) (hM:M.length = l.length) (hF:∀ v,v < l.length→el M v = F v) {act:Nat} (ha:act < l.length):∃ b,mallongeref45_first l M (act:Int) (List.replicate l.length false) = some b ∧ b.length = l.length ∧ ∀ v,v < l.length→(el b v = true ↔ Rc45 (pE l F) act v):=by
 have hn:=h.1
 have h0:∀ v,v < l.length→el (List.replicate l.length false) v = false:=fun v hv=>by
  have:=el_mem (List.replicate l.length false) v (by simpa using hv)
  exact List.eq_of_mem_replicate this
 obtain ⟨b,b1,b2,b3,b4,b5,b6⟩:=recN_first h F M hM hF 1000 act (by omega) ha (List.replicate l.length false) (by simp)
 refine ⟨b,b1,b2,fun v hv=>⟨fun q=>?_,fun q=>(closed_all (R:=el b) h ha b4 (fun v hv q z hz=>b6 v hv q (h0 v hv) z hz) v q).2⟩⟩
 rcases b5 v hv q with y | y
 ·rw [h0 v hv] at y; cases y
 ·exact y
theorem refWhy_l1 (l:List GLean) (act:Nat) (b a:List Bool) (ha:a.length = l.length) (hn:l.length ≤ 300) (hb:b.length = l.length) (hact:act < l.length):mallongeref45_Why_l1 (act:Int) b a 0 [] = some (idL l.length fun i=>el b i || (!el a act && !el a i)):=by
 unfold mallongeref45_Why_l1
 refine idL_loop l.length (by omega) _ (fun k p hk hp=>?_) fun p=>?_
 ·simp only [mallongeref45_Why_l1_s]
  rw [if_pos (by simp; omega),if_pos ⟨by omega,by rw [Int.toNat_natCast,hb]; exact hk⟩,Int.toNat_natCast,get45 _ _ (by rw [hb]; exact hk),Option.bind_some,wrap_succ (by omega)]
  cases c:el b k with
  | true=>rw [if_pos rfl,if_pos (by omega)]; rfl
  | false =>
   rw [if_neg (by decide),at_el a act (by omega),Option.bind_some]
   cases c2:el a act with
   | true=>rw [if_neg (by decide)]; rfl
   | false =>
    rw [if_pos (by decide),at_el a k (by omega),Option.bind_some]
    cases c3:el a k with
    | true=>rw [if_neg (by decide)]; rfl
    | false=>rw [if_pos (by decide),if_pos (by omega)]; rfl
 ·simp only [mallongeref45_Why_l1_s]
  rw [if_neg (by rw [ha]; simp)]
theorem whyOneP {l:List GLean} (h:rightL l) (sk:List Bool) {i:Nat} (hi:i < l.length) (f:Nat→Bool):mundo_Why_l4 l (i:Int) (can l.length f) (can l.length (stand l sk)) (el l i) 0 = some (can l.length fun j=>f j || memF (pick l (stand l sk) i) j):=by
 have hn:=h.1
 have hsup:=(h.2 i hi).1
 unfold mundo_Why_l4
 obtain ⟨x,h1,h2⟩:=iter_spec (step:=fun w=>mundo_Why_l4_s l (i:Int) (can l.length f) (can l.length (stand l sk)) (el l i) w) (fun k:Nat=>(k:Int)) (el l i).Supports.length (fun k=>wholeF (el (el l i).Supports k) (stand l sk) = false)
  (fun x=>x = can l.length fun j=>f j || memF (pick l (stand l sk) i) j)
  (fun k hk=>by
   have hmem:=el_mem (el l i).Supports k hk
   have hr:=right_sup h hi hmem
   have hin:∀ z ∈ el (el l i).Supports k,0 ≤ z ∧ z.toNat < l.length:=fun z hz=>by have:=right_mem h hi hmem hz; omega
   have hw:=whole_eq (s:=el (el l i).Supports k) (n:=l.length) (f:=stand l sk) (by omega) (by have:=hr.1.2; omega) hin
   cases c:wholeF (el (el l i).Supports k) (stand l sk) with
   | false =>
    left
    refine ⟨?_,rfl⟩
    simp only [mundo_Why_l4_s]
    rw [if_pos (by simp; omega),at_el _ k hk,Option.bind_some,hw,Option.bind_some,c,if_neg (by decide),wrap_succ (by omega)]
   | true =>
    right
    refine ⟨can l.length fun j=>f j || memF (el (el l i).Supports k) j,?_,fun hall=>by rw [pick_at hk hall c]⟩
    simp only [mundo_Why_l4_s]
    rw [if_pos (by simp; omega),at_el _ k hk,Option.bind_some,hw,Option.bind_some,c,if_pos rfl,whyPut l _ _ _ l.length f (by omega) (by have:=hr.1.2; omega) hin,Option.bind_some])
  (⟨can l.length f,by simp only [mundo_Why_l4_s]; rw [if_neg (by simp)],fun hall=>by
   rw [pick_none hall]
   exact can_congr fun j _=>by simp [memF]⟩)
 rw [show ((0:Nat):Int) = 0 from rfl] at h1
 rw [h1,h2]
theorem whyLoopP {l:List GLean} (h:rightL l) (sk:List Bool) {act:Nat} (ha:act < l.length):∃ R,mundo_Why_l5 l (can l.length (stand l sk)) (act:Int) (putG (act:Int) true []) = some (can l.length R) ∧ ∀ v,v < l.length→(R v = true ↔ Rc45 (pE l (stand l sk)) act v):=by
 have hn:=h.1
 unfold mundo_Why_l5
 have hstart:putG (act:Int) true [] = can l.length fun i=>decide (i = act):=by
  have:=can_put l.length (fun _=>false) act ha
  rw [can_none] at this
  rw [this]
  exact can_congr fun i _=>by simp
 obtain ⟨x,h1,h2⟩:=iter_meas (step:=fun (w:Int × MB)=>mundo_Why_l5_s l (can l.length (stand l sk)) w.1 w.2)
  (fun s=>∃ R,s.2 = can l.length R ∧ (-1 ≤ s.1 ∧ s.1 ≤ act) ∧ R act = true ∧ (∀ v,v < l.length→R v = true→Rc45 (pE l (stand l sk)) act v) ∧ ∀ v,v < l.length→s.1 < (v:Int)→R v = true→∀ z ∈ pick l (stand l sk) v,R z.toNat = true)
  (fun s=>(s.1 + 1).toNat) (fun x=>∃ R,x = can l.length R ∧ ∀ v,v < l.length→(R v = true ↔ Rc45 (pE l (stand l sk)) act v))
  (fun s ⟨R,q1,q2,q3,q4,q5⟩=>by
   obtain ⟨p,m⟩:=s
   simp only at q1 q2 q3 q4 q5 ⊢
   subst q1
   simp only [mundo_Why_l5_s]
   by_cases c:p ≥ 0
   ·left
    rw [if_pos (decide_eq_true c),if_pos (in64_small c (by omega))]
    obtain ⟨i,rfl⟩ : ∃ i:Nat,p = i:=⟨p.toNat,by omega⟩
    have hi:i < l.length:=by omega
    have ew:IntKind.wrap .i64 ((i:Int) - 1) = (i:Int) - 1:=wrap_id (by omega) (by omega)
    rw [can_get,decide_eq_true hi,Bool.true_and,ew]
    by_cases c2:R i = true
    ·rw [c2,if_neg (by decide),at_el l i hi,Option.bind_some,whyOneP h sk hi R,Option.bind_some]
     refine ⟨_,rfl,⟨_,rfl,by omega,?_,fun v hv q=>?_,fun v hv hlt q z hz=>?_⟩,by omega⟩
     ·show (R act || _) = true
      rw [q3]; rfl
     ·rw [Bool.or_eq_true] at q
      rcases q with q | q
      ·exact q4 v hv q
      ·exact (q4 i hi c2).tail (memF_iff.1 q)
     ·show (R z.toNat || _) = true
      rw [Bool.or_eq_true] at q ⊢
      have hzm:=pick_mem h hv hz
      by_cases e:v = i
      ·subst e
       right
       rw [memF_iff,Int.toNat_of_nonneg hzm.1]
       exact hz
      ·rcases q with q | q
       ·exact .inl (q5 v hv (by omega) q z hz)
       ·have:=(pick_mem h hi (memF_iff.1 q)).2
        rw [Int.toNat_natCast] at this
        omega
    ·have c2' : R i = false:=by simpa using c2
     rw [c2',if_pos (by decide)]
     refine ⟨_,rfl,⟨R,rfl,by omega,q3,q4,fun v hv hlt q z hz=>?_⟩,by omega⟩
     by_cases e:v = i
     ·subst e; rw [c2'] at q; cases q
     ·exact q5 v hv (by omega) q z hz
   ·right
    rw [if_neg (by simpa using c)]
    exact ⟨_,rfl,R,rfl,fun v hv=>⟨q4 v hv,fun q=>(closed_all h ha q3 (fun v hv q z hz=>q5 v hv (by omega) q z hz) v q).2⟩⟩)
  ((act:Int),putG (act:Int) true []) ⟨fun i=>decide (i = act),hstart,by simp only; omega,by simp,fun v hv q=>by
   have:v = act:=of_decide_eq_true q
   subst this
   exact .refl,fun v hv hlt q=>by
   have:v = act:=of_decide_eq_true q
   subst this
   exact absurd hlt (by simp)⟩
 obtain ⟨R,rfl,hR⟩:=h2
 exact ⟨R,h1,hR⟩
theorem refWhy_no {l:List GLean} {sk:List Bool} (h:rightL l) (hl:sk.length = l.length) {act:Nat} (ha:act < l.length) (c:stand l sk act = false):mallongeref45_Why l sk (act:Int) = some (idL l.length fun i=>!stand l sk i,false):=by
 have hn:=h.1
 have hlen:=ints_len l.length (stand l sk)
 have hel:el (ints l.length (stand l sk)) act = stand l sk act:=ints_el ha
 unfold mallongeref45_Why
 rw [refStanding_eq,if_pos ⟨h,hl⟩,Option.bind_some,if_neg (by simp),if_neg (by rw [hlen]; simp; omega),if_pos (by rw [hlen]; omega),at_el _ act (by rw [hlen]; exact ha),Option.bind_some,hel,hlen,Int.toNat_natCast,c,if_neg (by decide)]
 unfold mallongeref45_Why_j2
 rw [refWhy_l1 l act _ _ hlen hn (by simp) ha,Option.bind_some,at_el _ act (by rw [hlen]; exact ha),Option.bind_some,Option.bind_some,hel,c]
 congr 2
 refine idL_congr fun i hi=>?_
 rw [ints_el hi,List.eq_of_mem_replicate (el_mem (List.replicate l.length false) i (by simpa using hi))]
 rfl
theorem refWhy_yes {l:List GLean} {sk:List Bool} (h:rightL l) (hl:sk.length = l.length) {act:Nat} (ha:act < l.length) (c:stand l sk act = true) (R:Nat→Bool) (hR:∀ v,v < l.length→(R v = true ↔ Rc45 (pE l (stand l sk)) act v)):mallongeref45_Why l sk (act:Int) = some (idL l.length R,true):=by
 have hn:=h.1
 have hlen:=ints_len l.length (stand l sk)
 have hel:el (ints l.length (stand l sk)) act = stand l sk act:=ints_el ha
 obtain ⟨b,b1,b2,b3⟩:=first_exact h (stand l sk) (ints l.length (stand l sk)) hlen (fun v hv=>ints_el hv) ha
 unfold mallongeref45_Why
 rw [refStanding_eq,if_pos ⟨h,hl⟩,Option.bind_some,if_neg (by simp),if_neg (by rw [hlen]; simp; omega),if_pos (by rw [hlen]; omega),at_el _ act (by rw [hlen]; exact ha),Option.bind_some,hel,hlen,Int.toNat_natCast,c,if_pos rfl,b1,Option.bind_some]
 unfold mallongeref45_Why_j2
 rw [refWhy_l1 l act _ _ hlen hn b2 ha,Option.bind_some,at_el _ act (by rw [hlen]; exact ha),Option.bind_some,Option.bind_some,hel,c]
 congr 2
 refine idL_congr fun i hi=>?_
 rw [Bool.not_true,Bool.false_and,Bool.or_false,Bool.eq_iff_iff,b3 i hi,hR i hi]
theorem why_same {l:List GLean} {sk:List Bool} (h:rightL l) (hl:sk.length = l.length) {act:Nat} (ha:act < l.length):∃ why,mundo_Why l sk (act:Int) = some (why,stand l sk act) ∧ mallongeref45_Why l sk (act:Int) = some (why,stand l sk act) ∧ why.length ≤ 300:=by
 have hn:=h.1
 unfold mundo_Why
 rw [rightU_eq,Option.bind_some,decide_eq_true h,if_neg (by decide),if_neg (by rw [hl]; simp),if_neg (by simp),if_neg (by simp; omega),standing_eq h hl,Option.bind_some,if_pos (in64_small (by omega) (by omega)),can_get,decide_eq_true ha,Bool.true_and]
 cases c:stand l sk act with
 | false =>
  rw [if_pos (by decide),whyAll l _ hn,Option.bind_some,whySub,Option.bind_some,sort_can _ _ (by omega) fun x=>(x,false),refWhy_no h hl ha c]
  exact ⟨_,rfl,by congr 2,by have:=idL_len l.length fun i=>true && !stand l sk i; omega⟩
 | true =>
  obtain ⟨R,r1,r2⟩:=whyLoopP h sk ha
  rw [if_neg (by decide),if_pos (in64_small (by omega) (by omega)),if_pos (by decide),r1,Option.bind_some,whyNone,Option.bind_some,sort_can _ _ (by omega) fun x=>(x,true),refWhy_yes h hl ha c R r2]
  exact ⟨_,rfl,rfl,by have:=idL_len l.length R; omega⟩
end Go.Proofs.Ytmekbfccmnjdcaa
