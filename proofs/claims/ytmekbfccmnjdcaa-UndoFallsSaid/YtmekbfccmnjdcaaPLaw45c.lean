/- Layer 45 (undo): only acts fall from which the act that is struck out is reached. -/
import Derived.Test.YtmekbfccmnjdcaaPLaw45b
import Derived.Test.YtmekbfccmnjdcaaPCycle2
set_option linter.unusedVariables false
set_option linter.unusedSimpArgs false
namespace Go.Proofs.Ytmekbfccmnjdcaa
open Go.RowKit Vm
def eS (i:Nat) (s:List Int):List GArr2I:=s.map fun x=>GArr2I.mk x (i:Int)
def eX (i:Nat) (ss:List (List Int)):List GArr2I:=ss.flatMap (eS i)
def eL (l:List GLean) (n:Nat):List GArr2I:=(List.range n).flatMap fun i=>eX i (el l i).Supports
theorem take_snoc {α:Type} [Inhabited α] (s:List α) (k:Nat) (hk:k < s.length):s.take (k + 1) = s.take k ++ [el s k]:=by
 rw [List.take_add_one,List.getElem?_eq_getElem hk,el_lt s k hk]; rfl
theorem eS_snoc (i:Nat) (s:List Int) (k:Nat) (hk:k < s.length):eS i (s.take (k + 1)) = eS i (s.take k) ++ [GArr2I.mk (el s k) (i:Int)]:=by
 unfold eS; rw [take_snoc s k hk,List.map_append]; rfl
theorem eX_snoc (i:Nat) (ss:List (List Int)) (k:Nat) (hk:k < ss.length):eX i (ss.take (k + 1)) = eX i (ss.take k) ++ eS i (el ss k):=by
 unfold eX; rw [take_snoc ss k hk,List.flatMap_append]; simp
theorem eL_snoc (l:List GLean) (n:Nat):eL l (n + 1) = eL l n ++ eX n (el l n).Supports:=by
 unfold eL; rw [List.range_succ,List.flatMap_append]; simp
theorem eL_mem {l:List GLean} {e:GArr2I}:e ∈ eL l l.length ↔ ∃ i,i < l.length ∧ ∃ s ∈ (el l i).Supports,e.e0 ∈ s ∧ e.e1 = (i:Int):=by
 unfold eL eX eS
 rw [List.mem_flatMap]
 constructor
 ·rintro ⟨i,hi,hm⟩
  obtain ⟨s,hs,hm⟩:=List.mem_flatMap.1 hm
  obtain ⟨x,hx,rfl⟩:=List.mem_map.1 hm
  exact ⟨i,List.mem_range.1 hi,s,hs,hx,rfl⟩
 ·rintro ⟨i,hi,s,hs,h0,h1⟩
  refine ⟨i,List.mem_range.2 hi,List.mem_flatMap.2 ⟨s,hs,List.mem_map.2 ⟨e.e0,h0,?_⟩⟩⟩
  cases e
  simp only at h1
  rw [h1]
section
variable {l:List GLean} (h:rightL l) (sk:List Bool) (act:Int)
include h
theorem edges_l1 {i j:Nat} (hi:i < l.length) (hj:j < (el l i).Supports.length) {p:List GArr2I} (hp:p.length ≤ 200000):mallongelaw45_UndoReaches_l1 l sk act (i:Int) (j:Int) true 0 p = some (p ++ eS i (el (el l i).Supports j)):=by
 have hr:=right_sup h hi (el_mem (el l i).Supports j hj)
 unfold mallongelaw45_UndoReaches_l1
 obtain ⟨x,h1,h2⟩:=iter_for (step:=fun (w:Int × List GArr2I)=>mallongelaw45_UndoReaches_l1_s l sk act (i:Int) (j:Int) true w.1 w.2) (fun (k:Nat) (q:List GArr2I)=>((k:Int),q)) (el (el l i).Supports j).length
  (fun k q=>q = p ++ eS i ((el (el l i).Supports j).take k) ∧ q.length ≤ p.length + k) (fun x=>x = p ++ eS i (el (el l i).Supports j))
  (fun k q hk ⟨q1,q2⟩=>by
   have:=hr.1.2
   simp only [mallongelaw45_UndoReaches_l1_s]
   rw [at_el l i hi,Option.bind_some,at_el _ j hj,Option.bind_some,if_pos (by simp; omega),Option.bind_some,at_el _ j hj,Option.bind_some,at_el _ k hk,Option.bind_some,if_pos (by omega),wrap_succ (by omega)]
   exact .inl ⟨_,rfl,by rw [q1,eS_snoc _ _ _ hk,List.append_assoc],by rw [List.length_append]; simp; omega⟩)
  (fun q ⟨q1,q2⟩=>⟨q,by
   simp only [mallongelaw45_UndoReaches_l1_s]
   rw [at_el l i hi,Option.bind_some,at_el _ j hj,Option.bind_some,if_neg (by simp)],by rw [q1,List.take_length]⟩) p ⟨by simp [eS],by omega⟩
 rw [show ((0:Nat):Int) = 0 from rfl] at h1
 rw [h1,h2]
theorem edges_l2 {i:Nat} (hi:i < l.length) {p:List GArr2I} (hp:p.length ≤ 180000):mallongelaw45_UndoReaches_l2 l sk act (i:Int) true 0 p = some (p ++ eX i (el l i).Supports) ∧ (p ++ eX i (el l i).Supports).length ≤ p.length + 400:=by
 have hsup:=(h.2 i hi).1
 unfold mallongelaw45_UndoReaches_l2
 obtain ⟨x,h1,h2,h3⟩:=iter_for (step:=fun (w:Int × List GArr2I)=>mallongelaw45_UndoReaches_l2_s l sk act (i:Int) true w.1 w.2) (fun (k:Nat) (q:List GArr2I)=>((k:Int),q)) (el l i).Supports.length
  (fun k q=>q = p ++ eX i ((el l i).Supports.take k) ∧ q.length ≤ p.length + 20 * k) (fun x=>x = p ++ eX i (el l i).Supports ∧ x.length ≤ p.length + 400)
  (fun k q hk ⟨q1,q2⟩=>by
   have hr:=right_sup h hi (el_mem (el l i).Supports k hk)
   simp only [mallongelaw45_UndoReaches_l2_s]
   rw [at_el l i hi,Option.bind_some,if_pos (by simp; omega),edges_l1 h sk act hi hk (by omega),Option.bind_some,wrap_succ (by omega)]
   refine .inl ⟨_,rfl,by rw [q1,eX_snoc _ _ _ hk,List.append_assoc],?_⟩
   have:=hr.1.2
   rw [List.length_append]
   unfold eS
   rw [List.length_map]
   omega)
  (fun q ⟨q1,q2⟩=>⟨q,by
   simp only [mallongelaw45_UndoReaches_l2_s]
   rw [at_el l i hi,Option.bind_some,if_neg (by simp)],by rw [q1,List.take_length],by omega⟩) p ⟨by simp [eX],by omega⟩
 rw [show ((0:Nat):Int) = 0 from rfl] at h1
 subst h2
 exact ⟨h1,h3⟩
theorem edges_l3:mallongelaw45_UndoReaches_l3 l sk act true 0 [] = some (eL l l.length):=by
 have hn:=h.1
 unfold mallongelaw45_UndoReaches_l3
 obtain ⟨x,h1,h2⟩:=iter_for (step:=fun (w:Int × List GArr2I)=>mallongelaw45_UndoReaches_l3_s l sk act true w.1 w.2) (fun (k:Nat) (q:List GArr2I)=>((k:Int),q)) l.length
  (fun k q=>q = eL l k ∧ q.length ≤ 400 * k) (fun x=>x = eL l l.length)
  (fun k q hk ⟨q1,q2⟩=>by
   simp only [mallongelaw45_UndoReaches_l3_s]
   obtain ⟨g1,g2⟩:=edges_l2 h sk act hk (p:=q) (by omega)
   rw [if_pos (by simp; omega),g1,Option.bind_some,wrap_succ (by omega)]
   exact .inl ⟨_,rfl,by rw [q1,eL_snoc],by omega⟩)
  (fun q ⟨q1,q2⟩=>⟨q,by
   simp only [mallongelaw45_UndoReaches_l3_s]
   rw [if_neg (by simp)],q1⟩) [] ⟨by simp [eL],by simp⟩
 rw [show ((0:Nat):Int) = 0 from rfl] at h1
 rw [h1,h2]
theorem eL_in:∀ e ∈ eL l l.length,inE l.length e:=by
 intro e he
 obtain ⟨i,hi,s,hs,h0,h1⟩:=eL_mem.1 he
 have:=right_mem h hi hs h0
 unfold inE
 omega
theorem eL_rise {a b:Nat} (he:edg (eL l l.length) a b):a < b:=by
 obtain ⟨e,hm,h0,h1⟩:=he
 obtain ⟨i,hi,s,hs,q0,q1⟩:=eL_mem.1 hm
 have:=right_mem h hi hs q0
 omega
omit h in
theorem eL_edge {i:Nat} (hi:i < l.length) {s:List Int} (hs:s ∈ (el l i).Supports) {k:Nat} (hk:(k:Int) ∈ s):edg (eL l l.length) k i :=
 ⟨GArr2I.mk (k:Int) (i:Int),eL_mem.2 ⟨i,hi,s,hs,hk,rfl⟩,rfl,rfl⟩
end
theorem tos_le {E:Nat→Nat→Prop} (hE:∀ a b,E a b→a < b) {s:Nat}:∀ {k a:Nat},Tos E s k a→a ≤ s
 | 0,a,t=>by have:=Tos.zero_eq t; omega
 | k + 1,a,t=>by
  obtain ⟨_,b,h1,h2⟩:=Tos.gt t
  have:=tos_le hE h2
  have:=hE a b h1
  omega
theorem no_cycle {E:Nat→Nat→Prop} (hE:∀ a b,E a b→a < b) {n:Nat} {c:List Nat} (h:CycSpec E n c):c = []:=by
 rcases h.1 with q | q
 ·exact q.1
 ·obtain ⟨b,h1,h2⟩:=q.1.cl
  have:=hE _ _ h1
  have:=tos_le hE h2
  omega
theorem falls_reach {l:List GLean} (h:rightL l) {sk:List Bool} (hl:sk.length = l.length) {act:Nat} (ha:act < l.length):∀ i,i < l.length→stand l sk i = true→stand l (sk.set act true) i = false→Rch (edg (eL l l.length)) act i:=by
 intro i
 induction i using Nat.strongRecOn with
 | _ i ih =>
  intro hi h1 h2
  by_cases e:i = act
  ·rw [e]; exact .refl
  ·rw [stand_eq h _ hi,Bool.and_eq_true] at h1
   rw [stand_eq h _ hi,el_setB _ _ _ _ (by omega),if_neg e,h1.1,Bool.true_and] at h2
   have h3:=h1.2
   unfold heldF at h3 h2
   rw [Bool.or_eq_true] at h3
   rw [Bool.or_eq_false_iff] at h2
   rcases h3 with q | q
   ·rw [q] at h2; exact absurd h2.1 (by decide)
   ·obtain ⟨s,hs,hw⟩:=List.any_eq_true.1 q
    have hnw:wholeF s (stand l (sk.set act true)) = false:=by
     have:=List.any_eq_false.1 h2.2 s hs
     simpa using this
    unfold wholeF at hnw hw
    have hex:¬ ∀ z ∈ s,stand l (sk.set act true) z.toNat = true:=fun q=>by rw [List.all_eq_true.2 q] at hnw; cases hnw
    rw [Classical.not_forall] at hex
    obtain ⟨z,hz⟩:=hex
    rw [Classical.not_imp] at hz
    have hm:=right_mem h hi hs hz.1
    have hr:=ih z.toNat hm.2 (by omega) (List.all_eq_true.1 hw z hz.1) (by simpa using hz.2)
    exact .tail hr (eL_edge hi hs (by rw [Int.toNat_of_nonneg hm.1]; exact hz.1))
theorem falls_none {l:List GLean} (h:rightL l) {sk:List Bool} (hl:sk.length = l.length) {act:Nat} (ha:act < l.length) (hs:stand l sk act = false):∀ i,i < l.length→stand l sk i = stand l (sk.set act true) i :=
 stand_one h (sk.set act true) fun i hi=>by
  rw [el_setB _ _ _ _ (by omega)]
  by_cases e:i = act
  ·subst e; rw [if_pos rfl,hs]; rfl
  ·rw [if_neg e]; exact stand_eq h sk hi
theorem law45_reaches (hs:mallongelaw45_sane = some true) (l:List GLean) (sk:List Bool) (act:Int):mallongelaw45_UndoReaches l sk act = some true:=by
 unfold mallongelaw45_UndoReaches
 rw [hs,Option.bind_some]
 obtain ⟨b,hb⟩:=few_total l
 rw [hb,Option.bind_some]
 cases b with
 | false=>rfl
 | true =>
  rw [if_neg (by decide),rightU_eq,Option.bind_some]
  by_cases c1:rightL l
  case neg=>rw [decide_eq_false c1]; rfl
  rw [decide_eq_true c1,if_neg (by decide)]
  have hn:=c1.1
  by_cases c2:sk.length = l.length
  case neg=>rw [if_pos (by simp; omega)]
  rw [if_neg (by rw [c2]; simp)]
  by_cases c4:act < 0
  case pos=>rw [if_pos (decide_eq_true c4)]
  rw [if_neg (by simpa using c4)]
  by_cases c5:act ≥ (l.length:Int)
  case pos=>rw [if_pos (decide_eq_true c5)]
  rw [if_neg (by simpa using c5),edges_l3 c1 sk act,Option.bind_some]
  by_cases c6:((eL l l.length).length:Int) > 2000
  case pos=>rw [if_pos (decide_eq_true c6)]
  rw [if_neg (by simpa using c6)]
  obtain ⟨a,rfl⟩ : ∃ a:Nat,act = a:=⟨act.toNat,by omega⟩
  have ha:a < l.length:=by omega
  have hG:rightG (l.length:Int) (eL l l.length):=⟨⟨by omega,by omega⟩,by omega,by rw [Int.toNat_natCast]; exact eL_in c1⟩
  have hok:okS l sk [(a:Int)]:=⟨⟨c1,c2⟩,fun k hk=>by simp at hk; subst hk; omega⟩
  have hset:setAll [(a:Int)] true sk = sk.set a true:=rfl
  rw [Reach_eq,if_pos ⟨hG,by omega,by omega⟩,Option.bind_some,Int.toNat_natCast,Int.toNat_natCast,Strike_eq _ _ _ (by simp),if_pos hok,hset,Option.bind_some,if_neg (by rw [reachL_len]; simp)]
  have hfl:=idL_len l.length fun i=>stand l sk i && !stand l (sk.set a true) i
  have hrise:=idL_rising l.length fun i=>stand l sk i && !stand l (sk.set a true) i
  rw [refRising_eq _ _ (by omega),Option.bind_some,decide_eq_true hrise,if_neg (by decide)]
  have h4:=iter_all? (step:=fun w=>mallongelaw45_UndoReaches_l4_s l sk (a:Int) true (eL l l.length) (reachL l.length (eL l l.length) a) (idL l.length fun i=>stand l sk i && !stand l (sk.set a true) i) w) (fun k:Nat=>(k:Int)) (idL l.length fun i=>stand l sk i && !stand l (sk.set a true) i).length (fun _=>true) () (fun k hk=>by
   unfold mallongelaw45_UndoReaches_l4_s
   obtain ⟨i,hi,hf,he⟩:=idL_mem.1 (el_mem _ k hk)
   rw [if_pos (by simp; omega),at_el _ k hk,Option.bind_some,he,at_el _ i (by rw [reachL_len]; exact hi),Option.bind_some,reachL_el hi,wrap_succ (by omega)]
   rw [Bool.and_eq_true] at hf
   have hr:=falls_reach c1 c2 ha i hi hf.1 (by simpa using hf.2)
   rw [rchB_iff.2 hr]
   rfl) (by
   unfold mallongelaw45_UndoReaches_l4_s
   rw [if_neg (by simp)])
  rw [show ((0:Nat):Int) = 0 from rfl] at h4
  unfold mallongelaw45_UndoReaches_l4
  rw [h4,if_pos (allN_iff.2 fun _ _=>rfl),Option.bind_some]
  simp only [Sum.elim_inl]
  obtain ⟨c,hc1,hc2⟩:=Cycle_eq hG
  obtain rfl:=no_cycle (fun x y=>eL_rise c1) hc2
  rw [Standing_ok c1 c2,Option.bind_some,if_neg (by rw [ints_len]; simp),if_pos trivial,at_el _ a (by rw [ints_len]; exact ha),ints_el ha,Option.bind_some,hc1,Option.bind_some]
  have hlen:decide (((idL l.length fun i=>stand l sk i && !stand l (sk.set a true) i).length:Int) > 0) = stand l sk a:=by
   cases q:stand l sk a with
   | true =>
    have hnx:stand l (sk.set a true) a = false:=by
     rw [stand_eq c1 _ ha,el_setB _ _ _ _ (by omega),if_pos rfl]; rfl
    have hm:(a:Int) ∈ idL l.length fun i=>stand l sk i && !stand l (sk.set a true) i:=idL_mem.2 ⟨a,ha,by rw [q,hnx]; rfl,rfl⟩
    have:0 < (idL l.length fun i=>stand l sk i && !stand l (sk.set a true) i).length:=List.length_pos_of_mem hm
    simp; omega
   | false =>
    have hnone:=falls_none c1 c2 ha q
    have:(idL l.length fun i=>stand l sk i && !stand l (sk.set a true) i) = []:=by
     rw [idL_congr (g:=fun _=>false) fun i hi=>by rw [← hnone i hi]; cases stand l sk i <;> rfl]
     simp [idL]
    rw [this]; rfl
  rw [hlen,if_pos (by simp)]
  rfl
end Go.Proofs.Ytmekbfccmnjdcaa
