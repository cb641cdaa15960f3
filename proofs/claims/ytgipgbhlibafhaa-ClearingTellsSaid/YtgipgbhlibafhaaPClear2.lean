/- Clearing: cheapest finds the cheapest ways. -/
import Derived.Test.YtgipgbhlibafhaaPClear1
set_option linter.unusedVariables false
set_option linter.unusedSimpArgs false
namespace Go.Proofs.Ytgipgbhlibafhaa
open Go.RowKit Vm
theorem runs_cheap {n:Nat} {l:List GClearingStep} (hl:∀ g ∈ l,OkSt n g):∀ (f:Nat) (best:List Lab) (last:List Int) (B:Int) (b:List Lab) (la:List Int),best.length = n→last.length = n→BoundL n B best→0 ≤ B→B + (f * l.length:Nat) ≤ 4611686018427387904 →
  runS lessL onwL Stp.src Stp.dst (l.map stpOf) f best last = some (b,la)→mclearing_cheapest_l3 l true (best.map gLab) last = some (b.map gLab,la)
 | 0,best,last,B,b,la,_,_,_,_,_,h=>by cases h
 | f + 1,best,last,B,b,la,hb,hla,hB,hB0,hBf,h=>by
  have hmul:(f + 1) * l.length = f * l.length + l.length:=Nat.succ_mul f l.length
  have hr:=round_cheap hl hb hla hB hB0 (by omega)
  obtain ⟨q1,q2,q3⟩:=round_bound hl hb hla hB hB0 l.length (Nat.le_refl _)
  have e0:roundS lessL onwL Stp.src Stp.dst (l.map stpOf) best last = (List.range l.length).foldl (relaxS lessL onwL Stp.src Stp.dst (l.map stpOf)) (best,last,false):=by unfold roundS; rw [List.length_map]
  rw [← e0] at q1 q2 q3
  simp only [runS] at h
  generalize roundS lessL onwL Stp.src Stp.dst (l.map stpOf) best last = z at *
  unfold mclearing_cheapest_l3
  rw [iter_some (s':=(z.2.2,z.1.map gLab,z.2.1)) (by unfold mclearing_cheapest_l3_s; rw [if_pos rfl,hr]; rfl)]
  split at h
  ·rename_i hc
   rw [hc]
   exact runs_cheap hl f z.1 z.2.1 (B + l.length) b la q1 q2 q3 (by omega) (by omega) h
  ·rename_i hc
   cases h
   exact iter_end (by unfold mclearing_cheapest_l3_s; exact if_neg hc)
def initL0 (n:Nat) (too:List Int):List Lab:=(List.range n).map fun v=>⟨0,0,decide (el too v > 0)⟩
theorem initL0_len (n:Nat) (too:List Int):(initL0 n too).length = n:=by simp [initL0]
theorem initL0_el {n:Nat} (too:List Int) {v:Nat} (h:v < n):el (initL0 n too) v = ⟨0,0,decide (el too v > 0)⟩:=by
 simp [initL0,el,h]
theorem ext_elC {α:Type} [Inhabited α] {a b:List α} (h:a.length = b.length) (he:∀ i,i < a.length→el a i = el b i):a = b:=by
 apply List.ext_getElem h
 intro i h1 h2
 have:=he i h1
 simpa [el,h1,h2] using this
theorem init_cheap {n:Nat} (hn:n ≤ 100000) (l:List GClearingStep) {too:List Int} (ht:too.length = n):mclearing_cheapest_l1 n l too 0 (List.replicate n ((GClearingCost.mk 0 0 false):GClearingCost)) = some ((initL0 n too).map gLab):=by
 unfold mclearing_cheapest_l1
 suffices hh:∃ x,Iter (fun (w:Int × List GClearingCost)=>mclearing_cheapest_l1_s n l too w.1 w.2) (0,List.replicate n ((GClearingCost.mk 0 0 false):GClearingCost)) = some x ∧ x = (initL0 n too).map gLab by
  obtain ⟨x,h1,h2⟩:=hh
  rw [h2] at h1; exact h1
 refine iter_for (step:=fun (w:Int × List GClearingCost)=>mclearing_cheapest_l1_s n l too w.1 w.2) (fun k (a:List GClearingCost)=>((k:Int),a)) n
  (fun k a=>a.length = n ∧ ∀ v,v < n→el a v = if v < k then (GClearingCost.mk 0 0 (decide (el too v > 0)):GClearingCost) else (GClearingCost.mk 0 0 false:GClearingCost)) _ ?_ ?_ _ ?_
 ·rintro k a hk ⟨h1,h2⟩
  refine .inl ⟨a.set k (GClearingCost.mk 0 0 (decide (el too k > 0))),?_,by simp [h1],fun v hv=>?_⟩
  ·show mclearing_cheapest_l1_s n l too k a = _
   unfold mclearing_cheapest_l1_s
   rw [if_pos (by simpa using hk),atI_el too k (by omega),Option.bind_some,if_pos ⟨by omega,by rw [Int.toNat_natCast]; omega⟩,Int.toNat_natCast,atE a k (by omega),Option.bind_some,wrap_succ (by omega),h2 k hk,if_neg (Nat.lt_irrefl k)]
  ·rw [el_set_any,h2 v hv]
   by_cases e:v = k
   ·subst e
    rw [if_pos ⟨rfl,by omega⟩,if_pos (Nat.lt_succ_self _)]
   ·rw [if_neg fun q=>e q.1]
    by_cases c:v < k
    ·rw [if_pos c,if_pos (by omega)]
    ·rw [if_neg c,if_neg (by omega)]
 ·rintro a ⟨h1,h2⟩
  refine ⟨a,?_,?_⟩
  ·show mclearing_cheapest_l1_s n l too n a = _
   unfold mclearing_cheapest_l1_s
   rw [if_neg (by simp)]
  ·refine ext_elC (by rw [h1,List.length_map,initL0_len]) fun v hv=>?_
   rw [h1] at hv
   rw [h2 v hv,if_pos hv,el_map' gLab _ _ (by rw [initL0_len]; exact hv),initL0_el too hv]
   rfl
 ·refine ⟨List.length_replicate,fun v hv=>?_⟩
  rw [if_neg (Nat.not_lt_zero _),el_replicate_any _ _ _ hv]
theorem rep_m {n:Nat} (hn:n ≤ 100000):mslices_Repeat_int_int [-1] (n:Int) = some (List.replicate n (-1)):=by
 show (if 0 ≤ (n:Int) ∧ (n:Int) ≤ 100000 then some (List.replicate (n:Int).toNat (-1:Int)) else none) = _
 rw [if_pos (by omega),Int.toNat_natCast]
theorem cheap_m {n:Nat} (hn:n ≤ 1000) {l:List GClearingStep} (hl:∀ g ∈ l,OkSt n g) (hll:l.length ≤ 100000) {too:List Int} (ht:too.length = n) {p:Nat→Int} (hp:Pot Stp.src Stp.dst Stp.cost (l.map stpOf) p) :
  ∃ (best:List Lab) (last:List Int),mclearing_cheapest n l too = some (best.map gLab,last) ∧ best.length = n ∧ last.length = n ∧
   TreeS n (l.map stpOf) (fun v=>(el best v).fine = true) (fun v=>decide (el too v > 0) = true) (fun v=>(el best v).c) (fun v=>(el best v).k.toNat) last:=by
 have hs:∀ i,i < (l.map stpOf).length→(el (l.map stpOf) i).src < n ∧ (el (l.map stpOf) i).dst < n:=by
  intro i hi
  rw [List.length_map] at hi
  rw [el_map' stpOf l i hi]
  have hg:=hl (el l i) (by rw [show el l i = l[i] from by simp [el,hi]]; exact List.getElem_mem _)
  obtain ⟨⟨g1,g2⟩,⟨g3,g4⟩,g5,g6⟩:=hg
  simp only [Stp.src,Stp.dst,stpOf]
  omega
 obtain ⟨best,last,h1,h2,h3,h4⟩:=cheap_tree hp (fun v=>decide (el too v > 0)) hs (initL0_len n too) (fun v hv=>initL0_el too hv) (fuel:=n + 1) (Nat.le_refl _)
 refine ⟨best,last,?_,h2,h3,h4⟩
 unfold mclearing_cheapest
 have hmul:(n + 1) * l.length ≤ 1001 * 100000:=Nat.mul_le_mul (by omega) hll
 rw [if_pos (by omega),Int.toNat_natCast,init_cheap (by omega) l ht,Option.bind_some,List.length_map,initL0_len]
 rw [rep_m (by omega),Option.bind_some,runs_cheap hl (n + 1) _ _ 0 best last (initL0_len n too) (by simp) (fun v hv=>by rw [initL0_el too hv]; simp) (by omega) (by omega) h1]
 rfl
end Go.Proofs.Ytgipgbhlibafhaa
