/- Clearing: raising one due. -/
import Derived.Test.YtgipgbhlibafhaaPClear8
set_option linter.unusedVariables false
set_option linter.unusedSimpArgs false
namespace Go.Proofs.Ytgipgbhlibafhaa
open Go.RowKit Vm
theorem take_el {α:Type} [Inhabited α] (l:List α) {k:Nat} (h:k < l.length):l.take (k + 1) = l.take k ++ [el l k]:=by
 rw [List.take_add_one,atE l k h]; rfl
def tgtB (p:List Int) (i:Nat) (g:GClearingStep):Bool:=decide ((i:Int) < g.due) && decide (el p g.to.toNat = el p g.from_.toNat + g.cost)
def zcG (g:GClearingStep):GClearingStep:=GClearingStep.mk g.due g.from_ g.to 0 g.most g.back
section
variable {n:Nat} {dues:List GDue} {p:List Int} {l:List GClearingStep}
theorem tight_m (hl:∀ g ∈ l,OkSt n g) (hll:l.length ≤ 100000) (hp:p.length = n) (hpb:∀ v,v < n→-1000 ≤ el p v ∧ el p v ≤ 1000) (i:Nat) (x:List Int):mclearing_raise_l1 n dues p i x l 0 [] = some (l.filter (tgtB p i)):=by
 unfold mclearing_raise_l1
 suffices hh:∃ y,Iter (fun (w:Int × List GClearingStep)=>mclearing_raise_l1_s n dues p i x l w.1 w.2) (0,[]) = some y ∧ y = l.filter (tgtB p i) by
  obtain ⟨y,h1,h2⟩:=hh
  rw [h2] at h1; exact h1
 refine iter_for (step:=fun (w:Int × List GClearingStep)=>mclearing_raise_l1_s n dues p i x l w.1 w.2) (fun k (a:List GClearingStep)=>((k:Int),a)) l.length (fun k a=>a = (l.take k).filter (tgtB p i)) _ ?_ ?_ _ (by simp)
 ·rintro k a hk rfl
  refine .inl ⟨_,?_,rfl⟩
  have hlen:((l.take k).filter (tgtB p i)).length ≤ 100000:=Nat.le_trans (List.length_filter_le _ _) (by rw [List.length_take]; omega)
  obtain ⟨⟨g1,g2⟩,⟨g3,g4⟩,g5,g6⟩:=hl _ (el_mem _ _ hk)
  rw [take_el l hk,List.filter_append]
  generalize (l.take k).filter (tgtB p i) = a at *
  show mclearing_raise_l1_s n dues p i x l k a = _
  unfold mclearing_raise_l1_s
  have c0:decide ((k:Int) < (l.length:Int)) = true:=by simpa using hk
  have ck:0 ≤ (k:Int) ∧ (k:Int).toNat < l.length:=⟨by omega,by rw [Int.toNat_natCast]; omega⟩
  have ek:l[(k:Int).toNat]? = some (el l k):=by rw [Int.toNat_natCast]; exact atE l k hk
  have w3:IntKind.wrap .i64 ((k:Int) + 1) = ((k + 1:Nat):Int):=wrap_succ (by omega)
  have eT:at? p (el l k).to = some (el p (el l k).to.toNat):=by
   have:=atI_el p (el l k).to.toNat (by omega)
   rwa [Int.toNat_of_nonneg g3] at this
  have eF:at? p (el l k).from_ = some (el p (el l k).from_.toNat):=by
   have:=atI_el p (el l k).from_.toNat (by omega)
   rwa [Int.toNat_of_nonneg g1] at this
  have bT:=hpb (el l k).to.toNat (by omega)
  have bF:=hpb (el l k).from_.toNat (by omega)
  have wF:IntKind.wrap .i64 (el p (el l k).from_.toNat + (el l k).cost) = el p (el l k).from_.toNat + (el l k).cost:=wrap_id (by omega) (by omega)
  have cL:(a.length + 1) * 48 ≤ 140737488355328:=by omega
  simp only [if_pos c0,if_pos ck,ek,Option.bind_some,eT,eF,wF,w3,if_pos cL]
  by_cases h1:(i:Int) < (el l k).due
  ·have d1:decide ((el l k).due > (i:Int)) = true:=by simpa using h1
   by_cases h2:el p (el l k).to.toNat = el p (el l k).from_.toNat + (el l k).cost
   ·have d2:(el p (el l k).to.toNat == el p (el l k).from_.toNat + (el l k).cost) = true:=by simpa using h2
    have ht:tgtB p i (el l k) = true:=by unfold tgtB; rw [decide_eq_true h1,decide_eq_true h2]; rfl
    rw [if_pos d1,if_pos d2,List.filter_cons_of_pos ht]
    rfl
   ·have d2:¬ (el p (el l k).to.toNat == el p (el l k).from_.toNat + (el l k).cost) = true:=by simpa using h2
    have ht:¬ tgtB p i (el l k) = true:=by unfold tgtB; rw [decide_eq_false h2]; simp
    rw [if_pos d1,if_neg d2,List.filter_cons_of_neg ht,List.filter_nil,List.append_nil]
  ·have d1:¬ decide ((el l k).due > (i:Int)) = true:=by simpa using h1
   have ht:¬ tgtB p i (el l k) = true:=by unfold tgtB; rw [decide_eq_false h1]; simp
   rw [if_neg d1,List.filter_cons_of_neg ht,List.filter_nil,List.append_nil]
 ·rintro a rfl
  rw [List.take_length]
  refine ⟨_,?_,rfl⟩
  show mclearing_raise_l1_s n dues p i x l l.length _ = _
  unfold mclearing_raise_l1_s
  rw [if_neg (by simp)]
theorem zero_m (hll:l.length ≤ 100000) (i:Int) (x:List Int) (d:GDue):mclearing_raise_l2 n dues p i x l d 0 l = some (l.map zcG):=by
 unfold mclearing_raise_l2
 suffices hh:∃ y,Iter (fun (w:Int × List GClearingStep)=>mclearing_raise_l2_s n dues p i x l d w.1 w.2) (0,l) = some y ∧ y = l.map zcG by
  obtain ⟨y,h1,h2⟩:=hh
  rw [h2] at h1; exact h1
 refine iter_for (step:=fun (w:Int × List GClearingStep)=>mclearing_raise_l2_s n dues p i x l d w.1 w.2) (fun k (a:List GClearingStep)=>((k:Int),a)) l.length (fun k a=>a.length = l.length ∧ ∀ j,j < l.length→el a j = if j < k then zcG (el l j) else el l j) _ ?_ ?_ _ ⟨rfl,fun j hj=>by rw [if_neg (Nat.not_lt_zero _)]⟩
 ·rintro k a hk ⟨h1,h2⟩
  refine .inl ⟨a.set k (zcG (el l k)),?_,by simp [h1],fun j hj=>?_⟩
  ·show mclearing_raise_l2_s n dues p i x l d k a = _
   unfold mclearing_raise_l2_s
   have c0:decide ((k:Int) < (l.length:Int)) = true:=by simpa using hk
   have ck:0 ≤ (k:Int) ∧ (k:Int).toNat < a.length:=⟨by omega,by rw [Int.toNat_natCast]; omega⟩
   have ek:a[(k:Int).toNat]? = some (el l k):=by rw [Int.toNat_natCast,atE a k (by omega),h2 k hk,if_neg (Nat.lt_irrefl _)]
   have w3:IntKind.wrap .i64 ((k:Int) + 1) = ((k + 1:Nat):Int):=wrap_succ (by omega)
   simp only [if_pos c0,if_pos ck,ek,Option.bind_some,w3]
   rfl
  ·rw [el_set_any,h2 j hj]
   by_cases e:j = k
   ·subst e
    rw [if_pos ⟨rfl,by omega⟩,if_pos (Nat.lt_succ_self _)]
   ·rw [if_neg fun q=>e q.1]
    by_cases c:j < k
    ·rw [if_pos c,if_pos (by omega)]
    ·rw [if_neg c,if_neg (by omega)]
 ·rintro a ⟨h1,h2⟩
  refine ⟨a,?_,?_⟩
  ·show mclearing_raise_l2_s n dues p i x l d l.length a = _
   unfold mclearing_raise_l2_s
   rw [if_neg (by simp)]
  ·refine ext_elC (by rw [h1,List.length_map]) fun j hj=>?_
   rw [h1] at hj
   rw [h2 j hj,if_pos hj,el_map' zcG l j hj]
theorem stp_zero {e:GClearingStep} {fr tt:Nat→Nat} {s x:Nat→Int} {cc:Bool→Int} {i:Nat} {b:Bool} (h:stpOf e = stp fr tt s x cc i b):stpOf (zcG e) = stp fr tt s x (fun _=>0) i b:=by
 have h1:e.due = i:=congrArg Stp.due h
 have h2:=congrArg Stp.sf h
 have h3:=congrArg Stp.st h
 have h4:=congrArg Stp.most h
 have h5:=congrArg Stp.back h
 simp only [stpOf,stp] at h2 h3 h4 h5
 simp only [stpOf,stp,zcG,h1,h2,h3,h4,h5]
theorem tight_of (h:OkD n dues) (x:Nat→Int) (p:List Int) (i:Nat):StepsOf (frD dues) (ttD dues) (smD dues) dues.length x (Tight (frD dues) (ttD dues) (el p) i) (fun _=>0) ((((stepsG dues x dues.length).filter (tgtB p i)).map zcG).map stpOf):=by
 have ht:∀ j b,j < dues.length→(tgtB p i (stpG dues x j b) = true ↔ Tight (frD dues) (ttD dues) (el p) i j b):=by
  intro j b hj
  unfold tgtB Tight frD ttD ccT
  rw [Bool.and_eq_true,decide_eq_true_eq,decide_eq_true_eq]
  cases b <;> simp [stpG]
 constructor
 ·intro k hk
  rw [List.length_map,List.length_map] at hk
  rw [el_map' stpOf _ k (by rw [List.length_map]; exact hk),el_map' zcG _ k hk]
  have hm:=el_mem _ _ hk
  rw [List.mem_filter] at hm
  obtain ⟨hm1,hm2⟩:=hm
  obtain ⟨j,b,hj,e,hm⟩:=mem_stepsG.1 hm1
  rw [e] at hm2 ⊢
  refine ⟨j,b,hj,(ht j b hj).1 hm2,?_,stp_zero (stpOf_stpG h hj b)⟩
  have e2:(stp (frD dues) (ttD dues) (smD dues) x (fun _=>0) j b).most = (stpOf (stpG dues x j b)).most:=by rw [stpOf_stpG h hj]; rfl
  rw [e2]; exact hm
 ·intro j b hj hT hm
  have e2:(stp (frD dues) (ttD dues) (smD dues) x (fun _=>0) j b).most = (stpOf (stpG dues x j b)).most:=by rw [stpOf_stpG h hj]; rfl
  rw [e2] at hm
  have h1:=(mem_stepsG (dues:=dues) (x:=x) (m:=dues.length)).2 ⟨j,b,hj,rfl,hm⟩
  have h2:=List.mem_filter.2 ⟨h1,(ht j b hj).2 hT⟩
  obtain ⟨k,hk,e⟩:=mem_el h2
  refine ⟨k,by rw [List.length_map,List.length_map]; exact hk,?_⟩
  rw [el_map' stpOf _ k (by rw [List.length_map]; exact hk),el_map' zcG _ k hk,e]
  exact stp_zero (stpOf_stpG h hj b)
theorem walk_moveR (hl:∀ g ∈ l,OkSt n g) {last:List Int} (hla:last.length = n) {m:Nat} (hdue:∀ g ∈ l,0 ≤ g.due ∧ g.due < m) (a0:Int) (a1:List GDue) (a3:List Int) (a4:Int) (best:List GClearingCost) {d D:Int} (hd0:0 ≤ d) (hdD:d ≤ D) {v u:Nat} {ks:List Nat} (w:Pth (l.map stpOf) last v ks u):v < n→∀ (x:List Int) (B:Int),x.length = m→(∀ i,-B ≤ el x i ∧ el x i ≤ B)→B + (ks.length:Int) * D ≤ 4611686018427387904 →
  mclearing_raise_l4 a0 a1 a3 a4 l (best,last) d v x = some (mvL (l.map stpOf) d x ks):=by
 induction w with
 | nil v hv =>
  intro hvn x B hxm hx hB
  unfold mclearing_raise_l4
  refine iter_end ?_
  show mclearing_raise_l4_s a0 a1 a3 a4 l (best,last) d v x = _
  unfold mclearing_raise_l4_s
  dsimp only
  rw [if_pos ⟨by omega,by rw [Int.toNat_natCast]; omega⟩,Int.toNat_natCast,atE last v (by omega),hv]
  rfl
 | @cons v k u ks hk hlv hd w ih =>
  intro hvn x B hxm hx hB
  rw [List.length_map] at hk
  obtain ⟨q1,q2⟩:=src_eq hl hk
  obtain ⟨b1,b2⟩:=back_step (l:=l) (last:=last) (by omega:v < last.length) hlv hk
  have hg:=hdue (el l k) (el_mem _ _ hk)
  have hD0:0 ≤ D:=by omega
  have hks:((k :: ks).length:Int) * D = (ks.length:Int) * D + D:=by
   rw [List.length_cons]; rw [show ((ks.length + 1:Nat):Int) = (ks.length:Int) + 1 by omega,Int.add_mul,Int.one_mul]
  have hpos:0 ≤ (ks.length:Int) * D:=Int.mul_nonneg (by omega) hD0
  have hmv:=stepMv (g:=el l k) (x:=x) (B:=B) hg.1 (by omega) hx hd0 hdD (by omega)
  unfold mclearing_raise_l4
  rw [iter_some (s':=((el l k).from_,x.set (el l k).due.toNat (el x (el l k).due.toNat + sgS (stpOf (el l k)) d))) ?_]
  ·have hsg:-D ≤ sgS (stpOf (el l k)) d ∧ sgS (stpOf (el l k)) d ≤ D:=by unfold sgS; split <;> omega
   have hxd:=hx (el l k).due.toNat
   have:=ih q1 (x.set (el l k).due.toNat (el x (el l k).due.toNat + sgS (stpOf (el l k)) d)) (B + D) (by rw [List.length_set]; exact hxm) (set_bound hx (by omega) (by omega) hD0) (by omega)
   unfold mclearing_raise_l4 at this
   rw [q2,this,mvL,el_map' stpOf l k hk]
   rfl
  ·show mclearing_raise_l4_s a0 a1 a3 a4 l (best,last) d v x = _
   unfold mclearing_raise_l4_s
   dsimp only
   have cv:0 ≤ (v:Int) ∧ (v:Int).toNat < last.length:=⟨by omega,by rw [Int.toNat_natCast]; omega⟩
   have ck:0 ≤ (k:Int) ∧ (k:Int).toNat < l.length:=⟨by omega,by rw [Int.toNat_natCast]; exact hk⟩
   have cg:decide ((k:Int) ≥ 0) = true:=by simp
   simp only [if_pos cv,if_pos ck,b1,b2,Option.bind_some,if_pos cg,hmv]
end
end Go.Proofs.Ytgipgbhlibafhaa
