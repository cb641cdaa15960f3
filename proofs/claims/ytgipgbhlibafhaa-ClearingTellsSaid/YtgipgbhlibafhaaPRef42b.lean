/- Law 42, the reference: the cheapest way. -/
import Derived.Test.YtgipgbhlibafhaaPRef42a
set_option linter.unusedVariables false
set_option linter.unusedSimpArgs false
namespace Go.Proofs.Ytgipgbhlibafhaa
open Go.RowKit Vm
def cOf (b:Lab):Int:=if b.fine = true then b.c else 1099511627776
section
variable {n:Nat} {l:List GClearingStep}
theorem round_boundW {best:List Lab} {last:List Int} {B:Int} (hl:∀ g ∈ l,OkSt n g) (hb:best.length = n) (hla:last.length = n) (h:BoundL n B best) (hB:0 ≤ B) {k:Nat} (hk:k ≤ l.length) (ways:List (List Int)) :
  (foldW (l.map stpOf) k ((best,last,false),ways)).1.1.length = n ∧ (foldW (l.map stpOf) k ((best,last,false),ways)).1.2.1.length = n ∧ BoundL n (B + k) (foldW (l.map stpOf) k ((best,last,false),ways)).1.1:=by
 rw [foldW_fst]
 exact round_bound hl hb hla h hB k hk
theorem foldW_succ (l:List Stp) (k:Nat) (z:(List Lab × List Int × Bool) × List (List Int)):foldW l (k + 1) z = relaxW l (foldW l k z) k:=by
 unfold foldW
 rw [List.range_succ,List.foldl_append,List.foldl_cons,List.foldl_nil]
theorem winv_fold (hs:∀ i,i < (l.map stpOf).length→(el (l.map stpOf) i).src < n ∧ (el (l.map stpOf) i).dst < n ∧ (el (l.map stpOf) i).src ≠ (el (l.map stpOf) i).dst) {best:List Lab} {last:List Int} {B:Int} (hl:∀ g ∈ l,OkSt n g) (hb:best.length = n) (hla:last.length = n) (hB:BoundL n B best) (hB0:0 ≤ B) {ways:List (List Int)} (h:WInv n (l.map stpOf) best last ways) :
  ∀ k,k ≤ l.length→WInv n (l.map stpOf) (foldW (l.map stpOf) k ((best,last,false),ways)).1.1 (foldW (l.map stpOf) k ((best,last,false),ways)).1.2.1 (foldW (l.map stpOf) k ((best,last,false),ways)).2:=by
 intro k
 induction k with
 | zero=>intro _; exact h
 | succ k ih =>
  intro hk
  obtain ⟨b1,b2,b3⟩:=round_boundW hl hb hla hB hB0 (k:=k) (by omega) ways
  have:=ih (by omega)
  rw [foldW_succ]
  generalize foldW (l.map stpOf) k ((best,last,false),ways) = z at *
  obtain ⟨⟨z1,z2,z3⟩,z4⟩:=z
  exact winv_step hs b1 b2 this (by rw [List.length_map]; omega)
theorem wround_m (hs:∀ i,i < (l.map stpOf).length→(el (l.map stpOf) i).src < n ∧ (el (l.map stpOf) i).dst < n ∧ (el (l.map stpOf) i).src ≠ (el (l.map stpOf) i).dst) {best:List Lab} {last:List Int} {B:Int} (hl:∀ g ∈ l,OkSt n g) (hb:best.length = n) (hla:last.length = n) (hB:BoundL n B best) (hB0:0 ≤ B) (hBl:B + l.length ≤ 1000000) {ways:List (List Int)} (h:WInv n (l.map stpOf) best last ways) (a3 p7:Int) :
  mallongeref42_Way_l4 n (l.map toR) a3 p7 0 (best.map cOf) ways = some ((foldW (l.map stpOf) l.length ((best,last,false),ways)).1.1.map cOf,(foldW (l.map stpOf) l.length ((best,last,false),ways)).2):=by
 unfold mallongeref42_Way_l4
 suffices hh:∃ y,Iter (fun (w:Int × List Int × List (List Int))=>mallongeref42_Way_l4_s n (l.map toR) a3 p7 w.1 w.2.1 w.2.2) (0,best.map cOf,ways) = some y ∧ y = ((foldW (l.map stpOf) l.length ((best,last,false),ways)).1.1.map cOf,(foldW (l.map stpOf) l.length ((best,last,false),ways)).2) by
  obtain ⟨y,h1,h2⟩:=hh
  rw [h2] at h1; exact h1
 refine iter_for (step:=fun (w:Int × List Int × List (List Int))=>mallongeref42_Way_l4_s n (l.map toR) a3 p7 w.1 w.2.1 w.2.2) (fun k (a:(List Lab × List Int × Bool) × List (List Int))=>((k:Int),a.1.1.map cOf,a.2)) l.length
  (fun k a=>a = foldW (l.map stpOf) k ((best,last,false),ways)) (fun y=>y = ((foldW (l.map stpOf) l.length ((best,last,false),ways)).1.1.map cOf,(foldW (l.map stpOf) l.length ((best,last,false),ways)).2)) ?_ ?_ ((best,last,false),ways) rfl
 ·rintro k a hk rfl
  refine .inl ⟨_,?_,rfl⟩
  obtain ⟨b1,b2,b3⟩:=round_boundW hl hb hla hB hB0 (k:=k) (by omega) ways
  have hW:=winv_fold hs hl hb hla hB hB0 h k (by omega)
  rw [foldW_succ]
  generalize foldW (l.map stpOf) k ((best,last,false),ways) = z at *
  obtain ⟨⟨z1,z2,z3⟩,z4⟩:=z
  dsimp only at b1 b2 b3 hW
  obtain ⟨⟨g1,g2⟩,⟨g3,g4⟩,g5,g6⟩:=hl _ (el_mem _ _ hk)
  have hlW:=hW.len
  have eG:at? (l.map toR) (k:Int) = some (toR (el l k)):=by rw [at?_nat,List.getElem?_map,atE l k hk]; rfl
  have c0:decide ((k:Int) < ((l.map toR).length:Int)) = true:=by rw [List.length_map]; simpa using hk
  have w3:IntKind.wrap .i64 ((k:Int) + 1) = ((k + 1:Nat):Int):=wrap_succ (by omega)
  have hFn:(el l k).from_.toNat < n:=by omega
  have hTn:(el l k).to.toNat < n:=by omega
  have cF:0 ≤ (toR (el l k)).From ∧ (toR (el l k)).From.toNat < (z1.map cOf).length:=⟨g1,by rw [List.length_map,b1]; exact hFn⟩
  have cT:0 ≤ (toR (el l k)).To ∧ (toR (el l k)).To.toNat < (z1.map cOf).length:=⟨g3,by rw [List.length_map,b1]; exact hTn⟩
  have cF2:0 ≤ (toR (el l k)).From ∧ (toR (el l k)).From.toNat < z4.length:=⟨g1,by rw [hlW]; exact hFn⟩
  have cT2:0 ≤ (toR (el l k)).To ∧ (toR (el l k)).To.toNat < z4.length:=⟨g3,by rw [hlW]; exact hTn⟩
  have eF:(z1.map cOf)[(toR (el l k)).From.toNat]? = some (cOf (el z1 (el l k).from_.toNat)):=by
   show (z1.map cOf)[(el l k).from_.toNat]? = _
   rw [List.getElem?_map,atE z1 _ (by omega)]; rfl
  have eT:(z1.map cOf)[(toR (el l k)).To.toNat]? = some (cOf (el z1 (el l k).to.toNat)):=by
   show (z1.map cOf)[(el l k).to.toNat]? = _
   rw [List.getElem?_map,atE z1 _ (by omega)]; rfl
  have eF2:z4[(toR (el l k)).From.toNat]? = some (el z4 (el l k).from_.toNat):=by
   show z4[(el l k).from_.toNat]? = _
   exact atE z4 _ (by omega)
  have eT2:z4[(toR (el l k)).To.toNat]? = some (el z4 (el l k).to.toNat):=by
   show z4[(el l k).to.toNat]? = _
   exact atE z4 _ (by omega)
  have hcost:(toR (el l k)).Cost = (el l k).cost:=rfl
  have bF:=b3 _ hFn
  have bT:=b3 _ hTn
  have fF:=hW.fine _ hFn
  have fT:=hW.fine _ hTn
  have nF:=hW.coarse _ hFn
  have nT:=hW.coarse _ hTn
  have e3:(el (l.map stpOf) k).src = (el l k).from_.toNat:=by rw [el_map' stpOf l k hk]; rfl
  have e4:(el (l.map stpOf) k).dst = (el l k).to.toNat:=by rw [el_map' stpOf l k hk]; rfl
  have e5:(el (l.map stpOf) k).cost = (el l k).cost:=by rw [el_map' stpOf l k hk]; rfl
  have hwF:IntKind.wrap .i64 (cOf (el z1 (el l k).from_.toNat) + (el l k).cost) = cOf (el z1 (el l k).from_.toNat) + (el l k).cost:=by
   unfold cOf
   split <;> exact wrap_id (by omega) (by omega)
  have hlenF:((el z4 (el l k).from_.toNat).length:Int) ≤ 1000000:=by
   cases hf:(el z1 (el l k).from_.toNat).fine with
   | true=>have:=fF hf; omega
   | false=>rw [nF hf]; simp
  have hwL:IntKind.wrap .i64 (((el z4 (el l k).from_.toNat).length:Int) + 1) = ((el z4 (el l k).from_.toNat).length:Int) + 1:=wrap_id (by omega) (by omega)
  -- the update
  have hup:mallongeref42_Way_j2 n (l.map toR) a3 k (z1.map cOf) z4 p7 (cOf (el z1 (el l k).from_.toNat)) (toR (el l k)) = some ((z1.map cOf).set (el l k).to.toNat (cOf (el z1 (el l k).from_.toNat) + (el l k).cost),z4.set (el l k).to.toNat (el z4 (el l k).from_.toNat ++ [(k:Int)])):=by
   unfold mallongeref42_Way_j2
   have cL1:(0 + (el z4 (el l k).from_.toNat).length) * 8 ≤ 140737488355328:=by omega
   have cL2:((([]:List Int) ++ el z4 (el l k).from_.toNat).length + 1) * 8 ≤ 140737488355328:=by rw [List.nil_append]; omega
   simp only [eG,Option.bind_some,if_pos cT,eT,if_pos cF2,eF2,if_pos cL1,if_pos cL2,if_pos cT2,eT2,hcost,hwF]
   rw [List.nil_append]
   rfl
  have hj:∀ b:Bool,(b = true ↔ cOf (el z1 (el l k).from_.toNat) + (el l k).cost = cOf (el z1 (el l k).to.toNat) ∧ (el z4 (el l k).from_.toNat).length + 1 < (el z4 (el l k).to.toNat).length)→mallongeref42_Way_j3 n (l.map toR) a3 k (z1.map cOf) z4 p7 (cOf (el z1 (el l k).from_.toNat)) (toR (el l k)) b = some ((relaxW (l.map stpOf) ((z1,z2,z3),z4) k).1.1.map cOf,(relaxW (l.map stpOf) ((z1,z2,z3),z4) k).2):=by
   intro b hb
   unfold mallongeref42_Way_j3
   simp only [eG,Option.bind_some,if_pos cF,eF,if_pos cT,eT,hcost,hwF,hup]
   have hrel:relaxW (l.map stpOf) ((z1,z2,z3),z4) k = if lessL (onwL (el z1 (el l k).from_.toNat) (el (l.map stpOf) k)) (el z1 (el l k).to.toNat) = true then ((z1.set (el l k).to.toNat (onwL (el z1 (el l k).from_.toNat) (el (l.map stpOf) k)),z2.set (el l k).to.toNat (k:Int),true),z4.set (el l k).to.toNat (el z4 (el l k).from_.toNat ++ [(k:Int)])) else ((z1,z2,z3),z4):=by
    unfold relaxW relaxS
    dsimp only
    rw [e3,e4]
    split <;> rfl
   rw [hrel]
   have hless:lessL (onwL (el z1 (el l k).from_.toNat) (el (l.map stpOf) k)) (el z1 (el l k).to.toNat) = true ↔ (el z1 (el l k).from_.toNat).fine = true ∧ ((el z1 (el l k).to.toNat).fine = false ∨ (el z1 (el l k).from_.toNat).c + (el l k).cost < (el z1 (el l k).to.toNat).c ∨ (el z1 (el l k).from_.toNat).c + (el l k).cost = (el z1 (el l k).to.toNat).c ∧ (el z1 (el l k).from_.toNat).k + 1 < (el z1 (el l k).to.toNat).k):=by
    rw [lessL_iff]
    simp only [onwL,e5]
   by_cases hf:(el z1 (el l k).from_.toNat).fine = true
   ·have hcF:cOf (el z1 (el l k).from_.toNat) = (el z1 (el l k).from_.toNat).c:=if_pos hf
    have d1:decide (cOf (el z1 (el l k).from_.toNat) < 1099511627776) = true:=by rw [decide_eq_true_eq,hcF]; omega
    rw [if_pos d1]
    have hset:(z1.set (el l k).to.toNat (onwL (el z1 (el l k).from_.toNat) (el (l.map stpOf) k))).map cOf = (z1.map cOf).set (el l k).to.toNat (cOf (el z1 (el l k).from_.toNat) + (el l k).cost):=by
     rw [map_set']
     congr 1
     show cOf ⟨(el z1 (el l k).from_.toNat).c + (el (l.map stpOf) k).cost,_,(el z1 (el l k).from_.toNat).fine⟩ = _
     rw [hcF,e5]
     unfold cOf
     dsimp only
     rw [if_pos hf]
    by_cases hl:lessL (onwL (el z1 (el l k).from_.toNat) (el (l.map stpOf) k)) (el z1 (el l k).to.toNat) = true
    ·rw [if_pos hl]
     dsimp only
     rw [hset]
     obtain ⟨_,hl2⟩:=hless.1 hl
     by_cases d2:cOf (el z1 (el l k).from_.toNat) + (el l k).cost < cOf (el z1 (el l k).to.toNat)
     ·rw [if_pos (decide_eq_true d2)]
     ·have d2' : ¬ decide (cOf (el z1 (el l k).from_.toNat) + (el l k).cost < cOf (el z1 (el l k).to.toNat)) = true:=by rw [decide_eq_true_eq]; exact d2
      have hbt:b = true:=by
       refine hb.2 ?_
       cases hf2:(el z1 (el l k).to.toNat).fine with
       | false =>
        have hcT:cOf (el z1 (el l k).to.toNat) = 1099511627776:=if_neg (by rw [hf2]; decide)
        rw [hcF,hcT] at d2
        omega
       | true =>
        have hcT:cOf (el z1 (el l k).to.toNat) = (el z1 (el l k).to.toNat).c:=if_pos hf2
        rw [hcF,hcT] at d2 ⊢
        rw [hf2] at hl2
        have:=fF hf
        have:=fT hf2
        rcases hl2 with q | q | q
        ·cases q
        ·omega
        ·omega
      rw [if_neg d2',if_pos hbt]
    ·rw [if_neg hl]
     dsimp only
     have hl2:¬ ((el z1 (el l k).to.toNat).fine = false ∨ (el z1 (el l k).from_.toNat).c + (el l k).cost < (el z1 (el l k).to.toNat).c ∨ (el z1 (el l k).from_.toNat).c + (el l k).cost = (el z1 (el l k).to.toNat).c ∧ (el z1 (el l k).from_.toNat).k + 1 < (el z1 (el l k).to.toNat).k):=fun q=>hl (hless.2 ⟨hf,q⟩)
     cases hf2:(el z1 (el l k).to.toNat).fine with
     | false=>exact absurd (.inl hf2) hl2
     | true =>
      have hcT:cOf (el z1 (el l k).to.toNat) = (el z1 (el l k).to.toNat).c:=if_pos hf2
      have d2:¬ decide (cOf (el z1 (el l k).from_.toNat) + (el l k).cost < cOf (el z1 (el l k).to.toNat)) = true:=by rw [decide_eq_true_eq,hcF,hcT]; exact fun q=>hl2 (.inr (.inl q))
      have hbf:¬ b = true:=by
       rw [hb,hcF,hcT]
       have:=fF hf
       have:=fT hf2
       rintro ⟨q1,q2⟩
       exact hl2 (.inr (.inr ⟨q1,by omega⟩))
      rw [if_neg d2,if_neg hbf]
   ·have hcF:cOf (el z1 (el l k).from_.toNat) = 1099511627776:=if_neg hf
    have d1:¬ decide (cOf (el z1 (el l k).from_.toNat) < 1099511627776) = true:=by rw [decide_eq_true_eq,hcF]; omega
    have hl:¬ lessL (onwL (el z1 (el l k).from_.toNat) (el (l.map stpOf) k)) (el z1 (el l k).to.toNat) = true:=fun q=>hf (hless.1 q).1
    rw [if_neg d1,if_neg hl]
  show mallongeref42_Way_l4_s n (l.map toR) a3 p7 k (z1.map cOf) z4 = _
  unfold mallongeref42_Way_l4_s
  simp only [if_pos c0,eG,Option.bind_some,if_pos cF,eF,if_pos cT,eT,hcost,hwF,if_pos cF2,eF2,if_pos cT2,eT2,hwL,w3]
  by_cases hq:cOf (el z1 (el l k).from_.toNat) + (el l k).cost = cOf (el z1 (el l k).to.toNat)
  ·have hq' : (cOf (el z1 (el l k).from_.toNat) + (el l k).cost == cOf (el z1 (el l k).to.toNat)) = true:=by simpa using hq
   rw [if_pos hq',hj _ (by rw [decide_eq_true_eq]; exact ⟨fun q=>⟨hq,by omega⟩,fun q=>by omega⟩)]
   rfl
  ·have hq' : ¬ (cOf (el z1 (el l k).from_.toNat) + (el l k).cost == cOf (el z1 (el l k).to.toNat)) = true:=by simpa using hq
   rw [if_neg hq',hj false ⟨fun q=>by (cases q),fun q=>absurd q.1 hq⟩]
   rfl
 ·rintro a rfl
  refine ⟨_,?_,rfl⟩
  show mallongeref42_Way_l4_s n (l.map toR) a3 p7 (l.length:Int) _ _ = _
  unfold mallongeref42_Way_l4_s
  rw [if_neg (by simp)]
end
end Go.Proofs.Ytgipgbhlibafhaa
