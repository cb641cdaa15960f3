/- Clearing: walking back along the last steps, and moving sums along them. -/
import Derived.Test.YtgipgbhlibafhaaPClear3
set_option linter.unusedVariables false
set_option linter.unusedSimpArgs false
namespace Go.Proofs.Ytgipgbhlibafhaa
open Go.RowKit Vm
def minM (l:List GClearingStep) (a:Int) (ks:List Nat):Int:=ks.foldl (fun a k=>if (el l k).most < a then (el l k).most else a) a
theorem minM_le (l:List GClearingStep):∀ (ks:List Nat) (a:Int),minM l a ks ≤ a ∧ ∀ k ∈ ks,minM l a ks ≤ (el l k).most
 | [],a=>⟨Int.le_refl _,fun k h=>by cases h⟩
 | k :: ks,a=>by
  obtain ⟨h1,h2⟩:=minM_le l ks (if (el l k).most < a then (el l k).most else a)
  have e:minM l a (k :: ks) = minM l (if (el l k).most < a then (el l k).most else a) ks:=rfl
  rw [e]
  have hc:(if (el l k).most < a then (el l k).most else a) ≤ a ∧ (if (el l k).most < a then (el l k).most else a) ≤ (el l k).most:=by split <;> omega
  refine ⟨by omega,fun j hj=>?_⟩
  rcases List.mem_cons.1 hj with rfl | hj
  ·omega
  ·exact h2 j hj
theorem minM_pos (l:List GClearingStep):∀ (ks:List Nat) (a:Int),0 < a→(∀ k ∈ ks,0 < (el l k).most)→0 < minM l a ks
 | [],a,h,_=>h
 | k :: ks,a,h,hk=>by
  have e:minM l a (k :: ks) = minM l (if (el l k).most < a then (el l k).most else a) ks:=rfl
  rw [e]
  refine minM_pos l ks _ ?_ fun j hj=>hk j (List.mem_cons_of_mem _ hj)
  have:=hk k (List.mem_cons_self ..)
  split <;> omega
section
variable {n:Nat} {l:List GClearingStep} {last:List Int}
theorem back_step {v k:Nat} (hv:v < last.length) (hl:el last v = (k:Int)) (hk:k < l.length):last[(v:Int).toNat]? = some (k:Int) ∧ l[(k:Int).toNat]? = some (el l k):=by
 rw [Int.toNat_natCast,Int.toNat_natCast,atE last v hv,atE l k hk,hl]
 exact ⟨rfl,rfl⟩
theorem src_eq {k:Nat} (hl:∀ g ∈ l,OkSt n g) (hk:k < l.length):(el (l.map stpOf) k).src < n ∧ (el l k).from_ = ((el (l.map stpOf) k).src:Nat):=by
 rw [el_map' stpOf l k hk]
 have hg:=hl (el l k) (by rw [show el l k = l[k] from by simp [el,hk]]; exact List.getElem_mem _)
 obtain ⟨⟨g1,g2⟩,_⟩:=hg
 simp only [Stp.src,stpOf]
 omega
theorem walk_most (hl:∀ g ∈ l,OkSt n g) (hla:last.length = n) (a0:Int) (a1:List GDue) (p12 p13:List Int) (best:List GClearingCost) (r27:Int) {v u:Nat} {ks:List Nat} (w:Pth (l.map stpOf) last v ks u):v < n→∀ most:Int,mclearing_balance_l3 a0 a1 p12 p13 l (best,last) r27 most v = some (minM l most ks,(u:Int)):=by
 induction w with
 | nil v hv =>
  intro hvn most
  unfold mclearing_balance_l3
  refine iter_end ?_
  show mclearing_balance_l3_s a0 a1 p12 p13 l (best,last) r27 most v = _
  unfold mclearing_balance_l3_s
  dsimp only
  rw [if_pos ⟨by omega,by rw [Int.toNat_natCast]; omega⟩,Int.toNat_natCast,atE last v (by omega),hv]
  rfl
 | @cons v k u ks hk hlv hd w ih =>
  intro hvn most
  rw [List.length_map] at hk
  obtain ⟨q1,q2⟩:=src_eq hl hk
  obtain ⟨b1,b2⟩:=back_step (l:=l) (last:=last) (by omega:v < last.length) hlv hk
  unfold mclearing_balance_l3
  rw [iter_some (s':=((if (el l k).most < most then (el l k).most else most),(el l k).from_)) ?_]
  ·have:=ih q1 (if (el l k).most < most then (el l k).most else most)
   unfold mclearing_balance_l3 at this
   rw [q2]
   exact this
  ·show mclearing_balance_l3_s a0 a1 p12 p13 l (best,last) r27 most v = _
   unfold mclearing_balance_l3_s
   dsimp only
   have cv:0 ≤ (v:Int) ∧ (v:Int).toNat < last.length:=⟨by omega,by rw [Int.toNat_natCast]; omega⟩
   have ck:0 ≤ (k:Int) ∧ (k:Int).toNat < l.length:=⟨by omega,by rw [Int.toNat_natCast]; exact hk⟩
   have cg:decide ((k:Int) ≥ 0) = true:=by simp
   simp only [if_pos cv,if_pos ck,b1,b2,Option.bind_some,if_pos cg]
theorem walk_mostR (hl:∀ g ∈ l,OkSt n g) (hla:last.length = n) (a0:Int) (a1:List GDue) (a3:List Int) (a4:Int) (p5:List Int) (best:List GClearingCost) {v u:Nat} {ks:List Nat} (w:Pth (l.map stpOf) last v ks u):v < n→∀ most:Int,mclearing_raise_l3 a0 a1 a3 a4 p5 l (best,last) most v = some (minM l most ks):=by
 induction w with
 | nil v hv =>
  intro hvn most
  unfold mclearing_raise_l3
  refine iter_end ?_
  show mclearing_raise_l3_s a0 a1 a3 a4 p5 l (best,last) most v = _
  unfold mclearing_raise_l3_s
  dsimp only
  rw [if_pos ⟨by omega,by rw [Int.toNat_natCast]; omega⟩,Int.toNat_natCast,atE last v (by omega),hv]
  rfl
 | @cons v k u ks hk hlv hd w ih =>
  intro hvn most
  rw [List.length_map] at hk
  obtain ⟨q1,q2⟩:=src_eq hl hk
  obtain ⟨b1,b2⟩:=back_step (l:=l) (last:=last) (by omega:v < last.length) hlv hk
  unfold mclearing_raise_l3
  rw [iter_some (s':=((if (el l k).most < most then (el l k).most else most),(el l k).from_)) ?_]
  ·have:=ih q1 (if (el l k).most < most then (el l k).most else most)
   unfold mclearing_raise_l3 at this
   rw [q2]
   exact this
  ·show mclearing_raise_l3_s a0 a1 a3 a4 p5 l (best,last) most v = _
   unfold mclearing_raise_l3_s
   dsimp only
   have cv:0 ≤ (v:Int) ∧ (v:Int).toNat < last.length:=⟨by omega,by rw [Int.toNat_natCast]; omega⟩
   have ck:0 ≤ (k:Int) ∧ (k:Int).toNat < l.length:=⟨by omega,by rw [Int.toNat_natCast]; exact hk⟩
   have cg:decide ((k:Int) ≥ 0) = true:=by simp
   simp only [if_pos cv,if_pos ck,b1,b2,Option.bind_some,if_pos cg]
theorem stepMv {g:GClearingStep} {x:List Int} {d B D:Int} (h0:0 ≤ g.due) (hd:g.due.toNat < x.length) (hx:∀ i,-B ≤ el x i ∧ el x i ≤ B) (hd0:0 ≤ d) (hdD:d ≤ D) (hB:B + D ≤ 4611686018427387904) :
  m_clearing_step_move g x d = some (x.set g.due.toNat (el x g.due.toNat + sgS (stpOf g) d)):=by
 have hj:∀ e:Int,-D ≤ e→e ≤ D→m_clearing_step_move_j1 g x e = some (x.set g.due.toNat (el x g.due.toNat + e)):=by
  intro e h1 h2
  have:=hx g.due.toNat
  unfold m_clearing_step_move_j1
  rw [if_pos ⟨h0,hd⟩,atE x _ hd,Option.bind_some,if_pos ⟨h0,hd⟩,Option.bind_some,wrap_id (by omega) (by omega)]
 unfold m_clearing_step_move
 have hB0:=hx 0
 by_cases c:g.back = true
 ·rw [if_pos c,wrap_id (by omega) (by omega),hj _ (by omega) (by omega),Option.bind_some]
  simp [sgS,stpOf,c]
 ·rw [if_neg c,hj _ (by omega) hdD,Option.bind_some]
  simp [sgS,stpOf,c]
theorem set_bound {x:List Int} {i:Nat} {a B D:Int} (hx:∀ i,-B ≤ el x i ∧ el x i ≤ B) (h1:-(B + D) ≤ a) (h2:a ≤ B + D) (hD:0 ≤ D):∀ j,-(B + D) ≤ el (x.set i a) j ∧ el (x.set i a) j ≤ B + D:=by
 intro j
 rw [el_set_any]
 have:=hx j
 split <;> omega
theorem walk_move (hl:∀ g ∈ l,OkSt n g) (hla:last.length = n) {m:Nat} (hdue:∀ g ∈ l,0 ≤ g.due ∧ g.due < m) (a0:Int) (a1:List GDue) (p12:List Int) (best:List GClearingCost) (r27:Int) (r38:Int × Int) (x39:Int) {D:Int} (hd0:0 ≤ (if x39 < r38.1 then x39 else r38.1)) (hdD:(if x39 < r38.1 then x39 else r38.1) ≤ D) {v u:Nat} {ks:List Nat} (w:Pth (l.map stpOf) last v ks u):v < n→∀ (x:List Int) (B:Int),x.length = m→(∀ i,-B ≤ el x i ∧ el x i ≤ B)→B + (ks.length:Int) * D ≤ 4611686018427387904 →
  mclearing_balance_l4 a0 a1 p12 l (best,last) r27 r38 x39 v x = some (mvL (l.map stpOf) (if x39 < r38.1 then x39 else r38.1) x ks):=by
 induction w with
 | nil v hv =>
  intro hvn x B hxm hx hB
  unfold mclearing_balance_l4
  refine iter_end ?_
  show mclearing_balance_l4_s a0 a1 p12 l (best,last) r27 r38 x39 v x = _
  unfold mclearing_balance_l4_s
  dsimp only
  rw [if_pos ⟨by omega,by rw [Int.toNat_natCast]; omega⟩,Int.toNat_natCast,atE last v (by omega),hv]
  rfl
 | @cons v k u ks hk hlv hd w ih =>
  intro hvn x B hxm hx hB
  rw [List.length_map] at hk
  obtain ⟨q1,q2⟩:=src_eq hl hk
  obtain ⟨b1,b2⟩:=back_step (l:=l) (last:=last) (by omega:v < last.length) hlv hk
  have hg:=hdue (el l k) (by rw [show el l k = l[k] from by simp [el,hk]]; exact List.getElem_mem _)
  have hD0:0 ≤ D:=by omega
  have hks:((k :: ks).length:Int) * D = (ks.length:Int) * D + D:=by
   rw [List.length_cons]; rw [show ((ks.length + 1:Nat):Int) = (ks.length:Int) + 1 by omega,Int.add_mul,Int.one_mul]
  have hpos:0 ≤ (ks.length:Int) * D:=Int.mul_nonneg (by omega) hD0
  have hmv:=stepMv (g:=el l k) (x:=x) (B:=B) hg.1 (by omega) hx hd0 hdD (by omega)
  unfold mclearing_balance_l4
  rw [iter_some (s':=((el l k).from_,x.set (el l k).due.toNat (el x (el l k).due.toNat + sgS (stpOf (el l k)) (if x39 < r38.1 then x39 else r38.1)))) ?_]
  ·have hsg:-D ≤ sgS (stpOf (el l k)) (if x39 < r38.1 then x39 else r38.1) ∧ sgS (stpOf (el l k)) (if x39 < r38.1 then x39 else r38.1) ≤ D:=by unfold sgS; split <;> omega
   have hxd:=hx (el l k).due.toNat
   have:=ih q1 (x.set (el l k).due.toNat (el x (el l k).due.toNat + sgS (stpOf (el l k)) (if x39 < r38.1 then x39 else r38.1))) (B + D) (by rw [List.length_set]; exact hxm) (set_bound hx (by omega) (by omega) hD0) (by omega)
   unfold mclearing_balance_l4 at this
   rw [q2,this,mvL,el_map' stpOf l k hk]
   rfl
  ·show mclearing_balance_l4_s a0 a1 p12 l (best,last) r27 r38 x39 v x = _
   unfold mclearing_balance_l4_s
   dsimp only
   have cv:0 ≤ (v:Int) ∧ (v:Int).toNat < last.length:=⟨by omega,by rw [Int.toNat_natCast]; omega⟩
   have ck:0 ≤ (k:Int) ∧ (k:Int).toNat < l.length:=⟨by omega,by rw [Int.toNat_natCast]; exact hk⟩
   have cg:decide ((k:Int) ≥ 0) = true:=by simp
   simp only [if_pos cv,if_pos ck,b1,b2,Option.bind_some,if_pos cg,hmv]
end
end Go.Proofs.Ytgipgbhlibafhaa
