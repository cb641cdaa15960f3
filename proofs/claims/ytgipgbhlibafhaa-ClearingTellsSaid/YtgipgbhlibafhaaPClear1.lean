/- Clearing: the search for the cheapest ways is rounds of relaxations. -/
import Derived.Test.YtgipgbhlibafhaaFn
import Derived.Test.YtgipgbhlibafhaaLoops3
import Derived.Test.YtgipgbhlibafhaaFlow6
set_option linter.unusedVariables false
set_option linter.unusedSimpArgs false
namespace Go.Proofs.Ytgipgbhlibafhaa
open Go.RowKit Vm
def stpOf (g:GClearingStep):Stp:=⟨g.due,g.from_,g.to,g.cost,g.most,g.back⟩
def gLab (a:Lab):GClearingCost:=⟨a.c,a.k,a.fine⟩
theorem el_map' {α β:Type} [Inhabited α] [Inhabited β] (f:α→β) (l:List α) (i:Nat) (h:i < l.length):el (l.map f) i = f (el l i):=by
 simp [el,h]
theorem atE {α:Type} [Inhabited α] (l:List α) (i:Nat) (h:i < l.length):l[i]? = some (el l i):=by
 simp [el,h]
theorem atI_el {α:Type} [Inhabited α] (l:List α) (i:Nat) (h:i < l.length):at? l (i:Int) = some (el l i):=by
 rw [at?_nat]; exact atE l i h
theorem map_set' {α β:Type} (f:α→β) (l:List α) (i:Nat) (x:α):(l.set i x).map f = (l.map f).set i (f x):=by
 rw [List.map_set]
def OkSt (n:Nat) (g:GClearingStep):Prop:=(0 ≤ g.from_ ∧ g.from_ < n) ∧ (0 ≤ g.to ∧ g.to < n) ∧ (-1 ≤ g.cost ∧ g.cost ≤ 1)
theorem onward_eq {a:Lab} {g:GClearingStep} (h1:-4611686018427387904 ≤ a.c ∧ a.c ≤ 4611686018427387904) (h2:0 ≤ a.k ∧ a.k ≤ 4611686018427387904) (hc:-1 ≤ g.cost ∧ g.cost ≤ 1) :
  m_clearing_cost_onward (gLab a) g = some (gLab (onwL a (stpOf g))):=by
 unfold m_clearing_cost_onward
 simp only [gLab,onwL,stpOf]
 rw [wrap_id (by omega) (by omega),wrap_id (by omega) (by omega)]
theorem less_eq (a b:Lab):m_clearing_cost_less (gLab a) (gLab b) = some (lessL a b):=by
 unfold m_clearing_cost_less
 simp only [gLab,lessL]
 by_cases h1:a.fine = true <;> by_cases h2:b.fine = true <;> by_cases h3:a.c < b.c <;> by_cases h4:a.c = b.c <;> simp [h1,h2,h3,h4] <;> exact decide_eq_decide.2 Iff.rfl
def BoundL (n:Nat) (B:Int) (best:List Lab):Prop:=∀ v,v < n→-B ≤ (el best v).c ∧ (el best v).c ≤ B ∧ 0 ≤ (el best v).k ∧ (el best v).k ≤ B
theorem round_bound {n:Nat} {l:List GClearingStep} {best:List Lab} {last:List Int} {B:Int} (hl:∀ g ∈ l,OkSt n g) (hb:best.length = n) (hla:last.length = n) (h:BoundL n B best) (hB:0 ≤ B):∀ k,k ≤ l.length →
  (((List.range k).foldl (relaxS lessL onwL Stp.src Stp.dst (l.map stpOf)) (best,last,false)).1.length = n ∧ ((List.range k).foldl (relaxS lessL onwL Stp.src Stp.dst (l.map stpOf)) (best,last,false)).2.1.length = n ∧ BoundL n (B + k) ((List.range k).foldl (relaxS lessL onwL Stp.src Stp.dst (l.map stpOf)) (best,last,false)).1):=by
 intro k
 induction k with
 | zero=>intro _; exact ⟨hb,hla,by simpa using h⟩
 | succ k ih =>
  intro hk
  obtain ⟨h1,h2,h3⟩:=ih (by omega)
  rw [List.range_succ,List.foldl_append,List.foldl_cons,List.foldl_nil]
  generalize (List.range k).foldl (relaxS lessL onwL Stp.src Stp.dst (l.map stpOf)) (best,last,false) = z at *
  have hg:=hl (el l k) (by rw [show el l k = l[k] from by simp [el,show k < l.length by omega]]; exact List.getElem_mem _)
  obtain ⟨⟨g1,g2⟩,⟨g3,g4⟩,g5,g6⟩:=hg
  have hmono:BoundL n (B + (k + 1:Nat)) z.1:=fun v hv=>by have:=h3 v hv; omega
  unfold relaxS
  rw [el_map' stpOf l k (by omega)]
  split
  ·refine ⟨by simp [h1],by simp [h2],fun v hv=>?_⟩
   dsimp only
   rw [el_set_any]
   split
   ·have:=h3 (el l k).from_.toNat (by omega)
    simp only [onwL,stpOf,Stp.src]
    omega
   ·exact hmono v hv
  ·exact ⟨h1,h2,hmono⟩
theorem round_cheap {n:Nat} {l:List GClearingStep} {best:List Lab} {last:List Int} {B:Int} (hl:∀ g ∈ l,OkSt n g) (hb:best.length = n) (hla:last.length = n) (h:BoundL n B best) (hB:0 ≤ B) (hBl:B + l.length ≤ 4611686018427387904) :
  mclearing_cheapest_l2 l false 0 (best.map gLab) last = some ((roundS lessL onwL Stp.src Stp.dst (l.map stpOf) best last).2.2,(roundS lessL onwL Stp.src Stp.dst (l.map stpOf) best last).1.map gLab,(roundS lessL onwL Stp.src Stp.dst (l.map stpOf) best last).2.1):=by
 unfold mclearing_cheapest_l2 roundS
 rw [List.length_map]
 suffices hh:∃ x,Iter (fun (w:Bool × Int × List GClearingCost × List Int)=>mclearing_cheapest_l2_s l w.1 w.2.1 w.2.2.1 w.2.2.2) (false,0,best.map gLab,last) = some x ∧ x = (((List.range l.length).foldl (relaxS lessL onwL Stp.src Stp.dst (l.map stpOf)) (best,last,false)).2.2,((List.range l.length).foldl (relaxS lessL onwL Stp.src Stp.dst (l.map stpOf)) (best,last,false)).1.map gLab,((List.range l.length).foldl (relaxS lessL onwL Stp.src Stp.dst (l.map stpOf)) (best,last,false)).2.1) by
  obtain ⟨x,h1,h2⟩:=hh
  rw [h2] at h1; exact h1
 refine iter_for (step:=fun (w:Bool × Int × List GClearingCost × List Int)=>mclearing_cheapest_l2_s l w.1 w.2.1 w.2.2.1 w.2.2.2) (fun k (a:List Lab × List Int × Bool)=>(a.2.2,(k:Int),a.1.map gLab,a.2.1)) l.length
  (fun k a=>a = (List.range k).foldl (relaxS lessL onwL Stp.src Stp.dst (l.map stpOf)) (best,last,false)) (fun x=>x = (((List.range l.length).foldl (relaxS lessL onwL Stp.src Stp.dst (l.map stpOf)) (best,last,false)).2.2,((List.range l.length).foldl (relaxS lessL onwL Stp.src Stp.dst (l.map stpOf)) (best,last,false)).1.map gLab,((List.range l.length).foldl (relaxS lessL onwL Stp.src Stp.dst (l.map stpOf)) (best,last,false)).2.1)) ?_ ?_ (best,last,false) rfl
 ·rintro k a hk rfl
  refine .inl ?_
  obtain ⟨q1,q2,q3⟩:=round_bound hl hb hla h hB k (by omega)
  rw [List.range_succ,List.foldl_append,List.foldl_cons,List.foldl_nil]
  generalize (List.range k).foldl (relaxS lessL onwL Stp.src Stp.dst (l.map stpOf)) (best,last,false) = z at *
  have hg:=hl (el l k) (by rw [show el l k = l[k] from by simp [el,hk]]; exact List.getElem_mem _)
  obtain ⟨⟨g1,g2⟩,⟨g3,g4⟩,g5,g6⟩:=hg
  refine ⟨_,?_,rfl⟩
  unfold mclearing_cheapest_l2_s
  rw [if_pos (by simpa using hk),atI_el l k hk,Option.bind_some]
  have e1:(z.1.map gLab)[(el l k).from_.toNat]? = some (gLab (el z.1 (el l k).from_.toNat)):=by rw [List.getElem?_map,atE z.1 _ (by omega)]; rfl
  have e2:(z.1.map gLab)[(el l k).to.toNat]? = some (gLab (el z.1 (el l k).to.toNat)):=by rw [List.getElem?_map,atE z.1 _ (by omega)]; rfl
  have b:=q3 (el l k).from_.toNat (by omega)
  rw [if_pos ⟨g1,by rw [List.length_map]; omega⟩,e1,Option.bind_some,onward_eq (by omega) (by omega) ⟨g5,g6⟩,Option.bind_some,if_pos ⟨g3,by rw [List.length_map]; omega⟩,e2,Option.bind_some,less_eq,Option.bind_some,atE z.2.1 _ (by omega),wrap_succ (by omega)]
  unfold relaxS
  rw [el_map' stpOf l k hk]
  have e3:Stp.src (stpOf (el l k)) = (el l k).from_.toNat:=rfl
  have e4:Stp.dst (stpOf (el l k)) = (el l k).to.toNat:=rfl
  rw [e3,e4]
  split
  ·rename_i hc
   have c1:0 ≤ (el l k).to ∧ (el l k).to.toNat < (z.1.map gLab).length:=⟨g3,by rw [List.length_map]; omega⟩
   have c2:0 ≤ (el l k).to ∧ (el l k).to.toNat < z.2.1.length:=⟨g3,by omega⟩
   simp only [if_pos c1,if_pos c2,Option.bind_some,map_set',e2]
  ·rfl
 ·rintro a rfl
  refine ⟨_,?_,rfl⟩
  unfold mclearing_cheapest_l2_s
  rw [if_neg (by simp)]
end Go.Proofs.Ytgipgbhlibafhaa
