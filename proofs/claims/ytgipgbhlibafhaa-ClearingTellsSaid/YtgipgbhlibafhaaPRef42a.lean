/- Law 42, the reference: steps, and rounds that keep the ways. -/
import Derived.Test.YtgipgbhlibafhaaPClear12
set_option linter.unusedVariables false
set_option linter.unusedSimpArgs false
namespace Go.Proofs.Ytgipgbhlibafhaa
open Go.RowKit Vm
def toR (g:GClearingStep):GAllongeref42Step:=GAllongeref42Step.mk g.due g.from_ g.to g.cost
def stepsR (dues:List GDue) (x:Nat→Int) (f k:Nat):List GClearingStep:=(List.range' f k).flatMap (stepG dues x)
section
variable {n:Nat} {dues:List GDue} {x:List Int}
theorem stepsR_zero (m:Nat):stepsR dues (el x) 0 m = stepsG dues (el x) m:=by unfold stepsR stepsG; rw [List.range_eq_range']
theorem stepsR_succ (f k:Nat):stepsR dues (el x) f (k + 1) = stepsR dues (el x) f k ++ stepG dues (el x) (f + k):=by
 unfold stepsR
 rw [List.range'_concat,List.flatMap_append]
 simp
theorem stepsR_len (f:Nat):∀ k,(stepsR dues (el x) f k).length ≤ 2 * k
 | 0=>by simp [stepsR]
 | k + 1=>by
  have:=stepsR_len f k
  have:=stepG_len dues (el x) (f + k)
  rw [stepsR_succ,List.length_append]; omega
theorem rSteps_m {dues' : List GDue} {t f:Nat} (ht:dues'.length = t) (htl:t ≤ 100) (hd:∀ i,i < t→el dues' i = el dues i) (hl:t ≤ x.length) (hf:f ≤ t):mallongeref42_Steps dues' x f = some ((stepsR dues (el x) f (t - f)).map toR):=by
 unfold mallongeref42_Steps mallongeref42_Steps_l2
 suffices hh:∃ y,Iter (fun (w:Int × List GAllongeref42Step)=>mallongeref42_Steps_l2_s dues' x w.1 w.2) (f,[]) = some y ∧ y = (stepsR dues (el x) f (t - f)).map toR by
  obtain ⟨y,h1,h2⟩:=hh
  rw [h1,h2]; rfl
 refine iter_for (step:=fun (w:Int × List GAllongeref42Step)=>mallongeref42_Steps_l2_s dues' x w.1 w.2) (fun k (a:List GAllongeref42Step)=>(((f + k:Nat):Int),a)) (t - f) (fun k a=>a = (stepsR dues (el x) f k).map toR) _ ?_ ?_ _ rfl
 ·rintro k a hk rfl
  refine .inl ⟨_,?_,rfl⟩
  have hsl:=stepsR_len (dues:=dues) (x:=x) f k
  rw [stepsR_succ,List.map_append]
  have hlA:((stepsR dues (el x) f k).map toR).length ≤ 2 * k:=by rw [List.length_map]; exact hsl
  generalize (stepsR dues (el x) f k).map toR = A at *
  show mallongeref42_Steps_l2_s dues' x ((f + k:Nat):Int) A = _
  unfold mallongeref42_Steps_l2_s
  have c0:decide (((f + k:Nat):Int) < (dues'.length:Int)) = true:=by simp; omega
  have eD:at? dues' ((f + k:Nat):Int) = some (el dues (f + k)):=by rw [atI_el dues' (f + k) (by omega),hd _ (by omega)]
  have eX:at? x ((f + k:Nat):Int) = some (el x (f + k)):=atI_el x (f + k) (by omega)
  have w3:IntKind.wrap .i64 (((f + k:Nat):Int) + 1) = ((f + (k + 1):Nat):Int):=by rw [wrap_succ (by omega)]; rfl
  have hj:∀ L:List GAllongeref42Step,L.length ≤ 2 * k + 1→mallongeref42_Steps_j1 dues' x ((f + k:Nat):Int) (el dues (f + k)) L = some (L ++ (if el x (f + k) > 0 then [stpG dues (el x) (f + k) true] else []).map toR):=by
   intro L hL
   unfold mallongeref42_Steps_j1
   rw [eX,Option.bind_some]
   by_cases c:el x (f + k) > 0
   ·rw [if_pos (decide_eq_true c),if_pos c,if_pos (by omega)]; rfl
   ·have c' : ¬ decide (el x (f + k) > 0) = true:=by rw [decide_eq_true_eq]; exact c
    rw [if_neg c',if_neg c,List.map_nil,List.append_nil]
  rw [if_pos c0,eD,Option.bind_some,eX,Option.bind_some,w3]
  unfold stepG
  rw [List.map_append]
  by_cases c:el x (f + k) < (el dues (f + k)).Sum
  ·rw [if_pos (decide_eq_true c),if_pos (by omega),hj _ (by simp; omega),Option.bind_some,if_pos c,← List.append_assoc]; rfl
  ·have c' : ¬ decide (el x (f + k) < (el dues (f + k)).Sum) = true:=by rw [decide_eq_true_eq]; exact c
   rw [if_neg c',hj _ (by omega),Option.bind_some,if_neg c,List.map_nil,List.nil_append]
 ·rintro a rfl
  refine ⟨_,?_,rfl⟩
  show mallongeref42_Steps_l2_s dues' x ((f + (t - f):Nat):Int) _ = _
  unfold mallongeref42_Steps_l2_s
  have c0:¬ decide (((f + (t - f):Nat):Int) < (dues'.length:Int)) = true:=by simp; omega
  rw [if_neg c0]
theorem mem_stepsR {f k:Nat} {g:GClearingStep}:g ∈ stepsR dues (el x) f k ↔ ∃ i b,f ≤ i ∧ i < f + k ∧ g = stpG dues (el x) i b ∧ 0 < (stpG dues (el x) i b).most:=by
 have hh:g ∈ stepsR dues (el x) f k ↔ ∃ i,(f ≤ i ∧ i < f + k) ∧ g ∈ stepG dues (el x) i:=by
  unfold stepsR
  rw [List.mem_flatMap]
  constructor
  ·rintro ⟨i,hi,hg⟩
   rw [List.mem_range'_1] at hi
   exact ⟨i,hi,hg⟩
  ·rintro ⟨i,hi,hg⟩
   exact ⟨i,List.mem_range'_1.2 hi,hg⟩
 rw [hh]
 constructor
 ·rintro ⟨i,hi,hg⟩
  have:g ∈ stepsG dues (el x) (i + 1):=by rw [stepsG_succ]; exact List.mem_append.2 (.inr hg)
  unfold stepG at hg
  rcases List.mem_append.1 hg with q | q
  ·split at q
   ·rename_i c
    exact ⟨i,false,hi.1,hi.2,by simpa using q,by simp [stpG]; omega⟩
   ·cases q
  ·split at q
   ·rename_i c
    exact ⟨i,true,hi.1,hi.2,by simpa using q,by simp [stpG]; omega⟩
   ·cases q
 ·rintro ⟨i,b,h1,h2,rfl,hm⟩
  refine ⟨i,⟨h1,h2⟩,?_⟩
  unfold stepG
  refine List.mem_append.2 ?_
  cases b
  ·left
   have:el x i < (el dues i).Sum:=by simp [stpG] at hm; omega
   rw [if_pos this]; simp
  ·right
   have:el x i > 0:=by simpa [stpG] using hm
   rw [if_pos this]; simp
theorem stepsR_of (h:OkD n dues) {f k:Nat} (hk:f + k ≤ dues.length):StepsOf (frD dues) (ttD dues) (smD dues) dues.length (el x) (fun i _=>f ≤ i ∧ i < f + k) ccT ((stepsR dues (el x) f k).map stpOf):=by
 constructor
 ·intro j hj
  rw [List.length_map] at hj
  rw [el_map' stpOf _ j hj]
  obtain ⟨i,b,h1,h2,e,hm⟩:=mem_stepsR.1 (el_mem _ _ hj)
  refine ⟨i,b,by omega,⟨h1,h2⟩,?_,by rw [e,stpOf_stpG h (by omega)]⟩
  rw [← stpOf_stpG h (by omega)]
  exact hm
 ·intro i b hi hQ hm
  rw [← stpOf_stpG h hi] at hm
  obtain ⟨j,hj,e⟩:=mem_el (mem_stepsR.2 ⟨i,b,hQ.1,hQ.2,rfl,hm⟩)
  refine ⟨j,by rw [List.length_map]; exact hj,?_⟩
  rw [el_map' stpOf _ j hj,e,stpOf_stpG h hi]
theorem stepsR_part (h:OkD n dues) {k:Nat} (hk:k ≤ dues.length):StepsOf (frD dues) (ttD dues) (smD dues) k (el x) (fun _ _=>True) ccT ((stepsR dues (el x) 0 k).map stpOf):=by
 have S:=stepsR_of (x:=x) h (f:=0) (k:=k) (by omega)
 constructor
 ·intro j hj
  obtain ⟨i,b,h1,h2,h3,h4⟩:=S.sound j hj
  exact ⟨i,b,by omega,trivial,h3,h4⟩
 ·intro i b hi _ hm
  exact S.all i b (by omega) ⟨Nat.zero_le _,by omega⟩ hm
theorem stepsR_ok (h:OkD n dues) {f k:Nat} (hk:f + k ≤ dues.length):∀ g ∈ stepsR dues (el x) f k,OkSt n g ∧ g.from_ ≠ g.to ∧ (0 ≤ g.due ∧ g.due < (dues.length:Nat)):=by
 intro g hg
 obtain ⟨i,b,h1,h2,rfl,_⟩:=mem_stepsR.1 hg
 have:=h.each i (by omega)
 cases b <;> simp [OkSt,stpG] <;> omega
end
section
variable {l:List Stp}
def relaxW (l:List Stp) (z:(List Lab × List Int × Bool) × List (List Int)) (i:Nat):(List Lab × List Int × Bool) × List (List Int) :=
 (relaxS lessL onwL Stp.src Stp.dst l z.1 i,if lessL (onwL (el z.1.1 (el l i).src) (el l i)) (el z.1.1 (el l i).dst) = true then z.2.set (el l i).dst (el z.2 (el l i).src ++ [(i:Int)]) else z.2)
def foldW (l:List Stp) (k:Nat) (z:(List Lab × List Int × Bool) × List (List Int)):=(List.range k).foldl (relaxW l) z
theorem foldW_fst (k:Nat) (z:(List Lab × List Int × Bool) × List (List Int)):(foldW l k z).1 = (List.range k).foldl (relaxS lessL onwL Stp.src Stp.dst l) z.1:=by
 unfold foldW
 induction k with
 | zero=>rfl
 | succ k ih =>
  rw [List.range_succ,List.foldl_append,List.foldl_append,List.foldl_cons,List.foldl_cons,List.foldl_nil,List.foldl_nil,← ih]
  rfl
structure WInv (n:Nat) (l:List Stp) (best:List Lab) (last:List Int) (ways:List (List Int)):Prop where
 len:ways.length = n
 way:∀ v,v < n→(el last v = -1 ∧ el ways v = []) ∨ ∃ i,i < l.length ∧ el last v = (i:Int) ∧ (el l i).dst = v ∧ ((onwL (el best (el l i).src) (el l i) = el best v ∧ el ways v = el ways (el l i).src ++ [(i:Int)]) ∨ lessL (onwL (el best (el l i).src) (el l i)) (el best v) = true)
 fine:∀ v,v < n→(el best v).fine = true→(el best v).k = ((el ways v).length:Int)
 coarse:∀ v,v < n→(el best v).fine = false→el ways v = []
theorem lessL_mono {a b:Lab} (s:Stp) (h:lessL a b = true):lessL (onwL a s) (onwL b s) = true:=by
 rw [lessL_iff] at *
 simp only [onwL]
 obtain ⟨h1,h2⟩:=h
 refine ⟨h1,?_⟩
 rcases h2 with h2 | h2 | h2
 ·exact .inl h2
 ·exact .inr (.inl (by omega))
 ·exact .inr (.inr (by omega))
theorem lessL_trans {a b c:Lab} (h1:lessL a b = true) (h2:lessL b c = true):lessL a c = true:=by
 rw [lessL_iff] at *
 obtain ⟨p1,p2⟩:=h1
 obtain ⟨q1,q2⟩:=h2
 refine ⟨p1,?_⟩
 rcases q2 with q2 | q2
 ·exact .inl q2
 ·rcases p2 with p2 | p2
  ·rw [q1] at p2; cases p2
  ·exact .inr (by omega)
theorem winv_step {n:Nat} (hs:∀ i,i < l.length→(el l i).src < n ∧ (el l i).dst < n ∧ (el l i).src ≠ (el l i).dst) {best:List Lab} {last:List Int} {ch:Bool} {ways:List (List Int)} (hb:best.length = n) (hla:last.length = n) (h:WInv n l best last ways) {k:Nat} (hk:k < l.length) :
  WInv n l (relaxW l ((best,last,ch),ways) k).1.1 (relaxW l ((best,last,ch),ways) k).1.2.1 (relaxW l ((best,last,ch),ways) k).2:=by
 obtain ⟨s1,s2,s3⟩:=hs k hk
 unfold relaxW relaxS
 dsimp only
 by_cases c:lessL (onwL (el best (el l k).src) (el l k)) (el best (el l k).dst) = true
 ·rw [if_pos c,if_pos c]
  dsimp only
  generalize ha:onwL (el best (el l k).src) (el l k) = a at *
  have hafine:a.fine = true:=((lessL_iff _ _).1 c).1
  have hsrcfine:(el best (el l k).src).fine = true:=by rw [← ha] at hafine; exact hafine
  have hset:∀ v,el (best.set (el l k).dst a) v = if v = (el l k).dst then a else el best v:=fun v=>by
   rw [el_set_any]
   by_cases e:v = (el l k).dst
   ·rw [if_pos ⟨e,by omega⟩,if_pos e]
   ·rw [if_neg (fun q=>e q.1),if_neg e]
  have hsetL:∀ v,el (last.set (el l k).dst (k:Int)) v = if v = (el l k).dst then (k:Int) else el last v:=fun v=>by
   rw [el_set_any]
   by_cases e:v = (el l k).dst
   ·rw [if_pos ⟨e,by omega⟩,if_pos e]
   ·rw [if_neg (fun q=>e q.1),if_neg e]
  have hwl:=h.len
  have hsetW:∀ v,el (ways.set (el l k).dst (el ways (el l k).src ++ [(k:Int)])) v = if v = (el l k).dst then el ways (el l k).src ++ [(k:Int)] else el ways v:=fun v=>by
   rw [el_set_any]
   by_cases e:v = (el l k).dst
   ·rw [if_pos ⟨e,by omega⟩,if_pos e]
   ·rw [if_neg (fun q=>e q.1),if_neg e]
  refine ⟨by rw [List.length_set]; exact hwl,fun v hv=>?_,fun v hv hf=>?_,fun v hv hf=>?_⟩
  ·rw [hsetL,hsetW]
   by_cases e:v = (el l k).dst
   ·subst e
    rw [if_pos rfl,if_pos rfl]
    refine .inr ⟨k,hk,rfl,rfl,.inl ?_⟩
    rw [hset,hset,hsetW,if_pos rfl,if_neg s3,if_neg s3]
    exact ⟨ha,rfl⟩
   ·rw [if_neg e,if_neg e]
    rcases h.way v hv with q | ⟨i,q1,q2,q3,q4⟩
    ·exact .inl q
    ·refine .inr ⟨i,q1,q2,q3,?_⟩
     rw [hset,hset,hsetW,if_neg e]
     by_cases e2:(el l i).src = (el l k).dst
     ·rw [if_pos e2,if_pos e2]
      right
      have hm:=lessL_mono (el l i) c
      rw [← e2] at hm
      rcases q4 with ⟨q5,_⟩ | q5
      ·rw [q5] at hm; exact hm
      ·exact lessL_trans hm q5
     ·rw [if_neg e2,if_neg e2]; exact q4
  ·rw [hset] at hf ⊢
   rw [hsetW]
   by_cases e:v = (el l k).dst
   ·rw [if_pos e,if_pos e]
    have:=h.fine _ s1 hsrcfine
    rw [← ha]
    show (el best (el l k).src).k + 1 = _
    rw [this,List.length_append]; rfl
   ·rw [if_neg e] at hf ⊢
    rw [if_neg e]
    exact h.fine v hv hf
  ·rw [hset] at hf
   rw [hsetW]
   by_cases e:v = (el l k).dst
   ·rw [if_pos e,hafine] at hf; cases hf
   ·rw [if_neg e] at hf ⊢
    exact h.coarse v hv hf
 ·rw [if_neg c,if_neg c]; exact h
end
end Go.Proofs.Ytgipgbhlibafhaa
