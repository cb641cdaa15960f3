/- Clearing: the steps of a clearing. -/
import Derived.Test.YtgipgbhlibafhaaPClear2
set_option linter.unusedVariables false
set_option linter.unusedSimpArgs false
namespace Go.Proofs.Ytgipgbhlibafhaa
open Go.RowKit Vm
structure OkD (n:Nat) (dues:List GDue):Prop where
 nn:n ≤ 40
 len:dues.length ≤ 100
 each:∀ i,i < dues.length→(0 ≤ (el dues i).From ∧ (el dues i).From < n) ∧ (0 ≤ (el dues i).To ∧ (el dues i).To < n) ∧ (el dues i).From ≠ (el dues i).To ∧ 1 ≤ (el dues i).Sum ∧ (el dues i).Sum ≤ 1099511627776
def frD (dues:List GDue) (i:Nat):Nat:=(el dues i).From.toNat
def ttD (dues:List GDue) (i:Nat):Nat:=(el dues i).To.toNat
def smD (dues:List GDue) (i:Nat):Int:=(el dues i).Sum
def stpG (dues:List GDue) (x:Nat→Int) (i:Nat) (b:Bool):GClearingStep :=
 ⟨i,if b = true then (el dues i).To else (el dues i).From,if b = true then (el dues i).From else (el dues i).To,if b = true then 1 else -1,if b = true then x i else (el dues i).Sum - x i,b⟩
def stepG (dues:List GDue) (x:Nat→Int) (i:Nat):List GClearingStep :=
 (if x i < (el dues i).Sum then [stpG dues x i false] else []) ++ (if x i > 0 then [stpG dues x i true] else [])
def stepsG (dues:List GDue) (x:Nat→Int) (m:Nat):List GClearingStep:=(List.range m).flatMap (stepG dues x)
theorem stepG_len (dues:List GDue) (x:Nat→Int) (i:Nat):(stepG dues x i).length ≤ 2:=by
 unfold stepG
 rw [List.length_append]
 split <;> split <;> simp
theorem stepsG_succ (dues:List GDue) (x:Nat→Int) (m:Nat):stepsG dues x (m + 1) = stepsG dues x m ++ stepG dues x m:=by
 simp [stepsG,List.range_succ,List.flatMap_append]
theorem stepsG_len (dues:List GDue) (x:Nat→Int):∀ m,(stepsG dues x m).length ≤ 2 * m
 | 0=>by simp [stepsG]
 | m + 1=>by
  have:=stepsG_len dues x m
  have:=stepG_len dues x m
  rw [stepsG_succ,List.length_append]; omega
section
variable {n:Nat} {dues:List GDue} {sums:List Int}
theorem OkD.fr (h:OkD n dues):∀ i,i < dues.length→frD dues i < n:=fun i hi=>by have:=h.each i hi; unfold frD; omega
theorem OkD.tt (h:OkD n dues):∀ i,i < dues.length→ttD dues i < n:=fun i hi=>by have:=h.each i hi; unfold ttD; omega
theorem steps_m (h:OkD n dues) (hl:sums.length = dues.length) (hr:InR (smD dues) dues.length (el sums)):mclearing_steps dues sums = some (stepsG dues (el sums) dues.length):=by
 unfold mclearing_steps mclearing_steps_l2
 suffices hh:∃ x,Iter (fun (w:Int × List GClearingStep)=>mclearing_steps_l2_s dues sums w.1 w.2) (0,[]) = some x ∧ x = stepsG dues (el sums) dues.length by
  obtain ⟨x,h1,h2⟩:=hh
  rw [h1,h2]; rfl
 have hlen:=h.len
 refine iter_for (step:=fun (w:Int × List GClearingStep)=>mclearing_steps_l2_s dues sums w.1 w.2) (fun k (a:List GClearingStep)=>((k:Int),a)) dues.length (fun k a=>a = stepsG dues (el sums) k) _ ?_ ?_ _ rfl
 ·rintro k a hk rfl
  refine .inl ⟨stepsG dues (el sums) (k + 1),?_,rfl⟩
  have hsl:=stepsG_len dues (el sums) k
  have hx:=hr k hk
  have hd:=h.each k hk
  unfold smD at hx
  show mclearing_steps_l2_s dues sums k (stepsG dues (el sums) k) = _
  unfold mclearing_steps_l2_s
  rw [if_pos (by simpa using hk),atI_el dues k hk,Option.bind_some,atI_el sums k (by omega),Option.bind_some,wrap_succ (by omega),stepsG_succ]
  have hj:∀ L:List GClearingStep,L.length ≤ 2 * k + 1→mclearing_steps_j1 dues sums k (el dues k) L = some (L ++ if el sums k > 0 then [stpG dues (el sums) k true] else []):=by
   intro L hL
   unfold mclearing_steps_j1
   rw [atI_el sums k (by omega),Option.bind_some]
   by_cases c:el sums k > 0
   ·rw [if_pos (by simpa using c),if_pos c,Option.bind_some,if_pos (by omega)]; rfl
   ·rw [if_neg (by simpa using c),if_neg c,List.append_nil]
  by_cases c:el sums k < (el dues k).Sum
  ·rw [if_pos (by simpa using c),Option.bind_some,if_pos (by omega),wrap_id (by omega) (by omega),hj _ (by simp; omega),Option.bind_some]
   unfold stepG
   rw [if_pos c,← List.append_assoc]; rfl
  ·rw [if_neg (by simpa using c),hj _ (by omega),Option.bind_some]
   unfold stepG
   rw [if_neg c,List.nil_append]
 ·rintro a rfl
  refine ⟨_,?_,rfl⟩
  show mclearing_steps_l2_s dues sums dues.length _ = _
  unfold mclearing_steps_l2_s
  rw [if_neg (by simp)]
theorem mem_stepsG {x:Nat→Int} {m:Nat} {g:GClearingStep}:g ∈ stepsG dues x m ↔ ∃ i b,i < m ∧ g = stpG dues x i b ∧ 0 < (stpG dues x i b).most:=by
 unfold stepsG stepG
 rw [List.mem_flatMap]
 constructor
 ·rintro ⟨i,hi,hg⟩
  rw [List.mem_range] at hi
  rcases List.mem_append.1 hg with q | q
  ·split at q
   ·rename_i c
    exact ⟨i,false,hi,by simpa using q,by simp [stpG]; omega⟩
   ·cases q
  ·split at q
   ·rename_i c
    exact ⟨i,true,hi,by simpa using q,by simp [stpG]; omega⟩
   ·cases q
 ·rintro ⟨i,b,hi,rfl,hm⟩
  refine ⟨i,List.mem_range.2 hi,List.mem_append.2 ?_⟩
  cases b
  ·left
   have:x i < (el dues i).Sum:=by simp [stpG] at hm; omega
   rw [if_pos this]; simp
  ·right
   have:x i > 0:=by simpa [stpG] using hm
   rw [if_pos this]; simp
theorem stpOf_stpG (h:OkD n dues) {x:Nat→Int} {i:Nat} (hi:i < dues.length) (b:Bool):stpOf (stpG dues x i b) = stp (frD dues) (ttD dues) (smD dues) x ccT i b:=by
 have:=h.each i hi
 cases b <;> simp [stpOf,stpG,stp,frD,ttD,smD,ccT] <;> omega
theorem steps_of (h:OkD n dues) (x:Nat→Int):StepsOf (frD dues) (ttD dues) (smD dues) dues.length x (fun _ _=>True) ccT ((stepsG dues x dues.length).map stpOf):=by
 constructor
 ·intro k hk
  rw [List.length_map] at hk
  rw [el_map' stpOf _ k hk]
  obtain ⟨i,b,hi,e,hm⟩:=mem_stepsG.1 (show el (stepsG dues x dues.length) k ∈ stepsG dues x dues.length by rw [show el (stepsG dues x dues.length) k = (stepsG dues x dues.length)[k] from by simp [el,hk]]; exact List.getElem_mem _)
  refine ⟨i,b,hi,trivial,?_,by rw [e,stpOf_stpG h hi]⟩
  rw [← stpOf_stpG h hi]
  exact hm
 ·intro i b hi _ hm
  rw [← stpOf_stpG h hi] at hm
  have:=(mem_stepsG (dues:=dues) (x:=x) (m:=dues.length)).2 ⟨i,b,hi,rfl,hm⟩
  obtain ⟨k,hk,e⟩:=List.mem_iff_getElem.1 this
  refine ⟨k,by rw [List.length_map]; exact hk,?_⟩
  rw [el_map' stpOf _ k hk,← stpOf_stpG h hi,← e]
  simp [el,hk]
theorem steps_ok (h:OkD n dues) (x:Nat→Int):∀ g ∈ stepsG dues x dues.length,OkSt n g:=by
 intro g hg
 obtain ⟨i,b,hi,rfl,_⟩:=mem_stepsG.1 hg
 have:=h.each i hi
 cases b <;> simp [OkSt,stpG] <;> omega
end
end Go.Proofs.Ytgipgbhlibafhaa
