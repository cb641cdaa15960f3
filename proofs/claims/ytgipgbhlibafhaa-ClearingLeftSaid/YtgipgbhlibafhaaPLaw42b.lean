/- Law 42: what is left has no cycle (ClearingLeft). -/
import Derived.Test.YtgipgbhlibafhaaPLaw42
set_option linter.unusedVariables false
set_option linter.unusedSimpArgs false
namespace Go.Proofs.Ytgipgbhlibafhaa
open Go.RowKit Vm
def edD (d:GDue):GArr2I:=GArr2I.mk d.From d.To
def leftD (dues:List GDue) (x:List Int) (k:Nat):List GArr2I:=(List.range k).flatMap fun i=>if el x i < smD dues i then [edD (el dues i)] else []
section
variable {n:Nat} {dues:List GDue} {x q:List Int}
theorem leftD_succ (k:Nat):leftD dues x (k + 1) = leftD dues x k ++ if el x k < smD dues k then [edD (el dues k)] else []:=by
 simp [leftD,List.range_succ,List.flatMap_append]
theorem leftD_len:∀ k,(leftD dues x k).length ≤ k
 | 0=>by simp [leftD]
 | k + 1=>by
  have:=leftD_len k
  rw [leftD_succ,List.length_append]
  split <;> simp <;> omega
theorem left_m (h:OkD n dues) (hl:x.length = dues.length) (r:Bool):mallongelaw42_ClearingLeft_l1 n dues r (x,q,0) 0 [] [] = some (dues.map edD,leftD dues x dues.length):=by
 unfold mallongelaw42_ClearingLeft_l1
 have hlen:=h.len
 suffices hh:∃ y,Iter (fun (w:Int × List GArr2I × List GArr2I)=>mallongelaw42_ClearingLeft_l1_s n dues r (x,q,0) w.1 w.2.1 w.2.2) (0,[],[]) = some y ∧ y = (dues.map edD,leftD dues x dues.length) by
  obtain ⟨y,h1,h2⟩:=hh
  rw [h2] at h1; exact h1
 refine iter_for (step:=fun (w:Int × List GArr2I × List GArr2I)=>mallongelaw42_ClearingLeft_l1_s n dues r (x,q,0) w.1 w.2.1 w.2.2) (fun k (a:List GArr2I × List GArr2I)=>((k:Int),a)) dues.length (fun k a=>a = ((dues.take k).map edD,leftD dues x k)) _ ?_ ?_ _ (by simp [leftD])
 ·rintro k a hk rfl
  refine .inl ⟨_,?_,rfl⟩
  have hll:=leftD_len (dues:=dues) (x:=x) k
  have htl:((dues.take k).map edD).length = k:=by rw [List.length_map,List.length_take]; omega
  rw [take_el dues hk,List.map_append,leftD_succ]
  generalize (dues.take k).map edD = A at *
  generalize leftD dues x k = B at *
  show mallongelaw42_ClearingLeft_l1_s n dues r (x,q,0) k A B = _
  unfold mallongelaw42_ClearingLeft_l1_s
  dsimp only
  have c0:decide ((k:Int) < (dues.length:Int)) = true:=by simpa using hk
  have w3:IntKind.wrap .i64 ((k:Int) + 1) = ((k + 1:Nat):Int):=wrap_succ (by omega)
  have cA:(A.length + 1) * 16 ≤ 140737488355328:=by omega
  have cB:(B.length + 1) * 16 ≤ 140737488355328:=by omega
  have eX:at? x (k:Int) = some (el x k):=atI_el x k (by omega)
  simp only [if_pos c0,atI_el dues k hk,Option.bind_some,if_pos cA,if_pos cB,eX,w3]
  by_cases c:el x k < smD dues k
  ·have c' : decide (el x k < (el dues k).Sum) = true:=decide_eq_true c
   rw [if_pos c',if_pos c]; rfl
  ·have c' : ¬ decide (el x k < (el dues k).Sum) = true:=by rw [decide_eq_true_eq]; exact c
   rw [if_neg c',if_neg c,List.append_nil]; rfl
 ·rintro a rfl
  rw [List.take_length]
  refine ⟨_,?_,rfl⟩
  show mallongelaw42_ClearingLeft_l1_s n dues r (x,q,0) dues.length _ _ = _
  unfold mallongelaw42_ClearingLeft_l1_s
  rw [if_neg (by simp)]
theorem mem_left {e:GArr2I}:e ∈ leftD dues x dues.length ↔ ∃ i,i < dues.length ∧ el x i < smD dues i ∧ e = edD (el dues i):=by
 unfold leftD
 rw [List.mem_flatMap]
 constructor
 ·rintro ⟨i,hi,he⟩
  split at he
  ·rename_i c
   exact ⟨i,List.mem_range.1 hi,c,List.mem_singleton.1 he⟩
  ·cases he
 ·rintro ⟨i,hi,c,rfl⟩
  exact ⟨i,List.mem_range.2 hi,by rw [if_pos c]; exact List.mem_singleton.2 rfl⟩
theorem right_all (h:OkD n dues):rightG n (dues.map edD):=by
 have hnn:=h.nn
 have hlen:=h.len
 refine ⟨by omega,by rw [List.length_map]; omega,fun e he=>?_⟩
 obtain ⟨d,hd,rfl⟩:=List.mem_map.1 he
 obtain ⟨i,hi,rfl⟩:=mem_el hd
 have:=h.each i hi
 unfold inE edD
 rw [Int.toNat_natCast]
 exact ⟨this.1,this.2.1⟩
theorem right_left (h:OkD n dues):rightG n (leftD dues x dues.length):=by
 have hnn:=h.nn
 have hlen:=h.len
 have hll:=leftD_len (dues:=dues) (x:=x) dues.length
 refine ⟨by omega,by omega,fun e he=>?_⟩
 obtain ⟨i,hi,_,rfl⟩:=mem_left.1 he
 have:=h.each i hi
 unfold inE edD
 rw [Int.toNat_natCast]
 exact ⟨this.1,this.2.1⟩
theorem edg_all (h:OkD n dues) {i:Nat} (hi:i < dues.length):edg (dues.map edD) (frD dues i) (ttD dues i):=by
 have:=h.each i hi
 refine ⟨edD (el dues i),List.mem_map.2 ⟨_,el_mem _ _ hi,rfl⟩,?_,?_⟩
 ·unfold edD frD; dsimp only; omega
 ·unfold edD ttD; dsimp only; omega
theorem not_touched (h:OkD n dues) (hB:Bald (frD dues) (ttD dues) (smD dues) n dues.length (el x)) {i:Nat} (hi:i < dues.length) (hr:rchB (dues.map edD) (ttD dues i) (frD dues i) = false):el x i = 0:=by
 have hp:=bald_pot h.fr h.tt hB.net fun v=>if rchB (dues.map edD) (ttD dues i) v = true then 1 else 0
 have hpos:∀ j,j < dues.length→0 ≤ el x j * ((if rchB (dues.map edD) (ttD dues i) (ttD dues j) = true then 1 else 0) - (if rchB (dues.map edD) (ttD dues i) (frD dues j) = true then 1 else 0)):=by
  intro j hj
  refine Int.mul_nonneg (hB.lo j hj) ?_
  by_cases c:rchB (dues.map edD) (ttD dues i) (frD dues j) = true
  ·have:=(rchB_iff.1 c).tail (edg_all h hj)
   rw [if_pos c,if_pos (rchB_iff.2 this)]
   exact Int.le_refl _
  ·rw [if_neg c]; split <;> decide
 have ht:=sumN_term hpos i hi
 rw [hp] at ht
 have h1:rchB (dues.map edD) (ttD dues i) (ttD dues i) = true:=rchB_iff.2 .refl
 rw [h1,hr] at ht
 simp at ht
 have:=hB.lo i hi
 omega
theorem Tos.pot {E:Nat→Nat→Prop} {p:Nat→Int} (hp:∀ a b,E a b→p b ≤ p a - 1) {s k a:Nat} (t:Tos E s k a):p s ≤ p a:=by
 induction t with
 | zero=>exact Int.le_refl _
 | succ _ e _ ih=>have:=hp _ _ e; omega
theorem law42_left (hs:mallongelaw42_sane = some true) (n:Int) (dues:List GDue):mallongelaw42_ClearingLeft n dues = some true:=by
 unfold mallongelaw42_ClearingLeft
 rw [hs,Option.bind_some,rRight_m,Option.bind_some]
 by_cases hR:rightD n dues = true
 ·obtain ⟨m,rfl,h⟩:=rightD_iff.1 hR
  obtain ⟨x,q,e,b⟩:=best_ok h
  have hlen:=h.len
  have hbl:=b.len
  have c1:¬ ((x.length:Int) != (dues.length:Int)) = true:=by simp [hbl]
  rw [hR,if_neg (by decide),e,Option.bind_some,if_neg (by simp),if_neg c1,left_m h b.len,Option.bind_some]
  have hrg:=right_all h
  have k2:mallongelaw42_ClearingLeft_l2 m dues true (dues.map edD,leftD dues x dues.length) (x,q,0) 0 = some (.inl ()):=by
   unfold mallongelaw42_ClearingLeft_l2
   refine iter_all (step:=fun w=>mallongelaw42_ClearingLeft_l2_s m dues true (dues.map edD,leftD dues x dues.length) (x,q,0) w) (fun i:Nat=>(i:Int)) dues.length _ ?_ ?_
   ·intro i hi
    have hd:=h.each i hi
    show mallongelaw42_ClearingLeft_l2_s m dues true (dues.map edD,leftD dues x dues.length) (x,q,0) i = _
    unfold mallongelaw42_ClearingLeft_l2_s
    dsimp only
    have c0:decide ((i:Int) < (dues.length:Int)) = true:=by simpa using hi
    have w3:IntKind.wrap .i64 ((i:Int) + 1) = ((i + 1:Nat):Int):=wrap_succ (by omega)
    have hG:mgraph_Reach m (dues.map edD) (el dues i).To = some (reachL m (dues.map edD) (ttD dues i)):=by
     rw [Reach_eq,if_pos ⟨hrg,hd.2.1⟩,Int.toNat_natCast]; rfl
    have cl:¬ (((reachL m (dues.map edD) (ttD dues i)).length:Int) != (m:Int)) = true:=by rw [reachL_len]; simp
    have eF:at? (reachL m (dues.map edD) (ttD dues i)) (el dues i).From = some (rchB (dues.map edD) (ttD dues i) (frD dues i)):=by
     have:=atI_el (reachL m (dues.map edD) (ttD dues i)) (el dues i).From.toNat (by rw [reachL_len]; omega)
     rw [Int.toNat_of_nonneg hd.1.1] at this
     rw [this,reachL_el (by omega)]; rfl
    have eX:at? x (i:Int) = some (el x i):=atI_el x i (by omega)
    simp only [if_pos c0,atI_el dues i hi,Option.bind_some,hG,if_neg cl,eF,eX,w3]
    cases hr:rchB (dues.map edD) (ttD dues i) (frD dues i) with
    | true=>rfl
    | false =>
     have:=not_touched h b.bald hi hr
     rw [this]; rfl
   ·show mallongelaw42_ClearingLeft_l2_s m dues true (dues.map edD,leftD dues x dues.length) (x,q,0) dues.length = _
    unfold mallongelaw42_ClearingLeft_l2_s
    rw [if_neg (by simp)]
  rw [k2,Option.bind_some,Sum.elim_inl,if_pos rfl]
  obtain ⟨c,e2,hc,_⟩:=Cycle_eq (right_left (x:=x) h)
  have hp:∀ a b,edg (leftD dues x dues.length) a b→el q b ≤ el q a - 1:=by
   rintro a b' ⟨e,he,h1,h2⟩
   obtain ⟨i,hi,hx,rfl⟩:=mem_left.1 he
   have:=(b.cert i hi).1 hx
   unfold edD at h1 h2
   dsimp only at h1 h2
   unfold frD ttD at this
   rw [h1,h2,Int.toNat_natCast,Int.toNat_natCast] at this
   exact this
  dsimp only
  rw [e2,Option.bind_some]
  rcases hc with ⟨rfl,_⟩ | ⟨hc,_⟩
  ·rfl
  ·exfalso
   obtain ⟨b',hE,hT⟩:=hc.cl
   have:=hp _ _ hE
   have:=hT.pot hp
   omega
 ·rw [Bool.not_eq_true] at hR
  rw [hR,if_pos (show (!false) = true from rfl)]
end
end Go.Proofs.Ytgipgbhlibafhaa
