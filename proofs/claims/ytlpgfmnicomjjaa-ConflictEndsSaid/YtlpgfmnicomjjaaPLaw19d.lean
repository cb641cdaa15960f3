/- Layer 19: ConflictEnds. -/
import Derived.Test.YtlpgfmnicomjjaaPLaw19
import Derived.Test.YtlpgfmnicomjjaaPLaw06b
set_option linter.unusedVariables false
set_option linter.unusedSimpArgs false
namespace Go.Proofs.Ytlpgfmnicomjjaa
open Go.RowKit Vm
section
variable {L:Int→Int × Bool} {acc:Int→Bool}
structure EndOk (L:Int→Int × Bool) (acc:Int→Bool) (n:Nat) (e:Int) (q:List Int):Prop where
 val:e = 0 ∨ e = 12
 iff:e = 12 ↔ (∃ j,j + 1 < q.length ∧ el q j = el q (q.length - 1)) ∧ (L (el q (q.length - 2))).2 = true ∧ acc (el q (q.length - 1)) = false
 back:e = 12→∃ p x,q = p ++ [x] ∧ Cont L n p ∧ L (el p (p.length - 1)) = (x,true) ∧ x ∈ p ∧ x ≠ el p (p.length - 1)
theorem Cont.pos {n:Nat} {p:List Int} (c:Cont L n p):0 < p.length:=by
 have:=c.ne
 cases p with
 | nil=>exact absurd rfl this
 | cons x l=>simp
theorem lawR_end {n:Nat} (hL:∀ x,0 ≤ x→x < (n:Int)→0 ≤ (L x).1 ∧ (L x).1 < (n:Int)):∀ (k:Nat) (p:List Int),Cont L n p→n + 1 = p.length + k→EndOk L acc n (lawR L acc k p).1 (lawR L acc k p).2
 | 0,p,c,hk=>by
  have:=nodup_le n p c.nd c.inn
  omega
 | k + 1,p,c,hk=>by
  have hle:=nodup_le n p c.nd c.inn
  have hl:=c.pos
  have hm:=c.inn _ (last_mem c.ne)
  have hx:=hL _ hm.1 hm.2
  have hlen:∀ x:Int,(p ++ [x]).length = p.length + 1:=fun x=>by simp
  have e1:∀ x:Int,el (p ++ [x]) ((p ++ [x]).length - 1) = x:=fun x=>by rw [hlen,Nat.add_sub_cancel,el_app_eq]
  have e2:∀ x:Int,el (p ++ [x]) ((p ++ [x]).length - 2) = el p (p.length - 1):=fun x=>by rw [hlen,show p.length + 1 - 2 = p.length - 1 by omega,el_app_lt _ _ _ (by omega)]
  simp only [lawR]
  split
  ·refine ⟨.inl rfl,⟨(fun q=>by cases q),fun ⟨⟨j,q1,q2⟩,_⟩=>?_⟩,fun q=>by cases q⟩
   dsimp only at q1 q2
   have:=el_inj c.nd (show j < p.length by omega) (show p.length - 1 < p.length by omega) q2
   omega
  rename_i h1
  split
  ·rename_i h2
   refine ⟨.inl rfl,⟨(fun q=>by cases q),fun ⟨_,q,_⟩=>?_⟩,fun q=>by cases q⟩
   rw [e2,h2] at q
   cases q
  rename_i h2
  split
  ·rename_i h3
   split
   ·rename_i h4
    refine ⟨.inl rfl,⟨(fun q=>by cases q),fun ⟨_,_,q⟩=>?_⟩,fun q=>by cases q⟩
    rw [e1,h4] at q
    cases q
   ·rename_i h4
    refine ⟨.inr rfl,⟨fun _=>⟨?_,?_,?_⟩,fun _=>rfl⟩,fun _=>⟨p,_,rfl,c,?_,h3,h1⟩⟩
    ·obtain ⟨j,hj,e⟩:=mem_el h3
     exact ⟨j,by rw [hlen]; omega,by rw [e1,el_app_lt _ _ _ hj,e]⟩
    ·rw [e2]; simpa using h2
    ·rw [e1]; simpa using h4
    ·generalize L (el p (p.length - 1)) = z at h2
     obtain ⟨a,b⟩:=z
     cases b with
     | false=>exact absurd rfl h2
     | true=>rfl
  ·rename_i h3
   exact lawR_end hL k _ (c.go h2 h3 hx) (by simp; omega)
end
def allE (L:Int→Int × Bool) (n:Nat):List GArr2I:=((List.range n).filter fun i:Nat=>(L i).2 && (L i).1 != (i:Int)).map fun i:Nat=>⟨(i:Int),(L i).1⟩
theorem allE_succ (L:Int→Int × Bool) (n:Nat):allE L (n + 1) = if ((L n).2 && (L n).1 != (n:Int)) = true then allE L n ++ [⟨(n:Int),(L n).1⟩] else allE L n:=by
 unfold allE
 rw [List.range_succ,List.filter_append,List.map_append]
 by_cases h:((L n).2 && (L n).1 != (n:Int)) = true
 ·rw [if_pos h]; simp only [List.filter_cons,h,if_true,List.filter_nil,List.map_cons,List.map_nil]
 ·rw [if_neg h]; simp only [List.filter_cons,h,List.filter_nil]; simp
theorem allE_len (L:Int→Int × Bool) (n:Nat):(allE L n).length ≤ n:=by
 unfold allE
 rw [List.length_map]
 have:=List.length_filter_le (fun i:Nat=>(L i).2 && (L i).1 != (i:Int)) (List.range n)
 simpa using this
theorem allE_mem {L:Int→Int × Bool} {n:Nat} {e:GArr2I}:e ∈ allE L n ↔ ∃ i:Nat,i < n ∧ e = ⟨(i:Int),(L i).1⟩ ∧ (L i).2 = true ∧ (L i).1 ≠ (i:Int):=by
 unfold allE
 rw [List.mem_map]
 constructor
 ·rintro ⟨i,hi,rfl⟩
  obtain ⟨h1,h2⟩:=List.mem_filter.1 hi
  rw [Bool.and_eq_true,bne_iff_ne] at h2
  exact ⟨i,List.mem_range.1 h1,rfl,h2⟩
 ·rintro ⟨i,hi,rfl,h1,h2⟩
  exact ⟨i,List.mem_filter.2 ⟨List.mem_range.2 hi,by rw [Bool.and_eq_true,bne_iff_ne]; exact ⟨h1,h2⟩⟩,rfl⟩
theorem allE_right {L:Int→Int × Bool} {n:Nat} (hL:∀ x,0 ≤ x→x < (n:Int)→0 ≤ (L x).1 ∧ (L x).1 < (n:Int)) (hn:n < 50):rightG (n:Int) (allE L n):=by
 have:=allE_len L n
 refine ⟨⟨by omega,by omega⟩,by omega,fun e he=>?_⟩
 obtain ⟨i,hi,rfl,_⟩:=allE_mem.1 he
 have:=hL i (by omega) (by omega)
 unfold inE
 simp only [Int.toNat_natCast]
 omega
noncomputable def outE (L:Int→Int × Bool) (n f:Nat):List GArr2I:=(allE L n).filter fun e=>rchB (allE L n) f e.e0.toNat
theorem edges_eq (r:GRealm) (forum ask:Int) (pl:List Int) (hb:ByOk r) (hn:r.Orders.length < 50) (hf:FineQ r forum ask pl):mallongelaw19_edges r forum ask pl = some (outE (leadOf r ask pl) r.Orders.length forum.toNat):=by
 have hL:∀ x,0 ≤ x→x < (r.Orders.length:Int)→0 ≤ (leadOf r ask pl x).1 ∧ (leadOf r ask pl x).1 < (r.Orders.length:Int):=fun x h1 h2=>leadOf_in r x ask pl hb ⟨h1,h2,hf.2.2⟩
 have l1:mallongelaw19_edges_l1 r forum ask pl 0 [] = some (allE (leadOf r ask pl) r.Orders.length):=by
  unfold mallongelaw19_edges_l1
  refine iter_all (step:=fun (w:Int × (List GArr2I))=>mallongelaw19_edges_l1_s r forum ask pl w.1 w.2) (fun k:Nat=>((k:Int),allE (leadOf r ask pl) k)) r.Orders.length _ ?_ ?_
  ·intro k hk
   have hlen:=allE_len (leadOf r ask pl) k
   have hx:=hL k (by omega) (by omega)
   simp only [mallongelaw19_edges_l1_s,lt_t hk,if_true,leads_eq r _ ask pl hb ⟨show (0:Int) ≤ (k:Int) by omega,show (k:Int) < r.Orders.length by omega,hf.2.2⟩,Option.bind_some,wrap_succ (show k < 9223372036854775807 by omega),allE_succ]
   cases hw:(leadOf r ask pl k).2 with
   | false=>simp
   | true =>
    by_cases hne:(leadOf r ask pl k).1 = (k:Int)
    ·simp [hne]
    ·simp only [bne_iff_ne,ne_eq,hne,not_false_eq_true,if_true,Bool.true_and]
     rw [if_pos (decide_eq_true hx.1),if_pos (by omega)]
  ·simp only [mallongelaw19_edges_l1_s,lt_f,if_false]
 have hr:=allE_right hL hn
 have hlen:=allE_len (leadOf r ask pl) r.Orders.length
 have hfn:((forum.toNat:Nat):Int) = forum:=Int.toNat_of_nonneg hf.1
 have hrl:=reachL_len r.Orders.length (allE (leadOf r ask pl) r.Orders.length) forum.toNat
 have l2:mallongelaw19_edges_l2 r (allE (leadOf r ask pl) r.Orders.length) (reachL r.Orders.length (allE (leadOf r ask pl) r.Orders.length) forum.toNat) 0 [] = some (outE (leadOf r ask pl) r.Orders.length forum.toNat):=by
  unfold mallongelaw19_edges_l2
  have hsucc:∀ k,k < (allE (leadOf r ask pl) r.Orders.length).length→((allE (leadOf r ask pl) r.Orders.length).take (k + 1)).filter (fun e=>rchB (allE (leadOf r ask pl) r.Orders.length) forum.toNat e.e0.toNat) = if rchB (allE (leadOf r ask pl) r.Orders.length) forum.toNat (el (allE (leadOf r ask pl) r.Orders.length) k).e0.toNat = true then ((allE (leadOf r ask pl) r.Orders.length).take k).filter (fun e=>rchB (allE (leadOf r ask pl) r.Orders.length) forum.toNat e.e0.toNat) ++ [el (allE (leadOf r ask pl) r.Orders.length) k] else ((allE (leadOf r ask pl) r.Orders.length).take k).filter (fun e=>rchB (allE (leadOf r ask pl) r.Orders.length) forum.toNat e.e0.toNat):=by
   intro k hk
   rw [List.take_add_one,List.getElem?_eq_getElem hk,← el_lt _ k hk,List.filter_append]
   by_cases h:rchB (allE (leadOf r ask pl) r.Orders.length) forum.toNat (el (allE (leadOf r ask pl) r.Orders.length) k).e0.toNat = true
   ·rw [if_pos h]; simp only [Option.toList_some,List.filter_cons,h,if_true,List.filter_nil]
   ·rw [if_neg h]; simp only [Option.toList_some,List.filter_cons,h,List.filter_nil]; simp
  have:=iter_all (step:=fun (w:Int × (List GArr2I))=>mallongelaw19_edges_l2_s r (allE (leadOf r ask pl) r.Orders.length) (reachL r.Orders.length (allE (leadOf r ask pl) r.Orders.length) forum.toNat) w.1 w.2) (fun k:Nat=>((k:Int),((allE (leadOf r ask pl) r.Orders.length).take k).filter fun e=>rchB (allE (leadOf r ask pl) r.Orders.length) forum.toNat e.e0.toNat)) (allE (leadOf r ask pl) r.Orders.length).length (outE (leadOf r ask pl) r.Orders.length forum.toNat) ?_ ?_
  ·exact this
  ·intro k hk
   have he:=hr.2.2 _ (el_mem _ k hk)
   rw [Int.toNat_natCast] at he
   have h0:=he.1
   have hfl:=List.length_filter_le (fun e:GArr2I=>rchB (allE (leadOf r ask pl) r.Orders.length) forum.toNat e.e0.toNat) ((allE (leadOf r ask pl) r.Orders.length).take k)
   rw [List.length_take] at hfl
   rw [hsucc k hk]
   simp only [mallongelaw19_edges_l2_s,lt_t hk,if_true,hrl,beq_self_eq_true,at_el _ _ hk,Option.bind_some,at_nat hrl h0,reachL_el (show (el (allE (leadOf r ask pl) r.Orders.length) k).e0.toNat < r.Orders.length by omega),wrap_succ (show k < 9223372036854775807 by omega)]
   by_cases h:rchB (allE (leadOf r ask pl) r.Orders.length) forum.toNat (el (allE (leadOf r ask pl) r.Orders.length) k).e0.toNat = true
   ·rw [if_pos h,if_pos h,if_pos (by omega)]
   ·rw [if_neg h,if_neg h]
  ·simp only [mallongelaw19_edges_l2_s,lt_f,if_false,List.take_length]; rfl
 unfold mallongelaw19_edges
 rw [l1,Option.bind_some,Reach_eq,if_pos ⟨hr,hf.1,hf.2.1⟩,Option.bind_some,Int.toNat_natCast,l2]
 rfl
theorem out_right {L:Int→Int × Bool} {n:Nat} (hL:∀ x,0 ≤ x→x < (n:Int)→0 ≤ (L x).1 ∧ (L x).1 < (n:Int)) (hn:n < 50) (f:Nat):rightG (n:Int) (outE L n f):=by
 have h:=allE_right hL hn
 refine ⟨h.1,Nat.le_trans (List.length_filter_le _ _) h.2.1,fun e he=>h.2.2 e (List.mem_filter.1 he).1⟩
theorem back_cl {L:Int→Int × Bool} {n:Nat} {p:List Int} {x:Int} (c:Cont L n p) (hx:L (el p (p.length - 1)) = (x,true)) (hm:x ∈ p) (hne:x ≠ el p (p.length - 1)) (hin:0 ≤ x ∧ x < (n:Int)):∃ s k,Cl (edg (outE L n (el p 0).toNat)) s k ∧ s < n:=by
 have hl:=c.pos
 have hnat:∀ i,i < p.length→((el p i).toNat:Int) = el p i ∧ (el p i).toNat < n:=fun i hi=>by have:=c.inn _ (el_mem p i hi); omega
 obtain ⟨i0,hi0,e0⟩:=mem_el hm
 have hne' : i0 ≠ p.length - 1:=fun q=>by subst q; exact hne e0.symm
 -- the edges
 have hE:∀ i j,i < p.length→j < p.length→L (el p i) = (el p j,true)→el p j ≠ el p i→edg (allE L n) (el p i).toNat (el p j).toNat:=by
  intro i j hi hj h1 h2
  obtain ⟨a1,a2⟩:=hnat i hi
  obtain ⟨b1,b2⟩:=hnat j hj
  exact ⟨_,allE_mem.2 ⟨(el p i).toNat,a2,rfl,by rw [a1,h1],by rw [a1,h1]; exact h2⟩,rfl,by rw [a1,h1]; exact b1.symm⟩
 have hstep:∀ i,i + 1 < p.length→edg (allE L n) (el p i).toNat (el p (i + 1)).toNat:=fun i hi=>hE i (i + 1) (by omega) hi (c.ch i hi) fun q=>by have:=el_inj c.nd (by omega) (by omega) q; omega
 have hR:∀ i,i < p.length→Rch (edg (allE L n)) (el p 0).toNat (el p i).toNat:=by
  intro i
  induction i with
  | zero=>intro _; exact .refl
  | succ i ih=>intro hi; exact (ih (by omega)).tail (hstep i hi)
 have hO:∀ i j,i < p.length→edg (allE L n) (el p i).toNat (el p j).toNat→edg (outE L n (el p 0).toNat) (el p i).toNat (el p j).toNat:=by
  rintro i j hi ⟨e,he,h1,h2⟩
  exact ⟨e,List.mem_filter.2 ⟨he,by rw [h1,Int.toNat_natCast]; exact rchB_iff.2 (hR i hi)⟩,h1,h2⟩
 have hm0:0 < p.length - i0:=by omega
 obtain ⟨s,k,q1,q2,t,q3⟩:=walk_cl (E:=edg (outE L n (el p 0).toNat)) (x:=fun t=>(el p (i0 + t % (p.length - i0))).toNat) hm0 (fun t=>by
  show edg _ (el p (i0 + t % (p.length - i0))).toNat (el p (i0 + (t + 1) % (p.length - i0))).toNat
  have hr:=Nat.mod_lt t hm0
  by_cases cc:t % (p.length - i0) + 1 = p.length - i0
  ·have h0:(t + 1) % (p.length - i0) = 0:=by rw [← succ_mod,cc,Nat.mod_self]
   rw [h0,Nat.add_zero]
   have hi:i0 + t % (p.length - i0) = p.length - 1:=by omega
   rw [hi]
   exact hO _ _ (by omega) (hE _ _ (by omega) hi0 (by rw [hx,e0]) (by rw [e0]; exact hne))
  ·have h0:(t + 1) % (p.length - i0) = t % (p.length - i0) + 1:=by rw [← succ_mod,Nat.mod_eq_of_lt (by omega)]
   rw [h0,← Nat.add_assoc]
   exact hO _ _ (by omega) (hstep _ (by omega))) (fun t=>by
  show (el p (i0 + t % (p.length - i0) % (p.length - i0))).toNat = _
  rw [Nat.mod_mod])
 exact ⟨s,k,q1,by rw [q3]; exact (hnat _ (by have:=Nat.mod_lt t hm0; omega)).2⟩
theorem law_ends (hs:mallongelaw19_sane = some true) (r:GRealm) (forum ask:Int) (pl:List Int) (w:GRealm.wf r):mallongelaw19_ConflictEnds r forum ask pl = some true:=by
 unfold mallongelaw19_ConflictEnds
 obtain ⟨b,e1,f⟩:=few_spec r
 rw [hs,e1]
 cases b with
 | false=>rfl
 | true =>
  have f:=f rfl
  obtain ⟨e,e2,h⟩:=check_spec r f w
  simp only [Option.bind_some,Bool.not_true,Bool.false_eq_true,if_false,e2,bne_iff_ne]
  by_cases h0:e = 0
  ·rw [if_neg (by simpa using h0)]
   have h:=h h0
   by_cases hp:(pl.length:Int) > 10
   ·simp [hp]
   have hn:=f.ord
   simp only [hp,decide_false,Bool.false_eq_true,if_false]
   have hpl:pl.length < 9223372036854775807:=by omega
   have hb:=byOk_of r f h
   rcases law_cases r forum ask pl hb hn hpl with ⟨g1,g2⟩ | ⟨g1,g2,g3⟩
   ·rw [g1]; rfl
   ·rw [g3]
    have hL:∀ x,0 ≤ x→x < (r.Orders.length:Int)→0 ≤ (leadOf r ask pl x).1 ∧ (leadOf r ask pl x).1 < (r.Orders.length:Int):=fun x h1 h2=>leadOf_in r x ask pl hb ⟨h1,h2,g1.2.2⟩
    obtain ⟨p1,p2,p3,p4⟩:=law_spec r forum ask pl hb hn g1
    have hend:EndOk (leadOf r ask pl) (accOf r) r.Orders.length (lawOf r forum ask pl).1 (lawOf r forum ask pl).2:=lawR_end hL r.Orders.length [forum] (cont_one _ _ _ ⟨g1.1,g1.2.1⟩) (by simp; omega)
    generalize hlw:lawOf r forum ask pl = lw at p1 p2 p4 g3 hend
    obtain ⟨ec,path⟩:=lw
    simp only at p1 p2 p4 hend
    have hlen:=p1.len
    have hval:=hend.val
    have hhead:el path 0 = forum:=by rw [p4,el_app_lt _ _ _ (by simp)]; rfl
    obtain ⟨cy,c1,c2⟩:=Cycle_eq (out_right hL hn forum.toNat)
    have hnat:∀ i,i < path.length→0 ≤ el path i ∧ el path i < (r.Orders.length:Int):=fun i hi=>p1.inn _ (el_mem path i hi)
    have g4:¬ ((ec == 1) = true):=by rw [beq_iff_eq]; omega
    have g5:¬ (((path.length:Int) == 0) = true):=by rw [beq_iff_eq]; omega
    simp only [Option.bind_some]
    rw [if_neg g4,if_neg g5,edges_eq r forum ask pl hb hn g1,Option.bind_some,c1,Option.bind_some,ci_len]
    by_cases hc:cy.length = 0
    ·have hec:ec = 0:=by
      rcases hval with q | q
      ·exact q
      ·exfalso
       obtain ⟨p,x,q1,q2,q3,q4,q5⟩:=hend.back q
       have hpp:=q2.pos
       have:el p 0 = forum:=by rw [← hhead,q1,el_app_lt _ _ _ hpp]
       obtain ⟨s,k,t1,t2⟩:=back_cl q2 q3 q4 q5 (q2.inn x q4)
       rw [this] at t1
       have hcy:=(c2.some t2 t1).1.pos
       omega
     rw [if_pos (by rw [hc]; rfl),if_pos trivial,hec]; rfl
    ·rw [if_neg (by rw [beq_iff_eq]; omega)]
     have hw1:IntKind.wrap .i64 ((path.length:Int) - 1) = ((path.length - 1:Nat):Int):=by rw [wrap_id (by omega) (by omega)]; omega
     have hlast:=hnat (path.length - 1) (by omega)
     rw [hw1,at_el _ _ (show path.length - 1 < path.length by omega),Option.bind_some,if_neg (by simp; omega),if_neg (by simp; omega)]
     have l1:∃ a,mallongelaw19_ConflictEnds_l1 r ask pl true (path,ec) (el path (path.length - 1)) false 0 = some a ∧ (a = true ↔ ∃ j,j + 1 < path.length ∧ el path j = el path (path.length - 1)):=by
      unfold mallongelaw19_ConflictEnds_l1
      refine iter_for (step:=fun (w:Bool × Int)=>mallongelaw19_ConflictEnds_l1_s r ask pl true (path,ec) (el path (path.length - 1)) w.1 w.2) (fun (k:Nat) (b:Bool)=>(b,(k:Int))) (path.length - 1) (fun k b=>b = true ↔ ∃ j,j < k ∧ el path j = el path (path.length - 1)) _ ?_ ?_ false ⟨(fun q=>by cases q),fun ⟨j,q,_⟩=>absurd q (Nat.not_lt_zero _)⟩
      ·rintro k b hk hb'
       refine .inl ?_
       simp only [mallongelaw19_ConflictEnds_l1_s,hw1,lt_t hk,if_true,wrap_succ (show k < 9223372036854775807 by omega)]
       cases b with
       | true =>
        refine ⟨true,rfl,fun _=>?_,fun _=>rfl⟩
        obtain ⟨j,q1,q2⟩:=hb'.1 rfl
        exact ⟨j,by omega,q2⟩
       | false =>
        rw [if_neg (by simp),at_el _ _ (show k < path.length by omega),Option.bind_some]
        refine ⟨_,rfl,?_⟩
        rw [beq_iff_eq]
        constructor
        ·intro q; exact ⟨k,by omega,q⟩
        ·rintro ⟨j,q1,q2⟩
         by_cases ej:j = k
         ·subst ej; exact q2
         ·have:=hb'.2 ⟨j,by omega,q2⟩; cases this
      ·rintro b hb'
       refine ⟨b,?_,?_⟩
       ·simp only [mallongelaw19_ConflictEnds_l1_s,hw1,lt_f,if_false]
       ·rw [hb']
        constructor
        ·rintro ⟨j,q1,q2⟩; exact ⟨j,by omega,q2⟩
        ·rintro ⟨j,q1,q2⟩; exact ⟨j,by omega,q2⟩
     obtain ⟨a,a1,a2⟩:=l1
     rw [a1,Option.bind_some]
     have hacc:at? r.Orders (el path (path.length - 1)) = some (el r.Orders (el path (path.length - 1)).toNat):=at_eq _ _ hlast.1 (by omega)
     -- what the end says
     have fin:∀ wh:Bool,(1 < path.length→wh = (leadOf r ask pl (el path (path.length - 2))).2)→(path.length = 1→wh = false)→mallongelaw19_ConflictEnds_j2 r true a (path,ec) (el path (path.length - 1)) wh = some true:=by
      intro wh hwh1 hwh2
      have hiff:ec = 12 ↔ a = true ∧ wh = true ∧ accOf r (el path (path.length - 1)) = false:=by
       rw [hend.iff,a2]
       by_cases c:1 < path.length
       ·rw [hwh1 c]
       ·have h1:path.length = 1:=by omega
        rw [hwh2 h1]
        constructor
        ·rintro ⟨⟨j,q,_⟩,_⟩; omega
        ·rintro ⟨⟨j,q,_⟩,_⟩; omega
      unfold mallongelaw19_ConflictEnds_j2
      rw [hacc]
      have hA:(el r.Orders (el path (path.length - 1)).toNat).Accepts = accOf r (el path (path.length - 1)):=rfl
      simp only [Option.bind_some,hA]
      rcases hval with q | q
      ·subst q
       have hn12:¬ (a = true ∧ wh = true ∧ accOf r (el path (path.length - 1)) = false):=fun q=>by have:=hiff.2 q; omega
       cases a <;> cases wh <;> cases hc' : accOf r (el path (path.length - 1)) <;> first | rfl | (exfalso; exact hn12 ⟨rfl,rfl,hc'⟩)
      ·subst q
       obtain ⟨rfl,rfl,q3⟩:=hiff.1 rfl
       rw [q3]; rfl
     by_cases hl1:(path.length:Int) > 1
     ·have hw2:IntKind.wrap .i64 ((path.length:Int) - 2) = ((path.length - 2:Nat):Int):=by rw [wrap_id (by omega) (by omega)]; omega
      have h2:=hnat (path.length - 2) (by omega)
      rw [if_pos (decide_eq_true hl1),hw2,at_el _ _ (show path.length - 2 < path.length by omega),Option.bind_some,leads_eq r _ ask pl hb ⟨h2.1,h2.2,g1.2.2⟩,Option.bind_some,fin _ (fun _=>rfl) (fun q=>by omega)]
      rfl
     ·rw [if_neg (by simpa using hl1),fin false (fun q=>by omega) (fun _=>rfl)]
      rfl
  ·rw [if_pos (by simpa using h0)]
end Go.Proofs.Ytlpgfmnicomjjaa
