/- The laws of layer 06 (graph): GraphOrders. -/
import Derived.Test.YtlpgfmnicomjjaaPOrder
set_option linter.unusedVariables false
set_option linter.unusedSimpArgs false
namespace Go.Proofs.Ytlpgfmnicomjjaa
open Go.RowKit Vm
theorem nodup_le:∀ (n:Nat) (l:List Nat),l.Nodup→(∀ x ∈ l,x < n)→l.length ≤ n
 | 0,l,_,h=>by
  cases l with
  | nil=>exact Nat.le_refl _
  | cons a l=>exact absurd (h a (List.mem_cons_self ..)) (Nat.not_lt_zero _)
 | n + 1,l,hn,h=>by
  have h1:=nodup_le n (l.erase n) (hn.erase n) (fun x hx=>by
   have q:=(List.Nodup.mem_erase_iff hn).1 hx
   have:=h x q.2
   have:=q.1
   omega)
  by_cases c:n ∈ l
  ·rw [List.length_erase_of_mem c] at h1
   omega
  ·rw [List.erase_of_not_mem c] at h1
   omega
theorem nodup_all {n:Nat} {l:List Nat} (hn:l.Nodup) (h:∀ x ∈ l,x < n) (hl:l.length = n) {a:Nat} (ha:a < n):a ∈ l:=by
 apply Classical.byContradiction
 intro c
 have:=nodup_le n (a :: l) (List.nodup_cons.2 ⟨c,hn⟩) (fun x hx=>by
  rcases List.mem_cons.1 hx with e | e
  ·omega
  ·exact h x e)
 simp at this
 omega
theorem nodup_not {n:Nat} {l:List Nat} (h:∀ x ∈ l,x < n) (hl:n < l.length):∃ i j,i < j ∧ j < l.length ∧ el l i = el l j:=by
 apply Classical.byContradiction
 intro c
 have hn:l.Nodup:=by
  unfold List.Nodup
  rw [List.pairwise_iff_getElem]
  intro i j hi hj hij e
  exact c ⟨i,j,hij,hj,by rw [el_lt l i hi,el_lt l j hj]; exact e⟩
 have:=nodup_le n l hn h
 omega
theorem chain_cl {E:Nat→Nat→Prop} {n:Nat} {U:Nat→Prop} {a:Nat} (ha:U a) (hlt:∀ x,U x→x < n) (h:∀ x,U x→∃ y,E y x ∧ U y):∃ s k,Cl E s k ∧ s < n:=by
 have h' : ∀ x,∃ y,U x→(E y x ∧ U y):=fun x=>by
  by_cases c:U x
  ·obtain ⟨y,hy⟩:=h x c
   exact ⟨y,fun _=>hy⟩
  ·exact ⟨0,fun q=>absurd q c⟩
 obtain ⟨f,hf⟩:=Classical.axiomOfChoice h'
 let y:Nat→Nat:=fun i=>Nat.rec a (fun _ x=>f x) i
 have y0:y 0 = a:=rfl
 have ys:∀ i,y (i + 1) = f (y i):=fun i=>rfl
 have hU:∀ i,U (y i):=by
  intro i
  induction i with
  | zero=>exact ha
  | succ i ih=>rw [ys]; exact (hf _ ih).2
 have hE:∀ i,E (y (i + 1)) (y i):=fun i=>by rw [ys]; exact (hf _ (hU i)).1
 obtain ⟨i,j,hij,hj,e⟩:=nodup_not (n:=n) (l:=(List.range (n + 1)).map y) (fun x hx=>by
  obtain ⟨i,_,rfl⟩:=List.mem_map.1 hx
  exact hlt _ (hU i)) (by simp)
 rw [List.length_map,List.length_range] at hj
 have ey:∀ k,k < n + 1→el ((List.range (n + 1)).map y) k = y k:=fun k hk=>by rw [el_lt _ _ (by simpa using hk)]; simp
 rw [ey i (by omega),ey j hj] at e
 have hm:0 < j - i:=by omega
 obtain ⟨s,k,q1,q2,t,q3⟩:=walk_cl (E:=E) (x:=fun t=>y (j - t % (j - i))) hm (fun t=>by
  show E (y (j - t % (j - i))) (y (j - (t + 1) % (j - i)))
  have hr:=Nat.mod_lt t hm
  by_cases c:t % (j - i) + 1 = j - i
  ·have h0:(t + 1) % (j - i) = 0:=by rw [← succ_mod,c,Nat.mod_self]
   rw [h0,Nat.sub_zero,← e]
   have:=hE i
   rw [show i + 1 = j - t % (j - i) by omega] at this
   exact this
  ·have h0:(t + 1) % (j - i) = t % (j - i) + 1:=by rw [← succ_mod,Nat.mod_eq_of_lt (by omega)]
   rw [h0]
   have:=hE (j - (t % (j - i) + 1))
   rw [show j - (t % (j - i) + 1) + 1 = j - t % (j - i) by omega] at this
   exact this) (fun t=>by
  show y (j - t % (j - i) % (j - i)) = y (j - t % (j - i))
  rw [Nat.mod_mod])
 exact ⟨s,k,q1,by rw [q3]; exact hlt _ (hU _)⟩
theorem ord_none {E:Nat→Nat→Prop} {n:Nat} {P:List Nat} (hE:∀ a b,E a b→a < n) (h1:P.length < n) (h2:Gord E n P) (h3:∀ a,¬ Free E n P a):∃ s k,Cl E s k ∧ s < n:=by
 obtain ⟨a,ha,hP⟩ : ∃ a,a < n ∧ a ∉ P:=by
  apply Classical.byContradiction
  intro c
  have hall:∀ a,a < n→a ∈ P:=fun a ha=>Classical.byContradiction fun q=>c ⟨a,ha,q⟩
  obtain ⟨i,j,hij,hj,e⟩:=nodup_not (n:=P.length) (l:=(List.range n).map fun a=>P.idxOf a) (fun x hx=>by
   obtain ⟨a,ha,rfl⟩:=List.mem_map.1 hx
   exact List.idxOf_lt_length_of_mem (hall a (List.mem_range.1 ha))) (by simp; exact h1)
  rw [List.length_map,List.length_range] at hj
  rw [el_lt _ _ (by simp; omega),el_lt _ _ (by simpa using hj)] at e
  simp only [List.getElem_map,List.getElem_range] at e
  have hi':=List.idxOf_lt_length_of_mem (hall i (by omega))
  have hj':=List.idxOf_lt_length_of_mem (hall j (by omega))
  have e1:P[P.idxOf i] = i:=List.getElem_idxOf hi'
  have e2:P[P.idxOf j] = j:=List.getElem_idxOf hj'
  have:i = j:=by
   rw [← e1,← e2]
   congr 1
  omega
 refine chain_cl (U:=fun x=>x < n ∧ x ∉ P) ⟨ha,hP⟩ (fun x hx=>hx.1) fun x hx=>?_
 apply Classical.byContradiction
 intro c
 refine h3 x ⟨hx.1,hx.2,fun b hb=>Classical.byContradiction fun q=>c ⟨b,hb,hE b x hb,q⟩⟩
theorem Gord.step {E:Nat→Nat→Prop} {n:Nat} {l:List Nat} (h:Gord E n l) {i j:Nat} (hi:i < l.length) (hj:j < l.length) (e:E (el l i) (el l j)):i < j:=by
 obtain ⟨k,h1,h2,h3⟩:=mem_take_el.1 ((h j hj).1.all _ e)
 rcases Nat.lt_trichotomy i k with q | q | q
 ·omega
 ·omega
 ·exact absurd h3 (h.ne q hi)
theorem ord_no_cl {E:Nat→Nat→Prop} {n:Nat} {l:List Nat} (h:Gord E n l) (hl:l.length = n) {s k:Nat} (hc:Cl E s k) (hE:∀ a b,E a b→a < n ∧ b < n):False:=by
 have hmem:∀ a,a < n→∃ i,i < l.length ∧ el l i = a:=fun a ha=>mem_el (nodup_all h.nodup (fun x hx=>h.lt hx) hl ha)
 have key:∀ k a,Tos E s k a→∀ i,i < l.length→el l i = a→∃ j,i ≤ j ∧ j < l.length ∧ el l j = s:=by
  intro k a t
  induction t with
  | zero=>intro i hi e; exact ⟨i,Nat.le_refl _,hi,e⟩
  | succ h1 h2 h3 ih =>
   intro i hi e
   obtain ⟨i',hi',e'⟩:=hmem _ (hE _ _ h2).2
   rw [← e,← e'] at h2
   have:=h.step hi hi' h2
   obtain ⟨j,q1,q2,q3⟩:=ih i' hi' e'
   exact ⟨j,by omega,q2,q3⟩
 obtain ⟨b,h1,h2⟩:=hc
 obtain ⟨i,hi,e⟩:=hmem s (hE _ _ h1).1
 obtain ⟨i',hi',e'⟩:=hmem b (hE _ _ h1).2
 rw [← e,← e'] at h1
 have:=h.step hi hi' h1
 obtain ⟨j,q1,q2,q3⟩:=key k b h2 i' hi' e'
 exact h.ne (show i < j by omega) q2 (by rw [e,q3])
theorem CycG.close {E:Nat→Nat→Prop} {c:List Nat} (h:CycG E c) {i:Nat} (hi:i < c.length):E (el c i) (el c ((i + 1) % c.length)):=by
 by_cases e:i + 1 = c.length
 ·rw [e,Nat.mod_self]
  by_cases e0:i = 0
  ·subst e0
   obtain ⟨b,h1,h2⟩:=h.cl
   rw [← e] at h2
   have:=h2.zero_eq
   rwa [this] at h1
  ·have:=h.tos i (by omega) hi
   rw [show c.length - i = 0 + 1 by omega] at this
   obtain ⟨_,b,h1,h2⟩:=this.gt
   have:=h2.zero_eq
   rwa [this] at h1
 ·rw [Nat.mod_eq_of_lt (by omega)]
  exact h.step i (by omega)
theorem CycG.gt {E:Nat→Nat→Prop} {c:List Nat} (h:CycG E c) {i:Nat} (h0:0 < i) (hi:i < c.length):el c 0 < el c i:=by
 have:=h.tos i h0 hi
 rw [show c.length - i = (c.length - i - 1) + 1 by omega] at this
 exact this.gt.1
def plcG (n:Nat) (l:List Nat) (p:List Int):Prop:=p.length = n ∧ ∀ i,i < n→el p (el l i) = ((i + 1:Nat):Int)
theorem orders_l2 {n:Nat} {es:List GArr2I} {l:List Nat} (hl:l.length = n) (hn:n ≤ 300) (hG:Gord (edg es) n l) (r1:Bool):∃ p,mallongelaw06_GraphOrders_l2 (n:Int) es r1 (ci l,true) 0 (List.replicate n 0) = some (.inl p) ∧ plcG n l p:=by
 have key:∃ x,mallongelaw06_GraphOrders_l2 (n:Int) es r1 (ci l,true) 0 (List.replicate n 0) = some x ∧ ∃ p,x = .inl p ∧ plcG n l p:=by
  unfold mallongelaw06_GraphOrders_l2
  refine iter_for (step:=fun (w:Int × (List Int))=>mallongelaw06_GraphOrders_l2_s (n:Int) es r1 (ci l,true) w.1 w.2) (fun (k:Nat) (p:List Int)=>((k:Int),p)) n (fun k p=>p.length = n ∧ (∀ i,i < k→el p (el l i) = ((i + 1:Nat):Int)) ∧ ∀ a,a < n→(∀ i,i < k→el l i ≠ a)→el p a = 0) _ ?_ ?_ _ ⟨by simp,fun i hi=>absurd hi (Nat.not_lt_zero _),fun a ha _=>el_replicate _ _ _ ha⟩
  ·rintro k p hk ⟨h1,h2,h3⟩
   have hx:=hG.lt (el_mem l k (by omega))
   have hz:=h3 _ hx (fun i hi=>hG.ne hi (by omega))
   have hcl:k < (ci l).length:=by rw [ci_len]; omega
   refine .inl ⟨p.set (el l k) ((k + 1:Nat):Int),?_,by simp [h1],?_,?_⟩
   ·simp only [mallongelaw06_GraphOrders_l2_s,lt_t hk,if_true,at_el _ _ hcl,Option.bind_some,ci_el l k (by omega),Int.toNat_natCast]
    rw [if_neg (by simp),if_neg (by simp; omega),if_pos ⟨by omega,by omega⟩,get_el p _ (by omega),Option.bind_some,if_pos ⟨by omega,by omega⟩,Option.bind_some,hz,Int.zero_add,wrap_id (n:=(k:Int)) (by omega) (by omega),wrap_succ (by omega)]
   ·intro i hi
    rw [el_set _ _ _ _ (by omega)]
    by_cases e:i = k
    ·subst e; rw [if_pos rfl]
    ·rw [if_neg (hG.ne (show i < k by omega) (by omega))]; exact h2 i (by omega)
   ·intro a ha hne
    rw [el_set _ _ _ _ (by omega),if_neg (fun q=>hne k (by omega) q.symm)]
    exact h3 a ha fun i hi=>hne i (by omega)
  ·rintro p ⟨h1,h2,h3⟩
   refine ⟨.inl p,by simp only [mallongelaw06_GraphOrders_l2_s,lt_f,if_false],p,rfl,h1,h2⟩
 obtain ⟨x,h1,p,rfl,h2⟩:=key
 exact ⟨p,h1,h2⟩
theorem law06_orders (hsane:mallongelaw06_sane = some true) (n:Int) (es:List GArr2I):mallongelaw06_GraphOrders n es = some true:=by
 unfold mallongelaw06_GraphOrders
 rw [hsane,Option.bind_some,gmid_eq,Option.bind_some]
 by_cases hm:midG n es
 ·rw [decide_eq_true hm,if_neg (by simp)]
  obtain ⟨m,rfl⟩ : ∃ m:Nat,n = m:=⟨n.toNat,by have:=hm.2.2.1.1; omega⟩
  have hl:=hm.2.1
  have hm40:m ≤ 40:=by have:=hm.1; omega
  have hes:∀ e ∈ es,inE m e:=by have:=hm.2.2.2.2; simpa using this
  have hE:∀ a b,edg es a b→a < m ∧ b < m:=fun a b e=>edg_lt hes e
  obtain ⟨r,e1,hO⟩:=Order_eq hm.2.2
  obtain ⟨c,e2,hC⟩:=Cycle_eq hm.2.2
  rw [e1,Option.bind_some,e2,Option.bind_some]
  rcases hO with ⟨l,rfl,hll,hG⟩ | ⟨rfl,P,hP1,hP2,hP3⟩
  ·-- there is an order
   have hc0:c = []:=by
    rcases hC.1 with ⟨q,_⟩ | ⟨q,_⟩
    ·exact q
    ·exact (ord_no_cl hG hll q.cl hE).elim
   subst hc0
   obtain ⟨p,hp,hp1,hp2⟩:=orders_l2 hll (by omega) hG true (es:=es)
   rw [if_neg (by simp [ci]),if_neg (by simp),if_neg (by simp [ci_len,hll]),if_pos (by omega)]
   simp only [Int.toNat_natCast]
   rw [hp,Option.bind_some,Sum.elim_inl]
   have hat:∀ k,k < m→at? (ci l) (k:Int) = some ((el l k:Nat):Int):=fun k hk=>by rw [at_el _ _ (by rw [ci_len]; omega),ci_el l k (by omega)]
   have hlt:∀ k,k < m→el l k < m:=fun k hk=>hG.lt (el_mem l k (by omega))
   have l3:mallongelaw06_GraphOrders_l3 (m:Int) es true (ci l,true) p 0 = some (.inl ()):=by
    unfold mallongelaw06_GraphOrders_l3
    refine iter_all (step:=fun w=>mallongelaw06_GraphOrders_l3_s (m:Int) es true (ci l,true) p w) (fun k:Nat=>(k:Int)) m (.inl ()) ?_ ?_
    ·intro k hk
     have:=hlt k hk
     simp only [mallongelaw06_GraphOrders_l3_s,lt_t hk,if_true,hat k hk,Option.bind_some,Int.toNat_natCast,wrap_succ (show k < 9223372036854775807 by omega)]
     rw [if_pos ⟨by omega,by omega⟩,get_el p _ (by omega),Option.bind_some,hp2 k hk,if_neg (by simp)]
    ·simp only [mallongelaw06_GraphOrders_l3_s,lt_f,if_false]
   rw [l3,Option.bind_some,Sum.elim_inl]
   have hpos:∀ a,a < m→∃ i,i < m ∧ el l i = a ∧ el p a = ((i + 1:Nat):Int):=by
    intro a ha
    obtain ⟨i,hi,rfl⟩:=mem_el (nodup_all hG.nodup (fun x hx=>hG.lt hx) hll ha)
    exact ⟨i,by omega,rfl,hp2 i (by omega)⟩
   have l4:mallongelaw06_GraphOrders_l4 (m:Int) es true (ci l,true) p 0 = some (.inl ()):=by
    unfold mallongelaw06_GraphOrders_l4
    refine iter_all (step:=fun w=>mallongelaw06_GraphOrders_l4_s (m:Int) es true (ci l,true) p w) (fun k:Nat=>(k:Int)) es.length (.inl ()) ?_ ?_
    ·intro k hk
     have he:=hes _ (el_mem es k hk)
     obtain ⟨h0,h1⟩:=he
     obtain ⟨i,hi,hi2,hi3⟩:=hpos (el es k).e0.toNat (by omega)
     obtain ⟨j,hj,hj2,hj3⟩:=hpos (el es k).e1.toNat (by omega)
     have hij:i < j:=hG.step (by omega) (by omega) (by rw [hi2,hj2]; exact ⟨_,el_mem es k hk,by omega,by omega⟩)
     simp only [mallongelaw06_GraphOrders_l4_s,lt_t hk,if_true,at_el _ _ hk,Option.bind_some,wrap_succ (show k < 9223372036854775807 by omega)]
     rw [if_pos ⟨h0.1,by omega⟩,get_el p _ (by omega),Option.bind_some,if_pos ⟨h1.1,by omega⟩,get_el p _ (by omega),Option.bind_some,hi3,hj3,if_neg (by simp; omega)]
    ·simp only [mallongelaw06_GraphOrders_l4_s,lt_f,if_false]
   rw [l4,Option.bind_some,Sum.elim_inl]
   have l7:mallongelaw06_GraphOrders_l7 (m:Int) es true (ci l,true) p 0 = some (.inl ()):=by
    unfold mallongelaw06_GraphOrders_l7
    refine iter_all (step:=fun w=>mallongelaw06_GraphOrders_l7_s (m:Int) es true (ci l,true) p w) (fun k:Nat=>(k:Int)) m (.inl ()) ?_ ?_
    ·intro a ha
     obtain ⟨ia,hia,hia2,hia3⟩:=hpos a ha
     -- the first place at which a may stand
     have l5:∃ f,mallongelaw06_GraphOrders_l5 (m:Int) es (a:Int) true (ci l,true) p 1 0 = some f ∧ ∃ g:Nat,f = ((g + 1:Nat):Int) ∧ g ≤ ia ∧ ∀ b,edg es b a→b ∈ l.take g:=by
      unfold mallongelaw06_GraphOrders_l5
      refine iter_for (step:=fun (w:Int × Int)=>mallongelaw06_GraphOrders_l5_s (m:Int) es (a:Int) true (ci l,true) p w.1 w.2) (fun (k:Nat) (f:Int)=>(f,(k:Int))) es.length (fun k f=>∃ g:Nat,f = ((g + 1:Nat):Int) ∧ g ≤ ia ∧ ∀ j,j < k→(el es j).e1 = (a:Int)→(el es j).e0.toNat ∈ l.take g) _ ?_ ?_ _ ⟨0,rfl,Nat.zero_le _,fun j hj=>absurd hj (Nat.not_lt_zero _)⟩
      ·rintro k f hk ⟨g,rfl,hg,hall⟩
       refine .inl ?_
       have he:=hes _ (el_mem es k hk)
       obtain ⟨h0,h1⟩:=he
       simp only [mallongelaw06_GraphOrders_l5_s,lt_t hk,if_true,at_el _ _ hk,Option.bind_some,wrap_succ (show k < 9223372036854775807 by omega)]
       by_cases c:(el es k).e1 = (a:Int)
       ·obtain ⟨i,hi,hi2,hi3⟩:=hpos (el es k).e0.toNat (by omega)
        have hii:i < ia:=hG.step (by omega) (by omega) (by rw [hi2,hia2]; exact ⟨_,el_mem es k hk,by omega,c⟩)
        rw [if_pos (by rw [c]; exact beq_self_eq_true _),if_pos ⟨h0.1,by omega⟩,get_el p _ (by omega),Option.bind_some,hi3,wrap_id (by omega) (by omega)]
        by_cases c2:g < i + 1
        ·refine ⟨((i + 1 + 1:Nat):Int),?_,i + 1,rfl,by omega,fun j hj hja=>?_⟩
         ·rw [if_pos (by omega)]; rfl
         ·by_cases e:j = k
          ·subst e; exact mem_take_el.2 ⟨i,by omega,by omega,hi2⟩
          ·obtain ⟨q,q1,q2,q3⟩:=mem_take_el.1 (hall j (by omega) hja)
           exact mem_take_el.2 ⟨q,by omega,q2,q3⟩
        ·refine ⟨((g + 1:Nat):Int),?_,g,rfl,hg,fun j hj hja=>?_⟩
         ·rw [if_neg (by omega)]
         ·by_cases e:j = k
          ·subst e; exact mem_take_el.2 ⟨i,by omega,by omega,hi2⟩
          ·exact hall j (by omega) hja
       ·rw [if_neg (by rw [beq_iff_eq]; exact c)]
        refine ⟨((g + 1:Nat):Int),rfl,g,rfl,hg,fun j hj hja=>?_⟩
        by_cases e:j = k
        ·subst e; exact absurd hja c
        ·exact hall j (by omega) hja
      ·rintro f ⟨g,rfl,hg,hall⟩
       refine ⟨_,by simp only [mallongelaw06_GraphOrders_l5_s,lt_f,if_false],g,rfl,hg,fun b hb=>?_⟩
       obtain ⟨e,he,hb1,hb2⟩:=hb
       obtain ⟨j,hj,rfl⟩:=mem_el he
       have:=hall j hj hb2
       rwa [hb1,Int.toNat_natCast] at this
     obtain ⟨f,hf,g,rfl,hg,hpre⟩:=l5
     have l6:∃ x,mallongelaw06_GraphOrders_l6 (m:Int) es (a:Int) true (ci l,true) p ((g + 1:Nat):Int) = some x ∧ x = .inl ():=by
      unfold mallongelaw06_GraphOrders_l6
      refine iter_meas (step:=fun w=>mallongelaw06_GraphOrders_l6_s (m:Int) es (a:Int) true (ci l,true) p w) (fun z=>∃ t:Nat,z = ((t + 1:Nat):Int) ∧ g ≤ t ∧ t ≤ ia) (fun z=>m + 1 - z.toNat) _ ?_ _ ⟨g,rfl,Nat.le_refl _,hg⟩
      rintro _ ⟨t,rfl,h1,h2⟩
      simp only [mallongelaw06_GraphOrders_l6_s,Int.toNat_natCast]
      rw [if_pos ⟨by omega,by omega⟩,get_el p a (by omega),Option.bind_some,hia3]
      by_cases c:t < ia
      ·refine .inl ⟨((t + 1 + 1:Nat):Int),?_,⟨t + 1,rfl,by omega,by omega⟩,by omega⟩
       have hle:el l t ≤ a:=by
        apply Classical.byContradiction
        intro q
        refine (hG t (by omega)).2 a (by omega) ⟨ha,fun qm=>?_,fun b hb=>?_⟩
        ·obtain ⟨j,j1,j2,j3⟩:=mem_take_el.1 qm
         exact hG.ne (show j < ia by omega) (by omega) (by rw [j3,hia2])
        ·obtain ⟨j,j1,j2,j3⟩:=mem_take_el.1 (hpre b hb)
         exact mem_take_el.2 ⟨j,by omega,j2,j3⟩
       have hw:IntKind.wrap .i64 (((t + 1:Nat):Int) - 1) = (t:Int):=by rw [wrap_id (by omega) (by omega)]; omega
       rw [if_pos (decide_eq_true (by omega)),hw,hat t (by omega),Option.bind_some,if_neg (by simp; omega),wrap_succ (by omega)]
      ·refine .inr ⟨_,?_,rfl⟩
       rw [if_neg (by simp; omega)]
     obtain ⟨x,hx,rfl⟩:=l6
     simp only [mallongelaw06_GraphOrders_l7_s,lt_t ha,if_true]
     rw [hf,Option.bind_some,hx,Option.bind_some,Sum.elim_inl,wrap_succ (by omega)]
    ·simp only [mallongelaw06_GraphOrders_l7_s,lt_f,if_false]
   rw [l7]; rfl
  ·-- there is a cycle
   obtain ⟨s,k,hk,hs⟩:=ord_none (fun a b e=>(hE a b e).1) hP1 hP2 hP3
   obtain ⟨hcy,_⟩:=hC.some hs hk
   have hpos:=hcy.pos
   have hle:=nodup_le m c (by
    unfold List.Nodup
    rw [List.pairwise_iff_getElem]
    intro i j hi hj hij e
    -- a node twice: the walk could be shortened
    have h1:=hcy.tos j (by omega) hj
    rw [← el_lt c i hi,← el_lt c j hj] at *
    by_cases e0:i = 0
    ·subst e0
     have:=hcy.gt (show 0 < j by omega) hj
     omega
    ·exact absurd e (by
      intro e
      -- from the node before i on there would be a shorter way
      have hsh:∀ d,d ≤ i→0 < d→∃ q,q < c.length - d ∧ Tos (edg es) (el c 0) q (el c d):=by
       intro d
       induction hd:i - d generalizing d with
       | zero =>
        intro h1' h2'
        have:d = i:=by omega
        subst this
        exact ⟨c.length - j,by omega,by rw [e]; exact h1⟩
       | succ x ih =>
        intro h1' h2'
        obtain ⟨q,q1,q2⟩:=ih (d + 1) (by omega) (by omega) (by omega)
        exact ⟨q + 1,by omega,.succ (hcy.gt h2' (by omega)) (hcy.step d (by omega)) q2⟩
      obtain ⟨q,q1,q2⟩:=hsh 1 (by omega) (by omega)
      have:=hcy.min q ⟨_,hcy.step 0 (by omega),q2⟩
      omega)) (fun x hx=>by
    obtain ⟨i,hi,rfl⟩:=mem_el hx
    exact hC.2 i hi)
   have hne:¬ ((c.length:Int) == 0) = true:=by rw [beq_iff_eq]; omega
   rw [Bool.not_eq_true] at hne
   rw [ci_len,hne,if_neg (by simp),if_pos (by simp)]
   have l1:mallongelaw06_GraphOrders_l1 es true ([],false) (ci c) 0 = some (.inl ()):=by
    unfold mallongelaw06_GraphOrders_l1
    refine iter_all (step:=fun w=>mallongelaw06_GraphOrders_l1_s es true ([],false) (ci c) w) (fun k:Nat=>(k:Int)) c.length (.inl ()) ?_ ?_
    ·intro i hi
     have hmod:=Nat.mod_lt (i + 1) hpos
     have hat:∀ k,k < c.length→at? (ci c) (k:Int) = some ((el c k:Nat):Int):=fun k hk=>by rw [at_el _ _ (by rw [ci_len]; omega),ci_el c k hk]
     simp only [mallongelaw06_GraphOrders_l1_s,ci_len,lt_t hi,if_true,hat i hi,Option.bind_some,wrap_succ (show i < 9223372036854775807 by omega)]
     rw [if_neg (by omega),tmod_nat,hat _ hmod,Option.bind_some,Edge_eq es (by omega),edgB_edg.2 (hcy.close hi),Option.bind_some,if_neg (by simp)]
     by_cases e:i = 0
     ·subst e
      rw [if_neg (by simp)]
     ·have:=hcy.gt (show 0 < i by omega) hi
      have h0:=hat 0 hpos
      rw [show ((0:Nat):Int) = 0 from rfl] at h0
      rw [if_pos (decide_eq_true (by omega)),h0,Option.bind_some,if_neg (by simp; omega)]
    ·simp only [mallongelaw06_GraphOrders_l1_s,ci_len,lt_f,if_false]
   rw [l1]; rfl
 ·rw [decide_eq_false hm,if_pos (by simp)]
end Go.Proofs.Ytlpgfmnicomjjaa
