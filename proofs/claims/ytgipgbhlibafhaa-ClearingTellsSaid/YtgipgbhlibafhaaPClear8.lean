/- Clearing: the potentials are the least costs of steps. -/
import Derived.Test.YtgipgbhlibafhaaPClear7
set_option linter.unusedVariables false
set_option linter.unusedSimpArgs false
namespace Go.Proofs.Ytgipgbhlibafhaa
open Go.RowKit Vm
def lessI (a b:Int):Bool:=decide (a < b)
def onwI (a:Int) (s:Stp):Int:=a + s.cost
def addI (a:Int) (c:Int) (k:Nat):Int:=a + c
theorem lessI_no (a b:Int):lessI a b = false ↔ b ≤ a:=by simp [lessI]
theorem intO:OrdS lessI onwI where
 irr a:=by simp [lessI]
 asym a b h:=by simp [lessI] at *; omega
 neg a b c h1 h2:=by simp [lessI] at *; omega
 mono a b s h:=by simp [lessI,onwI] at *; omega
theorem intA (cst:Stp→Int) (hc:∀ s,cst s = s.cost):LabS lessI onwI cst addI where
 zero a:=by simp [addI]
 step a c k s:=by
  rw [hc]
  simp only [addI,onwI]
  omega
 le a c k c' k' h:=by
  unfold leS
  rw [lessI_no]
  simp only [addI]
  omega
def BoundI (n:Nat) (B:Int) (best:List Int):Prop:=∀ v,v < n→-B ≤ el best v ∧ el best v ≤ B
theorem round_boundI {n:Nat} {l:List GClearingStep} {best:List Int} {last:List Int} {B:Int} (hl:∀ g ∈ l,OkSt n g) (hb:best.length = n) (hla:last.length = n) (h:BoundI n B best) (hB:0 ≤ B):∀ k,k ≤ l.length →
  (((List.range k).foldl (relaxS lessI onwI Stp.src Stp.dst (l.map stpOf)) (best,last,false)).1.length = n ∧ ((List.range k).foldl (relaxS lessI onwI Stp.src Stp.dst (l.map stpOf)) (best,last,false)).2.1.length = n ∧ BoundI n (B + k) ((List.range k).foldl (relaxS lessI onwI Stp.src Stp.dst (l.map stpOf)) (best,last,false)).1):=by
 intro k
 induction k with
 | zero=>intro _; exact ⟨hb,hla,by simpa using h⟩
 | succ k ih =>
  intro hk
  obtain ⟨h1,h2,h3⟩:=ih (by omega)
  rw [List.range_succ,List.foldl_append,List.foldl_cons,List.foldl_nil]
  generalize (List.range k).foldl (relaxS lessI onwI Stp.src Stp.dst (l.map stpOf)) (best,last,false) = z at *
  have hg:=hl (el l k) (by rw [show el l k = l[k] from by simp [el,show k < l.length by omega]]; exact List.getElem_mem _)
  obtain ⟨⟨g1,g2⟩,⟨g3,g4⟩,g5,g6⟩:=hg
  have hmono:BoundI n (B + (k + 1:Nat)) z.1:=fun v hv=>by have:=h3 v hv; omega
  unfold relaxS
  rw [el_map' stpOf l k (by omega)]
  split
  ·refine ⟨by simp [h1],by simp [h2],fun v hv=>?_⟩
   dsimp only
   rw [el_set_any]
   split
   ·have:=h3 (el l k).from_.toNat (by omega)
    simp only [onwI,stpOf,Stp.src]
    omega
   ·exact hmono v hv
  ·exact ⟨h1,h2,hmono⟩
theorem less_intE (a b:Int):mcmp_Less_int a b = some (lessI a b):=by
 unfold mcmp_Less_int mcmp_isNaN_int
 simp [lessI]
theorem round_potI {n:Nat} {l:List GClearingStep} {best:List Int} {last:List Int} {B:Int} (hl:∀ g ∈ l,OkSt n g) (hb:best.length = n) (hla:last.length = n) (h:BoundI n B best) (hB:0 ≤ B) (hBl:B + l.length ≤ 4611686018427387904) :
  mclearing_potentials_l1 l false 0 best last = some ((roundS lessI onwI Stp.src Stp.dst (l.map stpOf) best last).2.2,(roundS lessI onwI Stp.src Stp.dst (l.map stpOf) best last).1,(roundS lessI onwI Stp.src Stp.dst (l.map stpOf) best last).2.1):=by
 unfold mclearing_potentials_l1 roundS
 rw [List.length_map]
 suffices hh:∃ x,Iter (fun (w:Bool × Int × List Int × List Int)=>mclearing_potentials_l1_s l w.1 w.2.1 w.2.2.1 w.2.2.2) (false,0,best,last) = some x ∧ x = (((List.range l.length).foldl (relaxS lessI onwI Stp.src Stp.dst (l.map stpOf)) (best,last,false)).2.2,((List.range l.length).foldl (relaxS lessI onwI Stp.src Stp.dst (l.map stpOf)) (best,last,false)).1,((List.range l.length).foldl (relaxS lessI onwI Stp.src Stp.dst (l.map stpOf)) (best,last,false)).2.1) by
  obtain ⟨x,h1,h2⟩:=hh
  rw [h2] at h1; exact h1
 refine iter_for (step:=fun (w:Bool × Int × List Int × List Int)=>mclearing_potentials_l1_s l w.1 w.2.1 w.2.2.1 w.2.2.2) (fun k (a:List Int × List Int × Bool)=>(a.2.2,(k:Int),a.1,a.2.1)) l.length
  (fun k a=>a = (List.range k).foldl (relaxS lessI onwI Stp.src Stp.dst (l.map stpOf)) (best,last,false)) (fun x=>x = (((List.range l.length).foldl (relaxS lessI onwI Stp.src Stp.dst (l.map stpOf)) (best,last,false)).2.2,((List.range l.length).foldl (relaxS lessI onwI Stp.src Stp.dst (l.map stpOf)) (best,last,false)).1,((List.range l.length).foldl (relaxS lessI onwI Stp.src Stp.dst (l.map stpOf)) (best,last,false)).2.1)) ?_ ?_ (best,last,false) rfl
 ·rintro k a hk rfl
  refine .inl ?_
  obtain ⟨q1,q2,q3⟩:=round_boundI hl hb hla h hB k (by omega)
  rw [List.range_succ,List.foldl_append,List.foldl_cons,List.foldl_nil]
  generalize (List.range k).foldl (relaxS lessI onwI Stp.src Stp.dst (l.map stpOf)) (best,last,false) = z at *
  have hg:=hl (el l k) (by rw [show el l k = l[k] from by simp [el,hk]]; exact List.getElem_mem _)
  obtain ⟨⟨g1,g2⟩,⟨g3,g4⟩,g5,g6⟩:=hg
  refine ⟨_,?_,rfl⟩
  unfold mclearing_potentials_l1_s
  have e1:z.1[(el l k).from_.toNat]? = some (el z.1 (el l k).from_.toNat):=atE z.1 _ (by omega)
  have e2:z.1[(el l k).to.toNat]? = some (el z.1 (el l k).to.toNat):=atE z.1 _ (by omega)
  have b:=q3 (el l k).from_.toNat (by omega)
  have c0:decide ((k:Int) < (l.length:Int)) = true:=by simpa using hk
  have ck:0 ≤ (k:Int) ∧ (k:Int).toNat < l.length:=⟨by omega,by rw [Int.toNat_natCast]; omega⟩
  have ek:l[(k:Int).toNat]? = some (el l k):=by rw [Int.toNat_natCast]; exact atE l k hk
  have cF:0 ≤ (el l k).from_ ∧ (el l k).from_.toNat < z.1.length:=⟨g1,by omega⟩
  have cT:0 ≤ (el l k).to ∧ (el l k).to.toNat < z.1.length:=⟨g3,by omega⟩
  have cL:0 ≤ (el l k).to ∧ (el l k).to.toNat < z.2.1.length:=⟨g3,by omega⟩
  have ho:mclearing_potentials_1 (el z.1 (el l k).from_.toNat) (el l k) = some (onwI (el z.1 (el l k).from_.toNat) (stpOf (el l k))):=by
   unfold mclearing_potentials_1
   rw [wrap_id (by omega) (by omega)]
   rfl
  have w3:IntKind.wrap .i64 ((k:Int) + 1) = ((k + 1:Nat):Int):=wrap_succ (by omega)
  have eL:z.2.1[(el l k).to.toNat]? = some (el z.2.1 (el l k).to.toNat):=atE z.2.1 _ (by omega)
  simp only [if_pos c0,if_pos ck,ek,Option.bind_some,if_pos cF,e1,ho,if_pos cT,e2,less_intE,w3,if_pos cL,eL]
  unfold relaxS
  rw [el_map' stpOf l k hk]
  have e3:Stp.src (stpOf (el l k)) = (el l k).from_.toNat:=rfl
  have e4:Stp.dst (stpOf (el l k)) = (el l k).to.toNat:=rfl
  rw [e3,e4]
  split
  ·rfl
  ·rfl
 ·rintro a rfl
  refine ⟨_,?_,rfl⟩
  unfold mclearing_potentials_l1_s
  rw [if_neg (by simp)]
theorem runs_potI {n:Nat} {l:List GClearingStep} (hl:∀ g ∈ l,OkSt n g):∀ (f:Nat) (best:List Int) (last:List Int) (B:Int) (b:List Int) (la:List Int),best.length = n→last.length = n→BoundI n B best→0 ≤ B→B + (f * l.length:Nat) ≤ 4611686018427387904 →
  runS lessI onwI Stp.src Stp.dst (l.map stpOf) f best last = some (b,la)→mclearing_potentials_l2 l true best last = some (b,la)
 | 0,best,last,B,b,la,_,_,_,_,_,h=>by cases h
 | f + 1,best,last,B,b,la,hb,hla,hB,hB0,hBf,h=>by
  have hmul:(f + 1) * l.length = f * l.length + l.length:=Nat.succ_mul f l.length
  have hr:=round_potI hl hb hla hB hB0 (by omega)
  obtain ⟨q1,q2,q3⟩:=round_boundI hl hb hla hB hB0 l.length (Nat.le_refl _)
  have e0:roundS lessI onwI Stp.src Stp.dst (l.map stpOf) best last = (List.range l.length).foldl (relaxS lessI onwI Stp.src Stp.dst (l.map stpOf)) (best,last,false):=by unfold roundS; rw [List.length_map]
  rw [← e0] at q1 q2 q3
  simp only [runS] at h
  generalize roundS lessI onwI Stp.src Stp.dst (l.map stpOf) best last = z at *
  unfold mclearing_potentials_l2
  rw [iter_some (s':=(z.2.2,z.1,z.2.1)) (by unfold mclearing_potentials_l2_s; rw [if_pos rfl,hr]; rfl)]
  split at h
  ·rename_i hc
   rw [hc]
   exact runs_potI hl f z.1 z.2.1 (B + l.length) b la q1 q2 q3 (by omega) (by omega) h
  ·rename_i hc
   cases h
   exact iter_end (by unfold mclearing_potentials_l2_s; exact if_neg hc)
theorem WkC.cost_ge {l:List Stp} (hc:∀ i,i < l.length→-1 ≤ (el l i).cost) {u k v:Nat} {c:Int} (w:WkC Stp.src Stp.dst Stp.cost l u k c v):-(k:Int) ≤ c:=by
 induction w with
 | zero=>omega
 | step i hi _ ih=>have:=hc i hi; omega
structure LeastX (n:Nat) (l:List Stp) (q:Nat→Int):Prop where
 le0:∀ v,v < n→q v ≤ 0
 lo:∀ v,v < n→-(n:Int) + 1 ≤ q v
 pot:Pot Stp.src Stp.dst Stp.cost l q
 wk:∀ v,v < n→∃ u k,u < n ∧ WkC Stp.src Stp.dst Stp.cost l u k (q v) v
 le:∀ u k c v,u < n→WkC Stp.src Stp.dst Stp.cost l u k c v→q v ≤ c
theorem LeastX.one {n:Nat} {l:List Stp} {q q' : Nat→Int} (h:LeastX n l q) (h' : LeastX n l q') {v:Nat} (hv:v < n):q v = q' v:=by
 obtain ⟨u,k,hu,w⟩:=h.wk v hv
 obtain ⟨u',k',hu',w'⟩:=h'.wk v hv
 have a:=h.le u' k' _ v hu' w'
 have b:=h'.le u k _ v hu w
 omega
theorem pots_m {n:Nat} {dues:List GDue} {x:List Int} (h:OkD n dues) (hl:x.length = dues.length) (hr:InR (smD dues) dues.length (el x)) {p:Nat→Int} (hp:Cert (frD dues) (ttD dues) (smD dues) dues.length (el x) p) :
  ∃ q,mclearing_potentials n dues x = some q ∧ q.length = n ∧ LeastX n ((stepsG dues (el x) dues.length).map stpOf) (el q):=by
 have S:=steps_of h (el x)
 have hpot:=(cert_pot S p).1 hp
 have hlen:=h.len
 have hnn:=h.nn
 have hst:=steps_m h hl hr
 have hok:=steps_ok h (el x)
 have hll:=stepsG_len dues (el x) dues.length
 have hs:=S.in_ h.fr h.tt
 generalize stepsG dues (el x) dues.length = l at *
 have hi:∀ v,v < n→el (List.replicate n (0:Int)) v = 0:=fun v hv=>el_replicate_any _ _ _ hv
 obtain ⟨q,la,h1,h2,h3,h4⟩:=run_pot intO (intA Stp.cost fun _=>rfl) hpot (init:=List.replicate n (0:Int)) (by rw [List.length_replicate]; exact hs) (fuel:=n + 1) (by rw [List.length_replicate]; exact Nat.le_refl _)
 rw [List.length_replicate] at h1 h4
 have hmul:(n + 1) * l.length ≤ 1001 * 100000:=Nat.mul_le_mul (by omega) (by omega)
 have hq:∀ v,v < n→∃ u k,u < n ∧ WkC Stp.src Stp.dst Stp.cost (l.map stpOf) u k (el q v) v:=by
  intro v hv
  obtain ⟨k,w⟩:=h2.wk v (by rw [List.length_replicate]; exact hv)
  obtain ⟨u,c,hu,hw,e⟩:=wkS_C (intA Stp.cost fun _=>rfl) w
  rw [List.length_replicate] at hu
  rw [hi u hu] at e
  have e:el q v = c:=by simpa [addI] using e
  rw [e]
  exact ⟨u,k,hu,hw⟩
 have hle:∀ u k c v,u < n→WkC Stp.src Stp.dst Stp.cost (l.map stpOf) u k c v→el q v ≤ c:=by
  intro u k c v hu w
  have:=h4 u k c v hu w
  unfold leS at this
  rw [lessI_no,hi u hu] at this
  simpa [addI] using this
 refine ⟨q,?_,by rw [h2.len,List.length_replicate],⟨fun v hv=>hle v 0 0 v hv .zero,fun v hv=>?_,fun i hi'=>?_,hq,hle⟩⟩
 ·unfold mclearing_potentials
  rw [if_pos (by omega),hst,Option.bind_some,Int.toNat_natCast,List.length_replicate,rep_m (by omega),Option.bind_some,runs_potI hok (n + 1) _ _ 0 q la List.length_replicate List.length_replicate (fun v hv=>by rw [hi v hv]; omega) (Int.le_refl _) (by omega) h1]
  rfl
 ·obtain ⟨u,k,hu,w⟩:=hq v hv
  obtain ⟨j,c',hj,w',hc⟩:=w.short hpot hs hu
  have:=hle u j c' v hu w'
  have hge:=w'.cost_ge fun i hi'=>by
   rw [List.length_map] at hi'
   rw [el_map' stpOf l i hi']
   exact (hok (el l i) (by rw [show el l i = l[i] from by simp [el,hi']]; exact List.getElem_mem _)).2.2.1
  omega
 ·have:=h3 i hi'
  unfold leS at this
  rw [lessI_no] at this
  exact this
end Go.Proofs.Ytgipgbhlibafhaa
