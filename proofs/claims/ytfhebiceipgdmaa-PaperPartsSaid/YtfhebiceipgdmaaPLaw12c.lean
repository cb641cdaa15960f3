/- The laws of layer 12 (paper): PaperParts. -/
import Derived.Test.YtfhebiceipgdmaaPLaw12b
set_option linter.unusedVariables false
set_option linter.unusedSimpArgs false
namespace Go.Proofs.Ytfhebiceipgdmaa
open Go.RowKit Vm
theorem word_parts {r:GRealm} {b:GBill} (bg:BigL r) (w:GRealm.wf r) (h:wordOf r b = 0):1 ≤ b.Parts ∧ b.Parts ≤ 4:=by
 apply Classical.byContradiction
 intro hn
 have h2:mwording_Check_j2 r b = some (.inr 15):=by
  unfold mwording_Check_j2
  by_cases c:b.Parts < 1
  ·rw [if_pos (decide_eq_true c)]
  ·rw [if_neg (fun q=>c (of_decide_eq_true q)),if_pos (decide_eq_true (show b.Parts > 4 by omega))]
 have h3:∃ e,e ≠ 0 ∧ mwording_Check_j3 r b = some (.inr e):=by
  unfold mwording_Check_j3
  simp only [h2,Option.bind_some,Sum.elim_inr]
  (repeat' split) <;> exact ⟨_,by decide,rfl⟩
 obtain ⟨e3,n3,h3⟩:=h3
 have h4:∀ p,∃ e,e ≠ 0 ∧ mwording_Check_j4 r b p = some e:=by
  intro p
  unfold mwording_Check_j4
  simp only [h3,windex_eq,Option.bind_some,Sum.elim_inr]
  (repeat' split) <;> first | exact ⟨_,n3,rfl⟩ | exact ⟨_,by decide,rfl⟩
 obtain ⟨g,hg⟩:=Classical.axiomOfChoice h4
 have hgn:∀ p,g p ≠ 0:=fun p=>(hg p).1
 have hge:∀ p,mwording_Check_j4 r b p = some (g p):=fun p=>(hg p).2
 have h5:∃ e,e ≠ 0 ∧ mwording_Check r b = some e:=by
  unfold mwording_Check
  simp only [check_eqB r bg w,windex_eq,hge,Option.bind_some]
  by_cases c:checkOf r = 0
  ·rw [if_neg (by simpa using c)]
   (repeat' split) <;> exact ⟨_,hgn _,rfl⟩
  ·rw [if_pos (by simpa using c)]
   exact ⟨_,c,rfl⟩
 obtain ⟨e,n5,h5⟩:=h5
 rw [word_eq r b bg w] at h5
 exact n5 (by rw [← Option.some.inj h5]; exact h)
def ofN (S:List GSign) (part:Int) (n:Nat):List Nat:=(List.range n).filter fun i=>onB S (i:Int) part
def ofL (f:GFile) (part:Int):List Int:=(ofN f.Signs part f.Signs.length).map fun i:Nat=>(i:Int)
theorem ofN_len (S:List GSign) (part:Int) (n:Nat):(ofN S part n).length ≤ n:=by
 have:=List.length_filter_le (fun i:Nat=>onB S (i:Int) part) (List.range n)
 simpa [ofN] using this
theorem ofN_succ (S:List GSign) (part:Int) (n:Nat):ofN S part (n + 1) = if onB S (n:Int) part = true then ofN S part n ++ [n] else ofN S part n:=by
 unfold ofN
 rw [List.range_succ,List.filter_append]
 by_cases h:onB S (n:Int) part = true
 ·rw [if_pos h]; simp [h]
 ·rw [if_neg h]; simp [h]
theorem of_eq (f:GFile) (part:Int) (hl:f.Signs.length ≤ 50):mpaper_Of f part = some (ofL f part):=by
 have l1:mpaper_Of_l1 f part 0 [] = some (ofL f part):=by
  unfold mpaper_Of_l1
  refine iter_all (step:=fun w=>mpaper_Of_l1_s f part w.1 w.2) (fun k:Nat=>((k:Int),(ofN f.Signs part k).map fun i:Nat=>(i:Int))) f.Signs.length (ofL f part) ?_ ?_
  ·intro k hk
   have:=ofN_len f.Signs part k
   simp only [mpaper_Of_l1_s,lt_t hk,if_true,stands_eq f _ _ (.inr ⟨show (0:Int) ≤ (k:Int) by omega,show (k:Int) < f.Signs.length by omega⟩),Option.bind_some,wrap_succ (show k < 9223372036854775807 by omega),ofN_succ,List.length_map]
   by_cases h:onB f.Signs (k:Int) part = true
   ·rw [if_pos h,if_pos (by omega),if_pos h]; simp
   ·rw [if_neg h,if_neg h]
  ·simp only [mpaper_Of_l1_s,lt_f,if_false]; rfl
 unfold mpaper_Of
 rw [l1]; rfl
def accN (S:List GSign) (n:Nat):List Nat:=(List.range n).filter fun i=>(el S i).Kind == 1
def accL (f:GFile):List Int:=(accN f.Signs f.Signs.length).map fun i:Nat=>(i:Int)
theorem accN_succ (S:List GSign) (n:Nat):accN S (n + 1) = if ((el S n).Kind == 1) = true then accN S n ++ [n] else accN S n:=by
 unfold accN
 rw [List.range_succ,List.filter_append]
 by_cases h:((el S n).Kind == 1) = true
 ·rw [if_pos h]; simp [h]
 ·rw [if_neg h]; simp [h]
theorem accepts_eq (f:GFile) (hl:f.Signs.length ≤ 50):mpaper_Accepts f = some (accL f):=by
 have l1:mpaper_Accepts_l1 f 0 [] = some (accL f):=by
  unfold mpaper_Accepts_l1
  refine iter_all (step:=fun w=>mpaper_Accepts_l1_s f w.1 w.2) (fun k:Nat=>((k:Int),(accN f.Signs k).map fun i:Nat=>(i:Int))) f.Signs.length (accL f) ?_ ?_
  ·intro k hk
   have h1:=List.length_filter_le (fun i:Nat=>(el f.Signs i).Kind == 1) (List.range k)
   have h2:(accN f.Signs k).length ≤ k:=by simpa [accN] using h1
   simp only [mpaper_Accepts_l1_s,lt_t hk,if_true,at_el _ _ hk,Option.bind_some,wrap_succ (show k < 9223372036854775807 by omega),accN_succ,List.length_map]
   by_cases h:((el f.Signs k).Kind == 1) = true
   ·rw [if_pos h,if_pos (by omega),if_pos h]; simp
   ·rw [if_neg h,if_neg h]
  ·simp only [mpaper_Accepts_l1_s,lt_f,if_false]; rfl
 unfold mpaper_Accepts
 rw [l1]; rfl
theorem sign_zero {r:GRealm} {f:GFile} {i:Nat} (h:signErr r f i = 0):(0 ≤ (el f.Signs i).Part ∧ (el f.Signs i).Part ≤ hiP f.Bill) ∧ (firstD f i ≤ (el f.Signs i).Day ∧ (el f.Signs i).Day ≤ 100000) ∧ fitB r f i = true ∧ twB f.Signs (el f.Signs i) i = false:=by
 unfold signErr at h
 by_cases c1:0 ≤ (el f.Signs i).Part ∧ (el f.Signs i).Part ≤ hiP f.Bill
 ·rw [if_neg (not_not_intro c1)] at h
  by_cases c2:0 ≤ (el f.Signs i).Who ∧ (el f.Signs i).Who ≤ (r.Firms.length:Int) - 1
  ·rw [if_neg (not_not_intro c2)] at h
   by_cases c3:0 ≤ (el f.Signs i).City ∧ (el f.Signs i).City ≤ (r.Cities.length:Int) - 1
   ·rw [if_neg (not_not_intro c3)] at h
    by_cases c4:firstD f i ≤ (el f.Signs i).Day ∧ (el f.Signs i).Day ≤ 100000
    ·rw [if_neg (not_not_intro c4)] at h
     by_cases c5:i = 0 ∧ (el f.Signs i).Day ≠ firstD f i
     ·rw [if_pos c5] at h; cases h
     ·rw [if_neg c5] at h
      cases c6:fitB r f i with
      | false=>rw [if_pos c6] at h; cases h
      | true =>
       rw [if_neg (by rw [c6]; decide)] at h
       cases c7:twB f.Signs (el f.Signs i) i with
       | true=>rw [if_pos c7] at h; cases h
       | false=>exact ⟨c1,c4,rfl,rfl⟩
    ·rw [if_pos c4] at h; cases h
   ·rw [if_pos c3] at h; cases h
  ·rw [if_pos c2] at h; cases h
 ·rw [if_pos c1] at h; cases h
theorem fit_draw {r:GRealm} {f:GFile} {i:Nat} (h:fitB r f i = true):i = 0 ↔ (el f.Signs i).Kind = 0:=by
 unfold fitB at h
 rw [Bool.and_eq_true] at h
 have h:=h.1
 have e:=eq_of_beq h
 constructor
 ·intro q
  subst q
  exact eq_of_beq (e.symm.trans rfl)
 ·intro q
  have:((i:Int) == 0) = true:=e.trans (by rw [q]; rfl)
  have:=eq_of_beq this
  omega
theorem ofN_el {S:List GSign} {part:Int} {n i:Nat} (h:i < (ofN S part n).length):el (ofN S part n) i < n ∧ onB S ((el (ofN S part n) i:Nat):Int) part = true:=by
 have hm:=el_mem (ofN S part n) i h
 unfold ofN at hm
 obtain ⟨h1,h2⟩:=List.mem_filter.1 hm
 exact ⟨List.mem_range.1 h1,h2⟩
theorem ofN_lt {S:List GSign} {part:Int} {n i j:Nat} (hij:i < j) (h:j < (ofN S part n).length):el (ofN S part n) i < el (ofN S part n) j:=by
 have hp:(ofN S part n).Pairwise (· < ·):=List.Pairwise.filter _ List.pairwise_lt_range
 rw [el_lt _ _ (by omega),el_lt _ _ h]
 exact List.pairwise_iff_getElem.1 hp i j (by omega) h hij
theorem ofN_head (S:List GSign) (part:Int) (n:Nat):∃ l,ofN S part (n + 1) = 0 :: l:=by
 unfold ofN
 rw [List.range_succ_eq_map,List.filter_cons]
 have:onB S ((0:Nat):Int) part = true:=by simp [onB]
 rw [if_pos this]
 exact ⟨_,rfl⟩
theorem accN_count (S:List GSign) (x:Nat):∀ n,(accN S n).countP (· == x) = if x < n ∧ (el S x).Kind = 1 then 1 else 0
 | 0=>by simp [accN]
 | n + 1=>by
  rw [accN_succ]
  have ih:=accN_count S x n
  by_cases e:x = n
  ·subst e
   rw [if_neg (by omega)] at ih
   by_cases h:(el S x).Kind = 1
   ·rw [if_pos (by simpa using h),List.countP_append,ih,if_pos ⟨by omega,h⟩]; simp
   ·rw [if_neg (by simpa using h),ih,if_neg (fun q=>h q.2)]
  ·have e2:(x < n + 1 ∧ (el S x).Kind = 1) ↔ (x < n ∧ (el S x).Kind = 1):=by
    constructor
    ·rintro ⟨a,b⟩; exact ⟨by omega,b⟩
    ·rintro ⟨a,b⟩; exact ⟨by omega,b⟩
   simp only [e2]
   split
   ·rw [List.countP_append,ih]; simp [Ne.symm e]
   ·exact ih
theorem countP_map_cast (l:List Nat) (x:Nat):(l.map fun i:Nat=>(i:Int)).countP (fun y=>y == (x:Int)) = l.countP (· == x):=by
 rw [List.countP_map]
 congr 1
 funext i
 rw [Bool.eq_iff_iff]
 simp only [Function.comp_apply,beq_iff_eq]
 omega
theorem acc_count (f:GFile) (x:Nat) (h:x < f.Signs.length):(accL f).countP (fun y=>y == (x:Int)) = if (el f.Signs x).Kind = 1 then 1 else 0:=by
 unfold accL
 rw [countP_map_cast,accN_count]
 by_cases c:(el f.Signs x).Kind = 1
 ·rw [if_pos ⟨h,c⟩,if_pos c]
 ·rw [if_neg (fun q=>c q.2),if_neg c]
def accOn (S:List GSign) (part:Int) (n:Nat):Nat:=(ofN S part n).countP fun i=>(el S i).Kind == 1
theorem tw_ne {S:List GSign} {i j:Nat} (h:twB S (el S i) i = false) (hj:j < i) (hi:i < S.length) (k1:(el S i).Kind = 1) (k2:(el S j).Kind = 1):(el S j).Part ≠ (el S i).Part:=by
 intro e
 unfold twB at h
 rw [List.any_eq_false] at h
 have hm:el S j ∈ S.take i:=by
  rw [← el_take S i j hj]
  exact el_mem _ _ (by simp; omega)
 apply h _ hm
 simp [k1,k2,e]
theorem accOn_le {S:List GSign} {part:Int} (h:∀ i,i < S.length→twB S (el S i) i = false) (h0:(el S 0).Kind ≠ 1):∀ n,n ≤ S.length→accOn S part n ≤ 1 ∧ (0 < accOn S part n→∃ j,j < n ∧ (el S j).Kind = 1 ∧ (el S j).Part = part)
 | 0,_=>⟨by simp [accOn,ofN],fun q=>by simp [accOn,ofN] at q⟩
 | n + 1,hn=>by
  obtain ⟨i1,i2⟩:=accOn_le (part:=part) h h0 n (by omega)
  unfold accOn
  rw [ofN_succ]
  by_cases c:onB S (n:Int) part = true
  ·rw [if_pos c,List.countP_append]
   by_cases k:(el S n).Kind = 1
   ·have hn0:n ≠ 0:=fun e=>by subst e; exact h0 k
    have hp:(el S n).Part = part:=by
     unfold onB at c
     rw [Bool.or_eq_true,beq_iff_eq,beq_iff_eq] at c
     rcases c with c | c
     ·omega
     ·exact c
    have hz:accOn S part n = 0:=by
     rcases Nat.eq_zero_or_pos (accOn S part n) with q | q
     ·exact q
     ·obtain ⟨j,j1,j2,j3⟩:=i2 q
      exact absurd (j3.trans hp.symm) (tw_ne (h n (by omega)) j1 (by omega) k j2)
    unfold accOn at hz
    rw [hz]
    refine ⟨by simp [k],fun _=>⟨n,by omega,k,hp⟩⟩
   ·have e:List.countP (fun i=>(el S i).Kind == 1) [n] = 0:=by simp [k]
    rw [e]
    refine ⟨i1,fun q=>?_⟩
    obtain ⟨j,j1,j2,j3⟩:=i2 q
    exact ⟨j,by omega,j2,j3⟩
  ·rw [if_neg c]
   refine ⟨i1,fun q=>?_⟩
   obtain ⟨j,j1,j2,j3⟩:=i2 q
   exact ⟨j,by omega,j2,j3⟩
def sumZ (g:Nat→Int):Nat→Int
 | 0=>0
 | n + 1=>sumZ g n + g n
theorem sumZ_add (g h:Nat→Int):∀ n,sumZ (fun i=>g i + h i) n = sumZ g n + sumZ h n
 | 0=>rfl
 | n + 1=>by simp only [sumZ,sumZ_add g h n]; omega
theorem sumZ_congr {g h:Nat→Int}:∀ n,(∀ i,i < n→g i = h i)→sumZ g n = sumZ h n
 | 0,_=>rfl
 | n + 1,q=>by simp only [sumZ,sumZ_congr n (fun i hi=>q i (by omega)),q n (by omega)]
theorem sumZ_zero:∀ n,sumZ (fun _=>0) n = 0
 | 0=>rfl
 | n + 1=>by simp only [sumZ,sumZ_zero n]; rfl
theorem sumZ_one {p:Int}:∀ n:Nat,sumZ (fun i=>if p = (i:Int) then 1 else 0) n = if 0 ≤ p ∧ p < n then 1 else 0
 | 0=>by rw [if_neg (by omega)]; rfl
 | n + 1=>by
  simp only [sumZ,sumZ_one n]
  by_cases e:p = (n:Int)
  ·rw [if_pos e,if_neg (by omega),if_pos (by omega)]; rfl
  ·rw [if_neg e]
   by_cases q:0 ≤ p ∧ p < n
   ·rw [if_pos q,if_pos (by omega)]; rfl
   ·rw [if_neg q,if_neg (by omega)]; rfl
theorem parts_sum {S:List GSign} {P:Nat}:∀ m,m < S.length→(∀ i,i < S.length→0 ≤ (el S i).Part ∧ (el S i).Part < P)→sumZ (fun p=>((ofN S (p:Int) (m + 1)).length:Int) - 1) P = m
 | 0,_,_=>by
  rw [sumZ_congr (h:=fun _=>0) P fun i _=>?_,sumZ_zero]; rfl
  have e:ofN S (i:Int) 1 = [0]:=by
   unfold ofN
   simp [List.range_succ,onB]
  rw [Nat.zero_add,e]; rfl
 | m + 1,hm,h=>by
  have ih:=parts_sum m (by omega) h
  have e:∀ p:Nat,((ofN S (p:Int) (m + 1 + 1)).length:Int) - 1 = (((ofN S (p:Int) (m + 1)).length:Int) - 1) + if (el S (m + 1)).Part = (p:Int) then 1 else 0:=by
   intro p
   rw [ofN_succ]
   have c:onB S ((m + 1:Nat):Int) (p:Int) = ((el S (m + 1)).Part == (p:Int)):=by
    have:(((m + 1:Nat):Int) == 0) = false:=by rw [beq_eq_false_iff_ne]; omega
    unfold onB
    rw [this]; rfl
   rw [c]
   by_cases q:(el S (m + 1)).Part = (p:Int)
   ·rw [if_pos (by simpa using q),if_pos q,List.length_append,List.length_singleton]; omega
   ·rw [if_neg (by simpa using q),if_neg q]; omega
  rw [sumZ_congr P fun i _=>e i,sumZ_add,ih,sumZ_one,if_pos ⟨(h _ hm).1,(h _ hm).2⟩]
  omega
theorem el_map_cast (l:List Nat) (i:Nat) (h:i < l.length):el (l.map fun i:Nat=>(i:Int)) i = ((el l i:Nat):Int):=by
 rw [el_lt _ _ (by simpa using h),el_lt _ _ h]; simp
theorem countP_take_succ {α:Type} [Inhabited α] (p:α→Bool) (l:List α) (i:Nat) (h:i < l.length):(l.take (i + 1)).countP p = (l.take i).countP p + if p (el l i) = true then 1 else 0:=by
 rw [take_el12 _ _ h,List.countP_append]
 by_cases c:p (el l i) = true
 ·rw [if_pos c]; simp [c]
 ·rw [if_neg c]; simp [c]
section
variable (hs:mallongelaw12_sane = some true)
include hs
theorem law12_parts (r:GRealm) (f:GFile) (bg:BigL r) (w:GRealm.wf r):mallongelaw12_PaperParts r f = some true:=by
 unfold mallongelaw12_PaperParts
 obtain ⟨x,e1,g⟩:=few12_spec f
 rw [hs,e1]
 cases x with
 | false=>rfl
 | true =>
  obtain ⟨g1,g2,g3,g4⟩:=g rfl
  simp only [Option.bind_some,Bool.not_true,Bool.false_eq_true,if_false,checkP_eq r f bg w,bne_iff_ne]
  by_cases h0:checkP r f = 0
  ·rw [if_neg (not_not_intro h0)]
   obtain ⟨h1,h2,h3,h4,h5,h6,h7⟩:=checkP_zero.1 h0
   obtain ⟨P1,P2⟩:=word_parts bg w h2
   have hhi:hiP f.Bill = f.Bill.Parts - 1:=by unfold hiP; exact wrap_id (by omega) (by omega)
   have hpart:∀ i,i < f.Signs.length→0 ≤ (el f.Signs i).Part ∧ (el f.Signs i).Part < ((f.Bill.Parts.toNat:Nat):Int):=fun i hi=>by
    have:=(sign_zero (h4 i hi)).1; rw [hhi] at this; omega
   have hday:∀ i,i < f.Signs.length→0 < i→(el f.Signs (i - 1)).Day ≤ (el f.Signs i).Day:=fun i hi hp=>by
    have:=(sign_zero (h4 i hi)).2.1.1
    unfold firstD at this
    rwa [if_neg (by omega)] at this
   have hk0:(el f.Signs 0).Kind ≠ 1:=fun e=>by
    have:=(fit_draw (sign_zero (h4 0 h3)).2.2.1).1 rfl; omega
   have htw:∀ i,i < f.Signs.length→twB f.Signs (el f.Signs i) i = false:=fun i hi=>(sign_zero (h4 i hi)).2.2.2
   obtain ⟨n,hn⟩ : ∃ n,f.Signs.length = n + 1:=⟨f.Signs.length - 1,by omega⟩
   have hofl:∀ p,(ofL f p).length = (ofN f.Signs p (n + 1)).length:=fun p=>by unfold ofL; rw [List.length_map,hn]
   have hofel:∀ p i,i < (ofN f.Signs p (n + 1)).length→el (ofL f p) i = ((el (ofN f.Signs p (n + 1)) i:Nat):Int):=fun p i hi=>by
    unfold ofL; rw [hn]; exact el_map_cast _ _ hi
   rw [accepts_eq f (by omega),Option.bind_some]
   have key:mallongelaw12_PaperParts_l4 f true (accL f) 0 0 = some (.inl (n:Int)):=by
    unfold mallongelaw12_PaperParts_l4
    refine iter_all (step:=fun w=>mallongelaw12_PaperParts_l4_s f true (accL f) w.1 w.2) (fun k:Nat=>(sumZ (fun p=>((ofN f.Signs (p:Int) (n + 1)).length:Int) - 1) k,(k:Int))) f.Bill.Parts.toNat _ ?_ ?_
    ·intro k hk
     have hkl:decide ((k:Int) < f.Bill.Parts) = true:=decide_eq_true (by omega)
     have hlen:=ofN_len f.Signs (k:Int) (n + 1)
     obtain ⟨l,hl⟩:=ofN_head f.Signs (k:Int) n
     have hpos:0 < (ofN f.Signs (k:Int) (n + 1)).length:=by rw [hl]; simp
     have he0:el (ofN f.Signs (k:Int) (n + 1)) 0 = 0:=by rw [hl]; rfl
     have hS:0 ≤ sumZ (fun p=>((ofN f.Signs (p:Int) (n + 1)).length:Int) - 1) k ∧ sumZ (fun p=>((ofN f.Signs (p:Int) (n + 1)).length:Int) - 1) k ≤ 100 * k:=by
      clear hk hkl hlen hl hpos he0
      induction k with
      | zero=>exact ⟨Int.le_refl _,by show (0:Int) ≤ 100 * ((0:Nat):Int); omega⟩
      | succ k ih =>
       have hlen:=ofN_len f.Signs (k:Int) (n + 1)
       obtain ⟨l,hl⟩:=ofN_head f.Signs (k:Int) n
       have hpos:0 < (ofN f.Signs (k:Int) (n + 1)).length:=by rw [hl]; simp
       simp only [sumZ]
       omega
     simp only [mallongelaw12_PaperParts_l4_s,hkl,if_true,of_eq f _ (by omega:f.Signs.length ≤ 50),Option.bind_some,hofl]
     rw [if_neg (fun q=>by have:=eq_of_beq q; omega)]
     have a0:at? (ofL f (k:Int)) 0 = some 0:=by
      have:=at_el (ofL f (k:Int)) 0 (by rw [hofl]; exact hpos)
      rw [hofel _ _ hpos,he0] at this
      exact this
     rw [a0,Option.bind_some,if_neg (by decide)]
     have l3:mallongelaw12_PaperParts_l3 f (sumZ (fun p=>((ofN f.Signs (p:Int) (n + 1)).length:Int) - 1) k) k true (accL f) (ofL f (k:Int)) 0 0 = some (.inl ((accOn f.Signs (k:Int) (n + 1):Nat):Int)):=by
      unfold mallongelaw12_PaperParts_l3
      refine iter_all (step:=fun w=>mallongelaw12_PaperParts_l3_s f (sumZ (fun p=>((ofN f.Signs (p:Int) (n + 1)).length:Int) - 1) k) k true (accL f) (ofL f (k:Int)) w.1 w.2) (fun i:Nat=>(((((ofN f.Signs (k:Int) (n + 1)).take i).countP fun i=>(el f.Signs i).Kind == 1:Nat):Int),(i:Int))) (ofN f.Signs (k:Int) (n + 1)).length _ ?_ ?_
      ·intro i hi
       have hi' : i < (ofL f (k:Int)).length:=by rw [hofl]; exact hi
       obtain ⟨q1,q2⟩:=ofN_el hi
       have hc:=List.countP_le_length (p:=fun i=>(el f.Signs i).Kind == 1) (l:=(ofN f.Signs (k:Int) (n + 1)).take i)
       rw [List.length_take] at hc
       have hx:∀ (p9:Int),0 ≤ p9→p9 ≤ 1000→mallongelaw12_PaperParts_j2 f i (sumZ (fun p=>((ofN f.Signs (p:Int) (n + 1)).length:Int) - 1) k) k p9 true (accL f) (ofL f (k:Int)) = some (p9 + if (el f.Signs (el (ofN f.Signs (k:Int) (n + 1)) i)).Kind = 1 then 1 else 0):=by
        intro p9 z1 z2
        have l1:mallongelaw12_PaperParts_l1 f i (sumZ (fun p=>((ofN f.Signs (p:Int) (n + 1)).length:Int) - 1) k) k true (accL f) (ofL f (k:Int)) p9 0 = some (p9 + (((accL f).countP (fun y=>y == ((el (ofN f.Signs (k:Int) (n + 1)) i:Nat):Int)):Nat):Int)):=by
         unfold mallongelaw12_PaperParts_l1
         have hal:(accL f).length ≤ 42:=by
          have:=List.length_filter_le (fun i:Nat=>(el f.Signs i).Kind == 1) (List.range f.Signs.length)
          rw [List.length_range] at this
          unfold accL accN
          rw [List.length_map]; omega
         have hst:(p9,(0:Int)) = (fun m:Nat=>(p9 + ((((accL f).take m).countP (fun y=>y == ((el (ofN f.Signs (k:Int) (n + 1)) i:Nat):Int)):Nat):Int),(m:Int))) 0:=by simp
         rw [hst]
         refine iter_all (step:=fun w=>mallongelaw12_PaperParts_l1_s f i (sumZ (fun p=>((ofN f.Signs (p:Int) (n + 1)).length:Int) - 1) k) k true (accL f) (ofL f (k:Int)) w.1 w.2) (fun m:Nat=>(p9 + ((((accL f).take m).countP (fun y=>y == ((el (ofN f.Signs (k:Int) (n + 1)) i:Nat):Int)):Nat):Int),(m:Int))) (accL f).length _ ?_ ?_
         ·intro m hm
          have hcm:=List.countP_le_length (p:=fun y=>y == ((el (ofN f.Signs (k:Int) (n + 1)) i:Nat):Int)) (l:=(accL f).take m)
          rw [List.length_take] at hcm
          simp only [mallongelaw12_PaperParts_l1_s,lt_t hm,if_true,at_el _ _ hm,at_el _ _ hi',Option.bind_some,hofel _ _ hi,wrap_succ (show m < 9223372036854775807 by omega),countP_take_succ _ _ _ hm]
          by_cases c:(el (accL f) m == ((el (ofN f.Signs (k:Int) (n + 1)) i:Nat):Int)) = true
          ·rw [if_pos c,if_pos c,wrap_id (by omega) (by omega)]
           congr 3
           omega
          ·rw [if_neg c,if_neg c]; simp
         ·simp only [mallongelaw12_PaperParts_l1_s,lt_f,if_false,List.take_length]
        unfold mallongelaw12_PaperParts_j2
        rw [l1,acc_count f _ (by omega)]
        by_cases c:(el f.Signs (el (ofN f.Signs (k:Int) (n + 1)) i)).Kind = 1
        ·rw [if_pos c,if_pos c]; rfl
        ·rw [if_neg c,if_neg c]; rfl
       have hend:∀ (v:Int),v = ((((ofN f.Signs (k:Int) (n + 1)).take i).countP fun i=>(el f.Signs i).Kind == 1:Nat):Int)→v + (if (el f.Signs (el (ofN f.Signs (k:Int) (n + 1)) i)).Kind = 1 then 1 else 0) = ((((ofN f.Signs (k:Int) (n + 1)).take (i + 1)).countP fun i=>(el f.Signs i).Kind == 1:Nat):Int):=by
        intro v hv
        rw [countP_take_succ _ _ _ hi,hv]
        by_cases c:(el f.Signs (el (ofN f.Signs (k:Int) (n + 1)) i)).Kind = 1
        ·rw [if_pos c,if_pos (by simpa using c)]; omega
        ·rw [if_neg c,if_neg (by simpa using c)]; omega
       have hlt:(decide ((i:Int) < ((ofL f (k:Int)).length:Int)) = true) = True:=by rw [hofl]; exact lt_t hi
       simp only [mallongelaw12_PaperParts_l3_s,hlt,if_true,at_el _ _ hi',Option.bind_some,hofel _ _ hi]
       generalize hm:el (ofN f.Signs (k:Int) (n + 1)) i = m at *
       rw [if_neg (fun q=>absurd (of_decide_eq_true q) (by omega)),if_neg (fun q=>absurd (of_decide_eq_true q) (by omega))]
       rw [hx _ (by omega) (by omega),Option.bind_some,hend _ rfl,wrap_succ (show i < 9223372036854775807 by omega)]
       by_cases c:i = 0
       ·rw [if_neg (fun q=>absurd (of_decide_eq_true q) (by omega))]
       ·rw [if_pos (decide_eq_true (show (i:Int) > 0 by omega))]
        have e:IntKind.wrap .i64 ((i:Int) - 1) = ((i - 1:Nat):Int):=by rw [wrap_id (by omega) (by omega)]; omega
        have hlt2:=ofN_lt (S:=f.Signs) (part:=(k:Int)) (n:=n + 1) (show i - 1 < i by omega) hi
        rw [hm] at hlt2
        rw [e,at_el _ _ (by rw [hofl]; omega),hofel _ _ (by omega),Option.bind_some,if_neg (fun q=>absurd (of_decide_eq_true q) (by omega))]
        have e2:IntKind.wrap .i64 ((m:Int) - 1) = ((m - 1:Nat):Int):=by rw [wrap_id (by omega) (by omega)]; omega
        rw [e2,at_el _ _ (show m < f.Signs.length by omega),at_el _ _ (show m - 1 < f.Signs.length by omega)]
        simp only [Option.bind_some]
        rw [if_neg (fun q=>absurd (of_decide_eq_true q) (by have:=hday m (by omega) (by omega); omega))]
        have hpm:(el f.Signs m).Part = (k:Int):=by
         unfold onB at q2
         rw [Bool.or_eq_true,beq_iff_eq,beq_iff_eq] at q2
         rcases q2 with q2 | q2
         ·omega
         ·exact q2
        rw [hpm,if_neg (by simp)]
      ·have hlf:(decide (((ofN f.Signs (k:Int) (n + 1)).length:Int) < ((ofL f (k:Int)).length:Int)) = true) = False:=by rw [hofl]; exact lt_f _
       simp only [mallongelaw12_PaperParts_l3_s,hlf,if_false,List.take_length]
       rfl
     have hle:=(accOn_le (part:=(k:Int)) htw hk0 (n + 1) (by omega)).1
     rw [l3]
     simp only [Option.bind_some,Sum.elim_inl]
     rw [if_neg (fun q=>absurd (of_decide_eq_true q) (by omega)),wrap_succ (show k < 9223372036854775807 by omega)]
     simp only [sumZ]
     rw [wrap_id (show -9223372036854775808 ≤ sumZ (fun p=>((ofN f.Signs (p:Int) (n + 1)).length:Int) - 1) k + ((ofN f.Signs (k:Int) (n + 1)).length:Int) by omega) (by omega),wrap_id (by omega) (by omega)]
     congr 3
     omega
    ·have hkl:(decide ((f.Bill.Parts.toNat:Int) < f.Bill.Parts) = true) = False:=by simp; omega
     simp only [mallongelaw12_PaperParts_l4_s,hkl,if_false]
     have:=parts_sum n (by omega) hpart
     rw [this]
   rw [key]
   simp only [Option.bind_some,Sum.elim_inl,if_true]
   have e:IntKind.wrap .i64 ((f.Signs.length:Int) - 1) = (n:Int):=by rw [wrap_id (by omega) (by omega)]; omega
   rw [e,if_pos (by simp),of_eq f _ (by omega),Option.bind_some,hofl]
   have e1:(ofN f.Signs (-1) (n + 1)).length = 1:=by
    obtain ⟨l,hl⟩:=ofN_head f.Signs (-1) n
    rw [hl]
    cases l with
    | nil=>rfl
    | cons a l =>
     exfalso
     have q:=ofN_el (S:=f.Signs) (part:=-1) (n:=n + 1) (i:=1) (by rw [hl]; simp)
     have q3:=ofN_lt (S:=f.Signs) (part:=-1) (n:=n + 1) (i:=0) (j:=1) (by omega) (by rw [hl]; simp)
     obtain ⟨q1,q2⟩:=q
     have:=hpart _ (show el (ofN f.Signs (-1) (n + 1)) 1 < f.Signs.length by omega)
     unfold onB at q2
     rw [Bool.or_eq_true,beq_iff_eq,beq_iff_eq] at q2
     rw [Int.toNat_natCast] at q2
     omega
   rw [e1]; rfl
  ·rw [if_pos h0]
end
end Go.Proofs.Ytfhebiceipgdmaa
