/- Lemmas on the answers. -/
import Derived.Test.YtoefdnkjcfoccaaDoorPTerm1
namespace Go.Proofs.YtoefdnkjcfoccaaDoor
open Go.RowKit Vm
def VP (c:aH):Prop:=c.N = 0 ∨ c.N = 1
theorem O2 (b:Bool):∃ y,lD b = some y ∧ VP y:=by
 cases b
 ·exact ⟨⟨true,0⟩,rfl,.inl rfl⟩
 ·exact ⟨⟨true,1⟩,rfl,.inr rfl⟩
theorem M9:VP ⟨false,0⟩:=.inl rfl
theorem aAV (op a b:Int):∃ n,fH op a b = some n:=by
 unfold fH
 obtain ⟨x,hx⟩ : ∃ x,jX (IntKind.wrap .i64 (a + b)) = some x:=⟨_,rfl⟩
 obtain ⟨y,hy⟩ : ∃ x,jX (IntKind.wrap .i64 (a - b)) = some x:=⟨_,rfl⟩
 have hj:∀ p,∃ x,gB a b p = some x:=by
  intro p
  unfold gB
  split <;> exact ⟨_,rfl⟩
 obtain ⟨z,hz⟩ : ∃ x,kN a b = some x:=by
  unfold kN
  obtain ⟨q,hq⟩ : ∃ q,iL (IntKind.wrap .u64 (if (IntKind.wrap .i64 (0 - a)) > a then IntKind.wrap .i64 (0 - a) else a)) (IntKind.wrap .u64 (if (IntKind.wrap .i64 (0 - b)) > b then IntKind.wrap .i64 (0 - b) else b)) = some q:=⟨_,rfl⟩
  rw [hq]
  obtain ⟨x1,h1⟩:=hj (IntKind.wrap .i64 q.2)
  obtain ⟨x2,h2⟩:=hj 1099511627776
  simp only [À,h1,h2]
  repeat' split
  all_goals exact ⟨_,rfl⟩
 simp only [hx,hy,hz,À]
 repeat' split
 all_goals exact ⟨_,rfl⟩
theorem QF (op:Int) (cs:List aH) (h:2 <= cs.length):∃ c,fC op cs = some c ∧ (op = 4 ∨ op = 5 ∨ op = 7 ∨ op = 8->VP c):=by
 have e0:at? cs 0 = some (el cs 0):=fW cs 0 (by omega)
 have e1:at? cs 1 = some (el cs 1):=fW cs 1 (by omega)
 obtain ⟨n,hn⟩:=aAV op (el cs 0).N (el cs 1).N
 obtain ⟨y4,hy4,b4⟩:=O2 (op == 4)
 obtain ⟨y7,hy7,b7⟩:=O2 (decide ((el cs 0).N < (el cs 1).N))
 obtain ⟨y8,hy8,b8⟩:=O2 ((el cs 0).N == (el cs 1).N)
 have h3:(∃ c,gJ op (el cs 0) (el cs 1) = some (.inr c) ∧ VP c) ∨ gJ op (el cs 0) (el cs 1) = some (.inl ()) ∧ op ≠ 7 ∧ op ≠ 8:=by
  unfold gJ
  rw [hy7,hy8]
  by_cases h7:(op == 7) = true
  ·rw [Â h7]; exact .inl ⟨y7,rfl,b7⟩
  rw [Ã h7]
  by_cases h8:(op == 8) = true
  ·rw [Â h8]; exact .inl ⟨y8,rfl,b8⟩
  rw [Ã h8]
  exact .inr ⟨rfl,by simpa using h7,by simpa using h8⟩
 unfold fC
 rw [e0,e1]
 simp only [À,hy4]
 by_cases h1:(!(el cs 0).Known) = true
 ·rw [Â h1]; exact ⟨_,rfl,fun _=>M9⟩
 rw [Ã h1]
 by_cases h2:(!(el cs 1).Known) = true
 ·rw [Â h2]; exact ⟨_,rfl,fun _=>M9⟩
 rw [Ã h2]
 by_cases h4:(op == 4) = true
 ·rw [Â h4,Â h4]; exact ⟨_,rfl,fun _=>b4⟩
 rw [Ã h4]
 by_cases h5:(op == 5) = true
 ·rw [Â h5]; exact ⟨_,rfl,fun _=>b4⟩
 rw [Ã h5]
 rcases h3 with ⟨c,hc,hb⟩ | ⟨hc,h7,h8⟩
 ·rw [hc]; exact ⟨c,rfl,fun _=>hb⟩
 ·rw [hc]
  simp only [À,û,hn]
  refine ⟨_,rfl,fun q=>?_⟩
  simp at h4 h5
  omega
theorem VV (op:Int) (cs:List aH) (h:op = 3 ∧ cs.length = 1 ∨ op = 6 ∧ cs.length = 3 ∨ op ≠ 3 ∧ op ≠ 6 ∧ cs.length = 2) :
  ∃ c,iB op cs = some c ∧ (op = 3 ∨ op = 4 ∨ op = 5 ∨ op = 7 ∨ op = 8->VP c) ∧ (op = 6->VP (el cs 1)->VP c):=by
 have e0:at? cs 0 = some (el cs 0):=fW cs 0 (by omega)
 rcases h with ⟨rfl,hl⟩ | ⟨rfl,hl⟩ | ⟨h3,h6,hl⟩
 ·obtain ⟨y,hy,b⟩:=O2 ((el cs 0).N == 0)
  unfold iB
  rw [Â (by decide),e0]
  simp only [À,hy]
  split
  ·exact ⟨_,rfl,fun _=>b,fun q=>by omega⟩
  ·exact ⟨_,rfl,fun _=>M9,fun q=>by omega⟩
 ·have e1:at? cs 1 = some (el cs 1):=fW cs 1 (by omega)
  have e2:at? cs 2 = some (el cs 2):=fW cs 2 (by omega)
  have hj:∃ c,fF 6 cs = some (.inr c) ∧ (VP (el cs 1)->VP c):=by
   unfold fF
   rw [Â (by decide),e1,e2]
   simp only [À]
   by_cases hk:(el cs 1).Known = true
   ·rw [Â hk]
    split
    ·exact ⟨_,rfl,fun q=>q⟩
    ·exact ⟨_,rfl,fun _=>M9⟩
   ·rw [Ã hk]
    exact ⟨_,rfl,fun _=>M9⟩
  obtain ⟨c,hj,hb⟩:=hj
  unfold iB
  rw [Ã (by decide),Ã (by decide),Ã (by decide),hj]
  exact ⟨c,rfl,fun q=>by omega,fun _=>hb⟩
 ·have e1:at? cs 1 = some (el cs 1):=fW cs 1 (by omega)
  obtain ⟨c,hc,hb⟩:=QF op cs (by omega)
  have hj1:(∃ c,gD op cs = some (.inr c) ∧ VP c) ∨ gD op cs = some (.inl ()):=by
   obtain ⟨y,hy,b⟩:=O2 (op == 5)
   unfold gD
   rw [hy,e0,e1]
   simp only [À]
   split
   ·exact .inl ⟨_,rfl,b⟩
   split
   ·exact .inl ⟨_,rfl,b⟩
   ·exact .inr rfl
  have hj2:fF op cs = some (.inl ()):=by
   unfold fF
   rw [Ã (by simpa using h6)]
  unfold iB
  rw [Ã (by simpa using h3),hj2,hc]
  have fin:∃ c',(some c:Option aH) = some c' ∧ (op = 3 ∨ op = 4 ∨ op = 5 ∨ op = 7 ∨ op = 8->VP c') ∧ (op = 6->VP (el cs 1)->VP c'):=⟨c,rfl,fun q=>hb (by omega),fun q=>absurd q h6⟩
  rcases hj1 with ⟨c1,hj,hb1⟩ | hj
  ·rw [hj]
   simp only [À,û,Sum.elim_inr]
   repeat' split
   all_goals first | exact ⟨_,rfl,fun _=>hb1,fun q=>absurd q h6⟩ | exact fin
  ·rw [hj]
   simp only [À,û,Sum.elim_inr]
   repeat' split
   all_goals exact fin
theorem ZW (f:Nat->Nat):∀ (ls:List (List Int)) (k:Nat),(∀ i,i < ls.length->(el ls i).length <= f (k + i))->ls.flatten.length <= ((List.range' k ls.length).map f).sum
 | [],_,_=>by simp
 | l :: ls,k,h=>by
  have h0:l.length <= f k:=h 0 (by simp)
  have ht:=ZW f ls (k + 1) (fun i hi=>by
   have:=h (i + 1) (by simp; omega)
   rw [show k + 1 + i = k + (i + 1) by omega]; exact this)
  simp only [List.flatten_cons,ß,Ø,List.range'_succ,á,List.sum_cons]
  omega
theorem aLR (d:Nat) (l:List aF):((List.range' 0 l.length).map fun i=>I2 d (el l i)).sum = (l.map (I2 d)).sum:=by
 congr 1
 apply List.ext_getElem
 ·simp
 ·intro i h1 h2
  simp only [â] at h2
  simp [C4 l i h2]
theorem ZV:∀ (d n:Nat) (t:aF) (k:Int),d <= n->I2 d t <= 60->aDW d t k->∃ c l,MD n ⟨[]⟩ t = some (c,l) ∧ l.length <= I2 d t ∧ (k = 1->VP c)
 | 0,n,t,k,_,h,_=>by simp [I2] at h
 | d + 1,n,t,k,hn,hs,hg=>by
  obtain ⟨n,rfl⟩ : ∃ k,n = k + 1:=⟨n - 1,by omega⟩
  letI:RecF52:=⟨MD n⟩
  show ∃ c l,lO ⟨[]⟩ t = _ ∧ _
  have hs' : (t.Args.map (I2 d)).sum <= 59:=by simp only [I2] at hs; omega
  have hsz:I2 (d + 1) t = 1 + (t.Args.map (I2 d)).sum:=rfl
  have hlen:t.Args.length <= 59:=ó (XV d _) hs'
  obtain ⟨hk,hg⟩:=hg
  unfold lO
  by_cases h0:t.Op = 0
  ·simp only [h0,beq_self_eq_true,Ë]
   refine ⟨_,_,rfl,by simp,fun q=>?_⟩
   rcases hg with hg | hg <;> omega
  by_cases h1:t.Op = 1
  ·simp only [h1,show ((1:Int) == 0) = false from rfl,Æ,È,beq_self_eq_true,Ë]
   refine ⟨_,_,rfl,by simp,fun q=>?_⟩
   rcases hg with hg | hg
   ·rcases hg with hg | hg | hg
    ·omega
    ·exact hg.2
    ·omega
   ·omega
  simp only [beq_iff_eq,h0,h1,È]
  by_cases h2:t.Op = 2
  ·have hv:dO ⟨[]⟩ t.N = some ⟨false,0⟩:=by
    unfold dO
    rw [Â]
    rcases hg with hg | hg
    ·simp; omega
    ·omega
   have hj:dN ⟨[]⟩ t = some (.inr ([t.N],⟨false,0⟩)):=by
    unfold dN
    rw [Â (by simp [h2]),hv]; rfl
   rw [hj]
   exact ⟨_,_,rfl,by simp [hsz],fun _=>M9⟩
  have hj:dN ⟨[]⟩ t = some (.inl ()):=by
   unfold dN
   rw [Ã (by simp [h2])]
  rw [hj]
  simp only [À,û]
  rcases hg with hg | ⟨_,_,ks,hks,hgs,hg⟩
  ·omega
  obtain ⟨x,hx,hc1,hc2,hc3⟩:=FG (step:=fun (w:Int × (List aH) × (List (List Int)))=>dR ⟨[]⟩ t w.1 w.2.1 w.2.2) (fun k (a:List aH × List (List Int))=>((k:Int),a.1,a.2)) t.Args.length
   (fun k a=>a.1.length = t.Args.length ∧ a.2.length = t.Args.length ∧ ∀ i,i < k->(el a.2 i).length <= I2 d (el t.Args i) ∧ (el ks i = 1->VP (el a.1 i)))
   (fun a=>a.1.length = t.Args.length ∧ a.2.length = t.Args.length ∧ ∀ i,i < t.Args.length->(el a.2 i).length <= I2 d (el t.Args i) ∧ (el ks i = 1->VP (el a.1 i))) (by
   intro k a hk ⟨h1,h2,h3⟩
   obtain ⟨c,l,hr,hl,hb⟩:=ZV d n (el t.Args k) (el ks k) (by omega) (ó (YW (GK _ _ hk)) (by omega)) (hgs k hk)
   have hrun:RecF52.run ⟨[]⟩ (el t.Args k) = some (c,l):=hr
   simp only [dR,tN hk,Ë,fW _ _ hk,À,hrun,ć,PZ a.1 k _ (show k < a.1.length by omega),PZ a.2 k _ (show k < a.2.length by omega),b5 (show k < 9223372036854775807 by omega)]
   refine .inl ⟨(a.1.set k c,a.2.set k l),rfl,by simp [h1],by simp [h2],fun i hi=>?_⟩
   show (el (a.2.set k l) i).length <= _ ∧ (_->VP (el (a.1.set k c) i))
   rw [XH (show k < a.2.length by omega),XH (show k < a.1.length by omega)]
   by_cases e:k = i
   ·subst e; rw [Â rfl,Â rfl]; exact ⟨hl,hb⟩
   ·rw [Ã e,Ã e]; exact h3 i (by omega)) (by
   intro a hI
   simp only [dR,wR,È]
   exact ⟨_,rfl,hI⟩) (List.replicate t.Args.length ⟨false,0⟩,List.replicate t.Args.length []) ⟨by simp,by simp,fun i hi=>by omega⟩
  have hx' : mE ⟨[]⟩ t 0 (List.replicate ((t.Args.length:Int).toNat) (⟨false,0⟩ : aH)) (List.replicate ((t.Args.length:Int).toNat) ([]:List Int)) = some x:=hx
  have hj5:∃ l c,gC ⟨[]⟩ t = some (l,c) ∧ l.length <= I2 (d + 1) t ∧ (k = 1->VP c):=by
   unfold gC
   rw [Â (by omega),Â (by omega),hx']
   simp only [À]
   have hflat:x.2.flatten.length <= (t.Args.map (I2 d)).sum:=by
    have:=ZW (fun i=>I2 d (el t.Args i)) x.2 0 (fun i hi=>by rw [Ċ]; exact (hc3 i (by omega)).1)
    rw [hc2,aLR] at this; exact this
   have hj4:∃ l c,gL t x = some (l,c) ∧ l.length <= I2 (d + 1) t ∧ (k = 1->VP c):=by
    obtain ⟨c,hcc,hb1,hb2⟩:=VV t.Op x.1 (by
     rw [hc1]
     rcases hg with hg | hg | hg
     ·exact .inl hg
     ·exact .inr (.inl ⟨hg.1,hg.2.1⟩)
     ·exact .inr (.inr ⟨hg.1,hg.2.1,hg.2.2.1⟩))
    have hbit:k = 1->VP c:=by
     intro q
     rcases hg with hg | hg | hg
     ·exact hb1 (.inl hg.1)
     ·exact hb2 hg.1 ((hc3 1 (by omega)).2 (by rw [hg.2.2.2.1]; exact q))
     ·exact hb1 (.inr (hg.2.2.2 q))
    have hcat:eN x.2 = some x.2.flatten:=by
     unfold eN aPH
     rw [Â ⟨by omega,by omega⟩]
    unfold gL
    rw [hcc,hcat]
    simp only [À]
    split
    ·exact ⟨_,_,rfl,by simp,hbit⟩
    ·exact ⟨_,_,rfl,by omega,fun _=>M9⟩
   obtain ⟨l4,c4,e4,hl4,hb4⟩:=hj4
   rw [e4]
   simp only [À,beq_iff_eq]
   by_cases h6:t.Op = 6
   rotate_left
   ·rw [Ã h6]; exact ⟨l4,c4,rfl,hl4,hb4⟩
   rw [Â h6]
   rcases hg with hg | hg | hg
   ·omega
   rotate_left
   ·omega
   have hx3:x.1.length = 3:=by omega
   have hx4:x.2.length = 3:=by omega
   have e0:x.1[0]? = some (el x.1 0):=by rw [Ü (by omega),C4 _ _ (by omega)]
   rw [Â ⟨by omega,by omega⟩,e0]
   simp only [À]
   by_cases hkn:(el x.1 0).Known = true
   rotate_left
   ·rw [Ã hkn]; exact ⟨l4,c4,rfl,hl4,hb4⟩
   rw [Â hkn,Â ⟨by omega,by omega⟩]
   have hbit0:VP (el x.1 0):=(hc3 0 (by omega)).2 hg.2.2.1
   have hw:IntKind.wrap .i64 (2 - (el x.1 0).N) = 2 - (el x.1 0).N:=CQ (by rcases hbit0 with a | a <;> omega) (by rcases hbit0 with a | a <;> omega)
   obtain ⟨j,hj,hj12⟩ : ∃ j:Nat,2 - (el x.1 0).N = (j:Int) ∧ (j = 1 ∨ j = 2):=by
    rcases hbit0 with a | a
    ·exact ⟨2,by omega,.inr rfl⟩
    ·exact ⟨1,by omega,.inl rfl⟩
   have hj3:jD x (el x.1 0) = some (el x.2 j,el x.1 j):=by
    unfold jD
    rw [hw,hj]
    simp only [ć,PZ x.1 j _ (show j < x.1.length by omega),PZ x.2 j _ (show j < x.2.length by omega)]
   rw [hj3]
   refine ⟨_,_,rfl,?_,fun q=>?_⟩
   ·have a:=(hc3 j (by omega)).1
    have b:I2 d (el t.Args j) <= (t.Args.map (I2 d)).sum:=YW (GK _ _ (by omega))
    show (el x.2 j).length <= _
    omega
   ·refine (hc3 j (by omega)).2 ?_
    rcases hj12 with rfl | rfl
    ·rw [hg.2.2.2.1]; exact q
    ·rw [hg.2.2.2.2]; exact q
  obtain ⟨l,c,hj5,hl,hb⟩:=hj5
  rw [hj5]
  exact ⟨c,l,rfl,hl,hb⟩
theorem aDo (t:aF):∃ c,AU t [] = some c:=by
 unfold AU
 obtain ⟨k,e,hc,hg⟩:=RD t
 rw [hc]
 simp only [À,bne_iff_ne,ne_eq]
 by_cases h0:e = 0
 ·rw [Ã (by simpa using h0)]
  obtain ⟨c,l,hr,_,_⟩:=ZV 8 1000 t k (by omega) (hg h0).2 (hg h0).1
  have hr' : m0 ⟨[]⟩ t = some (c,l):=hr
  rw [hr']; exact ⟨_,rfl⟩
 ·rw [Â h0]; exact ⟨_,rfl⟩
theorem aBl (o:aJ) (ask:Int) (ha:0 <= ask ∧ ask < 22) (hl:o.Rules.length < 9223372036854775807):∃ c e,oH o ask [] = some (c,e) ∧ (j6 o ask = true->e ≠ 4 ∧ e ≠ 1):=by
 have hty:∃ k,tF ask = some (k,true):=by
  unfold tF
  rw [Ã (by simpa using ha.1),Ã (by simpa using ha.2),AH _ _ (by decide)]
  simp only [À]
  split <;> exact ⟨_,rfl⟩
 obtain ⟨k,hty⟩:=hty
 have hix:bX o.Rules ask = some ((m6 (fun i=>if (el o.Rules i).Ask = ask then some (i:Int) else none) 0 o.Rules.length).getD (-1)):=by
  unfold bX
  have hl' : dE o.Rules ask 0 = some (toS () (m6 (fun i=>if (el o.Rules i).Ask = ask then some (i:Int) else none) 0 o.Rules.length)):=by
   refine MX (step:=fun w=>bF o.Rules ask w) (fun i=>(i:Int)) _ _ _ ?_ ?_
   ·intro i hi
    simp only [bF,pR,tN hi,Ë,fW _ _ hi,À,b5 (show i < 9223372036854775807 by omega),beq_iff_eq]
    by_cases h1:(el o.Rules i).Ask = ask
    ·rw [Â h1,Â h1]
    ·rw [Ã h1,Ã h1]
   ·simp only [bF,wR,È]
  rw [hl']
  simp only [À,T2]
  cases m6 (fun i=>if (el o.Rules i).Ask = ask then some (i:Int) else none) 0 o.Rules.length <;> rfl
 have hfind:∃ t e,yA o ask = some (t,e) ∧ (j6 o ask = true->e ≠ 4 ∧ e ≠ 1):=by
  unfold yA
  rw [hty,hix]
  simp only [À,Bool.not_true,Æ,È]
  unfold j6
  cases hf:m6 (fun i=>if (el o.Rules i).Ask = ask then some (i:Int) else none) 0 o.Rules.length with
  | none =>
   rw [Â (by simp)]
   exact ⟨_,_,rfl,fun h=>by simp at h⟩
  | some j =>
   obtain ⟨i,_,hi,hj,_⟩:=BL _ _ hf
   have hj' : j = (i:Int):=by
    by_cases h1:(el o.Rules i).Ask = ask
    ·rw [Â h1] at hj; exact (ã hj).symm
    ·rw [Ã h1] at hj; exact nomatch hj
   subst hj'
   obtain ⟨k',e,hc,_⟩:=RD (el o.Rules i).Term
   rw [Ã (by simp)]
   simp only [è,fW o.Rules i (by omega),À,hc]
   split
   ·exact ⟨_,_,rfl,fun _=>by decide⟩
   split
   ·exact ⟨_,_,rfl,fun _=>by decide⟩
   ·exact ⟨_,_,rfl,fun _=>by decide⟩
 obtain ⟨t,e,hfe,hq⟩:=hfind
 obtain ⟨c,hev⟩:=aDo t
 unfold oH
 rw [hfe]
 simp only [À,bne_iff_ne,ne_eq]
 by_cases h0:e = 0
 ·rw [Ã (by simpa using h0)]
  simp only [hev,hty,À]
  repeat' split
  all_goals exact ⟨_,_,rfl,fun _=>by decide⟩
 ·rw [Â h0]; exact ⟨_,_,rfl,hq⟩
end Go.Proofs.YtoefdnkjcfoccaaDoor
