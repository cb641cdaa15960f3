/- Lemmas on the answers. -/
import Derived.Test.YtoefdnkjcfoccaaDoorPAudit1
import Derived.Test.YtoefdnkjcfoccaaDoorLoops3
namespace Go.Proofs.YtoefdnkjcfoccaaDoor
open Go.RowKit Vm
def I2:Nat->aF->Nat
 | 0,_=>61
 | d + 1,t=>1 + (t.Args.map (I2 d)).sum
theorem aPn (d:Nat) (t:aF):1 <= I2 d t:=by cases d <;> simp [I2]
theorem XV (d:Nat):∀ l:List aF,l.length <= (l.map (I2 d)).sum
 | []=>by simp
 | t :: l=>by
  have:=XV d l
  have:=aPn d t
  simp; omega
theorem YW {d:Nat}:∀ {l:List aF} {t:aF},t ∈ l->I2 d t <= (l.map (I2 d)).sum
 | a :: l,t,h=>by
  rcases Û.1 h with rfl | h
  ·simp
  ·have:=YW (d:=d) h
   simp; omega
theorem aLX (d:Nat) (l:List aF) (k:Nat) (h:k < l.length):((l.take (k + 1)).map (I2 d)).sum = ((l.take k).map (I2 d)).sum + I2 d (el l k):=by
 rw [đ h,C4 l k h,Ă,List.sum_append]
 rfl
theorem PZ {α X:Type} [Inhabited α] (p:List α) (k:Nat) (f:α->Option X) (h:k < p.length):(if 0 <= (k:Int) ∧ k < p.length then (p[k]?).bind f else none) = f (el p k):=by
 rw [Â ⟨by omega,h⟩,Ü h,À,C4 p _ h]
theorem TH:∀ (d n:Nat) (t:aF),d < n->d <= 8->∃ m:Nat,MS n t (9 - (d:Int)) = some (m:Int) ∧ m <= 61 * (d + 1) ∧ (m <= 60->I2 d t = m)
 | 0,n,t,hn,_=>by
  obtain ⟨n,rfl⟩ : ∃ k,n = k + 1:=⟨n - 1,by omega⟩
  exact ⟨61,rfl,by omega,by omega⟩
 | d + 1,n,t,hn,hd=>by
  obtain ⟨n,rfl⟩ : ∃ k,n = k + 1:=⟨n - 1,by omega⟩
  letI:RecF59:=⟨MS n⟩
  show ∃ m:Nat,s7 t _ = _ ∧ _
  have hlev:IntKind.wrap .i64 (9 - ((d + 1:Nat):Int) + 1) = 9 - (d:Int):=by rw [CQ (by omega) (by omega)]; omega
  obtain ⟨x,hx,m,rfl,q1,q2⟩:=FG (step:=fun (w:Int × Int)=>fI t (9 - ((d + 1:Nat):Int)) w.1 w.2) (fun k (m:Nat)=>((m:Int),(k:Int))) t.Args.length
   (fun k m=>m <= 60 ∧ m = 1 + ((t.Args.take k).map (I2 d)).sum) (fun x=>∃ m:Nat,x = (m:Int) ∧ m <= 61 * (d + 2) ∧ (m <= 60->I2 (d + 1) t = m)) (by
   intro k m hk ⟨h1,h2⟩
   obtain ⟨r,e,b,c⟩:=TH d n (el t.Args k) (by omega) (by omega)
   have hkm:k <= m:=by
    have:=XV d (t.Args.take k)
    rw [Ā,Ĵ (by omega)] at this
    omega
   have hrun:RecF59.run (el t.Args k) (9 - (d:Int)) = some (r:Int):=e
   have hw:IntKind.wrap .i64 ((m:Int) + (r:Int)) = ((m + r:Nat):Int):=by rw [CQ (by omega) (by omega)]; omega
   simp only [fI,tN hk,Ë,fW _ _ hk,À,hlev,hrun,hw,b5 (show k < 9223372036854775807 by omega)]
   by_cases hb:((m + r:Nat):Int) > 60
   ·rw [Â (ö hb)]
    exact .inr ⟨_,rfl,m + r,rfl,by omega,fun q=>by omega⟩
   ·rw [Ã (by simpa using hb)]
    refine .inl ⟨m + r,rfl,by omega,?_⟩
    rw [aLX d _ _ hk,c (by omega)]; omega) (by
   intro m ⟨h1,h2⟩
   simp only [fI,wR,È]
   refine ⟨_,rfl,m,rfl,by omega,fun _=>?_⟩
   rw [h2,ÿ]; rfl) 1 ⟨by omega,by simp⟩
  refine ⟨m,?_,by omega,q2⟩
  unfold s7 sW
  rw [Ã (by simp; omega)]
  have hx' : eJ (fun (w:Int × Int)=>fI t (9 - ((d + 1:Nat):Int)) w.1 w.2) (1,0) = some (m:Int):=hx
  rw [hx']; rfl
def aDW:Nat->aF->Int->Prop
 | 0,_,_=>False
 | d + 1,t,k=>(k = 0 ∨ k = 1) ∧ ((t.Op = 0 ∧ k = 0 ∨ t.Op = 1 ∧ (t.N = 0 ∨ t.N = 1) ∨ t.Op = 2 ∧ 0 <= t.N) ∨
  (3 <= t.Op ∧ t.Op <= 13 ∧ ∃ ks:List Int,ks.length = t.Args.length ∧ (∀ i,i < t.Args.length->aDW d (el t.Args i) (el ks i)) ∧
   (t.Op = 3 ∧ t.Args.length = 1 ∨ t.Op = 6 ∧ t.Args.length = 3 ∧ el ks 0 = 1 ∧ el ks 1 = k ∧ el ks 2 = k ∨ t.Op ≠ 3 ∧ t.Op ≠ 6 ∧ t.Args.length = 2 ∧ (k = 1->t.Op = 4 ∨ t.Op = 5 ∨ t.Op = 7 ∨ t.Op = 8))))
theorem aHU {d:Nat} {t:aF} {k:Int} (h:aDW d t k):k = 0 ∨ k = 1:=by
 cases d with
 | zero=>exact h.elim
 | succ d=>exact h.1
theorem aMk (v:Int):∃ k b,fD v = some (k,b) ∧ (k = 0 ∨ k = 1) ∧ (b = true->0 <= v):=by
 unfold fD
 by_cases h1:v < 0
 ·rw [Â (ö h1)]; exact ⟨0,false,rfl,.inl rfl,fun h=>nomatch h⟩
 rw [Ã (by simpa using h1)]
 split
 ·exact ⟨0,false,rfl,.inl rfl,fun h=>nomatch h⟩
 split
 ·exact ⟨0,true,rfl,.inl rfl,fun _=>by omega⟩
 ·exact ⟨1,true,rfl,.inr rfl,fun _=>by omega⟩
theorem aFG (t:aF) (ho:t.Op = 0 ∨ t.Op = 1 ∨ t.Op = 2):∃ k e,mR t = some (k,e) ∧ (e = 0->(k = 0 ∨ k = 1) ∧ (t.Op = 0 ∧ k = 0 ∨ t.Op = 1 ∧ (t.N = 0 ∨ t.N = 1) ∨ t.Op = 2 ∧ 0 <= t.N)):=by
 unfold mR
 obtain ⟨c,hc⟩ : ∃ c,jX t.N = some c:=⟨_,rfl⟩
 obtain ⟨k,b,hv,hk,hb⟩:=aMk t.N
 rw [hc,hv]
 by_cases h0:(t.Args.length:Int) > 0
 ·rw [Â (ö h0)]; exact ⟨0,2,rfl,fun h=>by omega⟩
 rw [Ã (by simpa using h0)]
 rcases ho with ho | ho | ho
 ·simp only [ho,beq_self_eq_true,Ë,À]
  by_cases h:(c != t.N) = true
  ·rw [Â h]; exact ⟨0,3,rfl,fun h=>by omega⟩
  ·rw [Ã h]; exact ⟨0,0,rfl,fun h=>⟨.inl rfl,.inl ⟨trivial,rfl⟩⟩⟩
 ·simp only [ho,show ((1:Int) == 0) = false from rfl,Æ,beq_self_eq_true,È,Ë]
  by_cases h1:t.N < 0
  ·rw [Â (ö h1)]; exact ⟨0,3,rfl,fun h=>by omega⟩
  rw [Ã (by simpa using h1)]
  by_cases h2:t.N > 1
  ·rw [Â (ö h2)]; exact ⟨0,3,rfl,fun h=>by omega⟩
  rw [Ã (by simpa using h2)]
  exact ⟨1,0,rfl,fun h=>⟨.inr rfl,.inr (.inl ⟨trivial,by omega⟩)⟩⟩
 ·simp only [ho,show ((2:Int) == 0) = false from rfl,show ((2:Int) == 1) = false from rfl,Æ,È,À]
  cases b with
  | false=>exact ⟨0,10,rfl,fun h=>by omega⟩
  | true=>exact ⟨k,0,rfl,fun h=>⟨hk,.inr (.inr ⟨trivial,hb rfl⟩)⟩⟩
theorem aCm (op:Int) (h:3 <= op ∧ op <= 13):∃ s,mG op = some s ∧ (s.result = 0 ∨ s.result = 1 ∨ s.result = -1 ∧ op = 6) ∧
  (op = 3 ∧ s.args.length = 1 ∨ op = 6 ∧ s.args = [1,-1,-1] ∧ s.result = -1 ∨ op ≠ 3 ∧ op ≠ 6 ∧ s.args.length = 2 ∧ (s.result = 1->op = 4 ∨ op = 5 ∨ op = 7 ∨ op = 8)):=by
 have:op = 3 ∨ op = 4 ∨ op = 5 ∨ op = 6 ∨ op = 7 ∨ op = 8 ∨ op = 9 ∨ op = 10 ∨ op = 11 ∨ op = 12 ∨ op = 13:=by omega
 rcases this with rfl | rfl | rfl | rfl | rfl | rfl | rfl | rfl | rfl | rfl | rfl <;> exact ⟨_,rfl,by decide,by simp⟩
theorem aBJ [RecF60] (s:aI) (z:List Int) (hl:s.args.length <= z.length) (hn:s.args.length < 1000) (hz:∀ i,i < s.args.length->el z i ≠ -1) :
  ∃ x,wE s z (-1) 0 = some x ∧ ∀ p,x = .inl p->∀ i,i < s.args.length->(el s.args i = -1->el z i = p) ∧ (el s.args i ≠ -1->el z i = el s.args i):=by
 refine FG (step:=fun (w:Int × Int)=>jG s z w.1 w.2) (fun k (p:Int)=>(p,(k:Int))) s.args.length
  (fun k p=>∀ i,i < k->(el s.args i = -1->el z i = p) ∧ (el s.args i ≠ -1->el z i = el s.args i)) (fun x=>∀ p,x = .inl p->∀ i,i < s.args.length->(el s.args i = -1->el z i = p) ∧ (el s.args i ≠ -1->el z i = el s.args i)) ?_ ?_ (-1) (fun i hi=>by omega)
 ·intro k p hk hI
  have hkz:k < z.length:=by omega
  simp only [jG,nM,rQ,tN hk,Ë,fW _ _ hk,À,ć,PZ z k _ hkz,beq_iff_eq,bne_iff_ne,ne_eq,b5 (show k < 9223372036854775807 by omega)]
  have ext:∀ p',(∀ i,i < k->el s.args i = -1->el z i = p')->((el s.args k = -1->el z k = p') ∧ (el s.args k ≠ -1->el z k = el s.args k))->∀ i,i < k + 1->(el s.args i = -1->el z i = p') ∧ (el s.args i ≠ -1->el z i = el s.args i):=by
   intro p' h1 h2 i hi
   by_cases e:i = k
   ·rw [e]; exact h2
   ·exact ⟨h1 i (by omega),(hI i (by omega)).2⟩
  by_cases ha:el s.args k = -1
  ·simp only [ha,Ë]
   by_cases hp:p = -1
   ·simp only [hp,Ë,not_true_eq_false,È,À,û]
    refine .inl ⟨el z k,rfl,ext _ (fun i hi e=>?_) ⟨fun _=>rfl,fun h=>absurd ha h⟩⟩
    have:=(hI i hi).1 e
    exact absurd (this.trans hp) (hz i (by omega))
   ·simp only [hp,È]
    by_cases hq:el z k = p
    ·simp only [hq,not_true_eq_false,È,À,û]
     exact .inl ⟨p,rfl,ext _ (fun i hi e=>(hI i hi).1 e) ⟨fun _=>hq,fun h=>absurd ha h⟩⟩
    ·simp only [hq,not_false_eq_true,Ë,À,Sum.elim_inr]
     exact .inr ⟨_,rfl,fun p h=>by simp at h⟩
  ·simp only [ha,È]
   by_cases hq:el z k = el s.args k
   ·simp only [hq,not_true_eq_false,È,À,û]
    exact .inl ⟨p,rfl,ext _ (fun i hi e=>(hI i hi).1 e) ⟨fun h=>absurd h ha,fun _=>hq⟩⟩
   ·simp only [hq,not_false_eq_true,Ë,À,Sum.elim_inr]
    exact .inr ⟨_,rfl,fun p h=>by simp at h⟩
 ·intro p hI
  simp only [jG,wR,È]
  exact ⟨_,rfl,fun q h=>by cases h; exact hI⟩
theorem XH {α:Type} [Inhabited α] {l:List α} {i j:Nat} {x:α} (h:i < l.length):el (l.set i x) j = if i = j then x else el l j:=by
 unfold el
 by_cases e:i = j
 ·subst e; simp [List.getD,h]
 ·simp [List.getD,e]
theorem Q5:∀ (d n:Nat) (t:aF),d <= n->I2 d t <= 60->∃ k e,L1 n t = some (k,e) ∧ (e = 0->aDW d t k)
 | 0,n,t,_,h=>by simp [I2] at h
 | d + 1,n,t,hn,hs=>by
  obtain ⟨n,rfl⟩ : ∃ k,n = k + 1:=⟨n - 1,by omega⟩
  letI:RecF60:=⟨L1 n⟩
  show ∃ k e,yT t = _ ∧ _
  have hs' : (t.Args.map (I2 d)).sum <= 59:=by simp only [I2] at hs; omega
  have hlen:t.Args.length <= 59:=ó (XV d _) hs'
  obtain ⟨x,hx,hq⟩:=FG (step:=fun (w:Int × List Int)=>jB t w.1 w.2) (fun k (z:List Int)=>((k:Int),z)) t.Args.length
   (fun k z=>z.length = t.Args.length ∧ ∀ i,i < k->aDW d (el t.Args i) (el z i)) (fun x=>(∃ z,x = .inl z ∧ z.length = t.Args.length ∧ ∀ i,i < t.Args.length->aDW d (el t.Args i) (el z i)) ∨ ∃ e,x = .inr e ∧ e ≠ 0) (by
   intro k z hk ⟨h1,h2⟩
   obtain ⟨kk,e,he,hg⟩:=Q5 d n (el t.Args k) (by omega) (ó (YW (GK _ _ hk)) (by omega))
   have hrun:RecF60.run (el t.Args k) = some (kk,e):=he
   simp only [jB,tN hk,Ë,fW _ _ hk,À,hrun,bne_iff_ne,ne_eq,ć,PZ z k _ (show k < z.length by omega),b5 (show k < 9223372036854775807 by omega)]
   by_cases h0:e = 0
   ·rw [Ã (by simpa using h0)]
    refine .inl ⟨z.set k kk,rfl,by simp [h1],fun i hi=>?_⟩
    rw [XH (by omega)]
    by_cases ei:k = i
    ·subst ei; rw [Â rfl]; exact hg h0
    ·rw [Ã ei]; exact h2 i (by omega)
   ·rw [Â h0]
    exact .inr ⟨_,rfl,.inr ⟨e,rfl,h0⟩⟩) (by
   intro z ⟨h1,h2⟩
   simp only [jB,wR,È]
   exact ⟨_,rfl,.inl ⟨z,rfl,h1,h2⟩⟩) (List.replicate t.Args.length 0) ⟨by simp,fun i hi=>by omega⟩
  have hx' : wH t 0 (List.replicate ((t.Args.length:Int).toNat) 0) = some x:=hx
  unfold yT
  rw [Â (by omega),hx']
  rcases hq with ⟨z,rfl,hz1,hz2⟩ | ⟨e,rfl,he⟩
  rotate_left
  ·exact ⟨_,_,rfl,fun h=>absurd h he⟩
  simp only [À,û]
  by_cases ho1:t.Op < 0
  ·rw [Â (ö ho1)]; exact ⟨_,_,rfl,fun h=>by omega⟩
  rw [Ã (by simpa using ho1)]
  by_cases ho2:t.Op > 13
  ·rw [Â (ö ho2)]; exact ⟨_,_,rfl,fun h=>by omega⟩
  rw [Ã (by simpa using ho2)]
  by_cases hlf:t.Op = 0 ∨ t.Op = 1 ∨ t.Op = 2
  ·obtain ⟨k,e,hke,hgood⟩:=aFG t hlf
   have hj:lL t z = some (.inr (k,e)):=by
    unfold lL
    rcases hlf with h | h | h <;> simp [h,hke]
   rw [hj]
   exact ⟨k,e,rfl,fun h0=>⟨(hgood h0).1,.inl (hgood h0).2⟩⟩
  ·have hop:3 <= t.Op ∧ t.Op <= 13:=by omega
   have hj:lL t z = some (.inl ()):=by
    unfold lL
    rw [Ã (by simp; omega),Ã (by simp; omega),Ã (by simp; omega)]
   obtain ⟨s,hse,hsr,hsa⟩:=aCm t.Op hop
   rw [hj]
   simp only [À,û,hse]
   by_cases hl:(z.length:Int) = (s.args.length:Int)
   rotate_left
   ·rw [Â (by simpa using hl)]; exact ⟨_,_,rfl,fun h=>by omega⟩
   rw [Ã (by simp [hl])]
   by_cases hN:t.N = 0
   rotate_left
   ·rw [Â (by simpa using hN)]; exact ⟨_,_,rfl,fun h=>by omega⟩
   rw [Ã (by simp [hN])]
   have hz3:∀ i,i < t.Args.length->el z i = 0 ∨ el z i = 1:=fun i hi=>aHU (hz2 i hi)
   obtain ⟨y,hy,hp⟩:=aBJ s z (by omega) (by omega) (fun i hi=>by rcases hz3 i (by omega) with a | a <;> omega)
   rw [hy]
   cases y with
   | inr u=>exact ⟨_,_,rfl,fun h=>by omega⟩
   | inl p =>
    have hp:=hp p rfl
    simp only [À,û]
    rcases hsa with ⟨a1,a2⟩ | ⟨a1,a2,a3⟩ | ⟨a1,a2,a3,a4⟩
    ·have hr:¬ (s.result == -1) = true:=by simp; omega
     rw [Ã hr]
     exact ⟨_,_,rfl,fun _=>⟨by omega,.inr ⟨hop.1,hop.2,z,hz1,hz2,.inl ⟨a1,by omega⟩⟩⟩⟩
    ·rw [Â (by simp [a3])]
     rw [a2] at hp hl
     have p0:=(hp 0 (by decide)).2 (by decide)
     have p1:=(hp 1 (by decide)).1 (by decide)
     have p2:=(hp 2 (by decide)).1 (by decide)
     have hl3:t.Args.length = 3:=by simp at hl; omega
     refine ⟨_,_,rfl,fun _=>⟨?_,.inr ⟨hop.1,hop.2,z,hz1,hz2,.inr (.inl ⟨a1,hl3,p0,p1,p2⟩)⟩⟩⟩
     rw [← p1]; exact hz3 1 (by omega)
    ·have hr:¬ (s.result == -1) = true:=by simp; omega
     rw [Ã hr]
     exact ⟨_,_,rfl,fun _=>⟨by omega,.inr ⟨hop.1,hop.2,z,hz1,hz2,.inr (.inr ⟨a1,a2,by omega,a4⟩)⟩⟩⟩
theorem RD (t:aF):∃ k e,sY t = some (k,e) ∧ (e = 0->aDW 8 t k ∧ I2 8 t <= 60):=by
 obtain ⟨m,hm,_,hz⟩:=TH 8 1000 t (by omega) (by omega)
 have hm' : BB t 1 = some (m:Int):=hm
 unfold sY
 rw [hm']
 simp only [À]
 by_cases h:(m:Int) > 60
 ·rw [Â (ö h)]; exact ⟨_,_,rfl,fun h=>by omega⟩
 ·rw [Ã (by simpa using h)]
  have hs:I2 8 t <= 60:=by rw [hz (by omega)]; omega
  obtain ⟨k,e,he,hg⟩:=Q5 8 1000 t (by omega) hs
  have he' : EC t = some (k,e):=he
  rw [he']
  exact ⟨k,e,rfl,fun h0=>⟨hg h0,hs⟩⟩
end Go.Proofs.YtoefdnkjcfoccaaDoor
