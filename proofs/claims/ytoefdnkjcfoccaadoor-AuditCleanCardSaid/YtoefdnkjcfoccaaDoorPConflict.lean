/- Lemmas on the answers. -/
import Derived.Test.YtoefdnkjcfoccaaDoorPRealm
namespace Go.Proofs.YtoefdnkjcfoccaaDoor
open Go.RowKit Vm
theorem BU:∀ (n:Nat) (l:List Int),l.Nodup->(∀ x ∈ l,0 <= x ∧ x < (n:Int))->l.length <= n
 | 0,l,_,h=>by
  cases l with
  | nil=>simp
  | cons x l=>have:=h x (by simp); omega
 | n + 1,l,hd,h=>by
  by_cases hm:(n:Int) ∈ l
  ·have h1:=BU n (l.erase (n:Int)) (hd.erase _) (fun x hx=>by
    have hx':=(hd.mem_erase_iff).1 hx
    have:=h x hx'.2
    have hne:=hx'.1
    omega)
   rw [List.length_erase_of_mem hm] at h1
   omega
  ·have h1:=BU n l hd (fun x hx=>by
    have:=h x hx
    have hne:x ≠ (n:Int):=fun e=>hm (e ▸ hx)
    omega)
   omega
theorem AH (l:List Int) (x:Int) (hl:l.length < 9223372036854775807):b6 l x = some (decide (x ∈ l)):=by
 unfold b6 j8
 obtain ⟨z,hz,q1,q2⟩:=kI (step:=fun w=>dK l x w) (fun i=>(i:Int)) l.length (fun i=>el l i ≠ x) (fun z=>(z = .inl ()->∀ i,i < l.length->el l i ≠ x) ∧ ∀ k,z = .inr k->0 <= k ∧ x ∈ l) (by
  intro i hi
  simp only [dK,tN hi,Ë,fW _ _ hi,À,b5 (show i < 9223372036854775807 by omega),beq_iff_eq]
  by_cases h:x = el l i
  ·exact .inr ⟨.inr (i:Int),by rw [Â h],fun _=>⟨(fun h=>nomatch h),fun k e=>by cases e; exact ⟨by omega,h ▸ GK l i hi⟩⟩⟩
  ·exact .inl ⟨by rw [Ã h],fun e=>h e.symm⟩) (by
  refine ⟨.inl (),?_,fun h=>⟨fun _=>h,fun e h=>nomatch h⟩⟩
  simp only [dK,wR,È])
 have hz' : kM l x 0 = some z:=hz
 rw [hz']
 cases z with
 | inl u =>
  have:x ∉ l:=fun hm=>by
   obtain ⟨i,hi,e⟩:=aR2 hm
   exact q1 rfl i hi e
  simp [this]
 | inr k =>
  obtain ⟨h1,h2⟩:=q2 k rfl
  simp [h1,h2]
theorem aGC (l:List Int) (n:Int) (hl:l.length < 9223372036854775807):∃ b,dA l n = some b ∧ (b = false ↔ ∀ i,i < l.length->0 <= el l i ∧ el l i < n):=by
 unfold dA fA
 obtain ⟨z,hz,q1,q2⟩:=kI (step:=fun w=>bZ l n w) (fun i=>(i:Int)) l.length (fun i=>0 <= el l i ∧ el l i < n) (fun z=>(z = .inl ()->∀ i,i < l.length->0 <= el l i ∧ el l i < n) ∧ ∀ k,z = .inr k->0 <= k ∧ ¬ ∀ i,i < l.length->0 <= el l i ∧ el l i < n) (by
  intro i hi
  simp only [bZ,lP,tN hi,Ë,fW _ _ hi,À,b5 (show i < 9223372036854775807 by omega),Ñ]
  by_cases h1:el l i < 0
  ·exact .inr ⟨.inr (i:Int),by simp [h1],fun _=>⟨(fun h=>nomatch h),fun k e=>by cases e; exact ⟨by omega,fun h=>by have:=h i hi; omega⟩⟩⟩
  by_cases h2:el l i ≥ n
  ·exact .inr ⟨.inr (i:Int),by simp [h1,h2],fun _=>⟨(fun h=>nomatch h),fun k e=>by cases e; exact ⟨by omega,fun h=>by have:=h i hi; omega⟩⟩⟩
  ·exact .inl ⟨by simp [h1,h2],by omega,by omega⟩) (by
  refine ⟨.inl (),?_,fun h=>⟨fun _=>h,fun e h=>nomatch h⟩⟩
  simp only [bZ,wR,È])
 have hz' : fV l n 0 = some z:=hz
 rw [hz']
 cases z with
 | inl u=>exact ⟨false,by simp,by simpa using q1 rfl⟩
 | inr k =>
  obtain ⟨h1,h2⟩:=q2 k rfl
  exact ⟨true,by simp [h1],by simp only [Bool.true_eq_false,false_iff]; exact h2⟩
def O4 (r:aB) (o ask:Int) (pl:List Int):Prop:=0 <= o ∧ o < r.Orders.length ∧ 0 <= ask ∧ ask < 22 ∧ pl.length = 5 ∧ ∀ i,i < 5->0 <= el pl i ∧ el pl i < r.Orders.length
theorem YH (r:aB) (o ask:Int) (pl:List Int) (hp:pl.length < 9223372036854775807):∃ b,mW r o ask pl = some b ∧ (b = true ↔ O4 r o ask pl):=by
 unfold mW O4
 simp only [Ñ]
 by_cases h1:o < 0
 ·exact ⟨false,by simp [h1],by simp; intros; omega⟩
 by_cases h2:o ≥ (r.Orders.length:Int)
 ·exact ⟨false,by simp [h1,h2],by simp; intros; omega⟩
 by_cases h3:ask < 0
 ·exact ⟨false,by simp [h1,h2,h3],by simp; intros; omega⟩
 by_cases h4:ask ≥ 22
 ·exact ⟨false,by simp [h1,h2,h3,h4],by simp; intros; omega⟩
 by_cases h5:pl.length = 5
 ·obtain ⟨b,e,q⟩:=aGC pl r.Orders.length hp
  refine ⟨!b,by simp [h1,h2,h3,h4,h5,e],?_⟩
  have hb:((!b) = true) ↔ (b = false):=by cases b <;> simp
  rw [hb,q,h5]
  exact ⟨fun h=>⟨by omega,by omega,by omega,by omega,rfl,h⟩,fun h=>h.2.2.2.2.2⟩
 ·refine ⟨false,?_,by simp; intros; omega⟩
  have:((pl.length:Int) != 5) = true:=by simp; omega
  simp [h1,h2,h3,h4,this]
def TR (cs:List aQ) (ask:Int) (pl:List Int) (o:Int):Int × Bool :=
 yO (fun i=>if (el cs i).Ask = ask ∧ (el cs i).By ≠ 0 then some (el pl (el cs i).By.toNat,(el cs i).Whole) else none) (o,false) 0 cs.length
def fS (r:aB) (ask:Int) (pl:List Int) (o:Int):Int × Bool:=TR (el r.Orders o.toNat).Choices ask pl o
def aIv (r:aB):Prop:=∀ i,i < r.Orders.length->(el r.Orders i).Choices.length <= 40 ∧ ∀ j,j < (el r.Orders i).Choices.length->0 <= (el (el r.Orders i).Choices j).By ∧ (el (el r.Orders i).Choices j).By < 5
theorem aIG (r:aB) (o ask:Int) (pl:List Int) (hb:aIv r) (hf:O4 r o ask pl):nK r o ask pl = some (fS r ask pl o):=by
 obtain ⟨b,e,q⟩:=YH r o ask pl (by have:=hf.2.2.2.2.1; omega)
 obtain rfl:b = true:=q.2 hf
 obtain ⟨f1,f2,f3,f4,f5,f6⟩:=hf
 unfold nK
 rw [e,xT r.Orders o f1 (by omega)]
 simp only [À,Bool.not_true,Æ,È]
 have ho:o.toNat < r.Orders.length:=by omega
 obtain ⟨hl,hby⟩:=hb o.toNat ho
 have hloop:qT o ask pl (el r.Orders o.toNat) 0 = some (yO (fun i=>if (el (el r.Orders o.toNat).Choices i).Ask = ask ∧ (el (el r.Orders o.toNat).Choices i).By ≠ 0 then some (.inr (el pl (el (el r.Orders o.toNat).Choices i).By.toNat,(el (el r.Orders o.toNat).Choices i).Whole)) else none) (.inl ()) 0 (el r.Orders o.toNat).Choices.length):=by
  refine aGO (step:=fun w=>fY o ask pl (el r.Orders o.toNat) w) (fun i=>(i:Int)) _ _ _ ?_ ?_
  ·intro i hi
   obtain ⟨b1,b2⟩:=hby i hi
   simp only [fY,tN hi,Ë,fW _ _ hi,À,b5 (show i < 9223372036854775807 by omega),beq_iff_eq,bne_iff_ne]
   by_cases h1:(el (el r.Orders o.toNat).Choices i).Ask = ask
   ·by_cases h2:(el (el r.Orders o.toNat).Choices i).By ≠ 0
    ·rw [Â h1,Â h2,xT pl _ b1 (by omega),Â ⟨h1,h2⟩]; rfl
    ·rw [Â h1,Ã h2,Ã (fun q=>h2 q.2)]
   ·rw [Ã h1,Ã (fun q=>h1 q.1)]
  ·simp only [fY,wR,È]
 rw [hloop]
 have key:∀ (m k:Nat),Sum.elim (fun _=>some (o,false)) (fun z10=>some (z10.1,z10.2)) (yO (fun i=>if (el (el r.Orders o.toNat).Choices i).Ask = ask ∧ (el (el r.Orders o.toNat).Choices i).By ≠ 0 then some (Sum.inr (el pl (el (el r.Orders o.toNat).Choices i).By.toNat,(el (el r.Orders o.toNat).Choices i).Whole)) else none) (Sum.inl ()) k m) = some (yO (fun i=>if (el (el r.Orders o.toNat).Choices i).Ask = ask ∧ (el (el r.Orders o.toNat).Choices i).By ≠ 0 then some (el pl (el (el r.Orders o.toNat).Choices i).By.toNat,(el (el r.Orders o.toNat).Choices i).Whole) else none) (o,false) k m):=by
  intro m
  induction m with
  | zero=>intro k; rfl
  | succ m ih =>
   intro k
   simp only [yO]
   by_cases h:(el (el r.Orders o.toNat).Choices k).Ask = ask ∧ (el (el r.Orders o.toNat).Choices k).By ≠ 0
   ·rw [Â h,Â h]; rfl
   ·rw [Ã h,Ã h]; exact ih (k + 1)
 exact key _ 0
theorem WH (r:aB) (o ask:Int) (pl:List Int) (hb:aIv r) (hf:O4 r o ask pl):0 <= (fS r ask pl o).1 ∧ (fS r ask pl o).1 < r.Orders.length:=by
 obtain ⟨f1,f2,f3,f4,f5,f6⟩:=hf
 unfold fS TR
 rcases OA (fun i=>if (el (el r.Orders o.toNat).Choices i).Ask = ask ∧ (el (el r.Orders o.toNat).Choices i).By ≠ 0 then some (el pl (el (el r.Orders o.toNat).Choices i).By.toNat,(el (el r.Orders o.toNat).Choices i).Whole) else none) (o,false) (el r.Orders o.toNat).Choices.length 0 with ⟨h,_⟩ | ⟨i,x,h1,h2,h3,h4,_⟩
 ·rw [h]; exact ⟨f1,by omega⟩
 ·rw [h4]
  split at h3
  ·cases h3
   have:=(hb o.toNat (by omega)).2 i (by omega)
   exact f6 _ (by omega)
  ·cases h3
def P4 (L:Int->Int × Bool) (acc:Int->Bool):Nat->List Int->Int × List Int
 | 0,p=>(99,p)
 | k + 1,p=>let last:=el p (p.length - 1)
  if (L last).1 = last then (0,p)
  else if (L last).2 = false then (0,p ++ [(L last).1])
  else if (L last).1 ∈ p then (if acc (L last).1 = true then (0,p ++ [(L last).1]) else (12,p ++ [(L last).1]))
  else P4 L acc k (p ++ [(L last).1])
def qC (r:aB) (o:Int):Bool:=(el r.Orders o.toNat).Accepts
theorem aIM (r:aB) (ask:Int) (pl:List Int) (hb:aIv r) (hn:r.Orders.length < 50) (ha:0 <= ask ∧ ask < 22) (hp:pl.length = 5 ∧ ∀ i,i < 5->0 <= el pl i ∧ el pl i < r.Orders.length) :
  ∀ (k:Nat) (p:List Int),p ≠ []->p.Nodup->(∀ x ∈ p,0 <= x ∧ x < (r.Orders.length:Int))->r.Orders.length + 1 = p.length + k->tU r ask pl p = some (P4 (fS r ask pl) (qC r) k p):=by
 intro k
 induction k with
 | zero =>
  intro p hp0 hd hin hk
  have:=BU _ p hd hin
  omega
 | succ k ih =>
  intro p hp0 hd hin hk
  have hlen:0 < p.length:=by cases p with
   | nil=>exact absurd rfl hp0
   | cons x l=>simp
  have hle:=BU _ p hd hin
  have e1:IntKind.wrap .i64 ((p.length:Int) - 1) = ((p.length - 1:Nat):Int):=by rw [CQ (by omega) (by omega)]; omega
  have hlast:el p (p.length - 1) ∈ p:=GK p _ (by omega)
  have hfq:O4 r (el p (p.length - 1)) ask pl:=⟨(hin _ hlast).1,(hin _ hlast).2,ha.1,ha.2,hp.1,hp.2⟩
  have hnx:=WH r _ ask pl hb hfq
  have hstep:kH r ask pl p = some (if (fS r ask pl (el p (p.length - 1))).1 = el p (p.length - 1) then .inr (0,p)
    else if (fS r ask pl (el p (p.length - 1))).2 = false then .inr (0,p ++ [(fS r ask pl (el p (p.length - 1))).1])
    else if (fS r ask pl (el p (p.length - 1))).1 ∈ p then (if qC r (fS r ask pl (el p (p.length - 1))).1 = true then .inr (0,p ++ [(fS r ask pl (el p (p.length - 1))).1]) else .inr (12,p ++ [(fS r ask pl (el p (p.length - 1))).1]))
    else .inl (p ++ [(fS r ask pl (el p (p.length - 1))).1])):=by
   unfold kH
   rw [e1,Â ⟨by omega,by omega⟩]
   have e2:p[((p.length - 1:Nat):Int).toNat]? = some (el p (p.length - 1)):=by
    rw [ć,Ü (by omega),C4 p _ (by omega)]
   rw [e2]
   simp only [À,aIG r _ ask pl hb hfq,AH p _ (by omega),beq_iff_eq]
   rw [Â (show (p.length + 1) * 8 <= 140737488355328 by omega)]
   generalize hL:fS r ask pl (el p (p.length - 1)) = L at hnx
   obtain ⟨nx,wh⟩:=L
   simp only at hnx ⊢
   by_cases h1:nx = el p (p.length - 1)
   ·rw [Â h1,Â h1]
   ·rw [Ã h1,Ã h1]
    cases wh with
    | false=>simp
    | true =>
     by_cases h2:nx ∈ p
     ·rw [xT r.Orders nx hnx.1 (by omega)]
      simp only [Bool.not_true,Æ,È,decide_true,Ë,h2,À,Bool.true_eq_false,qC]
      by_cases h4:(el r.Orders nx.toNat).Accepts = true <;> simp [h4]
     ·simp [h2]
  unfold P4
  simp only
  by_cases h1:(fS r ask pl (el p (p.length - 1))).1 = el p (p.length - 1)
  ·rw [Â h1] at hstep ⊢
   exact jP hstep
  ·rw [Ã h1] at hstep ⊢
   by_cases h2:(fS r ask pl (el p (p.length - 1))).2 = false
   ·rw [Â h2] at hstep ⊢
    exact jP hstep
   ·rw [Ã h2] at hstep ⊢
    by_cases h3:(fS r ask pl (el p (p.length - 1))).1 ∈ p
    ·rw [Â h3] at hstep ⊢
     by_cases h4:qC r (fS r ask pl (el p (p.length - 1))).1 = true
     ·rw [Â h4] at hstep ⊢; exact jP hstep
     ·rw [Ã h4] at hstep ⊢; exact jP hstep
    ·rw [Ã h3] at hstep ⊢
     refine (pH hstep).trans (ih _ (by simp) ?_ ?_ (by simp; omega))
     ·rw [List.nodup_append]
      exact ⟨hd,by simp,fun x hx y hy=>by simp at hy; subst hy; exact fun e=>h3 (e ▸ hx)⟩
     ·intro x hx
      rcases Ó.1 hx with hx | hx
      ·exact hin x hx
      ·simp at hx; subst hx; exact hnx
def NY (r:aB) (forum ask:Int) (pl:List Int):Int × List Int:=P4 (fS r ask pl) (qC r) r.Orders.length [forum]
theorem aRB (r:aB) (forum ask:Int) (pl:List Int) (hb:aIv r) (hn:r.Orders.length < 50) (hf:O4 r forum ask pl) (h0:el pl 0 = forum):kR r forum ask pl = some ((NY r forum ask pl).2,(NY r forum ask pl).1):=by
 obtain ⟨b,e,q⟩:=YH r forum ask pl (by have:=hf.2.2.2.2.1; omega)
 obtain rfl:b = true:=q.2 hf
 obtain ⟨f1,f2,f3,f4,f5,f6⟩:=hf
 unfold kR
 have e0:at? pl 0 = some (el pl 0):=fW pl 0 (by omega)
 rw [e,e0]
 simp only [À,h0,Bool.not_true,Æ,È,bne_self_eq_false]
 rw [aIM r ask pl hb hn ⟨f3,f4⟩ ⟨f5,f6⟩ r.Orders.length [forum] (by simp) (by simp) (fun x hx=>by simp at hx; subst hx; exact ⟨f1,f2⟩) (by simp; omega)]
 rfl
theorem aNg (r:aB) (forum ask:Int) (pl:List Int) (hp:pl.length < 9223372036854775807) (hf:¬ (O4 r forum ask pl ∧ el pl 0 = forum)):kR r forum ask pl = some ([],1):=by
 obtain ⟨b,e,q⟩:=YH r forum ask pl hp
 unfold kR
 rw [e]
 cases b with
 | false=>rfl
 | true =>
  have h1:=q.1 rfl
  have e0:at? pl 0 = some (el pl 0):=fW pl 0 (by have:=h1.2.2.2.2.1; omega)
  have h2:el pl 0 ≠ forum:=fun e=>hf ⟨h1,e⟩
  rw [e0]
  simp [h2]
end Go.Proofs.YtoefdnkjcfoccaaDoor
