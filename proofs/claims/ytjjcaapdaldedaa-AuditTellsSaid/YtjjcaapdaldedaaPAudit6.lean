/- The reference's law of a question answers as the program's (the same texts as for law 19). -/
import Derived.Test.YtjjcaapdaldedaaPAudit5
set_option linter.unusedVariables false
set_option linter.unusedSimpArgs false
namespace Go.Proofs.Ytjjcaapdaldedaa
open Go.RowKit Vm
theorem RP (r:aA) (pl:List Int) (hn:r.Orders.length < 50) (hp:pl.length < 9223372036854775807):∃ b,iD r pl = some b ∧ (b = true ↔ pl.length = 5 ∧ ∀ i,i < 5->0 <= el pl i ∧ el pl i < r.Orders.length):=by
 unfold iD
 obtain ⟨z,hz,q1,q2⟩:=lD (step:=fun w=>dX r pl w) (fun i=>(i:Int)) pl.length (fun i=>0 <= el pl i ∧ el pl i < r.Orders.length) (fun z=>(z = .inl ()->∀ i,i < pl.length->0 <= el pl i ∧ el pl i < r.Orders.length) ∧ (z = .inr ()->¬ ∀ i,i < pl.length->0 <= el pl i ∧ el pl i < r.Orders.length)) (by
  intro i hi
  simp only [dX,hZ hi,if_true,bQ _ _ hi,Option.bind_some,aS (show i < 9223372036854775807 by omega),m9,iA (show -9223372036854775808 <= (r.Orders.length:Int) - 1 by omega) (by omega)]
  by_cases h:0 <= el pl i ∧ el pl i < r.Orders.length
  ·exact .inl ⟨by rw [decide_eq_true (show 0 <= el pl i ∧ el pl i <= (r.Orders.length:Int) - 1 by omega)]; rfl,h⟩
  ·exact .inr ⟨.inr (),by rw [decide_eq_false (show ¬ (0 <= el pl i ∧ el pl i <= (r.Orders.length:Int) - 1) by omega)]; rfl,fun _=>⟨(fun h=>nomatch h),fun _ hh=>h (hh i hi)⟩⟩) (by
  refine ⟨.inl (),?_,fun h=>⟨fun _=>h,fun h=>nomatch h⟩⟩
  simp only [dX,jG,if_false])
 have hz' : nL r pl 0 = some z:=hz
 rw [hz']
 cases z with
 | inr u=>exact ⟨false,rfl,by
   simp only [Bool.false_eq_true,false_iff]
   rintro ⟨h1,h2⟩
   exact q2 rfl (by rw [h1]; exact h2)⟩
 | inl u=>exact ⟨((pl.length:Int) == 5),rfl,by
   simp only [beq_iff_eq]
   exact ⟨fun h=>⟨by omega,fun i hi=>q1 rfl i (by omega)⟩,fun h=>by omega⟩⟩
theorem aCs {l:List Int} {lo hi:Int} (h:Ris l lo hi):∀ (d i:Nat),i + d + 1 < l.length->el l i < el l (i + d + 1)
 | 0,i,hi=>by
  have:=(h (i + 1) (by omega)).2.2 (by omega)
  simpa using this
 | d + 1,i,hi=>by
  have h1:=aCs h d i (by omega)
  have h2:=(h (i + d + 2) (by omega)).2.2 (by omega)
  rw [show i + d + 2 - 1 = i + d + 1 by omega] at h2
  rw [show i + (d + 1) + 1 = i + d + 2 by omega]
  omega
theorem aNs {l:List Int} {lo hi:Int} (h:Ris l lo hi) {i j:Nat} (hi' : i < l.length) (hj:j < l.length) (e:el l i = el l j):i = j:=by
 rcases (by omega:i = j ∨ i < j ∨ j < i) with q | q | q
 ·exact q
 ·have:=aCs h (j - i - 1) i (by omega)
  rw [show i + (j - i - 1) + 1 = j by omega] at this
  omega
 ·have:=aCs h (i - j - 1) j (by omega)
  rw [show j + (i - j - 1) + 1 = i by omega] at this
  omega
def vQ (cs:List aM) (ask:Int):aM:=eK (fun i=>if (el cs i).Ask = ask then some (el cs i) else none) ⟨ask,0,false⟩ 0 cs.length
theorem aEI (o:aG) (ask:Int) (h:o.Choices.length <= 40):jR o ask = some (vQ o.Choices ask):=by
 unfold jR
 have hloop:m4 o ask 0 = some (eK (fun i=>if (el o.Choices i).Ask = ask then some (.inr (el o.Choices i)) else none) (.inl ()) 0 o.Choices.length):=by
  refine DU (step:=fun w=>dU o ask w) (fun i=>(i:Int)) _ _ _ ?_ ?_
  ·intro i hi
   simp only [dU,hZ hi,if_true,bQ _ _ hi,Option.bind_some,aS (show i < 9223372036854775807 by omega),beq_iff_eq]
   by_cases h1:(el o.Choices i).Ask = ask
   ·rw [if_pos h1,if_pos h1]
   ·rw [if_neg h1,if_neg h1]
  ·simp only [dU,jG,if_false]
 rw [hloop]
 simp only [Option.bind_some]
 have key:∀ (m k:Nat),Sum.elim (fun _=>some (aM.mk ask 0 false)) (fun z7=>some z7) (eK (fun i=>if (el o.Choices i).Ask = ask then some (Sum.inr (el o.Choices i)) else none) (Sum.inl ()) k m) = some (eK (fun i=>if (el o.Choices i).Ask = ask then some (el o.Choices i) else none) ⟨ask,0,false⟩ k m):=by
  intro m
  induction m with
  | zero=>intro k; rfl
  | succ m ih =>
   intro k
   simp only [eK]
   by_cases h:(el o.Choices k).Ask = ask
   ·rw [if_pos h,if_pos h]; rfl
   ·rw [if_neg h,if_neg h]; exact ih (k + 1)
 exact key _ 0
theorem aAj (cs:List aM) (ask:Int) (pl:List Int) (o:Int) (h:Ris (cs.map (·.Ask)) 0 21):K6 cs ask pl o = if (vQ cs ask).By = 0 then (o,false) else (el pl (vQ cs ask).By.toNat,(vQ cs ask).Whole):=by
 have inj:∀ i j,i < cs.length->j < cs.length->(el cs i).Ask = (el cs j).Ask->i = j:=fun i j hi hj e=>by
  refine aNs h (by simpa using hi) (by simpa using hj) ?_
  rw [oO _ _ (by simpa using hi),oO _ _ (by simpa using hj),List.getElem_map,List.getElem_map,← oO cs i hi,← oO cs j hj]
  exact e
 unfold K6 vQ
 rcases A5 (fun i=>if (el cs i).Ask = ask then some (el cs i) else none) ⟨ask,0,false⟩ cs.length 0 with ⟨h1,h2⟩ | ⟨i,x,h1,h2,h3,h4,h5⟩
 ·rw [h1,if_pos rfl]
  refine KT _ _ fun i hi1 hi2=>?_
  have:=h2 i hi1 hi2
  split at this
  ·cases this
  ·rename_i hne
   rw [if_neg (fun q=>hne q.1)]
 ·rw [h4]
  split at h3
  ·rename_i ha
   cases h3
   by_cases hb:(el cs i).By = 0
   ·rw [if_pos hb]
    refine KT _ _ fun j hj1 hj2=>?_
    rw [if_neg]
    rintro ⟨q1,q2⟩
    have:=inj j i (by omega) (by omega) (q1.trans ha.symm)
    subst this
    exact q2 hb
   ·rw [if_neg hb]
    rcases A5 (fun i=>if (el cs i).Ask = ask ∧ (el cs i).By ≠ 0 then some (el pl (el cs i).By.toNat,(el cs i).Whole) else none) (o,false) cs.length 0 with ⟨g1,g2⟩ | ⟨j,y,g1,g2,g3,g4,g5⟩
    ·have:=g2 i h1 h2
     rw [if_pos ⟨ha,hb⟩] at this
     cases this
    ·rw [g4]
     split at g3
     ·rename_i hj
      have:=inj j i (by omega) (by omega) (hj.1.trans ha.symm)
      subst this
      cases g3
      rfl
     ·cases g3
  ·cases h3
def QQ (r:aA):Prop:=∀ i,i < r.Orders.length->Ris ((el r.Orders i).Choices.map (·.Ask)) 0 21
theorem aHe (r:aA) (h:VB r):QQ r:=fun i hi=>(h.orders.2 i hi).ask
theorem Y5 (r:aA) (o ask:Int) (pl:List Int) (hb:QY r) (ha:QQ r) (hn:r.Orders.length < 50) (hf:BG r o ask pl):k8 r o ask pl = some (bW r ask pl o):=by
 obtain ⟨f1,f2,f3,f4,f5,f6⟩:=hf
 obtain ⟨b,e,q⟩:=RP r pl hn (by omega)
 obtain rfl:b = true:=q.2 ⟨f5,f6⟩
 unfold k8
 have ho:o.toNat < r.Orders.length:=by omega
 obtain ⟨hl,hby⟩:=hb o.toNat ho
 rw [e,tK r.Orders o f1 (by omega),iA (show -9223372036854775808 <= (r.Orders.length:Int) - 1 by omega) (by omega)]
 simp only [Option.bind_some,m9,aEI _ ask hl,decide_eq_true (show 0 <= o ∧ o <= (r.Orders.length:Int) - 1 by omega),decide_eq_true (show 0 <= ask ∧ ask <= 21 by omega),Bool.not_true,Bool.false_eq_true,if_false,beq_iff_eq]
 unfold bW
 rw [aAj _ ask pl o (ha o.toNat ho)]
 by_cases h0:(vQ (el r.Orders o.toNat).Choices ask).By = 0
 ·rw [if_pos h0,if_pos h0]
 ·rw [if_neg h0,if_neg h0]
  have hin:0 <= (vQ (el r.Orders o.toNat).Choices ask).By ∧ (vQ (el r.Orders o.toNat).Choices ask).By < 5:=by
   unfold vQ at h0 ⊢
   rcases A5 (fun i=>if (el (el r.Orders o.toNat).Choices i).Ask = ask then some (el (el r.Orders o.toNat).Choices i) else none) ⟨ask,0,false⟩ (el r.Orders o.toNat).Choices.length 0 with ⟨h1,h2⟩ | ⟨i,x,h1,h2,h3,h4,h5⟩
   ·rw [h1] at h0; exact absurd rfl h0
   ·rw [h4]
    split at h3
    ·cases h3; exact hby i (by omega)
    ·cases h3
  rw [tK pl _ hin.1 (by omega)]
  rfl
def R4 (n:Nat) (seen:List Bool) (p:List Int):Prop:=seen.length = n ∧ ∀ x:Int,0 <= x->x < (n:Int)->seen[x.toNat]? = some (decide (x ∈ p))
theorem R4.next {n:Nat} {seen:List Bool} {p:List Int} (h:R4 n seen p) {y:Int} (hy:0 <= y ∧ y < (n:Int)):R4 n (seen.set y.toNat true) (p ++ [y]):=by
 refine ⟨by simpa using h.1,fun x h0 h1=>?_⟩
 by_cases e:x = y
 ·subst e
  rw [List.getElem?_set_self (by have:=h.1; omega)]
  simp
 ·rw [List.getElem?_set_ne (by omega),h.2 x h0 h1]
  simp [e]
theorem aIM (r:aA) (ask:Int) (pl:List Int) (hb:QY r) (hA:QQ r) (hn:r.Orders.length < 50) (ha:0 <= ask ∧ ask < 22) (hp:pl.length = 5 ∧ ∀ i,i < 5->0 <= el pl i ∧ el pl i < r.Orders.length) :
  ∀ (k:Nat) (p:List Int) (seen:List Bool),p ≠ []->p.Nodup->(∀ x ∈ p,0 <= x ∧ x < (r.Orders.length:Int))->R4 r.Orders.length seen p->r.Orders.length + 1 = p.length + k->mT r ask pl ((p.length - 1:Nat):Int) seen p = some (.inr (NI (bW r ask pl) (qV r) k p)):=by
 intro k
 induction k with
 | zero =>
  intro p seen hp0 hd hin hso hk
  have:=sE _ p hd hin
  omega
 | succ k ih =>
  intro p seen hp0 hd hin hso hk
  have hlen:0 < p.length:=by cases p with
   | nil=>exact absurd rfl hp0
   | cons x l=>simp
  have hle:=sE _ p hd hin
  have e1:IntKind.wrap .i64 ((p.length:Int) - 1) = ((p.length - 1:Nat):Int):=by rw [iA (by omega) (by omega)]; omega
  have hlast:el p (p.length - 1) ∈ p:=JG p _ (by omega)
  have hfq:BG r (el p (p.length - 1)) ask pl:=⟨(hin _ hlast).1,(hin _ hlast).2,ha.1,ha.2,hp.1,hp.2⟩
  have hnx:=XK r _ ask pl hb hfq
  have hstep:iQ r ask pl ((p.length - 1:Nat):Int) seen p = some (if (bW r ask pl (el p (p.length - 1))).1 = el p (p.length - 1) then .inr (.inr (0,p))
    else if (bW r ask pl (el p (p.length - 1))).2 = false then .inr (.inr (0,p ++ [(bW r ask pl (el p (p.length - 1))).1]))
    else if (bW r ask pl (el p (p.length - 1))).1 ∈ p then (if qV r (bW r ask pl (el p (p.length - 1))).1 = true then .inr (.inr (0,p ++ [(bW r ask pl (el p (p.length - 1))).1])) else .inr (.inr (12,p ++ [(bW r ask pl (el p (p.length - 1))).1])))
    else .inl (((p.length:Nat):Int),seen.set (bW r ask pl (el p (p.length - 1))).1.toNat true,p ++ [(bW r ask pl (el p (p.length - 1))).1])):=by
   unfold iQ
   have e2:p[((p.length - 1:Nat):Int).toNat]? = some (el p (p.length - 1)):=by
    rw [Int.toNat_natCast,List.getElem?_eq_getElem (by omega),oO p _ (by omega)]
   have e3:IntKind.wrap .i64 (((p.length - 1:Nat):Int) + 1) = (p.length:Int):=by rw [iA (by omega) (by omega)]; omega
   have e4:(0 <= ((p.length - 1:Nat):Int) ∧ ((p.length - 1:Nat):Int).toNat < p.length) = True:=by simp; omega
   have e5:(decide (((p.length - 1:Nat):Int) <= (r.Orders.length:Int)) = true) = True:=by simp; omega
   have e6:((p.length + 1) * 8 <= 140737488355328) = True:=by simp; omega
   simp only [e1,e2,e3,e4,e5,e6,if_true,Option.bind_some,Y5 r _ ask pl hb hA hn hfq,beq_iff_eq]
   generalize hL:bW r ask pl (el p (p.length - 1)) = L at hnx
   obtain ⟨nx,wh⟩:=L
   simp only at hnx ⊢
   by_cases h1:nx = el p (p.length - 1)
   ·rw [if_pos h1,if_pos h1]
   ·rw [if_neg h1,if_neg h1]
    cases wh with
    | false=>rfl
    | true =>
     have hs:=hso.2 nx hnx.1 hnx.2
     have hsl:(0 <= nx ∧ nx.toNat < seen.length) = True:=by have:=hso.1; simp; omega
     have hj:jS r ask pl ((p.length - 1:Nat):Int) seen p (nx,true) = some (if nx ∈ p then .inr () else .inl ()):=by
      unfold jS
      simp only [hs,hsl,if_true,Option.bind_some,decide_eq_true_eq]
      by_cases h2:nx ∈ p
      ·rw [if_pos h2,if_pos h2]
      ·rw [if_neg h2,if_neg h2]
     simp only [hs,hsl,hj,Bool.not_true,Bool.false_eq_true,if_false,Option.bind_some,if_true,Bool.true_eq_false]
     by_cases h2:nx ∈ p
     ·rw [tK r.Orders nx hnx.1 (by omega)]
      simp only [Option.bind_some,h2,decide_true,if_true,qV]
      by_cases h4:(el r.Orders nx.toNat).Accepts = true <;> simp [h4]
     ·simp [h2]
  unfold NI
  simp only
  by_cases h1:(bW r ask pl (el p (p.length - 1))).1 = el p (p.length - 1)
  ·rw [if_pos h1] at hstep ⊢
   exact fG hstep
  ·rw [if_neg h1] at hstep ⊢
   by_cases h2:(bW r ask pl (el p (p.length - 1))).2 = false
   ·rw [if_pos h2] at hstep ⊢
    exact fG hstep
   ·rw [if_neg h2] at hstep ⊢
    by_cases h3:(bW r ask pl (el p (p.length - 1))).1 ∈ p
    ·rw [if_pos h3] at hstep ⊢
     by_cases h4:qV r (bW r ask pl (el p (p.length - 1))).1 = true
     ·rw [if_pos h4] at hstep ⊢; exact fG hstep
     ·rw [if_neg h4] at hstep ⊢; exact fG hstep
    ·rw [if_neg h3] at hstep ⊢
     have hgo:=ih (p ++ [(bW r ask pl (el p (p.length - 1))).1]) (seen.set (bW r ask pl (el p (p.length - 1))).1.toNat true) (by simp) (by
      rw [List.nodup_append]
      exact ⟨hd,by simp,fun x hx y hy=>by simp at hy; subst hy; exact fun e=>h3 (e ▸ hx)⟩) (by
      intro x hx
      rcases List.mem_append.1 hx with hx | hx
      ·exact hin x hx
      ·simp at hx; subst hx; exact hnx) (hso.next hnx) (by simp; omega)
     rw [show (p ++ [(bW r ask pl (el p (p.length - 1))).1]).length - 1 = p.length by simp] at hgo
     exact (l9 hstep).trans hgo
theorem aDl (r:aA) (forum ask:Int) (pl:List Int) (hb:QY r) (hA:QQ r) (hn:r.Orders.length < 50) (hf:BG r forum ask pl) (h0:el pl 0 = forum):iZ r forum ask pl = some ((kL r forum ask pl).2,(kL r forum ask pl).1):=by
 obtain ⟨f1,f2,f3,f4,f5,f6⟩:=hf
 obtain ⟨b,e,q⟩:=RP r pl hn (by omega)
 obtain rfl:b = true:=q.2 ⟨f5,f6⟩
 unfold iZ
 have e0:at? pl 0 = some (el pl 0):=bQ pl 0 (by omega)
 have hso:R4 r.Orders.length ((List.replicate r.Orders.length false).set forum.toNat true) [forum]:=by
  have:R4 r.Orders.length (List.replicate r.Orders.length false) []:=⟨by simp,fun x h0 h1=>by rw [List.getElem?_replicate,if_pos (by omega)]; simp⟩
  exact this.next ⟨f1,f2⟩
 have hgo:=aIM r ask pl hb hA hn ⟨f3,f4⟩ ⟨f5,f6⟩ r.Orders.length [forum] _ (by simp) (by simp) (fun x hx=>by simp at hx; subst hx; exact ⟨f1,f2⟩) hso (by simp; omega)
 have hgo:mT r ask pl 0 ((List.replicate r.Orders.length false).set forum.toNat true) [forum] = _:=hgo
 rw [e,e0,iA (show -9223372036854775808 <= (r.Orders.length:Int) - 1 by omega) (by omega)]
 simp only [Option.bind_some,m9,decide_eq_true (show 0 <= forum ∧ forum <= (r.Orders.length:Int) - 1 by omega),decide_eq_true (show 0 <= ask ∧ ask <= 21 by omega),Bool.not_true,Bool.false_eq_true,if_false,h0,bne_self_eq_false,Int.toNat_natCast,List.length_replicate]
 rw [if_pos (by omega),if_pos ⟨f1,by omega⟩,hgo,List.getElem?_replicate,if_pos (by omega)]
 rfl
theorem aA6 (r:aA) (forum ask:Int) (pl:List Int) (hn:r.Orders.length < 50) (hp:pl.length < 9223372036854775807) (hf:¬ (BG r forum ask pl ∧ el pl 0 = forum)):iZ r forum ask pl = some ([],1):=by
 obtain ⟨b,e,q⟩:=RP r pl hn hp
 unfold iZ
 rw [e,iA (show -9223372036854775808 <= (r.Orders.length:Int) - 1 by omega) (by omega)]
 cases b with
 | false=>rfl
 | true =>
  have q:=q.1 rfl
  have e0:at? pl 0 = some (el pl 0):=bQ pl 0 (by omega)
  simp only [Option.bind_some,m9,Bool.not_true,Bool.false_eq_true,if_false,e0]
  by_cases h1:0 <= forum ∧ forum <= (r.Orders.length:Int) - 1
  ·by_cases h2:0 <= ask ∧ ask <= 21
   ·have h3:el pl 0 ≠ forum:=fun h=>hf ⟨⟨h1.1,by omega,h2.1,by omega,q⟩,h⟩
    simp [h1,h2,h3]
   ·simp [h1,h2]
  ·simp [h1]
end Go.Proofs.Ytjjcaapdaldedaa
