/- Lemmas on the answers. -/
import Derived.Test.YtoefdnkjcfoccaaDoorPAudit7
import Derived.Test.YtoefdnkjcfoccaaDoorPTerm2
namespace Go.Proofs.YtoefdnkjcfoccaaDoor
open Go.RowKit Vm
theorem TB (r:aB) (q:Int) (P:List Int) (hb:aIv r) (ha:0 <= q ∧ q < 22) (hp:P.length = 5 ∧ ∀ i,i < 5->0 <= el P i ∧ el P i < (r.Orders.length:Int)) :
  ∀ (k:Nat) (p:List Int),p ≠ []->p.Nodup->(∀ x ∈ p,0 <= x ∧ x < (r.Orders.length:Int))->r.Orders.length + 1 = p.length + k ->
   ((P4 (fS r q P) (qC r) k p).1 = 0 ∨ (P4 (fS r q P) (qC r) k p).1 = 12) ∧ (P4 (fS r q P) (qC r) k p).2 ≠ [] ∧ (P4 (fS r q P) (qC r) k p).2.length <= p.length + k ∧ ∀ x ∈ (P4 (fS r q P) (qC r) k p).2,0 <= x ∧ x < (r.Orders.length:Int)
 | 0,p,hp0,hd,hin,hk=>by
  have:=BU _ p hd hin
  omega
 | k + 1,p,hp0,hd,hin,hk=>by
  have hlen:0 < p.length:=by cases p with
   | nil=>exact absurd rfl hp0
   | cons x l=>simp
  have hlast:el p (p.length - 1) ∈ p:=GK p _ (by omega)
  have hfq:O4 r (el p (p.length - 1)) q P:=⟨(hin _ hlast).1,(hin _ hlast).2,ha.1,ha.2,hp.1,hp.2⟩
  have hnx:=WH r _ q P hb hfq
  have hin' : ∀ x ∈ p ++ [(fS r q P (el p (p.length - 1))).1],0 <= x ∧ x < (r.Orders.length:Int):=by
   intro x hx
   rcases Ó.1 hx with hx | hx
   ·exact hin x hx
   ·simp at hx; subst hx; exact hnx
  have hne:p ++ [(fS r q P (el p (p.length - 1))).1] ≠ []:=by simp
  have hl1:(p ++ [(fS r q P (el p (p.length - 1))).1]).length = p.length + 1:=by simp
  unfold P4
  simp only
  by_cases h1:(fS r q P (el p (p.length - 1))).1 = el p (p.length - 1)
  ·rw [Â h1]; exact ⟨.inl rfl,hp0,by show p.length <= _; omega,hin⟩
  rw [Ã h1]
  by_cases h2:(fS r q P (el p (p.length - 1))).2 = false
  ·rw [Â h2]; exact ⟨.inl rfl,hne,by simp only [hl1]; omega,hin'⟩
  rw [Ã h2]
  by_cases h3:(fS r q P (el p (p.length - 1))).1 ∈ p
  ·rw [Â h3]
   by_cases h4:qC r (fS r q P (el p (p.length - 1))).1 = true
   ·rw [Â h4]; exact ⟨.inl rfl,hne,by simp only [hl1]; omega,hin'⟩
   ·rw [Ã h4]; exact ⟨.inr rfl,hne,by simp only [hl1]; omega,hin'⟩
  rw [Ã h3]
  obtain ⟨a,b,c,d⟩:=TB r q P hb ha hp k (p ++ [(fS r q P (el p (p.length - 1))).1]) hne (by
   rw [List.nodup_append]
   exact ⟨hd,by simp,fun x hx y hy=>by simp at hy; subst hy; exact fun e=>h3 (e ▸ hx)⟩) hin' (by simp; omega)
  exact ⟨a,b,by rw [hl1] at c; omega,d⟩
theorem aPD {r:aB} (h:(FC r).length = 0) {f q:Int} (hf:0 <= f ∧ f < (r.Orders.length:Int)) (hq:0 <= q ∧ q < 22):(HP r f q).1 = none ∧ (HP r f q).2 = none:=by
 have hnil:FC r = []:=List.length_eq_zero_iff.1 h
 have hf' : ((f.toNat:Nat):Int) = f:=by omega
 have hq' : ((q.toNat:Nat):Int) = q:=by omega
 have hmem:∀ x,x ∈ IC (HP r f q)->False:=by
  intro x hx
  have:x ∈ FC r:=by
   refine Î.2 ⟨f.toNat,č.2 (by omega),Î.2 ⟨q.toNat,č.2 (by omega),?_⟩⟩
   rw [hf',hq']; exact hx
  rw [hnil] at this
  cases this
 unfold IC at hmem
 constructor
 ·cases e:(HP r f q).1 with
  | none=>rfl
  | some x=>exact (hmem x (by simp [e])).elim
 ·cases e:(HP r f q).2 with
  | none=>rfl
  | some x=>exact (hmem x (by simp [e])).elim
theorem aBv (hs:gS = some true) (r:aB) (f q:Int) (P:List Int) (w:aB.wf r):iD r f q P = some true:=by
 unfold iD
 obtain ⟨b,e1,hb⟩:=aDi r
 rw [hs,e1]
 simp only [À]
 cases b with
 | false=>rfl
 | true =>
  obtain ⟨fw,hn⟩:=hb rfl
  simp only [Bool.not_true,Æ,È]
  by_cases h20:(P.length:Int) > 20
  ·rw [Â (ö h20)]
  rw [Ã (by simpa using h20)]
  obtain ⟨e,h1,hc,hr⟩:=aIA r fw w hn
  rw [aHy r fw w hn h1]
  simp only [À]
  by_cases h0:e = 0 ∧ (FC r).length = 0
  rotate_left
  ·have:(decide (e = 0) && decide ((FC r).length = 0)) = false:=by
    rw [Bool.and_eq_false_iff]
    by_cases q:e = 0
    ·exact .inr (Ķ fun z=>h0 ⟨q,z⟩)
    ·exact .inl (Ķ q)
   rw [this]; rfl
  obtain ⟨rfl,hz⟩:=h0
  rw [hz]
  simp only [decide_true,Bool.and_true,Bool.not_true,Æ,È]
  have hr:=hr rfl
  have ha:=V7 fw hr hn
  have hbo:=aJ2 fw hr
  by_cases hf:O4 r f q P ∧ el P 0 = f
  rotate_left
  ·rw [aNg r f q P (by omega) hf]; rfl
  obtain ⟨hf,hP0⟩:=hf
  rw [aRB r f q P hbo (by omega) hf hP0]
  obtain ⟨f1,f2,f3,f4,f5,f6⟩:=hf
  obtain ⟨a1,a2,a3,a4⟩:=TB r q P hbo ⟨f3,f4⟩ ⟨f5,f6⟩ r.Orders.length [f] (by simp) (by simp) (fun x hx=>by simp at hx; subst hx; exact ⟨f1,f2⟩) (by simp; omega)
  obtain ⟨nb1,nb2⟩:=aPD hz ⟨f1,f2⟩ ⟨f3,f4⟩
  have hsit:=fun e p hb hl=>aCk r ha f q ⟨f1,f2⟩ P f5 hP0 f6 e p hb hl
  change ((NY r f q P).1 = 0 ∨ (NY r f q P).1 = 12) at a1
  change (NY r f q P).2 ≠ [] at a2
  change (NY r f q P).2.length <= _ at a3
  change ∀ x ∈ (NY r f q P).2,_ at a4
  generalize hL:NY r f q P = L at a1 a2 a3 a4 hsit
  obtain ⟨e,p⟩:=L
  simp only at a1 a2 a3 a4 ⊢
  have he:e = 0:=by
   rcases a1 with a | a
   ·exact a
   ·obtain ⟨x,hx,_⟩:=hsit e p (.inl a) rfl
    rw [Â a,nb2] at hx; cases hx
  subst he
  have hru:j6 (el r.Orders (bW p).toNat) q = true:=by
   cases hq:j6 (el r.Orders (bW p).toNat) q with
   | true=>rfl
   | false =>
    obtain ⟨x,hx,_⟩:=hsit 0 p (.inr ⟨rfl,hq⟩) rfl
    rw [Ã (by decide),nb1] at hx; cases hx
  have hpl:0 < p.length:=by cases p with
   | nil=>exact absurd rfl a2
   | cons x l=>simp
  have hli:=a4 (bW p) (GK p _ (by omega))
  simp only [List.length_singleton] at a3
  have hlast:at? p (IntKind.wrap .i64 ((p.length:Int) - 1)) = some (bW p):=by
   rw [CQ (by omega) (by omega),xT p _ (by omega) (by omega)]
   have:((p.length:Int) - 1).toNat = p.length - 1:=by omega
   rw [this]; rfl
  have hord:=ha.cs (bW p).toNat (by omega)
  obtain ⟨c,g,hg,hge⟩:=aBl (el r.Orders (bW p).toNat) q ⟨f3,f4⟩ (by omega)
  have hge:=hge hru
  simp only [À]
  rw [Ã (by decide),Ã (by decide),Ã (by simp; intro q; simp [q] at hpl),hlast]
  simp only [À]
  rw [Ã (by simpa using hli.1),Ã (by simpa using hli.2),xT _ _ hli.1 hli.2]
  simp only [À,hg,Ë]
  rw [Â (by simpa using hge.1)]
  simp [hge.2]
end Go.Proofs.YtoefdnkjcfoccaaDoor
