/- Lemmas on the answers. -/
import Derived.Test.YtoefdnkjcfoccaaDoorPAudit6
namespace Go.Proofs.YtoefdnkjcfoccaaDoor
open Go.RowKit Vm
theorem WL (a b:Int):BF b a = -BF a b:=by
 unfold BF
 by_cases h1:a < b
 ·have h2:¬ b < a:=by omega
  simp [h1,h2]
 ·by_cases h2:b < a
  ·simp [h1,h2]
  ·have h3:¬ a > b:=by omega
   simp [h1,h2,h3]
theorem JP {a b:Int} (h:BF a b = 0):a = b:=by
 unfold BF at h
 split at h
 ·omega
 ·split at h <;> omega
theorem WI (a:Int):BF a a = 0:=by unfold BF; simp
theorem CZ {a b:Int}:BF a b < 0 ↔ a < b:=by
 unfold BF
 by_cases h1:a < b
 ·simp [h1]
 ·by_cases h2:a > b <;> simp [h1,h2]
theorem FQ:∀ a b:List Int,l9 b a = -l9 a b
 | [],[]=>rfl
 | [],_ :: _=>rfl
 | _ :: _,[]=>rfl
 | a :: p,b :: q=>by
  simp only [l9]
  have h:=WL a b
  by_cases h0:BF a b = 0
  ·rw [Â h0,Â (by omega),FQ p q]
  ·rw [Ã h0,Ã (by omega),h]
theorem JC:∀ {a b:List Int},l9 a b = 0->a = b
 | [],[],_=>rfl
 | [],_ :: _,h=>by simp [l9] at h
 | _ :: _,[],h=>by simp [l9] at h
 | a :: p,b :: q,h=>by
  simp only [l9] at h
  by_cases h0:BF a b = 0
  ·rw [Â h0] at h; rw [JP h0,JC h]
  ·rw [Ã h0] at h; exact absurd h h0
theorem PP:∀ a:List Int,l9 a a = 0
 | []=>rfl
 | a :: p=>by simp only [l9,WI,Ë]; exact PP p
theorem MM:∀ {a b c:List Int},l9 a b <= 0->l9 b c <= 0->l9 a c <= 0
 | [],_,[],_,_=>by simp [l9]
 | [],_,_ :: _,_,_=>by simp [l9]
 | _ :: _,[],_,h,_=>by simp [l9] at h
 | _ :: _,_ :: _,[],_,h=>by simp [l9] at h
 | a :: p,b :: q,c :: s,h1,h2=>by
  simp only [l9] at h1 h2 ⊢
  by_cases e1:BF a b = 0
  ·rw [Â e1] at h1
   obtain rfl:=JP e1
   by_cases e2:BF a c = 0
   ·rw [Â e2] at h2 ⊢; exact MM h1 h2
   ·rw [Ã e2] at h2 ⊢; exact h2
  ·rw [Ã e1] at h1
   have l1:a < b:=CZ.1 (by omega)
   by_cases e2:BF b c = 0
   ·obtain rfl:=JP e2
    rw [Ã e1]; exact h1
   ·rw [Ã e2] at h2
    have l2:b < c:=CZ.1 (by omega)
    have l3:BF a c < 0:=CZ.2 (by omega)
    rw [Ã (by omega)]; omega
def C7 (a b:aA):Int:=if a.Path.length ≠ b.Path.length then BF a.Path.length b.Path.length else if l9 a.Path b.Path ≠ 0 then l9 a.Path b.Path else l9 a.Places b.Places
theorem aJg (a b:aA):VO a b = decide (C7 a b < 0):=by
 unfold VO C7
 by_cases h1:a.Path.length = b.Path.length
 ·simp only [h1,ne_eq,not_true_eq_false,È]
  by_cases h2:l9 a.Path b.Path = 0
  ·simp only [h2,not_true_eq_false,È]
  ·simp only [h2,not_false_eq_true,Ë]
 ·simp only [h1,ne_eq,not_false_eq_true,Ë]
  congr 1
  rw [CZ,eq_iff_iff]
  omega
theorem aGN (a b:aA):C7 b a = -C7 a b:=by
 unfold C7
 by_cases h1:a.Path.length = b.Path.length
 ·simp only [h1,ne_eq,not_true_eq_false,È]
  have:=FQ a.Path b.Path
  by_cases h2:l9 a.Path b.Path = 0
  ·have h3:l9 b.Path a.Path = 0:=by omega
   simp only [h2,h3,not_true_eq_false,È]; exact FQ _ _
  ·have h3:¬ l9 b.Path a.Path = 0:=by omega
   simp only [h2,h3,not_false_eq_true,Ë]; exact this
 ·rw [Â (fun e=>h1 e.symm),Â h1,WL]
theorem FT (a:aA):C7 a a = 0:=by simp [C7,PP]
theorem AZ {a b c:aA} (h1:C7 a b <= 0) (h2:C7 b c <= 0):C7 a c <= 0:=by
 have len:∀ {x y:aA},C7 x y <= 0->x.Path.length <= y.Path.length:=by
  intro x y h
  unfold C7 at h
  by_cases e:x.Path.length = y.Path.length
  ·omega
  ·rw [Â e] at h
   by_cases e2:BF (x.Path.length:Int) (y.Path.length:Int) = 0
   ·have:=JP e2; omega
   ·have:=CZ.1 (show BF (x.Path.length:Int) (y.Path.length:Int) < 0 by omega); omega
 have l1:=len h1
 have l2:=len h2
 unfold C7 at h1 h2 ⊢
 by_cases e:a.Path.length = c.Path.length
 ·have e1:a.Path.length = b.Path.length:=by omega
  have e2:b.Path.length = c.Path.length:=by omega
  rw [Ã (by simp [e1])] at h1
  rw [Ã (by simp [e2])] at h2
  rw [Ã (by simp [e])]
  by_cases p1:l9 a.Path b.Path = 0
  ·rw [Ã (by simp [p1])] at h1
   have q1:=JC p1
   rw [q1]
   by_cases p2:l9 b.Path c.Path = 0
   ·rw [Ã (by simp [p2])] at h2 ⊢; exact MM h1 h2
   ·rw [Â p2] at h2 ⊢; exact h2
  ·rw [Â p1] at h1
   by_cases p2:l9 b.Path c.Path = 0
   ·have q2:=JC p2
    rw [← q2,Â p1]; exact h1
   ·rw [Â p2] at h2
    have h3:=MM h1 h2
    by_cases p3:l9 a.Path c.Path = 0
    ·have q3:=JC p3
     have:=FQ b.Path c.Path
     rw [← q3] at h2 this
     have hs:=FQ b.Path a.Path
     omega
    ·rw [Â p3]; exact h3
 ·rw [Â e]
  have:=CZ.2 (show (a.Path.length:Int) < (c.Path.length:Int) by omega)
  omega
theorem aFk (b:Option aA) (h:aA):∃ x,DH b h = some x ∧ C7 x h <= 0 ∧ ∀ y,b = some y->C7 x y <= 0:=by
 cases b with
 | none=>exact ⟨h,rfl,by rw [FT]; omega,fun y e=>nomatch e⟩
 | some y =>
  simp only [DH,aJg]
  by_cases e:C7 h y < 0
  ·rw [Â (ö e)]
   exact ⟨h,rfl,by rw [FT]; omega,fun z q=>by cases q; omega⟩
  ·rw [Ã (by simp; omega)]
   refine ⟨y,rfl,?_,fun z q=>by cases q; rw [FT]; omega⟩
   rw [aGN h y]; omega
theorem aEO:∀ (l:List aA) (bb:Option aA × Option aA),
  (∀ y,bb.1 = some y->∃ x,(rB bb l).1 = some x ∧ C7 x y <= 0) ∧ (∀ y,bb.2 = some y->∃ x,(rB bb l).2 = some x ∧ C7 x y <= 0) ∧
  ∀ h,h ∈ l->(h.Kind = 0->∃ x,(rB bb l).1 = some x ∧ C7 x h <= 0) ∧ (h.Kind ≠ 0->∃ x,(rB bb l).2 = some x ∧ C7 x h <= 0)
 | [],bb=>⟨fun y e=>⟨y,e,by rw [FT]; omega⟩,fun y e=>⟨y,e,by rw [FT]; omega⟩,fun h hm=>by cases hm⟩
 | g :: l,bb=>by
  obtain ⟨i1,i2,i3⟩:=aEO l (aDd bb g)
  have e:rB bb (g :: l) = rB (aDd bb g) l:=rfl
  rw [e]
  by_cases hk:g.Kind = 0
  ·have ha:aDd bb g = (DH bb.1 g,bb.2):=by unfold aDd; rw [Â hk]
   rw [ha] at i1 i2 i3 ⊢
   obtain ⟨z,z1,z2,z3⟩:=aFk bb.1 g
   obtain ⟨x,x1,x2⟩:=i1 z z1
   refine ⟨fun y q=>⟨x,x1,AZ x2 (z3 y q)⟩,i2,fun h hm=>?_⟩
   rcases Û.1 hm with rfl | hm
   ·exact ⟨fun _=>⟨x,x1,AZ x2 z2⟩,fun q=>absurd hk q⟩
   ·exact i3 h hm
  ·have ha:aDd bb g = (bb.1,DH bb.2 g):=by unfold aDd; rw [Ã hk]
   rw [ha] at i1 i2 i3 ⊢
   obtain ⟨z,z1,z2,z3⟩:=aFk bb.2 g
   obtain ⟨x,x1,x2⟩:=i2 z z1
   refine ⟨i1,fun y q=>⟨x,x1,AZ x2 (z3 y q)⟩,fun h hm=>?_⟩
   rcases Û.1 hm with rfl | hm
   ·exact ⟨fun q=>absurd q hk,fun _=>⟨x,x1,AZ x2 z2⟩⟩
   ·exact i3 h hm
theorem N7 {r:aB} {f q:Int} {c:Bool} {pl path:List Int} (h:c = true ∨ j6 (el r.Orders (bW path).toNat) q = false):aA.mk (if c = true then 1 else 0) f q (pl.map oB) path ∈ lC r f q c pl path:=by
 unfold lC
 cases c with
 | true=>simp
 | false =>
  have h' : j6 (el r.Orders (bW path).toNat) q = false:=by rcases h with h | h; cases h; exact h
  simp [h']
theorem ST (r:aB) (ha:qU r) (f q:Int) (P:List Int) (hP:∀ i,i < 5->0 <= el P i ∧ el P i < (r.Orders.length:Int)) (e:Int) (p:List Int) (hb:e = 12 ∨ e = 0 ∧ j6 (el r.Orders (bW p).toNat) q = false):∀ (d:Nat) (pl path:List Int) (m k:Nat),CA r path m->k + m = r.Orders.length + 1->k <= d->pl.length = 5->aIL pl P ->
  P4 (fS r q P) (qC r) k path = (e,p)->∃ pl',aA.mk (if e = 12 then 1 else 0) f q (pl'.map oB) p ∈ gZ r f q d pl path ∧ pl'.length = 5 ∧ aIL pl' P
 | 0,pl,path,m,k,hp,hk,hkd,hl,hc,hlaw=>by
  have hle:=BU _ _ hp.nd hp.ins
  have hlen:=hp.len
  omega
 | d + 1,pl,path,m,k,hp,hk,hkd,hl,hc,hlaw=>by
  have hle:=BU _ _ hp.nd hp.ins
  have hlen:=hp.len
  have hpos:=hp.pos
  have hla:=hp.last
  obtain ⟨k',rfl⟩ : ∃ k',k = k' + 1:=⟨k - 1,by omega⟩
  have hby:=ha.by_ (bW path).toNat (by omega) q
  have hwd:PI (el r.Orders (bW path).toNat).Choices q = dJ r q (bW path):=rfl
  rw [hwd] at hby
  rw [P4] at hlaw
  have hlp:el path (path.length - 1) = bW path:=rfl
  simp only [hlp] at hlaw
  rw [aNv] at hlaw
  rw [gZ]
  by_cases h0:(dJ r q (bW path)).1 = 0
  ·simp only [Â h0] at hlaw ⊢
   cases hlaw
   refine ⟨pl,?_,hl,hc⟩
   have:=N7 (r:=r) (f:=f) (q:=q) (c:=false) (pl:=pl) (path:=p) (.inr (by rcases hb with hb | hb; cases hb; exact hb.2))
   simpa using this
  ·simp only [Ã h0] at hlaw ⊢
   have hbl:(dJ r q (bW path)).1.toNat < 5:=by omega
   have hj:=hP _ hbl
   -- the round of the place that P has
   have hmem:∀ x,x ∈ dU r f q (gZ r f q d) pl path (el P (dJ r q (bW path)).1.toNat)->x ∈ (List.range r.Orders.length).flatMap fun (k:Nat)=>if el pl (dJ r q (bW path)).1.toNat ≠ -1 ∧ el pl (dJ r q (bW path)).1.toNat ≠ (k:Int) then [] else dU r f q (gZ r f q d) pl path (k:Int):=by
    intro x hx
    refine Î.2 ⟨(el P (dJ r q (bW path)).1.toNat).toNat,č.2 (by omega),?_⟩
    have hn:(((el P (dJ r q (bW path)).1.toNat).toNat:Nat):Int) = el P (dJ r q (bW path)).1.toNat:=by omega
    rw [Ã (by rw [hn]; rcases hc _ hbl with a | a <;> simp [a]),hn]
    exact hx
   have hl1:(pl.set (dJ r q (bW path)).1.toNat (el P (dJ r q (bW path)).1.toNat)).length = 5:=by simp [hl]
   have hc1:aIL (pl.set (dJ r q (bW path)).1.toNat (el P (dJ r q (bW path)).1.toNat)) P:=by
    intro i hi5
    rw [aSk (by omega)]
    by_cases e:(dJ r q (bW path)).1.toNat = i
    ·subst e; rw [Â rfl]; exact .inr rfl
    ·rw [Ã e]; exact hc i hi5
   unfold dU at hmem
   simp only at hmem
   by_cases hq:el P (dJ r q (bW path)).1.toNat = bW path
   ·rw [Â hq] at hlaw
    cases hlaw
    simp only [Â hq] at hmem
    refine ⟨_,hmem _ ?_,hl1,hc1⟩
    have:=N7 (r:=r) (f:=f) (q:=q) (c:=false) (pl:=pl.set (dJ r q (bW p)).1.toNat (el P (dJ r q (bW p)).1.toNat)) (path:=p) (.inr (by rcases hb with hb | hb; cases hb; exact hb.2))
    simpa using this
   ·rw [Ã hq] at hlaw
    simp only [Ã hq] at hmem
    by_cases hw:(dJ r q (bW path)).2 = false
    ·rw [Â hw] at hlaw
     cases hlaw
     rw [Ã (by simp [hw])] at hmem
     refine ⟨_,hmem _ ?_,hl1,hc1⟩
     have:=N7 (r:=r) (f:=f) (q:=q) (c:=(dJ r q (bW path)).2 && !qC r (el P (dJ r q (bW path)).1.toNat)) (pl:=pl.set (dJ r q (bW path)).1.toNat (el P (dJ r q (bW path)).1.toNat)) (path:=path ++ [el P (dJ r q (bW path)).1.toNat]) (.inr (by rcases hb with hb | hb; cases hb; exact hb.2))
     simpa [hw] using this
    ·have hw' : (dJ r q (bW path)).2 = true:=by simpa using hw
     rw [Ã hw] at hlaw
     by_cases hin:el P (dJ r q (bW path)).1.toNat ∈ path
     ·rw [Â hin] at hlaw
      rw [Ã (by simp [hin])] at hmem
      refine ⟨_,hmem _ ?_,hl1,hc1⟩
      have hleaf:=N7 (r:=r) (f:=f) (q:=q) (c:=(dJ r q (bW path)).2 && !qC r (el P (dJ r q (bW path)).1.toNat)) (pl:=pl.set (dJ r q (bW path)).1.toNat (el P (dJ r q (bW path)).1.toNat)) (path:=path ++ [el P (dJ r q (bW path)).1.toNat])
      cases hacc:qC r (el P (dJ r q (bW path)).1.toNat) with
      | true =>
       rw [hacc,Â rfl] at hlaw
       cases hlaw
       have:=hleaf (.inr (by rcases hb with hb | hb; cases hb; exact hb.2))
       simpa [hacc,hw'] using this
      | false =>
       rw [hacc,Ã (by decide)] at hlaw
       cases hlaw
       have:=hleaf (.inl (by simp [hacc,hw']))
       simpa [hacc,hw'] using this
     ·rw [Ã hin] at hlaw
      rw [Â ⟨hw',hin⟩] at hmem
      have hp1:=hp.push hj.1 hj.2 hin
      obtain ⟨pl',a1,a2,a3⟩:=ST r ha f q P hP e p hb d _ _ (m + 1) k' hp1 (by omega) (by omega) hl1 hc1 hlaw
      exact ⟨pl',hmem _ a1,a2,a3⟩
theorem V9:∀ {a b:List Int},a.length = b.length->(∀ i,i < a.length->el a i <= el b i)->l9 a b <= 0
 | [],[],_,_=>by simp [l9]
 | [],_ :: _,h,_=>by simp at h
 | _ :: _,[],h,_=>by simp at h
 | a :: p,b :: q,hl,h=>by
  have h0:a <= b:=h 0 (by simp)
  have ht:=V9 (a:=p) (b:=q) (by simpa using hl) (fun i hi=>h (i + 1) (by simp; omega))
  simp only [l9]
  by_cases e:BF a b = 0
  ·rw [Â e]; exact ht
  ·rw [Ã e]
   by_cases e2:a < b
   ·have:=CZ.2 e2; omega
   ·have:a = b:=by omega
    subst this; rw [WI] at e; exact absurd rfl e
theorem aCk (r:aB) (ha:qU r) (f q:Int) (hf:0 <= f ∧ f < (r.Orders.length:Int)) (P:List Int) (h5:P.length = 5) (h0:el P 0 = f) (hP:∀ i,i < 5->0 <= el P i ∧ el P i < (r.Orders.length:Int)) (e:Int) (p:List Int) (hb:e = 12 ∨ e = 0 ∧ j6 (el r.Orders (bW p).toNat) q = false) (hl:NY r f q P = (e,p)) :
  ∃ x,(if e = 12 then (HP r f q).2 else (HP r f q).1) = some x ∧ C7 x (aA.mk (if e = 12 then 1 else 0) f q P p) <= 0:=by
 have hp:CA r [f] 1:=⟨rfl,by omega,by simp,fun x hx=>by rcases í.1 hx with rfl; exact hf⟩
 have hc:aIL [f,-1,-1,-1,-1] P:=by
  intro i hi
  match i,hi with
  | 0,_=>exact .inr h0.symm
  | 1,_=>exact .inl rfl
  | 2,_=>exact .inl rfl
  | 3,_=>exact .inl rfl
  | 4,_=>exact .inl rfl
 obtain ⟨pl',m1,m2,m3⟩:=ST r ha f q P hP e p hb 3 [f,-1,-1,-1,-1] [f] 1 r.Orders.length hp rfl ha.few rfl hc hl
 have hle:C7 (aA.mk (if e = 12 then 1 else 0) f q (pl'.map oB) p) (aA.mk (if e = 12 then 1 else 0) f q P p) <= 0:=by
  unfold C7
  simp only [ne_eq,not_true_eq_false,È,PP]
  refine V9 (by simp [m2,h5]) fun i hi=>?_
  have hi5:i < 5:=by simp [m2] at hi; exact hi
  rw [aND i (by omega)]
  have hp5:=hP i hi5
  rcases m3 i hi5 with a | a
  ·rw [a]; unfold oB; split <;> omega
  ·rw [a]; unfold oB; split <;> omega
 obtain ⟨_,_,hall⟩:=aEO (aMO r f q) (none,none)
 have hm:=hall _ m1
 by_cases he:e = 12
 ·subst he
  obtain ⟨x,x1,x2⟩:=hm.2 (by simp)
  exact ⟨x,x1,AZ x2 hle⟩
 ·rw [Ã he]
  obtain ⟨x,x1,x2⟩:=hm.1 (by simp [he])
  exact ⟨x,x1,AZ x2 hle⟩
end Go.Proofs.YtoefdnkjcfoccaaDoor
