/- package audit: the order of holes, and that search meets a situation for each that the places have. -/
import Derived.Test.YtjjcaapdaldedaaPAudit6
set_option linter.unusedVariables false
set_option linter.unusedSimpArgs false
namespace Go.Proofs.Ytjjcaapdaldedaa
open Go.RowKit Vm
theorem XT (a b:Int):BK b a = -BK a b:=by
 unfold BK
 by_cases h1:a < b
 ·have h2:¬ b < a:=by omega
  simp [h1,h2]
 ·by_cases h2:b < a
  ·simp [h1,h2]
  ·have h3:¬ a > b:=by omega
   simp [h1,h2,h3]
theorem DW {a b:Int} (h:BK a b = 0):a = b:=by
 unfold BK at h
 split at h
 ·omega
 ·split at h <;> omega
theorem SL (a:Int):BK a a = 0:=by unfold BK; simp
theorem CF {a b:Int}:BK a b < 0 ↔ a < b:=by
 unfold BK
 by_cases h1:a < b
 ·simp [h1]
 ·by_cases h2:a > b <;> simp [h1,h2]
theorem DV:∀ a b:List Int,jH b a = -jH a b
 | [],[]=>rfl
 | [],_ :: _=>rfl
 | _ :: _,[]=>rfl
 | a :: p,b :: q=>by
  simp only [jH]
  have h:=XT a b
  by_cases h0:BK a b = 0
  ·rw [if_pos h0,if_pos (by omega),DV p q]
  ·rw [if_neg h0,if_neg (by omega),h]
theorem DO:∀ {a b:List Int},jH a b = 0->a = b
 | [],[],_=>rfl
 | [],_ :: _,h=>by simp [jH] at h
 | _ :: _,[],h=>by simp [jH] at h
 | a :: p,b :: q,h=>by
  simp only [jH] at h
  by_cases h0:BK a b = 0
  ·rw [if_pos h0] at h; rw [DW h0,DO h]
  ·rw [if_neg h0] at h; exact absurd h h0
theorem R6:∀ a:List Int,jH a a = 0
 | []=>rfl
 | a :: p=>by simp only [jH,SL,if_true]; exact R6 p
theorem O8:∀ {a b c:List Int},jH a b <= 0->jH b c <= 0->jH a c <= 0
 | [],_,[],_,_=>by simp [jH]
 | [],_,_ :: _,_,_=>by simp [jH]
 | _ :: _,[],_,h,_=>by simp [jH] at h
 | _ :: _,_ :: _,[],_,h=>by simp [jH] at h
 | a :: p,b :: q,c :: s,h1,h2=>by
  simp only [jH] at h1 h2 ⊢
  by_cases e1:BK a b = 0
  ·rw [if_pos e1] at h1
   obtain rfl:=DW e1
   by_cases e2:BK a c = 0
   ·rw [if_pos e2] at h2 ⊢; exact O8 h1 h2
   ·rw [if_neg e2] at h2 ⊢; exact h2
  ·rw [if_neg e1] at h1
   have l1:a < b:=CF.1 (by omega)
   by_cases e2:BK b c = 0
   ·obtain rfl:=DW e2
    rw [if_neg e1]; exact h1
   ·rw [if_neg e2] at h2
    have l2:b < c:=CF.1 (by omega)
    have l3:BK a c < 0:=CF.2 (by omega)
    rw [if_neg (by omega)]; omega
def vH (a b:aB):Int:=if a.Path.length ≠ b.Path.length then BK a.Path.length b.Path.length else if jH a.Path b.Path ≠ 0 then jH a.Path b.Path else jH a.Places b.Places
theorem aAM (a b:aB):TO a b = decide (vH a b < 0):=by
 unfold TO vH
 by_cases h1:a.Path.length = b.Path.length
 ·simp only [h1,ne_eq,not_true_eq_false,if_false]
  by_cases h2:jH a.Path b.Path = 0
  ·simp only [h2,not_true_eq_false,if_false]
  ·simp only [h2,not_false_eq_true,if_true]
 ·simp only [h1,ne_eq,not_false_eq_true,if_true]
  congr 1
  rw [CF,eq_iff_iff]
  omega
theorem RO (a b:aB):vH b a = -vH a b:=by
 unfold vH
 by_cases h1:a.Path.length = b.Path.length
 ·simp only [h1,ne_eq,not_true_eq_false,if_false]
  have:=DV a.Path b.Path
  by_cases h2:jH a.Path b.Path = 0
  ·have h3:jH b.Path a.Path = 0:=by omega
   simp only [h2,h3,not_true_eq_false,if_false]; exact DV _ _
  ·have h3:¬ jH b.Path a.Path = 0:=by omega
   simp only [h2,h3,not_false_eq_true,if_true]; exact this
 ·rw [if_pos (fun e=>h1 e.symm),if_pos h1,XT]
theorem BJ (a:aB):vH a a = 0:=by simp [vH,R6]
theorem aFn {a b:aB} (h:vH a b = 0):a.Path = b.Path ∧ a.Places = b.Places:=by
 unfold vH at h
 by_cases h1:a.Path.length = b.Path.length
 ·rw [if_neg (by simp [h1])] at h
  by_cases h2:jH a.Path b.Path = 0
  ·rw [if_neg (by simp [h2])] at h; exact ⟨DO h2,DO h⟩
  ·rw [if_pos h2] at h; exact absurd h h2
 ·rw [if_pos h1] at h
  have:=DW h
  omega
theorem yX {a b c:aB} (h1:vH a b <= 0) (h2:vH b c <= 0):vH a c <= 0:=by
 have len:∀ {x y:aB},vH x y <= 0->x.Path.length <= y.Path.length:=by
  intro x y h
  unfold vH at h
  by_cases e:x.Path.length = y.Path.length
  ·omega
  ·rw [if_pos e] at h
   by_cases e2:BK (x.Path.length:Int) (y.Path.length:Int) = 0
   ·have:=DW e2; omega
   ·have:=CF.1 (show BK (x.Path.length:Int) (y.Path.length:Int) < 0 by omega); omega
 have l1:=len h1
 have l2:=len h2
 unfold vH at h1 h2 ⊢
 by_cases e:a.Path.length = c.Path.length
 ·have e1:a.Path.length = b.Path.length:=by omega
  have e2:b.Path.length = c.Path.length:=by omega
  rw [if_neg (by simp [e1])] at h1
  rw [if_neg (by simp [e2])] at h2
  rw [if_neg (by simp [e])]
  by_cases p1:jH a.Path b.Path = 0
  ·rw [if_neg (by simp [p1])] at h1
   have q1:=DO p1
   rw [q1]
   by_cases p2:jH b.Path c.Path = 0
   ·rw [if_neg (by simp [p2])] at h2 ⊢; exact O8 h1 h2
   ·rw [if_pos p2] at h2 ⊢; exact h2
  ·rw [if_pos p1] at h1
   by_cases p2:jH b.Path c.Path = 0
   ·have q2:=DO p2
    rw [← q2,if_pos p1]; exact h1
   ·rw [if_pos p2] at h2
    have h3:=O8 h1 h2
    by_cases p3:jH a.Path c.Path = 0
    ·have q3:=DO p3
     have:=DV b.Path c.Path
     rw [← q3] at h2 this
     have hs:=DV b.Path a.Path
     omega
    ·rw [if_pos p3]; exact h3
 ·rw [if_pos e]
  have:=CF.2 (show (a.Path.length:Int) < (c.Path.length:Int) by omega)
  omega
theorem aEp (b:Option aB) (h:aB):∃ x,C2 b h = some x ∧ vH x h <= 0 ∧ ∀ y,b = some y->vH x y <= 0:=by
 cases b with
 | none=>exact ⟨h,rfl,by rw [BJ]; omega,fun y e=>nomatch e⟩
 | some y =>
  simp only [C2,aAM]
  by_cases e:vH h y < 0
  ·rw [if_pos (decide_eq_true e)]
   exact ⟨h,rfl,by rw [BJ]; omega,fun z q=>by cases q; omega⟩
  ·rw [if_neg (by simp; omega)]
   refine ⟨y,rfl,?_,fun z q=>by cases q; rw [BJ]; omega⟩
   rw [RO h y]; omega
theorem aEa:∀ (l:List aB) (bb:Option aB × Option aB),
  (∀ y,bb.1 = some y->∃ x,(qS bb l).1 = some x ∧ vH x y <= 0) ∧ (∀ y,bb.2 = some y->∃ x,(qS bb l).2 = some x ∧ vH x y <= 0) ∧
  ∀ h,h ∈ l->(h.Kind = 0->∃ x,(qS bb l).1 = some x ∧ vH x h <= 0) ∧ (h.Kind ≠ 0->∃ x,(qS bb l).2 = some x ∧ vH x h <= 0)
 | [],bb=>⟨fun y e=>⟨y,e,by rw [BJ]; omega⟩,fun y e=>⟨y,e,by rw [BJ]; omega⟩,fun h hm=>by cases hm⟩
 | g :: l,bb=>by
  obtain ⟨i1,i2,i3⟩:=aEa l (VT bb g)
  have e:qS bb (g :: l) = qS (VT bb g) l:=rfl
  rw [e]
  by_cases hk:g.Kind = 0
  ·have ha:VT bb g = (C2 bb.1 g,bb.2):=by unfold VT; rw [if_pos hk]
   rw [ha] at i1 i2 i3 ⊢
   obtain ⟨z,z1,z2,z3⟩:=aEp bb.1 g
   obtain ⟨x,x1,x2⟩:=i1 z z1
   refine ⟨fun y q=>⟨x,x1,yX x2 (z3 y q)⟩,i2,fun h hm=>?_⟩
   rcases List.mem_cons.1 hm with rfl | hm
   ·exact ⟨fun _=>⟨x,x1,yX x2 z2⟩,fun q=>absurd hk q⟩
   ·exact i3 h hm
  ·have ha:VT bb g = (bb.1,C2 bb.2 g):=by unfold VT; rw [if_neg hk]
   rw [ha] at i1 i2 i3 ⊢
   obtain ⟨z,z1,z2,z3⟩:=aEp bb.2 g
   obtain ⟨x,x1,x2⟩:=i2 z z1
   refine ⟨i1,fun y q=>⟨x,x1,yX x2 (z3 y q)⟩,fun h hm=>?_⟩
   rcases List.mem_cons.1 hm with rfl | hm
   ·exact ⟨fun q=>absurd q hk,fun _=>⟨x,x1,yX x2 z2⟩⟩
   ·exact i3 h hm
theorem PT {r:aA} {f q:Int} {c:Bool} {pl path:List Int} (h:c = true ∨ iM (el r.Orders (aV path).toNat) q = false):aB.mk (if c = true then 1 else 0) f q (pl.map oJ) path ∈ lV r f q c pl path:=by
 unfold lV
 cases c with
 | true=>simp
 | false =>
  have h' : iM (el r.Orders (aV path).toNat) q = false:=by rcases h with h | h; cases h; exact h
  simp [h']
theorem VV (r:aA) (ha:kM r) (f q:Int) (P:List Int) (hP:∀ i,i < 5->0 <= el P i ∧ el P i < (r.Orders.length:Int)) (e:Int) (p:List Int) (hb:e = 12 ∨ e = 0 ∧ iM (el r.Orders (aV p).toNat) q = false):∀ (d:Nat) (pl path:List Int) (m k:Nat),zP r path m->k + m = r.Orders.length + 1->k <= d->pl.length = 5->aCg pl P ->
  NI (bW r q P) (qV r) k path = (e,p)->∃ pl',aB.mk (if e = 12 then 1 else 0) f q (pl'.map oJ) p ∈ iJ r f q d pl path ∧ pl'.length = 5 ∧ aCg pl' P
 | 0,pl,path,m,k,hp,hk,hkd,hl,hc,hlaw=>by
  have hle:=sE _ _ hp.nd hp.ins
  have hlen:=hp.len
  omega
 | d + 1,pl,path,m,k,hp,hk,hkd,hl,hc,hlaw=>by
  have hle:=sE _ _ hp.nd hp.ins
  have hlen:=hp.len
  have hpos:=hp.pos
  have hla:=hp.last
  obtain ⟨k',rfl⟩ : ∃ k',k = k' + 1:=⟨k - 1,by omega⟩
  have hby:=ha.by_ (aV path).toNat (by omega) q
  have hwd:OI (el r.Orders (aV path).toNat).Choices q = bL r q (aV path):=rfl
  rw [hwd] at hby
  rw [NI] at hlaw
  have hlp:el path (path.length - 1) = aV path:=rfl
  simp only [hlp] at hlaw
  rw [TZ] at hlaw
  rw [iJ]
  by_cases h0:(bL r q (aV path)).1 = 0
  ·simp only [if_pos h0] at hlaw ⊢
   cases hlaw
   refine ⟨pl,?_,hl,hc⟩
   have:=PT (r:=r) (f:=f) (q:=q) (c:=false) (pl:=pl) (path:=p) (.inr (by rcases hb with hb | hb; cases hb; exact hb.2))
   simpa using this
  ·simp only [if_neg h0] at hlaw ⊢
   have hbl:(bL r q (aV path)).1.toNat < 5:=by omega
   have hj:=hP _ hbl
   -- the round of the place that P has
   have hmem:∀ x,x ∈ eG r f q (iJ r f q d) pl path (el P (bL r q (aV path)).1.toNat)->x ∈ (List.range r.Orders.length).flatMap fun (k:Nat)=>if el pl (bL r q (aV path)).1.toNat ≠ -1 ∧ el pl (bL r q (aV path)).1.toNat ≠ (k:Int) then [] else eG r f q (iJ r f q d) pl path (k:Int):=by
    intro x hx
    refine List.mem_flatMap.2 ⟨(el P (bL r q (aV path)).1.toNat).toNat,List.mem_range.2 (by omega),?_⟩
    have hn:(((el P (bL r q (aV path)).1.toNat).toNat:Nat):Int) = el P (bL r q (aV path)).1.toNat:=by omega
    rw [if_neg (by rw [hn]; rcases hc _ hbl with a | a <;> simp [a]),hn]
    exact hx
   have hl1:(pl.set (bL r q (aV path)).1.toNat (el P (bL r q (aV path)).1.toNat)).length = 5:=by simp [hl]
   have hc1:aCg (pl.set (bL r q (aV path)).1.toNat (el P (bL r q (aV path)).1.toNat)) P:=by
    intro i hi5
    rw [ZU (by omega)]
    by_cases e:(bL r q (aV path)).1.toNat = i
    ·subst e; rw [if_pos rfl]; exact .inr rfl
    ·rw [if_neg e]; exact hc i hi5
   unfold eG at hmem
   simp only at hmem
   by_cases hq:el P (bL r q (aV path)).1.toNat = aV path
   ·rw [if_pos hq] at hlaw
    cases hlaw
    simp only [if_pos hq] at hmem
    refine ⟨_,hmem _ ?_,hl1,hc1⟩
    have:=PT (r:=r) (f:=f) (q:=q) (c:=false) (pl:=pl.set (bL r q (aV p)).1.toNat (el P (bL r q (aV p)).1.toNat)) (path:=p) (.inr (by rcases hb with hb | hb; cases hb; exact hb.2))
    simpa using this
   ·rw [if_neg hq] at hlaw
    simp only [if_neg hq] at hmem
    by_cases hw:(bL r q (aV path)).2 = false
    ·rw [if_pos hw] at hlaw
     cases hlaw
     rw [if_neg (by simp [hw])] at hmem
     refine ⟨_,hmem _ ?_,hl1,hc1⟩
     have:=PT (r:=r) (f:=f) (q:=q) (c:=(bL r q (aV path)).2 && !qV r (el P (bL r q (aV path)).1.toNat)) (pl:=pl.set (bL r q (aV path)).1.toNat (el P (bL r q (aV path)).1.toNat)) (path:=path ++ [el P (bL r q (aV path)).1.toNat]) (.inr (by rcases hb with hb | hb; cases hb; exact hb.2))
     simpa [hw] using this
    ·have hw' : (bL r q (aV path)).2 = true:=by simpa using hw
     rw [if_neg hw] at hlaw
     by_cases hin:el P (bL r q (aV path)).1.toNat ∈ path
     ·rw [if_pos hin] at hlaw
      rw [if_neg (by simp [hin])] at hmem
      refine ⟨_,hmem _ ?_,hl1,hc1⟩
      have hleaf:=PT (r:=r) (f:=f) (q:=q) (c:=(bL r q (aV path)).2 && !qV r (el P (bL r q (aV path)).1.toNat)) (pl:=pl.set (bL r q (aV path)).1.toNat (el P (bL r q (aV path)).1.toNat)) (path:=path ++ [el P (bL r q (aV path)).1.toNat])
      cases hacc:qV r (el P (bL r q (aV path)).1.toNat) with
      | true =>
       rw [hacc,if_pos rfl] at hlaw
       cases hlaw
       have:=hleaf (.inr (by rcases hb with hb | hb; cases hb; exact hb.2))
       simpa [hacc,hw'] using this
      | false =>
       rw [hacc,if_neg (by decide)] at hlaw
       cases hlaw
       have:=hleaf (.inl (by simp [hacc,hw']))
       simpa [hacc,hw'] using this
     ·rw [if_neg hin] at hlaw
      rw [if_pos ⟨hw',hin⟩] at hmem
      have hp1:=hp.push hj.1 hj.2 hin
      obtain ⟨pl',a1,a2,a3⟩:=VV r ha f q P hP e p hb d _ _ (m + 1) k' hp1 (by omega) (by omega) hl1 hc1 hlaw
      exact ⟨pl',hmem _ a1,a2,a3⟩
theorem XO:∀ {a b:List Int},a.length = b.length->(∀ i,i < a.length->el a i <= el b i)->jH a b <= 0
 | [],[],_,_=>by simp [jH]
 | [],_ :: _,h,_=>by simp at h
 | _ :: _,[],h,_=>by simp at h
 | a :: p,b :: q,hl,h=>by
  have h0:a <= b:=h 0 (by simp)
  have ht:=XO (a:=p) (b:=q) (by simpa using hl) (fun i hi=>h (i + 1) (by simp; omega))
  simp only [jH]
  by_cases e:BK a b = 0
  ·rw [if_pos e]; exact ht
  ·rw [if_neg e]
   by_cases e2:a < b
   ·have:=CF.2 e2; omega
   ·have:a = b:=by omega
    subst this; rw [SL] at e; exact absurd rfl e
theorem aCp (r:aA) (ha:kM r) (f q:Int) (hf:0 <= f ∧ f < (r.Orders.length:Int)) (P:List Int) (h5:P.length = 5) (h0:el P 0 = f) (hP:∀ i,i < 5->0 <= el P i ∧ el P i < (r.Orders.length:Int)) (e:Int) (p:List Int) (hb:e = 12 ∨ e = 0 ∧ iM (el r.Orders (aV p).toNat) q = false) (hl:kL r f q P = (e,p)) :
  ∃ x,(if e = 12 then (nY r f q).2 else (nY r f q).1) = some x ∧ vH x (aB.mk (if e = 12 then 1 else 0) f q P p) <= 0:=by
 have hp:zP r [f] 1:=⟨rfl,by omega,by simp,fun x hx=>by rcases List.mem_singleton.1 hx with rfl; exact hf⟩
 have hc:aCg [f,-1,-1,-1,-1] P:=by
  intro i hi
  match i,hi with
  | 0,_=>exact .inr h0.symm
  | 1,_=>exact .inl rfl
  | 2,_=>exact .inl rfl
  | 3,_=>exact .inl rfl
  | 4,_=>exact .inl rfl
 obtain ⟨pl',m1,m2,m3⟩:=VV r ha f q P hP e p hb 3 [f,-1,-1,-1,-1] [f] 1 r.Orders.length hp rfl ha.few rfl hc hl
 have hle:vH (aB.mk (if e = 12 then 1 else 0) f q (pl'.map oJ) p) (aB.mk (if e = 12 then 1 else 0) f q P p) <= 0:=by
  unfold vH
  simp only [ne_eq,not_true_eq_false,if_false,R6]
  refine XO (by simp [m2,h5]) fun i hi=>?_
  have hi5:i < 5:=by simp [m2] at hi; exact hi
  rw [aDU i (by omega)]
  have hp5:=hP i hi5
  rcases m3 i hi5 with a | a
  ·rw [a]; unfold oJ; split <;> omega
  ·rw [a]; unfold oJ; split <;> omega
 obtain ⟨_,_,hall⟩:=aEa (WS r f q) (none,none)
 have hm:=hall _ m1
 by_cases he:e = 12
 ·subst he
  obtain ⟨x,x1,x2⟩:=hm.2 (by simp)
  exact ⟨x,x1,yX x2 hle⟩
 ·rw [if_neg he]
  obtain ⟨x,x1,x2⟩:=hm.1 (by simp [he])
  exact ⟨x,x1,yX x2 hle⟩
end Go.Proofs.Ytjjcaapdaldedaa
