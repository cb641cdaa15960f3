/- Lemmas on the answers. -/
import Derived.Test.YtoefdnkjcfoccaaDoorPAudit1
set_option maxHeartbeats 1000000
namespace Go.Proofs.YtoefdnkjcfoccaaDoor
open Go.RowKit Vm
theorem GV (bb:Option aA × Option aA) (g:Nat->List aA):∀ (l:List Nat) (bb:Option aA × Option aA),l.foldl (fun a k=>rB a (g k)) bb = rB bb (l.flatMap g)
 | [],bb=>rfl
 | k :: l,bb=>by
  rw [þ,GV bb g l]
  simp only [ì,rB,List.foldl_append]
theorem UB (bb:Option aA × Option aA):rB bb [] = bb:=rfl
theorem S8 (b0 b1:Option aA) (f a:Int) (p q:List Int):rB (b0,b1) [aA.mk 0 f a p q] = (DH b0 (aA.mk 0 f a p q),b1):=rfl
theorem aJv (a0:aB) (a1 a2 p16 p54 p92:Int) (p93 p94:Option aA) (p95 p96:List Int) (r100:(List Int)) (r3 r39 r77:Int × Bool) (r99:(List Int)) (x1 x15 x37 x53 x75 x91:Int) (h:r99.length < 1000):pT a0 a1 a2 p16 p54 p92 p93 p94 p95 p96 r100 r3 r39 r77 r99 x1 x15 x37 x53 x75 x91 0 r99 = some (r99.map oB):=by
 unfold pT
 exact BW r99 _ (by omega) (fun i xs=>rfl)
theorem aK2 (a0:aB) (a1 a2:Int) (p117 p118:List Int) (p16 p54 p92:Int) (p93 p94:Option aA) (p95 p96:List Int) (r3 r39 r77:Int × Bool) (x1 x15 x37 x53 x75 x91:Int) (h:p117.length < 1000):pJ a0 a1 a2 p117 p118 p16 p54 p92 p93 p94 p95 p96 r3 r39 r77 x1 x15 x37 x53 x75 x91 0 p117 = some (p117.map oB):=by
 unfold pJ
 exact BW p117 _ (by omega) (fun i xs=>rfl)
theorem aMQ (a0:aB) (a1 a2:Int) (p117 p118:List Int) (p16 p54 p92:Int) (p93 p94:Option aA) (p95 p96:List Int) (r3 r39 r77:Int × Bool) (x1 x15 x37 x53 x75 x91:Int) (h:p117.length < 1000):pK a0 a1 a2 p117 p118 p16 p54 p92 p93 p94 p95 p96 r3 r39 r77 x1 x15 x37 x53 x75 x91 0 p117 = some (p117.map oB):=by
 unfold pK
 exact BW p117 _ (by omega) (fun i xs=>rfl)
theorem aRO (a0:aB) (a1 a2 p16 p54 p92:Int) (p93 p94:Option aA) (p95 p96:List Int) (r3 r39 r77:Int × Bool) (x1 x15 x37 x53 x75 x91:Int) (ha:qU a0) (hn:0 <= p92 ∧ p92 < (a0.Orders.length:Int)) (hl:p95.length = 5) (hp:p96.length < 100) (b:Bool) :
  Sum.elim (fun z=>some z) (fun _=>some (p93,p94)) (((fP a0 a1 a2 p16 p54 p92 p93 p94 p95 p96 r3 r39 r77 x1 x15 x37 x53 x75 x91 b (p95.set r77.1.toNat p92) (p96 ++ [p92])).getD (.inr ()))) = some (rB (p93,p94) (lC a0 a1 a2 b (p95.set r77.1.toNat p92) (p96 ++ [p92]))) ∧ ∃ z,fP a0 a1 a2 p16 p54 p92 p93 p94 p95 p96 r3 r39 r77 x1 x15 x37 x53 x75 x91 b (p95.set r77.1.toNat p92) (p96 ++ [p92]) = some z:=by
 have e:fP a0 a1 a2 p16 p54 p92 p93 p94 p95 p96 r3 r39 r77 x1 x15 x37 x53 x75 x91 b (p95.set r77.1.toNat p92) (p96 ++ [p92]) = some (if b = true then .inl (p93,DH p94 (aA.mk 1 a1 a2 ((p95.set r77.1.toNat p92).map oB) (p96 ++ [p92]))) else if j6 (el a0.Orders p92.toNat) a2 = true then .inr () else .inl (DH p93 (aA.mk 0 a1 a2 ((p95.set r77.1.toNat p92).map oB) (p96 ++ [p92])),p94)):=by
  unfold fP
  cases b with
  | true =>
   simp only [Ë]
   unfold uD
   rw [aK2 _ _ _ _ _ _ _ _ _ _ _ _ _ _ _ _ _ _ _ _ _ (by simp <;> omega)]
   simp only [À]
   rw [aFW _ _ (by simp <;> omega) (by simp <;> omega)]
   rfl
  | false =>
   simp only [Æ,È]
   rw [AP _ _ (by simp) (by simp <;> omega),hU,xT _ _ hn.1 hn.2]
   simp only [À]
   rw [t8 _ _ (by have:=(ha.cs p92.toNat (by omega)).2; omega)]
   simp only [À]
   cases hr:j6 (el a0.Orders p92.toNat) a2 with
   | true=>simp only [Ë]
   | false =>
    simp only [Æ,È]
    unfold sT
    rw [aMQ _ _ _ _ _ _ _ _ _ _ _ _ _ _ _ _ _ _ _ _ _ (by simp <;> omega)]
    simp only [À]
    rw [aFW _ _ (by simp <;> omega) (by simp <;> omega)]
    rfl
 refine ⟨?_,_,e⟩
 rw [e]
 simp only [è,lC,hU]
 cases b with
 | true=>rfl
 | false =>
  simp only [Æ,È]
  cases hr:j6 (el a0.Orders p92.toNat) a2 <;> rfl
theorem aTU (a0:aB) (a1 a2 p16 p54 p92:Int) (p93 p94:Option aA) (p95 p96:List Int) (r3 r39 r77:Int × Bool) (x1 x15 x37 x53 x75 x91:Int) (ha:qU a0) (hn:0 <= p92 ∧ p92 < (a0.Orders.length:Int)) (hl:p95.length = 5) (hp:p96.length < 100) :
  kY a0 a1 a2 p16 p54 p92 p93 p94 p95 p96 r3 r39 r77 x1 x15 x37 x53 x75 x91 = some (rB (p93,p94) (lC a0 a1 a2 (r77.2 && !qC a0 p92) (p95.set r77.1.toNat p92) (p96 ++ [p92]))):=by
 unfold kY
 have hc1:=sB (p95.set r77.1.toNat p92) (by simp <;> omega)
 have hc2:=sB (p96 ++ [p92]) (by simp <;> omega)
 have key:∀ b,(fP a0 a1 a2 p16 p54 p92 p93 p94 p95 p96 r3 r39 r77 x1 x15 x37 x53 x75 x91 b (p95.set r77.1.toNat p92) (p96 ++ [p92])).bind (fun r=>Sum.elim (fun z=>some ((z.1,z.2))) (fun _=>some ((p93,p94))) r) = some (rB (p93,p94) (lC a0 a1 a2 b (p95.set r77.1.toNat p92) (p96 ++ [p92]))):=by
  intro b
  obtain ⟨h1,z,h2⟩:=aRO a0 a1 a2 p16 p54 p92 p93 p94 p95 p96 r3 r39 r77 x1 x15 x37 x53 x75 x91 ha hn hl hp b
  rw [h2] at h1 ⊢
  simpa using h1
 cases hw:r77.2 with
 | true =>
  simp only [Ë,ĝ]
  rw [xT _ _ hn.1 hn.2]
  simp only [À]
  rw [hc1,hc2]
  simp only [À]
  exact key _
 | false =>
  simp only [Æ,È,Bool.false_and]
  rw [hc1,hc2]
  simp only [À]
  exact key _
theorem aJL (a0:aB) (a1 a2 p16 p54:Int) (p55 p56:Option aA) (p57 p58:List Int) (r3 r39:Int × Bool) (r61 r62:(List Int)) (x1 x15 x37 x53:Int) (h:r61.length < 1000):pB a0 a1 a2 p16 p54 p55 p56 p57 p58 r3 r39 r61 r62 x1 x15 x37 x53 0 r61 = some (r61.map oB):=by
 unfold pB
 exact BW r61 _ (by omega) (fun i xs=>rfl)
theorem aGF (a0:aB) (a1 a2 p16:Int) (p191 p192:List Int) (p54:Int) (p55 p56:Option aA) (p57 p58:List Int) (r3 r39:Int × Bool) (x1 x15 x37 x53:Int) (h:p191.length < 1000):n9 a0 a1 a2 p16 p191 p192 p54 p55 p56 p57 p58 r3 r39 x1 x15 x37 x53 0 p191 = some (p191.map oB):=by
 unfold n9
 exact BW p191 _ (by omega) (fun i xs=>rfl)
theorem aHv (a0:aB) (a1 a2 p16:Int) (p191 p192:List Int) (p54:Int) (p55 p56:Option aA) (p57 p58:List Int) (r3 r39:Int × Bool) (x1 x15 x37 x53:Int) (h:p191.length < 1000):nT a0 a1 a2 p16 p191 p192 p54 p55 p56 p57 p58 r3 r39 x1 x15 x37 x53 0 p191 = some (p191.map oB):=by
 unfold nT
 exact BW p191 _ (by omega) (fun i xs=>rfl)
theorem aSY (a0:aB) (a1 a2 p16 p54:Int) (p55 p56:Option aA) (p57 p58:List Int) (r3 r39:Int × Bool) (x1 x15 x37 x53:Int) (ha:qU a0) (hn:0 <= p54 ∧ p54 < (a0.Orders.length:Int)) (hl:p57.length = 5) (hp:p58.length < 100) (b:Bool) :
  Sum.elim (fun z=>some z) (fun _=>some (p55,p56)) (((fN a0 a1 a2 p16 p54 p55 p56 p57 p58 r3 r39 x1 x15 x37 x53 b (p57.set r39.1.toNat p54) (p58 ++ [p54])).getD (.inr ()))) = some (rB (p55,p56) (lC a0 a1 a2 b (p57.set r39.1.toNat p54) (p58 ++ [p54]))) ∧ ∃ z,fN a0 a1 a2 p16 p54 p55 p56 p57 p58 r3 r39 x1 x15 x37 x53 b (p57.set r39.1.toNat p54) (p58 ++ [p54]) = some z:=by
 have e:fN a0 a1 a2 p16 p54 p55 p56 p57 p58 r3 r39 x1 x15 x37 x53 b (p57.set r39.1.toNat p54) (p58 ++ [p54]) = some (if b = true then .inl (p55,DH p56 (aA.mk 1 a1 a2 ((p57.set r39.1.toNat p54).map oB) (p58 ++ [p54]))) else if j6 (el a0.Orders p54.toNat) a2 = true then .inr () else .inl (DH p55 (aA.mk 0 a1 a2 ((p57.set r39.1.toNat p54).map oB) (p58 ++ [p54])),p56)):=by
  unfold fN
  cases b with
  | true =>
   simp only [Ë]
   unfold sX
   rw [aGF _ _ _ _ _ _ _ _ _ _ _ _ _ _ _ _ _ (by simp <;> omega)]
   simp only [À]
   rw [aFW _ _ (by simp <;> omega) (by simp <;> omega)]
   rfl
  | false =>
   simp only [Æ,È]
   rw [AP _ _ (by simp) (by simp <;> omega),hU,xT _ _ hn.1 hn.2]
   simp only [À]
   rw [t8 _ _ (by have:=(ha.cs p54.toNat (by omega)).2; omega)]
   simp only [À]
   cases hr:j6 (el a0.Orders p54.toNat) a2 with
   | true=>simp only [Ë]
   | false =>
    simp only [Æ,È]
    unfold sL
    rw [aHv _ _ _ _ _ _ _ _ _ _ _ _ _ _ _ _ _ (by simp <;> omega)]
    simp only [À]
    rw [aFW _ _ (by simp <;> omega) (by simp <;> omega)]
    rfl
 refine ⟨?_,_,e⟩
 rw [e]
 simp only [è,lC,hU]
 cases b with
 | true=>rfl
 | false =>
  simp only [Æ,È]
  cases hr:j6 (el a0.Orders p54.toNat) a2 <;> rfl
theorem aUe (a0:aB) (a1 a2 p16 p54:Int) (p55 p56:Option aA) (p57 p58:List Int) (r3 r39:Int × Bool) (x1 x15 x37 x53:Int) (ha:qU a0) (hn:0 <= p54 ∧ p54 < (a0.Orders.length:Int)) (hl:p57.length = 5) (hp:p58.length < 100) :
  lF a0 a1 a2 p16 p54 p55 p56 p57 p58 r3 r39 x1 x15 x37 x53 = some (rB (p55,p56) (lC a0 a1 a2 (r39.2 && !qC a0 p54) (p57.set r39.1.toNat p54) (p58 ++ [p54]))):=by
 unfold lF
 have hc1:=sB (p57.set r39.1.toNat p54) (by simp <;> omega)
 have hc2:=sB (p58 ++ [p54]) (by simp <;> omega)
 have key:∀ b,(fN a0 a1 a2 p16 p54 p55 p56 p57 p58 r3 r39 x1 x15 x37 x53 b (p57.set r39.1.toNat p54) (p58 ++ [p54])).bind (fun r=>Sum.elim (fun z=>some ((z.1,z.2))) (fun _=>some ((p55,p56))) r) = some (rB (p55,p56) (lC a0 a1 a2 b (p57.set r39.1.toNat p54) (p58 ++ [p54]))):=by
  intro b
  obtain ⟨h1,z,h2⟩:=aSY a0 a1 a2 p16 p54 p55 p56 p57 p58 r3 r39 x1 x15 x37 x53 ha hn hl hp b
  rw [h2] at h1 ⊢
  simpa using h1
 cases hw:r39.2 with
 | true =>
  simp only [Ë,ĝ]
  rw [xT _ _ hn.1 hn.2]
  simp only [À]
  rw [hc1,hc2]
  simp only [À]
  exact key _
 | false =>
  simp only [Æ,È,Bool.false_and]
  rw [hc1,hc2]
  simp only [À]
  exact key _
theorem aLm (a0:aB) (a1 a2 p16:Int) (p17 p18:Option aA) (p19 p20:List Int) (r23 r24:(List Int)) (r3:Int × Bool) (x1 x15:Int) (h:r23.length < 1000):oZ a0 a1 a2 p16 p17 p18 p19 p20 r23 r24 r3 x1 x15 0 r23 = some (r23.map oB):=by
 unfold oZ
 exact BW r23 _ (by omega) (fun i xs=>rfl)
theorem aH2 (a0:aB) (a1 a2 p16:Int) (p17 p18:Option aA) (p19 p20 p270 p271:List Int) (r3:Int × Bool) (x1 x15:Int) (h:p270.length < 1000):n8 a0 a1 a2 p16 p17 p18 p19 p20 p270 p271 r3 x1 x15 0 p270 = some (p270.map oB):=by
 unfold n8
 exact BW p270 _ (by omega) (fun i xs=>rfl)
theorem aGZ (a0:aB) (a1 a2 p16:Int) (p17 p18:Option aA) (p19 p20 p270 p271:List Int) (r3:Int × Bool) (x1 x15:Int) (h:p270.length < 1000):n7 a0 a1 a2 p16 p17 p18 p19 p20 p270 p271 r3 x1 x15 0 p270 = some (p270.map oB):=by
 unfold n7
 exact BW p270 _ (by omega) (fun i xs=>rfl)
theorem aRf (a0:aB) (a1 a2 p16:Int) (p17 p18:Option aA) (p19 p20:List Int) (r3:Int × Bool) (x1 x15:Int) (ha:qU a0) (hn:0 <= p16 ∧ p16 < (a0.Orders.length:Int)) (hl:p19.length = 5) (hp:p20.length < 100) (b:Bool) :
  Sum.elim (fun z=>some z) (fun _=>some (p17,p18)) (((fQ a0 a1 a2 p16 p17 p18 p19 p20 r3 x1 x15 b (p19.set r3.1.toNat p16) (p20 ++ [p16])).getD (.inr ()))) = some (rB (p17,p18) (lC a0 a1 a2 b (p19.set r3.1.toNat p16) (p20 ++ [p16]))) ∧ ∃ z,fQ a0 a1 a2 p16 p17 p18 p19 p20 r3 x1 x15 b (p19.set r3.1.toNat p16) (p20 ++ [p16]) = some z:=by
 have e:fQ a0 a1 a2 p16 p17 p18 p19 p20 r3 x1 x15 b (p19.set r3.1.toNat p16) (p20 ++ [p16]) = some (if b = true then .inl (p17,DH p18 (aA.mk 1 a1 a2 ((p19.set r3.1.toNat p16).map oB) (p20 ++ [p16]))) else if j6 (el a0.Orders p16.toNat) a2 = true then .inr () else .inl (DH p17 (aA.mk 0 a1 a2 ((p19.set r3.1.toNat p16).map oB) (p20 ++ [p16])),p18)):=by
  unfold fQ
  cases b with
  | true =>
   simp only [Ë]
   unfold sO
   rw [aH2 _ _ _ _ _ _ _ _ _ _ _ _ _ (by simp <;> omega)]
   simp only [À]
   rw [aFW _ _ (by simp <;> omega) (by simp <;> omega)]
   rfl
  | false =>
   simp only [Æ,È]
   rw [AP _ _ (by simp) (by simp <;> omega),hU,xT _ _ hn.1 hn.2]
   simp only [À]
   rw [t8 _ _ (by have:=(ha.cs p16.toNat (by omega)).2; omega)]
   simp only [À]
   cases hr:j6 (el a0.Orders p16.toNat) a2 with
   | true=>simp only [Ë]
   | false =>
    simp only [Æ,È]
    unfold sM
    rw [aGZ _ _ _ _ _ _ _ _ _ _ _ _ _ (by simp <;> omega)]
    simp only [À]
    rw [aFW _ _ (by simp <;> omega) (by simp <;> omega)]
    rfl
 refine ⟨?_,_,e⟩
 rw [e]
 simp only [è,lC,hU]
 cases b with
 | true=>rfl
 | false =>
  simp only [Æ,È]
  cases hr:j6 (el a0.Orders p16.toNat) a2 <;> rfl
theorem aTV (a0:aB) (a1 a2 p16:Int) (p17 p18:Option aA) (p19 p20:List Int) (r3:Int × Bool) (x1 x15:Int) (ha:qU a0) (hn:0 <= p16 ∧ p16 < (a0.Orders.length:Int)) (hl:p19.length = 5) (hp:p20.length < 100) :
  lG a0 a1 a2 p16 p17 p18 p19 p20 r3 x1 x15 = some (rB (p17,p18) (lC a0 a1 a2 (r3.2 && !qC a0 p16) (p19.set r3.1.toNat p16) (p20 ++ [p16]))):=by
 unfold lG
 have hc1:=sB (p19.set r3.1.toNat p16) (by simp <;> omega)
 have hc2:=sB (p20 ++ [p16]) (by simp <;> omega)
 have key:∀ b,(fQ a0 a1 a2 p16 p17 p18 p19 p20 r3 x1 x15 b (p19.set r3.1.toNat p16) (p20 ++ [p16])).bind (fun r=>Sum.elim (fun z=>some ((z.1,z.2))) (fun _=>some ((p17,p18))) r) = some (rB (p17,p18) (lC a0 a1 a2 b (p19.set r3.1.toNat p16) (p20 ++ [p16]))):=by
  intro b
  obtain ⟨h1,z,h2⟩:=aRf a0 a1 a2 p16 p17 p18 p19 p20 r3 x1 x15 ha hn hl hp b
  rw [h2] at h1 ⊢
  simpa using h1
 cases hw:r3.2 with
 | true =>
  simp only [Ë,ĝ]
  rw [xT _ _ hn.1 hn.2]
  simp only [À]
  rw [hc1,hc2]
  simp only [À]
  exact key _
 | false =>
  simp only [Æ,È,Bool.false_and]
  rw [hc1,hc2]
  simp only [À]
  exact key _
end Go.Proofs.YtoefdnkjcfoccaaDoor
