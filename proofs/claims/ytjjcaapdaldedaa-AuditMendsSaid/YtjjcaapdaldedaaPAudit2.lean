/- search of package audit: each depth of it. Written by a program (paudit.py). -/
import Derived.Test.YtjjcaapdaldedaaPAudit1
set_option linter.unusedVariables false
set_option linter.unusedSimpArgs false
set_option maxHeartbeats 1000000
namespace Go.Proofs.Ytjjcaapdaldedaa
open Go.RowKit Vm
theorem EJ (bb:Option aA × Option aA) (g:Nat->List aA):∀ (l:List Nat) (bb:Option aA × Option aA),l.foldl (fun a k=>pM a (g k)) bb = pM bb (l.flatMap g)
 | [],bb=>rfl
 | k :: l,bb=>by
  rw [List.foldl_cons,EJ bb g l]
  simp only [List.flatMap_cons,pM,List.foldl_append]
theorem P1 (bb:Option aA × Option aA):pM bb [] = bb:=rfl
theorem P0 (b0 b1:Option aA) (f a:Int) (p q:List Int):pM (b0,b1) [aA.mk 0 f a p q] = (BI b0 (aA.mk 0 f a p q),b1):=rfl
theorem aGR (a0:aB) (a1 a2 p16 p54 p92:Int) (p93 p94:Option aA) (p95 p96:List Int) (r100:(List Int)) (r3 r39 r77:Int × Bool) (r99:(List Int)) (x1 x15 x37 x53 x75 x91:Int) (h:r99.length < 1000):oT a0 a1 a2 p16 p54 p92 p93 p94 p95 p96 r100 r3 r39 r77 r99 x1 x15 x37 x53 x75 x91 0 r99 = some (r99.map qU):=by
 unfold oT
 exact zY r99 _ (by omega) (fun i xs=>rfl)
theorem aES (a0:aB) (a1 a2:Int) (p117 p118:List Int) (p16 p54 p92:Int) (p93 p94:Option aA) (p95 p96:List Int) (r3 r39 r77:Int × Bool) (x1 x15 x37 x53 x75 x91:Int) (h:p117.length < 1000):oF a0 a1 a2 p117 p118 p16 p54 p92 p93 p94 p95 p96 r3 r39 r77 x1 x15 x37 x53 x75 x91 0 p117 = some (p117.map qU):=by
 unfold oF
 exact zY p117 _ (by omega) (fun i xs=>rfl)
theorem aE0 (a0:aB) (a1 a2:Int) (p117 p118:List Int) (p16 p54 p92:Int) (p93 p94:Option aA) (p95 p96:List Int) (r3 r39 r77:Int × Bool) (x1 x15 x37 x53 x75 x91:Int) (h:p117.length < 1000):oM a0 a1 a2 p117 p118 p16 p54 p92 p93 p94 p95 p96 r3 r39 r77 x1 x15 x37 x53 x75 x91 0 p117 = some (p117.map qU):=by
 unfold oM
 exact zY p117 _ (by omega) (fun i xs=>rfl)
theorem aLv (a0:aB) (a1 a2 p16 p54 p92:Int) (p93 p94:Option aA) (p95 p96:List Int) (r3 r39 r77:Int × Bool) (x1 x15 x37 x53 x75 x91:Int) (ha:oV a0) (hn:0 <= p92 ∧ p92 < (a0.Orders.length:Int)) (hl:p95.length = 5) (hp:p96.length < 100) (b:Bool) :
  Sum.elim (fun z=>some z) (fun _=>some (p93,p94)) (((fX a0 a1 a2 p16 p54 p92 p93 p94 p95 p96 r3 r39 r77 x1 x15 x37 x53 x75 x91 b (p95.set r77.1.toNat p92) (p96 ++ [p92])).getD (.inr ()))) = some (pM (p93,p94) (jC a0 a1 a2 b (p95.set r77.1.toNat p92) (p96 ++ [p92]))) ∧ ∃ z,fX a0 a1 a2 p16 p54 p92 p93 p94 p95 p96 r3 r39 r77 x1 x15 x37 x53 x75 x91 b (p95.set r77.1.toNat p92) (p96 ++ [p92]) = some z:=by
 have e:fX a0 a1 a2 p16 p54 p92 p93 p94 p95 p96 r3 r39 r77 x1 x15 x37 x53 x75 x91 b (p95.set r77.1.toNat p92) (p96 ++ [p92]) = some (if b = true then .inl (p93,BI p94 (aA.mk 1 a1 a2 ((p95.set r77.1.toNat p92).map qU) (p96 ++ [p92]))) else if jY (el a0.Orders p92.toNat) a2 = true then .inr () else .inl (BI p93 (aA.mk 0 a1 a2 ((p95.set r77.1.toNat p92).map qU) (p96 ++ [p92])),p94)):=by
  unfold fX
  cases b with
  | true =>
   simp only [if_true]
   unfold sR
   rw [aES _ _ _ _ _ _ _ _ _ _ _ _ _ _ _ _ _ _ _ _ _ (by simp <;> omega)]
   simp only [Option.bind_some]
   rw [aDs _ _ (by simp <;> omega) (by simp <;> omega)]
   rfl
  | false =>
   simp only [Bool.false_eq_true,if_false]
   rw [DV _ _ (by simp) (by simp <;> omega),gE,A8 _ _ hn.1 hn.2]
   simp only [Option.bind_some]
   rw [sO _ _ (by have:=(ha.cs p92.toNat (by omega)).2; omega)]
   simp only [Option.bind_some]
   cases hr:jY (el a0.Orders p92.toNat) a2 with
   | true=>simp only [if_true]
   | false =>
    simp only [Bool.false_eq_true,if_false]
    unfold rX
    rw [aE0 _ _ _ _ _ _ _ _ _ _ _ _ _ _ _ _ _ _ _ _ _ (by simp <;> omega)]
    simp only [Option.bind_some]
    rw [aDs _ _ (by simp <;> omega) (by simp <;> omega)]
    rfl
 refine ⟨?_,_,e⟩
 rw [e]
 simp only [Option.getD_some,jC,gE]
 cases b with
 | true=>rfl
 | false =>
  simp only [Bool.false_eq_true,if_false]
  cases hr:jY (el a0.Orders p92.toNat) a2 <;> rfl
theorem aMH (a0:aB) (a1 a2 p16 p54 p92:Int) (p93 p94:Option aA) (p95 p96:List Int) (r3 r39 r77:Int × Bool) (x1 x15 x37 x53 x75 x91:Int) (ha:oV a0) (hn:0 <= p92 ∧ p92 < (a0.Orders.length:Int)) (hl:p95.length = 5) (hp:p96.length < 100) :
  lC a0 a1 a2 p16 p54 p92 p93 p94 p95 p96 r3 r39 r77 x1 x15 x37 x53 x75 x91 = some (pM (p93,p94) (jC a0 a1 a2 (r77.2 && !xL a0 p92) (p95.set r77.1.toNat p92) (p96 ++ [p92]))):=by
 unfold lC
 have hc1:=qY (p95.set r77.1.toNat p92) (by simp <;> omega)
 have hc2:=qY (p96 ++ [p92]) (by simp <;> omega)
 have key:∀ b,(fX a0 a1 a2 p16 p54 p92 p93 p94 p95 p96 r3 r39 r77 x1 x15 x37 x53 x75 x91 b (p95.set r77.1.toNat p92) (p96 ++ [p92])).bind (fun r=>Sum.elim (fun z=>some ((z.1,z.2))) (fun _=>some ((p93,p94))) r) = some (pM (p93,p94) (jC a0 a1 a2 b (p95.set r77.1.toNat p92) (p96 ++ [p92]))):=by
  intro b
  obtain ⟨h1,z,h2⟩:=aLv a0 a1 a2 p16 p54 p92 p93 p94 p95 p96 r3 r39 r77 x1 x15 x37 x53 x75 x91 ha hn hl hp b
  rw [h2] at h1 ⊢
  simpa using h1
 cases hw:r77.2 with
 | true =>
  simp only [if_true,Bool.true_and]
  rw [A8 _ _ hn.1 hn.2]
  simp only [Option.bind_some]
  rw [hc1,hc2]
  simp only [Option.bind_some]
  exact key _
 | false =>
  simp only [Bool.false_eq_true,if_false,Bool.false_and]
  rw [hc1,hc2]
  simp only [Option.bind_some]
  exact key _
theorem aG6 (a0:aB) (a1 a2 p16 p54:Int) (p55 p56:Option aA) (p57 p58:List Int) (r3 r39:Int × Bool) (r61 r62:(List Int)) (x1 x15 x37 x53:Int) (h:r61.length < 1000):oW a0 a1 a2 p16 p54 p55 p56 p57 p58 r3 r39 r61 r62 x1 x15 x37 x53 0 r61 = some (r61.map qU):=by
 unfold oW
 exact zY r61 _ (by omega) (fun i xs=>rfl)
theorem aC0 (a0:aB) (a1 a2 p16:Int) (p191 p192:List Int) (p54:Int) (p55 p56:Option aA) (p57 p58:List Int) (r3 r39:Int × Bool) (x1 x15 x37 x53:Int) (h:p191.length < 1000):mX a0 a1 a2 p16 p191 p192 p54 p55 p56 p57 p58 r3 r39 x1 x15 x37 x53 0 p191 = some (p191.map qU):=by
 unfold mX
 exact zY p191 _ (by omega) (fun i xs=>rfl)
theorem aCQ (a0:aB) (a1 a2 p16:Int) (p191 p192:List Int) (p54:Int) (p55 p56:Option aA) (p57 p58:List Int) (r3 r39:Int × Bool) (x1 x15 x37 x53:Int) (h:p191.length < 1000):m4 a0 a1 a2 p16 p191 p192 p54 p55 p56 p57 p58 r3 r39 x1 x15 x37 x53 0 p191 = some (p191.map qU):=by
 unfold m4
 exact zY p191 _ (by omega) (fun i xs=>rfl)
theorem aLk (a0:aB) (a1 a2 p16 p54:Int) (p55 p56:Option aA) (p57 p58:List Int) (r3 r39:Int × Bool) (x1 x15 x37 x53:Int) (ha:oV a0) (hn:0 <= p54 ∧ p54 < (a0.Orders.length:Int)) (hl:p57.length = 5) (hp:p58.length < 100) (b:Bool) :
  Sum.elim (fun z=>some z) (fun _=>some (p55,p56)) (((f9 a0 a1 a2 p16 p54 p55 p56 p57 p58 r3 r39 x1 x15 x37 x53 b (p57.set r39.1.toNat p54) (p58 ++ [p54])).getD (.inr ()))) = some (pM (p55,p56) (jC a0 a1 a2 b (p57.set r39.1.toNat p54) (p58 ++ [p54]))) ∧ ∃ z,f9 a0 a1 a2 p16 p54 p55 p56 p57 p58 r3 r39 x1 x15 x37 x53 b (p57.set r39.1.toNat p54) (p58 ++ [p54]) = some z:=by
 have e:f9 a0 a1 a2 p16 p54 p55 p56 p57 p58 r3 r39 x1 x15 x37 x53 b (p57.set r39.1.toNat p54) (p58 ++ [p54]) = some (if b = true then .inl (p55,BI p56 (aA.mk 1 a1 a2 ((p57.set r39.1.toNat p54).map qU) (p58 ++ [p54]))) else if jY (el a0.Orders p54.toNat) a2 = true then .inr () else .inl (BI p55 (aA.mk 0 a1 a2 ((p57.set r39.1.toNat p54).map qU) (p58 ++ [p54])),p56)):=by
  unfold f9
  cases b with
  | true =>
   simp only [if_true]
   unfold rO
   rw [aC0 _ _ _ _ _ _ _ _ _ _ _ _ _ _ _ _ _ (by simp <;> omega)]
   simp only [Option.bind_some]
   rw [aDs _ _ (by simp <;> omega) (by simp <;> omega)]
   rfl
  | false =>
   simp only [Bool.false_eq_true,if_false]
   rw [DV _ _ (by simp) (by simp <;> omega),gE,A8 _ _ hn.1 hn.2]
   simp only [Option.bind_some]
   rw [sO _ _ (by have:=(ha.cs p54.toNat (by omega)).2; omega)]
   simp only [Option.bind_some]
   cases hr:jY (el a0.Orders p54.toNat) a2 with
   | true=>simp only [if_true]
   | false =>
    simp only [Bool.false_eq_true,if_false]
    unfold rI
    rw [aCQ _ _ _ _ _ _ _ _ _ _ _ _ _ _ _ _ _ (by simp <;> omega)]
    simp only [Option.bind_some]
    rw [aDs _ _ (by simp <;> omega) (by simp <;> omega)]
    rfl
 refine ⟨?_,_,e⟩
 rw [e]
 simp only [Option.getD_some,jC,gE]
 cases b with
 | true=>rfl
 | false =>
  simp only [Bool.false_eq_true,if_false]
  cases hr:jY (el a0.Orders p54.toNat) a2 <;> rfl
theorem aMB (a0:aB) (a1 a2 p16 p54:Int) (p55 p56:Option aA) (p57 p58:List Int) (r3 r39:Int × Bool) (x1 x15 x37 x53:Int) (ha:oV a0) (hn:0 <= p54 ∧ p54 < (a0.Orders.length:Int)) (hl:p57.length = 5) (hp:p58.length < 100) :
  kU a0 a1 a2 p16 p54 p55 p56 p57 p58 r3 r39 x1 x15 x37 x53 = some (pM (p55,p56) (jC a0 a1 a2 (r39.2 && !xL a0 p54) (p57.set r39.1.toNat p54) (p58 ++ [p54]))):=by
 unfold kU
 have hc1:=qY (p57.set r39.1.toNat p54) (by simp <;> omega)
 have hc2:=qY (p58 ++ [p54]) (by simp <;> omega)
 have key:∀ b,(f9 a0 a1 a2 p16 p54 p55 p56 p57 p58 r3 r39 x1 x15 x37 x53 b (p57.set r39.1.toNat p54) (p58 ++ [p54])).bind (fun r=>Sum.elim (fun z=>some ((z.1,z.2))) (fun _=>some ((p55,p56))) r) = some (pM (p55,p56) (jC a0 a1 a2 b (p57.set r39.1.toNat p54) (p58 ++ [p54]))):=by
  intro b
  obtain ⟨h1,z,h2⟩:=aLk a0 a1 a2 p16 p54 p55 p56 p57 p58 r3 r39 x1 x15 x37 x53 ha hn hl hp b
  rw [h2] at h1 ⊢
  simpa using h1
 cases hw:r39.2 with
 | true =>
  simp only [if_true,Bool.true_and]
  rw [A8 _ _ hn.1 hn.2]
  simp only [Option.bind_some]
  rw [hc1,hc2]
  simp only [Option.bind_some]
  exact key _
 | false =>
  simp only [Bool.false_eq_true,if_false,Bool.false_and]
  rw [hc1,hc2]
  simp only [Option.bind_some]
  exact key _
theorem aGX (a0:aB) (a1 a2 p16:Int) (p17 p18:Option aA) (p19 p20:List Int) (r23 r24:(List Int)) (r3:Int × Bool) (x1 x15:Int) (h:r23.length < 1000):oY a0 a1 a2 p16 p17 p18 p19 p20 r23 r24 r3 x1 x15 0 r23 = some (r23.map qU):=by
 unfold oY
 exact zY r23 _ (by omega) (fun i xs=>rfl)
theorem aCe (a0:aB) (a1 a2 p16:Int) (p17 p18:Option aA) (p19 p20 p270 p271:List Int) (r3:Int × Bool) (x1 x15:Int) (h:p270.length < 1000):m9 a0 a1 a2 p16 p17 p18 p19 p20 p270 p271 r3 x1 x15 0 p270 = some (p270.map qU):=by
 unfold m9
 exact zY p270 _ (by omega) (fun i xs=>rfl)
theorem aBU (a0:aB) (a1 a2 p16:Int) (p17 p18:Option aA) (p19 p20 p270 p271:List Int) (r3:Int × Bool) (x1 x15:Int) (h:p270.length < 1000):m0 a0 a1 a2 p16 p17 p18 p19 p20 p270 p271 r3 x1 x15 0 p270 = some (p270.map qU):=by
 unfold m0
 exact zY p270 _ (by omega) (fun i xs=>rfl)
theorem aKI (a0:aB) (a1 a2 p16:Int) (p17 p18:Option aA) (p19 p20:List Int) (r3:Int × Bool) (x1 x15:Int) (ha:oV a0) (hn:0 <= p16 ∧ p16 < (a0.Orders.length:Int)) (hl:p19.length = 5) (hp:p20.length < 100) (b:Bool) :
  Sum.elim (fun z=>some z) (fun _=>some (p17,p18)) (((fY a0 a1 a2 p16 p17 p18 p19 p20 r3 x1 x15 b (p19.set r3.1.toNat p16) (p20 ++ [p16])).getD (.inr ()))) = some (pM (p17,p18) (jC a0 a1 a2 b (p19.set r3.1.toNat p16) (p20 ++ [p16]))) ∧ ∃ z,fY a0 a1 a2 p16 p17 p18 p19 p20 r3 x1 x15 b (p19.set r3.1.toNat p16) (p20 ++ [p16]) = some z:=by
 have e:fY a0 a1 a2 p16 p17 p18 p19 p20 r3 x1 x15 b (p19.set r3.1.toNat p16) (p20 ++ [p16]) = some (if b = true then .inl (p17,BI p18 (aA.mk 1 a1 a2 ((p19.set r3.1.toNat p16).map qU) (p20 ++ [p16]))) else if jY (el a0.Orders p16.toNat) a2 = true then .inr () else .inl (BI p17 (aA.mk 0 a1 a2 ((p19.set r3.1.toNat p16).map qU) (p20 ++ [p16])),p18)):=by
  unfold fY
  cases b with
  | true =>
   simp only [if_true]
   unfold rW
   rw [aCe _ _ _ _ _ _ _ _ _ _ _ _ _ (by simp <;> omega)]
   simp only [Option.bind_some]
   rw [aDs _ _ (by simp <;> omega) (by simp <;> omega)]
   rfl
  | false =>
   simp only [Bool.false_eq_true,if_false]
   rw [DV _ _ (by simp) (by simp <;> omega),gE,A8 _ _ hn.1 hn.2]
   simp only [Option.bind_some]
   rw [sO _ _ (by have:=(ha.cs p16.toNat (by omega)).2; omega)]
   simp only [Option.bind_some]
   cases hr:jY (el a0.Orders p16.toNat) a2 with
   | true=>simp only [if_true]
   | false =>
    simp only [Bool.false_eq_true,if_false]
    unfold rR
    rw [aBU _ _ _ _ _ _ _ _ _ _ _ _ _ (by simp <;> omega)]
    simp only [Option.bind_some]
    rw [aDs _ _ (by simp <;> omega) (by simp <;> omega)]
    rfl
 refine ⟨?_,_,e⟩
 rw [e]
 simp only [Option.getD_some,jC,gE]
 cases b with
 | true=>rfl
 | false =>
  simp only [Bool.false_eq_true,if_false]
  cases hr:jY (el a0.Orders p16.toNat) a2 <;> rfl
theorem aMN (a0:aB) (a1 a2 p16:Int) (p17 p18:Option aA) (p19 p20:List Int) (r3:Int × Bool) (x1 x15:Int) (ha:oV a0) (hn:0 <= p16 ∧ p16 < (a0.Orders.length:Int)) (hl:p19.length = 5) (hp:p20.length < 100) :
  kZ a0 a1 a2 p16 p17 p18 p19 p20 r3 x1 x15 = some (pM (p17,p18) (jC a0 a1 a2 (r3.2 && !xL a0 p16) (p19.set r3.1.toNat p16) (p20 ++ [p16]))):=by
 unfold kZ
 have hc1:=qY (p19.set r3.1.toNat p16) (by simp <;> omega)
 have hc2:=qY (p20 ++ [p16]) (by simp <;> omega)
 have key:∀ b,(fY a0 a1 a2 p16 p17 p18 p19 p20 r3 x1 x15 b (p19.set r3.1.toNat p16) (p20 ++ [p16])).bind (fun r=>Sum.elim (fun z=>some ((z.1,z.2))) (fun _=>some ((p17,p18))) r) = some (pM (p17,p18) (jC a0 a1 a2 b (p19.set r3.1.toNat p16) (p20 ++ [p16]))):=by
  intro b
  obtain ⟨h1,z,h2⟩:=aKI a0 a1 a2 p16 p17 p18 p19 p20 r3 x1 x15 ha hn hl hp b
  rw [h2] at h1 ⊢
  simpa using h1
 cases hw:r3.2 with
 | true =>
  simp only [if_true,Bool.true_and]
  rw [A8 _ _ hn.1 hn.2]
  simp only [Option.bind_some]
  rw [hc1,hc2]
  simp only [Option.bind_some]
  exact key _
 | false =>
  simp only [Bool.false_eq_true,if_false,Bool.false_and]
  rw [hc1,hc2]
  simp only [Option.bind_some]
  exact key _
end Go.Proofs.Ytjjcaapdaldedaa
