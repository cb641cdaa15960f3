/- search of package audit: each depth of it. Written by a program (paudit.py). -/
import Derived.Test.YtjjcaapdaldedaaPAudit1
set_option linter.unusedVariables false
set_option linter.unusedSimpArgs false
set_option maxHeartbeats 1000000
namespace Go.Proofs.Ytjjcaapdaldedaa
open Go.RowKit Vm
theorem BF (bb:Option aA × Option aA) (g:Nat->List aA):∀ (l:List Nat) (bb:Option aA × Option aA),l.foldl (fun a k=>pE a (g k)) bb = pE bb (l.flatMap g)
 | [],bb=>rfl
 | k :: l,bb=>by
  rw [List.foldl_cons,BF bb g l]
  simp only [List.flatMap_cons,pE,List.foldl_append]
theorem KD (bb:Option aA × Option aA):pE bb [] = bb:=rfl
theorem JT (b0 b1:Option aA) (f a:Int) (p q:List Int):pE (b0,b1) [aA.mk 0 f a p q] = (yX b0 (aA.mk 0 f a p q),b1):=rfl
theorem Z4 (a0:aB) (a1 a2 p16 p54 p92:Int) (p93 p94:Option aA) (p95 p96:List Int) (r100:(List Int)) (r3 r39 r77:Int × Bool) (r99:(List Int)) (x1 x15 x37 x53 x75 x91:Int) (h:r99.length < 1000):nF a0 a1 a2 p16 p54 p92 p93 p94 p95 p96 r100 r3 r39 r77 r99 x1 x15 x37 x53 x75 x91 0 r99 = some (r99.map mG):=by
 unfold nF
 exact vF r99 _ (by omega) (fun i xs=>rfl)
theorem ZT (a0:aB) (a1 a2:Int) (p117 p118:List Int) (p16 p54 p92:Int) (p93 p94:Option aA) (p95 p96:List Int) (r3 r39 r77:Int × Bool) (x1 x15 x37 x53 x75 x91:Int) (h:p117.length < 1000):nR a0 a1 a2 p117 p118 p16 p54 p92 p93 p94 p95 p96 r3 r39 r77 x1 x15 x37 x53 x75 x91 0 p117 = some (p117.map mG):=by
 unfold nR
 exact vF p117 _ (by omega) (fun i xs=>rfl)
theorem aCc (a0:aB) (a1 a2:Int) (p117 p118:List Int) (p16 p54 p92:Int) (p93 p94:Option aA) (p95 p96:List Int) (r3 r39 r77:Int × Bool) (x1 x15 x37 x53 x75 x91:Int) (h:p117.length < 1000):nG a0 a1 a2 p117 p118 p16 p54 p92 p93 p94 p95 p96 r3 r39 r77 x1 x15 x37 x53 x75 x91 0 p117 = some (p117.map mG):=by
 unfold nG
 exact vF p117 _ (by omega) (fun i xs=>rfl)
theorem aFA (a0:aB) (a1 a2 p16 p54 p92:Int) (p93 p94:Option aA) (p95 p96:List Int) (r3 r39 r77:Int × Bool) (x1 x15 x37 x53 x75 x91:Int) (ha:lY a0) (hn:0 <= p92 ∧ p92 < (a0.Orders.length:Int)) (hl:p95.length = 5) (hp:p96.length < 100) (b:Bool) :
  Sum.elim (fun z=>some z) (fun _=>some (p93,p94)) (((gN a0 a1 a2 p16 p54 p92 p93 p94 p95 p96 r3 r39 r77 x1 x15 x37 x53 x75 x91 b (p95.set r77.1.toNat p92) (p96 ++ [p92])).getD (.inr ()))) = some (pE (p93,p94) (kB a0 a1 a2 b (p95.set r77.1.toNat p92) (p96 ++ [p92]))) ∧ ∃ z,gN a0 a1 a2 p16 p54 p92 p93 p94 p95 p96 r3 r39 r77 x1 x15 x37 x53 x75 x91 b (p95.set r77.1.toNat p92) (p96 ++ [p92]) = some z:=by
 have e:gN a0 a1 a2 p16 p54 p92 p93 p94 p95 p96 r3 r39 r77 x1 x15 x37 x53 x75 x91 b (p95.set r77.1.toNat p92) (p96 ++ [p92]) = some (if b = true then .inl (p93,yX p94 (aA.mk 1 a1 a2 ((p95.set r77.1.toNat p92).map mG) (p96 ++ [p92]))) else if lP (el a0.Orders p92.toNat) a2 = true then .inr () else .inl (yX p93 (aA.mk 0 a1 a2 ((p95.set r77.1.toNat p92).map mG) (p96 ++ [p92])),p94)):=by
  unfold gN
  cases b with
  | true =>
   simp only [if_true]
   unfold qR
   rw [ZT _ _ _ _ _ _ _ _ _ _ _ _ _ _ _ _ _ _ _ _ _ (by simp <;> omega)]
   simp only [Option.bind_some]
   rw [VU _ _ (by simp <;> omega) (by simp <;> omega)]
   rfl
  | false =>
   simp only [Bool.false_eq_true,if_false]
   rw [AY _ _ (by simp) (by simp <;> omega),gO,rT _ _ hn.1 hn.2]
   simp only [Option.bind_some]
   rw [o9 _ _ (by have:=(ha.cs p92.toNat (by omega)).2; omega)]
   simp only [Option.bind_some]
   cases hr:lP (el a0.Orders p92.toNat) a2 with
   | true=>simp only [if_true]
   | false =>
    simp only [Bool.false_eq_true,if_false]
    unfold qC
    rw [aCc _ _ _ _ _ _ _ _ _ _ _ _ _ _ _ _ _ _ _ _ _ (by simp <;> omega)]
    simp only [Option.bind_some]
    rw [VU _ _ (by simp <;> omega) (by simp <;> omega)]
    rfl
 refine ⟨?_,_,e⟩
 rw [e]
 simp only [Option.getD_some,kB,gO]
 cases b with
 | true=>rfl
 | false =>
  simp only [Bool.false_eq_true,if_false]
  cases hr:lP (el a0.Orders p92.toNat) a2 <;> rfl
theorem aHZ (a0:aB) (a1 a2 p16 p54 p92:Int) (p93 p94:Option aA) (p95 p96:List Int) (r3 r39 r77:Int × Bool) (x1 x15 x37 x53 x75 x91:Int) (ha:lY a0) (hn:0 <= p92 ∧ p92 < (a0.Orders.length:Int)) (hl:p95.length = 5) (hp:p96.length < 100) :
  kN a0 a1 a2 p16 p54 p92 p93 p94 p95 p96 r3 r39 r77 x1 x15 x37 x53 x75 x91 = some (pE (p93,p94) (kB a0 a1 a2 (r77.2 && !tY a0 p92) (p95.set r77.1.toNat p92) (p96 ++ [p92]))):=by
 unfold kN
 have hc1:=pI (p95.set r77.1.toNat p92) (by simp <;> omega)
 have hc2:=pI (p96 ++ [p92]) (by simp <;> omega)
 have key:∀ b,(gN a0 a1 a2 p16 p54 p92 p93 p94 p95 p96 r3 r39 r77 x1 x15 x37 x53 x75 x91 b (p95.set r77.1.toNat p92) (p96 ++ [p92])).bind (fun r=>Sum.elim (fun z=>some ((z.1,z.2))) (fun _=>some ((p93,p94))) r) = some (pE (p93,p94) (kB a0 a1 a2 b (p95.set r77.1.toNat p92) (p96 ++ [p92]))):=by
  intro b
  obtain ⟨h1,z,h2⟩:=aFA a0 a1 a2 p16 p54 p92 p93 p94 p95 p96 r3 r39 r77 x1 x15 x37 x53 x75 x91 ha hn hl hp b
  rw [h2] at h1 ⊢
  simpa using h1
 cases hw:r77.2 with
 | true =>
  simp only [if_true,Bool.true_and]
  rw [rT _ _ hn.1 hn.2]
  simp only [Option.bind_some]
  rw [hc1,hc2]
  simp only [Option.bind_some]
  exact key _
 | false =>
  simp only [Bool.false_eq_true,if_false,Bool.false_and]
  rw [hc1,hc2]
  simp only [Option.bind_some]
  exact key _
theorem ZA (a0:aB) (a1 a2 p16 p54:Int) (p55 p56:Option aA) (p57 p58:List Int) (r3 r39:Int × Bool) (r61 r62:(List Int)) (x1 x15 x37 x53:Int) (h:r61.length < 1000):nS a0 a1 a2 p16 p54 p55 p56 p57 p58 r3 r39 r61 r62 x1 x15 x37 x53 0 r61 = some (r61.map mG):=by
 unfold nS
 exact vF r61 _ (by omega) (fun i xs=>rfl)
theorem XF (a0:aB) (a1 a2 p16:Int) (p191 p192:List Int) (p54:Int) (p55 p56:Option aA) (p57 p58:List Int) (r3 r39:Int × Bool) (x1 x15 x37 x53:Int) (h:p191.length < 1000):mR a0 a1 a2 p16 p191 p192 p54 p55 p56 p57 p58 r3 r39 x1 x15 x37 x53 0 p191 = some (p191.map mG):=by
 unfold mR
 exact vF p191 _ (by omega) (fun i xs=>rfl)
theorem YI (a0:aB) (a1 a2 p16:Int) (p191 p192:List Int) (p54:Int) (p55 p56:Option aA) (p57 p58:List Int) (r3 r39:Int × Bool) (x1 x15 x37 x53:Int) (h:p191.length < 1000):mP a0 a1 a2 p16 p191 p192 p54 p55 p56 p57 p58 r3 r39 x1 x15 x37 x53 0 p191 = some (p191.map mG):=by
 unfold mP
 exact vF p191 _ (by omega) (fun i xs=>rfl)
theorem aGN (a0:aB) (a1 a2 p16 p54:Int) (p55 p56:Option aA) (p57 p58:List Int) (r3 r39:Int × Bool) (x1 x15 x37 x53:Int) (ha:lY a0) (hn:0 <= p54 ∧ p54 < (a0.Orders.length:Int)) (hl:p57.length = 5) (hp:p58.length < 100) (b:Bool) :
  Sum.elim (fun z=>some z) (fun _=>some (p55,p56)) (((gJ a0 a1 a2 p16 p54 p55 p56 p57 p58 r3 r39 x1 x15 x37 x53 b (p57.set r39.1.toNat p54) (p58 ++ [p54])).getD (.inr ()))) = some (pE (p55,p56) (kB a0 a1 a2 b (p57.set r39.1.toNat p54) (p58 ++ [p54]))) ∧ ∃ z,gJ a0 a1 a2 p16 p54 p55 p56 p57 p58 r3 r39 x1 x15 x37 x53 b (p57.set r39.1.toNat p54) (p58 ++ [p54]) = some z:=by
 have e:gJ a0 a1 a2 p16 p54 p55 p56 p57 p58 r3 r39 x1 x15 x37 x53 b (p57.set r39.1.toNat p54) (p58 ++ [p54]) = some (if b = true then .inl (p55,yX p56 (aA.mk 1 a1 a2 ((p57.set r39.1.toNat p54).map mG) (p58 ++ [p54]))) else if lP (el a0.Orders p54.toNat) a2 = true then .inr () else .inl (yX p55 (aA.mk 0 a1 a2 ((p57.set r39.1.toNat p54).map mG) (p58 ++ [p54])),p56)):=by
  unfold gJ
  cases b with
  | true =>
   simp only [if_true]
   unfold qD
   rw [XF _ _ _ _ _ _ _ _ _ _ _ _ _ _ _ _ _ (by simp <;> omega)]
   simp only [Option.bind_some]
   rw [VU _ _ (by simp <;> omega) (by simp <;> omega)]
   rfl
  | false =>
   simp only [Bool.false_eq_true,if_false]
   rw [AY _ _ (by simp) (by simp <;> omega),gO,rT _ _ hn.1 hn.2]
   simp only [Option.bind_some]
   rw [o9 _ _ (by have:=(ha.cs p54.toNat (by omega)).2; omega)]
   simp only [Option.bind_some]
   cases hr:lP (el a0.Orders p54.toNat) a2 with
   | true=>simp only [if_true]
   | false =>
    simp only [Bool.false_eq_true,if_false]
    unfold pX
    rw [YI _ _ _ _ _ _ _ _ _ _ _ _ _ _ _ _ _ (by simp <;> omega)]
    simp only [Option.bind_some]
    rw [VU _ _ (by simp <;> omega) (by simp <;> omega)]
    rfl
 refine ⟨?_,_,e⟩
 rw [e]
 simp only [Option.getD_some,kB,gO]
 cases b with
 | true=>rfl
 | false =>
  simp only [Bool.false_eq_true,if_false]
  cases hr:lP (el a0.Orders p54.toNat) a2 <;> rfl
theorem aHk (a0:aB) (a1 a2 p16 p54:Int) (p55 p56:Option aA) (p57 p58:List Int) (r3 r39:Int × Bool) (x1 x15 x37 x53:Int) (ha:lY a0) (hn:0 <= p54 ∧ p54 < (a0.Orders.length:Int)) (hl:p57.length = 5) (hp:p58.length < 100) :
  kC a0 a1 a2 p16 p54 p55 p56 p57 p58 r3 r39 x1 x15 x37 x53 = some (pE (p55,p56) (kB a0 a1 a2 (r39.2 && !tY a0 p54) (p57.set r39.1.toNat p54) (p58 ++ [p54]))):=by
 unfold kC
 have hc1:=pI (p57.set r39.1.toNat p54) (by simp <;> omega)
 have hc2:=pI (p58 ++ [p54]) (by simp <;> omega)
 have key:∀ b,(gJ a0 a1 a2 p16 p54 p55 p56 p57 p58 r3 r39 x1 x15 x37 x53 b (p57.set r39.1.toNat p54) (p58 ++ [p54])).bind (fun r=>Sum.elim (fun z=>some ((z.1,z.2))) (fun _=>some ((p55,p56))) r) = some (pE (p55,p56) (kB a0 a1 a2 b (p57.set r39.1.toNat p54) (p58 ++ [p54]))):=by
  intro b
  obtain ⟨h1,z,h2⟩:=aGN a0 a1 a2 p16 p54 p55 p56 p57 p58 r3 r39 x1 x15 x37 x53 ha hn hl hp b
  rw [h2] at h1 ⊢
  simpa using h1
 cases hw:r39.2 with
 | true =>
  simp only [if_true,Bool.true_and]
  rw [rT _ _ hn.1 hn.2]
  simp only [Option.bind_some]
  rw [hc1,hc2]
  simp only [Option.bind_some]
  exact key _
 | false =>
  simp only [Bool.false_eq_true,if_false,Bool.false_and]
  rw [hc1,hc2]
  simp only [Option.bind_some]
  exact key _
theorem aBr (a0:aB) (a1 a2 p16:Int) (p17 p18:Option aA) (p19 p20:List Int) (r23 r24:(List Int)) (r3:Int × Bool) (x1 x15:Int) (h:r23.length < 1000):nL a0 a1 a2 p16 p17 p18 p19 p20 r23 r24 r3 x1 x15 0 r23 = some (r23.map mG):=by
 unfold nL
 exact vF r23 _ (by omega) (fun i xs=>rfl)
theorem WF (a0:aB) (a1 a2 p16:Int) (p17 p18:Option aA) (p19 p20 p270 p271:List Int) (r3:Int × Bool) (x1 x15:Int) (h:p270.length < 1000):mL a0 a1 a2 p16 p17 p18 p19 p20 p270 p271 r3 x1 x15 0 p270 = some (p270.map mG):=by
 unfold mL
 exact vF p270 _ (by omega) (fun i xs=>rfl)
theorem YZ (a0:aB) (a1 a2 p16:Int) (p17 p18:Option aA) (p19 p20 p270 p271:List Int) (r3:Int × Bool) (x1 x15:Int) (h:p270.length < 1000):mI a0 a1 a2 p16 p17 p18 p19 p20 p270 p271 r3 x1 x15 0 p270 = some (p270.map mG):=by
 unfold mI
 exact vF p270 _ (by omega) (fun i xs=>rfl)
theorem aGI (a0:aB) (a1 a2 p16:Int) (p17 p18:Option aA) (p19 p20:List Int) (r3:Int × Bool) (x1 x15:Int) (ha:lY a0) (hn:0 <= p16 ∧ p16 < (a0.Orders.length:Int)) (hl:p19.length = 5) (hp:p20.length < 100) (b:Bool) :
  Sum.elim (fun z=>some z) (fun _=>some (p17,p18)) (((gM a0 a1 a2 p16 p17 p18 p19 p20 r3 x1 x15 b (p19.set r3.1.toNat p16) (p20 ++ [p16])).getD (.inr ()))) = some (pE (p17,p18) (kB a0 a1 a2 b (p19.set r3.1.toNat p16) (p20 ++ [p16]))) ∧ ∃ z,gM a0 a1 a2 p16 p17 p18 p19 p20 r3 x1 x15 b (p19.set r3.1.toNat p16) (p20 ++ [p16]) = some z:=by
 have e:gM a0 a1 a2 p16 p17 p18 p19 p20 r3 x1 x15 b (p19.set r3.1.toNat p16) (p20 ++ [p16]) = some (if b = true then .inl (p17,yX p18 (aA.mk 1 a1 a2 ((p19.set r3.1.toNat p16).map mG) (p20 ++ [p16]))) else if lP (el a0.Orders p16.toNat) a2 = true then .inr () else .inl (yX p17 (aA.mk 0 a1 a2 ((p19.set r3.1.toNat p16).map mG) (p20 ++ [p16])),p18)):=by
  unfold gM
  cases b with
  | true =>
   simp only [if_true]
   unfold pN
   rw [WF _ _ _ _ _ _ _ _ _ _ _ _ _ (by simp <;> omega)]
   simp only [Option.bind_some]
   rw [VU _ _ (by simp <;> omega) (by simp <;> omega)]
   rfl
  | false =>
   simp only [Bool.false_eq_true,if_false]
   rw [AY _ _ (by simp) (by simp <;> omega),gO,rT _ _ hn.1 hn.2]
   simp only [Option.bind_some]
   rw [o9 _ _ (by have:=(ha.cs p16.toNat (by omega)).2; omega)]
   simp only [Option.bind_some]
   cases hr:lP (el a0.Orders p16.toNat) a2 with
   | true=>simp only [if_true]
   | false =>
    simp only [Bool.false_eq_true,if_false]
    unfold pR
    rw [YZ _ _ _ _ _ _ _ _ _ _ _ _ _ (by simp <;> omega)]
    simp only [Option.bind_some]
    rw [VU _ _ (by simp <;> omega) (by simp <;> omega)]
    rfl
 refine ⟨?_,_,e⟩
 rw [e]
 simp only [Option.getD_some,kB,gO]
 cases b with
 | true=>rfl
 | false =>
  simp only [Bool.false_eq_true,if_false]
  cases hr:lP (el a0.Orders p16.toNat) a2 <;> rfl
theorem aHC (a0:aB) (a1 a2 p16:Int) (p17 p18:Option aA) (p19 p20:List Int) (r3:Int × Bool) (x1 x15:Int) (ha:lY a0) (hn:0 <= p16 ∧ p16 < (a0.Orders.length:Int)) (hl:p19.length = 5) (hp:p20.length < 100) :
  kJ a0 a1 a2 p16 p17 p18 p19 p20 r3 x1 x15 = some (pE (p17,p18) (kB a0 a1 a2 (r3.2 && !tY a0 p16) (p19.set r3.1.toNat p16) (p20 ++ [p16]))):=by
 unfold kJ
 have hc1:=pI (p19.set r3.1.toNat p16) (by simp <;> omega)
 have hc2:=pI (p20 ++ [p16]) (by simp <;> omega)
 have key:∀ b,(gM a0 a1 a2 p16 p17 p18 p19 p20 r3 x1 x15 b (p19.set r3.1.toNat p16) (p20 ++ [p16])).bind (fun r=>Sum.elim (fun z=>some ((z.1,z.2))) (fun _=>some ((p17,p18))) r) = some (pE (p17,p18) (kB a0 a1 a2 b (p19.set r3.1.toNat p16) (p20 ++ [p16]))):=by
  intro b
  obtain ⟨h1,z,h2⟩:=aGI a0 a1 a2 p16 p17 p18 p19 p20 r3 x1 x15 ha hn hl hp b
  rw [h2] at h1 ⊢
  simpa using h1
 cases hw:r3.2 with
 | true =>
  simp only [if_true,Bool.true_and]
  rw [rT _ _ hn.1 hn.2]
  simp only [Option.bind_some]
  rw [hc1,hc2]
  simp only [Option.bind_some]
  exact key _
 | false =>
  simp only [Bool.false_eq_true,if_false,Bool.false_and]
  rw [hc1,hc2]
  simp only [Option.bind_some]
  exact key _
end Go.Proofs.Ytjjcaapdaldedaa
