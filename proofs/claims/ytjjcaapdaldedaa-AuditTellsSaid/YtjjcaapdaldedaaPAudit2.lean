/- search of package audit: each depth of it. Written by a program (paudit.py). -/
import Derived.Test.YtjjcaapdaldedaaPAudit1
set_option linter.unusedVariables false
set_option linter.unusedSimpArgs false
set_option maxHeartbeats 1000000
namespace Go.Proofs.Ytjjcaapdaldedaa
open Go.RowKit Vm
theorem H7 (bb:Option aB × Option aB) (g:Nat->List aB):∀ (l:List Nat) (bb:Option aB × Option aB),l.foldl (fun a k=>qS a (g k)) bb = qS bb (l.flatMap g)
 | [],bb=>rfl
 | k :: l,bb=>by
  rw [List.foldl_cons,H7 bb g l]
  simp only [List.flatMap_cons,qS,List.foldl_append]
theorem U1 (bb:Option aB × Option aB):qS bb [] = bb:=rfl
theorem VR (b0 b1:Option aB) (f a:Int) (p q:List Int):qS (b0,b1) [aB.mk 0 f a p q] = (C2 b0 (aB.mk 0 f a p q),b1):=rfl
theorem aHI (a0:aA) (a1 a2 p16 p54 p92:Int) (p93 p94:Option aB) (p95 p96:List Int) (r100:(List Int)) (r3 r39 r77:Int × Bool) (r99:(List Int)) (x1 x15 x37 x53 x75 x91:Int) (h:r99.length < 1000):sA a0 a1 a2 p16 p54 p92 p93 p94 p95 p96 r100 r3 r39 r77 r99 x1 x15 x37 x53 x75 x91 0 r99 = some (r99.map oJ):=by
 unfold sA
 exact C1 r99 _ (by omega) (fun i xs=>rfl)
theorem aJl (a0:aA) (a1 a2:Int) (p117 p118:List Int) (p16 p54 p92:Int) (p93 p94:Option aB) (p95 p96:List Int) (r3 r39 r77:Int × Bool) (x1 x15 x37 x53 x75 x91:Int) (h:p117.length < 1000):rL a0 a1 a2 p117 p118 p16 p54 p92 p93 p94 p95 p96 r3 r39 r77 x1 x15 x37 x53 x75 x91 0 p117 = some (p117.map oJ):=by
 unfold rL
 exact C1 p117 _ (by omega) (fun i xs=>rfl)
theorem aJe (a0:aA) (a1 a2:Int) (p117 p118:List Int) (p16 p54 p92:Int) (p93 p94:Option aB) (p95 p96:List Int) (r3 r39 r77:Int × Bool) (x1 x15 x37 x53 x75 x91:Int) (h:p117.length < 1000):rV a0 a1 a2 p117 p118 p16 p54 p92 p93 p94 p95 p96 r3 r39 r77 x1 x15 x37 x53 x75 x91 0 p117 = some (p117.map oJ):=by
 unfold rV
 exact C1 p117 _ (by omega) (fun i xs=>rfl)
theorem aOx (a0:aA) (a1 a2 p16 p54 p92:Int) (p93 p94:Option aB) (p95 p96:List Int) (r3 r39 r77:Int × Bool) (x1 x15 x37 x53 x75 x91:Int) (ha:kM a0) (hn:0 <= p92 ∧ p92 < (a0.Orders.length:Int)) (hl:p95.length = 5) (hp:p96.length < 100) (b:Bool) :
  Sum.elim (fun z=>some z) (fun _=>some (p93,p94)) (((g9 a0 a1 a2 p16 p54 p92 p93 p94 p95 p96 r3 r39 r77 x1 x15 x37 x53 x75 x91 b (p95.set r77.1.toNat p92) (p96 ++ [p92])).getD (.inr ()))) = some (qS (p93,p94) (lV a0 a1 a2 b (p95.set r77.1.toNat p92) (p96 ++ [p92]))) ∧ ∃ z,g9 a0 a1 a2 p16 p54 p92 p93 p94 p95 p96 r3 r39 r77 x1 x15 x37 x53 x75 x91 b (p95.set r77.1.toNat p92) (p96 ++ [p92]) = some z:=by
 have e:g9 a0 a1 a2 p16 p54 p92 p93 p94 p95 p96 r3 r39 r77 x1 x15 x37 x53 x75 x91 b (p95.set r77.1.toNat p92) (p96 ++ [p92]) = some (if b = true then .inl (p93,C2 p94 (aB.mk 1 a1 a2 ((p95.set r77.1.toNat p92).map oJ) (p96 ++ [p92]))) else if iM (el a0.Orders p92.toNat) a2 = true then .inr () else .inl (C2 p93 (aB.mk 0 a1 a2 ((p95.set r77.1.toNat p92).map oJ) (p96 ++ [p92])),p94)):=by
  unfold g9
  cases b with
  | true =>
   simp only [if_true]
   unfold vO
   rw [aJl _ _ _ _ _ _ _ _ _ _ _ _ _ _ _ _ _ _ _ _ _ (by simp <;> omega)]
   simp only [Option.bind_some]
   rw [aGk _ _ (by simp <;> omega) (by simp <;> omega)]
   rfl
  | false =>
   simp only [Bool.false_eq_true,if_false]
   rw [G8 _ _ (by simp) (by simp <;> omega),gQ,tK _ _ hn.1 hn.2]
   simp only [Option.bind_some]
   rw [tW _ _ (by have:=(ha.cs p92.toNat (by omega)).2; omega)]
   simp only [Option.bind_some]
   cases hr:iM (el a0.Orders p92.toNat) a2 with
   | true=>simp only [if_true]
   | false =>
    simp only [Bool.false_eq_true,if_false]
    unfold uJ
    rw [aJe _ _ _ _ _ _ _ _ _ _ _ _ _ _ _ _ _ _ _ _ _ (by simp <;> omega)]
    simp only [Option.bind_some]
    rw [aGk _ _ (by simp <;> omega) (by simp <;> omega)]
    rfl
 refine ⟨?_,_,e⟩
 rw [e]
 simp only [Option.getD_some,lV,gQ]
 cases b with
 | true=>rfl
 | false =>
  simp only [Bool.false_eq_true,if_false]
  cases hr:iM (el a0.Orders p92.toNat) a2 <;> rfl
theorem aP5 (a0:aA) (a1 a2 p16 p54 p92:Int) (p93 p94:Option aB) (p95 p96:List Int) (r3 r39 r77:Int × Bool) (x1 x15 x37 x53 x75 x91:Int) (ha:kM a0) (hn:0 <= p92 ∧ p92 < (a0.Orders.length:Int)) (hl:p95.length = 5) (hp:p96.length < 100) :
  nG a0 a1 a2 p16 p54 p92 p93 p94 p95 p96 r3 r39 r77 x1 x15 x37 x53 x75 x91 = some (qS (p93,p94) (lV a0 a1 a2 (r77.2 && !qV a0 p92) (p95.set r77.1.toNat p92) (p96 ++ [p92]))):=by
 unfold nG
 have hc1:=tX (p95.set r77.1.toNat p92) (by simp <;> omega)
 have hc2:=tX (p96 ++ [p92]) (by simp <;> omega)
 have key:∀ b,(g9 a0 a1 a2 p16 p54 p92 p93 p94 p95 p96 r3 r39 r77 x1 x15 x37 x53 x75 x91 b (p95.set r77.1.toNat p92) (p96 ++ [p92])).bind (fun r=>Sum.elim (fun z=>some ((z.1,z.2))) (fun _=>some ((p93,p94))) r) = some (qS (p93,p94) (lV a0 a1 a2 b (p95.set r77.1.toNat p92) (p96 ++ [p92]))):=by
  intro b
  obtain ⟨h1,z,h2⟩:=aOx a0 a1 a2 p16 p54 p92 p93 p94 p95 p96 r3 r39 r77 x1 x15 x37 x53 x75 x91 ha hn hl hp b
  rw [h2] at h1 ⊢
  simpa using h1
 cases hw:r77.2 with
 | true =>
  simp only [if_true,Bool.true_and]
  rw [tK _ _ hn.1 hn.2]
  simp only [Option.bind_some]
  rw [hc1,hc2]
  simp only [Option.bind_some]
  exact key _
 | false =>
  simp only [Bool.false_eq_true,if_false,Bool.false_and]
  rw [hc1,hc2]
  simp only [Option.bind_some]
  exact key _
theorem aJq (a0:aA) (a1 a2 p16 p54:Int) (p55 p56:Option aB) (p57 p58:List Int) (r3 r39:Int × Bool) (r61 r62:(List Int)) (x1 x15 x37 x53:Int) (h:r61.length < 1000):rZ a0 a1 a2 p16 p54 p55 p56 p57 p58 r3 r39 r61 r62 x1 x15 x37 x53 0 r61 = some (r61.map oJ):=by
 unfold rZ
 exact C1 r61 _ (by omega) (fun i xs=>rfl)
theorem aGm (a0:aA) (a1 a2 p16:Int) (p191 p192:List Int) (p54:Int) (p55 p56:Option aB) (p57 p58:List Int) (r3 r39:Int × Bool) (x1 x15 x37 x53:Int) (h:p191.length < 1000):pY a0 a1 a2 p16 p191 p192 p54 p55 p56 p57 p58 r3 r39 x1 x15 x37 x53 0 p191 = some (p191.map oJ):=by
 unfold pY
 exact C1 p191 _ (by omega) (fun i xs=>rfl)
theorem aGq (a0:aA) (a1 a2 p16:Int) (p191 p192:List Int) (p54:Int) (p55 p56:Option aB) (p57 p58:List Int) (r3 r39:Int × Bool) (x1 x15 x37 x53:Int) (h:p191.length < 1000):qE a0 a1 a2 p16 p191 p192 p54 p55 p56 p57 p58 r3 r39 x1 x15 x37 x53 0 p191 = some (p191.map oJ):=by
 unfold qE
 exact C1 p191 _ (by omega) (fun i xs=>rfl)
theorem aOy (a0:aA) (a1 a2 p16 p54:Int) (p55 p56:Option aB) (p57 p58:List Int) (r3 r39:Int × Bool) (x1 x15 x37 x53:Int) (ha:kM a0) (hn:0 <= p54 ∧ p54 < (a0.Orders.length:Int)) (hl:p57.length = 5) (hp:p58.length < 100) (b:Bool) :
  Sum.elim (fun z=>some z) (fun _=>some (p55,p56)) (((gX a0 a1 a2 p16 p54 p55 p56 p57 p58 r3 r39 x1 x15 x37 x53 b (p57.set r39.1.toNat p54) (p58 ++ [p54])).getD (.inr ()))) = some (qS (p55,p56) (lV a0 a1 a2 b (p57.set r39.1.toNat p54) (p58 ++ [p54]))) ∧ ∃ z,gX a0 a1 a2 p16 p54 p55 p56 p57 p58 r3 r39 x1 x15 x37 x53 b (p57.set r39.1.toNat p54) (p58 ++ [p54]) = some z:=by
 have e:gX a0 a1 a2 p16 p54 p55 p56 p57 p58 r3 r39 x1 x15 x37 x53 b (p57.set r39.1.toNat p54) (p58 ++ [p54]) = some (if b = true then .inl (p55,C2 p56 (aB.mk 1 a1 a2 ((p57.set r39.1.toNat p54).map oJ) (p58 ++ [p54]))) else if iM (el a0.Orders p54.toNat) a2 = true then .inr () else .inl (C2 p55 (aB.mk 0 a1 a2 ((p57.set r39.1.toNat p54).map oJ) (p58 ++ [p54])),p56)):=by
  unfold gX
  cases b with
  | true =>
   simp only [if_true]
   unfold uN
   rw [aGm _ _ _ _ _ _ _ _ _ _ _ _ _ _ _ _ _ (by simp <;> omega)]
   simp only [Option.bind_some]
   rw [aGk _ _ (by simp <;> omega) (by simp <;> omega)]
   rfl
  | false =>
   simp only [Bool.false_eq_true,if_false]
   rw [G8 _ _ (by simp) (by simp <;> omega),gQ,tK _ _ hn.1 hn.2]
   simp only [Option.bind_some]
   rw [tW _ _ (by have:=(ha.cs p54.toNat (by omega)).2; omega)]
   simp only [Option.bind_some]
   cases hr:iM (el a0.Orders p54.toNat) a2 with
   | true=>simp only [if_true]
   | false =>
    simp only [Bool.false_eq_true,if_false]
    unfold uD
    rw [aGq _ _ _ _ _ _ _ _ _ _ _ _ _ _ _ _ _ (by simp <;> omega)]
    simp only [Option.bind_some]
    rw [aGk _ _ (by simp <;> omega) (by simp <;> omega)]
    rfl
 refine ⟨?_,_,e⟩
 rw [e]
 simp only [Option.getD_some,lV,gQ]
 cases b with
 | true=>rfl
 | false =>
  simp only [Bool.false_eq_true,if_false]
  cases hr:iM (el a0.Orders p54.toNat) a2 <;> rfl
theorem aPw (a0:aA) (a1 a2 p16 p54:Int) (p55 p56:Option aB) (p57 p58:List Int) (r3 r39:Int × Bool) (x1 x15 x37 x53:Int) (ha:kM a0) (hn:0 <= p54 ∧ p54 < (a0.Orders.length:Int)) (hl:p57.length = 5) (hp:p58.length < 100) :
  m8 a0 a1 a2 p16 p54 p55 p56 p57 p58 r3 r39 x1 x15 x37 x53 = some (qS (p55,p56) (lV a0 a1 a2 (r39.2 && !qV a0 p54) (p57.set r39.1.toNat p54) (p58 ++ [p54]))):=by
 unfold m8
 have hc1:=tX (p57.set r39.1.toNat p54) (by simp <;> omega)
 have hc2:=tX (p58 ++ [p54]) (by simp <;> omega)
 have key:∀ b,(gX a0 a1 a2 p16 p54 p55 p56 p57 p58 r3 r39 x1 x15 x37 x53 b (p57.set r39.1.toNat p54) (p58 ++ [p54])).bind (fun r=>Sum.elim (fun z=>some ((z.1,z.2))) (fun _=>some ((p55,p56))) r) = some (qS (p55,p56) (lV a0 a1 a2 b (p57.set r39.1.toNat p54) (p58 ++ [p54]))):=by
  intro b
  obtain ⟨h1,z,h2⟩:=aOy a0 a1 a2 p16 p54 p55 p56 p57 p58 r3 r39 x1 x15 x37 x53 ha hn hl hp b
  rw [h2] at h1 ⊢
  simpa using h1
 cases hw:r39.2 with
 | true =>
  simp only [if_true,Bool.true_and]
  rw [tK _ _ hn.1 hn.2]
  simp only [Option.bind_some]
  rw [hc1,hc2]
  simp only [Option.bind_some]
  exact key _
 | false =>
  simp only [Bool.false_eq_true,if_false,Bool.false_and]
  rw [hc1,hc2]
  simp only [Option.bind_some]
  exact key _
theorem aIu (a0:aA) (a1 a2 p16:Int) (p17 p18:Option aB) (p19 p20:List Int) (r23 r24:(List Int)) (r3:Int × Bool) (x1 x15:Int) (h:r23.length < 1000):rW a0 a1 a2 p16 p17 p18 p19 p20 r23 r24 r3 x1 x15 0 r23 = some (r23.map oJ):=by
 unfold rW
 exact C1 r23 _ (by omega) (fun i xs=>rfl)
theorem aGR (a0:aA) (a1 a2 p16:Int) (p17 p18:Option aB) (p19 p20 p270 p271:List Int) (r3:Int × Bool) (x1 x15:Int) (h:p270.length < 1000):pR a0 a1 a2 p16 p17 p18 p19 p20 p270 p271 r3 x1 x15 0 p270 = some (p270.map oJ):=by
 unfold pR
 exact C1 p270 _ (by omega) (fun i xs=>rfl)
theorem aGE (a0:aA) (a1 a2 p16:Int) (p17 p18:Option aB) (p19 p20 p270 p271:List Int) (r3:Int × Bool) (x1 x15:Int) (h:p270.length < 1000):pZ a0 a1 a2 p16 p17 p18 p19 p20 p270 p271 r3 x1 x15 0 p270 = some (p270.map oJ):=by
 unfold pZ
 exact C1 p270 _ (by omega) (fun i xs=>rfl)
theorem aO9 (a0:aA) (a1 a2 p16:Int) (p17 p18:Option aB) (p19 p20:List Int) (r3:Int × Bool) (x1 x15:Int) (ha:kM a0) (hn:0 <= p16 ∧ p16 < (a0.Orders.length:Int)) (hl:p19.length = 5) (hp:p20.length < 100) (b:Bool) :
  Sum.elim (fun z=>some z) (fun _=>some (p17,p18)) (((gZ a0 a1 a2 p16 p17 p18 p19 p20 r3 x1 x15 b (p19.set r3.1.toNat p16) (p20 ++ [p16])).getD (.inr ()))) = some (qS (p17,p18) (lV a0 a1 a2 b (p19.set r3.1.toNat p16) (p20 ++ [p16]))) ∧ ∃ z,gZ a0 a1 a2 p16 p17 p18 p19 p20 r3 x1 x15 b (p19.set r3.1.toNat p16) (p20 ++ [p16]) = some z:=by
 have e:gZ a0 a1 a2 p16 p17 p18 p19 p20 r3 x1 x15 b (p19.set r3.1.toNat p16) (p20 ++ [p16]) = some (if b = true then .inl (p17,C2 p18 (aB.mk 1 a1 a2 ((p19.set r3.1.toNat p16).map oJ) (p20 ++ [p16]))) else if iM (el a0.Orders p16.toNat) a2 = true then .inr () else .inl (C2 p17 (aB.mk 0 a1 a2 ((p19.set r3.1.toNat p16).map oJ) (p20 ++ [p16])),p18)):=by
  unfold gZ
  cases b with
  | true =>
   simp only [if_true]
   unfold uP
   rw [aGR _ _ _ _ _ _ _ _ _ _ _ _ _ (by simp <;> omega)]
   simp only [Option.bind_some]
   rw [aGk _ _ (by simp <;> omega) (by simp <;> omega)]
   rfl
  | false =>
   simp only [Bool.false_eq_true,if_false]
   rw [G8 _ _ (by simp) (by simp <;> omega),gQ,tK _ _ hn.1 hn.2]
   simp only [Option.bind_some]
   rw [tW _ _ (by have:=(ha.cs p16.toNat (by omega)).2; omega)]
   simp only [Option.bind_some]
   cases hr:iM (el a0.Orders p16.toNat) a2 with
   | true=>simp only [if_true]
   | false =>
    simp only [Bool.false_eq_true,if_false]
    unfold uK
    rw [aGE _ _ _ _ _ _ _ _ _ _ _ _ _ (by simp <;> omega)]
    simp only [Option.bind_some]
    rw [aGk _ _ (by simp <;> omega) (by simp <;> omega)]
    rfl
 refine ⟨?_,_,e⟩
 rw [e]
 simp only [Option.getD_some,lV,gQ]
 cases b with
 | true=>rfl
 | false =>
  simp only [Bool.false_eq_true,if_false]
  cases hr:iM (el a0.Orders p16.toNat) a2 <;> rfl
theorem aQo (a0:aA) (a1 a2 p16:Int) (p17 p18:Option aB) (p19 p20:List Int) (r3:Int × Bool) (x1 x15:Int) (ha:kM a0) (hn:0 <= p16 ∧ p16 < (a0.Orders.length:Int)) (hl:p19.length = 5) (hp:p20.length < 100) :
  m5 a0 a1 a2 p16 p17 p18 p19 p20 r3 x1 x15 = some (qS (p17,p18) (lV a0 a1 a2 (r3.2 && !qV a0 p16) (p19.set r3.1.toNat p16) (p20 ++ [p16]))):=by
 unfold m5
 have hc1:=tX (p19.set r3.1.toNat p16) (by simp <;> omega)
 have hc2:=tX (p20 ++ [p16]) (by simp <;> omega)
 have key:∀ b,(gZ a0 a1 a2 p16 p17 p18 p19 p20 r3 x1 x15 b (p19.set r3.1.toNat p16) (p20 ++ [p16])).bind (fun r=>Sum.elim (fun z=>some ((z.1,z.2))) (fun _=>some ((p17,p18))) r) = some (qS (p17,p18) (lV a0 a1 a2 b (p19.set r3.1.toNat p16) (p20 ++ [p16]))):=by
  intro b
  obtain ⟨h1,z,h2⟩:=aO9 a0 a1 a2 p16 p17 p18 p19 p20 r3 x1 x15 ha hn hl hp b
  rw [h2] at h1 ⊢
  simpa using h1
 cases hw:r3.2 with
 | true =>
  simp only [if_true,Bool.true_and]
  rw [tK _ _ hn.1 hn.2]
  simp only [Option.bind_some]
  rw [hc1,hc2]
  simp only [Option.bind_some]
  exact key _
 | false =>
  simp only [Bool.false_eq_true,if_false,Bool.false_and]
  rw [hc1,hc2]
  simp only [Option.bind_some]
  exact key _
end Go.Proofs.Ytjjcaapdaldedaa
