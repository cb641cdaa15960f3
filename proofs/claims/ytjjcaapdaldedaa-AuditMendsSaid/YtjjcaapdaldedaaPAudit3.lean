/- search of package audit: the rounds of its loops, and search. Written by a program (paudit.py). -/
import Derived.Test.YtjjcaapdaldedaaPAudit2
set_option linter.unusedVariables false
set_option linter.unusedSimpArgs false
set_option maxHeartbeats 1000000
namespace Go.Proofs.Ytjjcaapdaldedaa
open Go.RowKit Vm
theorem aLi (x:Int) (h:x = -1):(x == (-1)) = true:=by simp [h]
theorem aKq (x:Int) (h:x ≠ -1):¬ (x == (-1)) = true:=by simp [h]
theorem aFX (a1 a2:Int) (r4 r5:(List Int)) (h:r4.length < 1000):oJ a1 a2 r4 r5 0 r4 = some (r4.map qU):=by
 unfold oJ
 exact zY r4 _ (by omega) (fun i xs=>rfl)
theorem aFO (a0:aB) (a1 a2 p16:Int) (p17 p18:Option aA) (p19 p20:List Int) (r3:Int × Bool) (r40 r41:(List Int)) (x1 x15:Int) (h:r40.length < 1000):oO a0 a1 a2 p16 p17 p18 p19 p20 r3 r40 r41 x1 x15 0 r40 = some (r40.map qU):=by
 unfold oO
 exact zY r40 _ (by omega) (fun i xs=>rfl)
theorem aEY (a0:aB) (a1 a2 p16 p54:Int) (p55 p56:Option aA) (p57 p58:List Int) (r3 r39:Int × Bool) (r78 r79:(List Int)) (x1 x15 x37 x53:Int) (h:r78.length < 1000):oU a0 a1 a2 p16 p54 p55 p56 p57 p58 r3 r39 r78 r79 x1 x15 x37 x53 0 r78 = some (r78.map qU):=by
 unfold oU
 exact zY r78 _ (by omega) (fun i xs=>rfl)
theorem aAY (a0:aB) (a1 a2 p16 p54 p92:Int) (p93 p94:Option aA) (p95 p96:List Int) (r3 r39 r77:Int × Bool) (x1 x15 x37 x53 x75 x91:Int) (ha:oV a0) (hp:AF a0 p96 3) (hl:p95.length = 5) (hw:r77 = c8 a0 a2 (bT p96)) (hlast:x75 = bT p96) (hn:0 <= p92 ∧ p92 < (a0.Orders.length:Int)) (hx:(x91 = -1 ∧ el p95 r77.1.toNat = -1) ∨ (x91 ≠ -1 ∧ el p95 r77.1.toNat = p92)) (hw0:0 <= r77.1 ∧ r77.1 < 5) :
  kX a0 a1 a2 p16 p54 p92 p93 p94 p95 p96 r3 r39 r77 x1 x15 x37 x53 x75 x91 = some ((pM (p93,p94) (dU a0 a1 a2 (gH a0 a1 a2 0) p95 p96 p92)).1,(pM (p93,p94) (dU a0 a1 a2 (gH a0 a1 a2 0) p95 p96 p92)).2,p95,p96):=by
 have hL:=hp.len
 have hla:=hp.last
 have hres:∀ (b c:Option aA) (p:List Int),dN a0 a1 a2 p16 p54 p92 p95 r3 r39 r77 x1 x15 x37 x53 x75 x91 b c p = some p95:=by
  intro b c p
  unfold dN
  rcases hx with ⟨e1,e2⟩ | ⟨e1,e2⟩
  ·rw [if_pos (aLi _ e1),OS _ _ _ hw0.1 (by simp <;> omega),List.set_set,← e2,MD]
  ·rw [if_neg (aKq _ e1),← e2,MD]
 have hpop:∀ (b c:Option aA),kV a0 a1 a2 p16 p54 p92 p95 p96 r3 r39 r77 x1 x15 x37 x53 x75 x91 b c = some ():=by
  intro b c
  unfold kV
  rw [aDo _ _ (by omega),if_pos ⟨by omega,by simp⟩]
 have htake:(p96 ++ [p92]).take (IntKind.wrap .i64 (((p96 ++ [p92]).length:Int) - 1)).toNat = p96:=by
  rw [aDo _ _ (by omega)]; simp
 unfold kX
 rw [OS _ _ _ hw0.1 (by omega)]
 by_cases hq:p92 = x75
 ·have hR:dU a0 a1 a2 (gH a0 a1 a2 0) p95 p96 p92 = jC a0 a1 a2 false (p95.set r77.1.toNat p92) p96:=by
   unfold dU; rw [← hw,if_pos (hq.trans hlast)]
  rw [hR,if_pos (by simp [hq])]
  rw [qY (p95.set r77.1.toNat p92) (by simp <;> omega),qY p96 (by omega)]
  simp only [Option.bind_some]
  rw [DV _ _ (by omega) (by omega),A8 _ _ hla.1 hla.2.1]
  simp only [Option.bind_some]
  rw [sO _ _ (by have:=(ha.cs (bT p96).toNat (by omega)).2; omega)]
  simp only [Option.bind_some,jC,Bool.false_eq_true,if_false]
  cases hr:jY (el a0.Orders (bT p96).toNat) a2 with
  | true=>simp only [if_true,hres,Option.bind_some,P1]
  | false =>
   simp only [Bool.false_eq_true,if_false]
   rw [aGR _ _ _ _ _ _ _ _ _ _ _ _ _ _ _ _ _ _ _ _ _ (by simp <;> omega)]
   simp only [Option.bind_some,P0]
   cases p93 with
   | none=>simp only [Option.isNone_none,if_true,hres,Option.bind_some,BI]
   | some x =>
    simp only [Option.isNone_some,Bool.false_eq_true,if_false,Option.bind_some,xT (aA.mk 0 a1 a2 ((p95.set r77.1.toNat p92).map qU) p96) x (by simp <;> omega) (by simp <;> omega),BI]
    cases W1 (aA.mk 0 a1 a2 ((p95.set r77.1.toNat p92).map qU) p96) x <;> simp only [Bool.false_eq_true,if_false,if_true,hres,Option.bind_some]
 ·have hq' : p92 ≠ bT p96:=fun e=>hq (e.trans hlast.symm)
  rw [if_neg (by simp [hq])]
  rw [EH _ _ (by omega)]
  simp only [Option.bind_some]
  rw [if_pos (by omega)]
  have hE:=aMH a0 a1 a2 p16 p54 p92 p93 p94 p95 p96 r3 r39 r77 x1 x15 x37 x53 x75 x91 ha hn hl (by omega)
  cases hw2:r77.2 with
  | false =>
   have hR:dU a0 a1 a2 (gH a0 a1 a2 0) p95 p96 p92 = jC a0 a1 a2 (r77.2 && !xL a0 p92) (p95.set r77.1.toNat p92) (p96 ++ [p92]):=by
    unfold dU; rw [← hw,if_neg hq',if_neg (by simp [hw2])]
   rw [← hR] at hE
   simp only [Bool.false_eq_true,if_false,hE,Option.bind_some,hpop,hres,htake]
  | true =>
   simp only [if_true]
   by_cases hin:p92 ∈ p96
   ·have hR:dU a0 a1 a2 (gH a0 a1 a2 0) p95 p96 p92 = jC a0 a1 a2 (r77.2 && !xL a0 p92) (p95.set r77.1.toNat p92) (p96 ++ [p92]):=by
     unfold dU; rw [← hw,if_neg hq',if_neg (by simp [hin])]
    rw [← hR] at hE
    rw [if_neg (by simp [hin])]
    simp only [hE,Option.bind_some,hpop,hres,htake]
   ·have hR:dU a0 a1 a2 (gH a0 a1 a2 0) p95 p96 p92 = gH a0 a1 a2 0 (p95.set r77.1.toNat p92) (p96 ++ [p92]):=by
     unfold dU; rw [← hw,if_neg hq',if_pos ⟨hw2,hin⟩]
    rw [if_pos (by simp [hin])]
    exfalso
    have h4:=(hp.push hn.1 hn.2 hin)
    have:=F7 a0.Orders.length _ h4.nd h4.ins
    have:=h4.len
    have:=ha.few
    omega
theorem aKS (a0:aB) (a1 a2 p16 p54:Int) (r3 r39 r77:Int × Bool) (x1 x15 x37 x53 x75 x91:Int) (p93 p94:Option aA) (p95 p96:List Int) (ha:oV a0) (hp:AF a0 p96 3) (hl:p95.length = 5) (hw:r77 = c8 a0 a2 (bT p96)) (hlast:x75 = bT p96) (hw1:r77.1 ≠ 0) (hcu:x91 = el p95 r77.1.toNat) :
  rT a0 a1 a2 p16 p54 r3 r39 r77 x1 x15 x37 x53 x75 x91 0 p93 p94 p95 p96 = some ((fun (bb:Option aA × Option aA)=>(bb.1,bb.2,p95,p96)) (pM (p93,p94) ((List.range a0.Orders.length).flatMap fun (k:Nat)=>if el p95 r77.1.toNat ≠ -1 ∧ el p95 r77.1.toNat ≠ (k:Int) then [] else dU a0 a1 a2 (gH a0 a1 a2 0) p95 p96 (k:Int)))):=by
 have hla:=hp.last
 have hw0:0 <= r77.1 ∧ r77.1 < 5:=by rw [hw]; exact ha.by_ _ (by omega) _
 have hc:=MN (step:=fun (s:Int × Option aA × Option aA × List Int × List Int)=>gV a0 a1 a2 p16 p54 r3 r39 r77 x1 x15 x37 x53 x75 x91 s.1 s.2.1 s.2.2.1 s.2.2.2.1 s.2.2.2.2) (fun k (bb:Option aA × Option aA)=>((k:Int),bb.1,bb.2,p95,p96)) a0.Orders.length (fun k bb=>pM bb ((fun (k:Nat)=>if el p95 r77.1.toNat ≠ -1 ∧ el p95 r77.1.toNat ≠ (k:Int) then [] else dU a0 a1 a2 (gH a0 a1 a2 0) p95 p96 (k:Int)) k)) (fun bb=>(bb.1,bb.2,p95,p96)) (by
  intro k bb hk
  have hfew:=ha.few
  simp only [gV,nG hk,if_true,bC (show k < 9223372036854775807 by omega)]
  by_cases h1:x91 = -1
  ·have hR:=aAY a0 a1 a2 p16 p54 (k:Int) bb.1 bb.2 p95 p96 r3 r39 r77 x1 x15 x37 x53 x75 x91 ha hp hl hw hlast ⟨by omega,by omega⟩ (.inl ⟨h1,by rw [← hcu]; exact h1⟩) hw0
   rw [if_neg (by simp [h1]),hR]
   rw [if_neg (fun q=>q.1 (by rw [← hcu]; exact h1))]
   rfl
  ·rw [if_pos (by simp [h1]),OS _ _ _ hw0.1 (by omega)]
   by_cases h2:el p95 r77.1.toNat = (k:Int)
   ·have hR:=aAY a0 a1 a2 p16 p54 (k:Int) bb.1 bb.2 p95 p96 r3 r39 r77 x1 x15 x37 x53 x75 x91 ha hp hl hw hlast ⟨by omega,by omega⟩ (.inr ⟨h1,h2⟩) hw0
    rw [if_neg (by simp [h2]),hR]
    rw [if_neg (fun q=>q.2 h2)]
    rfl
   ·rw [if_pos (by simp [h2]),if_pos ⟨by rw [← hcu]; exact h1,h2⟩]
    rfl) (by
  intro bb
  simp only [gV,pA,if_false]) (p93,p94)
 rw [EJ (p93,p94)] at hc
 exact hc
theorem aLz (a0:aB) (a1 a2 p16 p54:Int) (p55 p56:Option aA) (p57 p58:List Int) (r3 r39:Int × Bool) (x1 x15 x37 x53:Int) (ha:oV a0) (hp:AF a0 p58 2) (hl:p57.length = 5) (hn:0 <= p54 ∧ p54 < (a0.Orders.length:Int)) (hin:p54 ∉ p58) (hw0:0 <= r39.1 ∧ r39.1 < 5) (hw:r39 = c8 a0 a2 (bT p58)) :
  mZ a0 a1 a2 p16 p54 p55 p56 p57 p58 r3 r39 x1 x15 x37 x53 = some ((pM (p55,p56) (gH a0 a1 a2 1 (p57.set r39.1.toNat p54) (p58 ++ [p54]))).1,(pM (p55,p56) (gH a0 a1 a2 1 (p57.set r39.1.toNat p54) (p58 ++ [p54]))).2,p57.set r39.1.toNat p54,p58 ++ [p54]):=by
 have hq:=hp.push hn.1 hn.2 hin
 have hL:=hp.len
 have hord:=(ha.cs p54.toNat (by omega))
 unfold mZ
 rw [DV _ _ (by simp) (by simp <;> omega),gE,A8 _ _ hn.1 hn.2]
 simp only [Option.bind_some]
 rw [J8 _ _ (by omega)]
 simp only [Option.bind_some]
 have hw2:GC (el a0.Orders p54.toNat).Choices a2 = c8 a0 a2 p54:=rfl
 have hby:=ha.by_ p54.toNat (by omega) a2
 rw [hw2] at hby ⊢
 have hS:gH a0 a1 a2 1 (p57.set r39.1.toNat p54) (p58 ++ [p54]) = if (c8 a0 a2 p54).1 = 0 then jC a0 a1 a2 false (p57.set r39.1.toNat p54) (p58 ++ [p54]) else (List.range a0.Orders.length).flatMap fun (k:Nat)=>if el (p57.set r39.1.toNat p54) (c8 a0 a2 p54).1.toNat ≠ -1 ∧ el (p57.set r39.1.toNat p54) (c8 a0 a2 p54).1.toNat ≠ (k:Int) then [] else dU a0 a1 a2 (gH a0 a1 a2 0) (p57.set r39.1.toNat p54) (p58 ++ [p54]) (k:Int):=by
  rw [gH,gE]
 rw [hS]
 by_cases h0:(c8 a0 a2 p54).1 = 0
 ·rw [if_pos (by simp [h0]),if_pos h0]
  rw [qY (p57.set r39.1.toNat p54) (by simp <;> omega),qY (p58 ++ [p54]) (by simp <;> omega)]
  simp only [Option.bind_some]
  rw [DV _ _ (by simp) (by simp <;> omega),gE,A8 _ _ hn.1 hn.2]
  simp only [Option.bind_some]
  rw [sO _ _ (by omega)]
  simp only [Option.bind_some,jC,gE,Bool.false_eq_true,if_false]
  cases hr:jY (el a0.Orders p54.toNat) a2 with
  | true=>rfl
  | false =>
   simp only [Bool.false_eq_true,if_false]
   rw [aEY _ _ _ _ _ _ _ _ _ _ _ _ _ _ _ _ _ (by simp <;> omega)]
   simp only [Option.bind_some,P0]
   cases p55 with
   | none=>rfl
   | some x =>
    simp only [Option.isNone_some,Bool.false_eq_true,if_false,Option.bind_some,xT (aA.mk 0 a1 a2 ((p57.set r39.1.toNat p54).map qU) (p58 ++ [p54])) x (by simp <;> omega) (by simp <;> omega),BI]
    cases W1 (aA.mk 0 a1 a2 ((p57.set r39.1.toNat p54).map qU) (p58 ++ [p54])) x <;> rfl
 ·rw [if_neg (by simp [h0]),if_neg h0]
  rw [OS _ _ _ hby.1 (by simp <;> omega)]
  rw [aKS a0 a1 a2 p16 p54 r3 r39 (c8 a0 a2 p54) x1 x15 x37 x53 p54 (el (p57.set r39.1.toNat p54) (c8 a0 a2 p54).1.toNat) p55 p56 (p57.set r39.1.toNat p54) (p58 ++ [p54]) ha hq (by simp <;> omega) (by rw [gE]) (by rw [gE]) h0 rfl]
  rfl
theorem aBG (a0:aB) (a1 a2 p16 p54:Int) (p55 p56:Option aA) (p57 p58:List Int) (r3 r39:Int × Bool) (x1 x15 x37 x53:Int) (ha:oV a0) (hp:AF a0 p58 2) (hl:p57.length = 5) (hw:r39 = c8 a0 a2 (bT p58)) (hlast:x37 = bT p58) (hn:0 <= p54 ∧ p54 < (a0.Orders.length:Int)) (hx:(x53 = -1 ∧ el p57 r39.1.toNat = -1) ∨ (x53 ≠ -1 ∧ el p57 r39.1.toNat = p54)) (hw0:0 <= r39.1 ∧ r39.1 < 5) :
  kY a0 a1 a2 p16 p54 p55 p56 p57 p58 r3 r39 x1 x15 x37 x53 = some ((pM (p55,p56) (dU a0 a1 a2 (gH a0 a1 a2 1) p57 p58 p54)).1,(pM (p55,p56) (dU a0 a1 a2 (gH a0 a1 a2 1) p57 p58 p54)).2,p57,p58):=by
 have hL:=hp.len
 have hla:=hp.last
 have hres:∀ (b c:Option aA) (p:List Int),c9 a0 a1 a2 p16 p54 r3 r39 x1 x15 x37 x53 b c (p57.set r39.1.toNat p54) p = some p57:=by
  intro b c p
  unfold c9
  rcases hx with ⟨e1,e2⟩ | ⟨e1,e2⟩
  ·rw [if_pos (aLi _ e1),OS _ _ _ hw0.1 (by simp <;> omega),List.set_set,← e2,MD]
  ·rw [if_neg (aKq _ e1),← e2,MD]
 have hpop:∀ (b c:Option aA) (pp:List Int),jJ a0 a1 a2 p16 p54 r3 r39 x1 x15 x37 x53 b c pp (p58 ++ [p54]) = some ():=by
  intro b c pp
  unfold jJ
  rw [aDo _ _ (by omega),if_pos ⟨by omega,by simp⟩]
 have htake:(p58 ++ [p54]).take (IntKind.wrap .i64 (((p58 ++ [p54]).length:Int) - 1)).toNat = p58:=by
  rw [aDo _ _ (by omega)]; simp
 unfold kY
 rw [OS _ _ _ hw0.1 (by omega)]
 by_cases hq:p54 = x37
 ·have hR:dU a0 a1 a2 (gH a0 a1 a2 1) p57 p58 p54 = jC a0 a1 a2 false (p57.set r39.1.toNat p54) p58:=by
   unfold dU; rw [← hw,if_pos (hq.trans hlast)]
  rw [hR,if_pos (by simp [hq])]
  rw [qY (p57.set r39.1.toNat p54) (by simp <;> omega),qY p58 (by omega)]
  simp only [Option.bind_some]
  rw [DV _ _ (by omega) (by omega),A8 _ _ hla.1 hla.2.1]
  simp only [Option.bind_some]
  rw [sO _ _ (by have:=(ha.cs (bT p58).toNat (by omega)).2; omega)]
  simp only [Option.bind_some,jC,Bool.false_eq_true,if_false]
  cases hr:jY (el a0.Orders (bT p58).toNat) a2 with
  | true=>simp only [if_true,hres,Option.bind_some,P1]
  | false =>
   simp only [Bool.false_eq_true,if_false]
   rw [aG6 _ _ _ _ _ _ _ _ _ _ _ _ _ _ _ _ _ (by simp <;> omega)]
   simp only [Option.bind_some,P0]
   cases p55 with
   | none=>simp only [Option.isNone_none,if_true,hres,Option.bind_some,BI]
   | some x =>
    simp only [Option.isNone_some,Bool.false_eq_true,if_false,Option.bind_some,xT (aA.mk 0 a1 a2 ((p57.set r39.1.toNat p54).map qU) p58) x (by simp <;> omega) (by simp <;> omega),BI]
    cases W1 (aA.mk 0 a1 a2 ((p57.set r39.1.toNat p54).map qU) p58) x <;> simp only [Bool.false_eq_true,if_false,if_true,hres,Option.bind_some]
 ·have hq' : p54 ≠ bT p58:=fun e=>hq (e.trans hlast.symm)
  rw [if_neg (by simp [hq])]
  rw [EH _ _ (by omega)]
  simp only [Option.bind_some]
  rw [if_pos (by omega)]
  have hE:=aMB a0 a1 a2 p16 p54 p55 p56 p57 p58 r3 r39 x1 x15 x37 x53 ha hn hl (by omega)
  cases hw2:r39.2 with
  | false =>
   have hR:dU a0 a1 a2 (gH a0 a1 a2 1) p57 p58 p54 = jC a0 a1 a2 (r39.2 && !xL a0 p54) (p57.set r39.1.toNat p54) (p58 ++ [p54]):=by
    unfold dU; rw [← hw,if_neg hq',if_neg (by simp [hw2])]
   rw [← hR] at hE
   simp only [Bool.false_eq_true,if_false,hE,Option.bind_some,hpop,hres,htake]
  | true =>
   simp only [if_true]
   by_cases hin:p54 ∈ p58
   ·have hR:dU a0 a1 a2 (gH a0 a1 a2 1) p57 p58 p54 = jC a0 a1 a2 (r39.2 && !xL a0 p54) (p57.set r39.1.toNat p54) (p58 ++ [p54]):=by
     unfold dU; rw [← hw,if_neg hq',if_neg (by simp [hin])]
    rw [← hR] at hE
    rw [if_neg (by simp [hin])]
    simp only [hE,Option.bind_some,hpop,hres,htake]
   ·have hR:dU a0 a1 a2 (gH a0 a1 a2 1) p57 p58 p54 = gH a0 a1 a2 1 (p57.set r39.1.toNat p54) (p58 ++ [p54]):=by
     unfold dU; rw [← hw,if_neg hq',if_pos ⟨hw2,hin⟩]
    rw [if_pos (by simp [hin])]
    rw [aLz a0 a1 a2 p16 p54 p55 p56 p57 p58 r3 r39 x1 x15 x37 x53 ha hp hl hn hin hw0 hw]
    simp only [Option.bind_some]
    rw [hpop]
    simp only [Option.bind_some,htake]
    rw [hres]
    simp only [Option.bind_some]
    rw [hR]
theorem aLw (a0:aB) (a1 a2 p16:Int) (r3 r39:Int × Bool) (x1 x15 x37 x53:Int) (p55 p56:Option aA) (p57 p58:List Int) (ha:oV a0) (hp:AF a0 p58 2) (hl:p57.length = 5) (hw:r39 = c8 a0 a2 (bT p58)) (hlast:x37 = bT p58) (hw1:r39.1 ≠ 0) (hcu:x53 = el p57 r39.1.toNat) :
  rQ a0 a1 a2 p16 r3 r39 x1 x15 x37 x53 0 p55 p56 p57 p58 = some ((fun (bb:Option aA × Option aA)=>(bb.1,bb.2,p57,p58)) (pM (p55,p56) ((List.range a0.Orders.length).flatMap fun (k:Nat)=>if el p57 r39.1.toNat ≠ -1 ∧ el p57 r39.1.toNat ≠ (k:Int) then [] else dU a0 a1 a2 (gH a0 a1 a2 1) p57 p58 (k:Int)))):=by
 have hla:=hp.last
 have hw0:0 <= r39.1 ∧ r39.1 < 5:=by rw [hw]; exact ha.by_ _ (by omega) _
 have hc:=MN (step:=fun (s:Int × Option aA × Option aA × List Int × List Int)=>gQ a0 a1 a2 p16 r3 r39 x1 x15 x37 x53 s.1 s.2.1 s.2.2.1 s.2.2.2.1 s.2.2.2.2) (fun k (bb:Option aA × Option aA)=>((k:Int),bb.1,bb.2,p57,p58)) a0.Orders.length (fun k bb=>pM bb ((fun (k:Nat)=>if el p57 r39.1.toNat ≠ -1 ∧ el p57 r39.1.toNat ≠ (k:Int) then [] else dU a0 a1 a2 (gH a0 a1 a2 1) p57 p58 (k:Int)) k)) (fun bb=>(bb.1,bb.2,p57,p58)) (by
  intro k bb hk
  have hfew:=ha.few
  simp only [gQ,nG hk,if_true,bC (show k < 9223372036854775807 by omega)]
  by_cases h1:x53 = -1
  ·have hR:=aBG a0 a1 a2 p16 (k:Int) bb.1 bb.2 p57 p58 r3 r39 x1 x15 x37 x53 ha hp hl hw hlast ⟨by omega,by omega⟩ (.inl ⟨h1,by rw [← hcu]; exact h1⟩) hw0
   rw [if_neg (by simp [h1]),hR]
   rw [if_neg (fun q=>q.1 (by rw [← hcu]; exact h1))]
   rfl
  ·rw [if_pos (by simp [h1]),OS _ _ _ hw0.1 (by omega)]
   by_cases h2:el p57 r39.1.toNat = (k:Int)
   ·have hR:=aBG a0 a1 a2 p16 (k:Int) bb.1 bb.2 p57 p58 r3 r39 x1 x15 x37 x53 ha hp hl hw hlast ⟨by omega,by omega⟩ (.inr ⟨h1,h2⟩) hw0
    rw [if_neg (by simp [h2]),hR]
    rw [if_neg (fun q=>q.2 h2)]
    rfl
   ·rw [if_pos (by simp [h2]),if_pos ⟨by rw [← hcu]; exact h1,h2⟩]
    rfl) (by
  intro bb
  simp only [gQ,pA,if_false]) (p55,p56)
 rw [EJ (p55,p56)] at hc
 exact hc
theorem aLg (a0:aB) (a1 a2 p16:Int) (p17 p18:Option aA) (p19 p20:List Int) (r3:Int × Bool) (x1 x15:Int) (ha:oV a0) (hp:AF a0 p20 1) (hl:p19.length = 5) (hn:0 <= p16 ∧ p16 < (a0.Orders.length:Int)) (hin:p16 ∉ p20) (hw0:0 <= r3.1 ∧ r3.1 < 5) (hw:r3 = c8 a0 a2 (bT p20)) :
  m3 a0 a1 a2 p16 p17 p18 p19 p20 r3 x1 x15 = some ((pM (p17,p18) (gH a0 a1 a2 2 (p19.set r3.1.toNat p16) (p20 ++ [p16]))).1,(pM (p17,p18) (gH a0 a1 a2 2 (p19.set r3.1.toNat p16) (p20 ++ [p16]))).2,p19.set r3.1.toNat p16,p20 ++ [p16]):=by
 have hq:=hp.push hn.1 hn.2 hin
 have hL:=hp.len
 have hord:=(ha.cs p16.toNat (by omega))
 unfold m3
 rw [DV _ _ (by simp) (by simp <;> omega),gE,A8 _ _ hn.1 hn.2]
 simp only [Option.bind_some]
 rw [J8 _ _ (by omega)]
 simp only [Option.bind_some]
 have hw2:GC (el a0.Orders p16.toNat).Choices a2 = c8 a0 a2 p16:=rfl
 have hby:=ha.by_ p16.toNat (by omega) a2
 rw [hw2] at hby ⊢
 have hS:gH a0 a1 a2 2 (p19.set r3.1.toNat p16) (p20 ++ [p16]) = if (c8 a0 a2 p16).1 = 0 then jC a0 a1 a2 false (p19.set r3.1.toNat p16) (p20 ++ [p16]) else (List.range a0.Orders.length).flatMap fun (k:Nat)=>if el (p19.set r3.1.toNat p16) (c8 a0 a2 p16).1.toNat ≠ -1 ∧ el (p19.set r3.1.toNat p16) (c8 a0 a2 p16).1.toNat ≠ (k:Int) then [] else dU a0 a1 a2 (gH a0 a1 a2 1) (p19.set r3.1.toNat p16) (p20 ++ [p16]) (k:Int):=by
  rw [gH,gE]
 rw [hS]
 by_cases h0:(c8 a0 a2 p16).1 = 0
 ·rw [if_pos (by simp [h0]),if_pos h0]
  rw [qY (p19.set r3.1.toNat p16) (by simp <;> omega),qY (p20 ++ [p16]) (by simp <;> omega)]
  simp only [Option.bind_some]
  rw [DV _ _ (by simp) (by simp <;> omega),gE,A8 _ _ hn.1 hn.2]
  simp only [Option.bind_some]
  rw [sO _ _ (by omega)]
  simp only [Option.bind_some,jC,gE,Bool.false_eq_true,if_false]
  cases hr:jY (el a0.Orders p16.toNat) a2 with
  | true=>rfl
  | false =>
   simp only [Bool.false_eq_true,if_false]
   rw [aFO _ _ _ _ _ _ _ _ _ _ _ _ _ (by simp <;> omega)]
   simp only [Option.bind_some,P0]
   cases p17 with
   | none=>rfl
   | some x =>
    simp only [Option.isNone_some,Bool.false_eq_true,if_false,Option.bind_some,xT (aA.mk 0 a1 a2 ((p19.set r3.1.toNat p16).map qU) (p20 ++ [p16])) x (by simp <;> omega) (by simp <;> omega),BI]
    cases W1 (aA.mk 0 a1 a2 ((p19.set r3.1.toNat p16).map qU) (p20 ++ [p16])) x <;> rfl
 ·rw [if_neg (by simp [h0]),if_neg h0]
  rw [OS _ _ _ hby.1 (by simp <;> omega)]
  rw [aLw a0 a1 a2 p16 r3 (c8 a0 a2 p16) x1 x15 p16 (el (p19.set r3.1.toNat p16) (c8 a0 a2 p16).1.toNat) p17 p18 (p19.set r3.1.toNat p16) (p20 ++ [p16]) ha hq (by simp <;> omega) (by rw [gE]) (by rw [gE]) h0 rfl]
  rfl
theorem aBB (a0:aB) (a1 a2 p16:Int) (p17 p18:Option aA) (p19 p20:List Int) (r3:Int × Bool) (x1 x15:Int) (ha:oV a0) (hp:AF a0 p20 1) (hl:p19.length = 5) (hw:r3 = c8 a0 a2 (bT p20)) (hlast:x1 = bT p20) (hn:0 <= p16 ∧ p16 < (a0.Orders.length:Int)) (hx:(x15 = -1 ∧ el p19 r3.1.toNat = -1) ∨ (x15 ≠ -1 ∧ el p19 r3.1.toNat = p16)) (hw0:0 <= r3.1 ∧ r3.1 < 5) :
  kW a0 a1 a2 p16 p17 p18 p19 p20 r3 x1 x15 = some ((pM (p17,p18) (dU a0 a1 a2 (gH a0 a1 a2 2) p19 p20 p16)).1,(pM (p17,p18) (dU a0 a1 a2 (gH a0 a1 a2 2) p19 p20 p16)).2,p19,p20):=by
 have hL:=hp.len
 have hla:=hp.last
 have hres:∀ (b c:Option aA) (p:List Int),cY a0 a1 a2 p16 r3 x1 x15 b c (p19.set r3.1.toNat p16) p = some p19:=by
  intro b c p
  unfold cY
  rcases hx with ⟨e1,e2⟩ | ⟨e1,e2⟩
  ·rw [if_pos (aLi _ e1),OS _ _ _ hw0.1 (by simp <;> omega),List.set_set,← e2,MD]
  ·rw [if_neg (aKq _ e1),← e2,MD]
 have hpop:∀ (b c:Option aA) (pp:List Int),jA a0 a1 a2 p16 r3 x1 x15 b c pp (p20 ++ [p16]) = some ():=by
  intro b c pp
  unfold jA
  rw [aDo _ _ (by omega),if_pos ⟨by omega,by simp⟩]
 have htake:(p20 ++ [p16]).take (IntKind.wrap .i64 (((p20 ++ [p16]).length:Int) - 1)).toNat = p20:=by
  rw [aDo _ _ (by omega)]; simp
 unfold kW
 rw [OS _ _ _ hw0.1 (by omega)]
 by_cases hq:p16 = x1
 ·have hR:dU a0 a1 a2 (gH a0 a1 a2 2) p19 p20 p16 = jC a0 a1 a2 false (p19.set r3.1.toNat p16) p20:=by
   unfold dU; rw [← hw,if_pos (hq.trans hlast)]
  rw [hR,if_pos (by simp [hq])]
  rw [qY (p19.set r3.1.toNat p16) (by simp <;> omega),qY p20 (by omega)]
  simp only [Option.bind_some]
  rw [DV _ _ (by omega) (by omega),A8 _ _ hla.1 hla.2.1]
  simp only [Option.bind_some]
  rw [sO _ _ (by have:=(ha.cs (bT p20).toNat (by omega)).2; omega)]
  simp only [Option.bind_some,jC,Bool.false_eq_true,if_false]
  cases hr:jY (el a0.Orders (bT p20).toNat) a2 with
  | true=>simp only [if_true,hres,Option.bind_some,P1]
  | false =>
   simp only [Bool.false_eq_true,if_false]
   rw [aGX _ _ _ _ _ _ _ _ _ _ _ _ _ (by simp <;> omega)]
   simp only [Option.bind_some,P0]
   cases p17 with
   | none=>simp only [Option.isNone_none,if_true,hres,Option.bind_some,BI]
   | some x =>
    simp only [Option.isNone_some,Bool.false_eq_true,if_false,Option.bind_some,xT (aA.mk 0 a1 a2 ((p19.set r3.1.toNat p16).map qU) p20) x (by simp <;> omega) (by simp <;> omega),BI]
    cases W1 (aA.mk 0 a1 a2 ((p19.set r3.1.toNat p16).map qU) p20) x <;> simp only [Bool.false_eq_true,if_false,if_true,hres,Option.bind_some]
 ·have hq' : p16 ≠ bT p20:=fun e=>hq (e.trans hlast.symm)
  rw [if_neg (by simp [hq])]
  rw [EH _ _ (by omega)]
  simp only [Option.bind_some]
  rw [if_pos (by omega)]
  have hE:=aMN a0 a1 a2 p16 p17 p18 p19 p20 r3 x1 x15 ha hn hl (by omega)
  cases hw2:r3.2 with
  | false =>
   have hR:dU a0 a1 a2 (gH a0 a1 a2 2) p19 p20 p16 = jC a0 a1 a2 (r3.2 && !xL a0 p16) (p19.set r3.1.toNat p16) (p20 ++ [p16]):=by
    unfold dU; rw [← hw,if_neg hq',if_neg (by simp [hw2])]
   rw [← hR] at hE
   simp only [Bool.false_eq_true,if_false,hE,Option.bind_some,hpop,hres,htake]
  | true =>
   simp only [if_true]
   by_cases hin:p16 ∈ p20
   ·have hR:dU a0 a1 a2 (gH a0 a1 a2 2) p19 p20 p16 = jC a0 a1 a2 (r3.2 && !xL a0 p16) (p19.set r3.1.toNat p16) (p20 ++ [p16]):=by
     unfold dU; rw [← hw,if_neg hq',if_neg (by simp [hin])]
    rw [← hR] at hE
    rw [if_neg (by simp [hin])]
    simp only [hE,Option.bind_some,hpop,hres,htake]
   ·have hR:dU a0 a1 a2 (gH a0 a1 a2 2) p19 p20 p16 = gH a0 a1 a2 2 (p19.set r3.1.toNat p16) (p20 ++ [p16]):=by
     unfold dU; rw [← hw,if_neg hq',if_pos ⟨hw2,hin⟩]
    rw [if_pos (by simp [hin])]
    rw [aLg a0 a1 a2 p16 p17 p18 p19 p20 r3 x1 x15 ha hp hl hn hin hw0 hw]
    simp only [Option.bind_some]
    rw [hpop]
    simp only [Option.bind_some,htake]
    rw [hres]
    simp only [Option.bind_some]
    rw [hR]
theorem aLh (a0:aB) (a1 a2:Int) (r3:Int × Bool) (x1 x15:Int) (p17 p18:Option aA) (p19 p20:List Int) (ha:oV a0) (hp:AF a0 p20 1) (hl:p19.length = 5) (hw:r3 = c8 a0 a2 (bT p20)) (hlast:x1 = bT p20) (hw1:r3.1 ≠ 0) (hcu:x15 = el p19 r3.1.toNat) :
  mV a0 a1 a2 r3 x1 x15 0 p17 p18 p19 p20 = some ((fun (bb:Option aA × Option aA)=>(bb.1,bb.2)) (pM (p17,p18) ((List.range a0.Orders.length).flatMap fun (k:Nat)=>if el p19 r3.1.toNat ≠ -1 ∧ el p19 r3.1.toNat ≠ (k:Int) then [] else dU a0 a1 a2 (gH a0 a1 a2 2) p19 p20 (k:Int)))):=by
 have hla:=hp.last
 have hw0:0 <= r3.1 ∧ r3.1 < 5:=by rw [hw]; exact ha.by_ _ (by omega) _
 have hc:=MN (step:=fun (s:Int × Option aA × Option aA × List Int × List Int)=>gU a0 a1 a2 r3 x1 x15 s.1 s.2.1 s.2.2.1 s.2.2.2.1 s.2.2.2.2) (fun k (bb:Option aA × Option aA)=>((k:Int),bb.1,bb.2,p19,p20)) a0.Orders.length (fun k bb=>pM bb ((fun (k:Nat)=>if el p19 r3.1.toNat ≠ -1 ∧ el p19 r3.1.toNat ≠ (k:Int) then [] else dU a0 a1 a2 (gH a0 a1 a2 2) p19 p20 (k:Int)) k)) (fun bb=>(bb.1,bb.2)) (by
  intro k bb hk
  have hfew:=ha.few
  simp only [gU,nG hk,if_true,bC (show k < 9223372036854775807 by omega)]
  by_cases h1:x15 = -1
  ·have hR:=aBB a0 a1 a2 (k:Int) bb.1 bb.2 p19 p20 r3 x1 x15 ha hp hl hw hlast ⟨by omega,by omega⟩ (.inl ⟨h1,by rw [← hcu]; exact h1⟩) hw0
   rw [if_neg (by simp [h1]),hR]
   rw [if_neg (fun q=>q.1 (by rw [← hcu]; exact h1))]
   rfl
  ·rw [if_pos (by simp [h1]),OS _ _ _ hw0.1 (by omega)]
   by_cases h2:el p19 r3.1.toNat = (k:Int)
   ·have hR:=aBB a0 a1 a2 (k:Int) bb.1 bb.2 p19 p20 r3 x1 x15 ha hp hl hw hlast ⟨by omega,by omega⟩ (.inr ⟨h1,h2⟩) hw0
    rw [if_neg (by simp [h2]),hR]
    rw [if_neg (fun q=>q.2 h2)]
    rfl
   ·rw [if_pos (by simp [h2]),if_pos ⟨by rw [← hcu]; exact h1,h2⟩]
    rfl) (by
  intro bb
  simp only [gU,pA,if_false]) (p17,p18)
 rw [EJ (p17,p18)] at hc
 exact hc
def FL (r:aB) (forum ask:Int):List aA:=gH r forum ask 3 [forum,-1,-1,-1,-1] [forum]
theorem YE (r:aB) (forum ask:Int) (ha:oV r) (hf:0 <= forum ∧ forum < (r.Orders.length:Int)):qX r forum ask = some ⟨(pM (none,none) (FL r forum ask)).1,(pM (none,none) (FL r forum ask)).2⟩:=by
 have hp:AF r [forum] 1:=⟨rfl,by omega,by simp,fun x hx=>by rcases List.mem_singleton.1 hx with rfl; exact hf⟩
 have hord:=ha.cs forum.toNat (by omega)
 have hby:=ha.by_ forum.toNat (by omega) ask
 have hla:bT [forum] = forum:=rfl
 unfold qX
 rw [show (1:Nat) = [forum].length from rfl,DV _ _ (by simp) (by simp),hla,A8 _ _ hf.1 hf.2]
 simp only [Option.bind_some]
 rw [J8 _ _ (by omega)]
 simp only [Option.bind_some]
 have hw2:GC (el r.Orders forum.toNat).Choices ask = c8 r ask forum:=rfl
 rw [hw2] at hby ⊢
 unfold FL
 rw [gH,hla]
 by_cases h0:(c8 r ask forum).1 = 0
 ·simp only [h0,if_true,beq_self_eq_true]
  rw [qY [forum,-1,-1,-1,-1] (by simp),qY [forum] (by simp)]
  simp only [Option.bind_some]
  rw [DV _ _ (by simp) (by simp),hla,A8 _ _ hf.1 hf.2]
  simp only [Option.bind_some]
  rw [sO _ _ (by omega)]
  simp only [Option.bind_some,jC,hla,Bool.false_eq_true,if_false]
  cases hr:jY (el r.Orders forum.toNat) ask with
  | true=>rfl
  | false =>
   simp only [Bool.false_eq_true,if_false]
   rw [aFX _ _ _ _ (by simp)]
   rfl
 ·simp only [if_neg h0]
  rw [if_neg (by simp [h0]),show (5:Nat) = [forum,-1,-1,-1,-1].length from rfl,OS _ _ _ hby.1 (by simp; omega)]
  rw [aLh r forum ask (c8 r ask forum) forum (el [forum,-1,-1,-1,-1] (c8 r ask forum).1.toNat) none none [forum,-1,-1,-1,-1] [forum] ha hp rfl (by rw [hla]) (by rw [hla]) h0 rfl]
  rfl
end Go.Proofs.Ytjjcaapdaldedaa
