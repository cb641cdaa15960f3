/- search of package audit: the rounds of its loops, and search. Written by a program (paudit.py). -/
import Derived.Test.YtjjcaapdaldedaaPAudit2
set_option linter.unusedVariables false
set_option linter.unusedSimpArgs false
set_option maxHeartbeats 1000000
namespace Go.Proofs.Ytjjcaapdaldedaa
open Go.RowKit Vm
theorem aOO (x:Int) (h:x = -1):(x == (-1)) = true:=by simp [h]
theorem aOM (x:Int) (h:x ≠ -1):¬ (x == (-1)) = true:=by simp [h]
theorem aJQ (a1 a2:Int) (r4 r5:(List Int)) (h:r4.length < 1000):rM a1 a2 r4 r5 0 r4 = some (r4.map oJ):=by
 unfold rM
 exact C1 r4 _ (by omega) (fun i xs=>rfl)
theorem aJw (a0:aA) (a1 a2 p16:Int) (p17 p18:Option aB) (p19 p20:List Int) (r3:Int × Bool) (r40 r41:(List Int)) (x1 x15:Int) (h:r40.length < 1000):sC a0 a1 a2 p16 p17 p18 p19 p20 r3 r40 r41 x1 x15 0 r40 = some (r40.map oJ):=by
 unfold sC
 exact C1 r40 _ (by omega) (fun i xs=>rfl)
theorem aIi (a0:aA) (a1 a2 p16 p54:Int) (p55 p56:Option aB) (p57 p58:List Int) (r3 r39:Int × Bool) (r78 r79:(List Int)) (x1 x15 x37 x53:Int) (h:r78.length < 1000):rS a0 a1 a2 p16 p54 p55 p56 p57 p58 r3 r39 r78 r79 x1 x15 x37 x53 0 r78 = some (r78.map oJ):=by
 unfold rS
 exact C1 r78 _ (by omega) (fun i xs=>rfl)
theorem aEl (a0:aA) (a1 a2 p16 p54 p92:Int) (p93 p94:Option aB) (p95 p96:List Int) (r3 r39 r77:Int × Bool) (x1 x15 x37 x53 x75 x91:Int) (ha:kM a0) (hp:zP a0 p96 3) (hl:p95.length = 5) (hw:r77 = bL a0 a2 (aV p96)) (hlast:x75 = aV p96) (hn:0 <= p92 ∧ p92 < (a0.Orders.length:Int)) (hx:(x91 = -1 ∧ el p95 r77.1.toNat = -1) ∨ (x91 ≠ -1 ∧ el p95 r77.1.toNat = p92)) (hw0:0 <= r77.1 ∧ r77.1 < 5) :
  nK a0 a1 a2 p16 p54 p92 p93 p94 p95 p96 r3 r39 r77 x1 x15 x37 x53 x75 x91 = some ((qS (p93,p94) (eG a0 a1 a2 (iJ a0 a1 a2 0) p95 p96 p92)).1,(qS (p93,p94) (eG a0 a1 a2 (iJ a0 a1 a2 0) p95 p96 p92)).2,p95,p96):=by
 have hL:=hp.len
 have hla:=hp.last
 have hres:∀ (b c:Option aB) (p:List Int),eC a0 a1 a2 p16 p54 p92 p95 r3 r39 r77 x1 x15 x37 x53 x75 x91 b c p = some p95:=by
  intro b c p
  unfold eC
  rcases hx with ⟨e1,e2⟩ | ⟨e1,e2⟩
  ·rw [if_pos (aOO _ e1),TJ _ _ _ hw0.1 (by simp <;> omega),List.set_set,← e2,SJ]
  ·rw [if_neg (aOM _ e1),← e2,SJ]
 have hpop:∀ (b c:Option aB),nI a0 a1 a2 p16 p54 p92 p95 p96 r3 r39 r77 x1 x15 x37 x53 x75 x91 b c = some ():=by
  intro b c
  unfold nI
  rw [aFf _ _ (by omega),if_pos ⟨by omega,by simp⟩]
 have htake:(p96 ++ [p92]).take (IntKind.wrap .i64 (((p96 ++ [p92]).length:Int) - 1)).toNat = p96:=by
  rw [aFf _ _ (by omega)]; simp
 unfold nK
 rw [TJ _ _ _ hw0.1 (by omega)]
 by_cases hq:p92 = x75
 ·have hR:eG a0 a1 a2 (iJ a0 a1 a2 0) p95 p96 p92 = lV a0 a1 a2 false (p95.set r77.1.toNat p92) p96:=by
   unfold eG; rw [← hw,if_pos (hq.trans hlast)]
  rw [hR,if_pos (by simp [hq])]
  rw [tX (p95.set r77.1.toNat p92) (by simp <;> omega),tX p96 (by omega)]
  simp only [Option.bind_some]
  rw [G8 _ _ (by omega) (by omega),tK _ _ hla.1 hla.2.1]
  simp only [Option.bind_some]
  rw [tW _ _ (by have:=(ha.cs (aV p96).toNat (by omega)).2; omega)]
  simp only [Option.bind_some,lV,Bool.false_eq_true,if_false]
  cases hr:iM (el a0.Orders (aV p96).toNat) a2 with
  | true=>simp only [if_true,hres,Option.bind_some,U1]
  | false =>
   simp only [Bool.false_eq_true,if_false]
   rw [aHI _ _ _ _ _ _ _ _ _ _ _ _ _ _ _ _ _ _ _ _ _ (by simp <;> omega)]
   simp only [Option.bind_some,VR]
   cases p93 with
   | none=>simp only [Option.isNone_none,if_true,hres,Option.bind_some,C2]
   | some x =>
    simp only [Option.isNone_some,Bool.false_eq_true,if_false,Option.bind_some,BS (aB.mk 0 a1 a2 ((p95.set r77.1.toNat p92).map oJ) p96) x (by simp <;> omega) (by simp <;> omega),C2]
    cases TO (aB.mk 0 a1 a2 ((p95.set r77.1.toNat p92).map oJ) p96) x <;> simp only [Bool.false_eq_true,if_false,if_true,hres,Option.bind_some]
 ·have hq' : p92 ≠ aV p96:=fun e=>hq (e.trans hlast.symm)
  rw [if_neg (by simp [hq])]
  rw [DH _ _ (by omega)]
  simp only [Option.bind_some]
  rw [if_pos (by omega)]
  have hE:=aP5 a0 a1 a2 p16 p54 p92 p93 p94 p95 p96 r3 r39 r77 x1 x15 x37 x53 x75 x91 ha hn hl (by omega)
  cases hw2:r77.2 with
  | false =>
   have hR:eG a0 a1 a2 (iJ a0 a1 a2 0) p95 p96 p92 = lV a0 a1 a2 (r77.2 && !qV a0 p92) (p95.set r77.1.toNat p92) (p96 ++ [p92]):=by
    unfold eG; rw [← hw,if_neg hq',if_neg (by simp [hw2])]
   rw [← hR] at hE
   simp only [Bool.false_eq_true,if_false,hE,Option.bind_some,hpop,hres,htake]
  | true =>
   simp only [if_true]
   by_cases hin:p92 ∈ p96
   ·have hR:eG a0 a1 a2 (iJ a0 a1 a2 0) p95 p96 p92 = lV a0 a1 a2 (r77.2 && !qV a0 p92) (p95.set r77.1.toNat p92) (p96 ++ [p92]):=by
     unfold eG; rw [← hw,if_neg hq',if_neg (by simp [hin])]
    rw [← hR] at hE
    rw [if_neg (by simp [hin])]
    simp only [hE,Option.bind_some,hpop,hres,htake]
   ·have hR:eG a0 a1 a2 (iJ a0 a1 a2 0) p95 p96 p92 = iJ a0 a1 a2 0 (p95.set r77.1.toNat p92) (p96 ++ [p92]):=by
     unfold eG; rw [← hw,if_neg hq',if_pos ⟨hw2,hin⟩]
    rw [if_pos (by simp [hin])]
    exfalso
    have h4:=(hp.push hn.1 hn.2 hin)
    have:=sE a0.Orders.length _ h4.nd h4.ins
    have:=h4.len
    have:=ha.few
    omega
theorem aO0 (a0:aA) (a1 a2 p16 p54:Int) (r3 r39 r77:Int × Bool) (x1 x15 x37 x53 x75 x91:Int) (p93 p94:Option aB) (p95 p96:List Int) (ha:kM a0) (hp:zP a0 p96 3) (hl:p95.length = 5) (hw:r77 = bL a0 a2 (aV p96)) (hlast:x75 = aV p96) (hw1:r77.1 ≠ 0) (hcu:x91 = el p95 r77.1.toNat) :
  uB a0 a1 a2 p16 p54 r3 r39 r77 x1 x15 x37 x53 x75 x91 0 p93 p94 p95 p96 = some ((fun (bb:Option aB × Option aB)=>(bb.1,bb.2,p95,p96)) (qS (p93,p94) ((List.range a0.Orders.length).flatMap fun (k:Nat)=>if el p95 r77.1.toNat ≠ -1 ∧ el p95 r77.1.toNat ≠ (k:Int) then [] else eG a0 a1 a2 (iJ a0 a1 a2 0) p95 p96 (k:Int)))):=by
 have hla:=hp.last
 have hw0:0 <= r77.1 ∧ r77.1 < 5:=by rw [hw]; exact ha.by_ _ (by omega) _
 have hc:=R0 (step:=fun (s:Int × Option aB × Option aB × List Int × List Int)=>iX a0 a1 a2 p16 p54 r3 r39 r77 x1 x15 x37 x53 x75 x91 s.1 s.2.1 s.2.2.1 s.2.2.2.1 s.2.2.2.2) (fun k (bb:Option aB × Option aB)=>((k:Int),bb.1,bb.2,p95,p96)) a0.Orders.length (fun k bb=>qS bb ((fun (k:Nat)=>if el p95 r77.1.toNat ≠ -1 ∧ el p95 r77.1.toNat ≠ (k:Int) then [] else eG a0 a1 a2 (iJ a0 a1 a2 0) p95 p96 (k:Int)) k)) (fun bb=>(bb.1,bb.2,p95,p96)) (by
  intro k bb hk
  have hfew:=ha.few
  simp only [iX,hZ hk,if_true,aS (show k < 9223372036854775807 by omega)]
  by_cases h1:x91 = -1
  ·have hR:=aEl a0 a1 a2 p16 p54 (k:Int) bb.1 bb.2 p95 p96 r3 r39 r77 x1 x15 x37 x53 x75 x91 ha hp hl hw hlast ⟨by omega,by omega⟩ (.inl ⟨h1,by rw [← hcu]; exact h1⟩) hw0
   rw [if_neg (by simp [h1]),hR]
   rw [if_neg (fun q=>q.1 (by rw [← hcu]; exact h1))]
   rfl
  ·rw [if_pos (by simp [h1]),TJ _ _ _ hw0.1 (by omega)]
   by_cases h2:el p95 r77.1.toNat = (k:Int)
   ·have hR:=aEl a0 a1 a2 p16 p54 (k:Int) bb.1 bb.2 p95 p96 r3 r39 r77 x1 x15 x37 x53 x75 x91 ha hp hl hw hlast ⟨by omega,by omega⟩ (.inr ⟨h1,h2⟩) hw0
    rw [if_neg (by simp [h2]),hR]
    rw [if_neg (fun q=>q.2 h2)]
    rfl
   ·rw [if_pos (by simp [h2]),if_pos ⟨by rw [← hcu]; exact h1,h2⟩]
    rfl) (by
  intro bb
  simp only [iX,jG,if_false]) (p93,p94)
 rw [H7 (p93,p94)] at hc
 exact hc
theorem aOu (a0:aA) (a1 a2 p16 p54:Int) (p55 p56:Option aB) (p57 p58:List Int) (r3 r39:Int × Bool) (x1 x15 x37 x53:Int) (ha:kM a0) (hp:zP a0 p58 2) (hl:p57.length = 5) (hn:0 <= p54 ∧ p54 < (a0.Orders.length:Int)) (hin:p54 ∉ p58) (hw0:0 <= r39.1 ∧ r39.1 < 5) (hw:r39 = bL a0 a2 (aV p58)) :
  pX a0 a1 a2 p16 p54 p55 p56 p57 p58 r3 r39 x1 x15 x37 x53 = some ((qS (p55,p56) (iJ a0 a1 a2 1 (p57.set r39.1.toNat p54) (p58 ++ [p54]))).1,(qS (p55,p56) (iJ a0 a1 a2 1 (p57.set r39.1.toNat p54) (p58 ++ [p54]))).2,p57.set r39.1.toNat p54,p58 ++ [p54]):=by
 have hq:=hp.push hn.1 hn.2 hin
 have hL:=hp.len
 have hord:=(ha.cs p54.toNat (by omega))
 unfold pX
 rw [G8 _ _ (by simp) (by simp <;> omega),gQ,tK _ _ hn.1 hn.2]
 simp only [Option.bind_some]
 rw [OK _ _ (by omega)]
 simp only [Option.bind_some]
 have hw2:OI (el a0.Orders p54.toNat).Choices a2 = bL a0 a2 p54:=rfl
 have hby:=ha.by_ p54.toNat (by omega) a2
 rw [hw2] at hby ⊢
 have hS:iJ a0 a1 a2 1 (p57.set r39.1.toNat p54) (p58 ++ [p54]) = if (bL a0 a2 p54).1 = 0 then lV a0 a1 a2 false (p57.set r39.1.toNat p54) (p58 ++ [p54]) else (List.range a0.Orders.length).flatMap fun (k:Nat)=>if el (p57.set r39.1.toNat p54) (bL a0 a2 p54).1.toNat ≠ -1 ∧ el (p57.set r39.1.toNat p54) (bL a0 a2 p54).1.toNat ≠ (k:Int) then [] else eG a0 a1 a2 (iJ a0 a1 a2 0) (p57.set r39.1.toNat p54) (p58 ++ [p54]) (k:Int):=by
  rw [iJ,gQ]
 rw [hS]
 by_cases h0:(bL a0 a2 p54).1 = 0
 ·rw [if_pos (by simp [h0]),if_pos h0]
  rw [tX (p57.set r39.1.toNat p54) (by simp <;> omega),tX (p58 ++ [p54]) (by simp <;> omega)]
  simp only [Option.bind_some]
  rw [G8 _ _ (by simp) (by simp <;> omega),gQ,tK _ _ hn.1 hn.2]
  simp only [Option.bind_some]
  rw [tW _ _ (by omega)]
  simp only [Option.bind_some,lV,gQ,Bool.false_eq_true,if_false]
  cases hr:iM (el a0.Orders p54.toNat) a2 with
  | true=>rfl
  | false =>
   simp only [Bool.false_eq_true,if_false]
   rw [aIi _ _ _ _ _ _ _ _ _ _ _ _ _ _ _ _ _ (by simp <;> omega)]
   simp only [Option.bind_some,VR]
   cases p55 with
   | none=>rfl
   | some x =>
    simp only [Option.isNone_some,Bool.false_eq_true,if_false,Option.bind_some,BS (aB.mk 0 a1 a2 ((p57.set r39.1.toNat p54).map oJ) (p58 ++ [p54])) x (by simp <;> omega) (by simp <;> omega),C2]
    cases TO (aB.mk 0 a1 a2 ((p57.set r39.1.toNat p54).map oJ) (p58 ++ [p54])) x <;> rfl
 ·rw [if_neg (by simp [h0]),if_neg h0]
  rw [TJ _ _ _ hby.1 (by simp <;> omega)]
  rw [aO0 a0 a1 a2 p16 p54 r3 r39 (bL a0 a2 p54) x1 x15 x37 x53 p54 (el (p57.set r39.1.toNat p54) (bL a0 a2 p54).1.toNat) p55 p56 (p57.set r39.1.toNat p54) (p58 ++ [p54]) ha hq (by simp <;> omega) (by rw [gQ]) (by rw [gQ]) h0 rfl]
  rfl
theorem aED (a0:aA) (a1 a2 p16 p54:Int) (p55 p56:Option aB) (p57 p58:List Int) (r3 r39:Int × Bool) (x1 x15 x37 x53:Int) (ha:kM a0) (hp:zP a0 p58 2) (hl:p57.length = 5) (hw:r39 = bL a0 a2 (aV p58)) (hlast:x37 = aV p58) (hn:0 <= p54 ∧ p54 < (a0.Orders.length:Int)) (hx:(x53 = -1 ∧ el p57 r39.1.toNat = -1) ∨ (x53 ≠ -1 ∧ el p57 r39.1.toNat = p54)) (hw0:0 <= r39.1 ∧ r39.1 < 5) :
  nJ a0 a1 a2 p16 p54 p55 p56 p57 p58 r3 r39 x1 x15 x37 x53 = some ((qS (p55,p56) (eG a0 a1 a2 (iJ a0 a1 a2 1) p57 p58 p54)).1,(qS (p55,p56) (eG a0 a1 a2 (iJ a0 a1 a2 1) p57 p58 p54)).2,p57,p58):=by
 have hL:=hp.len
 have hla:=hp.last
 have hres:∀ (b c:Option aB) (p:List Int),dF a0 a1 a2 p16 p54 r3 r39 x1 x15 x37 x53 b c (p57.set r39.1.toNat p54) p = some p57:=by
  intro b c p
  unfold dF
  rcases hx with ⟨e1,e2⟩ | ⟨e1,e2⟩
  ·rw [if_pos (aOO _ e1),TJ _ _ _ hw0.1 (by simp <;> omega),List.set_set,← e2,SJ]
  ·rw [if_neg (aOM _ e1),← e2,SJ]
 have hpop:∀ (b c:Option aB) (pp:List Int),kP a0 a1 a2 p16 p54 r3 r39 x1 x15 x37 x53 b c pp (p58 ++ [p54]) = some ():=by
  intro b c pp
  unfold kP
  rw [aFf _ _ (by omega),if_pos ⟨by omega,by simp⟩]
 have htake:(p58 ++ [p54]).take (IntKind.wrap .i64 (((p58 ++ [p54]).length:Int) - 1)).toNat = p58:=by
  rw [aFf _ _ (by omega)]; simp
 unfold nJ
 rw [TJ _ _ _ hw0.1 (by omega)]
 by_cases hq:p54 = x37
 ·have hR:eG a0 a1 a2 (iJ a0 a1 a2 1) p57 p58 p54 = lV a0 a1 a2 false (p57.set r39.1.toNat p54) p58:=by
   unfold eG; rw [← hw,if_pos (hq.trans hlast)]
  rw [hR,if_pos (by simp [hq])]
  rw [tX (p57.set r39.1.toNat p54) (by simp <;> omega),tX p58 (by omega)]
  simp only [Option.bind_some]
  rw [G8 _ _ (by omega) (by omega),tK _ _ hla.1 hla.2.1]
  simp only [Option.bind_some]
  rw [tW _ _ (by have:=(ha.cs (aV p58).toNat (by omega)).2; omega)]
  simp only [Option.bind_some,lV,Bool.false_eq_true,if_false]
  cases hr:iM (el a0.Orders (aV p58).toNat) a2 with
  | true=>simp only [if_true,hres,Option.bind_some,U1]
  | false =>
   simp only [Bool.false_eq_true,if_false]
   rw [aJq _ _ _ _ _ _ _ _ _ _ _ _ _ _ _ _ _ (by simp <;> omega)]
   simp only [Option.bind_some,VR]
   cases p55 with
   | none=>simp only [Option.isNone_none,if_true,hres,Option.bind_some,C2]
   | some x =>
    simp only [Option.isNone_some,Bool.false_eq_true,if_false,Option.bind_some,BS (aB.mk 0 a1 a2 ((p57.set r39.1.toNat p54).map oJ) p58) x (by simp <;> omega) (by simp <;> omega),C2]
    cases TO (aB.mk 0 a1 a2 ((p57.set r39.1.toNat p54).map oJ) p58) x <;> simp only [Bool.false_eq_true,if_false,if_true,hres,Option.bind_some]
 ·have hq' : p54 ≠ aV p58:=fun e=>hq (e.trans hlast.symm)
  rw [if_neg (by simp [hq])]
  rw [DH _ _ (by omega)]
  simp only [Option.bind_some]
  rw [if_pos (by omega)]
  have hE:=aPw a0 a1 a2 p16 p54 p55 p56 p57 p58 r3 r39 x1 x15 x37 x53 ha hn hl (by omega)
  cases hw2:r39.2 with
  | false =>
   have hR:eG a0 a1 a2 (iJ a0 a1 a2 1) p57 p58 p54 = lV a0 a1 a2 (r39.2 && !qV a0 p54) (p57.set r39.1.toNat p54) (p58 ++ [p54]):=by
    unfold eG; rw [← hw,if_neg hq',if_neg (by simp [hw2])]
   rw [← hR] at hE
   simp only [Bool.false_eq_true,if_false,hE,Option.bind_some,hpop,hres,htake]
  | true =>
   simp only [if_true]
   by_cases hin:p54 ∈ p58
   ·have hR:eG a0 a1 a2 (iJ a0 a1 a2 1) p57 p58 p54 = lV a0 a1 a2 (r39.2 && !qV a0 p54) (p57.set r39.1.toNat p54) (p58 ++ [p54]):=by
     unfold eG; rw [← hw,if_neg hq',if_neg (by simp [hin])]
    rw [← hR] at hE
    rw [if_neg (by simp [hin])]
    simp only [hE,Option.bind_some,hpop,hres,htake]
   ·have hR:eG a0 a1 a2 (iJ a0 a1 a2 1) p57 p58 p54 = iJ a0 a1 a2 1 (p57.set r39.1.toNat p54) (p58 ++ [p54]):=by
     unfold eG; rw [← hw,if_neg hq',if_pos ⟨hw2,hin⟩]
    rw [if_pos (by simp [hin])]
    rw [aOu a0 a1 a2 p16 p54 p55 p56 p57 p58 r3 r39 x1 x15 x37 x53 ha hp hl hn hin hw0 hw]
    simp only [Option.bind_some]
    rw [hpop]
    simp only [Option.bind_some,htake]
    rw [hres]
    simp only [Option.bind_some]
    rw [hR]
theorem aOp (a0:aA) (a1 a2 p16:Int) (r3 r39:Int × Bool) (x1 x15 x37 x53:Int) (p55 p56:Option aB) (p57 p58:List Int) (ha:kM a0) (hp:zP a0 p58 2) (hl:p57.length = 5) (hw:r39 = bL a0 a2 (aV p58)) (hlast:x37 = aV p58) (hw1:r39.1 ≠ 0) (hcu:x53 = el p57 r39.1.toNat) :
  uR a0 a1 a2 p16 r3 r39 x1 x15 x37 x53 0 p55 p56 p57 p58 = some ((fun (bb:Option aB × Option aB)=>(bb.1,bb.2,p57,p58)) (qS (p55,p56) ((List.range a0.Orders.length).flatMap fun (k:Nat)=>if el p57 r39.1.toNat ≠ -1 ∧ el p57 r39.1.toNat ≠ (k:Int) then [] else eG a0 a1 a2 (iJ a0 a1 a2 1) p57 p58 (k:Int)))):=by
 have hla:=hp.last
 have hw0:0 <= r39.1 ∧ r39.1 < 5:=by rw [hw]; exact ha.by_ _ (by omega) _
 have hc:=R0 (step:=fun (s:Int × Option aB × Option aB × List Int × List Int)=>iS a0 a1 a2 p16 r3 r39 x1 x15 x37 x53 s.1 s.2.1 s.2.2.1 s.2.2.2.1 s.2.2.2.2) (fun k (bb:Option aB × Option aB)=>((k:Int),bb.1,bb.2,p57,p58)) a0.Orders.length (fun k bb=>qS bb ((fun (k:Nat)=>if el p57 r39.1.toNat ≠ -1 ∧ el p57 r39.1.toNat ≠ (k:Int) then [] else eG a0 a1 a2 (iJ a0 a1 a2 1) p57 p58 (k:Int)) k)) (fun bb=>(bb.1,bb.2,p57,p58)) (by
  intro k bb hk
  have hfew:=ha.few
  simp only [iS,hZ hk,if_true,aS (show k < 9223372036854775807 by omega)]
  by_cases h1:x53 = -1
  ·have hR:=aED a0 a1 a2 p16 (k:Int) bb.1 bb.2 p57 p58 r3 r39 x1 x15 x37 x53 ha hp hl hw hlast ⟨by omega,by omega⟩ (.inl ⟨h1,by rw [← hcu]; exact h1⟩) hw0
   rw [if_neg (by simp [h1]),hR]
   rw [if_neg (fun q=>q.1 (by rw [← hcu]; exact h1))]
   rfl
  ·rw [if_pos (by simp [h1]),TJ _ _ _ hw0.1 (by omega)]
   by_cases h2:el p57 r39.1.toNat = (k:Int)
   ·have hR:=aED a0 a1 a2 p16 (k:Int) bb.1 bb.2 p57 p58 r3 r39 x1 x15 x37 x53 ha hp hl hw hlast ⟨by omega,by omega⟩ (.inr ⟨h1,h2⟩) hw0
    rw [if_neg (by simp [h2]),hR]
    rw [if_neg (fun q=>q.2 h2)]
    rfl
   ·rw [if_pos (by simp [h2]),if_pos ⟨by rw [← hcu]; exact h1,h2⟩]
    rfl) (by
  intro bb
  simp only [iS,jG,if_false]) (p55,p56)
 rw [H7 (p55,p56)] at hc
 exact hc
theorem aOB (a0:aA) (a1 a2 p16:Int) (p17 p18:Option aB) (p19 p20:List Int) (r3:Int × Bool) (x1 x15:Int) (ha:kM a0) (hp:zP a0 p20 1) (hl:p19.length = 5) (hn:0 <= p16 ∧ p16 < (a0.Orders.length:Int)) (hin:p16 ∉ p20) (hw0:0 <= r3.1 ∧ r3.1 < 5) (hw:r3 = bL a0 a2 (aV p20)) :
  qB a0 a1 a2 p16 p17 p18 p19 p20 r3 x1 x15 = some ((qS (p17,p18) (iJ a0 a1 a2 2 (p19.set r3.1.toNat p16) (p20 ++ [p16]))).1,(qS (p17,p18) (iJ a0 a1 a2 2 (p19.set r3.1.toNat p16) (p20 ++ [p16]))).2,p19.set r3.1.toNat p16,p20 ++ [p16]):=by
 have hq:=hp.push hn.1 hn.2 hin
 have hL:=hp.len
 have hord:=(ha.cs p16.toNat (by omega))
 unfold qB
 rw [G8 _ _ (by simp) (by simp <;> omega),gQ,tK _ _ hn.1 hn.2]
 simp only [Option.bind_some]
 rw [OK _ _ (by omega)]
 simp only [Option.bind_some]
 have hw2:OI (el a0.Orders p16.toNat).Choices a2 = bL a0 a2 p16:=rfl
 have hby:=ha.by_ p16.toNat (by omega) a2
 rw [hw2] at hby ⊢
 have hS:iJ a0 a1 a2 2 (p19.set r3.1.toNat p16) (p20 ++ [p16]) = if (bL a0 a2 p16).1 = 0 then lV a0 a1 a2 false (p19.set r3.1.toNat p16) (p20 ++ [p16]) else (List.range a0.Orders.length).flatMap fun (k:Nat)=>if el (p19.set r3.1.toNat p16) (bL a0 a2 p16).1.toNat ≠ -1 ∧ el (p19.set r3.1.toNat p16) (bL a0 a2 p16).1.toNat ≠ (k:Int) then [] else eG a0 a1 a2 (iJ a0 a1 a2 1) (p19.set r3.1.toNat p16) (p20 ++ [p16]) (k:Int):=by
  rw [iJ,gQ]
 rw [hS]
 by_cases h0:(bL a0 a2 p16).1 = 0
 ·rw [if_pos (by simp [h0]),if_pos h0]
  rw [tX (p19.set r3.1.toNat p16) (by simp <;> omega),tX (p20 ++ [p16]) (by simp <;> omega)]
  simp only [Option.bind_some]
  rw [G8 _ _ (by simp) (by simp <;> omega),gQ,tK _ _ hn.1 hn.2]
  simp only [Option.bind_some]
  rw [tW _ _ (by omega)]
  simp only [Option.bind_some,lV,gQ,Bool.false_eq_true,if_false]
  cases hr:iM (el a0.Orders p16.toNat) a2 with
  | true=>rfl
  | false =>
   simp only [Bool.false_eq_true,if_false]
   rw [aJw _ _ _ _ _ _ _ _ _ _ _ _ _ (by simp <;> omega)]
   simp only [Option.bind_some,VR]
   cases p17 with
   | none=>rfl
   | some x =>
    simp only [Option.isNone_some,Bool.false_eq_true,if_false,Option.bind_some,BS (aB.mk 0 a1 a2 ((p19.set r3.1.toNat p16).map oJ) (p20 ++ [p16])) x (by simp <;> omega) (by simp <;> omega),C2]
    cases TO (aB.mk 0 a1 a2 ((p19.set r3.1.toNat p16).map oJ) (p20 ++ [p16])) x <;> rfl
 ·rw [if_neg (by simp [h0]),if_neg h0]
  rw [TJ _ _ _ hby.1 (by simp <;> omega)]
  rw [aOp a0 a1 a2 p16 r3 (bL a0 a2 p16) x1 x15 p16 (el (p19.set r3.1.toNat p16) (bL a0 a2 p16).1.toNat) p17 p18 (p19.set r3.1.toNat p16) (p20 ++ [p16]) ha hq (by simp <;> omega) (by rw [gQ]) (by rw [gQ]) h0 rfl]
  rfl
theorem aD3 (a0:aA) (a1 a2 p16:Int) (p17 p18:Option aB) (p19 p20:List Int) (r3:Int × Bool) (x1 x15:Int) (ha:kM a0) (hp:zP a0 p20 1) (hl:p19.length = 5) (hw:r3 = bL a0 a2 (aV p20)) (hlast:x1 = aV p20) (hn:0 <= p16 ∧ p16 < (a0.Orders.length:Int)) (hx:(x15 = -1 ∧ el p19 r3.1.toNat = -1) ∨ (x15 ≠ -1 ∧ el p19 r3.1.toNat = p16)) (hw0:0 <= r3.1 ∧ r3.1 < 5) :
  nB a0 a1 a2 p16 p17 p18 p19 p20 r3 x1 x15 = some ((qS (p17,p18) (eG a0 a1 a2 (iJ a0 a1 a2 2) p19 p20 p16)).1,(qS (p17,p18) (eG a0 a1 a2 (iJ a0 a1 a2 2) p19 p20 p16)).2,p19,p20):=by
 have hL:=hp.len
 have hla:=hp.last
 have hres:∀ (b c:Option aB) (p:List Int),dH a0 a1 a2 p16 r3 x1 x15 b c (p19.set r3.1.toNat p16) p = some p19:=by
  intro b c p
  unfold dH
  rcases hx with ⟨e1,e2⟩ | ⟨e1,e2⟩
  ·rw [if_pos (aOO _ e1),TJ _ _ _ hw0.1 (by simp <;> omega),List.set_set,← e2,SJ]
  ·rw [if_neg (aOM _ e1),← e2,SJ]
 have hpop:∀ (b c:Option aB) (pp:List Int),kX a0 a1 a2 p16 r3 x1 x15 b c pp (p20 ++ [p16]) = some ():=by
  intro b c pp
  unfold kX
  rw [aFf _ _ (by omega),if_pos ⟨by omega,by simp⟩]
 have htake:(p20 ++ [p16]).take (IntKind.wrap .i64 (((p20 ++ [p16]).length:Int) - 1)).toNat = p20:=by
  rw [aFf _ _ (by omega)]; simp
 unfold nB
 rw [TJ _ _ _ hw0.1 (by omega)]
 by_cases hq:p16 = x1
 ·have hR:eG a0 a1 a2 (iJ a0 a1 a2 2) p19 p20 p16 = lV a0 a1 a2 false (p19.set r3.1.toNat p16) p20:=by
   unfold eG; rw [← hw,if_pos (hq.trans hlast)]
  rw [hR,if_pos (by simp [hq])]
  rw [tX (p19.set r3.1.toNat p16) (by simp <;> omega),tX p20 (by omega)]
  simp only [Option.bind_some]
  rw [G8 _ _ (by omega) (by omega),tK _ _ hla.1 hla.2.1]
  simp only [Option.bind_some]
  rw [tW _ _ (by have:=(ha.cs (aV p20).toNat (by omega)).2; omega)]
  simp only [Option.bind_some,lV,Bool.false_eq_true,if_false]
  cases hr:iM (el a0.Orders (aV p20).toNat) a2 with
  | true=>simp only [if_true,hres,Option.bind_some,U1]
  | false =>
   simp only [Bool.false_eq_true,if_false]
   rw [aIu _ _ _ _ _ _ _ _ _ _ _ _ _ (by simp <;> omega)]
   simp only [Option.bind_some,VR]
   cases p17 with
   | none=>simp only [Option.isNone_none,if_true,hres,Option.bind_some,C2]
   | some x =>
    simp only [Option.isNone_some,Bool.false_eq_true,if_false,Option.bind_some,BS (aB.mk 0 a1 a2 ((p19.set r3.1.toNat p16).map oJ) p20) x (by simp <;> omega) (by simp <;> omega),C2]
    cases TO (aB.mk 0 a1 a2 ((p19.set r3.1.toNat p16).map oJ) p20) x <;> simp only [Bool.false_eq_true,if_false,if_true,hres,Option.bind_some]
 ·have hq' : p16 ≠ aV p20:=fun e=>hq (e.trans hlast.symm)
  rw [if_neg (by simp [hq])]
  rw [DH _ _ (by omega)]
  simp only [Option.bind_some]
  rw [if_pos (by omega)]
  have hE:=aQo a0 a1 a2 p16 p17 p18 p19 p20 r3 x1 x15 ha hn hl (by omega)
  cases hw2:r3.2 with
  | false =>
   have hR:eG a0 a1 a2 (iJ a0 a1 a2 2) p19 p20 p16 = lV a0 a1 a2 (r3.2 && !qV a0 p16) (p19.set r3.1.toNat p16) (p20 ++ [p16]):=by
    unfold eG; rw [← hw,if_neg hq',if_neg (by simp [hw2])]
   rw [← hR] at hE
   simp only [Bool.false_eq_true,if_false,hE,Option.bind_some,hpop,hres,htake]
  | true =>
   simp only [if_true]
   by_cases hin:p16 ∈ p20
   ·have hR:eG a0 a1 a2 (iJ a0 a1 a2 2) p19 p20 p16 = lV a0 a1 a2 (r3.2 && !qV a0 p16) (p19.set r3.1.toNat p16) (p20 ++ [p16]):=by
     unfold eG; rw [← hw,if_neg hq',if_neg (by simp [hin])]
    rw [← hR] at hE
    rw [if_neg (by simp [hin])]
    simp only [hE,Option.bind_some,hpop,hres,htake]
   ·have hR:eG a0 a1 a2 (iJ a0 a1 a2 2) p19 p20 p16 = iJ a0 a1 a2 2 (p19.set r3.1.toNat p16) (p20 ++ [p16]):=by
     unfold eG; rw [← hw,if_neg hq',if_pos ⟨hw2,hin⟩]
    rw [if_pos (by simp [hin])]
    rw [aOB a0 a1 a2 p16 p17 p18 p19 p20 r3 x1 x15 ha hp hl hn hin hw0 hw]
    simp only [Option.bind_some]
    rw [hpop]
    simp only [Option.bind_some,htake]
    rw [hres]
    simp only [Option.bind_some]
    rw [hR]
theorem aPn (a0:aA) (a1 a2:Int) (r3:Int × Bool) (x1 x15:Int) (p17 p18:Option aB) (p19 p20:List Int) (ha:kM a0) (hp:zP a0 p20 1) (hl:p19.length = 5) (hw:r3 = bL a0 a2 (aV p20)) (hlast:x1 = aV p20) (hw1:r3.1 ≠ 0) (hcu:x15 = el p19 r3.1.toNat) :
  qA a0 a1 a2 r3 x1 x15 0 p17 p18 p19 p20 = some ((fun (bb:Option aB × Option aB)=>(bb.1,bb.2)) (qS (p17,p18) ((List.range a0.Orders.length).flatMap fun (k:Nat)=>if el p19 r3.1.toNat ≠ -1 ∧ el p19 r3.1.toNat ≠ (k:Int) then [] else eG a0 a1 a2 (iJ a0 a1 a2 2) p19 p20 (k:Int)))):=by
 have hla:=hp.last
 have hw0:0 <= r3.1 ∧ r3.1 < 5:=by rw [hw]; exact ha.by_ _ (by omega) _
 have hc:=R0 (step:=fun (s:Int × Option aB × Option aB × List Int × List Int)=>iU a0 a1 a2 r3 x1 x15 s.1 s.2.1 s.2.2.1 s.2.2.2.1 s.2.2.2.2) (fun k (bb:Option aB × Option aB)=>((k:Int),bb.1,bb.2,p19,p20)) a0.Orders.length (fun k bb=>qS bb ((fun (k:Nat)=>if el p19 r3.1.toNat ≠ -1 ∧ el p19 r3.1.toNat ≠ (k:Int) then [] else eG a0 a1 a2 (iJ a0 a1 a2 2) p19 p20 (k:Int)) k)) (fun bb=>(bb.1,bb.2)) (by
  intro k bb hk
  have hfew:=ha.few
  simp only [iU,hZ hk,if_true,aS (show k < 9223372036854775807 by omega)]
  by_cases h1:x15 = -1
  ·have hR:=aD3 a0 a1 a2 (k:Int) bb.1 bb.2 p19 p20 r3 x1 x15 ha hp hl hw hlast ⟨by omega,by omega⟩ (.inl ⟨h1,by rw [← hcu]; exact h1⟩) hw0
   rw [if_neg (by simp [h1]),hR]
   rw [if_neg (fun q=>q.1 (by rw [← hcu]; exact h1))]
   rfl
  ·rw [if_pos (by simp [h1]),TJ _ _ _ hw0.1 (by omega)]
   by_cases h2:el p19 r3.1.toNat = (k:Int)
   ·have hR:=aD3 a0 a1 a2 (k:Int) bb.1 bb.2 p19 p20 r3 x1 x15 ha hp hl hw hlast ⟨by omega,by omega⟩ (.inr ⟨h1,h2⟩) hw0
    rw [if_neg (by simp [h2]),hR]
    rw [if_neg (fun q=>q.2 h2)]
    rfl
   ·rw [if_pos (by simp [h2]),if_pos ⟨by rw [← hcu]; exact h1,h2⟩]
    rfl) (by
  intro bb
  simp only [iU,jG,if_false]) (p17,p18)
 rw [H7 (p17,p18)] at hc
 exact hc
def WS (r:aA) (forum ask:Int):List aB:=iJ r forum ask 3 [forum,-1,-1,-1,-1] [forum]
theorem aDn (r:aA) (forum ask:Int) (ha:kM r) (hf:0 <= forum ∧ forum < (r.Orders.length:Int)):tV r forum ask = some ⟨(qS (none,none) (WS r forum ask)).1,(qS (none,none) (WS r forum ask)).2⟩:=by
 have hp:zP r [forum] 1:=⟨rfl,by omega,by simp,fun x hx=>by rcases List.mem_singleton.1 hx with rfl; exact hf⟩
 have hord:=ha.cs forum.toNat (by omega)
 have hby:=ha.by_ forum.toNat (by omega) ask
 have hla:aV [forum] = forum:=rfl
 unfold tV
 rw [show (1:Nat) = [forum].length from rfl,G8 _ _ (by simp) (by simp),hla,tK _ _ hf.1 hf.2]
 simp only [Option.bind_some]
 rw [OK _ _ (by omega)]
 simp only [Option.bind_some]
 have hw2:OI (el r.Orders forum.toNat).Choices ask = bL r ask forum:=rfl
 rw [hw2] at hby ⊢
 unfold WS
 rw [iJ,hla]
 by_cases h0:(bL r ask forum).1 = 0
 ·simp only [h0,if_true,beq_self_eq_true]
  rw [tX [forum,-1,-1,-1,-1] (by simp),tX [forum] (by simp)]
  simp only [Option.bind_some]
  rw [G8 _ _ (by simp) (by simp),hla,tK _ _ hf.1 hf.2]
  simp only [Option.bind_some]
  rw [tW _ _ (by omega)]
  simp only [Option.bind_some,lV,hla,Bool.false_eq_true,if_false]
  cases hr:iM (el r.Orders forum.toNat) ask with
  | true=>rfl
  | false =>
   simp only [Bool.false_eq_true,if_false]
   rw [aJQ _ _ _ _ (by simp)]
   rfl
 ·simp only [if_neg h0]
  rw [if_neg (by simp [h0]),show (5:Nat) = [forum,-1,-1,-1,-1].length from rfl,TJ _ _ _ hby.1 (by simp; omega)]
  rw [aPn r forum ask (bL r ask forum) forum (el [forum,-1,-1,-1,-1] (bL r ask forum).1.toNat) none none [forum,-1,-1,-1,-1] [forum] ha hp rfl (by rw [hla]) (by rw [hla]) h0 rfl]
  rfl
end Go.Proofs.Ytjjcaapdaldedaa
