/- Lemmas on the answers. -/
import Derived.Test.YtoefdnkjcfoccaaDoorPAudit2
set_option maxHeartbeats 1000000
namespace Go.Proofs.YtoefdnkjcfoccaaDoor
open Go.RowKit Vm
theorem aR5 (x:Int) (h:x = -1):(x == (-1)) = true:=by simp [h]
theorem aSc (x:Int) (h:x ≠ -1):¬ (x == (-1)) = true:=by simp [h]
theorem aJq (a1 a2:Int) (r4 r5:(List Int)) (h:r4.length < 1000):pC a1 a2 r4 r5 0 r4 = some (r4.map oB):=by
 unfold pC
 exact BW r4 _ (by omega) (fun i xs=>rfl)
theorem aMg (a0:aB) (a1 a2 p16:Int) (p17 p18:Option aA) (p19 p20:List Int) (r3:Int × Bool) (r40 r41:(List Int)) (x1 x15:Int) (h:r40.length < 1000):o9 a0 a1 a2 p16 p17 p18 p19 p20 r3 r40 r41 x1 x15 0 r40 = some (r40.map oB):=by
 unfold o9
 exact BW r40 _ (by omega) (fun i xs=>rfl)
theorem aIO (a0:aB) (a1 a2 p16 p54:Int) (p55 p56:Option aA) (p57 p58:List Int) (r3 r39:Int × Bool) (r78 r79:(List Int)) (x1 x15 x37 x53:Int) (h:r78.length < 1000):pS a0 a1 a2 p16 p54 p55 p56 p57 p58 r3 r39 r78 r79 x1 x15 x37 x53 0 r78 = some (r78.map oB):=by
 unfold pS
 exact BW r78 _ (by omega) (fun i xs=>rfl)
theorem aEz (a0:aB) (a1 a2 p16 p54 p92:Int) (p93 p94:Option aA) (p95 p96:List Int) (r3 r39 r77:Int × Bool) (x1 x15 x37 x53 x75 x91:Int) (ha:qU a0) (hp:CA a0 p96 3) (hl:p95.length = 5) (hw:r77 = dJ a0 a2 (bW p96)) (hlast:x75 = bW p96) (hn:0 <= p92 ∧ p92 < (a0.Orders.length:Int)) (hx:(x91 = -1 ∧ el p95 r77.1.toNat = -1) ∨ (x91 ≠ -1 ∧ el p95 r77.1.toNat = p92)) (hw0:0 <= r77.1 ∧ r77.1 < 5) :
  lK a0 a1 a2 p16 p54 p92 p93 p94 p95 p96 r3 r39 r77 x1 x15 x37 x53 x75 x91 = some ((rB (p93,p94) (dU a0 a1 a2 (gZ a0 a1 a2 0) p95 p96 p92)).1,(rB (p93,p94) (dU a0 a1 a2 (gZ a0 a1 a2 0) p95 p96 p92)).2,p95,p96):=by
 have hL:=hp.len
 have hla:=hp.last
 have hres:∀ (b c:Option aA) (p:List Int),dQ a0 a1 a2 p16 p54 p92 p95 r3 r39 r77 x1 x15 x37 x53 x75 x91 b c p = some p95:=by
  intro b c p
  unfold dQ
  rcases hx with ⟨e1,e2⟩ | ⟨e1,e2⟩
  ·rw [Â (aR5 _ e1),R7 _ _ _ hw0.1 (by simp <;> omega),List.set_set,← e2,QD]
  ·rw [Ã (aSc _ e1),← e2,QD]
 have hpop:∀ (b c:Option aA),lB a0 a1 a2 p16 p54 p92 p95 p96 r3 r39 r77 x1 x15 x37 x53 x75 x91 b c = some ():=by
  intro b c
  unfold lB
  rw [aG8 _ _ (by omega),Â ⟨by omega,by simp⟩]
 have htake:(p96 ++ [p92]).take (IntKind.wrap .i64 (((p96 ++ [p92]).length:Int) - 1)).toNat = p96:=by
  rw [aG8 _ _ (by omega)]; simp
 unfold lK
 rw [R7 _ _ _ hw0.1 (by omega)]
 by_cases hq:p92 = x75
 ·have hR:dU a0 a1 a2 (gZ a0 a1 a2 0) p95 p96 p92 = lC a0 a1 a2 false (p95.set r77.1.toNat p92) p96:=by
   unfold dU; rw [← hw,Â (hq.trans hlast)]
  rw [hR,Â (by simp [hq])]
  rw [sB (p95.set r77.1.toNat p92) (by simp <;> omega),sB p96 (by omega)]
  simp only [À]
  rw [AP _ _ (by omega) (by omega),xT _ _ hla.1 hla.2.1]
  simp only [À]
  rw [t8 _ _ (by have:=(ha.cs (bW p96).toNat (by omega)).2; omega)]
  simp only [À,lC,Æ,È]
  cases hr:j6 (el a0.Orders (bW p96).toNat) a2 with
  | true=>simp only [Ë,hres,À,UB]
  | false =>
   simp only [Æ,È]
   rw [aJv _ _ _ _ _ _ _ _ _ _ _ _ _ _ _ _ _ _ _ _ _ (by simp <;> omega)]
   simp only [À,S8]
   cases p93 with
   | none=>simp only [Option.isNone_none,Ë,hres,À,DH]
   | some x =>
    simp only [Option.isNone_some,Æ,È,À,A0 (aA.mk 0 a1 a2 ((p95.set r77.1.toNat p92).map oB) p96) x (by simp <;> omega) (by simp <;> omega),DH]
    cases VO (aA.mk 0 a1 a2 ((p95.set r77.1.toNat p92).map oB) p96) x <;> simp only [Æ,È,Ë,hres,À]
 ·have hq' : p92 ≠ bW p96:=fun e=>hq (e.trans hlast.symm)
  rw [Ã (by simp [hq])]
  rw [AH _ _ (by omega)]
  simp only [À]
  rw [Â (by omega)]
  have hE:=aTU a0 a1 a2 p16 p54 p92 p93 p94 p95 p96 r3 r39 r77 x1 x15 x37 x53 x75 x91 ha hn hl (by omega)
  cases hw2:r77.2 with
  | false =>
   have hR:dU a0 a1 a2 (gZ a0 a1 a2 0) p95 p96 p92 = lC a0 a1 a2 (r77.2 && !qC a0 p92) (p95.set r77.1.toNat p92) (p96 ++ [p92]):=by
    unfold dU; rw [← hw,Ã hq',Ã (by simp [hw2])]
   rw [← hR] at hE
   simp only [Æ,È,hE,À,hpop,hres,htake]
  | true =>
   simp only [Ë]
   by_cases hin:p92 ∈ p96
   ·have hR:dU a0 a1 a2 (gZ a0 a1 a2 0) p95 p96 p92 = lC a0 a1 a2 (r77.2 && !qC a0 p92) (p95.set r77.1.toNat p92) (p96 ++ [p92]):=by
     unfold dU; rw [← hw,Ã hq',Ã (by simp [hin])]
    rw [← hR] at hE
    rw [Ã (by simp [hin])]
    simp only [hE,À,hpop,hres,htake]
   ·have hR:dU a0 a1 a2 (gZ a0 a1 a2 0) p95 p96 p92 = gZ a0 a1 a2 0 (p95.set r77.1.toNat p92) (p96 ++ [p92]):=by
     unfold dU; rw [← hw,Ã hq',Â ⟨hw2,hin⟩]
    rw [Â (by simp [hin])]
    exfalso
    have h4:=(hp.push hn.1 hn.2 hin)
    have:=BU a0.Orders.length _ h4.nd h4.ins
    have:=h4.len
    have:=ha.few
    omega
theorem aS6 (a0:aB) (a1 a2 p16 p54:Int) (r3 r39 r77:Int × Bool) (x1 x15 x37 x53 x75 x91:Int) (p93 p94:Option aA) (p95 p96:List Int) (ha:qU a0) (hp:CA a0 p96 3) (hl:p95.length = 5) (hw:r77 = dJ a0 a2 (bW p96)) (hlast:x75 = bW p96) (hw1:r77.1 ≠ 0) (hcu:x91 = el p95 r77.1.toNat) :
  sD a0 a1 a2 p16 p54 r3 r39 r77 x1 x15 x37 x53 x75 x91 0 p93 p94 p95 p96 = some ((fun (bb:Option aA × Option aA)=>(bb.1,bb.2,p95,p96)) (rB (p93,p94) ((List.range a0.Orders.length).flatMap fun (k:Nat)=>if el p95 r77.1.toNat ≠ -1 ∧ el p95 r77.1.toNat ≠ (k:Int) then [] else dU a0 a1 a2 (gZ a0 a1 a2 0) p95 p96 (k:Int)))):=by
 have hla:=hp.last
 have hw0:0 <= r77.1 ∧ r77.1 < 5:=by rw [hw]; exact ha.by_ _ (by omega) _
 have hc:=PY (step:=fun (s:Int × Option aA × Option aA × List Int × List Int)=>gQ a0 a1 a2 p16 p54 r3 r39 r77 x1 x15 x37 x53 x75 x91 s.1 s.2.1 s.2.2.1 s.2.2.2.1 s.2.2.2.2) (fun k (bb:Option aA × Option aA)=>((k:Int),bb.1,bb.2,p95,p96)) a0.Orders.length (fun k bb=>rB bb ((fun (k:Nat)=>if el p95 r77.1.toNat ≠ -1 ∧ el p95 r77.1.toNat ≠ (k:Int) then [] else dU a0 a1 a2 (gZ a0 a1 a2 0) p95 p96 (k:Int)) k)) (fun bb=>(bb.1,bb.2,p95,p96)) (by
  intro k bb hk
  have hfew:=ha.few
  simp only [gQ,tN hk,Ë,b5 (show k < 9223372036854775807 by omega)]
  by_cases h1:x91 = -1
  ·have hR:=aEz a0 a1 a2 p16 p54 (k:Int) bb.1 bb.2 p95 p96 r3 r39 r77 x1 x15 x37 x53 x75 x91 ha hp hl hw hlast ⟨by omega,by omega⟩ (.inl ⟨h1,by rw [← hcu]; exact h1⟩) hw0
   rw [Ã (by simp [h1]),hR]
   rw [Ã (fun q=>q.1 (by rw [← hcu]; exact h1))]
   rfl
  ·rw [Â (by simp [h1]),R7 _ _ _ hw0.1 (by omega)]
   by_cases h2:el p95 r77.1.toNat = (k:Int)
   ·have hR:=aEz a0 a1 a2 p16 p54 (k:Int) bb.1 bb.2 p95 p96 r3 r39 r77 x1 x15 x37 x53 x75 x91 ha hp hl hw hlast ⟨by omega,by omega⟩ (.inr ⟨h1,h2⟩) hw0
    rw [Ã (by simp [h2]),hR]
    rw [Ã (fun q=>q.2 h2)]
    rfl
   ·rw [Â (by simp [h2]),Â ⟨by rw [← hcu]; exact h1,h2⟩]
    rfl) (by
  intro bb
  simp only [gQ,wR,È]) (p93,p94)
 rw [GV (p93,p94)] at hc
 exact hc
theorem aSe (a0:aB) (a1 a2 p16 p54:Int) (p55 p56:Option aA) (p57 p58:List Int) (r3 r39:Int × Bool) (x1 x15 x37 x53:Int) (ha:qU a0) (hp:CA a0 p58 2) (hl:p57.length = 5) (hn:0 <= p54 ∧ p54 < (a0.Orders.length:Int)) (hin:p54 ∉ p58) (hw0:0 <= r39.1 ∧ r39.1 < 5) (hw:r39 = dJ a0 a2 (bW p58)) :
  nU a0 a1 a2 p16 p54 p55 p56 p57 p58 r3 r39 x1 x15 x37 x53 = some ((rB (p55,p56) (gZ a0 a1 a2 1 (p57.set r39.1.toNat p54) (p58 ++ [p54]))).1,(rB (p55,p56) (gZ a0 a1 a2 1 (p57.set r39.1.toNat p54) (p58 ++ [p54]))).2,p57.set r39.1.toNat p54,p58 ++ [p54]):=by
 have hq:=hp.push hn.1 hn.2 hin
 have hL:=hp.len
 have hord:=(ha.cs p54.toNat (by omega))
 unfold nU
 rw [AP _ _ (by simp) (by simp <;> omega),hU,xT _ _ hn.1 hn.2]
 simp only [À]
 rw [M2 _ _ (by omega)]
 simp only [À]
 have hw2:PI (el a0.Orders p54.toNat).Choices a2 = dJ a0 a2 p54:=rfl
 have hby:=ha.by_ p54.toNat (by omega) a2
 rw [hw2] at hby ⊢
 have hS:gZ a0 a1 a2 1 (p57.set r39.1.toNat p54) (p58 ++ [p54]) = if (dJ a0 a2 p54).1 = 0 then lC a0 a1 a2 false (p57.set r39.1.toNat p54) (p58 ++ [p54]) else (List.range a0.Orders.length).flatMap fun (k:Nat)=>if el (p57.set r39.1.toNat p54) (dJ a0 a2 p54).1.toNat ≠ -1 ∧ el (p57.set r39.1.toNat p54) (dJ a0 a2 p54).1.toNat ≠ (k:Int) then [] else dU a0 a1 a2 (gZ a0 a1 a2 0) (p57.set r39.1.toNat p54) (p58 ++ [p54]) (k:Int):=by
  rw [gZ,hU]
 rw [hS]
 by_cases h0:(dJ a0 a2 p54).1 = 0
 ·rw [Â (by simp [h0]),Â h0]
  rw [sB (p57.set r39.1.toNat p54) (by simp <;> omega),sB (p58 ++ [p54]) (by simp <;> omega)]
  simp only [À]
  rw [AP _ _ (by simp) (by simp <;> omega),hU,xT _ _ hn.1 hn.2]
  simp only [À]
  rw [t8 _ _ (by omega)]
  simp only [À,lC,hU,Æ,È]
  cases hr:j6 (el a0.Orders p54.toNat) a2 with
  | true=>rfl
  | false =>
   simp only [Æ,È]
   rw [aIO _ _ _ _ _ _ _ _ _ _ _ _ _ _ _ _ _ (by simp <;> omega)]
   simp only [À,S8]
   cases p55 with
   | none=>rfl
   | some x =>
    simp only [Option.isNone_some,Æ,È,À,A0 (aA.mk 0 a1 a2 ((p57.set r39.1.toNat p54).map oB) (p58 ++ [p54])) x (by simp <;> omega) (by simp <;> omega),DH]
    cases VO (aA.mk 0 a1 a2 ((p57.set r39.1.toNat p54).map oB) (p58 ++ [p54])) x <;> rfl
 ·rw [Ã (by simp [h0]),Ã h0]
  rw [R7 _ _ _ hby.1 (by simp <;> omega)]
  rw [aS6 a0 a1 a2 p16 p54 r3 r39 (dJ a0 a2 p54) x1 x15 x37 x53 p54 (el (p57.set r39.1.toNat p54) (dJ a0 a2 p54).1.toNat) p55 p56 (p57.set r39.1.toNat p54) (p58 ++ [p54]) ha hq (by simp <;> omega) (by rw [hU]) (by rw [hU]) h0 rfl]
  rfl
theorem aFj (a0:aB) (a1 a2 p16 p54:Int) (p55 p56:Option aA) (p57 p58:List Int) (r3 r39:Int × Bool) (x1 x15 x37 x53:Int) (ha:qU a0) (hp:CA a0 p58 2) (hl:p57.length = 5) (hw:r39 = dJ a0 a2 (bW p58)) (hlast:x37 = bW p58) (hn:0 <= p54 ∧ p54 < (a0.Orders.length:Int)) (hx:(x53 = -1 ∧ el p57 r39.1.toNat = -1) ∨ (x53 ≠ -1 ∧ el p57 r39.1.toNat = p54)) (hw0:0 <= r39.1 ∧ r39.1 < 5) :
  lH a0 a1 a2 p16 p54 p55 p56 p57 p58 r3 r39 x1 x15 x37 x53 = some ((rB (p55,p56) (dU a0 a1 a2 (gZ a0 a1 a2 1) p57 p58 p54)).1,(rB (p55,p56) (dU a0 a1 a2 (gZ a0 a1 a2 1) p57 p58 p54)).2,p57,p58):=by
 have hL:=hp.len
 have hla:=hp.last
 have hres:∀ (b c:Option aA) (p:List Int),dF a0 a1 a2 p16 p54 r3 r39 x1 x15 x37 x53 b c (p57.set r39.1.toNat p54) p = some p57:=by
  intro b c p
  unfold dF
  rcases hx with ⟨e1,e2⟩ | ⟨e1,e2⟩
  ·rw [Â (aR5 _ e1),R7 _ _ _ hw0.1 (by simp <;> omega),List.set_set,← e2,QD]
  ·rw [Ã (aSc _ e1),← e2,QD]
 have hpop:∀ (b c:Option aA) (pp:List Int),jC a0 a1 a2 p16 p54 r3 r39 x1 x15 x37 x53 b c pp (p58 ++ [p54]) = some ():=by
  intro b c pp
  unfold jC
  rw [aG8 _ _ (by omega),Â ⟨by omega,by simp⟩]
 have htake:(p58 ++ [p54]).take (IntKind.wrap .i64 (((p58 ++ [p54]).length:Int) - 1)).toNat = p58:=by
  rw [aG8 _ _ (by omega)]; simp
 unfold lH
 rw [R7 _ _ _ hw0.1 (by omega)]
 by_cases hq:p54 = x37
 ·have hR:dU a0 a1 a2 (gZ a0 a1 a2 1) p57 p58 p54 = lC a0 a1 a2 false (p57.set r39.1.toNat p54) p58:=by
   unfold dU; rw [← hw,Â (hq.trans hlast)]
  rw [hR,Â (by simp [hq])]
  rw [sB (p57.set r39.1.toNat p54) (by simp <;> omega),sB p58 (by omega)]
  simp only [À]
  rw [AP _ _ (by omega) (by omega),xT _ _ hla.1 hla.2.1]
  simp only [À]
  rw [t8 _ _ (by have:=(ha.cs (bW p58).toNat (by omega)).2; omega)]
  simp only [À,lC,Æ,È]
  cases hr:j6 (el a0.Orders (bW p58).toNat) a2 with
  | true=>simp only [Ë,hres,À,UB]
  | false =>
   simp only [Æ,È]
   rw [aJL _ _ _ _ _ _ _ _ _ _ _ _ _ _ _ _ _ (by simp <;> omega)]
   simp only [À,S8]
   cases p55 with
   | none=>simp only [Option.isNone_none,Ë,hres,À,DH]
   | some x =>
    simp only [Option.isNone_some,Æ,È,À,A0 (aA.mk 0 a1 a2 ((p57.set r39.1.toNat p54).map oB) p58) x (by simp <;> omega) (by simp <;> omega),DH]
    cases VO (aA.mk 0 a1 a2 ((p57.set r39.1.toNat p54).map oB) p58) x <;> simp only [Æ,È,Ë,hres,À]
 ·have hq' : p54 ≠ bW p58:=fun e=>hq (e.trans hlast.symm)
  rw [Ã (by simp [hq])]
  rw [AH _ _ (by omega)]
  simp only [À]
  rw [Â (by omega)]
  have hE:=aUe a0 a1 a2 p16 p54 p55 p56 p57 p58 r3 r39 x1 x15 x37 x53 ha hn hl (by omega)
  cases hw2:r39.2 with
  | false =>
   have hR:dU a0 a1 a2 (gZ a0 a1 a2 1) p57 p58 p54 = lC a0 a1 a2 (r39.2 && !qC a0 p54) (p57.set r39.1.toNat p54) (p58 ++ [p54]):=by
    unfold dU; rw [← hw,Ã hq',Ã (by simp [hw2])]
   rw [← hR] at hE
   simp only [Æ,È,hE,À,hpop,hres,htake]
  | true =>
   simp only [Ë]
   by_cases hin:p54 ∈ p58
   ·have hR:dU a0 a1 a2 (gZ a0 a1 a2 1) p57 p58 p54 = lC a0 a1 a2 (r39.2 && !qC a0 p54) (p57.set r39.1.toNat p54) (p58 ++ [p54]):=by
     unfold dU; rw [← hw,Ã hq',Ã (by simp [hin])]
    rw [← hR] at hE
    rw [Ã (by simp [hin])]
    simp only [hE,À,hpop,hres,htake]
   ·have hR:dU a0 a1 a2 (gZ a0 a1 a2 1) p57 p58 p54 = gZ a0 a1 a2 1 (p57.set r39.1.toNat p54) (p58 ++ [p54]):=by
     unfold dU; rw [← hw,Ã hq',Â ⟨hw2,hin⟩]
    rw [Â (by simp [hin])]
    rw [aSe a0 a1 a2 p16 p54 p55 p56 p57 p58 r3 r39 x1 x15 x37 x53 ha hp hl hn hin hw0 hw]
    simp only [À]
    rw [hpop]
    simp only [À,htake]
    rw [hres]
    simp only [À]
    rw [hR]
theorem aSo (a0:aB) (a1 a2 p16:Int) (r3 r39:Int × Bool) (x1 x15 x37 x53:Int) (p55 p56:Option aA) (p57 p58:List Int) (ha:qU a0) (hp:CA a0 p58 2) (hl:p57.length = 5) (hw:r39 = dJ a0 a2 (bW p58)) (hlast:x37 = bW p58) (hw1:r39.1 ≠ 0) (hcu:x53 = el p57 r39.1.toNat) :
  sV a0 a1 a2 p16 r3 r39 x1 x15 x37 x53 0 p55 p56 p57 p58 = some ((fun (bb:Option aA × Option aA)=>(bb.1,bb.2,p57,p58)) (rB (p55,p56) ((List.range a0.Orders.length).flatMap fun (k:Nat)=>if el p57 r39.1.toNat ≠ -1 ∧ el p57 r39.1.toNat ≠ (k:Int) then [] else dU a0 a1 a2 (gZ a0 a1 a2 1) p57 p58 (k:Int)))):=by
 have hla:=hp.last
 have hw0:0 <= r39.1 ∧ r39.1 < 5:=by rw [hw]; exact ha.by_ _ (by omega) _
 have hc:=PY (step:=fun (s:Int × Option aA × Option aA × List Int × List Int)=>gP a0 a1 a2 p16 r3 r39 x1 x15 x37 x53 s.1 s.2.1 s.2.2.1 s.2.2.2.1 s.2.2.2.2) (fun k (bb:Option aA × Option aA)=>((k:Int),bb.1,bb.2,p57,p58)) a0.Orders.length (fun k bb=>rB bb ((fun (k:Nat)=>if el p57 r39.1.toNat ≠ -1 ∧ el p57 r39.1.toNat ≠ (k:Int) then [] else dU a0 a1 a2 (gZ a0 a1 a2 1) p57 p58 (k:Int)) k)) (fun bb=>(bb.1,bb.2,p57,p58)) (by
  intro k bb hk
  have hfew:=ha.few
  simp only [gP,tN hk,Ë,b5 (show k < 9223372036854775807 by omega)]
  by_cases h1:x53 = -1
  ·have hR:=aFj a0 a1 a2 p16 (k:Int) bb.1 bb.2 p57 p58 r3 r39 x1 x15 x37 x53 ha hp hl hw hlast ⟨by omega,by omega⟩ (.inl ⟨h1,by rw [← hcu]; exact h1⟩) hw0
   rw [Ã (by simp [h1]),hR]
   rw [Ã (fun q=>q.1 (by rw [← hcu]; exact h1))]
   rfl
  ·rw [Â (by simp [h1]),R7 _ _ _ hw0.1 (by omega)]
   by_cases h2:el p57 r39.1.toNat = (k:Int)
   ·have hR:=aFj a0 a1 a2 p16 (k:Int) bb.1 bb.2 p57 p58 r3 r39 x1 x15 x37 x53 ha hp hl hw hlast ⟨by omega,by omega⟩ (.inr ⟨h1,h2⟩) hw0
    rw [Ã (by simp [h2]),hR]
    rw [Ã (fun q=>q.2 h2)]
    rfl
   ·rw [Â (by simp [h2]),Â ⟨by rw [← hcu]; exact h1,h2⟩]
    rfl) (by
  intro bb
  simp only [gP,wR,È]) (p55,p56)
 rw [GV (p55,p56)] at hc
 exact hc
theorem aRv (a0:aB) (a1 a2 p16:Int) (p17 p18:Option aA) (p19 p20:List Int) (r3:Int × Bool) (x1 x15:Int) (ha:qU a0) (hp:CA a0 p20 1) (hl:p19.length = 5) (hn:0 <= p16 ∧ p16 < (a0.Orders.length:Int)) (hin:p16 ∉ p20) (hw0:0 <= r3.1 ∧ r3.1 < 5) (hw:r3 = dJ a0 a2 (bW p20)) :
  nW a0 a1 a2 p16 p17 p18 p19 p20 r3 x1 x15 = some ((rB (p17,p18) (gZ a0 a1 a2 2 (p19.set r3.1.toNat p16) (p20 ++ [p16]))).1,(rB (p17,p18) (gZ a0 a1 a2 2 (p19.set r3.1.toNat p16) (p20 ++ [p16]))).2,p19.set r3.1.toNat p16,p20 ++ [p16]):=by
 have hq:=hp.push hn.1 hn.2 hin
 have hL:=hp.len
 have hord:=(ha.cs p16.toNat (by omega))
 unfold nW
 rw [AP _ _ (by simp) (by simp <;> omega),hU,xT _ _ hn.1 hn.2]
 simp only [À]
 rw [M2 _ _ (by omega)]
 simp only [À]
 have hw2:PI (el a0.Orders p16.toNat).Choices a2 = dJ a0 a2 p16:=rfl
 have hby:=ha.by_ p16.toNat (by omega) a2
 rw [hw2] at hby ⊢
 have hS:gZ a0 a1 a2 2 (p19.set r3.1.toNat p16) (p20 ++ [p16]) = if (dJ a0 a2 p16).1 = 0 then lC a0 a1 a2 false (p19.set r3.1.toNat p16) (p20 ++ [p16]) else (List.range a0.Orders.length).flatMap fun (k:Nat)=>if el (p19.set r3.1.toNat p16) (dJ a0 a2 p16).1.toNat ≠ -1 ∧ el (p19.set r3.1.toNat p16) (dJ a0 a2 p16).1.toNat ≠ (k:Int) then [] else dU a0 a1 a2 (gZ a0 a1 a2 1) (p19.set r3.1.toNat p16) (p20 ++ [p16]) (k:Int):=by
  rw [gZ,hU]
 rw [hS]
 by_cases h0:(dJ a0 a2 p16).1 = 0
 ·rw [Â (by simp [h0]),Â h0]
  rw [sB (p19.set r3.1.toNat p16) (by simp <;> omega),sB (p20 ++ [p16]) (by simp <;> omega)]
  simp only [À]
  rw [AP _ _ (by simp) (by simp <;> omega),hU,xT _ _ hn.1 hn.2]
  simp only [À]
  rw [t8 _ _ (by omega)]
  simp only [À,lC,hU,Æ,È]
  cases hr:j6 (el a0.Orders p16.toNat) a2 with
  | true=>rfl
  | false =>
   simp only [Æ,È]
   rw [aMg _ _ _ _ _ _ _ _ _ _ _ _ _ (by simp <;> omega)]
   simp only [À,S8]
   cases p17 with
   | none=>rfl
   | some x =>
    simp only [Option.isNone_some,Æ,È,À,A0 (aA.mk 0 a1 a2 ((p19.set r3.1.toNat p16).map oB) (p20 ++ [p16])) x (by simp <;> omega) (by simp <;> omega),DH]
    cases VO (aA.mk 0 a1 a2 ((p19.set r3.1.toNat p16).map oB) (p20 ++ [p16])) x <;> rfl
 ·rw [Ã (by simp [h0]),Ã h0]
  rw [R7 _ _ _ hby.1 (by simp <;> omega)]
  rw [aSo a0 a1 a2 p16 r3 (dJ a0 a2 p16) x1 x15 p16 (el (p19.set r3.1.toNat p16) (dJ a0 a2 p16).1.toNat) p17 p18 (p19.set r3.1.toNat p16) (p20 ++ [p16]) ha hq (by simp <;> omega) (by rw [hU]) (by rw [hU]) h0 rfl]
  rfl
theorem aE8 (a0:aB) (a1 a2 p16:Int) (p17 p18:Option aA) (p19 p20:List Int) (r3:Int × Bool) (x1 x15:Int) (ha:qU a0) (hp:CA a0 p20 1) (hl:p19.length = 5) (hw:r3 = dJ a0 a2 (bW p20)) (hlast:x1 = bW p20) (hn:0 <= p16 ∧ p16 < (a0.Orders.length:Int)) (hx:(x15 = -1 ∧ el p19 r3.1.toNat = -1) ∨ (x15 ≠ -1 ∧ el p19 r3.1.toNat = p16)) (hw0:0 <= r3.1 ∧ r3.1 < 5) :
  lI a0 a1 a2 p16 p17 p18 p19 p20 r3 x1 x15 = some ((rB (p17,p18) (dU a0 a1 a2 (gZ a0 a1 a2 2) p19 p20 p16)).1,(rB (p17,p18) (dU a0 a1 a2 (gZ a0 a1 a2 2) p19 p20 p16)).2,p19,p20):=by
 have hL:=hp.len
 have hla:=hp.last
 have hres:∀ (b c:Option aA) (p:List Int),dG a0 a1 a2 p16 r3 x1 x15 b c (p19.set r3.1.toNat p16) p = some p19:=by
  intro b c p
  unfold dG
  rcases hx with ⟨e1,e2⟩ | ⟨e1,e2⟩
  ·rw [Â (aR5 _ e1),R7 _ _ _ hw0.1 (by simp <;> omega),List.set_set,← e2,QD]
  ·rw [Ã (aSc _ e1),← e2,QD]
 have hpop:∀ (b c:Option aA) (pp:List Int),jV a0 a1 a2 p16 r3 x1 x15 b c pp (p20 ++ [p16]) = some ():=by
  intro b c pp
  unfold jV
  rw [aG8 _ _ (by omega),Â ⟨by omega,by simp⟩]
 have htake:(p20 ++ [p16]).take (IntKind.wrap .i64 (((p20 ++ [p16]).length:Int) - 1)).toNat = p20:=by
  rw [aG8 _ _ (by omega)]; simp
 unfold lI
 rw [R7 _ _ _ hw0.1 (by omega)]
 by_cases hq:p16 = x1
 ·have hR:dU a0 a1 a2 (gZ a0 a1 a2 2) p19 p20 p16 = lC a0 a1 a2 false (p19.set r3.1.toNat p16) p20:=by
   unfold dU; rw [← hw,Â (hq.trans hlast)]
  rw [hR,Â (by simp [hq])]
  rw [sB (p19.set r3.1.toNat p16) (by simp <;> omega),sB p20 (by omega)]
  simp only [À]
  rw [AP _ _ (by omega) (by omega),xT _ _ hla.1 hla.2.1]
  simp only [À]
  rw [t8 _ _ (by have:=(ha.cs (bW p20).toNat (by omega)).2; omega)]
  simp only [À,lC,Æ,È]
  cases hr:j6 (el a0.Orders (bW p20).toNat) a2 with
  | true=>simp only [Ë,hres,À,UB]
  | false =>
   simp only [Æ,È]
   rw [aLm _ _ _ _ _ _ _ _ _ _ _ _ _ (by simp <;> omega)]
   simp only [À,S8]
   cases p17 with
   | none=>simp only [Option.isNone_none,Ë,hres,À,DH]
   | some x =>
    simp only [Option.isNone_some,Æ,È,À,A0 (aA.mk 0 a1 a2 ((p19.set r3.1.toNat p16).map oB) p20) x (by simp <;> omega) (by simp <;> omega),DH]
    cases VO (aA.mk 0 a1 a2 ((p19.set r3.1.toNat p16).map oB) p20) x <;> simp only [Æ,È,Ë,hres,À]
 ·have hq' : p16 ≠ bW p20:=fun e=>hq (e.trans hlast.symm)
  rw [Ã (by simp [hq])]
  rw [AH _ _ (by omega)]
  simp only [À]
  rw [Â (by omega)]
  have hE:=aTV a0 a1 a2 p16 p17 p18 p19 p20 r3 x1 x15 ha hn hl (by omega)
  cases hw2:r3.2 with
  | false =>
   have hR:dU a0 a1 a2 (gZ a0 a1 a2 2) p19 p20 p16 = lC a0 a1 a2 (r3.2 && !qC a0 p16) (p19.set r3.1.toNat p16) (p20 ++ [p16]):=by
    unfold dU; rw [← hw,Ã hq',Ã (by simp [hw2])]
   rw [← hR] at hE
   simp only [Æ,È,hE,À,hpop,hres,htake]
  | true =>
   simp only [Ë]
   by_cases hin:p16 ∈ p20
   ·have hR:dU a0 a1 a2 (gZ a0 a1 a2 2) p19 p20 p16 = lC a0 a1 a2 (r3.2 && !qC a0 p16) (p19.set r3.1.toNat p16) (p20 ++ [p16]):=by
     unfold dU; rw [← hw,Ã hq',Ã (by simp [hin])]
    rw [← hR] at hE
    rw [Ã (by simp [hin])]
    simp only [hE,À,hpop,hres,htake]
   ·have hR:dU a0 a1 a2 (gZ a0 a1 a2 2) p19 p20 p16 = gZ a0 a1 a2 2 (p19.set r3.1.toNat p16) (p20 ++ [p16]):=by
     unfold dU; rw [← hw,Ã hq',Â ⟨hw2,hin⟩]
    rw [Â (by simp [hin])]
    rw [aRv a0 a1 a2 p16 p17 p18 p19 p20 r3 x1 x15 ha hp hl hn hin hw0 hw]
    simp only [À]
    rw [hpop]
    simp only [À,htake]
    rw [hres]
    simp only [À]
    rw [hR]
theorem aSb (a0:aB) (a1 a2:Int) (r3:Int × Bool) (x1 x15:Int) (p17 p18:Option aA) (p19 p20:List Int) (ha:qU a0) (hp:CA a0 p20 1) (hl:p19.length = 5) (hw:r3 = dJ a0 a2 (bW p20)) (hlast:x1 = bW p20) (hw1:r3.1 ≠ 0) (hcu:x15 = el p19 r3.1.toNat) :
  nP a0 a1 a2 r3 x1 x15 0 p17 p18 p19 p20 = some ((fun (bb:Option aA × Option aA)=>(bb.1,bb.2)) (rB (p17,p18) ((List.range a0.Orders.length).flatMap fun (k:Nat)=>if el p19 r3.1.toNat ≠ -1 ∧ el p19 r3.1.toNat ≠ (k:Int) then [] else dU a0 a1 a2 (gZ a0 a1 a2 2) p19 p20 (k:Int)))):=by
 have hla:=hp.last
 have hw0:0 <= r3.1 ∧ r3.1 < 5:=by rw [hw]; exact ha.by_ _ (by omega) _
 have hc:=PY (step:=fun (s:Int × Option aA × Option aA × List Int × List Int)=>gT a0 a1 a2 r3 x1 x15 s.1 s.2.1 s.2.2.1 s.2.2.2.1 s.2.2.2.2) (fun k (bb:Option aA × Option aA)=>((k:Int),bb.1,bb.2,p19,p20)) a0.Orders.length (fun k bb=>rB bb ((fun (k:Nat)=>if el p19 r3.1.toNat ≠ -1 ∧ el p19 r3.1.toNat ≠ (k:Int) then [] else dU a0 a1 a2 (gZ a0 a1 a2 2) p19 p20 (k:Int)) k)) (fun bb=>(bb.1,bb.2)) (by
  intro k bb hk
  have hfew:=ha.few
  simp only [gT,tN hk,Ë,b5 (show k < 9223372036854775807 by omega)]
  by_cases h1:x15 = -1
  ·have hR:=aE8 a0 a1 a2 (k:Int) bb.1 bb.2 p19 p20 r3 x1 x15 ha hp hl hw hlast ⟨by omega,by omega⟩ (.inl ⟨h1,by rw [← hcu]; exact h1⟩) hw0
   rw [Ã (by simp [h1]),hR]
   rw [Ã (fun q=>q.1 (by rw [← hcu]; exact h1))]
   rfl
  ·rw [Â (by simp [h1]),R7 _ _ _ hw0.1 (by omega)]
   by_cases h2:el p19 r3.1.toNat = (k:Int)
   ·have hR:=aE8 a0 a1 a2 (k:Int) bb.1 bb.2 p19 p20 r3 x1 x15 ha hp hl hw hlast ⟨by omega,by omega⟩ (.inr ⟨h1,h2⟩) hw0
    rw [Ã (by simp [h2]),hR]
    rw [Ã (fun q=>q.2 h2)]
    rfl
   ·rw [Â (by simp [h2]),Â ⟨by rw [← hcu]; exact h1,h2⟩]
    rfl) (by
  intro bb
  simp only [gT,wR,È]) (p17,p18)
 rw [GV (p17,p18)] at hc
 exact hc
def aMO (r:aB) (forum ask:Int):List aA:=gZ r forum ask 3 [forum,-1,-1,-1,-1] [forum]
theorem aBM (r:aB) (forum ask:Int) (ha:qU r) (hf:0 <= forum ∧ forum < (r.Orders.length:Int)):rV r forum ask = some ⟨(rB (none,none) (aMO r forum ask)).1,(rB (none,none) (aMO r forum ask)).2⟩:=by
 have hp:CA r [forum] 1:=⟨rfl,by omega,by simp,fun x hx=>by rcases í.1 hx with rfl; exact hf⟩
 have hord:=ha.cs forum.toNat (by omega)
 have hby:=ha.by_ forum.toNat (by omega) ask
 have hla:bW [forum] = forum:=rfl
 unfold rV
 rw [show (1:Nat) = [forum].length from rfl,AP _ _ (by simp) (by simp),hla,xT _ _ hf.1 hf.2]
 simp only [À]
 rw [M2 _ _ (by omega)]
 simp only [À]
 have hw2:PI (el r.Orders forum.toNat).Choices ask = dJ r ask forum:=rfl
 rw [hw2] at hby ⊢
 unfold aMO
 rw [gZ,hla]
 by_cases h0:(dJ r ask forum).1 = 0
 ·simp only [h0,Ë,beq_self_eq_true]
  rw [sB [forum,-1,-1,-1,-1] (by simp),sB [forum] (by simp)]
  simp only [À]
  rw [AP _ _ (by simp) (by simp),hla,xT _ _ hf.1 hf.2]
  simp only [À]
  rw [t8 _ _ (by omega)]
  simp only [À,lC,hla,Æ,È]
  cases hr:j6 (el r.Orders forum.toNat) ask with
  | true=>rfl
  | false =>
   simp only [Æ,È]
   rw [aJq _ _ _ _ (by simp)]
   rfl
 ·simp only [Ã h0]
  rw [Ã (by simp [h0]),show (5:Nat) = [forum,-1,-1,-1,-1].length from rfl,R7 _ _ _ hby.1 (by simp; omega)]
  rw [aSb r forum ask (dJ r ask forum) forum (el [forum,-1,-1,-1,-1] (dJ r ask forum).1.toNat) none none [forum,-1,-1,-1,-1] [forum] ha hp rfl (by rw [hla]) (by rw [hla]) h0 rfl]
  rfl
end Go.Proofs.YtoefdnkjcfoccaaDoor
