/- search of package audit: the rounds of its loops, and search. Written by a program (paudit.py). -/
import Derived.Test.YtjjcaapdaldedaaPAudit2
set_option linter.unusedVariables false
set_option linter.unusedSimpArgs false
set_option maxHeartbeats 1000000
namespace Go.Proofs.Ytjjcaapdaldedaa
open Go.RowKit Vm
theorem aFF (x:Int) (h:x = -1):(x == (-1)) = true:=by simp [h]
theorem aGC (x:Int) (h:x ≠ -1):¬ (x == (-1)) = true:=by simp [h]
theorem aA4 (a1 a2:Int) (r4 r5:(List Int)) (h:r4.length < 1000):nM a1 a2 r4 r5 0 r4 = some (r4.map mG):=by
 unfold nM
 exact vF r4 _ (by omega) (fun i xs=>rfl)
theorem aB0 (a0:aB) (a1 a2 p16:Int) (p17 p18:Option aA) (p19 p20:List Int) (r3:Int × Bool) (r40 r41:(List Int)) (x1 x15:Int) (h:r40.length < 1000):nH a0 a1 a2 p16 p17 p18 p19 p20 r3 r40 r41 x1 x15 0 r40 = some (r40.map mG):=by
 unfold nH
 exact vF r40 _ (by omega) (fun i xs=>rfl)
theorem aCp (a0:aB) (a1 a2 p16 p54:Int) (p55 p56:Option aA) (p57 p58:List Int) (r3 r39:Int × Bool) (r78 r79:(List Int)) (x1 x15 x37 x53:Int) (h:r78.length < 1000):nW a0 a1 a2 p16 p54 p55 p56 p57 p58 r3 r39 r78 r79 x1 x15 x37 x53 0 r78 = some (r78.map mG):=by
 unfold nW
 exact vF r78 _ (by omega) (fun i xs=>rfl)
theorem U6 (a0:aB) (a1 a2 p16 p54 p92:Int) (p93 p94:Option aA) (p95 p96:List Int) (r3 r39 r77:Int × Bool) (x1 x15 x37 x53 x75 x91:Int) (ha:lY a0) (hp:wA a0 p96 3) (hl:p95.length = 5) (hw:r77 = fT a0 a2 (eI p96)) (hlast:x75 = eI p96) (hn:0 <= p92 ∧ p92 < (a0.Orders.length:Int)) (hx:(x91 = -1 ∧ el p95 r77.1.toNat = -1) ∨ (x91 ≠ -1 ∧ el p95 r77.1.toNat = p92)) (hw0:0 <= r77.1 ∧ r77.1 < 5) :
  kO a0 a1 a2 p16 p54 p92 p93 p94 p95 p96 r3 r39 r77 x1 x15 x37 x53 x75 x91 = some ((pE (p93,p94) (fX a0 a1 a2 (iH a0 a1 a2 0) p95 p96 p92)).1,(pE (p93,p94) (fX a0 a1 a2 (iH a0 a1 a2 0) p95 p96 p92)).2,p95,p96):=by
 have hL:=hp.len
 have hla:=hp.last
 have hres:∀ (b c:Option aA) (p:List Int),fM a0 a1 a2 p16 p54 p92 p95 r3 r39 r77 x1 x15 x37 x53 x75 x91 b c p = some p95:=by
  intro b c p
  unfold fM
  rcases hx with ⟨e1,e2⟩ | ⟨e1,e2⟩
  ·rw [if_pos (aFF _ e1),I1 _ _ _ hw0.1 (by simp <;> omega),List.set_set,← e2,HD]
  ·rw [if_neg (aGC _ e1),← e2,HD]
 have hpop:∀ (b c:Option aA),kL a0 a1 a2 p16 p54 p92 p95 p96 r3 r39 r77 x1 x15 x37 x53 x75 x91 b c = some ():=by
  intro b c
  unfold kL
  rw [WT _ _ (by omega),if_pos ⟨by omega,by simp⟩]
 have htake:(p96 ++ [p92]).take (IntKind.wrap .i64 (((p96 ++ [p92]).length:Int) - 1)).toNat = p96:=by
  rw [WT _ _ (by omega)]; simp
 unfold kO
 rw [I1 _ _ _ hw0.1 (by omega)]
 by_cases hq:p92 = x75
 ·have hR:fX a0 a1 a2 (iH a0 a1 a2 0) p95 p96 p92 = kB a0 a1 a2 false (p95.set r77.1.toNat p92) p96:=by
   unfold fX; rw [← hw,if_pos (hq.trans hlast)]
  rw [hR,if_pos (by simp [hq])]
  rw [pI (p95.set r77.1.toNat p92) (by simp <;> omega),pI p96 (by omega)]
  simp only [Option.bind_some]
  rw [AY _ _ (by omega) (by omega),rT _ _ hla.1 hla.2.1]
  simp only [Option.bind_some]
  rw [o9 _ _ (by have:=(ha.cs (eI p96).toNat (by omega)).2; omega)]
  simp only [Option.bind_some,kB,Bool.false_eq_true,if_false]
  cases hr:lP (el a0.Orders (eI p96).toNat) a2 with
  | true=>simp only [if_true,hres,Option.bind_some,KD]
  | false =>
   simp only [Bool.false_eq_true,if_false]
   rw [Z4 _ _ _ _ _ _ _ _ _ _ _ _ _ _ _ _ _ _ _ _ _ (by simp <;> omega)]
   simp only [Option.bind_some,JT]
   cases p93 with
   | none=>simp only [Option.isNone_none,if_true,hres,Option.bind_some,yX]
   | some x =>
    simp only [Option.isNone_some,Bool.false_eq_true,if_false,Option.bind_some,uD (aA.mk 0 a1 a2 ((p95.set r77.1.toNat p92).map mG) p96) x (by simp <;> omega) (by simp <;> omega),yX]
    cases OB (aA.mk 0 a1 a2 ((p95.set r77.1.toNat p92).map mG) p96) x <;> simp only [Bool.false_eq_true,if_false,if_true,hres,Option.bind_some]
 ·have hq' : p92 ≠ eI p96:=fun e=>hq (e.trans hlast.symm)
  rw [if_neg (by simp [hq])]
  rw [wC _ _ (by omega)]
  simp only [Option.bind_some]
  rw [if_pos (by omega)]
  have hE:=aHZ a0 a1 a2 p16 p54 p92 p93 p94 p95 p96 r3 r39 r77 x1 x15 x37 x53 x75 x91 ha hn hl (by omega)
  cases hw2:r77.2 with
  | false =>
   have hR:fX a0 a1 a2 (iH a0 a1 a2 0) p95 p96 p92 = kB a0 a1 a2 (r77.2 && !tY a0 p92) (p95.set r77.1.toNat p92) (p96 ++ [p92]):=by
    unfold fX; rw [← hw,if_neg hq',if_neg (by simp [hw2])]
   rw [← hR] at hE
   simp only [Bool.false_eq_true,if_false,hE,Option.bind_some,hpop,hres,htake]
  | true =>
   simp only [if_true]
   by_cases hin:p92 ∈ p96
   ·have hR:fX a0 a1 a2 (iH a0 a1 a2 0) p95 p96 p92 = kB a0 a1 a2 (r77.2 && !tY a0 p92) (p95.set r77.1.toNat p92) (p96 ++ [p92]):=by
     unfold fX; rw [← hw,if_neg hq',if_neg (by simp [hin])]
    rw [← hR] at hE
    rw [if_neg (by simp [hin])]
    simp only [hE,Option.bind_some,hpop,hres,htake]
   ·have hR:fX a0 a1 a2 (iH a0 a1 a2 0) p95 p96 p92 = iH a0 a1 a2 0 (p95.set r77.1.toNat p92) (p96 ++ [p92]):=by
     unfold fX; rw [← hw,if_neg hq',if_pos ⟨hw2,hin⟩]
    rw [if_pos (by simp [hin])]
    exfalso
    have h4:=(hp.push hn.1 hn.2 hin)
    have:=xJ a0.Orders.length _ h4.nd h4.ins
    have:=h4.len
    have:=ha.few
    omega
theorem aGM (a0:aB) (a1 a2 p16 p54:Int) (r3 r39 r77:Int × Bool) (x1 x15 x37 x53 x75 x91:Int) (p93 p94:Option aA) (p95 p96:List Int) (ha:lY a0) (hp:wA a0 p96 3) (hl:p95.length = 5) (hw:r77 = fT a0 a2 (eI p96)) (hlast:x75 = eI p96) (hw1:r77.1 ≠ 0) (hcu:x91 = el p95 r77.1.toNat) :
  pM a0 a1 a2 p16 p54 r3 r39 r77 x1 x15 x37 x53 x75 x91 0 p93 p94 p95 p96 = some ((fun (bb:Option aA × Option aA)=>(bb.1,bb.2,p95,p96)) (pE (p93,p94) ((List.range a0.Orders.length).flatMap fun (k:Nat)=>if el p95 r77.1.toNat ≠ -1 ∧ el p95 r77.1.toNat ≠ (k:Int) then [] else fX a0 a1 a2 (iH a0 a1 a2 0) p95 p96 (k:Int)))):=by
 have hla:=hp.last
 have hw0:0 <= r77.1 ∧ r77.1 < 5:=by rw [hw]; exact ha.by_ _ (by omega) _
 have hc:=G8 (step:=fun (s:Int × Option aA × Option aA × List Int × List Int)=>g9 a0 a1 a2 p16 p54 r3 r39 r77 x1 x15 x37 x53 x75 x91 s.1 s.2.1 s.2.2.1 s.2.2.2.1 s.2.2.2.2) (fun k (bb:Option aA × Option aA)=>((k:Int),bb.1,bb.2,p95,p96)) a0.Orders.length (fun k bb=>pE bb ((fun (k:Nat)=>if el p95 r77.1.toNat ≠ -1 ∧ el p95 r77.1.toNat ≠ (k:Int) then [] else fX a0 a1 a2 (iH a0 a1 a2 0) p95 p96 (k:Int)) k)) (fun bb=>(bb.1,bb.2,p95,p96)) (by
  intro k bb hk
  have hfew:=ha.few
  simp only [g9,rU hk,if_true,eO (show k < 9223372036854775807 by omega)]
  by_cases h1:x91 = -1
  ·have hR:=U6 a0 a1 a2 p16 p54 (k:Int) bb.1 bb.2 p95 p96 r3 r39 r77 x1 x15 x37 x53 x75 x91 ha hp hl hw hlast ⟨by omega,by omega⟩ (.inl ⟨h1,by rw [← hcu]; exact h1⟩) hw0
   rw [if_neg (by simp [h1]),hR]
   rw [if_neg (fun q=>q.1 (by rw [← hcu]; exact h1))]
   rfl
  ·rw [if_pos (by simp [h1]),I1 _ _ _ hw0.1 (by omega)]
   by_cases h2:el p95 r77.1.toNat = (k:Int)
   ·have hR:=U6 a0 a1 a2 p16 p54 (k:Int) bb.1 bb.2 p95 p96 r3 r39 r77 x1 x15 x37 x53 x75 x91 ha hp hl hw hlast ⟨by omega,by omega⟩ (.inr ⟨h1,h2⟩) hw0
    rw [if_neg (by simp [h2]),hR]
    rw [if_neg (fun q=>q.2 h2)]
    rfl
   ·rw [if_pos (by simp [h2]),if_pos ⟨by rw [← hcu]; exact h1,h2⟩]
    rfl) (by
  intro bb
  simp only [g9,tX,if_false]) (p93,p94)
 rw [BF (p93,p94)] at hc
 exact hc
theorem aFK (a0:aB) (a1 a2 p16 p54:Int) (p55 p56:Option aA) (p57 p58:List Int) (r3 r39:Int × Bool) (x1 x15 x37 x53:Int) (ha:lY a0) (hp:wA a0 p58 2) (hl:p57.length = 5) (hn:0 <= p54 ∧ p54 < (a0.Orders.length:Int)) (hin:p54 ∉ p58) (hw0:0 <= r39.1 ∧ r39.1 < 5) (hw:r39 = fT a0 a2 (eI p58)) :
  mK a0 a1 a2 p16 p54 p55 p56 p57 p58 r3 r39 x1 x15 x37 x53 = some ((pE (p55,p56) (iH a0 a1 a2 1 (p57.set r39.1.toNat p54) (p58 ++ [p54]))).1,(pE (p55,p56) (iH a0 a1 a2 1 (p57.set r39.1.toNat p54) (p58 ++ [p54]))).2,p57.set r39.1.toNat p54,p58 ++ [p54]):=by
 have hq:=hp.push hn.1 hn.2 hin
 have hL:=hp.len
 have hord:=(ha.cs p54.toNat (by omega))
 unfold mK
 rw [AY _ _ (by simp) (by simp <;> omega),gO,rT _ _ hn.1 hn.2]
 simp only [Option.bind_some]
 rw [EX _ _ (by omega)]
 simp only [Option.bind_some]
 have hw2:HE (el a0.Orders p54.toNat).Choices a2 = fT a0 a2 p54:=rfl
 have hby:=ha.by_ p54.toNat (by omega) a2
 rw [hw2] at hby ⊢
 have hS:iH a0 a1 a2 1 (p57.set r39.1.toNat p54) (p58 ++ [p54]) = if (fT a0 a2 p54).1 = 0 then kB a0 a1 a2 false (p57.set r39.1.toNat p54) (p58 ++ [p54]) else (List.range a0.Orders.length).flatMap fun (k:Nat)=>if el (p57.set r39.1.toNat p54) (fT a0 a2 p54).1.toNat ≠ -1 ∧ el (p57.set r39.1.toNat p54) (fT a0 a2 p54).1.toNat ≠ (k:Int) then [] else fX a0 a1 a2 (iH a0 a1 a2 0) (p57.set r39.1.toNat p54) (p58 ++ [p54]) (k:Int):=by
  rw [iH,gO]
 rw [hS]
 by_cases h0:(fT a0 a2 p54).1 = 0
 ·rw [if_pos (by simp [h0]),if_pos h0]
  rw [pI (p57.set r39.1.toNat p54) (by simp <;> omega),pI (p58 ++ [p54]) (by simp <;> omega)]
  simp only [Option.bind_some]
  rw [AY _ _ (by simp) (by simp <;> omega),gO,rT _ _ hn.1 hn.2]
  simp only [Option.bind_some]
  rw [o9 _ _ (by omega)]
  simp only [Option.bind_some,kB,gO,Bool.false_eq_true,if_false]
  cases hr:lP (el a0.Orders p54.toNat) a2 with
  | true=>rfl
  | false =>
   simp only [Bool.false_eq_true,if_false]
   rw [aCp _ _ _ _ _ _ _ _ _ _ _ _ _ _ _ _ _ (by simp <;> omega)]
   simp only [Option.bind_some,JT]
   cases p55 with
   | none=>rfl
   | some x =>
    simp only [Option.isNone_some,Bool.false_eq_true,if_false,Option.bind_some,uD (aA.mk 0 a1 a2 ((p57.set r39.1.toNat p54).map mG) (p58 ++ [p54])) x (by simp <;> omega) (by simp <;> omega),yX]
    cases OB (aA.mk 0 a1 a2 ((p57.set r39.1.toNat p54).map mG) (p58 ++ [p54])) x <;> rfl
 ·rw [if_neg (by simp [h0]),if_neg h0]
  rw [I1 _ _ _ hby.1 (by simp <;> omega)]
  rw [aGM a0 a1 a2 p16 p54 r3 r39 (fT a0 a2 p54) x1 x15 x37 x53 p54 (el (p57.set r39.1.toNat p54) (fT a0 a2 p54).1.toNat) p55 p56 (p57.set r39.1.toNat p54) (p58 ++ [p54]) ha hq (by simp <;> omega) (by rw [gO]) (by rw [gO]) h0 rfl]
  rfl
theorem UG (a0:aB) (a1 a2 p16 p54:Int) (p55 p56:Option aA) (p57 p58:List Int) (r3 r39:Int × Bool) (x1 x15 x37 x53:Int) (ha:lY a0) (hp:wA a0 p58 2) (hl:p57.length = 5) (hw:r39 = fT a0 a2 (eI p58)) (hlast:x37 = eI p58) (hn:0 <= p54 ∧ p54 < (a0.Orders.length:Int)) (hx:(x53 = -1 ∧ el p57 r39.1.toNat = -1) ∨ (x53 ≠ -1 ∧ el p57 r39.1.toNat = p54)) (hw0:0 <= r39.1 ∧ r39.1 < 5) :
  kK a0 a1 a2 p16 p54 p55 p56 p57 p58 r3 r39 x1 x15 x37 x53 = some ((pE (p55,p56) (fX a0 a1 a2 (iH a0 a1 a2 1) p57 p58 p54)).1,(pE (p55,p56) (fX a0 a1 a2 (iH a0 a1 a2 1) p57 p58 p54)).2,p57,p58):=by
 have hL:=hp.len
 have hla:=hp.last
 have hres:∀ (b c:Option aA) (p:List Int),fC a0 a1 a2 p16 p54 r3 r39 x1 x15 x37 x53 b c (p57.set r39.1.toNat p54) p = some p57:=by
  intro b c p
  unfold fC
  rcases hx with ⟨e1,e2⟩ | ⟨e1,e2⟩
  ·rw [if_pos (aFF _ e1),I1 _ _ _ hw0.1 (by simp <;> omega),List.set_set,← e2,HD]
  ·rw [if_neg (aGC _ e1),← e2,HD]
 have hpop:∀ (b c:Option aA) (pp:List Int),jB a0 a1 a2 p16 p54 r3 r39 x1 x15 x37 x53 b c pp (p58 ++ [p54]) = some ():=by
  intro b c pp
  unfold jB
  rw [WT _ _ (by omega),if_pos ⟨by omega,by simp⟩]
 have htake:(p58 ++ [p54]).take (IntKind.wrap .i64 (((p58 ++ [p54]).length:Int) - 1)).toNat = p58:=by
  rw [WT _ _ (by omega)]; simp
 unfold kK
 rw [I1 _ _ _ hw0.1 (by omega)]
 by_cases hq:p54 = x37
 ·have hR:fX a0 a1 a2 (iH a0 a1 a2 1) p57 p58 p54 = kB a0 a1 a2 false (p57.set r39.1.toNat p54) p58:=by
   unfold fX; rw [← hw,if_pos (hq.trans hlast)]
  rw [hR,if_pos (by simp [hq])]
  rw [pI (p57.set r39.1.toNat p54) (by simp <;> omega),pI p58 (by omega)]
  simp only [Option.bind_some]
  rw [AY _ _ (by omega) (by omega),rT _ _ hla.1 hla.2.1]
  simp only [Option.bind_some]
  rw [o9 _ _ (by have:=(ha.cs (eI p58).toNat (by omega)).2; omega)]
  simp only [Option.bind_some,kB,Bool.false_eq_true,if_false]
  cases hr:lP (el a0.Orders (eI p58).toNat) a2 with
  | true=>simp only [if_true,hres,Option.bind_some,KD]
  | false =>
   simp only [Bool.false_eq_true,if_false]
   rw [ZA _ _ _ _ _ _ _ _ _ _ _ _ _ _ _ _ _ (by simp <;> omega)]
   simp only [Option.bind_some,JT]
   cases p55 with
   | none=>simp only [Option.isNone_none,if_true,hres,Option.bind_some,yX]
   | some x =>
    simp only [Option.isNone_some,Bool.false_eq_true,if_false,Option.bind_some,uD (aA.mk 0 a1 a2 ((p57.set r39.1.toNat p54).map mG) p58) x (by simp <;> omega) (by simp <;> omega),yX]
    cases OB (aA.mk 0 a1 a2 ((p57.set r39.1.toNat p54).map mG) p58) x <;> simp only [Bool.false_eq_true,if_false,if_true,hres,Option.bind_some]
 ·have hq' : p54 ≠ eI p58:=fun e=>hq (e.trans hlast.symm)
  rw [if_neg (by simp [hq])]
  rw [wC _ _ (by omega)]
  simp only [Option.bind_some]
  rw [if_pos (by omega)]
  have hE:=aHk a0 a1 a2 p16 p54 p55 p56 p57 p58 r3 r39 x1 x15 x37 x53 ha hn hl (by omega)
  cases hw2:r39.2 with
  | false =>
   have hR:fX a0 a1 a2 (iH a0 a1 a2 1) p57 p58 p54 = kB a0 a1 a2 (r39.2 && !tY a0 p54) (p57.set r39.1.toNat p54) (p58 ++ [p54]):=by
    unfold fX; rw [← hw,if_neg hq',if_neg (by simp [hw2])]
   rw [← hR] at hE
   simp only [Bool.false_eq_true,if_false,hE,Option.bind_some,hpop,hres,htake]
  | true =>
   simp only [if_true]
   by_cases hin:p54 ∈ p58
   ·have hR:fX a0 a1 a2 (iH a0 a1 a2 1) p57 p58 p54 = kB a0 a1 a2 (r39.2 && !tY a0 p54) (p57.set r39.1.toNat p54) (p58 ++ [p54]):=by
     unfold fX; rw [← hw,if_neg hq',if_neg (by simp [hin])]
    rw [← hR] at hE
    rw [if_neg (by simp [hin])]
    simp only [hE,Option.bind_some,hpop,hres,htake]
   ·have hR:fX a0 a1 a2 (iH a0 a1 a2 1) p57 p58 p54 = iH a0 a1 a2 1 (p57.set r39.1.toNat p54) (p58 ++ [p54]):=by
     unfold fX; rw [← hw,if_neg hq',if_pos ⟨hw2,hin⟩]
    rw [if_pos (by simp [hin])]
    rw [aFK a0 a1 a2 p16 p54 p55 p56 p57 p58 r3 r39 x1 x15 x37 x53 ha hp hl hn hin hw0 hw]
    simp only [Option.bind_some]
    rw [hpop]
    simp only [Option.bind_some,htake]
    rw [hres]
    simp only [Option.bind_some]
    rw [hR]
theorem aFy (a0:aB) (a1 a2 p16:Int) (r3 r39:Int × Bool) (x1 x15 x37 x53:Int) (p55 p56:Option aA) (p57 p58:List Int) (ha:lY a0) (hp:wA a0 p58 2) (hl:p57.length = 5) (hw:r39 = fT a0 a2 (eI p58)) (hlast:x37 = eI p58) (hw1:r39.1 ≠ 0) (hcu:x53 = el p57 r39.1.toNat) :
  pY a0 a1 a2 p16 r3 r39 x1 x15 x37 x53 0 p55 p56 p57 p58 = some ((fun (bb:Option aA × Option aA)=>(bb.1,bb.2,p57,p58)) (pE (p55,p56) ((List.range a0.Orders.length).flatMap fun (k:Nat)=>if el p57 r39.1.toNat ≠ -1 ∧ el p57 r39.1.toNat ≠ (k:Int) then [] else fX a0 a1 a2 (iH a0 a1 a2 1) p57 p58 (k:Int)))):=by
 have hla:=hp.last
 have hw0:0 <= r39.1 ∧ r39.1 < 5:=by rw [hw]; exact ha.by_ _ (by omega) _
 have hc:=G8 (step:=fun (s:Int × Option aA × Option aA × List Int × List Int)=>hY a0 a1 a2 p16 r3 r39 x1 x15 x37 x53 s.1 s.2.1 s.2.2.1 s.2.2.2.1 s.2.2.2.2) (fun k (bb:Option aA × Option aA)=>((k:Int),bb.1,bb.2,p57,p58)) a0.Orders.length (fun k bb=>pE bb ((fun (k:Nat)=>if el p57 r39.1.toNat ≠ -1 ∧ el p57 r39.1.toNat ≠ (k:Int) then [] else fX a0 a1 a2 (iH a0 a1 a2 1) p57 p58 (k:Int)) k)) (fun bb=>(bb.1,bb.2,p57,p58)) (by
  intro k bb hk
  have hfew:=ha.few
  simp only [hY,rU hk,if_true,eO (show k < 9223372036854775807 by omega)]
  by_cases h1:x53 = -1
  ·have hR:=UG a0 a1 a2 p16 (k:Int) bb.1 bb.2 p57 p58 r3 r39 x1 x15 x37 x53 ha hp hl hw hlast ⟨by omega,by omega⟩ (.inl ⟨h1,by rw [← hcu]; exact h1⟩) hw0
   rw [if_neg (by simp [h1]),hR]
   rw [if_neg (fun q=>q.1 (by rw [← hcu]; exact h1))]
   rfl
  ·rw [if_pos (by simp [h1]),I1 _ _ _ hw0.1 (by omega)]
   by_cases h2:el p57 r39.1.toNat = (k:Int)
   ·have hR:=UG a0 a1 a2 p16 (k:Int) bb.1 bb.2 p57 p58 r3 r39 x1 x15 x37 x53 ha hp hl hw hlast ⟨by omega,by omega⟩ (.inr ⟨h1,h2⟩) hw0
    rw [if_neg (by simp [h2]),hR]
    rw [if_neg (fun q=>q.2 h2)]
    rfl
   ·rw [if_pos (by simp [h2]),if_pos ⟨by rw [← hcu]; exact h1,h2⟩]
    rfl) (by
  intro bb
  simp only [hY,tX,if_false]) (p55,p56)
 rw [BF (p55,p56)] at hc
 exact hc
theorem aGg (a0:aB) (a1 a2 p16:Int) (p17 p18:Option aA) (p19 p20:List Int) (r3:Int × Bool) (x1 x15:Int) (ha:lY a0) (hp:wA a0 p20 1) (hl:p19.length = 5) (hn:0 <= p16 ∧ p16 < (a0.Orders.length:Int)) (hin:p16 ∉ p20) (hw0:0 <= r3.1 ∧ r3.1 < 5) (hw:r3 = fT a0 a2 (eI p20)) :
  mN a0 a1 a2 p16 p17 p18 p19 p20 r3 x1 x15 = some ((pE (p17,p18) (iH a0 a1 a2 2 (p19.set r3.1.toNat p16) (p20 ++ [p16]))).1,(pE (p17,p18) (iH a0 a1 a2 2 (p19.set r3.1.toNat p16) (p20 ++ [p16]))).2,p19.set r3.1.toNat p16,p20 ++ [p16]):=by
 have hq:=hp.push hn.1 hn.2 hin
 have hL:=hp.len
 have hord:=(ha.cs p16.toNat (by omega))
 unfold mN
 rw [AY _ _ (by simp) (by simp <;> omega),gO,rT _ _ hn.1 hn.2]
 simp only [Option.bind_some]
 rw [EX _ _ (by omega)]
 simp only [Option.bind_some]
 have hw2:HE (el a0.Orders p16.toNat).Choices a2 = fT a0 a2 p16:=rfl
 have hby:=ha.by_ p16.toNat (by omega) a2
 rw [hw2] at hby ⊢
 have hS:iH a0 a1 a2 2 (p19.set r3.1.toNat p16) (p20 ++ [p16]) = if (fT a0 a2 p16).1 = 0 then kB a0 a1 a2 false (p19.set r3.1.toNat p16) (p20 ++ [p16]) else (List.range a0.Orders.length).flatMap fun (k:Nat)=>if el (p19.set r3.1.toNat p16) (fT a0 a2 p16).1.toNat ≠ -1 ∧ el (p19.set r3.1.toNat p16) (fT a0 a2 p16).1.toNat ≠ (k:Int) then [] else fX a0 a1 a2 (iH a0 a1 a2 1) (p19.set r3.1.toNat p16) (p20 ++ [p16]) (k:Int):=by
  rw [iH,gO]
 rw [hS]
 by_cases h0:(fT a0 a2 p16).1 = 0
 ·rw [if_pos (by simp [h0]),if_pos h0]
  rw [pI (p19.set r3.1.toNat p16) (by simp <;> omega),pI (p20 ++ [p16]) (by simp <;> omega)]
  simp only [Option.bind_some]
  rw [AY _ _ (by simp) (by simp <;> omega),gO,rT _ _ hn.1 hn.2]
  simp only [Option.bind_some]
  rw [o9 _ _ (by omega)]
  simp only [Option.bind_some,kB,gO,Bool.false_eq_true,if_false]
  cases hr:lP (el a0.Orders p16.toNat) a2 with
  | true=>rfl
  | false =>
   simp only [Bool.false_eq_true,if_false]
   rw [aB0 _ _ _ _ _ _ _ _ _ _ _ _ _ (by simp <;> omega)]
   simp only [Option.bind_some,JT]
   cases p17 with
   | none=>rfl
   | some x =>
    simp only [Option.isNone_some,Bool.false_eq_true,if_false,Option.bind_some,uD (aA.mk 0 a1 a2 ((p19.set r3.1.toNat p16).map mG) (p20 ++ [p16])) x (by simp <;> omega) (by simp <;> omega),yX]
    cases OB (aA.mk 0 a1 a2 ((p19.set r3.1.toNat p16).map mG) (p20 ++ [p16])) x <;> rfl
 ·rw [if_neg (by simp [h0]),if_neg h0]
  rw [I1 _ _ _ hby.1 (by simp <;> omega)]
  rw [aFy a0 a1 a2 p16 r3 (fT a0 a2 p16) x1 x15 p16 (el (p19.set r3.1.toNat p16) (fT a0 a2 p16).1.toNat) p17 p18 (p19.set r3.1.toNat p16) (p20 ++ [p16]) ha hq (by simp <;> omega) (by rw [gO]) (by rw [gO]) h0 rfl]
  rfl
theorem VG (a0:aB) (a1 a2 p16:Int) (p17 p18:Option aA) (p19 p20:List Int) (r3:Int × Bool) (x1 x15:Int) (ha:lY a0) (hp:wA a0 p20 1) (hl:p19.length = 5) (hw:r3 = fT a0 a2 (eI p20)) (hlast:x1 = eI p20) (hn:0 <= p16 ∧ p16 < (a0.Orders.length:Int)) (hx:(x15 = -1 ∧ el p19 r3.1.toNat = -1) ∨ (x15 ≠ -1 ∧ el p19 r3.1.toNat = p16)) (hw0:0 <= r3.1 ∧ r3.1 < 5) :
  kI a0 a1 a2 p16 p17 p18 p19 p20 r3 x1 x15 = some ((pE (p17,p18) (fX a0 a1 a2 (iH a0 a1 a2 2) p19 p20 p16)).1,(pE (p17,p18) (fX a0 a1 a2 (iH a0 a1 a2 2) p19 p20 p16)).2,p19,p20):=by
 have hL:=hp.len
 have hla:=hp.last
 have hres:∀ (b c:Option aA) (p:List Int),fE a0 a1 a2 p16 r3 x1 x15 b c (p19.set r3.1.toNat p16) p = some p19:=by
  intro b c p
  unfold fE
  rcases hx with ⟨e1,e2⟩ | ⟨e1,e2⟩
  ·rw [if_pos (aFF _ e1),I1 _ _ _ hw0.1 (by simp <;> omega),List.set_set,← e2,HD]
  ·rw [if_neg (aGC _ e1),← e2,HD]
 have hpop:∀ (b c:Option aA) (pp:List Int),jH a0 a1 a2 p16 r3 x1 x15 b c pp (p20 ++ [p16]) = some ():=by
  intro b c pp
  unfold jH
  rw [WT _ _ (by omega),if_pos ⟨by omega,by simp⟩]
 have htake:(p20 ++ [p16]).take (IntKind.wrap .i64 (((p20 ++ [p16]).length:Int) - 1)).toNat = p20:=by
  rw [WT _ _ (by omega)]; simp
 unfold kI
 rw [I1 _ _ _ hw0.1 (by omega)]
 by_cases hq:p16 = x1
 ·have hR:fX a0 a1 a2 (iH a0 a1 a2 2) p19 p20 p16 = kB a0 a1 a2 false (p19.set r3.1.toNat p16) p20:=by
   unfold fX; rw [← hw,if_pos (hq.trans hlast)]
  rw [hR,if_pos (by simp [hq])]
  rw [pI (p19.set r3.1.toNat p16) (by simp <;> omega),pI p20 (by omega)]
  simp only [Option.bind_some]
  rw [AY _ _ (by omega) (by omega),rT _ _ hla.1 hla.2.1]
  simp only [Option.bind_some]
  rw [o9 _ _ (by have:=(ha.cs (eI p20).toNat (by omega)).2; omega)]
  simp only [Option.bind_some,kB,Bool.false_eq_true,if_false]
  cases hr:lP (el a0.Orders (eI p20).toNat) a2 with
  | true=>simp only [if_true,hres,Option.bind_some,KD]
  | false =>
   simp only [Bool.false_eq_true,if_false]
   rw [aBr _ _ _ _ _ _ _ _ _ _ _ _ _ (by simp <;> omega)]
   simp only [Option.bind_some,JT]
   cases p17 with
   | none=>simp only [Option.isNone_none,if_true,hres,Option.bind_some,yX]
   | some x =>
    simp only [Option.isNone_some,Bool.false_eq_true,if_false,Option.bind_some,uD (aA.mk 0 a1 a2 ((p19.set r3.1.toNat p16).map mG) p20) x (by simp <;> omega) (by simp <;> omega),yX]
    cases OB (aA.mk 0 a1 a2 ((p19.set r3.1.toNat p16).map mG) p20) x <;> simp only [Bool.false_eq_true,if_false,if_true,hres,Option.bind_some]
 ·have hq' : p16 ≠ eI p20:=fun e=>hq (e.trans hlast.symm)
  rw [if_neg (by simp [hq])]
  rw [wC _ _ (by omega)]
  simp only [Option.bind_some]
  rw [if_pos (by omega)]
  have hE:=aHC a0 a1 a2 p16 p17 p18 p19 p20 r3 x1 x15 ha hn hl (by omega)
  cases hw2:r3.2 with
  | false =>
   have hR:fX a0 a1 a2 (iH a0 a1 a2 2) p19 p20 p16 = kB a0 a1 a2 (r3.2 && !tY a0 p16) (p19.set r3.1.toNat p16) (p20 ++ [p16]):=by
    unfold fX; rw [← hw,if_neg hq',if_neg (by simp [hw2])]
   rw [← hR] at hE
   simp only [Bool.false_eq_true,if_false,hE,Option.bind_some,hpop,hres,htake]
  | true =>
   simp only [if_true]
   by_cases hin:p16 ∈ p20
   ·have hR:fX a0 a1 a2 (iH a0 a1 a2 2) p19 p20 p16 = kB a0 a1 a2 (r3.2 && !tY a0 p16) (p19.set r3.1.toNat p16) (p20 ++ [p16]):=by
     unfold fX; rw [← hw,if_neg hq',if_neg (by simp [hin])]
    rw [← hR] at hE
    rw [if_neg (by simp [hin])]
    simp only [hE,Option.bind_some,hpop,hres,htake]
   ·have hR:fX a0 a1 a2 (iH a0 a1 a2 2) p19 p20 p16 = iH a0 a1 a2 2 (p19.set r3.1.toNat p16) (p20 ++ [p16]):=by
     unfold fX; rw [← hw,if_neg hq',if_pos ⟨hw2,hin⟩]
    rw [if_pos (by simp [hin])]
    rw [aGg a0 a1 a2 p16 p17 p18 p19 p20 r3 x1 x15 ha hp hl hn hin hw0 hw]
    simp only [Option.bind_some]
    rw [hpop]
    simp only [Option.bind_some,htake]
    rw [hres]
    simp only [Option.bind_some]
    rw [hR]
theorem aGo (a0:aB) (a1 a2:Int) (r3:Int × Bool) (x1 x15:Int) (p17 p18:Option aA) (p19 p20:List Int) (ha:lY a0) (hp:wA a0 p20 1) (hl:p19.length = 5) (hw:r3 = fT a0 a2 (eI p20)) (hlast:x1 = eI p20) (hw1:r3.1 ≠ 0) (hcu:x15 = el p19 r3.1.toNat) :
  mM a0 a1 a2 r3 x1 x15 0 p17 p18 p19 p20 = some ((fun (bb:Option aA × Option aA)=>(bb.1,bb.2)) (pE (p17,p18) ((List.range a0.Orders.length).flatMap fun (k:Nat)=>if el p19 r3.1.toNat ≠ -1 ∧ el p19 r3.1.toNat ≠ (k:Int) then [] else fX a0 a1 a2 (iH a0 a1 a2 2) p19 p20 (k:Int)))):=by
 have hla:=hp.last
 have hw0:0 <= r3.1 ∧ r3.1 < 5:=by rw [hw]; exact ha.by_ _ (by omega) _
 have hc:=G8 (step:=fun (s:Int × Option aA × Option aA × List Int × List Int)=>hU a0 a1 a2 r3 x1 x15 s.1 s.2.1 s.2.2.1 s.2.2.2.1 s.2.2.2.2) (fun k (bb:Option aA × Option aA)=>((k:Int),bb.1,bb.2,p19,p20)) a0.Orders.length (fun k bb=>pE bb ((fun (k:Nat)=>if el p19 r3.1.toNat ≠ -1 ∧ el p19 r3.1.toNat ≠ (k:Int) then [] else fX a0 a1 a2 (iH a0 a1 a2 2) p19 p20 (k:Int)) k)) (fun bb=>(bb.1,bb.2)) (by
  intro k bb hk
  have hfew:=ha.few
  simp only [hU,rU hk,if_true,eO (show k < 9223372036854775807 by omega)]
  by_cases h1:x15 = -1
  ·have hR:=VG a0 a1 a2 (k:Int) bb.1 bb.2 p19 p20 r3 x1 x15 ha hp hl hw hlast ⟨by omega,by omega⟩ (.inl ⟨h1,by rw [← hcu]; exact h1⟩) hw0
   rw [if_neg (by simp [h1]),hR]
   rw [if_neg (fun q=>q.1 (by rw [← hcu]; exact h1))]
   rfl
  ·rw [if_pos (by simp [h1]),I1 _ _ _ hw0.1 (by omega)]
   by_cases h2:el p19 r3.1.toNat = (k:Int)
   ·have hR:=VG a0 a1 a2 (k:Int) bb.1 bb.2 p19 p20 r3 x1 x15 ha hp hl hw hlast ⟨by omega,by omega⟩ (.inr ⟨h1,h2⟩) hw0
    rw [if_neg (by simp [h2]),hR]
    rw [if_neg (fun q=>q.2 h2)]
    rfl
   ·rw [if_pos (by simp [h2]),if_pos ⟨by rw [← hcu]; exact h1,h2⟩]
    rfl) (by
  intro bb
  simp only [hU,tX,if_false]) (p17,p18)
 rw [BF (p17,p18)] at hc
 exact hc
def NC (r:aB) (forum ask:Int):List aA:=iH r forum ask 3 [forum,-1,-1,-1,-1] [forum]
theorem TW (r:aB) (forum ask:Int) (ha:lY r) (hf:0 <= forum ∧ forum < (r.Orders.length:Int)):o8 r forum ask = some ⟨(pE (none,none) (NC r forum ask)).1,(pE (none,none) (NC r forum ask)).2⟩:=by
 have hp:wA r [forum] 1:=⟨rfl,by omega,by simp,fun x hx=>by rcases List.mem_singleton.1 hx with rfl; exact hf⟩
 have hord:=ha.cs forum.toNat (by omega)
 have hby:=ha.by_ forum.toNat (by omega) ask
 have hla:eI [forum] = forum:=rfl
 unfold o8
 rw [show (1:Nat) = [forum].length from rfl,AY _ _ (by simp) (by simp),hla,rT _ _ hf.1 hf.2]
 simp only [Option.bind_some]
 rw [EX _ _ (by omega)]
 simp only [Option.bind_some]
 have hw2:HE (el r.Orders forum.toNat).Choices ask = fT r ask forum:=rfl
 rw [hw2] at hby ⊢
 unfold NC
 rw [iH,hla]
 by_cases h0:(fT r ask forum).1 = 0
 ·simp only [h0,if_true,beq_self_eq_true]
  rw [pI [forum,-1,-1,-1,-1] (by simp),pI [forum] (by simp)]
  simp only [Option.bind_some]
  rw [AY _ _ (by simp) (by simp),hla,rT _ _ hf.1 hf.2]
  simp only [Option.bind_some]
  rw [o9 _ _ (by omega)]
  simp only [Option.bind_some,kB,hla,Bool.false_eq_true,if_false]
  cases hr:lP (el r.Orders forum.toNat) ask with
  | true=>rfl
  | false =>
   simp only [Bool.false_eq_true,if_false]
   rw [aA4 _ _ _ _ (by simp)]
   rfl
 ·simp only [if_neg h0]
  rw [if_neg (by simp [h0]),show (5:Nat) = [forum,-1,-1,-1,-1].length from rfl,I1 _ _ _ hby.1 (by simp; omega)]
  rw [aGo r forum ask (fT r ask forum) forum (el [forum,-1,-1,-1,-1] (fT r ask forum).1.toNat) none none [forum,-1,-1,-1,-1] [forum] ha hp rfl (by rw [hla]) (by rw [hla]) h0 rfl]
  rfl
end Go.Proofs.Ytjjcaapdaldedaa
