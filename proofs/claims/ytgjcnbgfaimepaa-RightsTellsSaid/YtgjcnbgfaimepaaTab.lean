/- The table. Printed by a program. -/
import Derived.Test.YtgjcnbgfaimepaaVmH
import Derived.Test.YtgjcnbgfaimepaaVmF
import Derived.Test.YtgjcnbgfaimepaaVmI
import Derived.Test.YtgjcnbgfaimepaaRepD
import Derived.Test.YtgjcnbgfaimepaaCode1
import Derived.Test.YtgjcnbgfaimepaaCode2
set_option linter.unusedVariables false
set_option linter.unusedSimpArgs false
namespace Go.Proofs.Ytgjcnbgfaimepaa
open Vm
open Go.RowKit
def aRv:List D->Option D:=aNw 3
def o49:List D->Option D:=aBs 3 1 8
def TL:List (Nat × Option Def):=[(35,some (.code aS1)),(53,some (.code aSt)),(54,some (.code aTk)),(55,some (.code aTN)),(19,some (.code aSO)),(37,some (.code aSH)),(73,some (.code aSa)),(44,some (.code aR3)),(82,some (.code aSu)),(105,some (.code aQp)),(81,some (.code aTH)),(60,some (.code aTJ)),(64,some (.code aSP)),(106,some (.code aQs)),(84,some (.code aTO)),(83,some (.code aTv)),(85,some (.code aSk)),(61,some (.code aTB)),(86,some (.code aTF)),(108,some (.code aQt)),(87,some (.code aTi)),(62,some (.code aSi)),(63,some (.code aSR)),(25,some (.code aTr)),(38,some (.code aTo)),(10,some (.code aSD)),(21,some (.code aSh)),(43,some (.code aS5)),(72,some (.code aS7)),(27,some (.code aSm)),(77,some (.code aSe)),(76,some (.code aTg)),(48,some (.code aS4)),(47,some (.code aTd)),(75,some (.code aTm)),(46,some (.code aTy)),(12,some (.code aSg)),(14,some (.code aSB)),(16,some (.code aSE)),(52,some (.code aSG)),(17,some (.code aSl)),(23,some (.code aSy)),(8,some (.code sf8)),(26,some (.code aSo)),(36,some (.code aS0)),(29,some (.code aTw)),(59,some (.code aSv)),(22,some (.code aST)),(9,some (.code sf9)),(56,some (.code aTn)),(20,some (.code aR6)),(39,some (.code aTp)),(40,some (.code aSC)),(91,some (.code aS2)),(92,some (.code aSU)),(93,some (.code aTj)),(94,some (.code aTh)),(69,some (.code aTD)),(70,some (.code aSY)),(71,some (.code aSx)),(41,some (.code aTb)),(11,some (.code aSQ)),(34,some (.code aTM)),(78,some (.code aS9)),(50,some (.code aTu)),(51,some (.code aSf)),(13,some (.code aSM)),(15,some (.code aSw)),(18,some (.code aTL)),(24,some (.code aSK)),(3,some (.code sf3)),(109,some (.told aRv)),(49,some (.told o49))]
def TT:CJ:=fun f=>lk TL none f
structure aT where
 Kind:Int
 Owner:Int
 deriving Inhabited
def aT.cells (x:aT):List D:=[.int .i64 x.Kind,.int .i64 x.Owner]
theorem aT.sized (xs:List aT):sized 2 (cM aT.cells xs) = true:=vF _ _ (fun x=>by rfl) xs
theorem aT.len (x:aT):x.cells.length = 2:=rfl
theorem aT.size {β:Type} (x:aT) (y:Option β):CQ x.cells 2 y = y:=rfl
theorem aT.put {β:Type} (x:aT) (id:Nat) (cs:List V) (hc:cs.length = 2) (kw:V->List (Nat × Option aL)->Option β):wU 2 0 id (zZ x.cells) (some (.box cs)) kw = kw .any [(id,some (.box (fL x.cells)))]:=uT 2 id _ rfl cs hc
theorem aT.get0 {β:Type} (x:aT) (k:D->Option β):mL x.cells 0 k = k (.int .i64 x.Kind):=rfl
theorem aT.get1 {β:Type} (x:aT) (k:D->Option β):mL x.cells 1 k = k (.int .i64 x.Owner):=rfl
theorem aT.sub0_2 {β:Type} (x:aT) (k:List D->Option β):FF x.cells 0 2 k = k x.cells:=rfl
theorem aT.cells_mk (f0 f1:Int):aT.cells (aT.mk f0 f1) = [.int .i64 f0,.int .i64 f1]:=rfl
structure aF where
 From:Int
 To:Int
 Sum:Int
 File:Int
 Part:Int
 Sign:Int
 Rights:List aT
 deriving Inhabited
def aF.cells (x:aF):List D:=[.int .i64 x.From,.int .i64 x.To,.int .i64 x.Sum,.int .i64 x.File,.int .i64 x.Part,.int .i64 x.Sign,.sl (cM aT.cells x.Rights)]
theorem aF.sized (xs:List aF):sized 7 (cM aF.cells xs) = true:=vF _ _ (fun x=>by rfl) xs
theorem aF.len (x:aF):x.cells.length = 7:=rfl
theorem aF.size {β:Type} (x:aF) (y:Option β):CQ x.cells 7 y = y:=rfl
theorem aF.put {β:Type} (x:aF) (id:Nat) (cs:List V) (hc:cs.length = 7) (kw:V->List (Nat × Option aL)->Option β):wU 7 0 id (zZ x.cells) (some (.box cs)) kw = kw .any [(id,some (.box (fL x.cells)))]:=uT 7 id _ rfl cs hc
theorem aF.get0 {β:Type} (x:aF) (k:D->Option β):mL x.cells 0 k = k (.int .i64 x.From):=rfl
theorem aF.get1 {β:Type} (x:aF) (k:D->Option β):mL x.cells 1 k = k (.int .i64 x.To):=rfl
theorem aF.get2 {β:Type} (x:aF) (k:D->Option β):mL x.cells 2 k = k (.int .i64 x.Sum):=rfl
theorem aF.get3 {β:Type} (x:aF) (k:D->Option β):mL x.cells 3 k = k (.int .i64 x.File):=rfl
theorem aF.get4 {β:Type} (x:aF) (k:D->Option β):mL x.cells 4 k = k (.int .i64 x.Part):=rfl
theorem aF.get5 {β:Type} (x:aF) (k:D->Option β):mL x.cells 5 k = k (.int .i64 x.Sign):=rfl
theorem aF.get6 {β:Type} (x:aF) (k:D->Option β):mL x.cells 6 k = k (.sl (cM aT.cells x.Rights)):=rfl
theorem aF.sub0_7 {β:Type} (x:aF) (k:List D->Option β):FF x.cells 0 7 k = k x.cells:=rfl
theorem aF.cells_mk (f0 f1 f2 f3 f4 f5:Int) (f6:List aT):aF.cells (aF.mk f0 f1 f2 f3 f4 f5 f6) = [.int .i64 f0,.int .i64 f1,.int .i64 f2,.int .i64 f3,.int .i64 f4,.int .i64 f5,.sl (cM aT.cells f6)]:=rfl
structure aI where
 From:Int
 To:Int
 Sum:Int
 deriving Inhabited
def aI.cells (x:aI):List D:=[.int .i64 x.From,.int .i64 x.To,.int .i64 x.Sum]
theorem aI.sized (xs:List aI):sized 3 (cM aI.cells xs) = true:=vF _ _ (fun x=>by rfl) xs
theorem aI.len (x:aI):x.cells.length = 3:=rfl
theorem aI.size {β:Type} (x:aI) (y:Option β):CQ x.cells 3 y = y:=rfl
theorem aI.put {β:Type} (x:aI) (id:Nat) (cs:List V) (hc:cs.length = 3) (kw:V->List (Nat × Option aL)->Option β):wU 3 0 id (zZ x.cells) (some (.box cs)) kw = kw .any [(id,some (.box (fL x.cells)))]:=uT 3 id _ rfl cs hc
theorem aI.get0 {β:Type} (x:aI) (k:D->Option β):mL x.cells 0 k = k (.int .i64 x.From):=rfl
theorem aI.get1 {β:Type} (x:aI) (k:D->Option β):mL x.cells 1 k = k (.int .i64 x.To):=rfl
theorem aI.get2 {β:Type} (x:aI) (k:D->Option β):mL x.cells 2 k = k (.int .i64 x.Sum):=rfl
theorem aI.sub0_3 {β:Type} (x:aI) (k:List D->Option β):FF x.cells 0 3 k = k x.cells:=rfl
theorem aI.cells_mk (f0 f1 f2:Int):aI.cells (aI.mk f0 f1 f2) = [.int .i64 f0,.int .i64 f1,.int .i64 f2]:=rfl
structure aC where
 due:Int
 from_:Int
 to:Int
 cost:Int
 most:Int
 back:Bool
 deriving Inhabited
def aC.cells (x:aC):List D:=[.int .i64 x.due,.int .i64 x.from_,.int .i64 x.to,.int .i64 x.cost,.int .i64 x.most,.bool x.back]
theorem aC.sized (xs:List aC):sized 6 (cM aC.cells xs) = true:=vF _ _ (fun x=>by rfl) xs
theorem aC.len (x:aC):x.cells.length = 6:=rfl
theorem aC.size {β:Type} (x:aC) (y:Option β):CQ x.cells 6 y = y:=rfl
theorem aC.put {β:Type} (x:aC) (id:Nat) (cs:List V) (hc:cs.length = 6) (kw:V->List (Nat × Option aL)->Option β):wU 6 0 id (zZ x.cells) (some (.box cs)) kw = kw .any [(id,some (.box (fL x.cells)))]:=uT 6 id _ rfl cs hc
theorem aC.rset {β:Type} (x:aC) (off:Nat) (d:D) (ds:List D) (n:Nat) (k:List D->Option β):oP x.cells off (d :: ds) n k = oP [.int .i64 x.due,.int .i64 x.from_,.int .i64 x.to,.int .i64 x.cost,.int .i64 x.most,.bool x.back] off (d :: ds) n k:=rfl
theorem aC.get0 {β:Type} (x:aC) (k:D->Option β):mL x.cells 0 k = k (.int .i64 x.due):=rfl
theorem aC.get1 {β:Type} (x:aC) (k:D->Option β):mL x.cells 1 k = k (.int .i64 x.from_):=rfl
theorem aC.get2 {β:Type} (x:aC) (k:D->Option β):mL x.cells 2 k = k (.int .i64 x.to):=rfl
theorem aC.get3 {β:Type} (x:aC) (k:D->Option β):mL x.cells 3 k = k (.int .i64 x.cost):=rfl
theorem aC.get4 {β:Type} (x:aC) (k:D->Option β):mL x.cells 4 k = k (.int .i64 x.most):=rfl
theorem aC.get5 {β:Type} (x:aC) (k:D->Option β):mL x.cells 5 k = k (.bool x.back):=rfl
theorem aC.sub0_6 {β:Type} (x:aC) (k:List D->Option β):FF x.cells 0 6 k = k x.cells:=rfl
theorem aC.cells_mk (f0 f1 f2 f3 f4:Int) (f5:Bool):aC.cells (aC.mk f0 f1 f2 f3 f4 f5) = [.int .i64 f0,.int .i64 f1,.int .i64 f2,.int .i64 f3,.int .i64 f4,.bool f5]:=rfl
structure aE where
 c:Int
 steps:Int
 fine:Bool
 deriving Inhabited
def aE.cells (x:aE):List D:=[.int .i64 x.c,.int .i64 x.steps,.bool x.fine]
theorem aE.sized (xs:List aE):sized 3 (cM aE.cells xs) = true:=vF _ _ (fun x=>by rfl) xs
theorem aE.len (x:aE):x.cells.length = 3:=rfl
theorem aE.put {β:Type} (x:aE) (id:Nat) (cs:List V) (hc:cs.length = 3) (kw:V->List (Nat × Option aL)->Option β):wU 3 0 id (zZ x.cells) (some (.box cs)) kw = kw .any [(id,some (.box (fL x.cells)))]:=uT 3 id _ rfl cs hc
theorem aE.rset {β:Type} (x:aE) (off:Nat) (d:D) (ds:List D) (n:Nat) (k:List D->Option β):oP x.cells off (d :: ds) n k = oP [.int .i64 x.c,.int .i64 x.steps,.bool x.fine] off (d :: ds) n k:=rfl
theorem aE.rfull {β:Type} (x y:aE) (k:List D->Option β):oP x.cells 0 y.cells 3 k = k y.cells:=by unfold oP; exact (if_pos ⟨rfl,Nat.le_refl _⟩).trans rfl
theorem aE.get0 {β:Type} (x:aE) (k:D->Option β):mL x.cells 0 k = k (.int .i64 x.c):=rfl
theorem aE.get1 {β:Type} (x:aE) (k:D->Option β):mL x.cells 1 k = k (.int .i64 x.steps):=rfl
theorem aE.get2 {β:Type} (x:aE) (k:D->Option β):mL x.cells 2 k = k (.bool x.fine):=rfl
theorem aE.sub0_3 {β:Type} (x:aE) (k:List D->Option β):FF x.cells 0 3 k = k x.cells:=rfl
theorem aE.cells_mk (f0 f1:Int) (f2:Bool):aE.cells (aE.mk f0 f1 f2) = [.int .i64 f0,.int .i64 f1,.bool f2]:=rfl
structure b6 where
 Kind:Int
 Who:Int
 To:Int
 Part:Int
 At:Int
 Sum:Int
 Day:Int
 City:Int
 Form:Int
 deriving Inhabited
def b6.cells (x:b6):List D:=[.int .i64 x.Kind,.int .i64 x.Who,.int .i64 x.To,.int .i64 x.Part,.int .i64 x.At,.int .i64 x.Sum,.int .i64 x.Day,.int .i64 x.City,.int .i64 x.Form]
theorem b6.sized (xs:List b6):sized 9 (cM b6.cells xs) = true:=vF _ _ (fun x=>by rfl) xs
theorem b6.len (x:b6):x.cells.length = 9:=rfl
theorem b6.size {β:Type} (x:b6) (y:Option β):CQ x.cells 9 y = y:=rfl
theorem b6.eq1 {β:Type} (x:b6) (ks:List Nat) (ys:List V) (k:Bool->Option β):US ks (fL x.cells) ys k = US ks [.d (.int .i64 x.Kind),.d (.int .i64 x.Who),.d (.int .i64 x.To),.d (.int .i64 x.Part),.d (.int .i64 x.At),.d (.int .i64 x.Sum),.d (.int .i64 x.Day),.d (.int .i64 x.City),.d (.int .i64 x.Form)] ys k:=rfl
theorem b6.eq2 {β:Type} (x:b6) (ks:List Nat) (ys:List V) (k:Bool->Option β):US ks ys (fL x.cells) k = US ks ys [.d (.int .i64 x.Kind),.d (.int .i64 x.Who),.d (.int .i64 x.To),.d (.int .i64 x.Part),.d (.int .i64 x.At),.d (.int .i64 x.Sum),.d (.int .i64 x.Day),.d (.int .i64 x.City),.d (.int .i64 x.Form)] k:=rfl
theorem b6.sub0_9 {β:Type} (x:b6) (k:List D->Option β):FF x.cells 0 9 k = k x.cells:=rfl
theorem b6.cells_mk (f0 f1 f2 f3 f4 f5 f6 f7 f8:Int):b6.cells (b6.mk f0 f1 f2 f3 f4 f5 f6 f7 f8) = [.int .i64 f0,.int .i64 f1,.int .i64 f2,.int .i64 f3,.int .i64 f4,.int .i64 f5,.int .i64 f6,.int .i64 f7,.int .i64 f8]:=rfl
structure aD where
 Due:Int
 From:Int
 To:Int
 Cost:Int
 deriving Inhabited
def aD.cells (x:aD):List D:=[.int .i64 x.Due,.int .i64 x.From,.int .i64 x.To,.int .i64 x.Cost]
theorem aD.sized (xs:List aD):sized 4 (cM aD.cells xs) = true:=vF _ _ (fun x=>by rfl) xs
theorem aD.len (x:aD):x.cells.length = 4:=rfl
theorem aD.size {β:Type} (x:aD) (y:Option β):CQ x.cells 4 y = y:=rfl
theorem aD.put {β:Type} (x:aD) (id:Nat) (cs:List V) (hc:cs.length = 4) (kw:V->List (Nat × Option aL)->Option β):wU 4 0 id (zZ x.cells) (some (.box cs)) kw = kw .any [(id,some (.box (fL x.cells)))]:=uT 4 id _ rfl cs hc
theorem aD.get0 {β:Type} (x:aD) (k:D->Option β):mL x.cells 0 k = k (.int .i64 x.Due):=rfl
theorem aD.get1 {β:Type} (x:aD) (k:D->Option β):mL x.cells 1 k = k (.int .i64 x.From):=rfl
theorem aD.get2 {β:Type} (x:aD) (k:D->Option β):mL x.cells 2 k = k (.int .i64 x.To):=rfl
theorem aD.get3 {β:Type} (x:aD) (k:D->Option β):mL x.cells 3 k = k (.int .i64 x.Cost):=rfl
theorem aD.sub0_4 {β:Type} (x:aD) (k:List D->Option β):FF x.cells 0 4 k = k x.cells:=rfl
theorem aD.cells_mk (f0 f1 f2 f3:Int):aD.cells (aD.mk f0 f1 f2 f3) = [.int .i64 f0,.int .i64 f1,.int .i64 f2,.int .i64 f3]:=rfl
theorem aRq {β:Type} (x:Int) (k:D->Option β):mL (cI x) 0 k = k (.int .i64 x):=rfl
theorem aN2 {β:Type} (x:Int) (off:Nat) (d:D) (ds:List D) (n:Nat) (k:List D->Option β):oP (cI x) off (d :: ds) n k = oP [.int .i64 x] off (d :: ds) n k:=rfl
theorem aOm {β:Type} (x:Int) (y:Option β):CQ (cI x) 1 y = y:=rfl
theorem aRj {β:Type} (x:Bool) (k:D->Option β):mL (cB x) 0 k = k (.bool x):=rfl
theorem aOB {β:Type} (x0:D) (y:Option β):CQ [x0] 1 y = y:=rfl
theorem aN3 {β:Type} (x0 x1:D) (y:Option β):CQ [x0,x1] 2 y = y:=rfl
theorem aPG {β:Type} (x0 x1 x2:D) (y:Option β):CQ [x0,x1,x2] 3 y = y:=rfl
theorem aQc {β:Type} (x0 x1 x2 x3:D) (y:Option β):CQ [x0,x1,x2,x3] 4 y = y:=rfl
theorem aPq {β:Type} (x0 x1 x2 x3 x4 x5:D) (y:Option β):CQ [x0,x1,x2,x3,x4,x5] 6 y = y:=rfl
theorem aPg {β:Type} (x0 x1 x2 x3 x4 x5 x6:D) (y:Option β):CQ [x0,x1,x2,x3,x4,x5,x6] 7 y = y:=rfl
theorem aNk {β:Type} (x0 x1 x2 x3 x4 x5 x6 x7 x8:D) (y:Option β):CQ [x0,x1,x2,x3,x4,x5,x6,x7,x8] 9 y = y:=rfl
theorem aQe {β α:Type} (c:α->List D) (x:List α) (off:Nat) (d:D) (ds:List D) (n:Nat) (k:List D->Option β):oP (cL c x) off (d :: ds) n k = oP [.sl (cM c x)] off (d :: ds) n k:=rfl
theorem aRy {β α:Type} (c:α->List D) (x:List α) (k:D->Option β):mL (cL c x) 0 k = k (.sl (cM c x)):=rfl
theorem aOP {β α:Type} (c:α->List D) (x:List α) (y:Option β):CQ (cL c x) 1 y = y:=rfl
theorem aBO {β:Type} {T:CJ} {d:Nat} {fr:List (Nat × V)} {bl:List (Nat × Option aL)} {k:V->Option β} {kw:V->List (Nat × Option aL)->Option β} (l cp:d7):FS T d (.makeSlice 114 3 24 [.int .i64 0,.int .i64 0,.bool false] l cp) fr bl k kw = cG bl d fun b=>jX b (fA fr l fun a=>fA fr cp fun b=>aL6 24 a b fun n=>kw (.own d 0) [(d,some (.rows 0 114 3 (cM aE.cells (List.replicate n (aE.mk 0 0 false)))))]):=aKb 114 3 24 [.int .i64 0,.int .i64 0,.bool false] aE.cells ((aE.mk 0 0 false):aE) rfl l cp
theorem aD8 {β:Type} {T:CJ} {d:Nat} {fr:List (Nat × V)} {bl:List (Nat × Option aL)} {k:V->Option β} {kw:V->List (Nat × Option aL)->Option β} (l cp:d7):FS T d (.makeSlice 23 1 24 [.sl []] l cp) fr bl k kw = cG bl d fun b=>jX b (fA fr l fun a=>fA fr cp fun b=>aL6 24 a b fun n=>kw (.own d 0) [(d,some (.rows 0 23 1 (cM (cL cI) (List.replicate n []))))]):=aKb 23 1 24 [.sl []] (cL cI) ([]:(List Int)) rfl l cp
theorem aEp {β:Type} {T:CJ} {d:Nat} {fr:List (Nat × V)} {bl:List (Nat × Option aL)} {k:V->Option β} {kw:V->List (Nat × Option aL)->Option β} (l cp:d7):FS T d (.makeSlice 3 1 8 [.int .i64 0] l cp) fr bl k kw = cG bl d fun b=>jX b (fA fr l fun a=>fA fr cp fun b=>aL6 8 a b fun n=>kw (.own d 0) [(d,some (.rows 0 3 1 (cM cI (List.replicate n 0))))]):=aKb 3 1 8 [.int .i64 0] cI (0:Int) rfl l cp
theorem aAf {β:Type} (k:List (List D)->Option β):SB 128 [] k = k (cM aD.cells ([]:List aD)):=rfl
theorem YS {β:Type} (a0_0 a0_1 a0_2 a0_3:Int) (k:List (List D)->Option β):SB 128 [[.int .i64 a0_0,.int .i64 a0_1,.int .i64 a0_2,.int .i64 a0_3]] k = k (cM aD.cells ([(aD.mk a0_0 a0_1 a0_2 a0_3)]:List aD)):=rfl
theorem ZE {β:Type} (a0:aD) (k:List (List D)->Option β):SB 128 [aD.cells a0] k = k (cM aD.cells ([a0]:List aD)):=rfl
theorem aBt {β:Type} (k:List (List D)->Option β):SB 23 [] k = k (cM (cL cI) ([]:List (List Int))):=rfl
theorem XX {β:Type} (a0 a1:List Int) (k:List (List D)->Option β):SB 23 [[.sl (cM cI a0)],[.sl (cM cI a1)]] k = k (cM (cL cI) ([a0,a1]:List (List Int))):=rfl
theorem aAd {β:Type} (a0:List Int) (k:List (List D)->Option β):SB 23 [[.sl (cM cI a0)]] k = k (cM (cL cI) ([a0]:List (List Int))):=rfl
theorem XJ {β:Type} (k:List (List D)->Option β):SB 23 [[.sl []]] k = k (cM (cL cI) ([[]]:List (List Int))):=rfl
theorem aDn {β:Type} (k:List (List D)->Option β):SB 3 [] k = k (cM cI ([]:List Int)):=rfl
theorem aAe {β:Type} (a0 a1:Int) (k:List (List D)->Option β):SB 3 [[.int .i64 a0],[.int .i64 a1]] k = k (cM cI ([a0,a1]:List Int)):=rfl
theorem WV {β:Type} (a0 a1 a2 a3:Int) (k:List (List D)->Option β):SB 3 [[.int .i64 a0],[.int .i64 a1],[.int .i64 a2],[.int .i64 a3]] k = k (cM cI ([a0,a1,a2,a3]:List Int)):=rfl
theorem aBR {β:Type} (a0:Int) (k:List (List D)->Option β):SB 3 [[.int .i64 a0]] k = k (cM cI ([a0]:List Int)):=rfl
theorem aDy {β:Type} (k:List (List D)->Option β):SB 4 [] k = k (cM cB ([]:List Bool)):=rfl
theorem aBS {β:Type} (a0:Bool) (k:List (List D)->Option β):SB 4 [[.bool a0]] k = k (cM cB ([a0]:List Bool)):=rfl
theorem aB5 {β:Type} (k:List (List D)->Option β):SB 48 [] k = k (cM aF.cells ([]:List aF)):=rfl
theorem R7 {β:Type} (a0_0 a0_1 a0_2 a0_3 a0_4 a0_5 a1_0 a1_1 a1_2 a1_3 a1_4 a1_5:Int) (a1_6:List aT) (a2_0 a2_1 a2_2 a2_3 a2_4 a2_5 a3_0 a3_1 a3_2 a3_3 a3_4 a3_5:Int) (a3_6:List aT) (k:List (List D)->Option β):SB 48 [[.int .i64 a0_0,.int .i64 a0_1,.int .i64 a0_2,.int .i64 a0_3,.int .i64 a0_4,.int .i64 a0_5,.sl []],[.int .i64 a1_0,.int .i64 a1_1,.int .i64 a1_2,.int .i64 a1_3,.int .i64 a1_4,.int .i64 a1_5,.sl (cM aT.cells a1_6)],[.int .i64 a2_0,.int .i64 a2_1,.int .i64 a2_2,.int .i64 a2_3,.int .i64 a2_4,.int .i64 a2_5,.sl []],[.int .i64 a3_0,.int .i64 a3_1,.int .i64 a3_2,.int .i64 a3_3,.int .i64 a3_4,.int .i64 a3_5,.sl (cM aT.cells a3_6)]] k = k (cM aF.cells ([(aF.mk a0_0 a0_1 a0_2 a0_3 a0_4 a0_5 []),(aF.mk a1_0 a1_1 a1_2 a1_3 a1_4 a1_5 a1_6),(aF.mk a2_0 a2_1 a2_2 a2_3 a2_4 a2_5 []),(aF.mk a3_0 a3_1 a3_2 a3_3 a3_4 a3_5 a3_6)]:List aF)):=rfl
theorem aAo {β:Type} (a0:aF) (k:List (List D)->Option β):SB 48 [aF.cells a0] k = k (cM aF.cells ([a0]:List aF)):=rfl
theorem aB4 {β:Type} (k:List (List D)->Option β):SB 54 [] k = k (cM aI.cells ([]:List aI)):=rfl
theorem aAh {β:Type} (a0_0 a0_1 a0_2:Int) (k:List (List D)->Option β):SB 54 [[.int .i64 a0_0,.int .i64 a0_1,.int .i64 a0_2]] k = k (cM aI.cells ([(aI.mk a0_0 a0_1 a0_2)]:List aI)):=rfl
theorem ZY {β:Type} (a0:aI) (k:List (List D)->Option β):SB 54 [aI.cells a0] k = k (cM aI.cells ([a0]:List aI)):=rfl
theorem aBy {β:Type} (k:List (List D)->Option β):SB 60 [] k = k (cM b6.cells ([]:List b6)):=rfl
theorem aAn {β:Type} (a0_0 a0_1 a0_2 a0_3 a0_4 a0_5 a0_6 a0_7 a0_8:Int) (k:List (List D)->Option β):SB 60 [[.int .i64 a0_0,.int .i64 a0_1,.int .i64 a0_2,.int .i64 a0_3,.int .i64 a0_4,.int .i64 a0_5,.int .i64 a0_6,.int .i64 a0_7,.int .i64 a0_8]] k = k (cM b6.cells ([(b6.mk a0_0 a0_1 a0_2 a0_3 a0_4 a0_5 a0_6 a0_7 a0_8)]:List b6)):=rfl
theorem aAl {β:Type} (a0_0 a0_1:Int) (k:List (List D)->Option β):SB 87 [[.int .i64 a0_0,.int .i64 a0_1]] k = k (cM aT.cells ([(aT.mk a0_0 a0_1)]:List aT)):=rfl
theorem aBn {β:Type} (k:List (List D)->Option β):SB 95 [] k = k (cM aC.cells ([]:List aC)):=rfl
theorem Z7 {β:Type} (a0_0 a0_1 a0_2 a0_3 a0_4:Int) (a0_5:Bool) (k:List (List D)->Option β):SB 95 [[.int .i64 a0_0,.int .i64 a0_1,.int .i64 a0_2,.int .i64 a0_3,.int .i64 a0_4,.bool a0_5]] k = k (cM aC.cells ([(aC.mk a0_0 a0_1 a0_2 a0_3 a0_4 a0_5)]:List aC)):=rfl
theorem aAq {β:Type} (a0:aC) (k:List (List D)->Option β):SB 95 [aC.cells a0] k = k (cM aC.cells ([a0]:List aC)):=rfl
theorem aBP {β:Type} (xs:List aE) (i:Nat) (a_0 a_1:Int) (a_2:Bool) (k:List (List D)->Option β):EL 114 (cM aE.cells xs) i [.int .i64 a_0,.int .i64 a_1,.bool a_2] k = k (cM aE.cells (xs.set i (aE.mk a_0 a_1 a_2))):=G6 114 aE.cells xs i (aE.mk a_0 a_1 a_2) k
theorem aCS {β:Type} (xs:List (List Int)) (i:Nat) (a:List Int) (k:List (List D)->Option β):EL 23 (cM (cL cI) xs) i [.sl (cM cI a)] k = k (cM (cL cI) (xs.set i a)):=G6 23 (cL cI) xs i a k
theorem aFk {β:Type} (xs:List Int) (i:Nat) (a:Int) (k:List (List D)->Option β):EL 3 (cM cI xs) i [.int .i64 a] k = k (cM cI (xs.set i a)):=G6 3 cI xs i a k
theorem aDh {β:Type} (xs:List aC) (i:Nat) (a_0 a_1 a_2 a_3 a_4:Int) (a_5:Bool) (k:List (List D)->Option β):EL 95 (cM aC.cells xs) i [.int .i64 a_0,.int .i64 a_1,.int .i64 a_2,.int .i64 a_3,.int .i64 a_4,.bool a_5] k = k (cM aC.cells (xs.set i (aC.mk a_0 a_1 a_2 a_3 a_4 a_5))):=G6 95 aC.cells xs i (aC.mk a_0 a_1 a_2 a_3 a_4 a_5) k
/- all rules as one -/
set_option linter.defProp false
def DN:=aN (aN (aN (aN (aN (aN (aN (aN @aQS @aKT) (aN @aJL (aN @aPP @aMY))) (aN (aN @aOO @aF5) (aN @aJ7 (aN @aJ4 @aEL)))) (aN (aN (aN @aDZ @aH0) (aN @aCF (aN @aIc @aN6))) (aN (aN @aQR (aN @aMB @aKi)) (aN @aIk (aN @aGd @aK7))))) (aN (aN (aN (aN @aNt @aHV) (aN @aHR (aN @aF8 @aMh))) (aN (aN @aI2 @aJj) (aN @aKg (aN @aBo @Z8)))) (aN (aN (aN @aOU @Z3) (aN @aHQ (aN @aEE @aFd))) (aN (aN @aCX (aN @aKc @aIx)) (aN @aE1 (aN @aCB @aH7)))))) (aN (aN (aN (aN (aN @aPD @aLA) (aN @aLq (aN @YG @aN9))) (aN (aN @aPK @aD4) (aN @aK0 (aN @aIj @aEG)))) (aN (aN (aN @aIU @aKZ) (aN @aJf (aN @aFn @aOR))) (aN (aN @aNY (aN @aFr @aLD)) (aN @aFI (aN @aHy @aMV))))) (aN (aN (aN (aN @aC1 @aQD) (aN @aJI (aN @aIR @aLd))) (aN (aN @aH2 @aM9) (aN @aK1 (aN @aJ3 @aOj)))) (aN (aN (aN @aJw @aQG) (aN @aQQ (aN @aQ7 @aMg))) (aN (aN @aL4 (aN @aLY @aPL)) (aN @aM5 (aN @aOH @aIJ))))))) (aN (aN (aN (aN (aN (aN @aFw @aE3) (aN @aKY (aN @aLX @aEn))) (aN (aN @aMa @aHk) (aN @aKI (aN @aJl @aLx)))) (aN (aN (aN @aQb @aM8) (aN @aPs (aN @aRt @aQL))) (aN (aN @aLp (aN @aIN @aN1)) (aN @aHz (aN @aD2 @aHj))))) (aN (aN (aN (aN @aBX @aNz) (aN @aM3 (aN @aJQ @aL1))) (aN (aN @aPx @aRL) (aN @aOv (aN @aPC @aMy)))) (aN (aN (aN @aIC @aLK) (aN @aH6 (aN @aRm @aPb))) (aN (aN @aN0 (aN @aAb @aAj)) (aN @aHD (aN @aET @X6)))))) (aN (aN (aN (aN (aN @aJ6 @aDv) (aN @aPp (aN @aLN @aC3))) (aN (aN @aEM @aJk) (aN @aE4 (aN @aFN @aD1)))) (aN (aN (aN @aIw @aFY) (aN @aO9 (aN @aP1 @aNR))) (aN (aN @aHI (aN @aJg @aK9)) (aN @aKk (aN @aPT @aLE))))) (aN (aN (aN (aN @aKB @aMl) (aN @aDU (aN @aQh @aPH))) (aN (aN @aDj @aF6) (aN @aFu (aN @aK6 @aL2)))) (aN (aN (aN @aHm @aDB) (aN @aO6 (aN @aPm @aCu))) (aN (aN @aQa (aN @aNX @aTC)) (aN @aPV (aN @aCe @aCC)))))))) (aN (aN (aN (aN (aN (aN (aN @aDM @G6) (aN @aQW (aN @aNW @aSA))) (aN (aN @aTz @aS3) (aN @aLJ (aN @aJX @aJW)))) (aN (aN (aN @aKF @aK5) (aN @aJr (aN @aLO @aKx))) (aN (aN @aKW (aN @aJS @aKH)) (aN @aLm (aN @aIh @aOo))))) (aN (aN (aN (aN @aNv @aL8) (aN @aAO (aN @VY @aM2))) (aN (aN @aMD @aFa) (aN @aQ2 (aN @aRC @aHG)))) (aN (aN (aN @aEH @aEO) (aN @aGI (aN @aMG @aFS))) (aN (aN @aJa (aN @aFB @aOu)) (aN @aLn (aN @aIa @aPR)))))) (aN (aN (aN (aN (aN @aOi @aIW) (aN @aQT (aN @aKJ @aKj))) (aN (aN @aDQ @aIA) (aN @aRO (aN @aCE @aHL)))) (aN (aN (aN @aMs @aLR) (aN @aQJ (aN @aRu @aNu))) (aN (aN @aMe (aN @aIO @aEy)) (aN @aNc (aN @aRz @aRi))))) (aN (aN (aN (aN @aRN @aHE) (aN @aEJ (aN @aIK @aEw))) (aN (aN @aP3 @aNn) (aN @aOI (aN @aQK @aLb)))) (aN (aN (aN @Z1 @aAp) (aN @ZW (aN @aP9 @aJo))) (aN (aN @aIM (aN @aEz @aIi)) (aN @aDG (aN @aCD @aFz))))))) (aN (aN (aN (aN (aN (aN @aLo @aMH) (aN @aEk (aN @aDC @aFg))) (aN (aN @aAa @aC8) (aN @aDt (aN @aQN @aKP)))) (aN (aN (aN @aMd @aIv) (aN @aOs (aN @aPM @aQH))) (aN (aN @aKp (aN @aQV @aHw)) (aN @aIX (aN @aLS @aRJ))))) (aN (aN (aN (aN @aRD @aRY) (aN @aIb (aN @aCq @aHr))) (aN (aN @aIo @aF1) (aN @aCo (aN @aRw @aRc)))) (aN (aN (aN @aER @aL9) (aN @aNV (aN @aA1 @X5))) (aN (aN @aDz (aN @aBA @aL7)) (aN @aMF (aN @aDW @aIF)))))) (aN (aN (aN (aN (aN @aE7 @aDd) (aN @aHX (aN @aES @aBM))) (aN (aN @aFD @aDN) (aN @aA1 (aN @X5 @aOf)))) (aN (aN (aN @aRo @aGc) (aN @aEa (aN @aIS @aFb))) (aN (aN @aLB (aN @aKs @aPi)) (aN @aLM (aN @aLz @aQM))))) (aN (aN (aN (aN @aHA @aIz) (aN @aHC (aN @aIn @aMC))) (aN (aN @aHH @aBH) (aN @aFs (aN @aD3 @aI8)))) (aN (aN (aN @aFi @WL) (aN @aMv (aN @aIm @aJJ))) (aN (aN @aND (aN @aG1 @aJF)) (aN @aKv (aN @aGf @aI9))))))))
def DR:=aN (aN (aN (aN (aN (aN @aT.size @aT.put) (aN @aT.get0 (aN @aT.get1 @aT.sub0_2))) (aN (aN @aF.size (aN @aF.put @aF.get0)) (aN @aF.get1 (aN @aF.get2 @aF.get3)))) (aN (aN (aN @aF.get4 (aN @aF.get5 @aF.get6)) (aN @aF.sub0_7 (aN @aI.size @aI.put))) (aN (aN @aI.get0 (aN @aI.get1 @aI.get2)) (aN @aI.sub0_3 (aN @aC.size @aC.put))))) (aN (aN (aN (aN @aC.rset (aN @aC.get0 @aC.get1)) (aN @aC.get2 (aN @aC.get3 @aC.get4))) (aN (aN @aC.get5 (aN @aC.sub0_6 @aE.put)) (aN @aE.rset (aN @aE.rfull @aE.get0)))) (aN (aN (aN @aE.get1 (aN @aE.get2 @aE.sub0_3)) (aN @b6.size (aN @b6.eq1 @b6.eq2))) (aN (aN @b6.sub0_9 (aN @aD.size @aD.put)) (aN @aD.get0 (aN @aD.get1 @aD.get2)))))) (aN (aN (aN (aN (aN @aD.get3 (aN @aD.sub0_4 @aRq)) (aN @aN2 (aN @aOm @aRj))) (aN (aN @aOB (aN @aN3 @aPG)) (aN @aQc (aN @aPq @aPg)))) (aN (aN (aN @aNk (aN @aQe @aRy)) (aN @aOP (aN @aBO @aD8))) (aN (aN @aEp (aN @aAf @YS)) (aN @ZE (aN @aBt @XX))))) (aN (aN (aN (aN @aAd (aN @XJ @aDn)) (aN @aAe (aN @WV @aBR))) (aN (aN @aDy (aN @aBS @aB5)) (aN @R7 (aN @aAo @aB4)))) (aN (aN (aN @aAh (aN @ZY @aBy)) (aN @aAn (aN @aAl @aBn))) (aN (aN @Z7 (aN @aAq @aBP)) (aN @aCS (aN @aFk @aDh))))))
def DQ:=aN (aN (aN (aN @aT.len @aF.len) (aN @aI.len (aN @aC.len @aE.len))) (aN (aN @b6.len @aD.len) (aN @aT.cells_mk (aN @aF.cells_mk @aI.cells_mk)))) (aN (aN (aN @aC.cells_mk @aE.cells_mk) (aN @b6.cells_mk (aN @aD.cells_mk @aT.sized))) (aN (aN @aF.sized (aN @aI.sized @aC.sized)) (aN @aE.sized (aN @b6.sized @aD.sized))))
def DP:=aN @Option.some.injEq (aN @Bool.and_true @List.cons_ne_nil)
theorem bLc {α:Type} (a:α) (l:List α):(a :: l).length = l.length + 1:=rfl
theorem bLn {α:Type}:([]:List α).length = 0:=rfl
theorem bIt {α:Type} {d:Decidable True} (a b:α):@ite α True d a b = a:=if_pos trivial
theorem bIf {α:Type} {d:Decidable False} (a b:α):@ite α False d a b = b:=if_neg id
theorem bRs {α:Type} (n:Nat) (a:α):List.replicate (n + 1) a = a :: List.replicate n a:=rfl
theorem bRz {α:Type} (a:α):List.replicate 0 a = []:=rfl
theorem bBs {α γ:Type} (a:α) (f:α->Option γ):(some a).bind f = f a:=rfl
theorem bMs {α γ:Type} (a:α) (f:α->γ):(some a).map f = some (f a):=rfl
theorem bMn {α γ:Type} (f:α->γ):(none:Option α).map f = none:=rfl
theorem bEl {α γ δ:Type} (f:α->δ) (g:γ->δ) (x:α):Sum.elim f g (.inl x) = f x:=rfl
theorem bEr {α γ δ:Type} (f:α->δ) (g:γ->δ) (x:γ):Sum.elim f g (.inr x) = g x:=rfl
theorem bBb {α γ δ:Type} (o:Option α) (f:α->Option γ) (g:γ->Option δ):(o.bind f).bind g = o.bind fun x=>(f x).bind g:=by cases o <;> rfl
def DS:=aN (aN (aN (aN (aN @bLc @bLn) (aN @J9 @Bool.not_true)) (aN (aN @Bool.not_false @bIt) (aN @bIf @bRs))) (aN (aN (aN @bRz @aFK) (aN @bBs @aHo)) (aN (aN @bMs @bMn) (aN @bEl @bEr)))) (aN (aN (aN (aN @aKe @aJU) (aN @aLk @aJ8)) (aN (aN @aK8 @aEP) (aN @aHO @aI4))) (aN (aN (aN @aEY @aHh) (aN @aFy @aKN)) (aN (aN @aO1 @Vm.bind_map) (aN @aH5 (aN @aLT @bBb)))))
abbrev KF (T:CJ) (f:Nat) (ds:List D) {α:Type} (o:Option α) (v:α->V):Prop:=∀ {β:Type} (d:Nat) (bl fz:List (Nat × Option aL)) (k:V->Option β) (kw:V->List (Nat × Option aL)->Option β),B0 T d bl f ds fz k kw = o.bind fun r=>k (v r)
abbrev KD (T:CJ) (f:Nat) (ds:List D) {α:Type} (o:Option α) (v:α->V):Prop:=∀ {β:Type} (d:Nat) (bl fz:List (Nat × Option aL)) (k:V->Option β) (kw:V->List (Nat × Option aL)->Option β),B0 T d bl f ds fz k kw = o.bind fun r=>fzK fz (v r) k kw
theorem kF {T:CJ} {α:Type} {f:Nat} {ds:List D} {o:Option α} {enc:α->D} {v:α->V} (h:Vm.call T f ds = o.map enc) (hf:∀ x,PF (enc x) = true) (hv:∀ x,toV (enc x) = v x):KF T f ds o v:=fun d bl fz k kw=>by
 rw [aE6 h hf fz]
 exact congrArg _ (funext fun x=>congrArg k (hv x))
theorem kD {T:CJ} {α:Type} {f:Nat} {ds:List D} {o:Option α} {enc:α->D} {v:α->V} (h:Vm.call T f ds = o.map enc) (hf:∀ x,PF (enc x) = false) (hc:∀ x,(enc x).calm = true) (hv:∀ x,toV (enc x) = v x):KD T f ds o v:=fun d bl fz k kw=>by
 rw [aFG h hf hc fz]
 exact congrArg _ (funext fun x=>congrArg (fun y=>fzK fz y k kw) (hv x))
theorem G7 {p:Prop} (h:p:=by
  simp -implicitDefEqProofs (decide:=true) (maxSteps:=2000000) only [↓DN,↓DR,DQ,DP,↓reduceIte,Int.reduceToNat,Nat.reduceBEq,Nat.reduceAdd,Nat.reduceLT,Nat.reduceLeDiff,Nat.reduceEqDiff,Int.reduceEq,ne_eq,not_false_eq_true,reduceCtorEq,G2,TA,UF,beq_self_eq_true,DS]
  all_goals try simp only [aJ5]
  all_goals try rfl):p:=h
theorem mJ {p:Prop} (h:p:=by
  simp -implicitDefEqProofs (decide:=true) (maxSteps:=2000000) only [↓u,↓DN,↓DR,DQ,DP,↓reduceIte,Int.reduceToNat,Nat.reduceBEq,Nat.reduceAdd,Nat.reduceLT,Nat.reduceLeDiff,Nat.reduceEqDiff,Int.reduceEq,ne_eq,not_false_eq_true,reduceCtorEq,G2,TA,UF,beq_self_eq_true,DS]
  all_goals try simp only [aJ5]
  all_goals try rfl):p:=h
end Go.Proofs.Ytgjcnbgfaimepaa
