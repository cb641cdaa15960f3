/- The table. Printed by a program. -/
import Derived.Test.YtgjcnbgfaimepaaVmH
import Derived.Test.YtgjcnbgfaimepaaVmF
import Derived.Test.YtgjcnbgfaimepaaVmI
import Derived.Test.YtgjcnbgfaimepaaRepD
import Derived.Test.YtgjcnbgfaimepaaCode1
set_option linter.unusedVariables false
set_option linter.unusedSimpArgs false
namespace Go.Proofs.Ytgjcnbgfaimepaa
open Vm
open Go.RowKit
def aQN:List D->Option D:=aOf 3
def o49:List D->Option D:=NW 3 1 8
def o65:List D->Option D:=NW 58 9 72
def TL:List (Nat × Option Def):=[(35,some (.code aTn)),(53,some (.code aTf)),(54,some (.code aTA)),(55,some (.code aSE)),(19,some (.code aSc)),(37,some (.code aSu)),(73,some (.code aTj)),(44,some (.code aS2)),(82,some (.code aS0)),(105,some (.code aQk)),(81,some (.code aSs)),(60,some (.code aSA)),(64,some (.code aSD)),(106,some (.code aP1)),(84,some (.code aTB)),(83,some (.code aSo)),(85,some (.code aTm)),(61,some (.code aTe)),(86,some (.code aSF)),(108,some (.code aQb)),(87,some (.code aTp)),(62,some (.code aS1)),(63,some (.code aS7)),(25,some (.code aSp)),(38,some (.code aSL)),(10,some (.code aSY)),(21,some (.code aSv)),(43,some (.code aTi)),(72,some (.code aTy)),(27,some (.code aSQ)),(77,some (.code aTd)),(76,some (.code aTw)),(48,some (.code aSM)),(47,some (.code aTa)),(75,some (.code aSw)),(46,some (.code aS8)),(12,some (.code aTo)),(14,some (.code aSZ)),(16,some (.code aSd)),(52,some (.code aSf)),(17,some (.code aS5)),(23,some (.code aSG)),(8,some (.code sf8)),(26,some (.code aSj)),(36,some (.code aSg)),(29,some (.code aS9)),(59,some (.code aSX)),(22,some (.code aTs)),(9,some (.code sf9)),(66,some (.code aSH)),(89,some (.code aSh)),(32,some (.code aSI)),(33,some (.code aSC)),(34,some (.code aSz)),(7,some (.code sf7)),(109,some (.told aQN)),(49,some (.told o49)),(65,some (.told o65))]
def TT:vZ:=fun f=>lk TL none f
structure aK where
 Kind:Int
 Owner:Int
 deriving Inhabited
def aK.cells (x:aK):List D:=[.int .i64 x.Kind,.int .i64 x.Owner]
theorem aK.sized (xs:List aK):sized 2 (cM aK.cells xs) = true:=kY _ _ (fun x=>by rfl) xs
theorem aK.len (x:aK):x.cells.length = 2:=rfl
theorem aK.size {β:Type} (x:aK) (y:Option β):oR x.cells 2 y = y:=rfl
theorem aK.eq1 {β:Type} (x:aK) (ks:List Nat) (ys:List V) (k:Bool->Option β):iI ks (aO x.cells) ys k = iI ks [.d (.int .i64 x.Kind),.d (.int .i64 x.Owner)] ys k:=rfl
theorem aK.eq2 {β:Type} (x:aK) (ks:List Nat) (ys:List V) (k:Bool->Option β):iI ks ys (aO x.cells) k = iI ks ys [.d (.int .i64 x.Kind),.d (.int .i64 x.Owner)] k:=rfl
theorem aK.lens {β:Type} (x:aK) (y:Option β):xI (aO x.cells) 2 y = y:=rfl
theorem aK.vsets {β:Type} (x:aK) (z:List V) (o:Nat) (k:List V->Option β):gQ z o (aO x.cells) k = gQ z o [.d (.int .i64 x.Kind),.d (.int .i64 x.Owner)] k:=rfl
theorem aK.st_d {β:Type} (x:aK) (y:D) (sz off id:Nat) (kw:V->List (Nat × Option aJ)->Option β):aL sz off id (.d y) (some (.box (aO x.cells))) kw = aL sz off id (.d y) (some (.box [.d (.int .i64 x.Kind),.d (.int .i64 x.Owner)])) kw:=rfl
theorem aK.st_nil {β:Type} (x:aK)  (sz off id:Nat) (kw:V->List (Nat × Option aJ)->Option β):aL sz off id .nil (some (.box (aO x.cells))) kw = aL sz off id .nil (some (.box [.d (.int .i64 x.Kind),.d (.int .i64 x.Owner)])) kw:=rfl
theorem aK.st_own {β:Type} (x:aK) (i v sz off id:Nat) (kw:V->List (Nat × Option aJ)->Option β):aL sz off id (.own i v) (some (.box (aO x.cells))) kw = aL sz off id (.own i v) (some (.box [.d (.int .i64 x.Kind),.d (.int .i64 x.Owner)])) kw:=rfl
theorem aK.st_agg {β:Type} (x:aK) (y:List V) (sz off id:Nat) (kw:V->List (Nat × Option aJ)->Option β):aL sz off id (.agg y) (some (.box (aO x.cells))) kw = aL sz off id (.agg y) (some (.box [.d (.int .i64 x.Kind),.d (.int .i64 x.Owner)])) kw:=rfl
theorem aK.st_ptr {β:Type} (x:aK) (i v sz off id:Nat) (kw:V->List (Nat × Option aJ)->Option β):aL sz off id (.ptr i v) (some (.box (aO x.cells))) kw = aL sz off id (.ptr i v) (some (.box [.d (.int .i64 x.Kind),.d (.int .i64 x.Owner)])) kw:=rfl
theorem aK.part {β:Type} (x:aK) (off id:Nat) (b:Option aJ) (kw:V->List (Nat × Option aJ)->Option β):aL 2 (off + 1) id (iX x.cells) b kw = aL 2 (off + 1) id (.agg [.d (.int .i64 x.Kind),.d (.int .i64 x.Owner)]) b kw:=rfl
theorem aK.put {β:Type} (x:aK) (id:Nat) (cs:List V) (hc:cs.length = 2) (kw:V->List (Nat × Option aJ)->Option β):aL 2 0 id (iX x.cells) (some (.box cs)) kw = kw .any [(id,some (.box (aO x.cells)))]:=iV 2 id _ rfl cs hc
theorem aK.rset {β:Type} (x:aK) (off:Nat) (d:D) (ds:List D) (n:Nat) (k:List D->Option β):bK x.cells off (d :: ds) n k = bK [.int .i64 x.Kind,.int .i64 x.Owner] off (d :: ds) n k:=rfl
theorem aK.rfull {β:Type} (x y:aK) (k:List D->Option β):bK x.cells 0 y.cells 2 k = k y.cells:=by unfold bK; exact (if_pos ⟨rfl,Nat.le_refl _⟩).trans rfl
theorem aK.get0 {β:Type} (x:aK) (k:D->Option β):cU x.cells 0 k = k (.int .i64 x.Kind):=rfl
theorem aK.get1 {β:Type} (x:aK) (k:D->Option β):cU x.cells 1 k = k (.int .i64 x.Owner):=rfl
theorem aK.sub0_2 {β:Type} (x:aK) (k:List D->Option β):vD x.cells 0 2 k = k x.cells:=rfl
theorem aK.cells_mk (f0 f1:Int):aK.cells (aK.mk f0 f1) = [.int .i64 f0,.int .i64 f1]:=rfl
structure aE where
 From:Int
 To:Int
 Sum:Int
 File:Int
 Part:Int
 Sign:Int
 Rights:List aK
 deriving Inhabited
def aE.cells (x:aE):List D:=[.int .i64 x.From,.int .i64 x.To,.int .i64 x.Sum,.int .i64 x.File,.int .i64 x.Part,.int .i64 x.Sign,.sl (cM aK.cells x.Rights)]
theorem aE.sized (xs:List aE):sized 7 (cM aE.cells xs) = true:=kY _ _ (fun x=>by rfl) xs
theorem aE.len (x:aE):x.cells.length = 7:=rfl
theorem aE.size {β:Type} (x:aE) (y:Option β):oR x.cells 7 y = y:=rfl
theorem aE.eq1 {β:Type} (x:aE) (ks:List Nat) (ys:List V) (k:Bool->Option β):iI ks (aO x.cells) ys k = iI ks [.d (.int .i64 x.From),.d (.int .i64 x.To),.d (.int .i64 x.Sum),.d (.int .i64 x.File),.d (.int .i64 x.Part),.d (.int .i64 x.Sign),.d (.sl (cM aK.cells x.Rights))] ys k:=rfl
theorem aE.eq2 {β:Type} (x:aE) (ks:List Nat) (ys:List V) (k:Bool->Option β):iI ks ys (aO x.cells) k = iI ks ys [.d (.int .i64 x.From),.d (.int .i64 x.To),.d (.int .i64 x.Sum),.d (.int .i64 x.File),.d (.int .i64 x.Part),.d (.int .i64 x.Sign),.d (.sl (cM aK.cells x.Rights))] k:=rfl
theorem aE.lens {β:Type} (x:aE) (y:Option β):xI (aO x.cells) 7 y = y:=rfl
theorem aE.vsets {β:Type} (x:aE) (z:List V) (o:Nat) (k:List V->Option β):gQ z o (aO x.cells) k = gQ z o [.d (.int .i64 x.From),.d (.int .i64 x.To),.d (.int .i64 x.Sum),.d (.int .i64 x.File),.d (.int .i64 x.Part),.d (.int .i64 x.Sign),.d (.sl (cM aK.cells x.Rights))] k:=rfl
theorem aE.st_d {β:Type} (x:aE) (y:D) (sz off id:Nat) (kw:V->List (Nat × Option aJ)->Option β):aL sz off id (.d y) (some (.box (aO x.cells))) kw = aL sz off id (.d y) (some (.box [.d (.int .i64 x.From),.d (.int .i64 x.To),.d (.int .i64 x.Sum),.d (.int .i64 x.File),.d (.int .i64 x.Part),.d (.int .i64 x.Sign),.d (.sl (cM aK.cells x.Rights))])) kw:=rfl
theorem aE.st_nil {β:Type} (x:aE)  (sz off id:Nat) (kw:V->List (Nat × Option aJ)->Option β):aL sz off id .nil (some (.box (aO x.cells))) kw = aL sz off id .nil (some (.box [.d (.int .i64 x.From),.d (.int .i64 x.To),.d (.int .i64 x.Sum),.d (.int .i64 x.File),.d (.int .i64 x.Part),.d (.int .i64 x.Sign),.d (.sl (cM aK.cells x.Rights))])) kw:=rfl
theorem aE.st_own {β:Type} (x:aE) (i v sz off id:Nat) (kw:V->List (Nat × Option aJ)->Option β):aL sz off id (.own i v) (some (.box (aO x.cells))) kw = aL sz off id (.own i v) (some (.box [.d (.int .i64 x.From),.d (.int .i64 x.To),.d (.int .i64 x.Sum),.d (.int .i64 x.File),.d (.int .i64 x.Part),.d (.int .i64 x.Sign),.d (.sl (cM aK.cells x.Rights))])) kw:=rfl
theorem aE.st_agg {β:Type} (x:aE) (y:List V) (sz off id:Nat) (kw:V->List (Nat × Option aJ)->Option β):aL sz off id (.agg y) (some (.box (aO x.cells))) kw = aL sz off id (.agg y) (some (.box [.d (.int .i64 x.From),.d (.int .i64 x.To),.d (.int .i64 x.Sum),.d (.int .i64 x.File),.d (.int .i64 x.Part),.d (.int .i64 x.Sign),.d (.sl (cM aK.cells x.Rights))])) kw:=rfl
theorem aE.st_ptr {β:Type} (x:aE) (i v sz off id:Nat) (kw:V->List (Nat × Option aJ)->Option β):aL sz off id (.ptr i v) (some (.box (aO x.cells))) kw = aL sz off id (.ptr i v) (some (.box [.d (.int .i64 x.From),.d (.int .i64 x.To),.d (.int .i64 x.Sum),.d (.int .i64 x.File),.d (.int .i64 x.Part),.d (.int .i64 x.Sign),.d (.sl (cM aK.cells x.Rights))])) kw:=rfl
theorem aE.part {β:Type} (x:aE) (off id:Nat) (b:Option aJ) (kw:V->List (Nat × Option aJ)->Option β):aL 7 (off + 1) id (iX x.cells) b kw = aL 7 (off + 1) id (.agg [.d (.int .i64 x.From),.d (.int .i64 x.To),.d (.int .i64 x.Sum),.d (.int .i64 x.File),.d (.int .i64 x.Part),.d (.int .i64 x.Sign),.d (.sl (cM aK.cells x.Rights))]) b kw:=rfl
theorem aE.put {β:Type} (x:aE) (id:Nat) (cs:List V) (hc:cs.length = 7) (kw:V->List (Nat × Option aJ)->Option β):aL 7 0 id (iX x.cells) (some (.box cs)) kw = kw .any [(id,some (.box (aO x.cells)))]:=iV 7 id _ rfl cs hc
theorem aE.rset {β:Type} (x:aE) (off:Nat) (d:D) (ds:List D) (n:Nat) (k:List D->Option β):bK x.cells off (d :: ds) n k = bK [.int .i64 x.From,.int .i64 x.To,.int .i64 x.Sum,.int .i64 x.File,.int .i64 x.Part,.int .i64 x.Sign,.sl (cM aK.cells x.Rights)] off (d :: ds) n k:=rfl
theorem aE.rfull {β:Type} (x y:aE) (k:List D->Option β):bK x.cells 0 y.cells 7 k = k y.cells:=by unfold bK; exact (if_pos ⟨rfl,Nat.le_refl _⟩).trans rfl
theorem aE.get0 {β:Type} (x:aE) (k:D->Option β):cU x.cells 0 k = k (.int .i64 x.From):=rfl
theorem aE.get1 {β:Type} (x:aE) (k:D->Option β):cU x.cells 1 k = k (.int .i64 x.To):=rfl
theorem aE.get2 {β:Type} (x:aE) (k:D->Option β):cU x.cells 2 k = k (.int .i64 x.Sum):=rfl
theorem aE.get3 {β:Type} (x:aE) (k:D->Option β):cU x.cells 3 k = k (.int .i64 x.File):=rfl
theorem aE.get4 {β:Type} (x:aE) (k:D->Option β):cU x.cells 4 k = k (.int .i64 x.Part):=rfl
theorem aE.get5 {β:Type} (x:aE) (k:D->Option β):cU x.cells 5 k = k (.int .i64 x.Sign):=rfl
theorem aE.get6 {β:Type} (x:aE) (k:D->Option β):cU x.cells 6 k = k (.sl (cM aK.cells x.Rights)):=rfl
theorem aE.sub0_7 {β:Type} (x:aE) (k:List D->Option β):vD x.cells 0 7 k = k x.cells:=rfl
theorem aE.cells_mk (f0 f1 f2 f3 f4 f5:Int) (f6:List aK):aE.cells (aE.mk f0 f1 f2 f3 f4 f5 f6) = [.int .i64 f0,.int .i64 f1,.int .i64 f2,.int .i64 f3,.int .i64 f4,.int .i64 f5,.sl (cM aK.cells f6)]:=rfl
structure aI where
 From:Int
 To:Int
 Sum:Int
 deriving Inhabited
def aI.cells (x:aI):List D:=[.int .i64 x.From,.int .i64 x.To,.int .i64 x.Sum]
theorem aI.sized (xs:List aI):sized 3 (cM aI.cells xs) = true:=kY _ _ (fun x=>by rfl) xs
theorem aI.len (x:aI):x.cells.length = 3:=rfl
theorem aI.size {β:Type} (x:aI) (y:Option β):oR x.cells 3 y = y:=rfl
theorem aI.eq1 {β:Type} (x:aI) (ks:List Nat) (ys:List V) (k:Bool->Option β):iI ks (aO x.cells) ys k = iI ks [.d (.int .i64 x.From),.d (.int .i64 x.To),.d (.int .i64 x.Sum)] ys k:=rfl
theorem aI.eq2 {β:Type} (x:aI) (ks:List Nat) (ys:List V) (k:Bool->Option β):iI ks ys (aO x.cells) k = iI ks ys [.d (.int .i64 x.From),.d (.int .i64 x.To),.d (.int .i64 x.Sum)] k:=rfl
theorem aI.lens {β:Type} (x:aI) (y:Option β):xI (aO x.cells) 3 y = y:=rfl
theorem aI.vsets {β:Type} (x:aI) (z:List V) (o:Nat) (k:List V->Option β):gQ z o (aO x.cells) k = gQ z o [.d (.int .i64 x.From),.d (.int .i64 x.To),.d (.int .i64 x.Sum)] k:=rfl
theorem aI.st_d {β:Type} (x:aI) (y:D) (sz off id:Nat) (kw:V->List (Nat × Option aJ)->Option β):aL sz off id (.d y) (some (.box (aO x.cells))) kw = aL sz off id (.d y) (some (.box [.d (.int .i64 x.From),.d (.int .i64 x.To),.d (.int .i64 x.Sum)])) kw:=rfl
theorem aI.st_nil {β:Type} (x:aI)  (sz off id:Nat) (kw:V->List (Nat × Option aJ)->Option β):aL sz off id .nil (some (.box (aO x.cells))) kw = aL sz off id .nil (some (.box [.d (.int .i64 x.From),.d (.int .i64 x.To),.d (.int .i64 x.Sum)])) kw:=rfl
theorem aI.st_own {β:Type} (x:aI) (i v sz off id:Nat) (kw:V->List (Nat × Option aJ)->Option β):aL sz off id (.own i v) (some (.box (aO x.cells))) kw = aL sz off id (.own i v) (some (.box [.d (.int .i64 x.From),.d (.int .i64 x.To),.d (.int .i64 x.Sum)])) kw:=rfl
theorem aI.st_agg {β:Type} (x:aI) (y:List V) (sz off id:Nat) (kw:V->List (Nat × Option aJ)->Option β):aL sz off id (.agg y) (some (.box (aO x.cells))) kw = aL sz off id (.agg y) (some (.box [.d (.int .i64 x.From),.d (.int .i64 x.To),.d (.int .i64 x.Sum)])) kw:=rfl
theorem aI.st_ptr {β:Type} (x:aI) (i v sz off id:Nat) (kw:V->List (Nat × Option aJ)->Option β):aL sz off id (.ptr i v) (some (.box (aO x.cells))) kw = aL sz off id (.ptr i v) (some (.box [.d (.int .i64 x.From),.d (.int .i64 x.To),.d (.int .i64 x.Sum)])) kw:=rfl
theorem aI.part {β:Type} (x:aI) (off id:Nat) (b:Option aJ) (kw:V->List (Nat × Option aJ)->Option β):aL 3 (off + 1) id (iX x.cells) b kw = aL 3 (off + 1) id (.agg [.d (.int .i64 x.From),.d (.int .i64 x.To),.d (.int .i64 x.Sum)]) b kw:=rfl
theorem aI.put {β:Type} (x:aI) (id:Nat) (cs:List V) (hc:cs.length = 3) (kw:V->List (Nat × Option aJ)->Option β):aL 3 0 id (iX x.cells) (some (.box cs)) kw = kw .any [(id,some (.box (aO x.cells)))]:=iV 3 id _ rfl cs hc
theorem aI.rset {β:Type} (x:aI) (off:Nat) (d:D) (ds:List D) (n:Nat) (k:List D->Option β):bK x.cells off (d :: ds) n k = bK [.int .i64 x.From,.int .i64 x.To,.int .i64 x.Sum] off (d :: ds) n k:=rfl
theorem aI.rfull {β:Type} (x y:aI) (k:List D->Option β):bK x.cells 0 y.cells 3 k = k y.cells:=by unfold bK; exact (if_pos ⟨rfl,Nat.le_refl _⟩).trans rfl
theorem aI.get0 {β:Type} (x:aI) (k:D->Option β):cU x.cells 0 k = k (.int .i64 x.From):=rfl
theorem aI.get1 {β:Type} (x:aI) (k:D->Option β):cU x.cells 1 k = k (.int .i64 x.To):=rfl
theorem aI.get2 {β:Type} (x:aI) (k:D->Option β):cU x.cells 2 k = k (.int .i64 x.Sum):=rfl
theorem aI.sub0_3 {β:Type} (x:aI) (k:List D->Option β):vD x.cells 0 3 k = k x.cells:=rfl
theorem aI.cells_mk (f0 f1 f2:Int):aI.cells (aI.mk f0 f1 f2) = [.int .i64 f0,.int .i64 f1,.int .i64 f2]:=rfl
structure aC where
 due:Int
 from_:Int
 to:Int
 cost:Int
 most:Int
 back:Bool
 deriving Inhabited
def aC.cells (x:aC):List D:=[.int .i64 x.due,.int .i64 x.from_,.int .i64 x.to,.int .i64 x.cost,.int .i64 x.most,.bool x.back]
theorem aC.sized (xs:List aC):sized 6 (cM aC.cells xs) = true:=kY _ _ (fun x=>by rfl) xs
theorem aC.len (x:aC):x.cells.length = 6:=rfl
theorem aC.size {β:Type} (x:aC) (y:Option β):oR x.cells 6 y = y:=rfl
theorem aC.eq1 {β:Type} (x:aC) (ks:List Nat) (ys:List V) (k:Bool->Option β):iI ks (aO x.cells) ys k = iI ks [.d (.int .i64 x.due),.d (.int .i64 x.from_),.d (.int .i64 x.to),.d (.int .i64 x.cost),.d (.int .i64 x.most),.d (.bool x.back)] ys k:=rfl
theorem aC.eq2 {β:Type} (x:aC) (ks:List Nat) (ys:List V) (k:Bool->Option β):iI ks ys (aO x.cells) k = iI ks ys [.d (.int .i64 x.due),.d (.int .i64 x.from_),.d (.int .i64 x.to),.d (.int .i64 x.cost),.d (.int .i64 x.most),.d (.bool x.back)] k:=rfl
theorem aC.lens {β:Type} (x:aC) (y:Option β):xI (aO x.cells) 6 y = y:=rfl
theorem aC.vsets {β:Type} (x:aC) (z:List V) (o:Nat) (k:List V->Option β):gQ z o (aO x.cells) k = gQ z o [.d (.int .i64 x.due),.d (.int .i64 x.from_),.d (.int .i64 x.to),.d (.int .i64 x.cost),.d (.int .i64 x.most),.d (.bool x.back)] k:=rfl
theorem aC.st_d {β:Type} (x:aC) (y:D) (sz off id:Nat) (kw:V->List (Nat × Option aJ)->Option β):aL sz off id (.d y) (some (.box (aO x.cells))) kw = aL sz off id (.d y) (some (.box [.d (.int .i64 x.due),.d (.int .i64 x.from_),.d (.int .i64 x.to),.d (.int .i64 x.cost),.d (.int .i64 x.most),.d (.bool x.back)])) kw:=rfl
theorem aC.st_nil {β:Type} (x:aC)  (sz off id:Nat) (kw:V->List (Nat × Option aJ)->Option β):aL sz off id .nil (some (.box (aO x.cells))) kw = aL sz off id .nil (some (.box [.d (.int .i64 x.due),.d (.int .i64 x.from_),.d (.int .i64 x.to),.d (.int .i64 x.cost),.d (.int .i64 x.most),.d (.bool x.back)])) kw:=rfl
theorem aC.st_own {β:Type} (x:aC) (i v sz off id:Nat) (kw:V->List (Nat × Option aJ)->Option β):aL sz off id (.own i v) (some (.box (aO x.cells))) kw = aL sz off id (.own i v) (some (.box [.d (.int .i64 x.due),.d (.int .i64 x.from_),.d (.int .i64 x.to),.d (.int .i64 x.cost),.d (.int .i64 x.most),.d (.bool x.back)])) kw:=rfl
theorem aC.st_agg {β:Type} (x:aC) (y:List V) (sz off id:Nat) (kw:V->List (Nat × Option aJ)->Option β):aL sz off id (.agg y) (some (.box (aO x.cells))) kw = aL sz off id (.agg y) (some (.box [.d (.int .i64 x.due),.d (.int .i64 x.from_),.d (.int .i64 x.to),.d (.int .i64 x.cost),.d (.int .i64 x.most),.d (.bool x.back)])) kw:=rfl
theorem aC.st_ptr {β:Type} (x:aC) (i v sz off id:Nat) (kw:V->List (Nat × Option aJ)->Option β):aL sz off id (.ptr i v) (some (.box (aO x.cells))) kw = aL sz off id (.ptr i v) (some (.box [.d (.int .i64 x.due),.d (.int .i64 x.from_),.d (.int .i64 x.to),.d (.int .i64 x.cost),.d (.int .i64 x.most),.d (.bool x.back)])) kw:=rfl
theorem aC.part {β:Type} (x:aC) (off id:Nat) (b:Option aJ) (kw:V->List (Nat × Option aJ)->Option β):aL 6 (off + 1) id (iX x.cells) b kw = aL 6 (off + 1) id (.agg [.d (.int .i64 x.due),.d (.int .i64 x.from_),.d (.int .i64 x.to),.d (.int .i64 x.cost),.d (.int .i64 x.most),.d (.bool x.back)]) b kw:=rfl
theorem aC.put {β:Type} (x:aC) (id:Nat) (cs:List V) (hc:cs.length = 6) (kw:V->List (Nat × Option aJ)->Option β):aL 6 0 id (iX x.cells) (some (.box cs)) kw = kw .any [(id,some (.box (aO x.cells)))]:=iV 6 id _ rfl cs hc
theorem aC.rset {β:Type} (x:aC) (off:Nat) (d:D) (ds:List D) (n:Nat) (k:List D->Option β):bK x.cells off (d :: ds) n k = bK [.int .i64 x.due,.int .i64 x.from_,.int .i64 x.to,.int .i64 x.cost,.int .i64 x.most,.bool x.back] off (d :: ds) n k:=rfl
theorem aC.rfull {β:Type} (x y:aC) (k:List D->Option β):bK x.cells 0 y.cells 6 k = k y.cells:=by unfold bK; exact (if_pos ⟨rfl,Nat.le_refl _⟩).trans rfl
theorem aC.get0 {β:Type} (x:aC) (k:D->Option β):cU x.cells 0 k = k (.int .i64 x.due):=rfl
theorem aC.get1 {β:Type} (x:aC) (k:D->Option β):cU x.cells 1 k = k (.int .i64 x.from_):=rfl
theorem aC.get2 {β:Type} (x:aC) (k:D->Option β):cU x.cells 2 k = k (.int .i64 x.to):=rfl
theorem aC.get3 {β:Type} (x:aC) (k:D->Option β):cU x.cells 3 k = k (.int .i64 x.cost):=rfl
theorem aC.get4 {β:Type} (x:aC) (k:D->Option β):cU x.cells 4 k = k (.int .i64 x.most):=rfl
theorem aC.get5 {β:Type} (x:aC) (k:D->Option β):cU x.cells 5 k = k (.bool x.back):=rfl
theorem aC.sub0_6 {β:Type} (x:aC) (k:List D->Option β):vD x.cells 0 6 k = k x.cells:=rfl
theorem aC.cells_mk (f0 f1 f2 f3 f4:Int) (f5:Bool):aC.cells (aC.mk f0 f1 f2 f3 f4 f5) = [.int .i64 f0,.int .i64 f1,.int .i64 f2,.int .i64 f3,.int .i64 f4,.bool f5]:=rfl
structure aD where
 c:Int
 steps:Int
 fine:Bool
 deriving Inhabited
def aD.cells (x:aD):List D:=[.int .i64 x.c,.int .i64 x.steps,.bool x.fine]
theorem aD.sized (xs:List aD):sized 3 (cM aD.cells xs) = true:=kY _ _ (fun x=>by rfl) xs
theorem aD.len (x:aD):x.cells.length = 3:=rfl
theorem aD.size {β:Type} (x:aD) (y:Option β):oR x.cells 3 y = y:=rfl
theorem aD.eq1 {β:Type} (x:aD) (ks:List Nat) (ys:List V) (k:Bool->Option β):iI ks (aO x.cells) ys k = iI ks [.d (.int .i64 x.c),.d (.int .i64 x.steps),.d (.bool x.fine)] ys k:=rfl
theorem aD.eq2 {β:Type} (x:aD) (ks:List Nat) (ys:List V) (k:Bool->Option β):iI ks ys (aO x.cells) k = iI ks ys [.d (.int .i64 x.c),.d (.int .i64 x.steps),.d (.bool x.fine)] k:=rfl
theorem aD.lens {β:Type} (x:aD) (y:Option β):xI (aO x.cells) 3 y = y:=rfl
theorem aD.vsets {β:Type} (x:aD) (z:List V) (o:Nat) (k:List V->Option β):gQ z o (aO x.cells) k = gQ z o [.d (.int .i64 x.c),.d (.int .i64 x.steps),.d (.bool x.fine)] k:=rfl
theorem aD.st_d {β:Type} (x:aD) (y:D) (sz off id:Nat) (kw:V->List (Nat × Option aJ)->Option β):aL sz off id (.d y) (some (.box (aO x.cells))) kw = aL sz off id (.d y) (some (.box [.d (.int .i64 x.c),.d (.int .i64 x.steps),.d (.bool x.fine)])) kw:=rfl
theorem aD.st_nil {β:Type} (x:aD)  (sz off id:Nat) (kw:V->List (Nat × Option aJ)->Option β):aL sz off id .nil (some (.box (aO x.cells))) kw = aL sz off id .nil (some (.box [.d (.int .i64 x.c),.d (.int .i64 x.steps),.d (.bool x.fine)])) kw:=rfl
theorem aD.st_own {β:Type} (x:aD) (i v sz off id:Nat) (kw:V->List (Nat × Option aJ)->Option β):aL sz off id (.own i v) (some (.box (aO x.cells))) kw = aL sz off id (.own i v) (some (.box [.d (.int .i64 x.c),.d (.int .i64 x.steps),.d (.bool x.fine)])) kw:=rfl
theorem aD.st_agg {β:Type} (x:aD) (y:List V) (sz off id:Nat) (kw:V->List (Nat × Option aJ)->Option β):aL sz off id (.agg y) (some (.box (aO x.cells))) kw = aL sz off id (.agg y) (some (.box [.d (.int .i64 x.c),.d (.int .i64 x.steps),.d (.bool x.fine)])) kw:=rfl
theorem aD.st_ptr {β:Type} (x:aD) (i v sz off id:Nat) (kw:V->List (Nat × Option aJ)->Option β):aL sz off id (.ptr i v) (some (.box (aO x.cells))) kw = aL sz off id (.ptr i v) (some (.box [.d (.int .i64 x.c),.d (.int .i64 x.steps),.d (.bool x.fine)])) kw:=rfl
theorem aD.part {β:Type} (x:aD) (off id:Nat) (b:Option aJ) (kw:V->List (Nat × Option aJ)->Option β):aL 3 (off + 1) id (iX x.cells) b kw = aL 3 (off + 1) id (.agg [.d (.int .i64 x.c),.d (.int .i64 x.steps),.d (.bool x.fine)]) b kw:=rfl
theorem aD.put {β:Type} (x:aD) (id:Nat) (cs:List V) (hc:cs.length = 3) (kw:V->List (Nat × Option aJ)->Option β):aL 3 0 id (iX x.cells) (some (.box cs)) kw = kw .any [(id,some (.box (aO x.cells)))]:=iV 3 id _ rfl cs hc
theorem aD.rset {β:Type} (x:aD) (off:Nat) (d:D) (ds:List D) (n:Nat) (k:List D->Option β):bK x.cells off (d :: ds) n k = bK [.int .i64 x.c,.int .i64 x.steps,.bool x.fine] off (d :: ds) n k:=rfl
theorem aD.rfull {β:Type} (x y:aD) (k:List D->Option β):bK x.cells 0 y.cells 3 k = k y.cells:=by unfold bK; exact (if_pos ⟨rfl,Nat.le_refl _⟩).trans rfl
theorem aD.get0 {β:Type} (x:aD) (k:D->Option β):cU x.cells 0 k = k (.int .i64 x.c):=rfl
theorem aD.get1 {β:Type} (x:aD) (k:D->Option β):cU x.cells 1 k = k (.int .i64 x.steps):=rfl
theorem aD.get2 {β:Type} (x:aD) (k:D->Option β):cU x.cells 2 k = k (.bool x.fine):=rfl
theorem aD.sub0_3 {β:Type} (x:aD) (k:List D->Option β):vD x.cells 0 3 k = k x.cells:=rfl
theorem aD.cells_mk (f0 f1:Int) (f2:Bool):aD.cells (aD.mk f0 f1 f2) = [.int .i64 f0,.int .i64 f1,.bool f2]:=rfl
structure aW where
 Kind:Int
 Who:Int
 To:Int
 Part:Int
 At:Int
 Sum:Int
 Day:Int
 City:Int
 Form:Int
 deriving Inhabited
def aW.cells (x:aW):List D:=[.int .i64 x.Kind,.int .i64 x.Who,.int .i64 x.To,.int .i64 x.Part,.int .i64 x.At,.int .i64 x.Sum,.int .i64 x.Day,.int .i64 x.City,.int .i64 x.Form]
theorem aW.sized (xs:List aW):sized 9 (cM aW.cells xs) = true:=kY _ _ (fun x=>by rfl) xs
theorem aW.len (x:aW):x.cells.length = 9:=rfl
theorem aW.size {β:Type} (x:aW) (y:Option β):oR x.cells 9 y = y:=rfl
theorem aW.eq1 {β:Type} (x:aW) (ks:List Nat) (ys:List V) (k:Bool->Option β):iI ks (aO x.cells) ys k = iI ks [.d (.int .i64 x.Kind),.d (.int .i64 x.Who),.d (.int .i64 x.To),.d (.int .i64 x.Part),.d (.int .i64 x.At),.d (.int .i64 x.Sum),.d (.int .i64 x.Day),.d (.int .i64 x.City),.d (.int .i64 x.Form)] ys k:=rfl
theorem aW.eq2 {β:Type} (x:aW) (ks:List Nat) (ys:List V) (k:Bool->Option β):iI ks ys (aO x.cells) k = iI ks ys [.d (.int .i64 x.Kind),.d (.int .i64 x.Who),.d (.int .i64 x.To),.d (.int .i64 x.Part),.d (.int .i64 x.At),.d (.int .i64 x.Sum),.d (.int .i64 x.Day),.d (.int .i64 x.City),.d (.int .i64 x.Form)] k:=rfl
theorem aW.lens {β:Type} (x:aW) (y:Option β):xI (aO x.cells) 9 y = y:=rfl
theorem aW.vsets {β:Type} (x:aW) (z:List V) (o:Nat) (k:List V->Option β):gQ z o (aO x.cells) k = gQ z o [.d (.int .i64 x.Kind),.d (.int .i64 x.Who),.d (.int .i64 x.To),.d (.int .i64 x.Part),.d (.int .i64 x.At),.d (.int .i64 x.Sum),.d (.int .i64 x.Day),.d (.int .i64 x.City),.d (.int .i64 x.Form)] k:=rfl
theorem aW.st_d {β:Type} (x:aW) (y:D) (sz off id:Nat) (kw:V->List (Nat × Option aJ)->Option β):aL sz off id (.d y) (some (.box (aO x.cells))) kw = aL sz off id (.d y) (some (.box [.d (.int .i64 x.Kind),.d (.int .i64 x.Who),.d (.int .i64 x.To),.d (.int .i64 x.Part),.d (.int .i64 x.At),.d (.int .i64 x.Sum),.d (.int .i64 x.Day),.d (.int .i64 x.City),.d (.int .i64 x.Form)])) kw:=rfl
theorem aW.st_nil {β:Type} (x:aW)  (sz off id:Nat) (kw:V->List (Nat × Option aJ)->Option β):aL sz off id .nil (some (.box (aO x.cells))) kw = aL sz off id .nil (some (.box [.d (.int .i64 x.Kind),.d (.int .i64 x.Who),.d (.int .i64 x.To),.d (.int .i64 x.Part),.d (.int .i64 x.At),.d (.int .i64 x.Sum),.d (.int .i64 x.Day),.d (.int .i64 x.City),.d (.int .i64 x.Form)])) kw:=rfl
theorem aW.st_own {β:Type} (x:aW) (i v sz off id:Nat) (kw:V->List (Nat × Option aJ)->Option β):aL sz off id (.own i v) (some (.box (aO x.cells))) kw = aL sz off id (.own i v) (some (.box [.d (.int .i64 x.Kind),.d (.int .i64 x.Who),.d (.int .i64 x.To),.d (.int .i64 x.Part),.d (.int .i64 x.At),.d (.int .i64 x.Sum),.d (.int .i64 x.Day),.d (.int .i64 x.City),.d (.int .i64 x.Form)])) kw:=rfl
theorem aW.st_agg {β:Type} (x:aW) (y:List V) (sz off id:Nat) (kw:V->List (Nat × Option aJ)->Option β):aL sz off id (.agg y) (some (.box (aO x.cells))) kw = aL sz off id (.agg y) (some (.box [.d (.int .i64 x.Kind),.d (.int .i64 x.Who),.d (.int .i64 x.To),.d (.int .i64 x.Part),.d (.int .i64 x.At),.d (.int .i64 x.Sum),.d (.int .i64 x.Day),.d (.int .i64 x.City),.d (.int .i64 x.Form)])) kw:=rfl
theorem aW.st_ptr {β:Type} (x:aW) (i v sz off id:Nat) (kw:V->List (Nat × Option aJ)->Option β):aL sz off id (.ptr i v) (some (.box (aO x.cells))) kw = aL sz off id (.ptr i v) (some (.box [.d (.int .i64 x.Kind),.d (.int .i64 x.Who),.d (.int .i64 x.To),.d (.int .i64 x.Part),.d (.int .i64 x.At),.d (.int .i64 x.Sum),.d (.int .i64 x.Day),.d (.int .i64 x.City),.d (.int .i64 x.Form)])) kw:=rfl
theorem aW.part {β:Type} (x:aW) (off id:Nat) (b:Option aJ) (kw:V->List (Nat × Option aJ)->Option β):aL 9 (off + 1) id (iX x.cells) b kw = aL 9 (off + 1) id (.agg [.d (.int .i64 x.Kind),.d (.int .i64 x.Who),.d (.int .i64 x.To),.d (.int .i64 x.Part),.d (.int .i64 x.At),.d (.int .i64 x.Sum),.d (.int .i64 x.Day),.d (.int .i64 x.City),.d (.int .i64 x.Form)]) b kw:=rfl
theorem aW.put {β:Type} (x:aW) (id:Nat) (cs:List V) (hc:cs.length = 9) (kw:V->List (Nat × Option aJ)->Option β):aL 9 0 id (iX x.cells) (some (.box cs)) kw = kw .any [(id,some (.box (aO x.cells)))]:=iV 9 id _ rfl cs hc
theorem aW.rset {β:Type} (x:aW) (off:Nat) (d:D) (ds:List D) (n:Nat) (k:List D->Option β):bK x.cells off (d :: ds) n k = bK [.int .i64 x.Kind,.int .i64 x.Who,.int .i64 x.To,.int .i64 x.Part,.int .i64 x.At,.int .i64 x.Sum,.int .i64 x.Day,.int .i64 x.City,.int .i64 x.Form] off (d :: ds) n k:=rfl
theorem aW.rfull {β:Type} (x y:aW) (k:List D->Option β):bK x.cells 0 y.cells 9 k = k y.cells:=by unfold bK; exact (if_pos ⟨rfl,Nat.le_refl _⟩).trans rfl
theorem aW.get0 {β:Type} (x:aW) (k:D->Option β):cU x.cells 0 k = k (.int .i64 x.Kind):=rfl
theorem aW.get1 {β:Type} (x:aW) (k:D->Option β):cU x.cells 1 k = k (.int .i64 x.Who):=rfl
theorem aW.get2 {β:Type} (x:aW) (k:D->Option β):cU x.cells 2 k = k (.int .i64 x.To):=rfl
theorem aW.get3 {β:Type} (x:aW) (k:D->Option β):cU x.cells 3 k = k (.int .i64 x.Part):=rfl
theorem aW.get4 {β:Type} (x:aW) (k:D->Option β):cU x.cells 4 k = k (.int .i64 x.At):=rfl
theorem aW.get5 {β:Type} (x:aW) (k:D->Option β):cU x.cells 5 k = k (.int .i64 x.Sum):=rfl
theorem aW.get6 {β:Type} (x:aW) (k:D->Option β):cU x.cells 6 k = k (.int .i64 x.Day):=rfl
theorem aW.get7 {β:Type} (x:aW) (k:D->Option β):cU x.cells 7 k = k (.int .i64 x.City):=rfl
theorem aW.get8 {β:Type} (x:aW) (k:D->Option β):cU x.cells 8 k = k (.int .i64 x.Form):=rfl
theorem aW.sub0_9 {β:Type} (x:aW) (k:List D->Option β):vD x.cells 0 9 k = k x.cells:=rfl
theorem aW.cells_mk (f0 f1 f2 f3 f4 f5 f6 f7 f8:Int):aW.cells (aW.mk f0 f1 f2 f3 f4 f5 f6 f7 f8) = [.int .i64 f0,.int .i64 f1,.int .i64 f2,.int .i64 f3,.int .i64 f4,.int .i64 f5,.int .i64 f6,.int .i64 f7,.int .i64 f8]:=rfl
structure aG where
 Debtor:Int
 Creditor:Int
 Part:Int
 Sign:Int
 By:Int
 Turn:Int
 Sum:Int
 Currency:Int
 State:Int
 deriving Inhabited
def aG.cells (x:aG):List D:=[.int .i64 x.Debtor,.int .i64 x.Creditor,.int .i64 x.Part,.int .i64 x.Sign,.int .i64 x.By,.int .i64 x.Turn,.int .i64 x.Sum,.int .i64 x.Currency,.int .i64 x.State]
theorem aG.sized (xs:List aG):sized 9 (cM aG.cells xs) = true:=kY _ _ (fun x=>by rfl) xs
theorem aG.len (x:aG):x.cells.length = 9:=rfl
theorem aG.size {β:Type} (x:aG) (y:Option β):oR x.cells 9 y = y:=rfl
theorem aG.eq1 {β:Type} (x:aG) (ks:List Nat) (ys:List V) (k:Bool->Option β):iI ks (aO x.cells) ys k = iI ks [.d (.int .i64 x.Debtor),.d (.int .i64 x.Creditor),.d (.int .i64 x.Part),.d (.int .i64 x.Sign),.d (.int .i64 x.By),.d (.int .i64 x.Turn),.d (.int .i64 x.Sum),.d (.int .i64 x.Currency),.d (.int .i64 x.State)] ys k:=rfl
theorem aG.eq2 {β:Type} (x:aG) (ks:List Nat) (ys:List V) (k:Bool->Option β):iI ks ys (aO x.cells) k = iI ks ys [.d (.int .i64 x.Debtor),.d (.int .i64 x.Creditor),.d (.int .i64 x.Part),.d (.int .i64 x.Sign),.d (.int .i64 x.By),.d (.int .i64 x.Turn),.d (.int .i64 x.Sum),.d (.int .i64 x.Currency),.d (.int .i64 x.State)] k:=rfl
theorem aG.lens {β:Type} (x:aG) (y:Option β):xI (aO x.cells) 9 y = y:=rfl
theorem aG.vsets {β:Type} (x:aG) (z:List V) (o:Nat) (k:List V->Option β):gQ z o (aO x.cells) k = gQ z o [.d (.int .i64 x.Debtor),.d (.int .i64 x.Creditor),.d (.int .i64 x.Part),.d (.int .i64 x.Sign),.d (.int .i64 x.By),.d (.int .i64 x.Turn),.d (.int .i64 x.Sum),.d (.int .i64 x.Currency),.d (.int .i64 x.State)] k:=rfl
theorem aG.st_d {β:Type} (x:aG) (y:D) (sz off id:Nat) (kw:V->List (Nat × Option aJ)->Option β):aL sz off id (.d y) (some (.box (aO x.cells))) kw = aL sz off id (.d y) (some (.box [.d (.int .i64 x.Debtor),.d (.int .i64 x.Creditor),.d (.int .i64 x.Part),.d (.int .i64 x.Sign),.d (.int .i64 x.By),.d (.int .i64 x.Turn),.d (.int .i64 x.Sum),.d (.int .i64 x.Currency),.d (.int .i64 x.State)])) kw:=rfl
theorem aG.st_nil {β:Type} (x:aG)  (sz off id:Nat) (kw:V->List (Nat × Option aJ)->Option β):aL sz off id .nil (some (.box (aO x.cells))) kw = aL sz off id .nil (some (.box [.d (.int .i64 x.Debtor),.d (.int .i64 x.Creditor),.d (.int .i64 x.Part),.d (.int .i64 x.Sign),.d (.int .i64 x.By),.d (.int .i64 x.Turn),.d (.int .i64 x.Sum),.d (.int .i64 x.Currency),.d (.int .i64 x.State)])) kw:=rfl
theorem aG.st_own {β:Type} (x:aG) (i v sz off id:Nat) (kw:V->List (Nat × Option aJ)->Option β):aL sz off id (.own i v) (some (.box (aO x.cells))) kw = aL sz off id (.own i v) (some (.box [.d (.int .i64 x.Debtor),.d (.int .i64 x.Creditor),.d (.int .i64 x.Part),.d (.int .i64 x.Sign),.d (.int .i64 x.By),.d (.int .i64 x.Turn),.d (.int .i64 x.Sum),.d (.int .i64 x.Currency),.d (.int .i64 x.State)])) kw:=rfl
theorem aG.st_agg {β:Type} (x:aG) (y:List V) (sz off id:Nat) (kw:V->List (Nat × Option aJ)->Option β):aL sz off id (.agg y) (some (.box (aO x.cells))) kw = aL sz off id (.agg y) (some (.box [.d (.int .i64 x.Debtor),.d (.int .i64 x.Creditor),.d (.int .i64 x.Part),.d (.int .i64 x.Sign),.d (.int .i64 x.By),.d (.int .i64 x.Turn),.d (.int .i64 x.Sum),.d (.int .i64 x.Currency),.d (.int .i64 x.State)])) kw:=rfl
theorem aG.st_ptr {β:Type} (x:aG) (i v sz off id:Nat) (kw:V->List (Nat × Option aJ)->Option β):aL sz off id (.ptr i v) (some (.box (aO x.cells))) kw = aL sz off id (.ptr i v) (some (.box [.d (.int .i64 x.Debtor),.d (.int .i64 x.Creditor),.d (.int .i64 x.Part),.d (.int .i64 x.Sign),.d (.int .i64 x.By),.d (.int .i64 x.Turn),.d (.int .i64 x.Sum),.d (.int .i64 x.Currency),.d (.int .i64 x.State)])) kw:=rfl
theorem aG.part {β:Type} (x:aG) (off id:Nat) (b:Option aJ) (kw:V->List (Nat × Option aJ)->Option β):aL 9 (off + 1) id (iX x.cells) b kw = aL 9 (off + 1) id (.agg [.d (.int .i64 x.Debtor),.d (.int .i64 x.Creditor),.d (.int .i64 x.Part),.d (.int .i64 x.Sign),.d (.int .i64 x.By),.d (.int .i64 x.Turn),.d (.int .i64 x.Sum),.d (.int .i64 x.Currency),.d (.int .i64 x.State)]) b kw:=rfl
theorem aG.put {β:Type} (x:aG) (id:Nat) (cs:List V) (hc:cs.length = 9) (kw:V->List (Nat × Option aJ)->Option β):aL 9 0 id (iX x.cells) (some (.box cs)) kw = kw .any [(id,some (.box (aO x.cells)))]:=iV 9 id _ rfl cs hc
theorem aG.rset {β:Type} (x:aG) (off:Nat) (d:D) (ds:List D) (n:Nat) (k:List D->Option β):bK x.cells off (d :: ds) n k = bK [.int .i64 x.Debtor,.int .i64 x.Creditor,.int .i64 x.Part,.int .i64 x.Sign,.int .i64 x.By,.int .i64 x.Turn,.int .i64 x.Sum,.int .i64 x.Currency,.int .i64 x.State] off (d :: ds) n k:=rfl
theorem aG.rfull {β:Type} (x y:aG) (k:List D->Option β):bK x.cells 0 y.cells 9 k = k y.cells:=by unfold bK; exact (if_pos ⟨rfl,Nat.le_refl _⟩).trans rfl
theorem aG.get0 {β:Type} (x:aG) (k:D->Option β):cU x.cells 0 k = k (.int .i64 x.Debtor):=rfl
theorem aG.get1 {β:Type} (x:aG) (k:D->Option β):cU x.cells 1 k = k (.int .i64 x.Creditor):=rfl
theorem aG.get2 {β:Type} (x:aG) (k:D->Option β):cU x.cells 2 k = k (.int .i64 x.Part):=rfl
theorem aG.get3 {β:Type} (x:aG) (k:D->Option β):cU x.cells 3 k = k (.int .i64 x.Sign):=rfl
theorem aG.get4 {β:Type} (x:aG) (k:D->Option β):cU x.cells 4 k = k (.int .i64 x.By):=rfl
theorem aG.get5 {β:Type} (x:aG) (k:D->Option β):cU x.cells 5 k = k (.int .i64 x.Turn):=rfl
theorem aG.get6 {β:Type} (x:aG) (k:D->Option β):cU x.cells 6 k = k (.int .i64 x.Sum):=rfl
theorem aG.get7 {β:Type} (x:aG) (k:D->Option β):cU x.cells 7 k = k (.int .i64 x.Currency):=rfl
theorem aG.get8 {β:Type} (x:aG) (k:D->Option β):cU x.cells 8 k = k (.int .i64 x.State):=rfl
theorem aG.sub0_9 {β:Type} (x:aG) (k:List D->Option β):vD x.cells 0 9 k = k x.cells:=rfl
theorem aG.cells_mk (f0 f1 f2 f3 f4 f5 f6 f7 f8:Int):aG.cells (aG.mk f0 f1 f2 f3 f4 f5 f6 f7 f8) = [.int .i64 f0,.int .i64 f1,.int .i64 f2,.int .i64 f3,.int .i64 f4,.int .i64 f5,.int .i64 f6,.int .i64 f7,.int .i64 f8]:=rfl
structure aU where
 Debtor:Int
 Creditor:Int
 Sign:Int
 Sum:Int
 deriving Inhabited
def aU.cells (x:aU):List D:=[.int .i64 x.Debtor,.int .i64 x.Creditor,.int .i64 x.Sign,.int .i64 x.Sum]
theorem aU.sized (xs:List aU):sized 4 (cM aU.cells xs) = true:=kY _ _ (fun x=>by rfl) xs
theorem aU.len (x:aU):x.cells.length = 4:=rfl
theorem aU.size {β:Type} (x:aU) (y:Option β):oR x.cells 4 y = y:=rfl
theorem aU.eq1 {β:Type} (x:aU) (ks:List Nat) (ys:List V) (k:Bool->Option β):iI ks (aO x.cells) ys k = iI ks [.d (.int .i64 x.Debtor),.d (.int .i64 x.Creditor),.d (.int .i64 x.Sign),.d (.int .i64 x.Sum)] ys k:=rfl
theorem aU.eq2 {β:Type} (x:aU) (ks:List Nat) (ys:List V) (k:Bool->Option β):iI ks ys (aO x.cells) k = iI ks ys [.d (.int .i64 x.Debtor),.d (.int .i64 x.Creditor),.d (.int .i64 x.Sign),.d (.int .i64 x.Sum)] k:=rfl
theorem aU.lens {β:Type} (x:aU) (y:Option β):xI (aO x.cells) 4 y = y:=rfl
theorem aU.vsets {β:Type} (x:aU) (z:List V) (o:Nat) (k:List V->Option β):gQ z o (aO x.cells) k = gQ z o [.d (.int .i64 x.Debtor),.d (.int .i64 x.Creditor),.d (.int .i64 x.Sign),.d (.int .i64 x.Sum)] k:=rfl
theorem aU.st_d {β:Type} (x:aU) (y:D) (sz off id:Nat) (kw:V->List (Nat × Option aJ)->Option β):aL sz off id (.d y) (some (.box (aO x.cells))) kw = aL sz off id (.d y) (some (.box [.d (.int .i64 x.Debtor),.d (.int .i64 x.Creditor),.d (.int .i64 x.Sign),.d (.int .i64 x.Sum)])) kw:=rfl
theorem aU.st_nil {β:Type} (x:aU)  (sz off id:Nat) (kw:V->List (Nat × Option aJ)->Option β):aL sz off id .nil (some (.box (aO x.cells))) kw = aL sz off id .nil (some (.box [.d (.int .i64 x.Debtor),.d (.int .i64 x.Creditor),.d (.int .i64 x.Sign),.d (.int .i64 x.Sum)])) kw:=rfl
theorem aU.st_own {β:Type} (x:aU) (i v sz off id:Nat) (kw:V->List (Nat × Option aJ)->Option β):aL sz off id (.own i v) (some (.box (aO x.cells))) kw = aL sz off id (.own i v) (some (.box [.d (.int .i64 x.Debtor),.d (.int .i64 x.Creditor),.d (.int .i64 x.Sign),.d (.int .i64 x.Sum)])) kw:=rfl
theorem aU.st_agg {β:Type} (x:aU) (y:List V) (sz off id:Nat) (kw:V->List (Nat × Option aJ)->Option β):aL sz off id (.agg y) (some (.box (aO x.cells))) kw = aL sz off id (.agg y) (some (.box [.d (.int .i64 x.Debtor),.d (.int .i64 x.Creditor),.d (.int .i64 x.Sign),.d (.int .i64 x.Sum)])) kw:=rfl
theorem aU.st_ptr {β:Type} (x:aU) (i v sz off id:Nat) (kw:V->List (Nat × Option aJ)->Option β):aL sz off id (.ptr i v) (some (.box (aO x.cells))) kw = aL sz off id (.ptr i v) (some (.box [.d (.int .i64 x.Debtor),.d (.int .i64 x.Creditor),.d (.int .i64 x.Sign),.d (.int .i64 x.Sum)])) kw:=rfl
theorem aU.part {β:Type} (x:aU) (off id:Nat) (b:Option aJ) (kw:V->List (Nat × Option aJ)->Option β):aL 4 (off + 1) id (iX x.cells) b kw = aL 4 (off + 1) id (.agg [.d (.int .i64 x.Debtor),.d (.int .i64 x.Creditor),.d (.int .i64 x.Sign),.d (.int .i64 x.Sum)]) b kw:=rfl
theorem aU.put {β:Type} (x:aU) (id:Nat) (cs:List V) (hc:cs.length = 4) (kw:V->List (Nat × Option aJ)->Option β):aL 4 0 id (iX x.cells) (some (.box cs)) kw = kw .any [(id,some (.box (aO x.cells)))]:=iV 4 id _ rfl cs hc
theorem aU.rset {β:Type} (x:aU) (off:Nat) (d:D) (ds:List D) (n:Nat) (k:List D->Option β):bK x.cells off (d :: ds) n k = bK [.int .i64 x.Debtor,.int .i64 x.Creditor,.int .i64 x.Sign,.int .i64 x.Sum] off (d :: ds) n k:=rfl
theorem aU.rfull {β:Type} (x y:aU) (k:List D->Option β):bK x.cells 0 y.cells 4 k = k y.cells:=by unfold bK; exact (if_pos ⟨rfl,Nat.le_refl _⟩).trans rfl
theorem aU.get0 {β:Type} (x:aU) (k:D->Option β):cU x.cells 0 k = k (.int .i64 x.Debtor):=rfl
theorem aU.get1 {β:Type} (x:aU) (k:D->Option β):cU x.cells 1 k = k (.int .i64 x.Creditor):=rfl
theorem aU.get2 {β:Type} (x:aU) (k:D->Option β):cU x.cells 2 k = k (.int .i64 x.Sign):=rfl
theorem aU.get3 {β:Type} (x:aU) (k:D->Option β):cU x.cells 3 k = k (.int .i64 x.Sum):=rfl
theorem aU.sub0_4 {β:Type} (x:aU) (k:List D->Option β):vD x.cells 0 4 k = k x.cells:=rfl
theorem aU.cells_mk (f0 f1 f2 f3:Int):aU.cells (aU.mk f0 f1 f2 f3) = [.int .i64 f0,.int .i64 f1,.int .i64 f2,.int .i64 f3]:=rfl
structure aQ where
 debtor:Int
 creditor:Int
 part_:Int
 sign:Int
 by_:Int
 deriving Inhabited
def aQ.cells (x:aQ):List D:=[.int .i64 x.debtor,.int .i64 x.creditor,.int .i64 x.part_,.int .i64 x.sign,.int .i64 x.by_]
theorem aQ.sized (xs:List aQ):sized 5 (cM aQ.cells xs) = true:=kY _ _ (fun x=>by rfl) xs
theorem aQ.len (x:aQ):x.cells.length = 5:=rfl
theorem aQ.size {β:Type} (x:aQ) (y:Option β):oR x.cells 5 y = y:=rfl
theorem aQ.eq1 {β:Type} (x:aQ) (ks:List Nat) (ys:List V) (k:Bool->Option β):iI ks (aO x.cells) ys k = iI ks [.d (.int .i64 x.debtor),.d (.int .i64 x.creditor),.d (.int .i64 x.part_),.d (.int .i64 x.sign),.d (.int .i64 x.by_)] ys k:=rfl
theorem aQ.eq2 {β:Type} (x:aQ) (ks:List Nat) (ys:List V) (k:Bool->Option β):iI ks ys (aO x.cells) k = iI ks ys [.d (.int .i64 x.debtor),.d (.int .i64 x.creditor),.d (.int .i64 x.part_),.d (.int .i64 x.sign),.d (.int .i64 x.by_)] k:=rfl
theorem aQ.lens {β:Type} (x:aQ) (y:Option β):xI (aO x.cells) 5 y = y:=rfl
theorem aQ.vsets {β:Type} (x:aQ) (z:List V) (o:Nat) (k:List V->Option β):gQ z o (aO x.cells) k = gQ z o [.d (.int .i64 x.debtor),.d (.int .i64 x.creditor),.d (.int .i64 x.part_),.d (.int .i64 x.sign),.d (.int .i64 x.by_)] k:=rfl
theorem aQ.st_d {β:Type} (x:aQ) (y:D) (sz off id:Nat) (kw:V->List (Nat × Option aJ)->Option β):aL sz off id (.d y) (some (.box (aO x.cells))) kw = aL sz off id (.d y) (some (.box [.d (.int .i64 x.debtor),.d (.int .i64 x.creditor),.d (.int .i64 x.part_),.d (.int .i64 x.sign),.d (.int .i64 x.by_)])) kw:=rfl
theorem aQ.st_nil {β:Type} (x:aQ)  (sz off id:Nat) (kw:V->List (Nat × Option aJ)->Option β):aL sz off id .nil (some (.box (aO x.cells))) kw = aL sz off id .nil (some (.box [.d (.int .i64 x.debtor),.d (.int .i64 x.creditor),.d (.int .i64 x.part_),.d (.int .i64 x.sign),.d (.int .i64 x.by_)])) kw:=rfl
theorem aQ.st_own {β:Type} (x:aQ) (i v sz off id:Nat) (kw:V->List (Nat × Option aJ)->Option β):aL sz off id (.own i v) (some (.box (aO x.cells))) kw = aL sz off id (.own i v) (some (.box [.d (.int .i64 x.debtor),.d (.int .i64 x.creditor),.d (.int .i64 x.part_),.d (.int .i64 x.sign),.d (.int .i64 x.by_)])) kw:=rfl
theorem aQ.st_agg {β:Type} (x:aQ) (y:List V) (sz off id:Nat) (kw:V->List (Nat × Option aJ)->Option β):aL sz off id (.agg y) (some (.box (aO x.cells))) kw = aL sz off id (.agg y) (some (.box [.d (.int .i64 x.debtor),.d (.int .i64 x.creditor),.d (.int .i64 x.part_),.d (.int .i64 x.sign),.d (.int .i64 x.by_)])) kw:=rfl
theorem aQ.st_ptr {β:Type} (x:aQ) (i v sz off id:Nat) (kw:V->List (Nat × Option aJ)->Option β):aL sz off id (.ptr i v) (some (.box (aO x.cells))) kw = aL sz off id (.ptr i v) (some (.box [.d (.int .i64 x.debtor),.d (.int .i64 x.creditor),.d (.int .i64 x.part_),.d (.int .i64 x.sign),.d (.int .i64 x.by_)])) kw:=rfl
theorem aQ.part {β:Type} (x:aQ) (off id:Nat) (b:Option aJ) (kw:V->List (Nat × Option aJ)->Option β):aL 5 (off + 1) id (iX x.cells) b kw = aL 5 (off + 1) id (.agg [.d (.int .i64 x.debtor),.d (.int .i64 x.creditor),.d (.int .i64 x.part_),.d (.int .i64 x.sign),.d (.int .i64 x.by_)]) b kw:=rfl
theorem aQ.put {β:Type} (x:aQ) (id:Nat) (cs:List V) (hc:cs.length = 5) (kw:V->List (Nat × Option aJ)->Option β):aL 5 0 id (iX x.cells) (some (.box cs)) kw = kw .any [(id,some (.box (aO x.cells)))]:=iV 5 id _ rfl cs hc
theorem aQ.rset {β:Type} (x:aQ) (off:Nat) (d:D) (ds:List D) (n:Nat) (k:List D->Option β):bK x.cells off (d :: ds) n k = bK [.int .i64 x.debtor,.int .i64 x.creditor,.int .i64 x.part_,.int .i64 x.sign,.int .i64 x.by_] off (d :: ds) n k:=rfl
theorem aQ.rfull {β:Type} (x y:aQ) (k:List D->Option β):bK x.cells 0 y.cells 5 k = k y.cells:=by unfold bK; exact (if_pos ⟨rfl,Nat.le_refl _⟩).trans rfl
theorem aQ.get0 {β:Type} (x:aQ) (k:D->Option β):cU x.cells 0 k = k (.int .i64 x.debtor):=rfl
theorem aQ.get1 {β:Type} (x:aQ) (k:D->Option β):cU x.cells 1 k = k (.int .i64 x.creditor):=rfl
theorem aQ.get2 {β:Type} (x:aQ) (k:D->Option β):cU x.cells 2 k = k (.int .i64 x.part_):=rfl
theorem aQ.get3 {β:Type} (x:aQ) (k:D->Option β):cU x.cells 3 k = k (.int .i64 x.sign):=rfl
theorem aQ.get4 {β:Type} (x:aQ) (k:D->Option β):cU x.cells 4 k = k (.int .i64 x.by_):=rfl
theorem aQ.sub0_5 {β:Type} (x:aQ) (k:List D->Option β):vD x.cells 0 5 k = k x.cells:=rfl
theorem aQ.cells_mk (f0 f1 f2 f3 f4:Int):aQ.cells (aQ.mk f0 f1 f2 f3 f4) = [.int .i64 f0,.int .i64 f1,.int .i64 f2,.int .i64 f3,.int .i64 f4]:=rfl
theorem aRH {β:Type} (x:Int) (k:D->Option β):cU (cI x) 0 k = k (.int .i64 x):=rfl
theorem aOB {β:Type} (x:Int) (off:Nat) (d:D) (ds:List D) (n:Nat) (k:List D->Option β):bK (cI x) off (d :: ds) n k = bK [.int .i64 x] off (d :: ds) n k:=rfl
theorem aN7 {β:Type} (x:Int) (y:Option β):oR (cI x) 1 y = y:=rfl
theorem aRn {β:Type} (x:Bool) (k:D->Option β):cU (cB x) 0 k = k (.bool x):=rfl
theorem aOu {β:Type} (x:Bool) (off:Nat) (d:D) (ds:List D) (n:Nat) (k:List D->Option β):bK (cB x) off (d :: ds) n k = bK [.bool x] off (d :: ds) n k:=rfl
theorem aNY {β:Type} (x:Bool) (y:Option β):oR (cB x) 1 y = y:=rfl
theorem aQI {β:Type} (x:ByteArray) (k:D->Option β):cU (cS x) 0 k = k (.str x):=rfl
theorem aOv {β:Type} (x:ByteArray) (off:Nat) (d:D) (ds:List D) (n:Nat) (k:List D->Option β):bK (cS x) off (d :: ds) n k = bK [.str x] off (d :: ds) n k:=rfl
theorem aNR {β:Type} (x:ByteArray) (y:Option β):oR (cS x) 1 y = y:=rfl
theorem aML {β:Type} (x0:D) (y:Option β):oR [x0] 1 y = y:=rfl
theorem aO5 {β:Type} (x0 x1:D) (y:Option β):oR [x0,x1] 2 y = y:=rfl
theorem aOj {β:Type} (x0 x1 x2:D) (y:Option β):oR [x0,x1,x2] 3 y = y:=rfl
theorem aOt {β:Type} (x0 x1 x2 x3:D) (y:Option β):oR [x0,x1,x2,x3] 4 y = y:=rfl
theorem aOm {β:Type} (x0 x1 x2 x3 x4:D) (y:Option β):oR [x0,x1,x2,x3,x4] 5 y = y:=rfl
theorem aPO {β:Type} (x0 x1 x2 x3 x4 x5:D) (y:Option β):oR [x0,x1,x2,x3,x4,x5] 6 y = y:=rfl
theorem aMV {β:Type} (x0 x1 x2 x3 x4 x5 x6:D) (y:Option β):oR [x0,x1,x2,x3,x4,x5,x6] 7 y = y:=rfl
theorem aPi {β:Type} (x0 x1 x2 x3 x4 x5 x6 x7 x8:D) (y:Option β):oR [x0,x1,x2,x3,x4,x5,x6,x7,x8] 9 y = y:=rfl
theorem aRV {β:Type} (i:IntKind) (x:Int) (k:D->Option β):cU (cK i x) 0 k = k (.int i x):=rfl
theorem aNl {β:Type} (i:IntKind) (x:Int) (off:Nat) (d:D) (ds:List D) (n:Nat) (k:List D->Option β):bK (cK i x) off (d :: ds) n k = bK [.int i x] off (d :: ds) n k:=rfl
theorem aOZ {β α:Type} (c:α->List D) (x:List α) (off:Nat) (d:D) (ds:List D) (n:Nat) (k:List D->Option β):bK (cL c x) off (d :: ds) n k = bK [.sl (cM c x)] off (d :: ds) n k:=rfl
theorem aNu {β:Type} (i:IntKind) (x:Int) (y:Option β):oR (cK i x) 1 y = y:=rfl
theorem aRu {β α:Type} (c:α->List D) (x:List α) (k:D->Option β):cU (cL c x) 0 k = k (.sl (cM c x)):=rfl
theorem aNr {β α:Type} (c:α->List D) (x:List α) (y:Option β):oR (cL c x) 1 y = y:=rfl
theorem U9 {β:Type} {T:vZ} {d:Nat} {fr:List (Nat × V)} {bl:List (Nat × Option aJ)} {k:V->Option β} {kw:V->List (Nat × Option aJ)->Option β} (l cp:bL):rI T d (.makeSlice 114 3 24 [.int .i64 0,.int .i64 0,.bool false] l cp) fr bl k kw = bC bl d fun b=>fU b (bW fr l fun a=>bW fr cp fun b=>aO9 24 a b fun n=>kw (.own d 0) [(d,some (.rows 0 114 3 (cM aD.cells (List.replicate n (aD.mk 0 0 false)))))]):=aQl 114 3 24 [.int .i64 0,.int .i64 0,.bool false] aD.cells ((aD.mk 0 0 false):aD) rfl l cp
theorem aBc {β:Type} {T:vZ} {d:Nat} {fr:List (Nat × V)} {bl:List (Nat × Option aJ)} {k:V->Option β} {kw:V->List (Nat × Option aJ)->Option β} (l cp:bL):rI T d (.makeSlice 3 1 8 [.int .i64 0] l cp) fr bl k kw = bC bl d fun b=>fU b (bW fr l fun a=>bW fr cp fun b=>aO9 8 a b fun n=>kw (.own d 0) [(d,some (.rows 0 3 1 (cM cI (List.replicate n 0))))]):=aQl 3 1 8 [.int .i64 0] cI (0:Int) rfl l cp
theorem VY {β:Type} (k:List (List D)->Option β):M5 23 [] k = k (cM (cL cI) ([]:List (List Int))):=rfl
theorem RE {β:Type} (a0 a1:List Int) (k:List (List D)->Option β):M5 23 [[.sl (cM cI a0)],[.sl (cM cI a1)]] k = k (cM (cL cI) ([a0,a1]:List (List Int))):=rfl
theorem SW {β:Type} (a0:List Int) (k:List (List D)->Option β):M5 23 [[.sl (cM cI a0)]] k = k (cM (cL cI) ([a0]:List (List Int))):=rfl
theorem Q2 {β:Type} (k:List (List D)->Option β):M5 23 [[.sl []]] k = k (cM (cL cI) ([[]]:List (List Int))):=rfl
theorem Z2 {β:Type} (k:List (List D)->Option β):M5 3 [] k = k (cM cI ([]:List Int)):=rfl
theorem SU {β:Type} (a0 a1:Int) (k:List (List D)->Option β):M5 3 [[.int .i64 a0],[.int .i64 a1]] k = k (cM cI ([a0,a1]:List Int)):=rfl
theorem PH {β:Type} (a0 a1 a2 a3:Int) (k:List (List D)->Option β):M5 3 [[.int .i64 a0],[.int .i64 a1],[.int .i64 a2],[.int .i64 a3]] k = k (cM cI ([a0,a1,a2,a3]:List Int)):=rfl
theorem WP {β:Type} (a0:Int) (k:List (List D)->Option β):M5 3 [[.int .i64 a0]] k = k (cM cI ([a0]:List Int)):=rfl
theorem LF {β:Type} (a0_0 a0_1 a0_2 a0_3 a0_4 a0_5 a1_0 a1_1 a1_2 a1_3 a1_4 a1_5:Int) (a1_6:List aK) (a2_0 a2_1 a2_2 a2_3 a2_4 a2_5 a3_0 a3_1 a3_2 a3_3 a3_4 a3_5:Int) (a3_6:List aK) (k:List (List D)->Option β):M5 48 [[.int .i64 a0_0,.int .i64 a0_1,.int .i64 a0_2,.int .i64 a0_3,.int .i64 a0_4,.int .i64 a0_5,.sl []],[.int .i64 a1_0,.int .i64 a1_1,.int .i64 a1_2,.int .i64 a1_3,.int .i64 a1_4,.int .i64 a1_5,.sl (cM aK.cells a1_6)],[.int .i64 a2_0,.int .i64 a2_1,.int .i64 a2_2,.int .i64 a2_3,.int .i64 a2_4,.int .i64 a2_5,.sl []],[.int .i64 a3_0,.int .i64 a3_1,.int .i64 a3_2,.int .i64 a3_3,.int .i64 a3_4,.int .i64 a3_5,.sl (cM aK.cells a3_6)]] k = k (cM aE.cells ([(aE.mk a0_0 a0_1 a0_2 a0_3 a0_4 a0_5 []),(aE.mk a1_0 a1_1 a1_2 a1_3 a1_4 a1_5 a1_6),(aE.mk a2_0 a2_1 a2_2 a2_3 a2_4 a2_5 []),(aE.mk a3_0 a3_1 a3_2 a3_3 a3_4 a3_5 a3_6)]:List aE)):=rfl
theorem V5 {β:Type} (k:List (List D)->Option β):M5 54 [] k = k (cM aI.cells ([]:List aI)):=rfl
theorem S5 {β:Type} (a0_0 a0_1 a0_2:Int) (k:List (List D)->Option β):M5 54 [[.int .i64 a0_0,.int .i64 a0_1,.int .i64 a0_2]] k = k (cM aI.cells ([(aI.mk a0_0 a0_1 a0_2)]:List aI)):=rfl
theorem SY {β:Type} (a0:aI) (k:List (List D)->Option β):M5 54 [aI.cells a0] k = k (cM aI.cells ([a0]:List aI)):=rfl
theorem S0 {β:Type} (a0_0 a0_1 a0_2 a0_3 a0_4 a0_5 a0_6 a0_7 a0_8:Int) (k:List (List D)->Option β):M5 58 [[.int .i64 a0_0,.int .i64 a0_1,.int .i64 a0_2,.int .i64 a0_3,.int .i64 a0_4,.int .i64 a0_5,.int .i64 a0_6,.int .i64 a0_7,.int .i64 a0_8]] k = k (cM aG.cells ([(aG.mk a0_0 a0_1 a0_2 a0_3 a0_4 a0_5 a0_6 a0_7 a0_8)]:List aG)):=rfl
theorem SR {β:Type} (a0:aG) (k:List (List D)->Option β):M5 58 [aG.cells a0] k = k (cM aG.cells ([a0]:List aG)):=rfl
theorem VW {β:Type} (k:List (List D)->Option β):M5 60 [] k = k (cM aW.cells ([]:List aW)):=rfl
theorem SX {β:Type} (a0_0 a0_1 a0_2 a0_3 a0_4 a0_5 a0_6 a0_7 a0_8:Int) (k:List (List D)->Option β):M5 60 [[.int .i64 a0_0,.int .i64 a0_1,.int .i64 a0_2,.int .i64 a0_3,.int .i64 a0_4,.int .i64 a0_5,.int .i64 a0_6,.int .i64 a0_7,.int .i64 a0_8]] k = k (cM aW.cells ([(aW.mk a0_0 a0_1 a0_2 a0_3 a0_4 a0_5 a0_6 a0_7 a0_8)]:List aW)):=rfl
theorem VI {β:Type} (k:List (List D)->Option β):M5 67 [] k = k (cM aU.cells ([]:List aU)):=rfl
theorem S6 {β:Type} (a0_0 a0_1 a0_2 a0_3:Int) (k:List (List D)->Option β):M5 67 [[.int .i64 a0_0,.int .i64 a0_1,.int .i64 a0_2,.int .i64 a0_3]] k = k (cM aU.cells ([(aU.mk a0_0 a0_1 a0_2 a0_3)]:List aU)):=rfl
theorem S2 {β:Type} (a0_0 a0_1:Int) (k:List (List D)->Option β):M5 87 [[.int .i64 a0_0,.int .i64 a0_1]] k = k (cM aK.cells ([(aK.mk a0_0 a0_1)]:List aK)):=rfl
theorem WX {β:Type} (k:List (List D)->Option β):M5 95 [] k = k (cM aC.cells ([]:List aC)):=rfl
theorem SO {β:Type} (a0_0 a0_1 a0_2 a0_3 a0_4:Int) (a0_5:Bool) (k:List (List D)->Option β):M5 95 [[.int .i64 a0_0,.int .i64 a0_1,.int .i64 a0_2,.int .i64 a0_3,.int .i64 a0_4,.bool a0_5]] k = k (cM aC.cells ([(aC.mk a0_0 a0_1 a0_2 a0_3 a0_4 a0_5)]:List aC)):=rfl
theorem TA {β:Type} (a0:aC) (k:List (List D)->Option β):M5 95 [aC.cells a0] k = k (cM aC.cells ([a0]:List aC)):=rfl
theorem U8 {β:Type} (xs:List aD) (i:Nat) (a_0 a_1:Int) (a_2:Bool) (k:List (List D)->Option β):zW 114 (cM aD.cells xs) i [.int .i64 a_0,.int .i64 a_1,.bool a_2] k = k (cM aD.cells (xs.set i (aD.mk a_0 a_1 a_2))):=BJ 114 aD.cells xs i (aD.mk a_0 a_1 a_2) k
theorem aC9 {β:Type} (xs:List Int) (i:Nat) (a:Int) (k:List (List D)->Option β):zW 3 (cM cI xs) i [.int .i64 a] k = k (cM cI (xs.set i a)):=BJ 3 cI xs i a k
theorem aAv {β:Type} (xs:List aG) (i:Nat) (a_0 a_1 a_2 a_3 a_4 a_5 a_6 a_7 a_8:Int) (k:List (List D)->Option β):zW 58 (cM aG.cells xs) i [.int .i64 a_0,.int .i64 a_1,.int .i64 a_2,.int .i64 a_3,.int .i64 a_4,.int .i64 a_5,.int .i64 a_6,.int .i64 a_7,.int .i64 a_8] k = k (cM aG.cells (xs.set i (aG.mk a_0 a_1 a_2 a_3 a_4 a_5 a_6 a_7 a_8))):=BJ 58 aG.cells xs i (aG.mk a_0 a_1 a_2 a_3 a_4 a_5 a_6 a_7 a_8) k
theorem XK {β:Type} (xs:List aC) (i:Nat) (a_0 a_1 a_2 a_3 a_4:Int) (a_5:Bool) (k:List (List D)->Option β):zW 95 (cM aC.cells xs) i [.int .i64 a_0,.int .i64 a_1,.int .i64 a_2,.int .i64 a_3,.int .i64 a_4,.bool a_5] k = k (cM aC.cells (xs.set i (aC.mk a_0 a_1 a_2 a_3 a_4 a_5))):=BJ 95 aC.cells xs i (aC.mk a_0 a_1 a_2 a_3 a_4 a_5) k
/- all rules as one -/
set_option linter.defProp false
def DN:=aN (aN (aN (aN (aN (aN (aN (aN (aN @aQ0 @aRs) (aN @aRO @aLC)) (aN (aN @aIY @aE8) (aN @aPZ (aN @aMP @aPt)))) (aN (aN (aN @aBu @aKZ) (aN @aLW @aCx)) (aN (aN @aAr @aFZ) (aN @YJ (aN @aG1 @aNx))))) (aN (aN (aN (aN @aQE @aHW) (aN @aLd @aKJ)) (aN (aN @aKA @aEH) (aN @aCa (aN @aIa @aH0)))) (aN (aN (aN @aBm @aBU) (aN @aBE @aOa)) (aN (aN @aFh @aHA) (aN @aFS (aN @aCw @aGC)))))) (aN (aN (aN (aN (aN @aBL @aKo) (aN @aHR @aCy)) (aN (aN @aCS @aCW) (aN @aEu (aN @W4 @aCA)))) (aN (aN (aN @aDg @aKb) (aN @aH3 @aKB)) (aN (aN @aGn @aNd) (aN @aHB (aN @ST @aIJ))))) (aN (aN (aN (aN @VA @TE) (aN @aOW @aHs)) (aN (aN @TG @aFw) (aN @aBb (aN @aA6 @X2)))) (aN (aN (aN @aIz @aJN) (aN @aFK @aCd)) (aN (aN @XL @aGu) (aN @aOh (aN @aIn @aHQ))))))) (aN (aN (aN (aN (aN (aN @aIe @QY) (aN @aOJ @aMU)) (aN (aN @aRg @aHS) (aN @WJ (aN @aFA @aHk)))) (aN (aN (aN @aKQ @aMr) (aN @aNA @aAm)) (aN (aN @aHM @aGv) (aN @aBC (aN @aGT @aLo))))) (aN (aN (aN (aN @aGI @aBe) (aN @aPR @aMy)) (aN (aN @aA7 @aJD) (aN @aCN (aN @aJ8 @aHV)))) (aN (aN (aN @aDn @J4) (aN @aEW @aJR)) (aN (aN @aGF @aEU) (aN @aN0 (aN @aO8 @Y1)))))) (aN (aN (aN (aN (aN @ZU @aEL) (aN @aLh @aHe)) (aN (aN @aQW @aLc) (aN @aLk (aN @aIE @aNw)))) (aN (aN (aN @aGx @aFq) (aN @aGW @aFC)) (aN (aN @aHl @aJd) (aN @aKr (aN @aJ4 @aGU))))) (aN (aN (aN (aN @aG8 @aMj) (aN @aIP @aIZ)) (aN (aN @aN3 @aLL) (aN @aRj (aN @aRf @aQQ)))) (aN (aN (aN @aLe @aKI) (aN @aKk @aN6)) (aN (aN @aNq @aMe) (aN @aGG (aN @aBK @aBH)))))))) (aN (aN (aN (aN (aN (aN (aN @aI7 @aJu) (aN @aNf @aOL)) (aN (aN @aBt @aJa) (aN @aHt (aN @aJ5 @aJ9)))) (aN (aN (aN @aHg @aIB) (aN @aPU @aMD)) (aN (aN @aOg @aRP) (aN @aRJ (aN @aJr @aLw))))) (aN (aN (aN (aN @aLq @aGO) (aN @aM0 @aHn)) (aN (aN @XY @aEQ) (aN @VM (aN @aNk @aMI)))) (aN (aN (aN @aIl @aJS) (aN @aLP @aIo)) (aN (aN @aK8 @aIk) (aN @aJJ (aN @aIS @aO1)))))) (aN (aN (aN (aN (aN @aMR @aNj) (aN @aRI @aRl)) (aN (aN @aQs @aMg) (aN @aL6 (aN @aPQ @aPE)))) (aN (aN (aN @aJe @aH7) (aN @aEE @aFN)) (aN (aN @aKp @aGg) (aN @aES (aN @aBr @aPT))))) (aN (aN (aN (aN @aRc @aHO) (aN @aOT @aNJ)) (aN (aN @aNm @aK2) (aN @S7 (aN @aFp @TB)))) (aN (aN (aN @aGD @aEY) (aN @aB2 @QE)) (aN (aN @aLT @ZB) (aN @aPz (aN @aMx @aIK))))))) (aN (aN (aN (aN (aN (aN @aBv @aCq) (aN @aAF @aAT)) (aN (aN @aCD @XQ) (aN @aCU (aN @aE7 @aAI)))) (aN (aN (aN @aB0 @Y2) (aN @aE5 @aAP)) (aN (aN @aNe @aNC) (aN @aDL (aN @aHv @aBB))))) (aN (aN (aN (aN @aC4 @aCK) (aN @W3 @aFV)) (aN (aN @aLU @aKT) (aN @aM1 (aN @aKy @aIh)))) (aN (aN (aN @aIu @YQ) (aN @aPo @aPh)) (aN (aN @XF @aAU) (aN @aCX (aN @aKw @aK5)))))) (aN (aN (aN (aN (aN @aHf @ZX) (aN @YS @YD)) (aN (aN @aOy @aNV) (aN @aAf (aN @aPW @aRZ)))) (aN (aN (aN @aPD @aSV) (aN @aL7 @V2)) (aN (aN @aAt @ZW) (aN @BJ (aN @aQU @aQK))))) (aN (aN (aN (aN @aQZ @aNZ) (aN @aSO @aTh)) (aN (aN @aSB @aJj) (aN @aKd (aN @aLm @aJZ)))) (aN (aN (aN @aJw @aH1) (aN @aHI @aKt)) (aN (aN @aJh @aIj) (aN @aIq (aN @aKR @aPx))))))))) (aN (aN (aN (aN (aN (aN (aN (aN @aJC @aFR) (aN @aFX @aHy)) (aN (aN @aHj @aFa) (aN @aEM (aN @aGl @aF0)))) (aN (aN (aN @aG3 @aF8) (aN @aOE @aMN)) (aN (aN @aMd @aLy) (aN @aG9 (aN @UZ @OZ))))) (aN (aN (aN (aN @OR @aOI) (aN @aJi @aHY)) (aN (aN @aGA @aG0) (aN @aM5 (aN @aHZ @aCb)))) (aN (aN (aN @aBA @aO0) (aN @aRt @aRT)) (aN (aN @aGJ @aGo) (aN @aEX (aN @aFi @aCI)))))) (aN (aN (aN (aN (aN @aBT @aCm) (aN @aC2 @aCQ)) (aN (aN @aCH @aBO) (aN @aDa (aN @WF @aIg)))) (aN (aN (aN @aBg @aBw) (aN @aFO @aFd)) (aN (aN @aAV @aSN) (aN @aON (aN @aNQ @aJf))))) (aN (aN (aN (aN @aKD @aFr) (aN @aPP @aOe)) (aN (aN @aG7 @F2) (aN @aQw (aN @aLI @aJE)))) (aN (aN (aN @ZK @aFy) (aN @aQu @XB)) (aN (aN @aHo @aLb) (aN @aIA (aN @aRK @aR5))))))) (aN (aN (aN (aN (aN (aN @aO3 @aLf) (aN @aHq @aB5)) (aN (aN @aMh @aRi) (aN @aQ6 (aN @aLt @aRG)))) (aN (aN (aN @aEy @aBs) (aN @aHz @aBl)) (aN (aN @aOw @aNa) (aN @aMW (aN @aPr @aQ5))))) (aN (aN (aN (aN @aI3 @aRB) (aN @aKP @SZ)) (aN (aN @S1 @RF) (aN @aPB (aN @aGz @aFG)))) (aN (aN (aN @aGP @aB1) (aN @YN @aEI)) (aN (aN @aAy @aDd) (aN @aAz (aN @aAA @aCv)))))) (aN (aN (aN (aN (aN @aAD @aDr) (aN @aA8 @aJG)) (aN (aN @aHK @aBp) (aN @aCj (aN @aA2 @aGQ)))) (aN (aN (aN @aBW @XI) (aN @aCt @YH)) (aN (aN @TC @aAd) (aN @XX (aN @aQG @aQt))))) (aN (aN (aN (aN @aQv @aIH) (aN @aJF @aET)) (aN (aN @aPV @aO7) (aN @aRq (aN @aH8 @aFB)))) (aN (aN (aN @aRD @aRM) (aN @aGa @aGj)) (aN (aN @aMK @aKa) (aN @aJK (aN @aKX @aGp)))))))) (aN (aN (aN (aN (aN (aN (aN @aAM @aC5) (aN @aEw @aB6)) (aN (aN @aAN @WG) (aN @WI (aN @aLR @aR9)))) (aN (aN (aN @aQD @aQC) (aN @aHh @ZR)) (aN (aN @aFY @aFE) (aN @aBD (aN @YK @aQT))))) (aN (aN (aN (aN @aRa @aQp) (aN @aBV @aLZ)) (aN (aN @aII @aJs) (aN @aN5 (aN @aIV @X3)))) (aN (aN (aN @aFW @US) (aN @RP @aRm)) (aN (aN @aQ4 @aAW) (aN @aJA (aN @aGi @aEA)))))) (aN (aN (aN (aN (aN @aJL @aGM) (aN @UD @aAJ)) (aN (aN @aDG @aMZ) (aN @aKK (aN @aGE @aGd)))) (aN (aN (aN @aFP @aRb) (aN @aR4 @aPX)) (aN (aN @aMH @aK0) (aN @aOH (aN @aNF @aIG))))) (aN (aN (aN (aN @aKi @aFv) (aN @aCk @Y7)) (aN (aN @aHE @aE9) (aN @aCB (aN @aMM @aIR)))) (aN (aN (aN @aGK @aGY) (aN @XH @Z9)) (aN (aN @aD7 @aD8) (aN @aPI (aN @aJz @aJH))))))) (aN (aN (aN (aN (aN (aN @aK4 @aKH) (aN @aNN @YW)) (aN (aN @aL8 @aOo) (aN @aBP (aN @aIw @aGm)))) (aN (aN (aN @aBM @aBS) (aN @aIf @aBQ)) (aN (aN @YA @Y9) (aN @VV (aN @aLV @aKC))))) (aN (aN (aN (aN @Y5 @aEJ) (aN @aCe @aAC)) (aN (aN @aFI @aAX) (aN @WY (aN @aCJ @YL)))) (aN (aN (aN @US @RP) (aN @aMk @aQx)) (aN (aN @aBk @XM) (aN @aER (aN @aAZ @aHN)))))) (aN (aN (aN (aN (aN @aKq @aPJ) (aN @aKM @aKU)) (aN (aN @aQ9 @aQ8) (aN @aFt (aN @aGq @aFH)))) (aN (aN (aN @aEz @aJx) (aN @aGZ @V4)) (aN (aN @aAY @XZ) (aN @aFU (aN @aA4 @OO))))) (aN (aN (aN (aN @aJ2 @aEB) (aN @aDm @aGf)) (aN (aN @aLr @aL3) (aN @aEj (aN @aJQ @aFm)))) (aN (aN (aN @aHu @aFg) (aN @aLA @aDM)) (aN (aN @aGL @aNo) (aN @aJ6 (aN @aFk @aHw)))))))))
def DR:=aN (aN (aN (aN (aN (aN (aN @aK.size (aN @aK.eq1 @aK.eq2)) (aN (aN @aK.lens @aK.vsets) (aN @aK.st_d @aK.st_nil))) (aN (aN @aK.st_own (aN @aK.st_agg @aK.st_ptr)) (aN (aN @aK.part @aK.put) (aN @aK.rset @aK.rfull)))) (aN (aN (aN @aK.get0 (aN @aK.get1 @aK.sub0_2)) (aN (aN @aE.size @aE.eq1) (aN @aE.eq2 @aE.lens))) (aN (aN (aN @aE.vsets @aE.st_d) (aN @aE.st_nil @aE.st_own)) (aN (aN @aE.st_agg @aE.st_ptr) (aN @aE.part @aE.put))))) (aN (aN (aN (aN @aE.rset (aN @aE.rfull @aE.get0)) (aN (aN @aE.get1 @aE.get2) (aN @aE.get3 @aE.get4))) (aN (aN @aE.get5 (aN @aE.get6 @aE.sub0_7)) (aN (aN @aI.size @aI.eq1) (aN @aI.eq2 @aI.lens)))) (aN (aN (aN @aI.vsets (aN @aI.st_d @aI.st_nil)) (aN (aN @aI.st_own @aI.st_agg) (aN @aI.st_ptr @aI.part))) (aN (aN (aN @aI.put @aI.rset) (aN @aI.rfull @aI.get0)) (aN (aN @aI.get1 @aI.get2) (aN @aI.sub0_3 @aC.size)))))) (aN (aN (aN (aN (aN @aC.eq1 (aN @aC.eq2 @aC.lens)) (aN (aN @aC.vsets @aC.st_d) (aN @aC.st_nil @aC.st_own))) (aN (aN @aC.st_agg (aN @aC.st_ptr @aC.part)) (aN (aN @aC.put @aC.rset) (aN @aC.rfull @aC.get0)))) (aN (aN (aN @aC.get1 (aN @aC.get2 @aC.get3)) (aN (aN @aC.get4 @aC.get5) (aN @aC.sub0_6 @aD.size))) (aN (aN (aN @aD.eq1 @aD.eq2) (aN @aD.lens @aD.vsets)) (aN (aN @aD.st_d @aD.st_nil) (aN @aD.st_own @aD.st_agg))))) (aN (aN (aN (aN @aD.st_ptr (aN @aD.part @aD.put)) (aN (aN @aD.rset @aD.rfull) (aN @aD.get0 @aD.get1))) (aN (aN (aN @aD.get2 @aD.sub0_3) (aN @aW.size @aW.eq1)) (aN (aN @aW.eq2 @aW.lens) (aN @aW.vsets @aW.st_d)))) (aN (aN (aN @aW.st_nil (aN @aW.st_own @aW.st_agg)) (aN (aN @aW.st_ptr @aW.part) (aN @aW.put @aW.rset))) (aN (aN (aN @aW.rfull @aW.get0) (aN @aW.get1 @aW.get2)) (aN (aN @aW.get3 @aW.get4) (aN @aW.get5 @aW.get6))))))) (aN (aN (aN (aN (aN (aN @aW.get7 (aN @aW.get8 @aW.sub0_9)) (aN (aN @aG.size @aG.eq1) (aN @aG.eq2 @aG.lens))) (aN (aN @aG.vsets (aN @aG.st_d @aG.st_nil)) (aN (aN @aG.st_own @aG.st_agg) (aN @aG.st_ptr @aG.part)))) (aN (aN (aN @aG.put (aN @aG.rset @aG.rfull)) (aN (aN @aG.get0 @aG.get1) (aN @aG.get2 @aG.get3))) (aN (aN (aN @aG.get4 @aG.get5) (aN @aG.get6 @aG.get7)) (aN (aN @aG.get8 @aG.sub0_9) (aN @aU.size @aU.eq1))))) (aN (aN (aN (aN @aU.eq2 (aN @aU.lens @aU.vsets)) (aN (aN @aU.st_d @aU.st_nil) (aN @aU.st_own @aU.st_agg))) (aN (aN @aU.st_ptr (aN @aU.part @aU.put)) (aN (aN @aU.rset @aU.rfull) (aN @aU.get0 @aU.get1)))) (aN (aN (aN @aU.get2 (aN @aU.get3 @aU.sub0_4)) (aN (aN @aQ.size @aQ.eq1) (aN @aQ.eq2 @aQ.lens))) (aN (aN (aN @aQ.vsets @aQ.st_d) (aN @aQ.st_nil @aQ.st_own)) (aN (aN @aQ.st_agg @aQ.st_ptr) (aN @aQ.part @aQ.put)))))) (aN (aN (aN (aN (aN @aQ.rset (aN @aQ.rfull @aQ.get0)) (aN (aN @aQ.get1 @aQ.get2) (aN @aQ.get3 @aQ.get4))) (aN (aN @aQ.sub0_5 (aN @aRH @aOB)) (aN (aN @aN7 @aRn) (aN @aOu @aNY)))) (aN (aN (aN @aQI (aN @aOv @aNR)) (aN (aN @aML @aO5) (aN @aOj @aOt))) (aN (aN (aN @aOm @aPO) (aN @aMV @aPi)) (aN (aN @aRV @aNl) (aN @aOZ @aNu))))) (aN (aN (aN (aN @aRu (aN @aNr @U9)) (aN (aN @aBc @VY) (aN @RE @SW))) (aN (aN (aN @Q2 @Z2) (aN @SU @PH)) (aN (aN @WP @LF) (aN @V5 @S5)))) (aN (aN (aN @SY (aN @S0 @SR)) (aN (aN @VW @SX) (aN @VI @S6))) (aN (aN (aN @S2 @WX) (aN @SO @TA)) (aN (aN @U8 @aC9) (aN @aAv @XK)))))))
def DQ:=aN (aN (aN (aN @aK.len (aN @aE.len @aI.len)) (aN @aC.len (aN @aD.len @aW.len))) (aN (aN @aG.len (aN @aU.len @aQ.len)) (aN (aN @aK.cells_mk @aE.cells_mk) (aN @aI.cells_mk @aC.cells_mk)))) (aN (aN (aN @aD.cells_mk (aN @aW.cells_mk @aG.cells_mk)) (aN (aN @aU.cells_mk @aQ.cells_mk) (aN @aK.sized @aE.sized))) (aN (aN @aI.sized (aN @aC.sized @aD.sized)) (aN (aN @aW.sized @aG.sized) (aN @aU.sized @aQ.sized))))
def DP:=aN @Option.some.injEq (aN @Bool.and_true @List.cons_ne_nil)
theorem bLc {α:Type} (a:α) (l:List α):(a :: l).length = l.length + 1:=rfl
theorem bLn {α:Type}:([]:List α).length = 0:=rfl
theorem bIt {α:Type} {d:Decidable True} (a b:α):@ite α True d a b = a:=if_pos trivial
theorem bIf {α:Type} {d:Decidable False} (a b:α):@ite α False d a b = b:=if_neg id
theorem bRs {α:Type} (n:Nat) (a:α):List.replicate (n + 1) a = a :: List.replicate n a:=rfl
theorem bRz {α:Type} (a:α):List.replicate 0 a = []:=rfl
theorem bBs {α γ:Type} (a:α) (f:α->Option γ):(some a).bind f = f a:=rfl
theorem bMs {α γ:Type} (a:α) (f:α->γ):(some a).map f = some (f a):=rfl
theorem bMn {α γ:Type} (f:α->γ):(none:Option α).map f = none:=rfl
theorem bEl {α γ δ:Type} (f:α->δ) (g:γ->δ) (x:α):Sum.elim f g (.inl x) = f x:=rfl
theorem bEr {α γ δ:Type} (f:α->δ) (g:γ->δ) (x:γ):Sum.elim f g (.inr x) = g x:=rfl
theorem bBb {α γ δ:Type} (o:Option α) (f:α->Option γ) (g:γ->Option δ):(o.bind f).bind g = o.bind fun x=>(f x).bind g:=by cases o <;> rfl
def DS:=aN (aN (aN (aN (aN @bLc @bLn) (aN @vG @Bool.not_true)) (aN (aN @Bool.not_false @bIt) (aN @bIf @bRs))) (aN (aN (aN @bRz @aCT) (aN @bBs @aE0)) (aN (aN @bMs @bMn) (aN @bEl @bEr)))) (aN (aN (aN (aN @aLp @ZM) (aN @aLi @aIW)) (aN (aN @aLJ @aCf) (aN @aHr @aGh))) (aN (aN (aN @aCV @aGe) (aN @aBZ @aJm)) (aN (aN @aMm @Vm.bind_map) (aN @aF7 (aN @aLM @bBb)))))
abbrev KF (T:vZ) (f:Nat) (ds:List D) {α:Type} (o:Option α) (v:α->V):Prop:=∀ {β:Type} (d:Nat) (bl fz:List (Nat × Option aJ)) (k:V->Option β) (kw:V->List (Nat × Option aJ)->Option β),tT T d bl f ds fz k kw = o.bind fun r=>k (v r)
abbrev KD (T:vZ) (f:Nat) (ds:List D) {α:Type} (o:Option α) (v:α->V):Prop:=∀ {β:Type} (d:Nat) (bl fz:List (Nat × Option aJ)) (k:V->Option β) (kw:V->List (Nat × Option aJ)->Option β),tT T d bl f ds fz k kw = o.bind fun r=>fzK fz (v r) k kw
theorem kF {T:vZ} {α:Type} {f:Nat} {ds:List D} {o:Option α} {enc:α->D} {v:α->V} (h:Vm.call T f ds = o.map enc) (hf:∀ x,HK (enc x) = true) (hv:∀ x,toV (enc x) = v x):KF T f ds o v:=fun d bl fz k kw=>by
 rw [aCi h hf fz]
 exact congrArg _ (funext fun x=>congrArg k (hv x))
theorem kD {T:vZ} {α:Type} {f:Nat} {ds:List D} {o:Option α} {enc:α->D} {v:α->V} (h:Vm.call T f ds = o.map enc) (hf:∀ x,HK (enc x) = false) (hc:∀ x,(enc x).calm = true) (hv:∀ x,toV (enc x) = v x):KD T f ds o v:=fun d bl fz k kw=>by
 rw [aB3 h hf hc fz]
 exact congrArg _ (funext fun x=>congrArg (fun y=>fzK fz y k kw) (hv x))
theorem IA {p:Prop} (h:p:=by
  simp -implicitDefEqProofs (decide:=true) (maxSteps:=2000000) only [↓DN,↓DR,DQ,DP,↓reduceIte,Int.reduceToNat,Nat.reduceBEq,Nat.reduceAdd,Nat.reduceLT,Nat.reduceLeDiff,Nat.reduceEqDiff,Int.reduceEq,ne_eq,not_false_eq_true,reduceCtorEq,BI,L8,M0,beq_self_eq_true,DS]
  all_goals try simp only [aLF]
  all_goals try rfl):p:=h
theorem n8 {p:Prop} (h:p:=by
  simp -implicitDefEqProofs (decide:=true) (maxSteps:=2000000) only [↓u,↓DN,↓DR,DQ,DP,↓reduceIte,Int.reduceToNat,Nat.reduceBEq,Nat.reduceAdd,Nat.reduceLT,Nat.reduceLeDiff,Nat.reduceEqDiff,Int.reduceEq,ne_eq,not_false_eq_true,reduceCtorEq,BI,L8,M0,beq_self_eq_true,DS]
  all_goals try simp only [aLF]
  all_goals try rfl):p:=h
end Go.Proofs.Ytgjcnbgfaimepaa
