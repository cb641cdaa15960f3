/- The table. Printed by a program. -/
import Derived.Test.YtgjcnbgfaimepaaVmH
import Derived.Test.YtgjcnbgfaimepaaVmF
import Derived.Test.YtgjcnbgfaimepaaVmI
import Derived.Test.YtgjcnbgfaimepaaRepD
import Derived.Test.YtgjcnbgfaimepaaCode1
set_option linter.unusedVariables false
set_option linter.unusedSimpArgs false
namespace Go.Proofs.Ytgjcnbgfaimepaa
open Vm
open Go.RowKit
def aRd:List D->Option D:=aO8 3
def o49:List D->Option D:=VX 3 1 8
def TL:List (Nat × Option Def):=[(35,some (.code aSz)),(53,some (.code aTy)),(54,some (.code aSP)),(55,some (.code aSX)),(19,some (.code aTn)),(37,some (.code aTb)),(73,some (.code aSE)),(44,some (.code aTC)),(82,some (.code aTu)),(105,some (.code aQi)),(81,some (.code aSR)),(60,some (.code aTT)),(64,some (.code aSx)),(106,some (.code aQy)),(84,some (.code aS3)),(83,some (.code aS4)),(85,some (.code aST)),(61,some (.code aTK)),(86,some (.code aSZ)),(108,some (.code aQn)),(87,some (.code aSV)),(62,some (.code aSy)),(63,some (.code aTG)),(25,some (.code aSD)),(38,some (.code aSM)),(10,some (.code aTB)),(21,some (.code aTA)),(43,some (.code aS5)),(72,some (.code aTO)),(27,some (.code aTP)),(77,some (.code aTe)),(76,some (.code aSJ)),(48,some (.code aTo)),(47,some (.code aTs)),(75,some (.code aTc)),(46,some (.code aTg)),(12,some (.code aTh)),(14,some (.code aS0)),(16,some (.code aTi)),(52,some (.code aSL)),(17,some (.code aTt)),(23,some (.code aS8)),(8,some (.code sf8)),(26,some (.code aSA)),(36,some (.code aTF)),(29,some (.code aSK)),(59,some (.code aTS)),(22,some (.code aSN)),(9,some (.code sf9)),(28,some (.code aTw)),(5,some (.code sf5)),(109,some (.told aRd)),(49,some (.told o49))]
def TT:wE:=fun f=>lk TL none f
structure aJ where
 Kind:Int
 Owner:Int
 deriving Inhabited
def aJ.cells (x:aJ):List D:=[.int .i64 x.Kind,.int .i64 x.Owner]
theorem aJ.sized (xs:List aJ):sized 2 (cM aJ.cells xs) = true:=qR _ _ (fun x=>by rfl) xs
theorem aJ.len (x:aJ):x.cells.length = 2:=rfl
theorem aJ.size {β:Type} (x:aJ) (y:Option β):sW x.cells 2 y = y:=rfl
theorem aJ.eq1 {β:Type} (x:aJ) (ks:List Nat) (ys:List V) (k:Bool->Option β):lO ks (aR x.cells) ys k = lO ks [.d (.int .i64 x.Kind),.d (.int .i64 x.Owner)] ys k:=rfl
theorem aJ.eq2 {β:Type} (x:aJ) (ks:List Nat) (ys:List V) (k:Bool->Option β):lO ks ys (aR x.cells) k = lO ks ys [.d (.int .i64 x.Kind),.d (.int .i64 x.Owner)] k:=rfl
theorem aJ.lens {β:Type} (x:aJ) (y:Option β):A7 (aR x.cells) 2 y = y:=rfl
theorem aJ.vsets {β:Type} (x:aJ) (z:List V) (o:Nat) (k:List V->Option β):kU z o (aR x.cells) k = kU z o [.d (.int .i64 x.Kind),.d (.int .i64 x.Owner)] k:=rfl
theorem aJ.st_d {β:Type} (x:aJ) (y:D) (sz off id:Nat) (kw:V->List (Nat × Option aI)->Option β):aQ sz off id (.d y) (some (.box (aR x.cells))) kw = aQ sz off id (.d y) (some (.box [.d (.int .i64 x.Kind),.d (.int .i64 x.Owner)])) kw:=rfl
theorem aJ.st_nil {β:Type} (x:aJ)  (sz off id:Nat) (kw:V->List (Nat × Option aI)->Option β):aQ sz off id .nil (some (.box (aR x.cells))) kw = aQ sz off id .nil (some (.box [.d (.int .i64 x.Kind),.d (.int .i64 x.Owner)])) kw:=rfl
theorem aJ.st_own {β:Type} (x:aJ) (i v sz off id:Nat) (kw:V->List (Nat × Option aI)->Option β):aQ sz off id (.own i v) (some (.box (aR x.cells))) kw = aQ sz off id (.own i v) (some (.box [.d (.int .i64 x.Kind),.d (.int .i64 x.Owner)])) kw:=rfl
theorem aJ.st_agg {β:Type} (x:aJ) (y:List V) (sz off id:Nat) (kw:V->List (Nat × Option aI)->Option β):aQ sz off id (.agg y) (some (.box (aR x.cells))) kw = aQ sz off id (.agg y) (some (.box [.d (.int .i64 x.Kind),.d (.int .i64 x.Owner)])) kw:=rfl
theorem aJ.st_ptr {β:Type} (x:aJ) (i v sz off id:Nat) (kw:V->List (Nat × Option aI)->Option β):aQ sz off id (.ptr i v) (some (.box (aR x.cells))) kw = aQ sz off id (.ptr i v) (some (.box [.d (.int .i64 x.Kind),.d (.int .i64 x.Owner)])) kw:=rfl
theorem aJ.part {β:Type} (x:aJ) (off id:Nat) (b:Option aI) (kw:V->List (Nat × Option aI)->Option β):aQ 2 (off + 1) id (kY x.cells) b kw = aQ 2 (off + 1) id (.agg [.d (.int .i64 x.Kind),.d (.int .i64 x.Owner)]) b kw:=rfl
theorem aJ.put {β:Type} (x:aJ) (id:Nat) (cs:List V) (hc:cs.length = 2) (kw:V->List (Nat × Option aI)->Option β):aQ 2 0 id (kY x.cells) (some (.box cs)) kw = kw .any [(id,some (.box (aR x.cells)))]:=oK 2 id _ rfl cs hc
theorem aJ.rset {β:Type} (x:aJ) (off:Nat) (d:D) (ds:List D) (n:Nat) (k:List D->Option β):cE x.cells off (d :: ds) n k = cE [.int .i64 x.Kind,.int .i64 x.Owner] off (d :: ds) n k:=rfl
theorem aJ.rfull {β:Type} (x y:aJ) (k:List D->Option β):cE x.cells 0 y.cells 2 k = k y.cells:=by unfold cE; exact (if_pos ⟨rfl,Nat.le_refl _⟩).trans rfl
theorem aJ.get0 {β:Type} (x:aJ) (k:D->Option β):fS x.cells 0 k = k (.int .i64 x.Kind):=rfl
theorem aJ.get1 {β:Type} (x:aJ) (k:D->Option β):fS x.cells 1 k = k (.int .i64 x.Owner):=rfl
theorem aJ.sub0_2 {β:Type} (x:aJ) (k:List D->Option β):yZ x.cells 0 2 k = k x.cells:=rfl
theorem aJ.cells_mk (f0 f1:Int):aJ.cells (aJ.mk f0 f1) = [.int .i64 f0,.int .i64 f1]:=rfl
structure aE where
 From:Int
 To:Int
 Sum:Int
 File:Int
 Part:Int
 Sign:Int
 Rights:List aJ
 deriving Inhabited
def aE.cells (x:aE):List D:=[.int .i64 x.From,.int .i64 x.To,.int .i64 x.Sum,.int .i64 x.File,.int .i64 x.Part,.int .i64 x.Sign,.sl (cM aJ.cells x.Rights)]
theorem aE.sized (xs:List aE):sized 7 (cM aE.cells xs) = true:=qR _ _ (fun x=>by rfl) xs
theorem aE.len (x:aE):x.cells.length = 7:=rfl
theorem aE.size {β:Type} (x:aE) (y:Option β):sW x.cells 7 y = y:=rfl
theorem aE.eq1 {β:Type} (x:aE) (ks:List Nat) (ys:List V) (k:Bool->Option β):lO ks (aR x.cells) ys k = lO ks [.d (.int .i64 x.From),.d (.int .i64 x.To),.d (.int .i64 x.Sum),.d (.int .i64 x.File),.d (.int .i64 x.Part),.d (.int .i64 x.Sign),.d (.sl (cM aJ.cells x.Rights))] ys k:=rfl
theorem aE.eq2 {β:Type} (x:aE) (ks:List Nat) (ys:List V) (k:Bool->Option β):lO ks ys (aR x.cells) k = lO ks ys [.d (.int .i64 x.From),.d (.int .i64 x.To),.d (.int .i64 x.Sum),.d (.int .i64 x.File),.d (.int .i64 x.Part),.d (.int .i64 x.Sign),.d (.sl (cM aJ.cells x.Rights))] k:=rfl
theorem aE.lens {β:Type} (x:aE) (y:Option β):A7 (aR x.cells) 7 y = y:=rfl
theorem aE.vsets {β:Type} (x:aE) (z:List V) (o:Nat) (k:List V->Option β):kU z o (aR x.cells) k = kU z o [.d (.int .i64 x.From),.d (.int .i64 x.To),.d (.int .i64 x.Sum),.d (.int .i64 x.File),.d (.int .i64 x.Part),.d (.int .i64 x.Sign),.d (.sl (cM aJ.cells x.Rights))] k:=rfl
theorem aE.st_d {β:Type} (x:aE) (y:D) (sz off id:Nat) (kw:V->List (Nat × Option aI)->Option β):aQ sz off id (.d y) (some (.box (aR x.cells))) kw = aQ sz off id (.d y) (some (.box [.d (.int .i64 x.From),.d (.int .i64 x.To),.d (.int .i64 x.Sum),.d (.int .i64 x.File),.d (.int .i64 x.Part),.d (.int .i64 x.Sign),.d (.sl (cM aJ.cells x.Rights))])) kw:=rfl
theorem aE.st_nil {β:Type} (x:aE)  (sz off id:Nat) (kw:V->List (Nat × Option aI)->Option β):aQ sz off id .nil (some (.box (aR x.cells))) kw = aQ sz off id .nil (some (.box [.d (.int .i64 x.From),.d (.int .i64 x.To),.d (.int .i64 x.Sum),.d (.int .i64 x.File),.d (.int .i64 x.Part),.d (.int .i64 x.Sign),.d (.sl (cM aJ.cells x.Rights))])) kw:=rfl
theorem aE.st_own {β:Type} (x:aE) (i v sz off id:Nat) (kw:V->List (Nat × Option aI)->Option β):aQ sz off id (.own i v) (some (.box (aR x.cells))) kw = aQ sz off id (.own i v) (some (.box [.d (.int .i64 x.From),.d (.int .i64 x.To),.d (.int .i64 x.Sum),.d (.int .i64 x.File),.d (.int .i64 x.Part),.d (.int .i64 x.Sign),.d (.sl (cM aJ.cells x.Rights))])) kw:=rfl
theorem aE.st_agg {β:Type} (x:aE) (y:List V) (sz off id:Nat) (kw:V->List (Nat × Option aI)->Option β):aQ sz off id (.agg y) (some (.box (aR x.cells))) kw = aQ sz off id (.agg y) (some (.box [.d (.int .i64 x.From),.d (.int .i64 x.To),.d (.int .i64 x.Sum),.d (.int .i64 x.File),.d (.int .i64 x.Part),.d (.int .i64 x.Sign),.d (.sl (cM aJ.cells x.Rights))])) kw:=rfl
theorem aE.st_ptr {β:Type} (x:aE) (i v sz off id:Nat) (kw:V->List (Nat × Option aI)->Option β):aQ sz off id (.ptr i v) (some (.box (aR x.cells))) kw = aQ sz off id (.ptr i v) (some (.box [.d (.int .i64 x.From),.d (.int .i64 x.To),.d (.int .i64 x.Sum),.d (.int .i64 x.File),.d (.int .i64 x.Part),.d (.int .i64 x.Sign),.d (.sl (cM aJ.cells x.Rights))])) kw:=rfl
theorem aE.part {β:Type} (x:aE) (off id:Nat) (b:Option aI) (kw:V->List (Nat × Option aI)->Option β):aQ 7 (off + 1) id (kY x.cells) b kw = aQ 7 (off + 1) id (.agg [.d (.int .i64 x.From),.d (.int .i64 x.To),.d (.int .i64 x.Sum),.d (.int .i64 x.File),.d (.int .i64 x.Part),.d (.int .i64 x.Sign),.d (.sl (cM aJ.cells x.Rights))]) b kw:=rfl
theorem aE.put {β:Type} (x:aE) (id:Nat) (cs:List V) (hc:cs.length = 7) (kw:V->List (Nat × Option aI)->Option β):aQ 7 0 id (kY x.cells) (some (.box cs)) kw = kw .any [(id,some (.box (aR x.cells)))]:=oK 7 id _ rfl cs hc
theorem aE.rset {β:Type} (x:aE) (off:Nat) (d:D) (ds:List D) (n:Nat) (k:List D->Option β):cE x.cells off (d :: ds) n k = cE [.int .i64 x.From,.int .i64 x.To,.int .i64 x.Sum,.int .i64 x.File,.int .i64 x.Part,.int .i64 x.Sign,.sl (cM aJ.cells x.Rights)] off (d :: ds) n k:=rfl
theorem aE.rfull {β:Type} (x y:aE) (k:List D->Option β):cE x.cells 0 y.cells 7 k = k y.cells:=by unfold cE; exact (if_pos ⟨rfl,Nat.le_refl _⟩).trans rfl
theorem aE.get0 {β:Type} (x:aE) (k:D->Option β):fS x.cells 0 k = k (.int .i64 x.From):=rfl
theorem aE.get1 {β:Type} (x:aE) (k:D->Option β):fS x.cells 1 k = k (.int .i64 x.To):=rfl
theorem aE.get2 {β:Type} (x:aE) (k:D->Option β):fS x.cells 2 k = k (.int .i64 x.Sum):=rfl
theorem aE.get3 {β:Type} (x:aE) (k:D->Option β):fS x.cells 3 k = k (.int .i64 x.File):=rfl
theorem aE.get4 {β:Type} (x:aE) (k:D->Option β):fS x.cells 4 k = k (.int .i64 x.Part):=rfl
theorem aE.get5 {β:Type} (x:aE) (k:D->Option β):fS x.cells 5 k = k (.int .i64 x.Sign):=rfl
theorem aE.get6 {β:Type} (x:aE) (k:D->Option β):fS x.cells 6 k = k (.sl (cM aJ.cells x.Rights)):=rfl
theorem aE.sub0_7 {β:Type} (x:aE) (k:List D->Option β):yZ x.cells 0 7 k = k x.cells:=rfl
theorem aE.cells_mk (f0 f1 f2 f3 f4 f5:Int) (f6:List aJ):aE.cells (aE.mk f0 f1 f2 f3 f4 f5 f6) = [.int .i64 f0,.int .i64 f1,.int .i64 f2,.int .i64 f3,.int .i64 f4,.int .i64 f5,.sl (cM aJ.cells f6)]:=rfl
structure aH where
 From:Int
 To:Int
 Sum:Int
 deriving Inhabited
def aH.cells (x:aH):List D:=[.int .i64 x.From,.int .i64 x.To,.int .i64 x.Sum]
theorem aH.sized (xs:List aH):sized 3 (cM aH.cells xs) = true:=qR _ _ (fun x=>by rfl) xs
theorem aH.len (x:aH):x.cells.length = 3:=rfl
theorem aH.size {β:Type} (x:aH) (y:Option β):sW x.cells 3 y = y:=rfl
theorem aH.eq1 {β:Type} (x:aH) (ks:List Nat) (ys:List V) (k:Bool->Option β):lO ks (aR x.cells) ys k = lO ks [.d (.int .i64 x.From),.d (.int .i64 x.To),.d (.int .i64 x.Sum)] ys k:=rfl
theorem aH.eq2 {β:Type} (x:aH) (ks:List Nat) (ys:List V) (k:Bool->Option β):lO ks ys (aR x.cells) k = lO ks ys [.d (.int .i64 x.From),.d (.int .i64 x.To),.d (.int .i64 x.Sum)] k:=rfl
theorem aH.lens {β:Type} (x:aH) (y:Option β):A7 (aR x.cells) 3 y = y:=rfl
theorem aH.vsets {β:Type} (x:aH) (z:List V) (o:Nat) (k:List V->Option β):kU z o (aR x.cells) k = kU z o [.d (.int .i64 x.From),.d (.int .i64 x.To),.d (.int .i64 x.Sum)] k:=rfl
theorem aH.st_d {β:Type} (x:aH) (y:D) (sz off id:Nat) (kw:V->List (Nat × Option aI)->Option β):aQ sz off id (.d y) (some (.box (aR x.cells))) kw = aQ sz off id (.d y) (some (.box [.d (.int .i64 x.From),.d (.int .i64 x.To),.d (.int .i64 x.Sum)])) kw:=rfl
theorem aH.st_nil {β:Type} (x:aH)  (sz off id:Nat) (kw:V->List (Nat × Option aI)->Option β):aQ sz off id .nil (some (.box (aR x.cells))) kw = aQ sz off id .nil (some (.box [.d (.int .i64 x.From),.d (.int .i64 x.To),.d (.int .i64 x.Sum)])) kw:=rfl
theorem aH.st_own {β:Type} (x:aH) (i v sz off id:Nat) (kw:V->List (Nat × Option aI)->Option β):aQ sz off id (.own i v) (some (.box (aR x.cells))) kw = aQ sz off id (.own i v) (some (.box [.d (.int .i64 x.From),.d (.int .i64 x.To),.d (.int .i64 x.Sum)])) kw:=rfl
theorem aH.st_agg {β:Type} (x:aH) (y:List V) (sz off id:Nat) (kw:V->List (Nat × Option aI)->Option β):aQ sz off id (.agg y) (some (.box (aR x.cells))) kw = aQ sz off id (.agg y) (some (.box [.d (.int .i64 x.From),.d (.int .i64 x.To),.d (.int .i64 x.Sum)])) kw:=rfl
theorem aH.st_ptr {β:Type} (x:aH) (i v sz off id:Nat) (kw:V->List (Nat × Option aI)->Option β):aQ sz off id (.ptr i v) (some (.box (aR x.cells))) kw = aQ sz off id (.ptr i v) (some (.box [.d (.int .i64 x.From),.d (.int .i64 x.To),.d (.int .i64 x.Sum)])) kw:=rfl
theorem aH.part {β:Type} (x:aH) (off id:Nat) (b:Option aI) (kw:V->List (Nat × Option aI)->Option β):aQ 3 (off + 1) id (kY x.cells) b kw = aQ 3 (off + 1) id (.agg [.d (.int .i64 x.From),.d (.int .i64 x.To),.d (.int .i64 x.Sum)]) b kw:=rfl
theorem aH.put {β:Type} (x:aH) (id:Nat) (cs:List V) (hc:cs.length = 3) (kw:V->List (Nat × Option aI)->Option β):aQ 3 0 id (kY x.cells) (some (.box cs)) kw = kw .any [(id,some (.box (aR x.cells)))]:=oK 3 id _ rfl cs hc
theorem aH.rset {β:Type} (x:aH) (off:Nat) (d:D) (ds:List D) (n:Nat) (k:List D->Option β):cE x.cells off (d :: ds) n k = cE [.int .i64 x.From,.int .i64 x.To,.int .i64 x.Sum] off (d :: ds) n k:=rfl
theorem aH.rfull {β:Type} (x y:aH) (k:List D->Option β):cE x.cells 0 y.cells 3 k = k y.cells:=by unfold cE; exact (if_pos ⟨rfl,Nat.le_refl _⟩).trans rfl
theorem aH.get0 {β:Type} (x:aH) (k:D->Option β):fS x.cells 0 k = k (.int .i64 x.From):=rfl
theorem aH.get1 {β:Type} (x:aH) (k:D->Option β):fS x.cells 1 k = k (.int .i64 x.To):=rfl
theorem aH.get2 {β:Type} (x:aH) (k:D->Option β):fS x.cells 2 k = k (.int .i64 x.Sum):=rfl
theorem aH.sub0_3 {β:Type} (x:aH) (k:List D->Option β):yZ x.cells 0 3 k = k x.cells:=rfl
theorem aH.cells_mk (f0 f1 f2:Int):aH.cells (aH.mk f0 f1 f2) = [.int .i64 f0,.int .i64 f1,.int .i64 f2]:=rfl
structure aC where
 due:Int
 from_:Int
 to:Int
 cost:Int
 most:Int
 back:Bool
 deriving Inhabited
def aC.cells (x:aC):List D:=[.int .i64 x.due,.int .i64 x.from_,.int .i64 x.to,.int .i64 x.cost,.int .i64 x.most,.bool x.back]
theorem aC.sized (xs:List aC):sized 6 (cM aC.cells xs) = true:=qR _ _ (fun x=>by rfl) xs
theorem aC.len (x:aC):x.cells.length = 6:=rfl
theorem aC.size {β:Type} (x:aC) (y:Option β):sW x.cells 6 y = y:=rfl
theorem aC.eq1 {β:Type} (x:aC) (ks:List Nat) (ys:List V) (k:Bool->Option β):lO ks (aR x.cells) ys k = lO ks [.d (.int .i64 x.due),.d (.int .i64 x.from_),.d (.int .i64 x.to),.d (.int .i64 x.cost),.d (.int .i64 x.most),.d (.bool x.back)] ys k:=rfl
theorem aC.eq2 {β:Type} (x:aC) (ks:List Nat) (ys:List V) (k:Bool->Option β):lO ks ys (aR x.cells) k = lO ks ys [.d (.int .i64 x.due),.d (.int .i64 x.from_),.d (.int .i64 x.to),.d (.int .i64 x.cost),.d (.int .i64 x.most),.d (.bool x.back)] k:=rfl
theorem aC.lens {β:Type} (x:aC) (y:Option β):A7 (aR x.cells) 6 y = y:=rfl
theorem aC.vsets {β:Type} (x:aC) (z:List V) (o:Nat) (k:List V->Option β):kU z o (aR x.cells) k = kU z o [.d (.int .i64 x.due),.d (.int .i64 x.from_),.d (.int .i64 x.to),.d (.int .i64 x.cost),.d (.int .i64 x.most),.d (.bool x.back)] k:=rfl
theorem aC.st_d {β:Type} (x:aC) (y:D) (sz off id:Nat) (kw:V->List (Nat × Option aI)->Option β):aQ sz off id (.d y) (some (.box (aR x.cells))) kw = aQ sz off id (.d y) (some (.box [.d (.int .i64 x.due),.d (.int .i64 x.from_),.d (.int .i64 x.to),.d (.int .i64 x.cost),.d (.int .i64 x.most),.d (.bool x.back)])) kw:=rfl
theorem aC.st_nil {β:Type} (x:aC)  (sz off id:Nat) (kw:V->List (Nat × Option aI)->Option β):aQ sz off id .nil (some (.box (aR x.cells))) kw = aQ sz off id .nil (some (.box [.d (.int .i64 x.due),.d (.int .i64 x.from_),.d (.int .i64 x.to),.d (.int .i64 x.cost),.d (.int .i64 x.most),.d (.bool x.back)])) kw:=rfl
theorem aC.st_own {β:Type} (x:aC) (i v sz off id:Nat) (kw:V->List (Nat × Option aI)->Option β):aQ sz off id (.own i v) (some (.box (aR x.cells))) kw = aQ sz off id (.own i v) (some (.box [.d (.int .i64 x.due),.d (.int .i64 x.from_),.d (.int .i64 x.to),.d (.int .i64 x.cost),.d (.int .i64 x.most),.d (.bool x.back)])) kw:=rfl
theorem aC.st_agg {β:Type} (x:aC) (y:List V) (sz off id:Nat) (kw:V->List (Nat × Option aI)->Option β):aQ sz off id (.agg y) (some (.box (aR x.cells))) kw = aQ sz off id (.agg y) (some (.box [.d (.int .i64 x.due),.d (.int .i64 x.from_),.d (.int .i64 x.to),.d (.int .i64 x.cost),.d (.int .i64 x.most),.d (.bool x.back)])) kw:=rfl
theorem aC.st_ptr {β:Type} (x:aC) (i v sz off id:Nat) (kw:V->List (Nat × Option aI)->Option β):aQ sz off id (.ptr i v) (some (.box (aR x.cells))) kw = aQ sz off id (.ptr i v) (some (.box [.d (.int .i64 x.due),.d (.int .i64 x.from_),.d (.int .i64 x.to),.d (.int .i64 x.cost),.d (.int .i64 x.most),.d (.bool x.back)])) kw:=rfl
theorem aC.part {β:Type} (x:aC) (off id:Nat) (b:Option aI) (kw:V->List (Nat × Option aI)->Option β):aQ 6 (off + 1) id (kY x.cells) b kw = aQ 6 (off + 1) id (.agg [.d (.int .i64 x.due),.d (.int .i64 x.from_),.d (.int .i64 x.to),.d (.int .i64 x.cost),.d (.int .i64 x.most),.d (.bool x.back)]) b kw:=rfl
theorem aC.put {β:Type} (x:aC) (id:Nat) (cs:List V) (hc:cs.length = 6) (kw:V->List (Nat × Option aI)->Option β):aQ 6 0 id (kY x.cells) (some (.box cs)) kw = kw .any [(id,some (.box (aR x.cells)))]:=oK 6 id _ rfl cs hc
theorem aC.rset {β:Type} (x:aC) (off:Nat) (d:D) (ds:List D) (n:Nat) (k:List D->Option β):cE x.cells off (d :: ds) n k = cE [.int .i64 x.due,.int .i64 x.from_,.int .i64 x.to,.int .i64 x.cost,.int .i64 x.most,.bool x.back] off (d :: ds) n k:=rfl
theorem aC.rfull {β:Type} (x y:aC) (k:List D->Option β):cE x.cells 0 y.cells 6 k = k y.cells:=by unfold cE; exact (if_pos ⟨rfl,Nat.le_refl _⟩).trans rfl
theorem aC.get0 {β:Type} (x:aC) (k:D->Option β):fS x.cells 0 k = k (.int .i64 x.due):=rfl
theorem aC.get1 {β:Type} (x:aC) (k:D->Option β):fS x.cells 1 k = k (.int .i64 x.from_):=rfl
theorem aC.get2 {β:Type} (x:aC) (k:D->Option β):fS x.cells 2 k = k (.int .i64 x.to):=rfl
theorem aC.get3 {β:Type} (x:aC) (k:D->Option β):fS x.cells 3 k = k (.int .i64 x.cost):=rfl
theorem aC.get4 {β:Type} (x:aC) (k:D->Option β):fS x.cells 4 k = k (.int .i64 x.most):=rfl
theorem aC.get5 {β:Type} (x:aC) (k:D->Option β):fS x.cells 5 k = k (.bool x.back):=rfl
theorem aC.sub0_6 {β:Type} (x:aC) (k:List D->Option β):yZ x.cells 0 6 k = k x.cells:=rfl
theorem aC.cells_mk (f0 f1 f2 f3 f4:Int) (f5:Bool):aC.cells (aC.mk f0 f1 f2 f3 f4 f5) = [.int .i64 f0,.int .i64 f1,.int .i64 f2,.int .i64 f3,.int .i64 f4,.bool f5]:=rfl
structure aD where
 c:Int
 steps:Int
 fine:Bool
 deriving Inhabited
def aD.cells (x:aD):List D:=[.int .i64 x.c,.int .i64 x.steps,.bool x.fine]
theorem aD.sized (xs:List aD):sized 3 (cM aD.cells xs) = true:=qR _ _ (fun x=>by rfl) xs
theorem aD.len (x:aD):x.cells.length = 3:=rfl
theorem aD.size {β:Type} (x:aD) (y:Option β):sW x.cells 3 y = y:=rfl
theorem aD.eq1 {β:Type} (x:aD) (ks:List Nat) (ys:List V) (k:Bool->Option β):lO ks (aR x.cells) ys k = lO ks [.d (.int .i64 x.c),.d (.int .i64 x.steps),.d (.bool x.fine)] ys k:=rfl
theorem aD.eq2 {β:Type} (x:aD) (ks:List Nat) (ys:List V) (k:Bool->Option β):lO ks ys (aR x.cells) k = lO ks ys [.d (.int .i64 x.c),.d (.int .i64 x.steps),.d (.bool x.fine)] k:=rfl
theorem aD.lens {β:Type} (x:aD) (y:Option β):A7 (aR x.cells) 3 y = y:=rfl
theorem aD.vsets {β:Type} (x:aD) (z:List V) (o:Nat) (k:List V->Option β):kU z o (aR x.cells) k = kU z o [.d (.int .i64 x.c),.d (.int .i64 x.steps),.d (.bool x.fine)] k:=rfl
theorem aD.st_d {β:Type} (x:aD) (y:D) (sz off id:Nat) (kw:V->List (Nat × Option aI)->Option β):aQ sz off id (.d y) (some (.box (aR x.cells))) kw = aQ sz off id (.d y) (some (.box [.d (.int .i64 x.c),.d (.int .i64 x.steps),.d (.bool x.fine)])) kw:=rfl
theorem aD.st_nil {β:Type} (x:aD)  (sz off id:Nat) (kw:V->List (Nat × Option aI)->Option β):aQ sz off id .nil (some (.box (aR x.cells))) kw = aQ sz off id .nil (some (.box [.d (.int .i64 x.c),.d (.int .i64 x.steps),.d (.bool x.fine)])) kw:=rfl
theorem aD.st_own {β:Type} (x:aD) (i v sz off id:Nat) (kw:V->List (Nat × Option aI)->Option β):aQ sz off id (.own i v) (some (.box (aR x.cells))) kw = aQ sz off id (.own i v) (some (.box [.d (.int .i64 x.c),.d (.int .i64 x.steps),.d (.bool x.fine)])) kw:=rfl
theorem aD.st_agg {β:Type} (x:aD) (y:List V) (sz off id:Nat) (kw:V->List (Nat × Option aI)->Option β):aQ sz off id (.agg y) (some (.box (aR x.cells))) kw = aQ sz off id (.agg y) (some (.box [.d (.int .i64 x.c),.d (.int .i64 x.steps),.d (.bool x.fine)])) kw:=rfl
theorem aD.st_ptr {β:Type} (x:aD) (i v sz off id:Nat) (kw:V->List (Nat × Option aI)->Option β):aQ sz off id (.ptr i v) (some (.box (aR x.cells))) kw = aQ sz off id (.ptr i v) (some (.box [.d (.int .i64 x.c),.d (.int .i64 x.steps),.d (.bool x.fine)])) kw:=rfl
theorem aD.part {β:Type} (x:aD) (off id:Nat) (b:Option aI) (kw:V->List (Nat × Option aI)->Option β):aQ 3 (off + 1) id (kY x.cells) b kw = aQ 3 (off + 1) id (.agg [.d (.int .i64 x.c),.d (.int .i64 x.steps),.d (.bool x.fine)]) b kw:=rfl
theorem aD.put {β:Type} (x:aD) (id:Nat) (cs:List V) (hc:cs.length = 3) (kw:V->List (Nat × Option aI)->Option β):aQ 3 0 id (kY x.cells) (some (.box cs)) kw = kw .any [(id,some (.box (aR x.cells)))]:=oK 3 id _ rfl cs hc
theorem aD.rset {β:Type} (x:aD) (off:Nat) (d:D) (ds:List D) (n:Nat) (k:List D->Option β):cE x.cells off (d :: ds) n k = cE [.int .i64 x.c,.int .i64 x.steps,.bool x.fine] off (d :: ds) n k:=rfl
theorem aD.rfull {β:Type} (x y:aD) (k:List D->Option β):cE x.cells 0 y.cells 3 k = k y.cells:=by unfold cE; exact (if_pos ⟨rfl,Nat.le_refl _⟩).trans rfl
theorem aD.get0 {β:Type} (x:aD) (k:D->Option β):fS x.cells 0 k = k (.int .i64 x.c):=rfl
theorem aD.get1 {β:Type} (x:aD) (k:D->Option β):fS x.cells 1 k = k (.int .i64 x.steps):=rfl
theorem aD.get2 {β:Type} (x:aD) (k:D->Option β):fS x.cells 2 k = k (.bool x.fine):=rfl
theorem aD.sub0_3 {β:Type} (x:aD) (k:List D->Option β):yZ x.cells 0 3 k = k x.cells:=rfl
theorem aD.cells_mk (f0 f1:Int) (f2:Bool):aD.cells (aD.mk f0 f1 f2) = [.int .i64 f0,.int .i64 f1,.bool f2]:=rfl
structure bH where
 Kind:Int
 Who:Int
 To:Int
 Part:Int
 At:Int
 Sum:Int
 Day:Int
 City:Int
 Form:Int
 deriving Inhabited
def bH.cells (x:bH):List D:=[.int .i64 x.Kind,.int .i64 x.Who,.int .i64 x.To,.int .i64 x.Part,.int .i64 x.At,.int .i64 x.Sum,.int .i64 x.Day,.int .i64 x.City,.int .i64 x.Form]
theorem bH.sized (xs:List bH):sized 9 (cM bH.cells xs) = true:=qR _ _ (fun x=>by rfl) xs
theorem bH.len (x:bH):x.cells.length = 9:=rfl
theorem bH.size {β:Type} (x:bH) (y:Option β):sW x.cells 9 y = y:=rfl
theorem bH.eq1 {β:Type} (x:bH) (ks:List Nat) (ys:List V) (k:Bool->Option β):lO ks (aR x.cells) ys k = lO ks [.d (.int .i64 x.Kind),.d (.int .i64 x.Who),.d (.int .i64 x.To),.d (.int .i64 x.Part),.d (.int .i64 x.At),.d (.int .i64 x.Sum),.d (.int .i64 x.Day),.d (.int .i64 x.City),.d (.int .i64 x.Form)] ys k:=rfl
theorem bH.eq2 {β:Type} (x:bH) (ks:List Nat) (ys:List V) (k:Bool->Option β):lO ks ys (aR x.cells) k = lO ks ys [.d (.int .i64 x.Kind),.d (.int .i64 x.Who),.d (.int .i64 x.To),.d (.int .i64 x.Part),.d (.int .i64 x.At),.d (.int .i64 x.Sum),.d (.int .i64 x.Day),.d (.int .i64 x.City),.d (.int .i64 x.Form)] k:=rfl
theorem bH.lens {β:Type} (x:bH) (y:Option β):A7 (aR x.cells) 9 y = y:=rfl
theorem bH.vsets {β:Type} (x:bH) (z:List V) (o:Nat) (k:List V->Option β):kU z o (aR x.cells) k = kU z o [.d (.int .i64 x.Kind),.d (.int .i64 x.Who),.d (.int .i64 x.To),.d (.int .i64 x.Part),.d (.int .i64 x.At),.d (.int .i64 x.Sum),.d (.int .i64 x.Day),.d (.int .i64 x.City),.d (.int .i64 x.Form)] k:=rfl
theorem bH.st_d {β:Type} (x:bH) (y:D) (sz off id:Nat) (kw:V->List (Nat × Option aI)->Option β):aQ sz off id (.d y) (some (.box (aR x.cells))) kw = aQ sz off id (.d y) (some (.box [.d (.int .i64 x.Kind),.d (.int .i64 x.Who),.d (.int .i64 x.To),.d (.int .i64 x.Part),.d (.int .i64 x.At),.d (.int .i64 x.Sum),.d (.int .i64 x.Day),.d (.int .i64 x.City),.d (.int .i64 x.Form)])) kw:=rfl
theorem bH.st_nil {β:Type} (x:bH)  (sz off id:Nat) (kw:V->List (Nat × Option aI)->Option β):aQ sz off id .nil (some (.box (aR x.cells))) kw = aQ sz off id .nil (some (.box [.d (.int .i64 x.Kind),.d (.int .i64 x.Who),.d (.int .i64 x.To),.d (.int .i64 x.Part),.d (.int .i64 x.At),.d (.int .i64 x.Sum),.d (.int .i64 x.Day),.d (.int .i64 x.City),.d (.int .i64 x.Form)])) kw:=rfl
theorem bH.st_own {β:Type} (x:bH) (i v sz off id:Nat) (kw:V->List (Nat × Option aI)->Option β):aQ sz off id (.own i v) (some (.box (aR x.cells))) kw = aQ sz off id (.own i v) (some (.box [.d (.int .i64 x.Kind),.d (.int .i64 x.Who),.d (.int .i64 x.To),.d (.int .i64 x.Part),.d (.int .i64 x.At),.d (.int .i64 x.Sum),.d (.int .i64 x.Day),.d (.int .i64 x.City),.d (.int .i64 x.Form)])) kw:=rfl
theorem bH.st_agg {β:Type} (x:bH) (y:List V) (sz off id:Nat) (kw:V->List (Nat × Option aI)->Option β):aQ sz off id (.agg y) (some (.box (aR x.cells))) kw = aQ sz off id (.agg y) (some (.box [.d (.int .i64 x.Kind),.d (.int .i64 x.Who),.d (.int .i64 x.To),.d (.int .i64 x.Part),.d (.int .i64 x.At),.d (.int .i64 x.Sum),.d (.int .i64 x.Day),.d (.int .i64 x.City),.d (.int .i64 x.Form)])) kw:=rfl
theorem bH.st_ptr {β:Type} (x:bH) (i v sz off id:Nat) (kw:V->List (Nat × Option aI)->Option β):aQ sz off id (.ptr i v) (some (.box (aR x.cells))) kw = aQ sz off id (.ptr i v) (some (.box [.d (.int .i64 x.Kind),.d (.int .i64 x.Who),.d (.int .i64 x.To),.d (.int .i64 x.Part),.d (.int .i64 x.At),.d (.int .i64 x.Sum),.d (.int .i64 x.Day),.d (.int .i64 x.City),.d (.int .i64 x.Form)])) kw:=rfl
theorem bH.part {β:Type} (x:bH) (off id:Nat) (b:Option aI) (kw:V->List (Nat × Option aI)->Option β):aQ 9 (off + 1) id (kY x.cells) b kw = aQ 9 (off + 1) id (.agg [.d (.int .i64 x.Kind),.d (.int .i64 x.Who),.d (.int .i64 x.To),.d (.int .i64 x.Part),.d (.int .i64 x.At),.d (.int .i64 x.Sum),.d (.int .i64 x.Day),.d (.int .i64 x.City),.d (.int .i64 x.Form)]) b kw:=rfl
theorem bH.put {β:Type} (x:bH) (id:Nat) (cs:List V) (hc:cs.length = 9) (kw:V->List (Nat × Option aI)->Option β):aQ 9 0 id (kY x.cells) (some (.box cs)) kw = kw .any [(id,some (.box (aR x.cells)))]:=oK 9 id _ rfl cs hc
theorem bH.rset {β:Type} (x:bH) (off:Nat) (d:D) (ds:List D) (n:Nat) (k:List D->Option β):cE x.cells off (d :: ds) n k = cE [.int .i64 x.Kind,.int .i64 x.Who,.int .i64 x.To,.int .i64 x.Part,.int .i64 x.At,.int .i64 x.Sum,.int .i64 x.Day,.int .i64 x.City,.int .i64 x.Form] off (d :: ds) n k:=rfl
theorem bH.rfull {β:Type} (x y:bH) (k:List D->Option β):cE x.cells 0 y.cells 9 k = k y.cells:=by unfold cE; exact (if_pos ⟨rfl,Nat.le_refl _⟩).trans rfl
theorem bH.get0 {β:Type} (x:bH) (k:D->Option β):fS x.cells 0 k = k (.int .i64 x.Kind):=rfl
theorem bH.get1 {β:Type} (x:bH) (k:D->Option β):fS x.cells 1 k = k (.int .i64 x.Who):=rfl
theorem bH.get2 {β:Type} (x:bH) (k:D->Option β):fS x.cells 2 k = k (.int .i64 x.To):=rfl
theorem bH.get3 {β:Type} (x:bH) (k:D->Option β):fS x.cells 3 k = k (.int .i64 x.Part):=rfl
theorem bH.get4 {β:Type} (x:bH) (k:D->Option β):fS x.cells 4 k = k (.int .i64 x.At):=rfl
theorem bH.get5 {β:Type} (x:bH) (k:D->Option β):fS x.cells 5 k = k (.int .i64 x.Sum):=rfl
theorem bH.get6 {β:Type} (x:bH) (k:D->Option β):fS x.cells 6 k = k (.int .i64 x.Day):=rfl
theorem bH.get7 {β:Type} (x:bH) (k:D->Option β):fS x.cells 7 k = k (.int .i64 x.City):=rfl
theorem bH.get8 {β:Type} (x:bH) (k:D->Option β):fS x.cells 8 k = k (.int .i64 x.Form):=rfl
theorem bH.sub0_9 {β:Type} (x:bH) (k:List D->Option β):yZ x.cells 0 9 k = k x.cells:=rfl
theorem bH.cells_mk (f0 f1 f2 f3 f4 f5 f6 f7 f8:Int):bH.cells (bH.mk f0 f1 f2 f3 f4 f5 f6 f7 f8) = [.int .i64 f0,.int .i64 f1,.int .i64 f2,.int .i64 f3,.int .i64 f4,.int .i64 f5,.int .i64 f6,.int .i64 f7,.int .i64 f8]:=rfl
theorem aRE {β:Type} (x:Int) (k:D->Option β):fS (cI x) 0 k = k (.int .i64 x):=rfl
theorem aP4 {β:Type} (x:Int) (off:Nat) (d:D) (ds:List D) (n:Nat) (k:List D->Option β):cE (cI x) off (d :: ds) n k = cE [.int .i64 x] off (d :: ds) n k:=rfl
theorem aNy {β:Type} (x:Int) (y:Option β):sW (cI x) 1 y = y:=rfl
theorem aSs {β:Type} (x:Bool) (k:D->Option β):fS (cB x) 0 k = k (.bool x):=rfl
theorem aO0 {β:Type} (x:Bool) (off:Nat) (d:D) (ds:List D) (n:Nat) (k:List D->Option β):cE (cB x) off (d :: ds) n k = cE [.bool x] off (d :: ds) n k:=rfl
theorem aN3 {β:Type} (x:Bool) (y:Option β):sW (cB x) 1 y = y:=rfl
theorem aRL {β:Type} (x:ByteArray) (k:D->Option β):fS (cS x) 0 k = k (.str x):=rfl
theorem aMo {β:Type} (x:ByteArray) (off:Nat) (d:D) (ds:List D) (n:Nat) (k:List D->Option β):cE (cS x) off (d :: ds) n k = cE [.str x] off (d :: ds) n k:=rfl
theorem aM4 {β:Type} (x:ByteArray) (y:Option β):sW (cS x) 1 y = y:=rfl
theorem aPE {β:Type} (x0:D) (y:Option β):sW [x0] 1 y = y:=rfl
theorem aNs {β:Type} (x0 x1:D) (y:Option β):sW [x0,x1] 2 y = y:=rfl
theorem aPN {β:Type} (x0 x1 x2:D) (y:Option β):sW [x0,x1,x2] 3 y = y:=rfl
theorem aNe {β:Type} (x0 x1 x2 x3 x4 x5:D) (y:Option β):sW [x0,x1,x2,x3,x4,x5] 6 y = y:=rfl
theorem aPP {β:Type} (x0 x1 x2 x3 x4 x5 x6:D) (y:Option β):sW [x0,x1,x2,x3,x4,x5,x6] 7 y = y:=rfl
theorem aNg {β:Type} (x0 x1 x2 x3 x4 x5 x6 x7 x8:D) (y:Option β):sW [x0,x1,x2,x3,x4,x5,x6,x7,x8] 9 y = y:=rfl
theorem aQ7 {β:Type} (i:IntKind) (x:Int) (k:D->Option β):fS (cK i x) 0 k = k (.int i x):=rfl
theorem aMw {β:Type} (i:IntKind) (x:Int) (off:Nat) (d:D) (ds:List D) (n:Nat) (k:List D->Option β):cE (cK i x) off (d :: ds) n k = cE [.int i x] off (d :: ds) n k:=rfl
theorem aNU {β α:Type} (c:α->List D) (x:List α) (off:Nat) (d:D) (ds:List D) (n:Nat) (k:List D->Option β):cE (cL c x) off (d :: ds) n k = cE [.sl (cM c x)] off (d :: ds) n k:=rfl
theorem aPO {β:Type} (i:IntKind) (x:Int) (y:Option β):sW (cK i x) 1 y = y:=rfl
theorem aSe {β α:Type} (c:α->List D) (x:List α) (k:D->Option β):fS (cL c x) 0 k = k (.sl (cM c x)):=rfl
theorem aM6 {β α:Type} (c:α->List D) (x:List α) (y:Option β):sW (cL c x) 1 y = y:=rfl
theorem WO {β:Type} {T:wE} {d:Nat} {fr:List (Nat × V)} {bl:List (Nat × Option aI)} {k:V->Option β} {kw:V->List (Nat × Option aI)->Option β} (l cp:bM):rN T d (.makeSlice 114 3 24 [.int .i64 0,.int .i64 0,.bool false] l cp) fr bl k kw = bG bl d fun b=>gC b (bV fr l fun a=>bV fr cp fun b=>aMP 24 a b fun n=>kw (.own d 0) [(d,some (.rows 0 114 3 (cM aD.cells (List.replicate n (aD.mk 0 0 false)))))]):=aQo 114 3 24 [.int .i64 0,.int .i64 0,.bool false] aD.cells ((aD.mk 0 0 false):aD) rfl l cp
theorem aAU {β:Type} {T:wE} {d:Nat} {fr:List (Nat × V)} {bl:List (Nat × Option aI)} {k:V->Option β} {kw:V->List (Nat × Option aI)->Option β} (l cp:bM):rN T d (.makeSlice 3 1 8 [.int .i64 0] l cp) fr bl k kw = bG bl d fun b=>gC b (bV fr l fun a=>bV fr cp fun b=>aMP 8 a b fun n=>kw (.own d 0) [(d,some (.rows 0 3 1 (cM cI (List.replicate n 0))))]):=aQo 3 1 8 [.int .i64 0] cI (0:Int) rfl l cp
theorem VM {β:Type} (k:List (List D)->Option β):P9 23 [] k = k (cM (cL cI) ([]:List (List Int))):=rfl
theorem ST {β:Type} (a0 a1:List Int) (k:List (List D)->Option β):P9 23 [[.sl (cM cI a0)],[.sl (cM cI a1)]] k = k (cM (cL cI) ([a0,a1]:List (List Int))):=rfl
theorem TB {β:Type} (a0:List Int) (k:List (List D)->Option β):P9 23 [[.sl (cM cI a0)]] k = k (cM (cL cI) ([a0]:List (List Int))):=rfl
theorem R7 {β:Type} (k:List (List D)->Option β):P9 23 [[.sl []]] k = k (cM (cL cI) ([[]]:List (List Int))):=rfl
theorem aAI {β:Type} (k:List (List D)->Option β):P9 3 [] k = k (cM cI ([]:List Int)):=rfl
theorem TI {β:Type} (a0 a1:Int) (k:List (List D)->Option β):P9 3 [[.int .i64 a0],[.int .i64 a1]] k = k (cM cI ([a0,a1]:List Int)):=rfl
theorem PY {β:Type} (a0 a1 a2 a3:Int) (k:List (List D)->Option β):P9 3 [[.int .i64 a0],[.int .i64 a1],[.int .i64 a2],[.int .i64 a3]] k = k (cM cI ([a0,a1,a2,a3]:List Int)):=rfl
theorem VH {β:Type} (a0:Int) (k:List (List D)->Option β):P9 3 [[.int .i64 a0]] k = k (cM cI ([a0]:List Int)):=rfl
theorem KJ {β:Type} (a0_0 a0_1 a0_2 a0_3 a0_4 a0_5 a1_0 a1_1 a1_2 a1_3 a1_4 a1_5:Int) (a1_6:List aJ) (a2_0 a2_1 a2_2 a2_3 a2_4 a2_5 a3_0 a3_1 a3_2 a3_3 a3_4 a3_5:Int) (a3_6:List aJ) (k:List (List D)->Option β):P9 48 [[.int .i64 a0_0,.int .i64 a0_1,.int .i64 a0_2,.int .i64 a0_3,.int .i64 a0_4,.int .i64 a0_5,.sl []],[.int .i64 a1_0,.int .i64 a1_1,.int .i64 a1_2,.int .i64 a1_3,.int .i64 a1_4,.int .i64 a1_5,.sl (cM aJ.cells a1_6)],[.int .i64 a2_0,.int .i64 a2_1,.int .i64 a2_2,.int .i64 a2_3,.int .i64 a2_4,.int .i64 a2_5,.sl []],[.int .i64 a3_0,.int .i64 a3_1,.int .i64 a3_2,.int .i64 a3_3,.int .i64 a3_4,.int .i64 a3_5,.sl (cM aJ.cells a3_6)]] k = k (cM aE.cells ([(aE.mk a0_0 a0_1 a0_2 a0_3 a0_4 a0_5 []),(aE.mk a1_0 a1_1 a1_2 a1_3 a1_4 a1_5 a1_6),(aE.mk a2_0 a2_1 a2_2 a2_3 a2_4 a2_5 []),(aE.mk a3_0 a3_1 a3_2 a3_3 a3_4 a3_5 a3_6)]:List aE)):=rfl
theorem VP {β:Type} (k:List (List D)->Option β):P9 54 [] k = k (cM aH.cells ([]:List aH)):=rfl
theorem S5 {β:Type} (a0_0 a0_1 a0_2:Int) (k:List (List D)->Option β):P9 54 [[.int .i64 a0_0,.int .i64 a0_1,.int .i64 a0_2]] k = k (cM aH.cells ([(aH.mk a0_0 a0_1 a0_2)]:List aH)):=rfl
theorem TJ {β:Type} (a0:aH) (k:List (List D)->Option β):P9 54 [aH.cells a0] k = k (cM aH.cells ([a0]:List aH)):=rfl
theorem WF {β:Type} (k:List (List D)->Option β):P9 60 [] k = k (cM bH.cells ([]:List bH)):=rfl
theorem SW {β:Type} (a0_0 a0_1 a0_2 a0_3 a0_4 a0_5 a0_6 a0_7 a0_8:Int) (k:List (List D)->Option β):P9 60 [[.int .i64 a0_0,.int .i64 a0_1,.int .i64 a0_2,.int .i64 a0_3,.int .i64 a0_4,.int .i64 a0_5,.int .i64 a0_6,.int .i64 a0_7,.int .i64 a0_8]] k = k (cM bH.cells ([(bH.mk a0_0 a0_1 a0_2 a0_3 a0_4 a0_5 a0_6 a0_7 a0_8)]:List bH)):=rfl
theorem S1 {β:Type} (a0_0 a0_1:Int) (k:List (List D)->Option β):P9 87 [[.int .i64 a0_0,.int .i64 a0_1]] k = k (cM aJ.cells ([(aJ.mk a0_0 a0_1)]:List aJ)):=rfl
theorem WS {β:Type} (k:List (List D)->Option β):P9 95 [] k = k (cM aC.cells ([]:List aC)):=rfl
theorem TE {β:Type} (a0_0 a0_1 a0_2 a0_3 a0_4:Int) (a0_5:Bool) (k:List (List D)->Option β):P9 95 [[.int .i64 a0_0,.int .i64 a0_1,.int .i64 a0_2,.int .i64 a0_3,.int .i64 a0_4,.bool a0_5]] k = k (cM aC.cells ([(aC.mk a0_0 a0_1 a0_2 a0_3 a0_4 a0_5)]:List aC)):=rfl
theorem TK {β:Type} (a0:aC) (k:List (List D)->Option β):P9 95 [aC.cells a0] k = k (cM aC.cells ([a0]:List aC)):=rfl
theorem V7 {β:Type} (xs:List aD) (i:Nat) (a_0 a_1:Int) (a_2:Bool) (k:List (List D)->Option β):BM 114 (cM aD.cells xs) i [.int .i64 a_0,.int .i64 a_1,.bool a_2] k = k (cM aD.cells (xs.set i (aD.mk a_0 a_1 a_2))):=EK 114 aD.cells xs i (aD.mk a_0 a_1 a_2) k
theorem aDr {β:Type} (xs:List Int) (i:Nat) (a:Int) (k:List (List D)->Option β):BM 3 (cM cI xs) i [.int .i64 a] k = k (cM cI (xs.set i a)):=EK 3 cI xs i a k
theorem XR {β:Type} (xs:List aC) (i:Nat) (a_0 a_1 a_2 a_3 a_4:Int) (a_5:Bool) (k:List (List D)->Option β):BM 95 (cM aC.cells xs) i [.int .i64 a_0,.int .i64 a_1,.int .i64 a_2,.int .i64 a_3,.int .i64 a_4,.bool a_5] k = k (cM aC.cells (xs.set i (aC.mk a_0 a_1 a_2 a_3 a_4 a_5))):=EK 95 aC.cells xs i (aC.mk a_0 a_1 a_2 a_3 a_4 a_5) k
/- all rules as one -/
set_option linter.defProp false
def DN:=aN (aN (aN (aN (aN (aN (aN (aN (aN @aRr @aRl) (aN @aRi @aLd)) (aN (aN @aMj @aFs) (aN @aPb (aN @aMq @aN8)))) (aN (aN (aN @aDf @aIT) (aN @aMc @aA9)) (aN (aN @ZR @aFM) (aN @aAe (aN @aEZ @aN1))))) (aN (aN (aN (aN @aQ5 @aJE) (aN @aIF @aJw)) (aN (aN @aKC @aHQ) (aN @aBi (aN @aJq @aLt)))) (aN (aN (aN @aCI @aCb) (aN @aBm @aMH)) (aN (aN @aHs @aF5) (aN @aES (aN @aA5 @aEV)))))) (aN (aN (aN (aN (aN @aCJ @aKl) (aN @aLw @aA6)) (aN (aN @aCe @aCc) (aN @aFg (aN @W9 @aDg)))) (aN (aN (aN @aBw @aJr) (aN @aL4 @aIt)) (aN (aN @aFQ @aNr) (aN @aGv (aN @S2 @aKP))))) (aN (aN (aN (aN @WZ @SZ) (aN @aOQ @aFb)) (aN (aN @SX @aFZ) (aN @aCa (aN @aBs @Z8)))) (aN (aN (aN @aKB @aIE) (aN @aFn @aBW)) (aN (aN @YJ @aGu) (aN @aP3 (aN @aKA @aJP))))))) (aN (aN (aN (aN (aN (aN @aKR @RW) (aN @aMT @aMv)) (aN (aN @aRB @aIh) (aN @VQ (aN @aFL @aEI)))) (aN (aN (aN @aLS @aPZ) (aN @aNJ @aAo)) (aN (aN @aIO @aF7) (aN @aBq (aN @aGa @aH5))))) (aN (aN (aN (aN @aHu @aA4) (aN @aPQ @aME)) (aN (aN @aC7 @aK3) (aN @aBf (aN @aI3 @aJ5)))) (aN (aN (aN @aBJ @J6) (aN @aHc @aIo)) (aN (aN @aG9 @aGk) (aN @aOv (aN @aNw @ZK)))))) (aN (aN (aN (aN (aN @XT @aHS) (aN @aIv @aHU)) (aN (aN @aR5 @aLD) (aN @aK5 (aN @aKm @aQe)))) (aN (aN (aN @aFG @aGi) (aN @aHC @aHW)) (aN (aN @aGx @aIW) (aN @aJz (aN @aJv @aHi))))) (aN (aN (aN (aN @aFF @aPD) (aN @aKt @aKv)) (aN (aN @aOL @aIw) (aN @aSk (aN @aRq @aQ8)))) (aN (aN (aN @aIA @aIJ) (aN @aJU @aMF)) (aN (aN @aPB @aOs) (aN @aHa (aN @aCY @aCi)))))))) (aN (aN (aN (aN (aN (aN (aN @aLG @aIC) (aN @aMZ @aMt)) (aN (aN @aCV @aLf) (aN @aHN (aN @aIp @aKH)))) (aN (aN (aN @aHo @aH3) (aN @aOn @aPe)) (aN (aN @aO3 @aRu) (aN @aR0 (aN @aId @aK0))))) (aN (aN (aN (aN @aKO @aF0) (aN @aNX @aGL)) (aN (aN @Y4 @aHH) (aN @VZ (aN @aOU @aP1)))) (aN (aN (aN @aJ8 @aLX) (aN @aKE @aKK)) (aN (aN @aJp @aJm) (aN @aHZ (aN @aJe @aOu)))))) (aN (aN (aN (aN (aN @aOM @aM0) (aN @aRK @aQH)) (aN (aN @aSl @aND) (aN @aMN (aN @aOD @aNM)))) (aN (aN (aN @aJ6 @aK1) (aN @aHL @aE4)) (aN (aN @aIl @aGb) (aN @aE3 (aN @aCv @aNC))))) (aN (aN (aN (aN @aSn @aKJ) (aN @aOW @aMs)) (aN (aN @aOa @aIN) (aN @S8 (aN @aFj @S6)))) (aN (aN (aN @aFI @aFf) (aN @aB2 @RJ)) (aN (aN @aLK @ZF) (aN @aNO (aN @aNB @aKG))))))) (aN (aN (aN (aN (aN (aN @aBg @aDk) (aN @XK @aC1)) (aN (aN @aB1 @ZT) (aN @aCm (aN @aFW @aBM)))) (aN (aN (aN @aCH @ZC) (aN @aGc @aBa)) (aN (aN @aOo @aNk) (aN @aDL (aN @aHw @aCx))))) (aN (aN (aN (aN @aBR @aCk) (aN @VT @aHx)) (aN (aN @aKh @aLV) (aN @aPT (aN @aKj @aLC)))) (aN (aN (aN @aH0 @YF) (aN @aP6 @aNn)) (aN (aN @XJ @aDB) (aN @aBV (aN @aII @aIg)))))) (aN (aN (aN (aN (aN @aF8 @aAA) (aN @aAc @ZP)) (aN (aN @aO6 @aPy) (aN @aAx (aN @aPI @aRb)))) (aN (aN (aN @aOj @aS2) (aN @aOg @V6)) (aN (aN @X8 @YO) (aN @EK (aN @aRg @aR2))))) (aN (aN (aN (aN @aQI @aOm) (aN @aSC @aTI)) (aN (aN @aTM @aLm) (aN @aJD (aN @aLz @aLk)))) (aN (aN (aN @aLU @aJC) (aN @aL5 @aKU)) (aN (aN @aKw @aKr) (aN @aLJ (aN @aKZ @aQb))))))))) (aN (aN (aN (aN (aN (aN (aN (aN @aJG @aHE) (aN @aEH @aHg)) (aN (aN @aEX @aHn) (aN @aEQ (aN @aFp @aFK)))) (aN (aN (aN @aGZ @aE6) (aN @aPv @aMO)) (aN (aN @aOA @aLi) (aN @aGO (aN @UU @OR))))) (aN (aN (aN (aN @OV @aOq) (aN @aMe @aKk)) (aN (aN @aG8 @aFw) (aN @aP9 (aN @aJb @aDl)))) (aN (aN (aN @aBx @aP7) (aN @aQP @aRY)) (aN (aN @aFl @aHy) (aN @aGj (aN @aEU @aBQ)))))) (aN (aN (aN (aN (aN @aB4 @aBP) (aN @aCo @aDd)) (aN (aN @aBO @aDp) (aN @aB7 (aN @V4 @aKy)))) (aN (aN (aN @aA0 @aBd) (aN @aER @aGT)) (aN (aN @aBB @aSF) (aN @aMV (aN @aPL @aI0))))) (aN (aN (aN (aN @aI6 @aFN) (aN @aOB @aMz)) (aN (aN @aGm @EL) (aN @aRm (aN @aLo @aLY)))) (aN (aN (aN @aAJ @aG1) (aN @aSb @XU)) (aN (aN @aGH @aKo) (aN @aIR (aN @aQ2 @aRz))))))) (aN (aN (aN (aN (aN (aN @aOH @aID) (aN @aET @aAS)) (aN (aN @aNi @aQT) (aN @aSm (aN @aH6 @aR6)))) (aN (aN (aN @aHK @aBk) (aN @aGo @aCC)) (aN (aN @aOe @aMC) (aN @aPo (aN @aOC @aSd))))) (aN (aN (aN (aN @aJs @aRx) (aN @aLr @TD)) (aN (aN @TN @Q9) (aN @aOh (aN @aGW @aGP)))) (aN (aN (aN @aEM @aAZ) (aN @aAs @aHz)) (aN (aN @Z3 @aBt) (aN @XO (aN @ZY @aDq)))))) (aN (aN (aN (aN (aN @aAD @aA1) (aN @aCs @aKF)) (aN (aN @aKM @aBH) (aN @aDo (aN @aBj @aEP)))) (aN (aN (aN @aBZ @X5) (aN @aCW @X7)) (aN (aN @TC @aAz) (aN @aAb (aN @aSh @aQO))))) (aN (aN (aN (aN @aRG @aIr) (aN @aLg @aGz)) (aN (aN @aMK @aNl) (aN @aRN (aN @aJM @aGe)))) (aN (aN (aN @aR4 @aSg) (aN @aEL @aHT)) (aN (aN @aOc @aJQ) (aN @aKb (aN @aLh @aG7)))))))) (aN (aN (aN (aN (aN (aN (aN @aBT @aC6) (aN @aFu @aCr)) (aN (aN @aCX @VF) (aN @VU (aN @aI7 @aRH)))) (aN (aN (aN @aQM @aRI) (aN @aGp @aAk)) (aN (aN @aFz @aHq) (aN @aA3 (aN @XN @aRU))))) (aN (aN (aN (aN @aRo @aRW) (aN @aCU @aJA)) (aN (aN @aI1 @aIq) (aN @aN5 (aN @aLF @ZQ)))) (aN (aN (aN @aFB @TX) (aN @SV @aRv)) (aN (aN @aQU @aBA) (aN @aJX (aN @aFT @aFv)))))) (aN (aN (aN (aN (aN @aJo @aFD) (aN @T9 @aC9)) (aN (aN @aDZ @aNN) (aN @aIB (aN @aEN @aHA)))) (aN (aN (aN @aF2 @aRp) (aN @aRA @aMr)) (aN (aN @aNT @aLR) (aN @aOG (aN @aPt @aH7))))) (aN (aN (aN (aN @aK8 @aGn) (aN @aBp @Z9)) (aN (aN @aFy @aHj) (aN @aBF (aN @aQd @aIb)))) (aN (aN (aN @aHI @aFh) (aN @ZH @ZN)) (aN (aN @aEw @aD6) (aN @aPk (aN @aL6 @aJd))))))) (aN (aN (aN (aN (aN (aN @aKV @aMd) (aN @aN0 @ZX)) (aN (aN @aM9 @aMJ) (aN @aCz (aN @aKc @aGS)))) (aN (aN (aN @aBD @aCf) (aN @aL0 @aBu)) (aN (aN @aAh @X3) (aN @V3 (aN @aK2 @aKN))))) (aN (aN (aN (aN @aAK @aFV) (aN @aDz @YQ)) (aN (aN @aHJ @aB6) (aN @WA (aN @aCt @ZJ)))) (aN (aN (aN @TX @SV) (aN @aMD @aSr)) (aN (aN @aB5 @YL) (aN @aGr (aN @aDt @aKT)))))) (aN (aN (aN (aN (aN @aI5 @aMU) (aN @aJn @aKI)) (aN (aN @aRa @aRZ) (aN @aGD (aN @aHk @aFY)))) (aN (aN (aN @aHe @aJR) (aN @aFE @W2)) (aN (aN @aDw @ZU) (aN @aG5 (aN @aBI @O9))))) (aN (aN (aN (aN @aJO @aFx) (aN @aC3 @aE0)) (aN (aN @aJ3 @aOK) (aN @aEl (aN @aMk @aE8)))) (aN (aN (aN @aFX @aFR) (aN @aJZ @aD7)) (aN (aN @aHP @aPi) (aN @aIX (aN @aGt @aGU)))))))))
def DR:=aN (aN (aN (aN (aN (aN (aN @aJ.size @aJ.eq1) (aN @aJ.eq2 (aN @aJ.lens @aJ.vsets))) (aN (aN @aJ.st_d @aJ.st_nil) (aN @aJ.st_own (aN @aJ.st_agg @aJ.st_ptr)))) (aN (aN (aN @aJ.part @aJ.put) (aN @aJ.rset (aN @aJ.rfull @aJ.get0))) (aN (aN @aJ.get1 @aJ.sub0_2) (aN @aE.size (aN @aE.eq1 @aE.eq2))))) (aN (aN (aN (aN @aE.lens @aE.vsets) (aN @aE.st_d (aN @aE.st_nil @aE.st_own))) (aN (aN @aE.st_agg @aE.st_ptr) (aN @aE.part (aN @aE.put @aE.rset)))) (aN (aN (aN @aE.rfull @aE.get0) (aN @aE.get1 (aN @aE.get2 @aE.get3))) (aN (aN @aE.get4 (aN @aE.get5 @aE.get6)) (aN @aE.sub0_7 (aN @aH.size @aH.eq1)))))) (aN (aN (aN (aN (aN @aH.eq2 @aH.lens) (aN @aH.vsets (aN @aH.st_d @aH.st_nil))) (aN (aN @aH.st_own @aH.st_agg) (aN @aH.st_ptr (aN @aH.part @aH.put)))) (aN (aN (aN @aH.rset @aH.rfull) (aN @aH.get0 (aN @aH.get1 @aH.get2))) (aN (aN @aH.sub0_3 @aC.size) (aN @aC.eq1 (aN @aC.eq2 @aC.lens))))) (aN (aN (aN (aN @aC.vsets @aC.st_d) (aN @aC.st_nil (aN @aC.st_own @aC.st_agg))) (aN (aN @aC.st_ptr @aC.part) (aN @aC.put (aN @aC.rset @aC.rfull)))) (aN (aN (aN @aC.get0 @aC.get1) (aN @aC.get2 (aN @aC.get3 @aC.get4))) (aN (aN @aC.get5 (aN @aC.sub0_6 @aD.size)) (aN @aD.eq1 (aN @aD.eq2 @aD.lens))))))) (aN (aN (aN (aN (aN (aN @aD.vsets @aD.st_d) (aN @aD.st_nil (aN @aD.st_own @aD.st_agg))) (aN (aN @aD.st_ptr @aD.part) (aN @aD.put (aN @aD.rset @aD.rfull)))) (aN (aN (aN @aD.get0 @aD.get1) (aN @aD.get2 (aN @aD.sub0_3 @bH.size))) (aN (aN @bH.eq1 @bH.eq2) (aN @bH.lens (aN @bH.vsets @bH.st_d))))) (aN (aN (aN (aN @bH.st_nil @bH.st_own) (aN @bH.st_agg (aN @bH.st_ptr @bH.part))) (aN (aN @bH.put @bH.rset) (aN @bH.rfull (aN @bH.get0 @bH.get1)))) (aN (aN (aN @bH.get2 @bH.get3) (aN @bH.get4 (aN @bH.get5 @bH.get6))) (aN (aN @bH.get7 (aN @bH.get8 @bH.sub0_9)) (aN @aRE (aN @aP4 @aNy)))))) (aN (aN (aN (aN (aN @aSs @aO0) (aN @aN3 (aN @aRL @aMo))) (aN (aN @aM4 @aPE) (aN @aNs (aN @aPN @aNe)))) (aN (aN (aN @aPP @aNg) (aN @aQ7 (aN @aMw @aNU))) (aN (aN @aPO @aSe) (aN @aM6 (aN @WO @aAU))))) (aN (aN (aN (aN @VM @ST) (aN @TB (aN @R7 @aAI))) (aN (aN @TI @PY) (aN @VH (aN @KJ @VP)))) (aN (aN (aN @S5 @TJ) (aN @WF (aN @SW @S1))) (aN (aN @WS (aN @TE @TK)) (aN @V7 (aN @aDr @XR)))))))
def DQ:=aN (aN (aN (aN @aJ.len @aE.len) (aN @aH.len @aC.len)) (aN (aN @aD.len @bH.len) (aN @aJ.cells_mk (aN @aE.cells_mk @aH.cells_mk)))) (aN (aN (aN @aC.cells_mk @aD.cells_mk) (aN @bH.cells_mk @aJ.sized)) (aN (aN @aE.sized @aH.sized) (aN @aC.sized (aN @aD.sized @bH.sized))))
def DP:=aN @Option.some.injEq (aN @Bool.and_true @List.cons_ne_nil)
theorem bLc {α:Type} (a:α) (l:List α):(a :: l).length = l.length + 1:=rfl
theorem bLn {α:Type}:([]:List α).length = 0:=rfl
theorem bIt {α:Type} {d:Decidable True} (a b:α):@ite α True d a b = a:=if_pos trivial
theorem bIf {α:Type} {d:Decidable False} (a b:α):@ite α False d a b = b:=if_neg id
theorem bRs {α:Type} (n:Nat) (a:α):List.replicate (n + 1) a = a :: List.replicate n a:=rfl
theorem bRz {α:Type} (a:α):List.replicate 0 a = []:=rfl
theorem bBs {α γ:Type} (a:α) (f:α->Option γ):(some a).bind f = f a:=rfl
theorem bMs {α γ:Type} (a:α) (f:α->γ):(some a).map f = some (f a):=rfl
theorem bMn {α γ:Type} (f:α->γ):(none:Option α).map f = none:=rfl
theorem bEl {α γ δ:Type} (f:α->δ) (g:γ->δ) (x:α):Sum.elim f g (.inl x) = f x:=rfl
theorem bEr {α γ δ:Type} (f:α->δ) (g:γ->δ) (x:γ):Sum.elim f g (.inr x) = g x:=rfl
theorem bBb {α γ δ:Type} (o:Option α) (f:α->Option γ) (g:γ->Option δ):(o.bind f).bind g = o.bind fun x=>(f x).bind g:=by cases o <;> rfl
def DS:=aN (aN (aN (aN (aN @bLc @bLn) (aN @vS @Bool.not_true)) (aN (aN @Bool.not_false @bIt) (aN @bIf @bRs))) (aN (aN (aN @bRz @aB3) (aN @bBs @aEY)) (aN (aN @bMs @bMn) (aN @bEl @bEr)))) (aN (aN (aN (aN @aJk @Z1) (aN @aKi @aJf)) (aN (aN @aLv @aDv) (aN @aFH @aFU))) (aN (aN (aN @aC8 @aGE) (aN @aCK @aMg)) (aN (aN @aOI @Vm.bind_map) (aN @aGs (aN @aLN @bBb)))))
abbrev KF (T:wE) (f:Nat) (ds:List D) {α:Type} (o:Option α) (v:α->V):Prop:=∀ {β:Type} (d:Nat) (bl fz:List (Nat × Option aI)) (k:V->Option β) (kw:V->List (Nat × Option aI)->Option β),xI T d bl f ds fz k kw = o.bind fun r=>k (v r)
abbrev KD (T:wE) (f:Nat) (ds:List D) {α:Type} (o:Option α) (v:α->V):Prop:=∀ {β:Type} (d:Nat) (bl fz:List (Nat × Option aI)) (k:V->Option β) (kw:V->List (Nat × Option aI)->Option β),xI T d bl f ds fz k kw = o.bind fun r=>fzK fz (v r) k kw
theorem kF {T:wE} {α:Type} {f:Nat} {ds:List D} {o:Option α} {enc:α->D} {v:α->V} (h:Vm.call T f ds = o.map enc) (hf:∀ x,IA (enc x) = true) (hv:∀ x,toV (enc x) = v x):KF T f ds o v:=fun d bl fz k kw=>by
 rw [aC0 h hf fz]
 exact congrArg _ (funext fun x=>congrArg k (hv x))
theorem kD {T:wE} {α:Type} {f:Nat} {ds:List D} {o:Option α} {enc:α->D} {v:α->V} (h:Vm.call T f ds = o.map enc) (hf:∀ x,IA (enc x) = false) (hc:∀ x,(enc x).calm = true) (hv:∀ x,toV (enc x) = v x):KD T f ds o v:=fun d bl fz k kw=>by
 rw [aCZ h hf hc fz]
 exact congrArg _ (funext fun x=>congrArg (fun y=>fzK fz y k kw) (hv x))
theorem J9 {p:Prop} (h:p:=by
  simp -implicitDefEqProofs (decide:=true) (maxSteps:=2000000) only [↓DN,↓DR,DQ,DP,↓reduceIte,Int.reduceToNat,Nat.reduceBEq,Nat.reduceAdd,Nat.reduceLT,Nat.reduceLeDiff,Nat.reduceEqDiff,Int.reduceEq,ne_eq,not_false_eq_true,reduceCtorEq,AP,L3,L8,beq_self_eq_true,DS]
  all_goals try simp only [aLu]
  all_goals try rfl):p:=h
theorem oT {p:Prop} (h:p:=by
  simp -implicitDefEqProofs (decide:=true) (maxSteps:=2000000) only [↓u,↓DN,↓DR,DQ,DP,↓reduceIte,Int.reduceToNat,Nat.reduceBEq,Nat.reduceAdd,Nat.reduceLT,Nat.reduceLeDiff,Nat.reduceEqDiff,Int.reduceEq,ne_eq,not_false_eq_true,reduceCtorEq,AP,L3,L8,beq_self_eq_true,DS]
  all_goals try simp only [aLu]
  all_goals try rfl):p:=h
end Go.Proofs.Ytgjcnbgfaimepaa
