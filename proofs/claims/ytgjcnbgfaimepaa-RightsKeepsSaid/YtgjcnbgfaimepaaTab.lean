/- The table. Printed by a program. -/
import Derived.Test.YtgjcnbgfaimepaaVmH
import Derived.Test.YtgjcnbgfaimepaaVmF
import Derived.Test.YtgjcnbgfaimepaaVmI
import Derived.Test.YtgjcnbgfaimepaaRepD
import Derived.Test.YtgjcnbgfaimepaaCode1
set_option linter.unusedVariables false
set_option linter.unusedSimpArgs false
namespace Go.Proofs.Ytgjcnbgfaimepaa
open Vm
open Go.RowKit
def aQL:List D->Option D:=aL7 3
def o49:List D->Option D:=U7 3 1 8
def TL:List (Nat × Option Def):=[(35,some (.code aSH)),(53,some (.code aR7)),(54,some (.code aSq)),(55,some (.code aRV)),(19,some (.code aSB)),(37,some (.code aRw)),(73,some (.code aSE)),(44,some (.code aRI)),(82,some (.code aSk)),(105,some (.code aPG)),(81,some (.code aSK)),(60,some (.code aSI)),(64,some (.code aSO)),(106,some (.code aPs)),(84,some (.code aRJ)),(83,some (.code aRZ)),(85,some (.code aRW)),(61,some (.code aR2)),(86,some (.code aSP)),(108,some (.code aPE)),(87,some (.code aSm)),(62,some (.code aRv)),(63,some (.code aRQ)),(25,some (.code aRP)),(38,some (.code aSA)),(10,some (.code aSj)),(21,some (.code aSv)),(43,some (.code aRC)),(72,some (.code aSp)),(27,some (.code aSN)),(77,some (.code aRE)),(76,some (.code aSh)),(48,some (.code aSu)),(47,some (.code aSg)),(75,some (.code aRY)),(46,some (.code aRL)),(12,some (.code aRx)),(14,some (.code aRS)),(16,some (.code aSL)),(52,some (.code aSl)),(17,some (.code aR4)),(23,some (.code aSJ)),(8,some (.code sf8)),(26,some (.code aSy)),(36,some (.code aR8)),(29,some (.code aSC)),(59,some (.code aRD)),(22,some (.code aSa)),(9,some (.code sf9)),(30,some (.code aSd)),(31,some (.code aRz)),(6,some (.code sf6)),(109,some (.told aQL)),(49,some (.told o49))]
def TT:vS:=fun f=>lk TL none f
structure aJ where
 Kind:Int
 Owner:Int
 deriving Inhabited
def aJ.cells (x:aJ):List D:=[.int .i64 x.Kind,.int .i64 x.Owner]
theorem aJ.sized (xs:List aJ):sized 2 (cM aJ.cells xs) = true:=qL _ _ (fun x=>by rfl) xs
theorem aJ.len (x:aJ):x.cells.length = 2:=rfl
theorem aJ.size {β:Type} (x:aJ) (y:Option β):sM x.cells 2 y = y:=rfl
theorem aJ.eq1 {β:Type} (x:aJ) (ks:List Nat) (ys:List V) (k:Bool->Option β):kZ ks (aQ x.cells) ys k = kZ ks [.d (.int .i64 x.Kind),.d (.int .i64 x.Owner)] ys k:=rfl
theorem aJ.eq2 {β:Type} (x:aJ) (ks:List Nat) (ys:List V) (k:Bool->Option β):kZ ks ys (aQ x.cells) k = kZ ks ys [.d (.int .i64 x.Kind),.d (.int .i64 x.Owner)] k:=rfl
theorem aJ.lens {β:Type} (x:aJ) (y:Option β):A7 (aQ x.cells) 2 y = y:=rfl
theorem aJ.vsets {β:Type} (x:aJ) (z:List V) (o:Nat) (k:List V->Option β):kC z o (aQ x.cells) k = kC z o [.d (.int .i64 x.Kind),.d (.int .i64 x.Owner)] k:=rfl
theorem aJ.st_d {β:Type} (x:aJ) (y:D) (sz off id:Nat) (kw:V->List (Nat × Option aI)->Option β):aP sz off id (.d y) (some (.box (aQ x.cells))) kw = aP sz off id (.d y) (some (.box [.d (.int .i64 x.Kind),.d (.int .i64 x.Owner)])) kw:=rfl
theorem aJ.st_nil {β:Type} (x:aJ)  (sz off id:Nat) (kw:V->List (Nat × Option aI)->Option β):aP sz off id .nil (some (.box (aQ x.cells))) kw = aP sz off id .nil (some (.box [.d (.int .i64 x.Kind),.d (.int .i64 x.Owner)])) kw:=rfl
theorem aJ.st_own {β:Type} (x:aJ) (i v sz off id:Nat) (kw:V->List (Nat × Option aI)->Option β):aP sz off id (.own i v) (some (.box (aQ x.cells))) kw = aP sz off id (.own i v) (some (.box [.d (.int .i64 x.Kind),.d (.int .i64 x.Owner)])) kw:=rfl
theorem aJ.st_agg {β:Type} (x:aJ) (y:List V) (sz off id:Nat) (kw:V->List (Nat × Option aI)->Option β):aP sz off id (.agg y) (some (.box (aQ x.cells))) kw = aP sz off id (.agg y) (some (.box [.d (.int .i64 x.Kind),.d (.int .i64 x.Owner)])) kw:=rfl
theorem aJ.st_ptr {β:Type} (x:aJ) (i v sz off id:Nat) (kw:V->List (Nat × Option aI)->Option β):aP sz off id (.ptr i v) (some (.box (aQ x.cells))) kw = aP sz off id (.ptr i v) (some (.box [.d (.int .i64 x.Kind),.d (.int .i64 x.Owner)])) kw:=rfl
theorem aJ.part {β:Type} (x:aJ) (off id:Nat) (b:Option aI) (kw:V->List (Nat × Option aI)->Option β):aP 2 (off + 1) id (kM x.cells) b kw = aP 2 (off + 1) id (.agg [.d (.int .i64 x.Kind),.d (.int .i64 x.Owner)]) b kw:=rfl
theorem aJ.put {β:Type} (x:aJ) (id:Nat) (cs:List V) (hc:cs.length = 2) (kw:V->List (Nat × Option aI)->Option β):aP 2 0 id (kM x.cells) (some (.box cs)) kw = kw .any [(id,some (.box (aQ x.cells)))]:=oE 2 id _ rfl cs hc
theorem aJ.rset {β:Type} (x:aJ) (off:Nat) (d:D) (ds:List D) (n:Nat) (k:List D->Option β):b6 x.cells off (d :: ds) n k = b6 [.int .i64 x.Kind,.int .i64 x.Owner] off (d :: ds) n k:=rfl
theorem aJ.rfull {β:Type} (x y:aJ) (k:List D->Option β):b6 x.cells 0 y.cells 2 k = k y.cells:=by unfold b6; exact (if_pos ⟨rfl,Nat.le_refl _⟩).trans rfl
theorem aJ.get0 {β:Type} (x:aJ) (k:D->Option β):eW x.cells 0 k = k (.int .i64 x.Kind):=rfl
theorem aJ.get1 {β:Type} (x:aJ) (k:D->Option β):eW x.cells 1 k = k (.int .i64 x.Owner):=rfl
theorem aJ.sub0_2 {β:Type} (x:aJ) (k:List D->Option β):yQ x.cells 0 2 k = k x.cells:=rfl
theorem aJ.cells_mk (f0 f1:Int):aJ.cells (aJ.mk f0 f1) = [.int .i64 f0,.int .i64 f1]:=rfl
structure aE where
 From:Int
 To:Int
 Sum:Int
 File:Int
 Part:Int
 Sign:Int
 Rights:List aJ
 deriving Inhabited
def aE.cells (x:aE):List D:=[.int .i64 x.From,.int .i64 x.To,.int .i64 x.Sum,.int .i64 x.File,.int .i64 x.Part,.int .i64 x.Sign,.sl (cM aJ.cells x.Rights)]
theorem aE.sized (xs:List aE):sized 7 (cM aE.cells xs) = true:=qL _ _ (fun x=>by rfl) xs
theorem aE.len (x:aE):x.cells.length = 7:=rfl
theorem aE.size {β:Type} (x:aE) (y:Option β):sM x.cells 7 y = y:=rfl
theorem aE.eq1 {β:Type} (x:aE) (ks:List Nat) (ys:List V) (k:Bool->Option β):kZ ks (aQ x.cells) ys k = kZ ks [.d (.int .i64 x.From),.d (.int .i64 x.To),.d (.int .i64 x.Sum),.d (.int .i64 x.File),.d (.int .i64 x.Part),.d (.int .i64 x.Sign),.d (.sl (cM aJ.cells x.Rights))] ys k:=rfl
theorem aE.eq2 {β:Type} (x:aE) (ks:List Nat) (ys:List V) (k:Bool->Option β):kZ ks ys (aQ x.cells) k = kZ ks ys [.d (.int .i64 x.From),.d (.int .i64 x.To),.d (.int .i64 x.Sum),.d (.int .i64 x.File),.d (.int .i64 x.Part),.d (.int .i64 x.Sign),.d (.sl (cM aJ.cells x.Rights))] k:=rfl
theorem aE.lens {β:Type} (x:aE) (y:Option β):A7 (aQ x.cells) 7 y = y:=rfl
theorem aE.vsets {β:Type} (x:aE) (z:List V) (o:Nat) (k:List V->Option β):kC z o (aQ x.cells) k = kC z o [.d (.int .i64 x.From),.d (.int .i64 x.To),.d (.int .i64 x.Sum),.d (.int .i64 x.File),.d (.int .i64 x.Part),.d (.int .i64 x.Sign),.d (.sl (cM aJ.cells x.Rights))] k:=rfl
theorem aE.st_d {β:Type} (x:aE) (y:D) (sz off id:Nat) (kw:V->List (Nat × Option aI)->Option β):aP sz off id (.d y) (some (.box (aQ x.cells))) kw = aP sz off id (.d y) (some (.box [.d (.int .i64 x.From),.d (.int .i64 x.To),.d (.int .i64 x.Sum),.d (.int .i64 x.File),.d (.int .i64 x.Part),.d (.int .i64 x.Sign),.d (.sl (cM aJ.cells x.Rights))])) kw:=rfl
theorem aE.st_nil {β:Type} (x:aE)  (sz off id:Nat) (kw:V->List (Nat × Option aI)->Option β):aP sz off id .nil (some (.box (aQ x.cells))) kw = aP sz off id .nil (some (.box [.d (.int .i64 x.From),.d (.int .i64 x.To),.d (.int .i64 x.Sum),.d (.int .i64 x.File),.d (.int .i64 x.Part),.d (.int .i64 x.Sign),.d (.sl (cM aJ.cells x.Rights))])) kw:=rfl
theorem aE.st_own {β:Type} (x:aE) (i v sz off id:Nat) (kw:V->List (Nat × Option aI)->Option β):aP sz off id (.own i v) (some (.box (aQ x.cells))) kw = aP sz off id (.own i v) (some (.box [.d (.int .i64 x.From),.d (.int .i64 x.To),.d (.int .i64 x.Sum),.d (.int .i64 x.File),.d (.int .i64 x.Part),.d (.int .i64 x.Sign),.d (.sl (cM aJ.cells x.Rights))])) kw:=rfl
theorem aE.st_agg {β:Type} (x:aE) (y:List V) (sz off id:Nat) (kw:V->List (Nat × Option aI)->Option β):aP sz off id (.agg y) (some (.box (aQ x.cells))) kw = aP sz off id (.agg y) (some (.box [.d (.int .i64 x.From),.d (.int .i64 x.To),.d (.int .i64 x.Sum),.d (.int .i64 x.File),.d (.int .i64 x.Part),.d (.int .i64 x.Sign),.d (.sl (cM aJ.cells x.Rights))])) kw:=rfl
theorem aE.st_ptr {β:Type} (x:aE) (i v sz off id:Nat) (kw:V->List (Nat × Option aI)->Option β):aP sz off id (.ptr i v) (some (.box (aQ x.cells))) kw = aP sz off id (.ptr i v) (some (.box [.d (.int .i64 x.From),.d (.int .i64 x.To),.d (.int .i64 x.Sum),.d (.int .i64 x.File),.d (.int .i64 x.Part),.d (.int .i64 x.Sign),.d (.sl (cM aJ.cells x.Rights))])) kw:=rfl
theorem aE.part {β:Type} (x:aE) (off id:Nat) (b:Option aI) (kw:V->List (Nat × Option aI)->Option β):aP 7 (off + 1) id (kM x.cells) b kw = aP 7 (off + 1) id (.agg [.d (.int .i64 x.From),.d (.int .i64 x.To),.d (.int .i64 x.Sum),.d (.int .i64 x.File),.d (.int .i64 x.Part),.d (.int .i64 x.Sign),.d (.sl (cM aJ.cells x.Rights))]) b kw:=rfl
theorem aE.put {β:Type} (x:aE) (id:Nat) (cs:List V) (hc:cs.length = 7) (kw:V->List (Nat × Option aI)->Option β):aP 7 0 id (kM x.cells) (some (.box cs)) kw = kw .any [(id,some (.box (aQ x.cells)))]:=oE 7 id _ rfl cs hc
theorem aE.rset {β:Type} (x:aE) (off:Nat) (d:D) (ds:List D) (n:Nat) (k:List D->Option β):b6 x.cells off (d :: ds) n k = b6 [.int .i64 x.From,.int .i64 x.To,.int .i64 x.Sum,.int .i64 x.File,.int .i64 x.Part,.int .i64 x.Sign,.sl (cM aJ.cells x.Rights)] off (d :: ds) n k:=rfl
theorem aE.rfull {β:Type} (x y:aE) (k:List D->Option β):b6 x.cells 0 y.cells 7 k = k y.cells:=by unfold b6; exact (if_pos ⟨rfl,Nat.le_refl _⟩).trans rfl
theorem aE.get0 {β:Type} (x:aE) (k:D->Option β):eW x.cells 0 k = k (.int .i64 x.From):=rfl
theorem aE.get1 {β:Type} (x:aE) (k:D->Option β):eW x.cells 1 k = k (.int .i64 x.To):=rfl
theorem aE.get2 {β:Type} (x:aE) (k:D->Option β):eW x.cells 2 k = k (.int .i64 x.Sum):=rfl
theorem aE.get3 {β:Type} (x:aE) (k:D->Option β):eW x.cells 3 k = k (.int .i64 x.File):=rfl
theorem aE.get4 {β:Type} (x:aE) (k:D->Option β):eW x.cells 4 k = k (.int .i64 x.Part):=rfl
theorem aE.get5 {β:Type} (x:aE) (k:D->Option β):eW x.cells 5 k = k (.int .i64 x.Sign):=rfl
theorem aE.get6 {β:Type} (x:aE) (k:D->Option β):eW x.cells 6 k = k (.sl (cM aJ.cells x.Rights)):=rfl
theorem aE.sub0_7 {β:Type} (x:aE) (k:List D->Option β):yQ x.cells 0 7 k = k x.cells:=rfl
theorem aE.cells_mk (f0 f1 f2 f3 f4 f5:Int) (f6:List aJ):aE.cells (aE.mk f0 f1 f2 f3 f4 f5 f6) = [.int .i64 f0,.int .i64 f1,.int .i64 f2,.int .i64 f3,.int .i64 f4,.int .i64 f5,.sl (cM aJ.cells f6)]:=rfl
structure aF where
 From:Int
 To:Int
 Sum:Int
 deriving Inhabited
def aF.cells (x:aF):List D:=[.int .i64 x.From,.int .i64 x.To,.int .i64 x.Sum]
theorem aF.sized (xs:List aF):sized 3 (cM aF.cells xs) = true:=qL _ _ (fun x=>by rfl) xs
theorem aF.len (x:aF):x.cells.length = 3:=rfl
theorem aF.size {β:Type} (x:aF) (y:Option β):sM x.cells 3 y = y:=rfl
theorem aF.eq1 {β:Type} (x:aF) (ks:List Nat) (ys:List V) (k:Bool->Option β):kZ ks (aQ x.cells) ys k = kZ ks [.d (.int .i64 x.From),.d (.int .i64 x.To),.d (.int .i64 x.Sum)] ys k:=rfl
theorem aF.eq2 {β:Type} (x:aF) (ks:List Nat) (ys:List V) (k:Bool->Option β):kZ ks ys (aQ x.cells) k = kZ ks ys [.d (.int .i64 x.From),.d (.int .i64 x.To),.d (.int .i64 x.Sum)] k:=rfl
theorem aF.lens {β:Type} (x:aF) (y:Option β):A7 (aQ x.cells) 3 y = y:=rfl
theorem aF.vsets {β:Type} (x:aF) (z:List V) (o:Nat) (k:List V->Option β):kC z o (aQ x.cells) k = kC z o [.d (.int .i64 x.From),.d (.int .i64 x.To),.d (.int .i64 x.Sum)] k:=rfl
theorem aF.st_d {β:Type} (x:aF) (y:D) (sz off id:Nat) (kw:V->List (Nat × Option aI)->Option β):aP sz off id (.d y) (some (.box (aQ x.cells))) kw = aP sz off id (.d y) (some (.box [.d (.int .i64 x.From),.d (.int .i64 x.To),.d (.int .i64 x.Sum)])) kw:=rfl
theorem aF.st_nil {β:Type} (x:aF)  (sz off id:Nat) (kw:V->List (Nat × Option aI)->Option β):aP sz off id .nil (some (.box (aQ x.cells))) kw = aP sz off id .nil (some (.box [.d (.int .i64 x.From),.d (.int .i64 x.To),.d (.int .i64 x.Sum)])) kw:=rfl
theorem aF.st_own {β:Type} (x:aF) (i v sz off id:Nat) (kw:V->List (Nat × Option aI)->Option β):aP sz off id (.own i v) (some (.box (aQ x.cells))) kw = aP sz off id (.own i v) (some (.box [.d (.int .i64 x.From),.d (.int .i64 x.To),.d (.int .i64 x.Sum)])) kw:=rfl
theorem aF.st_agg {β:Type} (x:aF) (y:List V) (sz off id:Nat) (kw:V->List (Nat × Option aI)->Option β):aP sz off id (.agg y) (some (.box (aQ x.cells))) kw = aP sz off id (.agg y) (some (.box [.d (.int .i64 x.From),.d (.int .i64 x.To),.d (.int .i64 x.Sum)])) kw:=rfl
theorem aF.st_ptr {β:Type} (x:aF) (i v sz off id:Nat) (kw:V->List (Nat × Option aI)->Option β):aP sz off id (.ptr i v) (some (.box (aQ x.cells))) kw = aP sz off id (.ptr i v) (some (.box [.d (.int .i64 x.From),.d (.int .i64 x.To),.d (.int .i64 x.Sum)])) kw:=rfl
theorem aF.part {β:Type} (x:aF) (off id:Nat) (b:Option aI) (kw:V->List (Nat × Option aI)->Option β):aP 3 (off + 1) id (kM x.cells) b kw = aP 3 (off + 1) id (.agg [.d (.int .i64 x.From),.d (.int .i64 x.To),.d (.int .i64 x.Sum)]) b kw:=rfl
theorem aF.put {β:Type} (x:aF) (id:Nat) (cs:List V) (hc:cs.length = 3) (kw:V->List (Nat × Option aI)->Option β):aP 3 0 id (kM x.cells) (some (.box cs)) kw = kw .any [(id,some (.box (aQ x.cells)))]:=oE 3 id _ rfl cs hc
theorem aF.rset {β:Type} (x:aF) (off:Nat) (d:D) (ds:List D) (n:Nat) (k:List D->Option β):b6 x.cells off (d :: ds) n k = b6 [.int .i64 x.From,.int .i64 x.To,.int .i64 x.Sum] off (d :: ds) n k:=rfl
theorem aF.rfull {β:Type} (x y:aF) (k:List D->Option β):b6 x.cells 0 y.cells 3 k = k y.cells:=by unfold b6; exact (if_pos ⟨rfl,Nat.le_refl _⟩).trans rfl
theorem aF.get0 {β:Type} (x:aF) (k:D->Option β):eW x.cells 0 k = k (.int .i64 x.From):=rfl
theorem aF.get1 {β:Type} (x:aF) (k:D->Option β):eW x.cells 1 k = k (.int .i64 x.To):=rfl
theorem aF.get2 {β:Type} (x:aF) (k:D->Option β):eW x.cells 2 k = k (.int .i64 x.Sum):=rfl
theorem aF.sub0_3 {β:Type} (x:aF) (k:List D->Option β):yQ x.cells 0 3 k = k x.cells:=rfl
theorem aF.cells_mk (f0 f1 f2:Int):aF.cells (aF.mk f0 f1 f2) = [.int .i64 f0,.int .i64 f1,.int .i64 f2]:=rfl
structure aC where
 due:Int
 from_:Int
 to:Int
 cost:Int
 most:Int
 back:Bool
 deriving Inhabited
def aC.cells (x:aC):List D:=[.int .i64 x.due,.int .i64 x.from_,.int .i64 x.to,.int .i64 x.cost,.int .i64 x.most,.bool x.back]
theorem aC.sized (xs:List aC):sized 6 (cM aC.cells xs) = true:=qL _ _ (fun x=>by rfl) xs
theorem aC.len (x:aC):x.cells.length = 6:=rfl
theorem aC.size {β:Type} (x:aC) (y:Option β):sM x.cells 6 y = y:=rfl
theorem aC.eq1 {β:Type} (x:aC) (ks:List Nat) (ys:List V) (k:Bool->Option β):kZ ks (aQ x.cells) ys k = kZ ks [.d (.int .i64 x.due),.d (.int .i64 x.from_),.d (.int .i64 x.to),.d (.int .i64 x.cost),.d (.int .i64 x.most),.d (.bool x.back)] ys k:=rfl
theorem aC.eq2 {β:Type} (x:aC) (ks:List Nat) (ys:List V) (k:Bool->Option β):kZ ks ys (aQ x.cells) k = kZ ks ys [.d (.int .i64 x.due),.d (.int .i64 x.from_),.d (.int .i64 x.to),.d (.int .i64 x.cost),.d (.int .i64 x.most),.d (.bool x.back)] k:=rfl
theorem aC.lens {β:Type} (x:aC) (y:Option β):A7 (aQ x.cells) 6 y = y:=rfl
theorem aC.vsets {β:Type} (x:aC) (z:List V) (o:Nat) (k:List V->Option β):kC z o (aQ x.cells) k = kC z o [.d (.int .i64 x.due),.d (.int .i64 x.from_),.d (.int .i64 x.to),.d (.int .i64 x.cost),.d (.int .i64 x.most),.d (.bool x.back)] k:=rfl
theorem aC.st_d {β:Type} (x:aC) (y:D) (sz off id:Nat) (kw:V->List (Nat × Option aI)->Option β):aP sz off id (.d y) (some (.box (aQ x.cells))) kw = aP sz off id (.d y) (some (.box [.d (.int .i64 x.due),.d (.int .i64 x.from_),.d (.int .i64 x.to),.d (.int .i64 x.cost),.d (.int .i64 x.most),.d (.bool x.back)])) kw:=rfl
theorem aC.st_nil {β:Type} (x:aC)  (sz off id:Nat) (kw:V->List (Nat × Option aI)->Option β):aP sz off id .nil (some (.box (aQ x.cells))) kw = aP sz off id .nil (some (.box [.d (.int .i64 x.due),.d (.int .i64 x.from_),.d (.int .i64 x.to),.d (.int .i64 x.cost),.d (.int .i64 x.most),.d (.bool x.back)])) kw:=rfl
theorem aC.st_own {β:Type} (x:aC) (i v sz off id:Nat) (kw:V->List (Nat × Option aI)->Option β):aP sz off id (.own i v) (some (.box (aQ x.cells))) kw = aP sz off id (.own i v) (some (.box [.d (.int .i64 x.due),.d (.int .i64 x.from_),.d (.int .i64 x.to),.d (.int .i64 x.cost),.d (.int .i64 x.most),.d (.bool x.back)])) kw:=rfl
theorem aC.st_agg {β:Type} (x:aC) (y:List V) (sz off id:Nat) (kw:V->List (Nat × Option aI)->Option β):aP sz off id (.agg y) (some (.box (aQ x.cells))) kw = aP sz off id (.agg y) (some (.box [.d (.int .i64 x.due),.d (.int .i64 x.from_),.d (.int .i64 x.to),.d (.int .i64 x.cost),.d (.int .i64 x.most),.d (.bool x.back)])) kw:=rfl
theorem aC.st_ptr {β:Type} (x:aC) (i v sz off id:Nat) (kw:V->List (Nat × Option aI)->Option β):aP sz off id (.ptr i v) (some (.box (aQ x.cells))) kw = aP sz off id (.ptr i v) (some (.box [.d (.int .i64 x.due),.d (.int .i64 x.from_),.d (.int .i64 x.to),.d (.int .i64 x.cost),.d (.int .i64 x.most),.d (.bool x.back)])) kw:=rfl
theorem aC.part {β:Type} (x:aC) (off id:Nat) (b:Option aI) (kw:V->List (Nat × Option aI)->Option β):aP 6 (off + 1) id (kM x.cells) b kw = aP 6 (off + 1) id (.agg [.d (.int .i64 x.due),.d (.int .i64 x.from_),.d (.int .i64 x.to),.d (.int .i64 x.cost),.d (.int .i64 x.most),.d (.bool x.back)]) b kw:=rfl
theorem aC.put {β:Type} (x:aC) (id:Nat) (cs:List V) (hc:cs.length = 6) (kw:V->List (Nat × Option aI)->Option β):aP 6 0 id (kM x.cells) (some (.box cs)) kw = kw .any [(id,some (.box (aQ x.cells)))]:=oE 6 id _ rfl cs hc
theorem aC.rset {β:Type} (x:aC) (off:Nat) (d:D) (ds:List D) (n:Nat) (k:List D->Option β):b6 x.cells off (d :: ds) n k = b6 [.int .i64 x.due,.int .i64 x.from_,.int .i64 x.to,.int .i64 x.cost,.int .i64 x.most,.bool x.back] off (d :: ds) n k:=rfl
theorem aC.rfull {β:Type} (x y:aC) (k:List D->Option β):b6 x.cells 0 y.cells 6 k = k y.cells:=by unfold b6; exact (if_pos ⟨rfl,Nat.le_refl _⟩).trans rfl
theorem aC.get0 {β:Type} (x:aC) (k:D->Option β):eW x.cells 0 k = k (.int .i64 x.due):=rfl
theorem aC.get1 {β:Type} (x:aC) (k:D->Option β):eW x.cells 1 k = k (.int .i64 x.from_):=rfl
theorem aC.get2 {β:Type} (x:aC) (k:D->Option β):eW x.cells 2 k = k (.int .i64 x.to):=rfl
theorem aC.get3 {β:Type} (x:aC) (k:D->Option β):eW x.cells 3 k = k (.int .i64 x.cost):=rfl
theorem aC.get4 {β:Type} (x:aC) (k:D->Option β):eW x.cells 4 k = k (.int .i64 x.most):=rfl
theorem aC.get5 {β:Type} (x:aC) (k:D->Option β):eW x.cells 5 k = k (.bool x.back):=rfl
theorem aC.sub0_6 {β:Type} (x:aC) (k:List D->Option β):yQ x.cells 0 6 k = k x.cells:=rfl
theorem aC.cells_mk (f0 f1 f2 f3 f4:Int) (f5:Bool):aC.cells (aC.mk f0 f1 f2 f3 f4 f5) = [.int .i64 f0,.int .i64 f1,.int .i64 f2,.int .i64 f3,.int .i64 f4,.bool f5]:=rfl
structure aD where
 c:Int
 steps:Int
 fine:Bool
 deriving Inhabited
def aD.cells (x:aD):List D:=[.int .i64 x.c,.int .i64 x.steps,.bool x.fine]
theorem aD.sized (xs:List aD):sized 3 (cM aD.cells xs) = true:=qL _ _ (fun x=>by rfl) xs
theorem aD.len (x:aD):x.cells.length = 3:=rfl
theorem aD.size {β:Type} (x:aD) (y:Option β):sM x.cells 3 y = y:=rfl
theorem aD.eq1 {β:Type} (x:aD) (ks:List Nat) (ys:List V) (k:Bool->Option β):kZ ks (aQ x.cells) ys k = kZ ks [.d (.int .i64 x.c),.d (.int .i64 x.steps),.d (.bool x.fine)] ys k:=rfl
theorem aD.eq2 {β:Type} (x:aD) (ks:List Nat) (ys:List V) (k:Bool->Option β):kZ ks ys (aQ x.cells) k = kZ ks ys [.d (.int .i64 x.c),.d (.int .i64 x.steps),.d (.bool x.fine)] k:=rfl
theorem aD.lens {β:Type} (x:aD) (y:Option β):A7 (aQ x.cells) 3 y = y:=rfl
theorem aD.vsets {β:Type} (x:aD) (z:List V) (o:Nat) (k:List V->Option β):kC z o (aQ x.cells) k = kC z o [.d (.int .i64 x.c),.d (.int .i64 x.steps),.d (.bool x.fine)] k:=rfl
theorem aD.st_d {β:Type} (x:aD) (y:D) (sz off id:Nat) (kw:V->List (Nat × Option aI)->Option β):aP sz off id (.d y) (some (.box (aQ x.cells))) kw = aP sz off id (.d y) (some (.box [.d (.int .i64 x.c),.d (.int .i64 x.steps),.d (.bool x.fine)])) kw:=rfl
theorem aD.st_nil {β:Type} (x:aD)  (sz off id:Nat) (kw:V->List (Nat × Option aI)->Option β):aP sz off id .nil (some (.box (aQ x.cells))) kw = aP sz off id .nil (some (.box [.d (.int .i64 x.c),.d (.int .i64 x.steps),.d (.bool x.fine)])) kw:=rfl
theorem aD.st_own {β:Type} (x:aD) (i v sz off id:Nat) (kw:V->List (Nat × Option aI)->Option β):aP sz off id (.own i v) (some (.box (aQ x.cells))) kw = aP sz off id (.own i v) (some (.box [.d (.int .i64 x.c),.d (.int .i64 x.steps),.d (.bool x.fine)])) kw:=rfl
theorem aD.st_agg {β:Type} (x:aD) (y:List V) (sz off id:Nat) (kw:V->List (Nat × Option aI)->Option β):aP sz off id (.agg y) (some (.box (aQ x.cells))) kw = aP sz off id (.agg y) (some (.box [.d (.int .i64 x.c),.d (.int .i64 x.steps),.d (.bool x.fine)])) kw:=rfl
theorem aD.st_ptr {β:Type} (x:aD) (i v sz off id:Nat) (kw:V->List (Nat × Option aI)->Option β):aP sz off id (.ptr i v) (some (.box (aQ x.cells))) kw = aP sz off id (.ptr i v) (some (.box [.d (.int .i64 x.c),.d (.int .i64 x.steps),.d (.bool x.fine)])) kw:=rfl
theorem aD.part {β:Type} (x:aD) (off id:Nat) (b:Option aI) (kw:V->List (Nat × Option aI)->Option β):aP 3 (off + 1) id (kM x.cells) b kw = aP 3 (off + 1) id (.agg [.d (.int .i64 x.c),.d (.int .i64 x.steps),.d (.bool x.fine)]) b kw:=rfl
theorem aD.put {β:Type} (x:aD) (id:Nat) (cs:List V) (hc:cs.length = 3) (kw:V->List (Nat × Option aI)->Option β):aP 3 0 id (kM x.cells) (some (.box cs)) kw = kw .any [(id,some (.box (aQ x.cells)))]:=oE 3 id _ rfl cs hc
theorem aD.rset {β:Type} (x:aD) (off:Nat) (d:D) (ds:List D) (n:Nat) (k:List D->Option β):b6 x.cells off (d :: ds) n k = b6 [.int .i64 x.c,.int .i64 x.steps,.bool x.fine] off (d :: ds) n k:=rfl
theorem aD.rfull {β:Type} (x y:aD) (k:List D->Option β):b6 x.cells 0 y.cells 3 k = k y.cells:=by unfold b6; exact (if_pos ⟨rfl,Nat.le_refl _⟩).trans rfl
theorem aD.get0 {β:Type} (x:aD) (k:D->Option β):eW x.cells 0 k = k (.int .i64 x.c):=rfl
theorem aD.get1 {β:Type} (x:aD) (k:D->Option β):eW x.cells 1 k = k (.int .i64 x.steps):=rfl
theorem aD.get2 {β:Type} (x:aD) (k:D->Option β):eW x.cells 2 k = k (.bool x.fine):=rfl
theorem aD.sub0_3 {β:Type} (x:aD) (k:List D->Option β):yQ x.cells 0 3 k = k x.cells:=rfl
theorem aD.cells_mk (f0 f1:Int) (f2:Bool):aD.cells (aD.mk f0 f1 f2) = [.int .i64 f0,.int .i64 f1,.bool f2]:=rfl
structure a8 where
 Kind:Int
 Who:Int
 To:Int
 Part:Int
 At:Int
 Sum:Int
 Day:Int
 City:Int
 Form:Int
 deriving Inhabited
def a8.cells (x:a8):List D:=[.int .i64 x.Kind,.int .i64 x.Who,.int .i64 x.To,.int .i64 x.Part,.int .i64 x.At,.int .i64 x.Sum,.int .i64 x.Day,.int .i64 x.City,.int .i64 x.Form]
theorem a8.sized (xs:List a8):sized 9 (cM a8.cells xs) = true:=qL _ _ (fun x=>by rfl) xs
theorem a8.len (x:a8):x.cells.length = 9:=rfl
theorem a8.size {β:Type} (x:a8) (y:Option β):sM x.cells 9 y = y:=rfl
theorem a8.eq1 {β:Type} (x:a8) (ks:List Nat) (ys:List V) (k:Bool->Option β):kZ ks (aQ x.cells) ys k = kZ ks [.d (.int .i64 x.Kind),.d (.int .i64 x.Who),.d (.int .i64 x.To),.d (.int .i64 x.Part),.d (.int .i64 x.At),.d (.int .i64 x.Sum),.d (.int .i64 x.Day),.d (.int .i64 x.City),.d (.int .i64 x.Form)] ys k:=rfl
theorem a8.eq2 {β:Type} (x:a8) (ks:List Nat) (ys:List V) (k:Bool->Option β):kZ ks ys (aQ x.cells) k = kZ ks ys [.d (.int .i64 x.Kind),.d (.int .i64 x.Who),.d (.int .i64 x.To),.d (.int .i64 x.Part),.d (.int .i64 x.At),.d (.int .i64 x.Sum),.d (.int .i64 x.Day),.d (.int .i64 x.City),.d (.int .i64 x.Form)] k:=rfl
theorem a8.lens {β:Type} (x:a8) (y:Option β):A7 (aQ x.cells) 9 y = y:=rfl
theorem a8.vsets {β:Type} (x:a8) (z:List V) (o:Nat) (k:List V->Option β):kC z o (aQ x.cells) k = kC z o [.d (.int .i64 x.Kind),.d (.int .i64 x.Who),.d (.int .i64 x.To),.d (.int .i64 x.Part),.d (.int .i64 x.At),.d (.int .i64 x.Sum),.d (.int .i64 x.Day),.d (.int .i64 x.City),.d (.int .i64 x.Form)] k:=rfl
theorem a8.st_d {β:Type} (x:a8) (y:D) (sz off id:Nat) (kw:V->List (Nat × Option aI)->Option β):aP sz off id (.d y) (some (.box (aQ x.cells))) kw = aP sz off id (.d y) (some (.box [.d (.int .i64 x.Kind),.d (.int .i64 x.Who),.d (.int .i64 x.To),.d (.int .i64 x.Part),.d (.int .i64 x.At),.d (.int .i64 x.Sum),.d (.int .i64 x.Day),.d (.int .i64 x.City),.d (.int .i64 x.Form)])) kw:=rfl
theorem a8.st_nil {β:Type} (x:a8)  (sz off id:Nat) (kw:V->List (Nat × Option aI)->Option β):aP sz off id .nil (some (.box (aQ x.cells))) kw = aP sz off id .nil (some (.box [.d (.int .i64 x.Kind),.d (.int .i64 x.Who),.d (.int .i64 x.To),.d (.int .i64 x.Part),.d (.int .i64 x.At),.d (.int .i64 x.Sum),.d (.int .i64 x.Day),.d (.int .i64 x.City),.d (.int .i64 x.Form)])) kw:=rfl
theorem a8.st_own {β:Type} (x:a8) (i v sz off id:Nat) (kw:V->List (Nat × Option aI)->Option β):aP sz off id (.own i v) (some (.box (aQ x.cells))) kw = aP sz off id (.own i v) (some (.box [.d (.int .i64 x.Kind),.d (.int .i64 x.Who),.d (.int .i64 x.To),.d (.int .i64 x.Part),.d (.int .i64 x.At),.d (.int .i64 x.Sum),.d (.int .i64 x.Day),.d (.int .i64 x.City),.d (.int .i64 x.Form)])) kw:=rfl
theorem a8.st_agg {β:Type} (x:a8) (y:List V) (sz off id:Nat) (kw:V->List (Nat × Option aI)->Option β):aP sz off id (.agg y) (some (.box (aQ x.cells))) kw = aP sz off id (.agg y) (some (.box [.d (.int .i64 x.Kind),.d (.int .i64 x.Who),.d (.int .i64 x.To),.d (.int .i64 x.Part),.d (.int .i64 x.At),.d (.int .i64 x.Sum),.d (.int .i64 x.Day),.d (.int .i64 x.City),.d (.int .i64 x.Form)])) kw:=rfl
theorem a8.st_ptr {β:Type} (x:a8) (i v sz off id:Nat) (kw:V->List (Nat × Option aI)->Option β):aP sz off id (.ptr i v) (some (.box (aQ x.cells))) kw = aP sz off id (.ptr i v) (some (.box [.d (.int .i64 x.Kind),.d (.int .i64 x.Who),.d (.int .i64 x.To),.d (.int .i64 x.Part),.d (.int .i64 x.At),.d (.int .i64 x.Sum),.d (.int .i64 x.Day),.d (.int .i64 x.City),.d (.int .i64 x.Form)])) kw:=rfl
theorem a8.part {β:Type} (x:a8) (off id:Nat) (b:Option aI) (kw:V->List (Nat × Option aI)->Option β):aP 9 (off + 1) id (kM x.cells) b kw = aP 9 (off + 1) id (.agg [.d (.int .i64 x.Kind),.d (.int .i64 x.Who),.d (.int .i64 x.To),.d (.int .i64 x.Part),.d (.int .i64 x.At),.d (.int .i64 x.Sum),.d (.int .i64 x.Day),.d (.int .i64 x.City),.d (.int .i64 x.Form)]) b kw:=rfl
theorem a8.put {β:Type} (x:a8) (id:Nat) (cs:List V) (hc:cs.length = 9) (kw:V->List (Nat × Option aI)->Option β):aP 9 0 id (kM x.cells) (some (.box cs)) kw = kw .any [(id,some (.box (aQ x.cells)))]:=oE 9 id _ rfl cs hc
theorem a8.rset {β:Type} (x:a8) (off:Nat) (d:D) (ds:List D) (n:Nat) (k:List D->Option β):b6 x.cells off (d :: ds) n k = b6 [.int .i64 x.Kind,.int .i64 x.Who,.int .i64 x.To,.int .i64 x.Part,.int .i64 x.At,.int .i64 x.Sum,.int .i64 x.Day,.int .i64 x.City,.int .i64 x.Form] off (d :: ds) n k:=rfl
theorem a8.rfull {β:Type} (x y:a8) (k:List D->Option β):b6 x.cells 0 y.cells 9 k = k y.cells:=by unfold b6; exact (if_pos ⟨rfl,Nat.le_refl _⟩).trans rfl
theorem a8.get0 {β:Type} (x:a8) (k:D->Option β):eW x.cells 0 k = k (.int .i64 x.Kind):=rfl
theorem a8.get1 {β:Type} (x:a8) (k:D->Option β):eW x.cells 1 k = k (.int .i64 x.Who):=rfl
theorem a8.get2 {β:Type} (x:a8) (k:D->Option β):eW x.cells 2 k = k (.int .i64 x.To):=rfl
theorem a8.get3 {β:Type} (x:a8) (k:D->Option β):eW x.cells 3 k = k (.int .i64 x.Part):=rfl
theorem a8.get4 {β:Type} (x:a8) (k:D->Option β):eW x.cells 4 k = k (.int .i64 x.At):=rfl
theorem a8.get5 {β:Type} (x:a8) (k:D->Option β):eW x.cells 5 k = k (.int .i64 x.Sum):=rfl
theorem a8.get6 {β:Type} (x:a8) (k:D->Option β):eW x.cells 6 k = k (.int .i64 x.Day):=rfl
theorem a8.get7 {β:Type} (x:a8) (k:D->Option β):eW x.cells 7 k = k (.int .i64 x.City):=rfl
theorem a8.get8 {β:Type} (x:a8) (k:D->Option β):eW x.cells 8 k = k (.int .i64 x.Form):=rfl
theorem a8.sub0_9 {β:Type} (x:a8) (k:List D->Option β):yQ x.cells 0 9 k = k x.cells:=rfl
theorem a8.cells_mk (f0 f1 f2 f3 f4 f5 f6 f7 f8:Int):a8.cells (a8.mk f0 f1 f2 f3 f4 f5 f6 f7 f8) = [.int .i64 f0,.int .i64 f1,.int .i64 f2,.int .i64 f3,.int .i64 f4,.int .i64 f5,.int .i64 f6,.int .i64 f7,.int .i64 f8]:=rfl
theorem aPT {β:Type} (x:Int) (k:D->Option β):eW (cI x) 0 k = k (.int .i64 x):=rfl
theorem aNf {β:Type} (x:Int) (off:Nat) (d:D) (ds:List D) (n:Nat) (k:List D->Option β):b6 (cI x) off (d :: ds) n k = b6 [.int .i64 x] off (d :: ds) n k:=rfl
theorem aNN {β:Type} (x:Int) (y:Option β):sM (cI x) 1 y = y:=rfl
theorem aQe {β:Type} (x:Bool) (k:D->Option β):eW (cB x) 0 k = k (.bool x):=rfl
theorem aLB {β:Type} (x:Bool) (off:Nat) (d:D) (ds:List D) (n:Nat) (k:List D->Option β):b6 (cB x) off (d :: ds) n k = b6 [.bool x] off (d :: ds) n k:=rfl
theorem aL5 {β:Type} (x:Bool) (y:Option β):sM (cB x) 1 y = y:=rfl
theorem aQa {β:Type} (x:ByteArray) (k:D->Option β):eW (cS x) 0 k = k (.str x):=rfl
theorem aOq {β:Type} (x:ByteArray) (off:Nat) (d:D) (ds:List D) (n:Nat) (k:List D->Option β):b6 (cS x) off (d :: ds) n k = b6 [.str x] off (d :: ds) n k:=rfl
theorem aNe {β:Type} (x:ByteArray) (y:Option β):sM (cS x) 1 y = y:=rfl
theorem aNT {β:Type} (x0:D) (y:Option β):sM [x0] 1 y = y:=rfl
theorem aLJ {β:Type} (x0 x1:D) (y:Option β):sM [x0,x1] 2 y = y:=rfl
theorem aO9 {β:Type} (x0 x1 x2:D) (y:Option β):sM [x0,x1,x2] 3 y = y:=rfl
theorem aL6 {β:Type} (x0 x1 x2 x3 x4 x5:D) (y:Option β):sM [x0,x1,x2,x3,x4,x5] 6 y = y:=rfl
theorem aLx {β:Type} (x0 x1 x2 x3 x4 x5 x6:D) (y:Option β):sM [x0,x1,x2,x3,x4,x5,x6] 7 y = y:=rfl
theorem aMF {β:Type} (x0 x1 x2 x3 x4 x5 x6 x7 x8:D) (y:Option β):sM [x0,x1,x2,x3,x4,x5,x6,x7,x8] 9 y = y:=rfl
theorem aRo {β:Type} (i:IntKind) (x:Int) (k:D->Option β):eW (cK i x) 0 k = k (.int i x):=rfl
theorem aM6 {β:Type} (i:IntKind) (x:Int) (off:Nat) (d:D) (ds:List D) (n:Nat) (k:List D->Option β):b6 (cK i x) off (d :: ds) n k = b6 [.int i x] off (d :: ds) n k:=rfl
theorem aLt {β α:Type} (c:α->List D) (x:List α) (off:Nat) (d:D) (ds:List D) (n:Nat) (k:List D->Option β):b6 (cL c x) off (d :: ds) n k = b6 [.sl (cM c x)] off (d :: ds) n k:=rfl
theorem aO8 {β:Type} (i:IntKind) (x:Int) (y:Option β):sM (cK i x) 1 y = y:=rfl
theorem aRn {β α:Type} (c:α->List D) (x:List α) (k:D->Option β):eW (cL c x) 0 k = k (.sl (cM c x)):=rfl
theorem aLV {β α:Type} (c:α->List D) (x:List α) (y:Option β):sM (cL c x) 1 y = y:=rfl
theorem UX {β:Type} {T:vS} {d:Nat} {fr:List (Nat × V)} {bl:List (Nat × Option aI)} {k:V->Option β} {kw:V->List (Nat × Option aI)->Option β} (l cp:bD):rE T d (.makeSlice 114 3 24 [.int .i64 0,.int .i64 0,.bool false] l cp) fr bl k kw = aZ bl d fun b=>fL b (bN fr l fun a=>bN fr cp fun b=>aM3 24 a b fun n=>kw (.own d 0) [(d,some (.rows 0 114 3 (cM aD.cells (List.replicate n (aD.mk 0 0 false)))))]):=aPC 114 3 24 [.int .i64 0,.int .i64 0,.bool false] aD.cells ((aD.mk 0 0 false):aD) rfl l cp
theorem aA6 {β:Type} {T:vS} {d:Nat} {fr:List (Nat × V)} {bl:List (Nat × Option aI)} {k:V->Option β} {kw:V->List (Nat × Option aI)->Option β} (l cp:bD):rE T d (.makeSlice 3 1 8 [.int .i64 0] l cp) fr bl k kw = aZ bl d fun b=>fL b (bN fr l fun a=>bN fr cp fun b=>aM3 8 a b fun n=>kw (.own d 0) [(d,some (.rows 0 3 1 (cM cI (List.replicate n 0))))]):=aPC 3 1 8 [.int .i64 0] cI (0:Int) rfl l cp
theorem VR {β:Type} (k:List (List D)->Option β):PS 23 [] k = k (cM (cL cI) ([]:List (List Int))):=rfl
theorem QD {β:Type} (a0 a1:List Int) (k:List (List D)->Option β):PS 23 [[.sl (cM cI a0)],[.sl (cM cI a1)]] k = k (cM (cL cI) ([a0,a1]:List (List Int))):=rfl
theorem SI {β:Type} (a0:List Int) (k:List (List D)->Option β):PS 23 [[.sl (cM cI a0)]] k = k (cM (cL cI) ([a0]:List (List Int))):=rfl
theorem RX {β:Type} (k:List (List D)->Option β):PS 23 [[.sl []]] k = k (cM (cL cI) ([[]]:List (List Int))):=rfl
theorem XO {β:Type} (k:List (List D)->Option β):PS 3 [] k = k (cM cI ([]:List Int)):=rfl
theorem SJ {β:Type} (a0 a1:Int) (k:List (List D)->Option β):PS 3 [[.int .i64 a0],[.int .i64 a1]] k = k (cM cI ([a0,a1]:List Int)):=rfl
theorem PE {β:Type} (a0 a1 a2 a3:Int) (k:List (List D)->Option β):PS 3 [[.int .i64 a0],[.int .i64 a1],[.int .i64 a2],[.int .i64 a3]] k = k (cM cI ([a0,a1,a2,a3]:List Int)):=rfl
theorem V1 {β:Type} (a0:Int) (k:List (List D)->Option β):PS 3 [[.int .i64 a0]] k = k (cM cI ([a0]:List Int)):=rfl
theorem KM {β:Type} (a0_0 a0_1 a0_2 a0_3 a0_4 a0_5 a1_0 a1_1 a1_2 a1_3 a1_4 a1_5:Int) (a1_6:List aJ) (a2_0 a2_1 a2_2 a2_3 a2_4 a2_5 a3_0 a3_1 a3_2 a3_3 a3_4 a3_5:Int) (a3_6:List aJ) (k:List (List D)->Option β):PS 48 [[.int .i64 a0_0,.int .i64 a0_1,.int .i64 a0_2,.int .i64 a0_3,.int .i64 a0_4,.int .i64 a0_5,.sl []],[.int .i64 a1_0,.int .i64 a1_1,.int .i64 a1_2,.int .i64 a1_3,.int .i64 a1_4,.int .i64 a1_5,.sl (cM aJ.cells a1_6)],[.int .i64 a2_0,.int .i64 a2_1,.int .i64 a2_2,.int .i64 a2_3,.int .i64 a2_4,.int .i64 a2_5,.sl []],[.int .i64 a3_0,.int .i64 a3_1,.int .i64 a3_2,.int .i64 a3_3,.int .i64 a3_4,.int .i64 a3_5,.sl (cM aJ.cells a3_6)]] k = k (cM aE.cells ([(aE.mk a0_0 a0_1 a0_2 a0_3 a0_4 a0_5 []),(aE.mk a1_0 a1_1 a1_2 a1_3 a1_4 a1_5 a1_6),(aE.mk a2_0 a2_1 a2_2 a2_3 a2_4 a2_5 []),(aE.mk a3_0 a3_1 a3_2 a3_3 a3_4 a3_5 a3_6)]:List aE)):=rfl
theorem VQ {β:Type} (k:List (List D)->Option β):PS 54 [] k = k (cM aF.cells ([]:List aF)):=rfl
theorem SO {β:Type} (a0_0 a0_1 a0_2:Int) (k:List (List D)->Option β):PS 54 [[.int .i64 a0_0,.int .i64 a0_1,.int .i64 a0_2]] k = k (cM aF.cells ([(aF.mk a0_0 a0_1 a0_2)]:List aF)):=rfl
theorem SR {β:Type} (a0:aF) (k:List (List D)->Option β):PS 54 [aF.cells a0] k = k (cM aF.cells ([a0]:List aF)):=rfl
theorem VW {β:Type} (k:List (List D)->Option β):PS 60 [] k = k (cM a8.cells ([]:List a8)):=rfl
theorem SH {β:Type} (a0_0 a0_1 a0_2 a0_3 a0_4 a0_5 a0_6 a0_7 a0_8:Int) (k:List (List D)->Option β):PS 60 [[.int .i64 a0_0,.int .i64 a0_1,.int .i64 a0_2,.int .i64 a0_3,.int .i64 a0_4,.int .i64 a0_5,.int .i64 a0_6,.int .i64 a0_7,.int .i64 a0_8]] k = k (cM a8.cells ([(a8.mk a0_0 a0_1 a0_2 a0_3 a0_4 a0_5 a0_6 a0_7 a0_8)]:List a8)):=rfl
theorem SL {β:Type} (a0_0 a0_1:Int) (k:List (List D)->Option β):PS 87 [[.int .i64 a0_0,.int .i64 a0_1]] k = k (cM aJ.cells ([(aJ.mk a0_0 a0_1)]:List aJ)):=rfl
theorem UI {β:Type} (k:List (List D)->Option β):PS 95 [] k = k (cM aC.cells ([]:List aC)):=rfl
theorem R5 {β:Type} (a0_0 a0_1 a0_2 a0_3 a0_4:Int) (a0_5:Bool) (k:List (List D)->Option β):PS 95 [[.int .i64 a0_0,.int .i64 a0_1,.int .i64 a0_2,.int .i64 a0_3,.int .i64 a0_4,.bool a0_5]] k = k (cM aC.cells ([(aC.mk a0_0 a0_1 a0_2 a0_3 a0_4 a0_5)]:List aC)):=rfl
theorem SF {β:Type} (a0:aC) (k:List (List D)->Option β):PS 95 [aC.cells a0] k = k (cM aC.cells ([a0]:List aC)):=rfl
theorem V6 {β:Type} (xs:List aD) (i:Nat) (a_0 a_1:Int) (a_2:Bool) (k:List (List D)->Option β):A8 114 (cM aD.cells xs) i [.int .i64 a_0,.int .i64 a_1,.bool a_2] k = k (cM aD.cells (xs.set i (aD.mk a_0 a_1 a_2))):=FB 114 aD.cells xs i (aD.mk a_0 a_1 a_2) k
theorem aAr {β:Type} (xs:List Int) (i:Nat) (a:Int) (k:List (List D)->Option β):A8 3 (cM cI xs) i [.int .i64 a] k = k (cM cI (xs.set i a)):=FB 3 cI xs i a k
theorem W6 {β:Type} (xs:List aC) (i:Nat) (a_0 a_1 a_2 a_3 a_4:Int) (a_5:Bool) (k:List (List D)->Option β):A8 95 (cM aC.cells xs) i [.int .i64 a_0,.int .i64 a_1,.int .i64 a_2,.int .i64 a_3,.int .i64 a_4,.bool a_5] k = k (cM aC.cells (xs.set i (aC.mk a_0 a_1 a_2 a_3 a_4 a_5))):=FB 95 aC.cells xs i (aC.mk a_0 a_1 a_2 a_3 a_4 a_5) k
/- all rules as one -/
set_option linter.defProp false
def DN:=aN (aN (aN (aN (aN (aN (aN (aN (aN @aQF @aQw) (aN @aPI @aIT)) (aN (aN @aKV @aFN) (aN @aLY (aN @aNq @aOX)))) (aN (aN (aN @aCO @aIc) (aN @aId @aAR)) (aN (aN @Y9 @aDU) (aN @XB (aN @aFj @aLr))))) (aN (aN (aN (aN @aQE @aIE) (aN @aJZ @aG4)) (aN (aN @aKd @aGa) (aN @Z8 (aN @aJ3 @aHe)))) (aN (aN (aN @aCe @aAe) (aN @aA7 @aMm)) (aN (aN @aFu @aFm) (aN @aEX (aN @aBt @aGU)))))) (aN (aN (aN (aN (aN @aCD @aHV) (aN @aKY @aCf)) (aN (aN @aCz @aAd) (aN @aGG (aN @VF @aBn)))) (aN (aN (aN @aBN @aHr) (aN @aJW @aKB)) (aN (aN @aG1 @aMh) (aN @aFq (aN @ST @aJd))))) (aN (aN (aN (aN @U3 @SD) (aN @aPa @aEO)) (aN (aN @SS @aEx) (aN @aAx (aN @aAP @YL)))) (aN (aN (aN @aIv @aJE) (aN @aFG @aBl)) (aN (aN @YM @aE5) (aN @aMr (aN @aJ7 @aJT))))))) (aN (aN (aN (aN (aN (aN @aKp @QY) (aN @aOP @aOG)) (aN (aN @aQR @aLm) (aN @U4 (aN @aFV @aDQ)))) (aN (aN (aN @aKF @aOi) (aN @aNp @Y6)) (aN (aN @aJ1 @aG2) (aN @aAi (aN @aE4 @aHB))))) (aN (aN (aN (aN @aFd @aCQ) (aN @aMs @aLX)) (aN (aN @aAo @aIV) (aN @aB2 (aN @aHS @aIZ)))) (aN (aN (aN @aB1 @JR) (aN @aGY @aIl)) (aN (aN @aEw @aEj) (aN @aPf (aN @aMu @Z1)))))) (aN (aN (aN (aN (aN @WP @aGF) (aN @aJx @aFn)) (aN (aN @aQD @aK8) (aN @aKS (aN @aHD @aLL)))) (aN (aN (aN @aGd @aF4) (aN @aFb @aF9)) (aN (aN @aDW @aKy) (aN @aLe (aN @aHW @aEY))))) (aN (aN (aN (aN @aE6 @aPh) (aN @aH2 @aHO)) (aN (aN @aM1 @aJQ) (aN @aQp (aN @aQB @aP9)))) (aN (aN (aN @aHT @aHQ) (aN @aIo @aN6)) (aN (aN @aNx @aOd) (aN @aEQ (aN @aAn @aAD)))))))) (aN (aN (aN (aN (aN (aN (aN @aJV @aJs) (aN @aL3 @aNh)) (aN (aN @aBE @aJf) (aN @aGX (aN @aIQ @aLf)))) (aN (aN (aN @aEi @aLg) (aN @aOn @aL2)) (aN (aN @aMD @aQ0) (aN @aPK (aN @aJJ @aIs))))) (aN (aN (aN (aN @aHa @aGS) (aN @aOy @aER)) (aN (aN @W9 @aEV) (aN @UK (aN @aLD @aLG)))) (aN (aN (aN @aJ0 @aKu) (aN @aKK @aJp)) (aN (aN @aHJ @aG9) (aN @aJa (aN @aLh @aLC)))))) (aN (aN (aN (aN (aN @aN1 @aMg) (aN @aP8 @aQd)) (aN (aN @aPS @aO2) (aN @aNj (aN @aMk @aM8)))) (aN (aN (aN @aJw @aJL) (aN @aFc @aFS)) (aN (aN @aHb @aFr) (aN @aEI (aN @aCl @aNK))))) (aN (aN (aN (aN @aQ4 @aKe) (aN @aNt @aLP)) (aN (aN @aN2 @aJF) (aN @R7 (aN @aGc @R9)))) (aN (aN (aN @aF6 @aGT) (aN @aCj @QE)) (aN (aN @aK0 @ZP) (aN @aOz (aN @aMJ @aJK))))))) (aN (aN (aN (aN (aN (aN @aBZ @aAM) (aN @ZA @aBz)) (aN (aN @aAN @ZZ) (aN @aCi (aN @aFH @aBO)))) (aN (aN (aN @aCg @Y1) (aN @aGr @aBv)) (aN (aN @aMf @aO7) (aN @aC8 (aN @aDX @aCr))))) (aN (aN (aN (aN @aCE @aA9) (aN @UN @aEP)) (aN (aN @aJv @aLc) (aN @aLK (aN @aLj @aJi)))) (aN (aN (aN @aIS @WU) (aN @aMi @aN0)) (aN (aN @ZK @aBq) (aN @aAy (aN @aHl @aI7)))))) (aN (aN (aN (aN (aN @aD3 @ZI) (aN @YR @ZX)) (aN (aN @aLA @aOt) (aN @WI (aN @aNV @aQ9)))) (aN (aN (aN @aOY @aRB) (aN @aNU @U6)) (aN (aN @ZN @ZS) (aN @FB (aN @aRh @aQJ))))) (aN (aN (aN (aN @aQ1 @aLu) (aN @aSM @aR6)) (aN (aN @aSn @aIj) (aN @aI3 (aN @aKR @aJD)))) (aN (aN (aN @aIy @aJM) (aN @aI4 @aK5)) (aN (aN @aLb @aHc) (aN @aKP (aN @aKx @aML))))))))) (aN (aN (aN (aN (aN (aN (aN (aN @aJz @aDT) (aN @aF2 @aEr)) (aN (aN @aGE @aFp) (aN @aEs (aN @aEC @aF7)))) (aN (aN (aN @aD8 @aF8) (aN @aNA @aN3)) (aN (aN @aLs @aHY) (aN @aFh (aN @T2 @O4))))) (aN (aN (aN (aN @OX @aMN) (aN @aIx @aKM)) (aN (aN @aGs @aD6) (aN @aN7 (aN @aI5 @aCK)))) (aN (aN (aN @aBT @aNE) (aN @aQN @aP4)) (aN (aN @aFo @aFa) (aN @aFB (aN @aG0 @aAh)))))) (aN (aN (aN (aN (aN @aBe @aBW) (aN @aBs @aBi)) (aN (aN @aB4 @aAF) (aN @aAG (aN @UQ @aJc)))) (aN (aN (aN @aAA @aCI) (aN @aFk @aEv)) (aN (aN @aBI @aSr) (aN @aO0 (aN @aOF @aJe))))) (aN (aN (aN (aN @aK7 @aEb) (aN @aOj @aMA)) (aN (aN @aES @EK) (aN @aQM (aN @aHI @aIh)))) (aN (aN (aN @XF @aFQ) (aN @aQ2 @Z5)) (aN (aN @aEL @aHP) (aN @aJq (aN @aQz @aP1))))))) (aN (aN (aN (aN (aN (aN @aOw @aJB) (aN @aF3 @aA2)) (aN (aN @aMe @aQt) (aN @aQP (aN @aLp @aQW)))) (aN (aN (aN @aD0 @aBx) (aN @aEZ @aBw)) (aN (aN @aOm @aL1) (aN @aOs (aN @aO1 @aQ5))))) (aN (aN (aN (aN @aHH @aQV) (aN @aHR @SA)) (aN (aN @R0 @Q2) (aN @aNw (aN @aFT @aFe)))) (aN (aN (aN @aGb @aBp) (aN @XX @aE9)) (aN (aN @ZQ @aB3) (aN @WV (aN @XI @aBP)))))) (aN (aN (aN (aN (aN @YP @aAl) (aN @aAg @aIq)) (aN (aN @aLo @aAm) (aN @aAQ (aN @aBr @aET)))) (aN (aN (aN @aCN @YB) (aN @aAS @YF)) (aN (aN @SQ @YD) (aN @YT (aN @aRl @aQA))))) (aN (aN (aN (aN @aQg @aIO) (aN @aKh @aEG)) (aN (aN @aNH @aLT) (aN @aRg (aN @aHo @aFA)))) (aN (aN (aN @aPP @aRe) (aN @aEB @aDY)) (aN (aN @aMX @aJg) (aN @aKo (aN @aIm @aGJ)))))))) (aN (aN (aN (aN (aN (aN (aN @aAT @aA8) (aN @aE2 @aB5)) (aN (aN @aCJ @VM) (aN @U8 (aN @aHf @aQo)))) (aN (aN (aN @aQr @aQI) (aN @aFl @ZF)) (aN (aN @aD5 @aD1) (aN @aA5 (aN @YX @aQj))))) (aN (aN (aN (aN @aRm @aPR) (aN @aAO @aLl)) (aN (aN @aKN @aIu) (aN @aLw (aN @aKq @ZM)))) (aN (aN (aN @aFg @SY) (aN @RV @aRc)) (aN (aN @aQi @aAH) (aN @aJS (aN @aGt @aE8)))))) (aN (aN (aN (aN (aN @aIM @aFZ) (aN @T8 @aBb)) (aN (aN @aCS @aOu) (aN @aIY (aN @aD9 @aGi)))) (aN (aN (aN @aEW @aQh) (aN @aRr @aOh)) (aN (aN @aNa @aHE) (aN @aMR (aN @aOL @aJY))))) (aN (aN (aN (aN @aJX @aEN) (aN @aAv @YS)) (aN (aN @aGg @aFi) (aN @aAW (aN @aMj @aK4)))) (aN (aN (aN @aFf @aEp) (aN @YI @XS)) (aN (aN @aCX @aCV) (aN @aOr (aN @aJr @aIf))))))) (aN (aN (aN (aN (aN (aN @aKZ @aJy) (aN @aNu @ZL)) (aN (aN @aNk @aMW) (aN @aCm (aN @aJh @aGM)))) (aN (aN (aN @aB7 @aCw) (aN @aKG @aB8)) (aN (aN @X0 @YC) (aN @VO (aN @aIX @aJN))))) (aN (aN (aN (aN @YK @aGu) (aN @aCo @YA)) (aN (aN @aEd @aBJ) (aN @VZ (aN @Z7 @X5)))) (aN (aN (aN @SY @RV) (aN @aLS @aP5)) (aN (aN @aAs @X8) (aN @aEt (aN @aBQ @aJu)))))) (aN (aN (aN (aN (aN @aH9 @aOK) (aN @aKv @aH8)) (aN (aN @aQl @aQ8) (aN @aE7 (aN @aGn @aDR)))) (aN (aN (aN @aGQ @aH5) (aN @aE1 @V3)) (aN (aN @Z9 @WN) (aN @aD2 (aN @aBf @OW))))) (aN (aN (aN (aN @aHX @aFI) (aN @aAw @aEe)) (aN (aN @aJR @aNi) (aN @aDK (aN @aJk @aF1)))) (aN (aN (aN @aFJ @aEo) (aN @aKI @aDb)) (aN (aN @aGP @aMH) (aN @aHA (aN @aEc @aGH)))))))))
def DR:=aN (aN (aN (aN (aN (aN (aN @aJ.size @aJ.eq1) (aN @aJ.eq2 (aN @aJ.lens @aJ.vsets))) (aN (aN @aJ.st_d @aJ.st_nil) (aN @aJ.st_own (aN @aJ.st_agg @aJ.st_ptr)))) (aN (aN (aN @aJ.part @aJ.put) (aN @aJ.rset (aN @aJ.rfull @aJ.get0))) (aN (aN @aJ.get1 @aJ.sub0_2) (aN @aE.size (aN @aE.eq1 @aE.eq2))))) (aN (aN (aN (aN @aE.lens @aE.vsets) (aN @aE.st_d (aN @aE.st_nil @aE.st_own))) (aN (aN @aE.st_agg @aE.st_ptr) (aN @aE.part (aN @aE.put @aE.rset)))) (aN (aN (aN @aE.rfull @aE.get0) (aN @aE.get1 (aN @aE.get2 @aE.get3))) (aN (aN @aE.get4 (aN @aE.get5 @aE.get6)) (aN @aE.sub0_7 (aN @aF.size @aF.eq1)))))) (aN (aN (aN (aN (aN @aF.eq2 @aF.lens) (aN @aF.vsets (aN @aF.st_d @aF.st_nil))) (aN (aN @aF.st_own @aF.st_agg) (aN @aF.st_ptr (aN @aF.part @aF.put)))) (aN (aN (aN @aF.rset @aF.rfull) (aN @aF.get0 (aN @aF.get1 @aF.get2))) (aN (aN @aF.sub0_3 @aC.size) (aN @aC.eq1 (aN @aC.eq2 @aC.lens))))) (aN (aN (aN (aN @aC.vsets @aC.st_d) (aN @aC.st_nil (aN @aC.st_own @aC.st_agg))) (aN (aN @aC.st_ptr @aC.part) (aN @aC.put (aN @aC.rset @aC.rfull)))) (aN (aN (aN @aC.get0 @aC.get1) (aN @aC.get2 (aN @aC.get3 @aC.get4))) (aN (aN @aC.get5 (aN @aC.sub0_6 @aD.size)) (aN @aD.eq1 (aN @aD.eq2 @aD.lens))))))) (aN (aN (aN (aN (aN (aN @aD.vsets @aD.st_d) (aN @aD.st_nil (aN @aD.st_own @aD.st_agg))) (aN (aN @aD.st_ptr @aD.part) (aN @aD.put (aN @aD.rset @aD.rfull)))) (aN (aN (aN @aD.get0 @aD.get1) (aN @aD.get2 (aN @aD.sub0_3 @a8.size))) (aN (aN @a8.eq1 @a8.eq2) (aN @a8.lens (aN @a8.vsets @a8.st_d))))) (aN (aN (aN (aN @a8.st_nil @a8.st_own) (aN @a8.st_agg (aN @a8.st_ptr @a8.part))) (aN (aN @a8.put @a8.rset) (aN @a8.rfull (aN @a8.get0 @a8.get1)))) (aN (aN (aN @a8.get2 @a8.get3) (aN @a8.get4 (aN @a8.get5 @a8.get6))) (aN (aN @a8.get7 (aN @a8.get8 @a8.sub0_9)) (aN @aPT (aN @aNf @aNN)))))) (aN (aN (aN (aN (aN @aQe @aLB) (aN @aL5 (aN @aQa @aOq))) (aN (aN @aNe @aNT) (aN @aLJ (aN @aO9 @aL6)))) (aN (aN (aN @aLx @aMF) (aN @aRo (aN @aM6 @aLt))) (aN (aN @aO8 @aRn) (aN @aLV (aN @UX @aA6))))) (aN (aN (aN (aN @VR @QD) (aN @SI (aN @RX @XO))) (aN (aN @SJ @PE) (aN @V1 (aN @KM @VQ)))) (aN (aN (aN @SO @SR) (aN @VW (aN @SH @SL))) (aN (aN @UI (aN @R5 @SF)) (aN @V6 (aN @aAr @W6)))))))
def DQ:=aN (aN (aN (aN @aJ.len @aE.len) (aN @aF.len @aC.len)) (aN (aN @aD.len @a8.len) (aN @aJ.cells_mk (aN @aE.cells_mk @aF.cells_mk)))) (aN (aN (aN @aC.cells_mk @aD.cells_mk) (aN @a8.cells_mk @aJ.sized)) (aN (aN @aE.sized @aF.sized) (aN @aC.sized (aN @aD.sized @a8.sized))))
def DP:=aN @Option.some.injEq (aN @Bool.and_true @List.cons_ne_nil)
theorem bLc {α:Type} (a:α) (l:List α):(a :: l).length = l.length + 1:=rfl
theorem bLn {α:Type}:([]:List α).length = 0:=rfl
theorem bIt {α:Type} {d:Decidable True} (a b:α):@ite α True d a b = a:=if_pos trivial
theorem bIf {α:Type} {d:Decidable False} (a b:α):@ite α False d a b = b:=if_neg id
theorem bRs {α:Type} (n:Nat) (a:α):List.replicate (n + 1) a = a :: List.replicate n a:=rfl
theorem bRz {α:Type} (a:α):List.replicate 0 a = []:=rfl
theorem bBs {α γ:Type} (a:α) (f:α->Option γ):(some a).bind f = f a:=rfl
theorem bMs {α γ:Type} (a:α) (f:α->γ):(some a).map f = some (f a):=rfl
theorem bMn {α γ:Type} (f:α->γ):(none:Option α).map f = none:=rfl
theorem bEl {α γ δ:Type} (f:α->δ) (g:γ->δ) (x:α):Sum.elim f g (.inl x) = f x:=rfl
theorem bEr {α γ δ:Type} (f:α->δ) (g:γ->δ) (x:γ):Sum.elim f g (.inr x) = g x:=rfl
theorem bBb {α γ δ:Type} (o:Option α) (f:α->Option γ) (g:γ->Option δ):(o.bind f).bind g = o.bind fun x=>(f x).bind g:=by cases o <;> rfl
def DS:=aN (aN (aN (aN (aN @bLc @bLn) (aN @vK @Bool.not_true)) (aN (aN @Bool.not_false @bIt) (aN @bIf @bRs))) (aN (aN (aN @bRz @aCn) (aN @bBs @aGm)) (aN (aN @bMs @bMn) (aN @bEl @bEr)))) (aN (aN (aN (aN @aJ4 @W8) (aN @aHz @aIU)) (aN (aN @aKA @aBM) (aN @aDZ @aGZ))) (aN (aN (aN @aAK @aFM) (aN @aCL @aIk)) (aN (aN @aLM @Vm.bind_map) (aN @aEK (aN @aKz @bBb)))))
abbrev KF (T:vS) (f:Nat) (ds:List D) {α:Type} (o:Option α) (v:α->V):Prop:=∀ {β:Type} (d:Nat) (bl fz:List (Nat × Option aI)) (k:V->Option β) (kw:V->List (Nat × Option aI)->Option β),yJ T d bl f ds fz k kw = o.bind fun r=>k (v r)
abbrev KD (T:vS) (f:Nat) (ds:List D) {α:Type} (o:Option α) (v:α->V):Prop:=∀ {β:Type} (d:Nat) (bl fz:List (Nat × Option aI)) (k:V->Option β) (kw:V->List (Nat × Option aI)->Option β),yJ T d bl f ds fz k kw = o.bind fun r=>fzK fz (v r) k kw
theorem kF {T:vS} {α:Type} {f:Nat} {ds:List D} {o:Option α} {enc:α->D} {v:α->V} (h:Vm.call T f ds = o.map enc) (hf:∀ x,GW (enc x) = true) (hv:∀ x,toV (enc x) = v x):KF T f ds o v:=fun d bl fz k kw=>by
 rw [aB0 h hf fz]
 exact congrArg _ (funext fun x=>congrArg k (hv x))
theorem kD {T:vS} {α:Type} {f:Nat} {ds:List D} {o:Option α} {enc:α->D} {v:α->V} (h:Vm.call T f ds = o.map enc) (hf:∀ x,GW (enc x) = false) (hc:∀ x,(enc x).calm = true) (hv:∀ x,toV (enc x) = v x):KD T f ds o v:=fun d bl fz k kw=>by
 rw [aAL h hf hc fz]
 exact congrArg _ (funext fun x=>congrArg (fun y=>fzK fz y k kw) (hv x))
theorem HW {p:Prop} (h:p:=by
  simp -implicitDefEqProofs (decide:=true) (maxSteps:=2000000) only [↓DN,↓DR,DQ,DP,↓reduceIte,Int.reduceToNat,Nat.reduceBEq,Nat.reduceAdd,Nat.reduceLT,Nat.reduceLeDiff,Nat.reduceEqDiff,Int.reduceEq,ne_eq,not_false_eq_true,reduceCtorEq,AN,MV,LP,beq_self_eq_true,DS]
  all_goals try simp only [aHw]
  all_goals try rfl):p:=h
theorem oR {p:Prop} (h:p:=by
  simp -implicitDefEqProofs (decide:=true) (maxSteps:=2000000) only [↓u,↓DN,↓DR,DQ,DP,↓reduceIte,Int.reduceToNat,Nat.reduceBEq,Nat.reduceAdd,Nat.reduceLT,Nat.reduceLeDiff,Nat.reduceEqDiff,Int.reduceEq,ne_eq,not_false_eq_true,reduceCtorEq,AN,MV,LP,beq_self_eq_true,DS]
  all_goals try simp only [aHw]
  all_goals try rfl):p:=h
end Go.Proofs.Ytgjcnbgfaimepaa
