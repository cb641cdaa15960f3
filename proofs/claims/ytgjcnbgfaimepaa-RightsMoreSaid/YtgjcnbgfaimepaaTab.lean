/- The table. Printed by a program. -/
import Derived.Test.YtgjcnbgfaimepaaVmH
import Derived.Test.YtgjcnbgfaimepaaVmF
import Derived.Test.YtgjcnbgfaimepaaVmI
import Derived.Test.YtgjcnbgfaimepaaRepD
import Derived.Test.YtgjcnbgfaimepaaCode1
set_option linter.unusedVariables false
set_option linter.unusedSimpArgs false
namespace Go.Proofs.Ytgjcnbgfaimepaa
open Vm
open Go.RowKit
def aQs:List D->Option D:=aLB 3
def o49:List D->Option D:=UO 3 1 8
def TL:List (Nat × Option Def):=[(35,some (.code aRM)),(53,some (.code aRI)),(54,some (.code aRc)),(55,some (.code aR5)),(19,some (.code aRv)),(37,some (.code aQ8)),(73,some (.code aRi)),(44,some (.code aRL)),(82,some (.code aR7)),(105,some (.code aPa)),(81,some (.code aSa)),(60,some (.code aRt)),(64,some (.code aRJ)),(106,some (.code aO6)),(84,some (.code aRx)),(83,some (.code aRV)),(85,some (.code aSb)),(61,some (.code aRh)),(86,some (.code aRW)),(108,some (.code aOZ)),(87,some (.code aRd)),(62,some (.code aSe)),(63,some (.code aRF)),(25,some (.code aRa)),(38,some (.code aSo)),(10,some (.code aRE)),(21,some (.code aR3)),(43,some (.code aRj)),(72,some (.code aRu)),(27,some (.code aSl)),(77,some (.code aR9)),(76,some (.code aRP)),(48,some (.code aR6)),(47,some (.code aRk)),(75,some (.code aSm)),(46,some (.code aRf)),(12,some (.code aRs)),(14,some (.code aRy)),(16,some (.code aRo)),(52,some (.code aSf)),(17,some (.code aSj)),(23,some (.code aR0)),(8,some (.code sf8)),(26,some (.code aRX)),(36,some (.code aRr)),(29,some (.code aRY)),(59,some (.code aSp)),(22,some (.code aRS)),(9,some (.code sf9)),(4,some (.code sf4)),(109,some (.told aQs)),(49,some (.told o49))]
def TT:vA:=fun f=>lk TL none f
structure aJ where
 Kind:Int
 Owner:Int
 deriving Inhabited
def aJ.cells (x:aJ):List D:=[.int .i64 x.Kind,.int .i64 x.Owner]
theorem aJ.sized (xs:List aJ):sized 2 (cM aJ.cells xs) = true:=pZ _ _ (fun x=>by rfl) xs
theorem aJ.len (x:aJ):x.cells.length = 2:=rfl
theorem aJ.size {β:Type} (x:aJ) (y:Option β):rS x.cells 2 y = y:=rfl
theorem aJ.eq1 {β:Type} (x:aJ) (ks:List Nat) (ys:List V) (k:Bool->Option β):kJ ks (aQ x.cells) ys k = kJ ks [.d (.int .i64 x.Kind),.d (.int .i64 x.Owner)] ys k:=rfl
theorem aJ.eq2 {β:Type} (x:aJ) (ks:List Nat) (ys:List V) (k:Bool->Option β):kJ ks ys (aQ x.cells) k = kJ ks ys [.d (.int .i64 x.Kind),.d (.int .i64 x.Owner)] k:=rfl
theorem aJ.lens {β:Type} (x:aJ) (y:Option β):zP (aQ x.cells) 2 y = y:=rfl
theorem aJ.vsets {β:Type} (x:aJ) (z:List V) (o:Nat) (k:List V->Option β):kA z o (aQ x.cells) k = kA z o [.d (.int .i64 x.Kind),.d (.int .i64 x.Owner)] k:=rfl
theorem aJ.st_d {β:Type} (x:aJ) (y:D) (sz off id:Nat) (kw:V->List (Nat × Option aI)->Option β):aP sz off id (.d y) (some (.box (aQ x.cells))) kw = aP sz off id (.d y) (some (.box [.d (.int .i64 x.Kind),.d (.int .i64 x.Owner)])) kw:=rfl
theorem aJ.st_nil {β:Type} (x:aJ)  (sz off id:Nat) (kw:V->List (Nat × Option aI)->Option β):aP sz off id .nil (some (.box (aQ x.cells))) kw = aP sz off id .nil (some (.box [.d (.int .i64 x.Kind),.d (.int .i64 x.Owner)])) kw:=rfl
theorem aJ.st_own {β:Type} (x:aJ) (i v sz off id:Nat) (kw:V->List (Nat × Option aI)->Option β):aP sz off id (.own i v) (some (.box (aQ x.cells))) kw = aP sz off id (.own i v) (some (.box [.d (.int .i64 x.Kind),.d (.int .i64 x.Owner)])) kw:=rfl
theorem aJ.st_agg {β:Type} (x:aJ) (y:List V) (sz off id:Nat) (kw:V->List (Nat × Option aI)->Option β):aP sz off id (.agg y) (some (.box (aQ x.cells))) kw = aP sz off id (.agg y) (some (.box [.d (.int .i64 x.Kind),.d (.int .i64 x.Owner)])) kw:=rfl
theorem aJ.st_ptr {β:Type} (x:aJ) (i v sz off id:Nat) (kw:V->List (Nat × Option aI)->Option β):aP sz off id (.ptr i v) (some (.box (aQ x.cells))) kw = aP sz off id (.ptr i v) (some (.box [.d (.int .i64 x.Kind),.d (.int .i64 x.Owner)])) kw:=rfl
theorem aJ.part {β:Type} (x:aJ) (off id:Nat) (b:Option aI) (kw:V->List (Nat × Option aI)->Option β):aP 2 (off + 1) id (kB x.cells) b kw = aP 2 (off + 1) id (.agg [.d (.int .i64 x.Kind),.d (.int .i64 x.Owner)]) b kw:=rfl
theorem aJ.put {β:Type} (x:aJ) (id:Nat) (cs:List V) (hc:cs.length = 2) (kw:V->List (Nat × Option aI)->Option β):aP 2 0 id (kB x.cells) (some (.box cs)) kw = kw .any [(id,some (.box (aQ x.cells)))]:=nO 2 id _ rfl cs hc
theorem aJ.rset {β:Type} (x:aJ) (off:Nat) (d:D) (ds:List D) (n:Nat) (k:List D->Option β):bX x.cells off (d :: ds) n k = bX [.int .i64 x.Kind,.int .i64 x.Owner] off (d :: ds) n k:=rfl
theorem aJ.rfull {β:Type} (x y:aJ) (k:List D->Option β):bX x.cells 0 y.cells 2 k = k y.cells:=by unfold bX; exact (if_pos ⟨rfl,Nat.le_refl _⟩).trans rfl
theorem aJ.get0 {β:Type} (x:aJ) (k:D->Option β):eU x.cells 0 k = k (.int .i64 x.Kind):=rfl
theorem aJ.get1 {β:Type} (x:aJ) (k:D->Option β):eU x.cells 1 k = k (.int .i64 x.Owner):=rfl
theorem aJ.sub0_2 {β:Type} (x:aJ) (k:List D->Option β):xE x.cells 0 2 k = k x.cells:=rfl
theorem aJ.cells_mk (f0 f1:Int):aJ.cells (aJ.mk f0 f1) = [.int .i64 f0,.int .i64 f1]:=rfl
structure aE where
 From:Int
 To:Int
 Sum:Int
 File:Int
 Part:Int
 Sign:Int
 Rights:List aJ
 deriving Inhabited
def aE.cells (x:aE):List D:=[.int .i64 x.From,.int .i64 x.To,.int .i64 x.Sum,.int .i64 x.File,.int .i64 x.Part,.int .i64 x.Sign,.sl (cM aJ.cells x.Rights)]
theorem aE.sized (xs:List aE):sized 7 (cM aE.cells xs) = true:=pZ _ _ (fun x=>by rfl) xs
theorem aE.len (x:aE):x.cells.length = 7:=rfl
theorem aE.size {β:Type} (x:aE) (y:Option β):rS x.cells 7 y = y:=rfl
theorem aE.eq1 {β:Type} (x:aE) (ks:List Nat) (ys:List V) (k:Bool->Option β):kJ ks (aQ x.cells) ys k = kJ ks [.d (.int .i64 x.From),.d (.int .i64 x.To),.d (.int .i64 x.Sum),.d (.int .i64 x.File),.d (.int .i64 x.Part),.d (.int .i64 x.Sign),.d (.sl (cM aJ.cells x.Rights))] ys k:=rfl
theorem aE.eq2 {β:Type} (x:aE) (ks:List Nat) (ys:List V) (k:Bool->Option β):kJ ks ys (aQ x.cells) k = kJ ks ys [.d (.int .i64 x.From),.d (.int .i64 x.To),.d (.int .i64 x.Sum),.d (.int .i64 x.File),.d (.int .i64 x.Part),.d (.int .i64 x.Sign),.d (.sl (cM aJ.cells x.Rights))] k:=rfl
theorem aE.lens {β:Type} (x:aE) (y:Option β):zP (aQ x.cells) 7 y = y:=rfl
theorem aE.vsets {β:Type} (x:aE) (z:List V) (o:Nat) (k:List V->Option β):kA z o (aQ x.cells) k = kA z o [.d (.int .i64 x.From),.d (.int .i64 x.To),.d (.int .i64 x.Sum),.d (.int .i64 x.File),.d (.int .i64 x.Part),.d (.int .i64 x.Sign),.d (.sl (cM aJ.cells x.Rights))] k:=rfl
theorem aE.st_d {β:Type} (x:aE) (y:D) (sz off id:Nat) (kw:V->List (Nat × Option aI)->Option β):aP sz off id (.d y) (some (.box (aQ x.cells))) kw = aP sz off id (.d y) (some (.box [.d (.int .i64 x.From),.d (.int .i64 x.To),.d (.int .i64 x.Sum),.d (.int .i64 x.File),.d (.int .i64 x.Part),.d (.int .i64 x.Sign),.d (.sl (cM aJ.cells x.Rights))])) kw:=rfl
theorem aE.st_nil {β:Type} (x:aE)  (sz off id:Nat) (kw:V->List (Nat × Option aI)->Option β):aP sz off id .nil (some (.box (aQ x.cells))) kw = aP sz off id .nil (some (.box [.d (.int .i64 x.From),.d (.int .i64 x.To),.d (.int .i64 x.Sum),.d (.int .i64 x.File),.d (.int .i64 x.Part),.d (.int .i64 x.Sign),.d (.sl (cM aJ.cells x.Rights))])) kw:=rfl
theorem aE.st_own {β:Type} (x:aE) (i v sz off id:Nat) (kw:V->List (Nat × Option aI)->Option β):aP sz off id (.own i v) (some (.box (aQ x.cells))) kw = aP sz off id (.own i v) (some (.box [.d (.int .i64 x.From),.d (.int .i64 x.To),.d (.int .i64 x.Sum),.d (.int .i64 x.File),.d (.int .i64 x.Part),.d (.int .i64 x.Sign),.d (.sl (cM aJ.cells x.Rights))])) kw:=rfl
theorem aE.st_agg {β:Type} (x:aE) (y:List V) (sz off id:Nat) (kw:V->List (Nat × Option aI)->Option β):aP sz off id (.agg y) (some (.box (aQ x.cells))) kw = aP sz off id (.agg y) (some (.box [.d (.int .i64 x.From),.d (.int .i64 x.To),.d (.int .i64 x.Sum),.d (.int .i64 x.File),.d (.int .i64 x.Part),.d (.int .i64 x.Sign),.d (.sl (cM aJ.cells x.Rights))])) kw:=rfl
theorem aE.st_ptr {β:Type} (x:aE) (i v sz off id:Nat) (kw:V->List (Nat × Option aI)->Option β):aP sz off id (.ptr i v) (some (.box (aQ x.cells))) kw = aP sz off id (.ptr i v) (some (.box [.d (.int .i64 x.From),.d (.int .i64 x.To),.d (.int .i64 x.Sum),.d (.int .i64 x.File),.d (.int .i64 x.Part),.d (.int .i64 x.Sign),.d (.sl (cM aJ.cells x.Rights))])) kw:=rfl
theorem aE.part {β:Type} (x:aE) (off id:Nat) (b:Option aI) (kw:V->List (Nat × Option aI)->Option β):aP 7 (off + 1) id (kB x.cells) b kw = aP 7 (off + 1) id (.agg [.d (.int .i64 x.From),.d (.int .i64 x.To),.d (.int .i64 x.Sum),.d (.int .i64 x.File),.d (.int .i64 x.Part),.d (.int .i64 x.Sign),.d (.sl (cM aJ.cells x.Rights))]) b kw:=rfl
theorem aE.put {β:Type} (x:aE) (id:Nat) (cs:List V) (hc:cs.length = 7) (kw:V->List (Nat × Option aI)->Option β):aP 7 0 id (kB x.cells) (some (.box cs)) kw = kw .any [(id,some (.box (aQ x.cells)))]:=nO 7 id _ rfl cs hc
theorem aE.rset {β:Type} (x:aE) (off:Nat) (d:D) (ds:List D) (n:Nat) (k:List D->Option β):bX x.cells off (d :: ds) n k = bX [.int .i64 x.From,.int .i64 x.To,.int .i64 x.Sum,.int .i64 x.File,.int .i64 x.Part,.int .i64 x.Sign,.sl (cM aJ.cells x.Rights)] off (d :: ds) n k:=rfl
theorem aE.rfull {β:Type} (x y:aE) (k:List D->Option β):bX x.cells 0 y.cells 7 k = k y.cells:=by unfold bX; exact (if_pos ⟨rfl,Nat.le_refl _⟩).trans rfl
theorem aE.get0 {β:Type} (x:aE) (k:D->Option β):eU x.cells 0 k = k (.int .i64 x.From):=rfl
theorem aE.get1 {β:Type} (x:aE) (k:D->Option β):eU x.cells 1 k = k (.int .i64 x.To):=rfl
theorem aE.get2 {β:Type} (x:aE) (k:D->Option β):eU x.cells 2 k = k (.int .i64 x.Sum):=rfl
theorem aE.get3 {β:Type} (x:aE) (k:D->Option β):eU x.cells 3 k = k (.int .i64 x.File):=rfl
theorem aE.get4 {β:Type} (x:aE) (k:D->Option β):eU x.cells 4 k = k (.int .i64 x.Part):=rfl
theorem aE.get5 {β:Type} (x:aE) (k:D->Option β):eU x.cells 5 k = k (.int .i64 x.Sign):=rfl
theorem aE.get6 {β:Type} (x:aE) (k:D->Option β):eU x.cells 6 k = k (.sl (cM aJ.cells x.Rights)):=rfl
theorem aE.sub0_7 {β:Type} (x:aE) (k:List D->Option β):xE x.cells 0 7 k = k x.cells:=rfl
theorem aE.cells_mk (f0 f1 f2 f3 f4 f5:Int) (f6:List aJ):aE.cells (aE.mk f0 f1 f2 f3 f4 f5 f6) = [.int .i64 f0,.int .i64 f1,.int .i64 f2,.int .i64 f3,.int .i64 f4,.int .i64 f5,.sl (cM aJ.cells f6)]:=rfl
structure aF where
 From:Int
 To:Int
 Sum:Int
 deriving Inhabited
def aF.cells (x:aF):List D:=[.int .i64 x.From,.int .i64 x.To,.int .i64 x.Sum]
theorem aF.sized (xs:List aF):sized 3 (cM aF.cells xs) = true:=pZ _ _ (fun x=>by rfl) xs
theorem aF.len (x:aF):x.cells.length = 3:=rfl
theorem aF.size {β:Type} (x:aF) (y:Option β):rS x.cells 3 y = y:=rfl
theorem aF.eq1 {β:Type} (x:aF) (ks:List Nat) (ys:List V) (k:Bool->Option β):kJ ks (aQ x.cells) ys k = kJ ks [.d (.int .i64 x.From),.d (.int .i64 x.To),.d (.int .i64 x.Sum)] ys k:=rfl
theorem aF.eq2 {β:Type} (x:aF) (ks:List Nat) (ys:List V) (k:Bool->Option β):kJ ks ys (aQ x.cells) k = kJ ks ys [.d (.int .i64 x.From),.d (.int .i64 x.To),.d (.int .i64 x.Sum)] k:=rfl
theorem aF.lens {β:Type} (x:aF) (y:Option β):zP (aQ x.cells) 3 y = y:=rfl
theorem aF.vsets {β:Type} (x:aF) (z:List V) (o:Nat) (k:List V->Option β):kA z o (aQ x.cells) k = kA z o [.d (.int .i64 x.From),.d (.int .i64 x.To),.d (.int .i64 x.Sum)] k:=rfl
theorem aF.st_d {β:Type} (x:aF) (y:D) (sz off id:Nat) (kw:V->List (Nat × Option aI)->Option β):aP sz off id (.d y) (some (.box (aQ x.cells))) kw = aP sz off id (.d y) (some (.box [.d (.int .i64 x.From),.d (.int .i64 x.To),.d (.int .i64 x.Sum)])) kw:=rfl
theorem aF.st_nil {β:Type} (x:aF)  (sz off id:Nat) (kw:V->List (Nat × Option aI)->Option β):aP sz off id .nil (some (.box (aQ x.cells))) kw = aP sz off id .nil (some (.box [.d (.int .i64 x.From),.d (.int .i64 x.To),.d (.int .i64 x.Sum)])) kw:=rfl
theorem aF.st_own {β:Type} (x:aF) (i v sz off id:Nat) (kw:V->List (Nat × Option aI)->Option β):aP sz off id (.own i v) (some (.box (aQ x.cells))) kw = aP sz off id (.own i v) (some (.box [.d (.int .i64 x.From),.d (.int .i64 x.To),.d (.int .i64 x.Sum)])) kw:=rfl
theorem aF.st_agg {β:Type} (x:aF) (y:List V) (sz off id:Nat) (kw:V->List (Nat × Option aI)->Option β):aP sz off id (.agg y) (some (.box (aQ x.cells))) kw = aP sz off id (.agg y) (some (.box [.d (.int .i64 x.From),.d (.int .i64 x.To),.d (.int .i64 x.Sum)])) kw:=rfl
theorem aF.st_ptr {β:Type} (x:aF) (i v sz off id:Nat) (kw:V->List (Nat × Option aI)->Option β):aP sz off id (.ptr i v) (some (.box (aQ x.cells))) kw = aP sz off id (.ptr i v) (some (.box [.d (.int .i64 x.From),.d (.int .i64 x.To),.d (.int .i64 x.Sum)])) kw:=rfl
theorem aF.part {β:Type} (x:aF) (off id:Nat) (b:Option aI) (kw:V->List (Nat × Option aI)->Option β):aP 3 (off + 1) id (kB x.cells) b kw = aP 3 (off + 1) id (.agg [.d (.int .i64 x.From),.d (.int .i64 x.To),.d (.int .i64 x.Sum)]) b kw:=rfl
theorem aF.put {β:Type} (x:aF) (id:Nat) (cs:List V) (hc:cs.length = 3) (kw:V->List (Nat × Option aI)->Option β):aP 3 0 id (kB x.cells) (some (.box cs)) kw = kw .any [(id,some (.box (aQ x.cells)))]:=nO 3 id _ rfl cs hc
theorem aF.rset {β:Type} (x:aF) (off:Nat) (d:D) (ds:List D) (n:Nat) (k:List D->Option β):bX x.cells off (d :: ds) n k = bX [.int .i64 x.From,.int .i64 x.To,.int .i64 x.Sum] off (d :: ds) n k:=rfl
theorem aF.rfull {β:Type} (x y:aF) (k:List D->Option β):bX x.cells 0 y.cells 3 k = k y.cells:=by unfold bX; exact (if_pos ⟨rfl,Nat.le_refl _⟩).trans rfl
theorem aF.get0 {β:Type} (x:aF) (k:D->Option β):eU x.cells 0 k = k (.int .i64 x.From):=rfl
theorem aF.get1 {β:Type} (x:aF) (k:D->Option β):eU x.cells 1 k = k (.int .i64 x.To):=rfl
theorem aF.get2 {β:Type} (x:aF) (k:D->Option β):eU x.cells 2 k = k (.int .i64 x.Sum):=rfl
theorem aF.sub0_3 {β:Type} (x:aF) (k:List D->Option β):xE x.cells 0 3 k = k x.cells:=rfl
theorem aF.cells_mk (f0 f1 f2:Int):aF.cells (aF.mk f0 f1 f2) = [.int .i64 f0,.int .i64 f1,.int .i64 f2]:=rfl
structure aC where
 due:Int
 from_:Int
 to:Int
 cost:Int
 most:Int
 back:Bool
 deriving Inhabited
def aC.cells (x:aC):List D:=[.int .i64 x.due,.int .i64 x.from_,.int .i64 x.to,.int .i64 x.cost,.int .i64 x.most,.bool x.back]
theorem aC.sized (xs:List aC):sized 6 (cM aC.cells xs) = true:=pZ _ _ (fun x=>by rfl) xs
theorem aC.len (x:aC):x.cells.length = 6:=rfl
theorem aC.size {β:Type} (x:aC) (y:Option β):rS x.cells 6 y = y:=rfl
theorem aC.eq1 {β:Type} (x:aC) (ks:List Nat) (ys:List V) (k:Bool->Option β):kJ ks (aQ x.cells) ys k = kJ ks [.d (.int .i64 x.due),.d (.int .i64 x.from_),.d (.int .i64 x.to),.d (.int .i64 x.cost),.d (.int .i64 x.most),.d (.bool x.back)] ys k:=rfl
theorem aC.eq2 {β:Type} (x:aC) (ks:List Nat) (ys:List V) (k:Bool->Option β):kJ ks ys (aQ x.cells) k = kJ ks ys [.d (.int .i64 x.due),.d (.int .i64 x.from_),.d (.int .i64 x.to),.d (.int .i64 x.cost),.d (.int .i64 x.most),.d (.bool x.back)] k:=rfl
theorem aC.lens {β:Type} (x:aC) (y:Option β):zP (aQ x.cells) 6 y = y:=rfl
theorem aC.vsets {β:Type} (x:aC) (z:List V) (o:Nat) (k:List V->Option β):kA z o (aQ x.cells) k = kA z o [.d (.int .i64 x.due),.d (.int .i64 x.from_),.d (.int .i64 x.to),.d (.int .i64 x.cost),.d (.int .i64 x.most),.d (.bool x.back)] k:=rfl
theorem aC.st_d {β:Type} (x:aC) (y:D) (sz off id:Nat) (kw:V->List (Nat × Option aI)->Option β):aP sz off id (.d y) (some (.box (aQ x.cells))) kw = aP sz off id (.d y) (some (.box [.d (.int .i64 x.due),.d (.int .i64 x.from_),.d (.int .i64 x.to),.d (.int .i64 x.cost),.d (.int .i64 x.most),.d (.bool x.back)])) kw:=rfl
theorem aC.st_nil {β:Type} (x:aC)  (sz off id:Nat) (kw:V->List (Nat × Option aI)->Option β):aP sz off id .nil (some (.box (aQ x.cells))) kw = aP sz off id .nil (some (.box [.d (.int .i64 x.due),.d (.int .i64 x.from_),.d (.int .i64 x.to),.d (.int .i64 x.cost),.d (.int .i64 x.most),.d (.bool x.back)])) kw:=rfl
theorem aC.st_own {β:Type} (x:aC) (i v sz off id:Nat) (kw:V->List (Nat × Option aI)->Option β):aP sz off id (.own i v) (some (.box (aQ x.cells))) kw = aP sz off id (.own i v) (some (.box [.d (.int .i64 x.due),.d (.int .i64 x.from_),.d (.int .i64 x.to),.d (.int .i64 x.cost),.d (.int .i64 x.most),.d (.bool x.back)])) kw:=rfl
theorem aC.st_agg {β:Type} (x:aC) (y:List V) (sz off id:Nat) (kw:V->List (Nat × Option aI)->Option β):aP sz off id (.agg y) (some (.box (aQ x.cells))) kw = aP sz off id (.agg y) (some (.box [.d (.int .i64 x.due),.d (.int .i64 x.from_),.d (.int .i64 x.to),.d (.int .i64 x.cost),.d (.int .i64 x.most),.d (.bool x.back)])) kw:=rfl
theorem aC.st_ptr {β:Type} (x:aC) (i v sz off id:Nat) (kw:V->List (Nat × Option aI)->Option β):aP sz off id (.ptr i v) (some (.box (aQ x.cells))) kw = aP sz off id (.ptr i v) (some (.box [.d (.int .i64 x.due),.d (.int .i64 x.from_),.d (.int .i64 x.to),.d (.int .i64 x.cost),.d (.int .i64 x.most),.d (.bool x.back)])) kw:=rfl
theorem aC.part {β:Type} (x:aC) (off id:Nat) (b:Option aI) (kw:V->List (Nat × Option aI)->Option β):aP 6 (off + 1) id (kB x.cells) b kw = aP 6 (off + 1) id (.agg [.d (.int .i64 x.due),.d (.int .i64 x.from_),.d (.int .i64 x.to),.d (.int .i64 x.cost),.d (.int .i64 x.most),.d (.bool x.back)]) b kw:=rfl
theorem aC.put {β:Type} (x:aC) (id:Nat) (cs:List V) (hc:cs.length = 6) (kw:V->List (Nat × Option aI)->Option β):aP 6 0 id (kB x.cells) (some (.box cs)) kw = kw .any [(id,some (.box (aQ x.cells)))]:=nO 6 id _ rfl cs hc
theorem aC.rset {β:Type} (x:aC) (off:Nat) (d:D) (ds:List D) (n:Nat) (k:List D->Option β):bX x.cells off (d :: ds) n k = bX [.int .i64 x.due,.int .i64 x.from_,.int .i64 x.to,.int .i64 x.cost,.int .i64 x.most,.bool x.back] off (d :: ds) n k:=rfl
theorem aC.rfull {β:Type} (x y:aC) (k:List D->Option β):bX x.cells 0 y.cells 6 k = k y.cells:=by unfold bX; exact (if_pos ⟨rfl,Nat.le_refl _⟩).trans rfl
theorem aC.get0 {β:Type} (x:aC) (k:D->Option β):eU x.cells 0 k = k (.int .i64 x.due):=rfl
theorem aC.get1 {β:Type} (x:aC) (k:D->Option β):eU x.cells 1 k = k (.int .i64 x.from_):=rfl
theorem aC.get2 {β:Type} (x:aC) (k:D->Option β):eU x.cells 2 k = k (.int .i64 x.to):=rfl
theorem aC.get3 {β:Type} (x:aC) (k:D->Option β):eU x.cells 3 k = k (.int .i64 x.cost):=rfl
theorem aC.get4 {β:Type} (x:aC) (k:D->Option β):eU x.cells 4 k = k (.int .i64 x.most):=rfl
theorem aC.get5 {β:Type} (x:aC) (k:D->Option β):eU x.cells 5 k = k (.bool x.back):=rfl
theorem aC.sub0_6 {β:Type} (x:aC) (k:List D->Option β):xE x.cells 0 6 k = k x.cells:=rfl
theorem aC.cells_mk (f0 f1 f2 f3 f4:Int) (f5:Bool):aC.cells (aC.mk f0 f1 f2 f3 f4 f5) = [.int .i64 f0,.int .i64 f1,.int .i64 f2,.int .i64 f3,.int .i64 f4,.bool f5]:=rfl
structure aD where
 c:Int
 steps:Int
 fine:Bool
 deriving Inhabited
def aD.cells (x:aD):List D:=[.int .i64 x.c,.int .i64 x.steps,.bool x.fine]
theorem aD.sized (xs:List aD):sized 3 (cM aD.cells xs) = true:=pZ _ _ (fun x=>by rfl) xs
theorem aD.len (x:aD):x.cells.length = 3:=rfl
theorem aD.size {β:Type} (x:aD) (y:Option β):rS x.cells 3 y = y:=rfl
theorem aD.eq1 {β:Type} (x:aD) (ks:List Nat) (ys:List V) (k:Bool->Option β):kJ ks (aQ x.cells) ys k = kJ ks [.d (.int .i64 x.c),.d (.int .i64 x.steps),.d (.bool x.fine)] ys k:=rfl
theorem aD.eq2 {β:Type} (x:aD) (ks:List Nat) (ys:List V) (k:Bool->Option β):kJ ks ys (aQ x.cells) k = kJ ks ys [.d (.int .i64 x.c),.d (.int .i64 x.steps),.d (.bool x.fine)] k:=rfl
theorem aD.lens {β:Type} (x:aD) (y:Option β):zP (aQ x.cells) 3 y = y:=rfl
theorem aD.vsets {β:Type} (x:aD) (z:List V) (o:Nat) (k:List V->Option β):kA z o (aQ x.cells) k = kA z o [.d (.int .i64 x.c),.d (.int .i64 x.steps),.d (.bool x.fine)] k:=rfl
theorem aD.st_d {β:Type} (x:aD) (y:D) (sz off id:Nat) (kw:V->List (Nat × Option aI)->Option β):aP sz off id (.d y) (some (.box (aQ x.cells))) kw = aP sz off id (.d y) (some (.box [.d (.int .i64 x.c),.d (.int .i64 x.steps),.d (.bool x.fine)])) kw:=rfl
theorem aD.st_nil {β:Type} (x:aD)  (sz off id:Nat) (kw:V->List (Nat × Option aI)->Option β):aP sz off id .nil (some (.box (aQ x.cells))) kw = aP sz off id .nil (some (.box [.d (.int .i64 x.c),.d (.int .i64 x.steps),.d (.bool x.fine)])) kw:=rfl
theorem aD.st_own {β:Type} (x:aD) (i v sz off id:Nat) (kw:V->List (Nat × Option aI)->Option β):aP sz off id (.own i v) (some (.box (aQ x.cells))) kw = aP sz off id (.own i v) (some (.box [.d (.int .i64 x.c),.d (.int .i64 x.steps),.d (.bool x.fine)])) kw:=rfl
theorem aD.st_agg {β:Type} (x:aD) (y:List V) (sz off id:Nat) (kw:V->List (Nat × Option aI)->Option β):aP sz off id (.agg y) (some (.box (aQ x.cells))) kw = aP sz off id (.agg y) (some (.box [.d (.int .i64 x.c),.d (.int .i64 x.steps),.d (.bool x.fine)])) kw:=rfl
theorem aD.st_ptr {β:Type} (x:aD) (i v sz off id:Nat) (kw:V->List (Nat × Option aI)->Option β):aP sz off id (.ptr i v) (some (.box (aQ x.cells))) kw = aP sz off id (.ptr i v) (some (.box [.d (.int .i64 x.c),.d (.int .i64 x.steps),.d (.bool x.fine)])) kw:=rfl
theorem aD.part {β:Type} (x:aD) (off id:Nat) (b:Option aI) (kw:V->List (Nat × Option aI)->Option β):aP 3 (off + 1) id (kB x.cells) b kw = aP 3 (off + 1) id (.agg [.d (.int .i64 x.c),.d (.int .i64 x.steps),.d (.bool x.fine)]) b kw:=rfl
theorem aD.put {β:Type} (x:aD) (id:Nat) (cs:List V) (hc:cs.length = 3) (kw:V->List (Nat × Option aI)->Option β):aP 3 0 id (kB x.cells) (some (.box cs)) kw = kw .any [(id,some (.box (aQ x.cells)))]:=nO 3 id _ rfl cs hc
theorem aD.rset {β:Type} (x:aD) (off:Nat) (d:D) (ds:List D) (n:Nat) (k:List D->Option β):bX x.cells off (d :: ds) n k = bX [.int .i64 x.c,.int .i64 x.steps,.bool x.fine] off (d :: ds) n k:=rfl
theorem aD.rfull {β:Type} (x y:aD) (k:List D->Option β):bX x.cells 0 y.cells 3 k = k y.cells:=by unfold bX; exact (if_pos ⟨rfl,Nat.le_refl _⟩).trans rfl
theorem aD.get0 {β:Type} (x:aD) (k:D->Option β):eU x.cells 0 k = k (.int .i64 x.c):=rfl
theorem aD.get1 {β:Type} (x:aD) (k:D->Option β):eU x.cells 1 k = k (.int .i64 x.steps):=rfl
theorem aD.get2 {β:Type} (x:aD) (k:D->Option β):eU x.cells 2 k = k (.bool x.fine):=rfl
theorem aD.sub0_3 {β:Type} (x:aD) (k:List D->Option β):xE x.cells 0 3 k = k x.cells:=rfl
theorem aD.cells_mk (f0 f1:Int) (f2:Bool):aD.cells (aD.mk f0 f1 f2) = [.int .i64 f0,.int .i64 f1,.bool f2]:=rfl
structure a8 where
 Kind:Int
 Who:Int
 To:Int
 Part:Int
 At:Int
 Sum:Int
 Day:Int
 City:Int
 Form:Int
 deriving Inhabited
def a8.cells (x:a8):List D:=[.int .i64 x.Kind,.int .i64 x.Who,.int .i64 x.To,.int .i64 x.Part,.int .i64 x.At,.int .i64 x.Sum,.int .i64 x.Day,.int .i64 x.City,.int .i64 x.Form]
theorem a8.sized (xs:List a8):sized 9 (cM a8.cells xs) = true:=pZ _ _ (fun x=>by rfl) xs
theorem a8.len (x:a8):x.cells.length = 9:=rfl
theorem a8.size {β:Type} (x:a8) (y:Option β):rS x.cells 9 y = y:=rfl
theorem a8.eq1 {β:Type} (x:a8) (ks:List Nat) (ys:List V) (k:Bool->Option β):kJ ks (aQ x.cells) ys k = kJ ks [.d (.int .i64 x.Kind),.d (.int .i64 x.Who),.d (.int .i64 x.To),.d (.int .i64 x.Part),.d (.int .i64 x.At),.d (.int .i64 x.Sum),.d (.int .i64 x.Day),.d (.int .i64 x.City),.d (.int .i64 x.Form)] ys k:=rfl
theorem a8.eq2 {β:Type} (x:a8) (ks:List Nat) (ys:List V) (k:Bool->Option β):kJ ks ys (aQ x.cells) k = kJ ks ys [.d (.int .i64 x.Kind),.d (.int .i64 x.Who),.d (.int .i64 x.To),.d (.int .i64 x.Part),.d (.int .i64 x.At),.d (.int .i64 x.Sum),.d (.int .i64 x.Day),.d (.int .i64 x.City),.d (.int .i64 x.Form)] k:=rfl
theorem a8.lens {β:Type} (x:a8) (y:Option β):zP (aQ x.cells) 9 y = y:=rfl
theorem a8.vsets {β:Type} (x:a8) (z:List V) (o:Nat) (k:List V->Option β):kA z o (aQ x.cells) k = kA z o [.d (.int .i64 x.Kind),.d (.int .i64 x.Who),.d (.int .i64 x.To),.d (.int .i64 x.Part),.d (.int .i64 x.At),.d (.int .i64 x.Sum),.d (.int .i64 x.Day),.d (.int .i64 x.City),.d (.int .i64 x.Form)] k:=rfl
theorem a8.st_d {β:Type} (x:a8) (y:D) (sz off id:Nat) (kw:V->List (Nat × Option aI)->Option β):aP sz off id (.d y) (some (.box (aQ x.cells))) kw = aP sz off id (.d y) (some (.box [.d (.int .i64 x.Kind),.d (.int .i64 x.Who),.d (.int .i64 x.To),.d (.int .i64 x.Part),.d (.int .i64 x.At),.d (.int .i64 x.Sum),.d (.int .i64 x.Day),.d (.int .i64 x.City),.d (.int .i64 x.Form)])) kw:=rfl
theorem a8.st_nil {β:Type} (x:a8)  (sz off id:Nat) (kw:V->List (Nat × Option aI)->Option β):aP sz off id .nil (some (.box (aQ x.cells))) kw = aP sz off id .nil (some (.box [.d (.int .i64 x.Kind),.d (.int .i64 x.Who),.d (.int .i64 x.To),.d (.int .i64 x.Part),.d (.int .i64 x.At),.d (.int .i64 x.Sum),.d (.int .i64 x.Day),.d (.int .i64 x.City),.d (.int .i64 x.Form)])) kw:=rfl
theorem a8.st_own {β:Type} (x:a8) (i v sz off id:Nat) (kw:V->List (Nat × Option aI)->Option β):aP sz off id (.own i v) (some (.box (aQ x.cells))) kw = aP sz off id (.own i v) (some (.box [.d (.int .i64 x.Kind),.d (.int .i64 x.Who),.d (.int .i64 x.To),.d (.int .i64 x.Part),.d (.int .i64 x.At),.d (.int .i64 x.Sum),.d (.int .i64 x.Day),.d (.int .i64 x.City),.d (.int .i64 x.Form)])) kw:=rfl
theorem a8.st_agg {β:Type} (x:a8) (y:List V) (sz off id:Nat) (kw:V->List (Nat × Option aI)->Option β):aP sz off id (.agg y) (some (.box (aQ x.cells))) kw = aP sz off id (.agg y) (some (.box [.d (.int .i64 x.Kind),.d (.int .i64 x.Who),.d (.int .i64 x.To),.d (.int .i64 x.Part),.d (.int .i64 x.At),.d (.int .i64 x.Sum),.d (.int .i64 x.Day),.d (.int .i64 x.City),.d (.int .i64 x.Form)])) kw:=rfl
theorem a8.st_ptr {β:Type} (x:a8) (i v sz off id:Nat) (kw:V->List (Nat × Option aI)->Option β):aP sz off id (.ptr i v) (some (.box (aQ x.cells))) kw = aP sz off id (.ptr i v) (some (.box [.d (.int .i64 x.Kind),.d (.int .i64 x.Who),.d (.int .i64 x.To),.d (.int .i64 x.Part),.d (.int .i64 x.At),.d (.int .i64 x.Sum),.d (.int .i64 x.Day),.d (.int .i64 x.City),.d (.int .i64 x.Form)])) kw:=rfl
theorem a8.part {β:Type} (x:a8) (off id:Nat) (b:Option aI) (kw:V->List (Nat × Option aI)->Option β):aP 9 (off + 1) id (kB x.cells) b kw = aP 9 (off + 1) id (.agg [.d (.int .i64 x.Kind),.d (.int .i64 x.Who),.d (.int .i64 x.To),.d (.int .i64 x.Part),.d (.int .i64 x.At),.d (.int .i64 x.Sum),.d (.int .i64 x.Day),.d (.int .i64 x.City),.d (.int .i64 x.Form)]) b kw:=rfl
theorem a8.put {β:Type} (x:a8) (id:Nat) (cs:List V) (hc:cs.length = 9) (kw:V->List (Nat × Option aI)->Option β):aP 9 0 id (kB x.cells) (some (.box cs)) kw = kw .any [(id,some (.box (aQ x.cells)))]:=nO 9 id _ rfl cs hc
theorem a8.rset {β:Type} (x:a8) (off:Nat) (d:D) (ds:List D) (n:Nat) (k:List D->Option β):bX x.cells off (d :: ds) n k = bX [.int .i64 x.Kind,.int .i64 x.Who,.int .i64 x.To,.int .i64 x.Part,.int .i64 x.At,.int .i64 x.Sum,.int .i64 x.Day,.int .i64 x.City,.int .i64 x.Form] off (d :: ds) n k:=rfl
theorem a8.rfull {β:Type} (x y:a8) (k:List D->Option β):bX x.cells 0 y.cells 9 k = k y.cells:=by unfold bX; exact (if_pos ⟨rfl,Nat.le_refl _⟩).trans rfl
theorem a8.get0 {β:Type} (x:a8) (k:D->Option β):eU x.cells 0 k = k (.int .i64 x.Kind):=rfl
theorem a8.get1 {β:Type} (x:a8) (k:D->Option β):eU x.cells 1 k = k (.int .i64 x.Who):=rfl
theorem a8.get2 {β:Type} (x:a8) (k:D->Option β):eU x.cells 2 k = k (.int .i64 x.To):=rfl
theorem a8.get3 {β:Type} (x:a8) (k:D->Option β):eU x.cells 3 k = k (.int .i64 x.Part):=rfl
theorem a8.get4 {β:Type} (x:a8) (k:D->Option β):eU x.cells 4 k = k (.int .i64 x.At):=rfl
theorem a8.get5 {β:Type} (x:a8) (k:D->Option β):eU x.cells 5 k = k (.int .i64 x.Sum):=rfl
theorem a8.get6 {β:Type} (x:a8) (k:D->Option β):eU x.cells 6 k = k (.int .i64 x.Day):=rfl
theorem a8.get7 {β:Type} (x:a8) (k:D->Option β):eU x.cells 7 k = k (.int .i64 x.City):=rfl
theorem a8.get8 {β:Type} (x:a8) (k:D->Option β):eU x.cells 8 k = k (.int .i64 x.Form):=rfl
theorem a8.sub0_9 {β:Type} (x:a8) (k:List D->Option β):xE x.cells 0 9 k = k x.cells:=rfl
theorem a8.cells_mk (f0 f1 f2 f3 f4 f5 f6 f7 f8:Int):a8.cells (a8.mk f0 f1 f2 f3 f4 f5 f6 f7 f8) = [.int .i64 f0,.int .i64 f1,.int .i64 f2,.int .i64 f3,.int .i64 f4,.int .i64 f5,.int .i64 f6,.int .i64 f7,.int .i64 f8]:=rfl
theorem aPB {β:Type} (x:Int) (k:D->Option β):eU (cI x) 0 k = k (.int .i64 x):=rfl
theorem aMR {β:Type} (x:Int) (off:Nat) (d:D) (ds:List D) (n:Nat) (k:List D->Option β):bX (cI x) off (d :: ds) n k = bX [.int .i64 x] off (d :: ds) n k:=rfl
theorem aMz {β:Type} (x:Int) (y:Option β):rS (cI x) 1 y = y:=rfl
theorem aPw {β:Type} (x:Bool) (k:D->Option β):eU (cB x) 0 k = k (.bool x):=rfl
theorem aLw {β:Type} (x:Bool) (off:Nat) (d:D) (ds:List D) (n:Nat) (k:List D->Option β):bX (cB x) off (d :: ds) n k = bX [.bool x] off (d :: ds) n k:=rfl
theorem aMM {β:Type} (x:Bool) (y:Option β):rS (cB x) 1 y = y:=rfl
theorem aQv {β:Type} (x:ByteArray) (k:D->Option β):eU (cS x) 0 k = k (.str x):=rfl
theorem aLW {β:Type} (x:ByteArray) (off:Nat) (d:D) (ds:List D) (n:Nat) (k:List D->Option β):bX (cS x) off (d :: ds) n k = bX [.str x] off (d :: ds) n k:=rfl
theorem aL9 {β:Type} (x:ByteArray) (y:Option β):rS (cS x) 1 y = y:=rfl
theorem aMo {β:Type} (x0:D) (y:Option β):rS [x0] 1 y = y:=rfl
theorem aOv {β:Type} (x0 x1:D) (y:Option β):rS [x0,x1] 2 y = y:=rfl
theorem aL6 {β:Type} (x0 x1 x2:D) (y:Option β):rS [x0,x1,x2] 3 y = y:=rfl
theorem aN5 {β:Type} (x0 x1 x2 x3 x4 x5:D) (y:Option β):rS [x0,x1,x2,x3,x4,x5] 6 y = y:=rfl
theorem aMW {β:Type} (x0 x1 x2 x3 x4 x5 x6:D) (y:Option β):rS [x0,x1,x2,x3,x4,x5,x6] 7 y = y:=rfl
theorem aLM {β:Type} (x0 x1 x2 x3 x4 x5 x6 x7 x8:D) (y:Option β):rS [x0,x1,x2,x3,x4,x5,x6,x7,x8] 9 y = y:=rfl
theorem aPV {β:Type} (i:IntKind) (x:Int) (k:D->Option β):eU (cK i x) 0 k = k (.int i x):=rfl
theorem aLa {β:Type} (i:IntKind) (x:Int) (off:Nat) (d:D) (ds:List D) (n:Nat) (k:List D->Option β):bX (cK i x) off (d :: ds) n k = bX [.int i x] off (d :: ds) n k:=rfl
theorem aNe {β α:Type} (c:α->List D) (x:List α) (off:Nat) (d:D) (ds:List D) (n:Nat) (k:List D->Option β):bX (cL c x) off (d :: ds) n k = bX [.sl (cM c x)] off (d :: ds) n k:=rfl
theorem aOx {β:Type} (i:IntKind) (x:Int) (y:Option β):rS (cK i x) 1 y = y:=rfl
theorem aQh {β α:Type} (c:α->List D) (x:List α) (k:D->Option β):eU (cL c x) 0 k = k (.sl (cM c x)):=rfl
theorem aLm {β α:Type} (c:α->List D) (x:List α) (y:Option β):rS (cL c x) 1 y = y:=rfl
theorem VI {β:Type} {T:vA} {d:Nat} {fr:List (Nat × V)} {bl:List (Nat × Option aI)} {k:V->Option β} {kw:V->List (Nat × Option aI)->Option β} (l cp:bD):qL T d (.makeSlice 114 3 24 [.int .i64 0,.int .i64 0,.bool false] l cp) fr bl k kw = aY bl d fun b=>fK b (bM fr l fun a=>bM fr cp fun b=>aLy 24 a b fun n=>kw (.own d 0) [(d,some (.rows 0 114 3 (cM aD.cells (List.replicate n (aD.mk 0 0 false)))))]):=aO5 114 3 24 [.int .i64 0,.int .i64 0,.bool false] aD.cells ((aD.mk 0 0 false):aD) rfl l cp
theorem aAH {β:Type} {T:vA} {d:Nat} {fr:List (Nat × V)} {bl:List (Nat × Option aI)} {k:V->Option β} {kw:V->List (Nat × Option aI)->Option β} (l cp:bD):qL T d (.makeSlice 3 1 8 [.int .i64 0] l cp) fr bl k kw = aY bl d fun b=>fK b (bM fr l fun a=>bM fr cp fun b=>aLy 8 a b fun n=>kw (.own d 0) [(d,some (.rows 0 3 1 (cM cI (List.replicate n 0))))]):=aO5 3 1 8 [.int .i64 0] cI (0:Int) rfl l cp
theorem UR {β:Type} (k:List (List D)->Option β):OH 23 [] k = k (cM (cL cI) ([]:List (List Int))):=rfl
theorem OO {β:Type} (a0 a1:List Int) (k:List (List D)->Option β):OH 23 [[.sl (cM cI a0)],[.sl (cM cI a1)]] k = k (cM (cL cI) ([a0,a1]:List (List Int))):=rfl
theorem Q3 {β:Type} (a0:List Int) (k:List (List D)->Option β):OH 23 [[.sl (cM cI a0)]] k = k (cM (cL cI) ([a0]:List (List Int))):=rfl
theorem QG {β:Type} (k:List (List D)->Option β):OH 23 [[.sl []]] k = k (cM (cL cI) ([[]]:List (List Int))):=rfl
theorem XN {β:Type} (k:List (List D)->Option β):OH 3 [] k = k (cM cI ([]:List Int)):=rfl
theorem RM {β:Type} (a0 a1:Int) (k:List (List D)->Option β):OH 3 [[.int .i64 a0],[.int .i64 a1]] k = k (cM cI ([a0,a1]:List Int)):=rfl
theorem N5 {β:Type} (a0 a1 a2 a3:Int) (k:List (List D)->Option β):OH 3 [[.int .i64 a0],[.int .i64 a1],[.int .i64 a2],[.int .i64 a3]] k = k (cM cI ([a0,a1,a2,a3]:List Int)):=rfl
theorem UU {β:Type} (a0:Int) (k:List (List D)->Option β):OH 3 [[.int .i64 a0]] k = k (cM cI ([a0]:List Int)):=rfl
theorem JU {β:Type} (a0_0 a0_1 a0_2 a0_3 a0_4 a0_5 a1_0 a1_1 a1_2 a1_3 a1_4 a1_5:Int) (a1_6:List aJ) (a2_0 a2_1 a2_2 a2_3 a2_4 a2_5 a3_0 a3_1 a3_2 a3_3 a3_4 a3_5:Int) (a3_6:List aJ) (k:List (List D)->Option β):OH 48 [[.int .i64 a0_0,.int .i64 a0_1,.int .i64 a0_2,.int .i64 a0_3,.int .i64 a0_4,.int .i64 a0_5,.sl []],[.int .i64 a1_0,.int .i64 a1_1,.int .i64 a1_2,.int .i64 a1_3,.int .i64 a1_4,.int .i64 a1_5,.sl (cM aJ.cells a1_6)],[.int .i64 a2_0,.int .i64 a2_1,.int .i64 a2_2,.int .i64 a2_3,.int .i64 a2_4,.int .i64 a2_5,.sl []],[.int .i64 a3_0,.int .i64 a3_1,.int .i64 a3_2,.int .i64 a3_3,.int .i64 a3_4,.int .i64 a3_5,.sl (cM aJ.cells a3_6)]] k = k (cM aE.cells ([(aE.mk a0_0 a0_1 a0_2 a0_3 a0_4 a0_5 []),(aE.mk a1_0 a1_1 a1_2 a1_3 a1_4 a1_5 a1_6),(aE.mk a2_0 a2_1 a2_2 a2_3 a2_4 a2_5 []),(aE.mk a3_0 a3_1 a3_2 a3_3 a3_4 a3_5 a3_6)]:List aE)):=rfl
theorem UW {β:Type} (k:List (List D)->Option β):OH 54 [] k = k (cM aF.cells ([]:List aF)):=rfl
theorem RQ {β:Type} (a0_0 a0_1 a0_2:Int) (k:List (List D)->Option β):OH 54 [[.int .i64 a0_0,.int .i64 a0_1,.int .i64 a0_2]] k = k (cM aF.cells ([(aF.mk a0_0 a0_1 a0_2)]:List aF)):=rfl
theorem Q5 {β:Type} (a0:aF) (k:List (List D)->Option β):OH 54 [aF.cells a0] k = k (cM aF.cells ([a0]:List aF)):=rfl
theorem VK {β:Type} (k:List (List D)->Option β):OH 60 [] k = k (cM a8.cells ([]:List a8)):=rfl
theorem RO {β:Type} (a0_0 a0_1 a0_2 a0_3 a0_4 a0_5 a0_6 a0_7 a0_8:Int) (k:List (List D)->Option β):OH 60 [[.int .i64 a0_0,.int .i64 a0_1,.int .i64 a0_2,.int .i64 a0_3,.int .i64 a0_4,.int .i64 a0_5,.int .i64 a0_6,.int .i64 a0_7,.int .i64 a0_8]] k = k (cM a8.cells ([(a8.mk a0_0 a0_1 a0_2 a0_3 a0_4 a0_5 a0_6 a0_7 a0_8)]:List a8)):=rfl
theorem Q9 {β:Type} (a0_0 a0_1:Int) (k:List (List D)->Option β):OH 87 [[.int .i64 a0_0,.int .i64 a0_1]] k = k (cM aJ.cells ([(aJ.mk a0_0 a0_1)]:List aJ)):=rfl
theorem UP {β:Type} (k:List (List D)->Option β):OH 95 [] k = k (cM aC.cells ([]:List aC)):=rfl
theorem RH {β:Type} (a0_0 a0_1 a0_2 a0_3 a0_4:Int) (a0_5:Bool) (k:List (List D)->Option β):OH 95 [[.int .i64 a0_0,.int .i64 a0_1,.int .i64 a0_2,.int .i64 a0_3,.int .i64 a0_4,.bool a0_5]] k = k (cM aC.cells ([(aC.mk a0_0 a0_1 a0_2 a0_3 a0_4 a0_5)]:List aC)):=rfl
theorem RN {β:Type} (a0:aC) (k:List (List D)->Option β):OH 95 [aC.cells a0] k = k (cM aC.cells ([a0]:List aC)):=rfl
theorem T1 {β:Type} (xs:List aD) (i:Nat) (a_0 a_1:Int) (a_2:Bool) (k:List (List D)->Option β):AS 114 (cM aD.cells xs) i [.int .i64 a_0,.int .i64 a_1,.bool a_2] k = k (cM aD.cells (xs.set i (aD.mk a_0 a_1 a_2))):=EU 114 aD.cells xs i (aD.mk a_0 a_1 a_2) k
theorem aAZ {β:Type} (xs:List Int) (i:Nat) (a:Int) (k:List (List D)->Option β):AS 3 (cM cI xs) i [.int .i64 a] k = k (cM cI (xs.set i a)):=EU 3 cI xs i a k
theorem YQ {β:Type} (xs:List aC) (i:Nat) (a_0 a_1 a_2 a_3 a_4:Int) (a_5:Bool) (k:List (List D)->Option β):AS 95 (cM aC.cells xs) i [.int .i64 a_0,.int .i64 a_1,.int .i64 a_2,.int .i64 a_3,.int .i64 a_4,.bool a_5] k = k (cM aC.cells (xs.set i (aC.mk a_0 a_1 a_2 a_3 a_4 a_5))):=EU 95 aC.cells xs i (aC.mk a_0 a_1 a_2 a_3 a_4 a_5) k
/- all rules as one -/
set_option linter.defProp false
def DN:=aN (aN (aN (aN (aN (aN (aN (aN (aN @aPA @aPH) (aN @aQG @aJr)) (aN (aN @aKH @aDJ) (aN @aLh (aN @aMt @aNf)))) (aN (aN (aN @aBy @aG7) (aN @aK2 @aAF)) (aN (aN @XA @aF5) (aN @W9 (aN @aFS @aMc))))) (aN (aN (aN (aN @aPs @aIV) (aN @aHE @aHs)) (aN (aN @aHO @aER) (aN @aAg (aN @aJd @aJg)))) (aN (aN (aN @aBA @aAs) (aN @aAv @aLF)) (aN (aN @aEt @aGl) (aN @aDV (aN @aBC @aE6)))))) (aN (aN (aN (aN (aN @aAo @aJT) (aN @aGR @aBX)) (aN (aN @aA0 @aCa) (aN @aF3 (aN @UJ @ZK)))) (aN (aN (aN @aAr @aK0) (aN @aIT @aGP)) (aN (aN @aE4 @aM4) (aN @aEJ (aN @RF @aGX))))) (aN (aN (aN (aN @TM @RK) (aN @aMA @aFm)) (aN (aN @RS @aGs) (aN @aBG (aN @ZT @W0)))) (aN (aN (aN @aKO @aJO) (aN @aFh @aAQ)) (aN (aN @YO @aFQ) (aN @aLO (aN @aHG @aJp))))))) (aN (aN (aN (aN (aN (aN @aJh @PW) (aN @aLt @aLG)) (aN (aN @aPY @aJ1) (aN @T9 (aN @aFC @aDZ)))) (aN (aN (aN @aIX @aOp) (aN @aNp @YA)) (aN (aN @aGS @aEO) (aN @aCi (aN @aFc @aKC))))) (aN (aN (aN (aN @aDN @aBo) (aN @aN3 @aND)) (aN (aN @aAd @aK5) (aN @aB1 (aN @aKp @aHH)))) (aN (aN (aN @ZP @IX) (aN @aF2 @aH6)) (aN (aN @aEN @aFz) (aN @aMq (aN @aMK @WK)))))) (aN (aN (aN (aN (aN @VX @aEG) (aN @aI2 @aEx)) (aN (aN @aPU @aHT) (aN @aKe (aN @aH4 @aNl)))) (aN (aN (aN @aDw @aDR) (aN @aEX @aE1)) (aN (aN @aGt @aKa) (aN @aKx (aN @aHe @aE9))))) (aN (aN (aN (aN @aFZ @aOn) (aN @aIU @aJX)) (aN (aN @aNT @aIQ) (aN @aPN (aN @aQP @aQq)))) (aN (aN (aN @aJo @aKt) (aN @aIZ @aM0)) (aN (aN @aOe @aMB) (aN @aDY (aN @aAf @aA4)))))))) (aN (aN (aN (aN (aN (aN (aN @aHi @aHx) (aN @aOB @aNd)) (aN (aN @aBw @aGV) (aN @aGh (aN @aJL @aJS)))) (aN (aN (aN @aGm @aIh) (aN @aOa @aMO)) (aN (aN @aLc @aQ4) (aN @aQn (aN @aHk @aJf))))) (aN (aN (aN (aN @aJs @aFk) (aN @aMg @aGB)) (aN (aN @Y1 @aDx) (aN @UL (aN @aLu @aNP)))) (aN (aN (aN @aGW @aHW) (aN @aJV @aJ6)) (aN (aN @aI1 @aI8) (aN @aHd (aN @aKS @aMm)))))) (aN (aN (aN (aN (aN @aMr @aOF) (aN @aPn @aPF)) (aN (aN @aPE @aOR) (aN @aNV (aN @aMF @aNt)))) (aN (aN (aN @aKw @aJ3) (aN @aEs @aGo)) (aN (aN @aIB @aF8) (aN @aDz (aN @aAI @aL7))))) (aN (aN (aN (aN @aQr @aH1) (aN @aLH @aM7)) (aN (aN @aOy @aHS) (aN @RR (aN @aFV @RI)))) (aN (aN (aN @aFt @aF9) (aN @Z2 @PH)) (aN (aN @aKr @WD) (aN @aNb (aN @aLI @aIg))))))) (aN (aN (aN (aN (aN (aN @aBk @aAn) (aN @WP @aAY)) (aN (aN @aCd @VR) (aN @ZR (aN @aD4 @aAj)))) (aN (aN (aN @aCn @Y2) (aN @aFb @aBx)) (aN (aN @aOS @aM8) (aN @aCQ (aN @aE3 @aBE))))) (aN (aN (aN (aN @aAD @aBh) (aN @TS @aGH)) (aN (aN @aIY @aKd) (aN @aN6 (aN @aIH @aHX)))) (aN (aN (aN @aIC @X7) (aN @aLD @aMx)) (aN (aN @WF @aBV) (aN @aBO (aN @aKj @aK4)))))) (aN (aN (aN (aN (aN @aGe @XY) (aN @W2 @XP)) (aN (aN @aLo @aNr) (aN @YM (aN @aLQ @aPr)))) (aN (aN (aN @aNZ @aRm) (aN @aOs @U0)) (aN (aN @YH @WB) (aN @EU (aN @aQH @aQi))))) (aN (aN (aN (aN @aP2 @aNK) (aN @aRz @aSi)) (aN (aN @aRO @aJI) (aN @aJK (aN @aIo @aIu)))) (aN (aN (aN @aJb @aJE) (aN @aJG @aKh)) (aN (aN @aIN @aJa) (aN @aJD (aN @aKW @aL4))))))))) (aN (aN (aN (aN (aN (aN (aN (aN @aIO @aDA) (aN @aFv @aF1)) (aN (aN @aEY @aD1) (aN @aF4 (aN @aFJ @aFo)))) (aN (aN (aN @aFU @aEF) (aN @aOC @aNM)) (aN (aN @aMX @aIz) (aN @aEg (aN @SG @ND))))) (aN (aN (aN (aN @M8 @aNo) (aN @aG1 @aKA)) (aN (aN @aFE @aGg) (aN @aLp (aN @aIc @aCr)))) (aN (aN (aN @ZJ @aMb) (aN @aQX @aP4)) (aN (aN @aGp @aDQ) (aN @aDU (aN @aFj @aBa)))))) (aN (aN (aN (aN (aN @Z9 @aBz) (aN @aBr @aBd)) (aN (aN @aAB @ZW) (aN @aAk (aN @TR @aIx)))) (aN (aN (aN @aAl @aAb) (aN @aFM @aEb)) (aN (aN @aBI @aRl) (aN @aMS (aN @aNu @aKX))))) (aN (aN (aN (aN @aHf @aGi) (aN @aL8 @aNN)) (aN (aN @aFg @D0) (aN @aP5 (aN @aKv @aJy)))) (aN (aN (aN @XQ @aGv) (aN @aPq @VP)) (aN (aN @aFf @aHP) (aN @aKf (aN @aPO @aPS))))))) (aN (aN (aN (aN (aN (aN @aMT @aGQ) (aN @aD2 @ZY)) (aN (aN @aLf @aQu) (aN @aQC (aN @aKm @aQa)))) (aN (aN (aN @aE5 @ZV) (aN @aEq @aAy)) (aN (aN @aNg @aMn) (aN @aMC (aN @aOh @aQT))))) (aN (aN (aN (aN @aIw @aP0) (aN @aIL @Q4)) (aN (aN @RP @QB) (aN @aM6 (aN @aGA @aGy)))) (aN (aN (aN @aEh @aCc) (aN @YP @aFl)) (aN (aN @XO @aBP) (aN @W5 (aN @YK @aBb)))))) (aN (aN (aN (aN (aN @Y4 @aBL) (aN @ZN @aGO)) (aN (aN @aJk @Z3) (aN @aBH (aN @aBZ @aDy)))) (aN (aN (aN @aBK @YX) (aN @aAX @YR)) (aN (aN @RJ @WH) (aN @XD (aN @aPQ @aPX))))) (aN (aN (aN (aN @aPD @aJz) (aN @aHQ @aEe)) (aN (aN @aM1 @aNz) (aN @aQE (aN @aH9 @aD3)))) (aN (aN (aN @aQp @aQS) (aN @aFe @aEP)) (aN (aN @aLk @aH3) (aN @aG2 (aN @aJ7 @aGG)))))))) (aN (aN (aN (aN (aN (aN (aN @aAm @aBm) (aN @aEy @aBU)) (aN (aN @aBj @TY) (aN @U4 (aN @aJC @aP1)))) (aN (aN (aN @aQB @aQ1) (aN @aEE @W7)) (aN (aN @aEA @aEr) (aN @aAM (aN @WL @aQx))))) (aN (aN (aN (aN @aQW @aPu) (aN @aAz @aIP)) (aN (aN @aKg @aIR) (aN @aLP (aN @aHa @WM)))) (aN (aN (aN @aEi @R6) (aN @P8 @aQl)) (aN (aN @aQj @aB4) (aN @aJF (aN @aEp @aEn)))))) (aN (aN (aN (aN (aN @aHD @aEc) (aN @SJ @aAA)) (aN (aN @aCz @aLd) (aN @aKQ (aN @aFB @aF7)))) (aN (aN (aN @aFn @aPv) (aN @aPm @aLT)) (aN (aN @aMl @aHC) (aN @aNa (aN @aNi @aGJ))))) (aN (aN (aN (aN @aIr @aES) (aN @aAp @WU)) (aN (aN @aE7 @aGD) (aN @aAi (aN @aOQ @aIe)))) (aN (aN (aN @aFF @aDF) (aN @XZ @X9)) (aN (aN @aCB @aC8) (aN @aOJ (aN @aHo @aIa))))))) (aN (aN (aN (aN (aN (aN @aJ8 @aIl) (aN @aNs @WZ)) (aN (aN @aL5 @aMJ) (aN @aAJ (aN @aK1 @aGr)))) (aN (aN (aN @ZU @aBp) (aN @aHL @aA5)) (aN (aN @Y3 @Y9) (aN @VD (aN @aJe @aKn))))) (aN (aN (aN (aN @XF @aDK) (aN @aAa @YE)) (aN (aN @aFO @aBs) (aN @UY (aN @aAu @V4)))) (aN (aN (aN @R6 @P8) (aN @aNG @aPR)) (aN (aN @aCh @WY) (aN @aDC (aN @aCm @aHn)))))) (aN (aN (aN (aN (aN @aH2 @aNB) (aN @aGI @aGL)) (aN (aN @aP6 @aQU) (aN @aGa (aN @aGd @aGC)))) (aN (aN (aN @aDB @aKo) (aN @aD6 @VC)) (aN (aN @aA6 @Y6) (aN @aFi (aN @ZM @M5))))) (aN (aN (aN (aN @aG8 @aDD) (aN @aBn @aEo)) (aN (aN @aJv @aLj) (aN @aC7 (aN @aIt @aEz)))) (aN (aN (aN @aEK @aFP) (aN @aHr @aDh)) (aN (aN @aD9 @aMf) (aN @aGU (aN @aFa @aE2)))))))))
def DR:=aN (aN (aN (aN (aN (aN (aN @aJ.size @aJ.eq1) (aN @aJ.eq2 (aN @aJ.lens @aJ.vsets))) (aN (aN @aJ.st_d @aJ.st_nil) (aN @aJ.st_own (aN @aJ.st_agg @aJ.st_ptr)))) (aN (aN (aN @aJ.part @aJ.put) (aN @aJ.rset (aN @aJ.rfull @aJ.get0))) (aN (aN @aJ.get1 @aJ.sub0_2) (aN @aE.size (aN @aE.eq1 @aE.eq2))))) (aN (aN (aN (aN @aE.lens @aE.vsets) (aN @aE.st_d (aN @aE.st_nil @aE.st_own))) (aN (aN @aE.st_agg @aE.st_ptr) (aN @aE.part (aN @aE.put @aE.rset)))) (aN (aN (aN @aE.rfull @aE.get0) (aN @aE.get1 (aN @aE.get2 @aE.get3))) (aN (aN @aE.get4 (aN @aE.get5 @aE.get6)) (aN @aE.sub0_7 (aN @aF.size @aF.eq1)))))) (aN (aN (aN (aN (aN @aF.eq2 @aF.lens) (aN @aF.vsets (aN @aF.st_d @aF.st_nil))) (aN (aN @aF.st_own @aF.st_agg) (aN @aF.st_ptr (aN @aF.part @aF.put)))) (aN (aN (aN @aF.rset @aF.rfull) (aN @aF.get0 (aN @aF.get1 @aF.get2))) (aN (aN @aF.sub0_3 @aC.size) (aN @aC.eq1 (aN @aC.eq2 @aC.lens))))) (aN (aN (aN (aN @aC.vsets @aC.st_d) (aN @aC.st_nil (aN @aC.st_own @aC.st_agg))) (aN (aN @aC.st_ptr @aC.part) (aN @aC.put (aN @aC.rset @aC.rfull)))) (aN (aN (aN @aC.get0 @aC.get1) (aN @aC.get2 (aN @aC.get3 @aC.get4))) (aN (aN @aC.get5 (aN @aC.sub0_6 @aD.size)) (aN @aD.eq1 (aN @aD.eq2 @aD.lens))))))) (aN (aN (aN (aN (aN (aN @aD.vsets @aD.st_d) (aN @aD.st_nil (aN @aD.st_own @aD.st_agg))) (aN (aN @aD.st_ptr @aD.part) (aN @aD.put (aN @aD.rset @aD.rfull)))) (aN (aN (aN @aD.get0 @aD.get1) (aN @aD.get2 (aN @aD.sub0_3 @a8.size))) (aN (aN @a8.eq1 @a8.eq2) (aN @a8.lens (aN @a8.vsets @a8.st_d))))) (aN (aN (aN (aN @a8.st_nil @a8.st_own) (aN @a8.st_agg (aN @a8.st_ptr @a8.part))) (aN (aN @a8.put @a8.rset) (aN @a8.rfull (aN @a8.get0 @a8.get1)))) (aN (aN (aN @a8.get2 @a8.get3) (aN @a8.get4 (aN @a8.get5 @a8.get6))) (aN (aN @a8.get7 (aN @a8.get8 @a8.sub0_9)) (aN @aPB (aN @aMR @aMz)))))) (aN (aN (aN (aN (aN @aPw @aLw) (aN @aMM (aN @aQv @aLW))) (aN (aN @aL9 @aMo) (aN @aOv (aN @aL6 @aN5)))) (aN (aN (aN @aMW @aLM) (aN @aPV (aN @aLa @aNe))) (aN (aN @aOx @aQh) (aN @aLm (aN @VI @aAH))))) (aN (aN (aN (aN @UR @OO) (aN @Q3 (aN @QG @XN))) (aN (aN @RM @N5) (aN @UU (aN @JU @UW)))) (aN (aN (aN @RQ @Q5) (aN @VK (aN @RO @Q9))) (aN (aN @UP (aN @RH @RN)) (aN @T1 (aN @aAZ @YQ)))))))
def DQ:=aN (aN (aN (aN @aJ.len @aE.len) (aN @aF.len @aC.len)) (aN (aN @aD.len @a8.len) (aN @aJ.cells_mk (aN @aE.cells_mk @aF.cells_mk)))) (aN (aN (aN @aC.cells_mk @aD.cells_mk) (aN @a8.cells_mk @aJ.sized)) (aN (aN @aE.sized @aF.sized) (aN @aC.sized (aN @aD.sized @a8.sized))))
def DP:=aN @Option.some.injEq (aN @Bool.and_true @List.cons_ne_nil)
theorem bLc {α:Type} (a:α) (l:List α):(a :: l).length = l.length + 1:=rfl
theorem bLn {α:Type}:([]:List α).length = 0:=rfl
theorem bIt {α:Type} {d:Decidable True} (a b:α):@ite α True d a b = a:=if_pos trivial
theorem bIf {α:Type} {d:Decidable False} (a b:α):@ite α False d a b = b:=if_neg id
theorem bRs {α:Type} (n:Nat) (a:α):List.replicate (n + 1) a = a :: List.replicate n a:=rfl
theorem bRz {α:Type} (a:α):List.replicate 0 a = []:=rfl
theorem bBs {α γ:Type} (a:α) (f:α->Option γ):(some a).bind f = f a:=rfl
theorem bMs {α γ:Type} (a:α) (f:α->γ):(some a).map f = some (f a):=rfl
theorem bMn {α γ:Type} (f:α->γ):(none:Option α).map f = none:=rfl
theorem bEl {α γ δ:Type} (f:α->δ) (g:γ->δ) (x:α):Sum.elim f g (.inl x) = f x:=rfl
theorem bEr {α γ δ:Type} (f:α->δ) (g:γ->δ) (x:γ):Sum.elim f g (.inr x) = g x:=rfl
theorem bBb {α γ δ:Type} (o:Option α) (f:α->Option γ) (g:γ->Option δ):(o.bind f).bind g = o.bind fun x=>(f x).bind g:=by cases o <;> rfl
def DS:=aN (aN (aN (aN (aN @bLc @bLn) (aN @uK @Bool.not_true)) (aN (aN @Bool.not_false @bIt) (aN @bIf @bRs))) (aN (aN (aN @bRz @aB2) (aN @bBs @aDH)) (aN (aN @bMs @bMn) (aN @bEl @bEr)))) (aN (aN (aN (aN @aJj @WQ) (aN @aKs @aIK)) (aN (aN @aKF @aB7) (aN @aDG @aEu))) (aN (aN (aN @ZL @aFL) (aN @aAw @aJM)) (aN (aN @aNJ @Vm.bind_map) (aN @aGn (aN @aHv @bBb)))))
abbrev KF (T:vA) (f:Nat) (ds:List D) {α:Type} (o:Option α) (v:α->V):Prop:=∀ {β:Type} (d:Nat) (bl fz:List (Nat × Option aI)) (k:V->Option β) (kw:V->List (Nat × Option aI)->Option β),wC T d bl f ds fz k kw = o.bind fun r=>k (v r)
abbrev KD (T:vA) (f:Nat) (ds:List D) {α:Type} (o:Option α) (v:α->V):Prop:=∀ {β:Type} (d:Nat) (bl fz:List (Nat × Option aI)) (k:V->Option β) (kw:V->List (Nat × Option aI)->Option β),wC T d bl f ds fz k kw = o.bind fun r=>fzK fz (v r) k kw
theorem kF {T:vA} {α:Type} {f:Nat} {ds:List D} {o:Option α} {enc:α->D} {v:α->V} (h:Vm.call T f ds = o.map enc) (hf:∀ x,GM (enc x) = true) (hv:∀ x,toV (enc x) = v x):KF T f ds o v:=fun d bl fz k kw=>by
 rw [aA9 h hf fz]
 exact congrArg _ (funext fun x=>congrArg k (hv x))
theorem kD {T:vA} {α:Type} {f:Nat} {ds:List D} {o:Option α} {enc:α->D} {v:α->V} (h:Vm.call T f ds = o.map enc) (hf:∀ x,GM (enc x) = false) (hc:∀ x,(enc x).calm = true) (hv:∀ x,toV (enc x) = v x):KD T f ds o v:=fun d bl fz k kw=>by
 rw [aBl h hf hc fz]
 exact congrArg _ (funext fun x=>congrArg (fun y=>fzK fz y k kw) (hv x))
theorem IU {p:Prop} (h:p:=by
  simp -implicitDefEqProofs (decide:=true) (maxSteps:=2000000) only [↓DN,↓DR,DQ,DP,↓reduceIte,Int.reduceToNat,Nat.reduceBEq,Nat.reduceAdd,Nat.reduceLT,Nat.reduceLeDiff,Nat.reduceEqDiff,Int.reduceEq,ne_eq,not_false_eq_true,reduceCtorEq,AM,K8,KP,beq_self_eq_true,DS]
  all_goals try simp only [aI4]
  all_goals try rfl):p:=h
theorem pX {p:Prop} (h:p:=by
  simp -implicitDefEqProofs (decide:=true) (maxSteps:=2000000) only [↓u,↓DN,↓DR,DQ,DP,↓reduceIte,Int.reduceToNat,Nat.reduceBEq,Nat.reduceAdd,Nat.reduceLT,Nat.reduceLeDiff,Nat.reduceEqDiff,Int.reduceEq,ne_eq,not_false_eq_true,reduceCtorEq,AM,K8,KP,beq_self_eq_true,DS]
  all_goals try simp only [aI4]
  all_goals try rfl):p:=h
end Go.Proofs.Ytgjcnbgfaimepaa
