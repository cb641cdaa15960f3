/- slices.Concat. -/
import Derived.Test.YtoefdnkjcfoccaaDoorVmF
namespace Go.Proofs.YtoefdnkjcfoccaaDoor
namespace Vm
open Go.RowKit
def isI:List D->Bool
 | [.int .i64 _]=>true
 | _=>false
def aB5:List (List D)->Option (List (List D))
 | []=>some []
 | row :: rest=>match row with
  | [.sl r]=>if r.all isI = true then (aB5 rest).map (r ++ ·) else none
  | _=>none
def aPf:List D->Option D
 | [.sl rows]=>match aB5 rows with
  | some r=>if r.length * 8 <= 140737488355328 ∧ rows.length <= 4611686018427387904 then some (.sl r) else none
  | none=>none
 | _=>none
def aPH (xs:List (List Int)):Option (List Int):=if xs.flatten.length * 8 <= 140737488355328 ∧ xs.length <= 4611686018427387904 then some xs.flatten else none
theorem aEK:∀ xs:List Int,(cM cI xs).all isI = true
 | []=>rfl
 | x :: xs=>aEK xs
theorem aEI:∀ xs:List (List Int),aB5 (cM (cL cI) xs) = some (cM cI xs.flatten)
 | []=>rfl
 | x :: xs=>by
  show (if (cM cI x).all isI = true then (aB5 (cM (cL cI) xs)).map (cM cI x ++ ·) else none) = _
  rw [Â (aEK x),aEI xs]
  show some (cM cI x ++ cM cI xs.flatten) = _
  rw [List.flatten_cons]
  unfold cM
  rw [Ă]
theorem aFe (xs:List (List Int)):aPf [.sl (cM (cL cI) xs)] = (aPH xs).map fun r=>.sl (cM cI r):=by
 show (match aB5 (cM (cL cI) xs) with | some r=>_ | none=>_) = _
 rw [aEI]
 unfold aPH
 show (if (cM cI xs.flatten).length * 8 <= _ ∧ (cM (cL cI) xs).length <= _ then _ else _) = _
 rw [show (cM cI xs.flatten).length = xs.flatten.length from â ..,show (cM (cL cI) xs).length = xs.length from â ..]
 split <;> rfl
end Vm
end Go.Proofs.YtoefdnkjcfoccaaDoor
