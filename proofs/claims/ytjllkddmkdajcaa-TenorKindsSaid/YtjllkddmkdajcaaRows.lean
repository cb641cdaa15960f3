/-
  NARROWER THAN 'FOR EVERY INPUT', by the rows' own cells (each row's printed sentence says how): RefuseStays: loops · RefuseOnce: loops · TenorTells: loops · TenorLater: loops · TenorHalts: loops · TenorKinds: loops · RefuseTells: loops · RefuseNames: loops · TenorFirst: loops · RefuseDays: loops.
  DERIVED. THE GIVEN ROWS OF THIS SEAT. 10 by the template 'for every input the law returns true; each argument reads behind the call as it read before'; 0 by the template 'total and deterministic' (their statements: YtjllkddmkdajcaaTotals.lean).
  GIVEN WITH THE SEED: the statements are not yours to turn. If you find one false, say at which input.
  Laid BY PROGRAM, IN A SANDBOX (cutbox-rows.mjs): the forced cells as the released guide's own fill.sh prints them over the translation 2ac26f3cbba9b63f… (all of the seat's roots in one cut). By AI agents, Wed Nov 11 2026. No macro, syntax, notation, axiom, sorry.
-/
import Derived.Test.YtjllkddmkdajcaaChecked
import GoSem.Claim
import GoSem.ClaimJoined
import GoSem.ClaimMapViews
import Derived.JoinedTies
import Derived.KernelRfl
namespace Go.Proofs.Ytjllkddmkdajcaa
/- THE CELL 'sum', in the pinned program and in every row, IS THE sha256 OF THE DUMP (.gsa) THAT YtjllkddmkdajcaaProg.lean LOADS. Nothing in Lean hashes anything: it is a label: what it is worth is what the hold of that sum in a sandbox is worth. -/
noncomputable def Try.pinned : Pinned := { name := "ytjllkddmkdajcaa", sum := "2ac26f3cbba9b63f5e54f9843c6ddb9e883c8c54649c66ac7b2433c7c5fd3b8d", checked := Try.checked }
namespace Rows
def none {H : Type} : Left H := { results := [], args := [] }

/-- 'allongelaw36.RefuseStays': WHATEVER THE INPUT: true; the input reads as it did. -/
def refuseStaysSpec : ChangeSpec := { name := "refuseStays", fn := fun _ => fun
  | [d1, d2, d3, d4] => { results := [.lit (.bool true)], args := [d1, d2, d3, d4] }
  | _ => none }
def refuseStaysRow : OpenClaim := { program := "ytjllkddmkdajcaa", sum := "2ac26f3cbba9b63f5e54f9843c6ddb9e883c8c54649c66ac7b2433c7c5fd3b8d", func := "allonge/allongelaw36.RefuseStays", spec := "refuseStays", unfollowed := true, recurses := true, loops := true, apart := false }
def RefuseStaysSaid : Prop := refuseStaysRow.holds Try.pinned (OpenSpec.ofChange refuseStaysSpec)

/-- ITS FALSE NEIGHBOUR: 'it returns false'. Refute it at one input. -/
def refuseStaysWrong : ChangeSpec := { name := "refuseStays", fn := fun _ => fun
  | [d1, d2, d3, d4] => { results := [.lit (.bool false)], args := [d1, d2, d3, d4] }
  | _ => none }
def RefuseStaysWrongFalsely : Prop := refuseStaysRow.holds Try.pinned (OpenSpec.ofChange refuseStaysWrong)

/-- 'allongelaw36.RefuseOnce': WHATEVER THE INPUT: true; the input reads as it did. -/
def refuseOnceSpec : ChangeSpec := { name := "refuseOnce", fn := fun _ => fun
  | [d1, d2, d3] => { results := [.lit (.bool true)], args := [d1, d2, d3] }
  | _ => none }
def refuseOnceRow : OpenClaim := { program := "ytjllkddmkdajcaa", sum := "2ac26f3cbba9b63f5e54f9843c6ddb9e883c8c54649c66ac7b2433c7c5fd3b8d", func := "allonge/allongelaw36.RefuseOnce", spec := "refuseOnce", unfollowed := true, recurses := true, loops := true, apart := false }
def RefuseOnceSaid : Prop := refuseOnceRow.holds Try.pinned (OpenSpec.ofChange refuseOnceSpec)

/-- ITS FALSE NEIGHBOUR: 'it returns false'. Refute it at one input. -/
def refuseOnceWrong : ChangeSpec := { name := "refuseOnce", fn := fun _ => fun
  | [d1, d2, d3] => { results := [.lit (.bool false)], args := [d1, d2, d3] }
  | _ => none }
def RefuseOnceWrongFalsely : Prop := refuseOnceRow.holds Try.pinned (OpenSpec.ofChange refuseOnceWrong)

/-- 'allongelaw11.TenorTells': WHATEVER THE INPUT: true; the input reads as it did. -/
def tenorTellsSpec : ChangeSpec := { name := "tenorTells", fn := fun _ => fun
  | [d1, d2, d3, d4, d5, d6] => { results := [.lit (.bool true)], args := [d1, d2, d3, d4, d5, d6] }
  | _ => none }
def tenorTellsRow : OpenClaim := { program := "ytjllkddmkdajcaa", sum := "2ac26f3cbba9b63f5e54f9843c6ddb9e883c8c54649c66ac7b2433c7c5fd3b8d", func := "allonge/allongelaw11.TenorTells", spec := "tenorTells", unfollowed := true, recurses := true, loops := true, apart := false }
def TenorTellsSaid : Prop := tenorTellsRow.holds Try.pinned (OpenSpec.ofChange tenorTellsSpec)

/-- ITS FALSE NEIGHBOUR: 'it returns false'. Refute it at one input. -/
def tenorTellsWrong : ChangeSpec := { name := "tenorTells", fn := fun _ => fun
  | [d1, d2, d3, d4, d5, d6] => { results := [.lit (.bool false)], args := [d1, d2, d3, d4, d5, d6] }
  | _ => none }
def TenorTellsWrongFalsely : Prop := tenorTellsRow.holds Try.pinned (OpenSpec.ofChange tenorTellsWrong)

/-- 'allongelaw11.TenorLater': WHATEVER THE INPUT: true; the input reads as it did. -/
def tenorLaterSpec : ChangeSpec := { name := "tenorLater", fn := fun _ => fun
  | [d1, d2, d3, d4] => { results := [.lit (.bool true)], args := [d1, d2, d3, d4] }
  | _ => none }
def tenorLaterRow : OpenClaim := { program := "ytjllkddmkdajcaa", sum := "2ac26f3cbba9b63f5e54f9843c6ddb9e883c8c54649c66ac7b2433c7c5fd3b8d", func := "allonge/allongelaw11.TenorLater", spec := "tenorLater", unfollowed := true, recurses := true, loops := true, apart := false }
def TenorLaterSaid : Prop := tenorLaterRow.holds Try.pinned (OpenSpec.ofChange tenorLaterSpec)

/-- ITS FALSE NEIGHBOUR: 'it returns false'. Refute it at one input. -/
def tenorLaterWrong : ChangeSpec := { name := "tenorLater", fn := fun _ => fun
  | [d1, d2, d3, d4] => { results := [.lit (.bool false)], args := [d1, d2, d3, d4] }
  | _ => none }
def TenorLaterWrongFalsely : Prop := tenorLaterRow.holds Try.pinned (OpenSpec.ofChange tenorLaterWrong)

/-- 'allongelaw11.TenorHalts': WHATEVER THE INPUT: true; the input reads as it did. -/
def tenorHaltsSpec : ChangeSpec := { name := "tenorHalts", fn := fun _ => fun
  | [d1, d2, d3, d4, d5, d6] => { results := [.lit (.bool true)], args := [d1, d2, d3, d4, d5, d6] }
  | _ => none }
def tenorHaltsRow : OpenClaim := { program := "ytjllkddmkdajcaa", sum := "2ac26f3cbba9b63f5e54f9843c6ddb9e883c8c54649c66ac7b2433c7c5fd3b8d", func := "allonge/allongelaw11.TenorHalts", spec := "tenorHalts", unfollowed := true, recurses := true, loops := true, apart := false }
def TenorHaltsSaid : Prop := tenorHaltsRow.holds Try.pinned (OpenSpec.ofChange tenorHaltsSpec)

/-- ITS FALSE NEIGHBOUR: 'it returns false'. Refute it at one input. -/
def tenorHaltsWrong : ChangeSpec := { name := "tenorHalts", fn := fun _ => fun
  | [d1, d2, d3, d4, d5, d6] => { results := [.lit (.bool false)], args := [d1, d2, d3, d4, d5, d6] }
  | _ => none }
def TenorHaltsWrongFalsely : Prop := tenorHaltsRow.holds Try.pinned (OpenSpec.ofChange tenorHaltsWrong)

/-- 'allongelaw11.TenorKinds': WHATEVER THE INPUT: true; the input reads as it did. -/
def tenorKindsSpec : ChangeSpec := { name := "tenorKinds", fn := fun _ => fun
  | [d1, d2, d3, d4, d5] => { results := [.lit (.bool true)], args := [d1, d2, d3, d4, d5] }
  | _ => none }
def tenorKindsRow : OpenClaim := { program := "ytjllkddmkdajcaa", sum := "2ac26f3cbba9b63f5e54f9843c6ddb9e883c8c54649c66ac7b2433c7c5fd3b8d", func := "allonge/allongelaw11.TenorKinds", spec := "tenorKinds", unfollowed := true, recurses := true, loops := true, apart := false }
def TenorKindsSaid : Prop := tenorKindsRow.holds Try.pinned (OpenSpec.ofChange tenorKindsSpec)

/-- ITS FALSE NEIGHBOUR: 'it returns false'. Refute it at one input. -/
def tenorKindsWrong : ChangeSpec := { name := "tenorKinds", fn := fun _ => fun
  | [d1, d2, d3, d4, d5] => { results := [.lit (.bool false)], args := [d1, d2, d3, d4, d5] }
  | _ => none }
def TenorKindsWrongFalsely : Prop := tenorKindsRow.holds Try.pinned (OpenSpec.ofChange tenorKindsWrong)

/-- 'allongelaw36.RefuseTells': WHATEVER THE INPUT: true; the input reads as it did. -/
def refuseTellsSpec : ChangeSpec := { name := "refuseTells", fn := fun _ => fun
  | [d1, d2, d3] => { results := [.lit (.bool true)], args := [d1, d2, d3] }
  | _ => none }
def refuseTellsRow : OpenClaim := { program := "ytjllkddmkdajcaa", sum := "2ac26f3cbba9b63f5e54f9843c6ddb9e883c8c54649c66ac7b2433c7c5fd3b8d", func := "allonge/allongelaw36.RefuseTells", spec := "refuseTells", unfollowed := true, recurses := true, loops := true, apart := false }
def RefuseTellsSaid : Prop := refuseTellsRow.holds Try.pinned (OpenSpec.ofChange refuseTellsSpec)

/-- ITS FALSE NEIGHBOUR: 'it returns false'. Refute it at one input. -/
def refuseTellsWrong : ChangeSpec := { name := "refuseTells", fn := fun _ => fun
  | [d1, d2, d3] => { results := [.lit (.bool false)], args := [d1, d2, d3] }
  | _ => none }
def RefuseTellsWrongFalsely : Prop := refuseTellsRow.holds Try.pinned (OpenSpec.ofChange refuseTellsWrong)

/-- 'allongelaw36.RefuseNames': WHATEVER THE INPUT: true; the input reads as it did. -/
def refuseNamesSpec : ChangeSpec := { name := "refuseNames", fn := fun _ => fun
  | [d1, d2, d3, d4, d5] => { results := [.lit (.bool true)], args := [d1, d2, d3, d4, d5] }
  | _ => none }
def refuseNamesRow : OpenClaim := { program := "ytjllkddmkdajcaa", sum := "2ac26f3cbba9b63f5e54f9843c6ddb9e883c8c54649c66ac7b2433c7c5fd3b8d", func := "allonge/allongelaw36.RefuseNames", spec := "refuseNames", unfollowed := true, recurses := true, loops := true, apart := false }
def RefuseNamesSaid : Prop := refuseNamesRow.holds Try.pinned (OpenSpec.ofChange refuseNamesSpec)

/-- ITS FALSE NEIGHBOUR: 'it returns false'. Refute it at one input. -/
def refuseNamesWrong : ChangeSpec := { name := "refuseNames", fn := fun _ => fun
  | [d1, d2, d3, d4, d5] => { results := [.lit (.bool false)], args := [d1, d2, d3, d4, d5] }
  | _ => none }
def RefuseNamesWrongFalsely : Prop := refuseNamesRow.holds Try.pinned (OpenSpec.ofChange refuseNamesWrong)

/-- 'allongelaw11.TenorFirst': WHATEVER THE INPUT: true; the input reads as it did. -/
def tenorFirstSpec : ChangeSpec := { name := "tenorFirst", fn := fun _ => fun
  | [d1, d2, d3, d4] => { results := [.lit (.bool true)], args := [d1, d2, d3, d4] }
  | _ => none }
def tenorFirstRow : OpenClaim := { program := "ytjllkddmkdajcaa", sum := "2ac26f3cbba9b63f5e54f9843c6ddb9e883c8c54649c66ac7b2433c7c5fd3b8d", func := "allonge/allongelaw11.TenorFirst", spec := "tenorFirst", unfollowed := true, recurses := true, loops := true, apart := false }
def TenorFirstSaid : Prop := tenorFirstRow.holds Try.pinned (OpenSpec.ofChange tenorFirstSpec)

/-- ITS FALSE NEIGHBOUR: 'it returns false'. Refute it at one input. -/
def tenorFirstWrong : ChangeSpec := { name := "tenorFirst", fn := fun _ => fun
  | [d1, d2, d3, d4] => { results := [.lit (.bool false)], args := [d1, d2, d3, d4] }
  | _ => none }
def TenorFirstWrongFalsely : Prop := tenorFirstRow.holds Try.pinned (OpenSpec.ofChange tenorFirstWrong)

/-- 'allongelaw36.RefuseDays': WHATEVER THE INPUT: true; the input reads as it did. -/
def refuseDaysSpec : ChangeSpec := { name := "refuseDays", fn := fun _ => fun
  | [d1, d2] => { results := [.lit (.bool true)], args := [d1, d2] }
  | _ => none }
def refuseDaysRow : OpenClaim := { program := "ytjllkddmkdajcaa", sum := "2ac26f3cbba9b63f5e54f9843c6ddb9e883c8c54649c66ac7b2433c7c5fd3b8d", func := "allonge/allongelaw36.RefuseDays", spec := "refuseDays", unfollowed := true, recurses := true, loops := true, apart := false }
def RefuseDaysSaid : Prop := refuseDaysRow.holds Try.pinned (OpenSpec.ofChange refuseDaysSpec)

/-- ITS FALSE NEIGHBOUR: 'it returns false'. Refute it at one input. -/
def refuseDaysWrong : ChangeSpec := { name := "refuseDays", fn := fun _ => fun
  | [d1, d2] => { results := [.lit (.bool false)], args := [d1, d2] }
  | _ => none }
def RefuseDaysWrongFalsely : Prop := refuseDaysRow.holds Try.pinned (OpenSpec.ofChange refuseDaysWrong)

/- THE SECOND FORM. 'bulk': how many values and letters a reading holds, each counted each time it is reached (what is shared counts as often as it is met; a slice's spare places count too). A statement '..UptoSaid' is the law's where the arguments, and the package variables that the reading takes, are together of bulk at most 1048576: NARROWER than '..Said'. Prove '..Said' where nothing that the law and all that it calls make is longer than what came in: it says more and counts as full. Else prove '..UptoSaid'. A law counts once. -/
mutual
def uptoBulk {H : Type} : DataW H → Nat
  | .lit (.string bytes) => bytes.length + 1
  | .lit _ => 1
  | .nil => 1
  | .ptr d => uptoBulk d + 1
  | .slice elems spare => uptoBulkAll elems + uptoBulkAll spare + 1
  | .agg parts => uptoBulkAll parts + 1
  | .iface _ d => uptoBulk d + 1
  | .map entries => uptoBulkEntries entries + 1
  | .held _ => 1
def uptoBulkAll {H : Type} : List (DataW H) → Nat
  | [] => 0
  | d :: r => uptoBulk d + uptoBulkAll r
def uptoBulkEntries {H : Type} : List (Lit × DataW H) → Nat
  | [] => 0
  | x :: r => uptoBulkEntry x + uptoBulkEntries r
def uptoBulkEntry {H : Type} : Lit × DataW H → Nat
  | (.string bytes, d) => bytes.length + uptoBulk d + 1
  | (_, d) => uptoBulk d + 1
 end
def uptoSmall : (H : Type) → List (DataW H) → Bool := fun _ ds => decide (uptoBulkAll ds ≤ 1048576)
def OpenSpec.upto (s : _root_.Go.ChangeSpec) : _root_.Go.OpenSpec := { _root_.Go.OpenSpec.ofChange s with cond := some uptoSmall }

/-- 'allongelaw36.RefuseStays', WHERE WHAT IT READS IS OF BULK AT MOST 1048576: true; the input reads as it did. -/
def refuseStaysUptoRow : OpenClaim := { program := "ytjllkddmkdajcaa", sum := "2ac26f3cbba9b63f5e54f9843c6ddb9e883c8c54649c66ac7b2433c7c5fd3b8d", func := "allonge/allongelaw36.RefuseStays", spec := "refuseStays", unfollowed := true, recurses := true, loops := true, apart := false, narrowed := true }
def RefuseStaysUptoSaid : Prop := refuseStaysUptoRow.holds Try.pinned (OpenSpec.upto refuseStaysSpec)

/-- 'allongelaw36.RefuseOnce', WHERE WHAT IT READS IS OF BULK AT MOST 1048576: true; the input reads as it did. -/
def refuseOnceUptoRow : OpenClaim := { program := "ytjllkddmkdajcaa", sum := "2ac26f3cbba9b63f5e54f9843c6ddb9e883c8c54649c66ac7b2433c7c5fd3b8d", func := "allonge/allongelaw36.RefuseOnce", spec := "refuseOnce", unfollowed := true, recurses := true, loops := true, apart := false, narrowed := true }
def RefuseOnceUptoSaid : Prop := refuseOnceUptoRow.holds Try.pinned (OpenSpec.upto refuseOnceSpec)

/-- 'allongelaw11.TenorTells', WHERE WHAT IT READS IS OF BULK AT MOST 1048576: true; the input reads as it did. -/
def tenorTellsUptoRow : OpenClaim := { program := "ytjllkddmkdajcaa", sum := "2ac26f3cbba9b63f5e54f9843c6ddb9e883c8c54649c66ac7b2433c7c5fd3b8d", func := "allonge/allongelaw11.TenorTells", spec := "tenorTells", unfollowed := true, recurses := true, loops := true, apart := false, narrowed := true }
def TenorTellsUptoSaid : Prop := tenorTellsUptoRow.holds Try.pinned (OpenSpec.upto tenorTellsSpec)

/-- 'allongelaw11.TenorLater', WHERE WHAT IT READS IS OF BULK AT MOST 1048576: true; the input reads as it did. -/
def tenorLaterUptoRow : OpenClaim := { program := "ytjllkddmkdajcaa", sum := "2ac26f3cbba9b63f5e54f9843c6ddb9e883c8c54649c66ac7b2433c7c5fd3b8d", func := "allonge/allongelaw11.TenorLater", spec := "tenorLater", unfollowed := true, recurses := true, loops := true, apart := false, narrowed := true }
def TenorLaterUptoSaid : Prop := tenorLaterUptoRow.holds Try.pinned (OpenSpec.upto tenorLaterSpec)

/-- 'allongelaw11.TenorHalts', WHERE WHAT IT READS IS OF BULK AT MOST 1048576: true; the input reads as it did. -/
def tenorHaltsUptoRow : OpenClaim := { program := "ytjllkddmkdajcaa", sum := "2ac26f3cbba9b63f5e54f9843c6ddb9e883c8c54649c66ac7b2433c7c5fd3b8d", func := "allonge/allongelaw11.TenorHalts", spec := "tenorHalts", unfollowed := true, recurses := true, loops := true, apart := false, narrowed := true }
def TenorHaltsUptoSaid : Prop := tenorHaltsUptoRow.holds Try.pinned (OpenSpec.upto tenorHaltsSpec)

/-- 'allongelaw11.TenorKinds', WHERE WHAT IT READS IS OF BULK AT MOST 1048576: true; the input reads as it did. -/
def tenorKindsUptoRow : OpenClaim := { program := "ytjllkddmkdajcaa", sum := "2ac26f3cbba9b63f5e54f9843c6ddb9e883c8c54649c66ac7b2433c7c5fd3b8d", func := "allonge/allongelaw11.TenorKinds", spec := "tenorKinds", unfollowed := true, recurses := true, loops := true, apart := false, narrowed := true }
def TenorKindsUptoSaid : Prop := tenorKindsUptoRow.holds Try.pinned (OpenSpec.upto tenorKindsSpec)

/-- 'allongelaw36.RefuseTells', WHERE WHAT IT READS IS OF BULK AT MOST 1048576: true; the input reads as it did. -/
def refuseTellsUptoRow : OpenClaim := { program := "ytjllkddmkdajcaa", sum := "2ac26f3cbba9b63f5e54f9843c6ddb9e883c8c54649c66ac7b2433c7c5fd3b8d", func := "allonge/allongelaw36.RefuseTells", spec := "refuseTells", unfollowed := true, recurses := true, loops := true, apart := false, narrowed := true }
def RefuseTellsUptoSaid : Prop := refuseTellsUptoRow.holds Try.pinned (OpenSpec.upto refuseTellsSpec)

/-- 'allongelaw36.RefuseNames', WHERE WHAT IT READS IS OF BULK AT MOST 1048576: true; the input reads as it did. -/
def refuseNamesUptoRow : OpenClaim := { program := "ytjllkddmkdajcaa", sum := "2ac26f3cbba9b63f5e54f9843c6ddb9e883c8c54649c66ac7b2433c7c5fd3b8d", func := "allonge/allongelaw36.RefuseNames", spec := "refuseNames", unfollowed := true, recurses := true, loops := true, apart := false, narrowed := true }
def RefuseNamesUptoSaid : Prop := refuseNamesUptoRow.holds Try.pinned (OpenSpec.upto refuseNamesSpec)

/-- 'allongelaw11.TenorFirst', WHERE WHAT IT READS IS OF BULK AT MOST 1048576: true; the input reads as it did. -/
def tenorFirstUptoRow : OpenClaim := { program := "ytjllkddmkdajcaa", sum := "2ac26f3cbba9b63f5e54f9843c6ddb9e883c8c54649c66ac7b2433c7c5fd3b8d", func := "allonge/allongelaw11.TenorFirst", spec := "tenorFirst", unfollowed := true, recurses := true, loops := true, apart := false, narrowed := true }
def TenorFirstUptoSaid : Prop := tenorFirstUptoRow.holds Try.pinned (OpenSpec.upto tenorFirstSpec)

/-- 'allongelaw36.RefuseDays', WHERE WHAT IT READS IS OF BULK AT MOST 1048576: true; the input reads as it did. -/
def refuseDaysUptoRow : OpenClaim := { program := "ytjllkddmkdajcaa", sum := "2ac26f3cbba9b63f5e54f9843c6ddb9e883c8c54649c66ac7b2433c7c5fd3b8d", func := "allonge/allongelaw36.RefuseDays", spec := "refuseDays", unfollowed := true, recurses := true, loops := true, apart := false, narrowed := true }
def RefuseDaysUptoSaid : Prop := refuseDaysUptoRow.holds Try.pinned (OpenSpec.upto refuseDaysSpec)

end Rows
end Go.Proofs.Ytjllkddmkdajcaa
