/-
  NARROWER THAN 'FOR EVERY INPUT', by the rows' own cells (each row's printed sentence says how): AuditTells: loops · AuditShows: loops · AuditMends: loops.
  DERIVED. THE GIVEN ROWS OF THIS SEAT. 9 by the template 'for every input the law returns true; each argument reads behind the call as it read before'; 0 by the template 'total and deterministic' (their statements: YtmekbfccmnjdcaaTotals.lean).
  GIVEN WITH THE SEED: the statements are not yours to turn. If you find one false, say at which input.
  Laid BY PROGRAM, IN A SANDBOX (cutbox-rows.mjs): the forced cells as the released guide's own fill.sh prints them over the translation 5424cca60bc394c2… (all of the seat's roots in one cut). By AI agents, Wed Nov 11 2026. No macro, syntax, notation, axiom, sorry.
-/
import Derived.Test.YtmekbfccmnjdcaaChecked
import GoSem.Claim
import GoSem.ClaimJoined
import GoSem.ClaimMapViews
import Derived.JoinedTies
import Derived.KernelRfl
namespace Go.Proofs.Ytmekbfccmnjdcaa
/- THE CELL 'sum', in the pinned program and in every row, IS THE sha256 OF THE DUMP (.gsa) THAT YtmekbfccmnjdcaaProg.lean LOADS. Nothing in Lean hashes anything: it is a label: what it is worth is what the hold of that sum in a sandbox is worth. -/
noncomputable def Try.pinned : Pinned := { name := "ytmekbfccmnjdcaa", sum := "5424cca60bc394c28c56da44d487281102729d99f95163f6db8d74dae79d4ac2", checked := Try.checked }
namespace Rows
def none {H : Type} : Left H := { results := [], args := [] }

/-- 'allongelaw45.UndoTells': WHATEVER THE INPUT: true; the input reads as it did. -/
def undoTellsSpec : ChangeSpec := { name := "undoTells", fn := fun _ => fun
  | [d1, d2, d3, d4, d5] => { results := [.lit (.bool true)], args := [d1, d2, d3, d4, d5] }
  | _ => none }
def undoTellsRow : OpenClaim := { program := "ytmekbfccmnjdcaa", sum := "5424cca60bc394c28c56da44d487281102729d99f95163f6db8d74dae79d4ac2", func := "allonge/allongelaw45.UndoTells", spec := "undoTells", unfollowed := true, recurses := true, apart := false }
def UndoTellsSaid : Prop := undoTellsRow.holds Try.pinned (OpenSpec.ofChange undoTellsSpec)

/-- ITS FALSE NEIGHBOUR: 'it returns false'. Refute it at one input. -/
def undoTellsWrong : ChangeSpec := { name := "undoTells", fn := fun _ => fun
  | [d1, d2, d3, d4, d5] => { results := [.lit (.bool false)], args := [d1, d2, d3, d4, d5] }
  | _ => none }
def UndoTellsWrongFalsely : Prop := undoTellsRow.holds Try.pinned (OpenSpec.ofChange undoTellsWrong)

/-- 'allongelaw45.UndoUnique': WHATEVER THE INPUT: true; the input reads as it did. -/
def undoUniqueSpec : ChangeSpec := { name := "undoUnique", fn := fun _ => fun
  | [d1, d2, d3] => { results := [.lit (.bool true)], args := [d1, d2, d3] }
  | _ => none }
def undoUniqueRow : OpenClaim := { program := "ytmekbfccmnjdcaa", sum := "5424cca60bc394c28c56da44d487281102729d99f95163f6db8d74dae79d4ac2", func := "allonge/allongelaw45.UndoUnique", spec := "undoUnique", unfollowed := true, recurses := true, apart := false }
def UndoUniqueSaid : Prop := undoUniqueRow.holds Try.pinned (OpenSpec.ofChange undoUniqueSpec)

/-- ITS FALSE NEIGHBOUR: 'it returns false'. Refute it at one input. -/
def undoUniqueWrong : ChangeSpec := { name := "undoUnique", fn := fun _ => fun
  | [d1, d2, d3] => { results := [.lit (.bool false)], args := [d1, d2, d3] }
  | _ => none }
def UndoUniqueWrongFalsely : Prop := undoUniqueRow.holds Try.pinned (OpenSpec.ofChange undoUniqueWrong)

/-- 'allongelaw45.UndoFalls': WHATEVER THE INPUT: true; the input reads as it did. -/
def undoFallsSpec : ChangeSpec := { name := "undoFalls", fn := fun _ => fun
  | [d1, d2, d3] => { results := [.lit (.bool true)], args := [d1, d2, d3] }
  | _ => none }
def undoFallsRow : OpenClaim := { program := "ytmekbfccmnjdcaa", sum := "5424cca60bc394c28c56da44d487281102729d99f95163f6db8d74dae79d4ac2", func := "allonge/allongelaw45.UndoFalls", spec := "undoFalls", unfollowed := true, recurses := true, apart := false }
def UndoFallsSaid : Prop := undoFallsRow.holds Try.pinned (OpenSpec.ofChange undoFallsSpec)

/-- ITS FALSE NEIGHBOUR: 'it returns false'. Refute it at one input. -/
def undoFallsWrong : ChangeSpec := { name := "undoFalls", fn := fun _ => fun
  | [d1, d2, d3] => { results := [.lit (.bool false)], args := [d1, d2, d3] }
  | _ => none }
def UndoFallsWrongFalsely : Prop := undoFallsRow.holds Try.pinned (OpenSpec.ofChange undoFallsWrong)

/-- 'allongelaw45.UndoBack': WHATEVER THE INPUT: true; the input reads as it did. -/
def undoBackSpec : ChangeSpec := { name := "undoBack", fn := fun _ => fun
  | [d1, d2, d3] => { results := [.lit (.bool true)], args := [d1, d2, d3] }
  | _ => none }
def undoBackRow : OpenClaim := { program := "ytmekbfccmnjdcaa", sum := "5424cca60bc394c28c56da44d487281102729d99f95163f6db8d74dae79d4ac2", func := "allonge/allongelaw45.UndoBack", spec := "undoBack", unfollowed := true, recurses := true, apart := false }
def UndoBackSaid : Prop := undoBackRow.holds Try.pinned (OpenSpec.ofChange undoBackSpec)

/-- ITS FALSE NEIGHBOUR: 'it returns false'. Refute it at one input. -/
def undoBackWrong : ChangeSpec := { name := "undoBack", fn := fun _ => fun
  | [d1, d2, d3] => { results := [.lit (.bool false)], args := [d1, d2, d3] }
  | _ => none }
def UndoBackWrongFalsely : Prop := undoBackRow.holds Try.pinned (OpenSpec.ofChange undoBackWrong)

/-- 'allongelaw45.UndoProves': WHATEVER THE INPUT: true; the input reads as it did. -/
def undoProvesSpec : ChangeSpec := { name := "undoProves", fn := fun _ => fun
  | [d1, d2, d3, d4] => { results := [.lit (.bool true)], args := [d1, d2, d3, d4] }
  | _ => none }
def undoProvesRow : OpenClaim := { program := "ytmekbfccmnjdcaa", sum := "5424cca60bc394c28c56da44d487281102729d99f95163f6db8d74dae79d4ac2", func := "allonge/allongelaw45.UndoProves", spec := "undoProves", unfollowed := true, recurses := true, apart := false }
def UndoProvesSaid : Prop := undoProvesRow.holds Try.pinned (OpenSpec.ofChange undoProvesSpec)

/-- ITS FALSE NEIGHBOUR: 'it returns false'. Refute it at one input. -/
def undoProvesWrong : ChangeSpec := { name := "undoProves", fn := fun _ => fun
  | [d1, d2, d3, d4] => { results := [.lit (.bool false)], args := [d1, d2, d3, d4] }
  | _ => none }
def UndoProvesWrongFalsely : Prop := undoProvesRow.holds Try.pinned (OpenSpec.ofChange undoProvesWrong)

/-- 'allongelaw45.UndoReaches': WHATEVER THE INPUT: true; the input reads as it did. -/
def undoReachesSpec : ChangeSpec := { name := "undoReaches", fn := fun _ => fun
  | [d1, d2, d3] => { results := [.lit (.bool true)], args := [d1, d2, d3] }
  | _ => none }
def undoReachesRow : OpenClaim := { program := "ytmekbfccmnjdcaa", sum := "5424cca60bc394c28c56da44d487281102729d99f95163f6db8d74dae79d4ac2", func := "allonge/allongelaw45.UndoReaches", spec := "undoReaches", unfollowed := true, recurses := true, apart := false }
def UndoReachesSaid : Prop := undoReachesRow.holds Try.pinned (OpenSpec.ofChange undoReachesSpec)

/-- ITS FALSE NEIGHBOUR: 'it returns false'. Refute it at one input. -/
def undoReachesWrong : ChangeSpec := { name := "undoReaches", fn := fun _ => fun
  | [d1, d2, d3] => { results := [.lit (.bool false)], args := [d1, d2, d3] }
  | _ => none }
def UndoReachesWrongFalsely : Prop := undoReachesRow.holds Try.pinned (OpenSpec.ofChange undoReachesWrong)

/-- 'allongelaw20.AuditTells': WHATEVER THE INPUT: true; the input reads as it did. -/
def auditTellsSpec : ChangeSpec := { name := "auditTells", fn := fun _ => fun
  | [d1, d2] => { results := [.lit (.bool true)], args := [d1, d2] }
  | _ => none }
def auditTellsRow : OpenClaim := { program := "ytmekbfccmnjdcaa", sum := "5424cca60bc394c28c56da44d487281102729d99f95163f6db8d74dae79d4ac2", func := "allonge/allongelaw20.AuditTells", spec := "auditTells", unfollowed := true, recurses := true, loops := true, apart := false }
def AuditTellsSaid : Prop := auditTellsRow.holds Try.pinned (OpenSpec.ofChange auditTellsSpec)

/-- ITS FALSE NEIGHBOUR: 'it returns false'. Refute it at one input. -/
def auditTellsWrong : ChangeSpec := { name := "auditTells", fn := fun _ => fun
  | [d1, d2] => { results := [.lit (.bool false)], args := [d1, d2] }
  | _ => none }
def AuditTellsWrongFalsely : Prop := auditTellsRow.holds Try.pinned (OpenSpec.ofChange auditTellsWrong)

/-- 'allongelaw20.AuditShows': WHATEVER THE INPUT: true; the input reads as it did. -/
def auditShowsSpec : ChangeSpec := { name := "auditShows", fn := fun _ => fun
  | [d1, d2] => { results := [.lit (.bool true)], args := [d1, d2] }
  | _ => none }
def auditShowsRow : OpenClaim := { program := "ytmekbfccmnjdcaa", sum := "5424cca60bc394c28c56da44d487281102729d99f95163f6db8d74dae79d4ac2", func := "allonge/allongelaw20.AuditShows", spec := "auditShows", unfollowed := true, recurses := true, loops := true, apart := false }
def AuditShowsSaid : Prop := auditShowsRow.holds Try.pinned (OpenSpec.ofChange auditShowsSpec)

/-- ITS FALSE NEIGHBOUR: 'it returns false'. Refute it at one input. -/
def auditShowsWrong : ChangeSpec := { name := "auditShows", fn := fun _ => fun
  | [d1, d2] => { results := [.lit (.bool false)], args := [d1, d2] }
  | _ => none }
def AuditShowsWrongFalsely : Prop := auditShowsRow.holds Try.pinned (OpenSpec.ofChange auditShowsWrong)

/-- 'allongelaw20.AuditMends': WHATEVER THE INPUT: true; the input reads as it did. -/
def auditMendsSpec : ChangeSpec := { name := "auditMends", fn := fun _ => fun
  | [d] => { results := [.lit (.bool true)], args := [d] }
  | _ => none }
def auditMendsRow : OpenClaim := { program := "ytmekbfccmnjdcaa", sum := "5424cca60bc394c28c56da44d487281102729d99f95163f6db8d74dae79d4ac2", func := "allonge/allongelaw20.AuditMends", spec := "auditMends", unfollowed := true, recurses := true, loops := true, apart := false }
def AuditMendsSaid : Prop := auditMendsRow.holds Try.pinned (OpenSpec.ofChange auditMendsSpec)

/-- ITS FALSE NEIGHBOUR: 'it returns false'. Refute it at one input. -/
def auditMendsWrong : ChangeSpec := { name := "auditMends", fn := fun _ => fun
  | [d] => { results := [.lit (.bool false)], args := [d] }
  | _ => none }
def AuditMendsWrongFalsely : Prop := auditMendsRow.holds Try.pinned (OpenSpec.ofChange auditMendsWrong)

/- THE SECOND FORM. 'bulk': how many values and letters a reading holds, each counted each time it is reached (what is shared counts as often as it is met; a slice's spare places count too). A statement '..UptoSaid' is the law's where the arguments, and the package variables that the reading takes, are together of bulk at most 1048576: NARROWER than '..Said'. Prove '..Said' where nothing that the law and all that it calls make is longer than what came in: it says more and counts as full. Else prove '..UptoSaid'. A law counts once. -/
mutual
def uptoBulk {H : Type} : DataW H → Nat
  | .lit (.string bytes) => bytes.length + 1
  | .lit _ => 1
  | .nil => 1
  | .ptr d => uptoBulk d + 1
  | .slice elems spare => uptoBulkAll elems + uptoBulkAll spare + 1
  | .agg parts => uptoBulkAll parts + 1
  | .iface _ d => uptoBulk d + 1
  | .map entries => uptoBulkEntries entries + 1
  | .held _ => 1
def uptoBulkAll {H : Type} : List (DataW H) → Nat
  | [] => 0
  | d :: r => uptoBulk d + uptoBulkAll r
def uptoBulkEntries {H : Type} : List (Lit × DataW H) → Nat
  | [] => 0
  | x :: r => uptoBulkEntry x + uptoBulkEntries r
def uptoBulkEntry {H : Type} : Lit × DataW H → Nat
  | (.string bytes, d) => bytes.length + uptoBulk d + 1
  | (_, d) => uptoBulk d + 1
 end
def uptoSmall : (H : Type) → List (DataW H) → Bool := fun _ ds => decide (uptoBulkAll ds ≤ 1048576)
def OpenSpec.upto (s : _root_.Go.ChangeSpec) : _root_.Go.OpenSpec := { _root_.Go.OpenSpec.ofChange s with cond := some uptoSmall }

/-- 'allongelaw45.UndoTells', WHERE WHAT IT READS IS OF BULK AT MOST 1048576: true; the input reads as it did. -/
def undoTellsUptoRow : OpenClaim := { program := "ytmekbfccmnjdcaa", sum := "5424cca60bc394c28c56da44d487281102729d99f95163f6db8d74dae79d4ac2", func := "allonge/allongelaw45.UndoTells", spec := "undoTells", unfollowed := true, recurses := true, apart := false, narrowed := true }
def UndoTellsUptoSaid : Prop := undoTellsUptoRow.holds Try.pinned (OpenSpec.upto undoTellsSpec)

/-- 'allongelaw45.UndoUnique', WHERE WHAT IT READS IS OF BULK AT MOST 1048576: true; the input reads as it did. -/
def undoUniqueUptoRow : OpenClaim := { program := "ytmekbfccmnjdcaa", sum := "5424cca60bc394c28c56da44d487281102729d99f95163f6db8d74dae79d4ac2", func := "allonge/allongelaw45.UndoUnique", spec := "undoUnique", unfollowed := true, recurses := true, apart := false, narrowed := true }
def UndoUniqueUptoSaid : Prop := undoUniqueUptoRow.holds Try.pinned (OpenSpec.upto undoUniqueSpec)

/-- 'allongelaw45.UndoFalls', WHERE WHAT IT READS IS OF BULK AT MOST 1048576: true; the input reads as it did. -/
def undoFallsUptoRow : OpenClaim := { program := "ytmekbfccmnjdcaa", sum := "5424cca60bc394c28c56da44d487281102729d99f95163f6db8d74dae79d4ac2", func := "allonge/allongelaw45.UndoFalls", spec := "undoFalls", unfollowed := true, recurses := true, apart := false, narrowed := true }
def UndoFallsUptoSaid : Prop := undoFallsUptoRow.holds Try.pinned (OpenSpec.upto undoFallsSpec)

/-- 'allongelaw45.UndoBack', WHERE WHAT IT READS IS OF BULK AT MOST 1048576: true; the input reads as it did. -/
def undoBackUptoRow : OpenClaim := { program := "ytmekbfccmnjdcaa", sum := "5424cca60bc394c28c56da44d487281102729d99f95163f6db8d74dae79d4ac2", func := "allonge/allongelaw45.UndoBack", spec := "undoBack", unfollowed := true, recurses := true, apart := false, narrowed := true }
def UndoBackUptoSaid : Prop := undoBackUptoRow.holds Try.pinned (OpenSpec.upto undoBackSpec)

/-- 'allongelaw45.UndoProves', WHERE WHAT IT READS IS OF BULK AT MOST 1048576: true; the input reads as it did. -/
def undoProvesUptoRow : OpenClaim := { program := "ytmekbfccmnjdcaa", sum := "5424cca60bc394c28c56da44d487281102729d99f95163f6db8d74dae79d4ac2", func := "allonge/allongelaw45.UndoProves", spec := "undoProves", unfollowed := true, recurses := true, apart := false, narrowed := true }
def UndoProvesUptoSaid : Prop := undoProvesUptoRow.holds Try.pinned (OpenSpec.upto undoProvesSpec)

/-- 'allongelaw45.UndoReaches', WHERE WHAT IT READS IS OF BULK AT MOST 1048576: true; the input reads as it did. -/
def undoReachesUptoRow : OpenClaim := { program := "ytmekbfccmnjdcaa", sum := "5424cca60bc394c28c56da44d487281102729d99f95163f6db8d74dae79d4ac2", func := "allonge/allongelaw45.UndoReaches", spec := "undoReaches", unfollowed := true, recurses := true, apart := false, narrowed := true }
def UndoReachesUptoSaid : Prop := undoReachesUptoRow.holds Try.pinned (OpenSpec.upto undoReachesSpec)

/-- 'allongelaw20.AuditTells', WHERE WHAT IT READS IS OF BULK AT MOST 1048576: true; the input reads as it did. -/
def auditTellsUptoRow : OpenClaim := { program := "ytmekbfccmnjdcaa", sum := "5424cca60bc394c28c56da44d487281102729d99f95163f6db8d74dae79d4ac2", func := "allonge/allongelaw20.AuditTells", spec := "auditTells", unfollowed := true, recurses := true, loops := true, apart := false, narrowed := true }
def AuditTellsUptoSaid : Prop := auditTellsUptoRow.holds Try.pinned (OpenSpec.upto auditTellsSpec)

/-- 'allongelaw20.AuditShows', WHERE WHAT IT READS IS OF BULK AT MOST 1048576: true; the input reads as it did. -/
def auditShowsUptoRow : OpenClaim := { program := "ytmekbfccmnjdcaa", sum := "5424cca60bc394c28c56da44d487281102729d99f95163f6db8d74dae79d4ac2", func := "allonge/allongelaw20.AuditShows", spec := "auditShows", unfollowed := true, recurses := true, loops := true, apart := false, narrowed := true }
def AuditShowsUptoSaid : Prop := auditShowsUptoRow.holds Try.pinned (OpenSpec.upto auditShowsSpec)

/-- 'allongelaw20.AuditMends', WHERE WHAT IT READS IS OF BULK AT MOST 1048576: true; the input reads as it did. -/
def auditMendsUptoRow : OpenClaim := { program := "ytmekbfccmnjdcaa", sum := "5424cca60bc394c28c56da44d487281102729d99f95163f6db8d74dae79d4ac2", func := "allonge/allongelaw20.AuditMends", spec := "auditMends", unfollowed := true, recurses := true, loops := true, apart := false, narrowed := true }
def AuditMendsUptoSaid : Prop := auditMendsUptoRow.holds Try.pinned (OpenSpec.upto auditMendsSpec)

end Rows
end Go.Proofs.Ytmekbfccmnjdcaa
