/-
  NARROWER THAN 'FOR EVERY INPUT', by the rows' own cells (each row's printed sentence says how): AuditTells: loops · AuditShows: loops · AuditMends: loops.
  DERIVED. THE GIVEN ROWS OF THIS SEAT. 3 by the template 'for every input the law returns true; each argument reads behind the call as it read before'; 0 by the template 'total and deterministic' (their statements: YtjjcaapdaldedaaTotals.lean).
  GIVEN WITH THE SEED: the statements are not yours to turn. If you find one false, say at which input.
  Laid BY PROGRAM, IN A SANDBOX (cutbox-rows.mjs): the forced cells as the released guide's own fill.sh prints them over the translation b4e1ecc7ab40e27f… (all of the seat's roots in one cut). By AI agents, Wed Nov 11 2026. No macro, syntax, notation, axiom, sorry.
-/
import Derived.Test.YtjjcaapdaldedaaChecked
import GoSem.Claim
import GoSem.ClaimJoined
import GoSem.ClaimMapViews
import Derived.JoinedTies
import Derived.KernelRfl
namespace Go.Proofs.Ytjjcaapdaldedaa
/- THE CELL 'sum', in the pinned program and in every row, IS THE sha256 OF THE DUMP (.gsa) THAT YtjjcaapdaldedaaProg.lean LOADS. Nothing in Lean hashes anything: it is a label: what it is worth is what the hold of that sum in a sandbox is worth. -/
noncomputable def Try.pinned : Pinned := { name := "ytjjcaapdaldedaa", sum := "b4e1ecc7ab40e27f8b0632c1eb84f07090a37bc4848ee74c662d45743ec96f18", checked := Try.checked }
namespace Rows
def none {H : Type} : Left H := { results := [], args := [] }

/-- 'allongelaw20.AuditTells': WHATEVER THE INPUT: true; the input reads as it did. -/
def auditTellsSpec : ChangeSpec := { name := "auditTells", fn := fun _ => fun
  | [d1, d2] => { results := [.lit (.bool true)], args := [d1, d2] }
  | _ => none }
def auditTellsRow : OpenClaim := { program := "ytjjcaapdaldedaa", sum := "b4e1ecc7ab40e27f8b0632c1eb84f07090a37bc4848ee74c662d45743ec96f18", func := "allonge/allongelaw20.AuditTells", spec := "auditTells", unfollowed := true, recurses := true, loops := true, apart := false }
def AuditTellsSaid : Prop := auditTellsRow.holds Try.pinned (OpenSpec.ofChange auditTellsSpec)

/-- ITS FALSE NEIGHBOUR: 'it returns false'. Refute it at one input. -/
def auditTellsWrong : ChangeSpec := { name := "auditTells", fn := fun _ => fun
  | [d1, d2] => { results := [.lit (.bool false)], args := [d1, d2] }
  | _ => none }
def AuditTellsWrongFalsely : Prop := auditTellsRow.holds Try.pinned (OpenSpec.ofChange auditTellsWrong)

/-- 'allongelaw20.AuditShows': WHATEVER THE INPUT: true; the input reads as it did. -/
def auditShowsSpec : ChangeSpec := { name := "auditShows", fn := fun _ => fun
  | [d1, d2] => { results := [.lit (.bool true)], args := [d1, d2] }
  | _ => none }
def auditShowsRow : OpenClaim := { program := "ytjjcaapdaldedaa", sum := "b4e1ecc7ab40e27f8b0632c1eb84f07090a37bc4848ee74c662d45743ec96f18", func := "allonge/allongelaw20.AuditShows", spec := "auditShows", unfollowed := true, recurses := true, loops := true, apart := false }
def AuditShowsSaid : Prop := auditShowsRow.holds Try.pinned (OpenSpec.ofChange auditShowsSpec)

/-- ITS FALSE NEIGHBOUR: 'it returns false'. Refute it at one input. -/
def auditShowsWrong : ChangeSpec := { name := "auditShows", fn := fun _ => fun
  | [d1, d2] => { results := [.lit (.bool false)], args := [d1, d2] }
  | _ => none }
def AuditShowsWrongFalsely : Prop := auditShowsRow.holds Try.pinned (OpenSpec.ofChange auditShowsWrong)

/-- 'allongelaw20.AuditMends': WHATEVER THE INPUT: true; the input reads as it did. -/
def auditMendsSpec : ChangeSpec := { name := "auditMends", fn := fun _ => fun
  | [d] => { results := [.lit (.bool true)], args := [d] }
  | _ => none }
def auditMendsRow : OpenClaim := { program := "ytjjcaapdaldedaa", sum := "b4e1ecc7ab40e27f8b0632c1eb84f07090a37bc4848ee74c662d45743ec96f18", func := "allonge/allongelaw20.AuditMends", spec := "auditMends", unfollowed := true, recurses := true, loops := true, apart := false }
def AuditMendsSaid : Prop := auditMendsRow.holds Try.pinned (OpenSpec.ofChange auditMendsSpec)

/-- ITS FALSE NEIGHBOUR: 'it returns false'. Refute it at one input. -/
def auditMendsWrong : ChangeSpec := { name := "auditMends", fn := fun _ => fun
  | [d] => { results := [.lit (.bool false)], args := [d] }
  | _ => none }
def AuditMendsWrongFalsely : Prop := auditMendsRow.holds Try.pinned (OpenSpec.ofChange auditMendsWrong)

/- THE SECOND FORM. 'bulk': how many values and letters a reading holds, each counted each time it is reached (what is shared counts as often as it is met; a slice's spare places count too). A statement '..UptoSaid' is the law's where the arguments, and the package variables that the reading takes, are together of bulk at most 1048576: NARROWER than '..Said'. Prove '..Said' where nothing that the law and all that it calls make is longer than what came in: it says more and counts as full. Else prove '..UptoSaid'. A law counts once. -/
mutual
def uptoBulk {H : Type} : DataW H → Nat
  | .lit (.string bytes) => bytes.length + 1
  | .lit _ => 1
  | .nil => 1
  | .ptr d => uptoBulk d + 1
  | .slice elems spare => uptoBulkAll elems + uptoBulkAll spare + 1
  | .agg parts => uptoBulkAll parts + 1
  | .iface _ d => uptoBulk d + 1
  | .map entries => uptoBulkEntries entries + 1
  | .held _ => 1
def uptoBulkAll {H : Type} : List (DataW H) → Nat
  | [] => 0
  | d :: r => uptoBulk d + uptoBulkAll r
def uptoBulkEntries {H : Type} : List (Lit × DataW H) → Nat
  | [] => 0
  | x :: r => uptoBulkEntry x + uptoBulkEntries r
def uptoBulkEntry {H : Type} : Lit × DataW H → Nat
  | (.string bytes, d) => bytes.length + uptoBulk d + 1
  | (_, d) => uptoBulk d + 1
 end
def uptoSmall : (H : Type) → List (DataW H) → Bool := fun _ ds => decide (uptoBulkAll ds ≤ 1048576)
def OpenSpec.upto (s : _root_.Go.ChangeSpec) : _root_.Go.OpenSpec := { _root_.Go.OpenSpec.ofChange s with cond := some uptoSmall }

/-- 'allongelaw20.AuditTells', WHERE WHAT IT READS IS OF BULK AT MOST 1048576: true; the input reads as it did. -/
def auditTellsUptoRow : OpenClaim := { program := "ytjjcaapdaldedaa", sum := "b4e1ecc7ab40e27f8b0632c1eb84f07090a37bc4848ee74c662d45743ec96f18", func := "allonge/allongelaw20.AuditTells", spec := "auditTells", unfollowed := true, recurses := true, loops := true, apart := false, narrowed := true }
def AuditTellsUptoSaid : Prop := auditTellsUptoRow.holds Try.pinned (OpenSpec.upto auditTellsSpec)

/-- 'allongelaw20.AuditShows', WHERE WHAT IT READS IS OF BULK AT MOST 1048576: true; the input reads as it did. -/
def auditShowsUptoRow : OpenClaim := { program := "ytjjcaapdaldedaa", sum := "b4e1ecc7ab40e27f8b0632c1eb84f07090a37bc4848ee74c662d45743ec96f18", func := "allonge/allongelaw20.AuditShows", spec := "auditShows", unfollowed := true, recurses := true, loops := true, apart := false, narrowed := true }
def AuditShowsUptoSaid : Prop := auditShowsUptoRow.holds Try.pinned (OpenSpec.upto auditShowsSpec)

/-- 'allongelaw20.AuditMends', WHERE WHAT IT READS IS OF BULK AT MOST 1048576: true; the input reads as it did. -/
def auditMendsUptoRow : OpenClaim := { program := "ytjjcaapdaldedaa", sum := "b4e1ecc7ab40e27f8b0632c1eb84f07090a37bc4848ee74c662d45743ec96f18", func := "allonge/allongelaw20.AuditMends", spec := "auditMends", unfollowed := true, recurses := true, loops := true, apart := false, narrowed := true }
def AuditMendsUptoSaid : Prop := auditMendsUptoRow.holds Try.pinned (OpenSpec.upto auditMendsSpec)

end Rows
end Go.Proofs.Ytjjcaapdaldedaa
