/-
  NARROWER THAN 'FOR EVERY INPUT', by the rows' own cells (each row's printed sentence says how): RecordTells: loops · RecordVars: loops · PaperPuts: loops · PaperParts: loops · PaperSums: loops · PaperLess: loops · PaperTells: loops · RecordDays: loops · RecordSeen: loops.
  DERIVED. THE GIVEN ROWS OF THIS SEAT. 11 by the template 'for every input the law returns true; each argument reads behind the call as it read before'; 0 by the template 'total and deterministic' (their statements: YtfhebiceipgdmaaTotals.lean).
  GIVEN WITH THE SEED: the statements are not yours to turn. If you find one false, say at which input.
  Laid BY PROGRAM, IN A SANDBOX (cutbox-rows.mjs): the forced cells as the released guide's own fill.sh prints them over the translation 3c143bc9d5f0c8af… (all of the seat's roots in one cut). By AI agents, Wed Nov 11 2026. No macro, syntax, notation, axiom, sorry.
-/
import Derived.Test.YtfhebiceipgdmaaChecked
import GoSem.Claim
import GoSem.ClaimJoined
import GoSem.ClaimMapViews
import Derived.JoinedTies
import Derived.KernelRfl
namespace Go.Proofs.Ytfhebiceipgdmaa
/- THE CELL 'sum', in the pinned program and in every row, IS THE sha256 OF THE DUMP (.gsa) THAT YtfhebiceipgdmaaProg.lean LOADS. Nothing in Lean hashes anything: it is a label: what it is worth is what the hold of that sum in a sandbox is worth. -/
noncomputable def Try.pinned : Pinned := { name := "ytfhebiceipgdmaa", sum := "3c143bc9d5f0c8af7f894b8d2281c252afc609001ec64ccbdc89131a04baa79c", checked := Try.checked }
namespace Rows
def none {H : Type} : Left H := { results := [], args := [] }

/-- 'allongelaw14.RecordTells': WHATEVER THE INPUT: true; the input reads as it did. -/
def recordTellsSpec : ChangeSpec := { name := "recordTells", fn := fun _ => fun
  | [d1, d2, d3, d4, d5] => { results := [.lit (.bool true)], args := [d1, d2, d3, d4, d5] }
  | _ => none }
def recordTellsRow : OpenClaim := { program := "ytfhebiceipgdmaa", sum := "3c143bc9d5f0c8af7f894b8d2281c252afc609001ec64ccbdc89131a04baa79c", func := "allonge/allongelaw14.RecordTells", spec := "recordTells", unfollowed := true, recurses := true, loops := true, apart := false }
def RecordTellsSaid : Prop := recordTellsRow.holds Try.pinned (OpenSpec.ofChange recordTellsSpec)

/-- ITS FALSE NEIGHBOUR: 'it returns false'. Refute it at one input. -/
def recordTellsWrong : ChangeSpec := { name := "recordTells", fn := fun _ => fun
  | [d1, d2, d3, d4, d5] => { results := [.lit (.bool false)], args := [d1, d2, d3, d4, d5] }
  | _ => none }
def RecordTellsWrongFalsely : Prop := recordTellsRow.holds Try.pinned (OpenSpec.ofChange recordTellsWrong)

/-- 'allongelaw14.RecordVars': WHATEVER THE INPUT: true; the input reads as it did. -/
def recordVarsSpec : ChangeSpec := { name := "recordVars", fn := fun _ => fun
  | [d1, d2, d3] => { results := [.lit (.bool true)], args := [d1, d2, d3] }
  | _ => none }
def recordVarsRow : OpenClaim := { program := "ytfhebiceipgdmaa", sum := "3c143bc9d5f0c8af7f894b8d2281c252afc609001ec64ccbdc89131a04baa79c", func := "allonge/allongelaw14.RecordVars", spec := "recordVars", unfollowed := true, recurses := true, loops := true, apart := false }
def RecordVarsSaid : Prop := recordVarsRow.holds Try.pinned (OpenSpec.ofChange recordVarsSpec)

/-- ITS FALSE NEIGHBOUR: 'it returns false'. Refute it at one input. -/
def recordVarsWrong : ChangeSpec := { name := "recordVars", fn := fun _ => fun
  | [d1, d2, d3] => { results := [.lit (.bool false)], args := [d1, d2, d3] }
  | _ => none }
def RecordVarsWrongFalsely : Prop := recordVarsRow.holds Try.pinned (OpenSpec.ofChange recordVarsWrong)

/-- 'allongelaw14.RecordFacts': WHATEVER THE INPUT: true; the input reads as it did. -/
def recordFactsSpec : ChangeSpec := { name := "recordFacts", fn := fun _ => fun
  | [d1, d2, d3, d4] => { results := [.lit (.bool true)], args := [d1, d2, d3, d4] }
  | _ => none }
def recordFactsRow : OpenClaim := { program := "ytfhebiceipgdmaa", sum := "3c143bc9d5f0c8af7f894b8d2281c252afc609001ec64ccbdc89131a04baa79c", func := "allonge/allongelaw14.RecordFacts", spec := "recordFacts", unfollowed := true, recurses := true, apart := false }
def RecordFactsSaid : Prop := recordFactsRow.holds Try.pinned (OpenSpec.ofChange recordFactsSpec)

/-- ITS FALSE NEIGHBOUR: 'it returns false'. Refute it at one input. -/
def recordFactsWrong : ChangeSpec := { name := "recordFacts", fn := fun _ => fun
  | [d1, d2, d3, d4] => { results := [.lit (.bool false)], args := [d1, d2, d3, d4] }
  | _ => none }
def RecordFactsWrongFalsely : Prop := recordFactsRow.holds Try.pinned (OpenSpec.ofChange recordFactsWrong)

/-- 'allongelaw12.PaperPuts': WHATEVER THE INPUT: true; the input reads as it did. -/
def paperPutsSpec : ChangeSpec := { name := "paperPuts", fn := fun _ => fun
  | [d1, d2] => { results := [.lit (.bool true)], args := [d1, d2] }
  | _ => none }
def paperPutsRow : OpenClaim := { program := "ytfhebiceipgdmaa", sum := "3c143bc9d5f0c8af7f894b8d2281c252afc609001ec64ccbdc89131a04baa79c", func := "allonge/allongelaw12.PaperPuts", spec := "paperPuts", unfollowed := true, recurses := true, loops := true, apart := false }
def PaperPutsSaid : Prop := paperPutsRow.holds Try.pinned (OpenSpec.ofChange paperPutsSpec)

/-- ITS FALSE NEIGHBOUR: 'it returns false'. Refute it at one input. -/
def paperPutsWrong : ChangeSpec := { name := "paperPuts", fn := fun _ => fun
  | [d1, d2] => { results := [.lit (.bool false)], args := [d1, d2] }
  | _ => none }
def PaperPutsWrongFalsely : Prop := paperPutsRow.holds Try.pinned (OpenSpec.ofChange paperPutsWrong)

/-- 'allongelaw12.PaperParts': WHATEVER THE INPUT: true; the input reads as it did. -/
def paperPartsSpec : ChangeSpec := { name := "paperParts", fn := fun _ => fun
  | [d1, d2] => { results := [.lit (.bool true)], args := [d1, d2] }
  | _ => none }
def paperPartsRow : OpenClaim := { program := "ytfhebiceipgdmaa", sum := "3c143bc9d5f0c8af7f894b8d2281c252afc609001ec64ccbdc89131a04baa79c", func := "allonge/allongelaw12.PaperParts", spec := "paperParts", unfollowed := true, recurses := true, loops := true, apart := false }
def PaperPartsSaid : Prop := paperPartsRow.holds Try.pinned (OpenSpec.ofChange paperPartsSpec)

/-- ITS FALSE NEIGHBOUR: 'it returns false'. Refute it at one input. -/
def paperPartsWrong : ChangeSpec := { name := "paperParts", fn := fun _ => fun
  | [d1, d2] => { results := [.lit (.bool false)], args := [d1, d2] }
  | _ => none }
def PaperPartsWrongFalsely : Prop := paperPartsRow.holds Try.pinned (OpenSpec.ofChange paperPartsWrong)

/-- 'allongelaw12.PaperSums': WHATEVER THE INPUT: true; the input reads as it did. -/
def paperSumsSpec : ChangeSpec := { name := "paperSums", fn := fun _ => fun
  | [d1, d2, d3] => { results := [.lit (.bool true)], args := [d1, d2, d3] }
  | _ => none }
def paperSumsRow : OpenClaim := { program := "ytfhebiceipgdmaa", sum := "3c143bc9d5f0c8af7f894b8d2281c252afc609001ec64ccbdc89131a04baa79c", func := "allonge/allongelaw12.PaperSums", spec := "paperSums", unfollowed := true, recurses := true, loops := true, apart := false }
def PaperSumsSaid : Prop := paperSumsRow.holds Try.pinned (OpenSpec.ofChange paperSumsSpec)

/-- ITS FALSE NEIGHBOUR: 'it returns false'. Refute it at one input. -/
def paperSumsWrong : ChangeSpec := { name := "paperSums", fn := fun _ => fun
  | [d1, d2, d3] => { results := [.lit (.bool false)], args := [d1, d2, d3] }
  | _ => none }
def PaperSumsWrongFalsely : Prop := paperSumsRow.holds Try.pinned (OpenSpec.ofChange paperSumsWrong)

/-- 'allongelaw12.PaperLess': WHATEVER THE INPUT: true; the input reads as it did. -/
def paperLessSpec : ChangeSpec := { name := "paperLess", fn := fun _ => fun
  | [d1, d2] => { results := [.lit (.bool true)], args := [d1, d2] }
  | _ => none }
def paperLessRow : OpenClaim := { program := "ytfhebiceipgdmaa", sum := "3c143bc9d5f0c8af7f894b8d2281c252afc609001ec64ccbdc89131a04baa79c", func := "allonge/allongelaw12.PaperLess", spec := "paperLess", unfollowed := true, recurses := true, loops := true, apart := false }
def PaperLessSaid : Prop := paperLessRow.holds Try.pinned (OpenSpec.ofChange paperLessSpec)

/-- ITS FALSE NEIGHBOUR: 'it returns false'. Refute it at one input. -/
def paperLessWrong : ChangeSpec := { name := "paperLess", fn := fun _ => fun
  | [d1, d2] => { results := [.lit (.bool false)], args := [d1, d2] }
  | _ => none }
def PaperLessWrongFalsely : Prop := paperLessRow.holds Try.pinned (OpenSpec.ofChange paperLessWrong)

/-- 'allongelaw12.PaperTells': WHATEVER THE INPUT: true; the input reads as it did. -/
def paperTellsSpec : ChangeSpec := { name := "paperTells", fn := fun _ => fun
  | [d1, d2, d3, d4, d5] => { results := [.lit (.bool true)], args := [d1, d2, d3, d4, d5] }
  | _ => none }
def paperTellsRow : OpenClaim := { program := "ytfhebiceipgdmaa", sum := "3c143bc9d5f0c8af7f894b8d2281c252afc609001ec64ccbdc89131a04baa79c", func := "allonge/allongelaw12.PaperTells", spec := "paperTells", unfollowed := true, recurses := true, loops := true, apart := false }
def PaperTellsSaid : Prop := paperTellsRow.holds Try.pinned (OpenSpec.ofChange paperTellsSpec)

/-- ITS FALSE NEIGHBOUR: 'it returns false'. Refute it at one input. -/
def paperTellsWrong : ChangeSpec := { name := "paperTells", fn := fun _ => fun
  | [d1, d2, d3, d4, d5] => { results := [.lit (.bool false)], args := [d1, d2, d3, d4, d5] }
  | _ => none }
def PaperTellsWrongFalsely : Prop := paperTellsRow.holds Try.pinned (OpenSpec.ofChange paperTellsWrong)

/-- 'allongelaw12.PaperStruck': WHATEVER THE INPUT: true; the input reads as it did. -/
def paperStruckSpec : ChangeSpec := { name := "paperStruck", fn := fun _ => fun
  | [d1, d2, d3] => { results := [.lit (.bool true)], args := [d1, d2, d3] }
  | _ => none }
def paperStruckRow : OpenClaim := { program := "ytfhebiceipgdmaa", sum := "3c143bc9d5f0c8af7f894b8d2281c252afc609001ec64ccbdc89131a04baa79c", func := "allonge/allongelaw12.PaperStruck", spec := "paperStruck", unfollowed := true, recurses := true, apart := false }
def PaperStruckSaid : Prop := paperStruckRow.holds Try.pinned (OpenSpec.ofChange paperStruckSpec)

/-- ITS FALSE NEIGHBOUR: 'it returns false'. Refute it at one input. -/
def paperStruckWrong : ChangeSpec := { name := "paperStruck", fn := fun _ => fun
  | [d1, d2, d3] => { results := [.lit (.bool false)], args := [d1, d2, d3] }
  | _ => none }
def PaperStruckWrongFalsely : Prop := paperStruckRow.holds Try.pinned (OpenSpec.ofChange paperStruckWrong)

/-- 'allongelaw14.RecordDays': WHATEVER THE INPUT: true; the input reads as it did. -/
def recordDaysSpec : ChangeSpec := { name := "recordDays", fn := fun _ => fun
  | [d1, d2, d3, d4] => { results := [.lit (.bool true)], args := [d1, d2, d3, d4] }
  | _ => none }
def recordDaysRow : OpenClaim := { program := "ytfhebiceipgdmaa", sum := "3c143bc9d5f0c8af7f894b8d2281c252afc609001ec64ccbdc89131a04baa79c", func := "allonge/allongelaw14.RecordDays", spec := "recordDays", unfollowed := true, recurses := true, loops := true, apart := false }
def RecordDaysSaid : Prop := recordDaysRow.holds Try.pinned (OpenSpec.ofChange recordDaysSpec)

/-- ITS FALSE NEIGHBOUR: 'it returns false'. Refute it at one input. -/
def recordDaysWrong : ChangeSpec := { name := "recordDays", fn := fun _ => fun
  | [d1, d2, d3, d4] => { results := [.lit (.bool false)], args := [d1, d2, d3, d4] }
  | _ => none }
def RecordDaysWrongFalsely : Prop := recordDaysRow.holds Try.pinned (OpenSpec.ofChange recordDaysWrong)

/-- 'allongelaw14.RecordSeen': WHATEVER THE INPUT: true; the input reads as it did. -/
def recordSeenSpec : ChangeSpec := { name := "recordSeen", fn := fun _ => fun
  | [d1, d2, d3] => { results := [.lit (.bool true)], args := [d1, d2, d3] }
  | _ => none }
def recordSeenRow : OpenClaim := { program := "ytfhebiceipgdmaa", sum := "3c143bc9d5f0c8af7f894b8d2281c252afc609001ec64ccbdc89131a04baa79c", func := "allonge/allongelaw14.RecordSeen", spec := "recordSeen", unfollowed := true, recurses := true, loops := true, apart := false }
def RecordSeenSaid : Prop := recordSeenRow.holds Try.pinned (OpenSpec.ofChange recordSeenSpec)

/-- ITS FALSE NEIGHBOUR: 'it returns false'. Refute it at one input. -/
def recordSeenWrong : ChangeSpec := { name := "recordSeen", fn := fun _ => fun
  | [d1, d2, d3] => { results := [.lit (.bool false)], args := [d1, d2, d3] }
  | _ => none }
def RecordSeenWrongFalsely : Prop := recordSeenRow.holds Try.pinned (OpenSpec.ofChange recordSeenWrong)

/- THE SECOND FORM. 'bulk': how many values and letters a reading holds, each counted each time it is reached (what is shared counts as often as it is met; a slice's spare places count too). A statement '..UptoSaid' is the law's where the arguments, and the package variables that the reading takes, are together of bulk at most 1048576: NARROWER than '..Said'. Prove '..Said' where nothing that the law and all that it calls make is longer than what came in: it says more and counts as full. Else prove '..UptoSaid'. A law counts once. -/
mutual
def uptoBulk {H : Type} : DataW H → Nat
  | .lit (.string bytes) => bytes.length + 1
  | .lit _ => 1
  | .nil => 1
  | .ptr d => uptoBulk d + 1
  | .slice elems spare => uptoBulkAll elems + uptoBulkAll spare + 1
  | .agg parts => uptoBulkAll parts + 1
  | .iface _ d => uptoBulk d + 1
  | .map entries => uptoBulkEntries entries + 1
  | .held _ => 1
def uptoBulkAll {H : Type} : List (DataW H) → Nat
  | [] => 0
  | d :: r => uptoBulk d + uptoBulkAll r
def uptoBulkEntries {H : Type} : List (Lit × DataW H) → Nat
  | [] => 0
  | x :: r => uptoBulkEntry x + uptoBulkEntries r
def uptoBulkEntry {H : Type} : Lit × DataW H → Nat
  | (.string bytes, d) => bytes.length + uptoBulk d + 1
  | (_, d) => uptoBulk d + 1
 end
def uptoSmall : (H : Type) → List (DataW H) → Bool := fun _ ds => decide (uptoBulkAll ds ≤ 1048576)
def OpenSpec.upto (s : _root_.Go.ChangeSpec) : _root_.Go.OpenSpec := { _root_.Go.OpenSpec.ofChange s with cond := some uptoSmall }

/-- 'allongelaw14.RecordTells', WHERE WHAT IT READS IS OF BULK AT MOST 1048576: true; the input reads as it did. -/
def recordTellsUptoRow : OpenClaim := { program := "ytfhebiceipgdmaa", sum := "3c143bc9d5f0c8af7f894b8d2281c252afc609001ec64ccbdc89131a04baa79c", func := "allonge/allongelaw14.RecordTells", spec := "recordTells", unfollowed := true, recurses := true, loops := true, apart := false, narrowed := true }
def RecordTellsUptoSaid : Prop := recordTellsUptoRow.holds Try.pinned (OpenSpec.upto recordTellsSpec)

/-- 'allongelaw14.RecordVars', WHERE WHAT IT READS IS OF BULK AT MOST 1048576: true; the input reads as it did. -/
def recordVarsUptoRow : OpenClaim := { program := "ytfhebiceipgdmaa", sum := "3c143bc9d5f0c8af7f894b8d2281c252afc609001ec64ccbdc89131a04baa79c", func := "allonge/allongelaw14.RecordVars", spec := "recordVars", unfollowed := true, recurses := true, loops := true, apart := false, narrowed := true }
def RecordVarsUptoSaid : Prop := recordVarsUptoRow.holds Try.pinned (OpenSpec.upto recordVarsSpec)

/-- 'allongelaw14.RecordFacts', WHERE WHAT IT READS IS OF BULK AT MOST 1048576: true; the input reads as it did. -/
def recordFactsUptoRow : OpenClaim := { program := "ytfhebiceipgdmaa", sum := "3c143bc9d5f0c8af7f894b8d2281c252afc609001ec64ccbdc89131a04baa79c", func := "allonge/allongelaw14.RecordFacts", spec := "recordFacts", unfollowed := true, recurses := true, apart := false, narrowed := true }
def RecordFactsUptoSaid : Prop := recordFactsUptoRow.holds Try.pinned (OpenSpec.upto recordFactsSpec)

/-- 'allongelaw12.PaperPuts', WHERE WHAT IT READS IS OF BULK AT MOST 1048576: true; the input reads as it did. -/
def paperPutsUptoRow : OpenClaim := { program := "ytfhebiceipgdmaa", sum := "3c143bc9d5f0c8af7f894b8d2281c252afc609001ec64ccbdc89131a04baa79c", func := "allonge/allongelaw12.PaperPuts", spec := "paperPuts", unfollowed := true, recurses := true, loops := true, apart := false, narrowed := true }
def PaperPutsUptoSaid : Prop := paperPutsUptoRow.holds Try.pinned (OpenSpec.upto paperPutsSpec)

/-- 'allongelaw12.PaperParts', WHERE WHAT IT READS IS OF BULK AT MOST 1048576: true; the input reads as it did. -/
def paperPartsUptoRow : OpenClaim := { program := "ytfhebiceipgdmaa", sum := "3c143bc9d5f0c8af7f894b8d2281c252afc609001ec64ccbdc89131a04baa79c", func := "allonge/allongelaw12.PaperParts", spec := "paperParts", unfollowed := true, recurses := true, loops := true, apart := false, narrowed := true }
def PaperPartsUptoSaid : Prop := paperPartsUptoRow.holds Try.pinned (OpenSpec.upto paperPartsSpec)

/-- 'allongelaw12.PaperSums', WHERE WHAT IT READS IS OF BULK AT MOST 1048576: true; the input reads as it did. -/
def paperSumsUptoRow : OpenClaim := { program := "ytfhebiceipgdmaa", sum := "3c143bc9d5f0c8af7f894b8d2281c252afc609001ec64ccbdc89131a04baa79c", func := "allonge/allongelaw12.PaperSums", spec := "paperSums", unfollowed := true, recurses := true, loops := true, apart := false, narrowed := true }
def PaperSumsUptoSaid : Prop := paperSumsUptoRow.holds Try.pinned (OpenSpec.upto paperSumsSpec)

/-- 'allongelaw12.PaperLess', WHERE WHAT IT READS IS OF BULK AT MOST 1048576: true; the input reads as it did. -/
def paperLessUptoRow : OpenClaim := { program := "ytfhebiceipgdmaa", sum := "3c143bc9d5f0c8af7f894b8d2281c252afc609001ec64ccbdc89131a04baa79c", func := "allonge/allongelaw12.PaperLess", spec := "paperLess", unfollowed := true, recurses := true, loops := true, apart := false, narrowed := true }
def PaperLessUptoSaid : Prop := paperLessUptoRow.holds Try.pinned (OpenSpec.upto paperLessSpec)

/-- 'allongelaw12.PaperTells', WHERE WHAT IT READS IS OF BULK AT MOST 1048576: true; the input reads as it did. -/
def paperTellsUptoRow : OpenClaim := { program := "ytfhebiceipgdmaa", sum := "3c143bc9d5f0c8af7f894b8d2281c252afc609001ec64ccbdc89131a04baa79c", func := "allonge/allongelaw12.PaperTells", spec := "paperTells", unfollowed := true, recurses := true, loops := true, apart := false, narrowed := true }
def PaperTellsUptoSaid : Prop := paperTellsUptoRow.holds Try.pinned (OpenSpec.upto paperTellsSpec)

/-- 'allongelaw12.PaperStruck', WHERE WHAT IT READS IS OF BULK AT MOST 1048576: true; the input reads as it did. -/
def paperStruckUptoRow : OpenClaim := { program := "ytfhebiceipgdmaa", sum := "3c143bc9d5f0c8af7f894b8d2281c252afc609001ec64ccbdc89131a04baa79c", func := "allonge/allongelaw12.PaperStruck", spec := "paperStruck", unfollowed := true, recurses := true, apart := false, narrowed := true }
def PaperStruckUptoSaid : Prop := paperStruckUptoRow.holds Try.pinned (OpenSpec.upto paperStruckSpec)

/-- 'allongelaw14.RecordDays', WHERE WHAT IT READS IS OF BULK AT MOST 1048576: true; the input reads as it did. -/
def recordDaysUptoRow : OpenClaim := { program := "ytfhebiceipgdmaa", sum := "3c143bc9d5f0c8af7f894b8d2281c252afc609001ec64ccbdc89131a04baa79c", func := "allonge/allongelaw14.RecordDays", spec := "recordDays", unfollowed := true, recurses := true, loops := true, apart := false, narrowed := true }
def RecordDaysUptoSaid : Prop := recordDaysUptoRow.holds Try.pinned (OpenSpec.upto recordDaysSpec)

/-- 'allongelaw14.RecordSeen', WHERE WHAT IT READS IS OF BULK AT MOST 1048576: true; the input reads as it did. -/
def recordSeenUptoRow : OpenClaim := { program := "ytfhebiceipgdmaa", sum := "3c143bc9d5f0c8af7f894b8d2281c252afc609001ec64ccbdc89131a04baa79c", func := "allonge/allongelaw14.RecordSeen", spec := "recordSeen", unfollowed := true, recurses := true, loops := true, apart := false, narrowed := true }
def RecordSeenUptoSaid : Prop := recordSeenUptoRow.holds Try.pinned (OpenSpec.upto recordSeenSpec)

end Rows
end Go.Proofs.Ytfhebiceipgdmaa
