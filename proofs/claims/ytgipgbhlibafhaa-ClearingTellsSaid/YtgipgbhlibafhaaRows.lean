/-
  No cell of these rows narrows 'for every input' (looked for: loops, veiled, ifaces, maps, wideKeys, modest, calm, conditions, laid).
  DERIVED. THE GIVEN ROWS OF THIS SEAT. 10 by the template 'for every input the law returns true; each argument reads behind the call as it read before'; 0 by the template 'total and deterministic' (their statements: YtgipgbhlibafhaaTotals.lean).
  GIVEN WITH THE SEED: the statements are not yours to turn. If you find one false, say at which input.
  Laid BY PROGRAM, IN A SANDBOX (cutbox-rows.mjs): the forced cells as the released guide's own fill.sh prints them over the translation 16063efb2f409c93… (all of the seat's roots in one cut). By AI agents, Wed Nov 11 2026. No macro, syntax, notation, axiom, sorry.
-/
import Derived.Test.YtgipgbhlibafhaaChecked
import GoSem.Claim
import GoSem.ClaimJoined
import GoSem.ClaimMapViews
import Derived.JoinedTies
import Derived.KernelRfl
namespace Go.Proofs.Ytgipgbhlibafhaa
/- THE CELL 'sum', in the pinned program and in every row, IS THE sha256 OF THE DUMP (.gsa) THAT YtgipgbhlibafhaaProg.lean LOADS. Nothing in Lean hashes anything: it is a label: what it is worth is what the hold of that sum in a sandbox is worth. -/
noncomputable def Try.pinned : Pinned := { name := "ytgipgbhlibafhaa", sum := "16063efb2f409c935a4836069ccbcfc265cf4106a9d03f224fe59de4c135944f", checked := Try.checked }
namespace Rows
def none {H : Type} : Left H := { results := [], args := [] }

/-- 'allongelaw42.ClearingTells': WHATEVER THE INPUT: true; the input reads as it did. -/
def clearingTellsSpec : ChangeSpec := { name := "clearingTells", fn := fun _ => fun
  | [d1, d2, d3, d4] => { results := [.lit (.bool true)], args := [d1, d2, d3, d4] }
  | _ => none }
def clearingTellsRow : OpenClaim := { program := "ytgipgbhlibafhaa", sum := "16063efb2f409c935a4836069ccbcfc265cf4106a9d03f224fe59de4c135944f", func := "allonge/allongelaw42.ClearingTells", spec := "clearingTells", unfollowed := true, recurses := true, apart := false }
def ClearingTellsSaid : Prop := clearingTellsRow.holds Try.pinned (OpenSpec.ofChange clearingTellsSpec)

/-- ITS FALSE NEIGHBOUR: 'it returns false'. Refute it at one input. -/
def clearingTellsWrong : ChangeSpec := { name := "clearingTells", fn := fun _ => fun
  | [d1, d2, d3, d4] => { results := [.lit (.bool false)], args := [d1, d2, d3, d4] }
  | _ => none }
def ClearingTellsWrongFalsely : Prop := clearingTellsRow.holds Try.pinned (OpenSpec.ofChange clearingTellsWrong)

/-- 'allongelaw42.ClearingBest': WHATEVER THE INPUT: true; the input reads as it did. -/
def clearingBestSpec : ChangeSpec := { name := "clearingBest", fn := fun _ => fun
  | [d1, d2, d3] => { results := [.lit (.bool true)], args := [d1, d2, d3] }
  | _ => none }
def clearingBestRow : OpenClaim := { program := "ytgipgbhlibafhaa", sum := "16063efb2f409c935a4836069ccbcfc265cf4106a9d03f224fe59de4c135944f", func := "allonge/allongelaw42.ClearingBest", spec := "clearingBest", unfollowed := true, recurses := true, apart := false }
def ClearingBestSaid : Prop := clearingBestRow.holds Try.pinned (OpenSpec.ofChange clearingBestSpec)

/-- ITS FALSE NEIGHBOUR: 'it returns false'. Refute it at one input. -/
def clearingBestWrong : ChangeSpec := { name := "clearingBest", fn := fun _ => fun
  | [d1, d2, d3] => { results := [.lit (.bool false)], args := [d1, d2, d3] }
  | _ => none }
def ClearingBestWrongFalsely : Prop := clearingBestRow.holds Try.pinned (OpenSpec.ofChange clearingBestWrong)

/-- 'allongelaw42.ClearingProved': WHATEVER THE INPUT: true; the input reads as it did. -/
def clearingProvedSpec : ChangeSpec := { name := "clearingProved", fn := fun _ => fun
  | [d1, d2, d3, d4] => { results := [.lit (.bool true)], args := [d1, d2, d3, d4] }
  | _ => none }
def clearingProvedRow : OpenClaim := { program := "ytgipgbhlibafhaa", sum := "16063efb2f409c935a4836069ccbcfc265cf4106a9d03f224fe59de4c135944f", func := "allonge/allongelaw42.ClearingProved", spec := "clearingProved", unfollowed := true, recurses := true, apart := false }
def ClearingProvedSaid : Prop := clearingProvedRow.holds Try.pinned (OpenSpec.ofChange clearingProvedSpec)

/-- ITS FALSE NEIGHBOUR: 'it returns false'. Refute it at one input. -/
def clearingProvedWrong : ChangeSpec := { name := "clearingProved", fn := fun _ => fun
  | [d1, d2, d3, d4] => { results := [.lit (.bool false)], args := [d1, d2, d3, d4] }
  | _ => none }
def ClearingProvedWrongFalsely : Prop := clearingProvedRow.holds Try.pinned (OpenSpec.ofChange clearingProvedWrong)

/-- 'allongelaw42.ClearingMore': WHATEVER THE INPUT: true; the input reads as it did. -/
def clearingMoreSpec : ChangeSpec := { name := "clearingMore", fn := fun _ => fun
  | [d1, d2, d3, d4, d5] => { results := [.lit (.bool true)], args := [d1, d2, d3, d4, d5] }
  | _ => none }
def clearingMoreRow : OpenClaim := { program := "ytgipgbhlibafhaa", sum := "16063efb2f409c935a4836069ccbcfc265cf4106a9d03f224fe59de4c135944f", func := "allonge/allongelaw42.ClearingMore", spec := "clearingMore", unfollowed := true, recurses := true, apart := false }
def ClearingMoreSaid : Prop := clearingMoreRow.holds Try.pinned (OpenSpec.ofChange clearingMoreSpec)

/-- ITS FALSE NEIGHBOUR: 'it returns false'. Refute it at one input. -/
def clearingMoreWrong : ChangeSpec := { name := "clearingMore", fn := fun _ => fun
  | [d1, d2, d3, d4, d5] => { results := [.lit (.bool false)], args := [d1, d2, d3, d4, d5] }
  | _ => none }
def ClearingMoreWrongFalsely : Prop := clearingMoreRow.holds Try.pinned (OpenSpec.ofChange clearingMoreWrong)

/-- 'allongelaw42.ClearingLeft': WHATEVER THE INPUT: true; the input reads as it did. -/
def clearingLeftSpec : ChangeSpec := { name := "clearingLeft", fn := fun _ => fun
  | [d1, d2] => { results := [.lit (.bool true)], args := [d1, d2] }
  | _ => none }
def clearingLeftRow : OpenClaim := { program := "ytgipgbhlibafhaa", sum := "16063efb2f409c935a4836069ccbcfc265cf4106a9d03f224fe59de4c135944f", func := "allonge/allongelaw42.ClearingLeft", spec := "clearingLeft", unfollowed := true, recurses := true, apart := false }
def ClearingLeftSaid : Prop := clearingLeftRow.holds Try.pinned (OpenSpec.ofChange clearingLeftSpec)

/-- ITS FALSE NEIGHBOUR: 'it returns false'. Refute it at one input. -/
def clearingLeftWrong : ChangeSpec := { name := "clearingLeft", fn := fun _ => fun
  | [d1, d2] => { results := [.lit (.bool false)], args := [d1, d2] }
  | _ => none }
def ClearingLeftWrongFalsely : Prop := clearingLeftRow.holds Try.pinned (OpenSpec.ofChange clearingLeftWrong)

/-- 'allongelaw43.RightsTells': WHATEVER THE INPUT: true; the input reads as it did. -/
def rightsTellsSpec : ChangeSpec := { name := "rightsTells", fn := fun _ => fun
  | [d1, d2, d3, d4, d5] => { results := [.lit (.bool true)], args := [d1, d2, d3, d4, d5] }
  | _ => none }
def rightsTellsRow : OpenClaim := { program := "ytgipgbhlibafhaa", sum := "16063efb2f409c935a4836069ccbcfc265cf4106a9d03f224fe59de4c135944f", func := "allonge/allongelaw43.RightsTells", spec := "rightsTells", unfollowed := true, recurses := true, apart := false }
def RightsTellsSaid : Prop := rightsTellsRow.holds Try.pinned (OpenSpec.ofChange rightsTellsSpec)

/-- ITS FALSE NEIGHBOUR: 'it returns false'. Refute it at one input. -/
def rightsTellsWrong : ChangeSpec := { name := "rightsTells", fn := fun _ => fun
  | [d1, d2, d3, d4, d5] => { results := [.lit (.bool false)], args := [d1, d2, d3, d4, d5] }
  | _ => none }
def RightsTellsWrongFalsely : Prop := rightsTellsRow.holds Try.pinned (OpenSpec.ofChange rightsTellsWrong)

/-- 'allongelaw43.RightsMore': WHATEVER THE INPUT: true; the input reads as it did. -/
def rightsMoreSpec : ChangeSpec := { name := "rightsMore", fn := fun _ => fun
  | [d1, d2, d3] => { results := [.lit (.bool true)], args := [d1, d2, d3] }
  | _ => none }
def rightsMoreRow : OpenClaim := { program := "ytgipgbhlibafhaa", sum := "16063efb2f409c935a4836069ccbcfc265cf4106a9d03f224fe59de4c135944f", func := "allonge/allongelaw43.RightsMore", spec := "rightsMore", unfollowed := true, recurses := true, apart := false }
def RightsMoreSaid : Prop := rightsMoreRow.holds Try.pinned (OpenSpec.ofChange rightsMoreSpec)

/-- ITS FALSE NEIGHBOUR: 'it returns false'. Refute it at one input. -/
def rightsMoreWrong : ChangeSpec := { name := "rightsMore", fn := fun _ => fun
  | [d1, d2, d3] => { results := [.lit (.bool false)], args := [d1, d2, d3] }
  | _ => none }
def RightsMoreWrongFalsely : Prop := rightsMoreRow.holds Try.pinned (OpenSpec.ofChange rightsMoreWrong)

/-- 'allongelaw43.RightsRaise': WHATEVER THE INPUT: true; the input reads as it did. -/
def rightsRaiseSpec : ChangeSpec := { name := "rightsRaise", fn := fun _ => fun
  | [d1, d2, d3] => { results := [.lit (.bool true)], args := [d1, d2, d3] }
  | _ => none }
def rightsRaiseRow : OpenClaim := { program := "ytgipgbhlibafhaa", sum := "16063efb2f409c935a4836069ccbcfc265cf4106a9d03f224fe59de4c135944f", func := "allonge/allongelaw43.RightsRaise", spec := "rightsRaise", unfollowed := true, recurses := true, apart := false }
def RightsRaiseSaid : Prop := rightsRaiseRow.holds Try.pinned (OpenSpec.ofChange rightsRaiseSpec)

/-- ITS FALSE NEIGHBOUR: 'it returns false'. Refute it at one input. -/
def rightsRaiseWrong : ChangeSpec := { name := "rightsRaise", fn := fun _ => fun
  | [d1, d2, d3] => { results := [.lit (.bool false)], args := [d1, d2, d3] }
  | _ => none }
def RightsRaiseWrongFalsely : Prop := rightsRaiseRow.holds Try.pinned (OpenSpec.ofChange rightsRaiseWrong)

/-- 'allongelaw43.RightsKeeps': WHATEVER THE INPUT: true; the input reads as it did. -/
def rightsKeepsSpec : ChangeSpec := { name := "rightsKeeps", fn := fun _ => fun
  | [d1, d2, d3] => { results := [.lit (.bool true)], args := [d1, d2, d3] }
  | _ => none }
def rightsKeepsRow : OpenClaim := { program := "ytgipgbhlibafhaa", sum := "16063efb2f409c935a4836069ccbcfc265cf4106a9d03f224fe59de4c135944f", func := "allonge/allongelaw43.RightsKeeps", spec := "rightsKeeps", unfollowed := true, recurses := true, apart := false }
def RightsKeepsSaid : Prop := rightsKeepsRow.holds Try.pinned (OpenSpec.ofChange rightsKeepsSpec)

/-- ITS FALSE NEIGHBOUR: 'it returns false'. Refute it at one input. -/
def rightsKeepsWrong : ChangeSpec := { name := "rightsKeeps", fn := fun _ => fun
  | [d1, d2, d3] => { results := [.lit (.bool false)], args := [d1, d2, d3] }
  | _ => none }
def RightsKeepsWrongFalsely : Prop := rightsKeepsRow.holds Try.pinned (OpenSpec.ofChange rightsKeepsWrong)

/-- 'allongelaw43.RightsPays': WHATEVER THE INPUT: true; the input reads as it did. -/
def rightsPaysSpec : ChangeSpec := { name := "rightsPays", fn := fun _ => fun
  | [d1, d2, d3, d4] => { results := [.lit (.bool true)], args := [d1, d2, d3, d4] }
  | _ => none }
def rightsPaysRow : OpenClaim := { program := "ytgipgbhlibafhaa", sum := "16063efb2f409c935a4836069ccbcfc265cf4106a9d03f224fe59de4c135944f", func := "allonge/allongelaw43.RightsPays", spec := "rightsPays", unfollowed := true, recurses := true, apart := false }
def RightsPaysSaid : Prop := rightsPaysRow.holds Try.pinned (OpenSpec.ofChange rightsPaysSpec)

/-- ITS FALSE NEIGHBOUR: 'it returns false'. Refute it at one input. -/
def rightsPaysWrong : ChangeSpec := { name := "rightsPays", fn := fun _ => fun
  | [d1, d2, d3, d4] => { results := [.lit (.bool false)], args := [d1, d2, d3, d4] }
  | _ => none }
def RightsPaysWrongFalsely : Prop := rightsPaysRow.holds Try.pinned (OpenSpec.ofChange rightsPaysWrong)

/- THE SECOND FORM. 'bulk': how many values and letters a reading holds, each counted each time it is reached (what is shared counts as often as it is met; a slice's spare places count too). A statement '..UptoSaid' is the law's where the arguments, and the package variables that the reading takes, are together of bulk at most 1048576: NARROWER than '..Said'. Prove '..Said' where nothing that the law and all that it calls make is longer than what came in: it says more and counts as full. Else prove '..UptoSaid'. A law counts once. -/
mutual
def uptoBulk {H : Type} : DataW H → Nat
  | .lit (.string bytes) => bytes.length + 1
  | .lit _ => 1
  | .nil => 1
  | .ptr d => uptoBulk d + 1
  | .slice elems spare => uptoBulkAll elems + uptoBulkAll spare + 1
  | .agg parts => uptoBulkAll parts + 1
  | .iface _ d => uptoBulk d + 1
  | .map entries => uptoBulkEntries entries + 1
  | .held _ => 1
def uptoBulkAll {H : Type} : List (DataW H) → Nat
  | [] => 0
  | d :: r => uptoBulk d + uptoBulkAll r
def uptoBulkEntries {H : Type} : List (Lit × DataW H) → Nat
  | [] => 0
  | x :: r => uptoBulkEntry x + uptoBulkEntries r
def uptoBulkEntry {H : Type} : Lit × DataW H → Nat
  | (.string bytes, d) => bytes.length + uptoBulk d + 1
  | (_, d) => uptoBulk d + 1
 end
def uptoSmall : (H : Type) → List (DataW H) → Bool := fun _ ds => decide (uptoBulkAll ds ≤ 1048576)
def OpenSpec.upto (s : _root_.Go.ChangeSpec) : _root_.Go.OpenSpec := { _root_.Go.OpenSpec.ofChange s with cond := some uptoSmall }

/-- 'allongelaw42.ClearingTells', WHERE WHAT IT READS IS OF BULK AT MOST 1048576: true; the input reads as it did. -/
def clearingTellsUptoRow : OpenClaim := { program := "ytgipgbhlibafhaa", sum := "16063efb2f409c935a4836069ccbcfc265cf4106a9d03f224fe59de4c135944f", func := "allonge/allongelaw42.ClearingTells", spec := "clearingTells", unfollowed := true, recurses := true, apart := false, narrowed := true }
def ClearingTellsUptoSaid : Prop := clearingTellsUptoRow.holds Try.pinned (OpenSpec.upto clearingTellsSpec)

/-- 'allongelaw42.ClearingBest', WHERE WHAT IT READS IS OF BULK AT MOST 1048576: true; the input reads as it did. -/
def clearingBestUptoRow : OpenClaim := { program := "ytgipgbhlibafhaa", sum := "16063efb2f409c935a4836069ccbcfc265cf4106a9d03f224fe59de4c135944f", func := "allonge/allongelaw42.ClearingBest", spec := "clearingBest", unfollowed := true, recurses := true, apart := false, narrowed := true }
def ClearingBestUptoSaid : Prop := clearingBestUptoRow.holds Try.pinned (OpenSpec.upto clearingBestSpec)

/-- 'allongelaw42.ClearingProved', WHERE WHAT IT READS IS OF BULK AT MOST 1048576: true; the input reads as it did. -/
def clearingProvedUptoRow : OpenClaim := { program := "ytgipgbhlibafhaa", sum := "16063efb2f409c935a4836069ccbcfc265cf4106a9d03f224fe59de4c135944f", func := "allonge/allongelaw42.ClearingProved", spec := "clearingProved", unfollowed := true, recurses := true, apart := false, narrowed := true }
def ClearingProvedUptoSaid : Prop := clearingProvedUptoRow.holds Try.pinned (OpenSpec.upto clearingProvedSpec)

/-- 'allongelaw42.ClearingMore', WHERE WHAT IT READS IS OF BULK AT MOST 1048576: true; the input reads as it did. -/
def clearingMoreUptoRow : OpenClaim := { program := "ytgipgbhlibafhaa", sum := "16063efb2f409c935a4836069ccbcfc265cf4106a9d03f224fe59de4c135944f", func := "allonge/allongelaw42.ClearingMore", spec := "clearingMore", unfollowed := true, recurses := true, apart := false, narrowed := true }
def ClearingMoreUptoSaid : Prop := clearingMoreUptoRow.holds Try.pinned (OpenSpec.upto clearingMoreSpec)

/-- 'allongelaw42.ClearingLeft', WHERE WHAT IT READS IS OF BULK AT MOST 1048576: true; the input reads as it did. -/
def clearingLeftUptoRow : OpenClaim := { program := "ytgipgbhlibafhaa", sum := "16063efb2f409c935a4836069ccbcfc265cf4106a9d03f224fe59de4c135944f", func := "allonge/allongelaw42.ClearingLeft", spec := "clearingLeft", unfollowed := true, recurses := true, apart := false, narrowed := true }
def ClearingLeftUptoSaid : Prop := clearingLeftUptoRow.holds Try.pinned (OpenSpec.upto clearingLeftSpec)

/-- 'allongelaw43.RightsTells', WHERE WHAT IT READS IS OF BULK AT MOST 1048576: true; the input reads as it did. -/
def rightsTellsUptoRow : OpenClaim := { program := "ytgipgbhlibafhaa", sum := "16063efb2f409c935a4836069ccbcfc265cf4106a9d03f224fe59de4c135944f", func := "allonge/allongelaw43.RightsTells", spec := "rightsTells", unfollowed := true, recurses := true, apart := false, narrowed := true }
def RightsTellsUptoSaid : Prop := rightsTellsUptoRow.holds Try.pinned (OpenSpec.upto rightsTellsSpec)

/-- 'allongelaw43.RightsMore', WHERE WHAT IT READS IS OF BULK AT MOST 1048576: true; the input reads as it did. -/
def rightsMoreUptoRow : OpenClaim := { program := "ytgipgbhlibafhaa", sum := "16063efb2f409c935a4836069ccbcfc265cf4106a9d03f224fe59de4c135944f", func := "allonge/allongelaw43.RightsMore", spec := "rightsMore", unfollowed := true, recurses := true, apart := false, narrowed := true }
def RightsMoreUptoSaid : Prop := rightsMoreUptoRow.holds Try.pinned (OpenSpec.upto rightsMoreSpec)

/-- 'allongelaw43.RightsRaise', WHERE WHAT IT READS IS OF BULK AT MOST 1048576: true; the input reads as it did. -/
def rightsRaiseUptoRow : OpenClaim := { program := "ytgipgbhlibafhaa", sum := "16063efb2f409c935a4836069ccbcfc265cf4106a9d03f224fe59de4c135944f", func := "allonge/allongelaw43.RightsRaise", spec := "rightsRaise", unfollowed := true, recurses := true, apart := false, narrowed := true }
def RightsRaiseUptoSaid : Prop := rightsRaiseUptoRow.holds Try.pinned (OpenSpec.upto rightsRaiseSpec)

/-- 'allongelaw43.RightsKeeps', WHERE WHAT IT READS IS OF BULK AT MOST 1048576: true; the input reads as it did. -/
def rightsKeepsUptoRow : OpenClaim := { program := "ytgipgbhlibafhaa", sum := "16063efb2f409c935a4836069ccbcfc265cf4106a9d03f224fe59de4c135944f", func := "allonge/allongelaw43.RightsKeeps", spec := "rightsKeeps", unfollowed := true, recurses := true, apart := false, narrowed := true }
def RightsKeepsUptoSaid : Prop := rightsKeepsUptoRow.holds Try.pinned (OpenSpec.upto rightsKeepsSpec)

/-- 'allongelaw43.RightsPays', WHERE WHAT IT READS IS OF BULK AT MOST 1048576: true; the input reads as it did. -/
def rightsPaysUptoRow : OpenClaim := { program := "ytgipgbhlibafhaa", sum := "16063efb2f409c935a4836069ccbcfc265cf4106a9d03f224fe59de4c135944f", func := "allonge/allongelaw43.RightsPays", spec := "rightsPays", unfollowed := true, recurses := true, apart := false, narrowed := true }
def RightsPaysUptoSaid : Prop := rightsPaysUptoRow.holds Try.pinned (OpenSpec.upto rightsPaysSpec)

end Rows
end Go.Proofs.Ytgipgbhlibafhaa
