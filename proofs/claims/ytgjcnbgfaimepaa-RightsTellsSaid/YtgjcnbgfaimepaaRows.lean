/-
  No cell of these rows narrows 'for every input' (looked for: loops, veiled, ifaces, maps, wideKeys, modest, calm, conditions, laid).
  DERIVED. THE GIVEN ROWS OF THIS SEAT. 5 by the template 'for every input the law returns true; each argument reads behind the call as it read before'; 0 by the template 'total and deterministic' (their statements: YtgjcnbgfaimepaaTotals.lean).
  GIVEN WITH THE SEED: the statements are not yours to turn. If you find one false, say at which input.
  Laid BY PROGRAM, IN A SANDBOX (cutbox-rows.mjs): the forced cells as the released guide's own fill.sh prints them over the translation 913ee1d2f8c13411… (all of the seat's roots in one cut). By AI agents, Wed Nov 11 2026. No macro, syntax, notation, axiom, sorry.
-/
import Derived.Test.YtgjcnbgfaimepaaChecked
import GoSem.Claim
import GoSem.ClaimJoined
import GoSem.ClaimMapViews
import Derived.JoinedTies
import Derived.KernelRfl
namespace Go.Proofs.Ytgjcnbgfaimepaa
/- THE CELL 'sum', in the pinned program and in every row, IS THE sha256 OF THE DUMP (.gsa) THAT YtgjcnbgfaimepaaProg.lean LOADS. Nothing in Lean hashes anything: it is a label: what it is worth is what the hold of that sum in a sandbox is worth. -/
noncomputable def Try.pinned : Pinned := { name := "ytgjcnbgfaimepaa", sum := "913ee1d2f8c134113cd399871457e2338f07147d9352c9d155964035ac53f84c", checked := Try.checked }
namespace Rows
def none {H : Type} : Left H := { results := [], args := [] }

/-- 'allongelaw43.RightsTells': WHATEVER THE INPUT: true; the input reads as it did. -/
def rightsTellsSpec : ChangeSpec := { name := "rightsTells", fn := fun _ => fun
  | [d1, d2, d3, d4, d5] => { results := [.lit (.bool true)], args := [d1, d2, d3, d4, d5] }
  | _ => none }
def rightsTellsRow : OpenClaim := { program := "ytgjcnbgfaimepaa", sum := "913ee1d2f8c134113cd399871457e2338f07147d9352c9d155964035ac53f84c", func := "allonge/allongelaw43.RightsTells", spec := "rightsTells", unfollowed := true, recurses := true, apart := false }
def RightsTellsSaid : Prop := rightsTellsRow.holds Try.pinned (OpenSpec.ofChange rightsTellsSpec)

/-- ITS FALSE NEIGHBOUR: 'it returns false'. Refute it at one input. -/
def rightsTellsWrong : ChangeSpec := { name := "rightsTells", fn := fun _ => fun
  | [d1, d2, d3, d4, d5] => { results := [.lit (.bool false)], args := [d1, d2, d3, d4, d5] }
  | _ => none }
def RightsTellsWrongFalsely : Prop := rightsTellsRow.holds Try.pinned (OpenSpec.ofChange rightsTellsWrong)

/-- 'allongelaw43.RightsMore': WHATEVER THE INPUT: true; the input reads as it did. -/
def rightsMoreSpec : ChangeSpec := { name := "rightsMore", fn := fun _ => fun
  | [d1, d2, d3] => { results := [.lit (.bool true)], args := [d1, d2, d3] }
  | _ => none }
def rightsMoreRow : OpenClaim := { program := "ytgjcnbgfaimepaa", sum := "913ee1d2f8c134113cd399871457e2338f07147d9352c9d155964035ac53f84c", func := "allonge/allongelaw43.RightsMore", spec := "rightsMore", unfollowed := true, recurses := true, apart := false }
def RightsMoreSaid : Prop := rightsMoreRow.holds Try.pinned (OpenSpec.ofChange rightsMoreSpec)

/-- ITS FALSE NEIGHBOUR: 'it returns false'. Refute it at one input. -/
def rightsMoreWrong : ChangeSpec := { name := "rightsMore", fn := fun _ => fun
  | [d1, d2, d3] => { results := [.lit (.bool false)], args := [d1, d2, d3] }
  | _ => none }
def RightsMoreWrongFalsely : Prop := rightsMoreRow.holds Try.pinned (OpenSpec.ofChange rightsMoreWrong)

/-- 'allongelaw43.RightsRaise': WHATEVER THE INPUT: true; the input reads as it did. -/
def rightsRaiseSpec : ChangeSpec := { name := "rightsRaise", fn := fun _ => fun
  | [d1, d2, d3] => { results := [.lit (.bool true)], args := [d1, d2, d3] }
  | _ => none }
def rightsRaiseRow : OpenClaim := { program := "ytgjcnbgfaimepaa", sum := "913ee1d2f8c134113cd399871457e2338f07147d9352c9d155964035ac53f84c", func := "allonge/allongelaw43.RightsRaise", spec := "rightsRaise", unfollowed := true, recurses := true, apart := false }
def RightsRaiseSaid : Prop := rightsRaiseRow.holds Try.pinned (OpenSpec.ofChange rightsRaiseSpec)

/-- ITS FALSE NEIGHBOUR: 'it returns false'. Refute it at one input. -/
def rightsRaiseWrong : ChangeSpec := { name := "rightsRaise", fn := fun _ => fun
  | [d1, d2, d3] => { results := [.lit (.bool false)], args := [d1, d2, d3] }
  | _ => none }
def RightsRaiseWrongFalsely : Prop := rightsRaiseRow.holds Try.pinned (OpenSpec.ofChange rightsRaiseWrong)

/-- 'allongelaw43.RightsKeeps': WHATEVER THE INPUT: true; the input reads as it did. -/
def rightsKeepsSpec : ChangeSpec := { name := "rightsKeeps", fn := fun _ => fun
  | [d1, d2, d3] => { results := [.lit (.bool true)], args := [d1, d2, d3] }
  | _ => none }
def rightsKeepsRow : OpenClaim := { program := "ytgjcnbgfaimepaa", sum := "913ee1d2f8c134113cd399871457e2338f07147d9352c9d155964035ac53f84c", func := "allonge/allongelaw43.RightsKeeps", spec := "rightsKeeps", unfollowed := true, recurses := true, apart := false }
def RightsKeepsSaid : Prop := rightsKeepsRow.holds Try.pinned (OpenSpec.ofChange rightsKeepsSpec)

/-- ITS FALSE NEIGHBOUR: 'it returns false'. Refute it at one input. -/
def rightsKeepsWrong : ChangeSpec := { name := "rightsKeeps", fn := fun _ => fun
  | [d1, d2, d3] => { results := [.lit (.bool false)], args := [d1, d2, d3] }
  | _ => none }
def RightsKeepsWrongFalsely : Prop := rightsKeepsRow.holds Try.pinned (OpenSpec.ofChange rightsKeepsWrong)

/-- 'allongelaw43.RightsPays': WHATEVER THE INPUT: true; the input reads as it did. -/
def rightsPaysSpec : ChangeSpec := { name := "rightsPays", fn := fun _ => fun
  | [d1, d2, d3, d4] => { results := [.lit (.bool true)], args := [d1, d2, d3, d4] }
  | _ => none }
def rightsPaysRow : OpenClaim := { program := "ytgjcnbgfaimepaa", sum := "913ee1d2f8c134113cd399871457e2338f07147d9352c9d155964035ac53f84c", func := "allonge/allongelaw43.RightsPays", spec := "rightsPays", unfollowed := true, recurses := true, apart := false }
def RightsPaysSaid : Prop := rightsPaysRow.holds Try.pinned (OpenSpec.ofChange rightsPaysSpec)

/-- ITS FALSE NEIGHBOUR: 'it returns false'. Refute it at one input. -/
def rightsPaysWrong : ChangeSpec := { name := "rightsPays", fn := fun _ => fun
  | [d1, d2, d3, d4] => { results := [.lit (.bool false)], args := [d1, d2, d3, d4] }
  | _ => none }
def RightsPaysWrongFalsely : Prop := rightsPaysRow.holds Try.pinned (OpenSpec.ofChange rightsPaysWrong)

/- THE SECOND FORM. 'bulk': how many values and letters a reading holds, each counted each time it is reached (what is shared counts as often as it is met; a slice's spare places count too). A statement '..UptoSaid' is the law's where the arguments, and the package variables that the reading takes, are together of bulk at most 1048576: NARROWER than '..Said'. Prove '..Said' where nothing that the law and all that it calls make is longer than what came in: it says more and counts as full. Else prove '..UptoSaid'. A law counts once. -/
mutual
def uptoBulk {H : Type} : DataW H → Nat
  | .lit (.string bytes) => bytes.length + 1
  | .lit _ => 1
  | .nil => 1
  | .ptr d => uptoBulk d + 1
  | .slice elems spare => uptoBulkAll elems + uptoBulkAll spare + 1
  | .agg parts => uptoBulkAll parts + 1
  | .iface _ d => uptoBulk d + 1
  | .map entries => uptoBulkEntries entries + 1
  | .held _ => 1
def uptoBulkAll {H : Type} : List (DataW H) → Nat
  | [] => 0
  | d :: r => uptoBulk d + uptoBulkAll r
def uptoBulkEntries {H : Type} : List (Lit × DataW H) → Nat
  | [] => 0
  | x :: r => uptoBulkEntry x + uptoBulkEntries r
def uptoBulkEntry {H : Type} : Lit × DataW H → Nat
  | (.string bytes, d) => bytes.length + uptoBulk d + 1
  | (_, d) => uptoBulk d + 1
 end
def uptoSmall : (H : Type) → List (DataW H) → Bool := fun _ ds => decide (uptoBulkAll ds ≤ 1048576)
def OpenSpec.upto (s : _root_.Go.ChangeSpec) : _root_.Go.OpenSpec := { _root_.Go.OpenSpec.ofChange s with cond := some uptoSmall }

/-- 'allongelaw43.RightsTells', WHERE WHAT IT READS IS OF BULK AT MOST 1048576: true; the input reads as it did. -/
def rightsTellsUptoRow : OpenClaim := { program := "ytgjcnbgfaimepaa", sum := "913ee1d2f8c134113cd399871457e2338f07147d9352c9d155964035ac53f84c", func := "allonge/allongelaw43.RightsTells", spec := "rightsTells", unfollowed := true, recurses := true, apart := false, narrowed := true }
def RightsTellsUptoSaid : Prop := rightsTellsUptoRow.holds Try.pinned (OpenSpec.upto rightsTellsSpec)

/-- 'allongelaw43.RightsMore', WHERE WHAT IT READS IS OF BULK AT MOST 1048576: true; the input reads as it did. -/
def rightsMoreUptoRow : OpenClaim := { program := "ytgjcnbgfaimepaa", sum := "913ee1d2f8c134113cd399871457e2338f07147d9352c9d155964035ac53f84c", func := "allonge/allongelaw43.RightsMore", spec := "rightsMore", unfollowed := true, recurses := true, apart := false, narrowed := true }
def RightsMoreUptoSaid : Prop := rightsMoreUptoRow.holds Try.pinned (OpenSpec.upto rightsMoreSpec)

/-- 'allongelaw43.RightsRaise', WHERE WHAT IT READS IS OF BULK AT MOST 1048576: true; the input reads as it did. -/
def rightsRaiseUptoRow : OpenClaim := { program := "ytgjcnbgfaimepaa", sum := "913ee1d2f8c134113cd399871457e2338f07147d9352c9d155964035ac53f84c", func := "allonge/allongelaw43.RightsRaise", spec := "rightsRaise", unfollowed := true, recurses := true, apart := false, narrowed := true }
def RightsRaiseUptoSaid : Prop := rightsRaiseUptoRow.holds Try.pinned (OpenSpec.upto rightsRaiseSpec)

/-- 'allongelaw43.RightsKeeps', WHERE WHAT IT READS IS OF BULK AT MOST 1048576: true; the input reads as it did. -/
def rightsKeepsUptoRow : OpenClaim := { program := "ytgjcnbgfaimepaa", sum := "913ee1d2f8c134113cd399871457e2338f07147d9352c9d155964035ac53f84c", func := "allonge/allongelaw43.RightsKeeps", spec := "rightsKeeps", unfollowed := true, recurses := true, apart := false, narrowed := true }
def RightsKeepsUptoSaid : Prop := rightsKeepsUptoRow.holds Try.pinned (OpenSpec.upto rightsKeepsSpec)

/-- 'allongelaw43.RightsPays', WHERE WHAT IT READS IS OF BULK AT MOST 1048576: true; the input reads as it did. -/
def rightsPaysUptoRow : OpenClaim := { program := "ytgjcnbgfaimepaa", sum := "913ee1d2f8c134113cd399871457e2338f07147d9352c9d155964035ac53f84c", func := "allonge/allongelaw43.RightsPays", spec := "rightsPays", unfollowed := true, recurses := true, apart := false, narrowed := true }
def RightsPaysUptoSaid : Prop := rightsPaysUptoRow.holds Try.pinned (OpenSpec.upto rightsPaysSpec)

end Rows
end Go.Proofs.Ytgjcnbgfaimepaa
