/-
  No cell of these rows narrows 'for every input' (looked for: loops, veiled, ifaces, maps, wideKeys, modest, calm, conditions, laid).
  DERIVED. THE GIVEN ROWS OF THIS SEAT. 5 by the template 'for every input the law returns true; each argument reads behind the call as it read before'; 0 by the template 'total and deterministic' (their statements: YtiimibimkpimbaaTotals.lean).
  GIVEN WITH THE SEED: the statements are not yours to turn. If you find one false, say at which input.
  Laid BY PROGRAM, IN A SANDBOX (cutbox-rows.mjs): the forced cells as the released guide's own fill.sh prints them over the translation ba801f9f35937270… (all of the seat's roots in one cut). By AI agents, Wed Nov 11 2026. No macro, syntax, notation, axiom, sorry.
-/
import Derived.Test.YtiimibimkpimbaaChecked
import GoSem.Claim
import GoSem.ClaimJoined
import GoSem.ClaimMapViews
import Derived.JoinedTies
import Derived.KernelRfl
namespace Go.Proofs.Ytiimibimkpimbaa
/- THE CELL 'sum', in the pinned program and in every row, IS THE sha256 OF THE DUMP (.gsa) THAT YtiimibimkpimbaaProg.lean LOADS. Nothing in Lean hashes anything: it is a label: what it is worth is what the hold of that sum in a sandbox is worth. -/
noncomputable def Try.pinned : Pinned := { name := "ytiimibimkpimbaa", sum := "ba801f9f35937270c71584ae4d38b845a7270ff49b6c46d218339a5a28725d91", checked := Try.checked }
namespace Rows
def none {H : Type} : Left H := { results := [], args := [] }

/-- 'allongelaw44.FairOrder': WHATEVER THE INPUT: true; the input reads as it did. -/
def fairOrderSpec : ChangeSpec := { name := "fairOrder", fn := fun _ => fun
  | [d1, d2, d3, d4, d5, d6] => { results := [.lit (.bool true)], args := [d1, d2, d3, d4, d5, d6] }
  | _ => none }
def fairOrderRow : OpenClaim := { program := "ytiimibimkpimbaa", sum := "ba801f9f35937270c71584ae4d38b845a7270ff49b6c46d218339a5a28725d91", func := "allonge/allongelaw44.FairOrder", spec := "fairOrder", unfollowed := true, recurses := true, plainKeys := false, apart := false }
def FairOrderSaid : Prop := fairOrderRow.holds Try.pinned (OpenSpec.ofChange fairOrderSpec)

/-- ITS FALSE NEIGHBOUR: 'it returns false'. Refute it at one input. -/
def fairOrderWrong : ChangeSpec := { name := "fairOrder", fn := fun _ => fun
  | [d1, d2, d3, d4, d5, d6] => { results := [.lit (.bool false)], args := [d1, d2, d3, d4, d5, d6] }
  | _ => none }
def FairOrderWrongFalsely : Prop := fairOrderRow.holds Try.pinned (OpenSpec.ofChange fairOrderWrong)

/-- 'allongelaw44.FairNets': WHATEVER THE INPUT: true; the input reads as it did. -/
def fairNetsSpec : ChangeSpec := { name := "fairNets", fn := fun _ => fun
  | [d1, d2, d3, d4] => { results := [.lit (.bool true)], args := [d1, d2, d3, d4] }
  | _ => none }
def fairNetsRow : OpenClaim := { program := "ytiimibimkpimbaa", sum := "ba801f9f35937270c71584ae4d38b845a7270ff49b6c46d218339a5a28725d91", func := "allonge/allongelaw44.FairNets", spec := "fairNets", unfollowed := true, recurses := true, plainKeys := false, apart := false }
def FairNetsSaid : Prop := fairNetsRow.holds Try.pinned (OpenSpec.ofChange fairNetsSpec)

/-- ITS FALSE NEIGHBOUR: 'it returns false'. Refute it at one input. -/
def fairNetsWrong : ChangeSpec := { name := "fairNets", fn := fun _ => fun
  | [d1, d2, d3, d4] => { results := [.lit (.bool false)], args := [d1, d2, d3, d4] }
  | _ => none }
def FairNetsWrongFalsely : Prop := fairNetsRow.holds Try.pinned (OpenSpec.ofChange fairNetsWrong)

/-- 'allongelaw44.FairCut': WHATEVER THE INPUT: true; the input reads as it did. -/
def fairCutSpec : ChangeSpec := { name := "fairCut", fn := fun _ => fun
  | [d1, d2, d3, d4, d5, d6] => { results := [.lit (.bool true)], args := [d1, d2, d3, d4, d5, d6] }
  | _ => none }
def fairCutRow : OpenClaim := { program := "ytiimibimkpimbaa", sum := "ba801f9f35937270c71584ae4d38b845a7270ff49b6c46d218339a5a28725d91", func := "allonge/allongelaw44.FairCut", spec := "fairCut", unfollowed := true, recurses := true, plainKeys := false, apart := false }
def FairCutSaid : Prop := fairCutRow.holds Try.pinned (OpenSpec.ofChange fairCutSpec)

/-- ITS FALSE NEIGHBOUR: 'it returns false'. Refute it at one input. -/
def fairCutWrong : ChangeSpec := { name := "fairCut", fn := fun _ => fun
  | [d1, d2, d3, d4, d5, d6] => { results := [.lit (.bool false)], args := [d1, d2, d3, d4, d5, d6] }
  | _ => none }
def FairCutWrongFalsely : Prop := fairCutRow.holds Try.pinned (OpenSpec.ofChange fairCutWrong)

/-- 'allongelaw44.FairReopens': WHATEVER THE INPUT: true; the input reads as it did. -/
def fairReopensSpec : ChangeSpec := { name := "fairReopens", fn := fun _ => fun
  | [d1, d2, d3, d4, d5, d6] => { results := [.lit (.bool true)], args := [d1, d2, d3, d4, d5, d6] }
  | _ => none }
def fairReopensRow : OpenClaim := { program := "ytiimibimkpimbaa", sum := "ba801f9f35937270c71584ae4d38b845a7270ff49b6c46d218339a5a28725d91", func := "allonge/allongelaw44.FairReopens", spec := "fairReopens", unfollowed := true, recurses := true, plainKeys := false, apart := false }
def FairReopensSaid : Prop := fairReopensRow.holds Try.pinned (OpenSpec.ofChange fairReopensSpec)

/-- ITS FALSE NEIGHBOUR: 'it returns false'. Refute it at one input. -/
def fairReopensWrong : ChangeSpec := { name := "fairReopens", fn := fun _ => fun
  | [d1, d2, d3, d4, d5, d6] => { results := [.lit (.bool false)], args := [d1, d2, d3, d4, d5, d6] }
  | _ => none }
def FairReopensWrongFalsely : Prop := fairReopensRow.holds Try.pinned (OpenSpec.ofChange fairReopensWrong)

/-- 'allongelaw44.FairBest': WHATEVER THE INPUT: true; the input reads as it did. -/
def fairBestSpec : ChangeSpec := { name := "fairBest", fn := fun _ => fun
  | [d1, d2, d3, d4] => { results := [.lit (.bool true)], args := [d1, d2, d3, d4] }
  | _ => none }
def fairBestRow : OpenClaim := { program := "ytiimibimkpimbaa", sum := "ba801f9f35937270c71584ae4d38b845a7270ff49b6c46d218339a5a28725d91", func := "allonge/allongelaw44.FairBest", spec := "fairBest", unfollowed := true, recurses := true, plainKeys := false, apart := false }
def FairBestSaid : Prop := fairBestRow.holds Try.pinned (OpenSpec.ofChange fairBestSpec)

/-- ITS FALSE NEIGHBOUR: 'it returns false'. Refute it at one input. -/
def fairBestWrong : ChangeSpec := { name := "fairBest", fn := fun _ => fun
  | [d1, d2, d3, d4] => { results := [.lit (.bool false)], args := [d1, d2, d3, d4] }
  | _ => none }
def FairBestWrongFalsely : Prop := fairBestRow.holds Try.pinned (OpenSpec.ofChange fairBestWrong)

/- THE SECOND FORM. 'bulk': how many values and letters a reading holds, each counted each time it is reached (what is shared counts as often as it is met; a slice's spare places count too). A statement '..UptoSaid' is the law's where the arguments, and the package variables that the reading takes, are together of bulk at most 1048576: NARROWER than '..Said'. Prove '..Said' where nothing that the law and all that it calls make is longer than what came in: it says more and counts as full. Else prove '..UptoSaid'. A law counts once. -/
mutual
def uptoBulk {H : Type} : DataW H → Nat
  | .lit (.string bytes) => bytes.length + 1
  | .lit _ => 1
  | .nil => 1
  | .ptr d => uptoBulk d + 1
  | .slice elems spare => uptoBulkAll elems + uptoBulkAll spare + 1
  | .agg parts => uptoBulkAll parts + 1
  | .iface _ d => uptoBulk d + 1
  | .map entries => uptoBulkEntries entries + 1
  | .held _ => 1
def uptoBulkAll {H : Type} : List (DataW H) → Nat
  | [] => 0
  | d :: r => uptoBulk d + uptoBulkAll r
def uptoBulkEntries {H : Type} : List (Lit × DataW H) → Nat
  | [] => 0
  | x :: r => uptoBulkEntry x + uptoBulkEntries r
def uptoBulkEntry {H : Type} : Lit × DataW H → Nat
  | (.string bytes, d) => bytes.length + uptoBulk d + 1
  | (_, d) => uptoBulk d + 1
 end
def uptoSmall : (H : Type) → List (DataW H) → Bool := fun _ ds => decide (uptoBulkAll ds ≤ 1048576)
def OpenSpec.upto (s : _root_.Go.ChangeSpec) : _root_.Go.OpenSpec := { _root_.Go.OpenSpec.ofChange s with cond := some uptoSmall }

/-- 'allongelaw44.FairOrder', WHERE WHAT IT READS IS OF BULK AT MOST 1048576: true; the input reads as it did. -/
def fairOrderUptoRow : OpenClaim := { program := "ytiimibimkpimbaa", sum := "ba801f9f35937270c71584ae4d38b845a7270ff49b6c46d218339a5a28725d91", func := "allonge/allongelaw44.FairOrder", spec := "fairOrder", unfollowed := true, recurses := true, plainKeys := false, apart := false, narrowed := true }
def FairOrderUptoSaid : Prop := fairOrderUptoRow.holds Try.pinned (OpenSpec.upto fairOrderSpec)

/-- 'allongelaw44.FairNets', WHERE WHAT IT READS IS OF BULK AT MOST 1048576: true; the input reads as it did. -/
def fairNetsUptoRow : OpenClaim := { program := "ytiimibimkpimbaa", sum := "ba801f9f35937270c71584ae4d38b845a7270ff49b6c46d218339a5a28725d91", func := "allonge/allongelaw44.FairNets", spec := "fairNets", unfollowed := true, recurses := true, plainKeys := false, apart := false, narrowed := true }
def FairNetsUptoSaid : Prop := fairNetsUptoRow.holds Try.pinned (OpenSpec.upto fairNetsSpec)

/-- 'allongelaw44.FairCut', WHERE WHAT IT READS IS OF BULK AT MOST 1048576: true; the input reads as it did. -/
def fairCutUptoRow : OpenClaim := { program := "ytiimibimkpimbaa", sum := "ba801f9f35937270c71584ae4d38b845a7270ff49b6c46d218339a5a28725d91", func := "allonge/allongelaw44.FairCut", spec := "fairCut", unfollowed := true, recurses := true, plainKeys := false, apart := false, narrowed := true }
def FairCutUptoSaid : Prop := fairCutUptoRow.holds Try.pinned (OpenSpec.upto fairCutSpec)

/-- 'allongelaw44.FairReopens', WHERE WHAT IT READS IS OF BULK AT MOST 1048576: true; the input reads as it did. -/
def fairReopensUptoRow : OpenClaim := { program := "ytiimibimkpimbaa", sum := "ba801f9f35937270c71584ae4d38b845a7270ff49b6c46d218339a5a28725d91", func := "allonge/allongelaw44.FairReopens", spec := "fairReopens", unfollowed := true, recurses := true, plainKeys := false, apart := false, narrowed := true }
def FairReopensUptoSaid : Prop := fairReopensUptoRow.holds Try.pinned (OpenSpec.upto fairReopensSpec)

/-- 'allongelaw44.FairBest', WHERE WHAT IT READS IS OF BULK AT MOST 1048576: true; the input reads as it did. -/
def fairBestUptoRow : OpenClaim := { program := "ytiimibimkpimbaa", sum := "ba801f9f35937270c71584ae4d38b845a7270ff49b6c46d218339a5a28725d91", func := "allonge/allongelaw44.FairBest", spec := "fairBest", unfollowed := true, recurses := true, plainKeys := false, apart := false, narrowed := true }
def FairBestUptoSaid : Prop := fairBestUptoRow.holds Try.pinned (OpenSpec.upto fairBestSpec)

end Rows
end Go.Proofs.Ytiimibimkpimbaa
