/-
  NARROWER THAN 'FOR EVERY INPUT', by the rows' own cells (each row's printed sentence says how): AuditTells: loops · AuditShows: loops · AuditMends: loops · ConflictEnds: loops.
  DERIVED. THE GIVEN ROWS OF THIS SEAT. 10 by the template 'for every input the law returns true; each argument reads behind the call as it read before'; 0 by the template 'total and deterministic' (their statements: YtlpgfmnicomjjaaTotals.lean).
  GIVEN WITH THE SEED: the statements are not yours to turn. If you find one false, say at which input.
  Laid BY PROGRAM, IN A SANDBOX (cutbox-rows.mjs): the forced cells as the released guide's own fill.sh prints them over the translation 8534d0544fb67eb7… (all of the seat's roots in one cut). By AI agents, Wed Nov 11 2026. No macro, syntax, notation, axiom, sorry.
-/
import Derived.Test.YtlpgfmnicomjjaaChecked
import GoSem.Claim
import GoSem.ClaimJoined
import GoSem.ClaimMapViews
import Derived.JoinedTies
import Derived.KernelRfl
namespace Go.Proofs.Ytlpgfmnicomjjaa
/- THE CELL 'sum', in the pinned program and in every row, IS THE sha256 OF THE DUMP (.gsa) THAT YtlpgfmnicomjjaaProg.lean LOADS. Nothing in Lean hashes anything: it is a label: what it is worth is what the hold of that sum in a sandbox is worth. -/
noncomputable def Try.pinned : Pinned := { name := "ytlpgfmnicomjjaa", sum := "8534d0544fb67eb7bbc65c3301dc3d643107094feb2902d12953e32063097c34", checked := Try.checked }
namespace Rows
def none {H : Type} : Left H := { results := [], args := [] }

/-- 'allongelaw20.AuditTells': WHATEVER THE INPUT: true; the input reads as it did. -/
def auditTellsSpec : ChangeSpec := { name := "auditTells", fn := fun _ => fun
  | [d1, d2] => { results := [.lit (.bool true)], args := [d1, d2] }
  | _ => none }
def auditTellsRow : OpenClaim := { program := "ytlpgfmnicomjjaa", sum := "8534d0544fb67eb7bbc65c3301dc3d643107094feb2902d12953e32063097c34", func := "allonge/allongelaw20.AuditTells", spec := "auditTells", unfollowed := true, recurses := true, loops := true, apart := false }
def AuditTellsSaid : Prop := auditTellsRow.holds Try.pinned (OpenSpec.ofChange auditTellsSpec)

/-- ITS FALSE NEIGHBOUR: 'it returns false'. Refute it at one input. -/
def auditTellsWrong : ChangeSpec := { name := "auditTells", fn := fun _ => fun
  | [d1, d2] => { results := [.lit (.bool false)], args := [d1, d2] }
  | _ => none }
def AuditTellsWrongFalsely : Prop := auditTellsRow.holds Try.pinned (OpenSpec.ofChange auditTellsWrong)

/-- 'allongelaw20.AuditShows': WHATEVER THE INPUT: true; the input reads as it did. -/
def auditShowsSpec : ChangeSpec := { name := "auditShows", fn := fun _ => fun
  | [d1, d2] => { results := [.lit (.bool true)], args := [d1, d2] }
  | _ => none }
def auditShowsRow : OpenClaim := { program := "ytlpgfmnicomjjaa", sum := "8534d0544fb67eb7bbc65c3301dc3d643107094feb2902d12953e32063097c34", func := "allonge/allongelaw20.AuditShows", spec := "auditShows", unfollowed := true, recurses := true, loops := true, apart := false }
def AuditShowsSaid : Prop := auditShowsRow.holds Try.pinned (OpenSpec.ofChange auditShowsSpec)

/-- ITS FALSE NEIGHBOUR: 'it returns false'. Refute it at one input. -/
def auditShowsWrong : ChangeSpec := { name := "auditShows", fn := fun _ => fun
  | [d1, d2] => { results := [.lit (.bool false)], args := [d1, d2] }
  | _ => none }
def AuditShowsWrongFalsely : Prop := auditShowsRow.holds Try.pinned (OpenSpec.ofChange auditShowsWrong)

/-- 'allongelaw20.AuditMends': WHATEVER THE INPUT: true; the input reads as it did. -/
def auditMendsSpec : ChangeSpec := { name := "auditMends", fn := fun _ => fun
  | [d] => { results := [.lit (.bool true)], args := [d] }
  | _ => none }
def auditMendsRow : OpenClaim := { program := "ytlpgfmnicomjjaa", sum := "8534d0544fb67eb7bbc65c3301dc3d643107094feb2902d12953e32063097c34", func := "allonge/allongelaw20.AuditMends", spec := "auditMends", unfollowed := true, recurses := true, loops := true, apart := false }
def AuditMendsSaid : Prop := auditMendsRow.holds Try.pinned (OpenSpec.ofChange auditMendsSpec)

/-- ITS FALSE NEIGHBOUR: 'it returns false'. Refute it at one input. -/
def auditMendsWrong : ChangeSpec := { name := "auditMends", fn := fun _ => fun
  | [d] => { results := [.lit (.bool false)], args := [d] }
  | _ => none }
def AuditMendsWrongFalsely : Prop := auditMendsRow.holds Try.pinned (OpenSpec.ofChange auditMendsWrong)

/-- 'allongelaw06.GraphTells': WHATEVER THE INPUT: true; the input reads as it did. -/
def graphTellsSpec : ChangeSpec := { name := "graphTells", fn := fun _ => fun
  | [d1, d2, d3] => { results := [.lit (.bool true)], args := [d1, d2, d3] }
  | _ => none }
def graphTellsRow : OpenClaim := { program := "ytlpgfmnicomjjaa", sum := "8534d0544fb67eb7bbc65c3301dc3d643107094feb2902d12953e32063097c34", func := "allonge/allongelaw06.GraphTells", spec := "graphTells", recurses := true, apart := false }
def GraphTellsSaid : Prop := graphTellsRow.holds Try.pinned (OpenSpec.ofChange graphTellsSpec)

/-- ITS FALSE NEIGHBOUR: 'it returns false'. Refute it at one input. -/
def graphTellsWrong : ChangeSpec := { name := "graphTells", fn := fun _ => fun
  | [d1, d2, d3] => { results := [.lit (.bool false)], args := [d1, d2, d3] }
  | _ => none }
def GraphTellsWrongFalsely : Prop := graphTellsRow.holds Try.pinned (OpenSpec.ofChange graphTellsWrong)

/-- 'allongelaw06.GraphReaches': WHATEVER THE INPUT: true; the input reads as it did. -/
def graphReachesSpec : ChangeSpec := { name := "graphReaches", fn := fun _ => fun
  | [d1, d2, d3, d4] => { results := [.lit (.bool true)], args := [d1, d2, d3, d4] }
  | _ => none }
def graphReachesRow : OpenClaim := { program := "ytlpgfmnicomjjaa", sum := "8534d0544fb67eb7bbc65c3301dc3d643107094feb2902d12953e32063097c34", func := "allonge/allongelaw06.GraphReaches", spec := "graphReaches", recurses := true, apart := false }
def GraphReachesSaid : Prop := graphReachesRow.holds Try.pinned (OpenSpec.ofChange graphReachesSpec)

/-- ITS FALSE NEIGHBOUR: 'it returns false'. Refute it at one input. -/
def graphReachesWrong : ChangeSpec := { name := "graphReaches", fn := fun _ => fun
  | [d1, d2, d3, d4] => { results := [.lit (.bool false)], args := [d1, d2, d3, d4] }
  | _ => none }
def GraphReachesWrongFalsely : Prop := graphReachesRow.holds Try.pinned (OpenSpec.ofChange graphReachesWrong)

/-- 'allongelaw06.GraphOrders': WHATEVER THE INPUT: true; the input reads as it did. -/
def graphOrdersSpec : ChangeSpec := { name := "graphOrders", fn := fun _ => fun
  | [d1, d2] => { results := [.lit (.bool true)], args := [d1, d2] }
  | _ => none }
def graphOrdersRow : OpenClaim := { program := "ytlpgfmnicomjjaa", sum := "8534d0544fb67eb7bbc65c3301dc3d643107094feb2902d12953e32063097c34", func := "allonge/allongelaw06.GraphOrders", spec := "graphOrders", recurses := true, apart := false }
def GraphOrdersSaid : Prop := graphOrdersRow.holds Try.pinned (OpenSpec.ofChange graphOrdersSpec)

/-- ITS FALSE NEIGHBOUR: 'it returns false'. Refute it at one input. -/
def graphOrdersWrong : ChangeSpec := { name := "graphOrders", fn := fun _ => fun
  | [d1, d2] => { results := [.lit (.bool false)], args := [d1, d2] }
  | _ => none }
def GraphOrdersWrongFalsely : Prop := graphOrdersRow.holds Try.pinned (OpenSpec.ofChange graphOrdersWrong)

/-- 'allongelaw06.GraphShortest': WHATEVER THE INPUT: true; the input reads as it did. -/
def graphShortestSpec : ChangeSpec := { name := "graphShortest", fn := fun _ => fun
  | [d1, d2, d3] => { results := [.lit (.bool true)], args := [d1, d2, d3] }
  | _ => none }
def graphShortestRow : OpenClaim := { program := "ytlpgfmnicomjjaa", sum := "8534d0544fb67eb7bbc65c3301dc3d643107094feb2902d12953e32063097c34", func := "allonge/allongelaw06.GraphShortest", spec := "graphShortest", recurses := true, apart := false }
def GraphShortestSaid : Prop := graphShortestRow.holds Try.pinned (OpenSpec.ofChange graphShortestSpec)

/-- ITS FALSE NEIGHBOUR: 'it returns false'. Refute it at one input. -/
def graphShortestWrong : ChangeSpec := { name := "graphShortest", fn := fun _ => fun
  | [d1, d2, d3] => { results := [.lit (.bool false)], args := [d1, d2, d3] }
  | _ => none }
def GraphShortestWrongFalsely : Prop := graphShortestRow.holds Try.pinned (OpenSpec.ofChange graphShortestWrong)

/-- 'allongelaw06.GraphGroups': WHATEVER THE INPUT: true; the input reads as it did. -/
def graphGroupsSpec : ChangeSpec := { name := "graphGroups", fn := fun _ => fun
  | [d1, d2, d3, d4] => { results := [.lit (.bool true)], args := [d1, d2, d3, d4] }
  | _ => none }
def graphGroupsRow : OpenClaim := { program := "ytlpgfmnicomjjaa", sum := "8534d0544fb67eb7bbc65c3301dc3d643107094feb2902d12953e32063097c34", func := "allonge/allongelaw06.GraphGroups", spec := "graphGroups", recurses := true, apart := false }
def GraphGroupsSaid : Prop := graphGroupsRow.holds Try.pinned (OpenSpec.ofChange graphGroupsSpec)

/-- ITS FALSE NEIGHBOUR: 'it returns false'. Refute it at one input. -/
def graphGroupsWrong : ChangeSpec := { name := "graphGroups", fn := fun _ => fun
  | [d1, d2, d3, d4] => { results := [.lit (.bool false)], args := [d1, d2, d3, d4] }
  | _ => none }
def GraphGroupsWrongFalsely : Prop := graphGroupsRow.holds Try.pinned (OpenSpec.ofChange graphGroupsWrong)

/-- 'allongelaw06.GraphGrows': WHATEVER THE INPUT: true; the input reads as it did. -/
def graphGrowsSpec : ChangeSpec := { name := "graphGrows", fn := fun _ => fun
  | [d1, d2, d3, d4] => { results := [.lit (.bool true)], args := [d1, d2, d3, d4] }
  | _ => none }
def graphGrowsRow : OpenClaim := { program := "ytlpgfmnicomjjaa", sum := "8534d0544fb67eb7bbc65c3301dc3d643107094feb2902d12953e32063097c34", func := "allonge/allongelaw06.GraphGrows", spec := "graphGrows", recurses := true, apart := false }
def GraphGrowsSaid : Prop := graphGrowsRow.holds Try.pinned (OpenSpec.ofChange graphGrowsSpec)

/-- ITS FALSE NEIGHBOUR: 'it returns false'. Refute it at one input. -/
def graphGrowsWrong : ChangeSpec := { name := "graphGrows", fn := fun _ => fun
  | [d1, d2, d3, d4] => { results := [.lit (.bool false)], args := [d1, d2, d3, d4] }
  | _ => none }
def GraphGrowsWrongFalsely : Prop := graphGrowsRow.holds Try.pinned (OpenSpec.ofChange graphGrowsWrong)

/-- 'allongelaw19.ConflictEnds': WHATEVER THE INPUT: true; the input reads as it did. -/
def conflictEndsSpec : ChangeSpec := { name := "conflictEnds", fn := fun _ => fun
  | [d1, d2, d3, d4] => { results := [.lit (.bool true)], args := [d1, d2, d3, d4] }
  | _ => none }
def conflictEndsRow : OpenClaim := { program := "ytlpgfmnicomjjaa", sum := "8534d0544fb67eb7bbc65c3301dc3d643107094feb2902d12953e32063097c34", func := "allonge/allongelaw19.ConflictEnds", spec := "conflictEnds", unfollowed := true, recurses := true, loops := true, apart := false }
def ConflictEndsSaid : Prop := conflictEndsRow.holds Try.pinned (OpenSpec.ofChange conflictEndsSpec)

/-- ITS FALSE NEIGHBOUR: 'it returns false'. Refute it at one input. -/
def conflictEndsWrong : ChangeSpec := { name := "conflictEnds", fn := fun _ => fun
  | [d1, d2, d3, d4] => { results := [.lit (.bool false)], args := [d1, d2, d3, d4] }
  | _ => none }
def ConflictEndsWrongFalsely : Prop := conflictEndsRow.holds Try.pinned (OpenSpec.ofChange conflictEndsWrong)

/- THE SECOND FORM. 'bulk': how many values and letters a reading holds, each counted each time it is reached (what is shared counts as often as it is met; a slice's spare places count too). A statement '..UptoSaid' is the law's where the arguments, and the package variables that the reading takes, are together of bulk at most 1048576: NARROWER than '..Said'. Prove '..Said' where nothing that the law and all that it calls make is longer than what came in: it says more and counts as full. Else prove '..UptoSaid'. A law counts once. -/
mutual
def uptoBulk {H : Type} : DataW H → Nat
  | .lit (.string bytes) => bytes.length + 1
  | .lit _ => 1
  | .nil => 1
  | .ptr d => uptoBulk d + 1
  | .slice elems spare => uptoBulkAll elems + uptoBulkAll spare + 1
  | .agg parts => uptoBulkAll parts + 1
  | .iface _ d => uptoBulk d + 1
  | .map entries => uptoBulkEntries entries + 1
  | .held _ => 1
def uptoBulkAll {H : Type} : List (DataW H) → Nat
  | [] => 0
  | d :: r => uptoBulk d + uptoBulkAll r
def uptoBulkEntries {H : Type} : List (Lit × DataW H) → Nat
  | [] => 0
  | x :: r => uptoBulkEntry x + uptoBulkEntries r
def uptoBulkEntry {H : Type} : Lit × DataW H → Nat
  | (.string bytes, d) => bytes.length + uptoBulk d + 1
  | (_, d) => uptoBulk d + 1
 end
def uptoSmall : (H : Type) → List (DataW H) → Bool := fun _ ds => decide (uptoBulkAll ds ≤ 1048576)
def OpenSpec.upto (s : _root_.Go.ChangeSpec) : _root_.Go.OpenSpec := { _root_.Go.OpenSpec.ofChange s with cond := some uptoSmall }

/-- 'allongelaw20.AuditTells', WHERE WHAT IT READS IS OF BULK AT MOST 1048576: true; the input reads as it did. -/
def auditTellsUptoRow : OpenClaim := { program := "ytlpgfmnicomjjaa", sum := "8534d0544fb67eb7bbc65c3301dc3d643107094feb2902d12953e32063097c34", func := "allonge/allongelaw20.AuditTells", spec := "auditTells", unfollowed := true, recurses := true, loops := true, apart := false, narrowed := true }
def AuditTellsUptoSaid : Prop := auditTellsUptoRow.holds Try.pinned (OpenSpec.upto auditTellsSpec)

/-- 'allongelaw20.AuditShows', WHERE WHAT IT READS IS OF BULK AT MOST 1048576: true; the input reads as it did. -/
def auditShowsUptoRow : OpenClaim := { program := "ytlpgfmnicomjjaa", sum := "8534d0544fb67eb7bbc65c3301dc3d643107094feb2902d12953e32063097c34", func := "allonge/allongelaw20.AuditShows", spec := "auditShows", unfollowed := true, recurses := true, loops := true, apart := false, narrowed := true }
def AuditShowsUptoSaid : Prop := auditShowsUptoRow.holds Try.pinned (OpenSpec.upto auditShowsSpec)

/-- 'allongelaw20.AuditMends', WHERE WHAT IT READS IS OF BULK AT MOST 1048576: true; the input reads as it did. -/
def auditMendsUptoRow : OpenClaim := { program := "ytlpgfmnicomjjaa", sum := "8534d0544fb67eb7bbc65c3301dc3d643107094feb2902d12953e32063097c34", func := "allonge/allongelaw20.AuditMends", spec := "auditMends", unfollowed := true, recurses := true, loops := true, apart := false, narrowed := true }
def AuditMendsUptoSaid : Prop := auditMendsUptoRow.holds Try.pinned (OpenSpec.upto auditMendsSpec)

/-- 'allongelaw06.GraphTells', WHERE WHAT IT READS IS OF BULK AT MOST 1048576: true; the input reads as it did. -/
def graphTellsUptoRow : OpenClaim := { program := "ytlpgfmnicomjjaa", sum := "8534d0544fb67eb7bbc65c3301dc3d643107094feb2902d12953e32063097c34", func := "allonge/allongelaw06.GraphTells", spec := "graphTells", recurses := true, apart := false, narrowed := true }
def GraphTellsUptoSaid : Prop := graphTellsUptoRow.holds Try.pinned (OpenSpec.upto graphTellsSpec)

/-- 'allongelaw06.GraphReaches', WHERE WHAT IT READS IS OF BULK AT MOST 1048576: true; the input reads as it did. -/
def graphReachesUptoRow : OpenClaim := { program := "ytlpgfmnicomjjaa", sum := "8534d0544fb67eb7bbc65c3301dc3d643107094feb2902d12953e32063097c34", func := "allonge/allongelaw06.GraphReaches", spec := "graphReaches", recurses := true, apart := false, narrowed := true }
def GraphReachesUptoSaid : Prop := graphReachesUptoRow.holds Try.pinned (OpenSpec.upto graphReachesSpec)

/-- 'allongelaw06.GraphOrders', WHERE WHAT IT READS IS OF BULK AT MOST 1048576: true; the input reads as it did. -/
def graphOrdersUptoRow : OpenClaim := { program := "ytlpgfmnicomjjaa", sum := "8534d0544fb67eb7bbc65c3301dc3d643107094feb2902d12953e32063097c34", func := "allonge/allongelaw06.GraphOrders", spec := "graphOrders", recurses := true, apart := false, narrowed := true }
def GraphOrdersUptoSaid : Prop := graphOrdersUptoRow.holds Try.pinned (OpenSpec.upto graphOrdersSpec)

/-- 'allongelaw06.GraphShortest', WHERE WHAT IT READS IS OF BULK AT MOST 1048576: true; the input reads as it did. -/
def graphShortestUptoRow : OpenClaim := { program := "ytlpgfmnicomjjaa", sum := "8534d0544fb67eb7bbc65c3301dc3d643107094feb2902d12953e32063097c34", func := "allonge/allongelaw06.GraphShortest", spec := "graphShortest", recurses := true, apart := false, narrowed := true }
def GraphShortestUptoSaid : Prop := graphShortestUptoRow.holds Try.pinned (OpenSpec.upto graphShortestSpec)

/-- 'allongelaw06.GraphGroups', WHERE WHAT IT READS IS OF BULK AT MOST 1048576: true; the input reads as it did. -/
def graphGroupsUptoRow : OpenClaim := { program := "ytlpgfmnicomjjaa", sum := "8534d0544fb67eb7bbc65c3301dc3d643107094feb2902d12953e32063097c34", func := "allonge/allongelaw06.GraphGroups", spec := "graphGroups", recurses := true, apart := false, narrowed := true }
def GraphGroupsUptoSaid : Prop := graphGroupsUptoRow.holds Try.pinned (OpenSpec.upto graphGroupsSpec)

/-- 'allongelaw06.GraphGrows', WHERE WHAT IT READS IS OF BULK AT MOST 1048576: true; the input reads as it did. -/
def graphGrowsUptoRow : OpenClaim := { program := "ytlpgfmnicomjjaa", sum := "8534d0544fb67eb7bbc65c3301dc3d643107094feb2902d12953e32063097c34", func := "allonge/allongelaw06.GraphGrows", spec := "graphGrows", recurses := true, apart := false, narrowed := true }
def GraphGrowsUptoSaid : Prop := graphGrowsUptoRow.holds Try.pinned (OpenSpec.upto graphGrowsSpec)

/-- 'allongelaw19.ConflictEnds', WHERE WHAT IT READS IS OF BULK AT MOST 1048576: true; the input reads as it did. -/
def conflictEndsUptoRow : OpenClaim := { program := "ytlpgfmnicomjjaa", sum := "8534d0544fb67eb7bbc65c3301dc3d643107094feb2902d12953e32063097c34", func := "allonge/allongelaw19.ConflictEnds", spec := "conflictEnds", unfollowed := true, recurses := true, loops := true, apart := false, narrowed := true }
def ConflictEndsUptoSaid : Prop := conflictEndsUptoRow.holds Try.pinned (OpenSpec.upto conflictEndsSpec)

end Rows
end Go.Proofs.Ytlpgfmnicomjjaa
