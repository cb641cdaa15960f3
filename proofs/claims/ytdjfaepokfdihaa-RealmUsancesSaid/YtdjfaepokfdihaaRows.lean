/-
  NARROWER THAN 'FOR EVERY INPUT', by the rows' own cells (each row's printed sentence says how): RealmTells: loops · RealmFinds: loops · RealmMembers: loops · RealmUsances: loops · RealmLess: loops · ConflictTells: loops · ConflictPath: loops · ConflictLocal: loops · ConflictSimple: loops · ConflictEnds: loops.
  DERIVED. THE GIVEN ROWS OF THIS SEAT. 10 by the template 'for every input the law returns true; each argument reads behind the call as it read before'; 0 by the template 'total and deterministic' (their statements: YtdjfaepokfdihaaTotals.lean).
  GIVEN WITH THE SEED: the statements are not yours to turn. If you find one false, say at which input.
  Laid BY PROGRAM, IN A SANDBOX (cutbox-rows.mjs): the forced cells as the released guide's own fill.sh prints them over the translation 97cab09f96841f24… (all of the seat's roots in one cut). By AI agents, Wed Nov 11 2026. No macro, syntax, notation, axiom, sorry.
-/
import Derived.Test.YtdjfaepokfdihaaChecked
import GoSem.Claim
import GoSem.ClaimJoined
import GoSem.ClaimMapViews
import Derived.JoinedTies
import Derived.KernelRfl
namespace Go.Proofs.Ytdjfaepokfdihaa
/- THE CELL 'sum', in the pinned program and in every row, IS THE sha256 OF THE DUMP (.gsa) THAT YtdjfaepokfdihaaProg.lean LOADS. Nothing in Lean hashes anything: it is a label: what it is worth is what the hold of that sum in a sandbox is worth. -/
noncomputable def Try.pinned : Pinned := { name := "ytdjfaepokfdihaa", sum := "97cab09f96841f248c5321f176fe333e1587ece7869fc66a9fee883234f16f81", checked := Try.checked }
namespace Rows
def none {H : Type} : Left H := { results := [], args := [] }

/-- 'allongelaw09.RealmTells': WHATEVER THE INPUT: true; the input reads as it did. -/
def realmTellsSpec : ChangeSpec := { name := "realmTells", fn := fun _ => fun
  | [d1, d2, d3, d4] => { results := [.lit (.bool true)], args := [d1, d2, d3, d4] }
  | _ => none }
def realmTellsRow : OpenClaim := { program := "ytdjfaepokfdihaa", sum := "97cab09f96841f248c5321f176fe333e1587ece7869fc66a9fee883234f16f81", func := "allonge/allongelaw09.RealmTells", spec := "realmTells", unfollowed := true, recurses := true, loops := true, apart := false }
def RealmTellsSaid : Prop := realmTellsRow.holds Try.pinned (OpenSpec.ofChange realmTellsSpec)

/-- ITS FALSE NEIGHBOUR: 'it returns false'. Refute it at one input. -/
def realmTellsWrong : ChangeSpec := { name := "realmTells", fn := fun _ => fun
  | [d1, d2, d3, d4] => { results := [.lit (.bool false)], args := [d1, d2, d3, d4] }
  | _ => none }
def RealmTellsWrongFalsely : Prop := realmTellsRow.holds Try.pinned (OpenSpec.ofChange realmTellsWrong)

/-- 'allongelaw09.RealmFinds': WHATEVER THE INPUT: true; the input reads as it did. -/
def realmFindsSpec : ChangeSpec := { name := "realmFinds", fn := fun _ => fun
  | [d] => { results := [.lit (.bool true)], args := [d] }
  | _ => none }
def realmFindsRow : OpenClaim := { program := "ytdjfaepokfdihaa", sum := "97cab09f96841f248c5321f176fe333e1587ece7869fc66a9fee883234f16f81", func := "allonge/allongelaw09.RealmFinds", spec := "realmFinds", unfollowed := true, recurses := true, loops := true, apart := false }
def RealmFindsSaid : Prop := realmFindsRow.holds Try.pinned (OpenSpec.ofChange realmFindsSpec)

/-- ITS FALSE NEIGHBOUR: 'it returns false'. Refute it at one input. -/
def realmFindsWrong : ChangeSpec := { name := "realmFinds", fn := fun _ => fun
  | [d] => { results := [.lit (.bool false)], args := [d] }
  | _ => none }
def RealmFindsWrongFalsely : Prop := realmFindsRow.holds Try.pinned (OpenSpec.ofChange realmFindsWrong)

/-- 'allongelaw09.RealmMembers': WHATEVER THE INPUT: true; the input reads as it did. -/
def realmMembersSpec : ChangeSpec := { name := "realmMembers", fn := fun _ => fun
  | [d] => { results := [.lit (.bool true)], args := [d] }
  | _ => none }
def realmMembersRow : OpenClaim := { program := "ytdjfaepokfdihaa", sum := "97cab09f96841f248c5321f176fe333e1587ece7869fc66a9fee883234f16f81", func := "allonge/allongelaw09.RealmMembers", spec := "realmMembers", unfollowed := true, recurses := true, loops := true, apart := false }
def RealmMembersSaid : Prop := realmMembersRow.holds Try.pinned (OpenSpec.ofChange realmMembersSpec)

/-- ITS FALSE NEIGHBOUR: 'it returns false'. Refute it at one input. -/
def realmMembersWrong : ChangeSpec := { name := "realmMembers", fn := fun _ => fun
  | [d] => { results := [.lit (.bool false)], args := [d] }
  | _ => none }
def RealmMembersWrongFalsely : Prop := realmMembersRow.holds Try.pinned (OpenSpec.ofChange realmMembersWrong)

/-- 'allongelaw09.RealmUsances': WHATEVER THE INPUT: true; the input reads as it did. -/
def realmUsancesSpec : ChangeSpec := { name := "realmUsances", fn := fun _ => fun
  | [d1, d2, d3, d4] => { results := [.lit (.bool true)], args := [d1, d2, d3, d4] }
  | _ => none }
def realmUsancesRow : OpenClaim := { program := "ytdjfaepokfdihaa", sum := "97cab09f96841f248c5321f176fe333e1587ece7869fc66a9fee883234f16f81", func := "allonge/allongelaw09.RealmUsances", spec := "realmUsances", unfollowed := true, recurses := true, loops := true, apart := false }
def RealmUsancesSaid : Prop := realmUsancesRow.holds Try.pinned (OpenSpec.ofChange realmUsancesSpec)

/-- ITS FALSE NEIGHBOUR: 'it returns false'. Refute it at one input. -/
def realmUsancesWrong : ChangeSpec := { name := "realmUsances", fn := fun _ => fun
  | [d1, d2, d3, d4] => { results := [.lit (.bool false)], args := [d1, d2, d3, d4] }
  | _ => none }
def RealmUsancesWrongFalsely : Prop := realmUsancesRow.holds Try.pinned (OpenSpec.ofChange realmUsancesWrong)

/-- 'allongelaw09.RealmLess': WHATEVER THE INPUT: true; the input reads as it did. -/
def realmLessSpec : ChangeSpec := { name := "realmLess", fn := fun _ => fun
  | [d1, d2] => { results := [.lit (.bool true)], args := [d1, d2] }
  | _ => none }
def realmLessRow : OpenClaim := { program := "ytdjfaepokfdihaa", sum := "97cab09f96841f248c5321f176fe333e1587ece7869fc66a9fee883234f16f81", func := "allonge/allongelaw09.RealmLess", spec := "realmLess", unfollowed := true, recurses := true, loops := true, apart := false }
def RealmLessSaid : Prop := realmLessRow.holds Try.pinned (OpenSpec.ofChange realmLessSpec)

/-- ITS FALSE NEIGHBOUR: 'it returns false'. Refute it at one input. -/
def realmLessWrong : ChangeSpec := { name := "realmLess", fn := fun _ => fun
  | [d1, d2] => { results := [.lit (.bool false)], args := [d1, d2] }
  | _ => none }
def RealmLessWrongFalsely : Prop := realmLessRow.holds Try.pinned (OpenSpec.ofChange realmLessWrong)

/-- 'allongelaw19.ConflictTells': WHATEVER THE INPUT: true; the input reads as it did. -/
def conflictTellsSpec : ChangeSpec := { name := "conflictTells", fn := fun _ => fun
  | [d1, d2, d3, d4] => { results := [.lit (.bool true)], args := [d1, d2, d3, d4] }
  | _ => none }
def conflictTellsRow : OpenClaim := { program := "ytdjfaepokfdihaa", sum := "97cab09f96841f248c5321f176fe333e1587ece7869fc66a9fee883234f16f81", func := "allonge/allongelaw19.ConflictTells", spec := "conflictTells", unfollowed := true, recurses := true, loops := true, apart := false }
def ConflictTellsSaid : Prop := conflictTellsRow.holds Try.pinned (OpenSpec.ofChange conflictTellsSpec)

/-- ITS FALSE NEIGHBOUR: 'it returns false'. Refute it at one input. -/
def conflictTellsWrong : ChangeSpec := { name := "conflictTells", fn := fun _ => fun
  | [d1, d2, d3, d4] => { results := [.lit (.bool false)], args := [d1, d2, d3, d4] }
  | _ => none }
def ConflictTellsWrongFalsely : Prop := conflictTellsRow.holds Try.pinned (OpenSpec.ofChange conflictTellsWrong)

/-- 'allongelaw19.ConflictPath': WHATEVER THE INPUT: true; the input reads as it did. -/
def conflictPathSpec : ChangeSpec := { name := "conflictPath", fn := fun _ => fun
  | [d1, d2, d3, d4] => { results := [.lit (.bool true)], args := [d1, d2, d3, d4] }
  | _ => none }
def conflictPathRow : OpenClaim := { program := "ytdjfaepokfdihaa", sum := "97cab09f96841f248c5321f176fe333e1587ece7869fc66a9fee883234f16f81", func := "allonge/allongelaw19.ConflictPath", spec := "conflictPath", unfollowed := true, recurses := true, loops := true, apart := false }
def ConflictPathSaid : Prop := conflictPathRow.holds Try.pinned (OpenSpec.ofChange conflictPathSpec)

/-- ITS FALSE NEIGHBOUR: 'it returns false'. Refute it at one input. -/
def conflictPathWrong : ChangeSpec := { name := "conflictPath", fn := fun _ => fun
  | [d1, d2, d3, d4] => { results := [.lit (.bool false)], args := [d1, d2, d3, d4] }
  | _ => none }
def ConflictPathWrongFalsely : Prop := conflictPathRow.holds Try.pinned (OpenSpec.ofChange conflictPathWrong)

/-- 'allongelaw19.ConflictLocal': WHATEVER THE INPUT: true; the input reads as it did. -/
def conflictLocalSpec : ChangeSpec := { name := "conflictLocal", fn := fun _ => fun
  | [d1, d2, d3, d4, d5, d6] => { results := [.lit (.bool true)], args := [d1, d2, d3, d4, d5, d6] }
  | _ => none }
def conflictLocalRow : OpenClaim := { program := "ytdjfaepokfdihaa", sum := "97cab09f96841f248c5321f176fe333e1587ece7869fc66a9fee883234f16f81", func := "allonge/allongelaw19.ConflictLocal", spec := "conflictLocal", unfollowed := true, recurses := true, loops := true, apart := false }
def ConflictLocalSaid : Prop := conflictLocalRow.holds Try.pinned (OpenSpec.ofChange conflictLocalSpec)

/-- ITS FALSE NEIGHBOUR: 'it returns false'. Refute it at one input. -/
def conflictLocalWrong : ChangeSpec := { name := "conflictLocal", fn := fun _ => fun
  | [d1, d2, d3, d4, d5, d6] => { results := [.lit (.bool false)], args := [d1, d2, d3, d4, d5, d6] }
  | _ => none }
def ConflictLocalWrongFalsely : Prop := conflictLocalRow.holds Try.pinned (OpenSpec.ofChange conflictLocalWrong)

/-- 'allongelaw19.ConflictSimple': WHATEVER THE INPUT: true; the input reads as it did. -/
def conflictSimpleSpec : ChangeSpec := { name := "conflictSimple", fn := fun _ => fun
  | [d1, d2, d3, d4] => { results := [.lit (.bool true)], args := [d1, d2, d3, d4] }
  | _ => none }
def conflictSimpleRow : OpenClaim := { program := "ytdjfaepokfdihaa", sum := "97cab09f96841f248c5321f176fe333e1587ece7869fc66a9fee883234f16f81", func := "allonge/allongelaw19.ConflictSimple", spec := "conflictSimple", unfollowed := true, recurses := true, loops := true, apart := false }
def ConflictSimpleSaid : Prop := conflictSimpleRow.holds Try.pinned (OpenSpec.ofChange conflictSimpleSpec)

/-- ITS FALSE NEIGHBOUR: 'it returns false'. Refute it at one input. -/
def conflictSimpleWrong : ChangeSpec := { name := "conflictSimple", fn := fun _ => fun
  | [d1, d2, d3, d4] => { results := [.lit (.bool false)], args := [d1, d2, d3, d4] }
  | _ => none }
def ConflictSimpleWrongFalsely : Prop := conflictSimpleRow.holds Try.pinned (OpenSpec.ofChange conflictSimpleWrong)

/-- 'allongelaw19.ConflictEnds': WHATEVER THE INPUT: true; the input reads as it did. -/
def conflictEndsSpec : ChangeSpec := { name := "conflictEnds", fn := fun _ => fun
  | [d1, d2, d3, d4] => { results := [.lit (.bool true)], args := [d1, d2, d3, d4] }
  | _ => none }
def conflictEndsRow : OpenClaim := { program := "ytdjfaepokfdihaa", sum := "97cab09f96841f248c5321f176fe333e1587ece7869fc66a9fee883234f16f81", func := "allonge/allongelaw19.ConflictEnds", spec := "conflictEnds", unfollowed := true, recurses := true, loops := true, apart := false }
def ConflictEndsSaid : Prop := conflictEndsRow.holds Try.pinned (OpenSpec.ofChange conflictEndsSpec)

/-- ITS FALSE NEIGHBOUR: 'it returns false'. Refute it at one input. -/
def conflictEndsWrong : ChangeSpec := { name := "conflictEnds", fn := fun _ => fun
  | [d1, d2, d3, d4] => { results := [.lit (.bool false)], args := [d1, d2, d3, d4] }
  | _ => none }
def ConflictEndsWrongFalsely : Prop := conflictEndsRow.holds Try.pinned (OpenSpec.ofChange conflictEndsWrong)

/- THE SECOND FORM. 'bulk': how many values and letters a reading holds, each counted each time it is reached (what is shared counts as often as it is met; a slice's spare places count too). A statement '..UptoSaid' is the law's where the arguments, and the package variables that the reading takes, are together of bulk at most 1048576: NARROWER than '..Said'. Prove '..Said' where nothing that the law and all that it calls make is longer than what came in: it says more and counts as full. Else prove '..UptoSaid'. A law counts once. -/
mutual
def uptoBulk {H : Type} : DataW H → Nat
  | .lit (.string bytes) => bytes.length + 1
  | .lit _ => 1
  | .nil => 1
  | .ptr d => uptoBulk d + 1
  | .slice elems spare => uptoBulkAll elems + uptoBulkAll spare + 1
  | .agg parts => uptoBulkAll parts + 1
  | .iface _ d => uptoBulk d + 1
  | .map entries => uptoBulkEntries entries + 1
  | .held _ => 1
def uptoBulkAll {H : Type} : List (DataW H) → Nat
  | [] => 0
  | d :: r => uptoBulk d + uptoBulkAll r
def uptoBulkEntries {H : Type} : List (Lit × DataW H) → Nat
  | [] => 0
  | x :: r => uptoBulkEntry x + uptoBulkEntries r
def uptoBulkEntry {H : Type} : Lit × DataW H → Nat
  | (.string bytes, d) => bytes.length + uptoBulk d + 1
  | (_, d) => uptoBulk d + 1
 end
def uptoSmall : (H : Type) → List (DataW H) → Bool := fun _ ds => decide (uptoBulkAll ds ≤ 1048576)
def OpenSpec.upto (s : _root_.Go.ChangeSpec) : _root_.Go.OpenSpec := { _root_.Go.OpenSpec.ofChange s with cond := some uptoSmall }

/-- 'allongelaw09.RealmTells', WHERE WHAT IT READS IS OF BULK AT MOST 1048576: true; the input reads as it did. -/
def realmTellsUptoRow : OpenClaim := { program := "ytdjfaepokfdihaa", sum := "97cab09f96841f248c5321f176fe333e1587ece7869fc66a9fee883234f16f81", func := "allonge/allongelaw09.RealmTells", spec := "realmTells", unfollowed := true, recurses := true, loops := true, apart := false, narrowed := true }
def RealmTellsUptoSaid : Prop := realmTellsUptoRow.holds Try.pinned (OpenSpec.upto realmTellsSpec)

/-- 'allongelaw09.RealmFinds', WHERE WHAT IT READS IS OF BULK AT MOST 1048576: true; the input reads as it did. -/
def realmFindsUptoRow : OpenClaim := { program := "ytdjfaepokfdihaa", sum := "97cab09f96841f248c5321f176fe333e1587ece7869fc66a9fee883234f16f81", func := "allonge/allongelaw09.RealmFinds", spec := "realmFinds", unfollowed := true, recurses := true, loops := true, apart := false, narrowed := true }
def RealmFindsUptoSaid : Prop := realmFindsUptoRow.holds Try.pinned (OpenSpec.upto realmFindsSpec)

/-- 'allongelaw09.RealmMembers', WHERE WHAT IT READS IS OF BULK AT MOST 1048576: true; the input reads as it did. -/
def realmMembersUptoRow : OpenClaim := { program := "ytdjfaepokfdihaa", sum := "97cab09f96841f248c5321f176fe333e1587ece7869fc66a9fee883234f16f81", func := "allonge/allongelaw09.RealmMembers", spec := "realmMembers", unfollowed := true, recurses := true, loops := true, apart := false, narrowed := true }
def RealmMembersUptoSaid : Prop := realmMembersUptoRow.holds Try.pinned (OpenSpec.upto realmMembersSpec)

/-- 'allongelaw09.RealmUsances', WHERE WHAT IT READS IS OF BULK AT MOST 1048576: true; the input reads as it did. -/
def realmUsancesUptoRow : OpenClaim := { program := "ytdjfaepokfdihaa", sum := "97cab09f96841f248c5321f176fe333e1587ece7869fc66a9fee883234f16f81", func := "allonge/allongelaw09.RealmUsances", spec := "realmUsances", unfollowed := true, recurses := true, loops := true, apart := false, narrowed := true }
def RealmUsancesUptoSaid : Prop := realmUsancesUptoRow.holds Try.pinned (OpenSpec.upto realmUsancesSpec)

/-- 'allongelaw09.RealmLess', WHERE WHAT IT READS IS OF BULK AT MOST 1048576: true; the input reads as it did. -/
def realmLessUptoRow : OpenClaim := { program := "ytdjfaepokfdihaa", sum := "97cab09f96841f248c5321f176fe333e1587ece7869fc66a9fee883234f16f81", func := "allonge/allongelaw09.RealmLess", spec := "realmLess", unfollowed := true, recurses := true, loops := true, apart := false, narrowed := true }
def RealmLessUptoSaid : Prop := realmLessUptoRow.holds Try.pinned (OpenSpec.upto realmLessSpec)

/-- 'allongelaw19.ConflictTells', WHERE WHAT IT READS IS OF BULK AT MOST 1048576: true; the input reads as it did. -/
def conflictTellsUptoRow : OpenClaim := { program := "ytdjfaepokfdihaa", sum := "97cab09f96841f248c5321f176fe333e1587ece7869fc66a9fee883234f16f81", func := "allonge/allongelaw19.ConflictTells", spec := "conflictTells", unfollowed := true, recurses := true, loops := true, apart := false, narrowed := true }
def ConflictTellsUptoSaid : Prop := conflictTellsUptoRow.holds Try.pinned (OpenSpec.upto conflictTellsSpec)

/-- 'allongelaw19.ConflictPath', WHERE WHAT IT READS IS OF BULK AT MOST 1048576: true; the input reads as it did. -/
def conflictPathUptoRow : OpenClaim := { program := "ytdjfaepokfdihaa", sum := "97cab09f96841f248c5321f176fe333e1587ece7869fc66a9fee883234f16f81", func := "allonge/allongelaw19.ConflictPath", spec := "conflictPath", unfollowed := true, recurses := true, loops := true, apart := false, narrowed := true }
def ConflictPathUptoSaid : Prop := conflictPathUptoRow.holds Try.pinned (OpenSpec.upto conflictPathSpec)

/-- 'allongelaw19.ConflictLocal', WHERE WHAT IT READS IS OF BULK AT MOST 1048576: true; the input reads as it did. -/
def conflictLocalUptoRow : OpenClaim := { program := "ytdjfaepokfdihaa", sum := "97cab09f96841f248c5321f176fe333e1587ece7869fc66a9fee883234f16f81", func := "allonge/allongelaw19.ConflictLocal", spec := "conflictLocal", unfollowed := true, recurses := true, loops := true, apart := false, narrowed := true }
def ConflictLocalUptoSaid : Prop := conflictLocalUptoRow.holds Try.pinned (OpenSpec.upto conflictLocalSpec)

/-- 'allongelaw19.ConflictSimple', WHERE WHAT IT READS IS OF BULK AT MOST 1048576: true; the input reads as it did. -/
def conflictSimpleUptoRow : OpenClaim := { program := "ytdjfaepokfdihaa", sum := "97cab09f96841f248c5321f176fe333e1587ece7869fc66a9fee883234f16f81", func := "allonge/allongelaw19.ConflictSimple", spec := "conflictSimple", unfollowed := true, recurses := true, loops := true, apart := false, narrowed := true }
def ConflictSimpleUptoSaid : Prop := conflictSimpleUptoRow.holds Try.pinned (OpenSpec.upto conflictSimpleSpec)

/-- 'allongelaw19.ConflictEnds', WHERE WHAT IT READS IS OF BULK AT MOST 1048576: true; the input reads as it did. -/
def conflictEndsUptoRow : OpenClaim := { program := "ytdjfaepokfdihaa", sum := "97cab09f96841f248c5321f176fe333e1587ece7869fc66a9fee883234f16f81", func := "allonge/allongelaw19.ConflictEnds", spec := "conflictEnds", unfollowed := true, recurses := true, loops := true, apart := false, narrowed := true }
def ConflictEndsUptoSaid : Prop := conflictEndsUptoRow.holds Try.pinned (OpenSpec.upto conflictEndsSpec)

end Rows
end Go.Proofs.Ytdjfaepokfdihaa
