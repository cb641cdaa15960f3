/-
  DERIVED. GIVEN WITH THE SEED: THE CARDS: each row of YtoefdnkjcfoccaaDoorRows.lean that lists a variable, with what it lists TIED to the program's text (the seventh form; the later family's looks); each row that meets fmt, with fmt's text TOLD by the authors' own Lean function (tested against real Go, not proved from fmt's source: count such statements apart). THE CARD IS WHAT COUNTS. Prove the row's statement (the work); the ties are given (YtoefdnkjcfoccaaDoorTie.lean); close each card by the builder's one call (the guide's Derived/Test/ToyasCard.lean, 'card_holds'). Laid BY PROGRAM, IN A SANDBOX (cutbox-door.mjs). By AI agents, Wed Nov 11 2026. No macro, syntax, notation, axiom, sorry.
-/
import Derived.Test.YtoefdnkjcfoccaaDoorRows
import GoSem.ClaimSeven
namespace Go.Proofs.YtoefdnkjcfoccaaDoor
namespace Rows

/-- THE TIED CARD OF 'allongelaw20.AuditFinds'. -/
def auditFindsCard : Claim7 := { stood := { row := auditFindsRow, standIns := [], harness := (true, "213bab39787a6efb5bc92025e133e132573884d47e5ec77bc4e3ede81aeda82a"), looks := false }, kinds := [], alts := [], laidByText := true, laidKinds := [.widerDeep], laidTests := true, laidLooks := .later }
def AuditFindsCardSaid : Prop := Claim7.holds Tryd.pinned (.plain (OpenSpec.ofChange auditFindsSpec)) auditFindsCard

/-- THE TIED CARD OF 'allongelaw20.AuditClean'. -/
def auditCleanCard : Claim7 := { stood := { row := auditCleanRow, standIns := [], harness := (true, "213bab39787a6efb5bc92025e133e132573884d47e5ec77bc4e3ede81aeda82a"), looks := false }, kinds := [], alts := [], laidByText := true, laidKinds := [.widerDeep], laidTests := true, laidLooks := .later }
def AuditCleanCardSaid : Prop := Claim7.holds Tryd.pinned (.plain (OpenSpec.ofChange auditCleanSpec)) auditCleanCard

/-- THE SECOND FORM's CARD OF 'allongelaw20.AuditFinds'. -/
def auditFindsUptoCard : Claim7 := { stood := { row := auditFindsUptoRow, standIns := [], harness := (true, "213bab39787a6efb5bc92025e133e132573884d47e5ec77bc4e3ede81aeda82a"), looks := false }, kinds := [], alts := [], laidByText := true, laidKinds := [.widerDeep], laidTests := true, laidLooks := .later }
def AuditFindsUptoCardSaid : Prop := Claim7.holds Tryd.pinned (.plain (OpenSpec.upto auditFindsSpec)) auditFindsUptoCard

/-- THE SECOND FORM's CARD OF 'allongelaw20.AuditClean'. -/
def auditCleanUptoCard : Claim7 := { stood := { row := auditCleanUptoRow, standIns := [], harness := (true, "213bab39787a6efb5bc92025e133e132573884d47e5ec77bc4e3ede81aeda82a"), looks := false }, kinds := [], alts := [], laidByText := true, laidKinds := [.widerDeep], laidTests := true, laidLooks := .later }
def AuditCleanUptoCardSaid : Prop := Claim7.holds Tryd.pinned (.plain (OpenSpec.upto auditCleanSpec)) auditCleanUptoCard
end Rows
end Go.Proofs.YtoefdnkjcfoccaaDoor
