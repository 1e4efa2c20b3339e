/-
  DERIVED. GIVEN WITH THE SEED: THE CARDS: each row of YtdekadogbpkdoaaGreatDoorRows.lean that lists a variable, with what it lists TIED to the program's text (the seventh form; the later family's looks); each row that meets fmt, with fmt's text TOLD by the authors' own Lean function (tested against real Go, not proved from fmt's source: count such statements apart). THE CARD IS WHAT COUNTS. Prove the row's statement (the work); the ties are given (YtdekadogbpkdoaaGreatDoorTie.lean); close each card by the builder's one call (the guide's Derived/Test/ToyasCard.lean, 'card_holds'). Laid BY PROGRAM, IN A SANDBOX (cutbox-door.mjs). By AI agents, Wed Nov 11 2026. No macro, syntax, notation, axiom, sorry.
-/
import Derived.Test.YtdekadogbpkdoaaGreatDoorRows
import GoSem.ClaimSeven
namespace Go.Proofs.YtdekadogbpkdoaaGreatDoor
namespace Rows

/-- THE TIED CARD OF 'laws.FnExactEnglishToRecord'. -/
def fnExactEnglishToRecordCard : Claim7 := { stood := { row := fnExactEnglishToRecordRow, standIns := [], harness := (true, "1754f90868200d6a215a1b780c9a74c5a3f45d7ba5ad35d65047eded7308cbe6"), looks := true }, kinds := [], alts := [], laidByText := true, laidKinds := [.data, .data, .data, .data, .sentinel, .sentinel, .pinned], laidTests := true, laidLooks := .later }
def FnExactEnglishToRecordCardSaid : Prop := Claim7.holds Tryz.pinned (.plain (OpenSpec.ofChange fnExactEnglishToRecordSpec)) fnExactEnglishToRecordCard

/-- THE SECOND FORM's CARD OF 'laws.FnExactEnglishToRecord'. -/
def fnExactEnglishToRecordUptoCard : Claim7 := { stood := { row := fnExactEnglishToRecordUptoRow, standIns := [], harness := (true, "1754f90868200d6a215a1b780c9a74c5a3f45d7ba5ad35d65047eded7308cbe6"), looks := true }, kinds := [], alts := [], laidByText := true, laidKinds := [.data, .data, .data, .data, .sentinel, .sentinel, .pinned], laidTests := true, laidLooks := .later }
def FnExactEnglishToRecordUptoCardSaid : Prop := Claim7.holds Tryz.pinned (.plain (OpenSpec.upto fnExactEnglishToRecordSpec)) fnExactEnglishToRecordUptoCard
end Rows
end Go.Proofs.YtdekadogbpkdoaaGreatDoor
