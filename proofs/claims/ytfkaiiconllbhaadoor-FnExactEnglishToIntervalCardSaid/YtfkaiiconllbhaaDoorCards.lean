/-
  DERIVED. GIVEN WITH THE SEED: THE CARDS: each row of YtfkaiiconllbhaaDoorRows.lean that lists a variable, with what it lists TIED to the program's text (the seventh form; the later family's looks); each row that meets fmt, with fmt's text TOLD by the authors' own Lean function (tested against real Go, not proved from fmt's source: count such statements apart). THE CARD IS WHAT COUNTS. Prove the row's statement (the work); the ties are given (YtfkaiiconllbhaaDoorTie.lean); close each card by the builder's one call (the guide's Derived/Test/ToyasCard.lean, 'card_holds'). Laid BY PROGRAM, IN A SANDBOX (cutbox-door.mjs). By AI agents, Wed Nov 11 2026. No macro, syntax, notation, axiom, sorry.
-/
import Derived.Test.YtfkaiiconllbhaaDoorRows
import GoSem.ClaimSeven
namespace Go.Proofs.YtfkaiiconllbhaaDoor
namespace Rows

/-- THE TIED CARD OF 'laws.FnExactYearToEnglish'. -/
def fnExactYearToEnglishCard : Claim7 := { stood := { row := fnExactYearToEnglishRow, standIns := [], harness := (true, "9c3408b367d384a15237422da74d425516ba6c9814586220a54a9321a3197c7b"), looks := true }, kinds := [], alts := [], laidByText := true, laidKinds := [.data, .data, .data], laidTests := true, laidLooks := .later }
def FnExactYearToEnglishCardSaid : Prop := Claim7.holds Tryd.pinned (.plain (OpenSpec.ofChange fnExactYearToEnglishSpec)) fnExactYearToEnglishCard

/-- THE TIED CARD OF 'laws.FnExactIntervalToEnglish'. -/
def fnExactIntervalToEnglishCard : Claim7 := { stood := { row := fnExactIntervalToEnglishRow, standIns := [], harness := (true, "9c3408b367d384a15237422da74d425516ba6c9814586220a54a9321a3197c7b"), looks := true }, kinds := [], alts := [], laidByText := true, laidKinds := [.data, .data, .data], laidTests := true, laidLooks := .later }
def FnExactIntervalToEnglishCardSaid : Prop := Claim7.holds Tryd.pinned (.plain (OpenSpec.ofChange fnExactIntervalToEnglishSpec)) fnExactIntervalToEnglishCard

/-- THE TIED CARD OF 'laws.FnExactRecordToEnglish'. -/
def fnExactRecordToEnglishCard : Claim7 := { stood := { row := fnExactRecordToEnglishRow, standIns := [], harness := (true, "9c3408b367d384a15237422da74d425516ba6c9814586220a54a9321a3197c7b"), looks := true }, kinds := [], alts := [], laidByText := true, laidKinds := [.data, .data, .data], laidTests := true, laidLooks := .later }
def FnExactRecordToEnglishCardSaid : Prop := Claim7.holds Tryd.pinned (.plain (OpenSpec.ofChange fnExactRecordToEnglishSpec)) fnExactRecordToEnglishCard

/-- THE TIED CARD OF 'laws.FnExactEnglishToYear'. -/
def fnExactEnglishToYearCard : Claim7 := { stood := { row := fnExactEnglishToYearRow, standIns := [], harness := (true, "9c3408b367d384a15237422da74d425516ba6c9814586220a54a9321a3197c7b"), looks := true }, kinds := [], alts := [], laidByText := true, laidKinds := [.data, .data, .data, .sentinel, .sentinel], laidTests := true, laidLooks := .later }
def FnExactEnglishToYearCardSaid : Prop := Claim7.holds Tryd.pinned (.plain (OpenSpec.ofChange fnExactEnglishToYearSpec)) fnExactEnglishToYearCard

/-- THE TIED CARD OF 'laws.FnExactEvidenceToEnglish'. -/
def fnExactEvidenceToEnglishCard : Claim7 := { stood := { row := fnExactEvidenceToEnglishRow, standIns := [], harness := (true, "9c3408b367d384a15237422da74d425516ba6c9814586220a54a9321a3197c7b"), looks := true }, kinds := [], alts := [], laidByText := true, laidKinds := [.data, .data, .data], laidTests := true, laidLooks := .later }
def FnExactEvidenceToEnglishCardSaid : Prop := Claim7.holds Tryd.pinned (.plain (OpenSpec.ofChange fnExactEvidenceToEnglishSpec)) fnExactEvidenceToEnglishCard

/-- THE TIED CARD OF 'laws.FnExactEnglishToInterval'. -/
def fnExactEnglishToIntervalCard : Claim7 := { stood := { row := fnExactEnglishToIntervalRow, standIns := [], harness := (true, "9c3408b367d384a15237422da74d425516ba6c9814586220a54a9321a3197c7b"), looks := true }, kinds := [], alts := [], laidByText := true, laidKinds := [.data, .data, .data, .sentinel, .sentinel], laidTests := true, laidLooks := .later }
def FnExactEnglishToIntervalCardSaid : Prop := Claim7.holds Tryd.pinned (.plain (OpenSpec.ofChange fnExactEnglishToIntervalSpec)) fnExactEnglishToIntervalCard

/-- THE SECOND FORM's CARD OF 'laws.FnExactYearToEnglish'. -/
def fnExactYearToEnglishUptoCard : Claim7 := { stood := { row := fnExactYearToEnglishUptoRow, standIns := [], harness := (true, "9c3408b367d384a15237422da74d425516ba6c9814586220a54a9321a3197c7b"), looks := true }, kinds := [], alts := [], laidByText := true, laidKinds := [.data, .data, .data], laidTests := true, laidLooks := .later }
def FnExactYearToEnglishUptoCardSaid : Prop := Claim7.holds Tryd.pinned (.plain (OpenSpec.upto fnExactYearToEnglishSpec)) fnExactYearToEnglishUptoCard

/-- THE SECOND FORM's CARD OF 'laws.FnExactIntervalToEnglish'. -/
def fnExactIntervalToEnglishUptoCard : Claim7 := { stood := { row := fnExactIntervalToEnglishUptoRow, standIns := [], harness := (true, "9c3408b367d384a15237422da74d425516ba6c9814586220a54a9321a3197c7b"), looks := true }, kinds := [], alts := [], laidByText := true, laidKinds := [.data, .data, .data], laidTests := true, laidLooks := .later }
def FnExactIntervalToEnglishUptoCardSaid : Prop := Claim7.holds Tryd.pinned (.plain (OpenSpec.upto fnExactIntervalToEnglishSpec)) fnExactIntervalToEnglishUptoCard

/-- THE SECOND FORM's CARD OF 'laws.FnExactRecordToEnglish'. -/
def fnExactRecordToEnglishUptoCard : Claim7 := { stood := { row := fnExactRecordToEnglishUptoRow, standIns := [], harness := (true, "9c3408b367d384a15237422da74d425516ba6c9814586220a54a9321a3197c7b"), looks := true }, kinds := [], alts := [], laidByText := true, laidKinds := [.data, .data, .data], laidTests := true, laidLooks := .later }
def FnExactRecordToEnglishUptoCardSaid : Prop := Claim7.holds Tryd.pinned (.plain (OpenSpec.upto fnExactRecordToEnglishSpec)) fnExactRecordToEnglishUptoCard

/-- THE SECOND FORM's CARD OF 'laws.FnExactEnglishToYear'. -/
def fnExactEnglishToYearUptoCard : Claim7 := { stood := { row := fnExactEnglishToYearUptoRow, standIns := [], harness := (true, "9c3408b367d384a15237422da74d425516ba6c9814586220a54a9321a3197c7b"), looks := true }, kinds := [], alts := [], laidByText := true, laidKinds := [.data, .data, .data, .sentinel, .sentinel], laidTests := true, laidLooks := .later }
def FnExactEnglishToYearUptoCardSaid : Prop := Claim7.holds Tryd.pinned (.plain (OpenSpec.upto fnExactEnglishToYearSpec)) fnExactEnglishToYearUptoCard

/-- THE SECOND FORM's CARD OF 'laws.FnExactEvidenceToEnglish'. -/
def fnExactEvidenceToEnglishUptoCard : Claim7 := { stood := { row := fnExactEvidenceToEnglishUptoRow, standIns := [], harness := (true, "9c3408b367d384a15237422da74d425516ba6c9814586220a54a9321a3197c7b"), looks := true }, kinds := [], alts := [], laidByText := true, laidKinds := [.data, .data, .data], laidTests := true, laidLooks := .later }
def FnExactEvidenceToEnglishUptoCardSaid : Prop := Claim7.holds Tryd.pinned (.plain (OpenSpec.upto fnExactEvidenceToEnglishSpec)) fnExactEvidenceToEnglishUptoCard

/-- THE SECOND FORM's CARD OF 'laws.FnExactEnglishToInterval'. -/
def fnExactEnglishToIntervalUptoCard : Claim7 := { stood := { row := fnExactEnglishToIntervalUptoRow, standIns := [], harness := (true, "9c3408b367d384a15237422da74d425516ba6c9814586220a54a9321a3197c7b"), looks := true }, kinds := [], alts := [], laidByText := true, laidKinds := [.data, .data, .data, .sentinel, .sentinel], laidTests := true, laidLooks := .later }
def FnExactEnglishToIntervalUptoCardSaid : Prop := Claim7.holds Tryd.pinned (.plain (OpenSpec.upto fnExactEnglishToIntervalSpec)) fnExactEnglishToIntervalUptoCard
end Rows
end Go.Proofs.YtfkaiiconllbhaaDoor
