/-
  DERIVED. GIVEN WITH THE SEED: THE CARDS: each row of YtdjaaphhdmchjaaDoorRows.lean that lists a variable, with what it lists TIED to the program's text (the seventh form; the later family's looks); each row that meets fmt, with fmt's text TOLD by the authors' own Lean function (tested against real Go, not proved from fmt's source: count such statements apart). THE CARD IS WHAT COUNTS. Prove the row's statement (the work); the ties are given (YtdjaaphhdmchjaaDoorTie.lean); close each card by the builder's one call (the guide's Derived/Test/ToyasCard.lean, 'card_holds'). Laid BY PROGRAM, IN A SANDBOX (cutbox-door.mjs). By AI agents, Wed Nov 11 2026. No macro, syntax, notation, axiom, sorry.
-/
import Derived.Test.YtdjaaphhdmchjaaDoorRows
import GoSem.ClaimSeven
namespace Go.Proofs.YtdjaaphhdmchjaaDoor
namespace Rows

/-- THE TIED CARD OF 'laws.FnExactHeadingNumbers'. -/
def fnExactHeadingNumbersCard : Claim7 := { stood := { row := fnExactHeadingNumbersRow, standIns := [], harness := (true, "4a96b8fb6095ca07e01643c8ba9e2228d5ebaddbe64e0bdce5b925cb3eb4db42"), looks := false }, kinds := [], alts := [], laidByText := true, laidKinds := [.data, .data, .data], laidTests := true, laidLooks := .later }
def FnExactHeadingNumbersCardSaid : Prop := Claim7.holds Tryd.pinned (.plain (OpenSpec.ofChange fnExactHeadingNumbersSpec)) fnExactHeadingNumbersCard

/-- THE SECOND FORM's CARD OF 'laws.FnExactHeadingNumbers'. -/
def fnExactHeadingNumbersUptoCard : Claim7 := { stood := { row := fnExactHeadingNumbersUptoRow, standIns := [], harness := (true, "4a96b8fb6095ca07e01643c8ba9e2228d5ebaddbe64e0bdce5b925cb3eb4db42"), looks := false }, kinds := [], alts := [], laidByText := true, laidKinds := [.data, .data, .data], laidTests := true, laidLooks := .later }
def FnExactHeadingNumbersUptoCardSaid : Prop := Claim7.holds Tryd.pinned (.plain (OpenSpec.upto fnExactHeadingNumbersSpec)) fnExactHeadingNumbersUptoCard
end Rows
end Go.Proofs.YtdjaaphhdmchjaaDoor
