/-
  DERIVED. GIVEN WITH THE SEED: THE CARDS: each row of YtdogpphfofimeaaDoorRows.lean that lists a variable, with what it lists TIED to the program's text (the seventh form; the later family's looks); each row that meets fmt, with fmt's text TOLD by the authors' own Lean function (tested against real Go, not proved from fmt's source: count such statements apart). THE CARD IS WHAT COUNTS. Prove the row's statement (the work); the ties are given (YtdogpphfofimeaaDoorTie.lean); close each card by the builder's one call (the guide's Derived/Test/ToyasCard.lean, 'card_holds'). Laid BY PROGRAM, IN A SANDBOX (cutbox-door.mjs). By AI agents, Wed Nov 11 2026. No macro, syntax, notation, axiom, sorry.
-/
import Derived.Test.YtdogpphfofimeaaDoorRows
import GoSem.ClaimSeven
namespace Go.Proofs.YtdogpphfofimeaaDoor
namespace Rows

/-- THE TIED CARD OF 'laws.FnExactFormatForm'. -/
def fnExactFormatFormCard : Claim7 := { stood := { row := fnExactFormatFormRow, standIns := [], harness := (true, "38dc1a1dbe8926e0f5614e84b9473fd77a95257205bfd5543c558ac2aa7f7f72"), looks := true }, kinds := [], alts := [], laidByText := true, laidKinds := [.data, .data, .data], laidTests := true, laidLooks := .later }
def FnExactFormatFormCardSaid : Prop := Claim7.holds Tryd.pinned (.plain (OpenSpec.ofChange fnExactFormatFormSpec)) fnExactFormatFormCard

/-- THE TIED CARD OF 'laws.FnExactIsComplete'. -/
def fnExactIsCompleteCard : Claim7 := { stood := { row := fnExactIsCompleteRow, standIns := [], harness := (true, "38dc1a1dbe8926e0f5614e84b9473fd77a95257205bfd5543c558ac2aa7f7f72"), looks := true }, kinds := [], alts := [], laidByText := true, laidKinds := [.data, .data, .data, .sentinel, .sentinel], laidTests := true, laidLooks := .later }
def FnExactIsCompleteCardSaid : Prop := Claim7.holds Tryd.pinned (.plain (OpenSpec.ofChange fnExactIsCompleteSpec)) fnExactIsCompleteCard

/-- THE TIED CARD OF 'laws.FnExactCheckAnswers'. -/
def fnExactCheckAnswersCard : Claim7 := { stood := { row := fnExactCheckAnswersRow, standIns := [], harness := (true, "38dc1a1dbe8926e0f5614e84b9473fd77a95257205bfd5543c558ac2aa7f7f72"), looks := true }, kinds := [], alts := [], laidByText := true, laidKinds := [.data, .data, .data, .sentinel, .sentinel], laidTests := true, laidLooks := .later }
def FnExactCheckAnswersCardSaid : Prop := Claim7.holds Tryd.pinned (.plain (OpenSpec.ofChange fnExactCheckAnswersSpec)) fnExactCheckAnswersCard

/-- THE TIED CARD OF 'laws.FnAnswers'. -/
def fnAnswersCard : Claim7 := { stood := { row := fnAnswersRow, standIns := [], harness := (true, "38dc1a1dbe8926e0f5614e84b9473fd77a95257205bfd5543c558ac2aa7f7f72"), looks := true }, kinds := [], alts := [], laidByText := true, laidKinds := [.data, .data, .data, .sentinel, .sentinel], laidTests := true, laidLooks := .later }
def FnAnswersCardSaid : Prop := Claim7.holds Tryd.pinned (.plain (OpenSpec.ofChange fnAnswersSpec)) fnAnswersCard

/-- THE TIED CARD OF 'laws.FnForms'. -/
def fnFormsCard : Claim7 := { stood := { row := fnFormsRow, standIns := [], harness := (true, "38dc1a1dbe8926e0f5614e84b9473fd77a95257205bfd5543c558ac2aa7f7f72"), looks := true }, kinds := [], alts := [], laidByText := true, laidKinds := [.data, .data, .data, .data, .sentinel, .sentinel, .pinned], laidTests := true, laidLooks := .later }
def FnFormsCardSaid : Prop := Claim7.holds Tryd.pinned (.plain (OpenSpec.ofChange fnFormsSpec)) fnFormsCard

/-- THE TIED CARD OF 'laws.FnExactParseForm'. -/
def fnExactParseFormCard : Claim7 := { stood := { row := fnExactParseFormRow, standIns := [], harness := (true, "38dc1a1dbe8926e0f5614e84b9473fd77a95257205bfd5543c558ac2aa7f7f72"), looks := true }, kinds := [], alts := [], laidByText := true, laidKinds := [.data, .data, .data, .data, .sentinel, .sentinel, .pinned], laidTests := true, laidLooks := .later }
def FnExactParseFormCardSaid : Prop := Claim7.holds Tryd.pinned (.plain (OpenSpec.ofChange fnExactParseFormSpec)) fnExactParseFormCard

/-- THE SECOND FORM's CARD OF 'laws.FnExactFormatForm'. -/
def fnExactFormatFormUptoCard : Claim7 := { stood := { row := fnExactFormatFormUptoRow, standIns := [], harness := (true, "38dc1a1dbe8926e0f5614e84b9473fd77a95257205bfd5543c558ac2aa7f7f72"), looks := true }, kinds := [], alts := [], laidByText := true, laidKinds := [.data, .data, .data], laidTests := true, laidLooks := .later }
def FnExactFormatFormUptoCardSaid : Prop := Claim7.holds Tryd.pinned (.plain (OpenSpec.upto fnExactFormatFormSpec)) fnExactFormatFormUptoCard

/-- THE SECOND FORM's CARD OF 'laws.FnExactIsComplete'. -/
def fnExactIsCompleteUptoCard : Claim7 := { stood := { row := fnExactIsCompleteUptoRow, standIns := [], harness := (true, "38dc1a1dbe8926e0f5614e84b9473fd77a95257205bfd5543c558ac2aa7f7f72"), looks := true }, kinds := [], alts := [], laidByText := true, laidKinds := [.data, .data, .data, .sentinel, .sentinel], laidTests := true, laidLooks := .later }
def FnExactIsCompleteUptoCardSaid : Prop := Claim7.holds Tryd.pinned (.plain (OpenSpec.upto fnExactIsCompleteSpec)) fnExactIsCompleteUptoCard

/-- THE SECOND FORM's CARD OF 'laws.FnExactCheckAnswers'. -/
def fnExactCheckAnswersUptoCard : Claim7 := { stood := { row := fnExactCheckAnswersUptoRow, standIns := [], harness := (true, "38dc1a1dbe8926e0f5614e84b9473fd77a95257205bfd5543c558ac2aa7f7f72"), looks := true }, kinds := [], alts := [], laidByText := true, laidKinds := [.data, .data, .data, .sentinel, .sentinel], laidTests := true, laidLooks := .later }
def FnExactCheckAnswersUptoCardSaid : Prop := Claim7.holds Tryd.pinned (.plain (OpenSpec.upto fnExactCheckAnswersSpec)) fnExactCheckAnswersUptoCard

/-- THE SECOND FORM's CARD OF 'laws.FnAnswers'. -/
def fnAnswersUptoCard : Claim7 := { stood := { row := fnAnswersUptoRow, standIns := [], harness := (true, "38dc1a1dbe8926e0f5614e84b9473fd77a95257205bfd5543c558ac2aa7f7f72"), looks := true }, kinds := [], alts := [], laidByText := true, laidKinds := [.data, .data, .data, .sentinel, .sentinel], laidTests := true, laidLooks := .later }
def FnAnswersUptoCardSaid : Prop := Claim7.holds Tryd.pinned (.plain (OpenSpec.upto fnAnswersSpec)) fnAnswersUptoCard

/-- THE SECOND FORM's CARD OF 'laws.FnForms'. -/
def fnFormsUptoCard : Claim7 := { stood := { row := fnFormsUptoRow, standIns := [], harness := (true, "38dc1a1dbe8926e0f5614e84b9473fd77a95257205bfd5543c558ac2aa7f7f72"), looks := true }, kinds := [], alts := [], laidByText := true, laidKinds := [.data, .data, .data, .data, .sentinel, .sentinel, .pinned], laidTests := true, laidLooks := .later }
def FnFormsUptoCardSaid : Prop := Claim7.holds Tryd.pinned (.plain (OpenSpec.upto fnFormsSpec)) fnFormsUptoCard

/-- THE SECOND FORM's CARD OF 'laws.FnExactParseForm'. -/
def fnExactParseFormUptoCard : Claim7 := { stood := { row := fnExactParseFormUptoRow, standIns := [], harness := (true, "38dc1a1dbe8926e0f5614e84b9473fd77a95257205bfd5543c558ac2aa7f7f72"), looks := true }, kinds := [], alts := [], laidByText := true, laidKinds := [.data, .data, .data, .data, .sentinel, .sentinel, .pinned], laidTests := true, laidLooks := .later }
def FnExactParseFormUptoCardSaid : Prop := Claim7.holds Tryd.pinned (.plain (OpenSpec.upto fnExactParseFormSpec)) fnExactParseFormUptoCard
end Rows
end Go.Proofs.YtdogpphfofimeaaDoor
