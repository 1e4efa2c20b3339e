/-
  No cell of these rows narrows 'for every input' (looked for: loops, veiled, ifaces, maps, wideKeys, modest, calm, conditions, laid).
  DERIVED. THE GIVEN ROWS OF THIS SEAT. 5 by the template 'for every input the law returns true; each argument reads behind the call as it read before'; 0 by the template 'total and deterministic' (their statements: YtdogpphfofimeaaTotals.lean).
  GIVEN WITH THE SEED: the statements are not yours to turn. If you find one false, say at which input.
  Laid BY PROGRAM, IN A SANDBOX (cutbox-rows.mjs): the forced cells as the released guide's own fill.sh prints them over the translation 74e9f253031ba86c… (all of the seat's roots in one cut). By AI agents, Wed Nov 11 2026. No macro, syntax, notation, axiom, sorry.
-/
import Derived.Test.YtdogpphfofimeaaChecked
import GoSem.Claim
import GoSem.ClaimJoined
import GoSem.ClaimMapViews
import Derived.JoinedTies
import Derived.KernelRfl
namespace Go.Proofs.Ytdogpphfofimeaa
/- THE CELL 'sum', in the pinned program and in every row, IS THE sha256 OF THE DUMP (.gsa) THAT YtdogpphfofimeaaProg.lean LOADS. Nothing in Lean hashes anything: it is a label: what it is worth is what the hold of that sum in a sandbox is worth. -/
noncomputable def Try.pinned : Pinned := { name := "ytdogpphfofimeaa", sum := "74e9f253031ba86ce510797898be979f46b896b4ce81a881a915fc26e6026a01", checked := Try.checked }
namespace Rows
def none {H : Type} : Left H := { results := [], args := [] }

/-- 'laws.FnExactIsValidForm': WHATEVER THE INPUT: true; the input reads as it did. -/
def fnExactIsValidFormSpec : ChangeSpec := { name := "fnExactIsValidForm", fn := fun _ => fun
  | [d] => { results := [.lit (.bool true)], args := [d] }
  | _ => none }
def fnExactIsValidFormRow : OpenClaim := { program := "ytdogpphfofimeaa", sum := "74e9f253031ba86ce510797898be979f46b896b4ce81a881a915fc26e6026a01", func := "loop.example/g00876/laws.FnExactIsValidForm", spec := "fnExactIsValidForm", unfollowed := true, recurses := true, apart := false }
def FnExactIsValidFormSaid : Prop := fnExactIsValidFormRow.holds Try.pinned (OpenSpec.ofChange fnExactIsValidFormSpec)

/-- ITS FALSE NEIGHBOUR: 'it returns false'. Refute it at one input. -/
def fnExactIsValidFormWrong : ChangeSpec := { name := "fnExactIsValidForm", fn := fun _ => fun
  | [d] => { results := [.lit (.bool false)], args := [d] }
  | _ => none }
def FnExactIsValidFormWrongFalsely : Prop := fnExactIsValidFormRow.holds Try.pinned (OpenSpec.ofChange fnExactIsValidFormWrong)

/-- 'laws.FnExactIsValidAnswers': WHATEVER THE INPUT: true; the input reads as it did. -/
def fnExactIsValidAnswersSpec : ChangeSpec := { name := "fnExactIsValidAnswers", fn := fun _ => fun
  | [d1, d2] => { results := [.lit (.bool true)], args := [d1, d2] }
  | _ => none }
def fnExactIsValidAnswersRow : OpenClaim := { program := "ytdogpphfofimeaa", sum := "74e9f253031ba86ce510797898be979f46b896b4ce81a881a915fc26e6026a01", func := "loop.example/g00876/laws.FnExactIsValidAnswers", spec := "fnExactIsValidAnswers", unfollowed := true, recurses := true, apart := false }
def FnExactIsValidAnswersSaid : Prop := fnExactIsValidAnswersRow.holds Try.pinned (OpenSpec.ofChange fnExactIsValidAnswersSpec)

/-- ITS FALSE NEIGHBOUR: 'it returns false'. Refute it at one input. -/
def fnExactIsValidAnswersWrong : ChangeSpec := { name := "fnExactIsValidAnswers", fn := fun _ => fun
  | [d1, d2] => { results := [.lit (.bool false)], args := [d1, d2] }
  | _ => none }
def FnExactIsValidAnswersWrongFalsely : Prop := fnExactIsValidAnswersRow.holds Try.pinned (OpenSpec.ofChange fnExactIsValidAnswersWrong)

/-- 'laws.FnExactSetAnswer': WHATEVER THE INPUT: true; the input reads as it did. -/
def fnExactSetAnswerSpec : ChangeSpec := { name := "fnExactSetAnswer", fn := fun _ => fun
  | [d1, d2, d3, d4] => { results := [.lit (.bool true)], args := [d1, d2, d3, d4] }
  | _ => none }
def fnExactSetAnswerRow : OpenClaim := { program := "ytdogpphfofimeaa", sum := "74e9f253031ba86ce510797898be979f46b896b4ce81a881a915fc26e6026a01", func := "loop.example/g00876/laws.FnExactSetAnswer", spec := "fnExactSetAnswer", unfollowed := true, recurses := true, apart := false }
def FnExactSetAnswerSaid : Prop := fnExactSetAnswerRow.holds Try.pinned (OpenSpec.ofChange fnExactSetAnswerSpec)

/-- ITS FALSE NEIGHBOUR: 'it returns false'. Refute it at one input. -/
def fnExactSetAnswerWrong : ChangeSpec := { name := "fnExactSetAnswer", fn := fun _ => fun
  | [d1, d2, d3, d4] => { results := [.lit (.bool false)], args := [d1, d2, d3, d4] }
  | _ => none }
def FnExactSetAnswerWrongFalsely : Prop := fnExactSetAnswerRow.holds Try.pinned (OpenSpec.ofChange fnExactSetAnswerWrong)

/-- 'laws.FnExactVisibleFields': WHATEVER THE INPUT: true; the input reads as it did. -/
def fnExactVisibleFieldsSpec : ChangeSpec := { name := "fnExactVisibleFields", fn := fun _ => fun
  | [d1, d2] => { results := [.lit (.bool true)], args := [d1, d2] }
  | _ => none }
def fnExactVisibleFieldsRow : OpenClaim := { program := "ytdogpphfofimeaa", sum := "74e9f253031ba86ce510797898be979f46b896b4ce81a881a915fc26e6026a01", func := "loop.example/g00876/laws.FnExactVisibleFields", spec := "fnExactVisibleFields", unfollowed := true, recurses := true, apart := false }
def FnExactVisibleFieldsSaid : Prop := fnExactVisibleFieldsRow.holds Try.pinned (OpenSpec.ofChange fnExactVisibleFieldsSpec)

/-- ITS FALSE NEIGHBOUR: 'it returns false'. Refute it at one input. -/
def fnExactVisibleFieldsWrong : ChangeSpec := { name := "fnExactVisibleFields", fn := fun _ => fun
  | [d1, d2] => { results := [.lit (.bool false)], args := [d1, d2] }
  | _ => none }
def FnExactVisibleFieldsWrongFalsely : Prop := fnExactVisibleFieldsRow.holds Try.pinned (OpenSpec.ofChange fnExactVisibleFieldsWrong)

/-- 'laws.FnExactClearHidden': WHATEVER THE INPUT: true; the input reads as it did. -/
def fnExactClearHiddenSpec : ChangeSpec := { name := "fnExactClearHidden", fn := fun _ => fun
  | [d1, d2] => { results := [.lit (.bool true)], args := [d1, d2] }
  | _ => none }
def fnExactClearHiddenRow : OpenClaim := { program := "ytdogpphfofimeaa", sum := "74e9f253031ba86ce510797898be979f46b896b4ce81a881a915fc26e6026a01", func := "loop.example/g00876/laws.FnExactClearHidden", spec := "fnExactClearHidden", unfollowed := true, recurses := true, apart := false }
def FnExactClearHiddenSaid : Prop := fnExactClearHiddenRow.holds Try.pinned (OpenSpec.ofChange fnExactClearHiddenSpec)

/-- ITS FALSE NEIGHBOUR: 'it returns false'. Refute it at one input. -/
def fnExactClearHiddenWrong : ChangeSpec := { name := "fnExactClearHidden", fn := fun _ => fun
  | [d1, d2] => { results := [.lit (.bool false)], args := [d1, d2] }
  | _ => none }
def FnExactClearHiddenWrongFalsely : Prop := fnExactClearHiddenRow.holds Try.pinned (OpenSpec.ofChange fnExactClearHiddenWrong)

/- THE SECOND FORM. 'bulk': how many values and letters a reading holds, each counted each time it is reached (what is shared counts as often as it is met; a slice's spare places count too). A statement '..UptoSaid' is the law's where the arguments, and the package variables that the reading takes, are together of bulk at most 1048576: NARROWER than '..Said'. Prove '..Said' where nothing that the law and all that it calls make is longer than what came in: it says more and counts as full. Else prove '..UptoSaid'. A law counts once. -/
mutual
def uptoBulk {H : Type} : DataW H → Nat
  | .lit (.string bytes) => bytes.length + 1
  | .lit _ => 1
  | .nil => 1
  | .ptr d => uptoBulk d + 1
  | .slice elems spare => uptoBulkAll elems + uptoBulkAll spare + 1
  | .agg parts => uptoBulkAll parts + 1
  | .iface _ d => uptoBulk d + 1
  | .map entries => uptoBulkEntries entries + 1
  | .held _ => 1
def uptoBulkAll {H : Type} : List (DataW H) → Nat
  | [] => 0
  | d :: r => uptoBulk d + uptoBulkAll r
def uptoBulkEntries {H : Type} : List (Lit × DataW H) → Nat
  | [] => 0
  | x :: r => uptoBulkEntry x + uptoBulkEntries r
def uptoBulkEntry {H : Type} : Lit × DataW H → Nat
  | (.string bytes, d) => bytes.length + uptoBulk d + 1
  | (_, d) => uptoBulk d + 1
 end
def uptoSmall : (H : Type) → List (DataW H) → Bool := fun _ ds => decide (uptoBulkAll ds ≤ 1048576)
def OpenSpec.upto (s : _root_.Go.ChangeSpec) : _root_.Go.OpenSpec := { _root_.Go.OpenSpec.ofChange s with cond := some uptoSmall }

/-- 'laws.FnExactIsValidForm', WHERE WHAT IT READS IS OF BULK AT MOST 1048576: true; the input reads as it did. -/
def fnExactIsValidFormUptoRow : OpenClaim := { program := "ytdogpphfofimeaa", sum := "74e9f253031ba86ce510797898be979f46b896b4ce81a881a915fc26e6026a01", func := "loop.example/g00876/laws.FnExactIsValidForm", spec := "fnExactIsValidForm", unfollowed := true, recurses := true, apart := false, narrowed := true }
def FnExactIsValidFormUptoSaid : Prop := fnExactIsValidFormUptoRow.holds Try.pinned (OpenSpec.upto fnExactIsValidFormSpec)

/-- 'laws.FnExactIsValidAnswers', WHERE WHAT IT READS IS OF BULK AT MOST 1048576: true; the input reads as it did. -/
def fnExactIsValidAnswersUptoRow : OpenClaim := { program := "ytdogpphfofimeaa", sum := "74e9f253031ba86ce510797898be979f46b896b4ce81a881a915fc26e6026a01", func := "loop.example/g00876/laws.FnExactIsValidAnswers", spec := "fnExactIsValidAnswers", unfollowed := true, recurses := true, apart := false, narrowed := true }
def FnExactIsValidAnswersUptoSaid : Prop := fnExactIsValidAnswersUptoRow.holds Try.pinned (OpenSpec.upto fnExactIsValidAnswersSpec)

/-- 'laws.FnExactSetAnswer', WHERE WHAT IT READS IS OF BULK AT MOST 1048576: true; the input reads as it did. -/
def fnExactSetAnswerUptoRow : OpenClaim := { program := "ytdogpphfofimeaa", sum := "74e9f253031ba86ce510797898be979f46b896b4ce81a881a915fc26e6026a01", func := "loop.example/g00876/laws.FnExactSetAnswer", spec := "fnExactSetAnswer", unfollowed := true, recurses := true, apart := false, narrowed := true }
def FnExactSetAnswerUptoSaid : Prop := fnExactSetAnswerUptoRow.holds Try.pinned (OpenSpec.upto fnExactSetAnswerSpec)

/-- 'laws.FnExactVisibleFields', WHERE WHAT IT READS IS OF BULK AT MOST 1048576: true; the input reads as it did. -/
def fnExactVisibleFieldsUptoRow : OpenClaim := { program := "ytdogpphfofimeaa", sum := "74e9f253031ba86ce510797898be979f46b896b4ce81a881a915fc26e6026a01", func := "loop.example/g00876/laws.FnExactVisibleFields", spec := "fnExactVisibleFields", unfollowed := true, recurses := true, apart := false, narrowed := true }
def FnExactVisibleFieldsUptoSaid : Prop := fnExactVisibleFieldsUptoRow.holds Try.pinned (OpenSpec.upto fnExactVisibleFieldsSpec)

/-- 'laws.FnExactClearHidden', WHERE WHAT IT READS IS OF BULK AT MOST 1048576: true; the input reads as it did. -/
def fnExactClearHiddenUptoRow : OpenClaim := { program := "ytdogpphfofimeaa", sum := "74e9f253031ba86ce510797898be979f46b896b4ce81a881a915fc26e6026a01", func := "loop.example/g00876/laws.FnExactClearHidden", spec := "fnExactClearHidden", unfollowed := true, recurses := true, apart := false, narrowed := true }
def FnExactClearHiddenUptoSaid : Prop := fnExactClearHiddenUptoRow.holds Try.pinned (OpenSpec.upto fnExactClearHiddenSpec)

end Rows
end Go.Proofs.Ytdogpphfofimeaa
