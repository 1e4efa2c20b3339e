/-
  No cell of these rows narrows 'for every input' (looked for: loops, veiled, ifaces, maps, wideKeys, modest, calm, conditions, laid).
  DERIVED. THE GIVEN ROWS OF THIS SEAT. 9 by the template 'for every input the law returns true; each argument reads behind the call as it read before'; 0 by the template 'total and deterministic' (their statements: YtdhndojmekcjhaaTotals.lean).
  GIVEN WITH THE SEED: the statements are not yours to turn. If you find one false, say at which input.
  Laid BY PROGRAM, IN A SANDBOX (cutbox-rows.mjs): the forced cells as the released guide's own fill.sh prints them over the translation 02b63866ea8f681b… (all of the seat's roots in one cut). By AI agents, Wed Nov 11 2026. No macro, syntax, notation, axiom, sorry.
-/
import Derived.Test.YtdhndojmekcjhaaChecked
import GoSem.Claim
import GoSem.ClaimJoined
import GoSem.ClaimMapViews
import Derived.JoinedTies
import Derived.KernelRfl
namespace Go.Proofs.Ytdhndojmekcjhaa
/- THE CELL 'sum', in the pinned program and in every row, IS THE sha256 OF THE DUMP (.gsa) THAT YtdhndojmekcjhaaProg.lean LOADS. Nothing in Lean hashes anything: it is a label: what it is worth is what the hold of that sum in a sandbox is worth. -/
noncomputable def Try.pinned : Pinned := { name := "ytdhndojmekcjhaa", sum := "02b63866ea8f681bb1b20eff1edc1a731e3ff3ccab4e02ab465f45b7087ccc45", checked := Try.checked }
namespace Rows
def none {H : Type} : Left H := { results := [], args := [] }

/-- 'laws.FnExactMayShare': WHATEVER THE INPUT: true; the input reads as it did. -/
def fnExactMayShareSpec : ChangeSpec := { name := "fnExactMayShare", fn := fun _ => fun
  | [d1, d2] => { results := [.lit (.bool true)], args := [d1, d2] }
  | _ => none }
def fnExactMayShareRow : OpenClaim := { program := "ytdhndojmekcjhaa", sum := "02b63866ea8f681bb1b20eff1edc1a731e3ff3ccab4e02ab465f45b7087ccc45", func := "loop.example/g00876/laws.FnExactMayShare", spec := "fnExactMayShare", apart := false }
def FnExactMayShareSaid : Prop := fnExactMayShareRow.holds Try.pinned (OpenSpec.ofChange fnExactMayShareSpec)

/-- ITS FALSE NEIGHBOUR: 'it returns false'. Refute it at one input. -/
def fnExactMayShareWrong : ChangeSpec := { name := "fnExactMayShare", fn := fun _ => fun
  | [d1, d2] => { results := [.lit (.bool false)], args := [d1, d2] }
  | _ => none }
def FnExactMayShareWrongFalsely : Prop := fnExactMayShareRow.holds Try.pinned (OpenSpec.ofChange fnExactMayShareWrong)

/-- 'laws.FnExactBoxOf': WHATEVER THE INPUT: true; the input reads as it did. -/
def fnExactBoxOfSpec : ChangeSpec := { name := "fnExactBoxOf", fn := fun _ => fun
  | [d1, d2] => { results := [.lit (.bool true)], args := [d1, d2] }
  | _ => none }
def fnExactBoxOfRow : OpenClaim := { program := "ytdhndojmekcjhaa", sum := "02b63866ea8f681bb1b20eff1edc1a731e3ff3ccab4e02ab465f45b7087ccc45", func := "loop.example/g00876/laws.FnExactBoxOf", spec := "fnExactBoxOf", apart := false }
def FnExactBoxOfSaid : Prop := fnExactBoxOfRow.holds Try.pinned (OpenSpec.ofChange fnExactBoxOfSpec)

/-- ITS FALSE NEIGHBOUR: 'it returns false'. Refute it at one input. -/
def fnExactBoxOfWrong : ChangeSpec := { name := "fnExactBoxOf", fn := fun _ => fun
  | [d1, d2] => { results := [.lit (.bool false)], args := [d1, d2] }
  | _ => none }
def FnExactBoxOfWrongFalsely : Prop := fnExactBoxOfRow.holds Try.pinned (OpenSpec.ofChange fnExactBoxOfWrong)

/-- 'laws.FnExactFewestBoxes': WHATEVER THE INPUT: true; the input reads as it did. -/
def fnExactFewestBoxesSpec : ChangeSpec := { name := "fnExactFewestBoxes", fn := fun _ => fun
  | [d1, d2] => { results := [.lit (.bool true)], args := [d1, d2] }
  | _ => none }
def fnExactFewestBoxesRow : OpenClaim := { program := "ytdhndojmekcjhaa", sum := "02b63866ea8f681bb1b20eff1edc1a731e3ff3ccab4e02ab465f45b7087ccc45", func := "loop.example/g00876/laws.FnExactFewestBoxes", spec := "fnExactFewestBoxes", unfollowed := true, recurses := true, apart := false }
def FnExactFewestBoxesSaid : Prop := fnExactFewestBoxesRow.holds Try.pinned (OpenSpec.ofChange fnExactFewestBoxesSpec)

/-- ITS FALSE NEIGHBOUR: 'it returns false'. Refute it at one input. -/
def fnExactFewestBoxesWrong : ChangeSpec := { name := "fnExactFewestBoxes", fn := fun _ => fun
  | [d1, d2] => { results := [.lit (.bool false)], args := [d1, d2] }
  | _ => none }
def FnExactFewestBoxesWrongFalsely : Prop := fnExactFewestBoxesRow.holds Try.pinned (OpenSpec.ofChange fnExactFewestBoxesWrong)

/-- 'laws.FnExactIsValidArchive': WHATEVER THE INPUT: true; the input reads as it did. -/
def fnExactIsValidArchiveSpec : ChangeSpec := { name := "fnExactIsValidArchive", fn := fun _ => fun
  | [d1, d2, d3] => { results := [.lit (.bool true)], args := [d1, d2, d3] }
  | _ => none }
def fnExactIsValidArchiveRow : OpenClaim := { program := "ytdhndojmekcjhaa", sum := "02b63866ea8f681bb1b20eff1edc1a731e3ff3ccab4e02ab465f45b7087ccc45", func := "loop.example/g00876/laws.FnExactIsValidArchive", spec := "fnExactIsValidArchive", unfollowed := true, recurses := true, apart := false }
def FnExactIsValidArchiveSaid : Prop := fnExactIsValidArchiveRow.holds Try.pinned (OpenSpec.ofChange fnExactIsValidArchiveSpec)

/-- ITS FALSE NEIGHBOUR: 'it returns false'. Refute it at one input. -/
def fnExactIsValidArchiveWrong : ChangeSpec := { name := "fnExactIsValidArchive", fn := fun _ => fun
  | [d1, d2, d3] => { results := [.lit (.bool false)], args := [d1, d2, d3] }
  | _ => none }
def FnExactIsValidArchiveWrongFalsely : Prop := fnExactIsValidArchiveRow.holds Try.pinned (OpenSpec.ofChange fnExactIsValidArchiveWrong)

/-- 'laws.FnExactMoveItem': WHATEVER THE INPUT: true; the input reads as it did. -/
def fnExactMoveItemSpec : ChangeSpec := { name := "fnExactMoveItem", fn := fun _ => fun
  | [d1, d2, d3, d4, d5] => { results := [.lit (.bool true)], args := [d1, d2, d3, d4, d5] }
  | _ => none }
def fnExactMoveItemRow : OpenClaim := { program := "ytdhndojmekcjhaa", sum := "02b63866ea8f681bb1b20eff1edc1a731e3ff3ccab4e02ab465f45b7087ccc45", func := "loop.example/g00876/laws.FnExactMoveItem", spec := "fnExactMoveItem", unfollowed := true, recurses := true, apart := false }
def FnExactMoveItemSaid : Prop := fnExactMoveItemRow.holds Try.pinned (OpenSpec.ofChange fnExactMoveItemSpec)

/-- ITS FALSE NEIGHBOUR: 'it returns false'. Refute it at one input. -/
def fnExactMoveItemWrong : ChangeSpec := { name := "fnExactMoveItem", fn := fun _ => fun
  | [d1, d2, d3, d4, d5] => { results := [.lit (.bool false)], args := [d1, d2, d3, d4, d5] }
  | _ => none }
def FnExactMoveItemWrongFalsely : Prop := fnExactMoveItemRow.holds Try.pinned (OpenSpec.ofChange fnExactMoveItemWrong)

/-- 'laws.FnExactPackArchive': WHATEVER THE INPUT: true; the input reads as it did. -/
def fnExactPackArchiveSpec : ChangeSpec := { name := "fnExactPackArchive", fn := fun _ => fun
  | [d1, d2] => { results := [.lit (.bool true)], args := [d1, d2] }
  | _ => none }
def fnExactPackArchiveRow : OpenClaim := { program := "ytdhndojmekcjhaa", sum := "02b63866ea8f681bb1b20eff1edc1a731e3ff3ccab4e02ab465f45b7087ccc45", func := "loop.example/g00876/laws.FnExactPackArchive", spec := "fnExactPackArchive", unfollowed := true, recurses := true, apart := false }
def FnExactPackArchiveSaid : Prop := fnExactPackArchiveRow.holds Try.pinned (OpenSpec.ofChange fnExactPackArchiveSpec)

/-- ITS FALSE NEIGHBOUR: 'it returns false'. Refute it at one input. -/
def fnExactPackArchiveWrong : ChangeSpec := { name := "fnExactPackArchive", fn := fun _ => fun
  | [d1, d2] => { results := [.lit (.bool false)], args := [d1, d2] }
  | _ => none }
def FnExactPackArchiveWrongFalsely : Prop := fnExactPackArchiveRow.holds Try.pinned (OpenSpec.ofChange fnExactPackArchiveWrong)

/-- 'laws.FnExactMissingNumbers': WHATEVER THE INPUT: true; the input reads as it did. -/
def fnExactMissingNumbersSpec : ChangeSpec := { name := "fnExactMissingNumbers", fn := fun _ => fun
  | [d1, d2] => { results := [.lit (.bool true)], args := [d1, d2] }
  | _ => none }
def fnExactMissingNumbersRow : OpenClaim := { program := "ytdhndojmekcjhaa", sum := "02b63866ea8f681bb1b20eff1edc1a731e3ff3ccab4e02ab465f45b7087ccc45", func := "loop.example/g00876/laws.FnExactMissingNumbers", spec := "fnExactMissingNumbers", unfollowed := true, recurses := true, apart := false }
def FnExactMissingNumbersSaid : Prop := fnExactMissingNumbersRow.holds Try.pinned (OpenSpec.ofChange fnExactMissingNumbersSpec)

/-- ITS FALSE NEIGHBOUR: 'it returns false'. Refute it at one input. -/
def fnExactMissingNumbersWrong : ChangeSpec := { name := "fnExactMissingNumbers", fn := fun _ => fun
  | [d1, d2] => { results := [.lit (.bool false)], args := [d1, d2] }
  | _ => none }
def FnExactMissingNumbersWrongFalsely : Prop := fnExactMissingNumbersRow.holds Try.pinned (OpenSpec.ofChange fnExactMissingNumbersWrong)

/-- 'laws.FnMoves': WHATEVER THE INPUT: true; the input reads as it did. -/
def fnMovesSpec : ChangeSpec := { name := "fnMoves", fn := fun _ => fun
  | [d] => { results := [.lit (.bool true)], args := [d] }
  | _ => none }
def fnMovesRow : OpenClaim := { program := "ytdhndojmekcjhaa", sum := "02b63866ea8f681bb1b20eff1edc1a731e3ff3ccab4e02ab465f45b7087ccc45", func := "loop.example/g00876/laws.FnMoves", spec := "fnMoves", unfollowed := true, recurses := true, apart := false }
def FnMovesSaid : Prop := fnMovesRow.holds Try.pinned (OpenSpec.ofChange fnMovesSpec)

/-- ITS FALSE NEIGHBOUR: 'it returns false'. Refute it at one input. -/
def fnMovesWrong : ChangeSpec := { name := "fnMoves", fn := fun _ => fun
  | [d] => { results := [.lit (.bool false)], args := [d] }
  | _ => none }
def FnMovesWrongFalsely : Prop := fnMovesRow.holds Try.pinned (OpenSpec.ofChange fnMovesWrong)

/-- 'laws.FnPacking': WHATEVER THE INPUT: true; the input reads as it did. -/
def fnPackingSpec : ChangeSpec := { name := "fnPacking", fn := fun _ => fun
  | [d] => { results := [.lit (.bool true)], args := [d] }
  | _ => none }
def fnPackingRow : OpenClaim := { program := "ytdhndojmekcjhaa", sum := "02b63866ea8f681bb1b20eff1edc1a731e3ff3ccab4e02ab465f45b7087ccc45", func := "loop.example/g00876/laws.FnPacking", spec := "fnPacking", unfollowed := true, recurses := true, apart := false }
def FnPackingSaid : Prop := fnPackingRow.holds Try.pinned (OpenSpec.ofChange fnPackingSpec)

/-- ITS FALSE NEIGHBOUR: 'it returns false'. Refute it at one input. -/
def fnPackingWrong : ChangeSpec := { name := "fnPacking", fn := fun _ => fun
  | [d] => { results := [.lit (.bool false)], args := [d] }
  | _ => none }
def FnPackingWrongFalsely : Prop := fnPackingRow.holds Try.pinned (OpenSpec.ofChange fnPackingWrong)

/- THE SECOND FORM. 'bulk': how many values and letters a reading holds, each counted each time it is reached (what is shared counts as often as it is met; a slice's spare places count too). A statement '..UptoSaid' is the law's where the arguments, and the package variables that the reading takes, are together of bulk at most 1048576: NARROWER than '..Said'. Prove '..Said' where nothing that the law and all that it calls make is longer than what came in: it says more and counts as full. Else prove '..UptoSaid'. A law counts once. -/
mutual
def uptoBulk {H : Type} : DataW H → Nat
  | .lit (.string bytes) => bytes.length + 1
  | .lit _ => 1
  | .nil => 1
  | .ptr d => uptoBulk d + 1
  | .slice elems spare => uptoBulkAll elems + uptoBulkAll spare + 1
  | .agg parts => uptoBulkAll parts + 1
  | .iface _ d => uptoBulk d + 1
  | .map entries => uptoBulkEntries entries + 1
  | .held _ => 1
def uptoBulkAll {H : Type} : List (DataW H) → Nat
  | [] => 0
  | d :: r => uptoBulk d + uptoBulkAll r
def uptoBulkEntries {H : Type} : List (Lit × DataW H) → Nat
  | [] => 0
  | x :: r => uptoBulkEntry x + uptoBulkEntries r
def uptoBulkEntry {H : Type} : Lit × DataW H → Nat
  | (.string bytes, d) => bytes.length + uptoBulk d + 1
  | (_, d) => uptoBulk d + 1
 end
def uptoSmall : (H : Type) → List (DataW H) → Bool := fun _ ds => decide (uptoBulkAll ds ≤ 1048576)
def OpenSpec.upto (s : _root_.Go.ChangeSpec) : _root_.Go.OpenSpec := { _root_.Go.OpenSpec.ofChange s with cond := some uptoSmall }

/-- 'laws.FnExactMayShare', WHERE WHAT IT READS IS OF BULK AT MOST 1048576: true; the input reads as it did. -/
def fnExactMayShareUptoRow : OpenClaim := { program := "ytdhndojmekcjhaa", sum := "02b63866ea8f681bb1b20eff1edc1a731e3ff3ccab4e02ab465f45b7087ccc45", func := "loop.example/g00876/laws.FnExactMayShare", spec := "fnExactMayShare", apart := false, narrowed := true }
def FnExactMayShareUptoSaid : Prop := fnExactMayShareUptoRow.holds Try.pinned (OpenSpec.upto fnExactMayShareSpec)

/-- 'laws.FnExactBoxOf', WHERE WHAT IT READS IS OF BULK AT MOST 1048576: true; the input reads as it did. -/
def fnExactBoxOfUptoRow : OpenClaim := { program := "ytdhndojmekcjhaa", sum := "02b63866ea8f681bb1b20eff1edc1a731e3ff3ccab4e02ab465f45b7087ccc45", func := "loop.example/g00876/laws.FnExactBoxOf", spec := "fnExactBoxOf", apart := false, narrowed := true }
def FnExactBoxOfUptoSaid : Prop := fnExactBoxOfUptoRow.holds Try.pinned (OpenSpec.upto fnExactBoxOfSpec)

/-- 'laws.FnExactFewestBoxes', WHERE WHAT IT READS IS OF BULK AT MOST 1048576: true; the input reads as it did. -/
def fnExactFewestBoxesUptoRow : OpenClaim := { program := "ytdhndojmekcjhaa", sum := "02b63866ea8f681bb1b20eff1edc1a731e3ff3ccab4e02ab465f45b7087ccc45", func := "loop.example/g00876/laws.FnExactFewestBoxes", spec := "fnExactFewestBoxes", unfollowed := true, recurses := true, apart := false, narrowed := true }
def FnExactFewestBoxesUptoSaid : Prop := fnExactFewestBoxesUptoRow.holds Try.pinned (OpenSpec.upto fnExactFewestBoxesSpec)

/-- 'laws.FnExactIsValidArchive', WHERE WHAT IT READS IS OF BULK AT MOST 1048576: true; the input reads as it did. -/
def fnExactIsValidArchiveUptoRow : OpenClaim := { program := "ytdhndojmekcjhaa", sum := "02b63866ea8f681bb1b20eff1edc1a731e3ff3ccab4e02ab465f45b7087ccc45", func := "loop.example/g00876/laws.FnExactIsValidArchive", spec := "fnExactIsValidArchive", unfollowed := true, recurses := true, apart := false, narrowed := true }
def FnExactIsValidArchiveUptoSaid : Prop := fnExactIsValidArchiveUptoRow.holds Try.pinned (OpenSpec.upto fnExactIsValidArchiveSpec)

/-- 'laws.FnExactMoveItem', WHERE WHAT IT READS IS OF BULK AT MOST 1048576: true; the input reads as it did. -/
def fnExactMoveItemUptoRow : OpenClaim := { program := "ytdhndojmekcjhaa", sum := "02b63866ea8f681bb1b20eff1edc1a731e3ff3ccab4e02ab465f45b7087ccc45", func := "loop.example/g00876/laws.FnExactMoveItem", spec := "fnExactMoveItem", unfollowed := true, recurses := true, apart := false, narrowed := true }
def FnExactMoveItemUptoSaid : Prop := fnExactMoveItemUptoRow.holds Try.pinned (OpenSpec.upto fnExactMoveItemSpec)

/-- 'laws.FnExactPackArchive', WHERE WHAT IT READS IS OF BULK AT MOST 1048576: true; the input reads as it did. -/
def fnExactPackArchiveUptoRow : OpenClaim := { program := "ytdhndojmekcjhaa", sum := "02b63866ea8f681bb1b20eff1edc1a731e3ff3ccab4e02ab465f45b7087ccc45", func := "loop.example/g00876/laws.FnExactPackArchive", spec := "fnExactPackArchive", unfollowed := true, recurses := true, apart := false, narrowed := true }
def FnExactPackArchiveUptoSaid : Prop := fnExactPackArchiveUptoRow.holds Try.pinned (OpenSpec.upto fnExactPackArchiveSpec)

/-- 'laws.FnExactMissingNumbers', WHERE WHAT IT READS IS OF BULK AT MOST 1048576: true; the input reads as it did. -/
def fnExactMissingNumbersUptoRow : OpenClaim := { program := "ytdhndojmekcjhaa", sum := "02b63866ea8f681bb1b20eff1edc1a731e3ff3ccab4e02ab465f45b7087ccc45", func := "loop.example/g00876/laws.FnExactMissingNumbers", spec := "fnExactMissingNumbers", unfollowed := true, recurses := true, apart := false, narrowed := true }
def FnExactMissingNumbersUptoSaid : Prop := fnExactMissingNumbersUptoRow.holds Try.pinned (OpenSpec.upto fnExactMissingNumbersSpec)

/-- 'laws.FnMoves', WHERE WHAT IT READS IS OF BULK AT MOST 1048576: true; the input reads as it did. -/
def fnMovesUptoRow : OpenClaim := { program := "ytdhndojmekcjhaa", sum := "02b63866ea8f681bb1b20eff1edc1a731e3ff3ccab4e02ab465f45b7087ccc45", func := "loop.example/g00876/laws.FnMoves", spec := "fnMoves", unfollowed := true, recurses := true, apart := false, narrowed := true }
def FnMovesUptoSaid : Prop := fnMovesUptoRow.holds Try.pinned (OpenSpec.upto fnMovesSpec)

/-- 'laws.FnPacking', WHERE WHAT IT READS IS OF BULK AT MOST 1048576: true; the input reads as it did. -/
def fnPackingUptoRow : OpenClaim := { program := "ytdhndojmekcjhaa", sum := "02b63866ea8f681bb1b20eff1edc1a731e3ff3ccab4e02ab465f45b7087ccc45", func := "loop.example/g00876/laws.FnPacking", spec := "fnPacking", unfollowed := true, recurses := true, apart := false, narrowed := true }
def FnPackingUptoSaid : Prop := fnPackingUptoRow.holds Try.pinned (OpenSpec.upto fnPackingSpec)

end Rows
end Go.Proofs.Ytdhndojmekcjhaa
