/-
  No cell of these rows narrows 'for every input' (looked for: loops, veiled, ifaces, maps, wideKeys, modest, calm, conditions, laid).
  DERIVED. THE GIVEN ROWS OF THIS SEAT. 5 by the template 'for every input the law returns true; each argument reads behind the call as it read before'; 0 by the template 'total and deterministic' (their statements: YtdbhelhoaciodaaTotals.lean).
  GIVEN WITH THE SEED: the statements are not yours to turn. If you find one false, say at which input.
  Laid BY PROGRAM, IN A SANDBOX (cutbox-rows.mjs): the forced cells as the released guide's own fill.sh prints them over the translation c408e8bb770263a6… (all of the seat's roots in one cut). By AI agents, Wed Nov 11 2026. No macro, syntax, notation, axiom, sorry.
-/
import Derived.Test.YtdbhelhoaciodaaChecked
import GoSem.Claim
import GoSem.ClaimJoined
import GoSem.ClaimMapViews
import Derived.JoinedTies
import Derived.KernelRfl
namespace Go.Proofs.Ytdbhelhoaciodaa
/- THE CELL 'sum', in the pinned program and in every row, IS THE sha256 OF THE DUMP (.gsa) THAT YtdbhelhoaciodaaProg.lean LOADS. Nothing in Lean hashes anything: it is a label: what it is worth is what the hold of that sum in a sandbox is worth. -/
noncomputable def Try.pinned : Pinned := { name := "ytdbhelhoaciodaa", sum := "c408e8bb770263a69bc425c2fd0373a95f91db6189f191a734f5d74a2bc47a1b", checked := Try.checked }
namespace Rows
def none {H : Type} : Left H := { results := [], args := [] }

/-- 'laws.FnExactMissingNumbers': WHATEVER THE INPUT: true; the input reads as it did. -/
def fnExactMissingNumbersSpec : ChangeSpec := { name := "fnExactMissingNumbers", fn := fun _ => fun
  | [d1, d2] => { results := [.lit (.bool true)], args := [d1, d2] }
  | _ => none }
def fnExactMissingNumbersRow : OpenClaim := { program := "ytdbhelhoaciodaa", sum := "c408e8bb770263a69bc425c2fd0373a95f91db6189f191a734f5d74a2bc47a1b", func := "loop.example/g00876/laws.FnExactMissingNumbers", spec := "fnExactMissingNumbers", unfollowed := true, recurses := true, apart := false }
def FnExactMissingNumbersSaid : Prop := fnExactMissingNumbersRow.holds Try.pinned (OpenSpec.ofChange fnExactMissingNumbersSpec)

/-- ITS FALSE NEIGHBOUR: 'it returns false'. Refute it at one input. -/
def fnExactMissingNumbersWrong : ChangeSpec := { name := "fnExactMissingNumbers", fn := fun _ => fun
  | [d1, d2] => { results := [.lit (.bool false)], args := [d1, d2] }
  | _ => none }
def FnExactMissingNumbersWrongFalsely : Prop := fnExactMissingNumbersRow.holds Try.pinned (OpenSpec.ofChange fnExactMissingNumbersWrong)

/-- 'laws.FnExactMoveItem': WHATEVER THE INPUT: true; the input reads as it did. -/
def fnExactMoveItemSpec : ChangeSpec := { name := "fnExactMoveItem", fn := fun _ => fun
  | [d1, d2, d3, d4, d5] => { results := [.lit (.bool true)], args := [d1, d2, d3, d4, d5] }
  | _ => none }
def fnExactMoveItemRow : OpenClaim := { program := "ytdbhelhoaciodaa", sum := "c408e8bb770263a69bc425c2fd0373a95f91db6189f191a734f5d74a2bc47a1b", func := "loop.example/g00876/laws.FnExactMoveItem", spec := "fnExactMoveItem", unfollowed := true, recurses := true, apart := false }
def FnExactMoveItemSaid : Prop := fnExactMoveItemRow.holds Try.pinned (OpenSpec.ofChange fnExactMoveItemSpec)

/-- ITS FALSE NEIGHBOUR: 'it returns false'. Refute it at one input. -/
def fnExactMoveItemWrong : ChangeSpec := { name := "fnExactMoveItem", fn := fun _ => fun
  | [d1, d2, d3, d4, d5] => { results := [.lit (.bool false)], args := [d1, d2, d3, d4, d5] }
  | _ => none }
def FnExactMoveItemWrongFalsely : Prop := fnExactMoveItemRow.holds Try.pinned (OpenSpec.ofChange fnExactMoveItemWrong)

/-- 'laws.FnExactPackArchive': WHATEVER THE INPUT: true; the input reads as it did. -/
def fnExactPackArchiveSpec : ChangeSpec := { name := "fnExactPackArchive", fn := fun _ => fun
  | [d1, d2] => { results := [.lit (.bool true)], args := [d1, d2] }
  | _ => none }
def fnExactPackArchiveRow : OpenClaim := { program := "ytdbhelhoaciodaa", sum := "c408e8bb770263a69bc425c2fd0373a95f91db6189f191a734f5d74a2bc47a1b", func := "loop.example/g00876/laws.FnExactPackArchive", spec := "fnExactPackArchive", unfollowed := true, recurses := true, apart := false }
def FnExactPackArchiveSaid : Prop := fnExactPackArchiveRow.holds Try.pinned (OpenSpec.ofChange fnExactPackArchiveSpec)

/-- ITS FALSE NEIGHBOUR: 'it returns false'. Refute it at one input. -/
def fnExactPackArchiveWrong : ChangeSpec := { name := "fnExactPackArchive", fn := fun _ => fun
  | [d1, d2] => { results := [.lit (.bool false)], args := [d1, d2] }
  | _ => none }
def FnExactPackArchiveWrongFalsely : Prop := fnExactPackArchiveRow.holds Try.pinned (OpenSpec.ofChange fnExactPackArchiveWrong)

/-- 'laws.FnExactInsertPart': WHATEVER THE INPUT: true; the input reads as it did. -/
def fnExactInsertPartSpec : ChangeSpec := { name := "fnExactInsertPart", fn := fun _ => fun
  | [d1, d2, d3, d4] => { results := [.lit (.bool true)], args := [d1, d2, d3, d4] }
  | _ => none }
def fnExactInsertPartRow : OpenClaim := { program := "ytdbhelhoaciodaa", sum := "c408e8bb770263a69bc425c2fd0373a95f91db6189f191a734f5d74a2bc47a1b", func := "loop.example/g00876/laws.FnExactInsertPart", spec := "fnExactInsertPart", inPlace := ["slices.overlaps[loop.example/g00876/impl.Part]"], unfollowed := true, recurses := true, apart := false }
def FnExactInsertPartSaid : Prop := fnExactInsertPartRow.holds Try.pinned (OpenSpec.ofChange fnExactInsertPartSpec)

/-- ITS FALSE NEIGHBOUR: 'it returns false'. Refute it at one input. -/
def fnExactInsertPartWrong : ChangeSpec := { name := "fnExactInsertPart", fn := fun _ => fun
  | [d1, d2, d3, d4] => { results := [.lit (.bool false)], args := [d1, d2, d3, d4] }
  | _ => none }
def FnExactInsertPartWrongFalsely : Prop := fnExactInsertPartRow.holds Try.pinned (OpenSpec.ofChange fnExactInsertPartWrong)

/-- 'laws.FnExactDropVoid': WHATEVER THE INPUT: true; the input reads as it did. -/
def fnExactDropVoidSpec : ChangeSpec := { name := "fnExactDropVoid", fn := fun _ => fun
  | [d1, d2, d3] => { results := [.lit (.bool true)], args := [d1, d2, d3] }
  | _ => none }
def fnExactDropVoidRow : OpenClaim := { program := "ytdbhelhoaciodaa", sum := "c408e8bb770263a69bc425c2fd0373a95f91db6189f191a734f5d74a2bc47a1b", func := "loop.example/g00876/laws.FnExactDropVoid", spec := "fnExactDropVoid", unfollowed := true, recurses := true, apart := false }
def FnExactDropVoidSaid : Prop := fnExactDropVoidRow.holds Try.pinned (OpenSpec.ofChange fnExactDropVoidSpec)

/-- ITS FALSE NEIGHBOUR: 'it returns false'. Refute it at one input. -/
def fnExactDropVoidWrong : ChangeSpec := { name := "fnExactDropVoid", fn := fun _ => fun
  | [d1, d2, d3] => { results := [.lit (.bool false)], args := [d1, d2, d3] }
  | _ => none }
def FnExactDropVoidWrongFalsely : Prop := fnExactDropVoidRow.holds Try.pinned (OpenSpec.ofChange fnExactDropVoidWrong)

/- THE SECOND FORM. 'bulk': how many values and letters a reading holds, each counted each time it is reached (what is shared counts as often as it is met; a slice's spare places count too). A statement '..UptoSaid' is the law's where the arguments, and the package variables that the reading takes, are together of bulk at most 1048576: NARROWER than '..Said'. Prove '..Said' where nothing that the law and all that it calls make is longer than what came in: it says more and counts as full. Else prove '..UptoSaid'. A law counts once. -/
mutual
def uptoBulk {H : Type} : DataW H → Nat
  | .lit (.string bytes) => bytes.length + 1
  | .lit _ => 1
  | .nil => 1
  | .ptr d => uptoBulk d + 1
  | .slice elems spare => uptoBulkAll elems + uptoBulkAll spare + 1
  | .agg parts => uptoBulkAll parts + 1
  | .iface _ d => uptoBulk d + 1
  | .map entries => uptoBulkEntries entries + 1
  | .held _ => 1
def uptoBulkAll {H : Type} : List (DataW H) → Nat
  | [] => 0
  | d :: r => uptoBulk d + uptoBulkAll r
def uptoBulkEntries {H : Type} : List (Lit × DataW H) → Nat
  | [] => 0
  | x :: r => uptoBulkEntry x + uptoBulkEntries r
def uptoBulkEntry {H : Type} : Lit × DataW H → Nat
  | (.string bytes, d) => bytes.length + uptoBulk d + 1
  | (_, d) => uptoBulk d + 1
 end
def uptoSmall : (H : Type) → List (DataW H) → Bool := fun _ ds => decide (uptoBulkAll ds ≤ 1048576)
def OpenSpec.upto (s : _root_.Go.ChangeSpec) : _root_.Go.OpenSpec := { _root_.Go.OpenSpec.ofChange s with cond := some uptoSmall }

/-- 'laws.FnExactMissingNumbers', WHERE WHAT IT READS IS OF BULK AT MOST 1048576: true; the input reads as it did. -/
def fnExactMissingNumbersUptoRow : OpenClaim := { program := "ytdbhelhoaciodaa", sum := "c408e8bb770263a69bc425c2fd0373a95f91db6189f191a734f5d74a2bc47a1b", func := "loop.example/g00876/laws.FnExactMissingNumbers", spec := "fnExactMissingNumbers", unfollowed := true, recurses := true, apart := false, narrowed := true }
def FnExactMissingNumbersUptoSaid : Prop := fnExactMissingNumbersUptoRow.holds Try.pinned (OpenSpec.upto fnExactMissingNumbersSpec)

/-- 'laws.FnExactMoveItem', WHERE WHAT IT READS IS OF BULK AT MOST 1048576: true; the input reads as it did. -/
def fnExactMoveItemUptoRow : OpenClaim := { program := "ytdbhelhoaciodaa", sum := "c408e8bb770263a69bc425c2fd0373a95f91db6189f191a734f5d74a2bc47a1b", func := "loop.example/g00876/laws.FnExactMoveItem", spec := "fnExactMoveItem", unfollowed := true, recurses := true, apart := false, narrowed := true }
def FnExactMoveItemUptoSaid : Prop := fnExactMoveItemUptoRow.holds Try.pinned (OpenSpec.upto fnExactMoveItemSpec)

/-- 'laws.FnExactPackArchive', WHERE WHAT IT READS IS OF BULK AT MOST 1048576: true; the input reads as it did. -/
def fnExactPackArchiveUptoRow : OpenClaim := { program := "ytdbhelhoaciodaa", sum := "c408e8bb770263a69bc425c2fd0373a95f91db6189f191a734f5d74a2bc47a1b", func := "loop.example/g00876/laws.FnExactPackArchive", spec := "fnExactPackArchive", unfollowed := true, recurses := true, apart := false, narrowed := true }
def FnExactPackArchiveUptoSaid : Prop := fnExactPackArchiveUptoRow.holds Try.pinned (OpenSpec.upto fnExactPackArchiveSpec)

/-- 'laws.FnExactInsertPart', WHERE WHAT IT READS IS OF BULK AT MOST 1048576: true; the input reads as it did. -/
def fnExactInsertPartUptoRow : OpenClaim := { program := "ytdbhelhoaciodaa", sum := "c408e8bb770263a69bc425c2fd0373a95f91db6189f191a734f5d74a2bc47a1b", func := "loop.example/g00876/laws.FnExactInsertPart", spec := "fnExactInsertPart", inPlace := ["slices.overlaps[loop.example/g00876/impl.Part]"], unfollowed := true, recurses := true, apart := false, narrowed := true }
def FnExactInsertPartUptoSaid : Prop := fnExactInsertPartUptoRow.holds Try.pinned (OpenSpec.upto fnExactInsertPartSpec)

/-- 'laws.FnExactDropVoid', WHERE WHAT IT READS IS OF BULK AT MOST 1048576: true; the input reads as it did. -/
def fnExactDropVoidUptoRow : OpenClaim := { program := "ytdbhelhoaciodaa", sum := "c408e8bb770263a69bc425c2fd0373a95f91db6189f191a734f5d74a2bc47a1b", func := "loop.example/g00876/laws.FnExactDropVoid", spec := "fnExactDropVoid", unfollowed := true, recurses := true, apart := false, narrowed := true }
def FnExactDropVoidUptoSaid : Prop := fnExactDropVoidUptoRow.holds Try.pinned (OpenSpec.upto fnExactDropVoidSpec)

end Rows
end Go.Proofs.Ytdbhelhoaciodaa
