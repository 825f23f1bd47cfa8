/-
  No cell of these rows narrows 'for every input' (looked for: loops, veiled, ifaces, maps, wideKeys, modest, calm, conditions, laid).
  DERIVED. THE GIVEN ROWS OF THIS SEAT. 12 by the template 'for every input the law returns true; each argument reads behind the call as it read before'; 0 by the template 'total and deterministic' (their statements: YtoblacbibdgddaaTotals.lean).
  GIVEN WITH THE SEED: the statements are not yours to turn. If you find one false, say at which input.
  Laid BY PROGRAM, IN A SANDBOX (cutbox-rows.mjs): the forced cells as the released guide's own fill.sh prints them over the translation 0679f75c830038d5… (all of the seat's roots in one cut). By AI agents, Wed Nov 11 2026. No macro, syntax, notation, axiom, sorry.
-/
import Derived.Test.YtoblacbibdgddaaChecked
import GoSem.Claim
import GoSem.ClaimJoined
import GoSem.ClaimMapViews
import Derived.JoinedTies
import Derived.KernelRfl
namespace Go.Proofs.Ytoblacbibdgddaa
/- THE CELL 'sum', in the pinned program and in every row, IS THE sha256 OF THE DUMP (.gsa) THAT YtoblacbibdgddaaProg.lean LOADS. Nothing in Lean hashes anything: it is a label: what it is worth is what the hold of that sum in a sandbox is worth. -/
noncomputable def Try.pinned : Pinned := { name := "ytoblacbibdgddaa", sum := "0679f75c830038d54a8939387dd7093f66ede1c933e9dcfe38caec3aea2bd3f8", checked := Try.checked }
namespace Rows
def none {H : Type} : Left H := { results := [], args := [] }

/-- 'laws.FnExactDeedOk': WHATEVER THE INPUT: true; the input reads as it did. -/
def fnExactDeedOkSpec : ChangeSpec := { name := "fnExactDeedOk", fn := fun _ => fun
  | [d] => { results := [.lit (.bool true)], args := [d] }
  | _ => none }
def fnExactDeedOkRow : OpenClaim := { program := "ytoblacbibdgddaa", sum := "0679f75c830038d54a8939387dd7093f66ede1c933e9dcfe38caec3aea2bd3f8", func := "loop.example/g00183/laws.FnExactDeedOk", spec := "fnExactDeedOk", apart := false }
def FnExactDeedOkSaid : Prop := fnExactDeedOkRow.holds Try.pinned (OpenSpec.ofChange fnExactDeedOkSpec)

/-- ITS FALSE NEIGHBOUR: 'it returns false'. Refute it at one input. -/
def fnExactDeedOkWrong : ChangeSpec := { name := "fnExactDeedOk", fn := fun _ => fun
  | [d] => { results := [.lit (.bool false)], args := [d] }
  | _ => none }
def FnExactDeedOkWrongFalsely : Prop := fnExactDeedOkRow.holds Try.pinned (OpenSpec.ofChange fnExactDeedOkWrong)

/-- 'laws.FnExactPieces': WHATEVER THE INPUT: true; the input reads as it did. -/
def fnExactPiecesSpec : ChangeSpec := { name := "fnExactPieces", fn := fun _ => fun
  | [d1, d2] => { results := [.lit (.bool true)], args := [d1, d2] }
  | _ => none }
def fnExactPiecesRow : OpenClaim := { program := "ytoblacbibdgddaa", sum := "0679f75c830038d54a8939387dd7093f66ede1c933e9dcfe38caec3aea2bd3f8", func := "loop.example/g00183/laws.FnExactPieces", spec := "fnExactPieces", apart := false }
def FnExactPiecesSaid : Prop := fnExactPiecesRow.holds Try.pinned (OpenSpec.ofChange fnExactPiecesSpec)

/-- ITS FALSE NEIGHBOUR: 'it returns false'. Refute it at one input. -/
def fnExactPiecesWrong : ChangeSpec := { name := "fnExactPieces", fn := fun _ => fun
  | [d1, d2] => { results := [.lit (.bool false)], args := [d1, d2] }
  | _ => none }
def FnExactPiecesWrongFalsely : Prop := fnExactPiecesRow.holds Try.pinned (OpenSpec.ofChange fnExactPiecesWrong)

/-- 'laws.FnExactReadPiece': WHATEVER THE INPUT: true; the input reads as it did. -/
def fnExactReadPieceSpec : ChangeSpec := { name := "fnExactReadPiece", fn := fun _ => fun
  | [d] => { results := [.lit (.bool true)], args := [d] }
  | _ => none }
def fnExactReadPieceRow : OpenClaim := { program := "ytoblacbibdgddaa", sum := "0679f75c830038d54a8939387dd7093f66ede1c933e9dcfe38caec3aea2bd3f8", func := "loop.example/g00183/laws.FnExactReadPiece", spec := "fnExactReadPiece", apart := false }
def FnExactReadPieceSaid : Prop := fnExactReadPieceRow.holds Try.pinned (OpenSpec.ofChange fnExactReadPieceSpec)

/-- ITS FALSE NEIGHBOUR: 'it returns false'. Refute it at one input. -/
def fnExactReadPieceWrong : ChangeSpec := { name := "fnExactReadPiece", fn := fun _ => fun
  | [d] => { results := [.lit (.bool false)], args := [d] }
  | _ => none }
def FnExactReadPieceWrongFalsely : Prop := fnExactReadPieceRow.holds Try.pinned (OpenSpec.ofChange fnExactReadPieceWrong)

/-- 'laws.FnExactNextOf': WHATEVER THE INPUT: true; the input reads as it did. -/
def fnExactNextOfSpec : ChangeSpec := { name := "fnExactNextOf", fn := fun _ => fun
  | [d1, d2] => { results := [.lit (.bool true)], args := [d1, d2] }
  | _ => none }
def fnExactNextOfRow : OpenClaim := { program := "ytoblacbibdgddaa", sum := "0679f75c830038d54a8939387dd7093f66ede1c933e9dcfe38caec3aea2bd3f8", func := "loop.example/g00183/laws.FnExactNextOf", spec := "fnExactNextOf", apart := false }
def FnExactNextOfSaid : Prop := fnExactNextOfRow.holds Try.pinned (OpenSpec.ofChange fnExactNextOfSpec)

/-- ITS FALSE NEIGHBOUR: 'it returns false'. Refute it at one input. -/
def fnExactNextOfWrong : ChangeSpec := { name := "fnExactNextOf", fn := fun _ => fun
  | [d1, d2] => { results := [.lit (.bool false)], args := [d1, d2] }
  | _ => none }
def FnExactNextOfWrongFalsely : Prop := fnExactNextOfRow.holds Try.pinned (OpenSpec.ofChange fnExactNextOfWrong)

/-- 'laws.FnRings': WHATEVER THE INPUT: true; the input reads as it did. -/
def fnRingsSpec : ChangeSpec := { name := "fnRings", fn := fun _ => fun
  | [d] => { results := [.lit (.bool true)], args := [d] }
  | _ => none }
def fnRingsRow : OpenClaim := { program := "ytoblacbibdgddaa", sum := "0679f75c830038d54a8939387dd7093f66ede1c933e9dcfe38caec3aea2bd3f8", func := "loop.example/g00183/laws.FnRings", spec := "fnRings", apart := false }
def FnRingsSaid : Prop := fnRingsRow.holds Try.pinned (OpenSpec.ofChange fnRingsSpec)

/-- ITS FALSE NEIGHBOUR: 'it returns false'. Refute it at one input. -/
def fnRingsWrong : ChangeSpec := { name := "fnRings", fn := fun _ => fun
  | [d] => { results := [.lit (.bool false)], args := [d] }
  | _ => none }
def FnRingsWrongFalsely : Prop := fnRingsRow.holds Try.pinned (OpenSpec.ofChange fnRingsWrong)

/-- 'laws.FnExactRingsOk': WHATEVER THE INPUT: true; the input reads as it did. -/
def fnExactRingsOkSpec : ChangeSpec := { name := "fnExactRingsOk", fn := fun _ => fun
  | [d] => { results := [.lit (.bool true)], args := [d] }
  | _ => none }
def fnExactRingsOkRow : OpenClaim := { program := "ytoblacbibdgddaa", sum := "0679f75c830038d54a8939387dd7093f66ede1c933e9dcfe38caec3aea2bd3f8", func := "loop.example/g00183/laws.FnExactRingsOk", spec := "fnExactRingsOk", apart := false }
def FnExactRingsOkSaid : Prop := fnExactRingsOkRow.holds Try.pinned (OpenSpec.ofChange fnExactRingsOkSpec)

/-- ITS FALSE NEIGHBOUR: 'it returns false'. Refute it at one input. -/
def fnExactRingsOkWrong : ChangeSpec := { name := "fnExactRingsOk", fn := fun _ => fun
  | [d] => { results := [.lit (.bool false)], args := [d] }
  | _ => none }
def FnExactRingsOkWrongFalsely : Prop := fnExactRingsOkRow.holds Try.pinned (OpenSpec.ofChange fnExactRingsOkWrong)

/-- 'laws.FnExactBundleOk': WHATEVER THE INPUT: true; the input reads as it did. -/
def fnExactBundleOkSpec : ChangeSpec := { name := "fnExactBundleOk", fn := fun _ => fun
  | [d] => { results := [.lit (.bool true)], args := [d] }
  | _ => none }
def fnExactBundleOkRow : OpenClaim := { program := "ytoblacbibdgddaa", sum := "0679f75c830038d54a8939387dd7093f66ede1c933e9dcfe38caec3aea2bd3f8", func := "loop.example/g00183/laws.FnExactBundleOk", spec := "fnExactBundleOk", apart := false }
def FnExactBundleOkSaid : Prop := fnExactBundleOkRow.holds Try.pinned (OpenSpec.ofChange fnExactBundleOkSpec)

/-- ITS FALSE NEIGHBOUR: 'it returns false'. Refute it at one input. -/
def fnExactBundleOkWrong : ChangeSpec := { name := "fnExactBundleOk", fn := fun _ => fun
  | [d] => { results := [.lit (.bool false)], args := [d] }
  | _ => none }
def FnExactBundleOkWrongFalsely : Prop := fnExactBundleOkRow.holds Try.pinned (OpenSpec.ofChange fnExactBundleOkWrong)

/-- 'laws.FnExactTurnOk': WHATEVER THE INPUT: true; the input reads as it did. -/
def fnExactTurnOkSpec : ChangeSpec := { name := "fnExactTurnOk", fn := fun _ => fun
  | [d1, d2] => { results := [.lit (.bool true)], args := [d1, d2] }
  | _ => none }
def fnExactTurnOkRow : OpenClaim := { program := "ytoblacbibdgddaa", sum := "0679f75c830038d54a8939387dd7093f66ede1c933e9dcfe38caec3aea2bd3f8", func := "loop.example/g00183/laws.FnExactTurnOk", spec := "fnExactTurnOk", apart := false }
def FnExactTurnOkSaid : Prop := fnExactTurnOkRow.holds Try.pinned (OpenSpec.ofChange fnExactTurnOkSpec)

/-- ITS FALSE NEIGHBOUR: 'it returns false'. Refute it at one input. -/
def fnExactTurnOkWrong : ChangeSpec := { name := "fnExactTurnOk", fn := fun _ => fun
  | [d1, d2] => { results := [.lit (.bool false)], args := [d1, d2] }
  | _ => none }
def FnExactTurnOkWrongFalsely : Prop := fnExactTurnOkRow.holds Try.pinned (OpenSpec.ofChange fnExactTurnOkWrong)

/-- 'laws.FnExactOneOrder': WHATEVER THE INPUT: true; the input reads as it did. -/
def fnExactOneOrderSpec : ChangeSpec := { name := "fnExactOneOrder", fn := fun _ => fun
  | [d] => { results := [.lit (.bool true)], args := [d] }
  | _ => none }
def fnExactOneOrderRow : OpenClaim := { program := "ytoblacbibdgddaa", sum := "0679f75c830038d54a8939387dd7093f66ede1c933e9dcfe38caec3aea2bd3f8", func := "loop.example/g00183/laws.FnExactOneOrder", spec := "fnExactOneOrder", apart := false }
def FnExactOneOrderSaid : Prop := fnExactOneOrderRow.holds Try.pinned (OpenSpec.ofChange fnExactOneOrderSpec)

/-- ITS FALSE NEIGHBOUR: 'it returns false'. Refute it at one input. -/
def fnExactOneOrderWrong : ChangeSpec := { name := "fnExactOneOrder", fn := fun _ => fun
  | [d] => { results := [.lit (.bool false)], args := [d] }
  | _ => none }
def FnExactOneOrderWrongFalsely : Prop := fnExactOneOrderRow.holds Try.pinned (OpenSpec.ofChange fnExactOneOrderWrong)

/-- 'laws.FnExactFirstToken': WHATEVER THE INPUT: true; the input reads as it did. -/
def fnExactFirstTokenSpec : ChangeSpec := { name := "fnExactFirstToken", fn := fun _ => fun
  | [d] => { results := [.lit (.bool true)], args := [d] }
  | _ => none }
def fnExactFirstTokenRow : OpenClaim := { program := "ytoblacbibdgddaa", sum := "0679f75c830038d54a8939387dd7093f66ede1c933e9dcfe38caec3aea2bd3f8", func := "loop.example/g00183/laws.FnExactFirstToken", spec := "fnExactFirstToken", apart := false }
def FnExactFirstTokenSaid : Prop := fnExactFirstTokenRow.holds Try.pinned (OpenSpec.ofChange fnExactFirstTokenSpec)

/-- ITS FALSE NEIGHBOUR: 'it returns false'. Refute it at one input. -/
def fnExactFirstTokenWrong : ChangeSpec := { name := "fnExactFirstToken", fn := fun _ => fun
  | [d] => { results := [.lit (.bool false)], args := [d] }
  | _ => none }
def FnExactFirstTokenWrongFalsely : Prop := fnExactFirstTokenRow.holds Try.pinned (OpenSpec.ofChange fnExactFirstTokenWrong)

/-- 'laws.FnMarks': WHATEVER THE INPUT: true; the input reads as it did. -/
def fnMarksSpec : ChangeSpec := { name := "fnMarks", fn := fun _ => fun
  | [d] => { results := [.lit (.bool true)], args := [d] }
  | _ => none }
def fnMarksRow : OpenClaim := { program := "ytoblacbibdgddaa", sum := "0679f75c830038d54a8939387dd7093f66ede1c933e9dcfe38caec3aea2bd3f8", func := "loop.example/g00183/laws.FnMarks", spec := "fnMarks", apart := false }
def FnMarksSaid : Prop := fnMarksRow.holds Try.pinned (OpenSpec.ofChange fnMarksSpec)

/-- ITS FALSE NEIGHBOUR: 'it returns false'. Refute it at one input. -/
def fnMarksWrong : ChangeSpec := { name := "fnMarks", fn := fun _ => fun
  | [d] => { results := [.lit (.bool false)], args := [d] }
  | _ => none }
def FnMarksWrongFalsely : Prop := fnMarksRow.holds Try.pinned (OpenSpec.ofChange fnMarksWrong)

/-- 'laws.FnExactMark': WHATEVER THE INPUT: true; the input reads as it did. -/
def fnExactMarkSpec : ChangeSpec := { name := "fnExactMark", fn := fun _ => fun
  | [d1, d2, d3] => { results := [.lit (.bool true)], args := [d1, d2, d3] }
  | _ => none }
def fnExactMarkRow : OpenClaim := { program := "ytoblacbibdgddaa", sum := "0679f75c830038d54a8939387dd7093f66ede1c933e9dcfe38caec3aea2bd3f8", func := "loop.example/g00183/laws.FnExactMark", spec := "fnExactMark", apart := false }
def FnExactMarkSaid : Prop := fnExactMarkRow.holds Try.pinned (OpenSpec.ofChange fnExactMarkSpec)

/-- ITS FALSE NEIGHBOUR: 'it returns false'. Refute it at one input. -/
def fnExactMarkWrong : ChangeSpec := { name := "fnExactMark", fn := fun _ => fun
  | [d1, d2, d3] => { results := [.lit (.bool false)], args := [d1, d2, d3] }
  | _ => none }
def FnExactMarkWrongFalsely : Prop := fnExactMarkRow.holds Try.pinned (OpenSpec.ofChange fnExactMarkWrong)

/- THE SECOND FORM. 'bulk': how many values and letters a reading holds, each counted each time it is reached (what is shared counts as often as it is met; a slice's spare places count too). A statement '..UptoSaid' is the law's where the arguments, and the package variables that the reading takes, are together of bulk at most 1048576: NARROWER than '..Said'. Prove '..Said' where nothing that the law and all that it calls make is longer than what came in: it says more and counts as full. Else prove '..UptoSaid'. A law counts once. -/
mutual
def uptoBulk {H : Type} : DataW H → Nat
  | .lit (.string bytes) => bytes.length + 1
  | .lit _ => 1
  | .nil => 1
  | .ptr d => uptoBulk d + 1
  | .slice elems spare => uptoBulkAll elems + uptoBulkAll spare + 1
  | .agg parts => uptoBulkAll parts + 1
  | .iface _ d => uptoBulk d + 1
  | .map entries => uptoBulkEntries entries + 1
  | .held _ => 1
def uptoBulkAll {H : Type} : List (DataW H) → Nat
  | [] => 0
  | d :: r => uptoBulk d + uptoBulkAll r
def uptoBulkEntries {H : Type} : List (Lit × DataW H) → Nat
  | [] => 0
  | x :: r => uptoBulkEntry x + uptoBulkEntries r
def uptoBulkEntry {H : Type} : Lit × DataW H → Nat
  | (.string bytes, d) => bytes.length + uptoBulk d + 1
  | (_, d) => uptoBulk d + 1
 end
def uptoSmall : (H : Type) → List (DataW H) → Bool := fun _ ds => decide (uptoBulkAll ds ≤ 1048576)
def OpenSpec.upto (s : _root_.Go.ChangeSpec) : _root_.Go.OpenSpec := { _root_.Go.OpenSpec.ofChange s with cond := some uptoSmall }

/-- 'laws.FnExactDeedOk', WHERE WHAT IT READS IS OF BULK AT MOST 1048576: true; the input reads as it did. -/
def fnExactDeedOkUptoRow : OpenClaim := { program := "ytoblacbibdgddaa", sum := "0679f75c830038d54a8939387dd7093f66ede1c933e9dcfe38caec3aea2bd3f8", func := "loop.example/g00183/laws.FnExactDeedOk", spec := "fnExactDeedOk", apart := false, narrowed := true }
def FnExactDeedOkUptoSaid : Prop := fnExactDeedOkUptoRow.holds Try.pinned (OpenSpec.upto fnExactDeedOkSpec)

/-- 'laws.FnExactPieces', WHERE WHAT IT READS IS OF BULK AT MOST 1048576: true; the input reads as it did. -/
def fnExactPiecesUptoRow : OpenClaim := { program := "ytoblacbibdgddaa", sum := "0679f75c830038d54a8939387dd7093f66ede1c933e9dcfe38caec3aea2bd3f8", func := "loop.example/g00183/laws.FnExactPieces", spec := "fnExactPieces", apart := false, narrowed := true }
def FnExactPiecesUptoSaid : Prop := fnExactPiecesUptoRow.holds Try.pinned (OpenSpec.upto fnExactPiecesSpec)

/-- 'laws.FnExactReadPiece', WHERE WHAT IT READS IS OF BULK AT MOST 1048576: true; the input reads as it did. -/
def fnExactReadPieceUptoRow : OpenClaim := { program := "ytoblacbibdgddaa", sum := "0679f75c830038d54a8939387dd7093f66ede1c933e9dcfe38caec3aea2bd3f8", func := "loop.example/g00183/laws.FnExactReadPiece", spec := "fnExactReadPiece", apart := false, narrowed := true }
def FnExactReadPieceUptoSaid : Prop := fnExactReadPieceUptoRow.holds Try.pinned (OpenSpec.upto fnExactReadPieceSpec)

/-- 'laws.FnExactNextOf', WHERE WHAT IT READS IS OF BULK AT MOST 1048576: true; the input reads as it did. -/
def fnExactNextOfUptoRow : OpenClaim := { program := "ytoblacbibdgddaa", sum := "0679f75c830038d54a8939387dd7093f66ede1c933e9dcfe38caec3aea2bd3f8", func := "loop.example/g00183/laws.FnExactNextOf", spec := "fnExactNextOf", apart := false, narrowed := true }
def FnExactNextOfUptoSaid : Prop := fnExactNextOfUptoRow.holds Try.pinned (OpenSpec.upto fnExactNextOfSpec)

/-- 'laws.FnRings', WHERE WHAT IT READS IS OF BULK AT MOST 1048576: true; the input reads as it did. -/
def fnRingsUptoRow : OpenClaim := { program := "ytoblacbibdgddaa", sum := "0679f75c830038d54a8939387dd7093f66ede1c933e9dcfe38caec3aea2bd3f8", func := "loop.example/g00183/laws.FnRings", spec := "fnRings", apart := false, narrowed := true }
def FnRingsUptoSaid : Prop := fnRingsUptoRow.holds Try.pinned (OpenSpec.upto fnRingsSpec)

/-- 'laws.FnExactRingsOk', WHERE WHAT IT READS IS OF BULK AT MOST 1048576: true; the input reads as it did. -/
def fnExactRingsOkUptoRow : OpenClaim := { program := "ytoblacbibdgddaa", sum := "0679f75c830038d54a8939387dd7093f66ede1c933e9dcfe38caec3aea2bd3f8", func := "loop.example/g00183/laws.FnExactRingsOk", spec := "fnExactRingsOk", apart := false, narrowed := true }
def FnExactRingsOkUptoSaid : Prop := fnExactRingsOkUptoRow.holds Try.pinned (OpenSpec.upto fnExactRingsOkSpec)

/-- 'laws.FnExactBundleOk', WHERE WHAT IT READS IS OF BULK AT MOST 1048576: true; the input reads as it did. -/
def fnExactBundleOkUptoRow : OpenClaim := { program := "ytoblacbibdgddaa", sum := "0679f75c830038d54a8939387dd7093f66ede1c933e9dcfe38caec3aea2bd3f8", func := "loop.example/g00183/laws.FnExactBundleOk", spec := "fnExactBundleOk", apart := false, narrowed := true }
def FnExactBundleOkUptoSaid : Prop := fnExactBundleOkUptoRow.holds Try.pinned (OpenSpec.upto fnExactBundleOkSpec)

/-- 'laws.FnExactTurnOk', WHERE WHAT IT READS IS OF BULK AT MOST 1048576: true; the input reads as it did. -/
def fnExactTurnOkUptoRow : OpenClaim := { program := "ytoblacbibdgddaa", sum := "0679f75c830038d54a8939387dd7093f66ede1c933e9dcfe38caec3aea2bd3f8", func := "loop.example/g00183/laws.FnExactTurnOk", spec := "fnExactTurnOk", apart := false, narrowed := true }
def FnExactTurnOkUptoSaid : Prop := fnExactTurnOkUptoRow.holds Try.pinned (OpenSpec.upto fnExactTurnOkSpec)

/-- 'laws.FnExactOneOrder', WHERE WHAT IT READS IS OF BULK AT MOST 1048576: true; the input reads as it did. -/
def fnExactOneOrderUptoRow : OpenClaim := { program := "ytoblacbibdgddaa", sum := "0679f75c830038d54a8939387dd7093f66ede1c933e9dcfe38caec3aea2bd3f8", func := "loop.example/g00183/laws.FnExactOneOrder", spec := "fnExactOneOrder", apart := false, narrowed := true }
def FnExactOneOrderUptoSaid : Prop := fnExactOneOrderUptoRow.holds Try.pinned (OpenSpec.upto fnExactOneOrderSpec)

/-- 'laws.FnExactFirstToken', WHERE WHAT IT READS IS OF BULK AT MOST 1048576: true; the input reads as it did. -/
def fnExactFirstTokenUptoRow : OpenClaim := { program := "ytoblacbibdgddaa", sum := "0679f75c830038d54a8939387dd7093f66ede1c933e9dcfe38caec3aea2bd3f8", func := "loop.example/g00183/laws.FnExactFirstToken", spec := "fnExactFirstToken", apart := false, narrowed := true }
def FnExactFirstTokenUptoSaid : Prop := fnExactFirstTokenUptoRow.holds Try.pinned (OpenSpec.upto fnExactFirstTokenSpec)

/-- 'laws.FnMarks', WHERE WHAT IT READS IS OF BULK AT MOST 1048576: true; the input reads as it did. -/
def fnMarksUptoRow : OpenClaim := { program := "ytoblacbibdgddaa", sum := "0679f75c830038d54a8939387dd7093f66ede1c933e9dcfe38caec3aea2bd3f8", func := "loop.example/g00183/laws.FnMarks", spec := "fnMarks", apart := false, narrowed := true }
def FnMarksUptoSaid : Prop := fnMarksUptoRow.holds Try.pinned (OpenSpec.upto fnMarksSpec)

/-- 'laws.FnExactMark', WHERE WHAT IT READS IS OF BULK AT MOST 1048576: true; the input reads as it did. -/
def fnExactMarkUptoRow : OpenClaim := { program := "ytoblacbibdgddaa", sum := "0679f75c830038d54a8939387dd7093f66ede1c933e9dcfe38caec3aea2bd3f8", func := "loop.example/g00183/laws.FnExactMark", spec := "fnExactMark", apart := false, narrowed := true }
def FnExactMarkUptoSaid : Prop := fnExactMarkUptoRow.holds Try.pinned (OpenSpec.upto fnExactMarkSpec)

end Rows
end Go.Proofs.Ytoblacbibdgddaa
