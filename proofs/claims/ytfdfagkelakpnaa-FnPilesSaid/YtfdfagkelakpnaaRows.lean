/-
  No cell of these rows narrows 'for every input' (looked for: loops, veiled, ifaces, maps, wideKeys, modest, calm, conditions, laid).
  DERIVED. THE GIVEN ROWS OF THIS SEAT. 12 by the template 'for every input the law returns true; each argument reads behind the call as it read before'; 0 by the template 'total and deterministic' (their statements: YtfdfagkelakpnaaTotals.lean).
  GIVEN WITH THE SEED: the statements are not yours to turn. If you find one false, say at which input.
  Laid BY PROGRAM, IN A SANDBOX (cutbox-rows.mjs): the forced cells as the released guide's own fill.sh prints them over the translation 81bd77d4a797deff… (all of the seat's roots in one cut). By AI agents, Wed Nov 11 2026. No macro, syntax, notation, axiom, sorry.
-/
import Derived.Test.YtfdfagkelakpnaaChecked
import GoSem.Claim
import GoSem.ClaimJoined
import GoSem.ClaimMapViews
import Derived.JoinedTies
import Derived.KernelRfl
namespace Go.Proofs.Ytfdfagkelakpnaa
/- THE CELL 'sum', in the pinned program and in every row, IS THE sha256 OF THE DUMP (.gsa) THAT YtfdfagkelakpnaaProg.lean LOADS. Nothing in Lean hashes anything: it is a label: what it is worth is what the hold of that sum in a sandbox is worth. -/
noncomputable def Try.pinned : Pinned := { name := "ytfdfagkelakpnaa", sum := "81bd77d4a797deff8aa51e2f9be4916fe5885fc7a31fa307b2e63e5b789ca7fb", checked := Try.checked }
namespace Rows
def none {H : Type} : Left H := { results := [], args := [] }

/-- 'laws.FnNumbered': WHATEVER THE INPUT: true; the input reads as it did. -/
def fnNumberedSpec : ChangeSpec := { name := "fnNumbered", fn := fun _ => fun
  | [d] => { results := [.lit (.bool true)], args := [d] }
  | _ => none }
def fnNumberedRow : OpenClaim := { program := "ytfdfagkelakpnaa", sum := "81bd77d4a797deff8aa51e2f9be4916fe5885fc7a31fa307b2e63e5b789ca7fb", func := "loop.example/g00183/laws.FnNumbered", spec := "fnNumbered", apart := false }
def FnNumberedSaid : Prop := fnNumberedRow.holds Try.pinned (OpenSpec.ofChange fnNumberedSpec)

/-- ITS FALSE NEIGHBOUR: 'it returns false'. Refute it at one input. -/
def fnNumberedWrong : ChangeSpec := { name := "fnNumbered", fn := fun _ => fun
  | [d] => { results := [.lit (.bool false)], args := [d] }
  | _ => none }
def FnNumberedWrongFalsely : Prop := fnNumberedRow.holds Try.pinned (OpenSpec.ofChange fnNumberedWrong)

/-- 'laws.FnExactGive': WHATEVER THE INPUT: true; the input reads as it did. -/
def fnExactGiveSpec : ChangeSpec := { name := "fnExactGive", fn := fun _ => fun
  | [d1, d2] => { results := [.lit (.bool true)], args := [d1, d2] }
  | _ => none }
def fnExactGiveRow : OpenClaim := { program := "ytfdfagkelakpnaa", sum := "81bd77d4a797deff8aa51e2f9be4916fe5885fc7a31fa307b2e63e5b789ca7fb", func := "loop.example/g00183/laws.FnExactGive", spec := "fnExactGive", apart := false }
def FnExactGiveSaid : Prop := fnExactGiveRow.holds Try.pinned (OpenSpec.ofChange fnExactGiveSpec)

/-- ITS FALSE NEIGHBOUR: 'it returns false'. Refute it at one input. -/
def fnExactGiveWrong : ChangeSpec := { name := "fnExactGive", fn := fun _ => fun
  | [d1, d2] => { results := [.lit (.bool false)], args := [d1, d2] }
  | _ => none }
def FnExactGiveWrongFalsely : Prop := fnExactGiveRow.holds Try.pinned (OpenSpec.ofChange fnExactGiveWrong)

/-- 'laws.FnExactAllHere': WHATEVER THE INPUT: true; the input reads as it did. -/
def fnExactAllHereSpec : ChangeSpec := { name := "fnExactAllHere", fn := fun _ => fun
  | [d1, d2] => { results := [.lit (.bool true)], args := [d1, d2] }
  | _ => none }
def fnExactAllHereRow : OpenClaim := { program := "ytfdfagkelakpnaa", sum := "81bd77d4a797deff8aa51e2f9be4916fe5885fc7a31fa307b2e63e5b789ca7fb", func := "loop.example/g00183/laws.FnExactAllHere", spec := "fnExactAllHere", unfollowed := true, recurses := true, apart := false }
def FnExactAllHereSaid : Prop := fnExactAllHereRow.holds Try.pinned (OpenSpec.ofChange fnExactAllHereSpec)

/-- ITS FALSE NEIGHBOUR: 'it returns false'. Refute it at one input. -/
def fnExactAllHereWrong : ChangeSpec := { name := "fnExactAllHere", fn := fun _ => fun
  | [d1, d2] => { results := [.lit (.bool false)], args := [d1, d2] }
  | _ => none }
def FnExactAllHereWrongFalsely : Prop := fnExactAllHereRow.holds Try.pinned (OpenSpec.ofChange fnExactAllHereWrong)

/-- 'laws.FnExactBundleText': WHATEVER THE INPUT: true; the input reads as it did. -/
def fnExactBundleTextSpec : ChangeSpec := { name := "fnExactBundleText", fn := fun _ => fun
  | [d] => { results := [.lit (.bool true)], args := [d] }
  | _ => none }
def fnExactBundleTextRow : OpenClaim := { program := "ytfdfagkelakpnaa", sum := "81bd77d4a797deff8aa51e2f9be4916fe5885fc7a31fa307b2e63e5b789ca7fb", func := "loop.example/g00183/laws.FnExactBundleText", spec := "fnExactBundleText", inPlace := ["internal/abi.NoEscape"], apart := false }
def FnExactBundleTextSaid : Prop := fnExactBundleTextRow.holds Try.pinned (OpenSpec.ofChange fnExactBundleTextSpec)

/-- ITS FALSE NEIGHBOUR: 'it returns false'. Refute it at one input. -/
def fnExactBundleTextWrong : ChangeSpec := { name := "fnExactBundleText", fn := fun _ => fun
  | [d] => { results := [.lit (.bool false)], args := [d] }
  | _ => none }
def FnExactBundleTextWrongFalsely : Prop := fnExactBundleTextRow.holds Try.pinned (OpenSpec.ofChange fnExactBundleTextWrong)

/-- 'laws.FnPieces': WHATEVER THE INPUT: true; the input reads as it did. -/
def fnPiecesSpec : ChangeSpec := { name := "fnPieces", fn := fun _ => fun
  | [d] => { results := [.lit (.bool true)], args := [d] }
  | _ => none }
def fnPiecesRow : OpenClaim := { program := "ytfdfagkelakpnaa", sum := "81bd77d4a797deff8aa51e2f9be4916fe5885fc7a31fa307b2e63e5b789ca7fb", func := "loop.example/g00183/laws.FnPieces", spec := "fnPieces", inPlace := ["internal/abi.NoEscape", "internal/bytealg.MakeNoZero"], apart := false }
def FnPiecesSaid : Prop := fnPiecesRow.holds Try.pinned (OpenSpec.ofChange fnPiecesSpec)

/-- ITS FALSE NEIGHBOUR: 'it returns false'. Refute it at one input. -/
def fnPiecesWrong : ChangeSpec := { name := "fnPieces", fn := fun _ => fun
  | [d] => { results := [.lit (.bool false)], args := [d] }
  | _ => none }
def FnPiecesWrongFalsely : Prop := fnPiecesRow.holds Try.pinned (OpenSpec.ofChange fnPiecesWrong)

/-- 'laws.FnExactNumber': WHATEVER THE INPUT: true; the input reads as it did. -/
def fnExactNumberSpec : ChangeSpec := { name := "fnExactNumber", fn := fun _ => fun
  | [d1, d2, d3, d4] => { results := [.lit (.bool true)], args := [d1, d2, d3, d4] }
  | _ => none }
def fnExactNumberRow : OpenClaim := { program := "ytfdfagkelakpnaa", sum := "81bd77d4a797deff8aa51e2f9be4916fe5885fc7a31fa307b2e63e5b789ca7fb", func := "loop.example/g00183/laws.FnExactNumber", spec := "fnExactNumber", apart := false }
def FnExactNumberSaid : Prop := fnExactNumberRow.holds Try.pinned (OpenSpec.ofChange fnExactNumberSpec)

/-- ITS FALSE NEIGHBOUR: 'it returns false'. Refute it at one input. -/
def fnExactNumberWrong : ChangeSpec := { name := "fnExactNumber", fn := fun _ => fun
  | [d1, d2, d3, d4] => { results := [.lit (.bool false)], args := [d1, d2, d3, d4] }
  | _ => none }
def FnExactNumberWrongFalsely : Prop := fnExactNumberRow.holds Try.pinned (OpenSpec.ofChange fnExactNumberWrong)

/-- 'laws.FnExactJoin': WHATEVER THE INPUT: true; the input reads as it did. -/
def fnExactJoinSpec : ChangeSpec := { name := "fnExactJoin", fn := fun _ => fun
  | [d] => { results := [.lit (.bool true)], args := [d] }
  | _ => none }
def fnExactJoinRow : OpenClaim := { program := "ytfdfagkelakpnaa", sum := "81bd77d4a797deff8aa51e2f9be4916fe5885fc7a31fa307b2e63e5b789ca7fb", func := "loop.example/g00183/laws.FnExactJoin", spec := "fnExactJoin", inPlace := ["internal/abi.NoEscape", "internal/bytealg.MakeNoZero"], apart := false }
def FnExactJoinSaid : Prop := fnExactJoinRow.holds Try.pinned (OpenSpec.ofChange fnExactJoinSpec)

/-- ITS FALSE NEIGHBOUR: 'it returns false'. Refute it at one input. -/
def fnExactJoinWrong : ChangeSpec := { name := "fnExactJoin", fn := fun _ => fun
  | [d] => { results := [.lit (.bool false)], args := [d] }
  | _ => none }
def FnExactJoinWrongFalsely : Prop := fnExactJoinRow.holds Try.pinned (OpenSpec.ofChange fnExactJoinWrong)

/-- 'laws.FnExactAddPiece': WHATEVER THE INPUT: true; the input reads as it did. -/
def fnExactAddPieceSpec : ChangeSpec := { name := "fnExactAddPiece", fn := fun _ => fun
  | [d1, d2] => { results := [.lit (.bool true)], args := [d1, d2] }
  | _ => none }
def fnExactAddPieceRow : OpenClaim := { program := "ytfdfagkelakpnaa", sum := "81bd77d4a797deff8aa51e2f9be4916fe5885fc7a31fa307b2e63e5b789ca7fb", func := "loop.example/g00183/laws.FnExactAddPiece", spec := "fnExactAddPiece", inPlace := ["internal/abi.NoEscape", "internal/bytealg.MakeNoZero"], apart := false }
def FnExactAddPieceSaid : Prop := fnExactAddPieceRow.holds Try.pinned (OpenSpec.ofChange fnExactAddPieceSpec)

/-- ITS FALSE NEIGHBOUR: 'it returns false'. Refute it at one input. -/
def fnExactAddPieceWrong : ChangeSpec := { name := "fnExactAddPiece", fn := fun _ => fun
  | [d1, d2] => { results := [.lit (.bool false)], args := [d1, d2] }
  | _ => none }
def FnExactAddPieceWrongFalsely : Prop := fnExactAddPieceRow.holds Try.pinned (OpenSpec.ofChange fnExactAddPieceWrong)

/-- 'laws.FnExactTogetherWith': WHATEVER THE INPUT: true; the input reads as it did. -/
def fnExactTogetherWithSpec : ChangeSpec := { name := "fnExactTogetherWith", fn := fun _ => fun
  | [d1, d2, d3] => { results := [.lit (.bool true)], args := [d1, d2, d3] }
  | _ => none }
def fnExactTogetherWithRow : OpenClaim := { program := "ytfdfagkelakpnaa", sum := "81bd77d4a797deff8aa51e2f9be4916fe5885fc7a31fa307b2e63e5b789ca7fb", func := "loop.example/g00183/laws.FnExactTogetherWith", spec := "fnExactTogetherWith", apart := false }
def FnExactTogetherWithSaid : Prop := fnExactTogetherWithRow.holds Try.pinned (OpenSpec.ofChange fnExactTogetherWithSpec)

/-- ITS FALSE NEIGHBOUR: 'it returns false'. Refute it at one input. -/
def fnExactTogetherWithWrong : ChangeSpec := { name := "fnExactTogetherWith", fn := fun _ => fun
  | [d1, d2, d3] => { results := [.lit (.bool false)], args := [d1, d2, d3] }
  | _ => none }
def FnExactTogetherWithWrongFalsely : Prop := fnExactTogetherWithRow.holds Try.pinned (OpenSpec.ofChange fnExactTogetherWithWrong)

/-- 'laws.FnExactMateNew': WHATEVER THE INPUT: true; the input reads as it did. -/
def fnExactMateNewSpec : ChangeSpec := { name := "fnExactMateNew", fn := fun _ => fun
  | [d1, d2] => { results := [.lit (.bool true)], args := [d1, d2] }
  | _ => none }
def fnExactMateNewRow : OpenClaim := { program := "ytfdfagkelakpnaa", sum := "81bd77d4a797deff8aa51e2f9be4916fe5885fc7a31fa307b2e63e5b789ca7fb", func := "loop.example/g00183/laws.FnExactMateNew", spec := "fnExactMateNew", apart := false }
def FnExactMateNewSaid : Prop := fnExactMateNewRow.holds Try.pinned (OpenSpec.ofChange fnExactMateNewSpec)

/-- ITS FALSE NEIGHBOUR: 'it returns false'. Refute it at one input. -/
def fnExactMateNewWrong : ChangeSpec := { name := "fnExactMateNew", fn := fun _ => fun
  | [d1, d2] => { results := [.lit (.bool false)], args := [d1, d2] }
  | _ => none }
def FnExactMateNewWrongFalsely : Prop := fnExactMateNewRow.holds Try.pinned (OpenSpec.ofChange fnExactMateNewWrong)

/-- 'laws.FnPiles': WHATEVER THE INPUT: true; the input reads as it did. -/
def fnPilesSpec : ChangeSpec := { name := "fnPiles", fn := fun _ => fun
  | [d] => { results := [.lit (.bool true)], args := [d] }
  | _ => none }
def fnPilesRow : OpenClaim := { program := "ytfdfagkelakpnaa", sum := "81bd77d4a797deff8aa51e2f9be4916fe5885fc7a31fa307b2e63e5b789ca7fb", func := "loop.example/g00183/laws.FnPiles", spec := "fnPiles", inPlace := ["internal/abi.NoEscape", "internal/bytealg.MakeNoZero"], apart := false }
def FnPilesSaid : Prop := fnPilesRow.holds Try.pinned (OpenSpec.ofChange fnPilesSpec)

/-- ITS FALSE NEIGHBOUR: 'it returns false'. Refute it at one input. -/
def fnPilesWrong : ChangeSpec := { name := "fnPiles", fn := fun _ => fun
  | [d] => { results := [.lit (.bool false)], args := [d] }
  | _ => none }
def FnPilesWrongFalsely : Prop := fnPilesRow.holds Try.pinned (OpenSpec.ofChange fnPilesWrong)

/-- 'laws.FnExactMateOk': WHATEVER THE INPUT: true; the input reads as it did. -/
def fnExactMateOkSpec : ChangeSpec := { name := "fnExactMateOk", fn := fun _ => fun
  | [d] => { results := [.lit (.bool true)], args := [d] }
  | _ => none }
def fnExactMateOkRow : OpenClaim := { program := "ytfdfagkelakpnaa", sum := "81bd77d4a797deff8aa51e2f9be4916fe5885fc7a31fa307b2e63e5b789ca7fb", func := "loop.example/g00183/laws.FnExactMateOk", spec := "fnExactMateOk", apart := false }
def FnExactMateOkSaid : Prop := fnExactMateOkRow.holds Try.pinned (OpenSpec.ofChange fnExactMateOkSpec)

/-- ITS FALSE NEIGHBOUR: 'it returns false'. Refute it at one input. -/
def fnExactMateOkWrong : ChangeSpec := { name := "fnExactMateOk", fn := fun _ => fun
  | [d] => { results := [.lit (.bool false)], args := [d] }
  | _ => none }
def FnExactMateOkWrongFalsely : Prop := fnExactMateOkRow.holds Try.pinned (OpenSpec.ofChange fnExactMateOkWrong)

/- THE SECOND FORM. 'bulk': how many values and letters a reading holds, each counted each time it is reached (what is shared counts as often as it is met; a slice's spare places count too). A statement '..UptoSaid' is the law's where the arguments, and the package variables that the reading takes, are together of bulk at most 1048576: NARROWER than '..Said'. Prove '..Said' where nothing that the law and all that it calls make is longer than what came in: it says more and counts as full. Else prove '..UptoSaid'. A law counts once. -/
mutual
def uptoBulk {H : Type} : DataW H → Nat
  | .lit (.string bytes) => bytes.length + 1
  | .lit _ => 1
  | .nil => 1
  | .ptr d => uptoBulk d + 1
  | .slice elems spare => uptoBulkAll elems + uptoBulkAll spare + 1
  | .agg parts => uptoBulkAll parts + 1
  | .iface _ d => uptoBulk d + 1
  | .map entries => uptoBulkEntries entries + 1
  | .held _ => 1
def uptoBulkAll {H : Type} : List (DataW H) → Nat
  | [] => 0
  | d :: r => uptoBulk d + uptoBulkAll r
def uptoBulkEntries {H : Type} : List (Lit × DataW H) → Nat
  | [] => 0
  | x :: r => uptoBulkEntry x + uptoBulkEntries r
def uptoBulkEntry {H : Type} : Lit × DataW H → Nat
  | (.string bytes, d) => bytes.length + uptoBulk d + 1
  | (_, d) => uptoBulk d + 1
 end
def uptoSmall : (H : Type) → List (DataW H) → Bool := fun _ ds => decide (uptoBulkAll ds ≤ 1048576)
def OpenSpec.upto (s : _root_.Go.ChangeSpec) : _root_.Go.OpenSpec := { _root_.Go.OpenSpec.ofChange s with cond := some uptoSmall }

/-- 'laws.FnNumbered', WHERE WHAT IT READS IS OF BULK AT MOST 1048576: true; the input reads as it did. -/
def fnNumberedUptoRow : OpenClaim := { program := "ytfdfagkelakpnaa", sum := "81bd77d4a797deff8aa51e2f9be4916fe5885fc7a31fa307b2e63e5b789ca7fb", func := "loop.example/g00183/laws.FnNumbered", spec := "fnNumbered", apart := false, narrowed := true }
def FnNumberedUptoSaid : Prop := fnNumberedUptoRow.holds Try.pinned (OpenSpec.upto fnNumberedSpec)

/-- 'laws.FnExactGive', WHERE WHAT IT READS IS OF BULK AT MOST 1048576: true; the input reads as it did. -/
def fnExactGiveUptoRow : OpenClaim := { program := "ytfdfagkelakpnaa", sum := "81bd77d4a797deff8aa51e2f9be4916fe5885fc7a31fa307b2e63e5b789ca7fb", func := "loop.example/g00183/laws.FnExactGive", spec := "fnExactGive", apart := false, narrowed := true }
def FnExactGiveUptoSaid : Prop := fnExactGiveUptoRow.holds Try.pinned (OpenSpec.upto fnExactGiveSpec)

/-- 'laws.FnExactAllHere', WHERE WHAT IT READS IS OF BULK AT MOST 1048576: true; the input reads as it did. -/
def fnExactAllHereUptoRow : OpenClaim := { program := "ytfdfagkelakpnaa", sum := "81bd77d4a797deff8aa51e2f9be4916fe5885fc7a31fa307b2e63e5b789ca7fb", func := "loop.example/g00183/laws.FnExactAllHere", spec := "fnExactAllHere", unfollowed := true, recurses := true, apart := false, narrowed := true }
def FnExactAllHereUptoSaid : Prop := fnExactAllHereUptoRow.holds Try.pinned (OpenSpec.upto fnExactAllHereSpec)

/-- 'laws.FnExactBundleText', WHERE WHAT IT READS IS OF BULK AT MOST 1048576: true; the input reads as it did. -/
def fnExactBundleTextUptoRow : OpenClaim := { program := "ytfdfagkelakpnaa", sum := "81bd77d4a797deff8aa51e2f9be4916fe5885fc7a31fa307b2e63e5b789ca7fb", func := "loop.example/g00183/laws.FnExactBundleText", spec := "fnExactBundleText", inPlace := ["internal/abi.NoEscape"], apart := false, narrowed := true }
def FnExactBundleTextUptoSaid : Prop := fnExactBundleTextUptoRow.holds Try.pinned (OpenSpec.upto fnExactBundleTextSpec)

/-- 'laws.FnPieces', WHERE WHAT IT READS IS OF BULK AT MOST 1048576: true; the input reads as it did. -/
def fnPiecesUptoRow : OpenClaim := { program := "ytfdfagkelakpnaa", sum := "81bd77d4a797deff8aa51e2f9be4916fe5885fc7a31fa307b2e63e5b789ca7fb", func := "loop.example/g00183/laws.FnPieces", spec := "fnPieces", inPlace := ["internal/abi.NoEscape", "internal/bytealg.MakeNoZero"], apart := false, narrowed := true }
def FnPiecesUptoSaid : Prop := fnPiecesUptoRow.holds Try.pinned (OpenSpec.upto fnPiecesSpec)

/-- 'laws.FnExactNumber', WHERE WHAT IT READS IS OF BULK AT MOST 1048576: true; the input reads as it did. -/
def fnExactNumberUptoRow : OpenClaim := { program := "ytfdfagkelakpnaa", sum := "81bd77d4a797deff8aa51e2f9be4916fe5885fc7a31fa307b2e63e5b789ca7fb", func := "loop.example/g00183/laws.FnExactNumber", spec := "fnExactNumber", apart := false, narrowed := true }
def FnExactNumberUptoSaid : Prop := fnExactNumberUptoRow.holds Try.pinned (OpenSpec.upto fnExactNumberSpec)

/-- 'laws.FnExactJoin', WHERE WHAT IT READS IS OF BULK AT MOST 1048576: true; the input reads as it did. -/
def fnExactJoinUptoRow : OpenClaim := { program := "ytfdfagkelakpnaa", sum := "81bd77d4a797deff8aa51e2f9be4916fe5885fc7a31fa307b2e63e5b789ca7fb", func := "loop.example/g00183/laws.FnExactJoin", spec := "fnExactJoin", inPlace := ["internal/abi.NoEscape", "internal/bytealg.MakeNoZero"], apart := false, narrowed := true }
def FnExactJoinUptoSaid : Prop := fnExactJoinUptoRow.holds Try.pinned (OpenSpec.upto fnExactJoinSpec)

/-- 'laws.FnExactAddPiece', WHERE WHAT IT READS IS OF BULK AT MOST 1048576: true; the input reads as it did. -/
def fnExactAddPieceUptoRow : OpenClaim := { program := "ytfdfagkelakpnaa", sum := "81bd77d4a797deff8aa51e2f9be4916fe5885fc7a31fa307b2e63e5b789ca7fb", func := "loop.example/g00183/laws.FnExactAddPiece", spec := "fnExactAddPiece", inPlace := ["internal/abi.NoEscape", "internal/bytealg.MakeNoZero"], apart := false, narrowed := true }
def FnExactAddPieceUptoSaid : Prop := fnExactAddPieceUptoRow.holds Try.pinned (OpenSpec.upto fnExactAddPieceSpec)

/-- 'laws.FnExactTogetherWith', WHERE WHAT IT READS IS OF BULK AT MOST 1048576: true; the input reads as it did. -/
def fnExactTogetherWithUptoRow : OpenClaim := { program := "ytfdfagkelakpnaa", sum := "81bd77d4a797deff8aa51e2f9be4916fe5885fc7a31fa307b2e63e5b789ca7fb", func := "loop.example/g00183/laws.FnExactTogetherWith", spec := "fnExactTogetherWith", apart := false, narrowed := true }
def FnExactTogetherWithUptoSaid : Prop := fnExactTogetherWithUptoRow.holds Try.pinned (OpenSpec.upto fnExactTogetherWithSpec)

/-- 'laws.FnExactMateNew', WHERE WHAT IT READS IS OF BULK AT MOST 1048576: true; the input reads as it did. -/
def fnExactMateNewUptoRow : OpenClaim := { program := "ytfdfagkelakpnaa", sum := "81bd77d4a797deff8aa51e2f9be4916fe5885fc7a31fa307b2e63e5b789ca7fb", func := "loop.example/g00183/laws.FnExactMateNew", spec := "fnExactMateNew", apart := false, narrowed := true }
def FnExactMateNewUptoSaid : Prop := fnExactMateNewUptoRow.holds Try.pinned (OpenSpec.upto fnExactMateNewSpec)

/-- 'laws.FnPiles', WHERE WHAT IT READS IS OF BULK AT MOST 1048576: true; the input reads as it did. -/
def fnPilesUptoRow : OpenClaim := { program := "ytfdfagkelakpnaa", sum := "81bd77d4a797deff8aa51e2f9be4916fe5885fc7a31fa307b2e63e5b789ca7fb", func := "loop.example/g00183/laws.FnPiles", spec := "fnPiles", inPlace := ["internal/abi.NoEscape", "internal/bytealg.MakeNoZero"], apart := false, narrowed := true }
def FnPilesUptoSaid : Prop := fnPilesUptoRow.holds Try.pinned (OpenSpec.upto fnPilesSpec)

/-- 'laws.FnExactMateOk', WHERE WHAT IT READS IS OF BULK AT MOST 1048576: true; the input reads as it did. -/
def fnExactMateOkUptoRow : OpenClaim := { program := "ytfdfagkelakpnaa", sum := "81bd77d4a797deff8aa51e2f9be4916fe5885fc7a31fa307b2e63e5b789ca7fb", func := "loop.example/g00183/laws.FnExactMateOk", spec := "fnExactMateOk", apart := false, narrowed := true }
def FnExactMateOkUptoSaid : Prop := fnExactMateOkUptoRow.holds Try.pinned (OpenSpec.upto fnExactMateOkSpec)

end Rows
end Go.Proofs.Ytfdfagkelakpnaa
