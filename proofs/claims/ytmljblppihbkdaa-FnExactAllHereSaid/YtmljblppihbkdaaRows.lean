/-
  No cell of these rows narrows 'for every input' (looked for: loops, veiled, ifaces, maps, wideKeys, modest, calm, conditions, laid).
  DERIVED. THE GIVEN ROWS OF THIS SEAT. 7 by the template 'for every input the law returns true; each argument reads behind the call as it read before'; 0 by the template 'total and deterministic' (their statements: YtmljblppihbkdaaTotals.lean).
  GIVEN WITH THE SEED: the statements are not yours to turn. If you find one false, say at which input.
  Laid BY PROGRAM, IN A SANDBOX (cutbox-rows.mjs): the forced cells as the released guide's own fill.sh prints them over the translation 42d921ea8bd37044… (all of the seat's roots in one cut). By AI agents, Wed Nov 11 2026. No macro, syntax, notation, axiom, sorry.
-/
import Derived.Test.YtmljblppihbkdaaChecked
import GoSem.Claim
import GoSem.ClaimJoined
import GoSem.ClaimMapViews
import Derived.JoinedTies
import Derived.KernelRfl
namespace Go.Proofs.Ytmljblppihbkdaa
/- THE CELL 'sum', in the pinned program and in every row, IS THE sha256 OF THE DUMP (.gsa) THAT YtmljblppihbkdaaProg.lean LOADS. Nothing in Lean hashes anything: it is a label: what it is worth is what the hold of that sum in a sandbox is worth. -/
noncomputable def Try.pinned : Pinned := { name := "ytmljblppihbkdaa", sum := "42d921ea8bd37044e928957186cad9f48e9e0ca695703ae6c824d536e1e27643", checked := Try.checked }
namespace Rows
def none {H : Type} : Left H := { results := [], args := [] }

/-- 'laws.FnExactWorkNew': WHATEVER THE INPUT: true; the input reads as it did. -/
def fnExactWorkNewSpec : ChangeSpec := { name := "fnExactWorkNew", fn := fun _ => fun
  | [d] => { results := [.lit (.bool true)], args := [d] }
  | _ => none }
def fnExactWorkNewRow : OpenClaim := { program := "ytmljblppihbkdaa", sum := "42d921ea8bd37044e928957186cad9f48e9e0ca695703ae6c824d536e1e27643", func := "loop.example/g00183/laws.FnExactWorkNew", spec := "fnExactWorkNew", apart := false }
def FnExactWorkNewSaid : Prop := fnExactWorkNewRow.holds Try.pinned (OpenSpec.ofChange fnExactWorkNewSpec)

/-- ITS FALSE NEIGHBOUR: 'it returns false'. Refute it at one input. -/
def fnExactWorkNewWrong : ChangeSpec := { name := "fnExactWorkNew", fn := fun _ => fun
  | [d] => { results := [.lit (.bool false)], args := [d] }
  | _ => none }
def FnExactWorkNewWrongFalsely : Prop := fnExactWorkNewRow.holds Try.pinned (OpenSpec.ofChange fnExactWorkNewWrong)

/-- 'laws.FnExactWorldNew': WHATEVER THE INPUT: true; the input reads as it did. -/
def fnExactWorldNewSpec : ChangeSpec := { name := "fnExactWorldNew", fn := fun _ => fun
  | [d] => { results := [.lit (.bool true)], args := [d] }
  | _ => none }
def fnExactWorldNewRow : OpenClaim := { program := "ytmljblppihbkdaa", sum := "42d921ea8bd37044e928957186cad9f48e9e0ca695703ae6c824d536e1e27643", func := "loop.example/g00183/laws.FnExactWorldNew", spec := "fnExactWorldNew", apart := false }
def FnExactWorldNewSaid : Prop := fnExactWorldNewRow.holds Try.pinned (OpenSpec.ofChange fnExactWorldNewSpec)

/-- ITS FALSE NEIGHBOUR: 'it returns false'. Refute it at one input. -/
def fnExactWorldNewWrong : ChangeSpec := { name := "fnExactWorldNew", fn := fun _ => fun
  | [d] => { results := [.lit (.bool false)], args := [d] }
  | _ => none }
def FnExactWorldNewWrongFalsely : Prop := fnExactWorldNewRow.holds Try.pinned (OpenSpec.ofChange fnExactWorldNewWrong)

/-- 'laws.FnExactRest': WHATEVER THE INPUT: true; the input reads as it did. -/
def fnExactRestSpec : ChangeSpec := { name := "fnExactRest", fn := fun _ => fun
  | [d1, d2, d3, d4] => { results := [.lit (.bool true)], args := [d1, d2, d3, d4] }
  | _ => none }
def fnExactRestRow : OpenClaim := { program := "ytmljblppihbkdaa", sum := "42d921ea8bd37044e928957186cad9f48e9e0ca695703ae6c824d536e1e27643", func := "loop.example/g00183/laws.FnExactRest", spec := "fnExactRest", inPlace := ["slices.overlaps[loop.example/g00183/impl.Item]"], apart := false }
def FnExactRestSaid : Prop := fnExactRestRow.holds Try.pinned (OpenSpec.ofChange fnExactRestSpec)

/-- ITS FALSE NEIGHBOUR: 'it returns false'. Refute it at one input. -/
def fnExactRestWrong : ChangeSpec := { name := "fnExactRest", fn := fun _ => fun
  | [d1, d2, d3, d4] => { results := [.lit (.bool false)], args := [d1, d2, d3, d4] }
  | _ => none }
def FnExactRestWrongFalsely : Prop := fnExactRestRow.holds Try.pinned (OpenSpec.ofChange fnExactRestWrong)

/-- 'laws.FnExactAllHere': WHATEVER THE INPUT: true; the input reads as it did. -/
def fnExactAllHereSpec : ChangeSpec := { name := "fnExactAllHere", fn := fun _ => fun
  | [d1, d2] => { results := [.lit (.bool true)], args := [d1, d2] }
  | _ => none }
def fnExactAllHereRow : OpenClaim := { program := "ytmljblppihbkdaa", sum := "42d921ea8bd37044e928957186cad9f48e9e0ca695703ae6c824d536e1e27643", func := "loop.example/g00183/laws.FnExactAllHere", spec := "fnExactAllHere", unfollowed := true, recurses := true, apart := false }
def FnExactAllHereSaid : Prop := fnExactAllHereRow.holds Try.pinned (OpenSpec.ofChange fnExactAllHereSpec)

/-- ITS FALSE NEIGHBOUR: 'it returns false'. Refute it at one input. -/
def fnExactAllHereWrong : ChangeSpec := { name := "fnExactAllHere", fn := fun _ => fun
  | [d1, d2] => { results := [.lit (.bool false)], args := [d1, d2] }
  | _ => none }
def FnExactAllHereWrongFalsely : Prop := fnExactAllHereRow.holds Try.pinned (OpenSpec.ofChange fnExactAllHereWrong)

/-- 'laws.FnExactBundleText': WHATEVER THE INPUT: true; the input reads as it did. -/
def fnExactBundleTextSpec : ChangeSpec := { name := "fnExactBundleText", fn := fun _ => fun
  | [d] => { results := [.lit (.bool true)], args := [d] }
  | _ => none }
def fnExactBundleTextRow : OpenClaim := { program := "ytmljblppihbkdaa", sum := "42d921ea8bd37044e928957186cad9f48e9e0ca695703ae6c824d536e1e27643", func := "loop.example/g00183/laws.FnExactBundleText", spec := "fnExactBundleText", inPlace := ["internal/abi.NoEscape"], apart := false }
def FnExactBundleTextSaid : Prop := fnExactBundleTextRow.holds Try.pinned (OpenSpec.ofChange fnExactBundleTextSpec)

/-- ITS FALSE NEIGHBOUR: 'it returns false'. Refute it at one input. -/
def fnExactBundleTextWrong : ChangeSpec := { name := "fnExactBundleText", fn := fun _ => fun
  | [d] => { results := [.lit (.bool false)], args := [d] }
  | _ => none }
def FnExactBundleTextWrongFalsely : Prop := fnExactBundleTextRow.holds Try.pinned (OpenSpec.ofChange fnExactBundleTextWrong)

/-- 'laws.FnExactFirstOf': WHATEVER THE INPUT: true; the input reads as it did. -/
def fnExactFirstOfSpec : ChangeSpec := { name := "fnExactFirstOf", fn := fun _ => fun
  | [d] => { results := [.lit (.bool true)], args := [d] }
  | _ => none }
def fnExactFirstOfRow : OpenClaim := { program := "ytmljblppihbkdaa", sum := "42d921ea8bd37044e928957186cad9f48e9e0ca695703ae6c824d536e1e27643", func := "loop.example/g00183/laws.FnExactFirstOf", spec := "fnExactFirstOf", apart := false }
def FnExactFirstOfSaid : Prop := fnExactFirstOfRow.holds Try.pinned (OpenSpec.ofChange fnExactFirstOfSpec)

/-- ITS FALSE NEIGHBOUR: 'it returns false'. Refute it at one input. -/
def fnExactFirstOfWrong : ChangeSpec := { name := "fnExactFirstOf", fn := fun _ => fun
  | [d] => { results := [.lit (.bool false)], args := [d] }
  | _ => none }
def FnExactFirstOfWrongFalsely : Prop := fnExactFirstOfRow.holds Try.pinned (OpenSpec.ofChange fnExactFirstOfWrong)

/-- 'laws.FnExactCatch': WHATEVER THE INPUT: true; the input reads as it did. -/
def fnExactCatchSpec : ChangeSpec := { name := "fnExactCatch", fn := fun _ => fun
  | [d1, d2] => { results := [.lit (.bool true)], args := [d1, d2] }
  | _ => none }
def fnExactCatchRow : OpenClaim := { program := "ytmljblppihbkdaa", sum := "42d921ea8bd37044e928957186cad9f48e9e0ca695703ae6c824d536e1e27643", func := "loop.example/g00183/laws.FnExactCatch", spec := "fnExactCatch", inPlace := ["slices.overlaps[loop.example/g00183/impl.Item]"], apart := false }
def FnExactCatchSaid : Prop := fnExactCatchRow.holds Try.pinned (OpenSpec.ofChange fnExactCatchSpec)

/-- ITS FALSE NEIGHBOUR: 'it returns false'. Refute it at one input. -/
def fnExactCatchWrong : ChangeSpec := { name := "fnExactCatch", fn := fun _ => fun
  | [d1, d2] => { results := [.lit (.bool false)], args := [d1, d2] }
  | _ => none }
def FnExactCatchWrongFalsely : Prop := fnExactCatchRow.holds Try.pinned (OpenSpec.ofChange fnExactCatchWrong)

/- THE SECOND FORM. 'bulk': how many values and letters a reading holds, each counted each time it is reached (what is shared counts as often as it is met; a slice's spare places count too). A statement '..UptoSaid' is the law's where the arguments, and the package variables that the reading takes, are together of bulk at most 1048576: NARROWER than '..Said'. Prove '..Said' where nothing that the law and all that it calls make is longer than what came in: it says more and counts as full. Else prove '..UptoSaid'. A law counts once. -/
mutual
def uptoBulk {H : Type} : DataW H → Nat
  | .lit (.string bytes) => bytes.length + 1
  | .lit _ => 1
  | .nil => 1
  | .ptr d => uptoBulk d + 1
  | .slice elems spare => uptoBulkAll elems + uptoBulkAll spare + 1
  | .agg parts => uptoBulkAll parts + 1
  | .iface _ d => uptoBulk d + 1
  | .map entries => uptoBulkEntries entries + 1
  | .held _ => 1
def uptoBulkAll {H : Type} : List (DataW H) → Nat
  | [] => 0
  | d :: r => uptoBulk d + uptoBulkAll r
def uptoBulkEntries {H : Type} : List (Lit × DataW H) → Nat
  | [] => 0
  | x :: r => uptoBulkEntry x + uptoBulkEntries r
def uptoBulkEntry {H : Type} : Lit × DataW H → Nat
  | (.string bytes, d) => bytes.length + uptoBulk d + 1
  | (_, d) => uptoBulk d + 1
 end
def uptoSmall : (H : Type) → List (DataW H) → Bool := fun _ ds => decide (uptoBulkAll ds ≤ 1048576)
def OpenSpec.upto (s : _root_.Go.ChangeSpec) : _root_.Go.OpenSpec := { _root_.Go.OpenSpec.ofChange s with cond := some uptoSmall }

/-- 'laws.FnExactWorkNew', WHERE WHAT IT READS IS OF BULK AT MOST 1048576: true; the input reads as it did. -/
def fnExactWorkNewUptoRow : OpenClaim := { program := "ytmljblppihbkdaa", sum := "42d921ea8bd37044e928957186cad9f48e9e0ca695703ae6c824d536e1e27643", func := "loop.example/g00183/laws.FnExactWorkNew", spec := "fnExactWorkNew", apart := false, narrowed := true }
def FnExactWorkNewUptoSaid : Prop := fnExactWorkNewUptoRow.holds Try.pinned (OpenSpec.upto fnExactWorkNewSpec)

/-- 'laws.FnExactWorldNew', WHERE WHAT IT READS IS OF BULK AT MOST 1048576: true; the input reads as it did. -/
def fnExactWorldNewUptoRow : OpenClaim := { program := "ytmljblppihbkdaa", sum := "42d921ea8bd37044e928957186cad9f48e9e0ca695703ae6c824d536e1e27643", func := "loop.example/g00183/laws.FnExactWorldNew", spec := "fnExactWorldNew", apart := false, narrowed := true }
def FnExactWorldNewUptoSaid : Prop := fnExactWorldNewUptoRow.holds Try.pinned (OpenSpec.upto fnExactWorldNewSpec)

/-- 'laws.FnExactRest', WHERE WHAT IT READS IS OF BULK AT MOST 1048576: true; the input reads as it did. -/
def fnExactRestUptoRow : OpenClaim := { program := "ytmljblppihbkdaa", sum := "42d921ea8bd37044e928957186cad9f48e9e0ca695703ae6c824d536e1e27643", func := "loop.example/g00183/laws.FnExactRest", spec := "fnExactRest", inPlace := ["slices.overlaps[loop.example/g00183/impl.Item]"], apart := false, narrowed := true }
def FnExactRestUptoSaid : Prop := fnExactRestUptoRow.holds Try.pinned (OpenSpec.upto fnExactRestSpec)

/-- 'laws.FnExactAllHere', WHERE WHAT IT READS IS OF BULK AT MOST 1048576: true; the input reads as it did. -/
def fnExactAllHereUptoRow : OpenClaim := { program := "ytmljblppihbkdaa", sum := "42d921ea8bd37044e928957186cad9f48e9e0ca695703ae6c824d536e1e27643", func := "loop.example/g00183/laws.FnExactAllHere", spec := "fnExactAllHere", unfollowed := true, recurses := true, apart := false, narrowed := true }
def FnExactAllHereUptoSaid : Prop := fnExactAllHereUptoRow.holds Try.pinned (OpenSpec.upto fnExactAllHereSpec)

/-- 'laws.FnExactBundleText', WHERE WHAT IT READS IS OF BULK AT MOST 1048576: true; the input reads as it did. -/
def fnExactBundleTextUptoRow : OpenClaim := { program := "ytmljblppihbkdaa", sum := "42d921ea8bd37044e928957186cad9f48e9e0ca695703ae6c824d536e1e27643", func := "loop.example/g00183/laws.FnExactBundleText", spec := "fnExactBundleText", inPlace := ["internal/abi.NoEscape"], apart := false, narrowed := true }
def FnExactBundleTextUptoSaid : Prop := fnExactBundleTextUptoRow.holds Try.pinned (OpenSpec.upto fnExactBundleTextSpec)

/-- 'laws.FnExactFirstOf', WHERE WHAT IT READS IS OF BULK AT MOST 1048576: true; the input reads as it did. -/
def fnExactFirstOfUptoRow : OpenClaim := { program := "ytmljblppihbkdaa", sum := "42d921ea8bd37044e928957186cad9f48e9e0ca695703ae6c824d536e1e27643", func := "loop.example/g00183/laws.FnExactFirstOf", spec := "fnExactFirstOf", apart := false, narrowed := true }
def FnExactFirstOfUptoSaid : Prop := fnExactFirstOfUptoRow.holds Try.pinned (OpenSpec.upto fnExactFirstOfSpec)

/-- 'laws.FnExactCatch', WHERE WHAT IT READS IS OF BULK AT MOST 1048576: true; the input reads as it did. -/
def fnExactCatchUptoRow : OpenClaim := { program := "ytmljblppihbkdaa", sum := "42d921ea8bd37044e928957186cad9f48e9e0ca695703ae6c824d536e1e27643", func := "loop.example/g00183/laws.FnExactCatch", spec := "fnExactCatch", inPlace := ["slices.overlaps[loop.example/g00183/impl.Item]"], apart := false, narrowed := true }
def FnExactCatchUptoSaid : Prop := fnExactCatchUptoRow.holds Try.pinned (OpenSpec.upto fnExactCatchSpec)

end Rows
end Go.Proofs.Ytmljblppihbkdaa
