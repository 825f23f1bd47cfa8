/-
  No cell of these rows narrows 'for every input' (looked for: loops, veiled, ifaces, maps, wideKeys, modest, calm, conditions, laid).
  DERIVED. THE GIVEN ROWS OF THIS SEAT. 8 by the template 'for every input the law returns true; each argument reads behind the call as it read before'; 0 by the template 'total and deterministic' (their statements: YtiljcjnnhkidbaaGreatTotals.lean).
  GIVEN WITH THE SEED: the statements are not yours to turn. If you find one false, say at which input.
  Laid BY PROGRAM, IN A SANDBOX (cutbox-rows.mjs): the forced cells as the released guide's own fill.sh prints them over the translation 759b4c94638a9798… (all of the seat's roots in one cut). By AI agents, Wed Nov 11 2026. No macro, syntax, notation, axiom, sorry.
-/
import Derived.Test.YtiljcjnnhkidbaaGreatChecked
import GoSem.Claim
import GoSem.ClaimJoined
import GoSem.ClaimMapViews
import Derived.JoinedTies
import Derived.KernelRfl
namespace Go.Proofs.YtiljcjnnhkidbaaGreat
/- THE CELL 'sum', in the pinned program and in every row, IS THE sha256 OF THE DUMP (.gsa) THAT YtiljcjnnhkidbaaGreatProg.lean LOADS. Nothing in Lean hashes anything: it is a label: what it is worth is what the hold of that sum in a sandbox is worth. -/
noncomputable def Tryz.pinned : Pinned := { name := "ytiljcjnnhkidbaagreat", sum := "759b4c94638a9798693ca4b8cef57d6fd3ebc65f0e3aacb0a89ce33def1e046a", checked := Tryz.checked }
namespace Rows
def none {H : Type} : Left H := { results := [], args := [] }

/-- 'laws.FnExactMove': WHATEVER THE INPUT: true; the input reads as it did. -/
def fnExactMoveSpec : ChangeSpec := { name := "fnExactMove", fn := fun _ => fun
  | [d1, d2] => { results := [.lit (.bool true)], args := [d1, d2] }
  | _ => none }
def fnExactMoveRow : OpenClaim := { program := "ytiljcjnnhkidbaagreat", sum := "759b4c94638a9798693ca4b8cef57d6fd3ebc65f0e3aacb0a89ce33def1e046a", func := "loop.example/g00183/laws.FnExactMove", spec := "fnExactMove", inPlace := ["slices.overlaps[loop.example/g00183/impl.Item]"], apart := false }
def FnExactMoveSaid : Prop := fnExactMoveRow.holds Tryz.pinned (OpenSpec.ofChange fnExactMoveSpec)

/-- ITS FALSE NEIGHBOUR: 'it returns false'. Refute it at one input. -/
def fnExactMoveWrong : ChangeSpec := { name := "fnExactMove", fn := fun _ => fun
  | [d1, d2] => { results := [.lit (.bool false)], args := [d1, d2] }
  | _ => none }
def FnExactMoveWrongFalsely : Prop := fnExactMoveRow.holds Tryz.pinned (OpenSpec.ofChange fnExactMoveWrong)

/-- 'laws.FnExactTakeBundle': WHATEVER THE INPUT: true; the input reads as it did. -/
def fnExactTakeBundleSpec : ChangeSpec := { name := "fnExactTakeBundle", fn := fun _ => fun
  | [d1, d2] => { results := [.lit (.bool true)], args := [d1, d2] }
  | _ => none }
def fnExactTakeBundleRow : OpenClaim := { program := "ytiljcjnnhkidbaagreat", sum := "759b4c94638a9798693ca4b8cef57d6fd3ebc65f0e3aacb0a89ce33def1e046a", func := "loop.example/g00183/laws.FnExactTakeBundle", spec := "fnExactTakeBundle", inPlace := ["slices.overlaps[loop.example/g00183/impl.Item]"], unfollowed := true, recurses := true, apart := false }
def FnExactTakeBundleSaid : Prop := fnExactTakeBundleRow.holds Tryz.pinned (OpenSpec.ofChange fnExactTakeBundleSpec)

/-- ITS FALSE NEIGHBOUR: 'it returns false'. Refute it at one input. -/
def fnExactTakeBundleWrong : ChangeSpec := { name := "fnExactTakeBundle", fn := fun _ => fun
  | [d1, d2] => { results := [.lit (.bool false)], args := [d1, d2] }
  | _ => none }
def FnExactTakeBundleWrongFalsely : Prop := fnExactTakeBundleRow.holds Tryz.pinned (OpenSpec.ofChange fnExactTakeBundleWrong)

/-- 'laws.FnExactTakeToken': WHATEVER THE INPUT: true; the input reads as it did. -/
def fnExactTakeTokenSpec : ChangeSpec := { name := "fnExactTakeToken", fn := fun _ => fun
  | [d1, d2] => { results := [.lit (.bool true)], args := [d1, d2] }
  | _ => none }
def fnExactTakeTokenRow : OpenClaim := { program := "ytiljcjnnhkidbaagreat", sum := "759b4c94638a9798693ca4b8cef57d6fd3ebc65f0e3aacb0a89ce33def1e046a", func := "loop.example/g00183/laws.FnExactTakeToken", spec := "fnExactTakeToken", inPlace := ["slices.overlaps[loop.example/g00183/impl.Item]"], recurses := true, apart := false }
def FnExactTakeTokenSaid : Prop := fnExactTakeTokenRow.holds Tryz.pinned (OpenSpec.ofChange fnExactTakeTokenSpec)

/-- ITS FALSE NEIGHBOUR: 'it returns false'. Refute it at one input. -/
def fnExactTakeTokenWrong : ChangeSpec := { name := "fnExactTakeToken", fn := fun _ => fun
  | [d1, d2] => { results := [.lit (.bool false)], args := [d1, d2] }
  | _ => none }
def FnExactTakeTokenWrongFalsely : Prop := fnExactTakeTokenRow.holds Tryz.pinned (OpenSpec.ofChange fnExactTakeTokenWrong)

/-- 'laws.FnExactTakeItem': WHATEVER THE INPUT: true; the input reads as it did. -/
def fnExactTakeItemSpec : ChangeSpec := { name := "fnExactTakeItem", fn := fun _ => fun
  | [d1, d2, d3] => { results := [.lit (.bool true)], args := [d1, d2, d3] }
  | _ => none }
def fnExactTakeItemRow : OpenClaim := { program := "ytiljcjnnhkidbaagreat", sum := "759b4c94638a9798693ca4b8cef57d6fd3ebc65f0e3aacb0a89ce33def1e046a", func := "loop.example/g00183/laws.FnExactTakeItem", spec := "fnExactTakeItem", inPlace := ["slices.overlaps[loop.example/g00183/impl.Item]"], apart := false }
def FnExactTakeItemSaid : Prop := fnExactTakeItemRow.holds Tryz.pinned (OpenSpec.ofChange fnExactTakeItemSpec)

/-- ITS FALSE NEIGHBOUR: 'it returns false'. Refute it at one input. -/
def fnExactTakeItemWrong : ChangeSpec := { name := "fnExactTakeItem", fn := fun _ => fun
  | [d1, d2, d3] => { results := [.lit (.bool false)], args := [d1, d2, d3] }
  | _ => none }
def FnExactTakeItemWrongFalsely : Prop := fnExactTakeItemRow.holds Tryz.pinned (OpenSpec.ofChange fnExactTakeItemWrong)

/-- 'laws.FnHolds': WHATEVER THE INPUT: true; the input reads as it did. -/
def fnHoldsSpec : ChangeSpec := { name := "fnHolds", fn := fun _ => fun
  | [d] => { results := [.lit (.bool true)], args := [d] }
  | _ => none }
def fnHoldsRow : OpenClaim := { program := "ytiljcjnnhkidbaagreat", sum := "759b4c94638a9798693ca4b8cef57d6fd3ebc65f0e3aacb0a89ce33def1e046a", func := "loop.example/g00183/laws.FnHolds", spec := "fnHolds", inPlace := ["slices.overlaps[loop.example/g00183/impl.Item]"], recurses := true, apart := false }
def FnHoldsSaid : Prop := fnHoldsRow.holds Tryz.pinned (OpenSpec.ofChange fnHoldsSpec)

/-- ITS FALSE NEIGHBOUR: 'it returns false'. Refute it at one input. -/
def fnHoldsWrong : ChangeSpec := { name := "fnHolds", fn := fun _ => fun
  | [d] => { results := [.lit (.bool false)], args := [d] }
  | _ => none }
def FnHoldsWrongFalsely : Prop := fnHoldsRow.holds Tryz.pinned (OpenSpec.ofChange fnHoldsWrong)

/-- 'laws.FnAloneGoes': WHATEVER THE INPUT: true; the input reads as it did. -/
def fnAloneGoesSpec : ChangeSpec := { name := "fnAloneGoes", fn := fun _ => fun
  | [d] => { results := [.lit (.bool true)], args := [d] }
  | _ => none }
def fnAloneGoesRow : OpenClaim := { program := "ytiljcjnnhkidbaagreat", sum := "759b4c94638a9798693ca4b8cef57d6fd3ebc65f0e3aacb0a89ce33def1e046a", func := "loop.example/g00183/laws.FnAloneGoes", spec := "fnAloneGoes", inPlace := ["slices.overlaps[loop.example/g00183/impl.Item]"], recurses := true, apart := false }
def FnAloneGoesSaid : Prop := fnAloneGoesRow.holds Tryz.pinned (OpenSpec.ofChange fnAloneGoesSpec)

/-- ITS FALSE NEIGHBOUR: 'it returns false'. Refute it at one input. -/
def fnAloneGoesWrong : ChangeSpec := { name := "fnAloneGoes", fn := fun _ => fun
  | [d] => { results := [.lit (.bool false)], args := [d] }
  | _ => none }
def FnAloneGoesWrongFalsely : Prop := fnAloneGoesRow.holds Tryz.pinned (OpenSpec.ofChange fnAloneGoesWrong)

/-- 'laws.FnMovesOn': WHATEVER THE INPUT: true; the input reads as it did. -/
def fnMovesOnSpec : ChangeSpec := { name := "fnMovesOn", fn := fun _ => fun
  | [d] => { results := [.lit (.bool true)], args := [d] }
  | _ => none }
def fnMovesOnRow : OpenClaim := { program := "ytiljcjnnhkidbaagreat", sum := "759b4c94638a9798693ca4b8cef57d6fd3ebc65f0e3aacb0a89ce33def1e046a", func := "loop.example/g00183/laws.FnMovesOn", spec := "fnMovesOn", inPlace := ["slices.overlaps[loop.example/g00183/impl.Item]"], unfollowed := true, recurses := true, apart := false }
def FnMovesOnSaid : Prop := fnMovesOnRow.holds Tryz.pinned (OpenSpec.ofChange fnMovesOnSpec)

/-- ITS FALSE NEIGHBOUR: 'it returns false'. Refute it at one input. -/
def fnMovesOnWrong : ChangeSpec := { name := "fnMovesOn", fn := fun _ => fun
  | [d] => { results := [.lit (.bool false)], args := [d] }
  | _ => none }
def FnMovesOnWrongFalsely : Prop := fnMovesOnRow.holds Tryz.pinned (OpenSpec.ofChange fnMovesOnWrong)

/-- 'laws.FnDaemons': WHATEVER THE INPUT: true; the input reads as it did. -/
def fnDaemonsSpec : ChangeSpec := { name := "fnDaemons", fn := fun _ => fun
  | [d] => { results := [.lit (.bool true)], args := [d] }
  | _ => none }
def fnDaemonsRow : OpenClaim := { program := "ytiljcjnnhkidbaagreat", sum := "759b4c94638a9798693ca4b8cef57d6fd3ebc65f0e3aacb0a89ce33def1e046a", func := "loop.example/g00183/laws.FnDaemons", spec := "fnDaemons", inPlace := ["slices.overlaps[loop.example/g00183/impl.Item]"], unfollowed := true, recurses := true, apart := false }
def FnDaemonsSaid : Prop := fnDaemonsRow.holds Tryz.pinned (OpenSpec.ofChange fnDaemonsSpec)

/-- ITS FALSE NEIGHBOUR: 'it returns false'. Refute it at one input. -/
def fnDaemonsWrong : ChangeSpec := { name := "fnDaemons", fn := fun _ => fun
  | [d] => { results := [.lit (.bool false)], args := [d] }
  | _ => none }
def FnDaemonsWrongFalsely : Prop := fnDaemonsRow.holds Tryz.pinned (OpenSpec.ofChange fnDaemonsWrong)

/- THE SECOND FORM. 'bulk': how many values and letters a reading holds, each counted each time it is reached (what is shared counts as often as it is met; a slice's spare places count too). A statement '..UptoSaid' is the law's where the arguments, and the package variables that the reading takes, are together of bulk at most 1048576: NARROWER than '..Said'. Prove '..Said' where nothing that the law and all that it calls make is longer than what came in: it says more and counts as full. Else prove '..UptoSaid'. A law counts once. -/
mutual
def uptoBulk {H : Type} : DataW H → Nat
  | .lit (.string bytes) => bytes.length + 1
  | .lit _ => 1
  | .nil => 1
  | .ptr d => uptoBulk d + 1
  | .slice elems spare => uptoBulkAll elems + uptoBulkAll spare + 1
  | .agg parts => uptoBulkAll parts + 1
  | .iface _ d => uptoBulk d + 1
  | .map entries => uptoBulkEntries entries + 1
  | .held _ => 1
def uptoBulkAll {H : Type} : List (DataW H) → Nat
  | [] => 0
  | d :: r => uptoBulk d + uptoBulkAll r
def uptoBulkEntries {H : Type} : List (Lit × DataW H) → Nat
  | [] => 0
  | x :: r => uptoBulkEntry x + uptoBulkEntries r
def uptoBulkEntry {H : Type} : Lit × DataW H → Nat
  | (.string bytes, d) => bytes.length + uptoBulk d + 1
  | (_, d) => uptoBulk d + 1
 end
def uptoSmall : (H : Type) → List (DataW H) → Bool := fun _ ds => decide (uptoBulkAll ds ≤ 1048576)
def OpenSpec.upto (s : _root_.Go.ChangeSpec) : _root_.Go.OpenSpec := { _root_.Go.OpenSpec.ofChange s with cond := some uptoSmall }

/-- 'laws.FnExactMove', WHERE WHAT IT READS IS OF BULK AT MOST 1048576: true; the input reads as it did. -/
def fnExactMoveUptoRow : OpenClaim := { program := "ytiljcjnnhkidbaagreat", sum := "759b4c94638a9798693ca4b8cef57d6fd3ebc65f0e3aacb0a89ce33def1e046a", func := "loop.example/g00183/laws.FnExactMove", spec := "fnExactMove", inPlace := ["slices.overlaps[loop.example/g00183/impl.Item]"], apart := false, narrowed := true }
def FnExactMoveUptoSaid : Prop := fnExactMoveUptoRow.holds Tryz.pinned (OpenSpec.upto fnExactMoveSpec)

/-- 'laws.FnExactTakeBundle', WHERE WHAT IT READS IS OF BULK AT MOST 1048576: true; the input reads as it did. -/
def fnExactTakeBundleUptoRow : OpenClaim := { program := "ytiljcjnnhkidbaagreat", sum := "759b4c94638a9798693ca4b8cef57d6fd3ebc65f0e3aacb0a89ce33def1e046a", func := "loop.example/g00183/laws.FnExactTakeBundle", spec := "fnExactTakeBundle", inPlace := ["slices.overlaps[loop.example/g00183/impl.Item]"], unfollowed := true, recurses := true, apart := false, narrowed := true }
def FnExactTakeBundleUptoSaid : Prop := fnExactTakeBundleUptoRow.holds Tryz.pinned (OpenSpec.upto fnExactTakeBundleSpec)

/-- 'laws.FnExactTakeToken', WHERE WHAT IT READS IS OF BULK AT MOST 1048576: true; the input reads as it did. -/
def fnExactTakeTokenUptoRow : OpenClaim := { program := "ytiljcjnnhkidbaagreat", sum := "759b4c94638a9798693ca4b8cef57d6fd3ebc65f0e3aacb0a89ce33def1e046a", func := "loop.example/g00183/laws.FnExactTakeToken", spec := "fnExactTakeToken", inPlace := ["slices.overlaps[loop.example/g00183/impl.Item]"], recurses := true, apart := false, narrowed := true }
def FnExactTakeTokenUptoSaid : Prop := fnExactTakeTokenUptoRow.holds Tryz.pinned (OpenSpec.upto fnExactTakeTokenSpec)

/-- 'laws.FnExactTakeItem', WHERE WHAT IT READS IS OF BULK AT MOST 1048576: true; the input reads as it did. -/
def fnExactTakeItemUptoRow : OpenClaim := { program := "ytiljcjnnhkidbaagreat", sum := "759b4c94638a9798693ca4b8cef57d6fd3ebc65f0e3aacb0a89ce33def1e046a", func := "loop.example/g00183/laws.FnExactTakeItem", spec := "fnExactTakeItem", inPlace := ["slices.overlaps[loop.example/g00183/impl.Item]"], apart := false, narrowed := true }
def FnExactTakeItemUptoSaid : Prop := fnExactTakeItemUptoRow.holds Tryz.pinned (OpenSpec.upto fnExactTakeItemSpec)

/-- 'laws.FnHolds', WHERE WHAT IT READS IS OF BULK AT MOST 1048576: true; the input reads as it did. -/
def fnHoldsUptoRow : OpenClaim := { program := "ytiljcjnnhkidbaagreat", sum := "759b4c94638a9798693ca4b8cef57d6fd3ebc65f0e3aacb0a89ce33def1e046a", func := "loop.example/g00183/laws.FnHolds", spec := "fnHolds", inPlace := ["slices.overlaps[loop.example/g00183/impl.Item]"], recurses := true, apart := false, narrowed := true }
def FnHoldsUptoSaid : Prop := fnHoldsUptoRow.holds Tryz.pinned (OpenSpec.upto fnHoldsSpec)

/-- 'laws.FnAloneGoes', WHERE WHAT IT READS IS OF BULK AT MOST 1048576: true; the input reads as it did. -/
def fnAloneGoesUptoRow : OpenClaim := { program := "ytiljcjnnhkidbaagreat", sum := "759b4c94638a9798693ca4b8cef57d6fd3ebc65f0e3aacb0a89ce33def1e046a", func := "loop.example/g00183/laws.FnAloneGoes", spec := "fnAloneGoes", inPlace := ["slices.overlaps[loop.example/g00183/impl.Item]"], recurses := true, apart := false, narrowed := true }
def FnAloneGoesUptoSaid : Prop := fnAloneGoesUptoRow.holds Tryz.pinned (OpenSpec.upto fnAloneGoesSpec)

/-- 'laws.FnMovesOn', WHERE WHAT IT READS IS OF BULK AT MOST 1048576: true; the input reads as it did. -/
def fnMovesOnUptoRow : OpenClaim := { program := "ytiljcjnnhkidbaagreat", sum := "759b4c94638a9798693ca4b8cef57d6fd3ebc65f0e3aacb0a89ce33def1e046a", func := "loop.example/g00183/laws.FnMovesOn", spec := "fnMovesOn", inPlace := ["slices.overlaps[loop.example/g00183/impl.Item]"], unfollowed := true, recurses := true, apart := false, narrowed := true }
def FnMovesOnUptoSaid : Prop := fnMovesOnUptoRow.holds Tryz.pinned (OpenSpec.upto fnMovesOnSpec)

/-- 'laws.FnDaemons', WHERE WHAT IT READS IS OF BULK AT MOST 1048576: true; the input reads as it did. -/
def fnDaemonsUptoRow : OpenClaim := { program := "ytiljcjnnhkidbaagreat", sum := "759b4c94638a9798693ca4b8cef57d6fd3ebc65f0e3aacb0a89ce33def1e046a", func := "loop.example/g00183/laws.FnDaemons", spec := "fnDaemons", inPlace := ["slices.overlaps[loop.example/g00183/impl.Item]"], unfollowed := true, recurses := true, apart := false, narrowed := true }
def FnDaemonsUptoSaid : Prop := fnDaemonsUptoRow.holds Tryz.pinned (OpenSpec.upto fnDaemonsSpec)

end Rows
end Go.Proofs.YtiljcjnnhkidbaaGreat
