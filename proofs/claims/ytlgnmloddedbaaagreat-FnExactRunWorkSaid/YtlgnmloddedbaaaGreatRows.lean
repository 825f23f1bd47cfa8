/-
  No cell of these rows narrows 'for every input' (looked for: loops, veiled, ifaces, maps, wideKeys, modest, calm, conditions, laid).
  DERIVED. THE GIVEN ROWS OF THIS SEAT. 7 by the template 'for every input the law returns true; each argument reads behind the call as it read before'; 0 by the template 'total and deterministic' (their statements: YtlgnmloddedbaaaGreatTotals.lean).
  GIVEN WITH THE SEED: the statements are not yours to turn. If you find one false, say at which input.
  Laid BY PROGRAM, IN A SANDBOX (cutbox-rows.mjs): the forced cells as the released guide's own fill.sh prints them over the translation 2f73f239c778a540… (all of the seat's roots in one cut). By AI agents, Wed Nov 11 2026. No macro, syntax, notation, axiom, sorry.
-/
import Derived.Test.YtlgnmloddedbaaaGreatChecked
import GoSem.Claim
import GoSem.ClaimJoined
import GoSem.ClaimMapViews
import Derived.JoinedTies
import Derived.KernelRfl
namespace Go.Proofs.YtlgnmloddedbaaaGreat
/- THE CELL 'sum', in the pinned program and in every row, IS THE sha256 OF THE DUMP (.gsa) THAT YtlgnmloddedbaaaGreatProg.lean LOADS. Nothing in Lean hashes anything: it is a label: what it is worth is what the hold of that sum in a sandbox is worth. -/
noncomputable def Tryz.pinned : Pinned := { name := "ytlgnmloddedbaaagreat", sum := "2f73f239c778a540bca5288a231718c3a4b21b8b4abd93a7cb4e394d73cc9ed3", checked := Tryz.checked }
namespace Rows
def none {H : Type} : Left H := { results := [], args := [] }

/-- 'laws.FnWorldNew': WHATEVER THE INPUT: true; the input reads as it did. -/
def fnWorldNewSpec : ChangeSpec := { name := "fnWorldNew", fn := fun _ => fun
  | [d] => { results := [.lit (.bool true)], args := [d] }
  | _ => none }
def fnWorldNewRow : OpenClaim := { program := "ytlgnmloddedbaaagreat", sum := "2f73f239c778a540bca5288a231718c3a4b21b8b4abd93a7cb4e394d73cc9ed3", func := "loop.example/g00183/laws.FnWorldNew", spec := "fnWorldNew", inPlace := ["slices.overlaps[loop.example/g00183/impl.Item]"], unfollowed := true, recurses := true, apart := false }
def FnWorldNewSaid : Prop := fnWorldNewRow.holds Tryz.pinned (OpenSpec.ofChange fnWorldNewSpec)

/-- ITS FALSE NEIGHBOUR: 'it returns false'. Refute it at one input. -/
def fnWorldNewWrong : ChangeSpec := { name := "fnWorldNew", fn := fun _ => fun
  | [d] => { results := [.lit (.bool false)], args := [d] }
  | _ => none }
def FnWorldNewWrongFalsely : Prop := fnWorldNewRow.holds Tryz.pinned (OpenSpec.ofChange fnWorldNewWrong)

/-- 'laws.FnExactRunWork': WHATEVER THE INPUT: true; the input reads as it did. -/
def fnExactRunWorkSpec : ChangeSpec := { name := "fnExactRunWork", fn := fun _ => fun
  | [d1, d2] => { results := [.lit (.bool true)], args := [d1, d2] }
  | _ => none }
def fnExactRunWorkRow : OpenClaim := { program := "ytlgnmloddedbaaagreat", sum := "2f73f239c778a540bca5288a231718c3a4b21b8b4abd93a7cb4e394d73cc9ed3", func := "loop.example/g00183/laws.FnExactRunWork", spec := "fnExactRunWork", inPlace := ["slices.overlaps[loop.example/g00183/impl.Item]"], unfollowed := true, recurses := true, apart := false }
def FnExactRunWorkSaid : Prop := fnExactRunWorkRow.holds Tryz.pinned (OpenSpec.ofChange fnExactRunWorkSpec)

/-- ITS FALSE NEIGHBOUR: 'it returns false'. Refute it at one input. -/
def fnExactRunWorkWrong : ChangeSpec := { name := "fnExactRunWork", fn := fun _ => fun
  | [d1, d2] => { results := [.lit (.bool false)], args := [d1, d2] }
  | _ => none }
def FnExactRunWorkWrongFalsely : Prop := fnExactRunWorkRow.holds Tryz.pinned (OpenSpec.ofChange fnExactRunWorkWrong)

/-- 'laws.FnExactQuiet': WHATEVER THE INPUT: true; the input reads as it did. -/
def fnExactQuietSpec : ChangeSpec := { name := "fnExactQuiet", fn := fun _ => fun
  | [d1, d2] => { results := [.lit (.bool true)], args := [d1, d2] }
  | _ => none }
def fnExactQuietRow : OpenClaim := { program := "ytlgnmloddedbaaagreat", sum := "2f73f239c778a540bca5288a231718c3a4b21b8b4abd93a7cb4e394d73cc9ed3", func := "loop.example/g00183/laws.FnExactQuiet", spec := "fnExactQuiet", inPlace := ["slices.overlaps[loop.example/g00183/impl.Item]"], unfollowed := true, recurses := true, apart := false }
def FnExactQuietSaid : Prop := fnExactQuietRow.holds Tryz.pinned (OpenSpec.ofChange fnExactQuietSpec)

/-- ITS FALSE NEIGHBOUR: 'it returns false'. Refute it at one input. -/
def fnExactQuietWrong : ChangeSpec := { name := "fnExactQuiet", fn := fun _ => fun
  | [d1, d2] => { results := [.lit (.bool false)], args := [d1, d2] }
  | _ => none }
def FnExactQuietWrongFalsely : Prop := fnExactQuietRow.holds Tryz.pinned (OpenSpec.ofChange fnExactQuietWrong)

/-- 'laws.FnRingSaid': WHATEVER THE INPUT: true; the input reads as it did. -/
def fnRingSaidSpec : ChangeSpec := { name := "fnRingSaid", fn := fun _ => fun
  | [d] => { results := [.lit (.bool true)], args := [d] }
  | _ => none }
def fnRingSaidRow : OpenClaim := { program := "ytlgnmloddedbaaagreat", sum := "2f73f239c778a540bca5288a231718c3a4b21b8b4abd93a7cb4e394d73cc9ed3", func := "loop.example/g00183/laws.FnRingSaid", spec := "fnRingSaid", inPlace := ["slices.overlaps[loop.example/g00183/impl.Item]"], unfollowed := true, recurses := true, apart := false }
def FnRingSaidSaid : Prop := fnRingSaidRow.holds Tryz.pinned (OpenSpec.ofChange fnRingSaidSpec)

/-- ITS FALSE NEIGHBOUR: 'it returns false'. Refute it at one input. -/
def fnRingSaidWrong : ChangeSpec := { name := "fnRingSaid", fn := fun _ => fun
  | [d] => { results := [.lit (.bool false)], args := [d] }
  | _ => none }
def FnRingSaidWrongFalsely : Prop := fnRingSaidRow.holds Tryz.pinned (OpenSpec.ofChange fnRingSaidWrong)

/-- 'laws.FnOneOrder': WHATEVER THE INPUT: true; the input reads as it did. -/
def fnOneOrderSpec : ChangeSpec := { name := "fnOneOrder", fn := fun _ => fun
  | [d] => { results := [.lit (.bool true)], args := [d] }
  | _ => none }
def fnOneOrderRow : OpenClaim := { program := "ytlgnmloddedbaaagreat", sum := "2f73f239c778a540bca5288a231718c3a4b21b8b4abd93a7cb4e394d73cc9ed3", func := "loop.example/g00183/laws.FnOneOrder", spec := "fnOneOrder", inPlace := ["slices.overlaps[loop.example/g00183/impl.Item]"], unfollowed := true, recurses := true, apart := false }
def FnOneOrderSaid : Prop := fnOneOrderRow.holds Tryz.pinned (OpenSpec.ofChange fnOneOrderSpec)

/-- ITS FALSE NEIGHBOUR: 'it returns false'. Refute it at one input. -/
def fnOneOrderWrong : ChangeSpec := { name := "fnOneOrder", fn := fun _ => fun
  | [d] => { results := [.lit (.bool false)], args := [d] }
  | _ => none }
def FnOneOrderWrongFalsely : Prop := fnOneOrderRow.holds Tryz.pinned (OpenSpec.ofChange fnOneOrderWrong)

/-- 'laws.FnExactRunWorld': WHATEVER THE INPUT: true; the input reads as it did. -/
def fnExactRunWorldSpec : ChangeSpec := { name := "fnExactRunWorld", fn := fun _ => fun
  | [d1, d2] => { results := [.lit (.bool true)], args := [d1, d2] }
  | _ => none }
def fnExactRunWorldRow : OpenClaim := { program := "ytlgnmloddedbaaagreat", sum := "2f73f239c778a540bca5288a231718c3a4b21b8b4abd93a7cb4e394d73cc9ed3", func := "loop.example/g00183/laws.FnExactRunWorld", spec := "fnExactRunWorld", inPlace := ["slices.overlaps[loop.example/g00183/impl.Item]"], unfollowed := true, recurses := true, apart := false }
def FnExactRunWorldSaid : Prop := fnExactRunWorldRow.holds Tryz.pinned (OpenSpec.ofChange fnExactRunWorldSpec)

/-- ITS FALSE NEIGHBOUR: 'it returns false'. Refute it at one input. -/
def fnExactRunWorldWrong : ChangeSpec := { name := "fnExactRunWorld", fn := fun _ => fun
  | [d1, d2] => { results := [.lit (.bool false)], args := [d1, d2] }
  | _ => none }
def FnExactRunWorldWrongFalsely : Prop := fnExactRunWorldRow.holds Tryz.pinned (OpenSpec.ofChange fnExactRunWorldWrong)

/-- 'laws.FnGiven': WHATEVER THE INPUT: true; the input reads as it did. -/
def fnGivenSpec : ChangeSpec := { name := "fnGiven", fn := fun _ => fun
  | [d] => { results := [.lit (.bool true)], args := [d] }
  | _ => none }
def fnGivenRow : OpenClaim := { program := "ytlgnmloddedbaaagreat", sum := "2f73f239c778a540bca5288a231718c3a4b21b8b4abd93a7cb4e394d73cc9ed3", func := "loop.example/g00183/laws.FnGiven", spec := "fnGiven", inPlace := ["slices.overlaps[loop.example/g00183/impl.Item]"], unfollowed := true, recurses := true, apart := false }
def FnGivenSaid : Prop := fnGivenRow.holds Tryz.pinned (OpenSpec.ofChange fnGivenSpec)

/-- ITS FALSE NEIGHBOUR: 'it returns false'. Refute it at one input. -/
def fnGivenWrong : ChangeSpec := { name := "fnGiven", fn := fun _ => fun
  | [d] => { results := [.lit (.bool false)], args := [d] }
  | _ => none }
def FnGivenWrongFalsely : Prop := fnGivenRow.holds Tryz.pinned (OpenSpec.ofChange fnGivenWrong)

/- THE SECOND FORM. 'bulk': how many values and letters a reading holds, each counted each time it is reached (what is shared counts as often as it is met; a slice's spare places count too). A statement '..UptoSaid' is the law's where the arguments, and the package variables that the reading takes, are together of bulk at most 1048576: NARROWER than '..Said'. Prove '..Said' where nothing that the law and all that it calls make is longer than what came in: it says more and counts as full. Else prove '..UptoSaid'. A law counts once. -/
mutual
def uptoBulk {H : Type} : DataW H → Nat
  | .lit (.string bytes) => bytes.length + 1
  | .lit _ => 1
  | .nil => 1
  | .ptr d => uptoBulk d + 1
  | .slice elems spare => uptoBulkAll elems + uptoBulkAll spare + 1
  | .agg parts => uptoBulkAll parts + 1
  | .iface _ d => uptoBulk d + 1
  | .map entries => uptoBulkEntries entries + 1
  | .held _ => 1
def uptoBulkAll {H : Type} : List (DataW H) → Nat
  | [] => 0
  | d :: r => uptoBulk d + uptoBulkAll r
def uptoBulkEntries {H : Type} : List (Lit × DataW H) → Nat
  | [] => 0
  | x :: r => uptoBulkEntry x + uptoBulkEntries r
def uptoBulkEntry {H : Type} : Lit × DataW H → Nat
  | (.string bytes, d) => bytes.length + uptoBulk d + 1
  | (_, d) => uptoBulk d + 1
 end
def uptoSmall : (H : Type) → List (DataW H) → Bool := fun _ ds => decide (uptoBulkAll ds ≤ 1048576)
def OpenSpec.upto (s : _root_.Go.ChangeSpec) : _root_.Go.OpenSpec := { _root_.Go.OpenSpec.ofChange s with cond := some uptoSmall }

/-- 'laws.FnWorldNew', WHERE WHAT IT READS IS OF BULK AT MOST 1048576: true; the input reads as it did. -/
def fnWorldNewUptoRow : OpenClaim := { program := "ytlgnmloddedbaaagreat", sum := "2f73f239c778a540bca5288a231718c3a4b21b8b4abd93a7cb4e394d73cc9ed3", func := "loop.example/g00183/laws.FnWorldNew", spec := "fnWorldNew", inPlace := ["slices.overlaps[loop.example/g00183/impl.Item]"], unfollowed := true, recurses := true, apart := false, narrowed := true }
def FnWorldNewUptoSaid : Prop := fnWorldNewUptoRow.holds Tryz.pinned (OpenSpec.upto fnWorldNewSpec)

/-- 'laws.FnExactRunWork', WHERE WHAT IT READS IS OF BULK AT MOST 1048576: true; the input reads as it did. -/
def fnExactRunWorkUptoRow : OpenClaim := { program := "ytlgnmloddedbaaagreat", sum := "2f73f239c778a540bca5288a231718c3a4b21b8b4abd93a7cb4e394d73cc9ed3", func := "loop.example/g00183/laws.FnExactRunWork", spec := "fnExactRunWork", inPlace := ["slices.overlaps[loop.example/g00183/impl.Item]"], unfollowed := true, recurses := true, apart := false, narrowed := true }
def FnExactRunWorkUptoSaid : Prop := fnExactRunWorkUptoRow.holds Tryz.pinned (OpenSpec.upto fnExactRunWorkSpec)

/-- 'laws.FnExactQuiet', WHERE WHAT IT READS IS OF BULK AT MOST 1048576: true; the input reads as it did. -/
def fnExactQuietUptoRow : OpenClaim := { program := "ytlgnmloddedbaaagreat", sum := "2f73f239c778a540bca5288a231718c3a4b21b8b4abd93a7cb4e394d73cc9ed3", func := "loop.example/g00183/laws.FnExactQuiet", spec := "fnExactQuiet", inPlace := ["slices.overlaps[loop.example/g00183/impl.Item]"], unfollowed := true, recurses := true, apart := false, narrowed := true }
def FnExactQuietUptoSaid : Prop := fnExactQuietUptoRow.holds Tryz.pinned (OpenSpec.upto fnExactQuietSpec)

/-- 'laws.FnRingSaid', WHERE WHAT IT READS IS OF BULK AT MOST 1048576: true; the input reads as it did. -/
def fnRingSaidUptoRow : OpenClaim := { program := "ytlgnmloddedbaaagreat", sum := "2f73f239c778a540bca5288a231718c3a4b21b8b4abd93a7cb4e394d73cc9ed3", func := "loop.example/g00183/laws.FnRingSaid", spec := "fnRingSaid", inPlace := ["slices.overlaps[loop.example/g00183/impl.Item]"], unfollowed := true, recurses := true, apart := false, narrowed := true }
def FnRingSaidUptoSaid : Prop := fnRingSaidUptoRow.holds Tryz.pinned (OpenSpec.upto fnRingSaidSpec)

/-- 'laws.FnOneOrder', WHERE WHAT IT READS IS OF BULK AT MOST 1048576: true; the input reads as it did. -/
def fnOneOrderUptoRow : OpenClaim := { program := "ytlgnmloddedbaaagreat", sum := "2f73f239c778a540bca5288a231718c3a4b21b8b4abd93a7cb4e394d73cc9ed3", func := "loop.example/g00183/laws.FnOneOrder", spec := "fnOneOrder", inPlace := ["slices.overlaps[loop.example/g00183/impl.Item]"], unfollowed := true, recurses := true, apart := false, narrowed := true }
def FnOneOrderUptoSaid : Prop := fnOneOrderUptoRow.holds Tryz.pinned (OpenSpec.upto fnOneOrderSpec)

/-- 'laws.FnExactRunWorld', WHERE WHAT IT READS IS OF BULK AT MOST 1048576: true; the input reads as it did. -/
def fnExactRunWorldUptoRow : OpenClaim := { program := "ytlgnmloddedbaaagreat", sum := "2f73f239c778a540bca5288a231718c3a4b21b8b4abd93a7cb4e394d73cc9ed3", func := "loop.example/g00183/laws.FnExactRunWorld", spec := "fnExactRunWorld", inPlace := ["slices.overlaps[loop.example/g00183/impl.Item]"], unfollowed := true, recurses := true, apart := false, narrowed := true }
def FnExactRunWorldUptoSaid : Prop := fnExactRunWorldUptoRow.holds Tryz.pinned (OpenSpec.upto fnExactRunWorldSpec)

/-- 'laws.FnGiven', WHERE WHAT IT READS IS OF BULK AT MOST 1048576: true; the input reads as it did. -/
def fnGivenUptoRow : OpenClaim := { program := "ytlgnmloddedbaaagreat", sum := "2f73f239c778a540bca5288a231718c3a4b21b8b4abd93a7cb4e394d73cc9ed3", func := "loop.example/g00183/laws.FnGiven", spec := "fnGiven", inPlace := ["slices.overlaps[loop.example/g00183/impl.Item]"], unfollowed := true, recurses := true, apart := false, narrowed := true }
def FnGivenUptoSaid : Prop := fnGivenUptoRow.holds Tryz.pinned (OpenSpec.upto fnGivenSpec)

end Rows
end Go.Proofs.YtlgnmloddedbaaaGreat
