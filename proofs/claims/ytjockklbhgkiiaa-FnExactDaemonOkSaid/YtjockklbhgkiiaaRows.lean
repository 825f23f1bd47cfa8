/-
  No cell of these rows narrows 'for every input' (looked for: loops, veiled, ifaces, maps, wideKeys, modest, calm, conditions, laid).
  DERIVED. THE GIVEN ROWS OF THIS SEAT. 3 by the template 'for every input the law returns true; each argument reads behind the call as it read before'; 0 by the template 'total and deterministic' (their statements: YtjockklbhgkiiaaTotals.lean).
  GIVEN WITH THE SEED: the statements are not yours to turn. If you find one false, say at which input.
  Laid BY PROGRAM, IN A SANDBOX (cutbox-rows.mjs): the forced cells as the released guide's own fill.sh prints them over the translation df26c4d702c8b0fc… (all of the seat's roots in one cut). By AI agents, Wed Nov 11 2026. No macro, syntax, notation, axiom, sorry.
-/
import Derived.Test.YtjockklbhgkiiaaChecked
import GoSem.Claim
import GoSem.ClaimJoined
import GoSem.ClaimMapViews
import Derived.JoinedTies
import Derived.KernelRfl
namespace Go.Proofs.Ytjockklbhgkiiaa
/- THE CELL 'sum', in the pinned program and in every row, IS THE sha256 OF THE DUMP (.gsa) THAT YtjockklbhgkiiaaProg.lean LOADS. Nothing in Lean hashes anything: it is a label: what it is worth is what the hold of that sum in a sandbox is worth. -/
noncomputable def Try.pinned : Pinned := { name := "ytjockklbhgkiiaa", sum := "df26c4d702c8b0fc791664c97ccda1eb4f9a101fa9217ffd2009dcd4f4f7e834", checked := Try.checked }
namespace Rows
def none {H : Type} : Left H := { results := [], args := [] }

/-- 'laws.FnExactSay': WHATEVER THE INPUT: true; the input reads as it did. -/
def fnExactSaySpec : ChangeSpec := { name := "fnExactSay", fn := fun _ => fun
  | [d1, d2, d3] => { results := [.lit (.bool true)], args := [d1, d2, d3] }
  | _ => none }
def fnExactSayRow : OpenClaim := { program := "ytjockklbhgkiiaa", sum := "df26c4d702c8b0fc791664c97ccda1eb4f9a101fa9217ffd2009dcd4f4f7e834", func := "loop.example/g00183/laws.FnExactSay", spec := "fnExactSay", apart := false }
def FnExactSaySaid : Prop := fnExactSayRow.holds Try.pinned (OpenSpec.ofChange fnExactSaySpec)

/-- ITS FALSE NEIGHBOUR: 'it returns false'. Refute it at one input. -/
def fnExactSayWrong : ChangeSpec := { name := "fnExactSay", fn := fun _ => fun
  | [d1, d2, d3] => { results := [.lit (.bool false)], args := [d1, d2, d3] }
  | _ => none }
def FnExactSayWrongFalsely : Prop := fnExactSayRow.holds Try.pinned (OpenSpec.ofChange fnExactSayWrong)

/-- 'laws.FnExactHear': WHATEVER THE INPUT: true; the input reads as it did. -/
def fnExactHearSpec : ChangeSpec := { name := "fnExactHear", fn := fun _ => fun
  | [d] => { results := [.lit (.bool true)], args := [d] }
  | _ => none }
def fnExactHearRow : OpenClaim := { program := "ytjockklbhgkiiaa", sum := "df26c4d702c8b0fc791664c97ccda1eb4f9a101fa9217ffd2009dcd4f4f7e834", func := "loop.example/g00183/laws.FnExactHear", spec := "fnExactHear", apart := false }
def FnExactHearSaid : Prop := fnExactHearRow.holds Try.pinned (OpenSpec.ofChange fnExactHearSpec)

/-- ITS FALSE NEIGHBOUR: 'it returns false'. Refute it at one input. -/
def fnExactHearWrong : ChangeSpec := { name := "fnExactHear", fn := fun _ => fun
  | [d] => { results := [.lit (.bool false)], args := [d] }
  | _ => none }
def FnExactHearWrongFalsely : Prop := fnExactHearRow.holds Try.pinned (OpenSpec.ofChange fnExactHearWrong)

/-- 'laws.FnExactDaemonOk': WHATEVER THE INPUT: true; the input reads as it did. -/
def fnExactDaemonOkSpec : ChangeSpec := { name := "fnExactDaemonOk", fn := fun _ => fun
  | [d] => { results := [.lit (.bool true)], args := [d] }
  | _ => none }
def fnExactDaemonOkRow : OpenClaim := { program := "ytjockklbhgkiiaa", sum := "df26c4d702c8b0fc791664c97ccda1eb4f9a101fa9217ffd2009dcd4f4f7e834", func := "loop.example/g00183/laws.FnExactDaemonOk", spec := "fnExactDaemonOk", apart := false }
def FnExactDaemonOkSaid : Prop := fnExactDaemonOkRow.holds Try.pinned (OpenSpec.ofChange fnExactDaemonOkSpec)

/-- ITS FALSE NEIGHBOUR: 'it returns false'. Refute it at one input. -/
def fnExactDaemonOkWrong : ChangeSpec := { name := "fnExactDaemonOk", fn := fun _ => fun
  | [d] => { results := [.lit (.bool false)], args := [d] }
  | _ => none }
def FnExactDaemonOkWrongFalsely : Prop := fnExactDaemonOkRow.holds Try.pinned (OpenSpec.ofChange fnExactDaemonOkWrong)

/- THE SECOND FORM. 'bulk': how many values and letters a reading holds, each counted each time it is reached (what is shared counts as often as it is met; a slice's spare places count too). A statement '..UptoSaid' is the law's where the arguments, and the package variables that the reading takes, are together of bulk at most 1048576: NARROWER than '..Said'. Prove '..Said' where nothing that the law and all that it calls make is longer than what came in: it says more and counts as full. Else prove '..UptoSaid'. A law counts once. -/
mutual
def uptoBulk {H : Type} : DataW H → Nat
  | .lit (.string bytes) => bytes.length + 1
  | .lit _ => 1
  | .nil => 1
  | .ptr d => uptoBulk d + 1
  | .slice elems spare => uptoBulkAll elems + uptoBulkAll spare + 1
  | .agg parts => uptoBulkAll parts + 1
  | .iface _ d => uptoBulk d + 1
  | .map entries => uptoBulkEntries entries + 1
  | .held _ => 1
def uptoBulkAll {H : Type} : List (DataW H) → Nat
  | [] => 0
  | d :: r => uptoBulk d + uptoBulkAll r
def uptoBulkEntries {H : Type} : List (Lit × DataW H) → Nat
  | [] => 0
  | x :: r => uptoBulkEntry x + uptoBulkEntries r
def uptoBulkEntry {H : Type} : Lit × DataW H → Nat
  | (.string bytes, d) => bytes.length + uptoBulk d + 1
  | (_, d) => uptoBulk d + 1
 end
def uptoSmall : (H : Type) → List (DataW H) → Bool := fun _ ds => decide (uptoBulkAll ds ≤ 1048576)
def OpenSpec.upto (s : _root_.Go.ChangeSpec) : _root_.Go.OpenSpec := { _root_.Go.OpenSpec.ofChange s with cond := some uptoSmall }

/-- 'laws.FnExactSay', WHERE WHAT IT READS IS OF BULK AT MOST 1048576: true; the input reads as it did. -/
def fnExactSayUptoRow : OpenClaim := { program := "ytjockklbhgkiiaa", sum := "df26c4d702c8b0fc791664c97ccda1eb4f9a101fa9217ffd2009dcd4f4f7e834", func := "loop.example/g00183/laws.FnExactSay", spec := "fnExactSay", apart := false, narrowed := true }
def FnExactSayUptoSaid : Prop := fnExactSayUptoRow.holds Try.pinned (OpenSpec.upto fnExactSaySpec)

/-- 'laws.FnExactHear', WHERE WHAT IT READS IS OF BULK AT MOST 1048576: true; the input reads as it did. -/
def fnExactHearUptoRow : OpenClaim := { program := "ytjockklbhgkiiaa", sum := "df26c4d702c8b0fc791664c97ccda1eb4f9a101fa9217ffd2009dcd4f4f7e834", func := "loop.example/g00183/laws.FnExactHear", spec := "fnExactHear", apart := false, narrowed := true }
def FnExactHearUptoSaid : Prop := fnExactHearUptoRow.holds Try.pinned (OpenSpec.upto fnExactHearSpec)

/-- 'laws.FnExactDaemonOk', WHERE WHAT IT READS IS OF BULK AT MOST 1048576: true; the input reads as it did. -/
def fnExactDaemonOkUptoRow : OpenClaim := { program := "ytjockklbhgkiiaa", sum := "df26c4d702c8b0fc791664c97ccda1eb4f9a101fa9217ffd2009dcd4f4f7e834", func := "loop.example/g00183/laws.FnExactDaemonOk", spec := "fnExactDaemonOk", apart := false, narrowed := true }
def FnExactDaemonOkUptoSaid : Prop := fnExactDaemonOkUptoRow.holds Try.pinned (OpenSpec.upto fnExactDaemonOkSpec)

end Rows
end Go.Proofs.Ytjockklbhgkiiaa
