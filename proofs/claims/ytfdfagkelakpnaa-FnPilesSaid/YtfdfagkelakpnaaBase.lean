/- What the functions know of the types, checked against the program. -/
import Derived.Test.YtfdfagkelakpnaaLibJoin
import Derived.Test.YtfdfagkelakpnaaProg
set_option linter.unusedSimpArgs false
set_option linter.unusedVariables false
namespace Go.TM
open Go Go.RowKit Go.Proofs

def tr : Tr := (.node (.node (.node (.node .leaf 3 { size := 1, agg := false, places := [], row := some (.cons (.int .i64) .nil), elem := none, kind := some (.int .i64), eq := false } .leaf) 4 { size := 1, agg := false, places := [], row := some (.cons .bool .nil), elem := none, kind := some .bool, eq := false } (.node .leaf 5 { size := 1, agg := false, places := [], row := some (.cons (.int .u8) .nil), elem := none, kind := some (.int .u8), eq := false } .leaf)) 9 { size := 1, agg := false, places := [], row := some (.cons .str .nil), elem := none, kind := some .str, eq := false } (.node (.node .leaf 22 { size := 1, agg := false, places := [], row := some (.cons (.sl (.cons (.int .u8) .nil)) .nil), elem := some ((.cons (.int .u8) .nil), 1), kind := none, eq := false } .leaf) 24 { size := 1, agg := false, places := [], row := some (.cons (.sl (.cons (.int .i64) .nil)) .nil), elem := some ((.cons (.int .i64) .nil), 8), kind := none, eq := false } .leaf)) 27 { size := 1, agg := false, places := [], row := some (.cons (.sl (.cons .str .nil)) .nil), elem := some ((.cons .str .nil), 16), kind := none, eq := false } (.node (.node (.node .leaf 86 { size := 3, agg := true, places := [(0, 1), (1, 1), (2, 1)], row := some (.cons (.int .i64) (.cons (.int .i64) (.cons (.sl (.cons .str .nil)) .nil))), elem := none, kind := none, eq := false } .leaf) 88 { size := 3, agg := true, places := [(0, 1), (1, 1), (2, 1)], row := some (.cons (.int .i64) (.cons (.int .i64) (.cons (.sl (.cons .str .nil)) .nil))), elem := none, kind := none, eq := false } .leaf) 148 { size := 3, agg := true, places := [(0, 1), (1, 1), (2, 1)], row := some (.cons .str (.cons (.int .i64) (.cons .bool .nil))), elem := none, kind := none, eq := true } (.node (.node .leaf 159 { size := 3, agg := true, places := [(0, 1), (1, 1), (2, 1)], row := some (.cons (.sl (.cons (.int .u8) .nil)) (.cons (.int .i64) (.cons (.int .i64) .nil))), elem := none, kind := none, eq := false } .leaf) 174 { size := 3, agg := true, places := [(0, 1), (1, 1), (2, 1)], row := some (.cons .str (.cons (.int .i64) (.cons .bool .nil))), elem := none, kind := none, eq := true } .leaf)))

theorem tr_ok : tr.all (recOk Try.prog) = true := by kernel_rfl
theorem eq_ok : EqOk Try.prog (tabOf tr) := eqs_ok (by kernel_rfl)
theorem mixed_ok : Try.prog.follows .mixedOrders = true := by kernel_rfl
theorem laid_ok : laidOutB Try.prog = true := by kernel_rfl
theorem own_ok : ownKnob Try.prog.godebug = none := by kernel_rfl
theorem loops_of {c : Code} {l : List (Nat × Code)} {Q : Nat × Code → Prop} (h : loopsIn c = l) (hl : ∀ p ∈ l, Q p) : ∀ p ∈ loopsIn c, Q p := by rw [h]; exact hl

def N.first : N → St
  | .done st => st
  | .fail => []
  | .br _ t _ => t.first
  | .row _ _ _ => []
noncomputable def firstOps (T : Tab) (S : Sems) (ops : List Oper) : List Oper → St → St
  | [], st => st
  | o :: l, st => firstOps T S ops l (guardN T S ops st o).first
noncomputable def firstPl (T : Tab) (S : Sems) (ops : List Oper) : Pl → St → St
  | .nil, st => st
  | .op i _ p, st => match nth ops i with
    | some o => firstPl T S ops p (guardN T S ops st o).first
    | none => st
  | .alt p _, st => firstPl T S ops p st

end Go.TM
