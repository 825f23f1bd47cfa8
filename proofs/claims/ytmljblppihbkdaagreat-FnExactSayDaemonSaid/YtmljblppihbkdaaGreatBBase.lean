/- What the functions know of the types, checked against the program. -/
import Derived.Test.YtmljblppihbkdaaGreatTm3
import Derived.Test.YtmljblppihbkdaaGreatProg
set_option linter.unusedSimpArgs false
set_option linter.unusedVariables false
namespace Go.TM
open Go Go.RowKit Go.Proofs

abbrev T_iiis : RT := (.cons (.int .i64) (.cons (.int .i64) (.cons (.int .i64) (.cons .str .nil))))
abbrev R_iiis : Type := Int × Int × Int × ByteArray × Unit
abbrev T_iiiLiiisE : RT := (.cons (.int .i64) (.cons (.int .i64) (.cons (.int .i64) (.cons (.sl T_iiis) .nil))))
abbrev R_iiiLiiisE : Type := Int × Int × Int × (List R_iiis) × Unit
abbrev T_i : RT := (.cons (.int .i64) .nil)
abbrev T_iiLiEiiisLiE : RT := (.cons (.int .i64) (.cons (.int .i64) (.cons (.sl T_i) (.cons (.int .i64) (.cons (.int .i64) (.cons (.int .i64) (.cons .str (.cons (.sl T_i) .nil))))))))
abbrev R_iiLiEiiisLiE : Type := Int × Int × (List (Int × Unit)) × Int × Int × Int × ByteArray × (List (Int × Unit)) × Unit
abbrev T_s : RT := (.cons .str .nil)
abbrev T_iLiE : RT := (.cons (.int .i64) (.cons (.sl T_i) .nil))
abbrev R_iLiE : Type := Int × (List (Int × Unit)) × Unit
abbrev T_iiiiiLiE : RT := (.cons (.int .i64) (.cons (.int .i64) (.cons (.int .i64) (.cons (.int .i64) (.cons (.int .i64) (.cons (.sl T_i) .nil))))))
abbrev R_iiiiiLiE : Type := Int × Int × Int × Int × Int × (List (Int × Unit)) × Unit
abbrev T_iiLiELiiisELiELsEiiiiiiiiiLiE : RT := (.cons (.int .i64) (.cons (.int .i64) (.cons (.sl T_i) (.cons (.sl T_iiis) (.cons (.sl T_i) (.cons (.sl T_s) (.cons (.int .i64) (.cons (.int .i64) (.cons (.int .i64) (.cons (.int .i64) (.cons (.int .i64) (.cons (.int .i64) (.cons (.int .i64) (.cons (.int .i64) (.cons (.int .i64) (.cons (.sl T_i) .nil))))))))))))))))
abbrev R_iiLiELiiisELiELsEiiiiiiiiiLiE : Type := Int × Int × (List (Int × Unit)) × (List R_iiis) × (List (Int × Unit)) × (List (ByteArray × Unit)) × Int × Int × Int × Int × Int × Int × Int × Int × Int × (List (Int × Unit)) × Unit
abbrev T_ibiiLiELiiisELiELsEiiiiiiiiiLiEiiiLiELiiiLiiisEELiiLiEiiisLiEE : RT := (.cons (.int .i64) (.cons .bool (.cons (.int .i64) (.cons (.int .i64) (.cons (.sl T_i) (.cons (.sl T_iiis) (.cons (.sl T_i) (.cons (.sl T_s) (.cons (.int .i64) (.cons (.int .i64) (.cons (.int .i64) (.cons (.int .i64) (.cons (.int .i64) (.cons (.int .i64) (.cons (.int .i64) (.cons (.int .i64) (.cons (.int .i64) (.cons (.sl T_i) (.cons (.int .i64) (.cons (.int .i64) (.cons (.int .i64) (.cons (.sl T_i) (.cons (.sl T_iiiLiiisE) (.cons (.sl T_iiLiEiiisLiE) .nil))))))))))))))))))))))))
abbrev R_ibiiLiELiiisELiELsEiiiiiiiiiLiEiiiLiELiiiLiiisEELiiLiEiiisLiEE : Type := Int × Bool × Int × Int × (List (Int × Unit)) × (List R_iiis) × (List (Int × Unit)) × (List (ByteArray × Unit)) × Int × Int × Int × Int × Int × Int × Int × Int × Int × (List (Int × Unit)) × Int × Int × Int × (List (Int × Unit)) × (List R_iiiLiiisE) × (List R_iiLiEiiisLiE) × Unit
abbrev T_b : RT := (.cons .bool .nil)
abbrev T_ku8 : RT := (.cons (.int .u8) .nil)
abbrev T_LiE : RT := (.cons (.sl T_i) .nil)
abbrev T_LiiisE : RT := (.cons (.sl T_iiis) .nil)
abbrev T_LsE : RT := (.cons (.sl T_s) .nil)
abbrev T_LiiiLiiisEE : RT := (.cons (.sl T_iiiLiiisE) .nil)
abbrev T_LiiLiEiiisLiEE : RT := (.cons (.sl T_iiLiEiiisLiE) .nil)
abbrev T_Lku8E : RT := (.cons (.sl T_ku8) .nil)

def tr : Tr := (.node (.node (.node (.node (.node .leaf 3 { size := 1, agg := false, places := [], row := some T_i, elem := none, kind := some (.int .i64), ones := [], eq := false } .leaf) 4 { size := 1, agg := false, places := [], row := some T_b, elem := none, kind := some .bool, ones := [], eq := false } (.node .leaf 5 { size := 1, agg := false, places := [], row := some T_ku8, elem := none, kind := some (.int .u8), ones := [], eq := false } .leaf)) 9 { size := 1, agg := false, places := [], row := some T_s, elem := none, kind := some .str, ones := [], eq := false } (.node (.node .leaf 22 { size := 1, agg := false, places := [], row := some T_LiE, elem := some (T_i, 8), kind := none, ones := [], eq := false } .leaf) 24 { size := 2, agg := true, places := [(0, 1), (1, 1)], row := some T_iLiE, elem := none, kind := none, ones := [0, 1], eq := false } .leaf)) 25 { size := 1, agg := false, places := [], row := some T_LiiisE, elem := some (T_iiis, 40), kind := none, ones := [], eq := false } (.node (.node (.node .leaf 26 { size := 1, agg := false, places := [], row := some T_LsE, elem := some (T_s, 16), kind := none, ones := [], eq := false } .leaf) 28 { size := 6, agg := true, places := [(0, 1), (1, 1), (2, 1), (3, 1), (4, 1), (5, 1)], row := some T_iiiiiLiE, elem := none, kind := none, ones := [0, 1, 2, 3, 4, 5], eq := false } (.node .leaf 30 { size := 16, agg := true, places := [(0, 1), (1, 2), (3, 1), (4, 1), (5, 1), (6, 1), (7, 1), (8, 1), (9, 1), (10, 6)], row := some T_iiLiELiiisELiELsEiiiiiiiiiLiE, elem := none, kind := none, ones := [0, 2, 3, 4, 5, 6, 7, 8], eq := false } .leaf)) 31 { size := 1, agg := false, places := [], row := some T_LiiiLiiisEE, elem := some (T_iiiLiiisE, 48), kind := none, ones := [], eq := false } (.node (.node .leaf 32 { size := 1, agg := false, places := [], row := some T_LiiLiEiiisLiEE, elem := some (T_iiLiEiiisLiE, 104), kind := none, ones := [], eq := false } .leaf) 34 { size := 24, agg := true, places := [(0, 1), (1, 1), (2, 16), (18, 1), (19, 1), (20, 2), (22, 1), (23, 1)], row := some T_ibiiLiELiiisELiELsEiiiiiiiiiLiEiiiLiELiiiLiiisEELiiLiEiiisLiEE, elem := none, kind := none, ones := [0, 1, 3, 4, 6, 7], eq := false } .leaf))) 36 { size := 2, agg := true, places := [(0, 1), (1, 1)], row := some T_iLiE, elem := none, kind := none, ones := [0, 1], eq := false } (.node (.node (.node (.node .leaf 37 { size := 1, agg := false, places := [], row := some T_LiiisE, elem := some (T_iiis, 40), kind := none, ones := [], eq := false } .leaf) 38 { size := 6, agg := true, places := [(0, 1), (1, 1), (2, 1), (3, 1), (4, 1), (5, 1)], row := some T_iiiiiLiE, elem := none, kind := none, ones := [0, 1, 2, 3, 4, 5], eq := false } (.node .leaf 40 { size := 16, agg := true, places := [(0, 1), (1, 2), (3, 1), (4, 1), (5, 1), (6, 1), (7, 1), (8, 1), (9, 1), (10, 6)], row := some T_iiLiELiiisELiELsEiiiiiiiiiLiE, elem := none, kind := none, ones := [0, 2, 3, 4, 5, 6, 7, 8], eq := false } .leaf)) 41 { size := 1, agg := false, places := [], row := some T_LiiiLiiisEE, elem := some (T_iiiLiiisE, 48), kind := none, ones := [], eq := false, dp := true } (.node (.node .leaf 42 { size := 1, agg := false, places := [], row := some T_LiiLiEiiisLiEE, elem := some (T_iiLiEiiisLiE, 104), kind := none, ones := [], eq := false, dp := true } .leaf) 44 { size := 24, agg := true, places := [(0, 1), (1, 1), (2, 16), (18, 1), (19, 1), (20, 2), (22, 1), (23, 1)], row := some T_ibiiLiELiiisELiELsEiiiiiiiiiLiEiiiLiELiiiLiiisEELiiLiEiiisLiEE, elem := none, kind := none, ones := [0, 1, 3, 4, 6, 7], eq := false } .leaf)) 79 { size := 4, agg := true, places := [(0, 1), (1, 1), (2, 1), (3, 1)], row := some T_iiiLiiisE, elem := none, kind := none, ones := [0, 1, 2, 3], eq := false } (.node (.node (.node .leaf 82 { size := 4, agg := true, places := [(0, 1), (1, 1), (2, 1), (3, 1)], row := some T_iiis, elem := none, kind := none, ones := [0, 1, 2, 3], eq := true } .leaf) 84 { size := 8, agg := true, places := [(0, 1), (1, 2), (3, 4), (7, 1)], row := some T_iiLiEiiisLiE, elem := none, kind := none, ones := [0, 3], eq := false } (.node .leaf 91 { size := 4, agg := true, places := [(0, 1), (1, 1), (2, 1), (3, 1)], row := some T_iiiLiiisE, elem := none, kind := none, ones := [0, 1, 2, 3], eq := false } .leaf)) 100 { size := 4, agg := true, places := [(0, 1), (1, 1), (2, 1), (3, 1)], row := some T_iiis, elem := none, kind := none, ones := [0, 1, 2, 3], eq := true } (.node (.node .leaf 102 { size := 8, agg := true, places := [(0, 1), (1, 2), (3, 4), (7, 1)], row := some T_iiLiEiiisLiE, elem := none, kind := none, ones := [0, 3], eq := false } .leaf) 129 { size := 1, agg := false, places := [], row := some T_Lku8E, elem := some (T_ku8, 1), kind := none, ones := [], eq := false } .leaf))))

theorem tr_ok : tr.all (recOk Tryz.prog) = true := by kernel_rfl
theorem eq_ok : EqOk Tryz.prog (tabOf tr) := eqs_ok (by kernel_rfl)
theorem mixed_ok : Tryz.prog.follows .mixedOrders = true := by kernel_rfl
theorem laid_ok : laidOutB Tryz.prog = true := by kernel_rfl
theorem own_ok : ownKnob Tryz.prog.godebug = none := by kernel_rfl
theorem loops_of {c : Code} {l : List (Nat × Code)} {Q : Nat × Code → Prop} (h : loopsIn c = l) (hl : ∀ p ∈ l, Q p) : ∀ p ∈ loopsIn c, Q p := by rw [h]; exact hl

def N.first : N → St
  | .done st => st
  | .fail => []
  | .br _ t _ => t.first
  | .row _ _ _ => []
noncomputable def firstOps (T : Tab) (S : Sems) (ops : List Oper) : List Oper → St → St
  | [], st => st
  | o :: l, st => firstOps T S ops l (guardN T S ops st o).first
noncomputable def firstPl (T : Tab) (S : Sems) (ops : List Oper) : Pl → St → St
  | .nil, st => st
  | .op i _ p, st => match nth ops i with
    | some o => firstPl T S ops p (guardN T S ops st o).first
    | none => st
  | .alt p _, st => firstPl T S ops p st

end Go.TM
