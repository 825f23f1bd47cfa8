/- What the functions know of the types, checked against the program. -/
import Derived.Test.YtmljblppihbkdaaTm4
import Derived.Test.YtmljblppihbkdaaProg
set_option linter.unusedSimpArgs false
set_option linter.unusedVariables false
namespace Go.TM
open Go Go.RowKit Go.Proofs

abbrev T_iiis : RT := (.cons (.int .i64) (.cons (.int .i64) (.cons (.int .i64) (.cons .str .nil))))
abbrev R_iiis : Type := Int × Int × Int × ByteArray × Unit
abbrev T_i : RT := (.cons (.int .i64) .nil)
abbrev T_iLiE : RT := (.cons (.int .i64) (.cons (.sl T_i) .nil))
abbrev R_iLiE : Type := Int × (List (Int × Unit)) × Unit
abbrev T_iiiLiiisE : RT := (.cons (.int .i64) (.cons (.int .i64) (.cons (.int .i64) (.cons (.sl T_iiis) .nil))))
abbrev R_iiiLiiisE : Type := Int × Int × Int × (List R_iiis) × Unit
abbrev T_LiELiLiEE : RT := (.cons (.sl T_i) (.cons (.sl T_iLiE) .nil))
abbrev R_LiELiLiEE : Type := (List (Int × Unit)) × (List R_iLiE) × Unit
abbrev T_b : RT := (.cons .bool .nil)
abbrev T_s : RT := (.cons .str .nil)
abbrev T_LiE : RT := (.cons (.sl T_i) .nil)
abbrev T_LiiisE : RT := (.cons (.sl T_iiis) .nil)
abbrev T_LiiiLiiisEE : RT := (.cons (.sl T_iiiLiiisE) .nil)

def tr : Tr := (.node (.node (.node (.node .leaf 3 { size := 1, agg := false, places := [], row := some T_i, elem := none, kind := some (.int .i64), ones := [], eq := false } .leaf) 4 { size := 1, agg := false, places := [], row := some T_b, elem := none, kind := some .bool, ones := [], eq := false } (.node .leaf 9 { size := 1, agg := false, places := [], row := some T_s, elem := none, kind := some .str, ones := [], eq := false } .leaf)) 22 { size := 1, agg := false, places := [], row := some T_LiE, elem := some (T_i, 8), kind := none, ones := [], eq := false } (.node (.node .leaf 24 { size := 2, agg := true, places := [(0, 1), (1, 1)], row := some T_iLiE, elem := none, kind := none, ones := [0, 1], eq := false } .leaf) 26 { size := 2, agg := true, places := [(0, 1), (1, 1)], row := some T_iLiE, elem := none, kind := none, ones := [0, 1], eq := false } (.node .leaf 30 { size := 1, agg := false, places := [], row := some T_LiiisE, elem := some (T_iiis, 40), kind := none, ones := [], eq := false } .leaf))) 57 { size := 1, agg := false, places := [], row := some T_LiiiLiiisEE, elem := some (T_iiiLiiisE, 48), kind := none, ones := [], eq := false } (.node (.node (.node .leaf 60 { size := 1, agg := false, places := [], row := some T_LiiiLiiisEE, elem := some (T_iiiLiiisE, 48), kind := none, ones := [], eq := false, dp := true } .leaf) 69 { size := 1, agg := false, places := [], row := some T_LiiisE, elem := some (T_iiis, 40), kind := none, ones := [], eq := false } (.node .leaf 71 { size := 4, agg := true, places := [(0, 1), (1, 1), (2, 1), (3, 1)], row := some T_iiiLiiisE, elem := none, kind := none, ones := [0, 1, 2, 3], eq := false } .leaf)) 76 { size := 4, agg := true, places := [(0, 1), (1, 1), (2, 1), (3, 1)], row := some T_iiiLiiisE, elem := none, kind := none, ones := [0, 1, 2, 3], eq := false } (.node (.node .leaf 103 { size := 4, agg := true, places := [(0, 1), (1, 1), (2, 1), (3, 1)], row := some T_iiis, elem := none, kind := none, ones := [0, 1, 2, 3], eq := true } .leaf) 108 { size := 4, agg := true, places := [(0, 1), (1, 1), (2, 1), (3, 1)], row := some T_iiis, elem := none, kind := none, ones := [0, 1, 2, 3], eq := true } .leaf)))

theorem tr_ok : tr.all (recOk Try.prog) = true := by kernel_rfl
theorem eq_ok : EqOk Try.prog (tabOf tr) := eqs_ok (by kernel_rfl)
def trc : Tr := tr.caps [26]
theorem trc_ok : trc.all (recOk Try.prog) = true := by kernel_rfl
theorem eq_okc : EqOk Try.prog (tabOf trc) := eqs_ok (by kernel_rfl)
theorem mixed_ok : Try.prog.follows .mixedOrders = true := by kernel_rfl
theorem laid_ok : laidOutB Try.prog = true := by kernel_rfl
theorem own_ok : ownKnob Try.prog.godebug = none := by kernel_rfl
theorem loops_of {c : Code} {l : List (Nat × Code)} {Q : Nat × Code → Prop} (h : loopsIn c = l) (hl : ∀ p ∈ l, Q p) : ∀ p ∈ loopsIn c, Q p := by rw [h]; exact hl

def N.first : N → St
  | .done st => st
  | .fail => []
  | .br _ t _ => t.first
  | .row _ _ _ => []
noncomputable def firstOps (T : Tab) (S : Sems) (ops : List Oper) : List Oper → St → St
  | [], st => st
  | o :: l, st => firstOps T S ops l (guardN T S ops st o).first
noncomputable def firstPl (T : Tab) (S : Sems) (ops : List Oper) : Pl → St → St
  | .nil, st => st
  | .op i _ p, st => match nth ops i with
    | some o => firstPl T S ops p (guardN T S ops st o).first
    | none => st
  | .alt p _, st => firstPl T S ops p st

end Go.TM
