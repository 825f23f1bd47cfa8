/- What the functions know of the types, checked against the program. -/
import Derived.Test.YtlgnmloddedbaaaGreatLibDel
import Derived.Test.YtlgnmloddedbaaaGreatProg
set_option linter.unusedSimpArgs false
set_option linter.unusedVariables false
namespace Go.TM
open Go Go.RowKit Go.Proofs
abbrev T_ku8 : RT := (.cons (.int .u8) .nil)
abbrev L_ku8 : Type := List (Int × Unit)
abbrev T_i : RT := (.cons (.int .i64) .nil)
abbrev L_i : Type := List (Int × Unit)
abbrev T_iLiE : RT := (.cons (.int .i64) (.cons (.sl T_i) .nil))
abbrev R_iLiE : Type := Int × L_i × Unit
abbrev L_iLiE : Type := List (R_iLiE)
abbrev T_iiis : RT := (.cons (.int .i64) (.cons (.int .i64) (.cons (.int .i64) (.cons .str .nil))))
abbrev R_iiis : Type := Int × Int × Int × ByteArray × Unit
abbrev L_iiis : Type := List (R_iiis)
abbrev T_s : RT := (.cons .str .nil)
abbrev L_s : Type := List (ByteArray × Unit)
abbrev T_iiiLiiisE : RT := (.cons (.int .i64) (.cons (.int .i64) (.cons (.int .i64) (.cons (.sl T_iiis) .nil))))
abbrev R_iiiLiiisE : Type := Int × Int × Int × L_iiis × Unit
abbrev L_iiiLiiisE : Type := List (R_iiiLiiisE)
abbrev T_iiLiEiiisLiE : RT := (.cons (.int .i64) (.cons (.int .i64) (.cons (.sl T_i) (.cons (.int .i64) (.cons (.int .i64) (.cons (.int .i64) (.cons .str (.cons (.sl T_i) .nil))))))))
abbrev R_iiLiEiiisLiE : Type := Int × Int × L_i × Int × Int × Int × ByteArray × L_i × Unit
abbrev L_iiLiEiiisLiE : Type := List (R_iiLiEiiisLiE)
abbrev T_ibiiLiELiiisELiELsEiiiiiiiiiLiEiiiLiELiiiLiiisEELiiLiEiiisLiEE : RT := (.cons (.int .i64) (.cons .bool (.cons (.int .i64) (.cons (.int .i64) (.cons (.sl T_i) (.cons (.sl T_iiis) (.cons (.sl T_i) (.cons (.sl T_s) (.cons (.int .i64) (.cons (.int .i64) (.cons (.int .i64) (.cons (.int .i64) (.cons (.int .i64) (.cons (.int .i64) (.cons (.int .i64) (.cons (.int .i64) (.cons (.int .i64) (.cons (.sl T_i) (.cons (.int .i64) (.cons (.int .i64) (.cons (.int .i64) (.cons (.sl T_i) (.cons (.sl T_iiiLiiisE) (.cons (.sl T_iiLiEiiisLiE) .nil))))))))))))))))))))))))
abbrev R_ibiiLiELiiisELiELsEiiiiiiiiiLiEiiiLiELiiiLiiisEELiiLiEiiisLiEE : Type := Int × Bool × Int × Int × L_i × L_iiis × L_i × L_s × Int × Int × Int × Int × Int × Int × Int × Int × Int × L_i × Int × Int × Int × L_i × L_iiiLiiisE × L_iiLiEiiisLiE × Unit
abbrev L_ibiiLiELiiisELiELsEiiiiiiiiiLiEiiiLiELiiiLiiisEELiiLiEiiisLiEE : Type := List (R_ibiiLiELiiisELiELsEiiiiiiiiiLiEiiiLiELiiiLiiisEELiiLiEiiisLiEE)
abbrev T_iiiiiisiiiiiLiEiiiLiiisE : RT := (.cons (.int .i64) (.cons (.int .i64) (.cons (.int .i64) (.cons (.int .i64) (.cons (.int .i64) (.cons (.int .i64) (.cons .str (.cons (.int .i64) (.cons (.int .i64) (.cons (.int .i64) (.cons (.int .i64) (.cons (.int .i64) (.cons (.sl T_i) (.cons (.int .i64) (.cons (.int .i64) (.cons (.int .i64) (.cons (.sl T_iiis) .nil)))))))))))))))))
abbrev R_iiiiiisiiiiiLiEiiiLiiisE : Type := Int × Int × Int × Int × Int × Int × ByteArray × Int × Int × Int × Int × Int × L_i × Int × Int × Int × L_iiis × Unit
abbrev L_iiiiiisiiiiiLiEiiiLiiisE : Type := List (R_iiiiiisiiiiiLiEiiiLiiisE)
abbrev T_LiiisE : RT := (.cons (.sl T_iiis) .nil)
abbrev T_LiE : RT := (.cons (.sl T_i) .nil)
abbrev T_iiiis : RT := (.cons (.int .i64) (.cons (.int .i64) (.cons (.int .i64) (.cons (.int .i64) (.cons .str .nil)))))
abbrev R_iiiis : Type := Int × Int × Int × Int × ByteArray × Unit
abbrev L_iiiis : Type := List (R_iiiis)
abbrev T_b : RT := (.cons .bool .nil)
abbrev T_Lku8E : RT := (.cons (.sl T_ku8) .nil)
abbrev T_LiLiEE : RT := (.cons (.sl T_iLiE) .nil)
abbrev T_LibiiLiELiiisELiELsEiiiiiiiiiLiEiiiLiELiiiLiiisEELiiLiEiiisLiEEE : RT := (.cons (.sl T_ibiiLiELiiisELiELsEiiiiiiiiiLiEiiiLiELiiiLiiisEELiiLiEiiisLiEE) .nil)
abbrev T_LiiiiiisiiiiiLiEiiiLiiisEE : RT := (.cons (.sl T_iiiiiisiiiiiLiEiiiLiiisE) .nil)
abbrev T_LiiLiEiiisLiEE : RT := (.cons (.sl T_iiLiEiiisLiE) .nil)
abbrev T_LiLiEELibiiLiELiiisELiELsEiiiiiiiiiLiEiiiLiELiiiLiiisEELiiLiEiiisLiEEELiiiiiisiiiiiLiEiiiLiiisEELiiLiEiiisLiEE : RT := (.cons (.sl T_iLiE) (.cons (.sl T_ibiiLiELiiisELiELsEiiiiiiiiiLiEiiiLiELiiiLiiisEELiiLiEiiisLiEE) (.cons (.sl T_iiiiiisiiiiiLiEiiiLiiisE) (.cons (.sl T_iiLiEiiisLiE) .nil))))
abbrev T_LiiiisE : RT := (.cons (.sl T_iiiis) .nil)
abbrev T_LsE : RT := (.cons (.sl T_s) .nil)
abbrev T_iiiiiLiE : RT := (.cons (.int .i64) (.cons (.int .i64) (.cons (.int .i64) (.cons (.int .i64) (.cons (.int .i64) (.cons (.sl T_i) .nil))))))
abbrev T_iiLiELiiisELiELsEiiiiiiiiiLiE : RT := (.cons (.int .i64) (.cons (.int .i64) (.cons (.sl T_i) (.cons (.sl T_iiis) (.cons (.sl T_i) (.cons (.sl T_s) (.cons (.int .i64) (.cons (.int .i64) (.cons (.int .i64) (.cons (.int .i64) (.cons (.int .i64) (.cons (.int .i64) (.cons (.int .i64) (.cons (.int .i64) (.cons (.int .i64) (.cons (.sl T_i) .nil))))))))))))))))
abbrev T_LiiiLiiisEE : RT := (.cons (.sl T_iiiLiiisE) .nil)
abbrev T_LLiiisEE : RT := (.cons (.sl T_LiiisE) .nil)
abbrev T_Lku8Eii : RT := (.cons (.sl T_ku8) (.cons (.int .i64) (.cons (.int .i64) .nil)))
abbrev R_Lku8Eii : Type := L_ku8 × Int × Int × Unit
abbrev U1 : Type := Int × L_ku8 × Int × Int × Unit
abbrev U2 : Type := Bool × L_ku8 × Int × Int × Unit
abbrev U3 : Type := Int × L_i × L_ku8 × Int × Int × Unit
abbrev U5 : Type := L_iLiE × L_ku8 × Int × Int × Unit
abbrev U6 : Type := Int × Bool × Int × Int × L_i × L_iiis × L_i × L_s × Int × Int × Int × Int × Int × Int × Int × Int × Int × L_i × Int × Int × Int × L_i × L_iiiLiiisE × L_iiLiEiiisLiE × Bool × Unit
abbrev U18 : Type := L_iLiE × L_ibiiLiELiiisELiELsEiiiiiiiiiLiEiiiLiELiiiLiiisEELiiLiEiiisLiEE × L_iiiiiisiiiiiLiEiiiLiiisE × L_iiLiEiiisLiE × Bool × Unit
abbrev U20 : Type := L_iLiE × L_ibiiLiELiiisELiELsEiiiiiiiiiLiEiiiLiELiiiLiiisEELiiLiEiiisLiEE × L_iiiiiisiiiiiLiEiiiLiiisE × L_iiLiEiiisLiE × L_i × Bool × Unit
abbrev U21 : Type := L_ku8 × Int × Int × L_iLiE × Int × Int × L_i × Int × Unit
abbrev U22 : Type := L_ku8 × Int × Int × L_iLiE × Int × Int × L_i × Unit
abbrev U23 : Type := L_ku8 × Int × Int × L_iLiE × Int × Unit
abbrev U24 : Type := L_ku8 × Int × Int × L_iLiE × Unit
abbrev U25 : Type := L_ku8 × Int × Int × Int × L_i × Int × L_i × Int × Unit
abbrev U26 : Type := L_ku8 × Int × Int × Int × L_i × Int × L_i × Unit
abbrev U27 : Type := Int × L_i × L_i × Int × Int × Unit
abbrev U28 : Type := L_iLiE × L_iLiE × Int × Int × Unit
abbrev U29 : Type := L_iLiE × L_ibiiLiELiiisELiELsEiiiiiiiiiLiEiiiLiELiiiLiiisEELiiLiEiiisLiEE × L_iiiiiisiiiiiLiEiiiLiiisE × L_iiLiEiiisLiE × L_iLiE × L_ibiiLiELiiisELiELsEiiiiiiiiiLiEiiiLiELiiiLiiisEELiiLiEiiisLiEE × L_iiiiiisiiiiiLiEiiiLiiisE × L_iiLiEiiisLiE × L_iLiE × Int × Int × Unit
abbrev U30 : Type := L_iLiE × L_ibiiLiELiiisELiELsEiiiiiiiiiLiEiiiLiELiiiLiiisEELiiLiEiiisLiEE × L_iiiiiisiiiiiLiEiiiLiiisE × L_iiLiEiiisLiE × L_iLiE × L_ibiiLiELiiisELiELsEiiiiiiiiiLiEiiiLiELiiiLiiisEELiiLiEiiisLiEE × L_iiiiiisiiiiiLiEiiiLiiisE × L_iiLiEiiisLiE × Unit
abbrev U31 : Type := L_iLiE × L_ibiiLiELiiisELiELsEiiiiiiiiiLiEiiiLiELiiiLiiisEELiiLiEiiisLiEE × L_iiiiiisiiiiiLiEiiiLiiisE × L_iiLiEiiisLiE × L_iLiE × L_ibiiLiELiiisELiELsEiiiiiiiiiLiEiiiLiELiiiLiiisEELiiLiEiiisLiEE × L_iiiiiisiiiiiLiEiiiLiiisE × L_iiLiEiiisLiE × Int × Unit
abbrev U32 : Type := Int × L_i × Int × Unit
abbrev U33 : Type := L_iLiE × L_iLiE × Int × Unit
abbrev U67 : Type := L_iiiis × L_iLiE × L_ibiiLiELiiisELiELsEiiiiiiiiiLiEiiiLiELiiiLiiisEELiiLiEiiisLiEE × L_iiiiiisiiiiiLiEiiiLiiisE × L_iiLiEiiisLiE × L_iLiE × L_ibiiLiELiiisELiELsEiiiiiiiiiLiEiiiLiELiiiLiiisEELiiLiEiiisLiEE × L_iiiiiisiiiiiLiEiiiLiiisE × L_iiLiEiiisLiE × L_iiiis × Int × Int × Unit
abbrev U68 : Type := L_iiiis × L_iLiE × L_ibiiLiELiiisELiELsEiiiiiiiiiLiEiiiLiELiiiLiiisEELiiLiEiiisLiEE × L_iiiiiisiiiiiLiEiiiLiiisE × L_iiLiEiiisLiE × L_iLiE × L_ibiiLiELiiisELiELsEiiiiiiiiiLiEiiiLiELiiiLiiisEELiiLiEiiisLiEE × L_iiiiiisiiiiiLiEiiiLiiisE × L_iiLiEiiisLiE × Unit
abbrev U69 : Type := L_iLiE × L_ibiiLiELiiisELiELsEiiiiiiiiiLiEiiiLiELiiiLiiisEELiiLiEiiisLiEE × L_iiiiiisiiiiiLiEiiiLiiisE × L_iiLiEiiisLiE × L_iLiE × L_ibiiLiELiiisELiELsEiiiiiiiiiLiEiiiLiELiiiLiiisEELiiLiEiiisLiEE × L_iiiiiisiiiiiLiEiiiLiiisE × L_iiLiEiiisLiE × L_i × L_iiiis × Int × Int × Unit
abbrev U70 : Type := L_iLiE × L_ibiiLiELiiisELiELsEiiiiiiiiiLiEiiiLiELiiiLiiisEELiiLiEiiisLiEE × L_iiiiiisiiiiiLiEiiiLiiisE × L_iiLiEiiisLiE × L_iLiE × L_ibiiLiELiiisELiELsEiiiiiiiiiLiEiiiLiELiiiLiiisEELiiLiEiiisLiEE × L_iiiiiisiiiiiLiEiiiLiiisE × L_iiLiEiiisLiE × L_i × Unit
def po1 : List OP := [.shr T_ku8, .int .i64, .int .i64]
def po2 : List OP := [.int .i64, .own T_i]
def po3 : List OP := [.int .i64, .shr T_i]
def po4 : List OP := [.int .i64, .bool, .int .i64, .int .i64, .own T_i, .own T_iiis, .own T_i, .own T_s, .int .i64, .int .i64, .int .i64, .int .i64, .int .i64, .int .i64, .int .i64, .int .i64, .int .i64, .own T_i, .int .i64, .int .i64, .int .i64, .own T_i, .own T_iiiLiiisE .dp, .own T_iiLiEiiisLiE .dp]
def po5 : List OP := [.own T_iLiE, .own T_ibiiLiELiiisELiELsEiiiiiiiiiLiEiiiLiELiiiLiiisEELiiLiEiiisLiEE, .own T_iiiiiisiiiiiLiEiiiLiiisE, .own T_iiLiEiiisLiE]
def po6 : List OP := [.int .i64, .int .i64, .int .i64, .int .i64, .str]
def po30 : List OP := [.shr T_iiiis]
def po31 : List OP := [.own T_iLiE .dp, .own T_ibiiLiELiiisELiELsEiiiiiiiiiLiEiiiLiELiiiLiiisEELiiLiEiiisLiEE .dp, .own T_iiiiiisiiiiiLiEiiiLiiisE .dp, .own T_iiLiEiiisLiE .dp]
def po32 : List OP := [.shr T_iLiE, .shr T_ibiiLiELiiisELiELsEiiiiiiiiiLiEiiiLiELiiiLiiisEELiiLiEiiisLiEE, .shr T_iiiiiisiiiiiLiEiiiLiiisE, .shr T_iiLiEiiisLiE]
def tr : Tr := (.node (.node (.node (.node (.node .leaf 3 { size := 1, agg := false, places := [], row := some T_i, elem := none, kind := some (.int .i64), ones := [], eq := false } .leaf) 4 { size := 1, agg := false, places := [], row := some T_b, elem := none, kind := some .bool, ones := [], eq := false } (.node .leaf 5 { size := 1, agg := false, places := [], row := some T_ku8, elem := none, kind := some (.int .u8), ones := [], eq := false } .leaf)) 9 { size := 1, agg := false, places := [], row := some T_s, elem := none, kind := some .str, ones := [], eq := false } (.node (.node .leaf 22 { size := 1, agg := false, places := [], row := some T_Lku8E, elem := some (T_ku8, 1), kind := none, ones := [], eq := false } .leaf) 24 { size := 1, agg := false, places := [], row := some T_LiLiEE, elem := some (T_iLiE, 32), kind := none, ones := [], eq := false, dp := true } .leaf)) 26 { size := 1, agg := false, places := [], row := some T_LibiiLiELiiisELiELsEiiiiiiiiiLiEiiiLiELiiiLiiisEELiiLiEiiisLiEEE, elem := some (T_ibiiLiELiiisELiELsEiiiiiiiiiLiEiiiLiELiiiLiiisEELiiLiEiiisLiEE, 320), kind := none, ones := [], eq := false, dp := true } (.node (.node (.node .leaf 27 { size := 1, agg := false, places := [], row := some T_LiiiiiisiiiiiLiEiiiLiiisEE, elem := some (T_iiiiiisiiiiiLiEiiiLiiisE, 176), kind := none, ones := [], eq := false, dp := true } .leaf) 28 { size := 1, agg := false, places := [], row := some T_LiiLiEiiisLiEE, elem := some (T_iiLiEiiisLiE, 104), kind := none, ones := [], eq := false, dp := true } (.node .leaf 30 { size := 4, agg := true, places := [(0, 1), (1, 1), (2, 1), (3, 1)], row := some T_LiLiEELibiiLiELiiisELiELsEiiiiiiiiiLiEiiiLiELiiiLiiisEELiiLiEiiisLiEEELiiiiiisiiiiiLiEiiiLiiisEELiiLiEiiisLiEE, elem := none, kind := none, ones := [0, 1, 2, 3], eq := false } .leaf)) 33 { size := 1, agg := false, places := [], row := some T_LiE, elem := some (T_i, 8), kind := none, ones := [], eq := false } (.node (.node .leaf 36 { size := 1, agg := false, places := [], row := some T_LiiiisE, elem := some (T_iiiis, 48), kind := none, ones := [], eq := false } .leaf) 39 { size := 2, agg := true, places := [(0, 1), (1, 1)], row := some T_iLiE, elem := none, kind := none, ones := [0, 1], eq := false } .leaf))) 40 { size := 1, agg := false, places := [], row := some T_LiiisE, elem := some (T_iiis, 40), kind := none, ones := [], eq := false } (.node (.node (.node (.node .leaf 41 { size := 1, agg := false, places := [], row := some T_LsE, elem := some (T_s, 16), kind := none, ones := [], eq := false } .leaf) 43 { size := 6, agg := true, places := [(0, 1), (1, 1), (2, 1), (3, 1), (4, 1), (5, 1)], row := some T_iiiiiLiE, elem := none, kind := none, ones := [0, 1, 2, 3, 4, 5], eq := false } (.node .leaf 45 { size := 16, agg := true, places := [(0, 1), (1, 2), (3, 1), (4, 1), (5, 1), (6, 1), (7, 1), (8, 1), (9, 1), (10, 6)], row := some T_iiLiELiiisELiELsEiiiiiiiiiLiE, elem := none, kind := none, ones := [0, 2, 3, 4, 5, 6, 7, 8], eq := false } .leaf)) 46 { size := 1, agg := false, places := [], row := some T_LiiiLiiisEE, elem := some (T_iiiLiiisE, 48), kind := none, ones := [], eq := false, dp := true } (.node (.node .leaf 48 { size := 24, agg := true, places := [(0, 1), (1, 1), (2, 16), (18, 1), (19, 1), (20, 2), (22, 1), (23, 1)], row := some T_ibiiLiELiiisELiELsEiiiiiiiiiLiEiiiLiELiiiLiiisEELiiLiEiiisLiEE, elem := none, kind := none, ones := [0, 1, 3, 4, 6, 7], eq := false } .leaf) 55 { size := 1, agg := false, places := [], row := some T_LLiiisEE, elem := some (T_LiiisE, 24), kind := none, ones := [], eq := false, dp := true } .leaf)) 85 { size := 4, agg := true, places := [(0, 1), (1, 1), (2, 1), (3, 1)], row := some T_iiis, elem := none, kind := none, ones := [0, 1, 2, 3], eq := true } (.node (.node (.node .leaf 112 { size := 8, agg := true, places := [(0, 1), (1, 2), (3, 4), (7, 1)], row := some T_iiLiEiiisLiE, elem := none, kind := none, ones := [0, 3], eq := false } .leaf) 114 { size := 5, agg := true, places := [(0, 1), (1, 1), (2, 1), (3, 1), (4, 1)], row := some T_iiiis, elem := none, kind := none, ones := [0, 1, 2, 3, 4], eq := true } .leaf) 195 { size := 3, agg := true, places := [(0, 1), (1, 1), (2, 1)], row := some T_Lku8Eii, elem := none, kind := none, ones := [0, 1, 2], eq := false } (.node (.node .leaf 251 { size := 4, agg := true, places := [(0, 1), (1, 1), (2, 1), (3, 1)], row := some T_iiiLiiisE, elem := none, kind := none, ones := [0, 1, 2, 3], eq := false } .leaf) 253 { size := 17, agg := true, places := [(0, 1), (1, 1), (2, 1), (3, 4), (7, 6), (13, 4)], row := some T_iiiiiisiiiiiLiEiiiLiiisE, elem := none, kind := none, ones := [0, 1, 2], eq := false } .leaf))))
theorem tr_ok : tr.all (recOk Tryz.prog) = true := by kernel_rfl
theorem eq_ok : EqOk Tryz.prog (tabOf tr) := eqs_ok (by kernel_rfl)
theorem mixed_ok : Tryz.prog.follows .mixedOrders = true := by kernel_rfl
noncomputable def TK_ : TK Tryz.prog := ⟨tr, tr_ok, eq_ok, mixed_ok⟩
def tr0 : Tr := tr.flat
theorem tr0_ok : tr0.all (recOk Tryz.prog) = true := by kernel_rfl
theorem eq_ok0 : EqOk Tryz.prog (tabOf tr0) := eqs_ok (by kernel_rfl)
noncomputable def TK_0 : TK Tryz.prog := ⟨tr0, tr0_ok, eq_ok0, mixed_ok⟩
theorem laid_ok : laidOutB Tryz.prog = true := by kernel_rfl
theorem own_ok : ownKnob Tryz.prog.godebug = none := by kernel_rfl
def N.first : N → St
 | .done st => st
 | .fail => []
 | .br _ t _ => t.first
 | .row _ _ _ => []
end Go.TM
