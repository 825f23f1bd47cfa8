/- What the functions know of the types, checked against the program. -/
import Derived.Test.YtiljcjnnhkidbaaGreatLibWide
import Derived.Test.YtiljcjnnhkidbaaGreatProg
set_option linter.unusedSimpArgs false
set_option linter.unusedVariables false
namespace Go.TM
open Go Go.RowKit Go.Proofs
abbrev T_iiis : RT := (.cons (.int .i64) (.cons (.int .i64) (.cons (.int .i64) (.cons .str .nil))))
abbrev R_iiis : Type := Int × Int × Int × ByteArray × Unit
abbrev L_iiis : Type := List (R_iiis)
abbrev T_i : RT := (.cons (.int .i64) .nil)
abbrev L_i : Type := List (Int × Unit)
abbrev T_s : RT := (.cons .str .nil)
abbrev L_s : Type := List (ByteArray × Unit)
abbrev T_iiiLiiisE : RT := (.cons (.int .i64) (.cons (.int .i64) (.cons (.int .i64) (.cons (.sl T_iiis) .nil))))
abbrev R_iiiLiiisE : Type := Int × Int × Int × L_iiis × Unit
abbrev L_iiiLiiisE : Type := List (R_iiiLiiisE)
abbrev T_iiLiEiiisLiE : RT := (.cons (.int .i64) (.cons (.int .i64) (.cons (.sl T_i) (.cons (.int .i64) (.cons (.int .i64) (.cons (.int .i64) (.cons .str (.cons (.sl T_i) .nil))))))))
abbrev R_iiLiEiiisLiE : Type := Int × Int × L_i × Int × Int × Int × ByteArray × L_i × Unit
abbrev L_iiLiEiiisLiE : Type := List (R_iiLiEiiisLiE)
abbrev T_iLiE : RT := (.cons (.int .i64) (.cons (.sl T_i) .nil))
abbrev T_iiiiiLiE : RT := (.cons (.int .i64) (.cons (.int .i64) (.cons (.int .i64) (.cons (.int .i64) (.cons (.int .i64) (.cons (.sl T_i) .nil))))))
abbrev R_iiiiiLiE : Type := Int × Int × Int × Int × Int × L_i × Unit
abbrev T_iiLiELiiisELiELsEiiiiiiiiiLiE : RT := (.cons (.int .i64) (.cons (.int .i64) (.cons (.sl T_i) (.cons (.sl T_iiis) (.cons (.sl T_i) (.cons (.sl T_s) (.cons (.int .i64) (.cons (.int .i64) (.cons (.int .i64) (.cons (.int .i64) (.cons (.int .i64) (.cons (.int .i64) (.cons (.int .i64) (.cons (.int .i64) (.cons (.int .i64) (.cons (.sl T_i) .nil))))))))))))))))
abbrev R_iiLiELiiisELiELsEiiiiiiiiiLiE : Type := Int × Int × L_i × L_iiis × L_i × L_s × Int × Int × Int × Int × Int × Int × Int × Int × Int × L_i × Unit
abbrev T_ibiiLiELiiisELiELsEiiiiiiiiiLiEiiiLiELiiiLiiisEELiiLiEiiisLiEE : RT := (.cons (.int .i64) (.cons .bool (.cons (.int .i64) (.cons (.int .i64) (.cons (.sl T_i) (.cons (.sl T_iiis) (.cons (.sl T_i) (.cons (.sl T_s) (.cons (.int .i64) (.cons (.int .i64) (.cons (.int .i64) (.cons (.int .i64) (.cons (.int .i64) (.cons (.int .i64) (.cons (.int .i64) (.cons (.int .i64) (.cons (.int .i64) (.cons (.sl T_i) (.cons (.int .i64) (.cons (.int .i64) (.cons (.int .i64) (.cons (.sl T_i) (.cons (.sl T_iiiLiiisE) (.cons (.sl T_iiLiEiiisLiE) .nil))))))))))))))))))))))))
abbrev R_ibiiLiELiiisELiELsEiiiiiiiiiLiEiiiLiELiiiLiiisEELiiLiEiiisLiEE : Type := Int × Bool × Int × Int × L_i × L_iiis × L_i × L_s × Int × Int × Int × Int × Int × Int × Int × Int × Int × L_i × Int × Int × Int × L_i × L_iiiLiiisE × L_iiLiEiiisLiE × Unit
abbrev T_b : RT := (.cons .bool .nil)
abbrev T_ku8 : RT := (.cons (.int .u8) .nil)
abbrev T_LiE : RT := (.cons (.sl T_i) .nil)
abbrev T_LiiisE : RT := (.cons (.sl T_iiis) .nil)
abbrev T_LsE : RT := (.cons (.sl T_s) .nil)
abbrev T_LiiiLiiisEE : RT := (.cons (.sl T_iiiLiiisE) .nil)
abbrev T_LiiLiEiiisLiEE : RT := (.cons (.sl T_iiLiEiiisLiE) .nil)
abbrev T_Lku8E : RT := (.cons (.sl T_ku8) .nil)
abbrev U6 : Type := Int × Int × Int × ByteArray × Bool × Unit
abbrev U7 : Type := Int × Int × L_i × L_iiis × L_i × L_s × Int × Int × Int × Int × Int × Int × Int × Int × Int × L_i × L_iiis × Unit
abbrev U8 : Type := Int × Bool × Int × Int × L_i × L_iiis × L_i × L_s × Int × Int × Int × Int × Int × Int × Int × Int × Int × L_i × Int × Int × Int × L_i × L_iiiLiiisE × L_iiLiEiiisLiE × Unit
abbrev U9 : Type := Bool × Int × Bool × Int × Int × L_i × L_iiis × L_i × L_s × Int × Int × Int × Int × Int × Int × Int × Int × Int × L_i × Int × Int × Int × L_i × L_iiiLiiisE × L_iiLiEiiisLiE × Unit
abbrev U10 : Type := Int × L_i × L_iiis × L_i × L_s × L_i × Unit
abbrev U11 : Type := Int × L_i × L_iiis × L_i × L_s × L_i × L_i × L_iiiLiiisE × L_iiLiEiiisLiE × Unit
abbrev U12 : Type := L_iiis × Int × Int × Unit
abbrev U13 : Type := L_s × Int × Int × Unit
abbrev U14 : Type := L_iiiLiiisE × Int × Int × Unit
abbrev U15 : Type := L_iiLiEiiisLiE × Int × Int × Unit
abbrev U16 : Type := L_i × L_i × Int × Unit
abbrev U17 : Type := L_iiis × L_iiis × Int × Unit
abbrev U18 : Type := L_s × L_s × Int × Unit
abbrev U19 : Type := L_iiiLiiisE × L_iiiLiiisE × Int × Unit
abbrev U20 : Type := L_iiLiEiiisLiE × L_iiLiEiiisLiE × Int × Unit
abbrev U21 : Type := Int × L_i × Int × Unit
abbrev U22 : Type := L_i × Int × Int × Unit
abbrev U23 : Type := L_i × L_s × Int × Unit
abbrev U24 : Type := L_iiis × Int × Int × Int × Int × ByteArray × Int × Unit
abbrev U25 : Type := Int × Int × Int × Int × Int × L_i × Int × Unit
abbrev U26 : Type := Int × Bool × Int × Int × L_i × L_iiis × L_i × L_s × Int × Int × Int × Int × Int × Int × Int × Int × Int × L_i × Int × Int × Int × L_i × L_iiiLiiisE × L_iiLiEiiisLiE × Int × Unit
abbrev U27 : Type := L_iiis × Int × Int × Int × ByteArray × L_iiis × L_iiis × Int × Unit
abbrev U28 : Type := L_iiis × Int × Int × Int × ByteArray × L_iiis × Unit
abbrev U29 : Type := L_iiis × Int × Int × Int × ByteArray × L_iiis × Int × Unit
abbrev U30 : Type := Int × Int × L_i × L_iiis × L_i × L_s × Int × Int × Int × Int × Int × Int × Int × Int × Int × L_i × Int × Int × L_i × L_iiis × L_i × L_s × Int × Int × Int × Int × Int × Int × Int × Int × Int × L_i × Int × Int × L_i × L_iiis × L_i × L_s × Int × Int × Int × Int × Int × Int × Int × Int × Int × L_i × L_iiis × Int × Unit
abbrev U31 : Type := Int × Int × L_i × L_iiis × L_i × L_s × Int × Int × Int × Int × Int × Int × Int × Int × Int × L_i × Int × Int × L_i × L_iiis × L_i × L_s × Int × Int × Int × Int × Int × Int × Int × Int × Int × L_i × L_iiis × Unit
abbrev U32 : Type := Int × Bool × Int × Int × L_i × L_iiis × L_i × L_s × Int × Int × Int × Int × Int × Int × Int × Int × Int × L_i × Int × Int × Int × L_i × L_iiiLiiisE × L_iiLiEiiisLiE × Int × Int × L_i × L_iiis × L_i × L_s × Int × Int × Int × Int × Int × Int × Int × Int × Int × L_i × L_iiis × Int × Unit
abbrev U33 : Type := L_iiiLiiisE × L_iiiLiiisE × Int × Int × Unit
abbrev U34 : Type := L_iiLiEiiisLiE × L_iiLiEiiisLiE × Int × Int × Unit
abbrev U35 : Type := L_i × Int × Int × Int × Unit
abbrev U36 : Type := Int × L_i × L_i × Int × Int × Unit
abbrev U37 : Type := L_iiis × L_iiis × Int × Int × Unit
abbrev U38 : Type := Int × Int × Int × Int × ByteArray × L_iiis × Int × Int × Unit
abbrev U39 : Type := Int × Int × Int × Int × Int × L_i × L_i × Int × Int × Unit
abbrev U40 : Type := Int × Int × L_i × L_iiis × L_i × L_s × Int × Int × Int × Int × Int × Int × Int × Int × Int × L_i × L_i × Int × Int × Unit
abbrev U41 : Type := Int × Bool × Int × Int × L_i × L_iiis × L_i × L_s × Int × Int × Int × Int × Int × Int × Int × Int × Int × L_i × Int × Int × Int × L_i × L_iiiLiiisE × L_iiLiEiiisLiE × L_iiiLiiisE × Int × Int × Unit
abbrev U42 : Type := Int × Bool × Int × Int × L_i × L_iiis × L_i × L_s × Int × Int × Int × Int × Int × Int × Int × Int × Int × L_i × Int × Int × Int × L_i × L_iiiLiiisE × L_iiLiEiiisLiE × Bool × Unit
abbrev U43 : Type := L_iiis × Int × Int × Int × ByteArray × Int × Unit
abbrev U44 : Type := Int × Int × L_i × L_iiis × L_i × L_s × Int × Int × Int × Int × Int × Int × Int × Int × Int × L_i × Int × Int × L_i × L_iiis × L_i × L_s × Int × Int × Int × Int × Int × Int × Int × Int × Int × L_i × Int × Int × L_i × L_iiis × L_i × L_s × Int × Int × Int × Int × Int × Int × Int × Int × Int × L_i × L_iiis × Unit
abbrev U45 : Type := Int × Bool × Int × Int × L_i × L_iiis × L_i × L_s × Int × Int × Int × Int × Int × Int × Int × Int × Int × L_i × Int × Int × Int × L_i × L_iiiLiiisE × L_iiLiEiiisLiE × L_iiis × Int × Int × Unit
def po1 : List OP := [.int .i64, .shr T_i]
def po2 : List OP := [.int .i64, .int .i64, .int .i64, .str]
def po3 : List OP := [.int .i64, .int .i64, .int .i64, .int .i64, .int .i64, .shr T_i]
def po4 : List OP := [.int .i64, .int .i64, .shr T_i, .shr T_iiis, .shr T_i, .shr T_s, .int .i64, .int .i64, .int .i64, .int .i64, .int .i64, .int .i64, .int .i64, .int .i64, .int .i64, .shr T_i]
def po5 : List OP := [.int .i64, .int .i64, .int .i64, .shr T_iiis]
def po6 : List OP := [.shr T_iiiLiiisE]
def po7 : List OP := [.int .i64, .int .i64, .shr T_i, .int .i64, .int .i64, .int .i64, .str, .shr T_i]
def po8 : List OP := [.shr T_iiLiEiiisLiE]
def po9 : List OP := [.int .i64, .bool, .int .i64, .int .i64, .shr T_i, .shr T_iiis, .shr T_i, .shr T_s, .int .i64, .int .i64, .int .i64, .int .i64, .int .i64, .int .i64, .int .i64, .int .i64, .int .i64, .shr T_i, .int .i64, .int .i64, .int .i64, .shr T_i, .shr T_iiiLiiisE, .shr T_iiLiEiiisLiE]
def po10 : List OP := [.int .i64, .own T_i]
def po11 : List OP := [.int .i64, .int .i64, .int .i64, .int .i64, .int .i64, .own T_i]
def po12 : List OP := [.int .i64, .int .i64, .own T_i, .own T_iiis, .own T_i, .own T_s, .int .i64, .int .i64, .int .i64, .int .i64, .int .i64, .int .i64, .int .i64, .int .i64, .int .i64, .own T_i]
def po13 : List OP := [.int .i64, .int .i64, .int .i64, .own T_iiis]
def po14 : List OP := [.own T_iiiLiiisE .dp]
def po15 : List OP := [.int .i64, .int .i64, .own T_i, .int .i64, .int .i64, .int .i64, .str, .own T_i]
def po16 : List OP := [.own T_iiLiEiiisLiE .dp]
def po17 : List OP := [.int .i64, .bool, .int .i64, .int .i64, .own T_i, .own T_iiis, .own T_i, .own T_s, .int .i64, .int .i64, .int .i64, .int .i64, .int .i64, .int .i64, .int .i64, .int .i64, .int .i64, .own T_i, .int .i64, .int .i64, .int .i64, .own T_i, .own T_iiiLiiisE .dp, .own T_iiLiEiiisLiE .dp]
def po18 : List OP := [.int .i64, .bool, .int .i64, .int .i64, .shr T_i, .shr T_iiis, .shr T_i, .shr T_s, .int .i64, .int .i64, .int .i64, .int .i64, .int .i64, .int .i64, .int .i64, .int .i64, .int .i64, .shr T_i, .int .i64, .int .i64, .int .i64, .shr T_i, .shr T_iiiLiiisE, .own T_iiLiEiiisLiE .dp]
def tr : Tr := (.node (.node (.node (.node (.node .leaf 3 { size := 1, agg := false, places := [], row := some T_i, elem := none, kind := some (.int .i64), ones := [], eq := false } .leaf) 4 { size := 1, agg := false, places := [], row := some T_b, elem := none, kind := some .bool, ones := [], eq := false } (.node .leaf 5 { size := 1, agg := false, places := [], row := some T_ku8, elem := none, kind := some (.int .u8), ones := [], eq := false } .leaf)) 9 { size := 1, agg := false, places := [], row := some T_s, elem := none, kind := some .str, ones := [], eq := false } (.node (.node .leaf 22 { size := 1, agg := false, places := [], row := some T_LiE, elem := some (T_i, 8), kind := none, ones := [], eq := false } .leaf) 24 { size := 2, agg := true, places := [(0, 1), (1, 1)], row := some T_iLiE, elem := none, kind := none, ones := [0, 1], eq := false } .leaf)) 25 { size := 1, agg := false, places := [], row := some T_LiiisE, elem := some (T_iiis, 40), kind := none, ones := [], eq := false } (.node (.node (.node .leaf 26 { size := 1, agg := false, places := [], row := some T_LsE, elem := some (T_s, 16), kind := none, ones := [], eq := false } .leaf) 28 { size := 6, agg := true, places := [(0, 1), (1, 1), (2, 1), (3, 1), (4, 1), (5, 1)], row := some T_iiiiiLiE, elem := none, kind := none, ones := [0, 1, 2, 3, 4, 5], eq := false } (.node .leaf 30 { size := 16, agg := true, places := [(0, 1), (1, 2), (3, 1), (4, 1), (5, 1), (6, 1), (7, 1), (8, 1), (9, 1), (10, 6)], row := some T_iiLiELiiisELiELsEiiiiiiiiiLiE, elem := none, kind := none, ones := [0, 2, 3, 4, 5, 6, 7, 8], eq := false } .leaf)) 31 { size := 1, agg := false, places := [], row := some T_LiiiLiiisEE, elem := some (T_iiiLiiisE, 48), kind := none, ones := [], eq := false } (.node (.node .leaf 32 { size := 1, agg := false, places := [], row := some T_LiiLiEiiisLiEE, elem := some (T_iiLiEiiisLiE, 104), kind := none, ones := [], eq := false } .leaf) 34 { size := 24, agg := true, places := [(0, 1), (1, 1), (2, 16), (18, 1), (19, 1), (20, 2), (22, 1), (23, 1)], row := some T_ibiiLiELiiisELiELsEiiiiiiiiiLiEiiiLiELiiiLiiisEELiiLiEiiisLiEE, elem := none, kind := none, ones := [0, 1, 3, 4, 6, 7], eq := false } .leaf))) 37 { size := 2, agg := true, places := [(0, 1), (1, 1)], row := some T_iLiE, elem := none, kind := none, ones := [0, 1], eq := false } (.node (.node (.node (.node .leaf 38 { size := 1, agg := false, places := [], row := some T_LiiisE, elem := some (T_iiis, 40), kind := none, ones := [], eq := false } .leaf) 39 { size := 6, agg := true, places := [(0, 1), (1, 1), (2, 1), (3, 1), (4, 1), (5, 1)], row := some T_iiiiiLiE, elem := none, kind := none, ones := [0, 1, 2, 3, 4, 5], eq := false } (.node .leaf 41 { size := 16, agg := true, places := [(0, 1), (1, 2), (3, 1), (4, 1), (5, 1), (6, 1), (7, 1), (8, 1), (9, 1), (10, 6)], row := some T_iiLiELiiisELiELsEiiiiiiiiiLiE, elem := none, kind := none, ones := [0, 2, 3, 4, 5, 6, 7, 8], eq := false } .leaf)) 42 { size := 1, agg := false, places := [], row := some T_LiiiLiiisEE, elem := some (T_iiiLiiisE, 48), kind := none, ones := [], eq := false, dp := true } (.node (.node .leaf 43 { size := 1, agg := false, places := [], row := some T_LiiLiEiiisLiEE, elem := some (T_iiLiEiiisLiE, 104), kind := none, ones := [], eq := false, dp := true } .leaf) 45 { size := 24, agg := true, places := [(0, 1), (1, 1), (2, 16), (18, 1), (19, 1), (20, 2), (22, 1), (23, 1)], row := some T_ibiiLiELiiisELiELsEiiiiiiiiiLiEiiiLiELiiiLiiisEELiiLiEiiisLiEE, elem := none, kind := none, ones := [0, 1, 3, 4, 6, 7], eq := false } .leaf)) 58 { size := 4, agg := true, places := [(0, 1), (1, 1), (2, 1), (3, 1)], row := some T_iiiLiiisE, elem := none, kind := none, ones := [0, 1, 2, 3], eq := false } (.node (.node (.node .leaf 63 { size := 4, agg := true, places := [(0, 1), (1, 1), (2, 1), (3, 1)], row := some T_iiiLiiisE, elem := none, kind := none, ones := [0, 1, 2, 3], eq := false } .leaf) 78 { size := 4, agg := true, places := [(0, 1), (1, 1), (2, 1), (3, 1)], row := some T_iiis, elem := none, kind := none, ones := [0, 1, 2, 3], eq := true } (.node .leaf 81 { size := 4, agg := true, places := [(0, 1), (1, 1), (2, 1), (3, 1)], row := some T_iiis, elem := none, kind := none, ones := [0, 1, 2, 3], eq := true } .leaf)) 84 { size := 1, agg := false, places := [], row := some T_Lku8E, elem := some (T_ku8, 1), kind := none, ones := [], eq := false } (.node (.node .leaf 101 { size := 8, agg := true, places := [(0, 1), (1, 2), (3, 4), (7, 1)], row := some T_iiLiEiiisLiE, elem := none, kind := none, ones := [0, 3], eq := false } .leaf) 183 { size := 8, agg := true, places := [(0, 1), (1, 2), (3, 4), (7, 1)], row := some T_iiLiEiiisLiE, elem := none, kind := none, ones := [0, 3], eq := false } .leaf))))
theorem tr_ok : tr.all (recOk Tryz.prog) = true := by kernel_rfl
theorem eq_ok : EqOk Tryz.prog (tabOf tr) := eqs_ok (by kernel_rfl)
theorem mixed_ok : Tryz.prog.follows .mixedOrders = true := by kernel_rfl
def TK_ : TK Tryz.prog := ⟨tr, tr_ok, eq_ok, mixed_ok⟩
theorem laid_ok : laidOutB Tryz.prog = true := by kernel_rfl
theorem own_ok : ownKnob Tryz.prog.godebug = none := by kernel_rfl
def N.first : N → St
 | .done st => st
 | .fail => []
 | .br _ t _ => t.first
 | .row _ _ _ => []
end Go.TM
