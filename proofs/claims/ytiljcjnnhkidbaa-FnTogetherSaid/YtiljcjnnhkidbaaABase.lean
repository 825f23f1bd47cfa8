/- What the functions know of the types, checked against the program. -/
import Derived.Test.YtiljcjnnhkidbaaLibWide
import Derived.Test.YtiljcjnnhkidbaaProg
set_option linter.unusedSimpArgs false
set_option linter.unusedVariables false
namespace Go.TM
open Go Go.RowKit Go.Proofs
abbrev T_ku8 : RT := (.cons (.int .u8) .nil)
abbrev L_ku8 : Type := List (Int × Unit)
abbrev T_iiis : RT := (.cons (.int .i64) (.cons (.int .i64) (.cons (.int .i64) (.cons .str .nil))))
abbrev R_iiis : Type := Int × Int × Int × ByteArray × Unit
abbrev L_iiis : Type := List (R_iiis)
abbrev T_i : RT := (.cons (.int .i64) .nil)
abbrev L_i : Type := List (Int × Unit)
abbrev T_iiiLiiisE : RT := (.cons (.int .i64) (.cons (.int .i64) (.cons (.int .i64) (.cons (.sl T_iiis) .nil))))
abbrev R_iiiLiiisE : Type := Int × Int × Int × L_iiis × Unit
abbrev L_iiiLiiisE : Type := List (R_iiiLiiisE)
abbrev T_iLiE : RT := (.cons (.int .i64) (.cons (.sl T_i) .nil))
abbrev R_iLiE : Type := Int × L_i × Unit
abbrev L_iLiE : Type := List (R_iLiE)
abbrev T_s : RT := (.cons .str .nil)
abbrev L_s : Type := List (ByteArray × Unit)
abbrev T_LiiisE : RT := (.cons (.sl T_iiis) .nil)
abbrev L_LiiisE : Type := List (L_iiis × Unit)
abbrev T_LiELiLiEE : RT := (.cons (.sl T_i) (.cons (.sl T_iLiE) .nil))
abbrev R_LiELiLiEE : Type := L_i × L_iLiE × Unit
abbrev L_LiELiLiEE : Type := List (R_LiELiLiEE)
abbrev T_b : RT := (.cons .bool .nil)
abbrev T_Lku8E : RT := (.cons (.sl T_ku8) .nil)
abbrev T_LiE : RT := (.cons (.sl T_i) .nil)
abbrev T_LsE : RT := (.cons (.sl T_s) .nil)
abbrev T_iiiiiLiE : RT := (.cons (.int .i64) (.cons (.int .i64) (.cons (.int .i64) (.cons (.int .i64) (.cons (.int .i64) (.cons (.sl T_i) .nil))))))
abbrev T_iiLiELiiisELiELsEiiiiiiiiiLiE : RT := (.cons (.int .i64) (.cons (.int .i64) (.cons (.sl T_i) (.cons (.sl T_iiis) (.cons (.sl T_i) (.cons (.sl T_s) (.cons (.int .i64) (.cons (.int .i64) (.cons (.int .i64) (.cons (.int .i64) (.cons (.int .i64) (.cons (.int .i64) (.cons (.int .i64) (.cons (.int .i64) (.cons (.int .i64) (.cons (.sl T_i) .nil))))))))))))))))
abbrev T_LiiiLiiisEE : RT := (.cons (.sl T_iiiLiiisE) .nil)
abbrev T_LLiiisEE : RT := (.cons (.sl T_LiiisE) .nil)
abbrev T_Lku8Eii : RT := (.cons (.sl T_ku8) (.cons (.int .i64) (.cons (.int .i64) .nil)))
abbrev R_Lku8Eii : Type := L_ku8 × Int × Int × Unit
abbrev U1 : Type := Int × L_ku8 × Int × Int × Unit
abbrev U2 : Type := Bool × L_ku8 × Int × Int × Unit
abbrev U4 : Type := ByteArray × L_ku8 × Int × Int × Unit
abbrev U5 : Type := Int × Int × Int × ByteArray × L_ku8 × Int × Int × Unit
abbrev U6 : Type := L_iiis × L_ku8 × Int × Int × Unit
abbrev U7 : Type := Int × L_i × L_ku8 × Int × Int × Unit
abbrev U8 : Type := Int × Int × Int × L_iiis × L_ku8 × Int × Int × Unit
abbrev U10 : Type := Int × L_i × L_iiiLiiisE × L_ku8 × Int × Int × Unit
abbrev U11 : Type := Int × Int × Int × L_iiis × Bool × Unit
abbrev U12 : Type := Int × Int × Int × ByteArray × Bool × Unit
abbrev U13 : Type := Int × L_i × L_iiiLiiisE × Unit
abbrev U15 : Type := L_ku8 × Int × Int × Int × L_i × Int × L_i × Int × Unit
abbrev U16 : Type := L_ku8 × Int × Int × Int × L_i × Int × L_i × Unit
abbrev U17 : Type := Int × Bool × ByteArray × Unit
abbrev U18 : Type := L_ku8 × Int × Int × Int × Int × Int × L_iiis × Int × Int × Int × L_iiis × L_iiis × Int × Unit
abbrev U19 : Type := L_ku8 × Int × Int × Int × Int × Int × L_iiis × Int × Int × Int × L_iiis × L_iiis × Unit
abbrev U20 : Type := L_ku8 × Int × Int × Int × Int × Int × L_iiis × Int × Int × Int × L_iiis × Unit
abbrev U21 : Type := L_ku8 × Int × Int × L_iiis × Int × Unit
abbrev U22 : Type := L_ku8 × Int × Int × L_iiis × Unit
abbrev U23 : Type := Int × Int × L_ku8 × Int × Unit
abbrev U24 : Type := L_ku8 × Int × Int × Int × L_i × Int × L_i × L_iiiLiiisE × Int × Unit
abbrev U25 : Type := L_ku8 × Int × Int × Int × L_i × Int × L_i × L_iiiLiiisE × Unit
abbrev U26 : Type := L_iiis × L_iiis × Int × Int × Unit
abbrev U27 : Type := Int × Int × L_i × Int × Int × Int × L_iiis × L_iiiLiiisE × Int × Int × Unit
abbrev U28 : Type := L_i × Int × Int × Int × Unit
abbrev U29 : Type := L_iiiLiiisE × Int × Int × L_i × Int × Int × Int × L_iiis × L_i × L_i × Int × Int × Unit
abbrev U30 : Type := L_iiiLiiisE × Int × Int × L_i × Int × Int × Int × L_iiis × Int × Unit
abbrev U31 : Type := L_i × Int × Int × Unit
abbrev U32 : Type := L_iiiLiiisE × Int × Int × L_i × L_i × Int × Int × Int × L_iiis × Int × Unit
abbrev U33 : Type := L_i × L_i × Int × Unit
abbrev U34 : Type := L_iiis × Int × Int × Int × ByteArray × Int × Unit
abbrev U35 : Type := L_iiis × L_LiiisE × Int × Int × L_iiis × Int × Int × Unit
abbrev U36 : Type := L_iiis × L_LiiisE × Int × Int × Unit
abbrev U37 : Type := Int × Int × Int × Int × ByteArray × L_iiis × Int × Int × Unit
abbrev U38 : Type := Int × L_iiis × L_iiis × Int × Int × Unit
abbrev U39 : Type := L_iiiLiiisE × Int × Int × L_i × L_LiiisE × L_i × Int × Int × Unit
abbrev U40 : Type := L_iiis × L_iiis × Int × Unit
abbrev U41 : Type := L_iiiLiiisE × L_LiELiLiEE × Int × Int × Unit
abbrev U42 : Type := L_iiiLiiisE × L_iLiE × L_i × Int × Int × Unit
abbrev U43 : Type := L_iiiLiiisE × Int × L_i × Int × Unit
abbrev U44 : Type := Int × L_i × L_iiiLiiisE × Int × Int × L_i × L_iiis × Int × Unit
abbrev U45 : Type := Int × L_i × L_iiiLiiisE × Int × Int × L_i × L_iiis × Unit
abbrev U46 : Type := Int × L_i × L_iiiLiiisE × Int × L_i × Unit
abbrev U47 : Type := Int × L_i × L_iiiLiiisE × Int × Unit
abbrev U53 : Type := L_iiis × Int × Int × Int × Int × ByteArray × Int × Unit
abbrev U56 : Type := L_iiis × Int × Int × Unit
def po1 : List OP := [.shr T_ku8, .int .i64, .int .i64]
def po2 : List OP := [.int .i64, .own T_i]
def po3 : List OP := [.int .i64, .shr T_i]
def po4 : List OP := [.int .i64, .int .i64, .int .i64, .own T_iiis]
def po5 : List OP := [.int .i64, .int .i64, .int .i64, .str]
def po6 : List OP := [.own T_iiiLiiisE .dp]
def po7 : List OP := [.int .i64, .int .i64, .int .i64, .shr T_iiis]
def po8 : List OP := [.shr T_iiiLiiisE]
def po9 : List OP := [.shr T_LiiisE]
def po10 : List OP := [.own T_LiiisE]
def po11 : List OP := [.fn 65 T_LiELiLiEE]
def tr : Tr := (.node (.node (.node (.node (.node .leaf 3 { size := 1, agg := false, places := [], row := some T_i, elem := none, kind := some (.int .i64), ones := [], eq := false } .leaf) 4 { size := 1, agg := false, places := [], row := some T_b, elem := none, kind := some .bool, ones := [], eq := false } .leaf) 5 { size := 1, agg := false, places := [], row := some T_ku8, elem := none, kind := some (.int .u8), ones := [], eq := false } (.node .leaf 9 { size := 1, agg := false, places := [], row := some T_s, elem := none, kind := some .str, ones := [], eq := false } .leaf)) 22 { size := 1, agg := false, places := [], row := some T_Lku8E, elem := some (T_ku8, 1), kind := none, ones := [], eq := false } (.node (.node .leaf 24 { size := 1, agg := false, places := [], row := some T_LiE, elem := some (T_i, 8), kind := none, ones := [], eq := false } .leaf) 26 { size := 2, agg := true, places := [(0, 1), (1, 1)], row := some T_iLiE, elem := none, kind := none, ones := [0, 1], eq := false } (.node .leaf 28 { size := 1, agg := false, places := [], row := some T_LsE, elem := some (T_s, 16), kind := none, ones := [], eq := false } .leaf))) 30 { size := 1, agg := false, places := [], row := some T_LiiisE, elem := some (T_iiis, 40), kind := none, ones := [], eq := false } (.node (.node (.node .leaf 32 { size := 6, agg := true, places := [(0, 1), (1, 1), (2, 1), (3, 1), (4, 1), (5, 1)], row := some T_iiiiiLiE, elem := none, kind := none, ones := [0, 1, 2, 3, 4, 5], eq := false } .leaf) 34 { size := 16, agg := true, places := [(0, 1), (1, 2), (3, 1), (4, 1), (5, 1), (6, 1), (7, 1), (8, 1), (9, 1), (10, 6)], row := some T_iiLiELiiisELiELsEiiiiiiiiiLiE, elem := none, kind := none, ones := [0, 2, 3, 4, 5, 6, 7, 8], eq := false } (.node .leaf 42 { size := 4, agg := true, places := [(0, 1), (1, 1), (2, 1), (3, 1)], row := some T_iiis, elem := none, kind := none, ones := [0, 1, 2, 3], eq := true } .leaf)) 56 { size := 1, agg := false, places := [], row := some T_LiiiLiiisEE, elem := some (T_iiiLiiisE, 48), kind := none, ones := [], eq := false, dp := true } (.node (.node .leaf 84 { size := 1, agg := false, places := [], row := some T_LLiiisEE, elem := some (T_LiiisE, 24), kind := none, ones := [], eq := false, dp := true } .leaf) 97 { size := 4, agg := true, places := [(0, 1), (1, 1), (2, 1), (3, 1)], row := some T_iiiLiiisE, elem := none, kind := none, ones := [0, 1, 2, 3], eq := false } (.node .leaf 105 { size := 3, agg := true, places := [(0, 1), (1, 1), (2, 1)], row := some T_Lku8Eii, elem := none, kind := none, ones := [0, 1, 2], eq := false } .leaf))))
theorem tr_ok : tr.all (recOk Try.prog) = true := by kernel_rfl
theorem eq_ok : EqOk Try.prog (tabOf tr) := eqs_ok (by kernel_rfl)
theorem mixed_ok : Try.prog.follows .mixedOrders = true := by kernel_rfl
def TK_ : TK Try.prog := ⟨tr, tr_ok, eq_ok, mixed_ok⟩
def tr0 : Tr := tr.flat
theorem tr0_ok : tr0.all (recOk Try.prog) = true := by kernel_rfl
theorem eq_ok0 : EqOk Try.prog (tabOf tr0) := eqs_ok (by kernel_rfl)
def TK_0 : TK Try.prog := ⟨tr0, tr0_ok, eq_ok0, mixed_ok⟩
def trc : Tr := tr.caps [26]
theorem trc_ok : trc.all (recOk Try.prog) = true := by kernel_rfl
theorem eq_okc : EqOk Try.prog (tabOf trc) := eqs_ok (by kernel_rfl)
def TK_c : TK Try.prog := ⟨trc, trc_ok, eq_okc, mixed_ok⟩
theorem laid_ok : laidOutB Try.prog = true := by kernel_rfl
theorem own_ok : ownKnob Try.prog.godebug = none := by kernel_rfl
def N.first : N → St
 | .done st => st
 | .fail => []
 | .br _ t _ => t.first
 | .row _ _ _ => []
end Go.TM
