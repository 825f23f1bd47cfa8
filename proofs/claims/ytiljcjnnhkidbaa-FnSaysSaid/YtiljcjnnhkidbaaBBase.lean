/- What the functions know of the types, checked against the program. -/
import Derived.Test.YtiljcjnnhkidbaaLibSort
import Derived.Test.YtiljcjnnhkidbaaProg
set_option linter.unusedSimpArgs false
set_option linter.unusedVariables false
namespace Go.TM
open Go Go.RowKit Go.Proofs
abbrev T_ku8 : RT := (.cons (.int .u8) .nil)
abbrev L_ku8 : Type := List (Int × Unit)
abbrev T_i : RT := (.cons (.int .i64) .nil)
abbrev L_i : Type := List (Int × Unit)
abbrev T_iiis : RT := (.cons (.int .i64) (.cons (.int .i64) (.cons (.int .i64) (.cons .str .nil))))
abbrev R_iiis : Type := Int × Int × Int × ByteArray × Unit
abbrev L_iiis : Type := List (R_iiis)
abbrev T_s : RT := (.cons .str .nil)
abbrev L_s : Type := List (ByteArray × Unit)
abbrev T_Lku8E : RT := (.cons (.sl T_ku8) .nil)
abbrev T_LiE : RT := (.cons (.sl T_i) .nil)
abbrev T_iLiE : RT := (.cons (.int .i64) (.cons (.sl T_i) .nil))
abbrev T_LsE : RT := (.cons (.sl T_s) .nil)
abbrev T_LiiisE : RT := (.cons (.sl T_iiis) .nil)
abbrev T_iiiiiLiE : RT := (.cons (.int .i64) (.cons (.int .i64) (.cons (.int .i64) (.cons (.int .i64) (.cons (.int .i64) (.cons (.sl T_i) .nil))))))
abbrev R_iiiiiLiE : Type := Int × Int × Int × Int × Int × L_i × Unit
abbrev T_iiLiELiiisELiELsEiiiiiiiiiLiE : RT := (.cons (.int .i64) (.cons (.int .i64) (.cons (.sl T_i) (.cons (.sl T_iiis) (.cons (.sl T_i) (.cons (.sl T_s) (.cons (.int .i64) (.cons (.int .i64) (.cons (.int .i64) (.cons (.int .i64) (.cons (.int .i64) (.cons (.int .i64) (.cons (.int .i64) (.cons (.int .i64) (.cons (.int .i64) (.cons (.sl T_i) .nil))))))))))))))))
abbrev R_iiLiELiiisELiELsEiiiiiiiiiLiE : Type := Int × Int × L_i × L_iiis × L_i × L_s × Int × Int × Int × Int × Int × Int × Int × Int × Int × L_i × Unit
abbrev T_Lku8Eii : RT := (.cons (.sl T_ku8) (.cons (.int .i64) (.cons (.int .i64) .nil)))
abbrev R_Lku8Eii : Type := L_ku8 × Int × Int × Unit
abbrev U1 : Type := Int × L_ku8 × Int × Int × Unit
abbrev U2 : Type := Bool × L_ku8 × Int × Int × Unit
abbrev U4 : Type := Int × L_i × L_ku8 × Int × Int × Unit
abbrev U5 : Type := ByteArray × L_ku8 × Int × Int × Unit
abbrev U7 : Type := Int × Int × Int × ByteArray × Bool × Unit
abbrev U10 : Type := Int × Int × Int × Int × Int × L_i × L_iiis × Unit
abbrev U11 : Type := Int × Int × L_i × L_iiis × L_i × L_s × Int × Int × Int × Int × Int × Int × Int × Int × Int × L_i × L_iiis × Int × Int × Int × Int × Int × Int × L_i × Bool × Unit
abbrev U12 : Type := Int × Int × L_i × L_iiis × L_i × L_s × Int × Int × Int × Int × Int × Int × Int × Int × Int × L_i × Bool × Unit
abbrev U13 : Type := Int × Int × L_i × L_iiis × L_i × L_s × Int × Int × Int × Int × Int × Int × Int × Int × Int × L_i × L_iiis × Int × Int × Int × Int × Int × L_i × Bool × Unit
abbrev U14 : Type := Int × Int × L_i × L_iiis × L_i × L_s × Int × Int × Int × Int × Int × Int × Int × Int × Int × L_i × L_iiis × Unit
abbrev U15 : Type := L_ku8 × Int × Int × Int × L_i × Int × L_i × Int × Unit
abbrev U16 : Type := L_ku8 × Int × Int × Int × L_i × Int × L_i × Unit
abbrev U17 : Type := L_ku8 × Int × Int × Int × L_ku8 × Int × Unit
abbrev U18 : Type := L_ku8 × Int × Int × L_ku8 × Unit
abbrev U19 : Type := L_ku8 × Int × Int × L_s × Int × Unit
abbrev U20 : Type := L_i × Int × Int × Int × Unit
abbrev U21 : Type := Int × L_i × L_i × Int × Int × Unit
abbrev U22 : Type := L_iiis × L_iiis × Int × Int × Unit
abbrev U23 : Type := L_s × Int × Int × Unit
abbrev U24 : Type := Int × Int × Int × Int × ByteArray × L_iiis × Int × Int × Unit
abbrev U25 : Type := Int × Int × Int × Int × Int × L_i × L_i × Int × Int × Unit
abbrev U26 : Type := Int × Int × L_i × L_iiis × L_i × L_s × Int × Int × Int × Int × Int × Int × Int × Int × Int × L_i × L_i × Int × Int × Unit
abbrev U27 : Type := Int × Int × Int × Int × Int × L_i × L_iiis × L_iiis × Int × Int × Unit
abbrev U28 : Type := Int × L_i × Int × Int × Int × Int × Int × L_i × Int × Int × Int × Int × Int × L_i × Int × Int × Int × Int × Int × L_i × L_iiis × L_s × Int × Int × Unit
abbrev U29 : Type := Int × Int × Int × Int × Int × L_i × Int × Int × Int × Int × Int × L_i × Int × Int × Int × Int × Int × L_i × L_iiis × Unit
abbrev U30 : Type := L_iiis × Int × Int × Int × ByteArray × Int × Unit
abbrev U31 : Type := L_iiis × Int × L_i × Int × Unit
abbrev U32 : Type := L_iiis × Int × Int × Int × Int × Int × L_i × Int × Int × Int × Int × Int × L_i × L_i × L_i × Int × Int × Unit
abbrev U33 : Type := Int × Int × Int × Int × Int × L_i × Int × Int × Int × Int × Int × L_i × L_i × Unit
abbrev U34 : Type := Int × Int × L_i × L_iiis × L_i × L_s × Int × Int × Int × Int × Int × Int × Int × Int × Int × L_i × Int × Int × Int × Int × Int × L_i × Int × Int × L_i × L_iiis × L_i × L_s × Int × Int × Int × Int × Int × Int × Int × Int × Int × L_i × Int × Int × Int × Int × Int × L_i × Int × Int × L_i × L_iiis × L_i × L_s × Int × Int × Int × Int × Int × Int × Int × Int × Int × L_i × L_iiis × Int × Int × Int × Int × Int × L_i × L_iiis × L_iiis × Int × Int × Unit
abbrev U35 : Type := Int × Int × L_i × L_iiis × L_i × L_s × Int × Int × Int × Int × Int × Int × Int × Int × Int × L_i × Int × Int × Int × Int × Int × L_i × Int × Int × L_i × L_iiis × L_i × L_s × Int × Int × Int × Int × Int × Int × Int × Int × Int × L_i × Int × Int × Int × Int × Int × L_i × Int × Int × L_i × L_iiis × L_i × L_s × Int × Int × Int × Int × Int × Int × Int × Int × Int × L_i × L_iiis × Int × Int × Int × Int × Int × L_i × L_iiis × Unit
abbrev U36 : Type := Int × Int × L_i × L_iiis × L_i × L_s × Int × Int × Int × Int × Int × Int × Int × Int × Int × L_i × Int × Int × Int × Int × Int × L_i × Unit
abbrev U37 : Type := Int × Int × L_i × L_iiis × L_i × L_s × Int × Int × Int × Int × Int × Int × Int × Int × Int × L_i × Int × Int × L_i × L_iiis × L_i × L_s × Int × Int × Int × Int × Int × Int × Int × Int × Int × L_i × Int × Int × L_i × L_iiis × L_i × L_s × Int × Int × Int × Int × Int × Int × Int × Int × Int × L_i × L_iiis × Unit
abbrev U38 : Type := Int × Int × L_i × L_iiis × L_i × L_s × Int × Int × Int × Int × Int × Int × Int × Int × Int × L_i × Int × Int × L_i × L_iiis × L_i × L_s × Int × Int × Int × Int × Int × Int × Int × Int × Int × L_i × L_iiis × Unit
abbrev U39 : Type := L_s × L_s × Int × Unit
abbrev U40 : Type := Int × L_i × L_s × Int × Int × L_i × L_iiis × L_i × L_s × Int × Int × Int × Int × Int × Int × Int × Int × Int × L_i × Bool × Int × Int × Unit
abbrev U41 : Type := Int × L_i × L_s × Int × Int × L_i × L_iiis × L_i × L_s × Int × Int × Int × Int × Int × Int × Int × Int × Int × L_i × Bool × Int × Unit
abbrev U42 : Type := L_s × Int × Int × L_i × L_iiis × L_i × L_s × Int × Int × Int × Int × Int × Int × Int × Int × Int × L_i × Bool × Int × Int × Int × Int × Int × Int × L_i × L_s × Int × Int × Int × L_i × L_iiis × L_i × L_s × Int × Int × Int × Int × Int × Int × Int × Int × Int × L_i × L_iiis × Int × Int × Int × Int × Int × L_i × Int × Unit
abbrev U43 : Type := L_s × Int × Int × L_i × L_iiis × L_i × L_s × Int × Int × Int × Int × Int × Int × Int × Int × Int × L_i × Bool × Int × Int × Int × Int × Int × Int × L_i × L_s × Int × Int × Int × L_i × L_iiis × L_i × L_s × Int × Int × Int × Int × Int × Int × Int × Int × Int × L_i × Int × Int × Int × Int × Int × L_i × Unit
abbrev U44 : Type := L_s × Int × Int × L_i × L_iiis × L_i × L_s × Int × Int × Int × Int × Int × Int × Int × Int × Int × L_i × Bool × Int × Int × Int × Int × Int × Int × L_i × L_s × Int × Unit
abbrev U45 : Type := L_s × Int × Int × L_i × L_iiis × L_i × L_s × Int × Int × Int × Int × Int × Int × Int × Int × Int × L_i × Bool × Int × L_s × Unit
abbrev U46 : Type := L_iiis × Int × Int × Int × Int × ByteArray × Int × Unit
abbrev U47 : Type := Int × L_i × Int × Unit
abbrev U48 : Type := L_i × Int × Int × Unit
abbrev U49 : Type := L_i × L_s × Int × Unit
abbrev U50 : Type := L_iiis × Int × Int × Unit
abbrev U51 : Type := L_i × L_i × Int × Unit
abbrev U52 : Type := Int × Int × Int × Int × Int × L_i × Int × Unit
abbrev U53 : Type := Int × Int × L_i × L_iiis × L_i × L_s × Int × Int × Int × Int × Int × Int × Int × Int × Int × L_i × Int × Int × L_i × L_iiis × L_i × L_s × Int × Int × Int × Int × Int × Int × Int × Int × Int × L_i × Int × Int × L_i × L_iiis × L_i × L_s × Int × Int × Int × Int × Int × Int × Int × Int × Int × L_i × L_iiis × Int × Unit
abbrev U55 : Type := L_iiis × Int × Int × Int × Int × Int × L_i × L_iiis × Int × Unit
abbrev U56 : Type := Int × L_i × L_s × Int × Int × Int × Int × Int × L_i × Int × Int × Int × Int × Int × L_i × Int × Int × Int × Int × Int × L_i × L_iiis × Int × Unit
abbrev U57 : Type := L_iiis × Int × Int × Int × ByteArray × L_iiis × L_iiis × Int × Unit
abbrev U58 : Type := L_iiis × Int × Int × Int × ByteArray × L_iiis × Unit
abbrev U59 : Type := L_iiis × Int × Int × Int × ByteArray × L_iiis × Int × Unit
abbrev U60 : Type := L_iiis × Int × Int × Int × Int × Int × L_i × Int × Int × Int × Int × Int × L_i × Int × Int × Int × Int × Int × L_i × L_i × Int × Unit
abbrev U61 : Type := Int × Int × Int × Int × Int × L_i × Int × Int × Int × Int × Int × L_i × Unit
abbrev U62 : Type := Int × Int × L_i × L_iiis × L_i × L_s × Int × Int × Int × Int × Int × Int × Int × Int × Int × L_i × Int × Int × Int × Int × Int × L_i × Int × Int × L_i × L_iiis × L_i × L_s × Int × Int × Int × Int × Int × Int × Int × Int × Int × L_i × Int × Int × Int × Int × Int × L_i × Int × Int × L_i × L_iiis × L_i × L_s × Int × Int × Int × Int × Int × Int × Int × Int × Int × L_i × L_iiis × Int × Int × Int × Int × Int × L_i × L_iiis × Int × Unit
def po1 : List OP := [.shr T_ku8, .int .i64, .int .i64]
def po2 : List OP := [.int .i64, .own T_i]
def po3 : List OP := [.int .i64, .shr T_i]
def po4 : List OP := [.int .i64, .int .i64, .own T_i, .own T_iiis, .own T_i, .own T_s, .int .i64, .int .i64, .int .i64, .int .i64, .int .i64, .int .i64, .int .i64, .int .i64, .int .i64, .own T_i]
def po5 : List OP := [.int .i64, .int .i64, .int .i64, .str]
def po6 : List OP := [.int .i64, .int .i64, .int .i64, .int .i64, .int .i64, .shr T_i]
def po7 : List OP := [.int .i64, .int .i64, .shr T_i, .shr T_iiis, .shr T_i, .shr T_s, .int .i64, .int .i64, .int .i64, .int .i64, .int .i64, .int .i64, .int .i64, .int .i64, .int .i64, .shr T_i]
def po8 : List OP := [.int .i64, .int .i64, .int .i64, .int .i64, .int .i64, .own T_i]
def tr : Tr := (.node (.node (.node (.node .leaf 3 { size := 1, agg := false, places := [], row := some T_i, elem := none, kind := some (.int .i64), ones := [], eq := false } .leaf) 5 { size := 1, agg := false, places := [], row := some T_ku8, elem := none, kind := some (.int .u8), ones := [], eq := false } (.node .leaf 9 { size := 1, agg := false, places := [], row := some T_s, elem := none, kind := some .str, ones := [], eq := false } .leaf)) 22 { size := 1, agg := false, places := [], row := some T_Lku8E, elem := some (T_ku8, 1), kind := none, ones := [], eq := false } (.node (.node .leaf 24 { size := 1, agg := false, places := [], row := some T_LiE, elem := some (T_i, 8), kind := none, ones := [], eq := false } .leaf) 26 { size := 2, agg := true, places := [(0, 1), (1, 1)], row := some T_iLiE, elem := none, kind := none, ones := [0, 1], eq := false } .leaf)) 28 { size := 1, agg := false, places := [], row := some T_LsE, elem := some (T_s, 16), kind := none, ones := [], eq := false } (.node (.node (.node .leaf 30 { size := 1, agg := false, places := [], row := some T_LiiisE, elem := some (T_iiis, 40), kind := none, ones := [], eq := false } .leaf) 32 { size := 6, agg := true, places := [(0, 1), (1, 1), (2, 1), (3, 1), (4, 1), (5, 1)], row := some T_iiiiiLiE, elem := none, kind := none, ones := [0, 1, 2, 3, 4, 5], eq := false } .leaf) 34 { size := 16, agg := true, places := [(0, 1), (1, 2), (3, 1), (4, 1), (5, 1), (6, 1), (7, 1), (8, 1), (9, 1), (10, 6)], row := some T_iiLiELiiisELiELsEiiiiiiiiiLiE, elem := none, kind := none, ones := [0, 2, 3, 4, 5, 6, 7, 8], eq := false } (.node (.node .leaf 42 { size := 4, agg := true, places := [(0, 1), (1, 1), (2, 1), (3, 1)], row := some T_iiis, elem := none, kind := none, ones := [0, 1, 2, 3], eq := true } .leaf) 105 { size := 3, agg := true, places := [(0, 1), (1, 1), (2, 1)], row := some T_Lku8Eii, elem := none, kind := none, ones := [0, 1, 2], eq := false } .leaf)))
theorem tr_ok : tr.all (recOk Try.prog) = true := by kernel_rfl
theorem eq_ok : EqOk Try.prog (tabOf tr) := eqs_ok (by kernel_rfl)
theorem mixed_ok : Try.prog.follows .mixedOrders = true := by kernel_rfl
noncomputable def TK_ : TK Try.prog := ⟨tr, tr_ok, eq_ok, mixed_ok⟩
theorem laid_ok : laidOutB Try.prog = true := by kernel_rfl
theorem own_ok : ownKnob Try.prog.godebug = none := by kernel_rfl
def N.first : N → St
 | .done st => st
 | .fail => []
 | .br _ t _ => t.first
 | .row _ _ _ => []
end Go.TM
