/- What the functions know of the types, checked against the program. -/
import Derived.Test.YtiljcjnnhkidbaaLibSort
import Derived.Test.YtiljcjnnhkidbaaProg
set_option linter.unusedSimpArgs false
set_option linter.unusedVariables false
namespace Go.TM
open Go Go.RowKit Go.Proofs
abbrev T_ku8 : RT := (.cons (.int .u8) .nil)
abbrev L_ku8 : Type := List (Int × Unit)
abbrev T_i : RT := (.cons (.int .i64) .nil)
abbrev L_i : Type := List (Int × Unit)
abbrev T_iiis : RT := (.cons (.int .i64) (.cons (.int .i64) (.cons (.int .i64) (.cons .str .nil))))
abbrev R_iiis : Type := Int × Int × Int × ByteArray × Unit
abbrev L_iiis : Type := List (R_iiis)
abbrev T_s : RT := (.cons .str .nil)
abbrev L_s : Type := List (ByteArray × Unit)
abbrev T_iiLiELiiisELiELsEiiiiiiiiiLiE : RT := (.cons (.int .i64) (.cons (.int .i64) (.cons (.sl T_i) (.cons (.sl T_iiis) (.cons (.sl T_i) (.cons (.sl T_s) (.cons (.int .i64) (.cons (.int .i64) (.cons (.int .i64) (.cons (.int .i64) (.cons (.int .i64) (.cons (.int .i64) (.cons (.int .i64) (.cons (.int .i64) (.cons (.int .i64) (.cons (.sl T_i) .nil))))))))))))))))
abbrev R_iiLiELiiisELiELsEiiiiiiiiiLiE : Type := Int × Int × L_i × L_iiis × L_i × L_s × Int × Int × Int × Int × Int × Int × Int × Int × Int × L_i × Unit
abbrev L_iiLiELiiisELiELsEiiiiiiiiiLiE : Type := List (R_iiLiELiiisELiELsEiiiiiiiiiLiE)
abbrev T_ibiiiiiLiEiiis : RT := (.cons (.int .i64) (.cons .bool (.cons (.int .i64) (.cons (.int .i64) (.cons (.int .i64) (.cons (.int .i64) (.cons (.int .i64) (.cons (.sl T_i) (.cons (.int .i64) (.cons (.int .i64) (.cons (.int .i64) (.cons .str .nil))))))))))))
abbrev R_ibiiiiiLiEiiis : Type := Int × Bool × Int × Int × Int × Int × Int × L_i × Int × Int × Int × ByteArray × Unit
abbrev L_ibiiiiiLiEiiis : Type := List (R_ibiiiiiLiEiiis)
abbrev T_LiiisE : RT := (.cons (.sl T_iiis) .nil)
abbrev L_LiiisE : Type := List (L_iiis × Unit)
abbrev T_iiiis : RT := (.cons (.int .i64) (.cons (.int .i64) (.cons (.int .i64) (.cons (.int .i64) (.cons .str .nil)))))
abbrev R_iiiis : Type := Int × Int × Int × Int × ByteArray × Unit
abbrev L_iiiis : Type := List (R_iiiis)
abbrev T_b : RT := (.cons .bool .nil)
abbrev T_Lku8E : RT := (.cons (.sl T_ku8) .nil)
abbrev T_LiE : RT := (.cons (.sl T_i) .nil)
abbrev T_iLiE : RT := (.cons (.int .i64) (.cons (.sl T_i) .nil))
abbrev T_LsE : RT := (.cons (.sl T_s) .nil)
abbrev T_iiiiiLiE : RT := (.cons (.int .i64) (.cons (.int .i64) (.cons (.int .i64) (.cons (.int .i64) (.cons (.int .i64) (.cons (.sl T_i) .nil))))))
abbrev R_iiiiiLiE : Type := Int × Int × Int × Int × Int × L_i × Unit
abbrev T_LiiLiELiiisELiELsEiiiiiiiiiLiEE : RT := (.cons (.sl T_iiLiELiiisELiELsEiiiiiiiiiLiE) .nil)
abbrev T_LibiiiiiLiEiiisE : RT := (.cons (.sl T_ibiiiiiLiEiiis) .nil)
abbrev T_LLiiisEE : RT := (.cons (.sl T_LiiisE) .nil)
abbrev T_iLiELiiLiELiiisELiELsEiiiiiiiiiLiEELibiiiiiLiEiiisELLiiisEELiiisE : RT := (.cons (.int .i64) (.cons (.sl T_i) (.cons (.sl T_iiLiELiiisELiELsEiiiiiiiiiLiE) (.cons (.sl T_ibiiiiiLiEiiis) (.cons (.sl T_LiiisE) (.cons (.sl T_iiis) .nil))))))
abbrev R_iLiELiiLiELiiisELiELsEiiiiiiiiiLiEELibiiiiiLiEiiisELLiiisEELiiisE : Type := Int × L_i × L_iiLiELiiisELiELsEiiiiiiiiiLiE × L_ibiiiiiLiEiiis × L_LiiisE × L_iiis × Unit
abbrev T_Lku8Eii : RT := (.cons (.sl T_ku8) (.cons (.int .i64) (.cons (.int .i64) .nil)))
abbrev R_Lku8Eii : Type := L_ku8 × Int × Int × Unit
abbrev T_LiiiisE : RT := (.cons (.sl T_iiiis) .nil)
abbrev T_iLiELiiiisE : RT := (.cons (.int .i64) (.cons (.sl T_i) (.cons (.sl T_iiiis) .nil)))
abbrev U1 : Type := Int × L_ku8 × Int × Int × Unit
abbrev U2 : Type := Bool × L_ku8 × Int × Int × Unit
abbrev U3 : Type := Int × Int × L_i × L_iiis × L_i × L_s × Int × Int × Int × Int × Int × Int × Int × Int × Int × L_i × Bool × Unit
abbrev U4 : Type := Int × Int × Int × Int × Int × L_i × Unit
abbrev U5 : Type := ByteArray × L_ku8 × Int × Int × Unit
abbrev U8 : Type := Int × Int × Int × ByteArray × Bool × Unit
abbrev U9 : Type := Int × Int × L_i × L_iiis × L_i × L_s × Int × Int × Int × Int × Int × Int × Int × Int × Int × L_i × L_iiis × Unit
abbrev U11 : Type := Int × Int × Int × Int × Int × L_i × L_iiis × Unit
abbrev U12 : Type := Int × Int × L_i × L_iiLiELiiisELiELsEiiiiiiiiiLiE × L_ibiiiiiLiEiiis × L_LiiisE × L_iiis × Unit
abbrev U13 : Type := Int × Int × L_i × L_iiis × L_i × L_s × Int × Int × Int × Int × Int × Int × Int × Int × Int × L_i × L_iiis × Int × Int × Int × Int × Int × L_i × Bool × Unit
abbrev U14 : Type := Int × L_i × L_ku8 × Int × Int × Unit
abbrev U15 : Type := Int × L_i × L_iiLiELiiisELiELsEiiiiiiiiiLiE × L_ibiiiiiLiEiiis × L_LiiisE × L_iiis × Bool × Unit
abbrev U16 : Type := Int × Int × Int × Int × ByteArray × L_ku8 × Int × Int × Int × L_i × L_iiLiELiiisELiELsEiiiiiiiiiLiE × L_ibiiiiiLiEiiis × L_LiiisE × L_iiis × Unit
abbrev U18 : Type := Int × L_i × L_iiiis × L_ku8 × Int × Int × Unit
abbrev U19 : Type := Int × L_i × L_iiLiELiiisELiELsEiiiiiiiiiLiE × L_ibiiiiiLiEiiis × L_LiiisE × L_iiis × L_i × Bool × Unit
abbrev U20 : Type := Int × Int × Int × ByteArray × L_ku8 × Int × Int × Unit
abbrev U22 : Type := Int × L_i × L_iiLiELiiisELiELsEiiiiiiiiiLiE × L_ibiiiiiLiEiiis × L_LiiisE × L_iiis × L_ku8 × Int × Int × Unit
abbrev U23 : Type := Int × Int × L_i × L_iiis × L_i × L_s × Int × Int × Int × Int × Int × Int × Int × Int × Int × L_i × Int × Int × Int × ByteArray × Unit
abbrev U24 : Type := L_ku8 × Int × Int × Int × L_i × Int × L_i × Int × Unit
abbrev U25 : Type := L_ku8 × Int × Int × Int × L_i × Int × L_i × Unit
abbrev U26 : Type := Int × L_i × Int × Unit
abbrev U27 : Type := L_i × Int × Int × Unit
abbrev U28 : Type := Int × Int × L_i × Unit
abbrev U29 : Type := Int × L_i × Int × L_i × L_iiLiELiiisELiELsEiiiiiiiiiLiE × L_ibiiiiiLiEiiis × L_LiiisE × L_iiis × Int × L_i × L_iiLiELiiisELiELsEiiiiiiiiiLiE × L_ibiiiiiLiEiiis × L_LiiisE × L_iiis × Int × Unit
abbrev U30 : Type := Int × L_i × Int × L_i × L_iiLiELiiisELiELsEiiiiiiiiiLiE × L_ibiiiiiLiEiiis × L_LiiisE × L_iiis × Int × L_i × L_iiLiELiiisELiELsEiiiiiiiiiLiE × L_ibiiiiiLiEiiis × L_LiiisE × L_iiis × Unit
abbrev U31 : Type := L_ku8 × Int × Int × Int × L_i × L_iiLiELiiisELiELsEiiiiiiiiiLiE × L_ibiiiiiLiEiiis × L_LiiisE × L_iiis × Int × Int × Int × Int × ByteArray × Int × Int × Int × Int × ByteArray × Int × Unit
abbrev U32 : Type := L_ku8 × Int × Int × Int × L_i × L_iiLiELiiisELiELsEiiiiiiiiiLiE × L_ibiiiiiLiEiiis × L_LiiisE × L_iiis × Int × Int × Int × Int × ByteArray × Int × Int × Int × Int × ByteArray × Unit
abbrev U33 : Type := L_ku8 × Int × Int × Int × L_i × L_iiLiELiiisELiELsEiiiiiiiiiLiE × L_ibiiiiiLiEiiis × L_LiiisE × L_iiis × Unit
abbrev U34 : Type := Int × L_i × L_iiLiELiiisELiELsEiiiiiiiiiLiE × L_ibiiiiiLiEiiis × L_LiiisE × L_iiis × Int × Int × Unit
abbrev U35 : Type := Int × L_i × L_iiLiELiiisELiELsEiiiiiiiiiLiE × L_ibiiiiiLiEiiis × L_LiiisE × L_iiis × Int × Unit
abbrev U36 : Type := L_i × L_s × Int × Unit
abbrev U37 : Type := L_iiis × Int × Int × Int × Int × ByteArray × Int × Unit
abbrev U38 : Type := L_iiis × Int × Int × Unit
abbrev U39 : Type := L_i × L_i × Int × Unit
abbrev U40 : Type := Int × Int × Int × Int × Int × L_i × Int × Unit
abbrev U41 : Type := Int × Int × L_i × L_iiis × L_i × L_s × Int × Int × Int × Int × Int × Int × Int × Int × Int × L_i × Int × Int × L_i × L_iiis × L_i × L_s × Int × Int × Int × Int × Int × Int × Int × Int × Int × L_i × Int × Int × L_i × L_iiis × L_i × L_s × Int × Int × Int × Int × Int × Int × Int × Int × Int × L_i × L_iiis × Int × Unit
abbrev U42 : Type := Int × Int × L_i × L_iiis × L_i × L_s × Int × Int × Int × Int × Int × Int × Int × Int × Int × L_i × Int × Int × L_i × L_iiis × L_i × L_s × Int × Int × Int × Int × Int × Int × Int × Int × Int × L_i × L_iiis × Unit
abbrev U43 : Type := Int × Int × L_i × Int × Unit
abbrev U44 : Type := Int × L_i × L_iiLiELiiisELiELsEiiiiiiiiiLiE × L_ibiiiiiLiEiiis × L_LiiisE × L_iiis × Int × Int × Int × Int × Int × Int × L_i × Unit
abbrev U45 : Type := Int × L_i × L_iiLiELiiisELiELsEiiiiiiiiiLiE × L_ibiiiiiLiEiiis × L_LiiisE × L_iiis × Int × L_iiis × L_ibiiiiiLiEiiis × Int × Int × Unit
abbrev U46 : Type := Int × L_i × L_iiLiELiiisELiELsEiiiiiiiiiLiE × L_ibiiiiiLiEiiis × L_LiiisE × L_iiis × Int × L_iiis × L_ibiiiiiLiEiiis × Int × Unit
abbrev U47 : Type := Int × L_i × L_iiLiELiiisELiELsEiiiiiiiiiLiE × L_ibiiiiiLiEiiis × L_LiiisE × L_iiis × L_ibiiiiiLiEiiis × Unit
abbrev U48 : Type := Int × L_i × L_iiLiELiiisELiELsEiiiiiiiiiLiE × L_ibiiiiiLiEiiis × L_LiiisE × L_iiis × Int × Int × L_i × L_iiis × L_i × L_s × Int × Int × Int × Int × Int × Int × Int × Int × Int × L_i × L_iiis × Int × Unit
abbrev U49 : Type := Int × L_i × L_iiLiELiiisELiELsEiiiiiiiiiLiE × L_ibiiiiiLiEiiis × L_LiiisE × L_iiis × Int × Int × L_i × L_iiis × L_i × L_s × Int × Int × Int × Int × Int × Int × Int × Int × Int × L_i × L_iiis × Unit
abbrev U50 : Type := L_iiis × Int × Int × Int × ByteArray × L_iiis × L_iiis × Int × Unit
abbrev U51 : Type := L_iiis × Int × Int × Int × ByteArray × L_iiis × Unit
abbrev U52 : Type := L_iiis × Int × Int × Int × ByteArray × L_iiis × Int × Unit
abbrev U53 : Type := L_iiis × Int × Int × Int × Int × Int × L_i × L_iiis × Int × Unit
abbrev U54 : Type := Int × L_i × L_s × Int × Int × Int × Int × Int × L_i × Int × Int × Int × Int × Int × L_i × Int × Int × Int × Int × Int × L_i × L_iiis × Int × Unit
abbrev U55 : Type := Int × Int × Int × Int × Int × L_i × Int × Int × Int × Int × Int × L_i × Int × Int × Int × Int × Int × L_i × L_iiis × Unit
abbrev U56 : Type := L_iiis × Int × L_i × Int × Unit
abbrev U57 : Type := L_iiis × Int × Int × Int × Int × Int × L_i × Int × Int × Int × Int × Int × L_i × Int × Int × Int × Int × Int × L_i × L_i × Int × Unit
abbrev U58 : Type := Int × Int × Int × Int × Int × L_i × Int × Int × Int × Int × Int × L_i × Unit
abbrev U59 : Type := Int × Int × L_i × L_iiis × L_i × L_s × Int × Int × Int × Int × Int × Int × Int × Int × Int × L_i × Int × Int × Int × Int × Int × L_i × Int × Int × L_i × L_iiis × L_i × L_s × Int × Int × Int × Int × Int × Int × Int × Int × Int × L_i × Int × Int × Int × Int × Int × L_i × Int × Int × L_i × L_iiis × L_i × L_s × Int × Int × Int × Int × Int × Int × Int × Int × Int × L_i × L_iiis × Int × Int × Int × Int × Int × L_i × L_iiis × Int × Unit
abbrev U60 : Type := Int × Int × L_i × L_iiis × L_i × L_s × Int × Int × Int × Int × Int × Int × Int × Int × Int × L_i × Int × Int × Int × Int × Int × L_i × Int × Int × L_i × L_iiis × L_i × L_s × Int × Int × Int × Int × Int × Int × Int × Int × Int × L_i × Int × Int × Int × Int × Int × L_i × Int × Int × L_i × L_iiis × L_i × L_s × Int × Int × Int × Int × Int × Int × Int × Int × Int × L_i × L_iiis × Int × Int × Int × Int × Int × L_i × L_iiis × Unit
abbrev U61 : Type := Int × Int × L_i × L_iiis × L_i × L_s × Int × Int × Int × Int × Int × Int × Int × Int × Int × L_i × Int × Int × Int × Int × Int × L_i × Unit
abbrev U62 : Type := Int × L_i × L_iiLiELiiisELiELsEiiiiiiiiiLiE × L_ibiiiiiLiEiiis × L_LiiisE × L_iiis × Int × Bool × Int × Int × Int × Int × Int × L_i × Int × Int × Int × ByteArray × L_iiis × Int × Int × Int × Int × Int × L_i × Int × Unit
abbrev U63 : Type := Int × L_i × L_iiLiELiiisELiELsEiiiiiiiiiLiE × L_ibiiiiiLiEiiis × L_LiiisE × L_iiis × Int × Bool × Int × Int × Int × Int × Int × L_i × Int × Int × Int × ByteArray × L_iiis × Int × Int × Int × Int × Int × L_i × Unit
abbrev U64 : Type := Int × L_i × L_iiLiELiiisELiELsEiiiiiiiiiLiE × L_ibiiiiiLiEiiis × L_LiiisE × L_iiis × Int × Bool × Int × Int × Int × Int × Int × L_i × Int × Int × Int × ByteArray × Unit
abbrev U65 : Type := Int × L_i × L_iiLiELiiisELiELsEiiiiiiiiiLiE × L_ibiiiiiLiEiiis × L_LiiisE × L_iiis × Int × Int × Int × Int × ByteArray × Unit
abbrev U66 : Type := L_ku8 × Int × Int × L_ku8 × Int × L_i × L_iiiis × Int × L_i × L_iiiis × Int × L_i × L_iiLiELiiisELiELsEiiiiiiiiiLiE × L_ibiiiiiLiEiiis × L_LiiisE × L_iiis × Int × Unit
abbrev U67 : Type := L_ku8 × Int × Int × Int × L_i × L_iiiis × Int × L_i × L_iiiis × Unit
abbrev U68 : Type := Int × L_i × L_iiLiELiiisELiELsEiiiiiiiiiLiE × L_ibiiiiiLiEiiis × L_LiiisE × L_iiis × Int × L_i × L_iiLiELiiisELiELsEiiiiiiiiiLiE × L_ibiiiiiLiEiiis × L_LiiisE × L_iiis × Int × L_i × L_iiLiELiiisELiELsEiiiiiiiiiLiE × L_ibiiiiiLiEiiis × L_LiiisE × L_iiis × Int × Unit
abbrev U69 : Type := Int × L_i × L_iiLiELiiisELiELsEiiiiiiiiiLiE × L_ibiiiiiLiEiiis × L_LiiisE × L_iiis × Int × L_i × L_iiLiELiiisELiELsEiiiiiiiiiLiE × L_ibiiiiiLiEiiis × L_LiiisE × L_iiis × Int × L_i × L_iiLiELiiisELiELsEiiiiiiiiiLiE × L_ibiiiiiLiEiiis × L_LiiisE × L_iiis × Unit
abbrev U70 : Type := Int × L_i × L_iiLiELiiisELiELsEiiiiiiiiiLiE × L_ibiiiiiLiEiiis × L_LiiisE × L_iiis × Int × L_i × L_iiLiELiiisELiELsEiiiiiiiiiLiE × L_ibiiiiiLiEiiis × L_LiiisE × L_iiis × Unit
abbrev U71 : Type := L_iiiis × Int × L_i × Int × L_i × L_iiLiELiiisELiELsEiiiiiiiiiLiE × L_ibiiiiiLiEiiis × L_LiiisE × L_iiis × Int × L_i × L_iiLiELiiisELiELsEiiiiiiiiiLiE × L_ibiiiiiLiEiiis × L_LiiisE × L_iiis × Bool × Int × Unit
abbrev U72 : Type := L_iiiis × Int × L_i × L_iiLiELiiisELiELsEiiiiiiiiiLiE × L_ibiiiiiLiEiiis × L_LiiisE × L_iiis × Int × L_i × L_iiLiELiiisELiELsEiiiiiiiiiLiE × L_ibiiiiiLiEiiis × L_LiiisE × L_iiis × Bool × Unit
abbrev U73 : Type := L_iiiis × Int × L_i × L_iiLiELiiisELiELsEiiiiiiiiiLiE × L_ibiiiiiLiEiiis × L_LiiisE × L_iiis × Int × L_i × L_iiLiELiiisELiELsEiiiiiiiiiLiE × L_ibiiiiiLiEiiis × L_LiiisE × L_iiis × L_i × Int × Unit
abbrev U74 : Type := Int × L_i × L_iiLiELiiisELiELsEiiiiiiiiiLiE × L_ibiiiiiLiEiiis × L_LiiisE × L_iiis × Int × L_i × L_iiLiELiiisELiELsEiiiiiiiiiLiE × L_ibiiiiiLiEiiis × L_LiiisE × L_iiis × L_i × Unit
abbrev U75 : Type := Int × Int × L_ku8 × Int × Unit
abbrev U76 : Type := L_i × Int × Int × Int × Unit
abbrev U77 : Type := Int × L_i × L_i × Int × Int × Unit
abbrev U78 : Type := L_iiis × L_iiis × Int × Int × Unit
abbrev U79 : Type := L_s × Int × Int × Unit
abbrev U80 : Type := Int × Int × Int × Int × ByteArray × L_iiis × Int × Int × Unit
abbrev U81 : Type := Int × Int × Int × Int × Int × L_i × L_i × Int × Int × Unit
abbrev U82 : Type := Int × Int × L_i × L_iiis × L_i × L_s × Int × Int × Int × Int × Int × Int × Int × Int × Int × L_i × L_i × Int × Int × Unit
abbrev U83 : Type := L_iiis × Int × Int × Int × ByteArray × Int × Unit
abbrev U84 : Type := L_iiis × L_iiis × Int × Unit
abbrev U85 : Type := Int × Int × L_i × L_iiis × L_i × L_s × Int × Int × Int × Int × Int × Int × Int × Int × Int × L_i × Int × Int × L_i × L_iiis × L_i × L_s × Int × Int × Int × Int × Int × Int × Int × Int × Int × L_i × Int × Int × L_i × L_iiis × L_i × L_s × Int × Int × Int × Int × Int × Int × Int × Int × Int × L_i × L_iiis × Unit
abbrev U86 : Type := Int × Int × Int × Int × Int × L_i × L_iiis × L_iiis × Int × Int × Unit
abbrev U87 : Type := Int × L_i × Int × Int × Int × Int × Int × L_i × Int × Int × Int × Int × Int × L_i × Int × Int × Int × Int × Int × L_i × L_iiis × L_s × Int × Int × Unit
abbrev U88 : Type := L_iiis × Int × Int × Int × Int × Int × L_i × Int × Int × Int × Int × Int × L_i × L_i × L_i × Int × Int × Unit
abbrev U89 : Type := Int × Int × Int × Int × Int × L_i × Int × Int × Int × Int × Int × L_i × L_i × Unit
abbrev U90 : Type := Int × Int × L_i × L_iiis × L_i × L_s × Int × Int × Int × Int × Int × Int × Int × Int × Int × L_i × L_iiis × Int × Int × Int × Int × Int × Int × L_i × Bool × Unit
abbrev U91 : Type := Int × Int × L_i × L_iiis × L_i × L_s × Int × Int × Int × Int × Int × Int × Int × Int × Int × L_i × Int × Int × Int × Int × Int × L_i × Int × Int × L_i × L_iiis × L_i × L_s × Int × Int × Int × Int × Int × Int × Int × Int × Int × L_i × Int × Int × Int × Int × Int × L_i × Int × Int × L_i × L_iiis × L_i × L_s × Int × Int × Int × Int × Int × Int × Int × Int × Int × L_i × L_iiis × Int × Int × Int × Int × Int × L_i × L_iiis × L_iiis × Int × Int × Unit
def po1 : List OP := [.shr T_ku8, .int .i64, .int .i64]
def po2 : List OP := [.int .i64, .own T_i]
def po3 : List OP := [.int .i64, .shr T_i]
def po4 : List OP := [.int .i64, .int .i64, .own T_i, .own T_iiis, .own T_i, .own T_s, .int .i64, .int .i64, .int .i64, .int .i64, .int .i64, .int .i64, .int .i64, .int .i64, .int .i64, .own T_i]
def po5 : List OP := [.int .i64, .int .i64, .int .i64, .int .i64, .int .i64, .own T_i]
def po6 : List OP := [.int .i64, .own T_i, .own T_iiLiELiiisELiELsEiiiiiiiiiLiE, .own T_ibiiiiiLiEiiis, .own T_LiiisE, .own T_iiis]
def po7 : List OP := [.int .i64, .shr T_i, .shr T_iiLiELiiisELiELsEiiiiiiiiiLiE, .shr T_ibiiiiiLiEiiis, .shr T_LiiisE, .shr T_iiis]
def po8 : List OP := [.int .i64, .int .i64, .int .i64, .int .i64, .str]
def po9 : List OP := [.int .i64, .int .i64, .int .i64, .str]
def po10 : List OP := [.int .i64, .int .i64, .int .i64, .int .i64, .int .i64, .shr T_i]
def po11 : List OP := [.int .i64, .int .i64, .shr T_i, .shr T_iiis, .shr T_i, .shr T_s, .int .i64, .int .i64, .int .i64, .int .i64, .int .i64, .int .i64, .int .i64, .int .i64, .int .i64, .shr T_i]
def po12 : List OP := [.own T_ibiiiiiLiEiiis]
def po13 : List OP := [.int .i64, .bool, .int .i64, .int .i64, .int .i64, .int .i64, .int .i64, .shr T_i, .int .i64, .int .i64, .int .i64, .str]
def po14 : List OP := [.int .i64, .own T_i, .own T_iiiis]
def po15 : List OP := [.int .i64, .shr T_i, .own T_iiiis]
def po16 : List OP := [.shr T_iiiis]
def tr : Tr := (.node (.node (.node (.node (.node .leaf 3 { size := 1, agg := false, places := [], row := some T_i, elem := none, kind := some (.int .i64), ones := [], eq := false } .leaf) 4 { size := 1, agg := false, places := [], row := some T_b, elem := none, kind := some .bool, ones := [], eq := false } .leaf) 5 { size := 1, agg := false, places := [], row := some T_ku8, elem := none, kind := some (.int .u8), ones := [], eq := false } (.node (.node .leaf 9 { size := 1, agg := false, places := [], row := some T_s, elem := none, kind := some .str, ones := [], eq := false } .leaf) 22 { size := 1, agg := false, places := [], row := some T_Lku8E, elem := some (T_ku8, 1), kind := none, ones := [], eq := false } .leaf)) 24 { size := 1, agg := false, places := [], row := some T_LiE, elem := some (T_i, 8), kind := none, ones := [], eq := false } (.node (.node (.node .leaf 26 { size := 2, agg := true, places := [(0, 1), (1, 1)], row := some T_iLiE, elem := none, kind := none, ones := [0, 1], eq := false } .leaf) 28 { size := 1, agg := false, places := [], row := some T_LsE, elem := some (T_s, 16), kind := none, ones := [], eq := false } .leaf) 30 { size := 1, agg := false, places := [], row := some T_LiiisE, elem := some (T_iiis, 40), kind := none, ones := [], eq := false } (.node .leaf 32 { size := 6, agg := true, places := [(0, 1), (1, 1), (2, 1), (3, 1), (4, 1), (5, 1)], row := some T_iiiiiLiE, elem := none, kind := none, ones := [0, 1, 2, 3, 4, 5], eq := false } .leaf))) 34 { size := 16, agg := true, places := [(0, 1), (1, 2), (3, 1), (4, 1), (5, 1), (6, 1), (7, 1), (8, 1), (9, 1), (10, 6)], row := some T_iiLiELiiisELiELsEiiiiiiiiiLiE, elem := none, kind := none, ones := [0, 2, 3, 4, 5, 6, 7, 8], eq := false } (.node (.node (.node (.node .leaf 42 { size := 4, agg := true, places := [(0, 1), (1, 1), (2, 1), (3, 1)], row := some T_iiis, elem := none, kind := none, ones := [0, 1, 2, 3], eq := true } .leaf) 82 { size := 1, agg := false, places := [], row := some T_LiiLiELiiisELiELsEiiiiiiiiiLiEE, elem := some (T_iiLiELiiisELiELsEiiiiiiiiiLiE, 208), kind := none, ones := [], eq := false, dp := true } .leaf) 83 { size := 1, agg := false, places := [], row := some T_LibiiiiiLiEiiisE, elem := some (T_ibiiiiiLiEiiis, 120), kind := none, ones := [], eq := false, dp := true } (.node (.node .leaf 84 { size := 1, agg := false, places := [], row := some T_LLiiisEE, elem := some (T_LiiisE, 24), kind := none, ones := [], eq := false, dp := true } .leaf) 86 { size := 6, agg := true, places := [(0, 2), (2, 1), (3, 1), (4, 1), (5, 1)], row := some T_iLiELiiLiELiiisELiELsEiiiiiiiiiLiEELibiiiiiLiEiiisELLiiisEELiiisE, elem := none, kind := none, ones := [1, 2, 3, 4], eq := false } .leaf)) 92 { size := 12, agg := true, places := [(0, 1), (1, 1), (2, 6), (8, 4)], row := some T_ibiiiiiLiEiiis, elem := none, kind := none, ones := [0, 1], eq := false } (.node (.node (.node .leaf 105 { size := 3, agg := true, places := [(0, 1), (1, 1), (2, 1)], row := some T_Lku8Eii, elem := none, kind := none, ones := [0, 1, 2], eq := false } .leaf) 116 { size := 1, agg := false, places := [], row := some T_LiiiisE, elem := some (T_iiiis, 48), kind := none, ones := [], eq := false } .leaf) 118 { size := 3, agg := true, places := [(0, 2), (2, 1)], row := some T_iLiELiiiisE, elem := none, kind := none, ones := [1], eq := false } (.node .leaf 137 { size := 5, agg := true, places := [(0, 1), (1, 1), (2, 1), (3, 1), (4, 1)], row := some T_iiiis, elem := none, kind := none, ones := [0, 1, 2, 3, 4], eq := true } .leaf))))
theorem tr_ok : tr.all (recOk Try.prog) = true := by kernel_rfl
theorem eq_ok : EqOk Try.prog (tabOf tr) := eqs_ok (by kernel_rfl)
theorem mixed_ok : Try.prog.follows .mixedOrders = true := by kernel_rfl
noncomputable def TK_ : TK Try.prog := ⟨tr, tr_ok, eq_ok, mixed_ok⟩
def tr0 : Tr := tr.flat
theorem tr0_ok : tr0.all (recOk Try.prog) = true := by kernel_rfl
theorem eq_ok0 : EqOk Try.prog (tabOf tr0) := eqs_ok (by kernel_rfl)
noncomputable def TK_0 : TK Try.prog := ⟨tr0, tr0_ok, eq_ok0, mixed_ok⟩
theorem laid_ok : laidOutB Try.prog = true := by kernel_rfl
theorem own_ok : ownKnob Try.prog.godebug = none := by kernel_rfl
def N.first : N → St
 | .done st => st
 | .fail => []
 | .br _ t _ => t.first
 | .row _ _ _ => []
noncomputable def firstOps (T : Tab) (S : Sems) (ops : List Oper) : List Oper → St → St
 | [], st => st
 | o :: l, st => firstOps T S ops l (guardN T S ops st o).first
noncomputable def firstPl (T : Tab) (S : Sems) (ops : List Oper) : Pl → St → St
 | .nil, st => st
 | .op i _ p, st => match nth ops i with
   | some o => firstPl T S ops p (guardN T S ops st o).first
   | none => st
 | .alt p _, st => firstPl T S ops p st
end Go.TM
