/- What the functions know of the types, checked against the program. -/
import Derived.Test.YtiljcjnnhkidbaaGreatLibSort
import Derived.Test.YtiljcjnnhkidbaaGreatProg
namespace Go.TM
open Go Go.RowKit Go.Proofs
abbrev ax : RT := (.cons (.int .i64) (.cons (.int .i64) (.cons (.int .i64) (.cons .str .nil))))
abbrev mZ : Type := Int × Int × Int × ByteArray × Unit
abbrev ah : Type := List (mZ)
abbrev iE : RT := (.cons (.int .i64) .nil)
abbrev au : Type := List (Int × Unit)
abbrev uA : RT := (.cons .str .nil)
abbrev dk : Type := List (ByteArray × Unit)
abbrev dS : RT := (.cons (.int .i64) (.cons (.int .i64) (.cons (.int .i64) (.cons (.sl ax) .nil))))
abbrev cZ : Type := Int × Int × Int × ah × Unit
abbrev ak : Type := List (cZ)
abbrev cr : RT := (.cons (.int .i64) (.cons (.int .i64) (.cons (.sl iE) (.cons (.int .i64) (.cons (.int .i64) (.cons (.int .i64) (.cons .str (.cons (.sl iE) .nil))))))))
abbrev bR : Type := Int × Int × au × Int × Int × Int × ByteArray × au × Unit
abbrev ai : Type := List (bR)
abbrev Oe : RT := (.cons (.int .i64) (.cons (.sl iE) .nil))
abbrev DJ : RT := (.cons (.int .i64) (.cons (.int .i64) (.cons (.int .i64) (.cons (.int .i64) (.cons (.int .i64) (.cons (.sl iE) .nil))))))
abbrev ir : Type := Int × Int × Int × Int × Int × au × Unit
abbrev jz : RT := (.cons (.int .i64) (.cons (.int .i64) (.cons (.sl iE) (.cons (.sl ax) (.cons (.sl iE) (.cons (.sl uA) (.cons (.int .i64) (.cons (.int .i64) (.cons (.int .i64) (.cons (.int .i64) (.cons (.int .i64) (.cons (.int .i64) (.cons (.int .i64) (.cons (.int .i64) (.cons (.int .i64) (.cons (.sl iE) .nil))))))))))))))))
abbrev bP : Type := Int × Int × au × ah × au × dk × Int × Int × Int × Int × Int × Int × Int × Int × Int × au × Unit
abbrev cB : RT := (.cons (.int .i64) (.cons .bool (.cons (.int .i64) (.cons (.int .i64) (.cons (.sl iE) (.cons (.sl ax) (.cons (.sl iE) (.cons (.sl uA) (.cons (.int .i64) (.cons (.int .i64) (.cons (.int .i64) (.cons (.int .i64) (.cons (.int .i64) (.cons (.int .i64) (.cons (.int .i64) (.cons (.int .i64) (.cons (.int .i64) (.cons (.sl iE) (.cons (.int .i64) (.cons (.int .i64) (.cons (.int .i64) (.cons (.sl iE) (.cons (.sl dS) (.cons (.sl cr) .nil))))))))))))))))))))))))
abbrev aj : Type := Int × Bool × Int × Int × au × ah × au × dk × Int × Int × Int × Int × Int × Int × Int × Int × Int × au × Int × Int × Int × au × ak × ai × Unit
abbrev T_b : RT := (.cons .bool .nil)
abbrev Of : RT := (.cons (.int .u8) .nil)
abbrev XR : RT := (.cons (.sl iE) .nil)
abbrev H5 : RT := (.cons (.sl ax) .nil)
abbrev XS : RT := (.cons (.sl uA) .nil)
abbrev xQ : RT := (.cons (.sl dS) .nil)
abbrev tD : RT := (.cons (.sl cr) .nil)
abbrev P6 : RT := (.cons (.sl Of) .nil)
abbrev U4 : Type := Int × Int × Int × Int × Int × au × Unit
abbrev U6 : Type := Int × Int × Int × ByteArray × Bool × Unit
abbrev U7 : Type := Int × Int × Int × Int × Int × au × ah × Unit
abbrev U8 : Type := Int × Int × au × ah × au × dk × Int × Int × Int × Int × Int × Int × Int × Int × Int × au × ah × Unit
abbrev U9 : Type := Int × Bool × Int × Int × au × ah × au × dk × Int × Int × Int × Int × Int × Int × Int × Int × Int × au × Int × Int × Int × au × ak × ai × Unit
abbrev Og : Type := Int × Int × au × ah × au × dk × Int × Int × Int × Int × Int × Int × Int × Int × Int × au × ah × Int × Int × Int × Int × Int × au × Bool × Unit
abbrev U11 : Type := Bool × Int × Bool × Int × Int × au × ah × au × dk × Int × Int × Int × Int × Int × Int × Int × Int × Int × au × Int × Int × Int × au × ak × ai × Unit
abbrev U12 : Type := Int × Int × au × ah × au × dk × Int × Int × Int × Int × Int × Int × Int × Int × Int × au × ah × Int × Int × Int × Int × Int × Int × au × Bool × Unit
abbrev U13 : Type := Int × Bool × Int × Int × au × ah × au × dk × Int × Int × Int × Int × Int × Int × Int × Int × Int × au × Int × Int × Int × au × ak × ai × ah × Int × Int × Int × Int × Int × Int × au × Bool × Unit
abbrev U14 : Type := Int × au × ah × au × dk × au × Unit
abbrev Pv : Type := Int × Bool × Int × Int × au × ah × au × dk × Int × Int × Int × Int × Int × Int × Int × Int × Int × au × Int × Int × Int × au × ak × ai × ah × Int × Int × Int × Int × Int × au × Bool × Unit
abbrev U16 : Type := Int × au × ah × au × dk × au × au × ak × ai × Unit
abbrev M9 : Type := ah × Int × Int × Unit
abbrev Na : Type := dk × Int × Int × Unit
abbrev P7 : Type := ak × Int × Int × Unit
abbrev P8 : Type := ai × Int × Int × Unit
abbrev P9 : Type := au × au × Int × Unit
abbrev We : Type := ah × ah × Int × Unit
abbrev Wf : Type := dk × dk × Int × Unit
abbrev Qa : Type := ak × ak × Int × Unit
abbrev Qb : Type := ai × ai × Int × Unit
abbrev U26 : Type := Int × au × Int × Unit
abbrev Qc : Type := au × Int × Int × Unit
abbrev U28 : Type := au × dk × Int × Unit
abbrev U29 : Type := ah × Int × Int × Int × Int × ByteArray × Int × Unit
abbrev U30 : Type := Int × Int × Int × Int × Int × au × Int × Unit
abbrev U31 : Type := Int × Bool × Int × Int × au × ah × au × dk × Int × Int × Int × Int × Int × Int × Int × Int × Int × au × Int × Int × Int × au × ak × ai × Int × Unit
abbrev U32 : Type := ah × Int × Int × Int × Int × Int × au × ah × Int × Unit
abbrev U33 : Type := Int × au × dk × Int × Int × Int × Int × Int × au × Int × Int × Int × Int × Int × au × Int × Int × Int × Int × Int × au × ah × Int × Unit
abbrev U34 : Type := Int × Int × Int × Int × Int × au × Int × Int × Int × Int × Int × au × Int × Int × Int × Int × Int × au × ah × Unit
abbrev U35 : Type := ah × Int × Int × Int × ByteArray × ah × ah × Int × Unit
abbrev U36 : Type := ah × Int × Int × Int × ByteArray × ah × Unit
abbrev U37 : Type := ah × Int × Int × Int × ByteArray × ah × Int × Unit
abbrev Wg : Type := ah × Int × au × Int × Unit
abbrev U39 : Type := ah × Int × Int × Int × Int × Int × au × Int × Int × Int × Int × Int × au × Int × Int × Int × Int × Int × au × au × Int × Unit
abbrev U40 : Type := Int × Int × Int × Int × Int × au × Int × Int × Int × Int × Int × au × Unit
abbrev U41 : Type := Int × Int × au × ah × au × dk × Int × Int × Int × Int × Int × Int × Int × Int × Int × au × Int × Int × Int × Int × Int × au × Int × Int × au × ah × au × dk × Int × Int × Int × Int × Int × Int × Int × Int × Int × au × Int × Int × Int × Int × Int × au × Int × Int × au × ah × au × dk × Int × Int × Int × Int × Int × Int × Int × Int × Int × au × ah × Int × Int × Int × Int × Int × au × ah × Int × Unit
abbrev U42 : Type := Int × Int × au × ah × au × dk × Int × Int × Int × Int × Int × Int × Int × Int × Int × au × Int × Int × Int × Int × Int × au × Int × Int × au × ah × au × dk × Int × Int × Int × Int × Int × Int × Int × Int × Int × au × Int × Int × Int × Int × Int × au × Int × Int × au × ah × au × dk × Int × Int × Int × Int × Int × Int × Int × Int × Int × au × ah × Int × Int × Int × Int × Int × au × ah × Unit
abbrev U43 : Type := Int × Int × au × ah × au × dk × Int × Int × Int × Int × Int × Int × Int × Int × Int × au × Int × Int × Int × Int × Int × au × Unit
abbrev U44 : Type := Int × Int × au × ah × au × dk × Int × Int × Int × Int × Int × Int × Int × Int × Int × au × Int × Int × au × ah × au × dk × Int × Int × Int × Int × Int × Int × Int × Int × Int × au × Int × Int × au × ah × au × dk × Int × Int × Int × Int × Int × Int × Int × Int × Int × au × ah × Int × Unit
abbrev U45 : Type := Int × Int × au × ah × au × dk × Int × Int × Int × Int × Int × Int × Int × Int × Int × au × Int × Int × au × ah × au × dk × Int × Int × Int × Int × Int × Int × Int × Int × Int × au × ah × Unit
abbrev U46 : Type := Int × Bool × Int × Int × au × ah × au × dk × Int × Int × Int × Int × Int × Int × Int × Int × Int × au × Int × Int × Int × au × ak × ai × Int × Int × au × ah × au × dk × Int × Int × Int × Int × Int × Int × Int × Int × Int × au × ah × Int × Unit
abbrev U47 : Type := Int × Bool × Int × Int × au × ah × au × dk × Int × Int × Int × Int × Int × Int × Int × Int × Int × au × Int × Int × Int × au × ak × ai × Int × Int × Int × Int × Int × au × Unit
abbrev U48 : Type := ak × ak × Int × Int × Unit
abbrev U49 : Type := ai × ai × Int × Int × Unit
abbrev U50 : Type := au × Int × Int × Int × Unit
abbrev U51 : Type := Int × au × au × Int × Int × Unit
abbrev U52 : Type := ah × ah × Int × Int × Unit
abbrev U53 : Type := Int × Int × Int × Int × ByteArray × ah × Int × Int × Unit
abbrev U54 : Type := Int × Int × Int × Int × Int × au × au × Int × Int × Unit
abbrev U55 : Type := Int × Int × au × ah × au × dk × Int × Int × Int × Int × Int × Int × Int × Int × Int × au × au × Int × Int × Unit
abbrev U56 : Type := Int × Bool × Int × Int × au × ah × au × dk × Int × Int × Int × Int × Int × Int × Int × Int × Int × au × Int × Int × Int × au × ak × ai × ak × Int × Int × Unit
abbrev U57 : Type := Int × Bool × Int × Int × au × ah × au × dk × Int × Int × Int × Int × Int × Int × Int × Int × Int × au × Int × Int × Int × au × ak × ai × Bool × Unit
abbrev U58 : Type := Int × Int × Int × Int × Int × au × ah × ah × Int × Int × Unit
abbrev U59 : Type := Int × au × Int × Int × Int × Int × Int × au × Int × Int × Int × Int × Int × au × Int × Int × Int × Int × Int × au × ah × dk × Int × Int × Unit
abbrev XT : Type := ah × Int × Int × Int × ByteArray × Int × Unit
abbrev U61 : Type := ah × Int × Int × Int × Int × Int × au × Int × Int × Int × Int × Int × au × au × au × Int × Int × Unit
abbrev U62 : Type := Int × Int × Int × Int × Int × au × Int × Int × Int × Int × Int × au × au × Unit
abbrev U63 : Type := Int × Int × au × ah × au × dk × Int × Int × Int × Int × Int × Int × Int × Int × Int × au × Int × Int × Int × Int × Int × au × Int × Int × au × ah × au × dk × Int × Int × Int × Int × Int × Int × Int × Int × Int × au × Int × Int × Int × Int × Int × au × Int × Int × au × ah × au × dk × Int × Int × Int × Int × Int × Int × Int × Int × Int × au × ah × Int × Int × Int × Int × Int × au × ah × ah × Int × Int × Unit
abbrev U64 : Type := Int × Int × au × ah × au × dk × Int × Int × Int × Int × Int × Int × Int × Int × Int × au × Int × Int × au × ah × au × dk × Int × Int × Int × Int × Int × Int × Int × Int × Int × au × Int × Int × au × ah × au × dk × Int × Int × Int × Int × Int × Int × Int × Int × Int × au × ah × Unit
abbrev U65 : Type := Int × Bool × Int × Int × au × ah × au × dk × Int × Int × Int × Int × Int × Int × Int × Int × Int × au × Int × Int × Int × au × ak × ai × ah × Int × Int × Unit
abbrev U66 : Type := Int × Bool × Int × Int × au × ah × au × dk × Int × Int × Int × Int × Int × Int × Int × Int × Int × au × Int × Int × Int × au × ak × ai × Int × Int × Int × Int × Int × au × Int × Bool × Int × Int × au × ah × au × dk × Int × Int × Int × Int × Int × Int × Int × Int × Int × au × Int × Int × Int × au × ak × ai × ah × Int × Int × Int × Int × Int × au × Bool × Unit
def L5 : List OP := [.int .i64, .shr iE]
def Ey : List OP := [.int .i64, .int .i64, .int .i64, .str]
def tf : List OP := [.int .i64, .int .i64, .int .i64, .int .i64, .int .i64, .shr iE]
def Ct : List OP := [.int .i64, .int .i64, .shr iE, .shr ax, .shr iE, .shr uA, .int .i64, .int .i64, .int .i64, .int .i64, .int .i64, .int .i64, .int .i64, .int .i64, .int .i64, .shr iE]
def RE : List OP := [.int .i64, .int .i64, .int .i64, .shr ax]
def JH : List OP := [.shr dS]
def XU : List OP := [.int .i64, .int .i64, .shr iE, .int .i64, .int .i64, .int .i64, .str, .shr iE]
def K0 : List OP := [.shr cr]
def EJ : List OP := [.int .i64, .bool, .int .i64, .int .i64, .shr iE, .shr ax, .shr iE, .shr uA, .int .i64, .int .i64, .int .i64, .int .i64, .int .i64, .int .i64, .int .i64, .int .i64, .int .i64, .shr iE, .int .i64, .int .i64, .int .i64, .shr iE, .shr dS, .shr cr]
def Qd : List OP := [.int .i64, .own iE]
def jn : List OP := [.int .i64, .int .i64, .int .i64, .int .i64, .int .i64, .own iE]
def qn : List OP := [.int .i64, .int .i64, .own iE, .own ax, .own iE, .own uA, .int .i64, .int .i64, .int .i64, .int .i64, .int .i64, .int .i64, .int .i64, .int .i64, .int .i64, .own iE]
def SM : List OP := [.int .i64, .int .i64, .int .i64, .own ax]
def Gq : List OP := [.own dS .dp]
def XW : List OP := [.int .i64, .int .i64, .own iE, .int .i64, .int .i64, .int .i64, .str, .own iE]
def Gr : List OP := [.own cr .dp]
def Ck : List OP := [.int .i64, .bool, .int .i64, .int .i64, .own iE, .own ax, .own iE, .own uA, .int .i64, .int .i64, .int .i64, .int .i64, .int .i64, .int .i64, .int .i64, .int .i64, .int .i64, .own iE, .int .i64, .int .i64, .int .i64, .own iE, .own dS .dp, .own cr .dp]
def L6 : List OP := [.int .i64, .bool, .int .i64, .int .i64, .shr iE, .shr ax, .shr iE, .shr uA, .int .i64, .int .i64, .int .i64, .int .i64, .int .i64, .int .i64, .int .i64, .int .i64, .int .i64, .shr iE, .int .i64, .int .i64, .int .i64, .shr iE, .shr dS, .own cr .dp]
def tr : Tr := (.node (.node (.node (.node (.node .leaf 3 { size := 1, agg := false, cm := [], row := some iE, elem := none, kind := some (.int .i64), j2 := [], eq := false } .leaf) 4 { size := 1, agg := false, cm := [], row := some T_b, elem := none, kind := some .bool, j2 := [], eq := false } (.node .leaf 5 { size := 1, agg := false, cm := [], row := some Of, elem := none, kind := some (.int .u8), j2 := [], eq := false } .leaf)) 9 { size := 1, agg := false, cm := [], row := some uA, elem := none, kind := some .str, j2 := [], eq := false } (.node (.node .leaf 22 { size := 1, agg := false, cm := [], row := some XR, elem := some (iE, 8), kind := none, j2 := [], eq := false } .leaf) 24 { size := 2, agg := true, cm := [(0, 1), (1, 1)], row := some Oe, elem := none, kind := none, j2 := [0, 1], eq := false } .leaf)) 25 { size := 1, agg := false, cm := [], row := some H5, elem := some (ax, 40), kind := none, j2 := [], eq := false } (.node (.node (.node .leaf 26 { size := 1, agg := false, cm := [], row := some XS, elem := some (uA, 16), kind := none, j2 := [], eq := false } .leaf) 28 { size := 6, agg := true, cm := [(0, 1), (1, 1), (2, 1), (3, 1), (4, 1), (5, 1)], row := some DJ, elem := none, kind := none, j2 := [0, 1, 2, 3, 4, 5], eq := false } (.node .leaf 30 { size := 16, agg := true, cm := [(0, 1), (1, 2), (3, 1), (4, 1), (5, 1), (6, 1), (7, 1), (8, 1), (9, 1), (10, 6)], row := some jz, elem := none, kind := none, j2 := [0, 2, 3, 4, 5, 6, 7, 8], eq := false } .leaf)) 31 { size := 1, agg := false, cm := [], row := some xQ, elem := some (dS, 48), kind := none, j2 := [], eq := false } (.node (.node .leaf 32 { size := 1, agg := false, cm := [], row := some tD, elem := some (cr, 104), kind := none, j2 := [], eq := false } .leaf) 34 { size := 24, agg := true, cm := [(0, 1), (1, 1), (2, 16), (18, 1), (19, 1), (20, 2), (22, 1), (23, 1)], row := some cB, elem := none, kind := none, j2 := [0, 1, 3, 4, 6, 7], eq := false } .leaf))) 37 { size := 2, agg := true, cm := [(0, 1), (1, 1)], row := some Oe, elem := none, kind := none, j2 := [0, 1], eq := false } (.node (.node (.node (.node .leaf 38 { size := 1, agg := false, cm := [], row := some H5, elem := some (ax, 40), kind := none, j2 := [], eq := false } .leaf) 39 { size := 6, agg := true, cm := [(0, 1), (1, 1), (2, 1), (3, 1), (4, 1), (5, 1)], row := some DJ, elem := none, kind := none, j2 := [0, 1, 2, 3, 4, 5], eq := false } (.node .leaf 41 { size := 16, agg := true, cm := [(0, 1), (1, 2), (3, 1), (4, 1), (5, 1), (6, 1), (7, 1), (8, 1), (9, 1), (10, 6)], row := some jz, elem := none, kind := none, j2 := [0, 2, 3, 4, 5, 6, 7, 8], eq := false } .leaf)) 42 { size := 1, agg := false, cm := [], row := some xQ, elem := some (dS, 48), kind := none, j2 := [], eq := false, dp := true } (.node (.node .leaf 43 { size := 1, agg := false, cm := [], row := some tD, elem := some (cr, 104), kind := none, j2 := [], eq := false, dp := true } .leaf) 45 { size := 24, agg := true, cm := [(0, 1), (1, 1), (2, 16), (18, 1), (19, 1), (20, 2), (22, 1), (23, 1)], row := some cB, elem := none, kind := none, j2 := [0, 1, 3, 4, 6, 7], eq := false } .leaf)) 58 { size := 4, agg := true, cm := [(0, 1), (1, 1), (2, 1), (3, 1)], row := some dS, elem := none, kind := none, j2 := [0, 1, 2, 3], eq := false } (.node (.node (.node .leaf 63 { size := 4, agg := true, cm := [(0, 1), (1, 1), (2, 1), (3, 1)], row := some dS, elem := none, kind := none, j2 := [0, 1, 2, 3], eq := false } .leaf) 78 { size := 4, agg := true, cm := [(0, 1), (1, 1), (2, 1), (3, 1)], row := some ax, elem := none, kind := none, j2 := [0, 1, 2, 3], eq := true } (.node .leaf 81 { size := 4, agg := true, cm := [(0, 1), (1, 1), (2, 1), (3, 1)], row := some ax, elem := none, kind := none, j2 := [0, 1, 2, 3], eq := true } .leaf)) 84 { size := 1, agg := false, cm := [], row := some P6, elem := some (Of, 1), kind := none, j2 := [], eq := false } (.node (.node .leaf 101 { size := 8, agg := true, cm := [(0, 1), (1, 2), (3, 4), (7, 1)], row := some cr, elem := none, kind := none, j2 := [0, 3], eq := false } .leaf) 183 { size := 8, agg := true, cm := [(0, 1), (1, 2), (3, 4), (7, 1)], row := some cr, elem := none, kind := none, j2 := [0, 3], eq := false } .leaf))))
theorem RF : tr.all (xP Tryz.prog) = true := by kernel_rfl
theorem XX : xq Tryz.prog (la tr) := SI (by kernel_rfl)
theorem Oh : Tryz.prog.follows .mixedOrders = true := by kernel_rfl
noncomputable def ef : TK Tryz.prog := ⟨tr, RF, XX, Oh⟩
theorem Qe : laidOutB Tryz.prog = true := by kernel_rfl
theorem SN : ownKnob Tryz.prog.godebug = none := by kernel_rfl
def N.first : N → St
 | .done st => st
 | .fail => []
 | .br _ t _ => t.first
 | .row _ _ _ => []
end Go.TM
