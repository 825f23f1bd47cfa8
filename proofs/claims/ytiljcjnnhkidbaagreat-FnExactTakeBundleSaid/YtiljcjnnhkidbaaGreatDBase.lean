/- What the functions know of the types, checked against the program. -/
import Derived.Test.YtiljcjnnhkidbaaGreatLibWide
import Derived.Test.YtiljcjnnhkidbaaGreatProg
set_option linter.unusedSimpArgs false
set_option linter.unusedVariables false
namespace Go.TM
open Go Go.RowKit Go.Proofs
abbrev aC : RT := (.cons (.int .i64) (.cons (.int .i64) (.cons (.int .i64) (.cons .str .nil))))
abbrev mD : Type := Int × Int × Int × ByteArray × Unit
abbrev ak : Type := List (mD)
abbrev im : RT := (.cons (.int .i64) .nil)
abbrev aG : Type := List (Int × Unit)
abbrev uo : RT := (.cons .str .nil)
abbrev hZ : Type := List (ByteArray × Unit)
abbrev da : RT := (.cons (.int .i64) (.cons (.int .i64) (.cons (.int .i64) (.cons (.sl aC) .nil))))
abbrev bw : Type := Int × Int × Int × ak × Unit
abbrev af : Type := List (bw)
abbrev ca : RT := (.cons (.int .i64) (.cons (.int .i64) (.cons (.sl im) (.cons (.int .i64) (.cons (.int .i64) (.cons (.int .i64) (.cons .str (.cons (.sl im) .nil))))))))
abbrev bF : Type := Int × Int × aG × Int × Int × Int × ByteArray × aG × Unit
abbrev ah : Type := List (bF)
abbrev AM : RT := (.cons (.int .i64) (.cons (.sl im) .nil))
abbrev OL : Type := Int × aG × Unit
abbrev C0 : Type := List (OL)
abbrev sN : RT := (.cons (.sl aC) .nil)
abbrev fe : Type := List (ak × Unit)
abbrev EJ : RT := (.cons (.sl im) (.cons (.sl AM) .nil))
abbrev EK : Type := aG × C0 × Unit
abbrev rC : Type := List (EK)
abbrev AN : RT := (.cons (.int .i64) (.cons (.int .i64) (.cons (.int .i64) (.cons (.int .i64) (.cons (.int .i64) (.cons (.sl im) .nil))))))
abbrev mE : Type := Int × Int × Int × Int × Int × aG × Unit
abbrev iX : RT := (.cons (.int .i64) (.cons (.int .i64) (.cons (.sl im) (.cons (.sl aC) (.cons (.sl im) (.cons (.sl uo) (.cons (.int .i64) (.cons (.int .i64) (.cons (.int .i64) (.cons (.int .i64) (.cons (.int .i64) (.cons (.int .i64) (.cons (.int .i64) (.cons (.int .i64) (.cons (.int .i64) (.cons (.sl im) .nil))))))))))))))))
abbrev bE : Type := Int × Int × aG × ak × aG × hZ × Int × Int × Int × Int × Int × Int × Int × Int × Int × aG × Unit
abbrev cA : RT := (.cons (.int .i64) (.cons .bool (.cons (.int .i64) (.cons (.int .i64) (.cons (.sl im) (.cons (.sl aC) (.cons (.sl im) (.cons (.sl uo) (.cons (.int .i64) (.cons (.int .i64) (.cons (.int .i64) (.cons (.int .i64) (.cons (.int .i64) (.cons (.int .i64) (.cons (.int .i64) (.cons (.int .i64) (.cons (.int .i64) (.cons (.sl im) (.cons (.int .i64) (.cons (.int .i64) (.cons (.int .i64) (.cons (.sl im) (.cons (.sl da) (.cons (.sl ca) .nil))))))))))))))))))))))))
abbrev ae : Type := Int × Bool × Int × Int × aG × ak × aG × hZ × Int × Int × Int × Int × Int × Int × Int × Int × Int × aG × Int × Int × Int × aG × af × ah × Unit
abbrev T_b : RT := (.cons .bool .nil)
abbrev KN : RT := (.cons (.int .u8) .nil)
abbrev TC : RT := (.cons (.sl im) .nil)
abbrev TD : RT := (.cons (.sl uo) .nil)
abbrev vT : RT := (.cons (.sl da) .nil)
abbrev sO : RT := (.cons (.sl ca) .nil)
abbrev Mz : RT := (.cons (.sl KN) .nil)
abbrev F5 : RT := (.cons (.sl sN) .nil)
abbrev U6 : Type := Int × Int × Int × ByteArray × Bool × Unit
abbrev U7 : Type := Int × Int × Int × ak × Bool × Unit
abbrev U8 : Type := Int × Int × aG × ak × aG × hZ × Int × Int × Int × Int × Int × Int × Int × Int × Int × aG × Bool × Unit
abbrev U9 : Type := Int × Bool × Int × Int × aG × ak × aG × hZ × Int × Int × Int × Int × Int × Int × Int × Int × Int × aG × Int × Int × Int × aG × af × ah × Unit
abbrev U10 : Type := Bool × Int × Bool × Int × Int × aG × ak × aG × hZ × Int × Int × Int × Int × Int × Int × Int × Int × Int × aG × Int × Int × Int × aG × af × ah × Unit
abbrev U11 : Type := Int × aG × ak × aG × hZ × aG × Unit
abbrev MA : Type := Int × Bool × Int × Int × aG × ak × aG × hZ × Int × Int × Int × Int × Int × Int × Int × Int × Int × aG × Int × Int × Int × aG × af × ah × Bool × Unit
abbrev U13 : Type := Int × aG × ak × aG × hZ × aG × aG × af × ah × Unit
abbrev Ju : Type := ak × Int × Int × Unit
abbrev Jv : Type := hZ × Int × Int × Unit
abbrev MB : Type := af × Int × Int × Unit
abbrev MC : Type := ah × Int × Int × Unit
abbrev MD : Type := aG × aG × Int × Unit
abbrev RJ : Type := ak × ak × Int × Unit
abbrev RK : Type := hZ × hZ × Int × Unit
abbrev ME : Type := af × af × Int × Unit
abbrev MF : Type := ah × ah × Int × Unit
abbrev Y3 : Type := Int × aG × Int × Unit
abbrev MG : Type := aG × Int × Int × Unit
abbrev Y4 : Type := aG × hZ × Int × Unit
abbrev Y5 : Type := ak × Int × Int × Int × Int × ByteArray × Int × Unit
abbrev Y6 : Type := Int × Int × Int × Int × Int × aG × Int × Unit
abbrev Y7 : Type := Int × Bool × Int × Int × aG × ak × aG × hZ × Int × Int × Int × Int × Int × Int × Int × Int × Int × aG × Int × Int × Int × aG × af × ah × Int × Unit
abbrev Y8 : Type := af × Int × Int × aG × Int × Int × Int × ak × Int × Unit
abbrev OM : Type := af × Int × aG × Int × Unit
abbrev ON : Type := af × Int × Int × aG × aG × Int × Int × Int × ak × Int × Unit
abbrev Y9 : Type := ak × Int × Int × Int × ByteArray × ak × ak × Int × Unit
abbrev U33 : Type := ak × Int × Int × Int × ByteArray × ak × Unit
abbrev Za : Type := ak × Int × Int × Int × ByteArray × ak × Int × Unit
abbrev Zb : Type := fe × ak × Int × Int × Unit
abbrev TE : Type := fe × ak × Int × Unit
abbrev RL : Type := ak × ak × Int × Int × Unit
abbrev OO : Type := af × Int × Int × aG × ak × fe × aG × Int × Unit
abbrev TF : Type := Int × ak × fe × Unit
abbrev Zc : Type := Int × ak × ak × Int × Unit
abbrev U41 : Type := Int × Int × aG × Unit
abbrev Zd : Type := Int × Bool × Int × Int × aG × ak × aG × hZ × Int × Int × Int × Int × Int × Int × Int × Int × Int × aG × Int × Int × Int × aG × af × ah × Int × aG × ak × Int × Unit
abbrev Ze : Type := af × af × Int × Int × Unit
abbrev Zf : Type := ah × ah × Int × Int × Unit
abbrev Zg : Type := aG × Int × Int × Int × Unit
abbrev Zh : Type := Int × aG × aG × Int × Int × Unit
abbrev Zi : Type := Int × Int × Int × Int × ByteArray × ak × Int × Int × Unit
abbrev Zj : Type := Int × Int × Int × Int × Int × aG × aG × Int × Int × Unit
abbrev Zk : Type := Int × Int × aG × ak × aG × hZ × Int × Int × Int × Int × Int × Int × Int × Int × Int × aG × aG × Int × Int × Unit
abbrev Zl : Type := Int × Bool × Int × Int × aG × ak × aG × hZ × Int × Int × Int × Int × Int × Int × Int × Int × Int × aG × Int × Int × Int × aG × af × ah × af × Int × Int × Unit
abbrev Zm : Type := Int × Int × aG × Int × Int × Int × ak × af × Int × Int × Unit
abbrev Zn : Type := af × rC × Int × Int × Unit
abbrev Zo : Type := af × C0 × aG × Int × Int × Unit
abbrev Zp : Type := Int × Bool × Int × Int × aG × ak × aG × hZ × Int × Int × Int × Int × Int × Int × Int × Int × Int × aG × Int × Int × Int × aG × af × ah × ak × Int × Int × Unit
abbrev Zq : Type := af × Int × Int × aG × Int × Int × Int × ak × aG × aG × Int × Int × Unit
abbrev TG : Type := ak × Int × Int × Int × ByteArray × Int × Unit
abbrev Zr : Type := ak × fe × Int × Int × ak × Int × Int × Unit
abbrev TH : Type := ak × fe × Int × Int × Unit
abbrev RM : Type := Int × ak × ak × Int × Int × Unit
abbrev Zs : Type := af × Int × Int × aG × fe × aG × Int × Int × Unit
abbrev U61 : Type := Int × Bool × Int × Int × aG × ak × aG × hZ × Int × Int × Int × Int × Int × Int × Int × Int × Int × aG × Int × Int × Int × aG × af × ah × Int × Int × Int × ak × Unit
def wu : List OP := [.int .i64, .shr im]
def Bi : List OP := [.int .i64, .int .i64, .int .i64, .str]
def Fi : List OP := [.int .i64, .int .i64, .int .i64, .int .i64, .int .i64, .shr im]
def Ig : List OP := [.int .i64, .int .i64, .shr im, .shr aC, .shr im, .shr uo, .int .i64, .int .i64, .int .i64, .int .i64, .int .i64, .int .i64, .int .i64, .int .i64, .int .i64, .shr im]
def DI : List OP := [.int .i64, .int .i64, .int .i64, .shr aC]
def vB : List OP := [.shr da]
def TI : List OP := [.int .i64, .int .i64, .shr im, .int .i64, .int .i64, .int .i64, .str, .shr im]
def Hg : List OP := [.shr ca]
def EL : List OP := [.int .i64, .bool, .int .i64, .int .i64, .shr im, .shr aC, .shr im, .shr uo, .int .i64, .int .i64, .int .i64, .int .i64, .int .i64, .int .i64, .int .i64, .int .i64, .int .i64, .shr im, .int .i64, .int .i64, .int .i64, .shr im, .shr da, .shr ca]
def MH : List OP := [.int .i64, .own im]
def MI : List OP := [.int .i64, .int .i64, .int .i64, .int .i64, .int .i64, .own im]
def Ih : List OP := [.int .i64, .int .i64, .own im, .own aC, .own im, .own uo, .int .i64, .int .i64, .int .i64, .int .i64, .int .i64, .int .i64, .int .i64, .int .i64, .int .i64, .own im]
def EM : List OP := [.int .i64, .int .i64, .int .i64, .own aC]
def C1 : List OP := [.own da .dp]
def TJ : List OP := [.int .i64, .int .i64, .own im, .int .i64, .int .i64, .int .i64, .str, .own im]
def C2 : List OP := [.own ca .dp]
def EN : List OP := [.int .i64, .bool, .int .i64, .int .i64, .own im, .own aC, .own im, .own uo, .int .i64, .int .i64, .int .i64, .int .i64, .int .i64, .int .i64, .int .i64, .int .i64, .int .i64, .own im, .int .i64, .int .i64, .int .i64, .own im, .own da .dp, .own ca .dp]
def EO : List OP := [.shr sN]
def MJ : List OP := [.own sN]
def TL : List OP := [.int .i64, .bool, .int .i64, .int .i64, .shr im, .own aC, .own im, .own uo, .int .i64, .int .i64, .int .i64, .int .i64, .int .i64, .int .i64, .int .i64, .int .i64, .int .i64, .own im, .int .i64, .int .i64, .int .i64, .own im, .own da .dp, .own ca .dp]
def OQ : List OP := [.fn 170 EJ]
def OR : List OP := [.int .i64, .bool, .int .i64, .int .i64, .shr im, .own aC, .own im, .own uo, .int .i64, .int .i64, .int .i64, .int .i64, .int .i64, .int .i64, .int .i64, .int .i64, .int .i64, .own im, .int .i64, .int .i64, .int .i64, .shr im, .own da .dp, .own ca .dp]
def tr : Tr := (.node (.node (.node (.node (.node .leaf 3 { size := 1, agg := false, ch := [], row := some im, elem := none, kind := some (.int .i64), jc := [], eq := false } .leaf) 4 { size := 1, agg := false, ch := [], row := some T_b, elem := none, kind := some .bool, jc := [], eq := false } (.node .leaf 5 { size := 1, agg := false, ch := [], row := some KN, elem := none, kind := some (.int .u8), jc := [], eq := false } .leaf)) 9 { size := 1, agg := false, ch := [], row := some uo, elem := none, kind := some .str, jc := [], eq := false } (.node (.node .leaf 22 { size := 1, agg := false, ch := [], row := some TC, elem := some (im, 8), kind := none, jc := [], eq := false } .leaf) 24 { size := 2, agg := true, ch := [(0, 1), (1, 1)], row := some AM, elem := none, kind := none, jc := [0, 1], eq := false } (.node .leaf 25 { size := 1, agg := false, ch := [], row := some sN, elem := some (aC, 40), kind := none, jc := [], eq := false } .leaf))) 26 { size := 1, agg := false, ch := [], row := some TD, elem := some (uo, 16), kind := none, jc := [], eq := false } (.node (.node (.node .leaf 28 { size := 6, agg := true, ch := [(0, 1), (1, 1), (2, 1), (3, 1), (4, 1), (5, 1)], row := some AN, elem := none, kind := none, jc := [0, 1, 2, 3, 4, 5], eq := false } .leaf) 30 { size := 16, agg := true, ch := [(0, 1), (1, 2), (3, 1), (4, 1), (5, 1), (6, 1), (7, 1), (8, 1), (9, 1), (10, 6)], row := some iX, elem := none, kind := none, jc := [0, 2, 3, 4, 5, 6, 7, 8], eq := false } (.node .leaf 31 { size := 1, agg := false, ch := [], row := some vT, elem := some (da, 48), kind := none, jc := [], eq := false } .leaf)) 32 { size := 1, agg := false, ch := [], row := some sO, elem := some (ca, 104), kind := none, jc := [], eq := false } (.node (.node .leaf 34 { size := 24, agg := true, ch := [(0, 1), (1, 1), (2, 16), (18, 1), (19, 1), (20, 2), (22, 1), (23, 1)], row := some cA, elem := none, kind := none, jc := [0, 1, 3, 4, 6, 7], eq := false } .leaf) 37 { size := 2, agg := true, ch := [(0, 1), (1, 1)], row := some AM, elem := none, kind := none, jc := [0, 1], eq := false } .leaf))) 38 { size := 1, agg := false, ch := [], row := some sN, elem := some (aC, 40), kind := none, jc := [], eq := false } (.node (.node (.node (.node .leaf 39 { size := 6, agg := true, ch := [(0, 1), (1, 1), (2, 1), (3, 1), (4, 1), (5, 1)], row := some AN, elem := none, kind := none, jc := [0, 1, 2, 3, 4, 5], eq := false } .leaf) 41 { size := 16, agg := true, ch := [(0, 1), (1, 2), (3, 1), (4, 1), (5, 1), (6, 1), (7, 1), (8, 1), (9, 1), (10, 6)], row := some iX, elem := none, kind := none, jc := [0, 2, 3, 4, 5, 6, 7, 8], eq := false } (.node .leaf 42 { size := 1, agg := false, ch := [], row := some vT, elem := some (da, 48), kind := none, jc := [], eq := false, dp := true } .leaf)) 43 { size := 1, agg := false, ch := [], row := some sO, elem := some (ca, 104), kind := none, jc := [], eq := false, dp := true } (.node (.node .leaf 45 { size := 24, agg := true, ch := [(0, 1), (1, 1), (2, 16), (18, 1), (19, 1), (20, 2), (22, 1), (23, 1)], row := some cA, elem := none, kind := none, jc := [0, 1, 3, 4, 6, 7], eq := false } .leaf) 58 { size := 4, agg := true, ch := [(0, 1), (1, 1), (2, 1), (3, 1)], row := some da, elem := none, kind := none, jc := [0, 1, 2, 3], eq := false } .leaf)) 63 { size := 4, agg := true, ch := [(0, 1), (1, 1), (2, 1), (3, 1)], row := some da, elem := none, kind := none, jc := [0, 1, 2, 3], eq := false } (.node (.node (.node .leaf 78 { size := 4, agg := true, ch := [(0, 1), (1, 1), (2, 1), (3, 1)], row := some aC, elem := none, kind := none, jc := [0, 1, 2, 3], eq := true } .leaf) 81 { size := 4, agg := true, ch := [(0, 1), (1, 1), (2, 1), (3, 1)], row := some aC, elem := none, kind := none, jc := [0, 1, 2, 3], eq := true } (.node .leaf 84 { size := 1, agg := false, ch := [], row := some Mz, elem := some (KN, 1), kind := none, jc := [], eq := false } .leaf)) 101 { size := 8, agg := true, ch := [(0, 1), (1, 2), (3, 4), (7, 1)], row := some ca, elem := none, kind := none, jc := [0, 3], eq := false } (.node (.node .leaf 142 { size := 1, agg := false, ch := [], row := some F5, elem := some (sN, 24), kind := none, jc := [], eq := false, dp := true } .leaf) 183 { size := 8, agg := true, ch := [(0, 1), (1, 2), (3, 4), (7, 1)], row := some ca, elem := none, kind := none, jc := [0, 3], eq := false } .leaf))))
theorem NB : tr.all (xp Tryz.prog) = true := by kernel_rfl
theorem TN : wc Tryz.prog (og tr) := F0 (by kernel_rfl)
theorem AO : Tryz.prog.follows .mixedOrders = true := by kernel_rfl
noncomputable def dO : TK Tryz.prog := ⟨tr, NB, TN, AO⟩
def Zt : Tr := tr.flat
theorem OS : Zt.all (xp Tryz.prog) = true := by kernel_rfl
theorem OT : wc Tryz.prog (og Zt) := F0 (by kernel_rfl)
noncomputable def MK : TK Tryz.prog := ⟨Zt, OS, OT, AO⟩
def Zu : Tr := tr.uu [37]
theorem OU : Zu.all (xp Tryz.prog) = true := by kernel_rfl
theorem OW : wc Tryz.prog (og Zu) := F0 (by kernel_rfl)
noncomputable def Zv : TK Tryz.prog := ⟨Zu, OU, OW, AO⟩
theorem ML : laidOutB Tryz.prog = true := by kernel_rfl
theorem OX : ownKnob Tryz.prog.godebug = none := by kernel_rfl
def N.first : N → St
 | .done st => st
 | .fail => []
 | .br _ t _ => t.first
 | .row _ _ _ => []
end Go.TM
