/- What the functions answer, as terms; their contracts. -/
import Derived.Test.YtjockklbhgkiiaaF1
set_option linter.unusedSimpArgs false
set_option linter.unusedVariables false
namespace Go.TM
open Go Go.RowKit Go.Proofs

/-! ### f14: impl.Hear -/
noncomputable def code14 : Code := match Try.f14.body with | some c => c | none => .skip
def ps14 : List AP := [.val true [.int .i64, .int .i64, .shr (.cons (.int .i64) .nil), .shr (.cons (.int .i64) (.cons (.int .i64) (.cons (.int .i64) (.cons .str .nil)))), .shr (.cons (.int .i64) .nil), .shr (.cons .str .nil), .int .i64, .int .i64, .int .i64, .int .i64, .int .i64, .int .i64, .int .i64, .int .i64, .int .i64, .shr (.cons (.int .i64) .nil)]]
def rs14 : List RP := [{ src := .cell 2, agg := true, ps := [.int .i64, .int .i64, .own (.cons (.int .i64) .nil), .own (.cons (.int .i64) (.cons (.int .i64) (.cons (.int .i64) (.cons .str .nil)))), .own (.cons (.int .i64) .nil), .own (.cons .str .nil), .int .i64, .int .i64, .int .i64, .int .i64, .int .i64, .int .i64, .int .i64, .int .i64, .int .i64, .own (.cons (.int .i64) .nil)] }, { src := .tmp 3, agg := false, ps := [.own (.cons (.int .i64) (.cons (.int .i64) (.cons (.int .i64) (.cons .str .nil))))] }]
noncomputable def sl14 : SemL := [(38, (.shr, .shr, .shr, sem38)), (37, (.shr, .shr, .shr, sem37)), (53, (.shr, .shr, .shr, sem53)), (54, (.shr, .shr, .shr, sem54))]
def D14 : Draws := fun id => bif Nat.beq id 5 then .op 0 .any (.op 1 .take (.op 2 .any (.op 3 .take (.op 4 .one (.op 5 .any (.nil)))))) else .nil
def hp14_0 : List (Option AP) := [none, some (.box false [.int .i64, .int .i64, .shr (.cons (.int .i64) .nil), .shr (.cons (.int .i64) (.cons (.int .i64) (.cons (.int .i64) (.cons .str .nil)))), .shr (.cons (.int .i64) .nil), .shr (.cons .str .nil), .int .i64, .int .i64, .int .i64, .int .i64, .int .i64, .int .i64, .int .i64, .int .i64, .int .i64, .shr (.cons (.int .i64) .nil)]), some (.box false [.int .i64, .int .i64, .own (.cons (.int .i64) .nil), .own (.cons (.int .i64) (.cons (.int .i64) (.cons (.int .i64) (.cons .str .nil)))), .own (.cons (.int .i64) .nil), .own (.cons .str .nil), .int .i64, .int .i64, .int .i64, .int .i64, .int .i64, .int .i64, .int .i64, .int .i64, .int .i64, .own (.cons (.int .i64) .nil)]), none, some (.box false [.int .i64, .int .i64, .own (.cons (.int .i64) .nil), .own (.cons (.int .i64) (.cons (.int .i64) (.cons (.int .i64) (.cons .str .nil)))), .own (.cons (.int .i64) .nil), .own (.cons .str .nil), .int .i64, .int .i64, .int .i64, .int .i64, .int .i64, .int .i64, .int .i64, .int .i64, .int .i64, .own (.cons (.int .i64) .nil)]), some (.val false [.own (.cons (.int .i64) (.cons (.int .i64) (.cons (.int .i64) (.cons .str .nil))))]), none, none, none, none, none, none, none, none, none, none, none, none, none, none, none, none, none, none, none, none, none, none, none, none, none, none, none, none, none, none, none, none, none, none, none, none, none, none, none, none, none, none, none]
def e14_0 : List (Option AP) := [none, none, some (.box false [.int .i64, .int .i64, .own (.cons (.int .i64) .nil), .own (.cons (.int .i64) (.cons (.int .i64) (.cons (.int .i64) (.cons .str .nil)))), .own (.cons (.int .i64) .nil), .own (.cons .str .nil), .int .i64, .int .i64, .int .i64, .int .i64, .int .i64, .int .i64, .int .i64, .int .i64, .int .i64, .own (.cons (.int .i64) .nil)]), none, some (.box false [.int .i64, .int .i64, .own (.cons (.int .i64) .nil), .own (.cons (.int .i64) (.cons (.int .i64) (.cons (.int .i64) (.cons .str .nil)))), .own (.cons (.int .i64) .nil), .own (.cons .str .nil), .int .i64, .int .i64, .int .i64, .int .i64, .int .i64, .int .i64, .int .i64, .int .i64, .int .i64, .own (.cons (.int .i64) .nil)]), some (.val false [.own (.cons (.int .i64) (.cons (.int .i64) (.cons (.int .i64) (.cons .str .nil))))]), none, none, none, none, none, none, none, none, none, none, none, none, none, none, none, none, none, none, none, none, none, none, none, none, none, none, none, none, none, none, none, none, none, none, none, none, none, none, none, none, none, none, none]
def q14_0 : List (Option AP) := [none, none, none, none, none, none, none, none, none, none, none, none, none, none, none, none, none, none, none, none, none, none, none, none, none, none, none, none, none, none, none, none, none, none, none, none, none, none, none, none, none, none, none, none, none, none, none, none, none]
abbrev H14_0 : Type := Int × Int × (List (Int × Unit)) × (List (Int × Int × Int × ByteArray × Unit)) × (List (Int × Unit)) × (List (ByteArray × Unit)) × Int × Int × Int × Int × Int × Int × Int × Int × Int × (List (Int × Unit)) × Int × Int × (List (Int × Unit)) × (List (Int × Int × Int × ByteArray × Unit)) × (List (Int × Unit)) × (List (ByteArray × Unit)) × Int × Int × Int × Int × Int × Int × Int × Int × Int × (List (Int × Unit)) × Int × Int × (List (Int × Unit)) × (List (Int × Int × Int × ByteArray × Unit)) × (List (Int × Unit)) × (List (ByteArray × Unit)) × Int × Int × Int × Int × Int × Int × Int × Int × Int × (List (Int × Unit)) × (List (Int × Int × Int × ByteArray × Unit)) × Unit
abbrev E14_0 : Type := Int × Int × (List (Int × Unit)) × (List (Int × Int × Int × ByteArray × Unit)) × (List (Int × Unit)) × (List (ByteArray × Unit)) × Int × Int × Int × Int × Int × Int × Int × Int × Int × (List (Int × Unit)) × Int × Int × (List (Int × Unit)) × (List (Int × Int × Int × ByteArray × Unit)) × (List (Int × Unit)) × (List (ByteArray × Unit)) × Int × Int × Int × Int × Int × Int × Int × Int × Int × (List (Int × Unit)) × (List (Int × Int × Int × ByteArray × Unit)) × Unit
abbrev Q14_0 : Type := Unit
noncomputable def impl_Hear_c0 (m1c0 : Int) (m1c1 : Int) (m1c2 : List (Int × Unit)) (m1c3 : List (Int × Int × Int × ByteArray × Unit)) (m1c4 : List (Int × Unit)) (m1c5 : List (ByteArray × Unit)) (m1c6 : Int) (m1c7 : Int) (m1c8 : Int) (m1c9 : Int) (m1c10 : Int) (m1c11 : Int) (m1c12 : Int) (m1c13 : Int) (m1c14 : Int) (m1c15 : List (Int × Unit)) (t2c0 : Int) (t2c1 : Int) (t2c2 : List (Int × Unit)) (t2c3 : List (Int × Int × Int × ByteArray × Unit)) (t2c4 : List (Int × Unit)) (t2c5 : List (ByteArray × Unit)) (t2c6 : Int) (t2c7 : Int) (t2c8 : Int) (t2c9 : Int) (t2c10 : Int) (t2c11 : Int) (t2c12 : Int) (t2c13 : Int) (t2c14 : Int) (t2c15 : List (Int × Unit)) (out4c0 : Int) (out4c1 : Int) (out4c2 : List (Int × Unit)) (out4c3 : List (Int × Int × Int × ByteArray × Unit)) (out4c4 : List (Int × Unit)) (out4c5 : List (ByteArray × Unit)) (out4c6 : Int) (out4c7 : Int) (out4c8 : Int) (out4c9 : Int) (out4c10 : Int) (out4c11 : Int) (out4c12 : Int) (out4c13 : Int) (out4c14 : Int) (out4c15 : List (Int × Unit)) (heard5 : List (Int × Int × Int × ByteArray × Unit)) : Option (Sum H14_0 (Sum E14_0 Q14_0)) :=
  Option.bind (impl_AruOf m1c3) fun y3 =>
  bif decide (out4c9 < y3.1) then
    Option.bind (impl_ItemAt m1c3 (IntKind.i64.wrap (out4c9 + (1 : Int)))) fun y4 =>
    bif decide (y4.2.2.1 = (2 : Int)) then
      bif decide (m1c8 < y4.1) then
        some (.inr (.inl (t2c0, t2c1, t2c2, t2c3, t2c4, t2c5, t2c6, t2c7, t2c8, t2c9, t2c10, t2c11, t2c12, t2c13, t2c14, t2c15, out4c0, out4c1, out4c2, out4c3, out4c4, out4c5, out4c6, out4c7, out4c8, out4c9, out4c10, out4c11, out4c12, out4c13, out4c14, out4c15, heard5, ())))
      else bif Nat.ble (((List.length heard5) + 1) * 40) lim then some (.inl (m1c0, m1c1, m1c2, m1c3, m1c4, m1c5, m1c6, m1c7, m1c8, m1c9, m1c10, m1c11, m1c12, m1c13, m1c14, m1c15, t2c0, t2c1, t2c2, t2c3, t2c4, t2c5, t2c6, t2c7, t2c8, t2c9, t2c10, t2c11, t2c12, t2c13, t2c14, t2c15, out4c0, out4c1, out4c2, out4c3, out4c4, out4c5, out4c6, out4c7, out4c8, IntKind.i64.wrap (out4c9 + (1 : Int)), out4c10, out4c11, out4c12, out4c13, out4c14, out4c15, heard5 ++ [(y4.1, y4.2.1, y4.2.2.1, y4.2.2.2.1, ())], ()))
      else none
    else bif Nat.ble (((List.length heard5) + 1) * 40) lim then some (.inl (m1c0, m1c1, m1c2, m1c3, m1c4, m1c5, m1c6, m1c7, m1c8, m1c9, m1c10, m1c11, m1c12, m1c13, m1c14, m1c15, t2c0, t2c1, t2c2, t2c3, t2c4, t2c5, t2c6, t2c7, t2c8, t2c9, t2c10, t2c11, t2c12, t2c13, t2c14, t2c15, out4c0, out4c1, out4c2, out4c3, out4c4, out4c5, out4c6, out4c7, out4c8, IntKind.i64.wrap (out4c9 + (1 : Int)), out4c10, out4c11, out4c12, out4c13, out4c14, out4c15, heard5 ++ [(y4.1, y4.2.1, y4.2.2.1, y4.2.2.2.1, ())], ()))
    else none
  else
    some (.inr (.inl (t2c0, t2c1, t2c2, t2c3, t2c4, t2c5, t2c6, t2c7, t2c8, t2c9, t2c10, t2c11, t2c12, t2c13, t2c14, t2c15, out4c0, out4c1, out4c2, out4c3, out4c4, out4c5, out4c6, out4c7, out4c8, out4c9, out4c10, out4c11, out4c12, out4c13, out4c14, out4c15, heard5, ())))
noncomputable def impl_Hear_r0 (x : H14_0) : Option (Sum H14_0 (Sum E14_0 Q14_0)) := impl_Hear_c0 x.1 x.2.1 x.2.2.1 x.2.2.2.1 x.2.2.2.2.1 x.2.2.2.2.2.1 x.2.2.2.2.2.2.1 x.2.2.2.2.2.2.2.1 x.2.2.2.2.2.2.2.2.1 x.2.2.2.2.2.2.2.2.2.1 x.2.2.2.2.2.2.2.2.2.2.1 x.2.2.2.2.2.2.2.2.2.2.2.1 x.2.2.2.2.2.2.2.2.2.2.2.2.1 x.2.2.2.2.2.2.2.2.2.2.2.2.2.1 x.2.2.2.2.2.2.2.2.2.2.2.2.2.2.1 x.2.2.2.2.2.2.2.2.2.2.2.2.2.2.2.1 x.2.2.2.2.2.2.2.2.2.2.2.2.2.2.2.2.1 x.2.2.2.2.2.2.2.2.2.2.2.2.2.2.2.2.2.1 x.2.2.2.2.2.2.2.2.2.2.2.2.2.2.2.2.2.2.1 x.2.2.2.2.2.2.2.2.2.2.2.2.2.2.2.2.2.2.2.1 x.2.2.2.2.2.2.2.2.2.2.2.2.2.2.2.2.2.2.2.2.1 x.2.2.2.2.2.2.2.2.2.2.2.2.2.2.2.2.2.2.2.2.2.1 x.2.2.2.2.2.2.2.2.2.2.2.2.2.2.2.2.2.2.2.2.2.2.1 x.2.2.2.2.2.2.2.2.2.2.2.2.2.2.2.2.2.2.2.2.2.2.2.1 x.2.2.2.2.2.2.2.2.2.2.2.2.2.2.2.2.2.2.2.2.2.2.2.2.1 x.2.2.2.2.2.2.2.2.2.2.2.2.2.2.2.2.2.2.2.2.2.2.2.2.2.1 x.2.2.2.2.2.2.2.2.2.2.2.2.2.2.2.2.2.2.2.2.2.2.2.2.2.2.1 x.2.2.2.2.2.2.2.2.2.2.2.2.2.2.2.2.2.2.2.2.2.2.2.2.2.2.2.1 x.2.2.2.2.2.2.2.2.2.2.2.2.2.2.2.2.2.2.2.2.2.2.2.2.2.2.2.2.1 x.2.2.2.2.2.2.2.2.2.2.2.2.2.2.2.2.2.2.2.2.2.2.2.2.2.2.2.2.2.1 x.2.2.2.2.2.2.2.2.2.2.2.2.2.2.2.2.2.2.2.2.2.2.2.2.2.2.2.2.2.2.1 x.2.2.2.2.2.2.2.2.2.2.2.2.2.2.2.2.2.2.2.2.2.2.2.2.2.2.2.2.2.2.2.1 x.2.2.2.2.2.2.2.2.2.2.2.2.2.2.2.2.2.2.2.2.2.2.2.2.2.2.2.2.2.2.2.2.1 x.2.2.2.2.2.2.2.2.2.2.2.2.2.2.2.2.2.2.2.2.2.2.2.2.2.2.2.2.2.2.2.2.2.1 x.2.2.2.2.2.2.2.2.2.2.2.2.2.2.2.2.2.2.2.2.2.2.2.2.2.2.2.2.2.2.2.2.2.2.1 x.2.2.2.2.2.2.2.2.2.2.2.2.2.2.2.2.2.2.2.2.2.2.2.2.2.2.2.2.2.2.2.2.2.2.2.1 x.2.2.2.2.2.2.2.2.2.2.2.2.2.2.2.2.2.2.2.2.2.2.2.2.2.2.2.2.2.2.2.2.2.2.2.2.1 x.2.2.2.2.2.2.2.2.2.2.2.2.2.2.2.2.2.2.2.2.2.2.2.2.2.2.2.2.2.2.2.2.2.2.2.2.2.1 x.2.2.2.2.2.2.2.2.2.2.2.2.2.2.2.2.2.2.2.2.2.2.2.2.2.2.2.2.2.2.2.2.2.2.2.2.2.2.1 x.2.2.2.2.2.2.2.2.2.2.2.2.2.2.2.2.2.2.2.2.2.2.2.2.2.2.2.2.2.2.2.2.2.2.2.2.2.2.2.1 x.2.2.2.2.2.2.2.2.2.2.2.2.2.2.2.2.2.2.2.2.2.2.2.2.2.2.2.2.2.2.2.2.2.2.2.2.2.2.2.2.1 x.2.2.2.2.2.2.2.2.2.2.2.2.2.2.2.2.2.2.2.2.2.2.2.2.2.2.2.2.2.2.2.2.2.2.2.2.2.2.2.2.2.1 x.2.2.2.2.2.2.2.2.2.2.2.2.2.2.2.2.2.2.2.2.2.2.2.2.2.2.2.2.2.2.2.2.2.2.2.2.2.2.2.2.2.2.1 x.2.2.2.2.2.2.2.2.2.2.2.2.2.2.2.2.2.2.2.2.2.2.2.2.2.2.2.2.2.2.2.2.2.2.2.2.2.2.2.2.2.2.2.1 x.2.2.2.2.2.2.2.2.2.2.2.2.2.2.2.2.2.2.2.2.2.2.2.2.2.2.2.2.2.2.2.2.2.2.2.2.2.2.2.2.2.2.2.2.1 x.2.2.2.2.2.2.2.2.2.2.2.2.2.2.2.2.2.2.2.2.2.2.2.2.2.2.2.2.2.2.2.2.2.2.2.2.2.2.2.2.2.2.2.2.2.1 x.2.2.2.2.2.2.2.2.2.2.2.2.2.2.2.2.2.2.2.2.2.2.2.2.2.2.2.2.2.2.2.2.2.2.2.2.2.2.2.2.2.2.2.2.2.2.1 x.2.2.2.2.2.2.2.2.2.2.2.2.2.2.2.2.2.2.2.2.2.2.2.2.2.2.2.2.2.2.2.2.2.2.2.2.2.2.2.2.2.2.2.2.2.2.2.1 x.2.2.2.2.2.2.2.2.2.2.2.2.2.2.2.2.2.2.2.2.2.2.2.2.2.2.2.2.2.2.2.2.2.2.2.2.2.2.2.2.2.2.2.2.2.2.2.2.1
noncomputable def L14 {R : Type} : Loops R := fun id _ st k => bif Nat.beq id 0 then loopAt hp14_0 e14_0 q14_0 impl_Hear_r0 st k else none
noncomputable def impl_Hear (m0c0 : Int) (m0c1 : Int) (m0c2 : List (Int × Unit)) (m0c3 : List (Int × Int × Int × ByteArray × Unit)) (m0c4 : List (Int × Unit)) (m0c5 : List (ByteArray × Unit)) (m0c6 : Int) (m0c7 : Int) (m0c8 : Int) (m0c9 : Int) (m0c10 : Int) (m0c11 : Int) (m0c12 : Int) (m0c13 : Int) (m0c14 : Int) (m0c15 : List (Int × Unit)) : Option (Int × Int × (List (Int × Unit)) × (List (Int × Int × Int × ByteArray × Unit)) × (List (Int × Unit)) × (List (ByteArray × Unit)) × Int × Int × Int × Int × Int × Int × Int × Int × Int × (List (Int × Unit)) × (List (Int × Int × Int × ByteArray × Unit)) × Unit) :=
  Option.bind (impl_copyMate m0c0 m0c1 m0c2 m0c3 m0c4 m0c5 m0c6 m0c7 m0c8 m0c9 m0c10 m0c11 m0c12 m0c13 m0c14 m0c15) fun y1 =>
  Option.bind (impl_MateOk m0c0 m0c1 m0c2 m0c3 m0c4 m0c5 m0c6 m0c7 m0c8 m0c9 m0c10 m0c11 m0c12 m0c13 m0c14 m0c15) fun y2 =>
  bif !y2.1 then
    some (y1.1, y1.2.1, y1.2.2.1, y1.2.2.2.1, y1.2.2.2.2.1, y1.2.2.2.2.2.1, y1.2.2.2.2.2.2.1, y1.2.2.2.2.2.2.2.1, y1.2.2.2.2.2.2.2.2.1, y1.2.2.2.2.2.2.2.2.2.1, y1.2.2.2.2.2.2.2.2.2.2.1, y1.2.2.2.2.2.2.2.2.2.2.2.1, y1.2.2.2.2.2.2.2.2.2.2.2.2.1, y1.2.2.2.2.2.2.2.2.2.2.2.2.2.1, y1.2.2.2.2.2.2.2.2.2.2.2.2.2.2.1, y1.2.2.2.2.2.2.2.2.2.2.2.2.2.2.2.1, [], ())
  else
    outK (loopV impl_Hear_r0 (m0c0, m0c1, m0c2, m0c3, m0c4, m0c5, m0c6, m0c7, m0c8, m0c9, m0c10, m0c11, m0c12, m0c13, m0c14, m0c15, (0 : Int), (0 : Int), [], [], [], [], (0 : Int), (0 : Int), (0 : Int), (0 : Int), (0 : Int), (0 : Int), (0 : Int), (0 : Int), (0 : Int), [], y1.1, y1.2.1, y1.2.2.1, y1.2.2.2.1, y1.2.2.2.2.1, y1.2.2.2.2.2.1, y1.2.2.2.2.2.2.1, y1.2.2.2.2.2.2.2.1, y1.2.2.2.2.2.2.2.2.1, y1.2.2.2.2.2.2.2.2.2.1, y1.2.2.2.2.2.2.2.2.2.2.1, y1.2.2.2.2.2.2.2.2.2.2.2.1, y1.2.2.2.2.2.2.2.2.2.2.2.2.1, y1.2.2.2.2.2.2.2.2.2.2.2.2.2.1, y1.2.2.2.2.2.2.2.2.2.2.2.2.2.2.1, y1.2.2.2.2.2.2.2.2.2.2.2.2.2.2.2.1, [], ())) (fun y3 =>
      some (y3.2.2.2.2.2.2.2.2.2.2.2.2.2.2.2.2.1, y3.2.2.2.2.2.2.2.2.2.2.2.2.2.2.2.2.2.1, y3.2.2.2.2.2.2.2.2.2.2.2.2.2.2.2.2.2.2.1, y3.2.2.2.2.2.2.2.2.2.2.2.2.2.2.2.2.2.2.2.1, y3.2.2.2.2.2.2.2.2.2.2.2.2.2.2.2.2.2.2.2.2.1, y3.2.2.2.2.2.2.2.2.2.2.2.2.2.2.2.2.2.2.2.2.2.1, y3.2.2.2.2.2.2.2.2.2.2.2.2.2.2.2.2.2.2.2.2.2.2.1, y3.2.2.2.2.2.2.2.2.2.2.2.2.2.2.2.2.2.2.2.2.2.2.2.1, y3.2.2.2.2.2.2.2.2.2.2.2.2.2.2.2.2.2.2.2.2.2.2.2.2.1, y3.2.2.2.2.2.2.2.2.2.2.2.2.2.2.2.2.2.2.2.2.2.2.2.2.2.1, y3.2.2.2.2.2.2.2.2.2.2.2.2.2.2.2.2.2.2.2.2.2.2.2.2.2.2.1, y3.2.2.2.2.2.2.2.2.2.2.2.2.2.2.2.2.2.2.2.2.2.2.2.2.2.2.2.1, y3.2.2.2.2.2.2.2.2.2.2.2.2.2.2.2.2.2.2.2.2.2.2.2.2.2.2.2.2.1, y3.2.2.2.2.2.2.2.2.2.2.2.2.2.2.2.2.2.2.2.2.2.2.2.2.2.2.2.2.2.1, y3.2.2.2.2.2.2.2.2.2.2.2.2.2.2.2.2.2.2.2.2.2.2.2.2.2.2.2.2.2.2.1, y3.2.2.2.2.2.2.2.2.2.2.2.2.2.2.2.2.2.2.2.2.2.2.2.2.2.2.2.2.2.2.2.1, y3.2.2.2.2.2.2.2.2.2.2.2.2.2.2.2.2.2.2.2.2.2.2.2.2.2.2.2.2.2.2.2.2.1, ())) (fun y4 =>
      none)
noncomputable def x14 (x : Int × Int × (List (Int × Unit)) × (List (Int × Int × Int × ByteArray × Unit)) × (List (Int × Unit)) × (List (ByteArray × Unit)) × Int × Int × Int × Int × Int × Int × Int × Int × Int × (List (Int × Unit)) × Unit) : Option (Int × Int × (List (Int × Unit)) × (List (Int × Int × Int × ByteArray × Unit)) × (List (Int × Unit)) × (List (ByteArray × Unit)) × Int × Int × Int × Int × Int × Int × Int × Int × Int × (List (Int × Unit)) × (List (Int × Int × Int × ByteArray × Unit)) × Unit) := impl_Hear x.1 x.2.1 x.2.2.1 x.2.2.2.1 x.2.2.2.2.1 x.2.2.2.2.2.1 x.2.2.2.2.2.2.1 x.2.2.2.2.2.2.2.1 x.2.2.2.2.2.2.2.2.1 x.2.2.2.2.2.2.2.2.2.1 x.2.2.2.2.2.2.2.2.2.2.1 x.2.2.2.2.2.2.2.2.2.2.2.1 x.2.2.2.2.2.2.2.2.2.2.2.2.1 x.2.2.2.2.2.2.2.2.2.2.2.2.2.1 x.2.2.2.2.2.2.2.2.2.2.2.2.2.2.1 x.2.2.2.2.2.2.2.2.2.2.2.2.2.2.2.1
noncomputable def sem14 : Sem1 := semOf ps14 rs14 x14
theorem so14 : SemsOk Try.prog (semsOf sl14) := sems_cons k38 (sems_cons k37 (sems_cons k53 (sems_cons k54 (sems_nil))))
noncomputable def b14_0 : Code := nthLoop code14 0
theorem t14_r0_eq (x : denR (headRT hp14_0)) : codeK (tabOf tr) (semsOf sl14) D14 L14 b14_0 (headSt hp14_0 x) (roundK 0 hp14_0 e14_0 q14_0) = impl_Hear_r0 x := by kernel_rfl
theorem loop14_0 {R : Type} (r : R) (w0 : World) (mu : Mu) (hs : AnShape ps14 mu) : LoopAt Try.prog w0 mu 49 (L14 : Loops R) r 0 b14_0 :=
  loop_auto tr_ok eq_ok mixed_ok so14 (D := D14) hs (by kernel_rfl) (fun _ => (loops_of (l := []) (by kernel_rfl) (List.forall_mem_nil _))) t14_r0_eq (fun _ _ => rfl)
theorem t14_eq (x : denR (headRT (ps14.map some))) : codeK (tabOf tr) (semsOf sl14) D14 L14 code14 (start 49 ps14 x) (finK rs14 ps14) = x14 x := by kernel_rfl
theorem k14 : Known Try.prog 14 sem14 :=
  fn_auto tr_ok eq_ok mixed_ok so14 (D := D14) (code := code14) (n := 49) Try.func14 (by kernel_rfl) (by kernel_rfl) (by kernel_rfl) (fun w0 mu _ hs => (loops_of (l := [(0, b14_0)]) (by kernel_rfl) (List.forall_mem_cons.2 ⟨loop14_0 _ w0 mu hs, (List.forall_mem_nil _)⟩))) t14_eq

/-! ### f4: laws.FnExactHear -/
noncomputable def code4 : Code := match Try.f4.body with | some c => c | none => .skip
def ps4 : List AP := [.val true [.int .i64, .int .i64, .shr (.cons (.int .i64) .nil), .shr (.cons (.int .i64) (.cons (.int .i64) (.cons (.int .i64) (.cons .str .nil)))), .shr (.cons (.int .i64) .nil), .shr (.cons .str .nil), .int .i64, .int .i64, .int .i64, .int .i64, .int .i64, .int .i64, .int .i64, .int .i64, .int .i64, .shr (.cons (.int .i64) .nil)]]
def rs4 : List RP := [{ src := .tmp 2, agg := false, ps := [.bool] }]
noncomputable def sl4 : SemL := [(6, (.shr, .shr, .shr, sem6)), (8, (.shr, .shr, .shr, sem8)), (13, (.shr, .shr, .shr, sem13)), (14, (.shr, .shr, .shr, sem14)), (10, (.shr, .shr, .shr, sem10)), (15, (.shr, .shr, .shr, sem15)), (11, (.lend, .shr, .shr, sem11)), (16, (.io, .shr, .shr, sem16)), (12, (.shr, .shr, .shr, sem12)), (17, (.shr, .shr, .shr, sem17))]
def D4 : Draws := fun id => bif Nat.beq id 10 then .op 0 .take (.op 1 .take (.op 2 .one (.op 3 .one (.op 4 .any (.nil))))) else .nil
noncomputable def L4 {R : Type} : Loops R := fun _ _ _ _ => none
noncomputable def laws_FnExactHear (aM0c0 : Int) (aM0c1 : Int) (aM0c2 : List (Int × Unit)) (aM0c3 : List (Int × Int × Int × ByteArray × Unit)) (aM0c4 : List (Int × Unit)) (aM0c5 : List (ByteArray × Unit)) (aM0c6 : Int) (aM0c7 : Int) (aM0c8 : Int) (aM0c9 : Int) (aM0c10 : Int) (aM0c11 : Int) (aM0c12 : Int) (aM0c13 : Int) (aM0c14 : Int) (aM0c15 : List (Int × Unit)) : Option (Bool × Unit) :=
  Option.bind (laws_szMate aM0c0 aM0c1 aM0c2 aM0c3 aM0c4 aM0c5 aM0c6 aM0c7 aM0c8 aM0c9 aM0c10 aM0c11 aM0c12 aM0c13 aM0c14 aM0c15 (1048576 : Int)) fun y1 =>
  bif decide (y1.1 < (0 : Int)) then
    some (true, ())
  else
    Option.bind (laws_toMate aM0c0 aM0c1 aM0c2 aM0c3 aM0c4 aM0c5 aM0c6 aM0c7 aM0c8 aM0c9 aM0c10 aM0c11 aM0c12 aM0c13 aM0c14 aM0c15) fun y2 =>
    Option.bind (spec_Hear y2.1 y2.2.1 y2.2.2.1 y2.2.2.2.1 y2.2.2.2.2.1 y2.2.2.2.2.2.1 y2.2.2.2.2.2.2.1 y2.2.2.2.2.2.2.2.1 y2.2.2.2.2.2.2.2.2.1 y2.2.2.2.2.2.2.2.2.2.1 y2.2.2.2.2.2.2.2.2.2.2.1 y2.2.2.2.2.2.2.2.2.2.2.2.1 y2.2.2.2.2.2.2.2.2.2.2.2.2.1 y2.2.2.2.2.2.2.2.2.2.2.2.2.2.1 y2.2.2.2.2.2.2.2.2.2.2.2.2.2.2.1 y2.2.2.2.2.2.2.2.2.2.2.2.2.2.2.2.1) fun y3 =>
    Option.bind (laws_toMate aM0c0 aM0c1 aM0c2 aM0c3 aM0c4 aM0c5 aM0c6 aM0c7 aM0c8 aM0c9 aM0c10 aM0c11 aM0c12 aM0c13 aM0c14 aM0c15) fun y4 =>
    Option.bind (impl_Hear y4.1 y4.2.1 y4.2.2.1 y4.2.2.2.1 y4.2.2.2.2.1 y4.2.2.2.2.2.1 y4.2.2.2.2.2.2.1 y4.2.2.2.2.2.2.2.1 y4.2.2.2.2.2.2.2.2.1 y4.2.2.2.2.2.2.2.2.2.1 y4.2.2.2.2.2.2.2.2.2.2.1 y4.2.2.2.2.2.2.2.2.2.2.2.1 y4.2.2.2.2.2.2.2.2.2.2.2.2.1 y4.2.2.2.2.2.2.2.2.2.2.2.2.2.1 y4.2.2.2.2.2.2.2.2.2.2.2.2.2.2.1 y4.2.2.2.2.2.2.2.2.2.2.2.2.2.2.2.1) fun y5 =>
    Option.bind (laws_eqMate y5.1 y5.2.1 y5.2.2.1 y5.2.2.2.1 y5.2.2.2.2.1 y5.2.2.2.2.2.1 y5.2.2.2.2.2.2.1 y5.2.2.2.2.2.2.2.1 y5.2.2.2.2.2.2.2.2.1 y5.2.2.2.2.2.2.2.2.2.1 y5.2.2.2.2.2.2.2.2.2.2.1 y5.2.2.2.2.2.2.2.2.2.2.2.1 y5.2.2.2.2.2.2.2.2.2.2.2.2.1 y5.2.2.2.2.2.2.2.2.2.2.2.2.2.1 y5.2.2.2.2.2.2.2.2.2.2.2.2.2.2.1 y5.2.2.2.2.2.2.2.2.2.2.2.2.2.2.2.1 y3.1 y3.2.1 y3.2.2.1 y3.2.2.2.1 y3.2.2.2.2.1 y3.2.2.2.2.2.1 y3.2.2.2.2.2.2.1 y3.2.2.2.2.2.2.2.1 y3.2.2.2.2.2.2.2.2.1 y3.2.2.2.2.2.2.2.2.2.1 y3.2.2.2.2.2.2.2.2.2.2.1 y3.2.2.2.2.2.2.2.2.2.2.2.1 y3.2.2.2.2.2.2.2.2.2.2.2.2.1 y3.2.2.2.2.2.2.2.2.2.2.2.2.2.1 y3.2.2.2.2.2.2.2.2.2.2.2.2.2.2.1 y3.2.2.2.2.2.2.2.2.2.2.2.2.2.2.2.1) fun y6 =>
    bif !y6.1 then
      some (false, ())
    else
      Option.bind (laws_eqItemS y5.2.2.2.2.2.2.2.2.2.2.2.2.2.2.2.2.1 y3.2.2.2.2.2.2.2.2.2.2.2.2.2.2.2.2.1) fun y7 =>
      bif !y7.1 then
        some (false, ())
      else
        Option.bind (laws_toMate aM0c0 aM0c1 aM0c2 aM0c3 aM0c4 aM0c5 aM0c6 aM0c7 aM0c8 aM0c9 aM0c10 aM0c11 aM0c12 aM0c13 aM0c14 aM0c15) fun y8 =>
        Option.bind (laws_eqMate y4.1 y4.2.1 y4.2.2.1 y4.2.2.2.1 y4.2.2.2.2.1 y4.2.2.2.2.2.1 y4.2.2.2.2.2.2.1 y4.2.2.2.2.2.2.2.1 y4.2.2.2.2.2.2.2.2.1 y4.2.2.2.2.2.2.2.2.2.1 y4.2.2.2.2.2.2.2.2.2.2.1 y4.2.2.2.2.2.2.2.2.2.2.2.1 y4.2.2.2.2.2.2.2.2.2.2.2.2.1 y4.2.2.2.2.2.2.2.2.2.2.2.2.2.1 y4.2.2.2.2.2.2.2.2.2.2.2.2.2.2.1 y4.2.2.2.2.2.2.2.2.2.2.2.2.2.2.2.1 y8.1 y8.2.1 y8.2.2.1 y8.2.2.2.1 y8.2.2.2.2.1 y8.2.2.2.2.2.1 y8.2.2.2.2.2.2.1 y8.2.2.2.2.2.2.2.1 y8.2.2.2.2.2.2.2.2.1 y8.2.2.2.2.2.2.2.2.2.1 y8.2.2.2.2.2.2.2.2.2.2.1 y8.2.2.2.2.2.2.2.2.2.2.2.1 y8.2.2.2.2.2.2.2.2.2.2.2.2.1 y8.2.2.2.2.2.2.2.2.2.2.2.2.2.1 y8.2.2.2.2.2.2.2.2.2.2.2.2.2.2.1 y8.2.2.2.2.2.2.2.2.2.2.2.2.2.2.2.1) fun y9 =>
        bif !y9.1 then
          some (false, ())
        else
          Option.bind (laws_markMate y4.1 y4.2.1 y4.2.2.1 y4.2.2.2.1 y4.2.2.2.2.1 y4.2.2.2.2.2.1 y4.2.2.2.2.2.2.1 y4.2.2.2.2.2.2.2.1 y4.2.2.2.2.2.2.2.2.1 y4.2.2.2.2.2.2.2.2.2.1 y4.2.2.2.2.2.2.2.2.2.2.1 y4.2.2.2.2.2.2.2.2.2.2.2.1 y4.2.2.2.2.2.2.2.2.2.2.2.2.1 y4.2.2.2.2.2.2.2.2.2.2.2.2.2.1 y4.2.2.2.2.2.2.2.2.2.2.2.2.2.2.1 y4.2.2.2.2.2.2.2.2.2.2.2.2.2.2.2.1 (1 : Int)) fun y10 =>
          bif decide (y10.1 < (0 : Int)) then
            some (false, ())
          else
            Option.bind (laws_eqMate y5.1 y5.2.1 y5.2.2.1 y5.2.2.2.1 y5.2.2.2.2.1 y5.2.2.2.2.2.1 y5.2.2.2.2.2.2.1 y5.2.2.2.2.2.2.2.1 y5.2.2.2.2.2.2.2.2.1 y5.2.2.2.2.2.2.2.2.2.1 y5.2.2.2.2.2.2.2.2.2.2.1 y5.2.2.2.2.2.2.2.2.2.2.2.1 y5.2.2.2.2.2.2.2.2.2.2.2.2.1 y5.2.2.2.2.2.2.2.2.2.2.2.2.2.1 y5.2.2.2.2.2.2.2.2.2.2.2.2.2.2.1 y5.2.2.2.2.2.2.2.2.2.2.2.2.2.2.2.1 y3.1 y3.2.1 y3.2.2.1 y3.2.2.2.1 y3.2.2.2.2.1 y3.2.2.2.2.2.1 y3.2.2.2.2.2.2.1 y3.2.2.2.2.2.2.2.1 y3.2.2.2.2.2.2.2.2.1 y3.2.2.2.2.2.2.2.2.2.1 y3.2.2.2.2.2.2.2.2.2.2.1 y3.2.2.2.2.2.2.2.2.2.2.2.1 y3.2.2.2.2.2.2.2.2.2.2.2.2.1 y3.2.2.2.2.2.2.2.2.2.2.2.2.2.1 y3.2.2.2.2.2.2.2.2.2.2.2.2.2.2.1 y3.2.2.2.2.2.2.2.2.2.2.2.2.2.2.2.1) fun y11 =>
            bif !y11.1 then
              some (false, ())
            else
              Option.bind (laws_eqItemS y5.2.2.2.2.2.2.2.2.2.2.2.2.2.2.2.2.1 y3.2.2.2.2.2.2.2.2.2.2.2.2.2.2.2.2.1) fun y12 =>
              bif !y12.1 then
                some (false, ())
              else
                Option.bind (laws_markMate y5.1 y5.2.1 y5.2.2.1 y5.2.2.2.1 y5.2.2.2.2.1 y5.2.2.2.2.2.1 y5.2.2.2.2.2.2.1 y5.2.2.2.2.2.2.2.1 y5.2.2.2.2.2.2.2.2.1 y5.2.2.2.2.2.2.2.2.2.1 y5.2.2.2.2.2.2.2.2.2.2.1 y5.2.2.2.2.2.2.2.2.2.2.2.1 y5.2.2.2.2.2.2.2.2.2.2.2.2.1 y5.2.2.2.2.2.2.2.2.2.2.2.2.2.1 y5.2.2.2.2.2.2.2.2.2.2.2.2.2.2.1 y5.2.2.2.2.2.2.2.2.2.2.2.2.2.2.2.1 (1 : Int)) fun y13 =>
                Option.bind (laws_markItemS y5.2.2.2.2.2.2.2.2.2.2.2.2.2.2.2.2.1 y13.1) fun y14 =>
                Option.bind (laws_heldMate y5.1 y5.2.1 y13.2.1 y13.2.2.1 y13.2.2.2.1 y13.2.2.2.2.1 y5.2.2.2.2.2.2.1 y5.2.2.2.2.2.2.2.1 y5.2.2.2.2.2.2.2.2.1 y5.2.2.2.2.2.2.2.2.2.1 y5.2.2.2.2.2.2.2.2.2.2.1 y5.2.2.2.2.2.2.2.2.2.2.2.1 y5.2.2.2.2.2.2.2.2.2.2.2.2.1 y5.2.2.2.2.2.2.2.2.2.2.2.2.2.1 y5.2.2.2.2.2.2.2.2.2.2.2.2.2.2.1 y13.2.2.2.2.2.1 (1 : Int)) fun y15 =>
                bif decide (y15.1 < (0 : Int)) then
                  some (false, ())
                else
                  Option.bind (laws_heldItemS y14.2.1 y15.1) fun y16 =>
                  bif decide (y16.1 < (0 : Int)) then
                    some (false, ())
                  else bif !decide (y16.1 = y14.1) then
                    some (false, ())
                  else
                    Option.bind (laws_toMate aM0c0 aM0c1 aM0c2 aM0c3 aM0c4 aM0c5 aM0c6 aM0c7 aM0c8 aM0c9 aM0c10 aM0c11 aM0c12 aM0c13 aM0c14 aM0c15) fun y17 =>
                    Option.bind (impl_Hear y17.1 y17.2.1 y17.2.2.1 y17.2.2.2.1 y17.2.2.2.2.1 y17.2.2.2.2.2.1 y17.2.2.2.2.2.2.1 y17.2.2.2.2.2.2.2.1 y17.2.2.2.2.2.2.2.2.1 y17.2.2.2.2.2.2.2.2.2.1 y17.2.2.2.2.2.2.2.2.2.2.1 y17.2.2.2.2.2.2.2.2.2.2.2.1 y17.2.2.2.2.2.2.2.2.2.2.2.2.1 y17.2.2.2.2.2.2.2.2.2.2.2.2.2.1 y17.2.2.2.2.2.2.2.2.2.2.2.2.2.2.1 y17.2.2.2.2.2.2.2.2.2.2.2.2.2.2.2.1) fun y18 =>
                    Option.bind (laws_eqMate y18.1 y18.2.1 y18.2.2.1 y18.2.2.2.1 y18.2.2.2.2.1 y18.2.2.2.2.2.1 y18.2.2.2.2.2.2.1 y18.2.2.2.2.2.2.2.1 y18.2.2.2.2.2.2.2.2.1 y18.2.2.2.2.2.2.2.2.2.1 y18.2.2.2.2.2.2.2.2.2.2.1 y18.2.2.2.2.2.2.2.2.2.2.2.1 y18.2.2.2.2.2.2.2.2.2.2.2.2.1 y18.2.2.2.2.2.2.2.2.2.2.2.2.2.1 y18.2.2.2.2.2.2.2.2.2.2.2.2.2.2.1 y18.2.2.2.2.2.2.2.2.2.2.2.2.2.2.2.1 y3.1 y3.2.1 y3.2.2.1 y3.2.2.2.1 y3.2.2.2.2.1 y3.2.2.2.2.2.1 y3.2.2.2.2.2.2.1 y3.2.2.2.2.2.2.2.1 y3.2.2.2.2.2.2.2.2.1 y3.2.2.2.2.2.2.2.2.2.1 y3.2.2.2.2.2.2.2.2.2.2.1 y3.2.2.2.2.2.2.2.2.2.2.2.1 y3.2.2.2.2.2.2.2.2.2.2.2.2.1 y3.2.2.2.2.2.2.2.2.2.2.2.2.2.1 y3.2.2.2.2.2.2.2.2.2.2.2.2.2.2.1 y3.2.2.2.2.2.2.2.2.2.2.2.2.2.2.2.1) fun y19 =>
                    bif !y19.1 then
                      some (false, ())
                    else
                      Option.bind (laws_eqItemS y18.2.2.2.2.2.2.2.2.2.2.2.2.2.2.2.2.1 y3.2.2.2.2.2.2.2.2.2.2.2.2.2.2.2.2.1) fun y20 =>
                      bif !y20.1 then
                        some (false, ())
                      else
                        Option.bind (laws_heldMate y5.1 y5.2.1 y13.2.1 y13.2.2.1 y13.2.2.2.1 y13.2.2.2.2.1 y5.2.2.2.2.2.2.1 y5.2.2.2.2.2.2.2.1 y5.2.2.2.2.2.2.2.2.1 y5.2.2.2.2.2.2.2.2.2.1 y5.2.2.2.2.2.2.2.2.2.2.1 y5.2.2.2.2.2.2.2.2.2.2.2.1 y5.2.2.2.2.2.2.2.2.2.2.2.2.1 y5.2.2.2.2.2.2.2.2.2.2.2.2.2.1 y5.2.2.2.2.2.2.2.2.2.2.2.2.2.2.1 y13.2.2.2.2.2.1 (1 : Int)) fun y21 =>
                        bif decide (y21.1 < (0 : Int)) then
                          some (false, ())
                        else
                          Option.bind (laws_heldItemS y14.2.1 y21.1) fun y22 =>
                          bif decide (y22.1 < (0 : Int)) then
                            some (false, ())
                          else bif !decide (y22.1 = y14.1) then
                            some (false, ())
                          else
                            some (true, ())
noncomputable def x4 (x : Int × Int × (List (Int × Unit)) × (List (Int × Int × Int × ByteArray × Unit)) × (List (Int × Unit)) × (List (ByteArray × Unit)) × Int × Int × Int × Int × Int × Int × Int × Int × Int × (List (Int × Unit)) × Unit) : Option (Bool × Unit) := laws_FnExactHear x.1 x.2.1 x.2.2.1 x.2.2.2.1 x.2.2.2.2.1 x.2.2.2.2.2.1 x.2.2.2.2.2.2.1 x.2.2.2.2.2.2.2.1 x.2.2.2.2.2.2.2.2.1 x.2.2.2.2.2.2.2.2.2.1 x.2.2.2.2.2.2.2.2.2.2.1 x.2.2.2.2.2.2.2.2.2.2.2.1 x.2.2.2.2.2.2.2.2.2.2.2.2.1 x.2.2.2.2.2.2.2.2.2.2.2.2.2.1 x.2.2.2.2.2.2.2.2.2.2.2.2.2.2.1 x.2.2.2.2.2.2.2.2.2.2.2.2.2.2.2.1
noncomputable def sem4 : Sem1 := semOf ps4 rs4 x4
theorem so4 : SemsOk Try.prog (semsOf sl4) := sems_cons k6 (sems_cons k8 (sems_cons k13 (sems_cons k14 (sems_cons k10 (sems_cons k15 (sems_cons k11 (sems_cons k16 (sems_cons k12 (sems_cons k17 (sems_nil))))))))))
theorem t4_eq (x : denR (headRT (ps4.map some))) : codeK (tabOf tr) (semsOf sl4) D4 L4 code4 (start 112 ps4 x) (finK rs4 ps4) = x4 x := by kernel_rfl
theorem k4 : Known Try.prog 4 sem4 :=
  fn_auto tr_ok eq_ok mixed_ok so4 (D := D4) (code := code4) (n := 112) Try.func4 (by kernel_rfl) (by kernel_rfl) (by kernel_rfl) (fun w0 mu _ hs => (loops_of (l := []) (by kernel_rfl) (List.forall_mem_nil _))) t4_eq

/-! ### f91: laws.szBundle -/
noncomputable def code91 : Code := match Try.f91.body with | some c => c | none => .skip
def ps91 : List AP := [.val true [.int .i64, .int .i64, .int .i64, .shr (.cons (.int .i64) (.cons (.int .i64) (.cons (.int .i64) (.cons .str .nil))))], .val false [.int .i64]]
def rs91 : List RP := [{ src := .tmp 4, agg := false, ps := [.int .i64] }]
noncomputable def sl91 : SemL := [(24, (.shr, .shr, .shr, sem24))]
def D91 : Draws := fun _ => .nil
noncomputable def L91 {R : Type} : Loops R := fun _ _ _ _ => none
noncomputable def laws_szBundle (a0c0 : Int) (a0c1 : Int) (a0c2 : Int) (a0c3 : List (Int × Int × Int × ByteArray × Unit)) (left1 : Int) : Option (Int × Unit) :=
  Option.bind (laws_szItemS a0c3 left1) fun y1 =>
  bif decide (y1.1 < (0 : Int)) then
    some ((-1 : Int), ())
  else
    some (y1.1, ())
noncomputable def x91 (x : Int × Int × Int × (List (Int × Int × Int × ByteArray × Unit)) × Int × Unit) : Option (Int × Unit) := laws_szBundle x.1 x.2.1 x.2.2.1 x.2.2.2.1 x.2.2.2.2.1
noncomputable def sem91 : Sem1 := semOf ps91 rs91 x91
theorem so91 : SemsOk Try.prog (semsOf sl91) := sems_cons k24 (sems_nil)
theorem t91_eq (x : denR (headRT (ps91.map some))) : codeK (tabOf tr) (semsOf sl91) D91 L91 code91 (start 12 ps91 x) (finK rs91 ps91) = x91 x := by kernel_rfl
theorem k91 : Known Try.prog 91 sem91 :=
  fn_auto tr_ok eq_ok mixed_ok so91 (D := D91) (code := code91) (n := 12) Try.func91 (by kernel_rfl) (by kernel_rfl) (by kernel_rfl) (fun w0 mu _ hs => (loops_of (l := []) (by kernel_rfl) (List.forall_mem_nil _))) t91_eq

/-! ### f57: laws.szBundleS -/
noncomputable def code57 : Code := match Try.f57.body with | some c => c | none => .skip
def ps57 : List AP := [.val false [.shr (.cons (.int .i64) (.cons (.int .i64) (.cons (.int .i64) (.cons (.sl (.cons (.int .i64) (.cons (.int .i64) (.cons (.int .i64) (.cons .str .nil))))) .nil))))], .val false [.int .i64]]
def rs57 : List RP := [{ src := .tmp 4, agg := false, ps := [.int .i64] }]
noncomputable def sl57 : SemL := [(91, (.shr, .shr, .shr, sem91))]
def D57 : Draws := fun _ => .nil
def hp57_0 : List (Option AP) := [some (.val false [.shr (.cons (.int .i64) (.cons (.int .i64) (.cons (.int .i64) (.cons (.sl (.cons (.int .i64) (.cons (.int .i64) (.cons (.int .i64) (.cons .str .nil))))) .nil))))]), some (.val false [.int .i64]), none, none, none, some (.val false [.int .i64]), none, none, none, none, none, none, none, none, none, none, none, none, none, none, none, none, none, none, none, none, none]
def e57_0 : List (Option AP) := [none, some (.val false [.int .i64]), none, none, none, none, none, none, none, none, none, none, none, none, none, none, none, none, none, none, none, none, none, none, none, none, none]
def q57_0 : List (Option AP) := [none, none, none, none, some (.val false [.int .i64]), none, none, none, none, none, none, none, none, none, none, none, none, none, none, none, none, none, none, none, none, none, none]
abbrev H57_0 : Type := (List (Int × Int × Int × (List (Int × Int × Int × ByteArray × Unit)) × Unit)) × Int × Int × Unit
abbrev E57_0 : Type := Int × Unit
abbrev Q57_0 : Type := Int × Unit
noncomputable def laws_szBundleS_c0 (a0 : List (Int × Int × Int × (List (Int × Int × Int × ByteArray × Unit)) × Unit)) (left1 : Int) (i5 : Int) : Option (Sum H57_0 (Sum E57_0 Q57_0)) :=
  bif decide (i5 < ((List.length a0 : Nat) : Int)) then
    bif decide ((0 : Int) ≤ i5) then Option.bind ((a0)[Int.toNat i5]?) fun r1 =>
      Option.bind (laws_szBundle r1.1 r1.2.1 r1.2.2.1 r1.2.2.2.1 left1) fun y2 =>
      bif decide (y2.1 < (0 : Int)) then
        some (.inr (.inr ((-1 : Int), ())))
      else
        some (.inl (a0, y2.1, IntKind.i64.wrap (i5 + (1 : Int)), ()))
    else none
  else
    some (.inr (.inl (left1, ())))
noncomputable def laws_szBundleS_r0 (x : H57_0) : Option (Sum H57_0 (Sum E57_0 Q57_0)) := laws_szBundleS_c0 x.1 x.2.1 x.2.2.1
noncomputable def L57 {R : Type} : Loops R := fun id _ st k => bif Nat.beq id 0 then loopAt hp57_0 e57_0 q57_0 laws_szBundleS_r0 st k else none
noncomputable def laws_szBundleS (a0 : List (Int × Int × Int × (List (Int × Int × Int × ByteArray × Unit)) × Unit)) (left1 : Int) : Option (Int × Unit) :=
  bif decide (IntKind.i64.wrap (left1 - ((List.length a0 : Nat) : Int)) < (0 : Int)) then
    some ((-1 : Int), ())
  else
    outK (loopV laws_szBundleS_r0 (a0, IntKind.i64.wrap (left1 - ((List.length a0 : Nat) : Int)), (0 : Int), ())) (fun y1 =>
      some (y1.1, ())) (fun y2 =>
      some (y2.1, ()))
noncomputable def x57 (x : (List (Int × Int × Int × (List (Int × Int × Int × ByteArray × Unit)) × Unit)) × Int × Unit) : Option (Int × Unit) := laws_szBundleS x.1 x.2.1
noncomputable def sem57 : Sem1 := semOf ps57 rs57 x57
theorem so57 : SemsOk Try.prog (semsOf sl57) := sems_cons k91 (sems_nil)
noncomputable def b57_0 : Code := nthLoop code57 0
theorem t57_r0_eq (x : denR (headRT hp57_0)) : codeK (tabOf tr) (semsOf sl57) D57 L57 b57_0 (headSt hp57_0 x) (roundK 0 hp57_0 e57_0 q57_0) = laws_szBundleS_r0 x := by kernel_rfl
theorem loop57_0 {R : Type} (r : R) (w0 : World) (mu : Mu) (hs : AnShape ps57 mu) : LoopAt Try.prog w0 mu 27 (L57 : Loops R) r 0 b57_0 :=
  loop_auto tr_ok eq_ok mixed_ok so57 (D := D57) hs (by kernel_rfl) (fun _ => (loops_of (l := []) (by kernel_rfl) (List.forall_mem_nil _))) t57_r0_eq (fun _ _ => rfl)
theorem t57_eq (x : denR (headRT (ps57.map some))) : codeK (tabOf tr) (semsOf sl57) D57 L57 code57 (start 27 ps57 x) (finK rs57 ps57) = x57 x := by kernel_rfl
theorem k57 : Known Try.prog 57 sem57 :=
  fn_auto tr_ok eq_ok mixed_ok so57 (D := D57) (code := code57) (n := 27) Try.func57 (by kernel_rfl) (by kernel_rfl) (by kernel_rfl) (fun w0 mu _ hs => (loops_of (l := [(0, b57_0)]) (by kernel_rfl) (List.forall_mem_cons.2 ⟨loop57_0 _ w0 mu hs, (List.forall_mem_nil _)⟩))) t57_eq

/-! ### f92: laws.szEvent -/
noncomputable def code92 : Code := match Try.f92.body with | some c => c | none => .skip
def ps92 : List AP := [.val true [.int .i64, .int .i64, .shr (.cons (.int .i64) .nil), .int .i64, .int .i64, .int .i64, .str, .shr (.cons (.int .i64) .nil)], .val false [.int .i64]]
def rs92 : List RP := [{ src := .tmp 4, agg := false, ps := [.int .i64] }]
noncomputable def sl92 : SemL := [(23, (.shr, .shr, .shr, sem23)), (73, (.shr, .shr, .shr, sem73)), (25, (.shr, .shr, .shr, sem25))]
def D92 : Draws := fun _ => .nil
noncomputable def L92 {R : Type} : Loops R := fun _ _ _ _ => none
noncomputable def laws_szEvent (a0c0 : Int) (a0c1 : Int) (a0c2 : List (Int × Unit)) (a0c3 : Int) (a0c4 : Int) (a0c5 : Int) (a0c6 : ByteArray) (a0c7 : List (Int × Unit)) (left1 : Int) : Option (Int × Unit) :=
  Option.bind (laws_szRing a0c1 a0c2 left1) fun y1 =>
  bif decide (y1.1 < (0 : Int)) then
    some ((-1 : Int), ())
  else
    Option.bind (laws_szItem a0c3 a0c4 a0c5 a0c6 y1.1) fun y2 =>
    bif decide (y2.1 < (0 : Int)) then
      some ((-1 : Int), ())
    else
      Option.bind (laws_szIntS a0c7 y2.1) fun y3 =>
      bif decide (y3.1 < (0 : Int)) then
        some ((-1 : Int), ())
      else
        some (y3.1, ())
noncomputable def x92 (x : Int × Int × (List (Int × Unit)) × Int × Int × Int × ByteArray × (List (Int × Unit)) × Int × Unit) : Option (Int × Unit) := laws_szEvent x.1 x.2.1 x.2.2.1 x.2.2.2.1 x.2.2.2.2.1 x.2.2.2.2.2.1 x.2.2.2.2.2.2.1 x.2.2.2.2.2.2.2.1 x.2.2.2.2.2.2.2.2.1
noncomputable def sem92 : Sem1 := semOf ps92 rs92 x92
theorem so92 : SemsOk Try.prog (semsOf sl92) := sems_cons k23 (sems_cons k73 (sems_cons k25 (sems_nil)))
theorem t92_eq (x : denR (headRT (ps92.map some))) : codeK (tabOf tr) (semsOf sl92) D92 L92 code92 (start 24 ps92 x) (finK rs92 ps92) = x92 x := by kernel_rfl
theorem k92 : Known Try.prog 92 sem92 :=
  fn_auto tr_ok eq_ok mixed_ok so92 (D := D92) (code := code92) (n := 24) Try.func92 (by kernel_rfl) (by kernel_rfl) (by kernel_rfl) (fun w0 mu _ hs => (loops_of (l := []) (by kernel_rfl) (List.forall_mem_nil _))) t92_eq

/-! ### f58: laws.szEventS -/
noncomputable def code58 : Code := match Try.f58.body with | some c => c | none => .skip
def ps58 : List AP := [.val false [.shr (.cons (.int .i64) (.cons (.int .i64) (.cons (.sl (.cons (.int .i64) .nil)) (.cons (.int .i64) (.cons (.int .i64) (.cons (.int .i64) (.cons .str (.cons (.sl (.cons (.int .i64) .nil)) .nil))))))))], .val false [.int .i64]]
def rs58 : List RP := [{ src := .tmp 4, agg := false, ps := [.int .i64] }]
noncomputable def sl58 : SemL := [(92, (.shr, .shr, .shr, sem92))]
def D58 : Draws := fun _ => .nil
def hp58_0 : List (Option AP) := [some (.val false [.shr (.cons (.int .i64) (.cons (.int .i64) (.cons (.sl (.cons (.int .i64) .nil)) (.cons (.int .i64) (.cons (.int .i64) (.cons (.int .i64) (.cons .str (.cons (.sl (.cons (.int .i64) .nil)) .nil))))))))]), some (.val false [.int .i64]), none, none, none, some (.val false [.int .i64]), none, none, none, none, none, none, none, none, none, none, none, none, none, none, none, none, none, none, none, none, none]
def e58_0 : List (Option AP) := [none, some (.val false [.int .i64]), none, none, none, none, none, none, none, none, none, none, none, none, none, none, none, none, none, none, none, none, none, none, none, none, none]
def q58_0 : List (Option AP) := [none, none, none, none, some (.val false [.int .i64]), none, none, none, none, none, none, none, none, none, none, none, none, none, none, none, none, none, none, none, none, none, none]
abbrev H58_0 : Type := (List (Int × Int × (List (Int × Unit)) × Int × Int × Int × ByteArray × (List (Int × Unit)) × Unit)) × Int × Int × Unit
abbrev E58_0 : Type := Int × Unit
abbrev Q58_0 : Type := Int × Unit
noncomputable def laws_szEventS_c0 (a0 : List (Int × Int × (List (Int × Unit)) × Int × Int × Int × ByteArray × (List (Int × Unit)) × Unit)) (left1 : Int) (i5 : Int) : Option (Sum H58_0 (Sum E58_0 Q58_0)) :=
  bif decide (i5 < ((List.length a0 : Nat) : Int)) then
    bif decide ((0 : Int) ≤ i5) then Option.bind ((a0)[Int.toNat i5]?) fun r1 =>
      Option.bind (laws_szEvent r1.1 r1.2.1 r1.2.2.1 r1.2.2.2.1 r1.2.2.2.2.1 r1.2.2.2.2.2.1 r1.2.2.2.2.2.2.1 r1.2.2.2.2.2.2.2.1 left1) fun y2 =>
      bif decide (y2.1 < (0 : Int)) then
        some (.inr (.inr ((-1 : Int), ())))
      else
        some (.inl (a0, y2.1, IntKind.i64.wrap (i5 + (1 : Int)), ()))
    else none
  else
    some (.inr (.inl (left1, ())))
noncomputable def laws_szEventS_r0 (x : H58_0) : Option (Sum H58_0 (Sum E58_0 Q58_0)) := laws_szEventS_c0 x.1 x.2.1 x.2.2.1
noncomputable def L58 {R : Type} : Loops R := fun id _ st k => bif Nat.beq id 0 then loopAt hp58_0 e58_0 q58_0 laws_szEventS_r0 st k else none
noncomputable def laws_szEventS (a0 : List (Int × Int × (List (Int × Unit)) × Int × Int × Int × ByteArray × (List (Int × Unit)) × Unit)) (left1 : Int) : Option (Int × Unit) :=
  bif decide (IntKind.i64.wrap (left1 - ((List.length a0 : Nat) : Int)) < (0 : Int)) then
    some ((-1 : Int), ())
  else
    outK (loopV laws_szEventS_r0 (a0, IntKind.i64.wrap (left1 - ((List.length a0 : Nat) : Int)), (0 : Int), ())) (fun y1 =>
      some (y1.1, ())) (fun y2 =>
      some (y2.1, ()))
noncomputable def x58 (x : (List (Int × Int × (List (Int × Unit)) × Int × Int × Int × ByteArray × (List (Int × Unit)) × Unit)) × Int × Unit) : Option (Int × Unit) := laws_szEventS x.1 x.2.1
noncomputable def sem58 : Sem1 := semOf ps58 rs58 x58
theorem so58 : SemsOk Try.prog (semsOf sl58) := sems_cons k92 (sems_nil)
noncomputable def b58_0 : Code := nthLoop code58 0
theorem t58_r0_eq (x : denR (headRT hp58_0)) : codeK (tabOf tr) (semsOf sl58) D58 L58 b58_0 (headSt hp58_0 x) (roundK 0 hp58_0 e58_0 q58_0) = laws_szEventS_r0 x := by kernel_rfl
theorem loop58_0 {R : Type} (r : R) (w0 : World) (mu : Mu) (hs : AnShape ps58 mu) : LoopAt Try.prog w0 mu 27 (L58 : Loops R) r 0 b58_0 :=
  loop_auto tr_ok eq_ok mixed_ok so58 (D := D58) hs (by kernel_rfl) (fun _ => (loops_of (l := []) (by kernel_rfl) (List.forall_mem_nil _))) t58_r0_eq (fun _ _ => rfl)
theorem t58_eq (x : denR (headRT (ps58.map some))) : codeK (tabOf tr) (semsOf sl58) D58 L58 code58 (start 27 ps58 x) (finK rs58 ps58) = x58 x := by kernel_rfl
theorem k58 : Known Try.prog 58 sem58 :=
  fn_auto tr_ok eq_ok mixed_ok so58 (D := D58) (code := code58) (n := 27) Try.func58 (by kernel_rfl) (by kernel_rfl) (by kernel_rfl) (fun w0 mu _ hs => (loops_of (l := [(0, b58_0)]) (by kernel_rfl) (List.forall_mem_cons.2 ⟨loop58_0 _ w0 mu hs, (List.forall_mem_nil _)⟩))) t58_eq

/-! ### f18: laws.szDaemon -/
noncomputable def code18 : Code := match Try.f18.body with | some c => c | none => .skip
def ps18 : List AP := [.val true [.int .i64, .bool, .int .i64, .int .i64, .shr (.cons (.int .i64) .nil), .shr (.cons (.int .i64) (.cons (.int .i64) (.cons (.int .i64) (.cons .str .nil)))), .shr (.cons (.int .i64) .nil), .shr (.cons .str .nil), .int .i64, .int .i64, .int .i64, .int .i64, .int .i64, .int .i64, .int .i64, .int .i64, .int .i64, .shr (.cons (.int .i64) .nil), .int .i64, .int .i64, .int .i64, .shr (.cons (.int .i64) .nil), .shr (.cons (.int .i64) (.cons (.int .i64) (.cons (.int .i64) (.cons (.sl (.cons (.int .i64) (.cons (.int .i64) (.cons (.int .i64) (.cons .str .nil))))) .nil)))), .shr (.cons (.int .i64) (.cons (.int .i64) (.cons (.sl (.cons (.int .i64) .nil)) (.cons (.int .i64) (.cons (.int .i64) (.cons (.int .i64) (.cons .str (.cons (.sl (.cons (.int .i64) .nil)) .nil))))))))], .val false [.int .i64]]
def rs18 : List RP := [{ src := .tmp 4, agg := false, ps := [.int .i64] }]
noncomputable def sl18 : SemL := [(6, (.shr, .shr, .shr, sem6)), (23, (.shr, .shr, .shr, sem23)), (57, (.shr, .shr, .shr, sem57)), (58, (.shr, .shr, .shr, sem58))]
def D18 : Draws := fun _ => .nil
noncomputable def L18 {R : Type} : Loops R := fun _ _ _ _ => none
noncomputable def laws_szDaemon (a0c0 : Int) (a0c1 : Bool) (a0c2 : Int) (a0c3 : Int) (a0c4 : List (Int × Unit)) (a0c5 : List (Int × Int × Int × ByteArray × Unit)) (a0c6 : List (Int × Unit)) (a0c7 : List (ByteArray × Unit)) (a0c8 : Int) (a0c9 : Int) (a0c10 : Int) (a0c11 : Int) (a0c12 : Int) (a0c13 : Int) (a0c14 : Int) (a0c15 : Int) (a0c16 : Int) (a0c17 : List (Int × Unit)) (a0c18 : Int) (a0c19 : Int) (a0c20 : Int) (a0c21 : List (Int × Unit)) (a0c22 : List (Int × Int × Int × (List (Int × Int × Int × ByteArray × Unit)) × Unit)) (a0c23 : List (Int × Int × (List (Int × Unit)) × Int × Int × Int × ByteArray × (List (Int × Unit)) × Unit)) (left1 : Int) : Option (Int × Unit) :=
  Option.bind (laws_szMate a0c2 a0c3 a0c4 a0c5 a0c6 a0c7 a0c8 a0c9 a0c10 a0c11 a0c12 a0c13 a0c14 a0c15 a0c16 a0c17 left1) fun y1 =>
  bif decide (y1.1 < (0 : Int)) then
    some ((-1 : Int), ())
  else
    Option.bind (laws_szRing a0c20 a0c21 y1.1) fun y2 =>
    bif decide (y2.1 < (0 : Int)) then
      some ((-1 : Int), ())
    else
      Option.bind (laws_szBundleS a0c22 y2.1) fun y3 =>
      bif decide (y3.1 < (0 : Int)) then
        some ((-1 : Int), ())
      else
        Option.bind (laws_szEventS a0c23 y3.1) fun y4 =>
        bif decide (y4.1 < (0 : Int)) then
          some ((-1 : Int), ())
        else
          some (y4.1, ())
noncomputable def x18 (x : Int × Bool × Int × Int × (List (Int × Unit)) × (List (Int × Int × Int × ByteArray × Unit)) × (List (Int × Unit)) × (List (ByteArray × Unit)) × Int × Int × Int × Int × Int × Int × Int × Int × Int × (List (Int × Unit)) × Int × Int × Int × (List (Int × Unit)) × (List (Int × Int × Int × (List (Int × Int × Int × ByteArray × Unit)) × Unit)) × (List (Int × Int × (List (Int × Unit)) × Int × Int × Int × ByteArray × (List (Int × Unit)) × Unit)) × Int × Unit) : Option (Int × Unit) := laws_szDaemon x.1 x.2.1 x.2.2.1 x.2.2.2.1 x.2.2.2.2.1 x.2.2.2.2.2.1 x.2.2.2.2.2.2.1 x.2.2.2.2.2.2.2.1 x.2.2.2.2.2.2.2.2.1 x.2.2.2.2.2.2.2.2.2.1 x.2.2.2.2.2.2.2.2.2.2.1 x.2.2.2.2.2.2.2.2.2.2.2.1 x.2.2.2.2.2.2.2.2.2.2.2.2.1 x.2.2.2.2.2.2.2.2.2.2.2.2.2.1 x.2.2.2.2.2.2.2.2.2.2.2.2.2.2.1 x.2.2.2.2.2.2.2.2.2.2.2.2.2.2.2.1 x.2.2.2.2.2.2.2.2.2.2.2.2.2.2.2.2.1 x.2.2.2.2.2.2.2.2.2.2.2.2.2.2.2.2.2.1 x.2.2.2.2.2.2.2.2.2.2.2.2.2.2.2.2.2.2.1 x.2.2.2.2.2.2.2.2.2.2.2.2.2.2.2.2.2.2.2.1 x.2.2.2.2.2.2.2.2.2.2.2.2.2.2.2.2.2.2.2.2.1 x.2.2.2.2.2.2.2.2.2.2.2.2.2.2.2.2.2.2.2.2.2.1 x.2.2.2.2.2.2.2.2.2.2.2.2.2.2.2.2.2.2.2.2.2.2.1 x.2.2.2.2.2.2.2.2.2.2.2.2.2.2.2.2.2.2.2.2.2.2.2.1 x.2.2.2.2.2.2.2.2.2.2.2.2.2.2.2.2.2.2.2.2.2.2.2.2.1
noncomputable def sem18 : Sem1 := semOf ps18 rs18 x18
theorem so18 : SemsOk Try.prog (semsOf sl18) := sems_cons k6 (sems_cons k23 (sems_cons k57 (sems_cons k58 (sems_nil))))
theorem t18_eq (x : denR (headRT (ps18.map some))) : codeK (tabOf tr) (semsOf sl18) D18 L18 code18 (start 30 ps18 x) (finK rs18 ps18) = x18 x := by kernel_rfl
theorem k18 : Known Try.prog 18 sem18 :=
  fn_auto tr_ok eq_ok mixed_ok so18 (D := D18) (code := code18) (n := 30) Try.func18 (by kernel_rfl) (by kernel_rfl) (by kernel_rfl) (fun w0 mu _ hs => (loops_of (l := []) (by kernel_rfl) (List.forall_mem_nil _))) t18_eq

/-! ### f93: laws.toBundle -/
noncomputable def code93 : Code := match Try.f93.body with | some c => c | none => .skip
def ps93 : List AP := [.val true [.int .i64, .int .i64, .int .i64, .shr (.cons (.int .i64) (.cons (.int .i64) (.cons (.int .i64) (.cons .str .nil))))]]
def rs93 : List RP := [{ src := .cell 2, agg := true, ps := [.int .i64, .int .i64, .int .i64, .own (.cons (.int .i64) (.cons (.int .i64) (.cons (.int .i64) (.cons .str .nil))))] }]
noncomputable def sl93 : SemL := [(32, (.shr, .shr, .shr, sem32))]
def D93 : Draws := fun _ => .nil
noncomputable def L93 {R : Type} : Loops R := fun _ _ _ _ => none
noncomputable def laws_toBundle (a0c0 : Int) (a0c1 : Int) (a0c2 : Int) (a0c3 : List (Int × Int × Int × ByteArray × Unit)) : Option (Int × Int × Int × (List (Int × Int × Int × ByteArray × Unit)) × Unit) :=
  Option.bind (laws_toItemS a0c3) fun y1 =>
  some (a0c0, a0c1, a0c2, y1.1, ())
noncomputable def x93 (x : Int × Int × Int × (List (Int × Int × Int × ByteArray × Unit)) × Unit) : Option (Int × Int × Int × (List (Int × Int × Int × ByteArray × Unit)) × Unit) := laws_toBundle x.1 x.2.1 x.2.2.1 x.2.2.2.1
noncomputable def sem93 : Sem1 := semOf ps93 rs93 x93
theorem so93 : SemsOk Try.prog (semsOf sl93) := sems_cons k32 (sems_nil)
theorem t93_eq (x : denR (headRT (ps93.map some))) : codeK (tabOf tr) (semsOf sl93) D93 L93 code93 (start 18 ps93 x) (finK rs93 ps93) = x93 x := by kernel_rfl
theorem k93 : Known Try.prog 93 sem93 :=
  fn_auto tr_ok eq_ok mixed_ok so93 (D := D93) (code := code93) (n := 18) Try.func93 (by kernel_rfl) (by kernel_rfl) (by kernel_rfl) (fun w0 mu _ hs => (loops_of (l := []) (by kernel_rfl) (List.forall_mem_nil _))) t93_eq

/-! ### f64: laws.toBundleS -/
noncomputable def code64 : Code := match Try.f64.body with | some c => c | none => .skip
def ps64 : List AP := [.val false [.shr (.cons (.int .i64) (.cons (.int .i64) (.cons (.int .i64) (.cons (.sl (.cons (.int .i64) (.cons (.int .i64) (.cons (.int .i64) (.cons .str .nil))))) .nil))))]]
def rs64 : List RP := [{ src := .tmp 2, agg := false, ps := [.own (.cons (.int .i64) (.cons (.int .i64) (.cons (.int .i64) (.cons (.sl (.cons (.int .i64) (.cons (.int .i64) (.cons (.int .i64) (.cons .str .nil))))) .nil))))] }]
noncomputable def sl64 : SemL := [(93, (.shr, .shr, .shr, sem93))]
def D64 : Draws := fun _ => .nil
def hp64_0 : List (Option AP) := [some (.val false [.shr (.cons (.int .i64) (.cons (.int .i64) (.cons (.int .i64) (.cons (.sl (.cons (.int .i64) (.cons (.int .i64) (.cons (.int .i64) (.cons .str .nil))))) .nil))))]), none, none, some (.val false [.own (.cons (.int .i64) (.cons (.int .i64) (.cons (.int .i64) (.cons (.sl (.cons (.int .i64) (.cons (.int .i64) (.cons (.int .i64) (.cons .str .nil))))) .nil))))]), some (.val false [.int .i64]), none, none, none, none, none, none, none, none, none, none, none, none, none, none, none, none, none, none]
def e64_0 : List (Option AP) := [none, none, none, some (.val false [.own (.cons (.int .i64) (.cons (.int .i64) (.cons (.int .i64) (.cons (.sl (.cons (.int .i64) (.cons (.int .i64) (.cons (.int .i64) (.cons .str .nil))))) .nil))))]), none, none, none, none, none, none, none, none, none, none, none, none, none, none, none, none, none, none, none]
def q64_0 : List (Option AP) := [none, none, none, none, none, none, none, none, none, none, none, none, none, none, none, none, none, none, none, none, none, none, none]
abbrev H64_0 : Type := (List (Int × Int × Int × (List (Int × Int × Int × ByteArray × Unit)) × Unit)) × (List (Int × Int × Int × (List (Int × Int × Int × ByteArray × Unit)) × Unit)) × Int × Unit
abbrev E64_0 : Type := (List (Int × Int × Int × (List (Int × Int × Int × ByteArray × Unit)) × Unit)) × Unit
abbrev Q64_0 : Type := Unit
noncomputable def laws_toBundleS_c0 (a0 : List (Int × Int × Int × (List (Int × Int × Int × ByteArray × Unit)) × Unit)) (out3 : List (Int × Int × Int × (List (Int × Int × Int × ByteArray × Unit)) × Unit)) (i4 : Int) : Option (Sum H64_0 (Sum E64_0 Q64_0)) :=
  bif decide (i4 < ((List.length a0 : Nat) : Int)) then
    bif decide ((0 : Int) ≤ i4) then Option.bind ((a0)[Int.toNat i4]?) fun r1 =>
      Option.bind (laws_toBundle r1.1 r1.2.1 r1.2.2.1 r1.2.2.2.1) fun y2 =>
      bif decide ((0 : Int) ≤ i4) then bif Nat.blt (Int.toNat i4) (List.length out3) then Option.bind ((out3)[Int.toNat i4]?) fun _ =>
          some (.inl (a0, List.set out3 (Int.toNat i4) (y2.1, y2.2.1, y2.2.2.1, y2.2.2.2.1, ()), IntKind.i64.wrap (i4 + (1 : Int)), ()))
        else none
      else none
    else none
  else
    some (.inr (.inl (out3, ())))
noncomputable def laws_toBundleS_r0 (x : H64_0) : Option (Sum H64_0 (Sum E64_0 Q64_0)) := laws_toBundleS_c0 x.1 x.2.1 x.2.2.1
noncomputable def L64 {R : Type} : Loops R := fun id _ st k => bif Nat.beq id 0 then loopAt hp64_0 e64_0 q64_0 laws_toBundleS_r0 st k else none
noncomputable def laws_toBundleS (a0 : List (Int × Int × Int × (List (Int × Int × Int × ByteArray × Unit)) × Unit)) : Option ((List (Int × Int × Int × (List (Int × Int × Int × ByteArray × Unit)) × Unit)) × Unit) :=
  bif decide (((List.length a0 : Nat) : Int) = ((List.length a0 : Nat) : Int)) then bif decide ((0 : Int) ≤ ((List.length a0 : Nat) : Int)) then bif Nat.ble ((Int.toNat ((List.length a0 : Nat) : Int)) * 48) lim then outK (loopV laws_toBundleS_r0 (a0, List.replicate (Int.toNat ((List.length a0 : Nat) : Int)) ((0 : Int), (0 : Int), (0 : Int), [], ()), (0 : Int), ())) (fun y1 =>
          some (y1.1, ())) (fun y2 =>
          none)
      else none
    else none
  else none
noncomputable def x64 (x : (List (Int × Int × Int × (List (Int × Int × Int × ByteArray × Unit)) × Unit)) × Unit) : Option ((List (Int × Int × Int × (List (Int × Int × Int × ByteArray × Unit)) × Unit)) × Unit) := laws_toBundleS x.1
noncomputable def sem64 : Sem1 := semOf ps64 rs64 x64
theorem so64 : SemsOk Try.prog (semsOf sl64) := sems_cons k93 (sems_nil)
noncomputable def b64_0 : Code := nthLoop code64 0
theorem t64_r0_eq (x : denR (headRT hp64_0)) : codeK (tabOf tr) (semsOf sl64) D64 L64 b64_0 (headSt hp64_0 x) (roundK 0 hp64_0 e64_0 q64_0) = laws_toBundleS_r0 x := by kernel_rfl
theorem loop64_0 {R : Type} (r : R) (w0 : World) (mu : Mu) (hs : AnShape ps64 mu) : LoopAt Try.prog w0 mu 23 (L64 : Loops R) r 0 b64_0 :=
  loop_auto tr_ok eq_ok mixed_ok so64 (D := D64) hs (by kernel_rfl) (fun _ => (loops_of (l := []) (by kernel_rfl) (List.forall_mem_nil _))) t64_r0_eq (fun _ _ => rfl)
theorem t64_eq (x : denR (headRT (ps64.map some))) : codeK (tabOf tr) (semsOf sl64) D64 L64 code64 (start 23 ps64 x) (finK rs64 ps64) = x64 x := by kernel_rfl
theorem k64 : Known Try.prog 64 sem64 :=
  fn_auto tr_ok eq_ok mixed_ok so64 (D := D64) (code := code64) (n := 23) Try.func64 (by kernel_rfl) (by kernel_rfl) (by kernel_rfl) (fun w0 mu _ hs => (loops_of (l := [(0, b64_0)]) (by kernel_rfl) (List.forall_mem_cons.2 ⟨loop64_0 _ w0 mu hs, (List.forall_mem_nil _)⟩))) t64_eq

/-! ### f94: laws.toEvent -/
noncomputable def code94 : Code := match Try.f94.body with | some c => c | none => .skip
def ps94 : List AP := [.val true [.int .i64, .int .i64, .shr (.cons (.int .i64) .nil), .int .i64, .int .i64, .int .i64, .str, .shr (.cons (.int .i64) .nil)]]
def rs94 : List RP := [{ src := .cell 2, agg := true, ps := [.int .i64, .int .i64, .own (.cons (.int .i64) .nil), .int .i64, .int .i64, .int .i64, .str, .own (.cons (.int .i64) .nil)] }]
noncomputable def sl94 : SemL := [(31, (.shr, .shr, .shr, sem31)), (79, (.shr, .shr, .shr, sem79)), (33, (.shr, .shr, .shr, sem33))]
def D94 : Draws := fun _ => .nil
noncomputable def L94 {R : Type} : Loops R := fun _ _ _ _ => none
noncomputable def laws_toEvent (a0c0 : Int) (a0c1 : Int) (a0c2 : List (Int × Unit)) (a0c3 : Int) (a0c4 : Int) (a0c5 : Int) (a0c6 : ByteArray) (a0c7 : List (Int × Unit)) : Option (Int × Int × (List (Int × Unit)) × Int × Int × Int × ByteArray × (List (Int × Unit)) × Unit) :=
  Option.bind (laws_toRing a0c1 a0c2) fun y1 =>
  Option.bind (laws_toItem a0c3 a0c4 a0c5 a0c6) fun y2 =>
  Option.bind (laws_toIntS a0c7) fun y3 =>
  some (a0c0, y1.1, y1.2.1, y2.1, y2.2.1, y2.2.2.1, y2.2.2.2.1, y3.1, ())
noncomputable def x94 (x : Int × Int × (List (Int × Unit)) × Int × Int × Int × ByteArray × (List (Int × Unit)) × Unit) : Option (Int × Int × (List (Int × Unit)) × Int × Int × Int × ByteArray × (List (Int × Unit)) × Unit) := laws_toEvent x.1 x.2.1 x.2.2.1 x.2.2.2.1 x.2.2.2.2.1 x.2.2.2.2.2.1 x.2.2.2.2.2.2.1 x.2.2.2.2.2.2.2.1
noncomputable def sem94 : Sem1 := semOf ps94 rs94 x94
theorem so94 : SemsOk Try.prog (semsOf sl94) := sems_cons k31 (sems_cons k79 (sems_cons k33 (sems_nil)))
theorem t94_eq (x : denR (headRT (ps94.map some))) : codeK (tabOf tr) (semsOf sl94) D94 L94 code94 (start 20 ps94 x) (finK rs94 ps94) = x94 x := by kernel_rfl
theorem k94 : Known Try.prog 94 sem94 :=
  fn_auto tr_ok eq_ok mixed_ok so94 (D := D94) (code := code94) (n := 20) Try.func94 (by kernel_rfl) (by kernel_rfl) (by kernel_rfl) (fun w0 mu _ hs => (loops_of (l := []) (by kernel_rfl) (List.forall_mem_nil _))) t94_eq

/-! ### f65: laws.toEventS -/
noncomputable def code65 : Code := match Try.f65.body with | some c => c | none => .skip
def ps65 : List AP := [.val false [.shr (.cons (.int .i64) (.cons (.int .i64) (.cons (.sl (.cons (.int .i64) .nil)) (.cons (.int .i64) (.cons (.int .i64) (.cons (.int .i64) (.cons .str (.cons (.sl (.cons (.int .i64) .nil)) .nil))))))))]]
def rs65 : List RP := [{ src := .tmp 2, agg := false, ps := [.own (.cons (.int .i64) (.cons (.int .i64) (.cons (.sl (.cons (.int .i64) .nil)) (.cons (.int .i64) (.cons (.int .i64) (.cons (.int .i64) (.cons .str (.cons (.sl (.cons (.int .i64) .nil)) .nil))))))))] }]
noncomputable def sl65 : SemL := [(94, (.shr, .shr, .shr, sem94))]
def D65 : Draws := fun _ => .nil
def hp65_0 : List (Option AP) := [some (.val false [.shr (.cons (.int .i64) (.cons (.int .i64) (.cons (.sl (.cons (.int .i64) .nil)) (.cons (.int .i64) (.cons (.int .i64) (.cons (.int .i64) (.cons .str (.cons (.sl (.cons (.int .i64) .nil)) .nil))))))))]), none, none, some (.val false [.own (.cons (.int .i64) (.cons (.int .i64) (.cons (.sl (.cons (.int .i64) .nil)) (.cons (.int .i64) (.cons (.int .i64) (.cons (.int .i64) (.cons .str (.cons (.sl (.cons (.int .i64) .nil)) .nil))))))))]), some (.val false [.int .i64]), none, none, none, none, none, none, none, none, none, none, none, none, none, none, none, none, none, none]
def e65_0 : List (Option AP) := [none, none, none, some (.val false [.own (.cons (.int .i64) (.cons (.int .i64) (.cons (.sl (.cons (.int .i64) .nil)) (.cons (.int .i64) (.cons (.int .i64) (.cons (.int .i64) (.cons .str (.cons (.sl (.cons (.int .i64) .nil)) .nil))))))))]), none, none, none, none, none, none, none, none, none, none, none, none, none, none, none, none, none, none, none]
def q65_0 : List (Option AP) := [none, none, none, none, none, none, none, none, none, none, none, none, none, none, none, none, none, none, none, none, none, none, none]
abbrev H65_0 : Type := (List (Int × Int × (List (Int × Unit)) × Int × Int × Int × ByteArray × (List (Int × Unit)) × Unit)) × (List (Int × Int × (List (Int × Unit)) × Int × Int × Int × ByteArray × (List (Int × Unit)) × Unit)) × Int × Unit
abbrev E65_0 : Type := (List (Int × Int × (List (Int × Unit)) × Int × Int × Int × ByteArray × (List (Int × Unit)) × Unit)) × Unit
abbrev Q65_0 : Type := Unit
noncomputable def laws_toEventS_c0 (a0 : List (Int × Int × (List (Int × Unit)) × Int × Int × Int × ByteArray × (List (Int × Unit)) × Unit)) (out3 : List (Int × Int × (List (Int × Unit)) × Int × Int × Int × ByteArray × (List (Int × Unit)) × Unit)) (i4 : Int) : Option (Sum H65_0 (Sum E65_0 Q65_0)) :=
  bif decide (i4 < ((List.length a0 : Nat) : Int)) then
    bif decide ((0 : Int) ≤ i4) then Option.bind ((a0)[Int.toNat i4]?) fun r1 =>
      Option.bind (laws_toEvent r1.1 r1.2.1 r1.2.2.1 r1.2.2.2.1 r1.2.2.2.2.1 r1.2.2.2.2.2.1 r1.2.2.2.2.2.2.1 r1.2.2.2.2.2.2.2.1) fun y2 =>
      bif decide ((0 : Int) ≤ i4) then bif Nat.blt (Int.toNat i4) (List.length out3) then Option.bind ((out3)[Int.toNat i4]?) fun _ =>
          some (.inl (a0, List.set out3 (Int.toNat i4) (y2.1, y2.2.1, y2.2.2.1, y2.2.2.2.1, y2.2.2.2.2.1, y2.2.2.2.2.2.1, y2.2.2.2.2.2.2.1, y2.2.2.2.2.2.2.2.1, ()), IntKind.i64.wrap (i4 + (1 : Int)), ()))
        else none
      else none
    else none
  else
    some (.inr (.inl (out3, ())))
noncomputable def laws_toEventS_r0 (x : H65_0) : Option (Sum H65_0 (Sum E65_0 Q65_0)) := laws_toEventS_c0 x.1 x.2.1 x.2.2.1
noncomputable def L65 {R : Type} : Loops R := fun id _ st k => bif Nat.beq id 0 then loopAt hp65_0 e65_0 q65_0 laws_toEventS_r0 st k else none
noncomputable def laws_toEventS (a0 : List (Int × Int × (List (Int × Unit)) × Int × Int × Int × ByteArray × (List (Int × Unit)) × Unit)) : Option ((List (Int × Int × (List (Int × Unit)) × Int × Int × Int × ByteArray × (List (Int × Unit)) × Unit)) × Unit) :=
  bif decide (((List.length a0 : Nat) : Int) = ((List.length a0 : Nat) : Int)) then bif decide ((0 : Int) ≤ ((List.length a0 : Nat) : Int)) then bif Nat.ble ((Int.toNat ((List.length a0 : Nat) : Int)) * 104) lim then outK (loopV laws_toEventS_r0 (a0, List.replicate (Int.toNat ((List.length a0 : Nat) : Int)) ((0 : Int), (0 : Int), [], (0 : Int), (0 : Int), (0 : Int), ByteArray.empty, [], ()), (0 : Int), ())) (fun y1 =>
          some (y1.1, ())) (fun y2 =>
          none)
      else none
    else none
  else none
noncomputable def x65 (x : (List (Int × Int × (List (Int × Unit)) × Int × Int × Int × ByteArray × (List (Int × Unit)) × Unit)) × Unit) : Option ((List (Int × Int × (List (Int × Unit)) × Int × Int × Int × ByteArray × (List (Int × Unit)) × Unit)) × Unit) := laws_toEventS x.1
noncomputable def sem65 : Sem1 := semOf ps65 rs65 x65
theorem so65 : SemsOk Try.prog (semsOf sl65) := sems_cons k94 (sems_nil)
noncomputable def b65_0 : Code := nthLoop code65 0
theorem t65_r0_eq (x : denR (headRT hp65_0)) : codeK (tabOf tr) (semsOf sl65) D65 L65 b65_0 (headSt hp65_0 x) (roundK 0 hp65_0 e65_0 q65_0) = laws_toEventS_r0 x := by kernel_rfl
theorem loop65_0 {R : Type} (r : R) (w0 : World) (mu : Mu) (hs : AnShape ps65 mu) : LoopAt Try.prog w0 mu 23 (L65 : Loops R) r 0 b65_0 :=
  loop_auto tr_ok eq_ok mixed_ok so65 (D := D65) hs (by kernel_rfl) (fun _ => (loops_of (l := []) (by kernel_rfl) (List.forall_mem_nil _))) t65_r0_eq (fun _ _ => rfl)
theorem t65_eq (x : denR (headRT (ps65.map some))) : codeK (tabOf tr) (semsOf sl65) D65 L65 code65 (start 23 ps65 x) (finK rs65 ps65) = x65 x := by kernel_rfl
theorem k65 : Known Try.prog 65 sem65 :=
  fn_auto tr_ok eq_ok mixed_ok so65 (D := D65) (code := code65) (n := 23) Try.func65 (by kernel_rfl) (by kernel_rfl) (by kernel_rfl) (fun w0 mu _ hs => (loops_of (l := [(0, b65_0)]) (by kernel_rfl) (List.forall_mem_cons.2 ⟨loop65_0 _ w0 mu hs, (List.forall_mem_nil _)⟩))) t65_eq

/-! ### f20: laws.toDaemon -/
noncomputable def code20 : Code := match Try.f20.body with | some c => c | none => .skip
def ps20 : List AP := [.val true [.int .i64, .bool, .int .i64, .int .i64, .shr (.cons (.int .i64) .nil), .shr (.cons (.int .i64) (.cons (.int .i64) (.cons (.int .i64) (.cons .str .nil)))), .shr (.cons (.int .i64) .nil), .shr (.cons .str .nil), .int .i64, .int .i64, .int .i64, .int .i64, .int .i64, .int .i64, .int .i64, .int .i64, .int .i64, .shr (.cons (.int .i64) .nil), .int .i64, .int .i64, .int .i64, .shr (.cons (.int .i64) .nil), .shr (.cons (.int .i64) (.cons (.int .i64) (.cons (.int .i64) (.cons (.sl (.cons (.int .i64) (.cons (.int .i64) (.cons (.int .i64) (.cons .str .nil))))) .nil)))), .shr (.cons (.int .i64) (.cons (.int .i64) (.cons (.sl (.cons (.int .i64) .nil)) (.cons (.int .i64) (.cons (.int .i64) (.cons (.int .i64) (.cons .str (.cons (.sl (.cons (.int .i64) .nil)) .nil))))))))]]
def rs20 : List RP := [{ src := .cell 2, agg := true, ps := [.int .i64, .bool, .int .i64, .int .i64, .own (.cons (.int .i64) .nil), .own (.cons (.int .i64) (.cons (.int .i64) (.cons (.int .i64) (.cons .str .nil)))), .own (.cons (.int .i64) .nil), .own (.cons .str .nil), .int .i64, .int .i64, .int .i64, .int .i64, .int .i64, .int .i64, .int .i64, .int .i64, .int .i64, .own (.cons (.int .i64) .nil), .int .i64, .int .i64, .int .i64, .own (.cons (.int .i64) .nil), .own (.cons (.int .i64) (.cons (.int .i64) (.cons (.int .i64) (.cons (.sl (.cons (.int .i64) (.cons (.int .i64) (.cons (.int .i64) (.cons .str .nil))))) .nil)))), .own (.cons (.int .i64) (.cons (.int .i64) (.cons (.sl (.cons (.int .i64) .nil)) (.cons (.int .i64) (.cons (.int .i64) (.cons (.int .i64) (.cons .str (.cons (.sl (.cons (.int .i64) .nil)) .nil))))))))] }]
noncomputable def sl20 : SemL := [(8, (.shr, .shr, .shr, sem8)), (31, (.shr, .shr, .shr, sem31)), (64, (.shr, .shr, .shr, sem64)), (65, (.shr, .shr, .shr, sem65))]
def D20 : Draws := fun _ => .nil
noncomputable def L20 {R : Type} : Loops R := fun _ _ _ _ => none
noncomputable def laws_toDaemon (a0c0 : Int) (a0c1 : Bool) (a0c2 : Int) (a0c3 : Int) (a0c4 : List (Int × Unit)) (a0c5 : List (Int × Int × Int × ByteArray × Unit)) (a0c6 : List (Int × Unit)) (a0c7 : List (ByteArray × Unit)) (a0c8 : Int) (a0c9 : Int) (a0c10 : Int) (a0c11 : Int) (a0c12 : Int) (a0c13 : Int) (a0c14 : Int) (a0c15 : Int) (a0c16 : Int) (a0c17 : List (Int × Unit)) (a0c18 : Int) (a0c19 : Int) (a0c20 : Int) (a0c21 : List (Int × Unit)) (a0c22 : List (Int × Int × Int × (List (Int × Int × Int × ByteArray × Unit)) × Unit)) (a0c23 : List (Int × Int × (List (Int × Unit)) × Int × Int × Int × ByteArray × (List (Int × Unit)) × Unit)) : Option (Int × Bool × Int × Int × (List (Int × Unit)) × (List (Int × Int × Int × ByteArray × Unit)) × (List (Int × Unit)) × (List (ByteArray × Unit)) × Int × Int × Int × Int × Int × Int × Int × Int × Int × (List (Int × Unit)) × Int × Int × Int × (List (Int × Unit)) × (List (Int × Int × Int × (List (Int × Int × Int × ByteArray × Unit)) × Unit)) × (List (Int × Int × (List (Int × Unit)) × Int × Int × Int × ByteArray × (List (Int × Unit)) × Unit)) × Unit) :=
  Option.bind (laws_toMate a0c2 a0c3 a0c4 a0c5 a0c6 a0c7 a0c8 a0c9 a0c10 a0c11 a0c12 a0c13 a0c14 a0c15 a0c16 a0c17) fun y1 =>
  Option.bind (laws_toRing a0c20 a0c21) fun y2 =>
  Option.bind (laws_toBundleS a0c22) fun y3 =>
  Option.bind (laws_toEventS a0c23) fun y4 =>
  some (a0c0, a0c1, y1.1, y1.2.1, y1.2.2.1, y1.2.2.2.1, y1.2.2.2.2.1, y1.2.2.2.2.2.1, y1.2.2.2.2.2.2.1, y1.2.2.2.2.2.2.2.1, y1.2.2.2.2.2.2.2.2.1, y1.2.2.2.2.2.2.2.2.2.1, y1.2.2.2.2.2.2.2.2.2.2.1, y1.2.2.2.2.2.2.2.2.2.2.2.1, y1.2.2.2.2.2.2.2.2.2.2.2.2.1, y1.2.2.2.2.2.2.2.2.2.2.2.2.2.1, y1.2.2.2.2.2.2.2.2.2.2.2.2.2.2.1, y1.2.2.2.2.2.2.2.2.2.2.2.2.2.2.2.1, a0c18, a0c19, y2.1, y2.2.1, y3.1, y4.1, ())
noncomputable def x20 (x : Int × Bool × Int × Int × (List (Int × Unit)) × (List (Int × Int × Int × ByteArray × Unit)) × (List (Int × Unit)) × (List (ByteArray × Unit)) × Int × Int × Int × Int × Int × Int × Int × Int × Int × (List (Int × Unit)) × Int × Int × Int × (List (Int × Unit)) × (List (Int × Int × Int × (List (Int × Int × Int × ByteArray × Unit)) × Unit)) × (List (Int × Int × (List (Int × Unit)) × Int × Int × Int × ByteArray × (List (Int × Unit)) × Unit)) × Unit) : Option (Int × Bool × Int × Int × (List (Int × Unit)) × (List (Int × Int × Int × ByteArray × Unit)) × (List (Int × Unit)) × (List (ByteArray × Unit)) × Int × Int × Int × Int × Int × Int × Int × Int × Int × (List (Int × Unit)) × Int × Int × Int × (List (Int × Unit)) × (List (Int × Int × Int × (List (Int × Int × Int × ByteArray × Unit)) × Unit)) × (List (Int × Int × (List (Int × Unit)) × Int × Int × Int × ByteArray × (List (Int × Unit)) × Unit)) × Unit) := laws_toDaemon x.1 x.2.1 x.2.2.1 x.2.2.2.1 x.2.2.2.2.1 x.2.2.2.2.2.1 x.2.2.2.2.2.2.1 x.2.2.2.2.2.2.2.1 x.2.2.2.2.2.2.2.2.1 x.2.2.2.2.2.2.2.2.2.1 x.2.2.2.2.2.2.2.2.2.2.1 x.2.2.2.2.2.2.2.2.2.2.2.1 x.2.2.2.2.2.2.2.2.2.2.2.2.1 x.2.2.2.2.2.2.2.2.2.2.2.2.2.1 x.2.2.2.2.2.2.2.2.2.2.2.2.2.2.1 x.2.2.2.2.2.2.2.2.2.2.2.2.2.2.2.1 x.2.2.2.2.2.2.2.2.2.2.2.2.2.2.2.2.1 x.2.2.2.2.2.2.2.2.2.2.2.2.2.2.2.2.2.1 x.2.2.2.2.2.2.2.2.2.2.2.2.2.2.2.2.2.2.1 x.2.2.2.2.2.2.2.2.2.2.2.2.2.2.2.2.2.2.2.1 x.2.2.2.2.2.2.2.2.2.2.2.2.2.2.2.2.2.2.2.2.1 x.2.2.2.2.2.2.2.2.2.2.2.2.2.2.2.2.2.2.2.2.2.1 x.2.2.2.2.2.2.2.2.2.2.2.2.2.2.2.2.2.2.2.2.2.2.1 x.2.2.2.2.2.2.2.2.2.2.2.2.2.2.2.2.2.2.2.2.2.2.2.1
noncomputable def sem20 : Sem1 := semOf ps20 rs20 x20
theorem so20 : SemsOk Try.prog (semsOf sl20) := sems_cons k8 (sems_cons k31 (sems_cons k64 (sems_cons k65 (sems_nil))))
theorem t20_eq (x : denR (headRT (ps20.map some))) : codeK (tabOf tr) (semsOf sl20) D20 L20 code20 (start 33 ps20 x) (finK rs20 ps20) = x20 x := by kernel_rfl
theorem k20 : Known Try.prog 20 sem20 :=
  fn_auto tr_ok eq_ok mixed_ok so20 (D := D20) (code := code20) (n := 33) Try.func20 (by kernel_rfl) (by kernel_rfl) (by kernel_rfl) (fun w0 mu _ hs => (loops_of (l := []) (by kernel_rfl) (List.forall_mem_nil _))) t20_eq

/-! ### f60: spec.l14NoRing -/
noncomputable def code60 : Code := match Try.f60.body with | some c => c | none => .skip
def ps60 : List AP := [.val true [.int .i64, .shr (.cons (.int .i64) .nil)]]
def rs60 : List RP := [{ src := .tmp 2, agg := false, ps := [.bool] }]
noncomputable def sl60 : SemL := []
def D60 : Draws := fun _ => .nil
noncomputable def L60 {R : Type} : Loops R := fun _ _ _ _ => none
noncomputable def spec_l14NoRing (r0c0 : Int) (r0c1 : List (Int × Unit)) : Option (Bool × Unit) :=
  bif decide (r0c0 = (0 : Int)) then
    some (decide (((List.length r0c1 : Nat) : Int) = (0 : Int)), ())
  else
    some (false, ())
noncomputable def x60 (x : Int × (List (Int × Unit)) × Unit) : Option (Bool × Unit) := spec_l14NoRing x.1 x.2.1
noncomputable def sem60 : Sem1 := semOf ps60 rs60 x60
theorem so60 : SemsOk Try.prog (semsOf sl60) := sems_nil
theorem t60_eq (x : denR (headRT (ps60.map some))) : codeK (tabOf tr) (semsOf sl60) D60 L60 code60 (start 12 ps60 x) (finK rs60 ps60) = x60 x := by kernel_rfl
theorem k60 : Known Try.prog 60 sem60 :=
  fn_auto tr_ok eq_ok mixed_ok so60 (D := D60) (code := code60) (n := 12) Try.func60 (by kernel_rfl) (by kernel_rfl) (by kernel_rfl) (fun w0 mu _ hs => (loops_of (l := []) (by kernel_rfl) (List.forall_mem_nil _))) t60_eq

/-! ### f59: spec.l14NoMate -/
noncomputable def code59 : Code := match Try.f59.body with | some c => c | none => .skip
def ps59 : List AP := [.val true [.int .i64, .int .i64, .shr (.cons (.int .i64) .nil), .shr (.cons (.int .i64) (.cons (.int .i64) (.cons (.int .i64) (.cons .str .nil)))), .shr (.cons (.int .i64) .nil), .shr (.cons .str .nil), .int .i64, .int .i64, .int .i64, .int .i64, .int .i64, .int .i64, .int .i64, .int .i64, .int .i64, .shr (.cons (.int .i64) .nil)]]
def rs59 : List RP := [{ src := .tmp 2, agg := false, ps := [.bool] }]
noncomputable def sl59 : SemL := [(60, (.shr, .shr, .shr, sem60)), (76, (.shr, .shr, .shr, sem76))]
def D59 : Draws := fun _ => .nil
noncomputable def L59 {R : Type} : Loops R := fun _ _ _ _ => none
noncomputable def spec_l14NoMate (m0c0 : Int) (m0c1 : Int) (m0c2 : List (Int × Unit)) (m0c3 : List (Int × Int × Int × ByteArray × Unit)) (m0c4 : List (Int × Unit)) (m0c5 : List (ByteArray × Unit)) (m0c6 : Int) (m0c7 : Int) (m0c8 : Int) (m0c9 : Int) (m0c10 : Int) (m0c11 : Int) (m0c12 : Int) (m0c13 : Int) (m0c14 : Int) (m0c15 : List (Int × Unit)) : Option (Bool × Unit) :=
  bif decide (m0c0 = (0 : Int)) then
    Option.bind (spec_l14NoRing m0c1 m0c2) fun y1 =>
    bif y1.1 then
      bif decide (((List.length m0c3 : Nat) : Int) = (0 : Int)) then
        bif decide (((List.length m0c4 : Nat) : Int) = (0 : Int)) then
          bif decide (((List.length m0c5 : Nat) : Int) = (0 : Int)) then
            bif decide (m0c6 = (0 : Int)) then
              bif decide (m0c7 = (0 : Int)) then
                bif decide (m0c8 = (0 : Int)) then
                  bif decide (m0c9 = (0 : Int)) then
                    Option.bind (spec_l10Blank m0c10 m0c11 m0c12 m0c13 m0c14 m0c15) fun y2 =>
                    some (y2.1, ())
                  else
                    some (false, ())
                else
                  some (false, ())
              else
                some (false, ())
            else
              some (false, ())
          else
            some (false, ())
        else
          some (false, ())
      else
        some (false, ())
    else
      some (false, ())
  else
    some (false, ())
noncomputable def x59 (x : Int × Int × (List (Int × Unit)) × (List (Int × Int × Int × ByteArray × Unit)) × (List (Int × Unit)) × (List (ByteArray × Unit)) × Int × Int × Int × Int × Int × Int × Int × Int × Int × (List (Int × Unit)) × Unit) : Option (Bool × Unit) := spec_l14NoMate x.1 x.2.1 x.2.2.1 x.2.2.2.1 x.2.2.2.2.1 x.2.2.2.2.2.1 x.2.2.2.2.2.2.1 x.2.2.2.2.2.2.2.1 x.2.2.2.2.2.2.2.2.1 x.2.2.2.2.2.2.2.2.2.1 x.2.2.2.2.2.2.2.2.2.2.1 x.2.2.2.2.2.2.2.2.2.2.2.1 x.2.2.2.2.2.2.2.2.2.2.2.2.1 x.2.2.2.2.2.2.2.2.2.2.2.2.2.1 x.2.2.2.2.2.2.2.2.2.2.2.2.2.2.1 x.2.2.2.2.2.2.2.2.2.2.2.2.2.2.2.1
noncomputable def sem59 : Sem1 := semOf ps59 rs59 x59
theorem so59 : SemsOk Try.prog (semsOf sl59) := sems_cons k60 (sems_cons k76 (sems_nil))
theorem t59_eq (x : denR (headRT (ps59.map some))) : codeK (tabOf tr) (semsOf sl59) D59 L59 code59 (start 54 ps59 x) (finK rs59 ps59) = x59 x := by kernel_rfl
theorem k59 : Known Try.prog 59 sem59 :=
  fn_auto tr_ok eq_ok mixed_ok so59 (D := D59) (code := code59) (n := 54) Try.func59 (by kernel_rfl) (by kernel_rfl) (by kernel_rfl) (fun w0 mu _ hs => (loops_of (l := []) (by kernel_rfl) (List.forall_mem_nil _))) t59_eq

/-! ### f63: spec.BundleOk -/
noncomputable def code63 : Code := match Try.f63.body with | some c => c | none => .skip
def ps63 : List AP := [.val true [.int .i64, .int .i64, .int .i64, .shr (.cons (.int .i64) (.cons (.int .i64) (.cons (.int .i64) (.cons .str .nil))))]]
def rs63 : List RP := [{ src := .tmp 2, agg := false, ps := [.bool] }]
noncomputable def sl63 : SemL := [(29, (.shr, .shr, .shr, sem29)), (74, (.shr, .shr, .shr, sem74))]
def D63 : Draws := fun _ => .nil
noncomputable def L63 {R : Type} : Loops R := fun _ _ _ _ => none
noncomputable def spec_BundleOk (b0c0 : Int) (b0c1 : Int) (b0c2 : Int) (b0c3 : List (Int × Int × Int × ByteArray × Unit)) : Option (Bool × Unit) :=
  Option.bind (spec_l01In b0c0 (1 : Int) (5 : Int)) fun y1 =>
  bif y1.1 then
    Option.bind (spec_l01In b0c1 (1 : Int) (9 : Int)) fun y2 =>
    bif y2.1 then
      Option.bind (spec_l01In b0c2 (0 : Int) (IntKind.i64.wrap (b0c1 - (1 : Int)))) fun y3 =>
      bif y3.1 then
        Option.bind (spec_ItemsOk b0c3) fun y4 =>
        bif y4.1 then
          bif decide ((0 : Int) < b0c2) then
            some (true, ())
          else
            some (decide (((List.length b0c3 : Nat) : Int) = (0 : Int)), ())
        else
          some (false, ())
      else
        some (false, ())
    else
      some (false, ())
  else
    some (false, ())
noncomputable def x63 (x : Int × Int × Int × (List (Int × Int × Int × ByteArray × Unit)) × Unit) : Option (Bool × Unit) := spec_BundleOk x.1 x.2.1 x.2.2.1 x.2.2.2.1
noncomputable def sem63 : Sem1 := semOf ps63 rs63 x63
theorem so63 : SemsOk Try.prog (semsOf sl63) := sems_cons k29 (sems_cons k74 (sems_nil))
theorem t63_eq (x : denR (headRT (ps63.map some))) : codeK (tabOf tr) (semsOf sl63) D63 L63 code63 (start 35 ps63 x) (finK rs63 ps63) = x63 x := by kernel_rfl
theorem k63 : Known Try.prog 63 sem63 :=
  fn_auto tr_ok eq_ok mixed_ok so63 (D := D63) (code := code63) (n := 35) Try.func63 (by kernel_rfl) (by kernel_rfl) (by kernel_rfl) (fun w0 mu _ hs => (loops_of (l := []) (by kernel_rfl) (List.forall_mem_nil _))) t63_eq

/-! ### f19: spec.DaemonOk -/
noncomputable def code19 : Code := match Try.f19.body with | some c => c | none => .skip
def ps19 : List AP := [.val true [.int .i64, .bool, .int .i64, .int .i64, .shr (.cons (.int .i64) .nil), .shr (.cons (.int .i64) (.cons (.int .i64) (.cons (.int .i64) (.cons .str .nil)))), .shr (.cons (.int .i64) .nil), .shr (.cons .str .nil), .int .i64, .int .i64, .int .i64, .int .i64, .int .i64, .int .i64, .int .i64, .int .i64, .int .i64, .shr (.cons (.int .i64) .nil), .int .i64, .int .i64, .int .i64, .shr (.cons (.int .i64) .nil), .shr (.cons (.int .i64) (.cons (.int .i64) (.cons (.int .i64) (.cons (.sl (.cons (.int .i64) (.cons (.int .i64) (.cons (.int .i64) (.cons .str .nil))))) .nil)))), .shr (.cons (.int .i64) (.cons (.int .i64) (.cons (.sl (.cons (.int .i64) .nil)) (.cons (.int .i64) (.cons (.int .i64) (.cons (.int .i64) (.cons .str (.cons (.sl (.cons (.int .i64) .nil)) .nil))))))))]]
def rs19 : List RP := [{ src := .tmp 2, agg := false, ps := [.bool] }]
noncomputable def sl19 : SemL := [(29, (.shr, .shr, .shr, sem29)), (59, (.shr, .shr, .shr, sem59)), (60, (.shr, .shr, .shr, sem60)), (28, (.shr, .shr, .shr, sem28)), (61, (.shr, .shr, .shr, sem61)), (62, (.shr, .shr, .shr, sem62)), (63, (.shr, .shr, .shr, sem63))]
def D19 : Draws := fun id => bif Nat.beq id 14 then .op 0 .any (.op 1 .take (.op 2 .any (.op 3 .any (.op 4 .take (.op 5 .one (.op 6 .any (.op 7 .any (.op 8 .any (.op 9 .take (.op 10 .any (.op 11 .any (.op 12 .any (.op 13 .take (.op 14 .any (.op 15 .any (.op 16 .take (.op 17 .any (.op 18 .any (.nil))))))))))))))))))) else .nil
def hp19_0 : List (Option AP) := [none, some (.box false [.int .i64, .bool, .int .i64, .int .i64, .shr (.cons (.int .i64) .nil), .shr (.cons (.int .i64) (.cons (.int .i64) (.cons (.int .i64) (.cons .str .nil)))), .shr (.cons (.int .i64) .nil), .shr (.cons .str .nil), .int .i64, .int .i64, .int .i64, .int .i64, .int .i64, .int .i64, .int .i64, .int .i64, .int .i64, .shr (.cons (.int .i64) .nil), .int .i64, .int .i64, .int .i64, .shr (.cons (.int .i64) .nil), .shr (.cons (.int .i64) (.cons (.int .i64) (.cons (.int .i64) (.cons (.sl (.cons (.int .i64) (.cons (.int .i64) (.cons (.int .i64) (.cons .str .nil))))) .nil)))), .shr (.cons (.int .i64) (.cons (.int .i64) (.cons (.sl (.cons (.int .i64) .nil)) (.cons (.int .i64) (.cons (.int .i64) (.cons (.int .i64) (.cons .str (.cons (.sl (.cons (.int .i64) .nil)) .nil))))))))]), none, some (.val false [.int .i64]), none, none, none, none, none, none, none, none, none, none, none, none, none, none, none, none, none, none, none, none, none, none, none, none, none, none, none, none, none, none, none, none, none, none, none, none, none, none, none, none, none, none, none, none, none, none, none, none, none, none, none, none, none, none, none, none, none, none, none, none, none, none, none, none, none, none, none, none, none, none, none, none, none, none, none, none, none, none, none, none, none, none, none, none, none, none, none, none, none, none, none, none, none, none, none, none, none, none, none, none, none, none, none, none, none, none, none, none, none, none, none, none, none, none, none, none, none, none, none, none, none, none, none]
def e19_0 : List (Option AP) := [none, none, none, none, none, none, none, none, none, none, none, none, none, none, none, none, none, none, none, none, none, none, none, none, none, none, none, none, none, none, none, none, none, none, none, none, none, none, none, none, none, none, none, none, none, none, none, none, none, none, none, none, none, none, none, none, none, none, none, none, none, none, none, none, none, none, none, none, none, none, none, none, none, none, none, none, none, none, none, none, none, none, none, none, none, none, none, none, none, none, none, none, none, none, none, none, none, none, none, none, none, none, none, none, none, none, none, none, none, none, none, none, none, none, none, none, none, none, none, none, none, none, none, none, none, none, none]
def q19_0 : List (Option AP) := [none, none, some (.val false [.bool]), none, none, none, none, none, none, none, none, none, none, none, none, none, none, none, none, none, none, none, none, none, none, none, none, none, none, none, none, none, none, none, none, none, none, none, none, none, none, none, none, none, none, none, none, none, none, none, none, none, none, none, none, none, none, none, none, none, none, none, none, none, none, none, none, none, none, none, none, none, none, none, none, none, none, none, none, none, none, none, none, none, none, none, none, none, none, none, none, none, none, none, none, none, none, none, none, none, none, none, none, none, none, none, none, none, none, none, none, none, none, none, none, none, none, none, none, none, none, none, none, none, none, none, none]
abbrev H19_0 : Type := Int × Bool × Int × Int × (List (Int × Unit)) × (List (Int × Int × Int × ByteArray × Unit)) × (List (Int × Unit)) × (List (ByteArray × Unit)) × Int × Int × Int × Int × Int × Int × Int × Int × Int × (List (Int × Unit)) × Int × Int × Int × (List (Int × Unit)) × (List (Int × Int × Int × (List (Int × Int × Int × ByteArray × Unit)) × Unit)) × (List (Int × Int × (List (Int × Unit)) × Int × Int × Int × ByteArray × (List (Int × Unit)) × Unit)) × Int × Unit
abbrev E19_0 : Type := Unit
abbrev Q19_0 : Type := Bool × Unit
noncomputable def spec_DaemonOk_c0 (d1c0 : Int) (d1c1 : Bool) (d1c2 : Int) (d1c3 : Int) (d1c4 : List (Int × Unit)) (d1c5 : List (Int × Int × Int × ByteArray × Unit)) (d1c6 : List (Int × Unit)) (d1c7 : List (ByteArray × Unit)) (d1c8 : Int) (d1c9 : Int) (d1c10 : Int) (d1c11 : Int) (d1c12 : Int) (d1c13 : Int) (d1c14 : Int) (d1c15 : Int) (d1c16 : Int) (d1c17 : List (Int × Unit)) (d1c18 : Int) (d1c19 : Int) (d1c20 : Int) (d1c21 : List (Int × Unit)) (d1c22 : List (Int × Int × Int × (List (Int × Int × Int × ByteArray × Unit)) × Unit)) (d1c23 : List (Int × Int × (List (Int × Unit)) × Int × Int × Int × ByteArray × (List (Int × Unit)) × Unit)) (i3 : Int) : Option (Sum H19_0 (Sum E19_0 Q19_0)) :=
  bif decide (i3 < ((List.length d1c22 : Nat) : Int)) then
    bif decide ((0 : Int) ≤ i3) then Option.bind ((d1c22)[Int.toNat i3]?) fun r11 =>
      Option.bind (spec_BundleOk r11.1 r11.2.1 r11.2.2.1 r11.2.2.2.1) fun y12 =>
      bif !y12.1 then
        some (.inr (.inr (false, ())))
      else bif decide ((0 : Int) ≤ i3) then Option.bind ((d1c22)[Int.toNat i3]?) fun r13 =>
        bif !decide (r13.2.1 = d1c20) then
          some (.inr (.inr (false, ())))
        else
          some (.inl (d1c0, d1c1, d1c2, d1c3, d1c4, d1c5, d1c6, d1c7, d1c8, d1c9, d1c10, d1c11, d1c12, d1c13, d1c14, d1c15, d1c16, d1c17, d1c18, d1c19, d1c20, d1c21, d1c22, d1c23, IntKind.i64.wrap (i3 + (1 : Int)), ()))
      else none
    else none
  else
    some (.inr (.inl (())))
noncomputable def spec_DaemonOk_r0 (x : H19_0) : Option (Sum H19_0 (Sum E19_0 Q19_0)) := spec_DaemonOk_c0 x.1 x.2.1 x.2.2.1 x.2.2.2.1 x.2.2.2.2.1 x.2.2.2.2.2.1 x.2.2.2.2.2.2.1 x.2.2.2.2.2.2.2.1 x.2.2.2.2.2.2.2.2.1 x.2.2.2.2.2.2.2.2.2.1 x.2.2.2.2.2.2.2.2.2.2.1 x.2.2.2.2.2.2.2.2.2.2.2.1 x.2.2.2.2.2.2.2.2.2.2.2.2.1 x.2.2.2.2.2.2.2.2.2.2.2.2.2.1 x.2.2.2.2.2.2.2.2.2.2.2.2.2.2.1 x.2.2.2.2.2.2.2.2.2.2.2.2.2.2.2.1 x.2.2.2.2.2.2.2.2.2.2.2.2.2.2.2.2.1 x.2.2.2.2.2.2.2.2.2.2.2.2.2.2.2.2.2.1 x.2.2.2.2.2.2.2.2.2.2.2.2.2.2.2.2.2.2.1 x.2.2.2.2.2.2.2.2.2.2.2.2.2.2.2.2.2.2.2.1 x.2.2.2.2.2.2.2.2.2.2.2.2.2.2.2.2.2.2.2.2.1 x.2.2.2.2.2.2.2.2.2.2.2.2.2.2.2.2.2.2.2.2.2.1 x.2.2.2.2.2.2.2.2.2.2.2.2.2.2.2.2.2.2.2.2.2.2.1 x.2.2.2.2.2.2.2.2.2.2.2.2.2.2.2.2.2.2.2.2.2.2.2.1 x.2.2.2.2.2.2.2.2.2.2.2.2.2.2.2.2.2.2.2.2.2.2.2.2.1
noncomputable def L19 {R : Type} : Loops R := fun id _ st k => bif Nat.beq id 0 then loopAt hp19_0 e19_0 q19_0 spec_DaemonOk_r0 st k else none
noncomputable def spec_DaemonOk (d0c0 : Int) (d0c1 : Bool) (d0c2 : Int) (d0c3 : Int) (d0c4 : List (Int × Unit)) (d0c5 : List (Int × Int × Int × ByteArray × Unit)) (d0c6 : List (Int × Unit)) (d0c7 : List (ByteArray × Unit)) (d0c8 : Int) (d0c9 : Int) (d0c10 : Int) (d0c11 : Int) (d0c12 : Int) (d0c13 : Int) (d0c14 : Int) (d0c15 : Int) (d0c16 : Int) (d0c17 : List (Int × Unit)) (d0c18 : Int) (d0c19 : Int) (d0c20 : Int) (d0c21 : List (Int × Unit)) (d0c22 : List (Int × Int × Int × (List (Int × Int × Int × ByteArray × Unit)) × Unit)) (d0c23 : List (Int × Int × (List (Int × Unit)) × Int × Int × Int × ByteArray × (List (Int × Unit)) × Unit)) : Option (Bool × Unit) :=
  Option.bind (spec_l01In d0c0 (1 : Int) (5 : Int)) fun y1 =>
  bif !y1.1 then
    some (false, ())
  else
    Option.bind (spec_l01In d0c18 (0 : Int) (9 : Int)) fun y2 =>
    bif !y2.1 then
      some (false, ())
    else bif d0c1 then
      Option.bind (spec_l14NoMate d0c2 d0c3 d0c4 d0c5 d0c6 d0c7 d0c8 d0c9 d0c10 d0c11 d0c12 d0c13 d0c14 d0c15 d0c16 d0c17) fun y3 =>
      bif y3.1 then
        bif decide (d0c19 = (0 : Int)) then
          Option.bind (spec_l14NoRing d0c20 d0c21) fun y4 =>
          bif y4.1 then
            some (decide (((List.length d0c22 : Nat) : Int) = (0 : Int)), ())
          else
            some (false, ())
        else
          some (false, ())
      else
        some (false, ())
    else
      Option.bind (spec_l14NoMate d0c2 d0c3 d0c4 d0c5 d0c6 d0c7 d0c8 d0c9 d0c10 d0c11 d0c12 d0c13 d0c14 d0c15 d0c16 d0c17) fun y5 =>
      bif !y5.1 then
        Option.bind (spec_MateOk d0c2 d0c3 d0c4 d0c5 d0c6 d0c7 d0c8 d0c9 d0c10 d0c11 d0c12 d0c13 d0c14 d0c15 d0c16 d0c17) fun y6 =>
        bif !y6.1 then
          some (false, ())
        else bif !decide (d0c2 = d0c0) then
          some (false, ())
        else bif !decide (d0c19 = d0c3) then
          some (false, ())
        else bif decide (d0c18 < d0c19) then
          some (false, ())
        else
          Option.bind (spec_l14NoRing d0c20 d0c21) fun y7 =>
          bif y7.1 then
            some (decide (((List.length d0c22 : Nat) : Int) = (0 : Int)), ())
          else
            Option.bind (spec_RingOk d0c20 d0c21) fun y8 =>
            bif !y8.1 then
              some (false, ())
            else
              Option.bind (spec_l05In d0c21 d0c0) fun y9 =>
              bif !y9.1 then
                some (false, ())
              else
                Option.bind (spec_l01In d0c20 (IntKind.i64.wrap (d0c19 + (1 : Int))) d0c18) fun y10 =>
                bif !y10.1 then
                  some (false, ())
                else
                  outK (loopV spec_DaemonOk_r0 (d0c0, d0c1, d0c2, d0c3, d0c4, d0c5, d0c6, d0c7, d0c8, d0c9, d0c10, d0c11, d0c12, d0c13, d0c14, d0c15, d0c16, d0c17, d0c18, d0c19, d0c20, d0c21, d0c22, d0c23, (0 : Int), ())) (fun y11 =>
                    some (true, ())) (fun y12 =>
                    some (y12.1, ()))
      else bif !decide (d0c19 = d0c3) then
        some (false, ())
      else bif decide (d0c18 < d0c19) then
        some (false, ())
      else
        Option.bind (spec_l14NoRing d0c20 d0c21) fun y13 =>
        bif y13.1 then
          some (decide (((List.length d0c22 : Nat) : Int) = (0 : Int)), ())
        else
          Option.bind (spec_RingOk d0c20 d0c21) fun y14 =>
          bif !y14.1 then
            some (false, ())
          else
            Option.bind (spec_l05In d0c21 d0c0) fun y15 =>
            bif !y15.1 then
              some (false, ())
            else
              Option.bind (spec_l01In d0c20 (IntKind.i64.wrap (d0c19 + (1 : Int))) d0c18) fun y16 =>
              bif !y16.1 then
                some (false, ())
              else
                outK (loopV spec_DaemonOk_r0 (d0c0, d0c1, d0c2, d0c3, d0c4, d0c5, d0c6, d0c7, d0c8, d0c9, d0c10, d0c11, d0c12, d0c13, d0c14, d0c15, d0c16, d0c17, d0c18, d0c19, d0c20, d0c21, d0c22, d0c23, (0 : Int), ())) (fun y17 =>
                  some (true, ())) (fun y18 =>
                  some (y18.1, ()))
noncomputable def x19 (x : Int × Bool × Int × Int × (List (Int × Unit)) × (List (Int × Int × Int × ByteArray × Unit)) × (List (Int × Unit)) × (List (ByteArray × Unit)) × Int × Int × Int × Int × Int × Int × Int × Int × Int × (List (Int × Unit)) × Int × Int × Int × (List (Int × Unit)) × (List (Int × Int × Int × (List (Int × Int × Int × ByteArray × Unit)) × Unit)) × (List (Int × Int × (List (Int × Unit)) × Int × Int × Int × ByteArray × (List (Int × Unit)) × Unit)) × Unit) : Option (Bool × Unit) := spec_DaemonOk x.1 x.2.1 x.2.2.1 x.2.2.2.1 x.2.2.2.2.1 x.2.2.2.2.2.1 x.2.2.2.2.2.2.1 x.2.2.2.2.2.2.2.1 x.2.2.2.2.2.2.2.2.1 x.2.2.2.2.2.2.2.2.2.1 x.2.2.2.2.2.2.2.2.2.2.1 x.2.2.2.2.2.2.2.2.2.2.2.1 x.2.2.2.2.2.2.2.2.2.2.2.2.1 x.2.2.2.2.2.2.2.2.2.2.2.2.2.1 x.2.2.2.2.2.2.2.2.2.2.2.2.2.2.1 x.2.2.2.2.2.2.2.2.2.2.2.2.2.2.2.1 x.2.2.2.2.2.2.2.2.2.2.2.2.2.2.2.2.1 x.2.2.2.2.2.2.2.2.2.2.2.2.2.2.2.2.2.1 x.2.2.2.2.2.2.2.2.2.2.2.2.2.2.2.2.2.2.1 x.2.2.2.2.2.2.2.2.2.2.2.2.2.2.2.2.2.2.2.1 x.2.2.2.2.2.2.2.2.2.2.2.2.2.2.2.2.2.2.2.2.1 x.2.2.2.2.2.2.2.2.2.2.2.2.2.2.2.2.2.2.2.2.2.1 x.2.2.2.2.2.2.2.2.2.2.2.2.2.2.2.2.2.2.2.2.2.2.1 x.2.2.2.2.2.2.2.2.2.2.2.2.2.2.2.2.2.2.2.2.2.2.2.1
noncomputable def sem19 : Sem1 := semOf ps19 rs19 x19
theorem so19 : SemsOk Try.prog (semsOf sl19) := sems_cons k29 (sems_cons k59 (sems_cons k60 (sems_cons k28 (sems_cons k61 (sems_cons k62 (sems_cons k63 (sems_nil)))))))
noncomputable def b19_0 : Code := nthLoop code19 0
theorem t19_r0_eq (x : denR (headRT hp19_0)) : codeK (tabOf tr) (semsOf sl19) D19 L19 b19_0 (headSt hp19_0 x) (roundK 0 hp19_0 e19_0 q19_0) = spec_DaemonOk_r0 x := by kernel_rfl
theorem loop19_0 {R : Type} (r : R) (w0 : World) (mu : Mu) (hs : AnShape ps19 mu) : LoopAt Try.prog w0 mu 127 (L19 : Loops R) r 0 b19_0 :=
  loop_auto tr_ok eq_ok mixed_ok so19 (D := D19) hs (by kernel_rfl) (fun _ => (loops_of (l := []) (by kernel_rfl) (List.forall_mem_nil _))) t19_r0_eq (fun _ _ => rfl)
theorem t19_eq (x : denR (headRT (ps19.map some))) : codeK (tabOf tr) (semsOf sl19) D19 L19 code19 (start 127 ps19 x) (finK rs19 ps19) = x19 x := by kernel_rfl
theorem k19 : Known Try.prog 19 sem19 :=
  fn_auto tr_ok eq_ok mixed_ok so19 (D := D19) (code := code19) (n := 127) Try.func19 (by kernel_rfl) (by kernel_rfl) (by kernel_rfl) (fun w0 mu _ hs => (loops_of (l := [(0, b19_0)]) (by kernel_rfl) (List.forall_mem_cons.2 ⟨loop19_0 _ w0 mu hs, (List.forall_mem_nil _)⟩))) t19_eq

/-! ### f69: impl.Ring).isNone -/
noncomputable def code69 : Code := match Try.f69.body with | some c => c | none => .skip
def ps69 : List AP := [.val true [.int .i64, .shr (.cons (.int .i64) .nil)]]
def rs69 : List RP := [{ src := .tmp 2, agg := false, ps := [.bool] }]
noncomputable def sl69 : SemL := []
def D69 : Draws := fun _ => .nil
noncomputable def L69 {R : Type} : Loops R := fun _ _ _ _ => none
noncomputable def impl_Ring_isNone (r0c0 : Int) (r0c1 : List (Int × Unit)) : Option (Bool × Unit) :=
  bif decide (r0c0 = (0 : Int)) then
    some (decide (((List.length r0c1 : Nat) : Int) = (0 : Int)), ())
  else
    some (false, ())
noncomputable def x69 (x : Int × (List (Int × Unit)) × Unit) : Option (Bool × Unit) := impl_Ring_isNone x.1 x.2.1
noncomputable def sem69 : Sem1 := semOf ps69 rs69 x69
theorem so69 : SemsOk Try.prog (semsOf sl69) := sems_nil
theorem t69_eq (x : denR (headRT (ps69.map some))) : codeK (tabOf tr) (semsOf sl69) D69 L69 code69 (start 12 ps69 x) (finK rs69 ps69) = x69 x := by kernel_rfl
theorem k69 : Known Try.prog 69 sem69 :=
  fn_auto tr_ok eq_ok mixed_ok so69 (D := D69) (code := code69) (n := 12) Try.func69 (by kernel_rfl) (by kernel_rfl) (by kernel_rfl) (fun w0 mu _ hs => (loops_of (l := []) (by kernel_rfl) (List.forall_mem_nil _))) t69_eq

/-! ### f68: impl.Mate).isNone -/
noncomputable def code68 : Code := match Try.f68.body with | some c => c | none => .skip
def ps68 : List AP := [.val true [.int .i64, .int .i64, .shr (.cons (.int .i64) .nil), .shr (.cons (.int .i64) (.cons (.int .i64) (.cons (.int .i64) (.cons .str .nil)))), .shr (.cons (.int .i64) .nil), .shr (.cons .str .nil), .int .i64, .int .i64, .int .i64, .int .i64, .int .i64, .int .i64, .int .i64, .int .i64, .int .i64, .shr (.cons (.int .i64) .nil)]]
def rs68 : List RP := [{ src := .tmp 2, agg := false, ps := [.bool] }]
noncomputable def sl68 : SemL := [(69, (.shr, .shr, .shr, sem69)), (84, (.shr, .shr, .shr, sem84))]
def D68 : Draws := fun _ => .nil
noncomputable def L68 {R : Type} : Loops R := fun _ _ _ _ => none
noncomputable def impl_Mate_isNone (m0c0 : Int) (m0c1 : Int) (m0c2 : List (Int × Unit)) (m0c3 : List (Int × Int × Int × ByteArray × Unit)) (m0c4 : List (Int × Unit)) (m0c5 : List (ByteArray × Unit)) (m0c6 : Int) (m0c7 : Int) (m0c8 : Int) (m0c9 : Int) (m0c10 : Int) (m0c11 : Int) (m0c12 : Int) (m0c13 : Int) (m0c14 : Int) (m0c15 : List (Int × Unit)) : Option (Bool × Unit) :=
  bif !decide (m0c0 = (0 : Int)) then
    some (false, ())
  else
    Option.bind (impl_Ring_isNone m0c1 m0c2) fun y1 =>
    bif !y1.1 then
      some (false, ())
    else bif !decide (m0c6 = (0 : Int)) then
      some (false, ())
    else bif !decide (m0c7 = (0 : Int)) then
      some (false, ())
    else bif !decide (m0c8 = (0 : Int)) then
      some (false, ())
    else bif !decide (m0c9 = (0 : Int)) then
      some (false, ())
    else bif decide (((List.length m0c3 : Nat) : Int) = (0 : Int)) then
      bif decide (((List.length m0c4 : Nat) : Int) = (0 : Int)) then
        bif decide (((List.length m0c5 : Nat) : Int) = (0 : Int)) then
          Option.bind (impl_Token_isZero m0c10 m0c11 m0c12 m0c13 m0c14 m0c15) fun y2 =>
          some (y2.1, ())
        else
          some (false, ())
      else
        some (false, ())
    else
      some (false, ())
noncomputable def x68 (x : Int × Int × (List (Int × Unit)) × (List (Int × Int × Int × ByteArray × Unit)) × (List (Int × Unit)) × (List (ByteArray × Unit)) × Int × Int × Int × Int × Int × Int × Int × Int × Int × (List (Int × Unit)) × Unit) : Option (Bool × Unit) := impl_Mate_isNone x.1 x.2.1 x.2.2.1 x.2.2.2.1 x.2.2.2.2.1 x.2.2.2.2.2.1 x.2.2.2.2.2.2.1 x.2.2.2.2.2.2.2.1 x.2.2.2.2.2.2.2.2.1 x.2.2.2.2.2.2.2.2.2.1 x.2.2.2.2.2.2.2.2.2.2.1 x.2.2.2.2.2.2.2.2.2.2.2.1 x.2.2.2.2.2.2.2.2.2.2.2.2.1 x.2.2.2.2.2.2.2.2.2.2.2.2.2.1 x.2.2.2.2.2.2.2.2.2.2.2.2.2.2.1 x.2.2.2.2.2.2.2.2.2.2.2.2.2.2.2.1
noncomputable def sem68 : Sem1 := semOf ps68 rs68 x68
theorem so68 : SemsOk Try.prog (semsOf sl68) := sems_cons k69 (sems_cons k84 (sems_nil))
theorem t68_eq (x : denR (headRT (ps68.map some))) : codeK (tabOf tr) (semsOf sl68) D68 L68 code68 (start 53 ps68 x) (finK rs68 ps68) = x68 x := by kernel_rfl
theorem k68 : Known Try.prog 68 sem68 :=
  fn_auto tr_ok eq_ok mixed_ok so68 (D := D68) (code := code68) (n := 53) Try.func68 (by kernel_rfl) (by kernel_rfl) (by kernel_rfl) (fun w0 mu _ hs => (loops_of (l := []) (by kernel_rfl) (List.forall_mem_nil _))) t68_eq

/-! ### f95: impl.BundleOk -/
noncomputable def code95 : Code := match Try.f95.body with | some c => c | none => .skip
def ps95 : List AP := [.val true [.int .i64, .int .i64, .int .i64, .shr (.cons (.int .i64) (.cons (.int .i64) (.cons (.int .i64) (.cons .str .nil))))]]
def rs95 : List RP := [{ src := .tmp 2, agg := false, ps := [.bool] }]
noncomputable def sl95 : SemL := [(66, (.shr, .shr, .shr, sem66)), (67, (.shr, .shr, .shr, sem67)), (82, (.shr, .shr, .shr, sem82))]
def D95 : Draws := fun _ => .nil
noncomputable def L95 {R : Type} : Loops R := fun _ _ _ _ => none
noncomputable def impl_BundleOk (b0c0 : Int) (b0c1 : Int) (b0c2 : Int) (b0c3 : List (Int × Int × Int × ByteArray × Unit)) : Option (Bool × Unit) :=
  Option.bind (impl_isDaemon b0c0) fun y1 =>
  bif !y1.1 then
    some (false, ())
  else
    Option.bind (impl_inRange b0c1 (1 : Int) (9 : Int)) fun y2 =>
    bif !y2.1 then
      some (false, ())
    else
      Option.bind (impl_inRange b0c2 (0 : Int) (IntKind.i64.wrap (b0c1 - (1 : Int)))) fun y3 =>
      bif !y3.1 then
        some (false, ())
      else
        Option.bind (impl_ItemsOk b0c3) fun y4 =>
        bif y4.1 then
          bif decide ((0 : Int) < b0c2) then
            some (true, ())
          else
            some (decide (((List.length b0c3 : Nat) : Int) = (0 : Int)), ())
        else
          some (false, ())
noncomputable def x95 (x : Int × Int × Int × (List (Int × Int × Int × ByteArray × Unit)) × Unit) : Option (Bool × Unit) := impl_BundleOk x.1 x.2.1 x.2.2.1 x.2.2.2.1
noncomputable def sem95 : Sem1 := semOf ps95 rs95 x95
theorem so95 : SemsOk Try.prog (semsOf sl95) := sems_cons k66 (sems_cons k67 (sems_cons k82 (sems_nil)))
theorem t95_eq (x : denR (headRT (ps95.map some))) : codeK (tabOf tr) (semsOf sl95) D95 L95 code95 (start 36 ps95 x) (finK rs95 ps95) = x95 x := by kernel_rfl
theorem k95 : Known Try.prog 95 sem95 :=
  fn_auto tr_ok eq_ok mixed_ok so95 (D := D95) (code := code95) (n := 36) Try.func95 (by kernel_rfl) (by kernel_rfl) (by kernel_rfl) (fun w0 mu _ hs => (loops_of (l := []) (by kernel_rfl) (List.forall_mem_nil _))) t95_eq

/-! ### f70: impl.Daemon).joiningOk -/
noncomputable def code70 : Code := match Try.f70.body with | some c => c | none => .skip
def ps70 : List AP := [.box true [.int .i64, .bool, .int .i64, .int .i64, .shr (.cons (.int .i64) .nil), .shr (.cons (.int .i64) (.cons (.int .i64) (.cons (.int .i64) (.cons .str .nil)))), .shr (.cons (.int .i64) .nil), .shr (.cons .str .nil), .int .i64, .int .i64, .int .i64, .int .i64, .int .i64, .int .i64, .int .i64, .int .i64, .int .i64, .shr (.cons (.int .i64) .nil), .int .i64, .int .i64, .int .i64, .shr (.cons (.int .i64) .nil), .shr (.cons (.int .i64) (.cons (.int .i64) (.cons (.int .i64) (.cons (.sl (.cons (.int .i64) (.cons (.int .i64) (.cons (.int .i64) (.cons .str .nil))))) .nil)))), .shr (.cons (.int .i64) (.cons (.int .i64) (.cons (.sl (.cons (.int .i64) .nil)) (.cons (.int .i64) (.cons (.int .i64) (.cons (.int .i64) (.cons .str (.cons (.sl (.cons (.int .i64) .nil)) .nil))))))))]]
def rs70 : List RP := [{ src := .tmp 2, agg := false, ps := [.bool] }]
noncomputable def sl70 : SemL := [(69, (.shr, .shr, .shr, sem69)), (81, (.shr, .shr, .shr, sem81)), (80, (.shr, .shr, .shr, sem80)), (67, (.shr, .shr, .shr, sem67)), (95, (.shr, .shr, .shr, sem95))]
def D70 : Draws := fun id => bif Nat.beq id 3 then .op 0 .any (.op 1 .any (.op 2 .any (.op 3 .take (.op 4 .one (.op 5 .any (.op 6 .any (.op 7 .any (.op 8 .any (.op 9 .any (.op 10 .any (.op 11 .take (.op 12 .any (.op 13 .any (.op 14 .any (.op 15 .take (.op 16 .one (.op 17 .any (.op 18 .any (.op 19 .any (.op 20 .any (.op 21 .any (.op 22 .any (.op 23 .any (.op 24 .take (.op 25 .any (.op 26 .any (.op 27 .any (.op 28 .take (.op 29 .any (.op 30 .any (.op 31 .any (.op 32 .any (.op 33 .take (.op 34 .one (.op 35 .any (.op 36 .any (.nil))))))))))))))))))))))))))))))))))))) else bif Nat.beq id 8 then .op 0 .take (.op 1 .one (.op 2 .any (.op 3 .any (.op 4 .any (.op 5 .take (.op 6 .any (.op 7 .any (.op 8 .any (.op 9 .any (.op 10 .take (.op 11 .any (.op 12 .any (.nil))))))))))))) else .nil
def hp70_0 : List (Option AP) := [some (.box true [.int .i64, .bool, .int .i64, .int .i64, .shr (.cons (.int .i64) .nil), .shr (.cons (.int .i64) (.cons (.int .i64) (.cons (.int .i64) (.cons .str .nil)))), .shr (.cons (.int .i64) .nil), .shr (.cons .str .nil), .int .i64, .int .i64, .int .i64, .int .i64, .int .i64, .int .i64, .int .i64, .int .i64, .int .i64, .shr (.cons (.int .i64) .nil), .int .i64, .int .i64, .int .i64, .shr (.cons (.int .i64) .nil), .shr (.cons (.int .i64) (.cons (.int .i64) (.cons (.int .i64) (.cons (.sl (.cons (.int .i64) (.cons (.int .i64) (.cons (.int .i64) (.cons .str .nil))))) .nil)))), .shr (.cons (.int .i64) (.cons (.int .i64) (.cons (.sl (.cons (.int .i64) .nil)) (.cons (.int .i64) (.cons (.int .i64) (.cons (.int .i64) (.cons .str (.cons (.sl (.cons (.int .i64) .nil)) .nil))))))))]), none, none, none, none, none, none, none, none, none, none, none, none, none, none, none, none, none, none, none, none, none, none, none, none, none, none, none, none, none, none, none, none, none, none, none, none, none, none, none, none, none, none, none, none, none, none, none, none, none, none, none, none, none, none, none, some (.val false [.shr (.cons (.int .i64) (.cons (.int .i64) (.cons (.int .i64) (.cons (.sl (.cons (.int .i64) (.cons (.int .i64) (.cons (.int .i64) (.cons .str .nil))))) .nil))))]), some (.val false [.int .i64]), some (.val false [.int .i64]), none, none, none, none, none, none, none, none, none, none, none, none, none, none, none, none, none]
def e70_0 : List (Option AP) := [some (.box true [.int .i64, .bool, .int .i64, .int .i64, .shr (.cons (.int .i64) .nil), .shr (.cons (.int .i64) (.cons (.int .i64) (.cons (.int .i64) (.cons .str .nil)))), .shr (.cons (.int .i64) .nil), .shr (.cons .str .nil), .int .i64, .int .i64, .int .i64, .int .i64, .int .i64, .int .i64, .int .i64, .int .i64, .int .i64, .shr (.cons (.int .i64) .nil), .int .i64, .int .i64, .int .i64, .shr (.cons (.int .i64) .nil), .shr (.cons (.int .i64) (.cons (.int .i64) (.cons (.int .i64) (.cons (.sl (.cons (.int .i64) (.cons (.int .i64) (.cons (.int .i64) (.cons .str .nil))))) .nil)))), .shr (.cons (.int .i64) (.cons (.int .i64) (.cons (.sl (.cons (.int .i64) .nil)) (.cons (.int .i64) (.cons (.int .i64) (.cons (.int .i64) (.cons .str (.cons (.sl (.cons (.int .i64) .nil)) .nil))))))))]), none, none, none, none, none, none, none, none, none, none, none, none, none, none, none, none, none, none, none, none, none, none, none, none, none, none, none, none, none, none, none, none, none, none, none, none, none, none, none, none, none, none, none, none, none, none, none, none, none, none, none, none, none, none, none, none, none, none, none, none, none, none, none, none, none, none, none, none, none, none, none, none, none, none, none]
def q70_0 : List (Option AP) := [some (.box true [.int .i64, .bool, .int .i64, .int .i64, .shr (.cons (.int .i64) .nil), .shr (.cons (.int .i64) (.cons (.int .i64) (.cons (.int .i64) (.cons .str .nil)))), .shr (.cons (.int .i64) .nil), .shr (.cons .str .nil), .int .i64, .int .i64, .int .i64, .int .i64, .int .i64, .int .i64, .int .i64, .int .i64, .int .i64, .shr (.cons (.int .i64) .nil), .int .i64, .int .i64, .int .i64, .shr (.cons (.int .i64) .nil), .shr (.cons (.int .i64) (.cons (.int .i64) (.cons (.int .i64) (.cons (.sl (.cons (.int .i64) (.cons (.int .i64) (.cons (.int .i64) (.cons .str .nil))))) .nil)))), .shr (.cons (.int .i64) (.cons (.int .i64) (.cons (.sl (.cons (.int .i64) .nil)) (.cons (.int .i64) (.cons (.int .i64) (.cons (.int .i64) (.cons .str (.cons (.sl (.cons (.int .i64) .nil)) .nil))))))))]), none, some (.val false [.bool]), none, none, none, none, none, none, none, none, none, none, none, none, none, none, none, none, none, none, none, none, none, none, none, none, none, none, none, none, none, none, none, none, none, none, none, none, none, none, none, none, none, none, none, none, none, none, none, none, none, none, none, none, none, none, none, none, none, none, none, none, none, none, none, none, none, none, none, none, none, none, none, none, none]
abbrev H70_0 : Type := Int × Bool × Int × Int × (List (Int × Unit)) × (List (Int × Int × Int × ByteArray × Unit)) × (List (Int × Unit)) × (List (ByteArray × Unit)) × Int × Int × Int × Int × Int × Int × Int × Int × Int × (List (Int × Unit)) × Int × Int × Int × (List (Int × Unit)) × (List (Int × Int × Int × (List (Int × Int × Int × ByteArray × Unit)) × Unit)) × (List (Int × Int × (List (Int × Unit)) × Int × Int × Int × ByteArray × (List (Int × Unit)) × Unit)) × (List (Int × Int × Int × (List (Int × Int × Int × ByteArray × Unit)) × Unit)) × Int × Int × Unit
abbrev E70_0 : Type := Int × Bool × Int × Int × (List (Int × Unit)) × (List (Int × Int × Int × ByteArray × Unit)) × (List (Int × Unit)) × (List (ByteArray × Unit)) × Int × Int × Int × Int × Int × Int × Int × Int × Int × (List (Int × Unit)) × Int × Int × Int × (List (Int × Unit)) × (List (Int × Int × Int × (List (Int × Int × Int × ByteArray × Unit)) × Unit)) × (List (Int × Int × (List (Int × Unit)) × Int × Int × Int × ByteArray × (List (Int × Unit)) × Unit)) × Unit
abbrev Q70_0 : Type := Int × Bool × Int × Int × (List (Int × Unit)) × (List (Int × Int × Int × ByteArray × Unit)) × (List (Int × Unit)) × (List (ByteArray × Unit)) × Int × Int × Int × Int × Int × Int × Int × Int × Int × (List (Int × Unit)) × Int × Int × Int × (List (Int × Unit)) × (List (Int × Int × Int × (List (Int × Int × Int × ByteArray × Unit)) × Unit)) × (List (Int × Int × (List (Int × Unit)) × Int × Int × Int × ByteArray × (List (Int × Unit)) × Unit)) × Bool × Unit
noncomputable def impl_Daemon_joiningOk_c0 (d0c0 : Int) (d0c1 : Bool) (d0c2 : Int) (d0c3 : Int) (d0c4 : List (Int × Unit)) (d0c5 : List (Int × Int × Int × ByteArray × Unit)) (d0c6 : List (Int × Unit)) (d0c7 : List (ByteArray × Unit)) (d0c8 : Int) (d0c9 : Int) (d0c10 : Int) (d0c11 : Int) (d0c12 : Int) (d0c13 : Int) (d0c14 : Int) (d0c15 : Int) (d0c16 : Int) (d0c17 : List (Int × Unit)) (d0c18 : Int) (d0c19 : Int) (d0c20 : Int) (d0c21 : List (Int × Unit)) (d0c22 : List (Int × Int × Int × (List (Int × Int × Int × ByteArray × Unit)) × Unit)) (d0c23 : List (Int × Int × (List (Int × Unit)) × Int × Int × Int × ByteArray × (List (Int × Unit)) × Unit)) (t56 : List (Int × Int × Int × (List (Int × Int × Int × ByteArray × Unit)) × Unit)) (t57 : Int) (t58 : Int) : Option (Sum H70_0 (Sum E70_0 Q70_0)) :=
  bif decide (t58 < t57) then
    bif decide ((0 : Int) ≤ t58) then Option.bind ((t56)[Int.toNat t58]?) fun r5 =>
      Option.bind (impl_BundleOk r5.1 r5.2.1 r5.2.2.1 r5.2.2.2.1) fun y6 =>
      bif !y6.1 then
        some (.inr (.inr (d0c0, d0c1, d0c2, d0c3, d0c4, d0c5, d0c6, d0c7, d0c8, d0c9, d0c10, d0c11, d0c12, d0c13, d0c14, d0c15, d0c16, d0c17, d0c18, d0c19, d0c20, d0c21, d0c22, d0c23, false, ())))
      else bif !decide (r5.2.1 = d0c20) then
        some (.inr (.inr (d0c0, d0c1, d0c2, d0c3, d0c4, d0c5, d0c6, d0c7, d0c8, d0c9, d0c10, d0c11, d0c12, d0c13, d0c14, d0c15, d0c16, d0c17, d0c18, d0c19, d0c20, d0c21, d0c22, d0c23, false, ())))
      else
        some (.inl (d0c0, d0c1, d0c2, d0c3, d0c4, d0c5, d0c6, d0c7, d0c8, d0c9, d0c10, d0c11, d0c12, d0c13, d0c14, d0c15, d0c16, d0c17, d0c18, d0c19, d0c20, d0c21, d0c22, d0c23, t56, t57, IntKind.i64.wrap (t58 + (1 : Int)), ()))
    else none
  else
    some (.inr (.inl (d0c0, d0c1, d0c2, d0c3, d0c4, d0c5, d0c6, d0c7, d0c8, d0c9, d0c10, d0c11, d0c12, d0c13, d0c14, d0c15, d0c16, d0c17, d0c18, d0c19, d0c20, d0c21, d0c22, d0c23, ())))
noncomputable def impl_Daemon_joiningOk_r0 (x : H70_0) : Option (Sum H70_0 (Sum E70_0 Q70_0)) := impl_Daemon_joiningOk_c0 x.1 x.2.1 x.2.2.1 x.2.2.2.1 x.2.2.2.2.1 x.2.2.2.2.2.1 x.2.2.2.2.2.2.1 x.2.2.2.2.2.2.2.1 x.2.2.2.2.2.2.2.2.1 x.2.2.2.2.2.2.2.2.2.1 x.2.2.2.2.2.2.2.2.2.2.1 x.2.2.2.2.2.2.2.2.2.2.2.1 x.2.2.2.2.2.2.2.2.2.2.2.2.1 x.2.2.2.2.2.2.2.2.2.2.2.2.2.1 x.2.2.2.2.2.2.2.2.2.2.2.2.2.2.1 x.2.2.2.2.2.2.2.2.2.2.2.2.2.2.2.1 x.2.2.2.2.2.2.2.2.2.2.2.2.2.2.2.2.1 x.2.2.2.2.2.2.2.2.2.2.2.2.2.2.2.2.2.1 x.2.2.2.2.2.2.2.2.2.2.2.2.2.2.2.2.2.2.1 x.2.2.2.2.2.2.2.2.2.2.2.2.2.2.2.2.2.2.2.1 x.2.2.2.2.2.2.2.2.2.2.2.2.2.2.2.2.2.2.2.2.1 x.2.2.2.2.2.2.2.2.2.2.2.2.2.2.2.2.2.2.2.2.2.1 x.2.2.2.2.2.2.2.2.2.2.2.2.2.2.2.2.2.2.2.2.2.2.1 x.2.2.2.2.2.2.2.2.2.2.2.2.2.2.2.2.2.2.2.2.2.2.2.1 x.2.2.2.2.2.2.2.2.2.2.2.2.2.2.2.2.2.2.2.2.2.2.2.2.1 x.2.2.2.2.2.2.2.2.2.2.2.2.2.2.2.2.2.2.2.2.2.2.2.2.2.1 x.2.2.2.2.2.2.2.2.2.2.2.2.2.2.2.2.2.2.2.2.2.2.2.2.2.2.1
noncomputable def L70 {R : Type} : Loops R := fun id _ st k => bif Nat.beq id 0 then loopAt hp70_0 e70_0 q70_0 impl_Daemon_joiningOk_r0 st k else none
noncomputable def impl_Daemon_joiningOk (d0c0 : Int) (d0c1 : Bool) (d0c2 : Int) (d0c3 : Int) (d0c4 : List (Int × Unit)) (d0c5 : List (Int × Int × Int × ByteArray × Unit)) (d0c6 : List (Int × Unit)) (d0c7 : List (ByteArray × Unit)) (d0c8 : Int) (d0c9 : Int) (d0c10 : Int) (d0c11 : Int) (d0c12 : Int) (d0c13 : Int) (d0c14 : Int) (d0c15 : Int) (d0c16 : Int) (d0c17 : List (Int × Unit)) (d0c18 : Int) (d0c19 : Int) (d0c20 : Int) (d0c21 : List (Int × Unit)) (d0c22 : List (Int × Int × Int × (List (Int × Int × Int × ByteArray × Unit)) × Unit)) (d0c23 : List (Int × Int × (List (Int × Unit)) × Int × Int × Int × ByteArray × (List (Int × Unit)) × Unit)) : Option (Bool × Int × Bool × Int × Int × (List (Int × Unit)) × (List (Int × Int × Int × ByteArray × Unit)) × (List (Int × Unit)) × (List (ByteArray × Unit)) × Int × Int × Int × Int × Int × Int × Int × Int × Int × (List (Int × Unit)) × Int × Int × Int × (List (Int × Unit)) × (List (Int × Int × Int × (List (Int × Int × Int × ByteArray × Unit)) × Unit)) × (List (Int × Int × (List (Int × Unit)) × Int × Int × Int × ByteArray × (List (Int × Unit)) × Unit)) × Unit) :=
  Option.bind (impl_Ring_isNone d0c20 d0c21) fun y1 =>
  bif y1.1 then
    some (decide (((List.length d0c22 : Nat) : Int) = (0 : Int)), d0c0, d0c1, d0c2, d0c3, d0c4, d0c5, d0c6, d0c7, d0c8, d0c9, d0c10, d0c11, d0c12, d0c13, d0c14, d0c15, d0c16, d0c17, d0c18, d0c19, d0c20, d0c21, d0c22, d0c23, ())
  else
    Option.bind (impl_RingOk d0c20 d0c21) fun y2 =>
    bif !y2.1 then
      some (false, d0c0, d0c1, d0c2, d0c3, d0c4, d0c5, d0c6, d0c7, d0c8, d0c9, d0c10, d0c11, d0c12, d0c13, d0c14, d0c15, d0c16, d0c17, d0c18, d0c19, d0c20, d0c21, d0c22, d0c23, ())
    else
      Option.bind (slices_Contains_int d0c21 d0c0) fun y3 =>
      bif !y3.1 then
        some (false, d0c0, d0c1, d0c2, d0c3, d0c4, d0c5, d0c6, d0c7, d0c8, d0c9, d0c10, d0c11, d0c12, d0c13, d0c14, d0c15, d0c16, d0c17, d0c18, d0c19, d0c20, d0c21, d0c22, d0c23, ())
      else
        Option.bind (impl_inRange d0c20 (IntKind.i64.wrap (d0c19 + (1 : Int))) d0c18) fun y4 =>
        bif !y4.1 then
          some (false, d0c0, d0c1, d0c2, d0c3, d0c4, d0c5, d0c6, d0c7, d0c8, d0c9, d0c10, d0c11, d0c12, d0c13, d0c14, d0c15, d0c16, d0c17, d0c18, d0c19, d0c20, d0c21, d0c22, d0c23, ())
        else
          outK (loopV impl_Daemon_joiningOk_r0 (d0c0, d0c1, d0c2, d0c3, d0c4, d0c5, d0c6, d0c7, d0c8, d0c9, d0c10, d0c11, d0c12, d0c13, d0c14, d0c15, d0c16, d0c17, d0c18, d0c19, d0c20, d0c21, d0c22, d0c23, d0c22, ((List.length d0c22 : Nat) : Int), (0 : Int), ())) (fun y5 =>
            some (true, y5.1, y5.2.1, y5.2.2.1, y5.2.2.2.1, y5.2.2.2.2.1, y5.2.2.2.2.2.1, y5.2.2.2.2.2.2.1, y5.2.2.2.2.2.2.2.1, y5.2.2.2.2.2.2.2.2.1, y5.2.2.2.2.2.2.2.2.2.1, y5.2.2.2.2.2.2.2.2.2.2.1, y5.2.2.2.2.2.2.2.2.2.2.2.1, y5.2.2.2.2.2.2.2.2.2.2.2.2.1, y5.2.2.2.2.2.2.2.2.2.2.2.2.2.1, y5.2.2.2.2.2.2.2.2.2.2.2.2.2.2.1, y5.2.2.2.2.2.2.2.2.2.2.2.2.2.2.2.1, y5.2.2.2.2.2.2.2.2.2.2.2.2.2.2.2.2.1, y5.2.2.2.2.2.2.2.2.2.2.2.2.2.2.2.2.2.1, y5.2.2.2.2.2.2.2.2.2.2.2.2.2.2.2.2.2.2.1, y5.2.2.2.2.2.2.2.2.2.2.2.2.2.2.2.2.2.2.2.1, y5.2.2.2.2.2.2.2.2.2.2.2.2.2.2.2.2.2.2.2.2.1, y5.2.2.2.2.2.2.2.2.2.2.2.2.2.2.2.2.2.2.2.2.2.1, y5.2.2.2.2.2.2.2.2.2.2.2.2.2.2.2.2.2.2.2.2.2.2.1, y5.2.2.2.2.2.2.2.2.2.2.2.2.2.2.2.2.2.2.2.2.2.2.2.1, ())) (fun y6 =>
            some (y6.2.2.2.2.2.2.2.2.2.2.2.2.2.2.2.2.2.2.2.2.2.2.2.2.1, y6.1, y6.2.1, y6.2.2.1, y6.2.2.2.1, y6.2.2.2.2.1, y6.2.2.2.2.2.1, y6.2.2.2.2.2.2.1, y6.2.2.2.2.2.2.2.1, y6.2.2.2.2.2.2.2.2.1, y6.2.2.2.2.2.2.2.2.2.1, y6.2.2.2.2.2.2.2.2.2.2.1, y6.2.2.2.2.2.2.2.2.2.2.2.1, y6.2.2.2.2.2.2.2.2.2.2.2.2.1, y6.2.2.2.2.2.2.2.2.2.2.2.2.2.1, y6.2.2.2.2.2.2.2.2.2.2.2.2.2.2.1, y6.2.2.2.2.2.2.2.2.2.2.2.2.2.2.2.1, y6.2.2.2.2.2.2.2.2.2.2.2.2.2.2.2.2.1, y6.2.2.2.2.2.2.2.2.2.2.2.2.2.2.2.2.2.1, y6.2.2.2.2.2.2.2.2.2.2.2.2.2.2.2.2.2.2.1, y6.2.2.2.2.2.2.2.2.2.2.2.2.2.2.2.2.2.2.2.1, y6.2.2.2.2.2.2.2.2.2.2.2.2.2.2.2.2.2.2.2.2.1, y6.2.2.2.2.2.2.2.2.2.2.2.2.2.2.2.2.2.2.2.2.2.1, y6.2.2.2.2.2.2.2.2.2.2.2.2.2.2.2.2.2.2.2.2.2.2.1, y6.2.2.2.2.2.2.2.2.2.2.2.2.2.2.2.2.2.2.2.2.2.2.2.1, ()))
noncomputable def x70 (x : Int × Bool × Int × Int × (List (Int × Unit)) × (List (Int × Int × Int × ByteArray × Unit)) × (List (Int × Unit)) × (List (ByteArray × Unit)) × Int × Int × Int × Int × Int × Int × Int × Int × Int × (List (Int × Unit)) × Int × Int × Int × (List (Int × Unit)) × (List (Int × Int × Int × (List (Int × Int × Int × ByteArray × Unit)) × Unit)) × (List (Int × Int × (List (Int × Unit)) × Int × Int × Int × ByteArray × (List (Int × Unit)) × Unit)) × Unit) : Option (Bool × Int × Bool × Int × Int × (List (Int × Unit)) × (List (Int × Int × Int × ByteArray × Unit)) × (List (Int × Unit)) × (List (ByteArray × Unit)) × Int × Int × Int × Int × Int × Int × Int × Int × Int × (List (Int × Unit)) × Int × Int × Int × (List (Int × Unit)) × (List (Int × Int × Int × (List (Int × Int × Int × ByteArray × Unit)) × Unit)) × (List (Int × Int × (List (Int × Unit)) × Int × Int × Int × ByteArray × (List (Int × Unit)) × Unit)) × Unit) := impl_Daemon_joiningOk x.1 x.2.1 x.2.2.1 x.2.2.2.1 x.2.2.2.2.1 x.2.2.2.2.2.1 x.2.2.2.2.2.2.1 x.2.2.2.2.2.2.2.1 x.2.2.2.2.2.2.2.2.1 x.2.2.2.2.2.2.2.2.2.1 x.2.2.2.2.2.2.2.2.2.2.1 x.2.2.2.2.2.2.2.2.2.2.2.1 x.2.2.2.2.2.2.2.2.2.2.2.2.1 x.2.2.2.2.2.2.2.2.2.2.2.2.2.1 x.2.2.2.2.2.2.2.2.2.2.2.2.2.2.1 x.2.2.2.2.2.2.2.2.2.2.2.2.2.2.2.1 x.2.2.2.2.2.2.2.2.2.2.2.2.2.2.2.2.1 x.2.2.2.2.2.2.2.2.2.2.2.2.2.2.2.2.2.1 x.2.2.2.2.2.2.2.2.2.2.2.2.2.2.2.2.2.2.1 x.2.2.2.2.2.2.2.2.2.2.2.2.2.2.2.2.2.2.2.1 x.2.2.2.2.2.2.2.2.2.2.2.2.2.2.2.2.2.2.2.2.1 x.2.2.2.2.2.2.2.2.2.2.2.2.2.2.2.2.2.2.2.2.2.1 x.2.2.2.2.2.2.2.2.2.2.2.2.2.2.2.2.2.2.2.2.2.2.1 x.2.2.2.2.2.2.2.2.2.2.2.2.2.2.2.2.2.2.2.2.2.2.2.1
noncomputable def sem70 : Sem1 := semOf ps70 rs70 x70
theorem so70 : SemsOk Try.prog (semsOf sl70) := sems_cons k69 (sems_cons k81 (sems_cons k80 (sems_cons k67 (sems_cons k95 (sems_nil)))))
noncomputable def b70_0 : Code := nthLoop code70 0
theorem t70_r0_eq (x : denR (headRT hp70_0)) : codeK (tabOf tr) (semsOf sl70) D70 L70 b70_0 (headSt hp70_0 x) (roundK 0 hp70_0 e70_0 q70_0) = impl_Daemon_joiningOk_r0 x := by kernel_rfl
theorem loop70_0 {R : Type} (r : R) (w0 : World) (mu : Mu) (hs : AnShape ps70 mu) : LoopAt Try.prog w0 mu 76 (L70 : Loops R) r 0 b70_0 :=
  loop_auto tr_ok eq_ok mixed_ok so70 (D := D70) hs (by kernel_rfl) (fun _ => (loops_of (l := []) (by kernel_rfl) (List.forall_mem_nil _))) t70_r0_eq (fun _ _ => rfl)
theorem t70_eq (x : denR (headRT (ps70.map some))) : codeK (tabOf tr) (semsOf sl70) D70 L70 code70 (start 76 ps70 x) (finK rs70 ps70) = x70 x := by kernel_rfl
theorem k70 : Known Try.prog 70 sem70 :=
  fn_auto tr_ok eq_ok mixed_ok so70 (D := D70) (code := code70) (n := 76) Try.func70 (by kernel_rfl) (by kernel_rfl) (by kernel_rfl) (fun w0 mu _ hs => (loops_of (l := [(0, b70_0)]) (by kernel_rfl) (List.forall_mem_cons.2 ⟨loop70_0 _ w0 mu hs, (List.forall_mem_nil _)⟩))) t70_eq

/-! ### f21: impl.DaemonOk -/
noncomputable def code21 : Code := match Try.f21.body with | some c => c | none => .skip
def ps21 : List AP := [.val true [.int .i64, .bool, .int .i64, .int .i64, .shr (.cons (.int .i64) .nil), .shr (.cons (.int .i64) (.cons (.int .i64) (.cons (.int .i64) (.cons .str .nil)))), .shr (.cons (.int .i64) .nil), .shr (.cons .str .nil), .int .i64, .int .i64, .int .i64, .int .i64, .int .i64, .int .i64, .int .i64, .int .i64, .int .i64, .shr (.cons (.int .i64) .nil), .int .i64, .int .i64, .int .i64, .shr (.cons (.int .i64) .nil), .shr (.cons (.int .i64) (.cons (.int .i64) (.cons (.int .i64) (.cons (.sl (.cons (.int .i64) (.cons (.int .i64) (.cons (.int .i64) (.cons .str .nil))))) .nil)))), .shr (.cons (.int .i64) (.cons (.int .i64) (.cons (.sl (.cons (.int .i64) .nil)) (.cons (.int .i64) (.cons (.int .i64) (.cons (.int .i64) (.cons .str (.cons (.sl (.cons (.int .i64) .nil)) .nil))))))))]]
def rs21 : List RP := [{ src := .tmp 2, agg := false, ps := [.bool] }]
noncomputable def sl21 : SemL := [(66, (.shr, .shr, .shr, sem66)), (67, (.shr, .shr, .shr, sem67)), (68, (.shr, .shr, .shr, sem68)), (69, (.shr, .shr, .shr, sem69)), (37, (.shr, .shr, .shr, sem37)), (70, (.shr, .shr, .shr, sem70))]
def D21 : Draws := fun _ => .nil
noncomputable def L21 {R : Type} : Loops R := fun _ _ _ _ => none
noncomputable def impl_DaemonOk (d0c0 : Int) (d0c1 : Bool) (d0c2 : Int) (d0c3 : Int) (d0c4 : List (Int × Unit)) (d0c5 : List (Int × Int × Int × ByteArray × Unit)) (d0c6 : List (Int × Unit)) (d0c7 : List (ByteArray × Unit)) (d0c8 : Int) (d0c9 : Int) (d0c10 : Int) (d0c11 : Int) (d0c12 : Int) (d0c13 : Int) (d0c14 : Int) (d0c15 : Int) (d0c16 : Int) (d0c17 : List (Int × Unit)) (d0c18 : Int) (d0c19 : Int) (d0c20 : Int) (d0c21 : List (Int × Unit)) (d0c22 : List (Int × Int × Int × (List (Int × Int × Int × ByteArray × Unit)) × Unit)) (d0c23 : List (Int × Int × (List (Int × Unit)) × Int × Int × Int × ByteArray × (List (Int × Unit)) × Unit)) : Option (Bool × Unit) :=
  Option.bind (impl_isDaemon d0c0) fun y1 =>
  bif !y1.1 then
    some (false, ())
  else
    Option.bind (impl_inRange d0c18 (0 : Int) (9 : Int)) fun y2 =>
    bif !y2.1 then
      some (false, ())
    else bif d0c1 then
      Option.bind (impl_Mate_isNone d0c2 d0c3 d0c4 d0c5 d0c6 d0c7 d0c8 d0c9 d0c10 d0c11 d0c12 d0c13 d0c14 d0c15 d0c16 d0c17) fun y3 =>
      bif !y3.1 then
        some (false, ())
      else bif !decide (d0c19 = (0 : Int)) then
        some (false, ())
      else
        Option.bind (impl_Ring_isNone d0c20 d0c21) fun y4 =>
        bif !y4.1 then
          some (false, ())
        else bif decide ((0 : Int) < ((List.length d0c22 : Nat) : Int)) then
          some (false, ())
        else
          Option.bind (impl_Mate_isNone d0c2 d0c3 d0c4 d0c5 d0c6 d0c7 d0c8 d0c9 d0c10 d0c11 d0c12 d0c13 d0c14 d0c15 d0c16 d0c17) fun y5 =>
          bif !y5.1 then
            bif !decide (d0c2 = d0c0) then
              some (false, ())
            else
              Option.bind (impl_MateOk d0c2 d0c3 d0c4 d0c5 d0c6 d0c7 d0c8 d0c9 d0c10 d0c11 d0c12 d0c13 d0c14 d0c15 d0c16 d0c17) fun y6 =>
              bif !y6.1 then
                some (false, ())
              else bif decide (d0c19 = d0c3) then
                bif decide (d0c19 ≤ d0c18) then
                  Option.bind (impl_Daemon_joiningOk d0c0 d0c1 d0c2 d0c3 d0c4 d0c5 d0c6 d0c7 d0c8 d0c9 d0c10 d0c11 d0c12 d0c13 d0c14 d0c15 d0c16 d0c17 d0c18 d0c19 d0c20 d0c21 d0c22 d0c23) fun y7 =>
                  some (y7.1, ())
                else
                  some (false, ())
              else
                some (false, ())
          else bif decide (d0c19 = d0c3) then
            bif decide (d0c19 ≤ d0c18) then
              Option.bind (impl_Daemon_joiningOk d0c0 d0c1 d0c2 d0c3 d0c4 d0c5 d0c6 d0c7 d0c8 d0c9 d0c10 d0c11 d0c12 d0c13 d0c14 d0c15 d0c16 d0c17 d0c18 d0c19 d0c20 d0c21 d0c22 d0c23) fun y8 =>
              some (y8.1, ())
            else
              some (false, ())
          else
            some (false, ())
    else
      Option.bind (impl_Mate_isNone d0c2 d0c3 d0c4 d0c5 d0c6 d0c7 d0c8 d0c9 d0c10 d0c11 d0c12 d0c13 d0c14 d0c15 d0c16 d0c17) fun y9 =>
      bif !y9.1 then
        bif !decide (d0c2 = d0c0) then
          some (false, ())
        else
          Option.bind (impl_MateOk d0c2 d0c3 d0c4 d0c5 d0c6 d0c7 d0c8 d0c9 d0c10 d0c11 d0c12 d0c13 d0c14 d0c15 d0c16 d0c17) fun y10 =>
          bif !y10.1 then
            some (false, ())
          else bif decide (d0c19 = d0c3) then
            bif decide (d0c19 ≤ d0c18) then
              Option.bind (impl_Daemon_joiningOk d0c0 d0c1 d0c2 d0c3 d0c4 d0c5 d0c6 d0c7 d0c8 d0c9 d0c10 d0c11 d0c12 d0c13 d0c14 d0c15 d0c16 d0c17 d0c18 d0c19 d0c20 d0c21 d0c22 d0c23) fun y11 =>
              some (y11.1, ())
            else
              some (false, ())
          else
            some (false, ())
      else bif decide (d0c19 = d0c3) then
        bif decide (d0c19 ≤ d0c18) then
          Option.bind (impl_Daemon_joiningOk d0c0 d0c1 d0c2 d0c3 d0c4 d0c5 d0c6 d0c7 d0c8 d0c9 d0c10 d0c11 d0c12 d0c13 d0c14 d0c15 d0c16 d0c17 d0c18 d0c19 d0c20 d0c21 d0c22 d0c23) fun y12 =>
          some (y12.1, ())
        else
          some (false, ())
      else
        some (false, ())
noncomputable def x21 (x : Int × Bool × Int × Int × (List (Int × Unit)) × (List (Int × Int × Int × ByteArray × Unit)) × (List (Int × Unit)) × (List (ByteArray × Unit)) × Int × Int × Int × Int × Int × Int × Int × Int × Int × (List (Int × Unit)) × Int × Int × Int × (List (Int × Unit)) × (List (Int × Int × Int × (List (Int × Int × Int × ByteArray × Unit)) × Unit)) × (List (Int × Int × (List (Int × Unit)) × Int × Int × Int × ByteArray × (List (Int × Unit)) × Unit)) × Unit) : Option (Bool × Unit) := impl_DaemonOk x.1 x.2.1 x.2.2.1 x.2.2.2.1 x.2.2.2.2.1 x.2.2.2.2.2.1 x.2.2.2.2.2.2.1 x.2.2.2.2.2.2.2.1 x.2.2.2.2.2.2.2.2.1 x.2.2.2.2.2.2.2.2.2.1 x.2.2.2.2.2.2.2.2.2.2.1 x.2.2.2.2.2.2.2.2.2.2.2.1 x.2.2.2.2.2.2.2.2.2.2.2.2.1 x.2.2.2.2.2.2.2.2.2.2.2.2.2.1 x.2.2.2.2.2.2.2.2.2.2.2.2.2.2.1 x.2.2.2.2.2.2.2.2.2.2.2.2.2.2.2.1 x.2.2.2.2.2.2.2.2.2.2.2.2.2.2.2.2.1 x.2.2.2.2.2.2.2.2.2.2.2.2.2.2.2.2.2.1 x.2.2.2.2.2.2.2.2.2.2.2.2.2.2.2.2.2.2.1 x.2.2.2.2.2.2.2.2.2.2.2.2.2.2.2.2.2.2.2.1 x.2.2.2.2.2.2.2.2.2.2.2.2.2.2.2.2.2.2.2.2.1 x.2.2.2.2.2.2.2.2.2.2.2.2.2.2.2.2.2.2.2.2.2.1 x.2.2.2.2.2.2.2.2.2.2.2.2.2.2.2.2.2.2.2.2.2.2.1 x.2.2.2.2.2.2.2.2.2.2.2.2.2.2.2.2.2.2.2.2.2.2.2.1
noncomputable def sem21 : Sem1 := semOf ps21 rs21 x21
theorem so21 : SemsOk Try.prog (semsOf sl21) := sems_cons k66 (sems_cons k67 (sems_cons k68 (sems_cons k69 (sems_cons k37 (sems_cons k70 (sems_nil))))))
theorem t21_eq (x : denR (headRT (ps21.map some))) : codeK (tabOf tr) (semsOf sl21) D21 L21 code21 (start 73 ps21 x) (finK rs21 ps21) = x21 x := by kernel_rfl
theorem k21 : Known Try.prog 21 sem21 :=
  fn_auto tr_ok eq_ok mixed_ok so21 (D := D21) (code := code21) (n := 73) Try.func21 (by kernel_rfl) (by kernel_rfl) (by kernel_rfl) (fun w0 mu _ hs => (loops_of (l := []) (by kernel_rfl) (List.forall_mem_nil _))) t21_eq

/-! ### f96: laws.eqBundle -/
noncomputable def code96 : Code := match Try.f96.body with | some c => c | none => .skip
def ps96 : List AP := [.val true [.int .i64, .int .i64, .int .i64, .shr (.cons (.int .i64) (.cons (.int .i64) (.cons (.int .i64) (.cons .str .nil))))], .val true [.int .i64, .int .i64, .int .i64, .shr (.cons (.int .i64) (.cons (.int .i64) (.cons (.int .i64) (.cons .str .nil))))]]
def rs96 : List RP := [{ src := .tmp 4, agg := false, ps := [.bool] }]
noncomputable def sl96 : SemL := [(15, (.shr, .shr, .shr, sem15))]
def D96 : Draws := fun _ => .nil
noncomputable def L96 {R : Type} : Loops R := fun _ _ _ _ => none
noncomputable def laws_eqBundle (a0c0 : Int) (a0c1 : Int) (a0c2 : Int) (a0c3 : List (Int × Int × Int × ByteArray × Unit)) (b1c0 : Int) (b1c1 : Int) (b1c2 : Int) (b1c3 : List (Int × Int × Int × ByteArray × Unit)) : Option (Bool × Unit) :=
  bif !decide (a0c0 = b1c0) then
    some (false, ())
  else bif !decide (a0c1 = b1c1) then
    some (false, ())
  else bif !decide (a0c2 = b1c2) then
    some (false, ())
  else
    Option.bind (laws_eqItemS a0c3 b1c3) fun y1 =>
    bif !y1.1 then
      some (false, ())
    else
      some (true, ())
noncomputable def x96 (x : Int × Int × Int × (List (Int × Int × Int × ByteArray × Unit)) × Int × Int × Int × (List (Int × Int × Int × ByteArray × Unit)) × Unit) : Option (Bool × Unit) := laws_eqBundle x.1 x.2.1 x.2.2.1 x.2.2.2.1 x.2.2.2.2.1 x.2.2.2.2.2.1 x.2.2.2.2.2.2.1 x.2.2.2.2.2.2.2.1
noncomputable def sem96 : Sem1 := semOf ps96 rs96 x96
theorem so96 : SemsOk Try.prog (semsOf sl96) := sems_cons k15 (sems_nil)
theorem t96_eq (x : denR (headRT (ps96.map some))) : codeK (tabOf tr) (semsOf sl96) D96 L96 code96 (start 26 ps96 x) (finK rs96 ps96) = x96 x := by kernel_rfl
theorem k96 : Known Try.prog 96 sem96 :=
  fn_auto tr_ok eq_ok mixed_ok so96 (D := D96) (code := code96) (n := 26) Try.func96 (by kernel_rfl) (by kernel_rfl) (by kernel_rfl) (fun w0 mu _ hs => (loops_of (l := []) (by kernel_rfl) (List.forall_mem_nil _))) t96_eq

/-! ### f71: laws.eqBundleS -/
noncomputable def code71 : Code := match Try.f71.body with | some c => c | none => .skip
def ps71 : List AP := [.val false [.shr (.cons (.int .i64) (.cons (.int .i64) (.cons (.int .i64) (.cons (.sl (.cons (.int .i64) (.cons (.int .i64) (.cons (.int .i64) (.cons .str .nil))))) .nil))))], .val false [.shr (.cons (.int .i64) (.cons (.int .i64) (.cons (.int .i64) (.cons (.sl (.cons (.int .i64) (.cons (.int .i64) (.cons (.int .i64) (.cons .str .nil))))) .nil))))]]
def rs71 : List RP := [{ src := .tmp 4, agg := false, ps := [.bool] }]
noncomputable def sl71 : SemL := [(96, (.shr, .shr, .shr, sem96))]
def D71 : Draws := fun id => bif Nat.beq id 6 then .op 0 .any (.op 1 .any (.op 2 .any (.op 3 .take (.op 4 .any (.op 5 .any (.op 6 .any (.op 7 .take (.op 8 .one (.op 9 .any (.nil)))))))))) else .nil
def hp71_0 : List (Option AP) := [some (.val false [.shr (.cons (.int .i64) (.cons (.int .i64) (.cons (.int .i64) (.cons (.sl (.cons (.int .i64) (.cons (.int .i64) (.cons (.int .i64) (.cons .str .nil))))) .nil))))]), some (.val false [.shr (.cons (.int .i64) (.cons (.int .i64) (.cons (.int .i64) (.cons (.sl (.cons (.int .i64) (.cons (.int .i64) (.cons (.int .i64) (.cons .str .nil))))) .nil))))]), none, none, none, some (.val false [.int .i64]), none, none, none, none, none, none, none, none, none, none, none, none, none, none, none, none, none, none, none, none, none]
def e71_0 : List (Option AP) := [none, none, none, none, none, none, none, none, none, none, none, none, none, none, none, none, none, none, none, none, none, none, none, none, none, none, none]
def q71_0 : List (Option AP) := [none, none, none, none, some (.val false [.bool]), none, none, none, none, none, none, none, none, none, none, none, none, none, none, none, none, none, none, none, none, none, none]
abbrev H71_0 : Type := (List (Int × Int × Int × (List (Int × Int × Int × ByteArray × Unit)) × Unit)) × (List (Int × Int × Int × (List (Int × Int × Int × ByteArray × Unit)) × Unit)) × Int × Unit
abbrev E71_0 : Type := Unit
abbrev Q71_0 : Type := Bool × Unit
noncomputable def laws_eqBundleS_c0 (a0 : List (Int × Int × Int × (List (Int × Int × Int × ByteArray × Unit)) × Unit)) (b1 : List (Int × Int × Int × (List (Int × Int × Int × ByteArray × Unit)) × Unit)) (i5 : Int) : Option (Sum H71_0 (Sum E71_0 Q71_0)) :=
  bif decide (i5 < ((List.length a0 : Nat) : Int)) then
    bif decide ((0 : Int) ≤ i5) then Option.bind ((a0)[Int.toNat i5]?) fun r1 =>
      bif decide ((0 : Int) ≤ i5) then Option.bind ((b1)[Int.toNat i5]?) fun r2 =>
        Option.bind (laws_eqBundle r1.1 r1.2.1 r1.2.2.1 r1.2.2.2.1 r2.1 r2.2.1 r2.2.2.1 r2.2.2.2.1) fun y3 =>
        bif !y3.1 then
          some (.inr (.inr (false, ())))
        else
          some (.inl (a0, b1, IntKind.i64.wrap (i5 + (1 : Int)), ()))
      else none
    else none
  else
    some (.inr (.inl (())))
noncomputable def laws_eqBundleS_r0 (x : H71_0) : Option (Sum H71_0 (Sum E71_0 Q71_0)) := laws_eqBundleS_c0 x.1 x.2.1 x.2.2.1
noncomputable def L71 {R : Type} : Loops R := fun id _ st k => bif Nat.beq id 0 then loopAt hp71_0 e71_0 q71_0 laws_eqBundleS_r0 st k else none
noncomputable def laws_eqBundleS (a0 : List (Int × Int × Int × (List (Int × Int × Int × ByteArray × Unit)) × Unit)) (b1 : List (Int × Int × Int × (List (Int × Int × Int × ByteArray × Unit)) × Unit)) : Option (Bool × Unit) :=
  bif !decide (((List.length a0 : Nat) : Int) = ((List.length b1 : Nat) : Int)) then
    some (false, ())
  else
    outK (loopV laws_eqBundleS_r0 (a0, b1, (0 : Int), ())) (fun y1 =>
      some (true, ())) (fun y2 =>
      some (y2.1, ()))
noncomputable def x71 (x : (List (Int × Int × Int × (List (Int × Int × Int × ByteArray × Unit)) × Unit)) × (List (Int × Int × Int × (List (Int × Int × Int × ByteArray × Unit)) × Unit)) × Unit) : Option (Bool × Unit) := laws_eqBundleS x.1 x.2.1
noncomputable def sem71 : Sem1 := semOf ps71 rs71 x71
theorem so71 : SemsOk Try.prog (semsOf sl71) := sems_cons k96 (sems_nil)
noncomputable def b71_0 : Code := nthLoop code71 0
theorem t71_r0_eq (x : denR (headRT hp71_0)) : codeK (tabOf tr) (semsOf sl71) D71 L71 b71_0 (headSt hp71_0 x) (roundK 0 hp71_0 e71_0 q71_0) = laws_eqBundleS_r0 x := by kernel_rfl
theorem loop71_0 {R : Type} (r : R) (w0 : World) (mu : Mu) (hs : AnShape ps71 mu) : LoopAt Try.prog w0 mu 27 (L71 : Loops R) r 0 b71_0 :=
  loop_auto tr_ok eq_ok mixed_ok so71 (D := D71) hs (by kernel_rfl) (fun _ => (loops_of (l := []) (by kernel_rfl) (List.forall_mem_nil _))) t71_r0_eq (fun _ _ => rfl)
theorem t71_eq (x : denR (headRT (ps71.map some))) : codeK (tabOf tr) (semsOf sl71) D71 L71 code71 (start 27 ps71 x) (finK rs71 ps71) = x71 x := by kernel_rfl
theorem k71 : Known Try.prog 71 sem71 :=
  fn_auto tr_ok eq_ok mixed_ok so71 (D := D71) (code := code71) (n := 27) Try.func71 (by kernel_rfl) (by kernel_rfl) (by kernel_rfl) (fun w0 mu _ hs => (loops_of (l := [(0, b71_0)]) (by kernel_rfl) (List.forall_mem_cons.2 ⟨loop71_0 _ w0 mu hs, (List.forall_mem_nil _)⟩))) t71_eq

/-! ### f97: laws.eqEvent -/
noncomputable def code97 : Code := match Try.f97.body with | some c => c | none => .skip
def ps97 : List AP := [.val true [.int .i64, .int .i64, .shr (.cons (.int .i64) .nil), .int .i64, .int .i64, .int .i64, .str, .shr (.cons (.int .i64) .nil)], .val true [.int .i64, .int .i64, .shr (.cons (.int .i64) .nil), .int .i64, .int .i64, .int .i64, .str, .shr (.cons (.int .i64) .nil)]]
def rs97 : List RP := [{ src := .tmp 4, agg := false, ps := [.bool] }]
noncomputable def sl97 : SemL := [(39, (.shr, .shr, .shr, sem39)), (55, (.shr, .shr, .shr, sem55)), (40, (.shr, .shr, .shr, sem40))]
def D97 : Draws := fun _ => .nil
noncomputable def L97 {R : Type} : Loops R := fun _ _ _ _ => none
noncomputable def laws_eqEvent (a0c0 : Int) (a0c1 : Int) (a0c2 : List (Int × Unit)) (a0c3 : Int) (a0c4 : Int) (a0c5 : Int) (a0c6 : ByteArray) (a0c7 : List (Int × Unit)) (b1c0 : Int) (b1c1 : Int) (b1c2 : List (Int × Unit)) (b1c3 : Int) (b1c4 : Int) (b1c5 : Int) (b1c6 : ByteArray) (b1c7 : List (Int × Unit)) : Option (Bool × Unit) :=
  bif !decide (a0c0 = b1c0) then
    some (false, ())
  else
    Option.bind (laws_eqRing a0c1 a0c2 b1c1 b1c2) fun y1 =>
    bif !y1.1 then
      some (false, ())
    else
      Option.bind (laws_eqItem a0c3 a0c4 a0c5 a0c6 b1c3 b1c4 b1c5 b1c6) fun y2 =>
      bif !y2.1 then
        some (false, ())
      else
        Option.bind (laws_eqIntS a0c7 b1c7) fun y3 =>
        bif !y3.1 then
          some (false, ())
        else
          some (true, ())
noncomputable def x97 (x : Int × Int × (List (Int × Unit)) × Int × Int × Int × ByteArray × (List (Int × Unit)) × Int × Int × (List (Int × Unit)) × Int × Int × Int × ByteArray × (List (Int × Unit)) × Unit) : Option (Bool × Unit) := laws_eqEvent x.1 x.2.1 x.2.2.1 x.2.2.2.1 x.2.2.2.2.1 x.2.2.2.2.2.1 x.2.2.2.2.2.2.1 x.2.2.2.2.2.2.2.1 x.2.2.2.2.2.2.2.2.1 x.2.2.2.2.2.2.2.2.2.1 x.2.2.2.2.2.2.2.2.2.2.1 x.2.2.2.2.2.2.2.2.2.2.2.1 x.2.2.2.2.2.2.2.2.2.2.2.2.1 x.2.2.2.2.2.2.2.2.2.2.2.2.2.1 x.2.2.2.2.2.2.2.2.2.2.2.2.2.2.1 x.2.2.2.2.2.2.2.2.2.2.2.2.2.2.2.1
noncomputable def sem97 : Sem1 := semOf ps97 rs97 x97
theorem so97 : SemsOk Try.prog (semsOf sl97) := sems_cons k39 (sems_cons k55 (sems_cons k40 (sems_nil)))
theorem t97_eq (x : denR (headRT (ps97.map some))) : codeK (tabOf tr) (semsOf sl97) D97 L97 code97 (start 28 ps97 x) (finK rs97 ps97) = x97 x := by kernel_rfl
theorem k97 : Known Try.prog 97 sem97 :=
  fn_auto tr_ok eq_ok mixed_ok so97 (D := D97) (code := code97) (n := 28) Try.func97 (by kernel_rfl) (by kernel_rfl) (by kernel_rfl) (fun w0 mu _ hs => (loops_of (l := []) (by kernel_rfl) (List.forall_mem_nil _))) t97_eq

/-! ### f72: laws.eqEventS -/
noncomputable def code72 : Code := match Try.f72.body with | some c => c | none => .skip
def ps72 : List AP := [.val false [.shr (.cons (.int .i64) (.cons (.int .i64) (.cons (.sl (.cons (.int .i64) .nil)) (.cons (.int .i64) (.cons (.int .i64) (.cons (.int .i64) (.cons .str (.cons (.sl (.cons (.int .i64) .nil)) .nil))))))))], .val false [.shr (.cons (.int .i64) (.cons (.int .i64) (.cons (.sl (.cons (.int .i64) .nil)) (.cons (.int .i64) (.cons (.int .i64) (.cons (.int .i64) (.cons .str (.cons (.sl (.cons (.int .i64) .nil)) .nil))))))))]]
def rs72 : List RP := [{ src := .tmp 4, agg := false, ps := [.bool] }]
noncomputable def sl72 : SemL := [(97, (.shr, .shr, .shr, sem97))]
def D72 : Draws := fun id => bif Nat.beq id 6 then .op 0 .any (.op 1 .any (.op 2 .any (.op 3 .take (.op 4 .any (.op 5 .any (.op 6 .any (.op 7 .take (.op 8 .one (.op 9 .any (.nil)))))))))) else .nil
def hp72_0 : List (Option AP) := [some (.val false [.shr (.cons (.int .i64) (.cons (.int .i64) (.cons (.sl (.cons (.int .i64) .nil)) (.cons (.int .i64) (.cons (.int .i64) (.cons (.int .i64) (.cons .str (.cons (.sl (.cons (.int .i64) .nil)) .nil))))))))]), some (.val false [.shr (.cons (.int .i64) (.cons (.int .i64) (.cons (.sl (.cons (.int .i64) .nil)) (.cons (.int .i64) (.cons (.int .i64) (.cons (.int .i64) (.cons .str (.cons (.sl (.cons (.int .i64) .nil)) .nil))))))))]), none, none, none, some (.val false [.int .i64]), none, none, none, none, none, none, none, none, none, none, none, none, none, none, none, none, none, none, none, none, none]
def e72_0 : List (Option AP) := [none, none, none, none, none, none, none, none, none, none, none, none, none, none, none, none, none, none, none, none, none, none, none, none, none, none, none]
def q72_0 : List (Option AP) := [none, none, none, none, some (.val false [.bool]), none, none, none, none, none, none, none, none, none, none, none, none, none, none, none, none, none, none, none, none, none, none]
abbrev H72_0 : Type := (List (Int × Int × (List (Int × Unit)) × Int × Int × Int × ByteArray × (List (Int × Unit)) × Unit)) × (List (Int × Int × (List (Int × Unit)) × Int × Int × Int × ByteArray × (List (Int × Unit)) × Unit)) × Int × Unit
abbrev E72_0 : Type := Unit
abbrev Q72_0 : Type := Bool × Unit
noncomputable def laws_eqEventS_c0 (a0 : List (Int × Int × (List (Int × Unit)) × Int × Int × Int × ByteArray × (List (Int × Unit)) × Unit)) (b1 : List (Int × Int × (List (Int × Unit)) × Int × Int × Int × ByteArray × (List (Int × Unit)) × Unit)) (i5 : Int) : Option (Sum H72_0 (Sum E72_0 Q72_0)) :=
  bif decide (i5 < ((List.length a0 : Nat) : Int)) then
    bif decide ((0 : Int) ≤ i5) then Option.bind ((a0)[Int.toNat i5]?) fun r1 =>
      bif decide ((0 : Int) ≤ i5) then Option.bind ((b1)[Int.toNat i5]?) fun r2 =>
        Option.bind (laws_eqEvent r1.1 r1.2.1 r1.2.2.1 r1.2.2.2.1 r1.2.2.2.2.1 r1.2.2.2.2.2.1 r1.2.2.2.2.2.2.1 r1.2.2.2.2.2.2.2.1 r2.1 r2.2.1 r2.2.2.1 r2.2.2.2.1 r2.2.2.2.2.1 r2.2.2.2.2.2.1 r2.2.2.2.2.2.2.1 r2.2.2.2.2.2.2.2.1) fun y3 =>
        bif !y3.1 then
          some (.inr (.inr (false, ())))
        else
          some (.inl (a0, b1, IntKind.i64.wrap (i5 + (1 : Int)), ()))
      else none
    else none
  else
    some (.inr (.inl (())))
noncomputable def laws_eqEventS_r0 (x : H72_0) : Option (Sum H72_0 (Sum E72_0 Q72_0)) := laws_eqEventS_c0 x.1 x.2.1 x.2.2.1
noncomputable def L72 {R : Type} : Loops R := fun id _ st k => bif Nat.beq id 0 then loopAt hp72_0 e72_0 q72_0 laws_eqEventS_r0 st k else none
noncomputable def laws_eqEventS (a0 : List (Int × Int × (List (Int × Unit)) × Int × Int × Int × ByteArray × (List (Int × Unit)) × Unit)) (b1 : List (Int × Int × (List (Int × Unit)) × Int × Int × Int × ByteArray × (List (Int × Unit)) × Unit)) : Option (Bool × Unit) :=
  bif !decide (((List.length a0 : Nat) : Int) = ((List.length b1 : Nat) : Int)) then
    some (false, ())
  else
    outK (loopV laws_eqEventS_r0 (a0, b1, (0 : Int), ())) (fun y1 =>
      some (true, ())) (fun y2 =>
      some (y2.1, ()))
noncomputable def x72 (x : (List (Int × Int × (List (Int × Unit)) × Int × Int × Int × ByteArray × (List (Int × Unit)) × Unit)) × (List (Int × Int × (List (Int × Unit)) × Int × Int × Int × ByteArray × (List (Int × Unit)) × Unit)) × Unit) : Option (Bool × Unit) := laws_eqEventS x.1 x.2.1
noncomputable def sem72 : Sem1 := semOf ps72 rs72 x72
theorem so72 : SemsOk Try.prog (semsOf sl72) := sems_cons k97 (sems_nil)
noncomputable def b72_0 : Code := nthLoop code72 0
theorem t72_r0_eq (x : denR (headRT hp72_0)) : codeK (tabOf tr) (semsOf sl72) D72 L72 b72_0 (headSt hp72_0 x) (roundK 0 hp72_0 e72_0 q72_0) = laws_eqEventS_r0 x := by kernel_rfl
theorem loop72_0 {R : Type} (r : R) (w0 : World) (mu : Mu) (hs : AnShape ps72 mu) : LoopAt Try.prog w0 mu 27 (L72 : Loops R) r 0 b72_0 :=
  loop_auto tr_ok eq_ok mixed_ok so72 (D := D72) hs (by kernel_rfl) (fun _ => (loops_of (l := []) (by kernel_rfl) (List.forall_mem_nil _))) t72_r0_eq (fun _ _ => rfl)
theorem t72_eq (x : denR (headRT (ps72.map some))) : codeK (tabOf tr) (semsOf sl72) D72 L72 code72 (start 27 ps72 x) (finK rs72 ps72) = x72 x := by kernel_rfl
theorem k72 : Known Try.prog 72 sem72 :=
  fn_auto tr_ok eq_ok mixed_ok so72 (D := D72) (code := code72) (n := 27) Try.func72 (by kernel_rfl) (by kernel_rfl) (by kernel_rfl) (fun w0 mu _ hs => (loops_of (l := [(0, b72_0)]) (by kernel_rfl) (List.forall_mem_cons.2 ⟨loop72_0 _ w0 mu hs, (List.forall_mem_nil _)⟩))) t72_eq

/-! ### f22: laws.eqDaemon -/
noncomputable def code22 : Code := match Try.f22.body with | some c => c | none => .skip
def ps22 : List AP := [.val true [.int .i64, .bool, .int .i64, .int .i64, .shr (.cons (.int .i64) .nil), .shr (.cons (.int .i64) (.cons (.int .i64) (.cons (.int .i64) (.cons .str .nil)))), .shr (.cons (.int .i64) .nil), .shr (.cons .str .nil), .int .i64, .int .i64, .int .i64, .int .i64, .int .i64, .int .i64, .int .i64, .int .i64, .int .i64, .shr (.cons (.int .i64) .nil), .int .i64, .int .i64, .int .i64, .shr (.cons (.int .i64) .nil), .shr (.cons (.int .i64) (.cons (.int .i64) (.cons (.int .i64) (.cons (.sl (.cons (.int .i64) (.cons (.int .i64) (.cons (.int .i64) (.cons .str .nil))))) .nil)))), .shr (.cons (.int .i64) (.cons (.int .i64) (.cons (.sl (.cons (.int .i64) .nil)) (.cons (.int .i64) (.cons (.int .i64) (.cons (.int .i64) (.cons .str (.cons (.sl (.cons (.int .i64) .nil)) .nil))))))))], .val true [.int .i64, .bool, .int .i64, .int .i64, .shr (.cons (.int .i64) .nil), .shr (.cons (.int .i64) (.cons (.int .i64) (.cons (.int .i64) (.cons .str .nil)))), .shr (.cons (.int .i64) .nil), .shr (.cons .str .nil), .int .i64, .int .i64, .int .i64, .int .i64, .int .i64, .int .i64, .int .i64, .int .i64, .int .i64, .shr (.cons (.int .i64) .nil), .int .i64, .int .i64, .int .i64, .shr (.cons (.int .i64) .nil), .shr (.cons (.int .i64) (.cons (.int .i64) (.cons (.int .i64) (.cons (.sl (.cons (.int .i64) (.cons (.int .i64) (.cons (.int .i64) (.cons .str .nil))))) .nil)))), .shr (.cons (.int .i64) (.cons (.int .i64) (.cons (.sl (.cons (.int .i64) .nil)) (.cons (.int .i64) (.cons (.int .i64) (.cons (.int .i64) (.cons .str (.cons (.sl (.cons (.int .i64) .nil)) .nil))))))))]]
def rs22 : List RP := [{ src := .tmp 4, agg := false, ps := [.bool] }]
noncomputable def sl22 : SemL := [(10, (.shr, .shr, .shr, sem10)), (39, (.shr, .shr, .shr, sem39)), (71, (.shr, .shr, .shr, sem71)), (72, (.shr, .shr, .shr, sem72))]
def D22 : Draws := fun _ => .nil
noncomputable def L22 {R : Type} : Loops R := fun _ _ _ _ => none
noncomputable def laws_eqDaemon (a0c0 : Int) (a0c1 : Bool) (a0c2 : Int) (a0c3 : Int) (a0c4 : List (Int × Unit)) (a0c5 : List (Int × Int × Int × ByteArray × Unit)) (a0c6 : List (Int × Unit)) (a0c7 : List (ByteArray × Unit)) (a0c8 : Int) (a0c9 : Int) (a0c10 : Int) (a0c11 : Int) (a0c12 : Int) (a0c13 : Int) (a0c14 : Int) (a0c15 : Int) (a0c16 : Int) (a0c17 : List (Int × Unit)) (a0c18 : Int) (a0c19 : Int) (a0c20 : Int) (a0c21 : List (Int × Unit)) (a0c22 : List (Int × Int × Int × (List (Int × Int × Int × ByteArray × Unit)) × Unit)) (a0c23 : List (Int × Int × (List (Int × Unit)) × Int × Int × Int × ByteArray × (List (Int × Unit)) × Unit)) (b1c0 : Int) (b1c1 : Bool) (b1c2 : Int) (b1c3 : Int) (b1c4 : List (Int × Unit)) (b1c5 : List (Int × Int × Int × ByteArray × Unit)) (b1c6 : List (Int × Unit)) (b1c7 : List (ByteArray × Unit)) (b1c8 : Int) (b1c9 : Int) (b1c10 : Int) (b1c11 : Int) (b1c12 : Int) (b1c13 : Int) (b1c14 : Int) (b1c15 : Int) (b1c16 : Int) (b1c17 : List (Int × Unit)) (b1c18 : Int) (b1c19 : Int) (b1c20 : Int) (b1c21 : List (Int × Unit)) (b1c22 : List (Int × Int × Int × (List (Int × Int × Int × ByteArray × Unit)) × Unit)) (b1c23 : List (Int × Int × (List (Int × Unit)) × Int × Int × Int × ByteArray × (List (Int × Unit)) × Unit)) : Option (Bool × Unit) :=
  bif !decide (a0c0 = b1c0) then
    some (false, ())
  else bif !(a0c1 == b1c1) then
    some (false, ())
  else
    Option.bind (laws_eqMate a0c2 a0c3 a0c4 a0c5 a0c6 a0c7 a0c8 a0c9 a0c10 a0c11 a0c12 a0c13 a0c14 a0c15 a0c16 a0c17 b1c2 b1c3 b1c4 b1c5 b1c6 b1c7 b1c8 b1c9 b1c10 b1c11 b1c12 b1c13 b1c14 b1c15 b1c16 b1c17) fun y1 =>
    bif !y1.1 then
      some (false, ())
    else bif !decide (a0c18 = b1c18) then
      some (false, ())
    else bif !decide (a0c19 = b1c19) then
      some (false, ())
    else
      Option.bind (laws_eqRing a0c20 a0c21 b1c20 b1c21) fun y2 =>
      bif !y2.1 then
        some (false, ())
      else
        Option.bind (laws_eqBundleS a0c22 b1c22) fun y3 =>
        bif !y3.1 then
          some (false, ())
        else
          Option.bind (laws_eqEventS a0c23 b1c23) fun y4 =>
          bif !y4.1 then
            some (false, ())
          else
            some (true, ())
noncomputable def x22 (x : Int × Bool × Int × Int × (List (Int × Unit)) × (List (Int × Int × Int × ByteArray × Unit)) × (List (Int × Unit)) × (List (ByteArray × Unit)) × Int × Int × Int × Int × Int × Int × Int × Int × Int × (List (Int × Unit)) × Int × Int × Int × (List (Int × Unit)) × (List (Int × Int × Int × (List (Int × Int × Int × ByteArray × Unit)) × Unit)) × (List (Int × Int × (List (Int × Unit)) × Int × Int × Int × ByteArray × (List (Int × Unit)) × Unit)) × Int × Bool × Int × Int × (List (Int × Unit)) × (List (Int × Int × Int × ByteArray × Unit)) × (List (Int × Unit)) × (List (ByteArray × Unit)) × Int × Int × Int × Int × Int × Int × Int × Int × Int × (List (Int × Unit)) × Int × Int × Int × (List (Int × Unit)) × (List (Int × Int × Int × (List (Int × Int × Int × ByteArray × Unit)) × Unit)) × (List (Int × Int × (List (Int × Unit)) × Int × Int × Int × ByteArray × (List (Int × Unit)) × Unit)) × Unit) : Option (Bool × Unit) := laws_eqDaemon x.1 x.2.1 x.2.2.1 x.2.2.2.1 x.2.2.2.2.1 x.2.2.2.2.2.1 x.2.2.2.2.2.2.1 x.2.2.2.2.2.2.2.1 x.2.2.2.2.2.2.2.2.1 x.2.2.2.2.2.2.2.2.2.1 x.2.2.2.2.2.2.2.2.2.2.1 x.2.2.2.2.2.2.2.2.2.2.2.1 x.2.2.2.2.2.2.2.2.2.2.2.2.1 x.2.2.2.2.2.2.2.2.2.2.2.2.2.1 x.2.2.2.2.2.2.2.2.2.2.2.2.2.2.1 x.2.2.2.2.2.2.2.2.2.2.2.2.2.2.2.1 x.2.2.2.2.2.2.2.2.2.2.2.2.2.2.2.2.1 x.2.2.2.2.2.2.2.2.2.2.2.2.2.2.2.2.2.1 x.2.2.2.2.2.2.2.2.2.2.2.2.2.2.2.2.2.2.1 x.2.2.2.2.2.2.2.2.2.2.2.2.2.2.2.2.2.2.2.1 x.2.2.2.2.2.2.2.2.2.2.2.2.2.2.2.2.2.2.2.2.1 x.2.2.2.2.2.2.2.2.2.2.2.2.2.2.2.2.2.2.2.2.2.1 x.2.2.2.2.2.2.2.2.2.2.2.2.2.2.2.2.2.2.2.2.2.2.1 x.2.2.2.2.2.2.2.2.2.2.2.2.2.2.2.2.2.2.2.2.2.2.2.1 x.2.2.2.2.2.2.2.2.2.2.2.2.2.2.2.2.2.2.2.2.2.2.2.2.1 x.2.2.2.2.2.2.2.2.2.2.2.2.2.2.2.2.2.2.2.2.2.2.2.2.2.1 x.2.2.2.2.2.2.2.2.2.2.2.2.2.2.2.2.2.2.2.2.2.2.2.2.2.2.1 x.2.2.2.2.2.2.2.2.2.2.2.2.2.2.2.2.2.2.2.2.2.2.2.2.2.2.2.1 x.2.2.2.2.2.2.2.2.2.2.2.2.2.2.2.2.2.2.2.2.2.2.2.2.2.2.2.2.1 x.2.2.2.2.2.2.2.2.2.2.2.2.2.2.2.2.2.2.2.2.2.2.2.2.2.2.2.2.2.1 x.2.2.2.2.2.2.2.2.2.2.2.2.2.2.2.2.2.2.2.2.2.2.2.2.2.2.2.2.2.2.1 x.2.2.2.2.2.2.2.2.2.2.2.2.2.2.2.2.2.2.2.2.2.2.2.2.2.2.2.2.2.2.2.1 x.2.2.2.2.2.2.2.2.2.2.2.2.2.2.2.2.2.2.2.2.2.2.2.2.2.2.2.2.2.2.2.2.1 x.2.2.2.2.2.2.2.2.2.2.2.2.2.2.2.2.2.2.2.2.2.2.2.2.2.2.2.2.2.2.2.2.2.1 x.2.2.2.2.2.2.2.2.2.2.2.2.2.2.2.2.2.2.2.2.2.2.2.2.2.2.2.2.2.2.2.2.2.2.1 x.2.2.2.2.2.2.2.2.2.2.2.2.2.2.2.2.2.2.2.2.2.2.2.2.2.2.2.2.2.2.2.2.2.2.2.1 x.2.2.2.2.2.2.2.2.2.2.2.2.2.2.2.2.2.2.2.2.2.2.2.2.2.2.2.2.2.2.2.2.2.2.2.2.1 x.2.2.2.2.2.2.2.2.2.2.2.2.2.2.2.2.2.2.2.2.2.2.2.2.2.2.2.2.2.2.2.2.2.2.2.2.2.1 x.2.2.2.2.2.2.2.2.2.2.2.2.2.2.2.2.2.2.2.2.2.2.2.2.2.2.2.2.2.2.2.2.2.2.2.2.2.2.1 x.2.2.2.2.2.2.2.2.2.2.2.2.2.2.2.2.2.2.2.2.2.2.2.2.2.2.2.2.2.2.2.2.2.2.2.2.2.2.2.1 x.2.2.2.2.2.2.2.2.2.2.2.2.2.2.2.2.2.2.2.2.2.2.2.2.2.2.2.2.2.2.2.2.2.2.2.2.2.2.2.2.1 x.2.2.2.2.2.2.2.2.2.2.2.2.2.2.2.2.2.2.2.2.2.2.2.2.2.2.2.2.2.2.2.2.2.2.2.2.2.2.2.2.2.1 x.2.2.2.2.2.2.2.2.2.2.2.2.2.2.2.2.2.2.2.2.2.2.2.2.2.2.2.2.2.2.2.2.2.2.2.2.2.2.2.2.2.2.1 x.2.2.2.2.2.2.2.2.2.2.2.2.2.2.2.2.2.2.2.2.2.2.2.2.2.2.2.2.2.2.2.2.2.2.2.2.2.2.2.2.2.2.2.1 x.2.2.2.2.2.2.2.2.2.2.2.2.2.2.2.2.2.2.2.2.2.2.2.2.2.2.2.2.2.2.2.2.2.2.2.2.2.2.2.2.2.2.2.2.1 x.2.2.2.2.2.2.2.2.2.2.2.2.2.2.2.2.2.2.2.2.2.2.2.2.2.2.2.2.2.2.2.2.2.2.2.2.2.2.2.2.2.2.2.2.2.1 x.2.2.2.2.2.2.2.2.2.2.2.2.2.2.2.2.2.2.2.2.2.2.2.2.2.2.2.2.2.2.2.2.2.2.2.2.2.2.2.2.2.2.2.2.2.2.1 x.2.2.2.2.2.2.2.2.2.2.2.2.2.2.2.2.2.2.2.2.2.2.2.2.2.2.2.2.2.2.2.2.2.2.2.2.2.2.2.2.2.2.2.2.2.2.2.1
noncomputable def sem22 : Sem1 := semOf ps22 rs22 x22
theorem so22 : SemsOk Try.prog (semsOf sl22) := sems_cons k10 (sems_cons k39 (sems_cons k71 (sems_cons k72 (sems_nil))))
theorem t22_eq (x : denR (headRT (ps22.map some))) : codeK (tabOf tr) (semsOf sl22) D22 L22 code22 (start 49 ps22 x) (finK rs22 ps22) = x22 x := by kernel_rfl
theorem k22 : Known Try.prog 22 sem22 :=
  fn_auto tr_ok eq_ok mixed_ok so22 (D := D22) (code := code22) (n := 49) Try.func22 (by kernel_rfl) (by kernel_rfl) (by kernel_rfl) (fun w0 mu _ hs => (loops_of (l := []) (by kernel_rfl) (List.forall_mem_nil _))) t22_eq

/-! ### f5: laws.FnExactDaemonOk -/
noncomputable def code5 : Code := match Try.f5.body with | some c => c | none => .skip
def ps5 : List AP := [.val true [.int .i64, .bool, .int .i64, .int .i64, .shr (.cons (.int .i64) .nil), .shr (.cons (.int .i64) (.cons (.int .i64) (.cons (.int .i64) (.cons .str .nil)))), .shr (.cons (.int .i64) .nil), .shr (.cons .str .nil), .int .i64, .int .i64, .int .i64, .int .i64, .int .i64, .int .i64, .int .i64, .int .i64, .int .i64, .shr (.cons (.int .i64) .nil), .int .i64, .int .i64, .int .i64, .shr (.cons (.int .i64) .nil), .shr (.cons (.int .i64) (.cons (.int .i64) (.cons (.int .i64) (.cons (.sl (.cons (.int .i64) (.cons (.int .i64) (.cons (.int .i64) (.cons .str .nil))))) .nil)))), .shr (.cons (.int .i64) (.cons (.int .i64) (.cons (.sl (.cons (.int .i64) .nil)) (.cons (.int .i64) (.cons (.int .i64) (.cons (.int .i64) (.cons .str (.cons (.sl (.cons (.int .i64) .nil)) .nil))))))))]]
def rs5 : List RP := [{ src := .tmp 2, agg := false, ps := [.bool] }]
noncomputable def sl5 : SemL := [(18, (.shr, .shr, .shr, sem18)), (20, (.shr, .shr, .shr, sem20)), (19, (.shr, .shr, .shr, sem19)), (21, (.shr, .shr, .shr, sem21)), (22, (.shr, .shr, .shr, sem22))]
def D5 : Draws := fun id => bif Nat.beq id 10 then .op 0 .take (.op 1 .take (.op 2 .one (.op 3 .one (.op 4 .any (.nil))))) else .nil
noncomputable def L5 {R : Type} : Loops R := fun _ _ _ _ => none
noncomputable def laws_FnExactDaemonOk (aD0c0 : Int) (aD0c1 : Bool) (aD0c2 : Int) (aD0c3 : Int) (aD0c4 : List (Int × Unit)) (aD0c5 : List (Int × Int × Int × ByteArray × Unit)) (aD0c6 : List (Int × Unit)) (aD0c7 : List (ByteArray × Unit)) (aD0c8 : Int) (aD0c9 : Int) (aD0c10 : Int) (aD0c11 : Int) (aD0c12 : Int) (aD0c13 : Int) (aD0c14 : Int) (aD0c15 : Int) (aD0c16 : Int) (aD0c17 : List (Int × Unit)) (aD0c18 : Int) (aD0c19 : Int) (aD0c20 : Int) (aD0c21 : List (Int × Unit)) (aD0c22 : List (Int × Int × Int × (List (Int × Int × Int × ByteArray × Unit)) × Unit)) (aD0c23 : List (Int × Int × (List (Int × Unit)) × Int × Int × Int × ByteArray × (List (Int × Unit)) × Unit)) : Option (Bool × Unit) :=
  Option.bind (laws_szDaemon aD0c0 aD0c1 aD0c2 aD0c3 aD0c4 aD0c5 aD0c6 aD0c7 aD0c8 aD0c9 aD0c10 aD0c11 aD0c12 aD0c13 aD0c14 aD0c15 aD0c16 aD0c17 aD0c18 aD0c19 aD0c20 aD0c21 aD0c22 aD0c23 (1048576 : Int)) fun y1 =>
  bif decide (y1.1 < (0 : Int)) then
    some (true, ())
  else
    Option.bind (laws_toDaemon aD0c0 aD0c1 aD0c2 aD0c3 aD0c4 aD0c5 aD0c6 aD0c7 aD0c8 aD0c9 aD0c10 aD0c11 aD0c12 aD0c13 aD0c14 aD0c15 aD0c16 aD0c17 aD0c18 aD0c19 aD0c20 aD0c21 aD0c22 aD0c23) fun y2 =>
    Option.bind (spec_DaemonOk y2.1 y2.2.1 y2.2.2.1 y2.2.2.2.1 y2.2.2.2.2.1 y2.2.2.2.2.2.1 y2.2.2.2.2.2.2.1 y2.2.2.2.2.2.2.2.1 y2.2.2.2.2.2.2.2.2.1 y2.2.2.2.2.2.2.2.2.2.1 y2.2.2.2.2.2.2.2.2.2.2.1 y2.2.2.2.2.2.2.2.2.2.2.2.1 y2.2.2.2.2.2.2.2.2.2.2.2.2.1 y2.2.2.2.2.2.2.2.2.2.2.2.2.2.1 y2.2.2.2.2.2.2.2.2.2.2.2.2.2.2.1 y2.2.2.2.2.2.2.2.2.2.2.2.2.2.2.2.1 y2.2.2.2.2.2.2.2.2.2.2.2.2.2.2.2.2.1 y2.2.2.2.2.2.2.2.2.2.2.2.2.2.2.2.2.2.1 y2.2.2.2.2.2.2.2.2.2.2.2.2.2.2.2.2.2.2.1 y2.2.2.2.2.2.2.2.2.2.2.2.2.2.2.2.2.2.2.2.1 y2.2.2.2.2.2.2.2.2.2.2.2.2.2.2.2.2.2.2.2.2.1 y2.2.2.2.2.2.2.2.2.2.2.2.2.2.2.2.2.2.2.2.2.2.1 y2.2.2.2.2.2.2.2.2.2.2.2.2.2.2.2.2.2.2.2.2.2.2.1 y2.2.2.2.2.2.2.2.2.2.2.2.2.2.2.2.2.2.2.2.2.2.2.2.1) fun y3 =>
    Option.bind (laws_toDaemon aD0c0 aD0c1 aD0c2 aD0c3 aD0c4 aD0c5 aD0c6 aD0c7 aD0c8 aD0c9 aD0c10 aD0c11 aD0c12 aD0c13 aD0c14 aD0c15 aD0c16 aD0c17 aD0c18 aD0c19 aD0c20 aD0c21 aD0c22 aD0c23) fun y4 =>
    Option.bind (impl_DaemonOk y4.1 y4.2.1 y4.2.2.1 y4.2.2.2.1 y4.2.2.2.2.1 y4.2.2.2.2.2.1 y4.2.2.2.2.2.2.1 y4.2.2.2.2.2.2.2.1 y4.2.2.2.2.2.2.2.2.1 y4.2.2.2.2.2.2.2.2.2.1 y4.2.2.2.2.2.2.2.2.2.2.1 y4.2.2.2.2.2.2.2.2.2.2.2.1 y4.2.2.2.2.2.2.2.2.2.2.2.2.1 y4.2.2.2.2.2.2.2.2.2.2.2.2.2.1 y4.2.2.2.2.2.2.2.2.2.2.2.2.2.2.1 y4.2.2.2.2.2.2.2.2.2.2.2.2.2.2.2.1 y4.2.2.2.2.2.2.2.2.2.2.2.2.2.2.2.2.1 y4.2.2.2.2.2.2.2.2.2.2.2.2.2.2.2.2.2.1 y4.2.2.2.2.2.2.2.2.2.2.2.2.2.2.2.2.2.2.1 y4.2.2.2.2.2.2.2.2.2.2.2.2.2.2.2.2.2.2.2.1 y4.2.2.2.2.2.2.2.2.2.2.2.2.2.2.2.2.2.2.2.2.1 y4.2.2.2.2.2.2.2.2.2.2.2.2.2.2.2.2.2.2.2.2.2.1 y4.2.2.2.2.2.2.2.2.2.2.2.2.2.2.2.2.2.2.2.2.2.2.1 y4.2.2.2.2.2.2.2.2.2.2.2.2.2.2.2.2.2.2.2.2.2.2.2.1) fun y5 =>
    bif !(y5.1 == y3.1) then
      some (false, ())
    else
      Option.bind (laws_toDaemon aD0c0 aD0c1 aD0c2 aD0c3 aD0c4 aD0c5 aD0c6 aD0c7 aD0c8 aD0c9 aD0c10 aD0c11 aD0c12 aD0c13 aD0c14 aD0c15 aD0c16 aD0c17 aD0c18 aD0c19 aD0c20 aD0c21 aD0c22 aD0c23) fun y6 =>
      Option.bind (laws_eqDaemon y4.1 y4.2.1 y4.2.2.1 y4.2.2.2.1 y4.2.2.2.2.1 y4.2.2.2.2.2.1 y4.2.2.2.2.2.2.1 y4.2.2.2.2.2.2.2.1 y4.2.2.2.2.2.2.2.2.1 y4.2.2.2.2.2.2.2.2.2.1 y4.2.2.2.2.2.2.2.2.2.2.1 y4.2.2.2.2.2.2.2.2.2.2.2.1 y4.2.2.2.2.2.2.2.2.2.2.2.2.1 y4.2.2.2.2.2.2.2.2.2.2.2.2.2.1 y4.2.2.2.2.2.2.2.2.2.2.2.2.2.2.1 y4.2.2.2.2.2.2.2.2.2.2.2.2.2.2.2.1 y4.2.2.2.2.2.2.2.2.2.2.2.2.2.2.2.2.1 y4.2.2.2.2.2.2.2.2.2.2.2.2.2.2.2.2.2.1 y4.2.2.2.2.2.2.2.2.2.2.2.2.2.2.2.2.2.2.1 y4.2.2.2.2.2.2.2.2.2.2.2.2.2.2.2.2.2.2.2.1 y4.2.2.2.2.2.2.2.2.2.2.2.2.2.2.2.2.2.2.2.2.1 y4.2.2.2.2.2.2.2.2.2.2.2.2.2.2.2.2.2.2.2.2.2.1 y4.2.2.2.2.2.2.2.2.2.2.2.2.2.2.2.2.2.2.2.2.2.2.1 y4.2.2.2.2.2.2.2.2.2.2.2.2.2.2.2.2.2.2.2.2.2.2.2.1 y6.1 y6.2.1 y6.2.2.1 y6.2.2.2.1 y6.2.2.2.2.1 y6.2.2.2.2.2.1 y6.2.2.2.2.2.2.1 y6.2.2.2.2.2.2.2.1 y6.2.2.2.2.2.2.2.2.1 y6.2.2.2.2.2.2.2.2.2.1 y6.2.2.2.2.2.2.2.2.2.2.1 y6.2.2.2.2.2.2.2.2.2.2.2.1 y6.2.2.2.2.2.2.2.2.2.2.2.2.1 y6.2.2.2.2.2.2.2.2.2.2.2.2.2.1 y6.2.2.2.2.2.2.2.2.2.2.2.2.2.2.1 y6.2.2.2.2.2.2.2.2.2.2.2.2.2.2.2.1 y6.2.2.2.2.2.2.2.2.2.2.2.2.2.2.2.2.1 y6.2.2.2.2.2.2.2.2.2.2.2.2.2.2.2.2.2.1 y6.2.2.2.2.2.2.2.2.2.2.2.2.2.2.2.2.2.2.1 y6.2.2.2.2.2.2.2.2.2.2.2.2.2.2.2.2.2.2.2.1 y6.2.2.2.2.2.2.2.2.2.2.2.2.2.2.2.2.2.2.2.2.1 y6.2.2.2.2.2.2.2.2.2.2.2.2.2.2.2.2.2.2.2.2.2.1 y6.2.2.2.2.2.2.2.2.2.2.2.2.2.2.2.2.2.2.2.2.2.2.1 y6.2.2.2.2.2.2.2.2.2.2.2.2.2.2.2.2.2.2.2.2.2.2.2.1) fun y7 =>
      bif !y7.1 then
        some (false, ())
      else
        some (true, ())
noncomputable def x5 (x : Int × Bool × Int × Int × (List (Int × Unit)) × (List (Int × Int × Int × ByteArray × Unit)) × (List (Int × Unit)) × (List (ByteArray × Unit)) × Int × Int × Int × Int × Int × Int × Int × Int × Int × (List (Int × Unit)) × Int × Int × Int × (List (Int × Unit)) × (List (Int × Int × Int × (List (Int × Int × Int × ByteArray × Unit)) × Unit)) × (List (Int × Int × (List (Int × Unit)) × Int × Int × Int × ByteArray × (List (Int × Unit)) × Unit)) × Unit) : Option (Bool × Unit) := laws_FnExactDaemonOk x.1 x.2.1 x.2.2.1 x.2.2.2.1 x.2.2.2.2.1 x.2.2.2.2.2.1 x.2.2.2.2.2.2.1 x.2.2.2.2.2.2.2.1 x.2.2.2.2.2.2.2.2.1 x.2.2.2.2.2.2.2.2.2.1 x.2.2.2.2.2.2.2.2.2.2.1 x.2.2.2.2.2.2.2.2.2.2.2.1 x.2.2.2.2.2.2.2.2.2.2.2.2.1 x.2.2.2.2.2.2.2.2.2.2.2.2.2.1 x.2.2.2.2.2.2.2.2.2.2.2.2.2.2.1 x.2.2.2.2.2.2.2.2.2.2.2.2.2.2.2.1 x.2.2.2.2.2.2.2.2.2.2.2.2.2.2.2.2.1 x.2.2.2.2.2.2.2.2.2.2.2.2.2.2.2.2.2.1 x.2.2.2.2.2.2.2.2.2.2.2.2.2.2.2.2.2.2.1 x.2.2.2.2.2.2.2.2.2.2.2.2.2.2.2.2.2.2.2.1 x.2.2.2.2.2.2.2.2.2.2.2.2.2.2.2.2.2.2.2.2.1 x.2.2.2.2.2.2.2.2.2.2.2.2.2.2.2.2.2.2.2.2.2.1 x.2.2.2.2.2.2.2.2.2.2.2.2.2.2.2.2.2.2.2.2.2.2.1 x.2.2.2.2.2.2.2.2.2.2.2.2.2.2.2.2.2.2.2.2.2.2.2.1
noncomputable def sem5 : Sem1 := semOf ps5 rs5 x5
theorem so5 : SemsOk Try.prog (semsOf sl5) := sems_cons k18 (sems_cons k20 (sems_cons k19 (sems_cons k21 (sems_cons k22 (sems_nil)))))
theorem t5_eq (x : denR (headRT (ps5.map some))) : codeK (tabOf tr) (semsOf sl5) D5 L5 code5 (start 27 ps5 x) (finK rs5 ps5) = x5 x := by kernel_rfl
theorem k5 : Known Try.prog 5 sem5 :=
  fn_auto tr_ok eq_ok mixed_ok so5 (D := D5) (code := code5) (n := 27) Try.func5 (by kernel_rfl) (by kernel_rfl) (by kernel_rfl) (fun w0 mu _ hs => (loops_of (l := []) (by kernel_rfl) (List.forall_mem_nil _))) t5_eq

end Go.TM
