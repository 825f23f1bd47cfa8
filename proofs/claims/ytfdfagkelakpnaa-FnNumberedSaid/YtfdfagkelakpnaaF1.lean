/- What the functions answer, as terms; their contracts. -/
import Derived.Test.YtfdfagkelakpnaaBase
set_option linter.unusedSimpArgs false
set_option linter.unusedVariables false
namespace Go.TM
open Go Go.RowKit Go.Proofs

/-! ### f15: laws.big -/
noncomputable def code15 : Code := match Try.f15.body with | some c => c | none => .skip
def ps15 : List AP := [.val false [.shr (.cons (.int .u8) .nil)]]
def rs15 : List RP := [{ src := .tmp 2, agg := false, ps := [.bool] }]
noncomputable def sl15 : SemL := []
def D15 : Draws := fun _ => .nil
noncomputable def L15 {R : Type} : Loops R := fun _ _ _ _ => none
noncomputable def laws_big (code0 : List (Int × Unit)) : Option (Bool × Unit) :=
  some (decide ((1048576 : Int) < ((List.length code0 : Nat) : Int)), ())
noncomputable def x15 (x : (List (Int × Unit)) × Unit) : Option (Bool × Unit) := laws_big x.1
noncomputable def sem15 : Sem1 := semOf ps15 rs15 x15
theorem so15 : SemsOk Try.prog (semsOf sl15) := sems_nil
theorem t15_eq (x : denR (headRT (ps15.map some))) : codeK (tabOf tr) (semsOf sl15) D15 L15 code15 (start 6 ps15 x) (finK rs15 ps15) = x15 x := by kernel_rfl
theorem k15 : Known Try.prog 15 sem15 :=
  fn_auto tr_ok eq_ok mixed_ok so15 (D := D15) (code := code15) (n := 6) Try.func15 (by kernel_rfl) (by kernel_rfl) (by kernel_rfl) (fun w0 mu _ hs => (loops_of (l := []) (by kernel_rfl) (List.forall_mem_nil _))) t15_eq

/-! ### f84: spec.l01New -/
noncomputable def code84 : Code := match Try.f84.body with | some c => c | none => .skip
def ps84 : List AP := [.val false [.shr (.cons (.int .u8) .nil)]]
def rs84 : List RP := [{ src := .ptr 2, agg := false, ps := [.shr (.cons (.int .u8) .nil), .int .i64, .int .i64] }]
noncomputable def sl84 : SemL := []
def D84 : Draws := fun _ => .nil
def hp84_0 : List (Option AP) := [some (.val false [.shr (.cons (.int .u8) .nil)]), none, none, some (.val false [.int .i64]), some (.val false [.int .i64]), none, none, none, none, none, none, none, none, none, none, none, none, none, none, none, none, none, none, none, none, none, none, none, none, none, none, none]
def e84_0 : List (Option AP) := [some (.val false [.shr (.cons (.int .u8) .nil)]), none, none, some (.val false [.int .i64]), none, none, none, none, none, none, none, none, none, none, none, none, none, none, none, none, none, none, none, none, none, none, none, none, none, none, none, none]
def q84_0 : List (Option AP) := [none, none, none, none, none, none, none, none, none, none, none, none, none, none, none, none, none, none, none, none, none, none, none, none, none, none, none, none, none, none, none, none]
abbrev H84_0 : Type := (List (Int × Unit)) × Int × Int × Unit
abbrev E84_0 : Type := (List (Int × Unit)) × Int × Unit
abbrev Q84_0 : Type := Unit
noncomputable def spec_l01New_c0 (code0 : List (Int × Unit)) (h3 : Int) (i4 : Int) : Option (Sum H84_0 (Sum E84_0 Q84_0)) :=
  bif decide (i4 < ((List.length code0 : Nat) : Int)) then
    bif decide (i4 < (4000 : Int)) then
      bif decide ((0 : Int) ≤ i4) then Option.bind ((code0)[Int.toNat i4]?) fun r1 =>
        some (.inl (code0, IntKind.i64.wrap ((BitVec.ofInt IntKind.i64.bits (IntKind.i64.wrap ((IntKind.i64.wrap ((IntKind.i64.wrap (h3 * (131 : Int))) + (IntKind.i64.wrap r1.1))) + (7 : Int))) &&& BitVec.ofInt IntKind.i64.bits (1073741823 : Int)).toNat : Int), IntKind.i64.wrap (i4 + (1 : Int)), ()))
      else none
    else
      some (.inr (.inl (code0, h3, ())))
  else
    some (.inr (.inl (code0, h3, ())))
noncomputable def spec_l01New_r0 (x : H84_0) : Option (Sum H84_0 (Sum E84_0 Q84_0)) := spec_l01New_c0 x.1 x.2.1 x.2.2.1
noncomputable def L84 {R : Type} : Loops R := fun id _ st k => bif Nat.beq id 0 then loopAt hp84_0 e84_0 q84_0 spec_l01New_r0 st k else none
noncomputable def spec_l01New (code0 : List (Int × Unit)) : Option ((List (Int × Unit)) × Int × Int × Unit) :=
  outK (loopV spec_l01New_r0 (code0, IntKind.i64.wrap ((27101 : Int) + ((List.length code0 : Nat) : Int)), (0 : Int), ())) (fun y1 =>
    some (y1.1, (0 : Int), y1.2.1, ())) (fun y2 =>
    none)
noncomputable def x84 (x : (List (Int × Unit)) × Unit) : Option ((List (Int × Unit)) × Int × Int × Unit) := spec_l01New x.1
noncomputable def sem84 : Sem1 := semOf ps84 rs84 x84
theorem so84 : SemsOk Try.prog (semsOf sl84) := sems_nil
noncomputable def b84_0 : Code := nthLoop code84 0
theorem t84_r0_eq (x : denR (headRT hp84_0)) : codeK (tabOf tr) (semsOf sl84) D84 L84 b84_0 (headSt hp84_0 x) (roundK 0 hp84_0 e84_0 q84_0) = spec_l01New_r0 x := by kernel_rfl
theorem loop84_0 {R : Type} (r : R) (w0 : World) (mu : Mu) (hs : AnShape ps84 mu) : LoopAt Try.prog w0 mu 32 (L84 : Loops R) r 0 b84_0 :=
  loop_auto tr_ok eq_ok mixed_ok so84 (D := D84) hs (by kernel_rfl) (fun _ => (loops_of (l := []) (by kernel_rfl) (List.forall_mem_nil _))) t84_r0_eq (fun _ _ => rfl)
theorem t84_eq (x : denR (headRT (ps84.map some))) : codeK (tabOf tr) (semsOf sl84) D84 L84 code84 (start 32 ps84 x) (finK rs84 ps84) = x84 x := by kernel_rfl
theorem k84 : Known Try.prog 84 sem84 :=
  fn_auto tr_ok eq_ok mixed_ok so84 (D := D84) (code := code84) (n := 32) Try.func84 (by kernel_rfl) (by kernel_rfl) (by kernel_rfl) (fun w0 mu _ hs => (loops_of (l := [(0, b84_0)]) (by kernel_rfl) (List.forall_mem_cons.2 ⟨loop84_0 _ w0 mu hs, (List.forall_mem_nil _)⟩))) t84_eq

/-! ### f142: spec.l01Byte -/
noncomputable def code142 : Code := match Try.f142.body with | some c => c | none => .skip
def ps142 : List AP := [.box true [.shr (.cons (.int .u8) .nil), .int .i64, .int .i64]]
def rs142 : List RP := [{ src := .tmp 2, agg := false, ps := [.int .i64] }]
noncomputable def sl142 : SemL := []
def D142 : Draws := fun id => bif Nat.beq id 2 then .op 0 .any (.op 1 .any (.op 2 .any (.op 3 .take (.op 4 .any (.op 5 .any (.op 6 .any (.op 7 .any (.op 8 .take (.op 9 .any (.op 10 .any (.op 11 .any (.op 12 .any (.nil))))))))))))) else bif Nat.beq id 3 then .op 0 .any (.op 1 .any (.op 2 .any (.op 3 .take (.op 4 .any (.op 5 .any (.op 6 .any (.op 7 .take (.op 8 .any (.op 9 .any (.nil)))))))))) else bif Nat.beq id 4 then .op 0 .any (.op 1 .any (.op 2 .any (.op 3 .any (.op 4 .take (.op 5 .any (.op 6 .any (.op 7 .any (.op 8 .take (.op 9 .any (.op 10 .take (.op 11 .any (.op 12 .any (.op 13 .any (.op 14 .any (.nil))))))))))))))) else .nil
noncomputable def L142 {R : Type} : Loops R := fun _ _ _ _ => none
noncomputable def spec_l01Byte (c0c0 : List (Int × Unit)) (c0c1 : Int) (c0c2 : Int) : Option (Int × (List (Int × Unit)) × Int × Int × Unit) :=
  bif decide (c0c1 < ((List.length c0c0 : Nat) : Int)) then
    bif decide ((0 : Int) ≤ c0c1) then Option.bind ((c0c0)[Int.toNat c0c1]?) fun r1 =>
      some (IntKind.i64.wrap ((BitVec.ofInt IntKind.i64.bits (IntKind.i64.wrap ((IntKind.i64.wrap ((BitVec.ofInt IntKind.i64.bits (IntKind.i64.wrap ((BitVec.ofInt IntKind.i64.bits (Int.fdiv (IntKind.i64.wrap ((IntKind.i64.wrap (c0c2 * (6364136223846793005 : Int))) + (1442695040888963407 : Int))) (2 ^ (min 33 IntKind.i64.bits))) ^^^ BitVec.ofInt IntKind.i64.bits (Int.fdiv (IntKind.i64.wrap ((IntKind.i64.wrap (c0c2 * (6364136223846793005 : Int))) + (1442695040888963407 : Int))) (2 ^ (min 45 IntKind.i64.bits)))).toNat : Int)) &&& BitVec.ofInt IntKind.i64.bits (255 : Int)).toNat : Int)) + (IntKind.i64.wrap r1.1))) &&& BitVec.ofInt IntKind.i64.bits (255 : Int)).toNat : Int), c0c0, IntKind.i64.wrap (c0c1 + (1 : Int)), IntKind.i64.wrap ((IntKind.i64.wrap (c0c2 * (6364136223846793005 : Int))) + (1442695040888963407 : Int)), ())
    else none
  else
    some (IntKind.i64.wrap ((BitVec.ofInt IntKind.i64.bits (IntKind.i64.wrap ((BitVec.ofInt IntKind.i64.bits (Int.fdiv (IntKind.i64.wrap ((IntKind.i64.wrap (c0c2 * (6364136223846793005 : Int))) + (1442695040888963407 : Int))) (2 ^ (min 33 IntKind.i64.bits))) ^^^ BitVec.ofInt IntKind.i64.bits (Int.fdiv (IntKind.i64.wrap ((IntKind.i64.wrap (c0c2 * (6364136223846793005 : Int))) + (1442695040888963407 : Int))) (2 ^ (min 45 IntKind.i64.bits)))).toNat : Int)) &&& BitVec.ofInt IntKind.i64.bits (255 : Int)).toNat : Int), c0c0, c0c1, IntKind.i64.wrap ((IntKind.i64.wrap (c0c2 * (6364136223846793005 : Int))) + (1442695040888963407 : Int)), ())
noncomputable def x142 (x : (List (Int × Unit)) × Int × Int × Unit) : Option (Int × (List (Int × Unit)) × Int × Int × Unit) := spec_l01Byte x.1 x.2.1 x.2.2.1
noncomputable def sem142 : Sem1 := semOf ps142 rs142 x142
theorem so142 : SemsOk Try.prog (semsOf sl142) := sems_nil
theorem t142_eq (x : denR (headRT (ps142.map some))) : codeK (tabOf tr) (semsOf sl142) D142 L142 code142 (start 58 ps142 x) (finK rs142 ps142) = x142 x := by kernel_rfl
theorem k142 : Known Try.prog 142 sem142 :=
  fn_auto tr_ok eq_ok mixed_ok so142 (D := D142) (code := code142) (n := 58) Try.func142 (by kernel_rfl) (by kernel_rfl) (by kernel_rfl) (fun w0 mu _ hs => (loops_of (l := []) (by kernel_rfl) (List.forall_mem_nil _))) t142_eq

/-! ### f87: spec.l01Below -/
noncomputable def code87 : Code := match Try.f87.body with | some c => c | none => .skip
def ps87 : List AP := [.box true [.shr (.cons (.int .u8) .nil), .int .i64, .int .i64], .val false [.int .i64]]
def rs87 : List RP := [{ src := .tmp 4, agg := false, ps := [.int .i64] }]
noncomputable def sl87 : SemL := [(142, (.shr, .shr, .shr, sem142))]
def D87 : Draws := fun _ => .nil
noncomputable def L87 {R : Type} : Loops R := fun _ _ _ _ => none
noncomputable def spec_l01Below (c0c0 : List (Int × Unit)) (c0c1 : Int) (c0c2 : Int) (n1 : Int) : Option (Int × (List (Int × Unit)) × Int × Int × Unit) :=
  bif decide (n1 ≤ (0 : Int)) then
    some ((0 : Int), c0c0, c0c1, c0c2, ())
  else bif decide (n1 ≤ (256 : Int)) then
    Option.bind (spec_l01Byte c0c0 c0c1 c0c2) fun y1 =>
    bif decide (n1 = 0) then
      none
    else
      some (Int.tmod y1.1 n1, y1.2.1, y1.2.2.1, y1.2.2.2.1, ())
  else
    Option.bind (spec_l01Byte c0c0 c0c1 c0c2) fun y2 =>
    Option.bind (spec_l01Byte y2.2.1 y2.2.2.1 y2.2.2.2.1) fun y3 =>
    Option.bind (spec_l01Byte y3.2.1 y3.2.2.1 y3.2.2.2.1) fun y4 =>
    Option.bind (spec_l01Byte y4.2.1 y4.2.2.1 y4.2.2.2.1) fun y5 =>
    bif decide (n1 = 0) then
      none
    else
      some (Int.tmod (IntKind.i64.wrap ((IntKind.i64.wrap ((IntKind.i64.wrap ((IntKind.i64.wrap (y2.1 * (16777216 : Int))) + (IntKind.i64.wrap (y3.1 * (65536 : Int))))) + (IntKind.i64.wrap (y4.1 * (256 : Int))))) + y5.1)) n1, y5.2.1, y5.2.2.1, y5.2.2.2.1, ())
noncomputable def x87 (x : (List (Int × Unit)) × Int × Int × Int × Unit) : Option (Int × (List (Int × Unit)) × Int × Int × Unit) := spec_l01Below x.1 x.2.1 x.2.2.1 x.2.2.2.1
noncomputable def sem87 : Sem1 := semOf ps87 rs87 x87
theorem so87 : SemsOk Try.prog (semsOf sl87) := sems_cons k142 (sems_nil)
theorem t87_eq (x : denR (headRT (ps87.map some))) : codeK (tabOf tr) (semsOf sl87) D87 L87 code87 (start 37 ps87 x) (finK rs87 ps87) = x87 x := by kernel_rfl
theorem k87 : Known Try.prog 87 sem87 :=
  fn_auto tr_ok eq_ok mixed_ok so87 (D := D87) (code := code87) (n := 37) Try.func87 (by kernel_rfl) (by kernel_rfl) (by kernel_rfl) (fun w0 mu _ hs => (loops_of (l := []) (by kernel_rfl) (List.forall_mem_nil _))) t87_eq

/-! ### f86: spec.l01Once -/
noncomputable def code86 : Code := match Try.f86.body with | some c => c | none => .skip
def ps86 : List AP := [.box true [.shr (.cons (.int .u8) .nil), .int .i64, .int .i64], .val false [.int .i64]]
def rs86 : List RP := [{ src := .tmp 4, agg := false, ps := [.bool] }]
noncomputable def sl86 : SemL := [(87, (.shr, .shr, .shr, sem87))]
def D86 : Draws := fun _ => .nil
noncomputable def L86 {R : Type} : Loops R := fun _ _ _ _ => none
noncomputable def spec_l01Once (c0c0 : List (Int × Unit)) (c0c1 : Int) (c0c2 : Int) (n1 : Int) : Option (Bool × (List (Int × Unit)) × Int × Int × Unit) :=
  Option.bind (spec_l01Below c0c0 c0c1 c0c2 n1) fun y1 =>
  some (decide (y1.1 = (0 : Int)), y1.2.1, y1.2.2.1, y1.2.2.2.1, ())
noncomputable def x86 (x : (List (Int × Unit)) × Int × Int × Int × Unit) : Option (Bool × (List (Int × Unit)) × Int × Int × Unit) := spec_l01Once x.1 x.2.1 x.2.2.1 x.2.2.2.1
noncomputable def sem86 : Sem1 := semOf ps86 rs86 x86
theorem so86 : SemsOk Try.prog (semsOf sl86) := sems_cons k87 (sems_nil)
theorem t86_eq (x : denR (headRT (ps86.map some))) : codeK (tabOf tr) (semsOf sl86) D86 L86 code86 (start 9 ps86 x) (finK rs86 ps86) = x86 x := by kernel_rfl
theorem k86 : Known Try.prog 86 sem86 :=
  fn_auto tr_ok eq_ok mixed_ok so86 (D := D86) (code := code86) (n := 9) Try.func86 (by kernel_rfl) (by kernel_rfl) (by kernel_rfl) (fun w0 mu _ hs => (loops_of (l := []) (by kernel_rfl) (List.forall_mem_nil _))) t86_eq

/-! ### f141: spec.l05Token -/
noncomputable def code141 : Code := match Try.f141.body with | some c => c | none => .skip
def ps141 : List AP := [.box true [.shr (.cons (.int .u8) .nil), .int .i64, .int .i64]]
def rs141 : List RP := [{ src := .cell 2, agg := true, ps := [.int .i64, .int .i64, .int .i64, .int .i64, .int .i64, .own (.cons (.int .i64) .nil)] }]
noncomputable def sl141 : SemL := [(87, (.shr, .shr, .shr, sem87)), (86, (.shr, .shr, .shr, sem86))]
def D141 : Draws := fun _ => .nil
def hp141_0 : List (Option AP) := [some (.box true [.shr (.cons (.int .u8) .nil), .int .i64, .int .i64]), none, some (.box false [.int .i64, .int .i64, .int .i64, .int .i64, .int .i64, .own (.cons (.int .i64) .nil)]), some (.box false [.int .i64, .int .i64, .int .i64, .int .i64, .int .i64, .own (.cons (.int .i64) .nil)]), some (.val false [.int .i64]), none, none, none, none, none, none, none, none, none, none, none, none, none, none, none, none, none, none, none, none, none, none, none, none, none, none, none, none, none, none, none, none, none, none, none, none, none, none, none, none, none, none, none]
def e141_0 : List (Option AP) := [some (.box true [.shr (.cons (.int .u8) .nil), .int .i64, .int .i64]), none, some (.box false [.int .i64, .int .i64, .int .i64, .int .i64, .int .i64, .own (.cons (.int .i64) .nil)]), some (.box false [.int .i64, .int .i64, .int .i64, .int .i64, .int .i64, .own (.cons (.int .i64) .nil)]), none, none, none, none, none, none, none, none, none, none, none, none, none, none, none, none, none, none, none, none, none, none, none, none, none, none, none, none, none, none, none, none, none, none, none, none, none, none, none, none, none, none, none, none]
def q141_0 : List (Option AP) := [none, none, none, none, none, none, none, none, none, none, none, none, none, none, none, none, none, none, none, none, none, none, none, none, none, none, none, none, none, none, none, none, none, none, none, none, none, none, none, none, none, none, none, none, none, none, none, none]
abbrev H141_0 : Type := (List (Int × Unit)) × Int × Int × Int × Int × Int × Int × Int × (List (Int × Unit)) × Int × Int × Int × Int × Int × (List (Int × Unit)) × Int × Unit
abbrev E141_0 : Type := (List (Int × Unit)) × Int × Int × Int × Int × Int × Int × Int × (List (Int × Unit)) × Int × Int × Int × Int × Int × (List (Int × Unit)) × Unit
abbrev Q141_0 : Type := Unit
noncomputable def spec_l05Token_c0 (c0c0 : List (Int × Unit)) (c0c1 : Int) (c0c2 : Int) (t2c0 : Int) (t2c1 : Int) (t2c2 : Int) (t2c3 : Int) (t2c4 : Int) (t2c5 : List (Int × Unit)) (t3c0 : Int) (t3c1 : Int) (t3c2 : Int) (t3c3 : Int) (t3c4 : Int) (t3c5 : List (Int × Unit)) (i4 : Int) : Option (Sum H141_0 (Sum E141_0 Q141_0)) :=
  bif decide (i4 ≤ t3c2) then
    Option.bind (spec_l01Once c0c0 c0c1 c0c2 (5 : Int)) fun y6 =>
    bif y6.1 then
      bif Nat.ble (((List.length t3c5) + 1) * 8) lim then some (.inl (y6.2.1, y6.2.2.1, y6.2.2.2.1, t2c0, t2c1, t2c2, t2c3, t2c4, t2c5, t3c0, t3c1, t3c2, t3c3, t3c4, t3c5 ++ [(i4, ())], IntKind.i64.wrap (i4 + (1 : Int)), ()))
      else none
    else
      some (.inl (y6.2.1, y6.2.2.1, y6.2.2.2.1, t2c0, t2c1, t2c2, t2c3, t2c4, t2c5, t3c0, t3c1, t3c2, t3c3, t3c4, t3c5, IntKind.i64.wrap (i4 + (1 : Int)), ()))
  else
    some (.inr (.inl (c0c0, c0c1, c0c2, t2c0, t2c1, t2c2, t2c3, t2c4, t2c5, t3c0, t3c1, t3c2, t3c3, t3c4, t3c5, ())))
noncomputable def spec_l05Token_r0 (x : H141_0) : Option (Sum H141_0 (Sum E141_0 Q141_0)) := spec_l05Token_c0 x.1 x.2.1 x.2.2.1 x.2.2.2.1 x.2.2.2.2.1 x.2.2.2.2.2.1 x.2.2.2.2.2.2.1 x.2.2.2.2.2.2.2.1 x.2.2.2.2.2.2.2.2.1 x.2.2.2.2.2.2.2.2.2.1 x.2.2.2.2.2.2.2.2.2.2.1 x.2.2.2.2.2.2.2.2.2.2.2.1 x.2.2.2.2.2.2.2.2.2.2.2.2.1 x.2.2.2.2.2.2.2.2.2.2.2.2.2.1 x.2.2.2.2.2.2.2.2.2.2.2.2.2.2.1 x.2.2.2.2.2.2.2.2.2.2.2.2.2.2.2.1
noncomputable def L141 {R : Type} : Loops R := fun id _ st k => bif Nat.beq id 0 then loopAt hp141_0 e141_0 q141_0 spec_l05Token_r0 st k else none
noncomputable def spec_l05Token (c0c0 : List (Int × Unit)) (c0c1 : Int) (c0c2 : Int) : Option (Int × Int × Int × Int × Int × (List (Int × Unit)) × (List (Int × Unit)) × Int × Int × Unit) :=
  Option.bind (spec_l01Below c0c0 c0c1 c0c2 (3 : Int)) fun y1 =>
  Option.bind (spec_l01Below y1.2.1 y1.2.2.1 y1.2.2.2.1 (9 : Int)) fun y2 =>
  Option.bind (spec_l01Below y2.2.1 y2.2.2.1 y2.2.2.2.1 (12 : Int)) fun y3 =>
  Option.bind (spec_l01Below y3.2.1 y3.2.2.1 y3.2.2.2.1 (IntKind.i64.wrap (y3.1 + (1 : Int)))) fun y4 =>
  bif decide (y4.1 < y3.1) then
    Option.bind (spec_l01Below y4.2.1 y4.2.2.1 y4.2.2.2.1 (3 : Int)) fun y5 =>
    outK (loopV spec_l05Token_r0 (y5.2.1, y5.2.2.1, y5.2.2.2.1, (0 : Int), (0 : Int), (0 : Int), (0 : Int), (0 : Int), [], IntKind.i64.wrap ((1 : Int) + y1.1), IntKind.i64.wrap ((1 : Int) + y2.1), y3.1, y4.1, IntKind.i64.wrap ((1 : Int) + y5.1), [], (1 : Int), ())) (fun y6 =>
      some (y6.2.2.2.2.2.2.2.2.2.1, y6.2.2.2.2.2.2.2.2.2.2.1, y6.2.2.2.2.2.2.2.2.2.2.2.1, y6.2.2.2.2.2.2.2.2.2.2.2.2.1, y6.2.2.2.2.2.2.2.2.2.2.2.2.2.1, y6.2.2.2.2.2.2.2.2.2.2.2.2.2.2.1, y6.1, y6.2.1, y6.2.2.1, ())) (fun y7 =>
      none)
  else
    Option.bind (spec_l01Once y4.2.1 y4.2.2.1 y4.2.2.2.1 (6 : Int)) fun y8 =>
    bif y8.1 then
      Option.bind (spec_l01Below y8.2.1 y8.2.2.1 y8.2.2.2.1 (3 : Int)) fun y9 =>
      outK (loopV spec_l05Token_r0 (y9.2.1, y9.2.2.1, y9.2.2.2.1, (0 : Int), (0 : Int), (0 : Int), (0 : Int), (0 : Int), [], IntKind.i64.wrap ((1 : Int) + y1.1), IntKind.i64.wrap ((1 : Int) + y2.1), y3.1, y4.1, IntKind.i64.wrap ((1 : Int) + y9.1), [], (1 : Int), ())) (fun y10 =>
        some (y10.2.2.2.2.2.2.2.2.2.1, y10.2.2.2.2.2.2.2.2.2.2.1, y10.2.2.2.2.2.2.2.2.2.2.2.1, y10.2.2.2.2.2.2.2.2.2.2.2.2.1, y10.2.2.2.2.2.2.2.2.2.2.2.2.2.1, y10.2.2.2.2.2.2.2.2.2.2.2.2.2.2.1, y10.1, y10.2.1, y10.2.2.1, ())) (fun y11 =>
        none)
    else
      outK (loopV spec_l05Token_r0 (y8.2.1, y8.2.2.1, y8.2.2.2.1, (0 : Int), (0 : Int), (0 : Int), (0 : Int), (0 : Int), [], IntKind.i64.wrap ((1 : Int) + y1.1), IntKind.i64.wrap ((1 : Int) + y2.1), y3.1, y4.1, (0 : Int), [], (1 : Int), ())) (fun y12 =>
        some (y12.2.2.2.2.2.2.2.2.2.1, y12.2.2.2.2.2.2.2.2.2.2.1, y12.2.2.2.2.2.2.2.2.2.2.2.1, y12.2.2.2.2.2.2.2.2.2.2.2.2.1, y12.2.2.2.2.2.2.2.2.2.2.2.2.2.1, y12.2.2.2.2.2.2.2.2.2.2.2.2.2.2.1, y12.1, y12.2.1, y12.2.2.1, ())) (fun y13 =>
        none)
noncomputable def x141 (x : (List (Int × Unit)) × Int × Int × Unit) : Option (Int × Int × Int × Int × Int × (List (Int × Unit)) × (List (Int × Unit)) × Int × Int × Unit) := spec_l05Token x.1 x.2.1 x.2.2.1
noncomputable def sem141 : Sem1 := semOf ps141 rs141 x141
theorem so141 : SemsOk Try.prog (semsOf sl141) := sems_cons k87 (sems_cons k86 (sems_nil))
noncomputable def b141_0 : Code := nthLoop code141 0
theorem t141_r0_eq (x : denR (headRT hp141_0)) : codeK (tabOf tr) (semsOf sl141) D141 L141 b141_0 (headSt hp141_0 x) (roundK 0 hp141_0 e141_0 q141_0) = spec_l05Token_r0 x := by kernel_rfl
theorem loop141_0 {R : Type} (r : R) (w0 : World) (mu : Mu) (hs : AnShape ps141 mu) : LoopAt Try.prog w0 mu 48 (L141 : Loops R) r 0 b141_0 :=
  loop_auto tr_ok eq_ok mixed_ok so141 (D := D141) hs (by kernel_rfl) (fun _ => (loops_of (l := []) (by kernel_rfl) (List.forall_mem_nil _))) t141_r0_eq (fun _ _ => rfl)
theorem t141_eq (x : denR (headRT (ps141.map some))) : codeK (tabOf tr) (semsOf sl141) D141 L141 code141 (start 48 ps141 x) (finK rs141 ps141) = x141 x := by kernel_rfl
theorem k141 : Known Try.prog 141 sem141 :=
  fn_auto tr_ok eq_ok mixed_ok so141 (D := D141) (code := code141) (n := 48) Try.func141 (by kernel_rfl) (by kernel_rfl) (by kernel_rfl) (fun w0 mu _ hs => (loops_of (l := [(0, b141_0)]) (by kernel_rfl) (List.forall_mem_cons.2 ⟨loop141_0 _ w0 mu hs, (List.forall_mem_nil _)⟩))) t141_eq

/-! ### f120: spec.l01PickInt -/
noncomputable def code120 : Code := match Try.f120.body with | some c => c | none => .skip
def ps120 : List AP := [.box true [.shr (.cons (.int .u8) .nil), .int .i64, .int .i64], .val false [.shr (.cons (.int .i64) .nil)]]
def rs120 : List RP := [{ src := .tmp 4, agg := false, ps := [.int .i64] }]
noncomputable def sl120 : SemL := [(87, (.shr, .shr, .shr, sem87))]
def D120 : Draws := fun _ => .nil
noncomputable def L120 {R : Type} : Loops R := fun _ _ _ _ => none
noncomputable def spec_l01PickInt (c0c0 : List (Int × Unit)) (c0c1 : Int) (c0c2 : Int) (list1 : List (Int × Unit)) : Option (Int × (List (Int × Unit)) × Int × Int × Unit) :=
  Option.bind (spec_l01Below c0c0 c0c1 c0c2 ((List.length list1 : Nat) : Int)) fun y1 =>
  bif decide ((0 : Int) ≤ y1.1) then Option.bind ((list1)[Int.toNat y1.1]?) fun r2 =>
    some (r2.1, y1.2.1, y1.2.2.1, y1.2.2.2.1, ())
  else none
noncomputable def x120 (x : (List (Int × Unit)) × Int × Int × (List (Int × Unit)) × Unit) : Option (Int × (List (Int × Unit)) × Int × Int × Unit) := spec_l01PickInt x.1 x.2.1 x.2.2.1 x.2.2.2.1
noncomputable def sem120 : Sem1 := semOf ps120 rs120 x120
theorem so120 : SemsOk Try.prog (semsOf sl120) := sems_cons k87 (sems_nil)
theorem t120_eq (x : denR (headRT (ps120.map some))) : codeK (tabOf tr) (semsOf sl120) D120 L120 code120 (start 12 ps120 x) (finK rs120 ps120) = x120 x := by kernel_rfl
theorem k120 : Known Try.prog 120 sem120 :=
  fn_auto tr_ok eq_ok mixed_ok so120 (D := D120) (code := code120) (n := 12) Try.func120 (by kernel_rfl) (by kernel_rfl) (by kernel_rfl) (fun w0 mu _ hs => (loops_of (l := []) (by kernel_rfl) (List.forall_mem_nil _))) t120_eq

/-! ### f85: spec.l05AnyToken -/
noncomputable def code85 : Code := match Try.f85.body with | some c => c | none => .skip
def ps85 : List AP := [.box true [.shr (.cons (.int .u8) .nil), .int .i64, .int .i64]]
def rs85 : List RP := [{ src := .cell 2, agg := true, ps := [.int .i64, .int .i64, .int .i64, .int .i64, .int .i64, .own (.cons (.int .i64) .nil)] }]
noncomputable def sl85 : SemL := [(141, (.shr, .shr, .shr, sem141)), (87, (.shr, .shr, .shr, sem87)), (120, (.shr, .shr, .shr, sem120))]
def D85 : Draws := fun id => bif Nat.beq id 14 then .op 0 .any (.op 2 .any (.op 3 .any (.op 4 .take (.op 5 .any (.op 6 .take (.op 7 .any (.alt (.op 1 .one (.op 8 .one (.op 9 .last (.op 10 .one (.op 11 .last (.op 12 .any (.op 13 .last (.nil)))))))) (.op 8 .one (.alt (.op 1 .one (.op 9 .last (.op 10 .one (.op 11 .last (.op 12 .any (.op 13 .last (.nil))))))) (.op 9 .last (.op 1 .take (.op 10 .one (.op 11 .last (.op 12 .any (.op 13 .last (.nil)))))))))))))))) else .nil
noncomputable def L85 {R : Type} : Loops R := fun _ _ _ _ => none
noncomputable def spec_l05AnyToken (c0c0 : List (Int × Unit)) (c0c1 : Int) (c0c2 : Int) : Option (Int × Int × Int × Int × Int × (List (Int × Unit)) × (List (Int × Unit)) × Int × Int × Unit) :=
  Option.bind (spec_l05Token c0c0 c0c1 c0c2) fun y1 =>
  Option.bind (spec_l01Below y1.2.2.2.2.2.2.1 y1.2.2.2.2.2.2.2.1 y1.2.2.2.2.2.2.2.2.1 (24 : Int)) fun y2 =>
  bif decide (y2.1 = (0 : Int)) then
    Option.bind (spec_l01PickInt y2.2.1 y2.2.2.1 y2.2.2.2.1 [((0 : Int), ()), ((9 : Int), ()), ((10 : Int), ())]) fun y3 =>
    some (y3.1, y1.2.1, y1.2.2.1, y1.2.2.2.1, y1.2.2.2.2.1, y1.2.2.2.2.2.1, y3.2.1, y3.2.2.1, y3.2.2.2.1, ())
  else bif decide (y2.1 = (1 : Int)) then
    Option.bind (spec_l01PickInt y2.2.1 y2.2.2.1 y2.2.2.2.1 [((0 : Int), ()), ((-1 : Int), ()), ((1000000000 : Int), ()), ((1000000001 : Int), ())]) fun y4 =>
    some (y1.1, y4.1, y1.2.2.1, y1.2.2.2.1, y1.2.2.2.2.1, y1.2.2.2.2.2.1, y4.2.1, y4.2.2.1, y4.2.2.2.1, ())
  else bif decide (y2.1 = (2 : Int)) then
    Option.bind (spec_l01PickInt y2.2.1 y2.2.2.1 y2.2.2.2.1 [((-1 : Int), ()), ((60 : Int), ()), ((61 : Int), ())]) fun y5 =>
    some (y1.1, y1.2.1, y5.1, y1.2.2.2.1, y1.2.2.2.2.1, y1.2.2.2.2.2.1, y5.2.1, y5.2.2.1, y5.2.2.2.1, ())
  else bif decide (y2.1 = (3 : Int)) then
    Option.bind (spec_l01PickInt y2.2.1 y2.2.2.1 y2.2.2.2.1 [((-1 : Int), ()), (y1.2.2.1, ()), (IntKind.i64.wrap (y1.2.2.1 + (1 : Int)), ())]) fun y6 =>
    some (y1.1, y1.2.1, y1.2.2.1, y6.1, y1.2.2.2.2.1, y1.2.2.2.2.2.1, y6.2.1, y6.2.2.1, y6.2.2.2.1, ())
  else bif decide (y2.1 = (4 : Int)) then
    Option.bind (spec_l01PickInt y2.2.1 y2.2.2.1 y2.2.2.2.1 [((-1 : Int), ()), ((5 : Int), ()), ((6 : Int), ())]) fun y7 =>
    some (y1.1, y1.2.1, y1.2.2.1, y1.2.2.2.1, y7.1, y1.2.2.2.2.2.1, y7.2.1, y7.2.2.1, y7.2.2.2.1, ())
  else bif decide (y2.1 = (5 : Int)) then
    Option.bind (spec_l01PickInt y2.2.1 y2.2.2.1 y2.2.2.2.1 [((0 : Int), ()), ((1 : Int), ()), (y1.2.2.1, ()), (IntKind.i64.wrap (y1.2.2.1 + (1 : Int)), ())]) fun y8 =>
    bif Nat.ble (((List.length y1.2.2.2.2.2.1) + 1) * 8) lim then some (y1.1, y1.2.1, y1.2.2.1, y1.2.2.2.1, y1.2.2.2.2.1, y1.2.2.2.2.2.1 ++ [(y8.1, ())], y8.2.1, y8.2.2.1, y8.2.2.2.1, ())
    else none
  else
    some (y1.1, y1.2.1, y1.2.2.1, y1.2.2.2.1, y1.2.2.2.2.1, y1.2.2.2.2.2.1, y2.2.1, y2.2.2.1, y2.2.2.2.1, ())
noncomputable def spec_l05AnyToken_o (c0c0 : List (Int × Unit)) (c0c1 : Int) (c0c2 : Int) : Option (Int × Int × Int × Int × Int × (List (Int × Unit)) × (List (Int × Unit)) × Int × Int × Unit) :=
  Option.bind (spec_l05Token c0c0 c0c1 c0c2) fun y1 =>
  Option.bind (spec_l01Below y1.2.2.2.2.2.2.1 y1.2.2.2.2.2.2.2.1 y1.2.2.2.2.2.2.2.2.1 (24 : Int)) fun y2 =>
  bif decide (y2.1 = (0 : Int)) then
    Option.bind (spec_l01PickInt y2.2.1 y2.2.2.1 y2.2.2.2.1 [((0 : Int), ()), ((9 : Int), ()), ((10 : Int), ())]) fun y3 =>
    some (y3.1, y1.2.1, y1.2.2.1, y1.2.2.2.1, y1.2.2.2.2.1, y1.2.2.2.2.2.1, y3.2.1, y3.2.2.1, y3.2.2.2.1, ())
  else bif decide (y2.1 = (1 : Int)) then
    Option.bind (spec_l01PickInt y2.2.1 y2.2.2.1 y2.2.2.2.1 [((0 : Int), ()), ((-1 : Int), ()), ((1000000000 : Int), ()), ((1000000001 : Int), ())]) fun y4 =>
    some (y1.1, y4.1, y1.2.2.1, y1.2.2.2.1, y1.2.2.2.2.1, y1.2.2.2.2.2.1, y4.2.1, y4.2.2.1, y4.2.2.2.1, ())
  else bif decide (y2.1 = (2 : Int)) then
    Option.bind (spec_l01PickInt y2.2.1 y2.2.2.1 y2.2.2.2.1 [((-1 : Int), ()), ((60 : Int), ()), ((61 : Int), ())]) fun y5 =>
    some (y1.1, y1.2.1, y5.1, y1.2.2.2.1, y1.2.2.2.2.1, y1.2.2.2.2.2.1, y5.2.1, y5.2.2.1, y5.2.2.2.1, ())
  else bif decide (y2.1 = (3 : Int)) then
    Option.bind (spec_l01PickInt y2.2.1 y2.2.2.1 y2.2.2.2.1 [((-1 : Int), ()), (y1.2.2.1, ()), (IntKind.i64.wrap (y1.2.2.1 + (1 : Int)), ())]) fun y6 =>
    some (y1.1, y1.2.1, y1.2.2.1, y6.1, y1.2.2.2.2.1, y1.2.2.2.2.2.1, y6.2.1, y6.2.2.1, y6.2.2.2.1, ())
  else bif decide (y2.1 = (4 : Int)) then
    Option.bind (spec_l01PickInt y2.2.1 y2.2.2.1 y2.2.2.2.1 [((-1 : Int), ()), ((5 : Int), ()), ((6 : Int), ())]) fun y7 =>
    some (y1.1, y1.2.1, y1.2.2.1, y1.2.2.2.1, y7.1, y1.2.2.2.2.2.1, y7.2.1, y7.2.2.1, y7.2.2.2.1, ())
  else bif decide (y2.1 = (5 : Int)) then
    both (Option.bind (spec_l01PickInt y2.2.1 y2.2.2.1 y2.2.2.2.1 [((0 : Int), ()), ((1 : Int), ()), (y1.2.2.1, ()), (IntKind.i64.wrap (y1.2.2.1 + (1 : Int)), ())]) fun y8 =>
      bif Nat.ble (((List.length y1.2.2.2.2.2.1) + 1) * 8) lim then some (y1.1, y1.2.1, y1.2.2.1, y1.2.2.2.1, y1.2.2.2.2.1, y1.2.2.2.2.2.1 ++ [(y8.1, ())], y8.2.1, y8.2.2.1, y8.2.2.2.1, ())
      else none) (both (Option.bind (spec_l01PickInt y2.2.1 y2.2.2.1 y2.2.2.2.1 [((0 : Int), ()), ((1 : Int), ()), (y1.2.2.1, ()), (IntKind.i64.wrap (y1.2.2.1 + (1 : Int)), ())]) fun y8 =>
        bif Nat.ble (((List.length y1.2.2.2.2.2.1) + 1) * 8) lim then some (y1.1, y1.2.1, y1.2.2.1, y1.2.2.2.1, y1.2.2.2.2.1, y1.2.2.2.2.2.1 ++ [(y8.1, ())], y8.2.1, y8.2.2.1, y8.2.2.2.1, ())
        else none) (Option.bind (spec_l01PickInt y2.2.1 y2.2.2.1 y2.2.2.2.1 [((0 : Int), ()), ((1 : Int), ()), (y1.2.2.1, ()), (IntKind.i64.wrap (y1.2.2.1 + (1 : Int)), ())]) fun y8 =>
        bif Nat.ble (((List.length y1.2.2.2.2.2.1) + 1) * 8) lim then some (y1.1, y1.2.1, y1.2.2.1, y1.2.2.2.1, y1.2.2.2.2.1, y1.2.2.2.2.2.1 ++ [(y8.1, ())], y8.2.1, y8.2.2.1, y8.2.2.2.1, ())
        else none))
  else
    some (y1.1, y1.2.1, y1.2.2.1, y1.2.2.2.1, y1.2.2.2.2.1, y1.2.2.2.2.2.1, y2.2.1, y2.2.2.1, y2.2.2.2.1, ())
theorem spec_l05AnyToken_o_eq (c0c0 : List (Int × Unit)) (c0c1 : Int) (c0c2 : Int) : spec_l05AnyToken_o c0c0 c0c1 c0c2 = spec_l05AnyToken c0c0 c0c1 c0c2 := by
  simp only [spec_l05AnyToken_o, spec_l05AnyToken, both_self]
noncomputable def x85 (x : (List (Int × Unit)) × Int × Int × Unit) : Option (Int × Int × Int × Int × Int × (List (Int × Unit)) × (List (Int × Unit)) × Int × Int × Unit) := spec_l05AnyToken x.1 x.2.1 x.2.2.1
noncomputable def sem85 : Sem1 := semOf ps85 rs85 x85
theorem so85 : SemsOk Try.prog (semsOf sl85) := sems_cons k141 (sems_cons k87 (sems_cons k120 (sems_nil)))
theorem t85_eq (x : denR (headRT (ps85.map some))) : codeK (tabOf tr) (semsOf sl85) D85 L85 code85 (start 59 ps85 x) (finK rs85 ps85) = x85 x := (show _ = spec_l05AnyToken_o x.1 x.2.1 x.2.2.1 from by kernel_rfl).trans (spec_l05AnyToken_o_eq x.1 x.2.1 x.2.2.1)
theorem k85 : Known Try.prog 85 sem85 :=
  fn_auto tr_ok eq_ok mixed_ok so85 (D := D85) (code := code85) (n := 59) Try.func85 (by kernel_rfl) (by kernel_rfl) (by kernel_rfl) (fun w0 mu _ hs => (loops_of (l := []) (by kernel_rfl) (List.forall_mem_nil _))) t85_eq

/-! ### f143: spec.l01Pick -/
noncomputable def code143 : Code := match Try.f143.body with | some c => c | none => .skip
def ps143 : List AP := [.box true [.shr (.cons (.int .u8) .nil), .int .i64, .int .i64], .val false [.shr (.cons .str .nil)]]
def rs143 : List RP := [{ src := .tmp 4, agg := false, ps := [.str] }]
noncomputable def sl143 : SemL := [(87, (.shr, .shr, .shr, sem87))]
def D143 : Draws := fun _ => .nil
noncomputable def L143 {R : Type} : Loops R := fun _ _ _ _ => none
noncomputable def spec_l01Pick (c0c0 : List (Int × Unit)) (c0c1 : Int) (c0c2 : Int) (list1 : List (ByteArray × Unit)) : Option (ByteArray × (List (Int × Unit)) × Int × Int × Unit) :=
  Option.bind (spec_l01Below c0c0 c0c1 c0c2 ((List.length list1 : Nat) : Int)) fun y1 =>
  bif decide ((0 : Int) ≤ y1.1) then Option.bind ((list1)[Int.toNat y1.1]?) fun r2 =>
    some (r2.1, y1.2.1, y1.2.2.1, y1.2.2.2.1, ())
  else none
noncomputable def x143 (x : (List (Int × Unit)) × Int × Int × (List (ByteArray × Unit)) × Unit) : Option (ByteArray × (List (Int × Unit)) × Int × Int × Unit) := spec_l01Pick x.1 x.2.1 x.2.2.1 x.2.2.2.1
noncomputable def sem143 : Sem1 := semOf ps143 rs143 x143
theorem so143 : SemsOk Try.prog (semsOf sl143) := sems_cons k87 (sems_nil)
theorem t143_eq (x : denR (headRT (ps143.map some))) : codeK (tabOf tr) (semsOf sl143) D143 L143 code143 (start 12 ps143 x) (finK rs143 ps143) = x143 x := by kernel_rfl
theorem k143 : Known Try.prog 143 sem143 :=
  fn_auto tr_ok eq_ok mixed_ok so143 (D := D143) (code := code143) (n := 12) Try.func143 (by kernel_rfl) (by kernel_rfl) (by kernel_rfl) (fun w0 mu _ hs => (loops_of (l := []) (by kernel_rfl) (List.forall_mem_nil _))) t143_eq

/-! ### f88: spec.l03Name -/
noncomputable def code88 : Code := match Try.f88.body with | some c => c | none => .skip
def ps88 : List AP := [.box true [.shr (.cons (.int .u8) .nil), .int .i64, .int .i64]]
def rs88 : List RP := [{ src := .tmp 2, agg := false, ps := [.str] }]
noncomputable def sl88 : SemL := [(143, (.shr, .shr, .shr, sem143))]
def D88 : Draws := fun _ => .nil
noncomputable def L88 {R : Type} : Loops R := fun _ _ _ _ => none
noncomputable def spec_l03Name (c0c0 : List (Int × Unit)) (c0c1 : Int) (c0c2 : Int) : Option (ByteArray × (List (Int × Unit)) × Int × Int × Unit) :=
  Option.bind (spec_l01Pick c0c0 c0c1 c0c2 ([((ByteArray.mk #[97, 110, 110]), ()), ((ByteArray.mk #[98, 111, 98]), ()), ((ByteArray.mk #[99, 121]), ()), ((ByteArray.mk #[100, 52]), ()), ((ByteArray.mk #[101, 118, 101]), ())])) fun y1 =>
  some (y1.1, y1.2.1, y1.2.2.1, y1.2.2.2.1, ())
noncomputable def x88 (x : (List (Int × Unit)) × Int × Int × Unit) : Option (ByteArray × (List (Int × Unit)) × Int × Int × Unit) := spec_l03Name x.1 x.2.1 x.2.2.1
noncomputable def sem88 : Sem1 := semOf ps88 rs88 x88
theorem so88 : SemsOk Try.prog (semsOf sl88) := sems_cons k143 (sems_nil)
theorem t88_eq (x : denR (headRT (ps88.map some))) : codeK (tabOf tr) (semsOf sl88) D88 L88 code88 (start 6 ps88 x) (finK rs88 ps88) = x88 x := by kernel_rfl
theorem k88 : Known Try.prog 88 sem88 :=
  fn_auto tr_ok eq_ok mixed_ok so88 (D := D88) (code := code88) (n := 6) Try.func88 (by kernel_rfl) (by kernel_rfl) (by kernel_rfl) (fun w0 mu _ hs => (loops_of (l := []) (by kernel_rfl) (List.forall_mem_nil _))) t88_eq

/-! ### f89: spec.l01Long -/
noncomputable def code89 : Code := match Try.f89.body with | some c => c | none => .skip
def ps89 : List AP := [.val false [.int .i64], .val false [.int .u8]]
def rs89 : List RP := [{ src := .tmp 4, agg := false, ps := [.str] }]
noncomputable def sl89 : SemL := []
def D89 : Draws := fun _ => .nil
def hp89_0 : List (Option AP) := [some (.val false [.int .i64]), some (.val false [.int .u8]), none, none, none, some (.val false [.own (.cons (.int .u8) .nil)]), some (.val false [.int .i64]), none, none, none, none, none, none, none, none, none, none, none, none, none]
def e89_0 : List (Option AP) := [none, none, none, none, none, some (.val false [.own (.cons (.int .u8) .nil)]), none, none, none, none, none, none, none, none, none, none, none, none, none, none]
def q89_0 : List (Option AP) := [none, none, none, none, none, none, none, none, none, none, none, none, none, none, none, none, none, none, none, none]
abbrev H89_0 : Type := Int × Int × (List (Int × Unit)) × Int × Unit
abbrev E89_0 : Type := (List (Int × Unit)) × Unit
abbrev Q89_0 : Type := Unit
noncomputable def spec_l01Long_c0 (n0 : Int) (x1 : Int) (out5 : List (Int × Unit)) (i6 : Int) : Option (Sum H89_0 (Sum E89_0 Q89_0)) :=
  bif decide (i6 < n0) then
    bif decide ((0 : Int) ≤ i6) then bif Nat.blt (Int.toNat i6) (List.length out5) then Option.bind ((out5)[Int.toNat i6]?) fun r1 =>
        some (.inl (n0, x1, List.set out5 (Int.toNat i6) (x1, ()), IntKind.i64.wrap (i6 + (1 : Int)), ()))
      else none
    else none
  else
    some (.inr (.inl (out5, ())))
noncomputable def spec_l01Long_r0 (x : H89_0) : Option (Sum H89_0 (Sum E89_0 Q89_0)) := spec_l01Long_c0 x.1 x.2.1 x.2.2.1 x.2.2.2.1
noncomputable def L89 {R : Type} : Loops R := fun id _ st k => bif Nat.beq id 0 then loopAt hp89_0 e89_0 q89_0 spec_l01Long_r0 st k else none
noncomputable def spec_l01Long (n0 : Int) (x1 : Int) : Option (ByteArray × Unit) :=
  bif decide (n0 = n0) then bif decide ((0 : Int) ≤ n0) then bif Nat.ble ((Int.toNat n0) * 1) lim then outK (loopV spec_l01Long_r0 (n0, x1, List.replicate (Int.toNat n0) ((0 : Int), ()), (0 : Int), ())) (fun y1 =>
          some (bytesOf y1.1, ())) (fun y2 =>
          none)
      else none
    else none
  else none
noncomputable def x89 (x : Int × Int × Unit) : Option (ByteArray × Unit) := spec_l01Long x.1 x.2.1
noncomputable def sem89 : Sem1 := semOf ps89 rs89 x89
theorem so89 : SemsOk Try.prog (semsOf sl89) := sems_nil
noncomputable def b89_0 : Code := nthLoop code89 0
theorem t89_r0_eq (x : denR (headRT hp89_0)) : codeK (tabOf tr) (semsOf sl89) D89 L89 b89_0 (headSt hp89_0 x) (roundK 0 hp89_0 e89_0 q89_0) = spec_l01Long_r0 x := by kernel_rfl
theorem loop89_0 {R : Type} (r : R) (w0 : World) (mu : Mu) (hs : AnShape ps89 mu) : LoopAt Try.prog w0 mu 20 (L89 : Loops R) r 0 b89_0 :=
  loop_auto tr_ok eq_ok mixed_ok so89 (D := D89) hs (by kernel_rfl) (fun _ => (loops_of (l := []) (by kernel_rfl) (List.forall_mem_nil _))) t89_r0_eq (fun _ _ => rfl)
theorem t89_eq (x : denR (headRT (ps89.map some))) : codeK (tabOf tr) (semsOf sl89) D89 L89 code89 (start 20 ps89 x) (finK rs89 ps89) = x89 x := by kernel_rfl
theorem k89 : Known Try.prog 89 sem89 :=
  fn_auto tr_ok eq_ok mixed_ok so89 (D := D89) (code := code89) (n := 20) Try.func89 (by kernel_rfl) (by kernel_rfl) (by kernel_rfl) (fun w0 mu _ hs => (loops_of (l := [(0, b89_0)]) (by kernel_rfl) (List.forall_mem_cons.2 ⟨loop89_0 _ w0 mu hs, (List.forall_mem_nil _)⟩))) t89_eq

/-! ### f90: spec.l01Place -/
noncomputable def code90 : Code := match Try.f90.body with | some c => c | none => .skip
def ps90 : List AP := [.box true [.shr (.cons (.int .u8) .nil), .int .i64, .int .i64], .val false [.int .i64]]
def rs90 : List RP := [{ src := .tmp 4, agg := false, ps := [.int .i64] }]
noncomputable def sl90 : SemL := [(86, (.shr, .shr, .shr, sem86)), (120, (.shr, .shr, .shr, sem120)), (87, (.shr, .shr, .shr, sem87))]
def D90 : Draws := fun _ => .nil
noncomputable def L90 {R : Type} : Loops R := fun _ _ _ _ => none
noncomputable def spec_l01Place (c0c0 : List (Int × Unit)) (c0c1 : Int) (c0c2 : Int) (n1 : Int) : Option (Int × (List (Int × Unit)) × Int × Int × Unit) :=
  Option.bind (spec_l01Once c0c0 c0c1 c0c2 (15 : Int)) fun y1 =>
  bif y1.1 then
    Option.bind (spec_l01PickInt y1.2.1 y1.2.2.1 y1.2.2.2.1 [((-1 : Int), ()), (n1, ()), (IntKind.i64.wrap (n1 + (1 : Int)), ()), ((9223372036854775807 : Int), ()), ((-9223372036854775808 : Int), ())]) fun y2 =>
    some (y2.1, y2.2.1, y2.2.2.1, y2.2.2.2.1, ())
  else
    Option.bind (spec_l01Below y1.2.1 y1.2.2.1 y1.2.2.2.1 n1) fun y3 =>
    some (y3.1, y3.2.1, y3.2.2.1, y3.2.2.2.1, ())
noncomputable def x90 (x : (List (Int × Unit)) × Int × Int × Int × Unit) : Option (Int × (List (Int × Unit)) × Int × Int × Unit) := spec_l01Place x.1 x.2.1 x.2.2.1 x.2.2.2.1
noncomputable def sem90 : Sem1 := semOf ps90 rs90 x90
theorem so90 : SemsOk Try.prog (semsOf sl90) := sems_cons k86 (sems_cons k120 (sems_cons k87 (sems_nil)))
theorem t90_eq (x : denR (headRT (ps90.map some))) : codeK (tabOf tr) (semsOf sl90) D90 L90 code90 (start 16 ps90 x) (finK rs90 ps90) = x90 x := by kernel_rfl
theorem k90 : Known Try.prog 90 sem90 :=
  fn_auto tr_ok eq_ok mixed_ok so90 (D := D90) (code := code90) (n := 16) Try.func90 (by kernel_rfl) (by kernel_rfl) (by kernel_rfl) (fun w0 mu _ hs => (loops_of (l := []) (by kernel_rfl) (List.forall_mem_nil _))) t90_eq

/-! ### f16: spec.DrawNumber -/
noncomputable def code16 : Code := match Try.f16.body with | some c => c | none => .skip
def ps16 : List AP := [.val false [.shr (.cons (.int .u8) .nil)]]
def rs16 : List RP := [{ src := .cell 2, agg := true, ps := [.int .i64, .int .i64, .int .i64, .int .i64, .int .i64, .own (.cons (.int .i64) .nil)] }, { src := .tmp 3, agg := false, ps := [.int .i64] }, { src := .tmp 4, agg := false, ps := [.own (.cons (.int .i64) .nil)] }, { src := .tmp 5, agg := false, ps := [.own (.cons .str .nil)] }]
noncomputable def sl16 : SemL := [(84, (.shr, .shr, .shr, sem84)), (85, (.shr, .shr, .shr, sem85)), (86, (.shr, .shr, .shr, sem86)), (87, (.shr, .shr, .shr, sem87)), (88, (.shr, .shr, .shr, sem88)), (89, (.shr, .shr, .shr, sem89)), (90, (.shr, .shr, .shr, sem90))]
def D16 : Draws := fun id => bif Nat.beq id 14 then .op 1 .any (.op 3 .any (.op 4 .any (.alt (.op 0 .one (.op 2 .last (.op 5 .last (.op 6 .any (.op 7 .any (.op 8 .any (.nil))))))) (.op 2 .last (.op 0 .take (.op 5 .last (.op 6 .any (.op 7 .any (.op 8 .any (.nil)))))))))) else .nil
def hp16_0 : List (Option AP) := [none, none, some (.box false [.int .i64, .int .i64, .int .i64, .int .i64, .int .i64, .own (.cons (.int .i64) .nil)]), none, none, none, some (.box false [.shr (.cons (.int .u8) .nil), .int .i64, .int .i64]), some (.box false [.int .i64, .int .i64, .int .i64, .int .i64, .int .i64, .own (.cons (.int .i64) .nil)]), some (.val false [.own (.cons (.int .i64) .nil)]), some (.val false [.own (.cons .str .nil)]), some (.val false [.int .i64]), none, none, none, none, none, none, none, none, none, none, none, none, none, none, none, none, none, none, none, none, none, none, none, none, none, none, none, none, none, none, none, none, none, none, none, none]
def e16_0 : List (Option AP) := [none, none, some (.box false [.int .i64, .int .i64, .int .i64, .int .i64, .int .i64, .own (.cons (.int .i64) .nil)]), none, none, none, some (.box false [.shr (.cons (.int .u8) .nil), .int .i64, .int .i64]), some (.box false [.int .i64, .int .i64, .int .i64, .int .i64, .int .i64, .own (.cons (.int .i64) .nil)]), some (.val false [.own (.cons (.int .i64) .nil)]), some (.val false [.own (.cons .str .nil)]), none, none, none, none, none, none, none, none, none, none, none, none, none, none, none, none, none, none, none, none, none, none, none, none, none, none, none, none, none, none, none, none, none, none, none, none, none]
def q16_0 : List (Option AP) := [none, none, none, none, none, none, none, none, none, none, none, none, none, none, none, none, none, none, none, none, none, none, none, none, none, none, none, none, none, none, none, none, none, none, none, none, none, none, none, none, none, none, none, none, none, none, none]
abbrev H16_0 : Type := Int × Int × Int × Int × Int × (List (Int × Unit)) × (List (Int × Unit)) × Int × Int × Int × Int × Int × Int × Int × (List (Int × Unit)) × (List (Int × Unit)) × (List (ByteArray × Unit)) × Int × Unit
abbrev E16_0 : Type := Int × Int × Int × Int × Int × (List (Int × Unit)) × (List (Int × Unit)) × Int × Int × Int × Int × Int × Int × Int × (List (Int × Unit)) × (List (Int × Unit)) × (List (ByteArray × Unit)) × Unit
abbrev Q16_0 : Type := Unit
noncomputable def spec_DrawNumber_c0 (t2c0 : Int) (t2c1 : Int) (t2c2 : Int) (t2c3 : Int) (t2c4 : Int) (t2c5 : List (Int × Unit)) (c6c0 : List (Int × Unit)) (c6c1 : Int) (c6c2 : Int) (t7c0 : Int) (t7c1 : Int) (t7c2 : Int) (t7c3 : Int) (t7c4 : Int) (t7c5 : List (Int × Unit)) (level8 : List (Int × Unit)) (texts9 : List (ByteArray × Unit)) (i10 : Int) : Option (Sum H16_0 (Sum E16_0 Q16_0)) :=
  Option.bind (spec_l01Below c6c0 c6c1 c6c2 (6 : Int)) fun y4 =>
  bif decide (i10 < y4.1) then
    Option.bind (spec_l01Below y4.2.1 y4.2.2.1 y4.2.2.2.1 (4 : Int)) fun y5 =>
    bif Nat.ble (((List.length level8) + 1) * 8) lim then Option.bind (spec_l03Name y5.2.1 y5.2.2.1 y5.2.2.2.1) fun y6 =>
      bif Nat.ble (((List.length texts9) + 1) * 16) lim then some (.inl (t2c0, t2c1, t2c2, t2c3, t2c4, t2c5, y6.2.1, y6.2.2.1, y6.2.2.2.1, t7c0, t7c1, t7c2, t7c3, t7c4, t7c5, level8 ++ [(y5.1, ())], texts9 ++ [(y6.1, ())], IntKind.i64.wrap (i10 + (1 : Int)), ()))
      else none
    else none
  else
    some (.inr (.inl (t2c0, t2c1, t2c2, t2c3, t2c4, t2c5, y4.2.1, y4.2.2.1, y4.2.2.2.1, t7c0, t7c1, t7c2, t7c3, t7c4, t7c5, level8, texts9, ())))
noncomputable def spec_DrawNumber_r0 (x : H16_0) : Option (Sum H16_0 (Sum E16_0 Q16_0)) := spec_DrawNumber_c0 x.1 x.2.1 x.2.2.1 x.2.2.2.1 x.2.2.2.2.1 x.2.2.2.2.2.1 x.2.2.2.2.2.2.1 x.2.2.2.2.2.2.2.1 x.2.2.2.2.2.2.2.2.1 x.2.2.2.2.2.2.2.2.2.1 x.2.2.2.2.2.2.2.2.2.2.1 x.2.2.2.2.2.2.2.2.2.2.2.1 x.2.2.2.2.2.2.2.2.2.2.2.2.1 x.2.2.2.2.2.2.2.2.2.2.2.2.2.1 x.2.2.2.2.2.2.2.2.2.2.2.2.2.2.1 x.2.2.2.2.2.2.2.2.2.2.2.2.2.2.2.1 x.2.2.2.2.2.2.2.2.2.2.2.2.2.2.2.2.1 x.2.2.2.2.2.2.2.2.2.2.2.2.2.2.2.2.2.1
noncomputable def L16 {R : Type} : Loops R := fun id _ st k => bif Nat.beq id 0 then loopAt hp16_0 e16_0 q16_0 spec_DrawNumber_r0 st k else none
noncomputable def spec_DrawNumber (code0 : List (Int × Unit)) : Option (Int × Int × Int × Int × Int × (List (Int × Unit)) × Int × (List (Int × Unit)) × (List (ByteArray × Unit)) × Unit) :=
  Option.bind (spec_l01New code0) fun y1 =>
  Option.bind (spec_l05AnyToken y1.1 y1.2.1 y1.2.2.1) fun y2 =>
  Option.bind (spec_l01Once y2.2.2.2.2.2.2.1 y2.2.2.2.2.2.2.2.1 y2.2.2.2.2.2.2.2.2.1 (10 : Int)) fun y3 =>
  bif y3.1 then
    outK (loopV spec_DrawNumber_r0 ((0 : Int), (0 : Int), (0 : Int), (0 : Int), (0 : Int), [], y3.2.1, y3.2.2.1, y3.2.2.2.1, (1 : Int), (3 : Int), (59 : Int), (59 : Int), (0 : Int), [], [], [], (0 : Int), ())) (fun y4 =>
      Option.bind (spec_l01Once y4.2.2.2.2.2.2.1 y4.2.2.2.2.2.2.2.1 y4.2.2.2.2.2.2.2.2.1 (10 : Int)) fun y6 =>
      bif y6.1 then
        Option.bind (spec_l01Long (61 : Int) (65 : Int)) fun y7 =>
        bif Nat.ble ((2 + (List.length y4.2.2.2.2.2.2.2.2.2.2.2.2.2.2.2.2.1)) * 16) lim then Option.bind (spec_l01Place y6.2.1 y6.2.2.1 y6.2.2.2.1 (6 : Int)) fun y8 =>
          some (y4.2.2.2.2.2.2.2.2.2.1, y4.2.2.2.2.2.2.2.2.2.2.1, y4.2.2.2.2.2.2.2.2.2.2.2.1, y4.2.2.2.2.2.2.2.2.2.2.2.2.1, y4.2.2.2.2.2.2.2.2.2.2.2.2.2.1, y4.2.2.2.2.2.2.2.2.2.2.2.2.2.2.1, y8.1, y4.2.2.2.2.2.2.2.2.2.2.2.2.2.2.2.1, ([((ByteArray.mk #[97]), ()), (y7.1, ())]) ++ y4.2.2.2.2.2.2.2.2.2.2.2.2.2.2.2.2.1, ())
        else none
      else
        Option.bind (spec_l01Place y6.2.1 y6.2.2.1 y6.2.2.2.1 (6 : Int)) fun y9 =>
        some (y4.2.2.2.2.2.2.2.2.2.1, y4.2.2.2.2.2.2.2.2.2.2.1, y4.2.2.2.2.2.2.2.2.2.2.2.1, y4.2.2.2.2.2.2.2.2.2.2.2.2.1, y4.2.2.2.2.2.2.2.2.2.2.2.2.2.1, y4.2.2.2.2.2.2.2.2.2.2.2.2.2.2.1, y9.1, y4.2.2.2.2.2.2.2.2.2.2.2.2.2.2.2.1, y4.2.2.2.2.2.2.2.2.2.2.2.2.2.2.2.2.1, ())) (fun y5 =>
      none)
  else
    outK (loopV spec_DrawNumber_r0 ((0 : Int), (0 : Int), (0 : Int), (0 : Int), (0 : Int), [], y3.2.1, y3.2.2.1, y3.2.2.2.1, y2.1, y2.2.1, y2.2.2.1, y2.2.2.2.1, y2.2.2.2.2.1, y2.2.2.2.2.2.1, [], [], (0 : Int), ())) (fun y10 =>
      Option.bind (spec_l01Once y10.2.2.2.2.2.2.1 y10.2.2.2.2.2.2.2.1 y10.2.2.2.2.2.2.2.2.1 (10 : Int)) fun y12 =>
      bif y12.1 then
        Option.bind (spec_l01Long (61 : Int) (65 : Int)) fun y13 =>
        bif Nat.ble ((2 + (List.length y10.2.2.2.2.2.2.2.2.2.2.2.2.2.2.2.2.1)) * 16) lim then Option.bind (spec_l01Place y12.2.1 y12.2.2.1 y12.2.2.2.1 (6 : Int)) fun y14 =>
          some (y10.2.2.2.2.2.2.2.2.2.1, y10.2.2.2.2.2.2.2.2.2.2.1, y10.2.2.2.2.2.2.2.2.2.2.2.1, y10.2.2.2.2.2.2.2.2.2.2.2.2.1, y10.2.2.2.2.2.2.2.2.2.2.2.2.2.1, y10.2.2.2.2.2.2.2.2.2.2.2.2.2.2.1, y14.1, y10.2.2.2.2.2.2.2.2.2.2.2.2.2.2.2.1, ([((ByteArray.mk #[97]), ()), (y13.1, ())]) ++ y10.2.2.2.2.2.2.2.2.2.2.2.2.2.2.2.2.1, ())
        else none
      else
        Option.bind (spec_l01Place y12.2.1 y12.2.2.1 y12.2.2.2.1 (6 : Int)) fun y15 =>
        some (y10.2.2.2.2.2.2.2.2.2.1, y10.2.2.2.2.2.2.2.2.2.2.1, y10.2.2.2.2.2.2.2.2.2.2.2.1, y10.2.2.2.2.2.2.2.2.2.2.2.2.1, y10.2.2.2.2.2.2.2.2.2.2.2.2.2.1, y10.2.2.2.2.2.2.2.2.2.2.2.2.2.2.1, y15.1, y10.2.2.2.2.2.2.2.2.2.2.2.2.2.2.2.1, y10.2.2.2.2.2.2.2.2.2.2.2.2.2.2.2.2.1, ())) (fun y11 =>
      none)
noncomputable def spec_DrawNumber_o (code0 : List (Int × Unit)) : Option (Int × Int × Int × Int × Int × (List (Int × Unit)) × Int × (List (Int × Unit)) × (List (ByteArray × Unit)) × Unit) :=
  Option.bind (spec_l01New code0) fun y1 =>
  Option.bind (spec_l05AnyToken y1.1 y1.2.1 y1.2.2.1) fun y2 =>
  Option.bind (spec_l01Once y2.2.2.2.2.2.2.1 y2.2.2.2.2.2.2.2.1 y2.2.2.2.2.2.2.2.2.1 (10 : Int)) fun y3 =>
  bif y3.1 then
    outK (loopV spec_DrawNumber_r0 ((0 : Int), (0 : Int), (0 : Int), (0 : Int), (0 : Int), [], y3.2.1, y3.2.2.1, y3.2.2.2.1, (1 : Int), (3 : Int), (59 : Int), (59 : Int), (0 : Int), [], [], [], (0 : Int), ())) (fun y4 =>
      Option.bind (spec_l01Once y4.2.2.2.2.2.2.1 y4.2.2.2.2.2.2.2.1 y4.2.2.2.2.2.2.2.2.1 (10 : Int)) fun y6 =>
      bif y6.1 then
        Option.bind (spec_l01Long (61 : Int) (65 : Int)) fun y7 =>
        bif Nat.ble ((2 + (List.length y4.2.2.2.2.2.2.2.2.2.2.2.2.2.2.2.2.1)) * 16) lim then both (Option.bind (spec_l01Place y6.2.1 y6.2.2.1 y6.2.2.2.1 (6 : Int)) fun y8 =>
            some (y4.2.2.2.2.2.2.2.2.2.1, y4.2.2.2.2.2.2.2.2.2.2.1, y4.2.2.2.2.2.2.2.2.2.2.2.1, y4.2.2.2.2.2.2.2.2.2.2.2.2.1, y4.2.2.2.2.2.2.2.2.2.2.2.2.2.1, y4.2.2.2.2.2.2.2.2.2.2.2.2.2.2.1, y8.1, y4.2.2.2.2.2.2.2.2.2.2.2.2.2.2.2.1, ([((ByteArray.mk #[97]), ()), (y7.1, ())]) ++ y4.2.2.2.2.2.2.2.2.2.2.2.2.2.2.2.2.1, ())) (Option.bind (spec_l01Place y6.2.1 y6.2.2.1 y6.2.2.2.1 (6 : Int)) fun y8 =>
            some (y4.2.2.2.2.2.2.2.2.2.1, y4.2.2.2.2.2.2.2.2.2.2.1, y4.2.2.2.2.2.2.2.2.2.2.2.1, y4.2.2.2.2.2.2.2.2.2.2.2.2.1, y4.2.2.2.2.2.2.2.2.2.2.2.2.2.1, y4.2.2.2.2.2.2.2.2.2.2.2.2.2.2.1, y8.1, y4.2.2.2.2.2.2.2.2.2.2.2.2.2.2.2.1, ([((ByteArray.mk #[97]), ()), (y7.1, ())]) ++ y4.2.2.2.2.2.2.2.2.2.2.2.2.2.2.2.2.1, ()))
        else none
      else
        both (Option.bind (spec_l01Place y6.2.1 y6.2.2.1 y6.2.2.2.1 (6 : Int)) fun y9 =>
          some (y4.2.2.2.2.2.2.2.2.2.1, y4.2.2.2.2.2.2.2.2.2.2.1, y4.2.2.2.2.2.2.2.2.2.2.2.1, y4.2.2.2.2.2.2.2.2.2.2.2.2.1, y4.2.2.2.2.2.2.2.2.2.2.2.2.2.1, y4.2.2.2.2.2.2.2.2.2.2.2.2.2.2.1, y9.1, y4.2.2.2.2.2.2.2.2.2.2.2.2.2.2.2.1, y4.2.2.2.2.2.2.2.2.2.2.2.2.2.2.2.2.1, ())) (Option.bind (spec_l01Place y6.2.1 y6.2.2.1 y6.2.2.2.1 (6 : Int)) fun y9 =>
          some (y4.2.2.2.2.2.2.2.2.2.1, y4.2.2.2.2.2.2.2.2.2.2.1, y4.2.2.2.2.2.2.2.2.2.2.2.1, y4.2.2.2.2.2.2.2.2.2.2.2.2.1, y4.2.2.2.2.2.2.2.2.2.2.2.2.2.1, y4.2.2.2.2.2.2.2.2.2.2.2.2.2.2.1, y9.1, y4.2.2.2.2.2.2.2.2.2.2.2.2.2.2.2.1, y4.2.2.2.2.2.2.2.2.2.2.2.2.2.2.2.2.1, ()))) (fun y5 =>
      none)
  else
    outK (loopV spec_DrawNumber_r0 ((0 : Int), (0 : Int), (0 : Int), (0 : Int), (0 : Int), [], y3.2.1, y3.2.2.1, y3.2.2.2.1, y2.1, y2.2.1, y2.2.2.1, y2.2.2.2.1, y2.2.2.2.2.1, y2.2.2.2.2.2.1, [], [], (0 : Int), ())) (fun y10 =>
      Option.bind (spec_l01Once y10.2.2.2.2.2.2.1 y10.2.2.2.2.2.2.2.1 y10.2.2.2.2.2.2.2.2.1 (10 : Int)) fun y12 =>
      bif y12.1 then
        Option.bind (spec_l01Long (61 : Int) (65 : Int)) fun y13 =>
        bif Nat.ble ((2 + (List.length y10.2.2.2.2.2.2.2.2.2.2.2.2.2.2.2.2.1)) * 16) lim then both (Option.bind (spec_l01Place y12.2.1 y12.2.2.1 y12.2.2.2.1 (6 : Int)) fun y14 =>
            some (y10.2.2.2.2.2.2.2.2.2.1, y10.2.2.2.2.2.2.2.2.2.2.1, y10.2.2.2.2.2.2.2.2.2.2.2.1, y10.2.2.2.2.2.2.2.2.2.2.2.2.1, y10.2.2.2.2.2.2.2.2.2.2.2.2.2.1, y10.2.2.2.2.2.2.2.2.2.2.2.2.2.2.1, y14.1, y10.2.2.2.2.2.2.2.2.2.2.2.2.2.2.2.1, ([((ByteArray.mk #[97]), ()), (y13.1, ())]) ++ y10.2.2.2.2.2.2.2.2.2.2.2.2.2.2.2.2.1, ())) (Option.bind (spec_l01Place y12.2.1 y12.2.2.1 y12.2.2.2.1 (6 : Int)) fun y14 =>
            some (y10.2.2.2.2.2.2.2.2.2.1, y10.2.2.2.2.2.2.2.2.2.2.1, y10.2.2.2.2.2.2.2.2.2.2.2.1, y10.2.2.2.2.2.2.2.2.2.2.2.2.1, y10.2.2.2.2.2.2.2.2.2.2.2.2.2.1, y10.2.2.2.2.2.2.2.2.2.2.2.2.2.2.1, y14.1, y10.2.2.2.2.2.2.2.2.2.2.2.2.2.2.2.1, ([((ByteArray.mk #[97]), ()), (y13.1, ())]) ++ y10.2.2.2.2.2.2.2.2.2.2.2.2.2.2.2.2.1, ()))
        else none
      else
        both (Option.bind (spec_l01Place y12.2.1 y12.2.2.1 y12.2.2.2.1 (6 : Int)) fun y15 =>
          some (y10.2.2.2.2.2.2.2.2.2.1, y10.2.2.2.2.2.2.2.2.2.2.1, y10.2.2.2.2.2.2.2.2.2.2.2.1, y10.2.2.2.2.2.2.2.2.2.2.2.2.1, y10.2.2.2.2.2.2.2.2.2.2.2.2.2.1, y10.2.2.2.2.2.2.2.2.2.2.2.2.2.2.1, y15.1, y10.2.2.2.2.2.2.2.2.2.2.2.2.2.2.2.1, y10.2.2.2.2.2.2.2.2.2.2.2.2.2.2.2.2.1, ())) (Option.bind (spec_l01Place y12.2.1 y12.2.2.1 y12.2.2.2.1 (6 : Int)) fun y15 =>
          some (y10.2.2.2.2.2.2.2.2.2.1, y10.2.2.2.2.2.2.2.2.2.2.1, y10.2.2.2.2.2.2.2.2.2.2.2.1, y10.2.2.2.2.2.2.2.2.2.2.2.2.1, y10.2.2.2.2.2.2.2.2.2.2.2.2.2.1, y10.2.2.2.2.2.2.2.2.2.2.2.2.2.2.1, y15.1, y10.2.2.2.2.2.2.2.2.2.2.2.2.2.2.2.1, y10.2.2.2.2.2.2.2.2.2.2.2.2.2.2.2.2.1, ()))) (fun y11 =>
      none)
theorem spec_DrawNumber_o_eq (code0 : List (Int × Unit)) : spec_DrawNumber_o code0 = spec_DrawNumber code0 := by
  simp only [spec_DrawNumber_o, spec_DrawNumber, both_self]
noncomputable def x16 (x : (List (Int × Unit)) × Unit) : Option (Int × Int × Int × Int × Int × (List (Int × Unit)) × Int × (List (Int × Unit)) × (List (ByteArray × Unit)) × Unit) := spec_DrawNumber x.1
noncomputable def sem16 : Sem1 := semOf ps16 rs16 x16
theorem so16 : SemsOk Try.prog (semsOf sl16) := sems_cons k84 (sems_cons k85 (sems_cons k86 (sems_cons k87 (sems_cons k88 (sems_cons k89 (sems_cons k90 (sems_nil)))))))
noncomputable def b16_0 : Code := nthLoop code16 0
theorem t16_r0_eq (x : denR (headRT hp16_0)) : codeK (tabOf tr) (semsOf sl16) D16 L16 b16_0 (headSt hp16_0 x) (roundK 0 hp16_0 e16_0 q16_0) = spec_DrawNumber_r0 x := by kernel_rfl
theorem loop16_0 {R : Type} (r : R) (w0 : World) (mu : Mu) (hs : AnShape ps16 mu) : LoopAt Try.prog w0 mu 47 (L16 : Loops R) r 0 b16_0 :=
  loop_auto tr_ok eq_ok mixed_ok so16 (D := D16) hs (by kernel_rfl) (fun _ => (loops_of (l := []) (by kernel_rfl) (List.forall_mem_nil _))) t16_r0_eq (fun _ _ => rfl)
theorem t16_eq (x : denR (headRT (ps16.map some))) : codeK (tabOf tr) (semsOf sl16) D16 L16 code16 (start 47 ps16 x) (finK rs16 ps16) = x16 x := (show _ = spec_DrawNumber_o x.1 from by kernel_rfl).trans (spec_DrawNumber_o_eq x.1)
theorem k16 : Known Try.prog 16 sem16 :=
  fn_auto tr_ok eq_ok mixed_ok so16 (D := D16) (code := code16) (n := 47) Try.func16 (by kernel_rfl) (by kernel_rfl) (by kernel_rfl) (fun w0 mu _ hs => (loops_of (l := [(0, b16_0)]) (by kernel_rfl) (List.forall_mem_cons.2 ⟨loop16_0 _ w0 mu hs, (List.forall_mem_nil _)⟩))) t16_eq

/-! ### f144: slices.Clone[[]int,int] -/
noncomputable def code144 : Code := match Try.f144.body with | some c => c | none => .skip
def ps144 : List AP := [.val false [.shr (.cons (.int .i64) .nil)]]
def rs144 : List RP := [{ src := .tmp 2, agg := false, ps := [.own (.cons (.int .i64) .nil)] }]
noncomputable def sl144 : SemL := []
def D144 : Draws := fun _ => .nil
noncomputable def L144 {R : Type} : Loops R := fun _ _ _ _ => none
noncomputable def slices_Clone_int (s0 : List (Int × Unit)) : Option ((List (Int × Unit)) × Unit) :=
  bif Nat.ble ((0 + (List.length s0)) * 8) lim then some ([] ++ s0, ())
  else none
noncomputable def x144 (x : (List (Int × Unit)) × Unit) : Option ((List (Int × Unit)) × Unit) := slices_Clone_int x.1
noncomputable def sem144 : Sem1 := semOf ps144 rs144 x144
theorem so144 : SemsOk Try.prog (semsOf sl144) := sems_nil
theorem t144_nn (x : denR (headRT (ps144.map some))) : codeK (tabOf tr) (semsOf sl144) D144 L144 code144 (startNn 8 ((.cons (.int .i64) .nil)) x.1 ps144 x) (finK rs144 ps144) = x144 x := by kernel_rfl
theorem t144_nil (z : Unit) : codeK (tabOf tr) (semsOf sl144) D144 L144 code144 (startNil 8 ps144 (([] : List (denR ((.cons (.int .i64) .nil)))), z)) (finK rs144 ps144) = x144 (([] : List (denR ((.cons (.int .i64) .nil)))), z) := by kernel_rfl
theorem k144 : Known Try.prog 144 sem144 :=
  fn_auto_nil tr_ok eq_ok mixed_ok so144 (D := D144) (code := code144) (n := 8) Try.func144 (by kernel_rfl) (by kernel_rfl) (by kernel_rfl) (fun w0 mu _ hs => (loops_of (l := []) (by kernel_rfl) (List.forall_mem_nil _))) t144_nil t144_nn

/-! ### f91: impl.copyToken -/
noncomputable def code91 : Code := match Try.f91.body with | some c => c | none => .skip
def ps91 : List AP := [.val true [.int .i64, .int .i64, .int .i64, .int .i64, .int .i64, .shr (.cons (.int .i64) .nil)]]
def rs91 : List RP := [{ src := .cell 2, agg := true, ps := [.int .i64, .int .i64, .int .i64, .int .i64, .int .i64, .own (.cons (.int .i64) .nil)] }]
noncomputable def sl91 : SemL := [(144, (.shr, .shr, .shr, sem144))]
def D91 : Draws := fun _ => .nil
noncomputable def L91 {R : Type} : Loops R := fun _ _ _ _ => none
noncomputable def impl_copyToken (t0c0 : Int) (t0c1 : Int) (t0c2 : Int) (t0c3 : Int) (t0c4 : Int) (t0c5 : List (Int × Unit)) : Option (Int × Int × Int × Int × Int × (List (Int × Unit)) × Unit) :=
  Option.bind (slices_Clone_int t0c5) fun y1 =>
  some (t0c0, t0c1, t0c2, t0c3, t0c4, y1.1, ())
noncomputable def x91 (x : Int × Int × Int × Int × Int × (List (Int × Unit)) × Unit) : Option (Int × Int × Int × Int × Int × (List (Int × Unit)) × Unit) := impl_copyToken x.1 x.2.1 x.2.2.1 x.2.2.2.1 x.2.2.2.2.1 x.2.2.2.2.2.1
noncomputable def sem91 : Sem1 := semOf ps91 rs91 x91
theorem so91 : SemsOk Try.prog (semsOf sl91) := sems_cons k144 (sems_nil)
theorem t91_eq (x : denR (headRT (ps91.map some))) : codeK (tabOf tr) (semsOf sl91) D91 L91 code91 (start 8 ps91 x) (finK rs91 ps91) = x91 x := by kernel_rfl
theorem k91 : Known Try.prog 91 sem91 :=
  fn_auto tr_ok eq_ok mixed_ok so91 (D := D91) (code := code91) (n := 8) Try.func91 (by kernel_rfl) (by kernel_rfl) (by kernel_rfl) (fun w0 mu _ hs => (loops_of (l := []) (by kernel_rfl) (List.forall_mem_nil _))) t91_eq

/-! ### f95: impl.inRange -/
noncomputable def code95 : Code := match Try.f95.body with | some c => c | none => .skip
def ps95 : List AP := [.val false [.int .i64], .val false [.int .i64], .val false [.int .i64]]
def rs95 : List RP := [{ src := .tmp 6, agg := false, ps := [.bool] }]
noncomputable def sl95 : SemL := []
def D95 : Draws := fun _ => .nil
noncomputable def L95 {R : Type} : Loops R := fun _ _ _ _ => none
noncomputable def impl_inRange (n0 : Int) (least1 : Int) (most2 : Int) : Option (Bool × Unit) :=
  bif decide (least1 ≤ n0) then
    some (decide (n0 ≤ most2), ())
  else
    some (false, ())
noncomputable def x95 (x : Int × Int × Int × Unit) : Option (Bool × Unit) := impl_inRange x.1 x.2.1 x.2.2.1
noncomputable def sem95 : Sem1 := semOf ps95 rs95 x95
theorem so95 : SemsOk Try.prog (semsOf sl95) := sems_nil
theorem t95_eq (x : denR (headRT (ps95.map some))) : codeK (tabOf tr) (semsOf sl95) D95 L95 code95 (start 15 ps95 x) (finK rs95 ps95) = x95 x := by kernel_rfl
theorem k95 : Known Try.prog 95 sem95 :=
  fn_auto tr_ok eq_ok mixed_ok so95 (D := D95) (code := code95) (n := 15) Try.func95 (by kernel_rfl) (by kernel_rfl) (by kernel_rfl) (fun w0 mu _ hs => (loops_of (l := []) (by kernel_rfl) (List.forall_mem_nil _))) t95_eq

/-! ### f92: impl.isDaemon -/
noncomputable def code92 : Code := match Try.f92.body with | some c => c | none => .skip
def ps92 : List AP := [.val false [.int .i64]]
def rs92 : List RP := [{ src := .tmp 2, agg := false, ps := [.bool] }]
noncomputable def sl92 : SemL := [(95, (.shr, .shr, .shr, sem95))]
def D92 : Draws := fun _ => .nil
noncomputable def L92 {R : Type} : Loops R := fun _ _ _ _ => none
noncomputable def impl_isDaemon (n0 : Int) : Option (Bool × Unit) :=
  Option.bind (impl_inRange n0 (1 : Int) (5 : Int)) fun y1 =>
  some (y1.1, ())
noncomputable def x92 (x : Int × Unit) : Option (Bool × Unit) := impl_isDaemon x.1
noncomputable def sem92 : Sem1 := semOf ps92 rs92 x92
theorem so92 : SemsOk Try.prog (semsOf sl92) := sems_cons k95 (sems_nil)
theorem t92_eq (x : denR (headRT (ps92.map some))) : codeK (tabOf tr) (semsOf sl92) D92 L92 code92 (start 5 ps92 x) (finK rs92 ps92) = x92 x := by kernel_rfl
theorem k92 : Known Try.prog 92 sem92 :=
  fn_auto tr_ok eq_ok mixed_ok so92 (D := D92) (code := code92) (n := 5) Try.func92 (by kernel_rfl) (by kernel_rfl) (by kernel_rfl) (fun w0 mu _ hs => (loops_of (l := []) (by kernel_rfl) (List.forall_mem_nil _))) t92_eq

/-! ### f21: impl.TokenOk -/
noncomputable def code21 : Code := match Try.f21.body with | some c => c | none => .skip
def ps21 : List AP := [.val true [.int .i64, .int .i64, .int .i64, .int .i64, .int .i64, .shr (.cons (.int .i64) .nil)]]
def rs21 : List RP := [{ src := .tmp 2, agg := false, ps := [.bool] }]
noncomputable def sl21 : SemL := [(95, (.shr, .shr, .shr, sem95))]
def D21 : Draws := fun _ => .nil
def hp21_0 : List (Option AP) := [none, some (.box false [.int .i64, .int .i64, .int .i64, .int .i64, .int .i64, .shr (.cons (.int .i64) .nil)]), none, none, none, none, none, none, none, none, none, none, none, none, none, none, none, none, none, none, none, none, some (.val false [.shr (.cons (.int .i64) .nil)]), some (.val false [.int .i64]), some (.val false [.int .i64]), none, none, none, none, none, none, none, none, none, none, none, none, none, none, none, none, none, none, none, none, none, none, none, none, none, none, none, none, none, none, none, none, none, none, none, none, none, none, none, none]
def e21_0 : List (Option AP) := [none, some (.box false [.int .i64, .int .i64, .int .i64, .int .i64, .int .i64, .shr (.cons (.int .i64) .nil)]), none, none, none, none, none, none, none, none, none, none, none, none, none, none, none, none, none, none, none, none, none, none, none, none, none, none, none, none, none, none, none, none, none, none, none, none, none, none, none, none, none, none, none, none, none, none, none, none, none, none, none, none, none, none, none, none, none, none, none, none, none, none, none]
def q21_0 : List (Option AP) := [none, none, some (.val false [.bool]), none, none, none, none, none, none, none, none, none, none, none, none, none, none, none, none, none, none, none, none, none, none, none, none, none, none, none, none, none, none, none, none, none, none, none, none, none, none, none, none, none, none, none, none, none, none, none, none, none, none, none, none, none, none, none, none, none, none, none, none, none, none]
abbrev H21_0 : Type := Int × Int × Int × Int × Int × (List (Int × Unit)) × (List (Int × Unit)) × Int × Int × Unit
abbrev E21_0 : Type := Int × Int × Int × Int × Int × (List (Int × Unit)) × Unit
abbrev Q21_0 : Type := Bool × Unit
noncomputable def impl_TokenOk_c0 (t1c0 : Int) (t1c1 : Int) (t1c2 : Int) (t1c3 : Int) (t1c4 : Int) (t1c5 : List (Int × Unit)) (t22 : List (Int × Unit)) (t23 : Int) (t24 : Int) : Option (Sum H21_0 (Sum E21_0 Q21_0)) :=
  bif decide (t24 < t23) then
    bif decide ((0 : Int) ≤ t24) then Option.bind ((t22)[Int.toNat t24]?) fun r4 =>
      Option.bind (impl_inRange r4.1 (1 : Int) t1c2) fun y5 =>
      bif !y5.1 then
        some (.inr (.inr (false, ())))
      else bif decide ((0 : Int) < t24) then
        bif decide ((0 : Int) ≤ IntKind.i64.wrap (t24 - (1 : Int))) then Option.bind ((t1c5)[Int.toNat (IntKind.i64.wrap (t24 - (1 : Int)))]?) fun r6 =>
          bif decide (r4.1 ≤ r6.1) then
            some (.inr (.inr (false, ())))
          else
            some (.inl (t1c0, t1c1, t1c2, t1c3, t1c4, t1c5, t22, t23, IntKind.i64.wrap (t24 + (1 : Int)), ()))
        else none
      else
        some (.inl (t1c0, t1c1, t1c2, t1c3, t1c4, t1c5, t22, t23, IntKind.i64.wrap (t24 + (1 : Int)), ()))
    else none
  else
    some (.inr (.inl (t1c0, t1c1, t1c2, t1c3, t1c4, t1c5, ())))
noncomputable def impl_TokenOk_r0 (x : H21_0) : Option (Sum H21_0 (Sum E21_0 Q21_0)) := impl_TokenOk_c0 x.1 x.2.1 x.2.2.1 x.2.2.2.1 x.2.2.2.2.1 x.2.2.2.2.2.1 x.2.2.2.2.2.2.1 x.2.2.2.2.2.2.2.1 x.2.2.2.2.2.2.2.2.1
noncomputable def L21 {R : Type} : Loops R := fun id _ st k => bif Nat.beq id 0 then loopAt hp21_0 e21_0 q21_0 impl_TokenOk_r0 st k else none
noncomputable def impl_TokenOk (t0c0 : Int) (t0c1 : Int) (t0c2 : Int) (t0c3 : Int) (t0c4 : Int) (t0c5 : List (Int × Unit)) : Option (Bool × Unit) :=
  Option.bind (impl_inRange t0c0 (1 : Int) (9 : Int)) fun y1 =>
  bif !y1.1 then
    some (false, ())
  else
    Option.bind (impl_inRange t0c1 (1 : Int) (1000000000 : Int)) fun y2 =>
    bif !y2.1 then
      some (false, ())
    else
      Option.bind (impl_inRange t0c2 (0 : Int) (60 : Int)) fun y3 =>
      bif !y3.1 then
        some (false, ())
      else
        outK (loopV impl_TokenOk_r0 (t0c0, t0c1, t0c2, t0c3, t0c4, t0c5, t0c5, ((List.length t0c5 : Nat) : Int), (0 : Int), ())) (fun y4 =>
          Option.bind (impl_inRange y4.2.2.2.1 (0 : Int) y4.2.2.1) fun y6 =>
          bif y6.1 then
            Option.bind (impl_inRange y4.2.2.2.2.1 (0 : Int) (5 : Int)) fun y7 =>
            bif y7.1 then
              some (decide (((List.length y4.2.2.2.2.2.1 : Nat) : Int) ≤ (20 : Int)), ())
            else
              some (false, ())
          else
            some (false, ())) (fun y5 =>
          some (y5.1, ()))
noncomputable def x21 (x : Int × Int × Int × Int × Int × (List (Int × Unit)) × Unit) : Option (Bool × Unit) := impl_TokenOk x.1 x.2.1 x.2.2.1 x.2.2.2.1 x.2.2.2.2.1 x.2.2.2.2.2.1
noncomputable def sem21 : Sem1 := semOf ps21 rs21 x21
theorem so21 : SemsOk Try.prog (semsOf sl21) := sems_cons k95 (sems_nil)
noncomputable def b21_0 : Code := nthLoop code21 0
theorem t21_r0_eq (x : denR (headRT hp21_0)) : codeK (tabOf tr) (semsOf sl21) D21 L21 b21_0 (headSt hp21_0 x) (roundK 0 hp21_0 e21_0 q21_0) = impl_TokenOk_r0 x := by kernel_rfl
theorem loop21_0 {R : Type} (r : R) (w0 : World) (mu : Mu) (hs : AnShape ps21 mu) : LoopAt Try.prog w0 mu 65 (L21 : Loops R) r 0 b21_0 :=
  loop_auto tr_ok eq_ok mixed_ok so21 (D := D21) hs (by kernel_rfl) (fun _ => (loops_of (l := []) (by kernel_rfl) (List.forall_mem_nil _))) t21_r0_eq (fun _ _ => rfl)
theorem t21_eq (x : denR (headRT (ps21.map some))) : codeK (tabOf tr) (semsOf sl21) D21 L21 code21 (start 65 ps21 x) (finK rs21 ps21) = x21 x := by kernel_rfl
theorem k21 : Known Try.prog 21 sem21 :=
  fn_auto tr_ok eq_ok mixed_ok so21 (D := D21) (code := code21) (n := 65) Try.func21 (by kernel_rfl) (by kernel_rfl) (by kernel_rfl) (fun w0 mu _ hs => (loops_of (l := [(0, b21_0)]) (by kernel_rfl) (List.forall_mem_cons.2 ⟨loop21_0 _ w0 mu hs, (List.forall_mem_nil _)⟩))) t21_eq

/-! ### f17: impl.Number -/
noncomputable def code17 : Code := match Try.f17.body with | some c => c | none => .skip
def ps17 : List AP := [.val true [.int .i64, .int .i64, .int .i64, .int .i64, .int .i64, .shr (.cons (.int .i64) .nil)], .val false [.int .i64], .val false [.shr (.cons (.int .i64) .nil)], .val false [.shr (.cons .str .nil)]]
def rs17 : List RP := [{ src := .cell 8, agg := true, ps := [.int .i64, .int .i64, .int .i64, .int .i64, .int .i64, .own (.cons (.int .i64) .nil)] }, { src := .tmp 9, agg := false, ps := [.own (.cons (.int .i64) (.cons (.int .i64) (.cons (.int .i64) (.cons .str .nil))))] }]
noncomputable def sl17 : SemL := [(91, (.shr, .shr, .shr, sem91)), (92, (.shr, .shr, .shr, sem92)), (21, (.shr, .shr, .shr, sem21))]
def D17 : Draws := fun _ => .nil
def hp17_0 : List (Option AP) := [none, some (.val false [.int .i64]), some (.val false [.shr (.cons (.int .i64) .nil)]), none, some (.box false [.int .i64, .int .i64, .int .i64, .int .i64, .int .i64, .shr (.cons (.int .i64) .nil)]), none, none, none, some (.box false [.int .i64, .int .i64, .int .i64, .int .i64, .int .i64, .own (.cons (.int .i64) .nil)]), none, some (.box false [.int .i64, .int .i64, .int .i64, .int .i64, .int .i64, .own (.cons (.int .i64) .nil)]), some (.val false [.own (.cons (.int .i64) (.cons (.int .i64) (.cons (.int .i64) (.cons .str .nil))))]), none, none, none, none, none, none, none, none, none, none, none, none, none, none, none, none, none, none, some (.val false [.shr (.cons .str .nil)]), some (.val false [.int .i64]), some (.val false [.int .i64]), none, none, none, none, none, none, none, none, none, none, none, none, none, none, none, none, none, none, none, none, none, none, none, none, none, none, none, none, none, none, none, none, none, none, none, none, none, none, none, none, none, none, none, none, none, none, none, none, none, none, none, none, none]
def e17_0 : List (Option AP) := [none, none, none, none, some (.box false [.int .i64, .int .i64, .int .i64, .int .i64, .int .i64, .shr (.cons (.int .i64) .nil)]), none, none, none, some (.box false [.int .i64, .int .i64, .int .i64, .int .i64, .int .i64, .own (.cons (.int .i64) .nil)]), none, some (.box false [.int .i64, .int .i64, .int .i64, .int .i64, .int .i64, .own (.cons (.int .i64) .nil)]), some (.val false [.own (.cons (.int .i64) (.cons (.int .i64) (.cons (.int .i64) (.cons .str .nil))))]), none, none, none, none, none, none, none, none, none, none, none, none, none, none, none, none, none, none, none, none, none, none, none, none, none, none, none, none, none, none, none, none, none, none, none, none, none, none, none, none, none, none, none, none, none, none, none, none, none, none, none, none, none, none, none, none, none, none, none, none, none, none, none, none, none, none, none, none, none, none, none, none, none, none]
def q17_0 : List (Option AP) := [none, none, none, none, none, none, none, none, none, none, none, none, none, none, none, none, none, none, none, none, none, none, none, none, none, none, none, none, none, none, none, none, none, none, none, none, none, none, none, none, none, none, none, none, none, none, none, none, none, none, none, none, none, none, none, none, none, none, none, none, none, none, none, none, none, none, none, none, none, none, none, none, none, none, none, none, none, none, none, none, none, none, none, none, none, none]
abbrev H17_0 : Type := Int × (List (Int × Unit)) × Int × Int × Int × Int × Int × (List (Int × Unit)) × Int × Int × Int × Int × Int × (List (Int × Unit)) × Int × Int × Int × Int × Int × (List (Int × Unit)) × (List (Int × Int × Int × ByteArray × Unit)) × (List (ByteArray × Unit)) × Int × Int × Unit
abbrev E17_0 : Type := Int × Int × Int × Int × Int × (List (Int × Unit)) × Int × Int × Int × Int × Int × (List (Int × Unit)) × Int × Int × Int × Int × Int × (List (Int × Unit)) × (List (Int × Int × Int × ByteArray × Unit)) × Unit
abbrev Q17_0 : Type := Unit
noncomputable def impl_Number_c0 (from_1 : Int) (level2 : List (Int × Unit)) (t4c0 : Int) (t4c1 : Int) (t4c2 : Int) (t4c3 : Int) (t4c4 : Int) (t4c5 : List (Int × Unit)) (t8c0 : Int) (t8c1 : Int) (t8c2 : Int) (t8c3 : Int) (t8c4 : Int) (t8c5 : List (Int × Unit)) (out10c0 : Int) (out10c1 : Int) (out10c2 : Int) (out10c3 : Int) (out10c4 : Int) (out10c5 : List (Int × Unit)) (items11 : List (Int × Int × Int × ByteArray × Unit)) (t30 : List (ByteArray × Unit)) (t31 : Int) (t32 : Int) : Option (Sum H17_0 (Sum E17_0 Q17_0)) :=
  bif decide (t32 < t31) then
    bif decide ((0 : Int) ≤ t32) then Option.bind ((t30)[Int.toNat t32]?) fun r4 =>
      bif decide ((60 : Int) ≤ out10c2) then
        some (.inr (.inl (t4c0, t4c1, t4c2, t4c3, t4c4, t4c5, t8c0, t8c1, t8c2, t8c3, t8c4, t8c5, out10c0, out10c1, out10c2, out10c3, out10c4, out10c5, items11, ())))
      else bif decide ((60 : Int) < ((ByteArray.size r4.1 : Nat) : Int)) then
        some (.inr (.inl (t4c0, t4c1, t4c2, t4c3, t4c4, t4c5, t8c0, t8c1, t8c2, t8c3, t8c4, t8c5, out10c0, out10c1, out10c2, out10c3, out10c4, out10c5, items11, ())))
      else bif decide (t32 < ((List.length level2 : Nat) : Int)) then
        bif decide ((0 : Int) ≤ t32) then Option.bind ((level2)[Int.toNat t32]?) fun r5 =>
          bif decide (r5.1 = (2 : Int)) then
            bif Nat.ble (((List.length items11) + 1) * 40) lim then some (.inl (from_1, level2, t4c0, t4c1, t4c2, t4c3, t4c4, t4c5, t8c0, t8c1, t8c2, t8c3, t8c4, t8c5, out10c0, out10c1, IntKind.i64.wrap (out10c2 + (1 : Int)), out10c3, out10c4, out10c5, items11 ++ [(IntKind.i64.wrap (out10c2 + (1 : Int)), from_1, (2 : Int), r4.1, ())], t30, t31, IntKind.i64.wrap (t32 + (1 : Int)), ()))
            else none
          else bif Nat.ble (((List.length items11) + 1) * 40) lim then some (.inl (from_1, level2, t4c0, t4c1, t4c2, t4c3, t4c4, t4c5, t8c0, t8c1, t8c2, t8c3, t8c4, t8c5, out10c0, out10c1, IntKind.i64.wrap (out10c2 + (1 : Int)), out10c3, out10c4, out10c5, items11 ++ [(IntKind.i64.wrap (out10c2 + (1 : Int)), from_1, (1 : Int), r4.1, ())], t30, t31, IntKind.i64.wrap (t32 + (1 : Int)), ()))
          else none
        else none
      else bif Nat.ble (((List.length items11) + 1) * 40) lim then some (.inl (from_1, level2, t4c0, t4c1, t4c2, t4c3, t4c4, t4c5, t8c0, t8c1, t8c2, t8c3, t8c4, t8c5, out10c0, out10c1, IntKind.i64.wrap (out10c2 + (1 : Int)), out10c3, out10c4, out10c5, items11 ++ [(IntKind.i64.wrap (out10c2 + (1 : Int)), from_1, (1 : Int), r4.1, ())], t30, t31, IntKind.i64.wrap (t32 + (1 : Int)), ()))
      else none
    else none
  else
    some (.inr (.inl (t4c0, t4c1, t4c2, t4c3, t4c4, t4c5, t8c0, t8c1, t8c2, t8c3, t8c4, t8c5, out10c0, out10c1, out10c2, out10c3, out10c4, out10c5, items11, ())))
noncomputable def impl_Number_r0 (x : H17_0) : Option (Sum H17_0 (Sum E17_0 Q17_0)) := impl_Number_c0 x.1 x.2.1 x.2.2.1 x.2.2.2.1 x.2.2.2.2.1 x.2.2.2.2.2.1 x.2.2.2.2.2.2.1 x.2.2.2.2.2.2.2.1 x.2.2.2.2.2.2.2.2.1 x.2.2.2.2.2.2.2.2.2.1 x.2.2.2.2.2.2.2.2.2.2.1 x.2.2.2.2.2.2.2.2.2.2.2.1 x.2.2.2.2.2.2.2.2.2.2.2.2.1 x.2.2.2.2.2.2.2.2.2.2.2.2.2.1 x.2.2.2.2.2.2.2.2.2.2.2.2.2.2.1 x.2.2.2.2.2.2.2.2.2.2.2.2.2.2.2.1 x.2.2.2.2.2.2.2.2.2.2.2.2.2.2.2.2.1 x.2.2.2.2.2.2.2.2.2.2.2.2.2.2.2.2.2.1 x.2.2.2.2.2.2.2.2.2.2.2.2.2.2.2.2.2.2.1 x.2.2.2.2.2.2.2.2.2.2.2.2.2.2.2.2.2.2.2.1 x.2.2.2.2.2.2.2.2.2.2.2.2.2.2.2.2.2.2.2.2.1 x.2.2.2.2.2.2.2.2.2.2.2.2.2.2.2.2.2.2.2.2.2.1 x.2.2.2.2.2.2.2.2.2.2.2.2.2.2.2.2.2.2.2.2.2.2.1 x.2.2.2.2.2.2.2.2.2.2.2.2.2.2.2.2.2.2.2.2.2.2.2.1
noncomputable def L17 {R : Type} : Loops R := fun id _ st k => bif Nat.beq id 0 then loopAt hp17_0 e17_0 q17_0 impl_Number_r0 st k else none
noncomputable def impl_Number (t0c0 : Int) (t0c1 : Int) (t0c2 : Int) (t0c3 : Int) (t0c4 : Int) (t0c5 : List (Int × Unit)) (from_1 : Int) (level2 : List (Int × Unit)) (texts3 : List (ByteArray × Unit)) : Option (Int × Int × Int × Int × Int × (List (Int × Unit)) × (List (Int × Int × Int × ByteArray × Unit)) × Unit) :=
  Option.bind (impl_copyToken t0c0 t0c1 t0c2 t0c3 t0c4 t0c5) fun y1 =>
  Option.bind (impl_isDaemon from_1) fun y2 =>
  bif !y2.1 then
    some (y1.1, y1.2.1, y1.2.2.1, y1.2.2.2.1, y1.2.2.2.2.1, y1.2.2.2.2.2.1, [], ())
  else
    Option.bind (impl_TokenOk t0c0 t0c1 t0c2 t0c3 t0c4 t0c5) fun y3 =>
    bif !y3.1 then
      some (y1.1, y1.2.1, y1.2.2.1, y1.2.2.2.1, y1.2.2.2.2.1, y1.2.2.2.2.2.1, [], ())
    else bif decide ((0 : Int) ≤ (if (3 : Int) < ((List.length texts3 : Nat) : Int) then (3 : Int) else ((List.length texts3 : Nat) : Int))) then bif decide ((if (3 : Int) < ((List.length texts3 : Nat) : Int) then (3 : Int) else ((List.length texts3 : Nat) : Int)) ≤ ((List.length texts3 : Nat) : Int)) then outK (loopV impl_Number_r0 (from_1, level2, t0c0, t0c1, t0c2, t0c3, t0c4, t0c5, (0 : Int), (0 : Int), (0 : Int), (0 : Int), (0 : Int), [], y1.1, y1.2.1, y1.2.2.1, y1.2.2.2.1, y1.2.2.2.2.1, y1.2.2.2.2.2.1, [], List.take (Int.toNat (if (3 : Int) < ((List.length texts3 : Nat) : Int) then (3 : Int) else ((List.length texts3 : Nat) : Int))) (List.drop 0 texts3), ((List.length (List.take (Int.toNat (if (3 : Int) < ((List.length texts3 : Nat) : Int) then (3 : Int) else ((List.length texts3 : Nat) : Int))) (List.drop 0 texts3)) : Nat) : Int), (0 : Int), ())) (fun y4 =>
          bif decide (y4.2.2.2.1 = y4.2.2.1) then
            bif decide (y4.2.2.2.2.1 = (0 : Int)) then
              some (y4.2.2.2.2.2.2.2.2.2.2.2.2.1, y4.2.2.2.2.2.2.2.2.2.2.2.2.2.1, y4.2.2.2.2.2.2.2.2.2.2.2.2.2.2.1, y4.2.2.2.2.2.2.2.2.2.2.2.2.2.2.1, y4.2.2.2.2.2.2.2.2.2.2.2.2.2.2.2.2.1, y4.2.2.2.2.2.2.2.2.2.2.2.2.2.2.2.2.2.1, y4.2.2.2.2.2.2.2.2.2.2.2.2.2.2.2.2.2.2.1, ())
            else
              some (y4.2.2.2.2.2.2.2.2.2.2.2.2.1, y4.2.2.2.2.2.2.2.2.2.2.2.2.2.1, y4.2.2.2.2.2.2.2.2.2.2.2.2.2.2.1, y4.2.2.2.2.2.2.2.2.2.2.2.2.2.2.2.1, y4.2.2.2.2.2.2.2.2.2.2.2.2.2.2.2.2.1, y4.2.2.2.2.2.2.2.2.2.2.2.2.2.2.2.2.2.1, y4.2.2.2.2.2.2.2.2.2.2.2.2.2.2.2.2.2.2.1, ())
          else
            some (y4.2.2.2.2.2.2.2.2.2.2.2.2.1, y4.2.2.2.2.2.2.2.2.2.2.2.2.2.1, y4.2.2.2.2.2.2.2.2.2.2.2.2.2.2.1, y4.2.2.2.2.2.2.2.2.2.2.2.2.2.2.2.1, y4.2.2.2.2.2.2.2.2.2.2.2.2.2.2.2.2.1, y4.2.2.2.2.2.2.2.2.2.2.2.2.2.2.2.2.2.1, y4.2.2.2.2.2.2.2.2.2.2.2.2.2.2.2.2.2.2.1, ())) (fun y5 =>
          none)
      else none
    else none
noncomputable def x17 (x : Int × Int × Int × Int × Int × (List (Int × Unit)) × Int × (List (Int × Unit)) × (List (ByteArray × Unit)) × Unit) : Option (Int × Int × Int × Int × Int × (List (Int × Unit)) × (List (Int × Int × Int × ByteArray × Unit)) × Unit) := impl_Number x.1 x.2.1 x.2.2.1 x.2.2.2.1 x.2.2.2.2.1 x.2.2.2.2.2.1 x.2.2.2.2.2.2.1 x.2.2.2.2.2.2.2.1 x.2.2.2.2.2.2.2.2.1
noncomputable def sem17 : Sem1 := semOf ps17 rs17 x17
theorem so17 : SemsOk Try.prog (semsOf sl17) := sems_cons k91 (sems_cons k92 (sems_cons k21 (sems_nil)))
noncomputable def b17_0 : Code := nthLoop code17 0
theorem t17_r0_eq (x : denR (headRT hp17_0)) : codeK (tabOf tr) (semsOf sl17) D17 L17 b17_0 (headSt hp17_0 x) (roundK 0 hp17_0 e17_0 q17_0) = impl_Number_r0 x := by kernel_rfl
theorem loop17_0 {R : Type} (r : R) (w0 : World) (mu : Mu) (hs : AnShape ps17 mu) : LoopAt Try.prog w0 mu 86 (L17 : Loops R) r 0 b17_0 :=
  loop_auto tr_ok eq_ok mixed_ok so17 (D := D17) hs (by kernel_rfl) (fun _ => (loops_of (l := []) (by kernel_rfl) (List.forall_mem_nil _))) t17_r0_eq (fun _ _ => rfl)
theorem t17_eq (x : denR (headRT (ps17.map some))) : codeK (tabOf tr) (semsOf sl17) D17 L17 code17 (start 86 ps17 x) (finK rs17 ps17) = x17 x := by kernel_rfl
theorem k17 : Known Try.prog 17 sem17 :=
  fn_auto tr_ok eq_ok mixed_ok so17 (D := D17) (code := code17) (n := 86) Try.func17 (by kernel_rfl) (by kernel_rfl) (by kernel_rfl) (fun w0 mu _ hs => (loops_of (l := [(0, b17_0)]) (by kernel_rfl) (List.forall_mem_cons.2 ⟨loop17_0 _ w0 mu hs, (List.forall_mem_nil _)⟩))) t17_eq

/-! ### f93: spec.l05CopyToken -/
noncomputable def code93 : Code := match Try.f93.body with | some c => c | none => .skip
def ps93 : List AP := [.val true [.int .i64, .int .i64, .int .i64, .int .i64, .int .i64, .shr (.cons (.int .i64) .nil)]]
def rs93 : List RP := [{ src := .cell 2, agg := true, ps := [.int .i64, .int .i64, .int .i64, .int .i64, .int .i64, .own (.cons (.int .i64) .nil)] }]
noncomputable def sl93 : SemL := []
def D93 : Draws := fun _ => .nil
noncomputable def L93 {R : Type} : Loops R := fun _ _ _ _ => none
noncomputable def spec_l05CopyToken (t0c0 : Int) (t0c1 : Int) (t0c2 : Int) (t0c3 : Int) (t0c4 : Int) (t0c5 : List (Int × Unit)) : Option (Int × Int × Int × Int × Int × (List (Int × Unit)) × Unit) :=
  bif Nat.ble ((0 + (List.length t0c5)) * 8) lim then some (t0c0, t0c1, t0c2, t0c3, t0c4, [] ++ t0c5, ())
  else none
noncomputable def x93 (x : Int × Int × Int × Int × Int × (List (Int × Unit)) × Unit) : Option (Int × Int × Int × Int × Int × (List (Int × Unit)) × Unit) := spec_l05CopyToken x.1 x.2.1 x.2.2.1 x.2.2.2.1 x.2.2.2.2.1 x.2.2.2.2.2.1
noncomputable def sem93 : Sem1 := semOf ps93 rs93 x93
theorem so93 : SemsOk Try.prog (semsOf sl93) := sems_nil
theorem t93_eq (x : denR (headRT (ps93.map some))) : codeK (tabOf tr) (semsOf sl93) D93 L93 code93 (start 9 ps93 x) (finK rs93 ps93) = x93 x := by kernel_rfl
theorem k93 : Known Try.prog 93 sem93 :=
  fn_auto tr_ok eq_ok mixed_ok so93 (D := D93) (code := code93) (n := 9) Try.func93 (by kernel_rfl) (by kernel_rfl) (by kernel_rfl) (fun w0 mu _ hs => (loops_of (l := []) (by kernel_rfl) (List.forall_mem_nil _))) t93_eq

/-! ### f94: spec.l01In -/
noncomputable def code94 : Code := match Try.f94.body with | some c => c | none => .skip
def ps94 : List AP := [.val false [.int .i64], .val false [.int .i64], .val false [.int .i64]]
def rs94 : List RP := [{ src := .tmp 6, agg := false, ps := [.bool] }]
noncomputable def sl94 : SemL := []
def D94 : Draws := fun _ => .nil
noncomputable def L94 {R : Type} : Loops R := fun _ _ _ _ => none
noncomputable def spec_l01In (x0 : Int) (least1 : Int) (most2 : Int) : Option (Bool × Unit) :=
  bif decide (least1 ≤ x0) then
    some (decide (x0 ≤ most2), ())
  else
    some (false, ())
noncomputable def x94 (x : Int × Int × Int × Unit) : Option (Bool × Unit) := spec_l01In x.1 x.2.1 x.2.2.1
noncomputable def sem94 : Sem1 := semOf ps94 rs94 x94
theorem so94 : SemsOk Try.prog (semsOf sl94) := sems_nil
theorem t94_eq (x : denR (headRT (ps94.map some))) : codeK (tabOf tr) (semsOf sl94) D94 L94 code94 (start 15 ps94 x) (finK rs94 ps94) = x94 x := by kernel_rfl
theorem k94 : Known Try.prog 94 sem94 :=
  fn_auto tr_ok eq_ok mixed_ok so94 (D := D94) (code := code94) (n := 15) Try.func94 (by kernel_rfl) (by kernel_rfl) (by kernel_rfl) (fun w0 mu _ hs => (loops_of (l := []) (by kernel_rfl) (List.forall_mem_nil _))) t94_eq

/-! ### f20: spec.TokenOk -/
noncomputable def code20 : Code := match Try.f20.body with | some c => c | none => .skip
def ps20 : List AP := [.val true [.int .i64, .int .i64, .int .i64, .int .i64, .int .i64, .shr (.cons (.int .i64) .nil)]]
def rs20 : List RP := [{ src := .tmp 2, agg := false, ps := [.bool] }]
noncomputable def sl20 : SemL := [(94, (.shr, .shr, .shr, sem94))]
def D20 : Draws := fun id => bif Nat.beq id 6 then .op 0 .any (.op 1 .take (.op 2 .any (.op 3 .any (.op 4 .take (.op 5 .any (.op 6 .take (.op 7 .one (.op 8 .any (.op 9 .any (.op 10 .any (.op 11 .any (.op 12 .any (.op 13 .any (.op 14 .take (.op 15 .any (.op 16 .any (.op 17 .any (.op 18 .take (.op 19 .any (.op 20 .take (.op 21 .any (.op 22 .any (.op 23 .take (.op 24 .any (.op 25 .any (.op 26 .any (.nil))))))))))))))))))))))))))) else .nil
def hp20_0 : List (Option AP) := [none, some (.box false [.int .i64, .int .i64, .int .i64, .int .i64, .int .i64, .shr (.cons (.int .i64) .nil)]), none, some (.val false [.int .i64]), none, none, none, none, none, none, none, none, none, none, none, none, none, none, none, none, none, none, none, none, none, none, none, none, none, none, none, none, none, none, none, none, none, none, none, none, none, none, none, none, none, none, none, none, none, none, none, none, none, none, none, none, none, none, none, none, none, none, none, none, none, none, none, none, none, none, none, none, none, none]
def e20_0 : List (Option AP) := [none, none, none, none, none, none, none, none, none, none, none, none, none, none, none, none, none, none, none, none, none, none, none, none, none, none, none, none, none, none, none, none, none, none, none, none, none, none, none, none, none, none, none, none, none, none, none, none, none, none, none, none, none, none, none, none, none, none, none, none, none, none, none, none, none, none, none, none, none, none, none, none, none, none]
def q20_0 : List (Option AP) := [none, none, some (.val false [.bool]), none, none, none, none, none, none, none, none, none, none, none, none, none, none, none, none, none, none, none, none, none, none, none, none, none, none, none, none, none, none, none, none, none, none, none, none, none, none, none, none, none, none, none, none, none, none, none, none, none, none, none, none, none, none, none, none, none, none, none, none, none, none, none, none, none, none, none, none, none, none, none]
abbrev H20_0 : Type := Int × Int × Int × Int × Int × (List (Int × Unit)) × Int × Unit
abbrev E20_0 : Type := Unit
abbrev Q20_0 : Type := Bool × Unit
noncomputable def spec_TokenOk_c0 (t1c0 : Int) (t1c1 : Int) (t1c2 : Int) (t1c3 : Int) (t1c4 : Int) (t1c5 : List (Int × Unit)) (i3 : Int) : Option (Sum H20_0 (Sum E20_0 Q20_0)) :=
  bif decide (i3 < ((List.length t1c5 : Nat) : Int)) then
    bif decide ((0 : Int) ≤ i3) then Option.bind ((t1c5)[Int.toNat i3]?) fun r6 =>
      Option.bind (spec_l01In r6.1 (1 : Int) t1c2) fun y7 =>
      bif !y7.1 then
        some (.inr (.inr (false, ())))
      else bif decide ((0 : Int) < i3) then
        bif decide ((0 : Int) ≤ IntKind.i64.wrap (i3 - (1 : Int))) then Option.bind ((t1c5)[Int.toNat (IntKind.i64.wrap (i3 - (1 : Int)))]?) fun r8 =>
          bif decide ((0 : Int) ≤ i3) then Option.bind ((t1c5)[Int.toNat i3]?) fun r9 =>
            bif decide (r9.1 ≤ r8.1) then
              some (.inr (.inr (false, ())))
            else
              some (.inl (t1c0, t1c1, t1c2, t1c3, t1c4, t1c5, IntKind.i64.wrap (i3 + (1 : Int)), ()))
          else none
        else none
      else
        some (.inl (t1c0, t1c1, t1c2, t1c3, t1c4, t1c5, IntKind.i64.wrap (i3 + (1 : Int)), ()))
    else none
  else
    some (.inr (.inl (())))
noncomputable def spec_TokenOk_r0 (x : H20_0) : Option (Sum H20_0 (Sum E20_0 Q20_0)) := spec_TokenOk_c0 x.1 x.2.1 x.2.2.1 x.2.2.2.1 x.2.2.2.2.1 x.2.2.2.2.2.1 x.2.2.2.2.2.2.1
noncomputable def L20 {R : Type} : Loops R := fun id _ st k => bif Nat.beq id 0 then loopAt hp20_0 e20_0 q20_0 spec_TokenOk_r0 st k else none
noncomputable def spec_TokenOk (t0c0 : Int) (t0c1 : Int) (t0c2 : Int) (t0c3 : Int) (t0c4 : Int) (t0c5 : List (Int × Unit)) : Option (Bool × Unit) :=
  Option.bind (spec_l01In t0c0 (1 : Int) (9 : Int)) fun y1 =>
  bif !y1.1 then
    some (false, ())
  else
    Option.bind (spec_l01In t0c1 (1 : Int) (1000000000 : Int)) fun y2 =>
    bif !y2.1 then
      some (false, ())
    else
      Option.bind (spec_l01In t0c2 (0 : Int) (60 : Int)) fun y3 =>
      bif !y3.1 then
        some (false, ())
      else
        Option.bind (spec_l01In t0c3 (0 : Int) t0c2) fun y4 =>
        bif !y4.1 then
          some (false, ())
        else
          Option.bind (spec_l01In t0c4 (0 : Int) (5 : Int)) fun y5 =>
          bif !y5.1 then
            some (false, ())
          else bif decide ((20 : Int) < ((List.length t0c5 : Nat) : Int)) then
            some (false, ())
          else
            outK (loopV spec_TokenOk_r0 (t0c0, t0c1, t0c2, t0c3, t0c4, t0c5, (0 : Int), ())) (fun y6 =>
              some (true, ())) (fun y7 =>
              some (y7.1, ()))
noncomputable def x20 (x : Int × Int × Int × Int × Int × (List (Int × Unit)) × Unit) : Option (Bool × Unit) := spec_TokenOk x.1 x.2.1 x.2.2.1 x.2.2.2.1 x.2.2.2.2.1 x.2.2.2.2.2.1
noncomputable def sem20 : Sem1 := semOf ps20 rs20 x20
theorem so20 : SemsOk Try.prog (semsOf sl20) := sems_cons k94 (sems_nil)
noncomputable def b20_0 : Code := nthLoop code20 0
theorem t20_r0_eq (x : denR (headRT hp20_0)) : codeK (tabOf tr) (semsOf sl20) D20 L20 b20_0 (headSt hp20_0 x) (roundK 0 hp20_0 e20_0 q20_0) = spec_TokenOk_r0 x := by kernel_rfl
theorem loop20_0 {R : Type} (r : R) (w0 : World) (mu : Mu) (hs : AnShape ps20 mu) : LoopAt Try.prog w0 mu 74 (L20 : Loops R) r 0 b20_0 :=
  loop_auto tr_ok eq_ok mixed_ok so20 (D := D20) hs (by kernel_rfl) (fun _ => (loops_of (l := []) (by kernel_rfl) (List.forall_mem_nil _))) t20_r0_eq (fun _ _ => rfl)
theorem t20_eq (x : denR (headRT (ps20.map some))) : codeK (tabOf tr) (semsOf sl20) D20 L20 code20 (start 74 ps20 x) (finK rs20 ps20) = x20 x := by kernel_rfl
theorem k20 : Known Try.prog 20 sem20 :=
  fn_auto tr_ok eq_ok mixed_ok so20 (D := D20) (code := code20) (n := 74) Try.func20 (by kernel_rfl) (by kernel_rfl) (by kernel_rfl) (fun w0 mu _ hs => (loops_of (l := [(0, b20_0)]) (by kernel_rfl) (List.forall_mem_cons.2 ⟨loop20_0 _ w0 mu hs, (List.forall_mem_nil _)⟩))) t20_eq

/-! ### f18: spec.Number -/
noncomputable def code18 : Code := match Try.f18.body with | some c => c | none => .skip
def ps18 : List AP := [.val true [.int .i64, .int .i64, .int .i64, .int .i64, .int .i64, .shr (.cons (.int .i64) .nil)], .val false [.int .i64], .val false [.shr (.cons (.int .i64) .nil)], .val false [.shr (.cons .str .nil)]]
def rs18 : List RP := [{ src := .cell 8, agg := true, ps := [.int .i64, .int .i64, .int .i64, .int .i64, .int .i64, .own (.cons (.int .i64) .nil)] }, { src := .tmp 9, agg := false, ps := [.own (.cons (.int .i64) (.cons (.int .i64) (.cons (.int .i64) (.cons .str .nil))))] }]
noncomputable def sl18 : SemL := [(93, (.shr, .shr, .shr, sem93)), (20, (.shr, .shr, .shr, sem20)), (94, (.shr, .shr, .shr, sem94))]
def D18 : Draws := fun id => bif Nat.beq id 9 then .op 0 .any (.op 1 .take (.op 2 .any (.op 3 .any (.op 4 .any (.op 5 .any (.op 6 .take (.op 7 .any (.op 8 .one (.op 9 .last (.nil)))))))))) else .nil
def hp18_0 : List (Option AP) := [none, some (.val false [.int .i64]), some (.val false [.shr (.cons (.int .i64) .nil)]), some (.val false [.shr (.cons .str .nil)]), some (.box false [.int .i64, .int .i64, .int .i64, .int .i64, .int .i64, .shr (.cons (.int .i64) .nil)]), none, none, none, some (.box false [.int .i64, .int .i64, .int .i64, .int .i64, .int .i64, .own (.cons (.int .i64) .nil)]), none, some (.box false [.int .i64, .int .i64, .int .i64, .int .i64, .int .i64, .own (.cons (.int .i64) .nil)]), some (.val false [.own (.cons (.int .i64) (.cons (.int .i64) (.cons (.int .i64) (.cons .str .nil))))]), some (.val false [.int .i64]), none, none, none, none, none, none, none, none, none, none, none, none, none, none, none, none, none, none, none, none, none, none, none, none, none, none, none, none, none, none, none, none, none, none, none, none, none, none, none, none, none, none, none, none, none, none, none, none, none, none, none, none, none, none, none, none, none, none, none, none, none, none, none, none, none, none, none, none, none, none, none, none, none, none, none, none, none, none, none, none]
def e18_0 : List (Option AP) := [none, none, none, none, some (.box false [.int .i64, .int .i64, .int .i64, .int .i64, .int .i64, .shr (.cons (.int .i64) .nil)]), none, none, none, some (.box false [.int .i64, .int .i64, .int .i64, .int .i64, .int .i64, .own (.cons (.int .i64) .nil)]), none, some (.box false [.int .i64, .int .i64, .int .i64, .int .i64, .int .i64, .own (.cons (.int .i64) .nil)]), some (.val false [.own (.cons (.int .i64) (.cons (.int .i64) (.cons (.int .i64) (.cons .str .nil))))]), none, none, none, none, none, none, none, none, none, none, none, none, none, none, none, none, none, none, none, none, none, none, none, none, none, none, none, none, none, none, none, none, none, none, none, none, none, none, none, none, none, none, none, none, none, none, none, none, none, none, none, none, none, none, none, none, none, none, none, none, none, none, none, none, none, none, none, none, none, none, none, none, none, none, none, none, none, none, none, none, none]
def q18_0 : List (Option AP) := [none, none, none, none, none, none, none, none, none, none, none, none, none, none, none, none, none, none, none, none, none, none, none, none, none, none, none, none, none, none, none, none, none, none, none, none, none, none, none, none, none, none, none, none, none, none, none, none, none, none, none, none, none, none, none, none, none, none, none, none, none, none, none, none, none, none, none, none, none, none, none, none, none, none, none, none, none, none, none, none, none, none, none, none, none, none, none, none, none, none, none, none, none]
abbrev H18_0 : Type := Int × (List (Int × Unit)) × (List (ByteArray × Unit)) × Int × Int × Int × Int × Int × (List (Int × Unit)) × Int × Int × Int × Int × Int × (List (Int × Unit)) × Int × Int × Int × Int × Int × (List (Int × Unit)) × (List (Int × Int × Int × ByteArray × Unit)) × Int × Unit
abbrev E18_0 : Type := Int × Int × Int × Int × Int × (List (Int × Unit)) × Int × Int × Int × Int × Int × (List (Int × Unit)) × Int × Int × Int × Int × Int × (List (Int × Unit)) × (List (Int × Int × Int × ByteArray × Unit)) × Unit
abbrev Q18_0 : Type := Unit
noncomputable def spec_Number_c0 (from_1 : Int) (level2 : List (Int × Unit)) (texts3 : List (ByteArray × Unit)) (t4c0 : Int) (t4c1 : Int) (t4c2 : Int) (t4c3 : Int) (t4c4 : Int) (t4c5 : List (Int × Unit)) (t8c0 : Int) (t8c1 : Int) (t8c2 : Int) (t8c3 : Int) (t8c4 : Int) (t8c5 : List (Int × Unit)) (out10c0 : Int) (out10c1 : Int) (out10c2 : Int) (out10c3 : Int) (out10c4 : Int) (out10c5 : List (Int × Unit)) (list11 : List (Int × Int × Int × ByteArray × Unit)) (i12 : Int) : Option (Sum H18_0 (Sum E18_0 Q18_0)) :=
  bif decide (i12 < ((List.length texts3 : Nat) : Int)) then
    bif decide (i12 < (3 : Int)) then
      bif decide (out10c2 < (60 : Int)) then
        bif decide ((0 : Int) ≤ i12) then Option.bind ((texts3)[Int.toNat i12]?) fun r4 =>
          bif decide (((ByteArray.size r4.1 : Nat) : Int) ≤ (60 : Int)) then
            bif decide ((0 : Int) ≤ i12) then Option.bind ((texts3)[Int.toNat i12]?) fun r5 =>
              bif decide (i12 < ((List.length level2 : Nat) : Int)) then
                bif decide ((0 : Int) ≤ i12) then Option.bind ((level2)[Int.toNat i12]?) fun r6 =>
                  bif decide (r6.1 = (2 : Int)) then
                    bif Nat.ble (((List.length list11) + 1) * 40) lim then some (.inl (from_1, level2, texts3, t4c0, t4c1, t4c2, t4c3, t4c4, t4c5, t8c0, t8c1, t8c2, t8c3, t8c4, t8c5, out10c0, out10c1, IntKind.i64.wrap (out10c2 + (1 : Int)), out10c3, out10c4, out10c5, list11 ++ [(IntKind.i64.wrap (out10c2 + (1 : Int)), from_1, (2 : Int), r5.1, ())], IntKind.i64.wrap (i12 + (1 : Int)), ()))
                    else none
                  else bif Nat.ble (((List.length list11) + 1) * 40) lim then some (.inl (from_1, level2, texts3, t4c0, t4c1, t4c2, t4c3, t4c4, t4c5, t8c0, t8c1, t8c2, t8c3, t8c4, t8c5, out10c0, out10c1, IntKind.i64.wrap (out10c2 + (1 : Int)), out10c3, out10c4, out10c5, list11 ++ [(IntKind.i64.wrap (out10c2 + (1 : Int)), from_1, (1 : Int), r5.1, ())], IntKind.i64.wrap (i12 + (1 : Int)), ()))
                  else none
                else none
              else bif Nat.ble (((List.length list11) + 1) * 40) lim then some (.inl (from_1, level2, texts3, t4c0, t4c1, t4c2, t4c3, t4c4, t4c5, t8c0, t8c1, t8c2, t8c3, t8c4, t8c5, out10c0, out10c1, IntKind.i64.wrap (out10c2 + (1 : Int)), out10c3, out10c4, out10c5, list11 ++ [(IntKind.i64.wrap (out10c2 + (1 : Int)), from_1, (1 : Int), r5.1, ())], IntKind.i64.wrap (i12 + (1 : Int)), ()))
              else none
            else none
          else
            some (.inr (.inl (t4c0, t4c1, t4c2, t4c3, t4c4, t4c5, t8c0, t8c1, t8c2, t8c3, t8c4, t8c5, out10c0, out10c1, out10c2, out10c3, out10c4, out10c5, list11, ())))
        else none
      else
        some (.inr (.inl (t4c0, t4c1, t4c2, t4c3, t4c4, t4c5, t8c0, t8c1, t8c2, t8c3, t8c4, t8c5, out10c0, out10c1, out10c2, out10c3, out10c4, out10c5, list11, ())))
    else
      some (.inr (.inl (t4c0, t4c1, t4c2, t4c3, t4c4, t4c5, t8c0, t8c1, t8c2, t8c3, t8c4, t8c5, out10c0, out10c1, out10c2, out10c3, out10c4, out10c5, list11, ())))
  else
    some (.inr (.inl (t4c0, t4c1, t4c2, t4c3, t4c4, t4c5, t8c0, t8c1, t8c2, t8c3, t8c4, t8c5, out10c0, out10c1, out10c2, out10c3, out10c4, out10c5, list11, ())))
noncomputable def spec_Number_r0 (x : H18_0) : Option (Sum H18_0 (Sum E18_0 Q18_0)) := spec_Number_c0 x.1 x.2.1 x.2.2.1 x.2.2.2.1 x.2.2.2.2.1 x.2.2.2.2.2.1 x.2.2.2.2.2.2.1 x.2.2.2.2.2.2.2.1 x.2.2.2.2.2.2.2.2.1 x.2.2.2.2.2.2.2.2.2.1 x.2.2.2.2.2.2.2.2.2.2.1 x.2.2.2.2.2.2.2.2.2.2.2.1 x.2.2.2.2.2.2.2.2.2.2.2.2.1 x.2.2.2.2.2.2.2.2.2.2.2.2.2.1 x.2.2.2.2.2.2.2.2.2.2.2.2.2.2.1 x.2.2.2.2.2.2.2.2.2.2.2.2.2.2.2.1 x.2.2.2.2.2.2.2.2.2.2.2.2.2.2.2.2.1 x.2.2.2.2.2.2.2.2.2.2.2.2.2.2.2.2.2.1 x.2.2.2.2.2.2.2.2.2.2.2.2.2.2.2.2.2.2.1 x.2.2.2.2.2.2.2.2.2.2.2.2.2.2.2.2.2.2.2.1 x.2.2.2.2.2.2.2.2.2.2.2.2.2.2.2.2.2.2.2.2.1 x.2.2.2.2.2.2.2.2.2.2.2.2.2.2.2.2.2.2.2.2.2.1 x.2.2.2.2.2.2.2.2.2.2.2.2.2.2.2.2.2.2.2.2.2.2.1
noncomputable def L18 {R : Type} : Loops R := fun id _ st k => bif Nat.beq id 0 then loopAt hp18_0 e18_0 q18_0 spec_Number_r0 st k else none
noncomputable def spec_Number (t0c0 : Int) (t0c1 : Int) (t0c2 : Int) (t0c3 : Int) (t0c4 : Int) (t0c5 : List (Int × Unit)) (from_1 : Int) (level2 : List (Int × Unit)) (texts3 : List (ByteArray × Unit)) : Option (Int × Int × Int × Int × Int × (List (Int × Unit)) × (List (Int × Int × Int × ByteArray × Unit)) × Unit) :=
  Option.bind (spec_l05CopyToken t0c0 t0c1 t0c2 t0c3 t0c4 t0c5) fun y1 =>
  Option.bind (spec_TokenOk t0c0 t0c1 t0c2 t0c3 t0c4 t0c5) fun y2 =>
  bif !y2.1 then
    some (y1.1, y1.2.1, y1.2.2.1, y1.2.2.2.1, y1.2.2.2.2.1, y1.2.2.2.2.2.1, [], ())
  else
    Option.bind (spec_l01In from_1 (1 : Int) (5 : Int)) fun y3 =>
    bif !y3.1 then
      some (y1.1, y1.2.1, y1.2.2.1, y1.2.2.2.1, y1.2.2.2.2.1, y1.2.2.2.2.2.1, [], ())
    else
      outK (loopV spec_Number_r0 (from_1, level2, texts3, t0c0, t0c1, t0c2, t0c3, t0c4, t0c5, (0 : Int), (0 : Int), (0 : Int), (0 : Int), (0 : Int), [], y1.1, y1.2.1, y1.2.2.1, y1.2.2.2.1, y1.2.2.2.2.1, y1.2.2.2.2.2.1, [], (0 : Int), ())) (fun y4 =>
        bif decide (y4.2.2.2.1 = y4.2.2.1) then
          bif decide (y4.2.2.2.2.1 = (0 : Int)) then
            some (y4.2.2.2.2.2.2.2.2.2.2.2.2.1, y4.2.2.2.2.2.2.2.2.2.2.2.2.2.1, y4.2.2.2.2.2.2.2.2.2.2.2.2.2.2.1, y4.2.2.2.2.2.2.2.2.2.2.2.2.2.2.1, y4.2.2.2.2.2.2.2.2.2.2.2.2.2.2.2.2.1, y4.2.2.2.2.2.2.2.2.2.2.2.2.2.2.2.2.2.1, y4.2.2.2.2.2.2.2.2.2.2.2.2.2.2.2.2.2.2.1, ())
          else
            some (y4.2.2.2.2.2.2.2.2.2.2.2.2.1, y4.2.2.2.2.2.2.2.2.2.2.2.2.2.1, y4.2.2.2.2.2.2.2.2.2.2.2.2.2.2.1, y4.2.2.2.2.2.2.2.2.2.2.2.2.2.2.2.1, y4.2.2.2.2.2.2.2.2.2.2.2.2.2.2.2.2.1, y4.2.2.2.2.2.2.2.2.2.2.2.2.2.2.2.2.2.1, y4.2.2.2.2.2.2.2.2.2.2.2.2.2.2.2.2.2.2.1, ())
        else
          some (y4.2.2.2.2.2.2.2.2.2.2.2.2.1, y4.2.2.2.2.2.2.2.2.2.2.2.2.2.1, y4.2.2.2.2.2.2.2.2.2.2.2.2.2.2.1, y4.2.2.2.2.2.2.2.2.2.2.2.2.2.2.2.1, y4.2.2.2.2.2.2.2.2.2.2.2.2.2.2.2.2.1, y4.2.2.2.2.2.2.2.2.2.2.2.2.2.2.2.2.2.1, y4.2.2.2.2.2.2.2.2.2.2.2.2.2.2.2.2.2.2.1, ())) (fun y5 =>
        none)
noncomputable def x18 (x : Int × Int × Int × Int × Int × (List (Int × Unit)) × Int × (List (Int × Unit)) × (List (ByteArray × Unit)) × Unit) : Option (Int × Int × Int × Int × Int × (List (Int × Unit)) × (List (Int × Int × Int × ByteArray × Unit)) × Unit) := spec_Number x.1 x.2.1 x.2.2.1 x.2.2.2.1 x.2.2.2.2.1 x.2.2.2.2.2.1 x.2.2.2.2.2.2.1 x.2.2.2.2.2.2.2.1 x.2.2.2.2.2.2.2.2.1
noncomputable def sem18 : Sem1 := semOf ps18 rs18 x18
theorem so18 : SemsOk Try.prog (semsOf sl18) := sems_cons k93 (sems_cons k20 (sems_cons k94 (sems_nil)))
noncomputable def b18_0 : Code := nthLoop code18 0
theorem t18_r0_eq (x : denR (headRT hp18_0)) : codeK (tabOf tr) (semsOf sl18) D18 L18 b18_0 (headSt hp18_0 x) (roundK 0 hp18_0 e18_0 q18_0) = spec_Number_r0 x := by kernel_rfl
theorem loop18_0 {R : Type} (r : R) (w0 : World) (mu : Mu) (hs : AnShape ps18 mu) : LoopAt Try.prog w0 mu 93 (L18 : Loops R) r 0 b18_0 :=
  loop_auto tr_ok eq_ok mixed_ok so18 (D := D18) hs (by kernel_rfl) (fun _ => (loops_of (l := []) (by kernel_rfl) (List.forall_mem_nil _))) t18_r0_eq (fun _ _ => rfl)
theorem t18_eq (x : denR (headRT (ps18.map some))) : codeK (tabOf tr) (semsOf sl18) D18 L18 code18 (start 93 ps18 x) (finK rs18 ps18) = x18 x := by kernel_rfl
theorem k18 : Known Try.prog 18 sem18 :=
  fn_auto tr_ok eq_ok mixed_ok so18 (D := D18) (code := code18) (n := 93) Try.func18 (by kernel_rfl) (by kernel_rfl) (by kernel_rfl) (fun w0 mu _ hs => (loops_of (l := [(0, b18_0)]) (by kernel_rfl) (List.forall_mem_cons.2 ⟨loop18_0 _ w0 mu hs, (List.forall_mem_nil _)⟩))) t18_eq

/-! ### f19: laws.sameItems -/
noncomputable def code19 : Code := match Try.f19.body with | some c => c | none => .skip
def ps19 : List AP := [.val false [.shr (.cons (.int .i64) (.cons (.int .i64) (.cons (.int .i64) (.cons .str .nil))))], .val false [.shr (.cons (.int .i64) (.cons (.int .i64) (.cons (.int .i64) (.cons .str .nil))))]]
def rs19 : List RP := [{ src := .tmp 4, agg := false, ps := [.bool] }]
noncomputable def sl19 : SemL := []
def D19 : Draws := fun id => bif Nat.beq id 6 then .op 0 .any (.op 1 .any (.op 2 .any (.op 3 .take (.op 4 .any (.op 5 .any (.op 6 .any (.op 7 .take (.op 8 .any (.nil))))))))) else .nil
def hp19_0 : List (Option AP) := [some (.val false [.shr (.cons (.int .i64) (.cons (.int .i64) (.cons (.int .i64) (.cons .str .nil))))]), some (.val false [.shr (.cons (.int .i64) (.cons (.int .i64) (.cons (.int .i64) (.cons .str .nil))))]), none, none, none, some (.val false [.int .i64]), none, none, none, none, none, none, none, none, none, none, none, none, none, none, none, none, none, none, none, none]
def e19_0 : List (Option AP) := [none, none, none, none, none, none, none, none, none, none, none, none, none, none, none, none, none, none, none, none, none, none, none, none, none, none]
def q19_0 : List (Option AP) := [none, none, none, none, some (.val false [.bool]), none, none, none, none, none, none, none, none, none, none, none, none, none, none, none, none, none, none, none, none, none]
abbrev H19_0 : Type := (List (Int × Int × Int × ByteArray × Unit)) × (List (Int × Int × Int × ByteArray × Unit)) × Int × Unit
abbrev E19_0 : Type := Unit
abbrev Q19_0 : Type := Bool × Unit
noncomputable def laws_sameItems_c0 (a0 : List (Int × Int × Int × ByteArray × Unit)) (b1 : List (Int × Int × Int × ByteArray × Unit)) (i5 : Int) : Option (Sum H19_0 (Sum E19_0 Q19_0)) :=
  bif decide (i5 < ((List.length a0 : Nat) : Int)) then
    bif decide ((0 : Int) ≤ i5) then Option.bind ((a0)[Int.toNat i5]?) fun r1 =>
      bif decide ((0 : Int) ≤ i5) then Option.bind ((b1)[Int.toNat i5]?) fun r2 =>
        bif !(decide (r1.1 = r2.1) && (decide (r1.2.1 = r2.2.1) && (decide (r1.2.2.1 = r2.2.2.1) && (strEq r1.2.2.2.1 r2.2.2.2.1 && true)))) then
          some (.inr (.inr (false, ())))
        else
          some (.inl (a0, b1, IntKind.i64.wrap (i5 + (1 : Int)), ()))
      else none
    else none
  else
    some (.inr (.inl (())))
noncomputable def laws_sameItems_r0 (x : H19_0) : Option (Sum H19_0 (Sum E19_0 Q19_0)) := laws_sameItems_c0 x.1 x.2.1 x.2.2.1
noncomputable def L19 {R : Type} : Loops R := fun id _ st k => bif Nat.beq id 0 then loopAt hp19_0 e19_0 q19_0 laws_sameItems_r0 st k else none
noncomputable def laws_sameItems (a0 : List (Int × Int × Int × ByteArray × Unit)) (b1 : List (Int × Int × Int × ByteArray × Unit)) : Option (Bool × Unit) :=
  bif !decide (((List.length a0 : Nat) : Int) = ((List.length b1 : Nat) : Int)) then
    some (false, ())
  else
    outK (loopV laws_sameItems_r0 (a0, b1, (0 : Int), ())) (fun y1 =>
      some (true, ())) (fun y2 =>
      some (y2.1, ()))
noncomputable def x19 (x : (List (Int × Int × Int × ByteArray × Unit)) × (List (Int × Int × Int × ByteArray × Unit)) × Unit) : Option (Bool × Unit) := laws_sameItems x.1 x.2.1
noncomputable def sem19 : Sem1 := semOf ps19 rs19 x19
theorem so19 : SemsOk Try.prog (semsOf sl19) := sems_nil
noncomputable def b19_0 : Code := nthLoop code19 0
theorem t19_r0_eq (x : denR (headRT hp19_0)) : codeK (tabOf tr) (semsOf sl19) D19 L19 b19_0 (headSt hp19_0 x) (roundK 0 hp19_0 e19_0 q19_0) = laws_sameItems_r0 x := by kernel_rfl
theorem loop19_0 {R : Type} (r : R) (w0 : World) (mu : Mu) (hs : AnShape ps19 mu) : LoopAt Try.prog w0 mu 26 (L19 : Loops R) r 0 b19_0 :=
  loop_auto tr_ok eq_ok mixed_ok so19 (D := D19) hs (by kernel_rfl) (fun _ => (loops_of (l := []) (by kernel_rfl) (List.forall_mem_nil _))) t19_r0_eq (fun _ _ => rfl)
theorem t19_eq (x : denR (headRT (ps19.map some))) : codeK (tabOf tr) (semsOf sl19) D19 L19 code19 (start 26 ps19 x) (finK rs19 ps19) = x19 x := by kernel_rfl
theorem k19 : Known Try.prog 19 sem19 :=
  fn_auto tr_ok eq_ok mixed_ok so19 (D := D19) (code := code19) (n := 26) Try.func19 (by kernel_rfl) (by kernel_rfl) (by kernel_rfl) (fun w0 mu _ hs => (loops_of (l := [(0, b19_0)]) (by kernel_rfl) (List.forall_mem_cons.2 ⟨loop19_0 _ w0 mu hs, (List.forall_mem_nil _)⟩))) t19_eq

/-! ### f3: laws.FnNumbered -/
noncomputable def code3 : Code := match Try.f3.body with | some c => c | none => .skip
def ps3 : List AP := [.val false [.shr (.cons (.int .u8) .nil)]]
def rs3 : List RP := [{ src := .tmp 2, agg := false, ps := [.bool] }]
noncomputable def sl3 : SemL := [(15, (.shr, .shr, .shr, sem15)), (16, (.shr, .shr, .shr, sem16)), (17, (.shr, .shr, .shr, sem17)), (18, (.shr, .shr, .shr, sem18)), (19, (.shr, .shr, .shr, sem19)), (20, (.shr, .shr, .shr, sem20)), (21, (.shr, .shr, .shr, sem21))]
def D3 : Draws := fun id => bif Nat.beq id 13 then .op 0 .any (.op 1 .any (.op 2 .any (.op 3 .any (.op 4 .take (.op 5 .any (.op 6 .take (.op 7 .any (.op 8 .any (.op 9 .any (.op 10 .any (.op 11 .any (.op 12 .any (.op 13 .any (.op 14 .any (.op 15 .any (.op 16 .take (.op 17 .any (.op 18 .any (.op 19 .any (.op 20 .any (.op 21 .any (.op 22 .any (.op 23 .any (.op 24 .any (.op 25 .take (.op 26 .any (.op 27 .any (.op 28 .any (.op 29 .take (.op 30 .any (.op 31 .any (.op 32 .any (.op 33 .any (.op 34 .any (.op 35 .any (.op 36 .any (.op 37 .take (.op 38 .any (.op 39 .any (.op 40 .any (.op 41 .any (.op 42 .any (.op 43 .any (.op 44 .any (.op 45 .any (.op 46 .any (.op 47 .take (.op 48 .any (.op 49 .any (.op 50 .any (.op 51 .any (.nil)))))))))))))))))))))))))))))))))))))))))))))))))))) else .nil
def hp3_0 : List (Option AP) := [none, none, none, some (.box false [.int .i64, .int .i64, .int .i64, .int .i64, .int .i64, .own (.cons (.int .i64) .nil)]), some (.val false [.int .i64]), some (.val false [.own (.cons (.int .i64) .nil)]), some (.val false [.own (.cons .str .nil)]), some (.box false [.int .i64, .int .i64, .int .i64, .int .i64, .int .i64, .own (.cons (.int .i64) .nil)]), some (.val false [.own (.cons (.int .i64) (.cons (.int .i64) (.cons (.int .i64) (.cons .str .nil))))]), none, none, some (.val false [.int .i64]), none, none, none, none, none, none, none, none, none, none, none, none, none, none, none, none, none, none, none, none, none, none, none, none, none, none, none, none, none, none, none, none, none, none, none, none, none, none, none, none, none, none, none, none, none, none, none, none, none, none, none, none, none, none, none, none, none, none, none, none, none, none, none, none, none, none, none, none, none, none, none, none, none, none, none, none, none, none, none, none, none, none, none, none, none, none, none, none, none, none, none, none, none, none, none, none, none, none, none, none, none, none, none, none, none, none, none, none, none, none]
def e3_0 : List (Option AP) := [none, none, none, some (.box false [.int .i64, .int .i64, .int .i64, .int .i64, .int .i64, .own (.cons (.int .i64) .nil)]), none, none, none, some (.box false [.int .i64, .int .i64, .int .i64, .int .i64, .int .i64, .own (.cons (.int .i64) .nil)]), some (.val false [.own (.cons (.int .i64) (.cons (.int .i64) (.cons (.int .i64) (.cons .str .nil))))]), none, none, none, none, none, none, none, none, none, none, none, none, none, none, none, none, none, none, none, none, none, none, none, none, none, none, none, none, none, none, none, none, none, none, none, none, none, none, none, none, none, none, none, none, none, none, none, none, none, none, none, none, none, none, none, none, none, none, none, none, none, none, none, none, none, none, none, none, none, none, none, none, none, none, none, none, none, none, none, none, none, none, none, none, none, none, none, none, none, none, none, none, none, none, none, none, none, none, none, none, none, none, none, none, none, none, none, none, none, none, none, none, none]
def q3_0 : List (Option AP) := [none, none, some (.val false [.bool]), none, none, none, none, none, none, none, none, none, none, none, none, none, none, none, none, none, none, none, none, none, none, none, none, none, none, none, none, none, none, none, none, none, none, none, none, none, none, none, none, none, none, none, none, none, none, none, none, none, none, none, none, none, none, none, none, none, none, none, none, none, none, none, none, none, none, none, none, none, none, none, none, none, none, none, none, none, none, none, none, none, none, none, none, none, none, none, none, none, none, none, none, none, none, none, none, none, none, none, none, none, none, none, none, none, none, none, none, none, none, none, none, none, none, none, none, none, none, none]
abbrev H3_0 : Type := Int × Int × Int × Int × Int × (List (Int × Unit)) × Int × (List (Int × Unit)) × (List (ByteArray × Unit)) × Int × Int × Int × Int × Int × (List (Int × Unit)) × (List (Int × Int × Int × ByteArray × Unit)) × Int × Unit
abbrev E3_0 : Type := Int × Int × Int × Int × Int × (List (Int × Unit)) × Int × Int × Int × Int × Int × (List (Int × Unit)) × (List (Int × Int × Int × ByteArray × Unit)) × Unit
abbrev Q3_0 : Type := Bool × Unit
noncomputable def laws_FnNumbered_c0 (t3c0 : Int) (t3c1 : Int) (t3c2 : Int) (t3c3 : Int) (t3c4 : Int) (t3c5 : List (Int × Unit)) (from_4 : Int) (level5 : List (Int × Unit)) (texts6 : List (ByteArray × Unit)) (n7c0 : Int) (n7c1 : Int) (n7c2 : Int) (n7c3 : Int) (n7c4 : Int) (n7c5 : List (Int × Unit)) (list8 : List (Int × Int × Int × ByteArray × Unit)) (i11 : Int) : Option (Sum H3_0 (Sum E3_0 Q3_0)) :=
  bif decide (i11 < ((List.length list8 : Nat) : Int)) then
    bif decide ((0 : Int) ≤ i11) then bif Nat.blt (Int.toNat i11) (List.length list8) then Option.bind ((list8)[Int.toNat i11]?) fun r7 =>
        bif !decide (r7.1 = IntKind.i64.wrap ((IntKind.i64.wrap (t3c2 + i11)) + (1 : Int))) then
          some (.inr (.inr (false, ())))
        else bif decide ((0 : Int) ≤ i11) then bif Nat.blt (Int.toNat i11) (List.length list8) then Option.bind ((list8)[Int.toNat i11]?) fun r8 =>
            bif !decide (r8.2.1 = from_4) then
              some (.inr (.inr (false, ())))
            else bif decide ((0 : Int) ≤ i11) then bif Nat.blt (Int.toNat i11) (List.length list8) then Option.bind ((list8)[Int.toNat i11]?) fun r9 =>
                bif decide ((0 : Int) ≤ i11) then bif Nat.blt (Int.toNat i11) (List.length texts6) then Option.bind ((texts6)[Int.toNat i11]?) fun r10 =>
                    bif !strEq r9.2.2.2.1 r10.1 then
                      some (.inr (.inr (false, ())))
                    else bif decide ((0 : Int) ≤ i11) then bif Nat.blt (Int.toNat i11) (List.length list8) then Option.bind ((list8)[Int.toNat i11]?) fun r11 =>
                        bif decide (i11 < ((List.length level5 : Nat) : Int)) then
                          bif decide ((0 : Int) ≤ i11) then bif Nat.blt (Int.toNat i11) (List.length level5) then Option.bind ((level5)[Int.toNat i11]?) fun r12 =>
                              bif !((decide (r11.2.2.1 = (2 : Int))) == (decide (r12.1 = (2 : Int)))) then
                                some (.inr (.inr (false, ())))
                              else
                                some (.inl (t3c0, t3c1, t3c2, t3c3, t3c4, t3c5, from_4, level5, texts6, n7c0, n7c1, n7c2, n7c3, n7c4, n7c5, list8, IntKind.i64.wrap (i11 + (1 : Int)), ()))
                            else none
                          else none
                        else bif !((decide (r11.2.2.1 = (2 : Int))) == false) then
                          some (.inr (.inr (false, ())))
                        else
                          some (.inl (t3c0, t3c1, t3c2, t3c3, t3c4, t3c5, from_4, level5, texts6, n7c0, n7c1, n7c2, n7c3, n7c4, n7c5, list8, IntKind.i64.wrap (i11 + (1 : Int)), ()))
                      else none
                    else none
                  else none
                else none
              else none
            else none
          else none
        else none
      else none
    else none
  else
    some (.inr (.inl (t3c0, t3c1, t3c2, t3c3, t3c4, t3c5, n7c0, n7c1, n7c2, n7c3, n7c4, n7c5, list8, ())))
noncomputable def laws_FnNumbered_r0 (x : H3_0) : Option (Sum H3_0 (Sum E3_0 Q3_0)) := laws_FnNumbered_c0 x.1 x.2.1 x.2.2.1 x.2.2.2.1 x.2.2.2.2.1 x.2.2.2.2.2.1 x.2.2.2.2.2.2.1 x.2.2.2.2.2.2.2.1 x.2.2.2.2.2.2.2.2.1 x.2.2.2.2.2.2.2.2.2.1 x.2.2.2.2.2.2.2.2.2.2.1 x.2.2.2.2.2.2.2.2.2.2.2.1 x.2.2.2.2.2.2.2.2.2.2.2.2.1 x.2.2.2.2.2.2.2.2.2.2.2.2.2.1 x.2.2.2.2.2.2.2.2.2.2.2.2.2.2.1 x.2.2.2.2.2.2.2.2.2.2.2.2.2.2.2.1 x.2.2.2.2.2.2.2.2.2.2.2.2.2.2.2.2.1
noncomputable def L3 {R : Type} : Loops R := fun id _ st k => bif Nat.beq id 0 then loopAt hp3_0 e3_0 q3_0 laws_FnNumbered_r0 st k else none
noncomputable def laws_FnNumbered (code0 : List (Int × Unit)) : Option (Bool × Unit) :=
  Option.bind (laws_big code0) fun y1 =>
  bif y1.1 then
    some (true, ())
  else
    Option.bind (spec_DrawNumber code0) fun y2 =>
    Option.bind (impl_Number y2.1 y2.2.1 y2.2.2.1 y2.2.2.2.1 y2.2.2.2.2.1 y2.2.2.2.2.2.1 y2.2.2.2.2.2.2.1 y2.2.2.2.2.2.2.2.1 y2.2.2.2.2.2.2.2.2.1) fun y3 =>
    Option.bind (spec_Number y2.1 y2.2.1 y2.2.2.1 y2.2.2.2.1 y2.2.2.2.2.1 y2.2.2.2.2.2.1 y2.2.2.2.2.2.2.1 y2.2.2.2.2.2.2.2.1 y2.2.2.2.2.2.2.2.2.1) fun y4 =>
    Option.bind (laws_sameItems y3.2.2.2.2.2.2.1 y4.2.2.2.2.2.2.1) fun y5 =>
    bif !y5.1 then
      some (false, ())
    else
      Option.bind (spec_TokenOk y2.1 y2.2.1 y2.2.2.1 y2.2.2.2.1 y2.2.2.2.2.1 y2.2.2.2.2.2.1) fun y6 =>
      bif !y6.1 then
        some (decide (((List.length y3.2.2.2.2.2.2.1 : Nat) : Int) = (0 : Int)), ())
      else
        outK (loopV laws_FnNumbered_r0 (y2.1, y2.2.1, y2.2.2.1, y2.2.2.2.1, y2.2.2.2.2.1, y2.2.2.2.2.2.1, y2.2.2.2.2.2.2.1, y2.2.2.2.2.2.2.2.1, y2.2.2.2.2.2.2.2.2.1, y3.1, y3.2.1, y3.2.2.1, y3.2.2.2.1, y3.2.2.2.2.1, y3.2.2.2.2.2.1, y3.2.2.2.2.2.2.1, (0 : Int), ())) (fun y7 =>
          Option.bind (impl_TokenOk y7.2.2.2.2.2.2.1 y7.2.2.2.2.2.2.2.1 y7.2.2.2.2.2.2.2.2.1 y7.2.2.2.2.2.2.2.2.2.1 y7.2.2.2.2.2.2.2.2.2.2.1 y7.2.2.2.2.2.2.2.2.2.2.2.1) fun y9 =>
          bif y9.1 then
            bif decide (y7.2.2.2.2.2.2.2.2.1 = IntKind.i64.wrap (y7.2.2.1 + ((List.length y7.2.2.2.2.2.2.2.2.2.2.2.2.1 : Nat) : Int))) then
              some (decide (((List.length y7.2.2.2.2.2.2.2.2.2.2.2.2.1 : Nat) : Int) ≤ (3 : Int)), ())
            else
              some (false, ())
          else
            some (false, ())) (fun y8 =>
          some (y8.1, ()))
noncomputable def x3 (x : (List (Int × Unit)) × Unit) : Option (Bool × Unit) := laws_FnNumbered x.1
noncomputable def sem3 : Sem1 := semOf ps3 rs3 x3
theorem so3 : SemsOk Try.prog (semsOf sl3) := sems_cons k15 (sems_cons k16 (sems_cons k17 (sems_cons k18 (sems_cons k19 (sems_cons k20 (sems_cons k21 (sems_nil)))))))
noncomputable def b3_0 : Code := nthLoop code3 0
theorem t3_r0_eq (x : denR (headRT hp3_0)) : codeK (tabOf tr) (semsOf sl3) D3 L3 b3_0 (headSt hp3_0 x) (roundK 0 hp3_0 e3_0 q3_0) = laws_FnNumbered_r0 x := by kernel_rfl
theorem loop3_0 {R : Type} (r : R) (w0 : World) (mu : Mu) (hs : AnShape ps3 mu) : LoopAt Try.prog w0 mu 122 (L3 : Loops R) r 0 b3_0 :=
  loop_auto tr_ok eq_ok mixed_ok so3 (D := D3) hs (by kernel_rfl) (fun _ => (loops_of (l := []) (by kernel_rfl) (List.forall_mem_nil _))) t3_r0_eq (fun _ _ => rfl)
theorem t3_eq (x : denR (headRT (ps3.map some))) : codeK (tabOf tr) (semsOf sl3) D3 L3 code3 (start 122 ps3 x) (finK rs3 ps3) = x3 x := by kernel_rfl
theorem k3 : Known Try.prog 3 sem3 :=
  fn_auto tr_ok eq_ok mixed_ok so3 (D := D3) (code := code3) (n := 122) Try.func3 (by kernel_rfl) (by kernel_rfl) (by kernel_rfl) (fun w0 mu _ hs => (loops_of (l := [(0, b3_0)]) (by kernel_rfl) (List.forall_mem_cons.2 ⟨loop3_0 _ w0 mu hs, (List.forall_mem_nil _)⟩))) t3_eq

/-! ### f96: laws.szIntS -/
noncomputable def code96 : Code := match Try.f96.body with | some c => c | none => .skip
def ps96 : List AP := [.val false [.shr (.cons (.int .i64) .nil)], .val false [.int .i64]]
def rs96 : List RP := [{ src := .tmp 4, agg := false, ps := [.int .i64] }]
noncomputable def sl96 : SemL := []
def D96 : Draws := fun _ => .nil
noncomputable def L96 {R : Type} : Loops R := fun _ _ _ _ => none
noncomputable def laws_szIntS (a0 : List (Int × Unit)) (left1 : Int) : Option (Int × Unit) :=
  bif decide (IntKind.i64.wrap (left1 - ((List.length a0 : Nat) : Int)) < (0 : Int)) then
    some ((-1 : Int), ())
  else
    some (IntKind.i64.wrap (left1 - ((List.length a0 : Nat) : Int)), ())
noncomputable def x96 (x : (List (Int × Unit)) × Int × Unit) : Option (Int × Unit) := laws_szIntS x.1 x.2.1
noncomputable def sem96 : Sem1 := semOf ps96 rs96 x96
theorem so96 : SemsOk Try.prog (semsOf sl96) := sems_nil
theorem t96_eq (x : denR (headRT (ps96.map some))) : codeK (tabOf tr) (semsOf sl96) D96 L96 code96 (start 12 ps96 x) (finK rs96 ps96) = x96 x := by kernel_rfl
theorem k96 : Known Try.prog 96 sem96 :=
  fn_auto tr_ok eq_ok mixed_ok so96 (D := D96) (code := code96) (n := 12) Try.func96 (by kernel_rfl) (by kernel_rfl) (by kernel_rfl) (fun w0 mu _ hs => (loops_of (l := []) (by kernel_rfl) (List.forall_mem_nil _))) t96_eq

/-! ### f22: laws.szToken -/
noncomputable def code22 : Code := match Try.f22.body with | some c => c | none => .skip
def ps22 : List AP := [.val true [.int .i64, .int .i64, .int .i64, .int .i64, .int .i64, .shr (.cons (.int .i64) .nil)], .val false [.int .i64]]
def rs22 : List RP := [{ src := .tmp 4, agg := false, ps := [.int .i64] }]
noncomputable def sl22 : SemL := [(96, (.shr, .shr, .shr, sem96))]
def D22 : Draws := fun _ => .nil
noncomputable def L22 {R : Type} : Loops R := fun _ _ _ _ => none
noncomputable def laws_szToken (a0c0 : Int) (a0c1 : Int) (a0c2 : Int) (a0c3 : Int) (a0c4 : Int) (a0c5 : List (Int × Unit)) (left1 : Int) : Option (Int × Unit) :=
  Option.bind (laws_szIntS a0c5 left1) fun y1 =>
  bif decide (y1.1 < (0 : Int)) then
    some ((-1 : Int), ())
  else
    some (y1.1, ())
noncomputable def x22 (x : Int × Int × Int × Int × Int × (List (Int × Unit)) × Int × Unit) : Option (Int × Unit) := laws_szToken x.1 x.2.1 x.2.2.1 x.2.2.2.1 x.2.2.2.2.1 x.2.2.2.2.2.1 x.2.2.2.2.2.2.1
noncomputable def sem22 : Sem1 := semOf ps22 rs22 x22
theorem so22 : SemsOk Try.prog (semsOf sl22) := sems_cons k96 (sems_nil)
theorem t22_eq (x : denR (headRT (ps22.map some))) : codeK (tabOf tr) (semsOf sl22) D22 L22 code22 (start 12 ps22 x) (finK rs22 ps22) = x22 x := by kernel_rfl
theorem k22 : Known Try.prog 22 sem22 :=
  fn_auto tr_ok eq_ok mixed_ok so22 (D := D22) (code := code22) (n := 12) Try.func22 (by kernel_rfl) (by kernel_rfl) (by kernel_rfl) (fun w0 mu _ hs => (loops_of (l := []) (by kernel_rfl) (List.forall_mem_nil _))) t22_eq

/-! ### f97: laws.szItem -/
noncomputable def code97 : Code := match Try.f97.body with | some c => c | none => .skip
def ps97 : List AP := [.val true [.int .i64, .int .i64, .int .i64, .str], .val false [.int .i64]]
def rs97 : List RP := [{ src := .tmp 4, agg := false, ps := [.int .i64] }]
noncomputable def sl97 : SemL := []
def D97 : Draws := fun _ => .nil
noncomputable def L97 {R : Type} : Loops R := fun _ _ _ _ => none
noncomputable def laws_szItem (a0c0 : Int) (a0c1 : Int) (a0c2 : Int) (a0c3 : ByteArray) (left1 : Int) : Option (Int × Unit) :=
  bif decide (IntKind.i64.wrap (left1 - ((ByteArray.size a0c3 : Nat) : Int)) < (0 : Int)) then
    some ((-1 : Int), ())
  else
    some (IntKind.i64.wrap (left1 - ((ByteArray.size a0c3 : Nat) : Int)), ())
noncomputable def x97 (x : Int × Int × Int × ByteArray × Int × Unit) : Option (Int × Unit) := laws_szItem x.1 x.2.1 x.2.2.1 x.2.2.2.1 x.2.2.2.2.1
noncomputable def sem97 : Sem1 := semOf ps97 rs97 x97
theorem so97 : SemsOk Try.prog (semsOf sl97) := sems_nil
theorem t97_eq (x : denR (headRT (ps97.map some))) : codeK (tabOf tr) (semsOf sl97) D97 L97 code97 (start 13 ps97 x) (finK rs97 ps97) = x97 x := by kernel_rfl
theorem k97 : Known Try.prog 97 sem97 :=
  fn_auto tr_ok eq_ok mixed_ok so97 (D := D97) (code := code97) (n := 13) Try.func97 (by kernel_rfl) (by kernel_rfl) (by kernel_rfl) (fun w0 mu _ hs => (loops_of (l := []) (by kernel_rfl) (List.forall_mem_nil _))) t97_eq

/-! ### f23: laws.szItemS -/
noncomputable def code23 : Code := match Try.f23.body with | some c => c | none => .skip
def ps23 : List AP := [.val false [.shr (.cons (.int .i64) (.cons (.int .i64) (.cons (.int .i64) (.cons .str .nil))))], .val false [.int .i64]]
def rs23 : List RP := [{ src := .tmp 4, agg := false, ps := [.int .i64] }]
noncomputable def sl23 : SemL := [(97, (.shr, .shr, .shr, sem97))]
def D23 : Draws := fun _ => .nil
def hp23_0 : List (Option AP) := [some (.val false [.shr (.cons (.int .i64) (.cons (.int .i64) (.cons (.int .i64) (.cons .str .nil))))]), some (.val false [.int .i64]), none, none, none, some (.val false [.int .i64]), none, none, none, none, none, none, none, none, none, none, none, none, none, none, none, none, none, none, none, none, none]
def e23_0 : List (Option AP) := [none, some (.val false [.int .i64]), none, none, none, none, none, none, none, none, none, none, none, none, none, none, none, none, none, none, none, none, none, none, none, none, none]
def q23_0 : List (Option AP) := [none, none, none, none, some (.val false [.int .i64]), none, none, none, none, none, none, none, none, none, none, none, none, none, none, none, none, none, none, none, none, none, none]
abbrev H23_0 : Type := (List (Int × Int × Int × ByteArray × Unit)) × Int × Int × Unit
abbrev E23_0 : Type := Int × Unit
abbrev Q23_0 : Type := Int × Unit
noncomputable def laws_szItemS_c0 (a0 : List (Int × Int × Int × ByteArray × Unit)) (left1 : Int) (i5 : Int) : Option (Sum H23_0 (Sum E23_0 Q23_0)) :=
  bif decide (i5 < ((List.length a0 : Nat) : Int)) then
    bif decide ((0 : Int) ≤ i5) then Option.bind ((a0)[Int.toNat i5]?) fun r1 =>
      Option.bind (laws_szItem r1.1 r1.2.1 r1.2.2.1 r1.2.2.2.1 left1) fun y2 =>
      bif decide (y2.1 < (0 : Int)) then
        some (.inr (.inr ((-1 : Int), ())))
      else
        some (.inl (a0, y2.1, IntKind.i64.wrap (i5 + (1 : Int)), ()))
    else none
  else
    some (.inr (.inl (left1, ())))
noncomputable def laws_szItemS_r0 (x : H23_0) : Option (Sum H23_0 (Sum E23_0 Q23_0)) := laws_szItemS_c0 x.1 x.2.1 x.2.2.1
noncomputable def L23 {R : Type} : Loops R := fun id _ st k => bif Nat.beq id 0 then loopAt hp23_0 e23_0 q23_0 laws_szItemS_r0 st k else none
noncomputable def laws_szItemS (a0 : List (Int × Int × Int × ByteArray × Unit)) (left1 : Int) : Option (Int × Unit) :=
  bif decide (IntKind.i64.wrap (left1 - ((List.length a0 : Nat) : Int)) < (0 : Int)) then
    some ((-1 : Int), ())
  else
    outK (loopV laws_szItemS_r0 (a0, IntKind.i64.wrap (left1 - ((List.length a0 : Nat) : Int)), (0 : Int), ())) (fun y1 =>
      some (y1.1, ())) (fun y2 =>
      some (y2.1, ()))
noncomputable def x23 (x : (List (Int × Int × Int × ByteArray × Unit)) × Int × Unit) : Option (Int × Unit) := laws_szItemS x.1 x.2.1
noncomputable def sem23 : Sem1 := semOf ps23 rs23 x23
theorem so23 : SemsOk Try.prog (semsOf sl23) := sems_cons k97 (sems_nil)
noncomputable def b23_0 : Code := nthLoop code23 0
theorem t23_r0_eq (x : denR (headRT hp23_0)) : codeK (tabOf tr) (semsOf sl23) D23 L23 b23_0 (headSt hp23_0 x) (roundK 0 hp23_0 e23_0 q23_0) = laws_szItemS_r0 x := by kernel_rfl
theorem loop23_0 {R : Type} (r : R) (w0 : World) (mu : Mu) (hs : AnShape ps23 mu) : LoopAt Try.prog w0 mu 27 (L23 : Loops R) r 0 b23_0 :=
  loop_auto tr_ok eq_ok mixed_ok so23 (D := D23) hs (by kernel_rfl) (fun _ => (loops_of (l := []) (by kernel_rfl) (List.forall_mem_nil _))) t23_r0_eq (fun _ _ => rfl)
theorem t23_eq (x : denR (headRT (ps23.map some))) : codeK (tabOf tr) (semsOf sl23) D23 L23 code23 (start 27 ps23 x) (finK rs23 ps23) = x23 x := by kernel_rfl
theorem k23 : Known Try.prog 23 sem23 :=
  fn_auto tr_ok eq_ok mixed_ok so23 (D := D23) (code := code23) (n := 27) Try.func23 (by kernel_rfl) (by kernel_rfl) (by kernel_rfl) (fun w0 mu _ hs => (loops_of (l := [(0, b23_0)]) (by kernel_rfl) (List.forall_mem_cons.2 ⟨loop23_0 _ w0 mu hs, (List.forall_mem_nil _)⟩))) t23_eq

/-! ### f53: laws.toIntS -/
noncomputable def code53 : Code := match Try.f53.body with | some c => c | none => .skip
def ps53 : List AP := [.val false [.shr (.cons (.int .i64) .nil)]]
def rs53 : List RP := [{ src := .tmp 2, agg := false, ps := [.own (.cons (.int .i64) .nil)] }]
noncomputable def sl53 : SemL := []
def D53 : Draws := fun _ => .nil
def hp53_0 : List (Option AP) := [some (.val false [.shr (.cons (.int .i64) .nil)]), none, none, some (.val false [.own (.cons (.int .i64) .nil)]), some (.val false [.int .i64]), none, none, none, none, none, none, none, none, none, none, none, none, none, none, none, none, none]
def e53_0 : List (Option AP) := [none, none, none, some (.val false [.own (.cons (.int .i64) .nil)]), none, none, none, none, none, none, none, none, none, none, none, none, none, none, none, none, none, none]
def q53_0 : List (Option AP) := [none, none, none, none, none, none, none, none, none, none, none, none, none, none, none, none, none, none, none, none, none, none]
abbrev H53_0 : Type := (List (Int × Unit)) × (List (Int × Unit)) × Int × Unit
abbrev E53_0 : Type := (List (Int × Unit)) × Unit
abbrev Q53_0 : Type := Unit
noncomputable def laws_toIntS_c0 (a0 : List (Int × Unit)) (out3 : List (Int × Unit)) (i4 : Int) : Option (Sum H53_0 (Sum E53_0 Q53_0)) :=
  bif decide (i4 < ((List.length a0 : Nat) : Int)) then
    bif decide ((0 : Int) ≤ i4) then Option.bind ((a0)[Int.toNat i4]?) fun r1 =>
      bif decide ((0 : Int) ≤ i4) then bif Nat.blt (Int.toNat i4) (List.length out3) then Option.bind ((out3)[Int.toNat i4]?) fun r2 =>
          some (.inl (a0, List.set out3 (Int.toNat i4) (r1.1, ()), IntKind.i64.wrap (i4 + (1 : Int)), ()))
        else none
      else none
    else none
  else
    some (.inr (.inl (out3, ())))
noncomputable def laws_toIntS_r0 (x : H53_0) : Option (Sum H53_0 (Sum E53_0 Q53_0)) := laws_toIntS_c0 x.1 x.2.1 x.2.2.1
noncomputable def L53 {R : Type} : Loops R := fun id _ st k => bif Nat.beq id 0 then loopAt hp53_0 e53_0 q53_0 laws_toIntS_r0 st k else none
noncomputable def laws_toIntS (a0 : List (Int × Unit)) : Option ((List (Int × Unit)) × Unit) :=
  bif decide (((List.length a0 : Nat) : Int) = ((List.length a0 : Nat) : Int)) then bif decide ((0 : Int) ≤ ((List.length a0 : Nat) : Int)) then bif Nat.ble ((Int.toNat ((List.length a0 : Nat) : Int)) * 8) lim then outK (loopV laws_toIntS_r0 (a0, List.replicate (Int.toNat ((List.length a0 : Nat) : Int)) ((0 : Int), ()), (0 : Int), ())) (fun y1 =>
          some (y1.1, ())) (fun y2 =>
          none)
      else none
    else none
  else none
noncomputable def x53 (x : (List (Int × Unit)) × Unit) : Option ((List (Int × Unit)) × Unit) := laws_toIntS x.1
noncomputable def sem53 : Sem1 := semOf ps53 rs53 x53
theorem so53 : SemsOk Try.prog (semsOf sl53) := sems_nil
noncomputable def b53_0 : Code := nthLoop code53 0
theorem t53_r0_eq (x : denR (headRT hp53_0)) : codeK (tabOf tr) (semsOf sl53) D53 L53 b53_0 (headSt hp53_0 x) (roundK 0 hp53_0 e53_0 q53_0) = laws_toIntS_r0 x := by kernel_rfl
theorem loop53_0 {R : Type} (r : R) (w0 : World) (mu : Mu) (hs : AnShape ps53 mu) : LoopAt Try.prog w0 mu 22 (L53 : Loops R) r 0 b53_0 :=
  loop_auto tr_ok eq_ok mixed_ok so53 (D := D53) hs (by kernel_rfl) (fun _ => (loops_of (l := []) (by kernel_rfl) (List.forall_mem_nil _))) t53_r0_eq (fun _ _ => rfl)
theorem t53_eq (x : denR (headRT (ps53.map some))) : codeK (tabOf tr) (semsOf sl53) D53 L53 code53 (start 22 ps53 x) (finK rs53 ps53) = x53 x := by kernel_rfl
theorem k53 : Known Try.prog 53 sem53 :=
  fn_auto tr_ok eq_ok mixed_ok so53 (D := D53) (code := code53) (n := 22) Try.func53 (by kernel_rfl) (by kernel_rfl) (by kernel_rfl) (fun w0 mu _ hs => (loops_of (l := [(0, b53_0)]) (by kernel_rfl) (List.forall_mem_cons.2 ⟨loop53_0 _ w0 mu hs, (List.forall_mem_nil _)⟩))) t53_eq

/-! ### f25: laws.toToken -/
noncomputable def code25 : Code := match Try.f25.body with | some c => c | none => .skip
def ps25 : List AP := [.val true [.int .i64, .int .i64, .int .i64, .int .i64, .int .i64, .shr (.cons (.int .i64) .nil)]]
def rs25 : List RP := [{ src := .cell 2, agg := true, ps := [.int .i64, .int .i64, .int .i64, .int .i64, .int .i64, .own (.cons (.int .i64) .nil)] }]
noncomputable def sl25 : SemL := [(53, (.shr, .shr, .shr, sem53))]
def D25 : Draws := fun _ => .nil
noncomputable def L25 {R : Type} : Loops R := fun _ _ _ _ => none
noncomputable def laws_toToken (a0c0 : Int) (a0c1 : Int) (a0c2 : Int) (a0c3 : Int) (a0c4 : Int) (a0c5 : List (Int × Unit)) : Option (Int × Int × Int × Int × Int × (List (Int × Unit)) × Unit) :=
  Option.bind (laws_toIntS a0c5) fun y1 =>
  some (a0c0, a0c1, a0c2, a0c3, a0c4, y1.1, ())
noncomputable def x25 (x : Int × Int × Int × Int × Int × (List (Int × Unit)) × Unit) : Option (Int × Int × Int × Int × Int × (List (Int × Unit)) × Unit) := laws_toToken x.1 x.2.1 x.2.2.1 x.2.2.2.1 x.2.2.2.2.1 x.2.2.2.2.2.1
noncomputable def sem25 : Sem1 := semOf ps25 rs25 x25
theorem so25 : SemsOk Try.prog (semsOf sl25) := sems_cons k53 (sems_nil)
theorem t25_eq (x : denR (headRT (ps25.map some))) : codeK (tabOf tr) (semsOf sl25) D25 L25 code25 (start 24 ps25 x) (finK rs25 ps25) = x25 x := by kernel_rfl
theorem k25 : Known Try.prog 25 sem25 :=
  fn_auto tr_ok eq_ok mixed_ok so25 (D := D25) (code := code25) (n := 24) Try.func25 (by kernel_rfl) (by kernel_rfl) (by kernel_rfl) (fun w0 mu _ hs => (loops_of (l := []) (by kernel_rfl) (List.forall_mem_nil _))) t25_eq

/-! ### f99: laws.toItem -/
noncomputable def code99 : Code := match Try.f99.body with | some c => c | none => .skip
def ps99 : List AP := [.val true [.int .i64, .int .i64, .int .i64, .str]]
def rs99 : List RP := [{ src := .cell 2, agg := true, ps := [.int .i64, .int .i64, .int .i64, .str] }]
noncomputable def sl99 : SemL := []
def D99 : Draws := fun _ => .nil
noncomputable def L99 {R : Type} : Loops R := fun _ _ _ _ => none
noncomputable def laws_toItem (a0c0 : Int) (a0c1 : Int) (a0c2 : Int) (a0c3 : ByteArray) : Option (Int × Int × Int × ByteArray × Unit) :=
  some (a0c0, a0c1, a0c2, a0c3, ())
noncomputable def x99 (x : Int × Int × Int × ByteArray × Unit) : Option (Int × Int × Int × ByteArray × Unit) := laws_toItem x.1 x.2.1 x.2.2.1 x.2.2.2.1
noncomputable def sem99 : Sem1 := semOf ps99 rs99 x99
theorem so99 : SemsOk Try.prog (semsOf sl99) := sems_nil
theorem t99_eq (x : denR (headRT (ps99.map some))) : codeK (tabOf tr) (semsOf sl99) D99 L99 code99 (start 17 ps99 x) (finK rs99 ps99) = x99 x := by kernel_rfl
theorem k99 : Known Try.prog 99 sem99 :=
  fn_auto tr_ok eq_ok mixed_ok so99 (D := D99) (code := code99) (n := 17) Try.func99 (by kernel_rfl) (by kernel_rfl) (by kernel_rfl) (fun w0 mu _ hs => (loops_of (l := []) (by kernel_rfl) (List.forall_mem_nil _))) t99_eq

/-! ### f26: laws.toItemS -/
noncomputable def code26 : Code := match Try.f26.body with | some c => c | none => .skip
def ps26 : List AP := [.val false [.shr (.cons (.int .i64) (.cons (.int .i64) (.cons (.int .i64) (.cons .str .nil))))]]
def rs26 : List RP := [{ src := .tmp 2, agg := false, ps := [.own (.cons (.int .i64) (.cons (.int .i64) (.cons (.int .i64) (.cons .str .nil))))] }]
noncomputable def sl26 : SemL := [(99, (.shr, .shr, .shr, sem99))]
def D26 : Draws := fun _ => .nil
def hp26_0 : List (Option AP) := [some (.val false [.shr (.cons (.int .i64) (.cons (.int .i64) (.cons (.int .i64) (.cons .str .nil))))]), none, none, some (.val false [.own (.cons (.int .i64) (.cons (.int .i64) (.cons (.int .i64) (.cons .str .nil))))]), some (.val false [.int .i64]), none, none, none, none, none, none, none, none, none, none, none, none, none, none, none, none, none, none]
def e26_0 : List (Option AP) := [none, none, none, some (.val false [.own (.cons (.int .i64) (.cons (.int .i64) (.cons (.int .i64) (.cons .str .nil))))]), none, none, none, none, none, none, none, none, none, none, none, none, none, none, none, none, none, none, none]
def q26_0 : List (Option AP) := [none, none, none, none, none, none, none, none, none, none, none, none, none, none, none, none, none, none, none, none, none, none, none]
abbrev H26_0 : Type := (List (Int × Int × Int × ByteArray × Unit)) × (List (Int × Int × Int × ByteArray × Unit)) × Int × Unit
abbrev E26_0 : Type := (List (Int × Int × Int × ByteArray × Unit)) × Unit
abbrev Q26_0 : Type := Unit
noncomputable def laws_toItemS_c0 (a0 : List (Int × Int × Int × ByteArray × Unit)) (out3 : List (Int × Int × Int × ByteArray × Unit)) (i4 : Int) : Option (Sum H26_0 (Sum E26_0 Q26_0)) :=
  bif decide (i4 < ((List.length a0 : Nat) : Int)) then
    bif decide ((0 : Int) ≤ i4) then Option.bind ((a0)[Int.toNat i4]?) fun r1 =>
      Option.bind (laws_toItem r1.1 r1.2.1 r1.2.2.1 r1.2.2.2.1) fun y2 =>
      bif decide ((0 : Int) ≤ i4) then bif Nat.blt (Int.toNat i4) (List.length out3) then Option.bind ((out3)[Int.toNat i4]?) fun r3 =>
          some (.inl (a0, List.set out3 (Int.toNat i4) (y2.1, y2.2.1, y2.2.2.1, y2.2.2.2.1, ()), IntKind.i64.wrap (i4 + (1 : Int)), ()))
        else none
      else none
    else none
  else
    some (.inr (.inl (out3, ())))
noncomputable def laws_toItemS_r0 (x : H26_0) : Option (Sum H26_0 (Sum E26_0 Q26_0)) := laws_toItemS_c0 x.1 x.2.1 x.2.2.1
noncomputable def L26 {R : Type} : Loops R := fun id _ st k => bif Nat.beq id 0 then loopAt hp26_0 e26_0 q26_0 laws_toItemS_r0 st k else none
noncomputable def laws_toItemS (a0 : List (Int × Int × Int × ByteArray × Unit)) : Option ((List (Int × Int × Int × ByteArray × Unit)) × Unit) :=
  bif decide (((List.length a0 : Nat) : Int) = ((List.length a0 : Nat) : Int)) then bif decide ((0 : Int) ≤ ((List.length a0 : Nat) : Int)) then bif Nat.ble ((Int.toNat ((List.length a0 : Nat) : Int)) * 40) lim then outK (loopV laws_toItemS_r0 (a0, List.replicate (Int.toNat ((List.length a0 : Nat) : Int)) ((0 : Int), (0 : Int), (0 : Int), ByteArray.empty, ()), (0 : Int), ())) (fun y1 =>
          some (y1.1, ())) (fun y2 =>
          none)
      else none
    else none
  else none
noncomputable def x26 (x : (List (Int × Int × Int × ByteArray × Unit)) × Unit) : Option ((List (Int × Int × Int × ByteArray × Unit)) × Unit) := laws_toItemS x.1
noncomputable def sem26 : Sem1 := semOf ps26 rs26 x26
theorem so26 : SemsOk Try.prog (semsOf sl26) := sems_cons k99 (sems_nil)
noncomputable def b26_0 : Code := nthLoop code26 0
theorem t26_r0_eq (x : denR (headRT hp26_0)) : codeK (tabOf tr) (semsOf sl26) D26 L26 b26_0 (headSt hp26_0 x) (roundK 0 hp26_0 e26_0 q26_0) = laws_toItemS_r0 x := by kernel_rfl
theorem loop26_0 {R : Type} (r : R) (w0 : World) (mu : Mu) (hs : AnShape ps26 mu) : LoopAt Try.prog w0 mu 23 (L26 : Loops R) r 0 b26_0 :=
  loop_auto tr_ok eq_ok mixed_ok so26 (D := D26) hs (by kernel_rfl) (fun _ => (loops_of (l := []) (by kernel_rfl) (List.forall_mem_nil _))) t26_r0_eq (fun _ _ => rfl)
theorem t26_eq (x : denR (headRT (ps26.map some))) : codeK (tabOf tr) (semsOf sl26) D26 L26 code26 (start 23 ps26 x) (finK rs26 ps26) = x26 x := by kernel_rfl
theorem k26 : Known Try.prog 26 sem26 :=
  fn_auto tr_ok eq_ok mixed_ok so26 (D := D26) (code := code26) (n := 23) Try.func26 (by kernel_rfl) (by kernel_rfl) (by kernel_rfl) (fun w0 mu _ hs => (loops_of (l := [(0, b26_0)]) (by kernel_rfl) (List.forall_mem_cons.2 ⟨loop26_0 _ w0 mu hs, (List.forall_mem_nil _)⟩))) t26_eq

/-! ### f98: spec.l05In -/
noncomputable def code98 : Code := match Try.f98.body with | some c => c | none => .skip
def ps98 : List AP := [.val false [.shr (.cons (.int .i64) .nil)], .val false [.int .i64]]
def rs98 : List RP := [{ src := .tmp 4, agg := false, ps := [.bool] }]
noncomputable def sl98 : SemL := []
def D98 : Draws := fun _ => .nil
def hp98_0 : List (Option AP) := [some (.val false [.shr (.cons (.int .i64) .nil)]), some (.val false [.int .i64]), none, none, none, some (.val false [.int .i64]), none, none, none, none, none, none, none, none, none, none, none, none]
def e98_0 : List (Option AP) := [none, none, none, none, none, none, none, none, none, none, none, none, none, none, none, none, none, none]
def q98_0 : List (Option AP) := [none, none, none, none, some (.val false [.bool]), none, none, none, none, none, none, none, none, none, none, none, none, none]
abbrev H98_0 : Type := (List (Int × Unit)) × Int × Int × Unit
abbrev E98_0 : Type := Unit
abbrev Q98_0 : Type := Bool × Unit
noncomputable def spec_l05In_c0 (list0 : List (Int × Unit)) (x1 : Int) (i5 : Int) : Option (Sum H98_0 (Sum E98_0 Q98_0)) :=
  bif decide (i5 < ((List.length list0 : Nat) : Int)) then
    bif decide ((0 : Int) ≤ i5) then Option.bind ((list0)[Int.toNat i5]?) fun r1 =>
      bif decide (r1.1 = x1) then
        some (.inr (.inr (true, ())))
      else
        some (.inl (list0, x1, IntKind.i64.wrap (i5 + (1 : Int)), ()))
    else none
  else
    some (.inr (.inl (())))
noncomputable def spec_l05In_r0 (x : H98_0) : Option (Sum H98_0 (Sum E98_0 Q98_0)) := spec_l05In_c0 x.1 x.2.1 x.2.2.1
noncomputable def L98 {R : Type} : Loops R := fun id _ st k => bif Nat.beq id 0 then loopAt hp98_0 e98_0 q98_0 spec_l05In_r0 st k else none
noncomputable def spec_l05In (list0 : List (Int × Unit)) (x1 : Int) : Option (Bool × Unit) :=
  outK (loopV spec_l05In_r0 (list0, x1, (0 : Int), ())) (fun y1 =>
    some (false, ())) (fun y2 =>
    some (y2.1, ()))
noncomputable def x98 (x : (List (Int × Unit)) × Int × Unit) : Option (Bool × Unit) := spec_l05In x.1 x.2.1
noncomputable def sem98 : Sem1 := semOf ps98 rs98 x98
theorem so98 : SemsOk Try.prog (semsOf sl98) := sems_nil
noncomputable def b98_0 : Code := nthLoop code98 0
theorem t98_r0_eq (x : denR (headRT hp98_0)) : codeK (tabOf tr) (semsOf sl98) D98 L98 b98_0 (headSt hp98_0 x) (roundK 0 hp98_0 e98_0 q98_0) = spec_l05In_r0 x := by kernel_rfl
theorem loop98_0 {R : Type} (r : R) (w0 : World) (mu : Mu) (hs : AnShape ps98 mu) : LoopAt Try.prog w0 mu 18 (L98 : Loops R) r 0 b98_0 :=
  loop_auto tr_ok eq_ok mixed_ok so98 (D := D98) hs (by kernel_rfl) (fun _ => (loops_of (l := []) (by kernel_rfl) (List.forall_mem_nil _))) t98_r0_eq (fun _ _ => rfl)
theorem t98_eq (x : denR (headRT (ps98.map some))) : codeK (tabOf tr) (semsOf sl98) D98 L98 code98 (start 18 ps98 x) (finK rs98 ps98) = x98 x := by kernel_rfl
theorem k98 : Known Try.prog 98 sem98 :=
  fn_auto tr_ok eq_ok mixed_ok so98 (D := D98) (code := code98) (n := 18) Try.func98 (by kernel_rfl) (by kernel_rfl) (by kernel_rfl) (fun w0 mu _ hs => (loops_of (l := [(0, b98_0)]) (by kernel_rfl) (List.forall_mem_cons.2 ⟨loop98_0 _ w0 mu hs, (List.forall_mem_nil _)⟩))) t98_eq

/-! ### f24: spec.Give -/
noncomputable def code24 : Code := match Try.f24.body with | some c => c | none => .skip
def ps24 : List AP := [.val true [.int .i64, .int .i64, .int .i64, .int .i64, .int .i64, .shr (.cons (.int .i64) .nil)], .val false [.shr (.cons (.int .i64) (.cons (.int .i64) (.cons (.int .i64) (.cons .str .nil))))]]
def rs24 : List RP := [{ src := .tmp 4, agg := false, ps := [.own (.cons (.int .i64) (.cons (.int .i64) (.cons (.int .i64) (.cons .str .nil))))] }]
noncomputable def sl24 : SemL := [(98, (.shr, .shr, .shr, sem98))]
def D24 : Draws := fun id => bif Nat.beq id 5 then .op 0 .any (.op 1 .take (.op 2 .any (.op 3 .any (.op 4 .any (.op 5 .any (.op 6 .take (.op 7 .one (.nil)))))))) else .nil
def hp24_0 : List (Option AP) := [none, some (.val false [.shr (.cons (.int .i64) (.cons (.int .i64) (.cons (.int .i64) (.cons .str .nil))))]), some (.box false [.int .i64, .int .i64, .int .i64, .int .i64, .int .i64, .shr (.cons (.int .i64) .nil)]), none, none, some (.val false [.own (.cons (.int .i64) (.cons (.int .i64) (.cons (.int .i64) (.cons .str .nil))))]), some (.val false [.int .i64]), none, none, none, none, none, none, none, none, none, none, none, none, none, none, none, none, none, none, none, none, none, none, none]
def e24_0 : List (Option AP) := [none, none, none, none, none, some (.val false [.own (.cons (.int .i64) (.cons (.int .i64) (.cons (.int .i64) (.cons .str .nil))))]), none, none, none, none, none, none, none, none, none, none, none, none, none, none, none, none, none, none, none, none, none, none, none, none]
def q24_0 : List (Option AP) := [none, none, none, none, none, none, none, none, none, none, none, none, none, none, none, none, none, none, none, none, none, none, none, none, none, none, none, none, none, none]
abbrev H24_0 : Type := (List (Int × Int × Int × ByteArray × Unit)) × Int × Int × Int × Int × Int × (List (Int × Unit)) × (List (Int × Int × Int × ByteArray × Unit)) × Int × Unit
abbrev E24_0 : Type := (List (Int × Int × Int × ByteArray × Unit)) × Unit
abbrev Q24_0 : Type := Unit
noncomputable def spec_Give_c0 (list1 : List (Int × Int × Int × ByteArray × Unit)) (t2c0 : Int) (t2c1 : Int) (t2c2 : Int) (t2c3 : Int) (t2c4 : Int) (t2c5 : List (Int × Unit)) (out5 : List (Int × Int × Int × ByteArray × Unit)) (i6 : Int) : Option (Sum H24_0 (Sum E24_0 Q24_0)) :=
  bif decide (i6 < ((List.length list1 : Nat) : Int)) then
    bif decide ((0 : Int) ≤ i6) then Option.bind ((list1)[Int.toNat i6]?) fun r1 =>
      Option.bind (spec_l05In t2c5 r1.1) fun y2 =>
      bif y2.1 then
        bif decide ((0 : Int) ≤ i6) then Option.bind ((list1)[Int.toNat i6]?) fun r3 =>
          bif Nat.ble (((List.length out5) + 1) * 40) lim then some (.inl (list1, t2c0, t2c1, t2c2, t2c3, t2c4, t2c5, out5 ++ [(r3.1, r3.2.1, r3.2.2.1, r3.2.2.2.1, ())], IntKind.i64.wrap (i6 + (1 : Int)), ()))
          else none
        else none
      else
        some (.inl (list1, t2c0, t2c1, t2c2, t2c3, t2c4, t2c5, out5, IntKind.i64.wrap (i6 + (1 : Int)), ()))
    else none
  else
    some (.inr (.inl (out5, ())))
noncomputable def spec_Give_r0 (x : H24_0) : Option (Sum H24_0 (Sum E24_0 Q24_0)) := spec_Give_c0 x.1 x.2.1 x.2.2.1 x.2.2.2.1 x.2.2.2.2.1 x.2.2.2.2.2.1 x.2.2.2.2.2.2.1 x.2.2.2.2.2.2.2.1 x.2.2.2.2.2.2.2.2.1
noncomputable def L24 {R : Type} : Loops R := fun id _ st k => bif Nat.beq id 0 then loopAt hp24_0 e24_0 q24_0 spec_Give_r0 st k else none
noncomputable def spec_Give (t0c0 : Int) (t0c1 : Int) (t0c2 : Int) (t0c3 : Int) (t0c4 : Int) (t0c5 : List (Int × Unit)) (list1 : List (Int × Int × Int × ByteArray × Unit)) : Option ((List (Int × Int × Int × ByteArray × Unit)) × Unit) :=
  outK (loopV spec_Give_r0 (list1, t0c0, t0c1, t0c2, t0c3, t0c4, t0c5, [], (0 : Int), ())) (fun y1 =>
    some (y1.1, ())) (fun y2 =>
    none)
noncomputable def x24 (x : Int × Int × Int × Int × Int × (List (Int × Unit)) × (List (Int × Int × Int × ByteArray × Unit)) × Unit) : Option ((List (Int × Int × Int × ByteArray × Unit)) × Unit) := spec_Give x.1 x.2.1 x.2.2.1 x.2.2.2.1 x.2.2.2.2.1 x.2.2.2.2.2.1 x.2.2.2.2.2.2.1
noncomputable def sem24 : Sem1 := semOf ps24 rs24 x24
theorem so24 : SemsOk Try.prog (semsOf sl24) := sems_cons k98 (sems_nil)
noncomputable def b24_0 : Code := nthLoop code24 0
theorem t24_r0_eq (x : denR (headRT hp24_0)) : codeK (tabOf tr) (semsOf sl24) D24 L24 b24_0 (headSt hp24_0 x) (roundK 0 hp24_0 e24_0 q24_0) = spec_Give_r0 x := by kernel_rfl
theorem loop24_0 {R : Type} (r : R) (w0 : World) (mu : Mu) (hs : AnShape ps24 mu) : LoopAt Try.prog w0 mu 30 (L24 : Loops R) r 0 b24_0 :=
  loop_auto tr_ok eq_ok mixed_ok so24 (D := D24) hs (by kernel_rfl) (fun _ => (loops_of (l := []) (by kernel_rfl) (List.forall_mem_nil _))) t24_r0_eq (fun _ _ => rfl)
theorem t24_eq (x : denR (headRT (ps24.map some))) : codeK (tabOf tr) (semsOf sl24) D24 L24 code24 (start 30 ps24 x) (finK rs24 ps24) = x24 x := by kernel_rfl
theorem k24 : Known Try.prog 24 sem24 :=
  fn_auto tr_ok eq_ok mixed_ok so24 (D := D24) (code := code24) (n := 30) Try.func24 (by kernel_rfl) (by kernel_rfl) (by kernel_rfl) (fun w0 mu _ hs => (loops_of (l := [(0, b24_0)]) (by kernel_rfl) (List.forall_mem_cons.2 ⟨loop24_0 _ w0 mu hs, (List.forall_mem_nil _)⟩))) t24_eq

/-! ### f145: slices.Index[[]int,int] -/
noncomputable def code145 : Code := match Try.f145.body with | some c => c | none => .skip
def ps145 : List AP := [.val false [.shr (.cons (.int .i64) .nil)], .val false [.int .i64]]
def rs145 : List RP := [{ src := .tmp 4, agg := false, ps := [.int .i64] }]
noncomputable def sl145 : SemL := []
def D145 : Draws := fun _ => .nil
def hp145_0 : List (Option AP) := [some (.val false [.shr (.cons (.int .i64) .nil)]), some (.val false [.int .i64]), none, none, none, none, none, some (.val false [.int .i64]), some (.val false [.int .i64]), none, none, none, none, none, none, none, none, none, none]
def e145_0 : List (Option AP) := [none, none, none, none, none, none, none, none, none, none, none, none, none, none, none, none, none, none, none]
def q145_0 : List (Option AP) := [none, none, none, none, some (.val false [.int .i64]), none, none, none, none, none, none, none, none, none, none, none, none, none, none]
abbrev H145_0 : Type := (List (Int × Unit)) × Int × Int × Int × Unit
abbrev E145_0 : Type := Unit
abbrev Q145_0 : Type := Int × Unit
noncomputable def slices_Index_int_c0 (s0 : List (Int × Unit)) (v1 : Int) (t7 : Int) (t8 : Int) : Option (Sum H145_0 (Sum E145_0 Q145_0)) :=
  bif decide (t8 < t7) then
    bif decide ((0 : Int) ≤ t8) then Option.bind ((s0)[Int.toNat t8]?) fun r1 =>
      bif decide (v1 = r1.1) then
        some (.inr (.inr (t8, ())))
      else
        some (.inl (s0, v1, t7, IntKind.i64.wrap (t8 + (1 : Int)), ()))
    else none
  else
    some (.inr (.inl (())))
noncomputable def slices_Index_int_r0 (x : H145_0) : Option (Sum H145_0 (Sum E145_0 Q145_0)) := slices_Index_int_c0 x.1 x.2.1 x.2.2.1 x.2.2.2.1
noncomputable def L145 {R : Type} : Loops R := fun id _ st k => bif Nat.beq id 0 then loopAt hp145_0 e145_0 q145_0 slices_Index_int_r0 st k else none
noncomputable def slices_Index_int (s0 : List (Int × Unit)) (v1 : Int) : Option (Int × Unit) :=
  outK (loopV slices_Index_int_r0 (s0, v1, ((List.length s0 : Nat) : Int), (0 : Int), ())) (fun y1 =>
    some ((-1 : Int), ())) (fun y2 =>
    some (y2.1, ()))
noncomputable def x145 (x : (List (Int × Unit)) × Int × Unit) : Option (Int × Unit) := slices_Index_int x.1 x.2.1
noncomputable def sem145 : Sem1 := semOf ps145 rs145 x145
theorem so145 : SemsOk Try.prog (semsOf sl145) := sems_nil
noncomputable def b145_0 : Code := nthLoop code145 0
theorem t145_r0_eq (x : denR (headRT hp145_0)) : codeK (tabOf tr) (semsOf sl145) D145 L145 b145_0 (headSt hp145_0 x) (roundK 0 hp145_0 e145_0 q145_0) = slices_Index_int_r0 x := by kernel_rfl
theorem loop145_0 {R : Type} (r : R) (w0 : World) (mu : Mu) (hs : AnShape ps145 mu) : LoopAt Try.prog w0 mu 19 (L145 : Loops R) r 0 b145_0 :=
  loop_auto tr_ok eq_ok mixed_ok so145 (D := D145) hs (by kernel_rfl) (fun _ => (loops_of (l := []) (by kernel_rfl) (List.forall_mem_nil _))) t145_r0_eq (fun _ _ => rfl)
theorem t145_eq (x : denR (headRT (ps145.map some))) : codeK (tabOf tr) (semsOf sl145) D145 L145 code145 (start 19 ps145 x) (finK rs145 ps145) = x145 x := by kernel_rfl
theorem k145 : Known Try.prog 145 sem145 :=
  fn_auto tr_ok eq_ok mixed_ok so145 (D := D145) (code := code145) (n := 19) Try.func145 (by kernel_rfl) (by kernel_rfl) (by kernel_rfl) (fun w0 mu _ hs => (loops_of (l := [(0, b145_0)]) (by kernel_rfl) (List.forall_mem_cons.2 ⟨loop145_0 _ w0 mu hs, (List.forall_mem_nil _)⟩))) t145_eq

/-! ### f100: slices.Contains[[]int,int] -/
noncomputable def code100 : Code := match Try.f100.body with | some c => c | none => .skip
def ps100 : List AP := [.val false [.shr (.cons (.int .i64) .nil)], .val false [.int .i64]]
def rs100 : List RP := [{ src := .tmp 4, agg := false, ps := [.bool] }]
noncomputable def sl100 : SemL := [(145, (.shr, .shr, .shr, sem145))]
def D100 : Draws := fun _ => .nil
noncomputable def L100 {R : Type} : Loops R := fun _ _ _ _ => none
noncomputable def slices_Contains_int (s0 : List (Int × Unit)) (v1 : Int) : Option (Bool × Unit) :=
  Option.bind (slices_Index_int s0 v1) fun y1 =>
  some (decide ((0 : Int) ≤ y1.1), ())
noncomputable def x100 (x : (List (Int × Unit)) × Int × Unit) : Option (Bool × Unit) := slices_Contains_int x.1 x.2.1
noncomputable def sem100 : Sem1 := semOf ps100 rs100 x100
theorem so100 : SemsOk Try.prog (semsOf sl100) := sems_cons k145 (sems_nil)
theorem t100_eq (x : denR (headRT (ps100.map some))) : codeK (tabOf tr) (semsOf sl100) D100 L100 code100 (start 9 ps100 x) (finK rs100 ps100) = x100 x := by kernel_rfl
theorem k100 : Known Try.prog 100 sem100 :=
  fn_auto tr_ok eq_ok mixed_ok so100 (D := D100) (code := code100) (n := 9) Try.func100 (by kernel_rfl) (by kernel_rfl) (by kernel_rfl) (fun w0 mu _ hs => (loops_of (l := []) (by kernel_rfl) (List.forall_mem_nil _))) t100_eq

/-! ### f27: impl.Give -/
noncomputable def code27 : Code := match Try.f27.body with | some c => c | none => .skip
def ps27 : List AP := [.val true [.int .i64, .int .i64, .int .i64, .int .i64, .int .i64, .shr (.cons (.int .i64) .nil)], .val false [.shr (.cons (.int .i64) (.cons (.int .i64) (.cons (.int .i64) (.cons .str .nil))))]]
def rs27 : List RP := [{ src := .tmp 4, agg := false, ps := [.own (.cons (.int .i64) (.cons (.int .i64) (.cons (.int .i64) (.cons .str .nil))))] }]
noncomputable def sl27 : SemL := [(100, (.shr, .shr, .shr, sem100))]
def D27 : Draws := fun _ => .nil
def hp27_0 : List (Option AP) := [none, none, some (.box false [.int .i64, .int .i64, .int .i64, .int .i64, .int .i64, .shr (.cons (.int .i64) .nil)]), none, none, some (.val false [.own (.cons (.int .i64) (.cons (.int .i64) (.cons (.int .i64) (.cons .str .nil))))]), none, none, some (.val false [.shr (.cons (.int .i64) (.cons (.int .i64) (.cons (.int .i64) (.cons .str .nil))))]), some (.val false [.int .i64]), some (.val false [.int .i64]), none, none, none, none, none, none, none, none, none, none, none, none, none, none]
def e27_0 : List (Option AP) := [none, none, none, none, none, some (.val false [.own (.cons (.int .i64) (.cons (.int .i64) (.cons (.int .i64) (.cons .str .nil))))]), none, none, none, none, none, none, none, none, none, none, none, none, none, none, none, none, none, none, none]
def q27_0 : List (Option AP) := [none, none, none, none, none, none, none, none, none, none, none, none, none, none, none, none, none, none, none, none, none, none, none, none, none]
abbrev H27_0 : Type := Int × Int × Int × Int × Int × (List (Int × Unit)) × (List (Int × Int × Int × ByteArray × Unit)) × (List (Int × Int × Int × ByteArray × Unit)) × Int × Int × Unit
abbrev E27_0 : Type := (List (Int × Int × Int × ByteArray × Unit)) × Unit
abbrev Q27_0 : Type := Unit
noncomputable def impl_Give_c0 (t2c0 : Int) (t2c1 : Int) (t2c2 : Int) (t2c3 : Int) (t2c4 : Int) (t2c5 : List (Int × Unit)) (out5 : List (Int × Int × Int × ByteArray × Unit)) (t8 : List (Int × Int × Int × ByteArray × Unit)) (t9 : Int) (t10 : Int) : Option (Sum H27_0 (Sum E27_0 Q27_0)) :=
  bif decide (t10 < t9) then
    bif decide ((0 : Int) ≤ t10) then Option.bind ((t8)[Int.toNat t10]?) fun r1 =>
      Option.bind (slices_Contains_int t2c5 r1.1) fun y2 =>
      bif y2.1 then
        bif Nat.ble (((List.length out5) + 1) * 40) lim then some (.inl (t2c0, t2c1, t2c2, t2c3, t2c4, t2c5, out5 ++ [(r1.1, r1.2.1, r1.2.2.1, r1.2.2.2.1, ())], t8, t9, IntKind.i64.wrap (t10 + (1 : Int)), ()))
        else none
      else
        some (.inl (t2c0, t2c1, t2c2, t2c3, t2c4, t2c5, out5, t8, t9, IntKind.i64.wrap (t10 + (1 : Int)), ()))
    else none
  else
    some (.inr (.inl (out5, ())))
noncomputable def impl_Give_r0 (x : H27_0) : Option (Sum H27_0 (Sum E27_0 Q27_0)) := impl_Give_c0 x.1 x.2.1 x.2.2.1 x.2.2.2.1 x.2.2.2.2.1 x.2.2.2.2.2.1 x.2.2.2.2.2.2.1 x.2.2.2.2.2.2.2.1 x.2.2.2.2.2.2.2.2.1 x.2.2.2.2.2.2.2.2.2.1
noncomputable def L27 {R : Type} : Loops R := fun id _ st k => bif Nat.beq id 0 then loopAt hp27_0 e27_0 q27_0 impl_Give_r0 st k else none
noncomputable def impl_Give (t0c0 : Int) (t0c1 : Int) (t0c2 : Int) (t0c3 : Int) (t0c4 : Int) (t0c5 : List (Int × Unit)) (list1 : List (Int × Int × Int × ByteArray × Unit)) : Option ((List (Int × Int × Int × ByteArray × Unit)) × Unit) :=
  outK (loopV impl_Give_r0 (t0c0, t0c1, t0c2, t0c3, t0c4, t0c5, [], list1, ((List.length list1 : Nat) : Int), (0 : Int), ())) (fun y1 =>
    some (y1.1, ())) (fun y2 =>
    none)
noncomputable def x27 (x : Int × Int × Int × Int × Int × (List (Int × Unit)) × (List (Int × Int × Int × ByteArray × Unit)) × Unit) : Option ((List (Int × Int × Int × ByteArray × Unit)) × Unit) := impl_Give x.1 x.2.1 x.2.2.1 x.2.2.2.1 x.2.2.2.2.1 x.2.2.2.2.2.1 x.2.2.2.2.2.2.1
noncomputable def sem27 : Sem1 := semOf ps27 rs27 x27
theorem so27 : SemsOk Try.prog (semsOf sl27) := sems_cons k100 (sems_nil)
noncomputable def b27_0 : Code := nthLoop code27 0
theorem t27_r0_eq (x : denR (headRT hp27_0)) : codeK (tabOf tr) (semsOf sl27) D27 L27 b27_0 (headSt hp27_0 x) (roundK 0 hp27_0 e27_0 q27_0) = impl_Give_r0 x := by kernel_rfl
theorem loop27_0 {R : Type} (r : R) (w0 : World) (mu : Mu) (hs : AnShape ps27 mu) : LoopAt Try.prog w0 mu 25 (L27 : Loops R) r 0 b27_0 :=
  loop_auto tr_ok eq_ok mixed_ok so27 (D := D27) hs (by kernel_rfl) (fun _ => (loops_of (l := []) (by kernel_rfl) (List.forall_mem_nil _))) t27_r0_eq (fun _ _ => rfl)
theorem t27_eq (x : denR (headRT (ps27.map some))) : codeK (tabOf tr) (semsOf sl27) D27 L27 code27 (start 25 ps27 x) (finK rs27 ps27) = x27 x := by kernel_rfl
theorem k27 : Known Try.prog 27 sem27 :=
  fn_auto tr_ok eq_ok mixed_ok so27 (D := D27) (code := code27) (n := 25) Try.func27 (by kernel_rfl) (by kernel_rfl) (by kernel_rfl) (fun w0 mu _ hs => (loops_of (l := [(0, b27_0)]) (by kernel_rfl) (List.forall_mem_cons.2 ⟨loop27_0 _ w0 mu hs, (List.forall_mem_nil _)⟩))) t27_eq

/-! ### f101: laws.eqItem -/
noncomputable def code101 : Code := match Try.f101.body with | some c => c | none => .skip
def ps101 : List AP := [.val true [.int .i64, .int .i64, .int .i64, .str], .val true [.int .i64, .int .i64, .int .i64, .str]]
def rs101 : List RP := [{ src := .tmp 4, agg := false, ps := [.bool] }]
noncomputable def sl101 : SemL := []
def D101 : Draws := fun _ => .nil
noncomputable def L101 {R : Type} : Loops R := fun _ _ _ _ => none
noncomputable def laws_eqItem (a0c0 : Int) (a0c1 : Int) (a0c2 : Int) (a0c3 : ByteArray) (b1c0 : Int) (b1c1 : Int) (b1c2 : Int) (b1c3 : ByteArray) : Option (Bool × Unit) :=
  bif !decide (a0c0 = b1c0) then
    some (false, ())
  else bif !decide (a0c1 = b1c1) then
    some (false, ())
  else bif !decide (a0c2 = b1c2) then
    some (false, ())
  else bif !strEq a0c3 b1c3 then
    some (false, ())
  else
    some (true, ())
noncomputable def x101 (x : Int × Int × Int × ByteArray × Int × Int × Int × ByteArray × Unit) : Option (Bool × Unit) := laws_eqItem x.1 x.2.1 x.2.2.1 x.2.2.2.1 x.2.2.2.2.1 x.2.2.2.2.2.1 x.2.2.2.2.2.2.1 x.2.2.2.2.2.2.2.1
noncomputable def sem101 : Sem1 := semOf ps101 rs101 x101
theorem so101 : SemsOk Try.prog (semsOf sl101) := sems_nil
theorem t101_eq (x : denR (headRT (ps101.map some))) : codeK (tabOf tr) (semsOf sl101) D101 L101 code101 (start 25 ps101 x) (finK rs101 ps101) = x101 x := by kernel_rfl
theorem k101 : Known Try.prog 101 sem101 :=
  fn_auto tr_ok eq_ok mixed_ok so101 (D := D101) (code := code101) (n := 25) Try.func101 (by kernel_rfl) (by kernel_rfl) (by kernel_rfl) (fun w0 mu _ hs => (loops_of (l := []) (by kernel_rfl) (List.forall_mem_nil _))) t101_eq

/-! ### f28: laws.eqItemS -/
noncomputable def code28 : Code := match Try.f28.body with | some c => c | none => .skip
def ps28 : List AP := [.val false [.shr (.cons (.int .i64) (.cons (.int .i64) (.cons (.int .i64) (.cons .str .nil))))], .val false [.shr (.cons (.int .i64) (.cons (.int .i64) (.cons (.int .i64) (.cons .str .nil))))]]
def rs28 : List RP := [{ src := .tmp 4, agg := false, ps := [.bool] }]
noncomputable def sl28 : SemL := [(101, (.shr, .shr, .shr, sem101))]
def D28 : Draws := fun id => bif Nat.beq id 6 then .op 0 .any (.op 1 .any (.op 2 .any (.op 3 .take (.op 4 .any (.op 5 .any (.op 6 .any (.op 7 .take (.op 8 .one (.op 9 .any (.nil)))))))))) else .nil
def hp28_0 : List (Option AP) := [some (.val false [.shr (.cons (.int .i64) (.cons (.int .i64) (.cons (.int .i64) (.cons .str .nil))))]), some (.val false [.shr (.cons (.int .i64) (.cons (.int .i64) (.cons (.int .i64) (.cons .str .nil))))]), none, none, none, some (.val false [.int .i64]), none, none, none, none, none, none, none, none, none, none, none, none, none, none, none, none, none, none, none, none, none]
def e28_0 : List (Option AP) := [none, none, none, none, none, none, none, none, none, none, none, none, none, none, none, none, none, none, none, none, none, none, none, none, none, none, none]
def q28_0 : List (Option AP) := [none, none, none, none, some (.val false [.bool]), none, none, none, none, none, none, none, none, none, none, none, none, none, none, none, none, none, none, none, none, none, none]
abbrev H28_0 : Type := (List (Int × Int × Int × ByteArray × Unit)) × (List (Int × Int × Int × ByteArray × Unit)) × Int × Unit
abbrev E28_0 : Type := Unit
abbrev Q28_0 : Type := Bool × Unit
noncomputable def laws_eqItemS_c0 (a0 : List (Int × Int × Int × ByteArray × Unit)) (b1 : List (Int × Int × Int × ByteArray × Unit)) (i5 : Int) : Option (Sum H28_0 (Sum E28_0 Q28_0)) :=
  bif decide (i5 < ((List.length a0 : Nat) : Int)) then
    bif decide ((0 : Int) ≤ i5) then Option.bind ((a0)[Int.toNat i5]?) fun r1 =>
      bif decide ((0 : Int) ≤ i5) then Option.bind ((b1)[Int.toNat i5]?) fun r2 =>
        Option.bind (laws_eqItem r1.1 r1.2.1 r1.2.2.1 r1.2.2.2.1 r2.1 r2.2.1 r2.2.2.1 r2.2.2.2.1) fun y3 =>
        bif !y3.1 then
          some (.inr (.inr (false, ())))
        else
          some (.inl (a0, b1, IntKind.i64.wrap (i5 + (1 : Int)), ()))
      else none
    else none
  else
    some (.inr (.inl (())))
noncomputable def laws_eqItemS_r0 (x : H28_0) : Option (Sum H28_0 (Sum E28_0 Q28_0)) := laws_eqItemS_c0 x.1 x.2.1 x.2.2.1
noncomputable def L28 {R : Type} : Loops R := fun id _ st k => bif Nat.beq id 0 then loopAt hp28_0 e28_0 q28_0 laws_eqItemS_r0 st k else none
noncomputable def laws_eqItemS (a0 : List (Int × Int × Int × ByteArray × Unit)) (b1 : List (Int × Int × Int × ByteArray × Unit)) : Option (Bool × Unit) :=
  bif !decide (((List.length a0 : Nat) : Int) = ((List.length b1 : Nat) : Int)) then
    some (false, ())
  else
    outK (loopV laws_eqItemS_r0 (a0, b1, (0 : Int), ())) (fun y1 =>
      some (true, ())) (fun y2 =>
      some (y2.1, ()))
noncomputable def x28 (x : (List (Int × Int × Int × ByteArray × Unit)) × (List (Int × Int × Int × ByteArray × Unit)) × Unit) : Option (Bool × Unit) := laws_eqItemS x.1 x.2.1
noncomputable def sem28 : Sem1 := semOf ps28 rs28 x28
theorem so28 : SemsOk Try.prog (semsOf sl28) := sems_cons k101 (sems_nil)
noncomputable def b28_0 : Code := nthLoop code28 0
theorem t28_r0_eq (x : denR (headRT hp28_0)) : codeK (tabOf tr) (semsOf sl28) D28 L28 b28_0 (headSt hp28_0 x) (roundK 0 hp28_0 e28_0 q28_0) = laws_eqItemS_r0 x := by kernel_rfl
theorem loop28_0 {R : Type} (r : R) (w0 : World) (mu : Mu) (hs : AnShape ps28 mu) : LoopAt Try.prog w0 mu 27 (L28 : Loops R) r 0 b28_0 :=
  loop_auto tr_ok eq_ok mixed_ok so28 (D := D28) hs (by kernel_rfl) (fun _ => (loops_of (l := []) (by kernel_rfl) (List.forall_mem_nil _))) t28_r0_eq (fun _ _ => rfl)
theorem t28_eq (x : denR (headRT (ps28.map some))) : codeK (tabOf tr) (semsOf sl28) D28 L28 code28 (start 27 ps28 x) (finK rs28 ps28) = x28 x := by kernel_rfl
theorem k28 : Known Try.prog 28 sem28 :=
  fn_auto tr_ok eq_ok mixed_ok so28 (D := D28) (code := code28) (n := 27) Try.func28 (by kernel_rfl) (by kernel_rfl) (by kernel_rfl) (fun w0 mu _ hs => (loops_of (l := [(0, b28_0)]) (by kernel_rfl) (List.forall_mem_cons.2 ⟨loop28_0 _ w0 mu hs, (List.forall_mem_nil _)⟩))) t28_eq

/-! ### f55: laws.eqIntS -/
noncomputable def code55 : Code := match Try.f55.body with | some c => c | none => .skip
def ps55 : List AP := [.val false [.shr (.cons (.int .i64) .nil)], .val false [.shr (.cons (.int .i64) .nil)]]
def rs55 : List RP := [{ src := .tmp 4, agg := false, ps := [.bool] }]
noncomputable def sl55 : SemL := []
def D55 : Draws := fun id => bif Nat.beq id 6 then .op 0 .any (.op 1 .any (.op 2 .any (.op 3 .take (.op 4 .any (.op 5 .any (.op 6 .any (.op 7 .take (.op 8 .any (.nil))))))))) else .nil
def hp55_0 : List (Option AP) := [some (.val false [.shr (.cons (.int .i64) .nil)]), some (.val false [.shr (.cons (.int .i64) .nil)]), none, none, none, some (.val false [.int .i64]), none, none, none, none, none, none, none, none, none, none, none, none, none, none, none, none, none, none, none, none]
def e55_0 : List (Option AP) := [none, none, none, none, none, none, none, none, none, none, none, none, none, none, none, none, none, none, none, none, none, none, none, none, none, none]
def q55_0 : List (Option AP) := [none, none, none, none, some (.val false [.bool]), none, none, none, none, none, none, none, none, none, none, none, none, none, none, none, none, none, none, none, none, none]
abbrev H55_0 : Type := (List (Int × Unit)) × (List (Int × Unit)) × Int × Unit
abbrev E55_0 : Type := Unit
abbrev Q55_0 : Type := Bool × Unit
noncomputable def laws_eqIntS_c0 (a0 : List (Int × Unit)) (b1 : List (Int × Unit)) (i5 : Int) : Option (Sum H55_0 (Sum E55_0 Q55_0)) :=
  bif decide (i5 < ((List.length a0 : Nat) : Int)) then
    bif decide ((0 : Int) ≤ i5) then Option.bind ((a0)[Int.toNat i5]?) fun r1 =>
      bif decide ((0 : Int) ≤ i5) then Option.bind ((b1)[Int.toNat i5]?) fun r2 =>
        bif !decide (r1.1 = r2.1) then
          some (.inr (.inr (false, ())))
        else
          some (.inl (a0, b1, IntKind.i64.wrap (i5 + (1 : Int)), ()))
      else none
    else none
  else
    some (.inr (.inl (())))
noncomputable def laws_eqIntS_r0 (x : H55_0) : Option (Sum H55_0 (Sum E55_0 Q55_0)) := laws_eqIntS_c0 x.1 x.2.1 x.2.2.1
noncomputable def L55 {R : Type} : Loops R := fun id _ st k => bif Nat.beq id 0 then loopAt hp55_0 e55_0 q55_0 laws_eqIntS_r0 st k else none
noncomputable def laws_eqIntS (a0 : List (Int × Unit)) (b1 : List (Int × Unit)) : Option (Bool × Unit) :=
  bif !decide (((List.length a0 : Nat) : Int) = ((List.length b1 : Nat) : Int)) then
    some (false, ())
  else
    outK (loopV laws_eqIntS_r0 (a0, b1, (0 : Int), ())) (fun y1 =>
      some (true, ())) (fun y2 =>
      some (y2.1, ()))
noncomputable def x55 (x : (List (Int × Unit)) × (List (Int × Unit)) × Unit) : Option (Bool × Unit) := laws_eqIntS x.1 x.2.1
noncomputable def sem55 : Sem1 := semOf ps55 rs55 x55
theorem so55 : SemsOk Try.prog (semsOf sl55) := sems_nil
noncomputable def b55_0 : Code := nthLoop code55 0
theorem t55_r0_eq (x : denR (headRT hp55_0)) : codeK (tabOf tr) (semsOf sl55) D55 L55 b55_0 (headSt hp55_0 x) (roundK 0 hp55_0 e55_0 q55_0) = laws_eqIntS_r0 x := by kernel_rfl
theorem loop55_0 {R : Type} (r : R) (w0 : World) (mu : Mu) (hs : AnShape ps55 mu) : LoopAt Try.prog w0 mu 26 (L55 : Loops R) r 0 b55_0 :=
  loop_auto tr_ok eq_ok mixed_ok so55 (D := D55) hs (by kernel_rfl) (fun _ => (loops_of (l := []) (by kernel_rfl) (List.forall_mem_nil _))) t55_r0_eq (fun _ _ => rfl)
theorem t55_eq (x : denR (headRT (ps55.map some))) : codeK (tabOf tr) (semsOf sl55) D55 L55 code55 (start 26 ps55 x) (finK rs55 ps55) = x55 x := by kernel_rfl
theorem k55 : Known Try.prog 55 sem55 :=
  fn_auto tr_ok eq_ok mixed_ok so55 (D := D55) (code := code55) (n := 26) Try.func55 (by kernel_rfl) (by kernel_rfl) (by kernel_rfl) (fun w0 mu _ hs => (loops_of (l := [(0, b55_0)]) (by kernel_rfl) (List.forall_mem_cons.2 ⟨loop55_0 _ w0 mu hs, (List.forall_mem_nil _)⟩))) t55_eq

/-! ### f29: laws.eqToken -/
noncomputable def code29 : Code := match Try.f29.body with | some c => c | none => .skip
def ps29 : List AP := [.val true [.int .i64, .int .i64, .int .i64, .int .i64, .int .i64, .shr (.cons (.int .i64) .nil)], .val true [.int .i64, .int .i64, .int .i64, .int .i64, .int .i64, .shr (.cons (.int .i64) .nil)]]
def rs29 : List RP := [{ src := .tmp 4, agg := false, ps := [.bool] }]
noncomputable def sl29 : SemL := [(55, (.shr, .shr, .shr, sem55))]
def D29 : Draws := fun _ => .nil
noncomputable def L29 {R : Type} : Loops R := fun _ _ _ _ => none
noncomputable def laws_eqToken (a0c0 : Int) (a0c1 : Int) (a0c2 : Int) (a0c3 : Int) (a0c4 : Int) (a0c5 : List (Int × Unit)) (b1c0 : Int) (b1c1 : Int) (b1c2 : Int) (b1c3 : Int) (b1c4 : Int) (b1c5 : List (Int × Unit)) : Option (Bool × Unit) :=
  bif !decide (a0c0 = b1c0) then
    some (false, ())
  else bif !decide (a0c1 = b1c1) then
    some (false, ())
  else bif !decide (a0c2 = b1c2) then
    some (false, ())
  else bif !decide (a0c3 = b1c3) then
    some (false, ())
  else bif !decide (a0c4 = b1c4) then
    some (false, ())
  else
    Option.bind (laws_eqIntS a0c5 b1c5) fun y1 =>
    bif !y1.1 then
      some (false, ())
    else
      some (true, ())
noncomputable def x29 (x : Int × Int × Int × Int × Int × (List (Int × Unit)) × Int × Int × Int × Int × Int × (List (Int × Unit)) × Unit) : Option (Bool × Unit) := laws_eqToken x.1 x.2.1 x.2.2.1 x.2.2.2.1 x.2.2.2.2.1 x.2.2.2.2.2.1 x.2.2.2.2.2.2.1 x.2.2.2.2.2.2.2.1 x.2.2.2.2.2.2.2.2.1 x.2.2.2.2.2.2.2.2.2.1 x.2.2.2.2.2.2.2.2.2.2.1 x.2.2.2.2.2.2.2.2.2.2.2.1
noncomputable def sem29 : Sem1 := semOf ps29 rs29 x29
theorem so29 : SemsOk Try.prog (semsOf sl29) := sems_cons k55 (sems_nil)
theorem t29_eq (x : denR (headRT (ps29.map some))) : codeK (tabOf tr) (semsOf sl29) D29 L29 code29 (start 36 ps29 x) (finK rs29 ps29) = x29 x := by kernel_rfl
theorem k29 : Known Try.prog 29 sem29 :=
  fn_auto tr_ok eq_ok mixed_ok so29 (D := D29) (code := code29) (n := 36) Try.func29 (by kernel_rfl) (by kernel_rfl) (by kernel_rfl) (fun w0 mu _ hs => (loops_of (l := []) (by kernel_rfl) (List.forall_mem_nil _))) t29_eq

/-! ### f57: laws.markIntS -/
noncomputable def code57 : Code := match Try.f57.body with | some c => c | none => .skip
def ps57 : List AP := [.io (.cons (.int .i64) .nil), .val false [.int .i64]]
def rs57 : List RP := [{ src := .tmp 4, agg := false, ps := [.int .i64] }]
noncomputable def sl57 : SemL := []
def D57 : Draws := fun _ => .nil
def hp57_0 : List (Option AP) := [some (.io (.cons (.int .i64) .nil)), some (.val false [.int .i64]), none, none, none, some (.val false [.int .i64]), none, none, none, none, none, none, none, none, none, none, none, none, none]
def e57_0 : List (Option AP) := [some (.io (.cons (.int .i64) .nil)), some (.val false [.int .i64]), none, none, none, none, none, none, none, none, none, none, none, none, none, none, none, none, none]
def q57_0 : List (Option AP) := [none, none, none, none, none, none, none, none, none, none, none, none, none, none, none, none, none, none, none]
abbrev H57_0 : Type := (List (Int × Unit)) × Int × Int × Unit
abbrev E57_0 : Type := (List (Int × Unit)) × Int × Unit
abbrev Q57_0 : Type := Unit
noncomputable def laws_markIntS_c0 (a0 : List (Int × Unit)) (k1 : Int) (i5 : Int) : Option (Sum H57_0 (Sum E57_0 Q57_0)) :=
  bif decide (i5 < ((List.length a0 : Nat) : Int)) then
    bif decide ((0 : Int) ≤ i5) then bif Nat.blt (Int.toNat i5) (List.length a0) then Option.bind ((a0)[Int.toNat i5]?) fun r1 =>
        some (.inl (List.set a0 (Int.toNat i5) (k1, ()), IntKind.i64.wrap (k1 + (1 : Int)), IntKind.i64.wrap (i5 + (1 : Int)), ()))
      else none
    else none
  else
    some (.inr (.inl (a0, k1, ())))
noncomputable def laws_markIntS_r0 (x : H57_0) : Option (Sum H57_0 (Sum E57_0 Q57_0)) := laws_markIntS_c0 x.1 x.2.1 x.2.2.1
noncomputable def L57 {R : Type} : Loops R := fun id _ st k => bif Nat.beq id 0 then loopAt hp57_0 e57_0 q57_0 laws_markIntS_r0 st k else none
noncomputable def laws_markIntS (a0 : List (Int × Unit)) (k1 : Int) : Option (Int × (List (Int × Unit)) × Unit) :=
  outK (loopV laws_markIntS_r0 (a0, k1, (0 : Int), ())) (fun y1 =>
    some (y1.2.1, y1.1, ())) (fun y2 =>
    none)
noncomputable def x57 (x : (List (Int × Unit)) × Int × Unit) : Option (Int × (List (Int × Unit)) × Unit) := laws_markIntS x.1 x.2.1
noncomputable def sem57 : Sem1 := semOf ps57 rs57 x57
theorem so57 : SemsOk Try.prog (semsOf sl57) := sems_nil
noncomputable def b57_0 : Code := nthLoop code57 0
theorem t57_r0_eq (x : denR (headRT hp57_0)) : codeK (tabOf tr) (semsOf sl57) D57 L57 b57_0 (headSt hp57_0 x) (roundK 0 hp57_0 e57_0 q57_0) = laws_markIntS_r0 x := by kernel_rfl
theorem loop57_0 {R : Type} (r : R) (w0 : World) (mu : Mu) (hs : AnShape ps57 mu) : LoopAt Try.prog w0 mu 19 (L57 : Loops R) r 0 b57_0 :=
  loop_auto tr_ok eq_ok mixed_ok so57 (D := D57) hs (by kernel_rfl) (fun _ => (loops_of (l := []) (by kernel_rfl) (List.forall_mem_nil _))) t57_r0_eq (fun _ _ => rfl)
theorem t57_eq (x : denR (headRT (ps57.map some))) : codeK (tabOf tr) (semsOf sl57) D57 L57 code57 (start 19 ps57 x) (finK rs57 ps57) = x57 x := by kernel_rfl
theorem k57 : Known Try.prog 57 sem57 :=
  fn_auto tr_ok eq_ok mixed_ok so57 (D := D57) (code := code57) (n := 19) Try.func57 (by kernel_rfl) (by kernel_rfl) (by kernel_rfl) (fun w0 mu _ hs => (loops_of (l := [(0, b57_0)]) (by kernel_rfl) (List.forall_mem_cons.2 ⟨loop57_0 _ w0 mu hs, (List.forall_mem_nil _)⟩))) t57_eq

/-! ### f30: laws.markToken -/
noncomputable def code30 : Code := match Try.f30.body with | some c => c | none => .skip
def ps30 : List AP := [.lend [.int .i64, .int .i64, .int .i64, .int .i64, .int .i64, .own (.cons (.int .i64) .nil)], .val false [.int .i64]]
def rs30 : List RP := [{ src := .tmp 4, agg := false, ps := [.int .i64] }]
noncomputable def sl30 : SemL := [(57, (.io, .shr, .shr, sem57))]
def D30 : Draws := fun _ => .nil
noncomputable def L30 {R : Type} : Loops R := fun _ _ _ _ => none
noncomputable def laws_markToken (a0c0 : Int) (a0c1 : Int) (a0c2 : Int) (a0c3 : Int) (a0c4 : Int) (a0c5 : List (Int × Unit)) (k1 : Int) : Option (Int × (List (Int × Unit)) × Unit) :=
  Option.bind (laws_markIntS a0c5 k1) fun y1 =>
  some (y1.1, y1.2.1, ())
noncomputable def x30 (x : Int × Int × Int × Int × Int × (List (Int × Unit)) × Int × Unit) : Option (Int × (List (Int × Unit)) × Unit) := laws_markToken x.1 x.2.1 x.2.2.1 x.2.2.2.1 x.2.2.2.2.1 x.2.2.2.2.2.1 x.2.2.2.2.2.2.1
noncomputable def sem30 : Sem1 := semOf ps30 rs30 x30
theorem so30 : SemsOk Try.prog (semsOf sl30) := sems_cons k57 (sems_nil)
theorem t30_eq (x : denR (headRT (ps30.map some))) : codeK (tabOf tr) (semsOf sl30) D30 L30 code30 (start 10 ps30 x) (finK rs30 ps30) = x30 x := by kernel_rfl
theorem k30 : Known Try.prog 30 sem30 :=
  fn_auto tr_ok eq_ok mixed_ok so30 (D := D30) (code := code30) (n := 10) Try.func30 (by kernel_rfl) (by kernel_rfl) (by kernel_rfl) (fun w0 mu _ hs => (loops_of (l := []) (by kernel_rfl) (List.forall_mem_nil _))) t30_eq

/-! ### f102: laws.markText -/
noncomputable def code102 : Code := match Try.f102.body with | some c => c | none => .skip
def ps102 : List AP := [.val false [.int .i64]]
def rs102 : List RP := [{ src := .tmp 2, agg := false, ps := [.str] }]
noncomputable def sl102 : SemL := []
def D102 : Draws := fun _ => .nil
def hp102_0 : List (Option AP) := [some (.val false [.int .i64]), none, none, some (.val false [.str]), none, none, none, none, none, none, none, none, none, none, none, none, none, none, none, none]
def e102_0 : List (Option AP) := [none, none, none, some (.val false [.str]), none, none, none, none, none, none, none, none, none, none, none, none, none, none, none, none]
def q102_0 : List (Option AP) := [none, none, none, none, none, none, none, none, none, none, none, none, none, none, none, none, none, none, none, none]
abbrev H102_0 : Type := Int × ByteArray × Unit
abbrev E102_0 : Type := ByteArray × Unit
abbrev Q102_0 : Type := Unit
noncomputable def laws_markText_c0 (k0 : Int) (out3 : ByteArray) : Option (Sum H102_0 (Sum E102_0 Q102_0)) :=
  bif decide ((0 : Int) < k0) then
    bif Nat.ble ((ByteArray.size (bytesOf [(IntKind.u8.wrap (IntKind.i64.wrap ((48 : Int) + (Int.tmod k0 (10 : Int)))), ())])) + (ByteArray.size out3)) lim then some (.inl (IntKind.i64.wrap (Int.tdiv k0 (10 : Int)), (bytesOf [(IntKind.u8.wrap (IntKind.i64.wrap ((48 : Int) + (Int.tmod k0 (10 : Int)))), ())]) ++ out3, ()))
    else none
  else
    some (.inr (.inl (out3, ())))
noncomputable def laws_markText_r0 (x : H102_0) : Option (Sum H102_0 (Sum E102_0 Q102_0)) := laws_markText_c0 x.1 x.2.1
noncomputable def L102 {R : Type} : Loops R := fun id _ st k => bif Nat.beq id 0 then loopAt hp102_0 e102_0 q102_0 laws_markText_r0 st k else none
noncomputable def laws_markText (k0 : Int) : Option (ByteArray × Unit) :=
  bif decide (k0 ≤ (0 : Int)) then
    some ((ByteArray.mk #[109, 48]), ())
  else
    outK (loopV laws_markText_r0 (k0, (ByteArray.mk #[]), ())) (fun y1 =>
      bif Nat.ble (1 + (ByteArray.size y1.1)) lim then some ((ByteArray.mk #[109]) ++ y1.1, ())
      else none) (fun y2 =>
      none)
noncomputable def x102 (x : Int × Unit) : Option (ByteArray × Unit) := laws_markText x.1
noncomputable def sem102 : Sem1 := semOf ps102 rs102 x102
theorem so102 : SemsOk Try.prog (semsOf sl102) := sems_nil
noncomputable def b102_0 : Code := nthLoop code102 0
theorem t102_r0_eq (x : denR (headRT hp102_0)) : codeK (tabOf tr) (semsOf sl102) D102 L102 b102_0 (headSt hp102_0 x) (roundK 0 hp102_0 e102_0 q102_0) = laws_markText_r0 x := by kernel_rfl
theorem loop102_0 {R : Type} (r : R) (w0 : World) (mu : Mu) (hs : AnShape ps102 mu) : LoopAt Try.prog w0 mu 20 (L102 : Loops R) r 0 b102_0 :=
  loop_auto tr_ok eq_ok mixed_ok so102 (D := D102) hs (by kernel_rfl) (fun _ => (loops_of (l := []) (by kernel_rfl) (List.forall_mem_nil _))) t102_r0_eq (fun _ _ => rfl)
theorem t102_eq (x : denR (headRT (ps102.map some))) : codeK (tabOf tr) (semsOf sl102) D102 L102 code102 (start 20 ps102 x) (finK rs102 ps102) = x102 x := by kernel_rfl
theorem k102 : Known Try.prog 102 sem102 :=
  fn_auto tr_ok eq_ok mixed_ok so102 (D := D102) (code := code102) (n := 20) Try.func102 (by kernel_rfl) (by kernel_rfl) (by kernel_rfl) (fun w0 mu _ hs => (loops_of (l := [(0, b102_0)]) (by kernel_rfl) (List.forall_mem_cons.2 ⟨loop102_0 _ w0 mu hs, (List.forall_mem_nil _)⟩))) t102_eq

/-! ### f31: laws.markItemS -/
noncomputable def code31 : Code := match Try.f31.body with | some c => c | none => .skip
def ps31 : List AP := [.io (.cons (.int .i64) (.cons (.int .i64) (.cons (.int .i64) (.cons .str .nil)))), .val false [.int .i64]]
def rs31 : List RP := [{ src := .tmp 4, agg := false, ps := [.int .i64] }]
noncomputable def sl31 : SemL := [(102, (.shr, .shr, .shr, sem102))]
def D31 : Draws := fun _ => .nil
def hp31_0 : List (Option AP) := [some (.io (.cons (.int .i64) (.cons (.int .i64) (.cons (.int .i64) (.cons .str .nil))))), some (.val false [.int .i64]), none, none, none, some (.val false [.int .i64]), none, none, none, none, none, none, none, none, none, none, none, none, none, none, none, none, none, none, none, none, none, none, none, none, none, none, none, none, none, none, none, none, none, none, none, none]
def e31_0 : List (Option AP) := [some (.io (.cons (.int .i64) (.cons (.int .i64) (.cons (.int .i64) (.cons .str .nil))))), some (.val false [.int .i64]), none, none, none, none, none, none, none, none, none, none, none, none, none, none, none, none, none, none, none, none, none, none, none, none, none, none, none, none, none, none, none, none, none, none, none, none, none, none, none, none]
def q31_0 : List (Option AP) := [none, none, none, none, none, none, none, none, none, none, none, none, none, none, none, none, none, none, none, none, none, none, none, none, none, none, none, none, none, none, none, none, none, none, none, none, none, none, none, none, none, none]
abbrev H31_0 : Type := (List (Int × Int × Int × ByteArray × Unit)) × Int × Int × Unit
abbrev E31_0 : Type := (List (Int × Int × Int × ByteArray × Unit)) × Int × Unit
abbrev Q31_0 : Type := Unit
noncomputable def laws_markItemS_c0 (a0 : List (Int × Int × Int × ByteArray × Unit)) (k1 : Int) (i5 : Int) : Option (Sum H31_0 (Sum E31_0 Q31_0)) :=
  bif decide (i5 < ((List.length a0 : Nat) : Int)) then
    bif decide ((0 : Int) ≤ i5) then bif Nat.blt (Int.toNat i5) (List.length a0) then Option.bind ((a0)[Int.toNat i5]?) fun r1 =>
        bif decide ((0 : Int) ≤ i5) then bif Nat.blt (Int.toNat i5) (List.length (List.set a0 (Int.toNat i5) (k1, r1.2.1, r1.2.2.1, r1.2.2.2.1, ()))) then Option.bind ((List.set a0 (Int.toNat i5) (k1, r1.2.1, r1.2.2.1, r1.2.2.2.1, ()))[Int.toNat i5]?) fun r2 =>
            bif decide ((0 : Int) ≤ i5) then bif Nat.blt (Int.toNat i5) (List.length (List.set (List.set a0 (Int.toNat i5) (k1, r1.2.1, r1.2.2.1, r1.2.2.2.1, ())) (Int.toNat i5) (r2.1, IntKind.i64.wrap (k1 + (1 : Int)), r2.2.2.1, r2.2.2.2.1, ()))) then Option.bind ((List.set (List.set a0 (Int.toNat i5) (k1, r1.2.1, r1.2.2.1, r1.2.2.2.1, ())) (Int.toNat i5) (r2.1, IntKind.i64.wrap (k1 + (1 : Int)), r2.2.2.1, r2.2.2.2.1, ()))[Int.toNat i5]?) fun r3 =>
                Option.bind (laws_markText (IntKind.i64.wrap ((IntKind.i64.wrap ((IntKind.i64.wrap (k1 + (1 : Int))) + (1 : Int))) + (1 : Int)))) fun y4 =>
                bif decide ((0 : Int) ≤ i5) then bif Nat.blt (Int.toNat i5) (List.length (List.set (List.set (List.set a0 (Int.toNat i5) (k1, r1.2.1, r1.2.2.1, r1.2.2.2.1, ())) (Int.toNat i5) (r2.1, IntKind.i64.wrap (k1 + (1 : Int)), r2.2.2.1, r2.2.2.2.1, ())) (Int.toNat i5) (r3.1, r3.2.1, IntKind.i64.wrap ((IntKind.i64.wrap (k1 + (1 : Int))) + (1 : Int)), r3.2.2.2.1, ()))) then Option.bind ((List.set (List.set (List.set a0 (Int.toNat i5) (k1, r1.2.1, r1.2.2.1, r1.2.2.2.1, ())) (Int.toNat i5) (r2.1, IntKind.i64.wrap (k1 + (1 : Int)), r2.2.2.1, r2.2.2.2.1, ())) (Int.toNat i5) (r3.1, r3.2.1, IntKind.i64.wrap ((IntKind.i64.wrap (k1 + (1 : Int))) + (1 : Int)), r3.2.2.2.1, ()))[Int.toNat i5]?) fun r5 =>
                    some (.inl (List.set (List.set (List.set (List.set a0 (Int.toNat i5) (k1, r1.2.1, r1.2.2.1, r1.2.2.2.1, ())) (Int.toNat i5) (r2.1, IntKind.i64.wrap (k1 + (1 : Int)), r2.2.2.1, r2.2.2.2.1, ())) (Int.toNat i5) (r3.1, r3.2.1, IntKind.i64.wrap ((IntKind.i64.wrap (k1 + (1 : Int))) + (1 : Int)), r3.2.2.2.1, ())) (Int.toNat i5) (r5.1, r5.2.1, r5.2.2.1, y4.1, ()), IntKind.i64.wrap ((IntKind.i64.wrap ((IntKind.i64.wrap ((IntKind.i64.wrap (k1 + (1 : Int))) + (1 : Int))) + (1 : Int))) + (1 : Int)), IntKind.i64.wrap (i5 + (1 : Int)), ()))
                  else none
                else none
              else none
            else none
          else none
        else none
      else none
    else none
  else
    some (.inr (.inl (a0, k1, ())))
noncomputable def laws_markItemS_r0 (x : H31_0) : Option (Sum H31_0 (Sum E31_0 Q31_0)) := laws_markItemS_c0 x.1 x.2.1 x.2.2.1
noncomputable def L31 {R : Type} : Loops R := fun id _ st k => bif Nat.beq id 0 then loopAt hp31_0 e31_0 q31_0 laws_markItemS_r0 st k else none
noncomputable def laws_markItemS (a0 : List (Int × Int × Int × ByteArray × Unit)) (k1 : Int) : Option (Int × (List (Int × Int × Int × ByteArray × Unit)) × Unit) :=
  outK (loopV laws_markItemS_r0 (a0, k1, (0 : Int), ())) (fun y1 =>
    some (y1.2.1, y1.1, ())) (fun y2 =>
    none)
noncomputable def x31 (x : (List (Int × Int × Int × ByteArray × Unit)) × Int × Unit) : Option (Int × (List (Int × Int × Int × ByteArray × Unit)) × Unit) := laws_markItemS x.1 x.2.1
noncomputable def sem31 : Sem1 := semOf ps31 rs31 x31
theorem so31 : SemsOk Try.prog (semsOf sl31) := sems_cons k102 (sems_nil)
noncomputable def b31_0 : Code := nthLoop code31 0
theorem t31_r0_eq (x : denR (headRT hp31_0)) : codeK (tabOf tr) (semsOf sl31) D31 L31 b31_0 (headSt hp31_0 x) (roundK 0 hp31_0 e31_0 q31_0) = laws_markItemS_r0 x := by kernel_rfl
theorem loop31_0 {R : Type} (r : R) (w0 : World) (mu : Mu) (hs : AnShape ps31 mu) : LoopAt Try.prog w0 mu 42 (L31 : Loops R) r 0 b31_0 :=
  loop_auto tr_ok eq_ok mixed_ok so31 (D := D31) hs (by kernel_rfl) (fun _ => (loops_of (l := []) (by kernel_rfl) (List.forall_mem_nil _))) t31_r0_eq (fun _ _ => rfl)
theorem t31_eq (x : denR (headRT (ps31.map some))) : codeK (tabOf tr) (semsOf sl31) D31 L31 code31 (start 42 ps31 x) (finK rs31 ps31) = x31 x := by kernel_rfl
theorem k31 : Known Try.prog 31 sem31 :=
  fn_auto tr_ok eq_ok mixed_ok so31 (D := D31) (code := code31) (n := 42) Try.func31 (by kernel_rfl) (by kernel_rfl) (by kernel_rfl) (fun w0 mu _ hs => (loops_of (l := [(0, b31_0)]) (by kernel_rfl) (List.forall_mem_cons.2 ⟨loop31_0 _ w0 mu hs, (List.forall_mem_nil _)⟩))) t31_eq

/-! ### f32: laws.heldItemS -/
noncomputable def code32 : Code := match Try.f32.body with | some c => c | none => .skip
def ps32 : List AP := [.val false [.shr (.cons (.int .i64) (.cons (.int .i64) (.cons (.int .i64) (.cons .str .nil))))], .val false [.int .i64]]
def rs32 : List RP := [{ src := .tmp 4, agg := false, ps := [.int .i64] }]
noncomputable def sl32 : SemL := [(102, (.shr, .shr, .shr, sem102))]
def D32 : Draws := fun id => bif Nat.beq id 13 then .op 0 .any (.op 1 .any (.op 2 .any (.op 3 .any (.op 4 .take (.op 5 .any (.op 6 .one (.op 7 .any (.nil)))))))) else .nil
def hp32_0 : List (Option AP) := [some (.val false [.shr (.cons (.int .i64) (.cons (.int .i64) (.cons (.int .i64) (.cons .str .nil))))]), some (.val false [.int .i64]), none, none, none, some (.val false [.int .i64]), none, none, none, none, none, none, none, none, none, none, none, none, none, none, none, none, none, none, none, none, none, none, none, none, none, none, none, none, none, none, none, none, none, none, none, none, none, none, none, none, none, none, none, none]
def e32_0 : List (Option AP) := [none, some (.val false [.int .i64]), none, none, none, none, none, none, none, none, none, none, none, none, none, none, none, none, none, none, none, none, none, none, none, none, none, none, none, none, none, none, none, none, none, none, none, none, none, none, none, none, none, none, none, none, none, none, none, none]
def q32_0 : List (Option AP) := [none, none, none, none, some (.val false [.int .i64]), none, none, none, none, none, none, none, none, none, none, none, none, none, none, none, none, none, none, none, none, none, none, none, none, none, none, none, none, none, none, none, none, none, none, none, none, none, none, none, none, none, none, none, none, none]
abbrev H32_0 : Type := (List (Int × Int × Int × ByteArray × Unit)) × Int × Int × Unit
abbrev E32_0 : Type := Int × Unit
abbrev Q32_0 : Type := Int × Unit
noncomputable def laws_heldItemS_c0 (a0 : List (Int × Int × Int × ByteArray × Unit)) (k1 : Int) (i5 : Int) : Option (Sum H32_0 (Sum E32_0 Q32_0)) :=
  bif decide (i5 < ((List.length a0 : Nat) : Int)) then
    bif decide ((0 : Int) ≤ i5) then Option.bind ((a0)[Int.toNat i5]?) fun r1 =>
      bif !decide (r1.1 = k1) then
        some (.inr (.inr ((-1 : Int), ())))
      else bif decide ((0 : Int) ≤ i5) then Option.bind ((a0)[Int.toNat i5]?) fun r2 =>
        bif !decide (r2.2.1 = IntKind.i64.wrap (k1 + (1 : Int))) then
          some (.inr (.inr ((-1 : Int), ())))
        else bif decide ((0 : Int) ≤ i5) then Option.bind ((a0)[Int.toNat i5]?) fun r3 =>
          bif !decide (r3.2.2.1 = IntKind.i64.wrap ((IntKind.i64.wrap (k1 + (1 : Int))) + (1 : Int))) then
            some (.inr (.inr ((-1 : Int), ())))
          else bif decide ((0 : Int) ≤ i5) then Option.bind ((a0)[Int.toNat i5]?) fun r4 =>
            Option.bind (laws_markText (IntKind.i64.wrap ((IntKind.i64.wrap ((IntKind.i64.wrap (k1 + (1 : Int))) + (1 : Int))) + (1 : Int)))) fun y5 =>
            bif !strEq r4.2.2.2.1 y5.1 then
              some (.inr (.inr ((-1 : Int), ())))
            else
              some (.inl (a0, IntKind.i64.wrap ((IntKind.i64.wrap ((IntKind.i64.wrap ((IntKind.i64.wrap (k1 + (1 : Int))) + (1 : Int))) + (1 : Int))) + (1 : Int)), IntKind.i64.wrap (i5 + (1 : Int)), ()))
          else none
        else none
      else none
    else none
  else
    some (.inr (.inl (k1, ())))
noncomputable def laws_heldItemS_r0 (x : H32_0) : Option (Sum H32_0 (Sum E32_0 Q32_0)) := laws_heldItemS_c0 x.1 x.2.1 x.2.2.1
noncomputable def L32 {R : Type} : Loops R := fun id _ st k => bif Nat.beq id 0 then loopAt hp32_0 e32_0 q32_0 laws_heldItemS_r0 st k else none
noncomputable def laws_heldItemS (a0 : List (Int × Int × Int × ByteArray × Unit)) (k1 : Int) : Option (Int × Unit) :=
  outK (loopV laws_heldItemS_r0 (a0, k1, (0 : Int), ())) (fun y1 =>
    some (y1.1, ())) (fun y2 =>
    some (y2.1, ()))
noncomputable def x32 (x : (List (Int × Int × Int × ByteArray × Unit)) × Int × Unit) : Option (Int × Unit) := laws_heldItemS x.1 x.2.1
noncomputable def sem32 : Sem1 := semOf ps32 rs32 x32
theorem so32 : SemsOk Try.prog (semsOf sl32) := sems_cons k102 (sems_nil)
noncomputable def b32_0 : Code := nthLoop code32 0
theorem t32_r0_eq (x : denR (headRT hp32_0)) : codeK (tabOf tr) (semsOf sl32) D32 L32 b32_0 (headSt hp32_0 x) (roundK 0 hp32_0 e32_0 q32_0) = laws_heldItemS_r0 x := by kernel_rfl
theorem loop32_0 {R : Type} (r : R) (w0 : World) (mu : Mu) (hs : AnShape ps32 mu) : LoopAt Try.prog w0 mu 50 (L32 : Loops R) r 0 b32_0 :=
  loop_auto tr_ok eq_ok mixed_ok so32 (D := D32) hs (by kernel_rfl) (fun _ => (loops_of (l := []) (by kernel_rfl) (List.forall_mem_nil _))) t32_r0_eq (fun _ _ => rfl)
theorem t32_eq (x : denR (headRT (ps32.map some))) : codeK (tabOf tr) (semsOf sl32) D32 L32 code32 (start 50 ps32 x) (finK rs32 ps32) = x32 x := by kernel_rfl
theorem k32 : Known Try.prog 32 sem32 :=
  fn_auto tr_ok eq_ok mixed_ok so32 (D := D32) (code := code32) (n := 50) Try.func32 (by kernel_rfl) (by kernel_rfl) (by kernel_rfl) (fun w0 mu _ hs => (loops_of (l := [(0, b32_0)]) (by kernel_rfl) (List.forall_mem_cons.2 ⟨loop32_0 _ w0 mu hs, (List.forall_mem_nil _)⟩))) t32_eq

/-! ### f4: laws.FnExactGive -/
noncomputable def code4 : Code := match Try.f4.body with | some c => c | none => .skip
def ps4 : List AP := [.val true [.int .i64, .int .i64, .int .i64, .int .i64, .int .i64, .shr (.cons (.int .i64) .nil)], .val false [.shr (.cons (.int .i64) (.cons (.int .i64) (.cons (.int .i64) (.cons .str .nil))))]]
def rs4 : List RP := [{ src := .tmp 4, agg := false, ps := [.bool] }]
noncomputable def sl4 : SemL := [(22, (.shr, .shr, .shr, sem22)), (23, (.shr, .shr, .shr, sem23)), (25, (.shr, .shr, .shr, sem25)), (26, (.shr, .shr, .shr, sem26)), (24, (.shr, .shr, .shr, sem24)), (27, (.shr, .shr, .shr, sem27)), (28, (.shr, .shr, .shr, sem28)), (29, (.shr, .shr, .shr, sem29)), (30, (.lend, .shr, .shr, sem30)), (31, (.io, .shr, .shr, sem31)), (32, (.shr, .shr, .shr, sem32))]
def D4 : Draws := fun id => bif Nat.beq id 14 then .op 0 .take (.op 1 .take (.op 2 .one (.op 3 .one (.op 4 .any (.nil))))) else .nil
noncomputable def L4 {R : Type} : Loops R := fun _ _ _ _ => none
noncomputable def laws_FnExactGive (aT0c0 : Int) (aT0c1 : Int) (aT0c2 : Int) (aT0c3 : Int) (aT0c4 : Int) (aT0c5 : List (Int × Unit)) (aList1 : List (Int × Int × Int × ByteArray × Unit)) : Option (Bool × Unit) :=
  Option.bind (laws_szToken aT0c0 aT0c1 aT0c2 aT0c3 aT0c4 aT0c5 (1048576 : Int)) fun y1 =>
  bif decide (y1.1 < (0 : Int)) then
    some (true, ())
  else
    Option.bind (laws_szItemS aList1 y1.1) fun y2 =>
    bif decide (y2.1 < (0 : Int)) then
      some (true, ())
    else
      Option.bind (laws_toToken aT0c0 aT0c1 aT0c2 aT0c3 aT0c4 aT0c5) fun y3 =>
      Option.bind (laws_toItemS aList1) fun y4 =>
      Option.bind (spec_Give y3.1 y3.2.1 y3.2.2.1 y3.2.2.2.1 y3.2.2.2.2.1 y3.2.2.2.2.2.1 y4.1) fun y5 =>
      Option.bind (laws_toToken aT0c0 aT0c1 aT0c2 aT0c3 aT0c4 aT0c5) fun y6 =>
      Option.bind (laws_toItemS aList1) fun y7 =>
      Option.bind (impl_Give y6.1 y6.2.1 y6.2.2.1 y6.2.2.2.1 y6.2.2.2.2.1 y6.2.2.2.2.2.1 y7.1) fun y8 =>
      Option.bind (laws_eqItemS y8.1 y5.1) fun y9 =>
      bif !y9.1 then
        some (false, ())
      else
        Option.bind (laws_toToken aT0c0 aT0c1 aT0c2 aT0c3 aT0c4 aT0c5) fun y10 =>
        Option.bind (laws_eqToken y6.1 y6.2.1 y6.2.2.1 y6.2.2.2.1 y6.2.2.2.2.1 y6.2.2.2.2.2.1 y10.1 y10.2.1 y10.2.2.1 y10.2.2.2.1 y10.2.2.2.2.1 y10.2.2.2.2.2.1) fun y11 =>
        bif !y11.1 then
          some (false, ())
        else
          Option.bind (laws_toItemS aList1) fun y12 =>
          Option.bind (laws_eqItemS y7.1 y12.1) fun y13 =>
          bif !y13.1 then
            some (false, ())
          else
            Option.bind (laws_markToken y6.1 y6.2.1 y6.2.2.1 y6.2.2.2.1 y6.2.2.2.2.1 y6.2.2.2.2.2.1 (1 : Int)) fun y14 =>
            Option.bind (laws_markItemS y7.1 y14.1) fun y15 =>
            bif decide (y15.1 < (0 : Int)) then
              some (false, ())
            else
              Option.bind (laws_eqItemS y8.1 y5.1) fun y16 =>
              bif !y16.1 then
                some (false, ())
              else
                Option.bind (laws_markItemS y8.1 (1 : Int)) fun y17 =>
                Option.bind (laws_heldItemS y17.2.1 (1 : Int)) fun y18 =>
                bif decide (y18.1 < (0 : Int)) then
                  some (false, ())
                else bif !decide (y18.1 = y17.1) then
                  some (false, ())
                else
                  Option.bind (laws_toToken aT0c0 aT0c1 aT0c2 aT0c3 aT0c4 aT0c5) fun y19 =>
                  Option.bind (laws_toItemS aList1) fun y20 =>
                  Option.bind (impl_Give y19.1 y19.2.1 y19.2.2.1 y19.2.2.2.1 y19.2.2.2.2.1 y19.2.2.2.2.2.1 y20.1) fun y21 =>
                  Option.bind (laws_eqItemS y21.1 y5.1) fun y22 =>
                  bif !y22.1 then
                    some (false, ())
                  else
                    Option.bind (laws_heldItemS y17.2.1 (1 : Int)) fun y23 =>
                    bif decide (y23.1 < (0 : Int)) then
                      some (false, ())
                    else bif !decide (y23.1 = y17.1) then
                      some (false, ())
                    else
                      some (true, ())
noncomputable def x4 (x : Int × Int × Int × Int × Int × (List (Int × Unit)) × (List (Int × Int × Int × ByteArray × Unit)) × Unit) : Option (Bool × Unit) := laws_FnExactGive x.1 x.2.1 x.2.2.1 x.2.2.2.1 x.2.2.2.2.1 x.2.2.2.2.2.1 x.2.2.2.2.2.2.1
noncomputable def sem4 : Sem1 := semOf ps4 rs4 x4
theorem so4 : SemsOk Try.prog (semsOf sl4) := sems_cons k22 (sems_cons k23 (sems_cons k25 (sems_cons k26 (sems_cons k24 (sems_cons k27 (sems_cons k28 (sems_cons k29 (sems_cons k30 (sems_cons k31 (sems_cons k32 (sems_nil)))))))))))
theorem t4_eq (x : denR (headRT (ps4.map some))) : codeK (tabOf tr) (semsOf sl4) D4 L4 code4 (start 92 ps4 x) (finK rs4 ps4) = x4 x := by kernel_rfl
theorem k4 : Known Try.prog 4 sem4 :=
  fn_auto tr_ok eq_ok mixed_ok so4 (D := D4) (code := code4) (n := 92) Try.func4 (by kernel_rfl) (by kernel_rfl) (by kernel_rfl) (fun w0 mu _ hs => (loops_of (l := []) (by kernel_rfl) (List.forall_mem_nil _))) t4_eq

/-! ### f33: laws.szRing -/
noncomputable def code33 : Code := match Try.f33.body with | some c => c | none => .skip
def ps33 : List AP := [.val true [.int .i64, .shr (.cons (.int .i64) .nil)], .val false [.int .i64]]
def rs33 : List RP := [{ src := .tmp 4, agg := false, ps := [.int .i64] }]
noncomputable def sl33 : SemL := [(96, (.shr, .shr, .shr, sem96))]
def D33 : Draws := fun _ => .nil
noncomputable def L33 {R : Type} : Loops R := fun _ _ _ _ => none
noncomputable def laws_szRing (a0c0 : Int) (a0c1 : List (Int × Unit)) (left1 : Int) : Option (Int × Unit) :=
  Option.bind (laws_szIntS a0c1 left1) fun y1 =>
  bif decide (y1.1 < (0 : Int)) then
    some ((-1 : Int), ())
  else
    some (y1.1, ())
noncomputable def x33 (x : Int × (List (Int × Unit)) × Int × Unit) : Option (Int × Unit) := laws_szRing x.1 x.2.1 x.2.2.1
noncomputable def sem33 : Sem1 := semOf ps33 rs33 x33
theorem so33 : SemsOk Try.prog (semsOf sl33) := sems_cons k96 (sems_nil)
theorem t33_eq (x : denR (headRT (ps33.map some))) : codeK (tabOf tr) (semsOf sl33) D33 L33 code33 (start 12 ps33 x) (finK rs33 ps33) = x33 x := by kernel_rfl
theorem k33 : Known Try.prog 33 sem33 :=
  fn_auto tr_ok eq_ok mixed_ok so33 (D := D33) (code := code33) (n := 12) Try.func33 (by kernel_rfl) (by kernel_rfl) (by kernel_rfl) (fun w0 mu _ hs => (loops_of (l := []) (by kernel_rfl) (List.forall_mem_nil _))) t33_eq

/-! ### f41: laws.szBundle -/
noncomputable def code41 : Code := match Try.f41.body with | some c => c | none => .skip
def ps41 : List AP := [.val true [.int .i64, .int .i64, .int .i64, .shr (.cons (.int .i64) (.cons (.int .i64) (.cons (.int .i64) (.cons .str .nil))))], .val false [.int .i64]]
def rs41 : List RP := [{ src := .tmp 4, agg := false, ps := [.int .i64] }]
noncomputable def sl41 : SemL := [(23, (.shr, .shr, .shr, sem23))]
def D41 : Draws := fun _ => .nil
noncomputable def L41 {R : Type} : Loops R := fun _ _ _ _ => none
noncomputable def laws_szBundle (a0c0 : Int) (a0c1 : Int) (a0c2 : Int) (a0c3 : List (Int × Int × Int × ByteArray × Unit)) (left1 : Int) : Option (Int × Unit) :=
  Option.bind (laws_szItemS a0c3 left1) fun y1 =>
  bif decide (y1.1 < (0 : Int)) then
    some ((-1 : Int), ())
  else
    some (y1.1, ())
noncomputable def x41 (x : Int × Int × Int × (List (Int × Int × Int × ByteArray × Unit)) × Int × Unit) : Option (Int × Unit) := laws_szBundle x.1 x.2.1 x.2.2.1 x.2.2.2.1 x.2.2.2.2.1
noncomputable def sem41 : Sem1 := semOf ps41 rs41 x41
theorem so41 : SemsOk Try.prog (semsOf sl41) := sems_cons k23 (sems_nil)
theorem t41_eq (x : denR (headRT (ps41.map some))) : codeK (tabOf tr) (semsOf sl41) D41 L41 code41 (start 12 ps41 x) (finK rs41 ps41) = x41 x := by kernel_rfl
theorem k41 : Known Try.prog 41 sem41 :=
  fn_auto tr_ok eq_ok mixed_ok so41 (D := D41) (code := code41) (n := 12) Try.func41 (by kernel_rfl) (by kernel_rfl) (by kernel_rfl) (fun w0 mu _ hs => (loops_of (l := []) (by kernel_rfl) (List.forall_mem_nil _))) t41_eq

/-! ### f34: laws.szBundleS -/
noncomputable def code34 : Code := match Try.f34.body with | some c => c | none => .skip
def ps34 : List AP := [.val false [.shr (.cons (.int .i64) (.cons (.int .i64) (.cons (.int .i64) (.cons (.sl (.cons (.int .i64) (.cons (.int .i64) (.cons (.int .i64) (.cons .str .nil))))) .nil))))], .val false [.int .i64]]
def rs34 : List RP := [{ src := .tmp 4, agg := false, ps := [.int .i64] }]
noncomputable def sl34 : SemL := [(41, (.shr, .shr, .shr, sem41))]
def D34 : Draws := fun _ => .nil
def hp34_0 : List (Option AP) := [some (.val false [.shr (.cons (.int .i64) (.cons (.int .i64) (.cons (.int .i64) (.cons (.sl (.cons (.int .i64) (.cons (.int .i64) (.cons (.int .i64) (.cons .str .nil))))) .nil))))]), some (.val false [.int .i64]), none, none, none, some (.val false [.int .i64]), none, none, none, none, none, none, none, none, none, none, none, none, none, none, none, none, none, none, none, none, none]
def e34_0 : List (Option AP) := [none, some (.val false [.int .i64]), none, none, none, none, none, none, none, none, none, none, none, none, none, none, none, none, none, none, none, none, none, none, none, none, none]
def q34_0 : List (Option AP) := [none, none, none, none, some (.val false [.int .i64]), none, none, none, none, none, none, none, none, none, none, none, none, none, none, none, none, none, none, none, none, none, none]
abbrev H34_0 : Type := (List (Int × Int × Int × (List (Int × Int × Int × ByteArray × Unit)) × Unit)) × Int × Int × Unit
abbrev E34_0 : Type := Int × Unit
abbrev Q34_0 : Type := Int × Unit
noncomputable def laws_szBundleS_c0 (a0 : List (Int × Int × Int × (List (Int × Int × Int × ByteArray × Unit)) × Unit)) (left1 : Int) (i5 : Int) : Option (Sum H34_0 (Sum E34_0 Q34_0)) :=
  bif decide (i5 < ((List.length a0 : Nat) : Int)) then
    bif decide ((0 : Int) ≤ i5) then Option.bind ((a0)[Int.toNat i5]?) fun r1 =>
      Option.bind (laws_szBundle r1.1 r1.2.1 r1.2.2.1 r1.2.2.2.1 left1) fun y2 =>
      bif decide (y2.1 < (0 : Int)) then
        some (.inr (.inr ((-1 : Int), ())))
      else
        some (.inl (a0, y2.1, IntKind.i64.wrap (i5 + (1 : Int)), ()))
    else none
  else
    some (.inr (.inl (left1, ())))
noncomputable def laws_szBundleS_r0 (x : H34_0) : Option (Sum H34_0 (Sum E34_0 Q34_0)) := laws_szBundleS_c0 x.1 x.2.1 x.2.2.1
noncomputable def L34 {R : Type} : Loops R := fun id _ st k => bif Nat.beq id 0 then loopAt hp34_0 e34_0 q34_0 laws_szBundleS_r0 st k else none
noncomputable def laws_szBundleS (a0 : List (Int × Int × Int × (List (Int × Int × Int × ByteArray × Unit)) × Unit)) (left1 : Int) : Option (Int × Unit) :=
  bif decide (IntKind.i64.wrap (left1 - ((List.length a0 : Nat) : Int)) < (0 : Int)) then
    some ((-1 : Int), ())
  else
    outK (loopV laws_szBundleS_r0 (a0, IntKind.i64.wrap (left1 - ((List.length a0 : Nat) : Int)), (0 : Int), ())) (fun y1 =>
      some (y1.1, ())) (fun y2 =>
      some (y2.1, ()))
noncomputable def x34 (x : (List (Int × Int × Int × (List (Int × Int × Int × ByteArray × Unit)) × Unit)) × Int × Unit) : Option (Int × Unit) := laws_szBundleS x.1 x.2.1
noncomputable def sem34 : Sem1 := semOf ps34 rs34 x34
theorem so34 : SemsOk Try.prog (semsOf sl34) := sems_cons k41 (sems_nil)
noncomputable def b34_0 : Code := nthLoop code34 0
theorem t34_r0_eq (x : denR (headRT hp34_0)) : codeK (tabOf tr) (semsOf sl34) D34 L34 b34_0 (headSt hp34_0 x) (roundK 0 hp34_0 e34_0 q34_0) = laws_szBundleS_r0 x := by kernel_rfl
theorem loop34_0 {R : Type} (r : R) (w0 : World) (mu : Mu) (hs : AnShape ps34 mu) : LoopAt Try.prog w0 mu 27 (L34 : Loops R) r 0 b34_0 :=
  loop_auto tr_ok eq_ok mixed_ok so34 (D := D34) hs (by kernel_rfl) (fun _ => (loops_of (l := []) (by kernel_rfl) (List.forall_mem_nil _))) t34_r0_eq (fun _ _ => rfl)
theorem t34_eq (x : denR (headRT (ps34.map some))) : codeK (tabOf tr) (semsOf sl34) D34 L34 code34 (start 27 ps34 x) (finK rs34 ps34) = x34 x := by kernel_rfl
theorem k34 : Known Try.prog 34 sem34 :=
  fn_auto tr_ok eq_ok mixed_ok so34 (D := D34) (code := code34) (n := 27) Try.func34 (by kernel_rfl) (by kernel_rfl) (by kernel_rfl) (fun w0 mu _ hs => (loops_of (l := [(0, b34_0)]) (by kernel_rfl) (List.forall_mem_cons.2 ⟨loop34_0 _ w0 mu hs, (List.forall_mem_nil _)⟩))) t34_eq

/-! ### f36: laws.toRing -/
noncomputable def code36 : Code := match Try.f36.body with | some c => c | none => .skip
def ps36 : List AP := [.val true [.int .i64, .shr (.cons (.int .i64) .nil)]]
def rs36 : List RP := [{ src := .cell 2, agg := true, ps := [.int .i64, .own (.cons (.int .i64) .nil)] }]
noncomputable def sl36 : SemL := [(53, (.shr, .shr, .shr, sem53))]
def D36 : Draws := fun _ => .nil
noncomputable def L36 {R : Type} : Loops R := fun _ _ _ _ => none
noncomputable def laws_toRing (a0c0 : Int) (a0c1 : List (Int × Unit)) : Option (Int × (List (Int × Unit)) × Unit) :=
  Option.bind (laws_toIntS a0c1) fun y1 =>
  some (a0c0, y1.1, ())
noncomputable def x36 (x : Int × (List (Int × Unit)) × Unit) : Option (Int × (List (Int × Unit)) × Unit) := laws_toRing x.1 x.2.1
noncomputable def sem36 : Sem1 := semOf ps36 rs36 x36
theorem so36 : SemsOk Try.prog (semsOf sl36) := sems_cons k53 (sems_nil)
theorem t36_eq (x : denR (headRT (ps36.map some))) : codeK (tabOf tr) (semsOf sl36) D36 L36 code36 (start 12 ps36 x) (finK rs36 ps36) = x36 x := by kernel_rfl
theorem k36 : Known Try.prog 36 sem36 :=
  fn_auto tr_ok eq_ok mixed_ok so36 (D := D36) (code := code36) (n := 12) Try.func36 (by kernel_rfl) (by kernel_rfl) (by kernel_rfl) (fun w0 mu _ hs => (loops_of (l := []) (by kernel_rfl) (List.forall_mem_nil _))) t36_eq

/-! ### f43: laws.toBundle -/
noncomputable def code43 : Code := match Try.f43.body with | some c => c | none => .skip
def ps43 : List AP := [.val true [.int .i64, .int .i64, .int .i64, .shr (.cons (.int .i64) (.cons (.int .i64) (.cons (.int .i64) (.cons .str .nil))))]]
def rs43 : List RP := [{ src := .cell 2, agg := true, ps := [.int .i64, .int .i64, .int .i64, .own (.cons (.int .i64) (.cons (.int .i64) (.cons (.int .i64) (.cons .str .nil))))] }]
noncomputable def sl43 : SemL := [(26, (.shr, .shr, .shr, sem26))]
def D43 : Draws := fun _ => .nil
noncomputable def L43 {R : Type} : Loops R := fun _ _ _ _ => none
noncomputable def laws_toBundle (a0c0 : Int) (a0c1 : Int) (a0c2 : Int) (a0c3 : List (Int × Int × Int × ByteArray × Unit)) : Option (Int × Int × Int × (List (Int × Int × Int × ByteArray × Unit)) × Unit) :=
  Option.bind (laws_toItemS a0c3) fun y1 =>
  some (a0c0, a0c1, a0c2, y1.1, ())
noncomputable def x43 (x : Int × Int × Int × (List (Int × Int × Int × ByteArray × Unit)) × Unit) : Option (Int × Int × Int × (List (Int × Int × Int × ByteArray × Unit)) × Unit) := laws_toBundle x.1 x.2.1 x.2.2.1 x.2.2.2.1
noncomputable def sem43 : Sem1 := semOf ps43 rs43 x43
theorem so43 : SemsOk Try.prog (semsOf sl43) := sems_cons k26 (sems_nil)
theorem t43_eq (x : denR (headRT (ps43.map some))) : codeK (tabOf tr) (semsOf sl43) D43 L43 code43 (start 18 ps43 x) (finK rs43 ps43) = x43 x := by kernel_rfl
theorem k43 : Known Try.prog 43 sem43 :=
  fn_auto tr_ok eq_ok mixed_ok so43 (D := D43) (code := code43) (n := 18) Try.func43 (by kernel_rfl) (by kernel_rfl) (by kernel_rfl) (fun w0 mu _ hs => (loops_of (l := []) (by kernel_rfl) (List.forall_mem_nil _))) t43_eq

/-! ### f37: laws.toBundleS -/
noncomputable def code37 : Code := match Try.f37.body with | some c => c | none => .skip
def ps37 : List AP := [.val false [.shr (.cons (.int .i64) (.cons (.int .i64) (.cons (.int .i64) (.cons (.sl (.cons (.int .i64) (.cons (.int .i64) (.cons (.int .i64) (.cons .str .nil))))) .nil))))]]
def rs37 : List RP := [{ src := .tmp 2, agg := false, ps := [.own (.cons (.int .i64) (.cons (.int .i64) (.cons (.int .i64) (.cons (.sl (.cons (.int .i64) (.cons (.int .i64) (.cons (.int .i64) (.cons .str .nil))))) .nil))))] }]
noncomputable def sl37 : SemL := [(43, (.shr, .shr, .shr, sem43))]
def D37 : Draws := fun _ => .nil
def hp37_0 : List (Option AP) := [some (.val false [.shr (.cons (.int .i64) (.cons (.int .i64) (.cons (.int .i64) (.cons (.sl (.cons (.int .i64) (.cons (.int .i64) (.cons (.int .i64) (.cons .str .nil))))) .nil))))]), none, none, some (.val false [.own (.cons (.int .i64) (.cons (.int .i64) (.cons (.int .i64) (.cons (.sl (.cons (.int .i64) (.cons (.int .i64) (.cons (.int .i64) (.cons .str .nil))))) .nil))))]), some (.val false [.int .i64]), none, none, none, none, none, none, none, none, none, none, none, none, none, none, none, none, none, none]
def e37_0 : List (Option AP) := [none, none, none, some (.val false [.own (.cons (.int .i64) (.cons (.int .i64) (.cons (.int .i64) (.cons (.sl (.cons (.int .i64) (.cons (.int .i64) (.cons (.int .i64) (.cons .str .nil))))) .nil))))]), none, none, none, none, none, none, none, none, none, none, none, none, none, none, none, none, none, none, none]
def q37_0 : List (Option AP) := [none, none, none, none, none, none, none, none, none, none, none, none, none, none, none, none, none, none, none, none, none, none, none]
abbrev H37_0 : Type := (List (Int × Int × Int × (List (Int × Int × Int × ByteArray × Unit)) × Unit)) × (List (Int × Int × Int × (List (Int × Int × Int × ByteArray × Unit)) × Unit)) × Int × Unit
abbrev E37_0 : Type := (List (Int × Int × Int × (List (Int × Int × Int × ByteArray × Unit)) × Unit)) × Unit
abbrev Q37_0 : Type := Unit
noncomputable def laws_toBundleS_c0 (a0 : List (Int × Int × Int × (List (Int × Int × Int × ByteArray × Unit)) × Unit)) (out3 : List (Int × Int × Int × (List (Int × Int × Int × ByteArray × Unit)) × Unit)) (i4 : Int) : Option (Sum H37_0 (Sum E37_0 Q37_0)) :=
  bif decide (i4 < ((List.length a0 : Nat) : Int)) then
    bif decide ((0 : Int) ≤ i4) then Option.bind ((a0)[Int.toNat i4]?) fun r1 =>
      Option.bind (laws_toBundle r1.1 r1.2.1 r1.2.2.1 r1.2.2.2.1) fun y2 =>
      bif decide ((0 : Int) ≤ i4) then bif Nat.blt (Int.toNat i4) (List.length out3) then Option.bind ((out3)[Int.toNat i4]?) fun _ =>
          some (.inl (a0, List.set out3 (Int.toNat i4) (y2.1, y2.2.1, y2.2.2.1, y2.2.2.2.1, ()), IntKind.i64.wrap (i4 + (1 : Int)), ()))
        else none
      else none
    else none
  else
    some (.inr (.inl (out3, ())))
noncomputable def laws_toBundleS_r0 (x : H37_0) : Option (Sum H37_0 (Sum E37_0 Q37_0)) := laws_toBundleS_c0 x.1 x.2.1 x.2.2.1
noncomputable def L37 {R : Type} : Loops R := fun id _ st k => bif Nat.beq id 0 then loopAt hp37_0 e37_0 q37_0 laws_toBundleS_r0 st k else none
noncomputable def laws_toBundleS (a0 : List (Int × Int × Int × (List (Int × Int × Int × ByteArray × Unit)) × Unit)) : Option ((List (Int × Int × Int × (List (Int × Int × Int × ByteArray × Unit)) × Unit)) × Unit) :=
  bif decide (((List.length a0 : Nat) : Int) = ((List.length a0 : Nat) : Int)) then bif decide ((0 : Int) ≤ ((List.length a0 : Nat) : Int)) then bif Nat.ble ((Int.toNat ((List.length a0 : Nat) : Int)) * 48) lim then outK (loopV laws_toBundleS_r0 (a0, List.replicate (Int.toNat ((List.length a0 : Nat) : Int)) ((0 : Int), (0 : Int), (0 : Int), [], ()), (0 : Int), ())) (fun y1 =>
          some (y1.1, ())) (fun y2 =>
          none)
      else none
    else none
  else none
noncomputable def x37 (x : (List (Int × Int × Int × (List (Int × Int × Int × ByteArray × Unit)) × Unit)) × Unit) : Option ((List (Int × Int × Int × (List (Int × Int × Int × ByteArray × Unit)) × Unit)) × Unit) := laws_toBundleS x.1
noncomputable def sem37 : Sem1 := semOf ps37 rs37 x37
theorem so37 : SemsOk Try.prog (semsOf sl37) := sems_cons k43 (sems_nil)
noncomputable def b37_0 : Code := nthLoop code37 0
theorem t37_r0_eq (x : denR (headRT hp37_0)) : codeK (tabOf tr) (semsOf sl37) D37 L37 b37_0 (headSt hp37_0 x) (roundK 0 hp37_0 e37_0 q37_0) = laws_toBundleS_r0 x := by kernel_rfl
theorem loop37_0 {R : Type} (r : R) (w0 : World) (mu : Mu) (hs : AnShape ps37 mu) : LoopAt Try.prog w0 mu 23 (L37 : Loops R) r 0 b37_0 :=
  loop_auto tr_ok eq_ok mixed_ok so37 (D := D37) hs (by kernel_rfl) (fun _ => (loops_of (l := []) (by kernel_rfl) (List.forall_mem_nil _))) t37_r0_eq (fun _ _ => rfl)
theorem t37_eq (x : denR (headRT (ps37.map some))) : codeK (tabOf tr) (semsOf sl37) D37 L37 code37 (start 23 ps37 x) (finK rs37 ps37) = x37 x := by kernel_rfl
theorem k37 : Known Try.prog 37 sem37 :=
  fn_auto tr_ok eq_ok mixed_ok so37 (D := D37) (code := code37) (n := 23) Try.func37 (by kernel_rfl) (by kernel_rfl) (by kernel_rfl) (fun w0 mu _ hs => (loops_of (l := [(0, b37_0)]) (by kernel_rfl) (List.forall_mem_cons.2 ⟨loop37_0 _ w0 mu hs, (List.forall_mem_nil _)⟩))) t37_eq

/-! ### f147: spec.ItemOk -/
noncomputable def code147 : Code := match Try.f147.body with | some c => c | none => .skip
def ps147 : List AP := [.val true [.int .i64, .int .i64, .int .i64, .str]]
def rs147 : List RP := [{ src := .tmp 2, agg := false, ps := [.bool] }]
noncomputable def sl147 : SemL := [(94, (.shr, .shr, .shr, sem94))]
def D147 : Draws := fun _ => .nil
noncomputable def L147 {R : Type} : Loops R := fun _ _ _ _ => none
noncomputable def spec_ItemOk (m0c0 : Int) (m0c1 : Int) (m0c2 : Int) (m0c3 : ByteArray) : Option (Bool × Unit) :=
  Option.bind (spec_l01In m0c0 (1 : Int) (60 : Int)) fun y1 =>
  bif y1.1 then
    Option.bind (spec_l01In m0c1 (1 : Int) (5 : Int)) fun y2 =>
    bif y2.1 then
      Option.bind (spec_l01In m0c2 (1 : Int) (2 : Int)) fun y3 =>
      bif y3.1 then
        some (decide (((ByteArray.size m0c3 : Nat) : Int) ≤ (60 : Int)), ())
      else
        some (false, ())
    else
      some (false, ())
  else
    some (false, ())
noncomputable def x147 (x : Int × Int × Int × ByteArray × Unit) : Option (Bool × Unit) := spec_ItemOk x.1 x.2.1 x.2.2.1 x.2.2.2.1
noncomputable def sem147 : Sem1 := semOf ps147 rs147 x147
theorem so147 : SemsOk Try.prog (semsOf sl147) := sems_cons k94 (sems_nil)
theorem t147_eq (x : denR (headRT (ps147.map some))) : codeK (tabOf tr) (semsOf sl147) D147 L147 code147 (start 22 ps147 x) (finK rs147 ps147) = x147 x := by kernel_rfl
theorem k147 : Known Try.prog 147 sem147 :=
  fn_auto tr_ok eq_ok mixed_ok so147 (D := D147) (code := code147) (n := 22) Try.func147 (by kernel_rfl) (by kernel_rfl) (by kernel_rfl) (fun w0 mu _ hs => (loops_of (l := []) (by kernel_rfl) (List.forall_mem_nil _))) t147_eq

/-! ### f132: spec.ItemsOk -/
noncomputable def code132 : Code := match Try.f132.body with | some c => c | none => .skip
def ps132 : List AP := [.val false [.shr (.cons (.int .i64) (.cons (.int .i64) (.cons (.int .i64) (.cons .str .nil))))]]
def rs132 : List RP := [{ src := .tmp 2, agg := false, ps := [.bool] }]
noncomputable def sl132 : SemL := [(147, (.shr, .shr, .shr, sem147))]
def D132 : Draws := fun id => bif Nat.beq id 4 then .op 0 .any (.op 1 .any (.op 2 .any (.op 3 .take (.op 4 .one (.op 5 .any (.op 6 .any (.op 7 .any (.op 8 .any (.op 9 .any (.op 10 .any (.op 11 .any (.op 12 .any (.op 13 .any (.op 14 .any (.op 15 .take (.op 16 .any (.op 17 .any (.op 18 .any (.op 19 .any (.op 20 .take (.op 21 .any (.op 22 .any (.op 23 .any (.nil)))))))))))))))))))))))) else .nil
def hp132_0 : List (Option AP) := [some (.val false [.shr (.cons (.int .i64) (.cons (.int .i64) (.cons (.int .i64) (.cons .str .nil))))]), none, none, some (.val false [.int .i64]), none, none, none, none, none, none, none, none, none, none, none, none, none, none, none, none, none, none, none, none, none, none, none, none, none, none, none, none, none, none]
def e132_0 : List (Option AP) := [none, none, none, none, none, none, none, none, none, none, none, none, none, none, none, none, none, none, none, none, none, none, none, none, none, none, none, none, none, none, none, none, none, none]
def q132_0 : List (Option AP) := [none, none, some (.val false [.bool]), none, none, none, none, none, none, none, none, none, none, none, none, none, none, none, none, none, none, none, none, none, none, none, none, none, none, none, none, none, none, none]
abbrev H132_0 : Type := (List (Int × Int × Int × ByteArray × Unit)) × Int × Unit
abbrev E132_0 : Type := Unit
abbrev Q132_0 : Type := Bool × Unit
noncomputable def spec_ItemsOk_c0 (list0 : List (Int × Int × Int × ByteArray × Unit)) (i3 : Int) : Option (Sum H132_0 (Sum E132_0 Q132_0)) :=
  bif decide (i3 < ((List.length list0 : Nat) : Int)) then
    bif decide ((0 : Int) ≤ i3) then Option.bind ((list0)[Int.toNat i3]?) fun r1 =>
      Option.bind (spec_ItemOk r1.1 r1.2.1 r1.2.2.1 r1.2.2.2.1) fun y2 =>
      bif !y2.1 then
        some (.inr (.inr (false, ())))
      else bif decide ((0 : Int) < i3) then
        bif decide ((0 : Int) ≤ IntKind.i64.wrap (i3 - (1 : Int))) then Option.bind ((list0)[Int.toNat (IntKind.i64.wrap (i3 - (1 : Int)))]?) fun r3 =>
          bif decide ((0 : Int) ≤ i3) then Option.bind ((list0)[Int.toNat i3]?) fun r4 =>
            bif decide (r4.1 ≤ r3.1) then
              some (.inr (.inr (false, ())))
            else
              some (.inl (list0, IntKind.i64.wrap (i3 + (1 : Int)), ()))
          else none
        else none
      else
        some (.inl (list0, IntKind.i64.wrap (i3 + (1 : Int)), ()))
    else none
  else
    some (.inr (.inl (())))
noncomputable def spec_ItemsOk_r0 (x : H132_0) : Option (Sum H132_0 (Sum E132_0 Q132_0)) := spec_ItemsOk_c0 x.1 x.2.1
noncomputable def L132 {R : Type} : Loops R := fun id _ st k => bif Nat.beq id 0 then loopAt hp132_0 e132_0 q132_0 spec_ItemsOk_r0 st k else none
noncomputable def spec_ItemsOk (list0 : List (Int × Int × Int × ByteArray × Unit)) : Option (Bool × Unit) :=
  outK (loopV spec_ItemsOk_r0 (list0, (0 : Int), ())) (fun y1 =>
    some (true, ())) (fun y2 =>
    some (y2.1, ()))
noncomputable def x132 (x : (List (Int × Int × Int × ByteArray × Unit)) × Unit) : Option (Bool × Unit) := spec_ItemsOk x.1
noncomputable def sem132 : Sem1 := semOf ps132 rs132 x132
theorem so132 : SemsOk Try.prog (semsOf sl132) := sems_cons k147 (sems_nil)
noncomputable def b132_0 : Code := nthLoop code132 0
theorem t132_r0_eq (x : denR (headRT hp132_0)) : codeK (tabOf tr) (semsOf sl132) D132 L132 b132_0 (headSt hp132_0 x) (roundK 0 hp132_0 e132_0 q132_0) = spec_ItemsOk_r0 x := by kernel_rfl
theorem loop132_0 {R : Type} (r : R) (w0 : World) (mu : Mu) (hs : AnShape ps132 mu) : LoopAt Try.prog w0 mu 34 (L132 : Loops R) r 0 b132_0 :=
  loop_auto tr_ok eq_ok mixed_ok so132 (D := D132) hs (by kernel_rfl) (fun _ => (loops_of (l := []) (by kernel_rfl) (List.forall_mem_nil _))) t132_r0_eq (fun _ _ => rfl)
theorem t132_eq (x : denR (headRT (ps132.map some))) : codeK (tabOf tr) (semsOf sl132) D132 L132 code132 (start 34 ps132 x) (finK rs132 ps132) = x132 x := by kernel_rfl
theorem k132 : Known Try.prog 132 sem132 :=
  fn_auto tr_ok eq_ok mixed_ok so132 (D := D132) (code := code132) (n := 34) Try.func132 (by kernel_rfl) (by kernel_rfl) (by kernel_rfl) (fun w0 mu _ hs => (loops_of (l := [(0, b132_0)]) (by kernel_rfl) (List.forall_mem_cons.2 ⟨loop132_0 _ w0 mu hs, (List.forall_mem_nil _)⟩))) t132_eq

/-! ### f107: spec.BundleOk -/
noncomputable def code107 : Code := match Try.f107.body with | some c => c | none => .skip
def ps107 : List AP := [.val true [.int .i64, .int .i64, .int .i64, .shr (.cons (.int .i64) (.cons (.int .i64) (.cons (.int .i64) (.cons .str .nil))))]]
def rs107 : List RP := [{ src := .tmp 2, agg := false, ps := [.bool] }]
noncomputable def sl107 : SemL := [(94, (.shr, .shr, .shr, sem94)), (132, (.shr, .shr, .shr, sem132))]
def D107 : Draws := fun _ => .nil
noncomputable def L107 {R : Type} : Loops R := fun _ _ _ _ => none
noncomputable def spec_BundleOk (b0c0 : Int) (b0c1 : Int) (b0c2 : Int) (b0c3 : List (Int × Int × Int × ByteArray × Unit)) : Option (Bool × Unit) :=
  Option.bind (spec_l01In b0c0 (1 : Int) (5 : Int)) fun y1 =>
  bif y1.1 then
    Option.bind (spec_l01In b0c1 (1 : Int) (9 : Int)) fun y2 =>
    bif y2.1 then
      Option.bind (spec_l01In b0c2 (0 : Int) (IntKind.i64.wrap (b0c1 - (1 : Int)))) fun y3 =>
      bif y3.1 then
        Option.bind (spec_ItemsOk b0c3) fun y4 =>
        bif y4.1 then
          bif decide ((0 : Int) < b0c2) then
            some (true, ())
          else
            some (decide (((List.length b0c3 : Nat) : Int) = (0 : Int)), ())
        else
          some (false, ())
      else
        some (false, ())
    else
      some (false, ())
  else
    some (false, ())
noncomputable def x107 (x : Int × Int × Int × (List (Int × Int × Int × ByteArray × Unit)) × Unit) : Option (Bool × Unit) := spec_BundleOk x.1 x.2.1 x.2.2.1 x.2.2.2.1
noncomputable def sem107 : Sem1 := semOf ps107 rs107 x107
theorem so107 : SemsOk Try.prog (semsOf sl107) := sems_cons k94 (sems_cons k132 (sems_nil))
theorem t107_eq (x : denR (headRT (ps107.map some))) : codeK (tabOf tr) (semsOf sl107) D107 L107 code107 (start 35 ps107 x) (finK rs107 ps107) = x107 x := by kernel_rfl
theorem k107 : Known Try.prog 107 sem107 :=
  fn_auto tr_ok eq_ok mixed_ok so107 (D := D107) (code := code107) (n := 35) Try.func107 (by kernel_rfl) (by kernel_rfl) (by kernel_rfl) (fun w0 mu _ hs => (loops_of (l := []) (by kernel_rfl) (List.forall_mem_nil _))) t107_eq

/-! ### f103: spec.l13First -/
noncomputable def code103 : Code := match Try.f103.body with | some c => c | none => .skip
def ps103 : List AP := [.val true [.int .i64, .shr (.cons (.int .i64) .nil)], .val false [.shr (.cons (.int .i64) (.cons (.int .i64) (.cons (.int .i64) (.cons (.sl (.cons (.int .i64) (.cons (.int .i64) (.cons (.int .i64) (.cons .str .nil))))) .nil))))], .val false [.int .i64]]
def rs103 : List RP := [{ src := .cell 6, agg := true, ps := [.int .i64, .int .i64, .int .i64, .shr (.cons (.int .i64) (.cons (.int .i64) (.cons (.int .i64) (.cons .str .nil))))] }, { src := .tmp 7, agg := false, ps := [.bool] }]
noncomputable def sl103 : SemL := [(107, (.shr, .shr, .shr, sem107))]
def D103 : Draws := fun id => bif Nat.beq id 4 then .op 0 .any (.op 1 .any (.op 2 .any (.op 3 .any (.op 4 .take (.op 5 .any (.op 6 .any (.op 7 .any (.op 8 .any (.op 9 .any (.op 10 .any (.op 11 .any (.op 12 .take (.op 13 .any (.op 14 .take (.op 15 .any (.op 16 .any (.op 17 .any (.op 18 .any (.op 19 .any (.op 20 .any (.op 21 .take (.op 22 .one (.op 23 .any (.nil)))))))))))))))))))))))) else .nil
def hp103_0 : List (Option AP) := [none, some (.val false [.shr (.cons (.int .i64) (.cons (.int .i64) (.cons (.int .i64) (.cons (.sl (.cons (.int .i64) (.cons (.int .i64) (.cons (.int .i64) (.cons .str .nil))))) .nil))))]), some (.val false [.int .i64]), some (.box false [.int .i64, .shr (.cons (.int .i64) .nil)]), none, none, some (.box false [.int .i64, .int .i64, .int .i64, .own (.cons (.int .i64) (.cons (.int .i64) (.cons (.int .i64) (.cons .str .nil))))]), none, some (.val false [.int .i64]), none, none, none, none, none, none, none, none, none, none, none, none, none, none, none, none, none, none, none, none, none, none, none, none, none, none, none, none, none, none, none, none, none, none, none]
def e103_0 : List (Option AP) := [none, none, none, none, none, none, some (.box false [.int .i64, .int .i64, .int .i64, .own (.cons (.int .i64) (.cons (.int .i64) (.cons (.int .i64) (.cons .str .nil))))]), none, none, none, none, none, none, none, none, none, none, none, none, none, none, none, none, none, none, none, none, none, none, none, none, none, none, none, none, none, none, none, none, none, none, none, none, none]
def q103_0 : List (Option AP) := [none, none, none, none, none, none, some (.box false [.int .i64, .int .i64, .int .i64, .shr (.cons (.int .i64) (.cons (.int .i64) (.cons (.int .i64) (.cons .str .nil))))]), some (.val false [.bool]), none, none, none, none, none, none, none, none, none, none, none, none, none, none, none, none, none, none, none, none, none, none, none, none, none, none, none, none, none, none, none, none, none, none, none, none]
abbrev H103_0 : Type := (List (Int × Int × Int × (List (Int × Int × Int × ByteArray × Unit)) × Unit)) × Int × Int × (List (Int × Unit)) × Int × Int × Int × (List (Int × Int × Int × ByteArray × Unit)) × Int × Unit
abbrev E103_0 : Type := Int × Int × Int × (List (Int × Int × Int × ByteArray × Unit)) × Unit
abbrev Q103_0 : Type := Int × Int × Int × (List (Int × Int × Int × ByteArray × Unit)) × Bool × Unit
noncomputable def spec_l13First_c0 (list1 : List (Int × Int × Int × (List (Int × Int × Int × ByteArray × Unit)) × Unit)) (id2 : Int) (r3c0 : Int) (r3c1 : List (Int × Unit)) (t6c0 : Int) (t6c1 : Int) (t6c2 : Int) (t6c3 : List (Int × Int × Int × ByteArray × Unit)) (i8 : Int) : Option (Sum H103_0 (Sum E103_0 Q103_0)) :=
  bif decide (i8 < ((List.length list1 : Nat) : Int)) then
    bif decide ((0 : Int) ≤ i8) then Option.bind ((list1)[Int.toNat i8]?) fun r1 =>
      bif decide (r1.1 = id2) then
        bif decide ((0 : Int) ≤ i8) then Option.bind ((list1)[Int.toNat i8]?) fun r2 =>
          bif decide (r2.2.1 = r3c0) then
            bif decide ((0 : Int) ≤ i8) then Option.bind ((list1)[Int.toNat i8]?) fun r3 =>
              Option.bind (spec_BundleOk r3.1 r3.2.1 r3.2.2.1 r3.2.2.2.1) fun y4 =>
              bif y4.1 then
                bif decide ((0 : Int) ≤ i8) then Option.bind ((list1)[Int.toNat i8]?) fun r5 =>
                  some (.inr (.inr (r5.1, r5.2.1, r5.2.2.1, r5.2.2.2.1, true, ())))
                else none
              else
                some (.inl (list1, id2, r3c0, r3c1, t6c0, t6c1, t6c2, t6c3, IntKind.i64.wrap (i8 + (1 : Int)), ()))
            else none
          else
            some (.inl (list1, id2, r3c0, r3c1, t6c0, t6c1, t6c2, t6c3, IntKind.i64.wrap (i8 + (1 : Int)), ()))
        else none
      else
        some (.inl (list1, id2, r3c0, r3c1, t6c0, t6c1, t6c2, t6c3, IntKind.i64.wrap (i8 + (1 : Int)), ()))
    else none
  else
    some (.inr (.inl (t6c0, t6c1, t6c2, t6c3, ())))
noncomputable def spec_l13First_r0 (x : H103_0) : Option (Sum H103_0 (Sum E103_0 Q103_0)) := spec_l13First_c0 x.1 x.2.1 x.2.2.1 x.2.2.2.1 x.2.2.2.2.1 x.2.2.2.2.2.1 x.2.2.2.2.2.2.1 x.2.2.2.2.2.2.2.1 x.2.2.2.2.2.2.2.2.1
noncomputable def L103 {R : Type} : Loops R := fun id _ st k => bif Nat.beq id 0 then loopAt hp103_0 e103_0 q103_0 spec_l13First_r0 st k else none
noncomputable def spec_l13First (r0c0 : Int) (r0c1 : List (Int × Unit)) (list1 : List (Int × Int × Int × (List (Int × Int × Int × ByteArray × Unit)) × Unit)) (id2 : Int) : Option (Int × Int × Int × (List (Int × Int × Int × ByteArray × Unit)) × Bool × Unit) :=
  outK (loopV spec_l13First_r0 (list1, id2, r0c0, r0c1, (0 : Int), (0 : Int), (0 : Int), [], (0 : Int), ())) (fun y1 =>
    some ((0 : Int), (0 : Int), (0 : Int), [], false, ())) (fun y2 =>
    some (y2.1, y2.2.1, y2.2.2.1, y2.2.2.2.1, y2.2.2.2.2.1, ()))
noncomputable def x103 (x : Int × (List (Int × Unit)) × (List (Int × Int × Int × (List (Int × Int × Int × ByteArray × Unit)) × Unit)) × Int × Unit) : Option (Int × Int × Int × (List (Int × Int × Int × ByteArray × Unit)) × Bool × Unit) := spec_l13First x.1 x.2.1 x.2.2.1 x.2.2.2.1
noncomputable def sem103 : Sem1 := semOf ps103 rs103 x103
theorem so103 : SemsOk Try.prog (semsOf sl103) := sems_cons k107 (sems_nil)
noncomputable def b103_0 : Code := nthLoop code103 0
theorem t103_r0_eq (x : denR (headRT hp103_0)) : codeK (tabOf tr) (semsOf sl103) D103 L103 b103_0 (headSt hp103_0 x) (roundK 0 hp103_0 e103_0 q103_0) = spec_l13First_r0 x := by kernel_rfl
theorem loop103_0 {R : Type} (r : R) (w0 : World) (mu : Mu) (hs : AnShape ps103 mu) : LoopAt Try.prog w0 mu 44 (L103 : Loops R) r 0 b103_0 :=
  loop_auto tr_ok eq_ok mixed_ok so103 (D := D103) hs (by kernel_rfl) (fun _ => (loops_of (l := []) (by kernel_rfl) (List.forall_mem_nil _))) t103_r0_eq (fun _ _ => rfl)
theorem t103_eq (x : denR (headRT (ps103.map some))) : codeK (tabOf tr) (semsOf sl103) D103 L103 code103 (start 44 ps103 x) (finK rs103 ps103) = x103 x := by kernel_rfl
theorem k103 : Known Try.prog 103 sem103 :=
  fn_auto tr_ok eq_ok mixed_ok so103 (D := D103) (code := code103) (n := 44) Try.func103 (by kernel_rfl) (by kernel_rfl) (by kernel_rfl) (fun w0 mu _ hs => (loops_of (l := [(0, b103_0)]) (by kernel_rfl) (List.forall_mem_cons.2 ⟨loop103_0 _ w0 mu hs, (List.forall_mem_nil _)⟩))) t103_eq

/-! ### f35: spec.AllHere -/
noncomputable def code35 : Code := match Try.f35.body with | some c => c | none => .skip
def ps35 : List AP := [.val true [.int .i64, .shr (.cons (.int .i64) .nil)], .val false [.shr (.cons (.int .i64) (.cons (.int .i64) (.cons (.int .i64) (.cons (.sl (.cons (.int .i64) (.cons (.int .i64) (.cons (.int .i64) (.cons .str .nil))))) .nil))))]]
def rs35 : List RP := [{ src := .tmp 4, agg := false, ps := [.bool] }]
noncomputable def sl35 : SemL := [(103, (.shr, .shr, .shr, sem103))]
def D35 : Draws := fun id => bif Nat.beq id 4 then .op 0 .take (.op 1 .any (.op 2 .any (.op 3 .take (.op 4 .any (.op 5 .any (.op 6 .take (.alt (.op 7 .one (.op 8 .any (.op 9 .any (.op 10 .any (.op 11 .one (.op 12 .last (.op 13 .any (.nil)))))))) (.op 11 .one (.op 7 .one (.op 8 .any (.op 9 .any (.op 10 .any (.op 12 .last (.op 13 .any (.nil))))))))))))))) else .nil
def hp35_0 : List (Option AP) := [none, some (.val false [.shr (.cons (.int .i64) (.cons (.int .i64) (.cons (.int .i64) (.cons (.sl (.cons (.int .i64) (.cons (.int .i64) (.cons (.int .i64) (.cons .str .nil))))) .nil))))]), some (.box false [.int .i64, .shr (.cons (.int .i64) .nil)]), none, none, some (.val false [.int .i64]), none, none, none, none, none, none, none, none, none, none, none, none, none, none, none, none, none, none, none, none, none, none]
def e35_0 : List (Option AP) := [none, none, none, none, none, none, none, none, none, none, none, none, none, none, none, none, none, none, none, none, none, none, none, none, none, none, none, none]
def q35_0 : List (Option AP) := [none, none, none, none, some (.val false [.bool]), none, none, none, none, none, none, none, none, none, none, none, none, none, none, none, none, none, none, none, none, none, none, none]
abbrev H35_0 : Type := (List (Int × Int × Int × (List (Int × Int × Int × ByteArray × Unit)) × Unit)) × Int × (List (Int × Unit)) × Int × Unit
abbrev E35_0 : Type := Unit
abbrev Q35_0 : Type := Bool × Unit
noncomputable def spec_AllHere_c0 (list1 : List (Int × Int × Int × (List (Int × Int × Int × ByteArray × Unit)) × Unit)) (r2c0 : Int) (r2c1 : List (Int × Unit)) (i5 : Int) : Option (Sum H35_0 (Sum E35_0 Q35_0)) :=
  bif decide (i5 < ((List.length r2c1 : Nat) : Int)) then
    bif decide ((0 : Int) ≤ i5) then Option.bind ((r2c1)[Int.toNat i5]?) fun r1 =>
      Option.bind (spec_l13First r2c0 r2c1 list1 r1.1) fun y2 =>
      bif !y2.2.2.2.2.1 then
        some (.inr (.inr (false, ())))
      else
        some (.inl (list1, r2c0, r2c1, IntKind.i64.wrap (i5 + (1 : Int)), ()))
    else none
  else
    some (.inr (.inl (())))
noncomputable def spec_AllHere_o0 (list1 : List (Int × Int × Int × (List (Int × Int × Int × ByteArray × Unit)) × Unit)) (r2c0 : Int) (r2c1 : List (Int × Unit)) (i5 : Int) : Option (Sum H35_0 (Sum E35_0 Q35_0)) :=
  bif decide (i5 < ((List.length r2c1 : Nat) : Int)) then
    bif decide ((0 : Int) ≤ i5) then Option.bind ((r2c1)[Int.toNat i5]?) fun r1 =>
      both (Option.bind (spec_l13First r2c0 r2c1 list1 r1.1) fun y2 =>
        bif !y2.2.2.2.2.1 then
          some (.inr (.inr (false, ())))
        else
          some (.inl (list1, r2c0, r2c1, IntKind.i64.wrap (i5 + (1 : Int)), ()))) (Option.bind (spec_l13First r2c0 r2c1 list1 r1.1) fun y2 =>
        bif !y2.2.2.2.2.1 then
          some (.inr (.inr (false, ())))
        else
          some (.inl (list1, r2c0, r2c1, IntKind.i64.wrap (i5 + (1 : Int)), ())))
    else none
  else
    some (.inr (.inl (())))
theorem spec_AllHere_o0_eq (list1 : List (Int × Int × Int × (List (Int × Int × Int × ByteArray × Unit)) × Unit)) (r2c0 : Int) (r2c1 : List (Int × Unit)) (i5 : Int) : spec_AllHere_o0 list1 r2c0 r2c1 i5 = spec_AllHere_c0 list1 r2c0 r2c1 i5 := by
  simp only [spec_AllHere_o0, spec_AllHere_c0, both_self]
noncomputable def spec_AllHere_r0 (x : H35_0) : Option (Sum H35_0 (Sum E35_0 Q35_0)) := spec_AllHere_c0 x.1 x.2.1 x.2.2.1 x.2.2.2.1
noncomputable def L35 {R : Type} : Loops R := fun id _ st k => bif Nat.beq id 0 then loopAt hp35_0 e35_0 q35_0 spec_AllHere_r0 st k else none
noncomputable def spec_AllHere (r0c0 : Int) (r0c1 : List (Int × Unit)) (list1 : List (Int × Int × Int × (List (Int × Int × Int × ByteArray × Unit)) × Unit)) : Option (Bool × Unit) :=
  outK (loopV spec_AllHere_r0 (list1, r0c0, r0c1, (0 : Int), ())) (fun y1 =>
    some (true, ())) (fun y2 =>
    some (y2.1, ()))
noncomputable def x35 (x : Int × (List (Int × Unit)) × (List (Int × Int × Int × (List (Int × Int × Int × ByteArray × Unit)) × Unit)) × Unit) : Option (Bool × Unit) := spec_AllHere x.1 x.2.1 x.2.2.1
noncomputable def sem35 : Sem1 := semOf ps35 rs35 x35
theorem so35 : SemsOk Try.prog (semsOf sl35) := sems_cons k103 (sems_nil)
noncomputable def b35_0 : Code := nthLoop code35 0
theorem t35_r0_eq (x : denR (headRT hp35_0)) : codeK (tabOf tr) (semsOf sl35) D35 L35 b35_0 (headSt hp35_0 x) (roundK 0 hp35_0 e35_0 q35_0) = spec_AllHere_r0 x := (show _ = spec_AllHere_o0 x.1 x.2.1 x.2.2.1 x.2.2.2.1 from by kernel_rfl).trans (spec_AllHere_o0_eq x.1 x.2.1 x.2.2.1 x.2.2.2.1)
theorem loop35_0 {R : Type} (r : R) (w0 : World) (mu : Mu) (hs : AnShape ps35 mu) : LoopAt Try.prog w0 mu 28 (L35 : Loops R) r 0 b35_0 :=
  loop_auto tr_ok eq_ok mixed_ok so35 (D := D35) hs (by kernel_rfl) (fun _ => (loops_of (l := []) (by kernel_rfl) (List.forall_mem_nil _))) t35_r0_eq (fun _ _ => rfl)
theorem t35_eq (x : denR (headRT (ps35.map some))) : codeK (tabOf tr) (semsOf sl35) D35 L35 code35 (start 28 ps35 x) (finK rs35 ps35) = x35 x := by kernel_rfl
theorem k35 : Known Try.prog 35 sem35 :=
  fn_auto tr_ok eq_ok mixed_ok so35 (D := D35) (code := code35) (n := 28) Try.func35 (by kernel_rfl) (by kernel_rfl) (by kernel_rfl) (fun w0 mu _ hs => (loops_of (l := [(0, b35_0)]) (by kernel_rfl) (List.forall_mem_cons.2 ⟨loop35_0 _ w0 mu hs, (List.forall_mem_nil _)⟩))) t35_eq

/-! ### f39: laws.eqRing -/
noncomputable def code39 : Code := match Try.f39.body with | some c => c | none => .skip
def ps39 : List AP := [.val true [.int .i64, .shr (.cons (.int .i64) .nil)], .val true [.int .i64, .shr (.cons (.int .i64) .nil)]]
def rs39 : List RP := [{ src := .tmp 4, agg := false, ps := [.bool] }]
noncomputable def sl39 : SemL := [(55, (.shr, .shr, .shr, sem55))]
def D39 : Draws := fun _ => .nil
noncomputable def L39 {R : Type} : Loops R := fun _ _ _ _ => none
noncomputable def laws_eqRing (a0c0 : Int) (a0c1 : List (Int × Unit)) (b1c0 : Int) (b1c1 : List (Int × Unit)) : Option (Bool × Unit) :=
  bif !decide (a0c0 = b1c0) then
    some (false, ())
  else
    Option.bind (laws_eqIntS a0c1 b1c1) fun y1 =>
    bif !y1.1 then
      some (false, ())
    else
      some (true, ())
noncomputable def x39 (x : Int × (List (Int × Unit)) × Int × (List (Int × Unit)) × Unit) : Option (Bool × Unit) := laws_eqRing x.1 x.2.1 x.2.2.1 x.2.2.2.1
noncomputable def sem39 : Sem1 := semOf ps39 rs39 x39
theorem so39 : SemsOk Try.prog (semsOf sl39) := sems_cons k55 (sems_nil)
theorem t39_eq (x : denR (headRT (ps39.map some))) : codeK (tabOf tr) (semsOf sl39) D39 L39 code39 (start 16 ps39 x) (finK rs39 ps39) = x39 x := by kernel_rfl
theorem k39 : Known Try.prog 39 sem39 :=
  fn_auto tr_ok eq_ok mixed_ok so39 (D := D39) (code := code39) (n := 16) Try.func39 (by kernel_rfl) (by kernel_rfl) (by kernel_rfl) (fun w0 mu _ hs => (loops_of (l := []) (by kernel_rfl) (List.forall_mem_nil _))) t39_eq

/-! ### f45: laws.eqBundle -/
noncomputable def code45 : Code := match Try.f45.body with | some c => c | none => .skip
def ps45 : List AP := [.val true [.int .i64, .int .i64, .int .i64, .shr (.cons (.int .i64) (.cons (.int .i64) (.cons (.int .i64) (.cons .str .nil))))], .val true [.int .i64, .int .i64, .int .i64, .shr (.cons (.int .i64) (.cons (.int .i64) (.cons (.int .i64) (.cons .str .nil))))]]
def rs45 : List RP := [{ src := .tmp 4, agg := false, ps := [.bool] }]
noncomputable def sl45 : SemL := [(28, (.shr, .shr, .shr, sem28))]
def D45 : Draws := fun _ => .nil
noncomputable def L45 {R : Type} : Loops R := fun _ _ _ _ => none
noncomputable def laws_eqBundle (a0c0 : Int) (a0c1 : Int) (a0c2 : Int) (a0c3 : List (Int × Int × Int × ByteArray × Unit)) (b1c0 : Int) (b1c1 : Int) (b1c2 : Int) (b1c3 : List (Int × Int × Int × ByteArray × Unit)) : Option (Bool × Unit) :=
  bif !decide (a0c0 = b1c0) then
    some (false, ())
  else bif !decide (a0c1 = b1c1) then
    some (false, ())
  else bif !decide (a0c2 = b1c2) then
    some (false, ())
  else
    Option.bind (laws_eqItemS a0c3 b1c3) fun y1 =>
    bif !y1.1 then
      some (false, ())
    else
      some (true, ())
noncomputable def x45 (x : Int × Int × Int × (List (Int × Int × Int × ByteArray × Unit)) × Int × Int × Int × (List (Int × Int × Int × ByteArray × Unit)) × Unit) : Option (Bool × Unit) := laws_eqBundle x.1 x.2.1 x.2.2.1 x.2.2.2.1 x.2.2.2.2.1 x.2.2.2.2.2.1 x.2.2.2.2.2.2.1 x.2.2.2.2.2.2.2.1
noncomputable def sem45 : Sem1 := semOf ps45 rs45 x45
theorem so45 : SemsOk Try.prog (semsOf sl45) := sems_cons k28 (sems_nil)
theorem t45_eq (x : denR (headRT (ps45.map some))) : codeK (tabOf tr) (semsOf sl45) D45 L45 code45 (start 26 ps45 x) (finK rs45 ps45) = x45 x := by kernel_rfl
theorem k45 : Known Try.prog 45 sem45 :=
  fn_auto tr_ok eq_ok mixed_ok so45 (D := D45) (code := code45) (n := 26) Try.func45 (by kernel_rfl) (by kernel_rfl) (by kernel_rfl) (fun w0 mu _ hs => (loops_of (l := []) (by kernel_rfl) (List.forall_mem_nil _))) t45_eq

/-! ### f40: laws.eqBundleS -/
noncomputable def code40 : Code := match Try.f40.body with | some c => c | none => .skip
def ps40 : List AP := [.val false [.shr (.cons (.int .i64) (.cons (.int .i64) (.cons (.int .i64) (.cons (.sl (.cons (.int .i64) (.cons (.int .i64) (.cons (.int .i64) (.cons .str .nil))))) .nil))))], .val false [.shr (.cons (.int .i64) (.cons (.int .i64) (.cons (.int .i64) (.cons (.sl (.cons (.int .i64) (.cons (.int .i64) (.cons (.int .i64) (.cons .str .nil))))) .nil))))]]
def rs40 : List RP := [{ src := .tmp 4, agg := false, ps := [.bool] }]
noncomputable def sl40 : SemL := [(45, (.shr, .shr, .shr, sem45))]
def D40 : Draws := fun id => bif Nat.beq id 6 then .op 0 .any (.op 1 .any (.op 2 .any (.op 3 .take (.op 4 .any (.op 5 .any (.op 6 .any (.op 7 .take (.op 8 .one (.op 9 .any (.nil)))))))))) else .nil
def hp40_0 : List (Option AP) := [some (.val false [.shr (.cons (.int .i64) (.cons (.int .i64) (.cons (.int .i64) (.cons (.sl (.cons (.int .i64) (.cons (.int .i64) (.cons (.int .i64) (.cons .str .nil))))) .nil))))]), some (.val false [.shr (.cons (.int .i64) (.cons (.int .i64) (.cons (.int .i64) (.cons (.sl (.cons (.int .i64) (.cons (.int .i64) (.cons (.int .i64) (.cons .str .nil))))) .nil))))]), none, none, none, some (.val false [.int .i64]), none, none, none, none, none, none, none, none, none, none, none, none, none, none, none, none, none, none, none, none, none]
def e40_0 : List (Option AP) := [none, none, none, none, none, none, none, none, none, none, none, none, none, none, none, none, none, none, none, none, none, none, none, none, none, none, none]
def q40_0 : List (Option AP) := [none, none, none, none, some (.val false [.bool]), none, none, none, none, none, none, none, none, none, none, none, none, none, none, none, none, none, none, none, none, none, none]
abbrev H40_0 : Type := (List (Int × Int × Int × (List (Int × Int × Int × ByteArray × Unit)) × Unit)) × (List (Int × Int × Int × (List (Int × Int × Int × ByteArray × Unit)) × Unit)) × Int × Unit
abbrev E40_0 : Type := Unit
abbrev Q40_0 : Type := Bool × Unit
noncomputable def laws_eqBundleS_c0 (a0 : List (Int × Int × Int × (List (Int × Int × Int × ByteArray × Unit)) × Unit)) (b1 : List (Int × Int × Int × (List (Int × Int × Int × ByteArray × Unit)) × Unit)) (i5 : Int) : Option (Sum H40_0 (Sum E40_0 Q40_0)) :=
  bif decide (i5 < ((List.length a0 : Nat) : Int)) then
    bif decide ((0 : Int) ≤ i5) then Option.bind ((a0)[Int.toNat i5]?) fun r1 =>
      bif decide ((0 : Int) ≤ i5) then Option.bind ((b1)[Int.toNat i5]?) fun r2 =>
        Option.bind (laws_eqBundle r1.1 r1.2.1 r1.2.2.1 r1.2.2.2.1 r2.1 r2.2.1 r2.2.2.1 r2.2.2.2.1) fun y3 =>
        bif !y3.1 then
          some (.inr (.inr (false, ())))
        else
          some (.inl (a0, b1, IntKind.i64.wrap (i5 + (1 : Int)), ()))
      else none
    else none
  else
    some (.inr (.inl (())))
noncomputable def laws_eqBundleS_r0 (x : H40_0) : Option (Sum H40_0 (Sum E40_0 Q40_0)) := laws_eqBundleS_c0 x.1 x.2.1 x.2.2.1
noncomputable def L40 {R : Type} : Loops R := fun id _ st k => bif Nat.beq id 0 then loopAt hp40_0 e40_0 q40_0 laws_eqBundleS_r0 st k else none
noncomputable def laws_eqBundleS (a0 : List (Int × Int × Int × (List (Int × Int × Int × ByteArray × Unit)) × Unit)) (b1 : List (Int × Int × Int × (List (Int × Int × Int × ByteArray × Unit)) × Unit)) : Option (Bool × Unit) :=
  bif !decide (((List.length a0 : Nat) : Int) = ((List.length b1 : Nat) : Int)) then
    some (false, ())
  else
    outK (loopV laws_eqBundleS_r0 (a0, b1, (0 : Int), ())) (fun y1 =>
      some (true, ())) (fun y2 =>
      some (y2.1, ()))
noncomputable def x40 (x : (List (Int × Int × Int × (List (Int × Int × Int × ByteArray × Unit)) × Unit)) × (List (Int × Int × Int × (List (Int × Int × Int × ByteArray × Unit)) × Unit)) × Unit) : Option (Bool × Unit) := laws_eqBundleS x.1 x.2.1
noncomputable def sem40 : Sem1 := semOf ps40 rs40 x40
theorem so40 : SemsOk Try.prog (semsOf sl40) := sems_cons k45 (sems_nil)
noncomputable def b40_0 : Code := nthLoop code40 0
theorem t40_r0_eq (x : denR (headRT hp40_0)) : codeK (tabOf tr) (semsOf sl40) D40 L40 b40_0 (headSt hp40_0 x) (roundK 0 hp40_0 e40_0 q40_0) = laws_eqBundleS_r0 x := by kernel_rfl
theorem loop40_0 {R : Type} (r : R) (w0 : World) (mu : Mu) (hs : AnShape ps40 mu) : LoopAt Try.prog w0 mu 27 (L40 : Loops R) r 0 b40_0 :=
  loop_auto tr_ok eq_ok mixed_ok so40 (D := D40) hs (by kernel_rfl) (fun _ => (loops_of (l := []) (by kernel_rfl) (List.forall_mem_nil _))) t40_r0_eq (fun _ _ => rfl)
theorem t40_eq (x : denR (headRT (ps40.map some))) : codeK (tabOf tr) (semsOf sl40) D40 L40 code40 (start 27 ps40 x) (finK rs40 ps40) = x40 x := by kernel_rfl
theorem k40 : Known Try.prog 40 sem40 :=
  fn_auto tr_ok eq_ok mixed_ok so40 (D := D40) (code := code40) (n := 27) Try.func40 (by kernel_rfl) (by kernel_rfl) (by kernel_rfl) (fun w0 mu _ hs => (loops_of (l := [(0, b40_0)]) (by kernel_rfl) (List.forall_mem_cons.2 ⟨loop40_0 _ w0 mu hs, (List.forall_mem_nil _)⟩))) t40_eq

/-! ### f108: spec.l05Byte -/
noncomputable def code108 : Code := match Try.f108.body with | some c => c | none => .skip
def ps108 : List AP := [.val false [.int .i64]]
def rs108 : List RP := [{ src := .tmp 2, agg := false, ps := [.str] }]
noncomputable def sl108 : SemL := []
def D108 : Draws := fun _ => .nil
noncomputable def L108 {R : Type} : Loops R := fun _ _ _ _ => none
noncomputable def spec_l05Byte (n0 : Int) : Option (ByteArray × Unit) :=
  some (bytesOf [(IntKind.u8.wrap n0, ())], ())
noncomputable def x108 (x : Int × Unit) : Option (ByteArray × Unit) := spec_l05Byte x.1
noncomputable def sem108 : Sem1 := semOf ps108 rs108 x108
theorem so108 : SemsOk Try.prog (semsOf sl108) := sems_nil
theorem t108_eq (x : denR (headRT (ps108.map some))) : codeK (tabOf tr) (semsOf sl108) D108 L108 code108 (start 7 ps108 x) (finK rs108 ps108) = x108 x := by kernel_rfl
theorem k108 : Known Try.prog 108 sem108 :=
  fn_auto tr_ok eq_ok mixed_ok so108 (D := D108) (code := code108) (n := 7) Try.func108 (by kernel_rfl) (by kernel_rfl) (by kernel_rfl) (fun w0 mu _ hs => (loops_of (l := []) (by kernel_rfl) (List.forall_mem_nil _))) t108_eq

/-! ### f109: spec.l01Var -/
noncomputable def code109 : Code := match Try.f109.body with | some c => c | none => .skip
def ps109 : List AP := [.val false [.int .i64]]
def rs109 : List RP := [{ src := .tmp 2, agg := false, ps := [.str] }]
noncomputable def sl109 : SemL := []
def D109 : Draws := fun _ => .nil
def hp109_0 : List (Option AP) := [some (.val false [.int .i64]), none, none, some (.val false [.own (.cons (.int .u8) .nil)]), none, none, none, none, none, none, none, none, none, none, none, none, none, none, none, none, none, none]
def e109_0 : List (Option AP) := [some (.val false [.int .i64]), none, none, some (.val false [.own (.cons (.int .u8) .nil)]), none, none, none, none, none, none, none, none, none, none, none, none, none, none, none, none, none, none]
def q109_0 : List (Option AP) := [none, none, none, none, none, none, none, none, none, none, none, none, none, none, none, none, none, none, none, none, none, none]
abbrev H109_0 : Type := Int × (List (Int × Unit)) × Unit
abbrev E109_0 : Type := Int × (List (Int × Unit)) × Unit
abbrev Q109_0 : Type := Unit
noncomputable def spec_l01Var_c0 (n0 : Int) (out3 : List (Int × Unit)) : Option (Sum H109_0 (Sum E109_0 Q109_0)) :=
  bif decide ((127 : Int) < n0) then
    bif Nat.ble (((List.length out3) + 1) * 1) lim then some (.inl (IntKind.i64.wrap (Int.tdiv n0 (128 : Int)), out3 ++ [(IntKind.u8.wrap (IntKind.i64.wrap ((Int.tmod n0 (128 : Int)) + (128 : Int))), ())], ()))
    else none
  else
    some (.inr (.inl (n0, out3, ())))
noncomputable def spec_l01Var_r0 (x : H109_0) : Option (Sum H109_0 (Sum E109_0 Q109_0)) := spec_l01Var_c0 x.1 x.2.1
noncomputable def L109 {R : Type} : Loops R := fun id _ st k => bif Nat.beq id 0 then loopAt hp109_0 e109_0 q109_0 spec_l01Var_r0 st k else none
noncomputable def spec_l01Var (n0 : Int) : Option (ByteArray × Unit) :=
  outK (loopV spec_l01Var_r0 (n0, [], ())) (fun y1 =>
    bif Nat.ble (((List.length y1.2.1) + 1) * 1) lim then some (bytesOf (y1.2.1 ++ [(IntKind.u8.wrap y1.1, ())]), ())
    else none) (fun y2 =>
    none)
noncomputable def x109 (x : Int × Unit) : Option (ByteArray × Unit) := spec_l01Var x.1
noncomputable def sem109 : Sem1 := semOf ps109 rs109 x109
theorem so109 : SemsOk Try.prog (semsOf sl109) := sems_nil
noncomputable def b109_0 : Code := nthLoop code109 0
theorem t109_r0_eq (x : denR (headRT hp109_0)) : codeK (tabOf tr) (semsOf sl109) D109 L109 b109_0 (headSt hp109_0 x) (roundK 0 hp109_0 e109_0 q109_0) = spec_l01Var_r0 x := by kernel_rfl
theorem loop109_0 {R : Type} (r : R) (w0 : World) (mu : Mu) (hs : AnShape ps109 mu) : LoopAt Try.prog w0 mu 22 (L109 : Loops R) r 0 b109_0 :=
  loop_auto tr_ok eq_ok mixed_ok so109 (D := D109) hs (by kernel_rfl) (fun _ => (loops_of (l := []) (by kernel_rfl) (List.forall_mem_nil _))) t109_r0_eq (fun _ _ => rfl)
theorem t109_eq (x : denR (headRT (ps109.map some))) : codeK (tabOf tr) (semsOf sl109) D109 L109 code109 (start 22 ps109 x) (finK rs109 ps109) = x109 x := by kernel_rfl
theorem k109 : Known Try.prog 109 sem109 :=
  fn_auto tr_ok eq_ok mixed_ok so109 (D := D109) (code := code109) (n := 22) Try.func109 (by kernel_rfl) (by kernel_rfl) (by kernel_rfl) (fun w0 mu _ hs => (loops_of (l := [(0, b109_0)]) (by kernel_rfl) (List.forall_mem_cons.2 ⟨loop109_0 _ w0 mu hs, (List.forall_mem_nil _)⟩))) t109_eq

/-! ### f111: spec.l05Short -/
noncomputable def code111 : Code := match Try.f111.body with | some c => c | none => .skip
def ps111 : List AP := [.val false [.str]]
def rs111 : List RP := [{ src := .tmp 2, agg := false, ps := [.str] }]
noncomputable def sl111 : SemL := [(109, (.shr, .shr, .shr, sem109))]
def D111 : Draws := fun _ => .nil
noncomputable def L111 {R : Type} : Loops R := fun _ _ _ _ => none
noncomputable def spec_l05Short (s0 : ByteArray) : Option (ByteArray × Unit) :=
  Option.bind (spec_l01Var ((ByteArray.size s0 : Nat) : Int)) fun y1 =>
  bif Nat.ble ((ByteArray.size y1.1) + (ByteArray.size s0)) lim then some (y1.1 ++ s0, ())
  else none
noncomputable def x111 (x : ByteArray × Unit) : Option (ByteArray × Unit) := spec_l05Short x.1
noncomputable def sem111 : Sem1 := semOf ps111 rs111 x111
theorem so111 : SemsOk Try.prog (semsOf sl111) := sems_cons k109 (sems_nil)
theorem t111_eq (x : denR (headRT (ps111.map some))) : codeK (tabOf tr) (semsOf sl111) D111 L111 code111 (start 8 ps111 x) (finK rs111 ps111) = x111 x := by kernel_rfl
theorem k111 : Known Try.prog 111 sem111 :=
  fn_auto tr_ok eq_ok mixed_ok so111 (D := D111) (code := code111) (n := 8) Try.func111 (by kernel_rfl) (by kernel_rfl) (by kernel_rfl) (fun w0 mu _ hs => (loops_of (l := []) (by kernel_rfl) (List.forall_mem_nil _))) t111_eq

/-! ### f110: spec.ItemText -/
noncomputable def code110 : Code := match Try.f110.body with | some c => c | none => .skip
def ps110 : List AP := [.val true [.int .i64, .int .i64, .int .i64, .str]]
def rs110 : List RP := [{ src := .tmp 2, agg := false, ps := [.str] }, { src := .tmp 3, agg := false, ps := [.bool] }]
noncomputable def sl110 : SemL := [(147, (.shr, .shr, .shr, sem147)), (109, (.shr, .shr, .shr, sem109)), (108, (.shr, .shr, .shr, sem108)), (111, (.shr, .shr, .shr, sem111))]
def D110 : Draws := fun id => bif Nat.beq id 3 then .op 0 .any (.op 1 .take (.op 3 .any (.op 4 .take (.op 7 .any (.op 8 .take (.op 11 .any (.op 12 .take (.op 2 .one (.op 5 .one (.op 6 .any (.op 9 .one (.op 10 .any (.op 13 .one (.op 14 .any (.op 15 .any (.op 16 .any (.nil))))))))))))))))) else .nil
noncomputable def L110 {R : Type} : Loops R := fun _ _ _ _ => none
noncomputable def spec_ItemText (m0c0 : Int) (m0c1 : Int) (m0c2 : Int) (m0c3 : ByteArray) : Option (ByteArray × Bool × Unit) :=
  Option.bind (spec_ItemOk m0c0 m0c1 m0c2 m0c3) fun y1 =>
  bif !y1.1 then
    some ((ByteArray.mk #[]), false, ())
  else
    Option.bind (spec_l01Var m0c0) fun y2 =>
    Option.bind (spec_l05Byte m0c1) fun y3 =>
    bif Nat.ble ((ByteArray.size y2.1) + (ByteArray.size y3.1)) lim then Option.bind (spec_l05Byte m0c2) fun y4 =>
      bif Nat.ble ((ByteArray.size (y2.1 ++ y3.1)) + (ByteArray.size y4.1)) lim then Option.bind (spec_l05Short m0c3) fun y5 =>
        bif Nat.ble ((ByteArray.size ((y2.1 ++ y3.1) ++ y4.1)) + (ByteArray.size y5.1)) lim then some (((y2.1 ++ y3.1) ++ y4.1) ++ y5.1, true, ())
        else none
      else none
    else none
noncomputable def x110 (x : Int × Int × Int × ByteArray × Unit) : Option (ByteArray × Bool × Unit) := spec_ItemText x.1 x.2.1 x.2.2.1 x.2.2.2.1
noncomputable def sem110 : Sem1 := semOf ps110 rs110 x110
theorem so110 : SemsOk Try.prog (semsOf sl110) := sems_cons k147 (sems_cons k109 (sems_cons k108 (sems_cons k111 (sems_nil))))
theorem t110_eq (x : denR (headRT (ps110.map some))) : codeK (tabOf tr) (semsOf sl110) D110 L110 code110 (start 22 ps110 x) (finK rs110 ps110) = x110 x := by kernel_rfl
theorem k110 : Known Try.prog 110 sem110 :=
  fn_auto tr_ok eq_ok mixed_ok so110 (D := D110) (code := code110) (n := 22) Try.func110 (by kernel_rfl) (by kernel_rfl) (by kernel_rfl) (fun w0 mu _ hs => (loops_of (l := []) (by kernel_rfl) (List.forall_mem_nil _))) t110_eq

/-! ### f161: spec.SumMore -/
noncomputable def code161 : Code := match Try.f161.body with | some c => c | none => .skip
def ps161 : List AP := [.val false [.int .u32], .val false [.str]]
def rs161 : List RP := [{ src := .tmp 4, agg := false, ps := [.int .u32] }]
noncomputable def sl161 : SemL := []
def D161 : Draws := fun _ => .nil
def hp161_2 : List (Option AP) := [some (.val false [.int .u32]), some (.val false [.str]), none, none, none, some (.val false [.int .i64]), some (.val false [.int .i64]), none, none, none, none, none, none, none, none, none, none, none, none, none, none, none, none, none, none, none, none, none, none, none, none, none, none]
def e161_2 : List (Option AP) := [some (.val false [.int .u32]), some (.val false [.str]), none, none, none, some (.val false [.int .i64]), none, none, none, none, none, none, none, none, none, none, none, none, none, none, none, none, none, none, none, none, none, none, none, none, none, none, none]
def q161_2 : List (Option AP) := [none, none, none, none, none, none, none, none, none, none, none, none, none, none, none, none, none, none, none, none, none, none, none, none, none, none, none, none, none, none, none, none, none]
abbrev H161_2 : Type := Int × ByteArray × Int × Int × Unit
abbrev E161_2 : Type := Int × ByteArray × Int × Unit
abbrev Q161_2 : Type := Unit
noncomputable def spec_SumMore_c2 (sum0 : Int) (text1 : ByteArray) (i5 : Int) (k6 : Int) : Option (Sum H161_2 (Sum E161_2 Q161_2)) :=
  bif decide (k6 < (8 : Int)) then
    bif decide (Int.tmod sum0 (2 : Int) = (1 : Int)) then
      some (.inl (IntKind.u32.wrap ((BitVec.ofInt IntKind.u32.bits (IntKind.u32.wrap (Int.tdiv sum0 (2 : Int))) ^^^ BitVec.ofInt IntKind.u32.bits (3558460437 : Int)).toNat : Int), text1, i5, IntKind.i64.wrap (k6 + (1 : Int)), ()))
    else
      some (.inl (IntKind.u32.wrap (Int.tdiv sum0 (2 : Int)), text1, i5, IntKind.i64.wrap (k6 + (1 : Int)), ()))
  else
    some (.inr (.inl (sum0, text1, i5, ())))
noncomputable def spec_SumMore_r2 (x : H161_2) : Option (Sum H161_2 (Sum E161_2 Q161_2)) := spec_SumMore_c2 x.1 x.2.1 x.2.2.1 x.2.2.2.1
def hp161_0 : List (Option AP) := [some (.val false [.int .u32]), some (.val false [.str]), none, none, none, some (.val false [.int .i64]), none, none, none, none, none, none, none, none, none, none, none, none, none, none, none, none, none, none, none, none, none, none, none, none, none, none, none]
def e161_0 : List (Option AP) := [some (.val false [.int .u32]), none, none, none, none, none, none, none, none, none, none, none, none, none, none, none, none, none, none, none, none, none, none, none, none, none, none, none, none, none, none, none, none]
def q161_0 : List (Option AP) := [none, none, none, none, none, none, none, none, none, none, none, none, none, none, none, none, none, none, none, none, none, none, none, none, none, none, none, none, none, none, none, none, none]
abbrev H161_0 : Type := Int × ByteArray × Int × Unit
abbrev E161_0 : Type := Int × Unit
abbrev Q161_0 : Type := Unit
noncomputable def spec_SumMore_c0 (sum0 : Int) (text1 : ByteArray) (i5 : Int) : Option (Sum H161_0 (Sum E161_0 Q161_0)) :=
  bif decide (i5 < ((ByteArray.size text1 : Nat) : Int)) then
    bif decide ((0 : Int) ≤ i5) then bif decide (i5 < ((ByteArray.size text1 : Nat) : Int)) then outK (loopV spec_SumMore_r2 (IntKind.u32.wrap ((BitVec.ofInt IntKind.u32.bits sum0 ^^^ BitVec.ofInt IntKind.u32.bits (IntKind.u32.wrap (byteAt text1 i5))).toNat : Int), text1, i5, (0 : Int), ())) (fun y1 =>
          some (.inl (y1.1, y1.2.1, IntKind.i64.wrap (y1.2.2.1 + (1 : Int)), ()))) (fun y2 =>
          some (.inr (.inr (()))))
      else none
    else none
  else
    some (.inr (.inl (sum0, ())))
noncomputable def spec_SumMore_r0 (x : H161_0) : Option (Sum H161_0 (Sum E161_0 Q161_0)) := spec_SumMore_c0 x.1 x.2.1 x.2.2.1
noncomputable def L161 {R : Type} : Loops R := fun id _ st k => bif Nat.beq id 2 then loopAt hp161_2 e161_2 q161_2 spec_SumMore_r2 st k else bif Nat.beq id 0 then loopAt hp161_0 e161_0 q161_0 spec_SumMore_r0 st k else none
noncomputable def spec_SumMore (sum0 : Int) (text1 : ByteArray) : Option (Int × Unit) :=
  outK (loopV spec_SumMore_r0 (sum0, text1, (0 : Int), ())) (fun y1 =>
    some (y1.1, ())) (fun y2 =>
    none)
noncomputable def x161 (x : Int × ByteArray × Unit) : Option (Int × Unit) := spec_SumMore x.1 x.2.1
noncomputable def sem161 : Sem1 := semOf ps161 rs161 x161
theorem so161 : SemsOk Try.prog (semsOf sl161) := sems_nil
noncomputable def b161_0 : Code := nthLoop code161 0
noncomputable def b161_2 : Code := nthLoop b161_0 0
theorem t161_r2_eq (x : denR (headRT hp161_2)) : codeK (tabOf tr) (semsOf sl161) D161 L161 b161_2 (headSt hp161_2 x) (roundK 2 hp161_2 e161_2 q161_2) = spec_SumMore_r2 x := by kernel_rfl
theorem loop161_2 {R : Type} (r : R) (w0 : World) (mu : Mu) (hs : AnShape ps161 mu) : LoopAt Try.prog w0 mu 33 (L161 : Loops R) r 2 b161_2 :=
  loop_auto tr_ok eq_ok mixed_ok so161 (D := D161) hs (by kernel_rfl) (fun _ => (loops_of (l := []) (by kernel_rfl) (List.forall_mem_nil _))) t161_r2_eq (fun _ _ => rfl)
theorem t161_r0_eq (x : denR (headRT hp161_0)) : codeK (tabOf tr) (semsOf sl161) D161 L161 b161_0 (headSt hp161_0 x) (roundK 0 hp161_0 e161_0 q161_0) = spec_SumMore_r0 x := by kernel_rfl
theorem loop161_0 {R : Type} (r : R) (w0 : World) (mu : Mu) (hs : AnShape ps161 mu) : LoopAt Try.prog w0 mu 33 (L161 : Loops R) r 0 b161_0 :=
  loop_auto tr_ok eq_ok mixed_ok so161 (D := D161) hs (by kernel_rfl) (fun _ => (loops_of (l := [(2, b161_2)]) (by kernel_rfl) (List.forall_mem_cons.2 ⟨loop161_2 _ w0 mu hs, (List.forall_mem_nil _)⟩))) t161_r0_eq (fun _ _ => rfl)
theorem t161_eq (x : denR (headRT (ps161.map some))) : codeK (tabOf tr) (semsOf sl161) D161 L161 code161 (start 33 ps161 x) (finK rs161 ps161) = x161 x := by kernel_rfl
theorem k161 : Known Try.prog 161 sem161 :=
  fn_auto tr_ok eq_ok mixed_ok so161 (D := D161) (code := code161) (n := 33) Try.func161 (by kernel_rfl) (by kernel_rfl) (by kernel_rfl) (fun w0 mu _ hs => (loops_of (l := [(0, b161_0)]) (by kernel_rfl) (List.forall_mem_cons.2 ⟨loop161_0 _ w0 mu hs, (List.forall_mem_nil _)⟩))) t161_eq

/-! ### f149: spec.SumOf -/
noncomputable def code149 : Code := match Try.f149.body with | some c => c | none => .skip
def ps149 : List AP := [.val false [.str]]
def rs149 : List RP := [{ src := .tmp 2, agg := false, ps := [.int .u32] }]
noncomputable def sl149 : SemL := [(161, (.shr, .shr, .shr, sem161))]
def D149 : Draws := fun _ => .nil
noncomputable def L149 {R : Type} : Loops R := fun _ _ _ _ => none
noncomputable def spec_SumOf (text0 : ByteArray) : Option (Int × Unit) :=
  Option.bind (spec_SumMore (4294967295 : Int) text0) fun y1 =>
  some (y1.1, ())
noncomputable def x149 (x : ByteArray × Unit) : Option (Int × Unit) := spec_SumOf x.1
noncomputable def sem149 : Sem1 := semOf ps149 rs149 x149
theorem so149 : SemsOk Try.prog (semsOf sl149) := sems_cons k161 (sems_nil)
theorem t149_eq (x : denR (headRT (ps149.map some))) : codeK (tabOf tr) (semsOf sl149) D149 L149 code149 (start 5 ps149 x) (finK rs149 ps149) = x149 x := by kernel_rfl
theorem k149 : Known Try.prog 149 sem149 :=
  fn_auto tr_ok eq_ok mixed_ok so149 (D := D149) (code := code149) (n := 5) Try.func149 (by kernel_rfl) (by kernel_rfl) (by kernel_rfl) (fun w0 mu _ hs => (loops_of (l := []) (by kernel_rfl) (List.forall_mem_nil _))) t149_eq

end Go.TM
