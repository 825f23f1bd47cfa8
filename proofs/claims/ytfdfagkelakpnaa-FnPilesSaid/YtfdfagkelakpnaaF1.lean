/- What the functions answer, as terms; their contracts. -/
import Derived.Test.YtfdfagkelakpnaaBase
set_option linter.unusedSimpArgs false
set_option linter.unusedVariables false
namespace Go.TM
open Go Go.RowKit Go.Proofs

/-! ### f15: laws.big -/
noncomputable def code15 : Code := match Try.f15.body with | some c => c | none => .skip
def ps15 : List AP := [.val false [.shr (.cons (.int .u8) .nil)]]
def rs15 : List RP := [{ src := .tmp 2, agg := false, ps := [.bool] }]
noncomputable def sl15 : SemL := []
def D15 : Draws := fun _ => .nil
noncomputable def L15 {R : Type} : Loops R := fun _ _ _ _ => none
noncomputable def laws_big (code0 : List (Int × Unit)) : Option (Bool × Unit) :=
  some (decide ((1048576 : Int) < ((List.length code0 : Nat) : Int)), ())
noncomputable def x15 (x : (List (Int × Unit)) × Unit) : Option (Bool × Unit) := laws_big x.1
noncomputable def sem15 : Sem1 := semOf ps15 rs15 x15
theorem so15 : SemsOk Try.prog (semsOf sl15) := sems_nil
theorem t15_eq (x : denR (headRT (ps15.map some))) : codeK (tabOf tr) (semsOf sl15) D15 L15 code15 (start 6 ps15 x) (finK rs15 ps15) = x15 x := by kernel_rfl
theorem k15 : Known Try.prog 15 sem15 :=
  fn_auto tr_ok eq_ok mixed_ok so15 (D := D15) (code := code15) (n := 6) Try.func15 (by kernel_rfl) (by kernel_rfl) (by kernel_rfl) (fun w0 mu _ hs => (loops_of (l := []) (by kernel_rfl) (List.forall_mem_nil _))) t15_eq

/-! ### f84: spec.l01New -/
noncomputable def code84 : Code := match Try.f84.body with | some c => c | none => .skip
def ps84 : List AP := [.val false [.shr (.cons (.int .u8) .nil)]]
def rs84 : List RP := [{ src := .ptr 2, agg := false, ps := [.shr (.cons (.int .u8) .nil), .int .i64, .int .i64] }]
noncomputable def sl84 : SemL := []
def D84 : Draws := fun _ => .nil
def hp84_0 : List (Option AP) := [some (.val false [.shr (.cons (.int .u8) .nil)]), none, none, some (.val false [.int .i64]), some (.val false [.int .i64]), none, none, none, none, none, none, none, none, none, none, none, none, none, none, none, none, none, none, none, none, none, none, none, none, none, none, none]
def e84_0 : List (Option AP) := [some (.val false [.shr (.cons (.int .u8) .nil)]), none, none, some (.val false [.int .i64]), none, none, none, none, none, none, none, none, none, none, none, none, none, none, none, none, none, none, none, none, none, none, none, none, none, none, none, none]
def q84_0 : List (Option AP) := [none, none, none, none, none, none, none, none, none, none, none, none, none, none, none, none, none, none, none, none, none, none, none, none, none, none, none, none, none, none, none, none]
abbrev H84_0 : Type := (List (Int × Unit)) × Int × Int × Unit
abbrev E84_0 : Type := (List (Int × Unit)) × Int × Unit
abbrev Q84_0 : Type := Unit
noncomputable def spec_l01New_c0 (code0 : List (Int × Unit)) (h3 : Int) (i4 : Int) : Option (Sum H84_0 (Sum E84_0 Q84_0)) :=
  bif decide (i4 < ((List.length code0 : Nat) : Int)) then
    bif decide (i4 < (4000 : Int)) then
      bif decide ((0 : Int) ≤ i4) then Option.bind ((code0)[Int.toNat i4]?) fun r1 =>
        some (.inl (code0, IntKind.i64.wrap ((BitVec.ofInt IntKind.i64.bits (IntKind.i64.wrap ((IntKind.i64.wrap ((IntKind.i64.wrap (h3 * (131 : Int))) + (IntKind.i64.wrap r1.1))) + (7 : Int))) &&& BitVec.ofInt IntKind.i64.bits (1073741823 : Int)).toNat : Int), IntKind.i64.wrap (i4 + (1 : Int)), ()))
      else none
    else
      some (.inr (.inl (code0, h3, ())))
  else
    some (.inr (.inl (code0, h3, ())))
noncomputable def spec_l01New_r0 (x : H84_0) : Option (Sum H84_0 (Sum E84_0 Q84_0)) := spec_l01New_c0 x.1 x.2.1 x.2.2.1
noncomputable def L84 {R : Type} : Loops R := fun id _ st k => bif Nat.beq id 0 then loopAt hp84_0 e84_0 q84_0 spec_l01New_r0 st k else none
noncomputable def spec_l01New (code0 : List (Int × Unit)) : Option ((List (Int × Unit)) × Int × Int × Unit) :=
  outK (loopV spec_l01New_r0 (code0, IntKind.i64.wrap ((27101 : Int) + ((List.length code0 : Nat) : Int)), (0 : Int), ())) (fun y1 =>
    some (y1.1, (0 : Int), y1.2.1, ())) (fun y2 =>
    none)
noncomputable def x84 (x : (List (Int × Unit)) × Unit) : Option ((List (Int × Unit)) × Int × Int × Unit) := spec_l01New x.1
noncomputable def sem84 : Sem1 := semOf ps84 rs84 x84
theorem so84 : SemsOk Try.prog (semsOf sl84) := sems_nil
noncomputable def b84_0 : Code := nthLoop code84 0
theorem t84_r0_eq (x : denR (headRT hp84_0)) : codeK (tabOf tr) (semsOf sl84) D84 L84 b84_0 (headSt hp84_0 x) (roundK 0 hp84_0 e84_0 q84_0) = spec_l01New_r0 x := by kernel_rfl
theorem loop84_0 {R : Type} (r : R) (w0 : World) (mu : Mu) (hs : AnShape ps84 mu) : LoopAt Try.prog w0 mu 32 (L84 : Loops R) r 0 b84_0 :=
  loop_auto tr_ok eq_ok mixed_ok so84 (D := D84) hs (by kernel_rfl) (fun _ => (loops_of (l := []) (by kernel_rfl) (List.forall_mem_nil _))) t84_r0_eq (fun _ _ => rfl)
theorem t84_eq (x : denR (headRT (ps84.map some))) : codeK (tabOf tr) (semsOf sl84) D84 L84 code84 (start 32 ps84 x) (finK rs84 ps84) = x84 x := by kernel_rfl
theorem k84 : Known Try.prog 84 sem84 :=
  fn_auto tr_ok eq_ok mixed_ok so84 (D := D84) (code := code84) (n := 32) Try.func84 (by kernel_rfl) (by kernel_rfl) (by kernel_rfl) (fun w0 mu _ hs => (loops_of (l := [(0, b84_0)]) (by kernel_rfl) (List.forall_mem_cons.2 ⟨loop84_0 _ w0 mu hs, (List.forall_mem_nil _)⟩))) t84_eq

/-! ### f142: spec.l01Byte -/
noncomputable def code142 : Code := match Try.f142.body with | some c => c | none => .skip
def ps142 : List AP := [.box true [.shr (.cons (.int .u8) .nil), .int .i64, .int .i64]]
def rs142 : List RP := [{ src := .tmp 2, agg := false, ps := [.int .i64] }]
noncomputable def sl142 : SemL := []
def D142 : Draws := fun id => bif Nat.beq id 2 then .op 0 .any (.op 1 .any (.op 2 .any (.op 3 .take (.op 4 .any (.op 5 .any (.op 6 .any (.op 7 .any (.op 8 .take (.op 9 .any (.op 10 .any (.op 11 .any (.op 12 .any (.nil))))))))))))) else bif Nat.beq id 3 then .op 0 .any (.op 1 .any (.op 2 .any (.op 3 .take (.op 4 .any (.op 5 .any (.op 6 .any (.op 7 .take (.op 8 .any (.op 9 .any (.nil)))))))))) else bif Nat.beq id 4 then .op 0 .any (.op 1 .any (.op 2 .any (.op 3 .any (.op 4 .take (.op 5 .any (.op 6 .any (.op 7 .any (.op 8 .take (.op 9 .any (.op 10 .take (.op 11 .any (.op 12 .any (.op 13 .any (.op 14 .any (.nil))))))))))))))) else .nil
noncomputable def L142 {R : Type} : Loops R := fun _ _ _ _ => none
noncomputable def spec_l01Byte (c0c0 : List (Int × Unit)) (c0c1 : Int) (c0c2 : Int) : Option (Int × (List (Int × Unit)) × Int × Int × Unit) :=
  bif decide (c0c1 < ((List.length c0c0 : Nat) : Int)) then
    bif decide ((0 : Int) ≤ c0c1) then Option.bind ((c0c0)[Int.toNat c0c1]?) fun r1 =>
      some (IntKind.i64.wrap ((BitVec.ofInt IntKind.i64.bits (IntKind.i64.wrap ((IntKind.i64.wrap ((BitVec.ofInt IntKind.i64.bits (IntKind.i64.wrap ((BitVec.ofInt IntKind.i64.bits (Int.fdiv (IntKind.i64.wrap ((IntKind.i64.wrap (c0c2 * (6364136223846793005 : Int))) + (1442695040888963407 : Int))) (2 ^ (min 33 IntKind.i64.bits))) ^^^ BitVec.ofInt IntKind.i64.bits (Int.fdiv (IntKind.i64.wrap ((IntKind.i64.wrap (c0c2 * (6364136223846793005 : Int))) + (1442695040888963407 : Int))) (2 ^ (min 45 IntKind.i64.bits)))).toNat : Int)) &&& BitVec.ofInt IntKind.i64.bits (255 : Int)).toNat : Int)) + (IntKind.i64.wrap r1.1))) &&& BitVec.ofInt IntKind.i64.bits (255 : Int)).toNat : Int), c0c0, IntKind.i64.wrap (c0c1 + (1 : Int)), IntKind.i64.wrap ((IntKind.i64.wrap (c0c2 * (6364136223846793005 : Int))) + (1442695040888963407 : Int)), ())
    else none
  else
    some (IntKind.i64.wrap ((BitVec.ofInt IntKind.i64.bits (IntKind.i64.wrap ((BitVec.ofInt IntKind.i64.bits (Int.fdiv (IntKind.i64.wrap ((IntKind.i64.wrap (c0c2 * (6364136223846793005 : Int))) + (1442695040888963407 : Int))) (2 ^ (min 33 IntKind.i64.bits))) ^^^ BitVec.ofInt IntKind.i64.bits (Int.fdiv (IntKind.i64.wrap ((IntKind.i64.wrap (c0c2 * (6364136223846793005 : Int))) + (1442695040888963407 : Int))) (2 ^ (min 45 IntKind.i64.bits)))).toNat : Int)) &&& BitVec.ofInt IntKind.i64.bits (255 : Int)).toNat : Int), c0c0, c0c1, IntKind.i64.wrap ((IntKind.i64.wrap (c0c2 * (6364136223846793005 : Int))) + (1442695040888963407 : Int)), ())
noncomputable def x142 (x : (List (Int × Unit)) × Int × Int × Unit) : Option (Int × (List (Int × Unit)) × Int × Int × Unit) := spec_l01Byte x.1 x.2.1 x.2.2.1
noncomputable def sem142 : Sem1 := semOf ps142 rs142 x142
theorem so142 : SemsOk Try.prog (semsOf sl142) := sems_nil
theorem t142_eq (x : denR (headRT (ps142.map some))) : codeK (tabOf tr) (semsOf sl142) D142 L142 code142 (start 58 ps142 x) (finK rs142 ps142) = x142 x := by kernel_rfl
theorem k142 : Known Try.prog 142 sem142 :=
  fn_auto tr_ok eq_ok mixed_ok so142 (D := D142) (code := code142) (n := 58) Try.func142 (by kernel_rfl) (by kernel_rfl) (by kernel_rfl) (fun w0 mu _ hs => (loops_of (l := []) (by kernel_rfl) (List.forall_mem_nil _))) t142_eq

/-! ### f87: spec.l01Below -/
noncomputable def code87 : Code := match Try.f87.body with | some c => c | none => .skip
def ps87 : List AP := [.box true [.shr (.cons (.int .u8) .nil), .int .i64, .int .i64], .val false [.int .i64]]
def rs87 : List RP := [{ src := .tmp 4, agg := false, ps := [.int .i64] }]
noncomputable def sl87 : SemL := [(142, (.shr, .shr, .shr, sem142))]
def D87 : Draws := fun _ => .nil
noncomputable def L87 {R : Type} : Loops R := fun _ _ _ _ => none
noncomputable def spec_l01Below (c0c0 : List (Int × Unit)) (c0c1 : Int) (c0c2 : Int) (n1 : Int) : Option (Int × (List (Int × Unit)) × Int × Int × Unit) :=
  bif decide (n1 ≤ (0 : Int)) then
    some ((0 : Int), c0c0, c0c1, c0c2, ())
  else bif decide (n1 ≤ (256 : Int)) then
    Option.bind (spec_l01Byte c0c0 c0c1 c0c2) fun y1 =>
    bif decide (n1 = 0) then
      none
    else
      some (Int.tmod y1.1 n1, y1.2.1, y1.2.2.1, y1.2.2.2.1, ())
  else
    Option.bind (spec_l01Byte c0c0 c0c1 c0c2) fun y2 =>
    Option.bind (spec_l01Byte y2.2.1 y2.2.2.1 y2.2.2.2.1) fun y3 =>
    Option.bind (spec_l01Byte y3.2.1 y3.2.2.1 y3.2.2.2.1) fun y4 =>
    Option.bind (spec_l01Byte y4.2.1 y4.2.2.1 y4.2.2.2.1) fun y5 =>
    bif decide (n1 = 0) then
      none
    else
      some (Int.tmod (IntKind.i64.wrap ((IntKind.i64.wrap ((IntKind.i64.wrap ((IntKind.i64.wrap (y2.1 * (16777216 : Int))) + (IntKind.i64.wrap (y3.1 * (65536 : Int))))) + (IntKind.i64.wrap (y4.1 * (256 : Int))))) + y5.1)) n1, y5.2.1, y5.2.2.1, y5.2.2.2.1, ())
noncomputable def x87 (x : (List (Int × Unit)) × Int × Int × Int × Unit) : Option (Int × (List (Int × Unit)) × Int × Int × Unit) := spec_l01Below x.1 x.2.1 x.2.2.1 x.2.2.2.1
noncomputable def sem87 : Sem1 := semOf ps87 rs87 x87
theorem so87 : SemsOk Try.prog (semsOf sl87) := sems_cons k142 (sems_nil)
theorem t87_eq (x : denR (headRT (ps87.map some))) : codeK (tabOf tr) (semsOf sl87) D87 L87 code87 (start 37 ps87 x) (finK rs87 ps87) = x87 x := by kernel_rfl
theorem k87 : Known Try.prog 87 sem87 :=
  fn_auto tr_ok eq_ok mixed_ok so87 (D := D87) (code := code87) (n := 37) Try.func87 (by kernel_rfl) (by kernel_rfl) (by kernel_rfl) (fun w0 mu _ hs => (loops_of (l := []) (by kernel_rfl) (List.forall_mem_nil _))) t87_eq

/-! ### f86: spec.l01Once -/
noncomputable def code86 : Code := match Try.f86.body with | some c => c | none => .skip
def ps86 : List AP := [.box true [.shr (.cons (.int .u8) .nil), .int .i64, .int .i64], .val false [.int .i64]]
def rs86 : List RP := [{ src := .tmp 4, agg := false, ps := [.bool] }]
noncomputable def sl86 : SemL := [(87, (.shr, .shr, .shr, sem87))]
def D86 : Draws := fun _ => .nil
noncomputable def L86 {R : Type} : Loops R := fun _ _ _ _ => none
noncomputable def spec_l01Once (c0c0 : List (Int × Unit)) (c0c1 : Int) (c0c2 : Int) (n1 : Int) : Option (Bool × (List (Int × Unit)) × Int × Int × Unit) :=
  Option.bind (spec_l01Below c0c0 c0c1 c0c2 n1) fun y1 =>
  some (decide (y1.1 = (0 : Int)), y1.2.1, y1.2.2.1, y1.2.2.2.1, ())
noncomputable def x86 (x : (List (Int × Unit)) × Int × Int × Int × Unit) : Option (Bool × (List (Int × Unit)) × Int × Int × Unit) := spec_l01Once x.1 x.2.1 x.2.2.1 x.2.2.2.1
noncomputable def sem86 : Sem1 := semOf ps86 rs86 x86
theorem so86 : SemsOk Try.prog (semsOf sl86) := sems_cons k87 (sems_nil)
theorem t86_eq (x : denR (headRT (ps86.map some))) : codeK (tabOf tr) (semsOf sl86) D86 L86 code86 (start 9 ps86 x) (finK rs86 ps86) = x86 x := by kernel_rfl
theorem k86 : Known Try.prog 86 sem86 :=
  fn_auto tr_ok eq_ok mixed_ok so86 (D := D86) (code := code86) (n := 9) Try.func86 (by kernel_rfl) (by kernel_rfl) (by kernel_rfl) (fun w0 mu _ hs => (loops_of (l := []) (by kernel_rfl) (List.forall_mem_nil _))) t86_eq

/-! ### f120: spec.l01PickInt -/
noncomputable def code120 : Code := match Try.f120.body with | some c => c | none => .skip
def ps120 : List AP := [.box true [.shr (.cons (.int .u8) .nil), .int .i64, .int .i64], .val false [.shr (.cons (.int .i64) .nil)]]
def rs120 : List RP := [{ src := .tmp 4, agg := false, ps := [.int .i64] }]
noncomputable def sl120 : SemL := [(87, (.shr, .shr, .shr, sem87))]
def D120 : Draws := fun _ => .nil
noncomputable def L120 {R : Type} : Loops R := fun _ _ _ _ => none
noncomputable def spec_l01PickInt (c0c0 : List (Int × Unit)) (c0c1 : Int) (c0c2 : Int) (list1 : List (Int × Unit)) : Option (Int × (List (Int × Unit)) × Int × Int × Unit) :=
  Option.bind (spec_l01Below c0c0 c0c1 c0c2 ((List.length list1 : Nat) : Int)) fun y1 =>
  bif decide ((0 : Int) ≤ y1.1) then Option.bind ((list1)[Int.toNat y1.1]?) fun r2 =>
    some (r2.1, y1.2.1, y1.2.2.1, y1.2.2.2.1, ())
  else none
noncomputable def x120 (x : (List (Int × Unit)) × Int × Int × (List (Int × Unit)) × Unit) : Option (Int × (List (Int × Unit)) × Int × Int × Unit) := spec_l01PickInt x.1 x.2.1 x.2.2.1 x.2.2.2.1
noncomputable def sem120 : Sem1 := semOf ps120 rs120 x120
theorem so120 : SemsOk Try.prog (semsOf sl120) := sems_cons k87 (sems_nil)
theorem t120_eq (x : denR (headRT (ps120.map some))) : codeK (tabOf tr) (semsOf sl120) D120 L120 code120 (start 12 ps120 x) (finK rs120 ps120) = x120 x := by kernel_rfl
theorem k120 : Known Try.prog 120 sem120 :=
  fn_auto tr_ok eq_ok mixed_ok so120 (D := D120) (code := code120) (n := 12) Try.func120 (by kernel_rfl) (by kernel_rfl) (by kernel_rfl) (fun w0 mu _ hs => (loops_of (l := []) (by kernel_rfl) (List.forall_mem_nil _))) t120_eq

/-! ### f152: spec.l01Text -/
noncomputable def code152 : Code := match Try.f152.body with | some c => c | none => .skip
def ps152 : List AP := [.box true [.shr (.cons (.int .u8) .nil), .int .i64, .int .i64], .val false [.int .i64]]
def rs152 : List RP := [{ src := .tmp 4, agg := false, ps := [.str] }]
noncomputable def sl152 : SemL := [(142, (.shr, .shr, .shr, sem142))]
def D152 : Draws := fun _ => .nil
def hp152_0 : List (Option AP) := [some (.box true [.shr (.cons (.int .u8) .nil), .int .i64, .int .i64]), some (.val false [.int .i64]), none, none, none, some (.val false [.own (.cons (.int .u8) .nil)]), some (.val false [.int .i64]), none, none, none, none, none, none, none, none, none, none, none, none, none, none, none, none]
def e152_0 : List (Option AP) := [some (.box true [.shr (.cons (.int .u8) .nil), .int .i64, .int .i64]), none, none, none, none, some (.val false [.own (.cons (.int .u8) .nil)]), none, none, none, none, none, none, none, none, none, none, none, none, none, none, none, none, none]
def q152_0 : List (Option AP) := [none, none, none, none, none, none, none, none, none, none, none, none, none, none, none, none, none, none, none, none, none, none, none]
abbrev H152_0 : Type := (List (Int × Unit)) × Int × Int × Int × (List (Int × Unit)) × Int × Unit
abbrev E152_0 : Type := (List (Int × Unit)) × Int × Int × (List (Int × Unit)) × Unit
abbrev Q152_0 : Type := Unit
noncomputable def spec_l01Text_c0 (c0c0 : List (Int × Unit)) (c0c1 : Int) (c0c2 : Int) (n1 : Int) (out5 : List (Int × Unit)) (i6 : Int) : Option (Sum H152_0 (Sum E152_0 Q152_0)) :=
  bif decide (i6 < n1) then
    Option.bind (spec_l01Byte c0c0 c0c1 c0c2) fun y1 =>
    bif Nat.ble (((List.length out5) + 1) * 1) lim then some (.inl (y1.2.1, y1.2.2.1, y1.2.2.2.1, n1, out5 ++ [(IntKind.u8.wrap y1.1, ())], IntKind.i64.wrap (i6 + (1 : Int)), ()))
    else none
  else
    some (.inr (.inl (c0c0, c0c1, c0c2, out5, ())))
noncomputable def spec_l01Text_r0 (x : H152_0) : Option (Sum H152_0 (Sum E152_0 Q152_0)) := spec_l01Text_c0 x.1 x.2.1 x.2.2.1 x.2.2.2.1 x.2.2.2.2.1 x.2.2.2.2.2.1
noncomputable def L152 {R : Type} : Loops R := fun id _ st k => bif Nat.beq id 0 then loopAt hp152_0 e152_0 q152_0 spec_l01Text_r0 st k else none
noncomputable def spec_l01Text (c0c0 : List (Int × Unit)) (c0c1 : Int) (c0c2 : Int) (n1 : Int) : Option (ByteArray × (List (Int × Unit)) × Int × Int × Unit) :=
  bif decide ((5000 : Int) < n1) then
    outK (loopV spec_l01Text_r0 (c0c0, c0c1, c0c2, (5000 : Int), [], (0 : Int), ())) (fun y1 =>
      some (bytesOf y1.2.2.2.1, y1.1, y1.2.1, y1.2.2.1, ())) (fun y2 =>
      none)
  else
    outK (loopV spec_l01Text_r0 (c0c0, c0c1, c0c2, n1, [], (0 : Int), ())) (fun y3 =>
      some (bytesOf y3.2.2.2.1, y3.1, y3.2.1, y3.2.2.1, ())) (fun y4 =>
      none)
noncomputable def x152 (x : (List (Int × Unit)) × Int × Int × Int × Unit) : Option (ByteArray × (List (Int × Unit)) × Int × Int × Unit) := spec_l01Text x.1 x.2.1 x.2.2.1 x.2.2.2.1
noncomputable def sem152 : Sem1 := semOf ps152 rs152 x152
theorem so152 : SemsOk Try.prog (semsOf sl152) := sems_cons k142 (sems_nil)
noncomputable def b152_0 : Code := nthLoop code152 0
theorem t152_r0_eq (x : denR (headRT hp152_0)) : codeK (tabOf tr) (semsOf sl152) D152 L152 b152_0 (headSt hp152_0 x) (roundK 0 hp152_0 e152_0 q152_0) = spec_l01Text_r0 x := by kernel_rfl
theorem loop152_0 {R : Type} (r : R) (w0 : World) (mu : Mu) (hs : AnShape ps152 mu) : LoopAt Try.prog w0 mu 23 (L152 : Loops R) r 0 b152_0 :=
  loop_auto tr_ok eq_ok mixed_ok so152 (D := D152) hs (by kernel_rfl) (fun _ => (loops_of (l := []) (by kernel_rfl) (List.forall_mem_nil _))) t152_r0_eq (fun _ _ => rfl)
theorem t152_eq (x : denR (headRT (ps152.map some))) : codeK (tabOf tr) (semsOf sl152) D152 L152 code152 (start 23 ps152 x) (finK rs152 ps152) = x152 x := by kernel_rfl
theorem k152 : Known Try.prog 152 sem152 :=
  fn_auto tr_ok eq_ok mixed_ok so152 (D := D152) (code := code152) (n := 23) Try.func152 (by kernel_rfl) (by kernel_rfl) (by kernel_rfl) (fun w0 mu _ hs => (loops_of (l := [(0, b152_0)]) (by kernel_rfl) (List.forall_mem_cons.2 ⟨loop152_0 _ w0 mu hs, (List.forall_mem_nil _)⟩))) t152_eq

/-! ### f89: spec.l01Long -/
noncomputable def code89 : Code := match Try.f89.body with | some c => c | none => .skip
def ps89 : List AP := [.val false [.int .i64], .val false [.int .u8]]
def rs89 : List RP := [{ src := .tmp 4, agg := false, ps := [.str] }]
noncomputable def sl89 : SemL := []
def D89 : Draws := fun _ => .nil
def hp89_0 : List (Option AP) := [some (.val false [.int .i64]), some (.val false [.int .u8]), none, none, none, some (.val false [.own (.cons (.int .u8) .nil)]), some (.val false [.int .i64]), none, none, none, none, none, none, none, none, none, none, none, none, none]
def e89_0 : List (Option AP) := [none, none, none, none, none, some (.val false [.own (.cons (.int .u8) .nil)]), none, none, none, none, none, none, none, none, none, none, none, none, none, none]
def q89_0 : List (Option AP) := [none, none, none, none, none, none, none, none, none, none, none, none, none, none, none, none, none, none, none, none]
abbrev H89_0 : Type := Int × Int × (List (Int × Unit)) × Int × Unit
abbrev E89_0 : Type := (List (Int × Unit)) × Unit
abbrev Q89_0 : Type := Unit
noncomputable def spec_l01Long_c0 (n0 : Int) (x1 : Int) (out5 : List (Int × Unit)) (i6 : Int) : Option (Sum H89_0 (Sum E89_0 Q89_0)) :=
  bif decide (i6 < n0) then
    bif decide ((0 : Int) ≤ i6) then bif Nat.blt (Int.toNat i6) (List.length out5) then Option.bind ((out5)[Int.toNat i6]?) fun r1 =>
        some (.inl (n0, x1, List.set out5 (Int.toNat i6) (x1, ()), IntKind.i64.wrap (i6 + (1 : Int)), ()))
      else none
    else none
  else
    some (.inr (.inl (out5, ())))
noncomputable def spec_l01Long_r0 (x : H89_0) : Option (Sum H89_0 (Sum E89_0 Q89_0)) := spec_l01Long_c0 x.1 x.2.1 x.2.2.1 x.2.2.2.1
noncomputable def L89 {R : Type} : Loops R := fun id _ st k => bif Nat.beq id 0 then loopAt hp89_0 e89_0 q89_0 spec_l01Long_r0 st k else none
noncomputable def spec_l01Long (n0 : Int) (x1 : Int) : Option (ByteArray × Unit) :=
  bif decide (n0 = n0) then bif decide ((0 : Int) ≤ n0) then bif Nat.ble ((Int.toNat n0) * 1) lim then outK (loopV spec_l01Long_r0 (n0, x1, List.replicate (Int.toNat n0) ((0 : Int), ()), (0 : Int), ())) (fun y1 =>
          some (bytesOf y1.1, ())) (fun y2 =>
          none)
      else none
    else none
  else none
noncomputable def x89 (x : Int × Int × Unit) : Option (ByteArray × Unit) := spec_l01Long x.1 x.2.1
noncomputable def sem89 : Sem1 := semOf ps89 rs89 x89
theorem so89 : SemsOk Try.prog (semsOf sl89) := sems_nil
noncomputable def b89_0 : Code := nthLoop code89 0
theorem t89_r0_eq (x : denR (headRT hp89_0)) : codeK (tabOf tr) (semsOf sl89) D89 L89 b89_0 (headSt hp89_0 x) (roundK 0 hp89_0 e89_0 q89_0) = spec_l01Long_r0 x := by kernel_rfl
theorem loop89_0 {R : Type} (r : R) (w0 : World) (mu : Mu) (hs : AnShape ps89 mu) : LoopAt Try.prog w0 mu 20 (L89 : Loops R) r 0 b89_0 :=
  loop_auto tr_ok eq_ok mixed_ok so89 (D := D89) hs (by kernel_rfl) (fun _ => (loops_of (l := []) (by kernel_rfl) (List.forall_mem_nil _))) t89_r0_eq (fun _ _ => rfl)
theorem t89_eq (x : denR (headRT (ps89.map some))) : codeK (tabOf tr) (semsOf sl89) D89 L89 code89 (start 20 ps89 x) (finK rs89 ps89) = x89 x := by kernel_rfl
theorem k89 : Known Try.prog 89 sem89 :=
  fn_auto tr_ok eq_ok mixed_ok so89 (D := D89) (code := code89) (n := 20) Try.func89 (by kernel_rfl) (by kernel_rfl) (by kernel_rfl) (fun w0 mu _ hs => (loops_of (l := [(0, b89_0)]) (by kernel_rfl) (List.forall_mem_cons.2 ⟨loop89_0 _ w0 mu hs, (List.forall_mem_nil _)⟩))) t89_eq

/-! ### f121: spec.l12Long -/
noncomputable def code121 : Code := match Try.f121.body with | some c => c | none => .skip
def ps121 : List AP := [.box true [.shr (.cons (.int .u8) .nil), .int .i64, .int .i64]]
def rs121 : List RP := [{ src := .tmp 2, agg := false, ps := [.str] }]
noncomputable def sl121 : SemL := [(120, (.shr, .shr, .shr, sem120)), (87, (.shr, .shr, .shr, sem87)), (152, (.shr, .shr, .shr, sem152)), (89, (.shr, .shr, .shr, sem89))]
def D121 : Draws := fun _ => .nil
noncomputable def L121 {R : Type} : Loops R := fun _ _ _ _ => none
noncomputable def spec_l12Long (c0c0 : List (Int × Unit)) (c0c1 : Int) (c0c2 : Int) : Option (ByteArray × (List (Int × Unit)) × Int × Int × Unit) :=
  Option.bind (spec_l01PickInt c0c0 c0c1 c0c2 [((0 : Int), ()), ((1 : Int), ()), ((39 : Int), ()), ((40 : Int), ()), ((41 : Int), ()), ((80 : Int), ()), ((95 : Int), ()), ((130 : Int), ()), ((400 : Int), ())]) fun y1 =>
  Option.bind (spec_l01Below y1.2.1 y1.2.2.1 y1.2.2.2.1 (9 : Int)) fun y2 =>
  Option.bind (spec_l01Text y2.2.1 y2.2.2.1 y2.2.2.2.1 y2.1) fun y3 =>
  Option.bind (spec_l01Below y3.2.1 y3.2.2.1 y3.2.2.2.1 (20 : Int)) fun y4 =>
  Option.bind (spec_l01Long y1.1 (IntKind.u8.wrap (IntKind.i64.wrap ((97 : Int) + y4.1)))) fun y5 =>
  bif Nat.ble ((ByteArray.size y3.1) + (ByteArray.size y5.1)) lim then some (y3.1 ++ y5.1, y4.2.1, y4.2.2.1, y4.2.2.2.1, ())
  else none
noncomputable def x121 (x : (List (Int × Unit)) × Int × Int × Unit) : Option (ByteArray × (List (Int × Unit)) × Int × Int × Unit) := spec_l12Long x.1 x.2.1 x.2.2.1
noncomputable def sem121 : Sem1 := semOf ps121 rs121 x121
theorem so121 : SemsOk Try.prog (semsOf sl121) := sems_cons k120 (sems_cons k87 (sems_cons k152 (sems_cons k89 (sems_nil))))
theorem t121_eq (x : denR (headRT (ps121.map some))) : codeK (tabOf tr) (semsOf sl121) D121 L121 code121 (start 18 ps121 x) (finK rs121 ps121) = x121 x := by kernel_rfl
theorem k121 : Known Try.prog 121 sem121 :=
  fn_auto tr_ok eq_ok mixed_ok so121 (D := D121) (code := code121) (n := 18) Try.func121 (by kernel_rfl) (by kernel_rfl) (by kernel_rfl) (fun w0 mu _ hs => (loops_of (l := []) (by kernel_rfl) (List.forall_mem_nil _))) t121_eq

/-! ### f46: spec.DrawPieces -/
noncomputable def code46 : Code := match Try.f46.body with | some c => c | none => .skip
def ps46 : List AP := [.val false [.shr (.cons (.int .u8) .nil)]]
def rs46 : List RP := [{ src := .tmp 2, agg := false, ps := [.int .i64] }, { src := .tmp 3, agg := false, ps := [.str] }]
noncomputable def sl46 : SemL := [(84, (.shr, .shr, .shr, sem84)), (87, (.shr, .shr, .shr, sem87)), (86, (.shr, .shr, .shr, sem86)), (120, (.shr, .shr, .shr, sem120)), (121, (.shr, .shr, .shr, sem121)), (89, (.shr, .shr, .shr, sem89))]
def D46 : Draws := fun _ => .nil
noncomputable def L46 {R : Type} : Loops R := fun _ _ _ _ => none
noncomputable def spec_DrawPieces (code0 : List (Int × Unit)) : Option (Int × ByteArray × Unit) :=
  Option.bind (spec_l01New code0) fun y1 =>
  Option.bind (spec_l01Below y1.1 y1.2.1 y1.2.2.1 (300 : Int)) fun y2 =>
  Option.bind (spec_l01Once y2.2.1 y2.2.2.1 y2.2.2.2.1 (12 : Int)) fun y3 =>
  bif y3.1 then
    Option.bind (spec_l01PickInt y3.2.1 y3.2.2.1 y3.2.2.2.1 [((-1 : Int), ()), ((100000 : Int), ()), ((100001 : Int), ())]) fun y4 =>
    Option.bind (spec_l12Long y4.2.1 y4.2.2.1 y4.2.2.2.1) fun y5 =>
    Option.bind (spec_l01Once y5.2.1 y5.2.2.1 y5.2.2.2.1 (12 : Int)) fun y6 =>
    bif y6.1 then
      Option.bind (spec_l01Below y6.2.1 y6.2.2.1 y6.2.2.2.1 (2 : Int)) fun y7 =>
      Option.bind (spec_l01Long (IntKind.i64.wrap ((400 : Int) + y7.1)) (65 : Int)) fun y8 =>
      some (y4.1, y8.1, ())
    else
      some (y4.1, y5.1, ())
  else
    Option.bind (spec_l12Long y3.2.1 y3.2.2.1 y3.2.2.2.1) fun y9 =>
    Option.bind (spec_l01Once y9.2.1 y9.2.2.1 y9.2.2.2.1 (12 : Int)) fun y10 =>
    bif y10.1 then
      Option.bind (spec_l01Below y10.2.1 y10.2.2.1 y10.2.2.2.1 (2 : Int)) fun y11 =>
      Option.bind (spec_l01Long (IntKind.i64.wrap ((400 : Int) + y11.1)) (65 : Int)) fun y12 =>
      some (y2.1, y12.1, ())
    else
      some (y2.1, y9.1, ())
noncomputable def x46 (x : (List (Int × Unit)) × Unit) : Option (Int × ByteArray × Unit) := spec_DrawPieces x.1
noncomputable def sem46 : Sem1 := semOf ps46 rs46 x46
theorem so46 : SemsOk Try.prog (semsOf sl46) := sems_cons k84 (sems_cons k87 (sems_cons k86 (sems_cons k120 (sems_cons k121 (sems_cons k89 (sems_nil))))))
theorem t46_eq (x : denR (headRT (ps46.map some))) : codeK (tabOf tr) (semsOf sl46) D46 L46 code46 (start 26 ps46 x) (finK rs46 ps46) = x46 x := by kernel_rfl
theorem k46 : Known Try.prog 46 sem46 :=
  fn_auto tr_ok eq_ok mixed_ok so46 (D := D46) (code := code46) (n := 26) Try.func46 (by kernel_rfl) (by kernel_rfl) (by kernel_rfl) (fun w0 mu _ hs => (loops_of (l := []) (by kernel_rfl) (List.forall_mem_nil _))) t46_eq

/-! ### f95: impl.inRange -/
noncomputable def code95 : Code := match Try.f95.body with | some c => c | none => .skip
def ps95 : List AP := [.val false [.int .i64], .val false [.int .i64], .val false [.int .i64]]
def rs95 : List RP := [{ src := .tmp 6, agg := false, ps := [.bool] }]
noncomputable def sl95 : SemL := []
def D95 : Draws := fun _ => .nil
noncomputable def L95 {R : Type} : Loops R := fun _ _ _ _ => none
noncomputable def impl_inRange (n0 : Int) (least1 : Int) (most2 : Int) : Option (Bool × Unit) :=
  bif decide (least1 ≤ n0) then
    some (decide (n0 ≤ most2), ())
  else
    some (false, ())
noncomputable def x95 (x : Int × Int × Int × Unit) : Option (Bool × Unit) := impl_inRange x.1 x.2.1 x.2.2.1
noncomputable def sem95 : Sem1 := semOf ps95 rs95 x95
theorem so95 : SemsOk Try.prog (semsOf sl95) := sems_nil
theorem t95_eq (x : denR (headRT (ps95.map some))) : codeK (tabOf tr) (semsOf sl95) D95 L95 code95 (start 15 ps95 x) (finK rs95 ps95) = x95 x := by kernel_rfl
theorem k95 : Known Try.prog 95 sem95 :=
  fn_auto tr_ok eq_ok mixed_ok so95 (D := D95) (code := code95) (n := 15) Try.func95 (by kernel_rfl) (by kernel_rfl) (by kernel_rfl) (fun w0 mu _ hs => (loops_of (l := []) (by kernel_rfl) (List.forall_mem_nil _))) t95_eq

/-! ### f115: impl.varText -/
noncomputable def code115 : Code := match Try.f115.body with | some c => c | none => .skip
def ps115 : List AP := [.val false [.int .i64]]
def rs115 : List RP := [{ src := .tmp 2, agg := false, ps := [.str] }]
noncomputable def sl115 : SemL := []
def D115 : Draws := fun _ => .nil
def hp115_0 : List (Option AP) := [some (.val false [.int .i64]), none, none, some (.val false [.own (.cons (.int .u8) .nil)]), none, none, none, none, none, none, none, none, none, none, none, none, none, none, none, none, none]
def e115_0 : List (Option AP) := [some (.val false [.int .i64]), none, none, some (.val false [.own (.cons (.int .u8) .nil)]), none, none, none, none, none, none, none, none, none, none, none, none, none, none, none, none, none]
def q115_0 : List (Option AP) := [none, none, none, none, none, none, none, none, none, none, none, none, none, none, none, none, none, none, none, none, none]
abbrev H115_0 : Type := Int × (List (Int × Unit)) × Unit
abbrev E115_0 : Type := Int × (List (Int × Unit)) × Unit
abbrev Q115_0 : Type := Unit
noncomputable def impl_varText_c0 (n0 : Int) (out3 : List (Int × Unit)) : Option (Sum H115_0 (Sum E115_0 Q115_0)) :=
  bif decide ((127 : Int) < n0) then
    bif Nat.ble (((List.length out3) + 1) * 1) lim then some (.inl (IntKind.i64.wrap (Int.tdiv n0 (128 : Int)), out3 ++ [(IntKind.u8.wrap (IntKind.i64.wrap ((128 : Int) + (Int.tmod n0 (128 : Int)))), ())], ()))
    else none
  else
    some (.inr (.inl (n0, out3, ())))
noncomputable def impl_varText_r0 (x : H115_0) : Option (Sum H115_0 (Sum E115_0 Q115_0)) := impl_varText_c0 x.1 x.2.1
noncomputable def L115 {R : Type} : Loops R := fun id _ st k => bif Nat.beq id 0 then loopAt hp115_0 e115_0 q115_0 impl_varText_r0 st k else none
noncomputable def impl_varText (n0 : Int) : Option (ByteArray × Unit) :=
  outK (loopV impl_varText_r0 (n0, [], ())) (fun y1 =>
    bif Nat.ble (((List.length y1.2.1) + 1) * 1) lim then some (bytesOf (y1.2.1 ++ [(IntKind.u8.wrap y1.1, ())]), ())
    else none) (fun y2 =>
    none)
noncomputable def x115 (x : Int × Unit) : Option (ByteArray × Unit) := impl_varText x.1
noncomputable def sem115 : Sem1 := semOf ps115 rs115 x115
theorem so115 : SemsOk Try.prog (semsOf sl115) := sems_nil
noncomputable def b115_0 : Code := nthLoop code115 0
theorem t115_r0_eq (x : denR (headRT hp115_0)) : codeK (tabOf tr) (semsOf sl115) D115 L115 b115_0 (headSt hp115_0 x) (roundK 0 hp115_0 e115_0 q115_0) = impl_varText_r0 x := by kernel_rfl
theorem loop115_0 {R : Type} (r : R) (w0 : World) (mu : Mu) (hs : AnShape ps115 mu) : LoopAt Try.prog w0 mu 21 (L115 : Loops R) r 0 b115_0 :=
  loop_auto tr_ok eq_ok mixed_ok so115 (D := D115) hs (by kernel_rfl) (fun _ => (loops_of (l := []) (by kernel_rfl) (List.forall_mem_nil _))) t115_r0_eq (fun _ _ => rfl)
theorem t115_eq (x : denR (headRT (ps115.map some))) : codeK (tabOf tr) (semsOf sl115) D115 L115 code115 (start 21 ps115 x) (finK rs115 ps115) = x115 x := by kernel_rfl
theorem k115 : Known Try.prog 115 sem115 :=
  fn_auto tr_ok eq_ok mixed_ok so115 (D := D115) (code := code115) (n := 21) Try.func115 (by kernel_rfl) (by kernel_rfl) (by kernel_rfl) (fun w0 mu _ hs => (loops_of (l := [(0, b115_0)]) (by kernel_rfl) (List.forall_mem_cons.2 ⟨loop115_0 _ w0 mu hs, (List.forall_mem_nil _)⟩))) t115_eq

/-! ### f47: impl.Pieces -/
noncomputable def code47 : Code := match Try.f47.body with | some c => c | none => .skip
def ps47 : List AP := [.val false [.int .i64], .val false [.str]]
def rs47 : List RP := [{ src := .tmp 4, agg := false, ps := [.own (.cons .str .nil)] }, { src := .tmp 5, agg := false, ps := [.bool] }]
noncomputable def sl47 : SemL := [(95, (.shr, .shr, .shr, sem95)), (115, (.shr, .shr, .shr, sem115))]
def D47 : Draws := fun _ => .nil
def hp47_0 : List (Option AP) := [some (.val false [.int .i64]), some (.val false [.str]), none, none, none, none, some (.val false [.int .i64]), some (.val false [.own (.cons .str .nil)]), none, none, none, none, none, none, none, none, none, none, none, none, none, none, none, none, some (.val false [.int .i64]), some (.val false [.int .i64]), none, none, none, none, none, none, none, none, none, none, none, none, none, none, none, none, none, none, none, none, none, none, none, none, none, none, none]
def e47_0 : List (Option AP) := [none, none, none, none, none, none, none, some (.val false [.own (.cons .str .nil)]), none, none, none, none, none, none, none, none, none, none, none, none, none, none, none, none, none, none, none, none, none, none, none, none, none, none, none, none, none, none, none, none, none, none, none, none, none, none, none, none, none, none, none, none, none]
def q47_0 : List (Option AP) := [none, none, none, none, none, none, none, none, none, none, none, none, none, none, none, none, none, none, none, none, none, none, none, none, none, none, none, none, none, none, none, none, none, none, none, none, none, none, none, none, none, none, none, none, none, none, none, none, none, none, none, none, none]
abbrev H47_0 : Type := Int × ByteArray × Int × (List (ByteArray × Unit)) × Int × Int × Unit
abbrev E47_0 : Type := (List (ByteArray × Unit)) × Unit
abbrev Q47_0 : Type := Unit
noncomputable def impl_Pieces_c0 (num0 : Int) (s1 : ByteArray) (count6 : Int) (out7 : List (ByteArray × Unit)) (t24 : Int) (t25 : Int) : Option (Sum H47_0 (Sum E47_0 Q47_0)) :=
  bif decide (t25 < t24) then
    bif decide ((0 : Int) ≤ IntKind.i64.wrap (t25 * (40 : Int))) then bif decide (((Int.toNat (IntKind.i64.wrap (t25 * (40 : Int))) : Nat) : Int) ≤ (if ((ByteArray.size s1 : Nat) : Int) < IntKind.i64.wrap ((IntKind.i64.wrap (t25 + (1 : Int))) * (40 : Int)) then ((ByteArray.size s1 : Nat) : Int) else IntKind.i64.wrap ((IntKind.i64.wrap (t25 + (1 : Int))) * (40 : Int)))) then bif decide ((if ((ByteArray.size s1 : Nat) : Int) < IntKind.i64.wrap ((IntKind.i64.wrap (t25 + (1 : Int))) * (40 : Int)) then ((ByteArray.size s1 : Nat) : Int) else IntKind.i64.wrap ((IntKind.i64.wrap (t25 + (1 : Int))) * (40 : Int))) ≤ ((ByteArray.size s1 : Nat) : Int)) then Option.bind (impl_varText num0) fun y2 =>
          Option.bind (impl_varText t25) fun y3 =>
          bif Nat.ble ((ByteArray.size y2.1) + (ByteArray.size y3.1)) lim then Option.bind (impl_varText count6) fun y4 =>
            bif Nat.ble ((ByteArray.size (y2.1 ++ y3.1)) + (ByteArray.size y4.1)) lim then bif Nat.ble ((ByteArray.size ((y2.1 ++ y3.1) ++ y4.1)) + (ByteArray.size (ByteArray.extract s1 (Int.toNat (IntKind.i64.wrap (t25 * (40 : Int)))) (Int.toNat (if ((ByteArray.size s1 : Nat) : Int) < IntKind.i64.wrap ((IntKind.i64.wrap (t25 + (1 : Int))) * (40 : Int)) then ((ByteArray.size s1 : Nat) : Int) else IntKind.i64.wrap ((IntKind.i64.wrap (t25 + (1 : Int))) * (40 : Int))))))) lim then bif Nat.ble (((List.length out7) + 1) * 16) lim then some (.inl (num0, s1, count6, out7 ++ [(((y2.1 ++ y3.1) ++ y4.1) ++ (ByteArray.extract s1 (Int.toNat (IntKind.i64.wrap (t25 * (40 : Int)))) (Int.toNat (if ((ByteArray.size s1 : Nat) : Int) < IntKind.i64.wrap ((IntKind.i64.wrap (t25 + (1 : Int))) * (40 : Int)) then ((ByteArray.size s1 : Nat) : Int) else IntKind.i64.wrap ((IntKind.i64.wrap (t25 + (1 : Int))) * (40 : Int))))), ())], t24, IntKind.i64.wrap (t25 + (1 : Int)), ()))
                else none
              else none
            else none
          else none
        else none
      else none
    else none
  else
    some (.inr (.inl (out7, ())))
noncomputable def impl_Pieces_r0 (x : H47_0) : Option (Sum H47_0 (Sum E47_0 Q47_0)) := impl_Pieces_c0 x.1 x.2.1 x.2.2.1 x.2.2.2.1 x.2.2.2.2.1 x.2.2.2.2.2.1
noncomputable def L47 {R : Type} : Loops R := fun id _ st k => bif Nat.beq id 0 then loopAt hp47_0 e47_0 q47_0 impl_Pieces_r0 st k else none
noncomputable def impl_Pieces (num0 : Int) (s1 : ByteArray) : Option ((List (ByteArray × Unit)) × Bool × Unit) :=
  Option.bind (impl_inRange num0 (0 : Int) (100000 : Int)) fun y1 =>
  bif !y1.1 then
    some ([], false, ())
  else bif decide ((400 : Int) < ((ByteArray.size s1 : Nat) : Int)) then
    some ([], false, ())
  else
    outK (loopV impl_Pieces_r0 (num0, s1, (if IntKind.i64.wrap (Int.tdiv (IntKind.i64.wrap ((IntKind.i64.wrap (((ByteArray.size s1 : Nat) : Int) + (40 : Int))) - (1 : Int))) (40 : Int)) > (1 : Int) then IntKind.i64.wrap (Int.tdiv (IntKind.i64.wrap ((IntKind.i64.wrap (((ByteArray.size s1 : Nat) : Int) + (40 : Int))) - (1 : Int))) (40 : Int)) else (1 : Int)), [], (if IntKind.i64.wrap (Int.tdiv (IntKind.i64.wrap ((IntKind.i64.wrap (((ByteArray.size s1 : Nat) : Int) + (40 : Int))) - (1 : Int))) (40 : Int)) > (1 : Int) then IntKind.i64.wrap (Int.tdiv (IntKind.i64.wrap ((IntKind.i64.wrap (((ByteArray.size s1 : Nat) : Int) + (40 : Int))) - (1 : Int))) (40 : Int)) else (1 : Int)), (0 : Int), ())) (fun y2 =>
      some (y2.1, true, ())) (fun y3 =>
      none)
noncomputable def x47 (x : Int × ByteArray × Unit) : Option ((List (ByteArray × Unit)) × Bool × Unit) := impl_Pieces x.1 x.2.1
noncomputable def sem47 : Sem1 := semOf ps47 rs47 x47
theorem so47 : SemsOk Try.prog (semsOf sl47) := sems_cons k95 (sems_cons k115 (sems_nil))
noncomputable def b47_0 : Code := nthLoop code47 0
theorem t47_r0_eq (x : denR (headRT hp47_0)) : codeK (tabOf tr) (semsOf sl47) D47 L47 b47_0 (headSt hp47_0 x) (roundK 0 hp47_0 e47_0 q47_0) = impl_Pieces_r0 x := by kernel_rfl
theorem loop47_0 {R : Type} (r : R) (w0 : World) (mu : Mu) (hs : AnShape ps47 mu) : LoopAt Try.prog w0 mu 53 (L47 : Loops R) r 0 b47_0 :=
  loop_auto tr_ok eq_ok mixed_ok so47 (D := D47) hs (by kernel_rfl) (fun _ => (loops_of (l := []) (by kernel_rfl) (List.forall_mem_nil _))) t47_r0_eq (fun _ _ => rfl)
theorem t47_eq (x : denR (headRT (ps47.map some))) : codeK (tabOf tr) (semsOf sl47) D47 L47 code47 (start 53 ps47 x) (finK rs47 ps47) = x47 x := by kernel_rfl
theorem k47 : Known Try.prog 47 sem47 :=
  fn_auto tr_ok eq_ok mixed_ok so47 (D := D47) (code := code47) (n := 53) Try.func47 (by kernel_rfl) (by kernel_rfl) (by kernel_rfl) (fun w0 mu _ hs => (loops_of (l := [(0, b47_0)]) (by kernel_rfl) (List.forall_mem_cons.2 ⟨loop47_0 _ w0 mu hs, (List.forall_mem_nil _)⟩))) t47_eq

/-! ### f94: spec.l01In -/
noncomputable def code94 : Code := match Try.f94.body with | some c => c | none => .skip
def ps94 : List AP := [.val false [.int .i64], .val false [.int .i64], .val false [.int .i64]]
def rs94 : List RP := [{ src := .tmp 6, agg := false, ps := [.bool] }]
noncomputable def sl94 : SemL := []
def D94 : Draws := fun _ => .nil
noncomputable def L94 {R : Type} : Loops R := fun _ _ _ _ => none
noncomputable def spec_l01In (x0 : Int) (least1 : Int) (most2 : Int) : Option (Bool × Unit) :=
  bif decide (least1 ≤ x0) then
    some (decide (x0 ≤ most2), ())
  else
    some (false, ())
noncomputable def x94 (x : Int × Int × Int × Unit) : Option (Bool × Unit) := spec_l01In x.1 x.2.1 x.2.2.1
noncomputable def sem94 : Sem1 := semOf ps94 rs94 x94
theorem so94 : SemsOk Try.prog (semsOf sl94) := sems_nil
theorem t94_eq (x : denR (headRT (ps94.map some))) : codeK (tabOf tr) (semsOf sl94) D94 L94 code94 (start 15 ps94 x) (finK rs94 ps94) = x94 x := by kernel_rfl
theorem k94 : Known Try.prog 94 sem94 :=
  fn_auto tr_ok eq_ok mixed_ok so94 (D := D94) (code := code94) (n := 15) Try.func94 (by kernel_rfl) (by kernel_rfl) (by kernel_rfl) (fun w0 mu _ hs => (loops_of (l := []) (by kernel_rfl) (List.forall_mem_nil _))) t94_eq

/-! ### f109: spec.l01Var -/
noncomputable def code109 : Code := match Try.f109.body with | some c => c | none => .skip
def ps109 : List AP := [.val false [.int .i64]]
def rs109 : List RP := [{ src := .tmp 2, agg := false, ps := [.str] }]
noncomputable def sl109 : SemL := []
def D109 : Draws := fun _ => .nil
def hp109_0 : List (Option AP) := [some (.val false [.int .i64]), none, none, some (.val false [.own (.cons (.int .u8) .nil)]), none, none, none, none, none, none, none, none, none, none, none, none, none, none, none, none, none, none]
def e109_0 : List (Option AP) := [some (.val false [.int .i64]), none, none, some (.val false [.own (.cons (.int .u8) .nil)]), none, none, none, none, none, none, none, none, none, none, none, none, none, none, none, none, none, none]
def q109_0 : List (Option AP) := [none, none, none, none, none, none, none, none, none, none, none, none, none, none, none, none, none, none, none, none, none, none]
abbrev H109_0 : Type := Int × (List (Int × Unit)) × Unit
abbrev E109_0 : Type := Int × (List (Int × Unit)) × Unit
abbrev Q109_0 : Type := Unit
noncomputable def spec_l01Var_c0 (n0 : Int) (out3 : List (Int × Unit)) : Option (Sum H109_0 (Sum E109_0 Q109_0)) :=
  bif decide ((127 : Int) < n0) then
    bif Nat.ble (((List.length out3) + 1) * 1) lim then some (.inl (IntKind.i64.wrap (Int.tdiv n0 (128 : Int)), out3 ++ [(IntKind.u8.wrap (IntKind.i64.wrap ((Int.tmod n0 (128 : Int)) + (128 : Int))), ())], ()))
    else none
  else
    some (.inr (.inl (n0, out3, ())))
noncomputable def spec_l01Var_r0 (x : H109_0) : Option (Sum H109_0 (Sum E109_0 Q109_0)) := spec_l01Var_c0 x.1 x.2.1
noncomputable def L109 {R : Type} : Loops R := fun id _ st k => bif Nat.beq id 0 then loopAt hp109_0 e109_0 q109_0 spec_l01Var_r0 st k else none
noncomputable def spec_l01Var (n0 : Int) : Option (ByteArray × Unit) :=
  outK (loopV spec_l01Var_r0 (n0, [], ())) (fun y1 =>
    bif Nat.ble (((List.length y1.2.1) + 1) * 1) lim then some (bytesOf (y1.2.1 ++ [(IntKind.u8.wrap y1.1, ())]), ())
    else none) (fun y2 =>
    none)
noncomputable def x109 (x : Int × Unit) : Option (ByteArray × Unit) := spec_l01Var x.1
noncomputable def sem109 : Sem1 := semOf ps109 rs109 x109
theorem so109 : SemsOk Try.prog (semsOf sl109) := sems_nil
noncomputable def b109_0 : Code := nthLoop code109 0
theorem t109_r0_eq (x : denR (headRT hp109_0)) : codeK (tabOf tr) (semsOf sl109) D109 L109 b109_0 (headSt hp109_0 x) (roundK 0 hp109_0 e109_0 q109_0) = spec_l01Var_r0 x := by kernel_rfl
theorem loop109_0 {R : Type} (r : R) (w0 : World) (mu : Mu) (hs : AnShape ps109 mu) : LoopAt Try.prog w0 mu 22 (L109 : Loops R) r 0 b109_0 :=
  loop_auto tr_ok eq_ok mixed_ok so109 (D := D109) hs (by kernel_rfl) (fun _ => (loops_of (l := []) (by kernel_rfl) (List.forall_mem_nil _))) t109_r0_eq (fun _ _ => rfl)
theorem t109_eq (x : denR (headRT (ps109.map some))) : codeK (tabOf tr) (semsOf sl109) D109 L109 code109 (start 22 ps109 x) (finK rs109 ps109) = x109 x := by kernel_rfl
theorem k109 : Known Try.prog 109 sem109 :=
  fn_auto tr_ok eq_ok mixed_ok so109 (D := D109) (code := code109) (n := 22) Try.func109 (by kernel_rfl) (by kernel_rfl) (by kernel_rfl) (fun w0 mu _ hs => (loops_of (l := [(0, b109_0)]) (by kernel_rfl) (List.forall_mem_cons.2 ⟨loop109_0 _ w0 mu hs, (List.forall_mem_nil _)⟩))) t109_eq

/-! ### f48: spec.Pieces -/
noncomputable def code48 : Code := match Try.f48.body with | some c => c | none => .skip
def ps48 : List AP := [.val false [.int .i64], .val false [.str]]
def rs48 : List RP := [{ src := .tmp 4, agg := false, ps := [.own (.cons .str .nil)] }, { src := .tmp 5, agg := false, ps := [.bool] }]
noncomputable def sl48 : SemL := [(94, (.shr, .shr, .shr, sem94)), (109, (.shr, .shr, .shr, sem109))]
def D48 : Draws := fun id => bif Nat.beq id 13 then .op 0 .any (.op 1 .any (.op 3 .any (.op 6 .any (.op 9 .any (.op 10 .any (.op 11 .any (.op 12 .any (.op 13 .any (.op 2 .one (.op 4 .one (.op 5 .any (.op 7 .one (.op 8 .any (.op 14 .any (.op 15 .one (.op 16 .last (.op 17 .any (.nil)))))))))))))))))) else .nil
def hp48_0 : List (Option AP) := [some (.val false [.int .i64]), some (.val false [.str]), none, none, none, none, some (.val false [.own (.cons .str .nil)]), some (.val false [.int .i64]), some (.val false [.int .i64]), none, none, none, none, none, none, none, none, none, none, none, none, none, none, none, none, none, none, none, none, none, none, none, none, none, none, none, none, none, none, none, none, none, none, none, none, none, none, none, none, none, none, none, none, none, none, none, none, none, none]
def e48_0 : List (Option AP) := [none, none, none, none, none, none, some (.val false [.own (.cons .str .nil)]), none, none, none, none, none, none, none, none, none, none, none, none, none, none, none, none, none, none, none, none, none, none, none, none, none, none, none, none, none, none, none, none, none, none, none, none, none, none, none, none, none, none, none, none, none, none, none, none, none, none, none, none]
def q48_0 : List (Option AP) := [none, none, none, none, none, none, none, none, none, none, none, none, none, none, none, none, none, none, none, none, none, none, none, none, none, none, none, none, none, none, none, none, none, none, none, none, none, none, none, none, none, none, none, none, none, none, none, none, none, none, none, none, none, none, none, none, none, none, none]
abbrev H48_0 : Type := Int × ByteArray × (List (ByteArray × Unit)) × Int × Int × Unit
abbrev E48_0 : Type := (List (ByteArray × Unit)) × Unit
abbrev Q48_0 : Type := Unit
noncomputable def spec_Pieces_c0 (num0 : Int) (s1 : ByteArray) (out6 : List (ByteArray × Unit)) (count7 : Int) (i8 : Int) : Option (Sum H48_0 (Sum E48_0 Q48_0)) :=
  bif decide (i8 < count7) then
    bif decide (((ByteArray.size s1 : Nat) : Int) < IntKind.i64.wrap ((IntKind.i64.wrap (i8 + (1 : Int))) * (40 : Int))) then
      bif decide ((0 : Int) ≤ IntKind.i64.wrap (i8 * (40 : Int))) then bif decide (((Int.toNat (IntKind.i64.wrap (i8 * (40 : Int))) : Nat) : Int) ≤ ((ByteArray.size s1 : Nat) : Int)) then bif decide (((ByteArray.size s1 : Nat) : Int) ≤ ((ByteArray.size s1 : Nat) : Int)) then Option.bind (spec_l01Var num0) fun y2 =>
            Option.bind (spec_l01Var i8) fun y3 =>
            bif Nat.ble ((ByteArray.size y2.1) + (ByteArray.size y3.1)) lim then Option.bind (spec_l01Var count7) fun y4 =>
              bif Nat.ble ((ByteArray.size (y2.1 ++ y3.1)) + (ByteArray.size y4.1)) lim then bif Nat.ble ((ByteArray.size ((y2.1 ++ y3.1) ++ y4.1)) + (ByteArray.size (ByteArray.extract s1 (Int.toNat (IntKind.i64.wrap (i8 * (40 : Int)))) (Int.toNat ((ByteArray.size s1 : Nat) : Int))))) lim then bif Nat.ble (((List.length out6) + 1) * 16) lim then some (.inl (num0, s1, out6 ++ [(((y2.1 ++ y3.1) ++ y4.1) ++ (ByteArray.extract s1 (Int.toNat (IntKind.i64.wrap (i8 * (40 : Int)))) (Int.toNat ((ByteArray.size s1 : Nat) : Int))), ())], count7, IntKind.i64.wrap (i8 + (1 : Int)), ()))
                  else none
                else none
              else none
            else none
          else none
        else none
      else none
    else bif decide ((0 : Int) ≤ IntKind.i64.wrap (i8 * (40 : Int))) then bif decide (((Int.toNat (IntKind.i64.wrap (i8 * (40 : Int))) : Nat) : Int) ≤ IntKind.i64.wrap ((IntKind.i64.wrap (i8 + (1 : Int))) * (40 : Int))) then bif decide (IntKind.i64.wrap ((IntKind.i64.wrap (i8 + (1 : Int))) * (40 : Int)) ≤ ((ByteArray.size s1 : Nat) : Int)) then Option.bind (spec_l01Var num0) fun y5 =>
          Option.bind (spec_l01Var i8) fun y6 =>
          bif Nat.ble ((ByteArray.size y5.1) + (ByteArray.size y6.1)) lim then Option.bind (spec_l01Var count7) fun y7 =>
            bif Nat.ble ((ByteArray.size (y5.1 ++ y6.1)) + (ByteArray.size y7.1)) lim then bif Nat.ble ((ByteArray.size ((y5.1 ++ y6.1) ++ y7.1)) + (ByteArray.size (ByteArray.extract s1 (Int.toNat (IntKind.i64.wrap (i8 * (40 : Int)))) (Int.toNat (IntKind.i64.wrap ((IntKind.i64.wrap (i8 + (1 : Int))) * (40 : Int))))))) lim then bif Nat.ble (((List.length out6) + 1) * 16) lim then some (.inl (num0, s1, out6 ++ [(((y5.1 ++ y6.1) ++ y7.1) ++ (ByteArray.extract s1 (Int.toNat (IntKind.i64.wrap (i8 * (40 : Int)))) (Int.toNat (IntKind.i64.wrap ((IntKind.i64.wrap (i8 + (1 : Int))) * (40 : Int))))), ())], count7, IntKind.i64.wrap (i8 + (1 : Int)), ()))
                else none
              else none
            else none
          else none
        else none
      else none
    else none
  else
    some (.inr (.inl (out6, ())))
noncomputable def spec_Pieces_r0 (x : H48_0) : Option (Sum H48_0 (Sum E48_0 Q48_0)) := spec_Pieces_c0 x.1 x.2.1 x.2.2.1 x.2.2.2.1 x.2.2.2.2.1
noncomputable def L48 {R : Type} : Loops R := fun id _ st k => bif Nat.beq id 0 then loopAt hp48_0 e48_0 q48_0 spec_Pieces_r0 st k else none
noncomputable def spec_Pieces (num0 : Int) (s1 : ByteArray) : Option ((List (ByteArray × Unit)) × Bool × Unit) :=
  Option.bind (spec_l01In num0 (0 : Int) (100000 : Int)) fun y1 =>
  bif !y1.1 then
    some ([], false, ())
  else bif decide ((400 : Int) < ((ByteArray.size s1 : Nat) : Int)) then
    some ([], false, ())
  else bif decide (IntKind.i64.wrap (Int.tdiv (IntKind.i64.wrap ((IntKind.i64.wrap (((ByteArray.size s1 : Nat) : Int) + (40 : Int))) - (1 : Int))) (40 : Int)) = (0 : Int)) then
    outK (loopV spec_Pieces_r0 (num0, s1, [], (1 : Int), (0 : Int), ())) (fun y2 =>
      some (y2.1, true, ())) (fun y3 =>
      none)
  else
    outK (loopV spec_Pieces_r0 (num0, s1, [], IntKind.i64.wrap (Int.tdiv (IntKind.i64.wrap ((IntKind.i64.wrap (((ByteArray.size s1 : Nat) : Int) + (40 : Int))) - (1 : Int))) (40 : Int)), (0 : Int), ())) (fun y4 =>
      some (y4.1, true, ())) (fun y5 =>
      none)
noncomputable def x48 (x : Int × ByteArray × Unit) : Option ((List (ByteArray × Unit)) × Bool × Unit) := spec_Pieces x.1 x.2.1
noncomputable def sem48 : Sem1 := semOf ps48 rs48 x48
theorem so48 : SemsOk Try.prog (semsOf sl48) := sems_cons k94 (sems_cons k109 (sems_nil))
noncomputable def b48_0 : Code := nthLoop code48 0
theorem t48_r0_eq (x : denR (headRT hp48_0)) : codeK (tabOf tr) (semsOf sl48) D48 L48 b48_0 (headSt hp48_0 x) (roundK 0 hp48_0 e48_0 q48_0) = spec_Pieces_r0 x := by kernel_rfl
theorem loop48_0 {R : Type} (r : R) (w0 : World) (mu : Mu) (hs : AnShape ps48 mu) : LoopAt Try.prog w0 mu 59 (L48 : Loops R) r 0 b48_0 :=
  loop_auto tr_ok eq_ok mixed_ok so48 (D := D48) hs (by kernel_rfl) (fun _ => (loops_of (l := []) (by kernel_rfl) (List.forall_mem_nil _))) t48_r0_eq (fun _ _ => rfl)
theorem t48_eq (x : denR (headRT (ps48.map some))) : codeK (tabOf tr) (semsOf sl48) D48 L48 code48 (start 59 ps48 x) (finK rs48 ps48) = x48 x := by kernel_rfl
theorem k48 : Known Try.prog 48 sem48 :=
  fn_auto tr_ok eq_ok mixed_ok so48 (D := D48) (code := code48) (n := 59) Try.func48 (by kernel_rfl) (by kernel_rfl) (by kernel_rfl) (fun w0 mu _ hs => (loops_of (l := [(0, b48_0)]) (by kernel_rfl) (List.forall_mem_cons.2 ⟨loop48_0 _ w0 mu hs, (List.forall_mem_nil _)⟩))) t48_eq

/-! ### f153: impl.ReadVar -/
noncomputable def code153 : Code := match Try.f153.body with | some c => c | none => .skip
def ps153 : List AP := [.val false [.str], .val false [.int .i64]]
def rs153 : List RP := [{ src := .tmp 4, agg := false, ps := [.int .i64] }, { src := .tmp 5, agg := false, ps := [.int .i64] }, { src := .tmp 6, agg := false, ps := [.bool] }]
noncomputable def sl153 : SemL := []
def D153 : Draws := fun _ => .nil
def hp153_0 : List (Option AP) := [some (.val false [.str]), some (.val false [.int .i64]), none, none, none, none, none, some (.val false [.int .i64]), some (.val false [.int .i64]), some (.val false [.int .i64]), none, none, none, none, none, none, none, none, none, none, none, none, none, none, none, none, none, none, none, none, none, none, none, none, none, none, none, none, none, none, none, none, none, none, none, none, none, none, none, none, none, none, none, none, none, none, none, none, none, none, none, none]
def e153_0 : List (Option AP) := [none, none, none, none, none, none, none, none, none, none, none, none, none, none, none, none, none, none, none, none, none, none, none, none, none, none, none, none, none, none, none, none, none, none, none, none, none, none, none, none, none, none, none, none, none, none, none, none, none, none, none, none, none, none, none, none, none, none, none, none, none, none]
def q153_0 : List (Option AP) := [none, none, none, none, some (.val false [.int .i64]), some (.val false [.int .i64]), some (.val false [.bool]), none, none, none, none, none, none, none, none, none, none, none, none, none, none, none, none, none, none, none, none, none, none, none, none, none, none, none, none, none, none, none, none, none, none, none, none, none, none, none, none, none, none, none, none, none, none, none, none, none, none, none, none, none, none, none]
abbrev H153_0 : Type := ByteArray × Int × Int × Int × Int × Unit
abbrev E153_0 : Type := Unit
abbrev Q153_0 : Type := Int × Int × Bool × Unit
noncomputable def impl_ReadVar_c0 (text0 : ByteArray) (at_1 : Int) (n7 : Int) (unit8 : Int) (i9 : Int) : Option (Sum H153_0 (Sum E153_0 Q153_0)) :=
  bif decide (i9 < (5 : Int)) then
    bif decide (IntKind.i64.wrap (at_1 + i9) < ((ByteArray.size text0 : Nat) : Int)) then
      bif decide ((0 : Int) ≤ IntKind.i64.wrap (at_1 + i9)) then bif decide (IntKind.i64.wrap (at_1 + i9) < ((ByteArray.size text0 : Nat) : Int)) then bif decide ((128 : Int) ≤ IntKind.i64.wrap (byteAt text0 (IntKind.i64.wrap (at_1 + i9)))) then
            some (.inl (text0, at_1, IntKind.i64.wrap (n7 + (IntKind.i64.wrap ((Int.tmod (IntKind.i64.wrap (byteAt text0 (IntKind.i64.wrap (at_1 + i9)))) (128 : Int)) * unit8))), IntKind.i64.wrap (unit8 * (128 : Int)), IntKind.i64.wrap (i9 + (1 : Int)), ()))
          else bif decide (IntKind.i64.wrap (byteAt text0 (IntKind.i64.wrap (at_1 + i9))) = (0 : Int)) then
            bif decide ((0 : Int) < i9) then
              some (.inr (.inr ((0 : Int), (0 : Int), false, ())))
            else bif decide ((1000000000 : Int) < IntKind.i64.wrap (n7 + (IntKind.i64.wrap ((Int.tmod (IntKind.i64.wrap (byteAt text0 (IntKind.i64.wrap (at_1 + i9)))) (128 : Int)) * unit8)))) then
              some (.inr (.inr ((0 : Int), (0 : Int), false, ())))
            else
              some (.inr (.inr (IntKind.i64.wrap (n7 + (IntKind.i64.wrap ((Int.tmod (IntKind.i64.wrap (byteAt text0 (IntKind.i64.wrap (at_1 + i9)))) (128 : Int)) * unit8))), IntKind.i64.wrap ((IntKind.i64.wrap (at_1 + i9)) + (1 : Int)), true, ())))
          else bif decide ((1000000000 : Int) < IntKind.i64.wrap (n7 + (IntKind.i64.wrap ((Int.tmod (IntKind.i64.wrap (byteAt text0 (IntKind.i64.wrap (at_1 + i9)))) (128 : Int)) * unit8)))) then
            some (.inr (.inr ((0 : Int), (0 : Int), false, ())))
          else
            some (.inr (.inr (IntKind.i64.wrap (n7 + (IntKind.i64.wrap ((Int.tmod (IntKind.i64.wrap (byteAt text0 (IntKind.i64.wrap (at_1 + i9)))) (128 : Int)) * unit8))), IntKind.i64.wrap ((IntKind.i64.wrap (at_1 + i9)) + (1 : Int)), true, ())))
        else none
      else none
    else
      some (.inr (.inl (())))
  else
    some (.inr (.inl (())))
noncomputable def impl_ReadVar_r0 (x : H153_0) : Option (Sum H153_0 (Sum E153_0 Q153_0)) := impl_ReadVar_c0 x.1 x.2.1 x.2.2.1 x.2.2.2.1 x.2.2.2.2.1
noncomputable def L153 {R : Type} : Loops R := fun id _ st k => bif Nat.beq id 0 then loopAt hp153_0 e153_0 q153_0 impl_ReadVar_r0 st k else none
noncomputable def impl_ReadVar (text0 : ByteArray) (at_1 : Int) : Option (Int × Int × Bool × Unit) :=
  bif decide (at_1 < (0 : Int)) then
    some ((0 : Int), (0 : Int), false, ())
  else bif decide (((ByteArray.size text0 : Nat) : Int) < at_1) then
    some ((0 : Int), (0 : Int), false, ())
  else
    outK (loopV impl_ReadVar_r0 (text0, at_1, (0 : Int), (1 : Int), (0 : Int), ())) (fun y1 =>
      some ((0 : Int), (0 : Int), false, ())) (fun y2 =>
      some (y2.1, y2.2.1, y2.2.2.1, ()))
noncomputable def x153 (x : ByteArray × Int × Unit) : Option (Int × Int × Bool × Unit) := impl_ReadVar x.1 x.2.1
noncomputable def sem153 : Sem1 := semOf ps153 rs153 x153
theorem so153 : SemsOk Try.prog (semsOf sl153) := sems_nil
noncomputable def b153_0 : Code := nthLoop code153 0
theorem t153_r0_eq (x : denR (headRT hp153_0)) : codeK (tabOf tr) (semsOf sl153) D153 L153 b153_0 (headSt hp153_0 x) (roundK 0 hp153_0 e153_0 q153_0) = impl_ReadVar_r0 x := by kernel_rfl
theorem loop153_0 {R : Type} (r : R) (w0 : World) (mu : Mu) (hs : AnShape ps153 mu) : LoopAt Try.prog w0 mu 62 (L153 : Loops R) r 0 b153_0 :=
  loop_auto tr_ok eq_ok mixed_ok so153 (D := D153) hs (by kernel_rfl) (fun _ => (loops_of (l := []) (by kernel_rfl) (List.forall_mem_nil _))) t153_r0_eq (fun _ _ => rfl)
theorem t153_eq (x : denR (headRT (ps153.map some))) : codeK (tabOf tr) (semsOf sl153) D153 L153 code153 (start 62 ps153 x) (finK rs153 ps153) = x153 x := by kernel_rfl
theorem k153 : Known Try.prog 153 sem153 :=
  fn_auto tr_ok eq_ok mixed_ok so153 (D := D153) (code := code153) (n := 62) Try.func153 (by kernel_rfl) (by kernel_rfl) (by kernel_rfl) (fun w0 mu _ hs => (loops_of (l := [(0, b153_0)]) (by kernel_rfl) (List.forall_mem_cons.2 ⟨loop153_0 _ w0 mu hs, (List.forall_mem_nil _)⟩))) t153_eq

/-! ### f122: impl.scanner).number -/
noncomputable def code122 : Code := match Try.f122.body with | some c => c | none => .skip
def ps122 : List AP := [.box true [.str, .int .i64, .bool]]
def rs122 : List RP := [{ src := .tmp 2, agg := false, ps := [.int .i64] }]
noncomputable def sl122 : SemL := [(153, (.shr, .shr, .shr, sem153))]
def D122 : Draws := fun id => bif Nat.beq id 1 then .op 0 .any (.op 1 .any (.op 2 .any (.op 3 .take (.op 4 .any (.op 5 .any (.op 6 .any (.op 7 .take (.op 8 .one (.op 9 .any (.op 10 .any (.op 11 .any (.op 12 .any (.op 13 .any (.op 14 .any (.op 15 .any (.nil)))))))))))))))) else .nil
noncomputable def L122 {R : Type} : Loops R := fun _ _ _ _ => none
noncomputable def impl_scanner_number (s0c0 : ByteArray) (s0c1 : Int) (s0c2 : Bool) : Option (Int × ByteArray × Int × Bool × Unit) :=
  Option.bind (impl_ReadVar s0c0 s0c1) fun y1 =>
  bif s0c2 then
    some ((0 : Int), s0c0, s0c1, true, ())
  else bif !y1.2.2.1 then
    some ((0 : Int), s0c0, s0c1, true, ())
  else
    some (y1.1, s0c0, y1.2.1, s0c2, ())
noncomputable def x122 (x : ByteArray × Int × Bool × Unit) : Option (Int × ByteArray × Int × Bool × Unit) := impl_scanner_number x.1 x.2.1 x.2.2.1
noncomputable def sem122 : Sem1 := semOf ps122 rs122 x122
theorem so122 : SemsOk Try.prog (semsOf sl122) := sems_cons k153 (sems_nil)
theorem t122_eq (x : denR (headRT (ps122.map some))) : codeK (tabOf tr) (semsOf sl122) D122 L122 code122 (start 35 ps122 x) (finK rs122 ps122) = x122 x := by kernel_rfl
theorem k122 : Known Try.prog 122 sem122 :=
  fn_auto tr_ok eq_ok mixed_ok so122 (D := D122) (code := code122) (n := 35) Try.func122 (by kernel_rfl) (by kernel_rfl) (by kernel_rfl) (fun w0 mu _ hs => (loops_of (l := []) (by kernel_rfl) (List.forall_mem_nil _))) t122_eq

/-! ### f49: impl.ReadPiece -/
noncomputable def code49 : Code := match Try.f49.body with | some c => c | none => .skip
def ps49 : List AP := [.val false [.str]]
def rs49 : List RP := [{ src := .tmp 2, agg := false, ps := [.int .i64] }, { src := .tmp 3, agg := false, ps := [.int .i64] }, { src := .tmp 4, agg := false, ps := [.int .i64] }, { src := .tmp 5, agg := false, ps := [.str] }, { src := .tmp 6, agg := false, ps := [.bool] }]
noncomputable def sl49 : SemL := [(122, (.shr, .shr, .shr, sem122))]
def D49 : Draws := fun _ => .nil
noncomputable def L49 {R : Type} : Loops R := fun _ _ _ _ => none
noncomputable def impl_ReadPiece (text0 : ByteArray) : Option (Int × Int × Int × ByteArray × Bool × Unit) :=
  Option.bind (impl_scanner_number text0 (0 : Int) false) fun y1 =>
  Option.bind (impl_scanner_number y1.2.1 y1.2.2.1 y1.2.2.2.1) fun y2 =>
  Option.bind (impl_scanner_number y2.2.1 y2.2.2.1 y2.2.2.2.1) fun y3 =>
  bif y3.2.2.2.1 then
    some ((0 : Int), (0 : Int), (0 : Int), (ByteArray.mk #[]), false, ())
  else bif decide ((100000 : Int) < y1.1) then
    some ((0 : Int), (0 : Int), (0 : Int), (ByteArray.mk #[]), false, ())
  else bif decide (y3.1 ≤ y2.1) then
    some ((0 : Int), (0 : Int), (0 : Int), (ByteArray.mk #[]), false, ())
  else bif decide ((10 : Int) < y3.1) then
    some ((0 : Int), (0 : Int), (0 : Int), (ByteArray.mk #[]), false, ())
  else bif decide ((0 : Int) ≤ y3.2.2.1) then bif decide (y3.2.2.1 ≤ ((ByteArray.size text0 : Nat) : Int)) then bif decide ((40 : Int) < ((ByteArray.size (ByteArray.extract text0 (Int.toNat y3.2.2.1) (ByteArray.size text0)) : Nat) : Int)) then
        some ((0 : Int), (0 : Int), (0 : Int), (ByteArray.mk #[]), false, ())
      else bif decide (((ByteArray.size (ByteArray.extract text0 (Int.toNat y3.2.2.1) (ByteArray.size text0)) : Nat) : Int) < (40 : Int)) then
        bif decide (y2.1 < IntKind.i64.wrap (y3.1 - (1 : Int))) then
          some ((0 : Int), (0 : Int), (0 : Int), (ByteArray.mk #[]), false, ())
        else
          some (y1.1, y2.1, y3.1, ByteArray.extract text0 (Int.toNat y3.2.2.1) (ByteArray.size text0), true, ())
      else
        some (y1.1, y2.1, y3.1, ByteArray.extract text0 (Int.toNat y3.2.2.1) (ByteArray.size text0), true, ())
    else none
  else none
noncomputable def x49 (x : ByteArray × Unit) : Option (Int × Int × Int × ByteArray × Bool × Unit) := impl_ReadPiece x.1
noncomputable def sem49 : Sem1 := semOf ps49 rs49 x49
theorem so49 : SemsOk Try.prog (semsOf sl49) := sems_cons k122 (sems_nil)
theorem t49_eq (x : denR (headRT (ps49.map some))) : codeK (tabOf tr) (semsOf sl49) D49 L49 code49 (start 54 ps49 x) (finK rs49 ps49) = x49 x := by kernel_rfl
theorem k49 : Known Try.prog 49 sem49 :=
  fn_auto tr_ok eq_ok mixed_ok so49 (D := D49) (code := code49) (n := 54) Try.func49 (by kernel_rfl) (by kernel_rfl) (by kernel_rfl) (fun w0 mu _ hs => (loops_of (l := []) (by kernel_rfl) (List.forall_mem_nil _))) t49_eq

/-! ### f124: slices.Clone[[]string,string] -/
noncomputable def code124 : Code := match Try.f124.body with | some c => c | none => .skip
def ps124 : List AP := [.val false [.shr (.cons .str .nil)]]
def rs124 : List RP := [{ src := .tmp 2, agg := false, ps := [.own (.cons .str .nil)] }]
noncomputable def sl124 : SemL := []
def D124 : Draws := fun _ => .nil
noncomputable def L124 {R : Type} : Loops R := fun _ _ _ _ => none
noncomputable def slices_Clone_string (s0 : List (ByteArray × Unit)) : Option ((List (ByteArray × Unit)) × Unit) :=
  bif Nat.ble ((0 + (List.length s0)) * 16) lim then some ([] ++ s0, ())
  else none
noncomputable def x124 (x : (List (ByteArray × Unit)) × Unit) : Option ((List (ByteArray × Unit)) × Unit) := slices_Clone_string x.1
noncomputable def sem124 : Sem1 := semOf ps124 rs124 x124
theorem so124 : SemsOk Try.prog (semsOf sl124) := sems_nil
theorem t124_nn (x : denR (headRT (ps124.map some))) : codeK (tabOf tr) (semsOf sl124) D124 L124 code124 (startNn 8 ((.cons .str .nil)) x.1 ps124 x) (finK rs124 ps124) = x124 x := by kernel_rfl
theorem t124_nil (z : Unit) : codeK (tabOf tr) (semsOf sl124) D124 L124 code124 (startNil 8 ps124 (([] : List (denR ((.cons .str .nil)))), z)) (finK rs124 ps124) = x124 (([] : List (denR ((.cons .str .nil)))), z) := by kernel_rfl
theorem k124 : Known Try.prog 124 sem124 :=
  fn_auto_nil tr_ok eq_ok mixed_ok so124 (D := D124) (code := code124) (n := 8) Try.func124 (by kernel_rfl) (by kernel_rfl) (by kernel_rfl) (fun w0 mu _ hs => (loops_of (l := []) (by kernel_rfl) (List.forall_mem_nil _))) t124_nil t124_nn

/-! ### f125: strings.Join, of the library -/
def ren156 : Go.Shelf.Ren := ⟨fun | 156 => 125 | 165 => 155 | 166 => 113 | 169 => 119 | 240 => 150 | 241 => 165 | 276 => 162 | 277 => 168 | n => n, fun | 31 => 27 | 9 => 9 | 3 => 3 | 4 => 4 | 0 => 0 | 20 => 20 | 72 => 138 | 76 => 141 | 70 => 136 | 37 => 22 | 75 => 140 | 127 => 167 | 164 => 182 | 5 => 5 | 80 => 145 | n => n, fun | n => n⟩
set_option maxRecDepth 100000 in
theorem lays156 : Go.Proofs.Lays.n156 Try.prog ren156 := { mixed := by kernel_rfl, f156 := Try.func125.trans (congrArg some (by kernel_rfl)), f165 := Try.func155.trans (congrArg some (by kernel_rfl)), f166 := Try.func113.trans (congrArg some (by kernel_rfl)), f169 := Try.func119.trans (congrArg some (by kernel_rfl)), f240 := Try.func150.trans (congrArg some (by kernel_rfl)), f241 := Try.func165.trans (congrArg some (by kernel_rfl)), f276 := Try.func162.trans (congrArg some (by kernel_rfl)), f277 := Try.func168.trans (congrArg some (by kernel_rfl)), t0 := Try.underlying0, a0 := Try.isAgg0, z0 := Try.sizeOf0, v0 := Try.zeroValue0, t3 := Try.underlying3, a3 := Try.isAgg3, z3 := Try.sizeOf3, v3 := Try.zeroValue3, t4 := Try.underlying4, a4 := Try.isAgg4, z4 := Try.sizeOf4, v4 := Try.zeroValue4, t9 := Try.underlying9, a9 := Try.isAgg9, z9 := Try.sizeOf9, v9 := Try.zeroValue9, t20 := Try.underlying20, a20 := Try.isAgg20, z20 := Try.sizeOf20, v20 := Try.zeroValue20, t31 := Try.underlying27, a31 := Try.isAgg27, z31 := Try.sizeOf27, v31 := Try.zeroValue27, t37 := Try.underlying22, a37 := Try.isAgg22, z37 := Try.sizeOf22, v37 := Try.zeroValue22, t70 := Try.underlying136, a70 := Try.isAgg136, z70 := Try.sizeOf136, v70 := Try.zeroValue136, t72 := Try.underlying138, a72 := Try.isAgg138, z72 := Try.sizeOf138, v72 := Try.zeroValue138, t75 := Try.underlying140, a75 := Try.isAgg140, z75 := Try.sizeOf140, v75 := Try.zeroValue140, t76 := Try.underlying141, a76 := Try.isAgg141, z76 := Try.sizeOf141, v76 := Try.zeroValue141, t127 := Try.underlying167, a127 := Try.isAgg167, z127 := Try.sizeOf167, v127 := Try.zeroValue167, t164 := Try.underlying182, a164 := Try.isAgg182, z164 := Try.sizeOf182, v164 := Try.zeroValue182 }
theorem extra156 : Go.Proofs.Builder.Extra Try.prog ren156 := { sizeBuilder := by kernel_rfl, liesBuilder := by kernel_rfl, t5 := Try.underlying5, a5 := Try.isAgg5, z5 := Try.sizeOf5, v5 := Try.zeroValue5, infoByte := by kernel_rfl, cellsByte := by kernel_rfl, sizeByte := by kernel_rfl, neB5 := by decide }
noncomputable def sem125 : Sem1 := semOf [.val false [.shr (.cons .str .nil)], .val false [.str]] [{ src := .tmp 0, agg := false, ps := [.str] }] (fun x => joinT x.1 x.2.1)
theorem k125 : Known Try.prog 125 sem125 := join_known lays156 extra156 rfl ⟨_, Try.func125, rfl, rfl⟩

/-! ### f65: impl.AddPiece -/
noncomputable def code65 : Code := match Try.f65.body with | some c => c | none => .skip
def ps65 : List AP := [.val true [.int .i64, .int .i64, .shr (.cons .str .nil)], .val false [.str]]
def rs65 : List RP := [{ src := .cell 4, agg := true, ps := [.int .i64, .int .i64, .own (.cons .str .nil)] }, { src := .tmp 5, agg := false, ps := [.str] }, { src := .tmp 6, agg := false, ps := [.bool] }]
noncomputable def sl65 : SemL := [(124, (.shr, .shr, .shr, sem124)), (49, (.shr, .shr, .shr, sem49)), (125, (.shr, .shr, .shr, sem125))]
def D65 : Draws := fun id => bif Nat.beq id 1 then .op 0 .any (.op 1 .take (.op 2 .any (.op 3 .take (.op 4 .any (.op 5 .take (.alt (.op 6 .one (.op 7 .any (.op 8 .one (.op 9 .last (.nil))))) (.op 8 .one (.op 6 .one (.op 7 .any (.op 9 .last (.nil))))))))))) else .nil
noncomputable def L65 {R : Type} : Loops R := fun _ _ _ _ => none
noncomputable def impl_AddPiece (p0c0 : Int) (p0c1 : Int) (p0c2 : List (ByteArray × Unit)) (text1 : ByteArray) : Option (Int × Int × (List (ByteArray × Unit)) × ByteArray × Bool × Unit) :=
  Option.bind (slices_Clone_string p0c2) fun y1 =>
  Option.bind (impl_ReadPiece text1) fun y2 =>
  bif !y2.2.2.2.2.1 then
    some (p0c0, p0c1, y1.1, (ByteArray.mk #[]), false, ())
  else bif decide ((0 : Int) < y2.2.1) then
    bif !decide (p0c0 = y2.1) then
      some (p0c0, p0c1, y1.1, (ByteArray.mk #[]), false, ())
    else bif !decide (p0c1 = y2.2.2.1) then
      some (p0c0, p0c1, y1.1, (ByteArray.mk #[]), false, ())
    else bif !decide (((List.length p0c2 : Nat) : Int) = y2.2.1) then
      some (p0c0, p0c1, y1.1, (ByteArray.mk #[]), false, ())
    else bif Nat.ble (((List.length y1.1) + 1) * 16) lim then bif decide (y2.2.1 = IntKind.i64.wrap (y2.2.2.1 - (1 : Int))) then
        Option.bind (joinT (y1.1 ++ [(y2.2.2.2.1, ())]) (ByteArray.mk #[])) fun y3 =>
        some ((0 : Int), (0 : Int), [], y3.1, true, ())
      else
        some (y2.1, y2.2.2.1, y1.1 ++ [(y2.2.2.2.1, ())], (ByteArray.mk #[]), false, ())
    else none
  else bif decide (y2.2.1 = IntKind.i64.wrap (y2.2.2.1 - (1 : Int))) then
    Option.bind (joinT [(y2.2.2.2.1, ())] (ByteArray.mk #[])) fun y4 =>
    some ((0 : Int), (0 : Int), [], y4.1, true, ())
  else
    some (y2.1, y2.2.2.1, [(y2.2.2.2.1, ())], (ByteArray.mk #[]), false, ())
noncomputable def impl_AddPiece_o (p0c0 : Int) (p0c1 : Int) (p0c2 : List (ByteArray × Unit)) (text1 : ByteArray) : Option (Int × Int × (List (ByteArray × Unit)) × ByteArray × Bool × Unit) :=
  both (Option.bind (slices_Clone_string p0c2) fun y1 =>
    Option.bind (impl_ReadPiece text1) fun y2 =>
    bif !y2.2.2.2.2.1 then
      some (p0c0, p0c1, y1.1, (ByteArray.mk #[]), false, ())
    else bif decide ((0 : Int) < y2.2.1) then
      bif !decide (p0c0 = y2.1) then
        some (p0c0, p0c1, y1.1, (ByteArray.mk #[]), false, ())
      else bif !decide (p0c1 = y2.2.2.1) then
        some (p0c0, p0c1, y1.1, (ByteArray.mk #[]), false, ())
      else bif !decide (((List.length p0c2 : Nat) : Int) = y2.2.1) then
        some (p0c0, p0c1, y1.1, (ByteArray.mk #[]), false, ())
      else bif Nat.ble (((List.length y1.1) + 1) * 16) lim then bif decide (y2.2.1 = IntKind.i64.wrap (y2.2.2.1 - (1 : Int))) then
          Option.bind (joinT (y1.1 ++ [(y2.2.2.2.1, ())]) (ByteArray.mk #[])) fun y3 =>
          some ((0 : Int), (0 : Int), [], y3.1, true, ())
        else
          some (y2.1, y2.2.2.1, y1.1 ++ [(y2.2.2.2.1, ())], (ByteArray.mk #[]), false, ())
      else none
    else bif decide (y2.2.1 = IntKind.i64.wrap (y2.2.2.1 - (1 : Int))) then
      Option.bind (joinT [(y2.2.2.2.1, ())] (ByteArray.mk #[])) fun y4 =>
      some ((0 : Int), (0 : Int), [], y4.1, true, ())
    else
      some (y2.1, y2.2.2.1, [(y2.2.2.2.1, ())], (ByteArray.mk #[]), false, ())) (Option.bind (slices_Clone_string p0c2) fun y1 =>
    Option.bind (impl_ReadPiece text1) fun y2 =>
    bif !y2.2.2.2.2.1 then
      some (p0c0, p0c1, y1.1, (ByteArray.mk #[]), false, ())
    else bif decide ((0 : Int) < y2.2.1) then
      bif !decide (p0c0 = y2.1) then
        some (p0c0, p0c1, y1.1, (ByteArray.mk #[]), false, ())
      else bif !decide (p0c1 = y2.2.2.1) then
        some (p0c0, p0c1, y1.1, (ByteArray.mk #[]), false, ())
      else bif !decide (((List.length p0c2 : Nat) : Int) = y2.2.1) then
        some (p0c0, p0c1, y1.1, (ByteArray.mk #[]), false, ())
      else bif Nat.ble (((List.length y1.1) + 1) * 16) lim then bif decide (y2.2.1 = IntKind.i64.wrap (y2.2.2.1 - (1 : Int))) then
          Option.bind (joinT (y1.1 ++ [(y2.2.2.2.1, ())]) (ByteArray.mk #[])) fun y3 =>
          some ((0 : Int), (0 : Int), [], y3.1, true, ())
        else
          some (y2.1, y2.2.2.1, y1.1 ++ [(y2.2.2.2.1, ())], (ByteArray.mk #[]), false, ())
      else none
    else bif decide (y2.2.1 = IntKind.i64.wrap (y2.2.2.1 - (1 : Int))) then
      Option.bind (joinT [(y2.2.2.2.1, ())] (ByteArray.mk #[])) fun y4 =>
      some ((0 : Int), (0 : Int), [], y4.1, true, ())
    else
      some (y2.1, y2.2.2.1, [(y2.2.2.2.1, ())], (ByteArray.mk #[]), false, ()))
theorem impl_AddPiece_o_eq (p0c0 : Int) (p0c1 : Int) (p0c2 : List (ByteArray × Unit)) (text1 : ByteArray) : impl_AddPiece_o p0c0 p0c1 p0c2 text1 = impl_AddPiece p0c0 p0c1 p0c2 text1 := by
  simp only [impl_AddPiece_o, impl_AddPiece, both_self]
noncomputable def x65 (x : Int × Int × (List (ByteArray × Unit)) × ByteArray × Unit) : Option (Int × Int × (List (ByteArray × Unit)) × ByteArray × Bool × Unit) := impl_AddPiece x.1 x.2.1 x.2.2.1 x.2.2.2.1
noncomputable def sem65 : Sem1 := semOf ps65 rs65 x65
theorem so65 : SemsOk Try.prog (semsOf sl65) := sems_cons k124 (sems_cons k49 (sems_cons k125 (sems_nil)))
theorem t65_eq (x : denR (headRT (ps65.map some))) : codeK (tabOf tr) (semsOf sl65) D65 L65 code65 (start 73 ps65 x) (finK rs65 ps65) = x65 x := (show _ = impl_AddPiece_o x.1 x.2.1 x.2.2.1 x.2.2.2.1 from by kernel_rfl).trans (impl_AddPiece_o_eq x.1 x.2.1 x.2.2.1 x.2.2.2.1)
theorem k65 : Known Try.prog 65 sem65 :=
  fn_auto tr_ok eq_ok mixed_ok so65 (D := D65) (code := code65) (n := 73) Try.func65 (by kernel_rfl) (by kernel_rfl) (by kernel_rfl) (fun w0 mu _ hs => (loops_of (l := []) (by kernel_rfl) (List.forall_mem_nil _))) t65_eq

/-! ### f51: impl.Join -/
noncomputable def code51 : Code := match Try.f51.body with | some c => c | none => .skip
def ps51 : List AP := [.val false [.shr (.cons .str .nil)]]
def rs51 : List RP := [{ src := .tmp 2, agg := false, ps := [.own (.cons .str .nil)] }]
noncomputable def sl51 : SemL := [(65, (.shr, .shr, .shr, sem65))]
def D51 : Draws := fun _ => .nil
def hp51_0 : List (Option AP) := [none, none, none, some (.val false [.own (.cons .str .nil)]), some (.box false [.int .i64, .int .i64, .own (.cons .str .nil)]), none, none, none, none, none, some (.val false [.shr (.cons .str .nil)]), some (.val false [.int .i64]), some (.val false [.int .i64]), none, none, none, none, none, none, none, none, none, none, none, none, none, none, none, none, none, none]
def e51_0 : List (Option AP) := [none, none, none, some (.val false [.own (.cons .str .nil)]), none, none, none, none, none, none, none, none, none, none, none, none, none, none, none, none, none, none, none, none, none, none, none, none, none, none, none]
def q51_0 : List (Option AP) := [none, none, none, none, none, none, none, none, none, none, none, none, none, none, none, none, none, none, none, none, none, none, none, none, none, none, none, none, none, none, none]
abbrev H51_0 : Type := (List (ByteArray × Unit)) × Int × Int × (List (ByteArray × Unit)) × (List (ByteArray × Unit)) × Int × Int × Unit
abbrev E51_0 : Type := (List (ByteArray × Unit)) × Unit
abbrev Q51_0 : Type := Unit
noncomputable def impl_Join_c0 (out3 : List (ByteArray × Unit)) (p4c0 : Int) (p4c1 : Int) (p4c2 : List (ByteArray × Unit)) (t10 : List (ByteArray × Unit)) (t11 : Int) (t12 : Int) : Option (Sum H51_0 (Sum E51_0 Q51_0)) :=
  bif decide (t12 < t11) then
    bif decide ((0 : Int) ≤ t12) then Option.bind ((t10)[Int.toNat t12]?) fun r1 =>
      Option.bind (impl_AddPiece p4c0 p4c1 p4c2 r1.1) fun y2 =>
      bif y2.2.2.2.2.1 then
        bif Nat.ble (((List.length out3) + 1) * 16) lim then some (.inl (out3 ++ [(y2.2.2.2.1, ())], y2.1, y2.2.1, y2.2.2.1, t10, t11, IntKind.i64.wrap (t12 + (1 : Int)), ()))
        else none
      else
        some (.inl (out3, y2.1, y2.2.1, y2.2.2.1, t10, t11, IntKind.i64.wrap (t12 + (1 : Int)), ()))
    else none
  else
    some (.inr (.inl (out3, ())))
noncomputable def impl_Join_r0 (x : H51_0) : Option (Sum H51_0 (Sum E51_0 Q51_0)) := impl_Join_c0 x.1 x.2.1 x.2.2.1 x.2.2.2.1 x.2.2.2.2.1 x.2.2.2.2.2.1 x.2.2.2.2.2.2.1
noncomputable def L51 {R : Type} : Loops R := fun id _ st k => bif Nat.beq id 0 then loopAt hp51_0 e51_0 q51_0 impl_Join_r0 st k else none
noncomputable def impl_Join (list0 : List (ByteArray × Unit)) : Option ((List (ByteArray × Unit)) × Unit) :=
  outK (loopV impl_Join_r0 ([], (0 : Int), (0 : Int), [], list0, ((List.length list0 : Nat) : Int), (0 : Int), ())) (fun y1 =>
    some (y1.1, ())) (fun y2 =>
    none)
noncomputable def x51 (x : (List (ByteArray × Unit)) × Unit) : Option ((List (ByteArray × Unit)) × Unit) := impl_Join x.1
noncomputable def sem51 : Sem1 := semOf ps51 rs51 x51
theorem so51 : SemsOk Try.prog (semsOf sl51) := sems_cons k65 (sems_nil)
noncomputable def b51_0 : Code := nthLoop code51 0
theorem t51_r0_eq (x : denR (headRT hp51_0)) : codeK (tabOf tr) (semsOf sl51) D51 L51 b51_0 (headSt hp51_0 x) (roundK 0 hp51_0 e51_0 q51_0) = impl_Join_r0 x := by kernel_rfl
theorem loop51_0 {R : Type} (r : R) (w0 : World) (mu : Mu) (hs : AnShape ps51 mu) : LoopAt Try.prog w0 mu 31 (L51 : Loops R) r 0 b51_0 :=
  loop_auto tr_ok eq_ok mixed_ok so51 (D := D51) hs (by kernel_rfl) (fun _ => (loops_of (l := []) (by kernel_rfl) (List.forall_mem_nil _))) t51_r0_eq (fun _ _ => rfl)
theorem t51_eq (x : denR (headRT (ps51.map some))) : codeK (tabOf tr) (semsOf sl51) D51 L51 code51 (start 31 ps51 x) (finK rs51 ps51) = x51 x := by kernel_rfl
theorem k51 : Known Try.prog 51 sem51 :=
  fn_auto tr_ok eq_ok mixed_ok so51 (D := D51) (code := code51) (n := 31) Try.func51 (by kernel_rfl) (by kernel_rfl) (by kernel_rfl) (fun w0 mu _ hs => (loops_of (l := [(0, b51_0)]) (by kernel_rfl) (List.forall_mem_cons.2 ⟨loop51_0 _ w0 mu hs, (List.forall_mem_nil _)⟩))) t51_eq

/-! ### f50: laws.sameTexts -/
noncomputable def code50 : Code := match Try.f50.body with | some c => c | none => .skip
def ps50 : List AP := [.val false [.shr (.cons .str .nil)], .val false [.shr (.cons .str .nil)]]
def rs50 : List RP := [{ src := .tmp 4, agg := false, ps := [.bool] }]
noncomputable def sl50 : SemL := []
def D50 : Draws := fun id => bif Nat.beq id 6 then .op 0 .any (.op 1 .any (.op 2 .any (.op 3 .take (.op 4 .any (.op 5 .any (.op 6 .any (.op 7 .take (.op 8 .any (.nil))))))))) else .nil
def hp50_0 : List (Option AP) := [some (.val false [.shr (.cons .str .nil)]), some (.val false [.shr (.cons .str .nil)]), none, none, none, some (.val false [.int .i64]), none, none, none, none, none, none, none, none, none, none, none, none, none, none, none, none, none, none, none, none]
def e50_0 : List (Option AP) := [none, none, none, none, none, none, none, none, none, none, none, none, none, none, none, none, none, none, none, none, none, none, none, none, none, none]
def q50_0 : List (Option AP) := [none, none, none, none, some (.val false [.bool]), none, none, none, none, none, none, none, none, none, none, none, none, none, none, none, none, none, none, none, none, none]
abbrev H50_0 : Type := (List (ByteArray × Unit)) × (List (ByteArray × Unit)) × Int × Unit
abbrev E50_0 : Type := Unit
abbrev Q50_0 : Type := Bool × Unit
noncomputable def laws_sameTexts_c0 (a0 : List (ByteArray × Unit)) (b1 : List (ByteArray × Unit)) (i5 : Int) : Option (Sum H50_0 (Sum E50_0 Q50_0)) :=
  bif decide (i5 < ((List.length a0 : Nat) : Int)) then
    bif decide ((0 : Int) ≤ i5) then Option.bind ((a0)[Int.toNat i5]?) fun r1 =>
      bif decide ((0 : Int) ≤ i5) then Option.bind ((b1)[Int.toNat i5]?) fun r2 =>
        bif !strEq r1.1 r2.1 then
          some (.inr (.inr (false, ())))
        else
          some (.inl (a0, b1, IntKind.i64.wrap (i5 + (1 : Int)), ()))
      else none
    else none
  else
    some (.inr (.inl (())))
noncomputable def laws_sameTexts_r0 (x : H50_0) : Option (Sum H50_0 (Sum E50_0 Q50_0)) := laws_sameTexts_c0 x.1 x.2.1 x.2.2.1
noncomputable def L50 {R : Type} : Loops R := fun id _ st k => bif Nat.beq id 0 then loopAt hp50_0 e50_0 q50_0 laws_sameTexts_r0 st k else none
noncomputable def laws_sameTexts (a0 : List (ByteArray × Unit)) (b1 : List (ByteArray × Unit)) : Option (Bool × Unit) :=
  bif !decide (((List.length a0 : Nat) : Int) = ((List.length b1 : Nat) : Int)) then
    some (false, ())
  else
    outK (loopV laws_sameTexts_r0 (a0, b1, (0 : Int), ())) (fun y1 =>
      some (true, ())) (fun y2 =>
      some (y2.1, ()))
noncomputable def x50 (x : (List (ByteArray × Unit)) × (List (ByteArray × Unit)) × Unit) : Option (Bool × Unit) := laws_sameTexts x.1 x.2.1
noncomputable def sem50 : Sem1 := semOf ps50 rs50 x50
theorem so50 : SemsOk Try.prog (semsOf sl50) := sems_nil
noncomputable def b50_0 : Code := nthLoop code50 0
theorem t50_r0_eq (x : denR (headRT hp50_0)) : codeK (tabOf tr) (semsOf sl50) D50 L50 b50_0 (headSt hp50_0 x) (roundK 0 hp50_0 e50_0 q50_0) = laws_sameTexts_r0 x := by kernel_rfl
theorem loop50_0 {R : Type} (r : R) (w0 : World) (mu : Mu) (hs : AnShape ps50 mu) : LoopAt Try.prog w0 mu 26 (L50 : Loops R) r 0 b50_0 :=
  loop_auto tr_ok eq_ok mixed_ok so50 (D := D50) hs (by kernel_rfl) (fun _ => (loops_of (l := []) (by kernel_rfl) (List.forall_mem_nil _))) t50_r0_eq (fun _ _ => rfl)
theorem t50_eq (x : denR (headRT (ps50.map some))) : codeK (tabOf tr) (semsOf sl50) D50 L50 code50 (start 26 ps50 x) (finK rs50 ps50) = x50 x := by kernel_rfl
theorem k50 : Known Try.prog 50 sem50 :=
  fn_auto tr_ok eq_ok mixed_ok so50 (D := D50) (code := code50) (n := 26) Try.func50 (by kernel_rfl) (by kernel_rfl) (by kernel_rfl) (fun w0 mu _ hs => (loops_of (l := [(0, b50_0)]) (by kernel_rfl) (List.forall_mem_cons.2 ⟨loop50_0 _ w0 mu hs, (List.forall_mem_nil _)⟩))) t50_eq

/-! ### f7: laws.FnPieces -/
noncomputable def code7 : Code := match Try.f7.body with | some c => c | none => .skip
def ps7 : List AP := [.val false [.shr (.cons (.int .u8) .nil)]]
def rs7 : List RP := [{ src := .tmp 2, agg := false, ps := [.bool] }]
noncomputable def sl7 : SemL := [(15, (.shr, .shr, .shr, sem15)), (46, (.shr, .shr, .shr, sem46)), (47, (.shr, .shr, .shr, sem47)), (48, (.shr, .shr, .shr, sem48)), (49, (.shr, .shr, .shr, sem49)), (51, (.shr, .shr, .shr, sem51)), (50, (.shr, .shr, .shr, sem50))]
def D7 : Draws := fun _ => .nil
def hp7_0 : List (Option AP) := [none, none, none, some (.val false [.int .i64]), some (.val false [.str]), some (.val false [.own (.cons .str .nil)]), none, none, none, some (.val false [.int .i64]), none, none, none, none, none, none, none, none, none, none, none, none, none, none, none, none, none, none, none, none, none, none, none, none, none, none, none, none, none, none, none, none, none, none, none, none, none, none, none, none, none, none, none, none, none, none, none, none, none, none, none, none, none, none, none, none, none, none, none, none, none, none, none, none, none, none, none, none, none, none, none, none, none, none, none, none, none, none, none, none, none, none, none, none, none, none, none, none, none, none, none, none, none, none]
def e7_0 : List (Option AP) := [none, none, none, none, some (.val false [.str]), some (.val false [.own (.cons .str .nil)]), none, none, none, none, none, none, none, none, none, none, none, none, none, none, none, none, none, none, none, none, none, none, none, none, none, none, none, none, none, none, none, none, none, none, none, none, none, none, none, none, none, none, none, none, none, none, none, none, none, none, none, none, none, none, none, none, none, none, none, none, none, none, none, none, none, none, none, none, none, none, none, none, none, none, none, none, none, none, none, none, none, none, none, none, none, none, none, none, none, none, none, none, none, none, none, none, none, none]
def q7_0 : List (Option AP) := [none, none, some (.val false [.bool]), none, none, none, none, none, none, none, none, none, none, none, none, none, none, none, none, none, none, none, none, none, none, none, none, none, none, none, none, none, none, none, none, none, none, none, none, none, none, none, none, none, none, none, none, none, none, none, none, none, none, none, none, none, none, none, none, none, none, none, none, none, none, none, none, none, none, none, none, none, none, none, none, none, none, none, none, none, none, none, none, none, none, none, none, none, none, none, none, none, none, none, none, none, none, none, none, none, none, none, none, none]
abbrev H7_0 : Type := Int × ByteArray × (List (ByteArray × Unit)) × Int × Unit
abbrev E7_0 : Type := ByteArray × (List (ByteArray × Unit)) × Unit
abbrev Q7_0 : Type := Bool × Unit
noncomputable def laws_FnPieces_c0 (num3 : Int) (s4 : ByteArray) (list5 : List (ByteArray × Unit)) (i9 : Int) : Option (Sum H7_0 (Sum E7_0 Q7_0)) :=
  bif decide (i9 < ((List.length list5 : Nat) : Int)) then
    bif decide ((0 : Int) ≤ i9) then bif Nat.blt (Int.toNat i9) (List.length list5) then Option.bind ((list5)[Int.toNat i9]?) fun r5 =>
        Option.bind (impl_ReadPiece r5.1) fun y6 =>
        bif !y6.2.2.2.2.1 then
          some (.inr (.inr (false, ())))
        else bif !decide (y6.1 = num3) then
          some (.inr (.inr (false, ())))
        else bif !decide (y6.2.1 = i9) then
          some (.inr (.inr (false, ())))
        else bif !decide (y6.2.2.1 = ((List.length list5 : Nat) : Int)) then
          some (.inr (.inr (false, ())))
        else
          some (.inl (num3, s4, list5, IntKind.i64.wrap (i9 + (1 : Int)), ()))
      else none
    else none
  else
    some (.inr (.inl (s4, list5, ())))
noncomputable def laws_FnPieces_r0 (x : H7_0) : Option (Sum H7_0 (Sum E7_0 Q7_0)) := laws_FnPieces_c0 x.1 x.2.1 x.2.2.1 x.2.2.2.1
noncomputable def L7 {R : Type} : Loops R := fun id _ st k => bif Nat.beq id 0 then loopAt hp7_0 e7_0 q7_0 laws_FnPieces_r0 st k else none
noncomputable def laws_FnPieces (code0 : List (Int × Unit)) : Option (Bool × Unit) :=
  Option.bind (laws_big code0) fun y1 =>
  bif y1.1 then
    some (true, ())
  else
    Option.bind (spec_DrawPieces code0) fun y2 =>
    Option.bind (impl_Pieces y2.1 y2.2.1) fun y3 =>
    Option.bind (spec_Pieces y2.1 y2.2.1) fun y4 =>
    bif !(y3.2.1 == y4.2.1) then
      some (false, ())
    else bif !y3.2.1 then
      some (decide (((List.length y3.1 : Nat) : Int) = (0 : Int)), ())
    else
      outK (loopV laws_FnPieces_r0 (y2.1, y2.2.1, y3.1, (0 : Int), ())) (fun y5 =>
        Option.bind (impl_Join y5.2.1) fun y7 =>
        Option.bind (laws_sameTexts y7.1 [(y5.1, ())]) fun y8 =>
        bif y8.1 then
          bif decide ((0 : Int) ≤ IntKind.i64.wrap (((List.length y5.2.1 : Nat) : Int) - (1 : Int))) then bif decide (IntKind.i64.wrap (((List.length y5.2.1 : Nat) : Int) - (1 : Int)) ≤ ((List.length y5.2.1 : Nat) : Int)) then Option.bind (impl_Join (List.take (Int.toNat (IntKind.i64.wrap (((List.length y5.2.1 : Nat) : Int) - (1 : Int)))) (List.drop 0 y5.2.1))) fun y9 =>
              bif decide (((List.length y9.1 : Nat) : Int) = (0 : Int)) then
                bif Nat.ble ((0 + (List.length y5.2.1)) * 16) lim then bif Nat.ble (((List.length ([] ++ y5.2.1)) + (List.length y5.2.1)) * 16) lim then Option.bind (impl_Join (([] ++ y5.2.1) ++ y5.2.1)) fun y10 =>
                    Option.bind (laws_sameTexts y10.1 [(y5.1, ()), (y5.1, ())]) fun y11 =>
                    some (y11.1, ())
                  else none
                else none
              else
                some (false, ())
            else none
          else none
        else
          some (false, ())) (fun y6 =>
        some (y6.1, ()))
noncomputable def x7 (x : (List (Int × Unit)) × Unit) : Option (Bool × Unit) := laws_FnPieces x.1
noncomputable def sem7 : Sem1 := semOf ps7 rs7 x7
theorem so7 : SemsOk Try.prog (semsOf sl7) := sems_cons k15 (sems_cons k46 (sems_cons k47 (sems_cons k48 (sems_cons k49 (sems_cons k51 (sems_cons k50 (sems_nil)))))))
noncomputable def b7_0 : Code := nthLoop code7 0
theorem t7_r0_eq (x : denR (headRT hp7_0)) : codeK (tabOf tr) (semsOf sl7) D7 L7 b7_0 (headSt hp7_0 x) (roundK 0 hp7_0 e7_0 q7_0) = laws_FnPieces_r0 x := by kernel_rfl
theorem loop7_0 {R : Type} (r : R) (w0 : World) (mu : Mu) (hs : AnShape ps7 mu) : LoopAt Try.prog w0 mu 104 (L7 : Loops R) r 0 b7_0 :=
  loop_auto tr_ok eq_ok mixed_ok so7 (D := D7) hs (by kernel_rfl) (fun _ => (loops_of (l := []) (by kernel_rfl) (List.forall_mem_nil _))) t7_r0_eq (fun _ _ => rfl)
theorem t7_eq (x : denR (headRT (ps7.map some))) : codeK (tabOf tr) (semsOf sl7) D7 L7 code7 (start 104 ps7 x) (finK rs7 ps7) = x7 x := by kernel_rfl
theorem k7 : Known Try.prog 7 sem7 :=
  fn_auto tr_ok eq_ok mixed_ok so7 (D := D7) (code := code7) (n := 104) Try.func7 (by kernel_rfl) (by kernel_rfl) (by kernel_rfl) (fun w0 mu _ hs => (loops_of (l := [(0, b7_0)]) (by kernel_rfl) (List.forall_mem_cons.2 ⟨loop7_0 _ w0 mu hs, (List.forall_mem_nil _)⟩))) t7_eq

/-! ### f52: laws.szStringS -/
noncomputable def code52 : Code := match Try.f52.body with | some c => c | none => .skip
def ps52 : List AP := [.val false [.shr (.cons .str .nil)], .val false [.int .i64]]
def rs52 : List RP := [{ src := .tmp 4, agg := false, ps := [.int .i64] }]
noncomputable def sl52 : SemL := []
def D52 : Draws := fun _ => .nil
def hp52_0 : List (Option AP) := [some (.val false [.shr (.cons .str .nil)]), some (.val false [.int .i64]), none, none, none, some (.val false [.int .i64]), none, none, none, none, none, none, none, none, none, none, none, none, none, none, none, none, none, none, none, none, none, none]
def e52_0 : List (Option AP) := [none, some (.val false [.int .i64]), none, none, none, none, none, none, none, none, none, none, none, none, none, none, none, none, none, none, none, none, none, none, none, none, none, none]
def q52_0 : List (Option AP) := [none, none, none, none, some (.val false [.int .i64]), none, none, none, none, none, none, none, none, none, none, none, none, none, none, none, none, none, none, none, none, none, none, none]
abbrev H52_0 : Type := (List (ByteArray × Unit)) × Int × Int × Unit
abbrev E52_0 : Type := Int × Unit
abbrev Q52_0 : Type := Int × Unit
noncomputable def laws_szStringS_c0 (a0 : List (ByteArray × Unit)) (left1 : Int) (i5 : Int) : Option (Sum H52_0 (Sum E52_0 Q52_0)) :=
  bif decide (i5 < ((List.length a0 : Nat) : Int)) then
    bif decide ((0 : Int) ≤ i5) then Option.bind ((a0)[Int.toNat i5]?) fun r1 =>
      bif decide (IntKind.i64.wrap (left1 - ((ByteArray.size r1.1 : Nat) : Int)) < (0 : Int)) then
        some (.inr (.inr ((-1 : Int), ())))
      else
        some (.inl (a0, IntKind.i64.wrap (left1 - ((ByteArray.size r1.1 : Nat) : Int)), IntKind.i64.wrap (i5 + (1 : Int)), ()))
    else none
  else
    some (.inr (.inl (left1, ())))
noncomputable def laws_szStringS_r0 (x : H52_0) : Option (Sum H52_0 (Sum E52_0 Q52_0)) := laws_szStringS_c0 x.1 x.2.1 x.2.2.1
noncomputable def L52 {R : Type} : Loops R := fun id _ st k => bif Nat.beq id 0 then loopAt hp52_0 e52_0 q52_0 laws_szStringS_r0 st k else none
noncomputable def laws_szStringS (a0 : List (ByteArray × Unit)) (left1 : Int) : Option (Int × Unit) :=
  bif decide (IntKind.i64.wrap (left1 - ((List.length a0 : Nat) : Int)) < (0 : Int)) then
    some ((-1 : Int), ())
  else
    outK (loopV laws_szStringS_r0 (a0, IntKind.i64.wrap (left1 - ((List.length a0 : Nat) : Int)), (0 : Int), ())) (fun y1 =>
      some (y1.1, ())) (fun y2 =>
      some (y2.1, ()))
noncomputable def x52 (x : (List (ByteArray × Unit)) × Int × Unit) : Option (Int × Unit) := laws_szStringS x.1 x.2.1
noncomputable def sem52 : Sem1 := semOf ps52 rs52 x52
theorem so52 : SemsOk Try.prog (semsOf sl52) := sems_nil
noncomputable def b52_0 : Code := nthLoop code52 0
theorem t52_r0_eq (x : denR (headRT hp52_0)) : codeK (tabOf tr) (semsOf sl52) D52 L52 b52_0 (headSt hp52_0 x) (roundK 0 hp52_0 e52_0 q52_0) = laws_szStringS_r0 x := by kernel_rfl
theorem loop52_0 {R : Type} (r : R) (w0 : World) (mu : Mu) (hs : AnShape ps52 mu) : LoopAt Try.prog w0 mu 28 (L52 : Loops R) r 0 b52_0 :=
  loop_auto tr_ok eq_ok mixed_ok so52 (D := D52) hs (by kernel_rfl) (fun _ => (loops_of (l := []) (by kernel_rfl) (List.forall_mem_nil _))) t52_r0_eq (fun _ _ => rfl)
theorem t52_eq (x : denR (headRT (ps52.map some))) : codeK (tabOf tr) (semsOf sl52) D52 L52 code52 (start 28 ps52 x) (finK rs52 ps52) = x52 x := by kernel_rfl
theorem k52 : Known Try.prog 52 sem52 :=
  fn_auto tr_ok eq_ok mixed_ok so52 (D := D52) (code := code52) (n := 28) Try.func52 (by kernel_rfl) (by kernel_rfl) (by kernel_rfl) (fun w0 mu _ hs => (loops_of (l := [(0, b52_0)]) (by kernel_rfl) (List.forall_mem_cons.2 ⟨loop52_0 _ w0 mu hs, (List.forall_mem_nil _)⟩))) t52_eq

/-! ### f54: laws.toStringS -/
noncomputable def code54 : Code := match Try.f54.body with | some c => c | none => .skip
def ps54 : List AP := [.val false [.shr (.cons .str .nil)]]
def rs54 : List RP := [{ src := .tmp 2, agg := false, ps := [.own (.cons .str .nil)] }]
noncomputable def sl54 : SemL := []
def D54 : Draws := fun _ => .nil
def hp54_0 : List (Option AP) := [some (.val false [.shr (.cons .str .nil)]), none, none, some (.val false [.own (.cons .str .nil)]), some (.val false [.int .i64]), none, none, none, none, none, none, none, none, none, none, none, none, none, none, none, none, none]
def e54_0 : List (Option AP) := [none, none, none, some (.val false [.own (.cons .str .nil)]), none, none, none, none, none, none, none, none, none, none, none, none, none, none, none, none, none, none]
def q54_0 : List (Option AP) := [none, none, none, none, none, none, none, none, none, none, none, none, none, none, none, none, none, none, none, none, none, none]
abbrev H54_0 : Type := (List (ByteArray × Unit)) × (List (ByteArray × Unit)) × Int × Unit
abbrev E54_0 : Type := (List (ByteArray × Unit)) × Unit
abbrev Q54_0 : Type := Unit
noncomputable def laws_toStringS_c0 (a0 : List (ByteArray × Unit)) (out3 : List (ByteArray × Unit)) (i4 : Int) : Option (Sum H54_0 (Sum E54_0 Q54_0)) :=
  bif decide (i4 < ((List.length a0 : Nat) : Int)) then
    bif decide ((0 : Int) ≤ i4) then Option.bind ((a0)[Int.toNat i4]?) fun r1 =>
      bif decide ((0 : Int) ≤ i4) then bif Nat.blt (Int.toNat i4) (List.length out3) then Option.bind ((out3)[Int.toNat i4]?) fun r2 =>
          some (.inl (a0, List.set out3 (Int.toNat i4) (r1.1, ()), IntKind.i64.wrap (i4 + (1 : Int)), ()))
        else none
      else none
    else none
  else
    some (.inr (.inl (out3, ())))
noncomputable def laws_toStringS_r0 (x : H54_0) : Option (Sum H54_0 (Sum E54_0 Q54_0)) := laws_toStringS_c0 x.1 x.2.1 x.2.2.1
noncomputable def L54 {R : Type} : Loops R := fun id _ st k => bif Nat.beq id 0 then loopAt hp54_0 e54_0 q54_0 laws_toStringS_r0 st k else none
noncomputable def laws_toStringS (a0 : List (ByteArray × Unit)) : Option ((List (ByteArray × Unit)) × Unit) :=
  bif decide (((List.length a0 : Nat) : Int) = ((List.length a0 : Nat) : Int)) then bif decide ((0 : Int) ≤ ((List.length a0 : Nat) : Int)) then bif Nat.ble ((Int.toNat ((List.length a0 : Nat) : Int)) * 16) lim then outK (loopV laws_toStringS_r0 (a0, List.replicate (Int.toNat ((List.length a0 : Nat) : Int)) (ByteArray.empty, ()), (0 : Int), ())) (fun y1 =>
          some (y1.1, ())) (fun y2 =>
          none)
      else none
    else none
  else none
noncomputable def x54 (x : (List (ByteArray × Unit)) × Unit) : Option ((List (ByteArray × Unit)) × Unit) := laws_toStringS x.1
noncomputable def sem54 : Sem1 := semOf ps54 rs54 x54
theorem so54 : SemsOk Try.prog (semsOf sl54) := sems_nil
noncomputable def b54_0 : Code := nthLoop code54 0
theorem t54_r0_eq (x : denR (headRT hp54_0)) : codeK (tabOf tr) (semsOf sl54) D54 L54 b54_0 (headSt hp54_0 x) (roundK 0 hp54_0 e54_0 q54_0) = laws_toStringS_r0 x := by kernel_rfl
theorem loop54_0 {R : Type} (r : R) (w0 : World) (mu : Mu) (hs : AnShape ps54 mu) : LoopAt Try.prog w0 mu 22 (L54 : Loops R) r 0 b54_0 :=
  loop_auto tr_ok eq_ok mixed_ok so54 (D := D54) hs (by kernel_rfl) (fun _ => (loops_of (l := []) (by kernel_rfl) (List.forall_mem_nil _))) t54_r0_eq (fun _ _ => rfl)
theorem t54_eq (x : denR (headRT (ps54.map some))) : codeK (tabOf tr) (semsOf sl54) D54 L54 code54 (start 22 ps54 x) (finK rs54 ps54) = x54 x := by kernel_rfl
theorem k54 : Known Try.prog 54 sem54 :=
  fn_auto tr_ok eq_ok mixed_ok so54 (D := D54) (code := code54) (n := 22) Try.func54 (by kernel_rfl) (by kernel_rfl) (by kernel_rfl) (fun w0 mu _ hs => (loops_of (l := [(0, b54_0)]) (by kernel_rfl) (List.forall_mem_cons.2 ⟨loop54_0 _ w0 mu hs, (List.forall_mem_nil _)⟩))) t54_eq

/-! ### f164: spec.ReadVar -/
noncomputable def code164 : Code := match Try.f164.body with | some c => c | none => .skip
def ps164 : List AP := [.val false [.str], .val false [.int .i64]]
def rs164 : List RP := [{ src := .tmp 4, agg := false, ps := [.int .i64] }, { src := .tmp 5, agg := false, ps := [.int .i64] }, { src := .tmp 6, agg := false, ps := [.bool] }]
noncomputable def sl164 : SemL := [(94, (.shr, .shr, .shr, sem94)), (109, (.shr, .shr, .shr, sem109))]
def D164 : Draws := fun id => bif Nat.beq id 11 then .op 0 .any (.op 1 .any (.op 2 .any (.op 3 .any (.op 5 .any (.op 6 .any (.op 7 .any (.op 8 .any (.op 9 .any (.op 4 .one (.op 10 .any (.op 11 .any (.nil)))))))))))) else .nil
def hp164_0 : List (Option AP) := [some (.val false [.str]), some (.val false [.int .i64]), none, none, none, none, none, some (.val false [.int .i64]), some (.val false [.int .i64]), some (.val false [.int .i64]), none, none, none, none, none, none, none, none, none, none, none, none, none, none, none, none, none, none, none, none, none, none, none, none, none, none, none, none, none, none, none, none, none, none, none, none, none, none, none, none, none, none, none, none, none, none, none, none]
def e164_0 : List (Option AP) := [none, none, none, none, none, none, none, none, none, none, none, none, none, none, none, none, none, none, none, none, none, none, none, none, none, none, none, none, none, none, none, none, none, none, none, none, none, none, none, none, none, none, none, none, none, none, none, none, none, none, none, none, none, none, none, none, none, none]
def q164_0 : List (Option AP) := [none, none, none, none, some (.val false [.int .i64]), some (.val false [.int .i64]), some (.val false [.bool]), none, none, none, none, none, none, none, none, none, none, none, none, none, none, none, none, none, none, none, none, none, none, none, none, none, none, none, none, none, none, none, none, none, none, none, none, none, none, none, none, none, none, none, none, none, none, none, none, none, none, none]
abbrev H164_0 : Type := ByteArray × Int × Int × Int × Int × Unit
abbrev E164_0 : Type := Unit
abbrev Q164_0 : Type := Int × Int × Bool × Unit
noncomputable def spec_ReadVar_c0 (text0 : ByteArray) (at_1 : Int) (n7 : Int) (scale8 : Int) (i9 : Int) : Option (Sum H164_0 (Sum E164_0 Q164_0)) :=
  bif decide (i9 < ((ByteArray.size text0 : Nat) : Int)) then
    bif decide (i9 < IntKind.i64.wrap (at_1 + (5 : Int))) then
      bif decide ((0 : Int) ≤ i9) then bif decide (i9 < ((ByteArray.size text0 : Nat) : Int)) then bif decide ((0 : Int) ≤ i9) then bif decide (i9 < ((ByteArray.size text0 : Nat) : Int)) then bif decide (byteAt text0 i9 < (128 : Int)) then
                bif decide ((1000000000 : Int) < IntKind.i64.wrap (n7 + (IntKind.i64.wrap ((Int.tmod (IntKind.i64.wrap (byteAt text0 i9)) (128 : Int)) * scale8)))) then
                  some (.inr (.inr ((0 : Int), (0 : Int), false, ())))
                else bif decide ((0 : Int) ≤ at_1) then bif decide (((Int.toNat at_1 : Nat) : Int) ≤ IntKind.i64.wrap (i9 + (1 : Int))) then bif decide (IntKind.i64.wrap (i9 + (1 : Int)) ≤ ((ByteArray.size text0 : Nat) : Int)) then Option.bind (spec_l01Var (IntKind.i64.wrap (n7 + (IntKind.i64.wrap ((Int.tmod (IntKind.i64.wrap (byteAt text0 i9)) (128 : Int)) * scale8))))) fun y2 =>
                      bif !strEq y2.1 (ByteArray.extract text0 (Int.toNat at_1) (Int.toNat (IntKind.i64.wrap (i9 + (1 : Int))))) then
                        some (.inr (.inr ((0 : Int), (0 : Int), false, ())))
                      else
                        some (.inr (.inr (IntKind.i64.wrap (n7 + (IntKind.i64.wrap ((Int.tmod (IntKind.i64.wrap (byteAt text0 i9)) (128 : Int)) * scale8))), IntKind.i64.wrap (i9 + (1 : Int)), true, ())))
                    else none
                  else none
                else none
              else
                some (.inl (text0, at_1, IntKind.i64.wrap (n7 + (IntKind.i64.wrap ((Int.tmod (IntKind.i64.wrap (byteAt text0 i9)) (128 : Int)) * scale8))), IntKind.i64.wrap (scale8 * (128 : Int)), IntKind.i64.wrap (i9 + (1 : Int)), ()))
            else none
          else none
        else none
      else none
    else
      some (.inr (.inl (())))
  else
    some (.inr (.inl (())))
noncomputable def spec_ReadVar_r0 (x : H164_0) : Option (Sum H164_0 (Sum E164_0 Q164_0)) := spec_ReadVar_c0 x.1 x.2.1 x.2.2.1 x.2.2.2.1 x.2.2.2.2.1
noncomputable def L164 {R : Type} : Loops R := fun id _ st k => bif Nat.beq id 0 then loopAt hp164_0 e164_0 q164_0 spec_ReadVar_r0 st k else none
noncomputable def spec_ReadVar (text0 : ByteArray) (at_1 : Int) : Option (Int × Int × Bool × Unit) :=
  Option.bind (spec_l01In at_1 (0 : Int) ((ByteArray.size text0 : Nat) : Int)) fun y1 =>
  bif !y1.1 then
    some ((0 : Int), (0 : Int), false, ())
  else
    outK (loopV spec_ReadVar_r0 (text0, at_1, (0 : Int), (1 : Int), at_1, ())) (fun y2 =>
      some ((0 : Int), (0 : Int), false, ())) (fun y3 =>
      some (y3.1, y3.2.1, y3.2.2.1, ()))
noncomputable def x164 (x : ByteArray × Int × Unit) : Option (Int × Int × Bool × Unit) := spec_ReadVar x.1 x.2.1
noncomputable def sem164 : Sem1 := semOf ps164 rs164 x164
theorem so164 : SemsOk Try.prog (semsOf sl164) := sems_cons k94 (sems_cons k109 (sems_nil))
noncomputable def b164_0 : Code := nthLoop code164 0
theorem t164_r0_eq (x : denR (headRT hp164_0)) : codeK (tabOf tr) (semsOf sl164) D164 L164 b164_0 (headSt hp164_0 x) (roundK 0 hp164_0 e164_0 q164_0) = spec_ReadVar_r0 x := by kernel_rfl
theorem loop164_0 {R : Type} (r : R) (w0 : World) (mu : Mu) (hs : AnShape ps164 mu) : LoopAt Try.prog w0 mu 58 (L164 : Loops R) r 0 b164_0 :=
  loop_auto tr_ok eq_ok mixed_ok so164 (D := D164) hs (by kernel_rfl) (fun _ => (loops_of (l := []) (by kernel_rfl) (List.forall_mem_nil _))) t164_r0_eq (fun _ _ => rfl)
theorem t164_eq (x : denR (headRT (ps164.map some))) : codeK (tabOf tr) (semsOf sl164) D164 L164 code164 (start 58 ps164 x) (finK rs164 ps164) = x164 x := by kernel_rfl
theorem k164 : Known Try.prog 164 sem164 :=
  fn_auto tr_ok eq_ok mixed_ok so164 (D := D164) (code := code164) (n := 58) Try.func164 (by kernel_rfl) (by kernel_rfl) (by kernel_rfl) (fun w0 mu _ hs => (loops_of (l := [(0, b164_0)]) (by kernel_rfl) (List.forall_mem_cons.2 ⟨loop164_0 _ w0 mu hs, (List.forall_mem_nil _)⟩))) t164_eq

/-! ### f154: spec.l05Var -/
noncomputable def code154 : Code := match Try.f154.body with | some c => c | none => .skip
def ps154 : List AP := [.box true [.str, .int .i64, .bool]]
def rs154 : List RP := [{ src := .tmp 2, agg := false, ps := [.int .i64] }]
noncomputable def sl154 : SemL := [(164, (.shr, .shr, .shr, sem164))]
def D154 : Draws := fun id => bif Nat.beq id 1 then .op 0 .any (.op 1 .any (.op 2 .any (.op 3 .take (.op 4 .any (.op 5 .any (.op 6 .any (.op 7 .take (.op 8 .one (.op 9 .any (.op 10 .any (.op 11 .any (.op 12 .any (.op 13 .any (.op 14 .any (.op 15 .any (.nil)))))))))))))))) else .nil
noncomputable def L154 {R : Type} : Loops R := fun _ _ _ _ => none
noncomputable def spec_l05Var (c0c0 : ByteArray) (c0c1 : Int) (c0c2 : Bool) : Option (Int × ByteArray × Int × Bool × Unit) :=
  Option.bind (spec_ReadVar c0c0 c0c1) fun y1 =>
  bif c0c2 then
    some ((0 : Int), c0c0, c0c1, true, ())
  else bif !y1.2.2.1 then
    some ((0 : Int), c0c0, c0c1, true, ())
  else
    some (y1.1, c0c0, y1.2.1, c0c2, ())
noncomputable def x154 (x : ByteArray × Int × Bool × Unit) : Option (Int × ByteArray × Int × Bool × Unit) := spec_l05Var x.1 x.2.1 x.2.2.1
noncomputable def sem154 : Sem1 := semOf ps154 rs154 x154
theorem so154 : SemsOk Try.prog (semsOf sl154) := sems_cons k164 (sems_nil)
theorem t154_eq (x : denR (headRT (ps154.map some))) : codeK (tabOf tr) (semsOf sl154) D154 L154 code154 (start 35 ps154 x) (finK rs154 ps154) = x154 x := by kernel_rfl
theorem k154 : Known Try.prog 154 sem154 :=
  fn_auto tr_ok eq_ok mixed_ok so154 (D := D154) (code := code154) (n := 35) Try.func154 (by kernel_rfl) (by kernel_rfl) (by kernel_rfl) (fun w0 mu _ hs => (loops_of (l := []) (by kernel_rfl) (List.forall_mem_nil _))) t154_eq

/-! ### f123: spec.ReadPiece -/
noncomputable def code123 : Code := match Try.f123.body with | some c => c | none => .skip
def ps123 : List AP := [.val false [.str]]
def rs123 : List RP := [{ src := .tmp 2, agg := false, ps := [.int .i64] }, { src := .tmp 3, agg := false, ps := [.int .i64] }, { src := .tmp 4, agg := false, ps := [.int .i64] }, { src := .tmp 5, agg := false, ps := [.str] }, { src := .tmp 6, agg := false, ps := [.bool] }]
noncomputable def sl123 : SemL := [(154, (.shr, .shr, .shr, sem154)), (94, (.shr, .shr, .shr, sem94))]
def D123 : Draws := fun _ => .nil
noncomputable def L123 {R : Type} : Loops R := fun _ _ _ _ => none
noncomputable def spec_ReadPiece (text0 : ByteArray) : Option (Int × Int × Int × ByteArray × Bool × Unit) :=
  Option.bind (spec_l05Var text0 (0 : Int) false) fun y1 =>
  Option.bind (spec_l05Var y1.2.1 y1.2.2.1 y1.2.2.2.1) fun y2 =>
  Option.bind (spec_l05Var y2.2.1 y2.2.2.1 y2.2.2.2.1) fun y3 =>
  bif decide ((0 : Int) ≤ y3.2.2.1) then bif decide (y3.2.2.1 ≤ ((ByteArray.size text0 : Nat) : Int)) then bif y3.2.2.2.1 then
        some ((0 : Int), (0 : Int), (0 : Int), (ByteArray.mk #[]), false, ())
      else bif decide ((100000 : Int) < y1.1) then
        some ((0 : Int), (0 : Int), (0 : Int), (ByteArray.mk #[]), false, ())
      else
        Option.bind (spec_l01In y3.1 (1 : Int) (10 : Int)) fun y4 =>
        bif !y4.1 then
          some ((0 : Int), (0 : Int), (0 : Int), (ByteArray.mk #[]), false, ())
        else bif decide (y3.1 ≤ y2.1) then
          some ((0 : Int), (0 : Int), (0 : Int), (ByteArray.mk #[]), false, ())
        else bif decide ((40 : Int) < ((ByteArray.size (ByteArray.extract text0 (Int.toNat y3.2.2.1) (ByteArray.size text0)) : Nat) : Int)) then
          some ((0 : Int), (0 : Int), (0 : Int), (ByteArray.mk #[]), false, ())
        else bif !(decide (IntKind.i64.wrap (y2.1 + (1 : Int)) = y3.1)) then
          bif !decide (((ByteArray.size (ByteArray.extract text0 (Int.toNat y3.2.2.1) (ByteArray.size text0)) : Nat) : Int) = (40 : Int)) then
            some ((0 : Int), (0 : Int), (0 : Int), (ByteArray.mk #[]), false, ())
          else
            some (y1.1, y2.1, y3.1, ByteArray.extract text0 (Int.toNat y3.2.2.1) (ByteArray.size text0), true, ())
        else
          some (y1.1, y2.1, y3.1, ByteArray.extract text0 (Int.toNat y3.2.2.1) (ByteArray.size text0), true, ())
    else none
  else none
noncomputable def x123 (x : ByteArray × Unit) : Option (Int × Int × Int × ByteArray × Bool × Unit) := spec_ReadPiece x.1
noncomputable def sem123 : Sem1 := semOf ps123 rs123 x123
theorem so123 : SemsOk Try.prog (semsOf sl123) := sems_cons k154 (sems_cons k94 (sems_nil))
theorem t123_eq (x : denR (headRT (ps123.map some))) : codeK (tabOf tr) (semsOf sl123) D123 L123 code123 (start 68 ps123 x) (finK rs123 ps123) = x123 x := by kernel_rfl
theorem k123 : Known Try.prog 123 sem123 :=
  fn_auto tr_ok eq_ok mixed_ok so123 (D := D123) (code := code123) (n := 68) Try.func123 (by kernel_rfl) (by kernel_rfl) (by kernel_rfl) (fun w0 mu _ hs => (loops_of (l := []) (by kernel_rfl) (List.forall_mem_nil _))) t123_eq

/-! ### f63: spec.AddPiece -/
noncomputable def code63 : Code := match Try.f63.body with | some c => c | none => .skip
def ps63 : List AP := [.val true [.int .i64, .int .i64, .shr (.cons .str .nil)], .val false [.str]]
def rs63 : List RP := [{ src := .cell 4, agg := true, ps := [.int .i64, .int .i64, .own (.cons .str .nil)] }, { src := .tmp 5, agg := false, ps := [.str] }, { src := .tmp 6, agg := false, ps := [.bool] }]
noncomputable def sl63 : SemL := [(123, (.shr, .shr, .shr, sem123))]
def D63 : Draws := fun id => bif Nat.beq id 1 then .op 0 .any (.op 2 .any (.op 5 .any (.op 6 .take (.alt (.op 1 .one (.alt (.op 3 .one (.alt (.op 4 .one (.alt (.op 7 .last (.op 8 .any (.op 9 .one (.op 10 .last (.nil))))) (.op 9 .one (.op 7 .last (.op 8 .any (.op 10 .last (.nil))))))) (.op 9 .one (.op 4 .one (.op 7 .last (.op 8 .any (.op 10 .last (.nil)))))))) (.alt (.op 4 .one (.alt (.op 3 .one (.alt (.op 7 .last (.op 8 .any (.op 9 .one (.op 10 .last (.nil))))) (.op 9 .one (.op 7 .last (.op 8 .any (.op 10 .last (.nil))))))) (.alt (.op 7 .last (.op 3 .take (.op 8 .any (.op 9 .one (.op 10 .last (.nil)))))) (.op 9 .one (.alt (.op 3 .one (.op 7 .last (.op 8 .any (.op 10 .last (.nil))))) (.op 7 .last (.op 3 .take (.op 8 .any (.op 10 .last (.nil)))))))))) (.op 9 .one (.alt (.op 3 .one (.op 4 .one (.op 7 .last (.op 8 .any (.op 10 .last (.nil)))))) (.op 4 .one (.alt (.op 3 .one (.op 7 .last (.op 8 .any (.op 10 .last (.nil))))) (.op 7 .last (.op 3 .take (.op 8 .any (.op 10 .last (.nil)))))))))))) (.alt (.op 3 .one (.alt (.op 1 .one (.alt (.op 4 .one (.alt (.op 7 .last (.op 8 .any (.op 9 .one (.op 10 .last (.nil))))) (.op 9 .one (.op 7 .last (.op 8 .any (.op 10 .last (.nil))))))) (.op 9 .one (.op 4 .one (.op 7 .last (.op 8 .any (.op 10 .last (.nil)))))))) (.alt (.op 4 .one (.alt (.op 1 .one (.alt (.op 7 .last (.op 8 .any (.op 9 .one (.op 10 .last (.nil))))) (.op 9 .one (.op 7 .last (.op 8 .any (.op 10 .last (.nil))))))) (.alt (.op 7 .last (.op 1 .take (.op 8 .any (.op 9 .one (.op 10 .last (.nil)))))) (.op 9 .one (.alt (.op 1 .one (.op 7 .last (.op 8 .any (.op 10 .last (.nil))))) (.op 7 .last (.op 1 .take (.op 8 .any (.op 10 .last (.nil)))))))))) (.op 9 .one (.alt (.op 1 .one (.op 4 .one (.op 7 .last (.op 8 .any (.op 10 .last (.nil)))))) (.op 4 .one (.alt (.op 1 .one (.op 7 .last (.op 8 .any (.op 10 .last (.nil))))) (.op 7 .last (.op 1 .take (.op 8 .any (.op 10 .last (.nil)))))))))))) (.alt (.op 4 .one (.alt (.op 1 .one (.alt (.op 3 .one (.alt (.op 7 .last (.op 8 .any (.op 9 .one (.op 10 .last (.nil))))) (.op 9 .one (.op 7 .last (.op 8 .any (.op 10 .last (.nil))))))) (.alt (.op 7 .last (.op 3 .take (.op 8 .any (.op 9 .one (.op 10 .last (.nil)))))) (.op 9 .one (.alt (.op 3 .one (.op 7 .last (.op 8 .any (.op 10 .last (.nil))))) (.op 7 .last (.op 3 .take (.op 8 .any (.op 10 .last (.nil)))))))))) (.alt (.op 3 .one (.alt (.op 1 .one (.alt (.op 7 .last (.op 8 .any (.op 9 .one (.op 10 .last (.nil))))) (.op 9 .one (.op 7 .last (.op 8 .any (.op 10 .last (.nil))))))) (.alt (.op 7 .last (.op 1 .take (.op 8 .any (.op 9 .one (.op 10 .last (.nil)))))) (.op 9 .one (.alt (.op 1 .one (.op 7 .last (.op 8 .any (.op 10 .last (.nil))))) (.op 7 .last (.op 1 .take (.op 8 .any (.op 10 .last (.nil)))))))))) (.alt (.op 7 .last (.op 1 .take (.op 3 .take (.op 8 .any (.op 9 .one (.op 10 .last (.nil))))))) (.op 9 .one (.alt (.op 1 .one (.alt (.op 3 .one (.op 7 .last (.op 8 .any (.op 10 .last (.nil))))) (.op 7 .last (.op 3 .take (.op 8 .any (.op 10 .last (.nil))))))) (.alt (.op 3 .one (.alt (.op 1 .one (.op 7 .last (.op 8 .any (.op 10 .last (.nil))))) (.op 7 .last (.op 1 .take (.op 8 .any (.op 10 .last (.nil))))))) (.op 7 .last (.op 1 .take (.op 3 .take (.op 8 .any (.op 10 .last (.nil))))))))))))) (.op 9 .one (.alt (.op 1 .one (.alt (.op 3 .one (.op 4 .one (.op 7 .last (.op 8 .any (.op 10 .last (.nil)))))) (.op 4 .one (.alt (.op 3 .one (.op 7 .last (.op 8 .any (.op 10 .last (.nil))))) (.op 7 .last (.op 3 .take (.op 8 .any (.op 10 .last (.nil))))))))) (.alt (.op 3 .one (.alt (.op 1 .one (.op 4 .one (.op 7 .last (.op 8 .any (.op 10 .last (.nil)))))) (.op 4 .one (.alt (.op 1 .one (.op 7 .last (.op 8 .any (.op 10 .last (.nil))))) (.op 7 .last (.op 1 .take (.op 8 .any (.op 10 .last (.nil))))))))) (.op 4 .one (.alt (.op 1 .one (.alt (.op 3 .one (.op 7 .last (.op 8 .any (.op 10 .last (.nil))))) (.op 7 .last (.op 3 .take (.op 8 .any (.op 10 .last (.nil))))))) (.alt (.op 3 .one (.alt (.op 1 .one (.op 7 .last (.op 8 .any (.op 10 .last (.nil))))) (.op 7 .last (.op 1 .take (.op 8 .any (.op 10 .last (.nil))))))) (.op 7 .last (.op 1 .take (.op 3 .take (.op 8 .any (.op 10 .last (.nil)))))))))))))))))) else .nil
def hp63_0 : List (Option AP) := [none, none, none, none, some (.box false [.int .i64, .int .i64, .own (.cons .str .nil)]), none, none, none, none, none, none, none, none, some (.box false [.int .i64, .int .i64, .own (.cons .str .nil)]), some (.val false [.str]), some (.val false [.int .i64]), none, none, none, none, none, none, none, none, none, none, none, none, none, none, none, none, none, none, none, none, none, none, none, none, none, none, none, none, none, none, none, none, none, none, none, none, none, none, none, none, none, none, none, none, none, none, none, none, none, none, none, none, none, none, none, none, none, none, none, none, none, none, none, none, none, none, none, none, none, none, none, none, none, none, none, none, none]
def e63_0 : List (Option AP) := [none, none, none, none, some (.box false [.int .i64, .int .i64, .own (.cons .str .nil)]), none, none, none, none, none, none, none, none, none, some (.val false [.str]), none, none, none, none, none, none, none, none, none, none, none, none, none, none, none, none, none, none, none, none, none, none, none, none, none, none, none, none, none, none, none, none, none, none, none, none, none, none, none, none, none, none, none, none, none, none, none, none, none, none, none, none, none, none, none, none, none, none, none, none, none, none, none, none, none, none, none, none, none, none, none, none, none, none, none, none, none, none]
def q63_0 : List (Option AP) := [none, none, none, none, none, none, none, none, none, none, none, none, none, none, none, none, none, none, none, none, none, none, none, none, none, none, none, none, none, none, none, none, none, none, none, none, none, none, none, none, none, none, none, none, none, none, none, none, none, none, none, none, none, none, none, none, none, none, none, none, none, none, none, none, none, none, none, none, none, none, none, none, none, none, none, none, none, none, none, none, none, none, none, none, none, none, none, none, none, none, none, none, none]
abbrev H63_0 : Type := Int × Int × (List (ByteArray × Unit)) × Int × Int × (List (ByteArray × Unit)) × ByteArray × Int × Unit
abbrev E63_0 : Type := Int × Int × (List (ByteArray × Unit)) × ByteArray × Unit
abbrev Q63_0 : Type := Unit
noncomputable def spec_AddPiece_c0 (t4c0 : Int) (t4c1 : Int) (t4c2 : List (ByteArray × Unit)) (out13c0 : Int) (out13c1 : Int) (out13c2 : List (ByteArray × Unit)) (whole14 : ByteArray) (i15 : Int) : Option (Sum H63_0 (Sum E63_0 Q63_0)) :=
  bif decide (i15 < ((List.length out13c2 : Nat) : Int)) then
    bif decide ((0 : Int) ≤ i15) then bif Nat.blt (Int.toNat i15) (List.length out13c2) then Option.bind ((out13c2)[Int.toNat i15]?) fun r2 =>
        bif Nat.ble ((ByteArray.size whole14) + (ByteArray.size r2.1)) lim then some (.inl (t4c0, t4c1, t4c2, out13c0, out13c1, out13c2, whole14 ++ r2.1, IntKind.i64.wrap (i15 + (1 : Int)), ()))
        else none
      else none
    else none
  else
    some (.inr (.inl (t4c0, t4c1, t4c2, whole14, ())))
noncomputable def spec_AddPiece_r0 (x : H63_0) : Option (Sum H63_0 (Sum E63_0 Q63_0)) := spec_AddPiece_c0 x.1 x.2.1 x.2.2.1 x.2.2.2.1 x.2.2.2.2.1 x.2.2.2.2.2.1 x.2.2.2.2.2.2.1 x.2.2.2.2.2.2.2.1
noncomputable def L63 {R : Type} : Loops R := fun id _ st k => bif Nat.beq id 0 then loopAt hp63_0 e63_0 q63_0 spec_AddPiece_r0 st k else none
noncomputable def spec_AddPiece (p0c0 : Int) (p0c1 : Int) (p0c2 : List (ByteArray × Unit)) (text1 : ByteArray) : Option (Int × Int × (List (ByteArray × Unit)) × ByteArray × Bool × Unit) :=
  bif Nat.ble ((0 + (List.length p0c2)) * 16) lim then Option.bind (spec_ReadPiece text1) fun y1 =>
    bif !y1.2.2.2.2.1 then
      some (p0c0, p0c1, [] ++ p0c2, (ByteArray.mk #[]), false, ())
    else bif decide ((0 : Int) < y1.2.1) then
      bif !decide (p0c0 = y1.1) then
        some (p0c0, p0c1, [] ++ p0c2, (ByteArray.mk #[]), false, ())
      else bif !decide (p0c1 = y1.2.2.1) then
        some (p0c0, p0c1, [] ++ p0c2, (ByteArray.mk #[]), false, ())
      else bif !decide (((List.length p0c2 : Nat) : Int) = y1.2.1) then
        some (p0c0, p0c1, [] ++ p0c2, (ByteArray.mk #[]), false, ())
      else bif decide ((0 : Int) < y1.2.1) then
        bif Nat.ble (((List.length ([] ++ p0c2)) + 1) * 16) lim then bif decide (IntKind.i64.wrap (y1.2.1 + (1 : Int)) < y1.2.2.1) then
            some (y1.1, y1.2.2.1, ([] ++ p0c2) ++ [(y1.2.2.2.1, ())], (ByteArray.mk #[]), false, ())
          else
            outK (loopV spec_AddPiece_r0 ((0 : Int), (0 : Int), [], y1.1, y1.2.2.1, ([] ++ p0c2) ++ [(y1.2.2.2.1, ())], (ByteArray.mk #[]), (0 : Int), ())) (fun y2 =>
              some ((0 : Int), (0 : Int), [], y2.2.2.2.1, true, ())) (fun y3 =>
              none)
        else none
      else bif decide (IntKind.i64.wrap (y1.2.1 + (1 : Int)) < y1.2.2.1) then
        some (y1.1, y1.2.2.1, [(y1.2.2.2.1, ())], (ByteArray.mk #[]), false, ())
      else
        outK (loopV spec_AddPiece_r0 ((0 : Int), (0 : Int), [], y1.1, y1.2.2.1, [(y1.2.2.2.1, ())], (ByteArray.mk #[]), (0 : Int), ())) (fun y4 =>
          some ((0 : Int), (0 : Int), [], y4.2.2.2.1, true, ())) (fun y5 =>
          none)
    else bif decide ((0 : Int) < y1.2.1) then
      bif Nat.ble (((List.length ([] ++ p0c2)) + 1) * 16) lim then bif decide (IntKind.i64.wrap (y1.2.1 + (1 : Int)) < y1.2.2.1) then
          some (y1.1, y1.2.2.1, ([] ++ p0c2) ++ [(y1.2.2.2.1, ())], (ByteArray.mk #[]), false, ())
        else
          outK (loopV spec_AddPiece_r0 ((0 : Int), (0 : Int), [], y1.1, y1.2.2.1, ([] ++ p0c2) ++ [(y1.2.2.2.1, ())], (ByteArray.mk #[]), (0 : Int), ())) (fun y6 =>
            some ((0 : Int), (0 : Int), [], y6.2.2.2.1, true, ())) (fun y7 =>
            none)
      else none
    else bif decide (IntKind.i64.wrap (y1.2.1 + (1 : Int)) < y1.2.2.1) then
      some (y1.1, y1.2.2.1, [(y1.2.2.2.1, ())], (ByteArray.mk #[]), false, ())
    else
      outK (loopV spec_AddPiece_r0 ((0 : Int), (0 : Int), [], y1.1, y1.2.2.1, [(y1.2.2.2.1, ())], (ByteArray.mk #[]), (0 : Int), ())) (fun y8 =>
        some ((0 : Int), (0 : Int), [], y8.2.2.2.1, true, ())) (fun y9 =>
        none)
  else none
noncomputable def x63 (x : Int × Int × (List (ByteArray × Unit)) × ByteArray × Unit) : Option (Int × Int × (List (ByteArray × Unit)) × ByteArray × Bool × Unit) := spec_AddPiece x.1 x.2.1 x.2.2.1 x.2.2.2.1
noncomputable def sem63 : Sem1 := semOf ps63 rs63 x63
theorem so63 : SemsOk Try.prog (semsOf sl63) := sems_cons k123 (sems_nil)
noncomputable def b63_0 : Code := nthLoop code63 0
theorem t63_r0_eq (x : denR (headRT hp63_0)) : codeK (tabOf tr) (semsOf sl63) D63 L63 b63_0 (headSt hp63_0 x) (roundK 0 hp63_0 e63_0 q63_0) = spec_AddPiece_r0 x := by kernel_rfl
theorem loop63_0 {R : Type} (r : R) (w0 : World) (mu : Mu) (hs : AnShape ps63 mu) : LoopAt Try.prog w0 mu 93 (L63 : Loops R) r 0 b63_0 :=
  loop_auto tr_ok eq_ok mixed_ok so63 (D := D63) hs (by kernel_rfl) (fun _ => (loops_of (l := []) (by kernel_rfl) (List.forall_mem_nil _))) t63_r0_eq (fun _ _ => rfl)
noncomputable def opsA63 : List Oper := match code63 with | .seq (.region _ o _) _ => o.toList | _ => []
noncomputable def opsB63 : List Oper := match code63 with | .seq _ (.seq (.region _ o _) _) => o.toList | _ => []
noncomputable def rest63 : Code := match code63 with | .seq _ (.seq _ c) => c | _ => .skip
noncomputable def last63 (x : Int × Int × (List (ByteArray × Unit)) × ByteArray × Unit) : St := firstPl (tabOf tr) (semsOf sl63) opsB63 (.op 0 .any (.op 2 .any (.op 5 .any (.op 6 .take (.op 1 .one (.op 3 .one (.op 4 .one (.op 7 .last (.op 8 .any (.op 9 .one (.op 10 .last (.nil)))))))))))) (firstOps (tabOf tr) (semsOf sl63) opsA63 opsA63 (start 93 ps63 x))
theorem reg63 {R : Type} (p0c0 : Int) (p0c1 : Int) (p0c2 : List (ByteArray × Unit)) (text1 : ByteArray) (K : St → Option R) : opsK (tabOf tr) (semsOf sl63) opsA63 opsA63 (start 93 ps63 (p0c0, p0c1, p0c2, text1, ())) (fun s => drawnK (tabOf tr) (semsOf sl63) opsB63 (D63 1) s K) = bif Nat.ble ((0 + (List.length p0c2)) * 16) lim then K (last63 (p0c0, p0c1, p0c2, text1, ()))
    else none := (show _ = both (both (both (both (bif Nat.ble ((0 + (List.length p0c2)) * 16) lim then K (last63 (p0c0, p0c1, p0c2, text1, ()))
            else none) (bif Nat.ble ((0 + (List.length p0c2)) * 16) lim then K (last63 (p0c0, p0c1, p0c2, text1, ()))
            else none)) (bif Nat.ble ((0 + (List.length p0c2)) * 16) lim then K (last63 (p0c0, p0c1, p0c2, text1, ()))
          else none)) (both (both (both (bif Nat.ble ((0 + (List.length p0c2)) * 16) lim then K (last63 (p0c0, p0c1, p0c2, text1, ()))
              else none) (bif Nat.ble ((0 + (List.length p0c2)) * 16) lim then K (last63 (p0c0, p0c1, p0c2, text1, ()))
              else none)) (both (bif Nat.ble ((0 + (List.length p0c2)) * 16) lim then K (last63 (p0c0, p0c1, p0c2, text1, ()))
              else none) (both (bif Nat.ble ((0 + (List.length p0c2)) * 16) lim then K (last63 (p0c0, p0c1, p0c2, text1, ()))
                else none) (bif Nat.ble ((0 + (List.length p0c2)) * 16) lim then K (last63 (p0c0, p0c1, p0c2, text1, ()))
                else none)))) (both (bif Nat.ble ((0 + (List.length p0c2)) * 16) lim then K (last63 (p0c0, p0c1, p0c2, text1, ()))
            else none) (both (bif Nat.ble ((0 + (List.length p0c2)) * 16) lim then K (last63 (p0c0, p0c1, p0c2, text1, ()))
              else none) (bif Nat.ble ((0 + (List.length p0c2)) * 16) lim then K (last63 (p0c0, p0c1, p0c2, text1, ()))
              else none))))) (both (both (both (both (bif Nat.ble ((0 + (List.length p0c2)) * 16) lim then K (last63 (p0c0, p0c1, p0c2, text1, ()))
              else none) (bif Nat.ble ((0 + (List.length p0c2)) * 16) lim then K (last63 (p0c0, p0c1, p0c2, text1, ()))
              else none)) (bif Nat.ble ((0 + (List.length p0c2)) * 16) lim then K (last63 (p0c0, p0c1, p0c2, text1, ()))
            else none)) (both (both (both (bif Nat.ble ((0 + (List.length p0c2)) * 16) lim then K (last63 (p0c0, p0c1, p0c2, text1, ()))
                else none) (bif Nat.ble ((0 + (List.length p0c2)) * 16) lim then K (last63 (p0c0, p0c1, p0c2, text1, ()))
                else none)) (both (bif Nat.ble ((0 + (List.length p0c2)) * 16) lim then K (last63 (p0c0, p0c1, p0c2, text1, ()))
                else none) (both (bif Nat.ble ((0 + (List.length p0c2)) * 16) lim then K (last63 (p0c0, p0c1, p0c2, text1, ()))
                  else none) (bif Nat.ble ((0 + (List.length p0c2)) * 16) lim then K (last63 (p0c0, p0c1, p0c2, text1, ()))
                  else none)))) (both (bif Nat.ble ((0 + (List.length p0c2)) * 16) lim then K (last63 (p0c0, p0c1, p0c2, text1, ()))
              else none) (both (bif Nat.ble ((0 + (List.length p0c2)) * 16) lim then K (last63 (p0c0, p0c1, p0c2, text1, ()))
                else none) (bif Nat.ble ((0 + (List.length p0c2)) * 16) lim then K (last63 (p0c0, p0c1, p0c2, text1, ()))
                else none))))) (both (both (both (both (bif Nat.ble ((0 + (List.length p0c2)) * 16) lim then K (last63 (p0c0, p0c1, p0c2, text1, ()))
                else none) (bif Nat.ble ((0 + (List.length p0c2)) * 16) lim then K (last63 (p0c0, p0c1, p0c2, text1, ()))
                else none)) (both (bif Nat.ble ((0 + (List.length p0c2)) * 16) lim then K (last63 (p0c0, p0c1, p0c2, text1, ()))
                else none) (both (bif Nat.ble ((0 + (List.length p0c2)) * 16) lim then K (last63 (p0c0, p0c1, p0c2, text1, ()))
                  else none) (bif Nat.ble ((0 + (List.length p0c2)) * 16) lim then K (last63 (p0c0, p0c1, p0c2, text1, ()))
                  else none)))) (both (both (both (bif Nat.ble ((0 + (List.length p0c2)) * 16) lim then K (last63 (p0c0, p0c1, p0c2, text1, ()))
                  else none) (bif Nat.ble ((0 + (List.length p0c2)) * 16) lim then K (last63 (p0c0, p0c1, p0c2, text1, ()))
                  else none)) (both (bif Nat.ble ((0 + (List.length p0c2)) * 16) lim then K (last63 (p0c0, p0c1, p0c2, text1, ()))
                  else none) (both (bif Nat.ble ((0 + (List.length p0c2)) * 16) lim then K (last63 (p0c0, p0c1, p0c2, text1, ()))
                    else none) (bif Nat.ble ((0 + (List.length p0c2)) * 16) lim then K (last63 (p0c0, p0c1, p0c2, text1, ()))
                    else none)))) (both (bif Nat.ble ((0 + (List.length p0c2)) * 16) lim then K (last63 (p0c0, p0c1, p0c2, text1, ()))
                else none) (both (both (bif Nat.ble ((0 + (List.length p0c2)) * 16) lim then K (last63 (p0c0, p0c1, p0c2, text1, ()))
                    else none) (bif Nat.ble ((0 + (List.length p0c2)) * 16) lim then K (last63 (p0c0, p0c1, p0c2, text1, ()))
                    else none)) (both (both (bif Nat.ble ((0 + (List.length p0c2)) * 16) lim then K (last63 (p0c0, p0c1, p0c2, text1, ()))
                      else none) (bif Nat.ble ((0 + (List.length p0c2)) * 16) lim then K (last63 (p0c0, p0c1, p0c2, text1, ()))
                      else none)) (bif Nat.ble ((0 + (List.length p0c2)) * 16) lim then K (last63 (p0c0, p0c1, p0c2, text1, ()))
                    else none)))))) (both (both (bif Nat.ble ((0 + (List.length p0c2)) * 16) lim then K (last63 (p0c0, p0c1, p0c2, text1, ()))
              else none) (both (bif Nat.ble ((0 + (List.length p0c2)) * 16) lim then K (last63 (p0c0, p0c1, p0c2, text1, ()))
                else none) (bif Nat.ble ((0 + (List.length p0c2)) * 16) lim then K (last63 (p0c0, p0c1, p0c2, text1, ()))
                else none))) (both (both (bif Nat.ble ((0 + (List.length p0c2)) * 16) lim then K (last63 (p0c0, p0c1, p0c2, text1, ()))
                else none) (both (bif Nat.ble ((0 + (List.length p0c2)) * 16) lim then K (last63 (p0c0, p0c1, p0c2, text1, ()))
                  else none) (bif Nat.ble ((0 + (List.length p0c2)) * 16) lim then K (last63 (p0c0, p0c1, p0c2, text1, ()))
                  else none))) (both (both (bif Nat.ble ((0 + (List.length p0c2)) * 16) lim then K (last63 (p0c0, p0c1, p0c2, text1, ()))
                  else none) (bif Nat.ble ((0 + (List.length p0c2)) * 16) lim then K (last63 (p0c0, p0c1, p0c2, text1, ()))
                  else none)) (both (both (bif Nat.ble ((0 + (List.length p0c2)) * 16) lim then K (last63 (p0c0, p0c1, p0c2, text1, ()))
                    else none) (bif Nat.ble ((0 + (List.length p0c2)) * 16) lim then K (last63 (p0c0, p0c1, p0c2, text1, ()))
                    else none)) (bif Nat.ble ((0 + (List.length p0c2)) * 16) lim then K (last63 (p0c0, p0c1, p0c2, text1, ()))
                  else none))))))) from by kernel_rfl).trans (by simp only [both_self])
theorem t63_eq (x : denR (headRT (ps63.map some))) : codeK (tabOf tr) (semsOf sl63) D63 L63 code63 (start 93 ps63 x) (finK rs63 ps63) = x63 x :=
  Eq.trans (b := opsK (tabOf tr) (semsOf sl63) opsA63 opsA63 (start 93 ps63 (x.1, x.2.1, x.2.2.1, x.2.2.2.1, ())) (fun s => drawnK (tabOf tr) (semsOf sl63) opsB63 (D63 1) s (fun st => codeK (tabOf tr) (semsOf sl63) D63 L63 rest63 st (finK rs63 ps63)))) (by kernel_rfl) ((reg63 x.1 x.2.1 x.2.2.1 x.2.2.2.1 (fun st => codeK (tabOf tr) (semsOf sl63) D63 L63 rest63 st (finK rs63 ps63))).trans (by kernel_rfl))
theorem k63 : Known Try.prog 63 sem63 :=
  fn_auto tr_ok eq_ok mixed_ok so63 (D := D63) (code := code63) (n := 93) Try.func63 (by kernel_rfl) (by kernel_rfl) (by kernel_rfl) (fun w0 mu _ hs => (loops_of (l := [(0, b63_0)]) (by kernel_rfl) (List.forall_mem_cons.2 ⟨loop63_0 _ w0 mu hs, (List.forall_mem_nil _)⟩))) t63_eq

/-! ### f60: spec.Join -/
noncomputable def code60 : Code := match Try.f60.body with | some c => c | none => .skip
def ps60 : List AP := [.val false [.shr (.cons .str .nil)]]
def rs60 : List RP := [{ src := .tmp 2, agg := false, ps := [.own (.cons .str .nil)] }]
noncomputable def sl60 : SemL := [(63, (.shr, .shr, .shr, sem63))]
def D60 : Draws := fun id => bif Nat.beq id 6 then .op 0 .take (.op 1 .any (.op 2 .any (.op 3 .any (.op 4 .take (.alt (.op 5 .one (.op 6 .any (.op 7 .any (.op 8 .any (.op 9 .any (.op 10 .one (.op 11 .last (.op 12 .any (.op 13 .any (.nil)))))))))) (.op 10 .one (.op 5 .one (.op 6 .any (.op 7 .any (.op 8 .any (.op 9 .any (.op 11 .last (.op 12 .any (.op 13 .any (.nil))))))))))))))) else .nil
def hp60_0 : List (Option AP) := [some (.val false [.shr (.cons .str .nil)]), none, none, some (.val false [.own (.cons .str .nil)]), some (.box false [.int .i64, .int .i64, .own (.cons .str .nil)]), some (.val false [.int .i64]), none, none, none, none, none, none, none, none, none, none, none, none, none, none, none, none, none, none, none, none, none, none, none, none, none, none, none, none]
def e60_0 : List (Option AP) := [none, none, none, some (.val false [.own (.cons .str .nil)]), none, none, none, none, none, none, none, none, none, none, none, none, none, none, none, none, none, none, none, none, none, none, none, none, none, none, none, none, none, none]
def q60_0 : List (Option AP) := [none, none, none, none, none, none, none, none, none, none, none, none, none, none, none, none, none, none, none, none, none, none, none, none, none, none, none, none, none, none, none, none, none, none]
abbrev H60_0 : Type := (List (ByteArray × Unit)) × (List (ByteArray × Unit)) × Int × Int × (List (ByteArray × Unit)) × Int × Unit
abbrev E60_0 : Type := (List (ByteArray × Unit)) × Unit
abbrev Q60_0 : Type := Unit
noncomputable def spec_Join_c0 (list0 : List (ByteArray × Unit)) (out3 : List (ByteArray × Unit)) (p4c0 : Int) (p4c1 : Int) (p4c2 : List (ByteArray × Unit)) (i5 : Int) : Option (Sum H60_0 (Sum E60_0 Q60_0)) :=
  bif decide (i5 < ((List.length list0 : Nat) : Int)) then
    bif decide ((0 : Int) ≤ i5) then Option.bind ((list0)[Int.toNat i5]?) fun r1 =>
      Option.bind (spec_AddPiece p4c0 p4c1 p4c2 r1.1) fun y2 =>
      bif y2.2.2.2.2.1 then
        bif Nat.ble (((List.length out3) + 1) * 16) lim then some (.inl (list0, out3 ++ [(y2.2.2.2.1, ())], y2.1, y2.2.1, y2.2.2.1, IntKind.i64.wrap (i5 + (1 : Int)), ()))
        else none
      else
        some (.inl (list0, out3, y2.1, y2.2.1, y2.2.2.1, IntKind.i64.wrap (i5 + (1 : Int)), ()))
    else none
  else
    some (.inr (.inl (out3, ())))
noncomputable def spec_Join_o0 (list0 : List (ByteArray × Unit)) (out3 : List (ByteArray × Unit)) (p4c0 : Int) (p4c1 : Int) (p4c2 : List (ByteArray × Unit)) (i5 : Int) : Option (Sum H60_0 (Sum E60_0 Q60_0)) :=
  bif decide (i5 < ((List.length list0 : Nat) : Int)) then
    bif decide ((0 : Int) ≤ i5) then Option.bind ((list0)[Int.toNat i5]?) fun r1 =>
      both (Option.bind (spec_AddPiece p4c0 p4c1 p4c2 r1.1) fun y2 =>
        bif y2.2.2.2.2.1 then
          bif Nat.ble (((List.length out3) + 1) * 16) lim then some (.inl (list0, out3 ++ [(y2.2.2.2.1, ())], y2.1, y2.2.1, y2.2.2.1, IntKind.i64.wrap (i5 + (1 : Int)), ()))
          else none
        else
          some (.inl (list0, out3, y2.1, y2.2.1, y2.2.2.1, IntKind.i64.wrap (i5 + (1 : Int)), ()))) (Option.bind (spec_AddPiece p4c0 p4c1 p4c2 r1.1) fun y2 =>
        bif y2.2.2.2.2.1 then
          bif Nat.ble (((List.length out3) + 1) * 16) lim then some (.inl (list0, out3 ++ [(y2.2.2.2.1, ())], y2.1, y2.2.1, y2.2.2.1, IntKind.i64.wrap (i5 + (1 : Int)), ()))
          else none
        else
          some (.inl (list0, out3, y2.1, y2.2.1, y2.2.2.1, IntKind.i64.wrap (i5 + (1 : Int)), ())))
    else none
  else
    some (.inr (.inl (out3, ())))
theorem spec_Join_o0_eq (list0 : List (ByteArray × Unit)) (out3 : List (ByteArray × Unit)) (p4c0 : Int) (p4c1 : Int) (p4c2 : List (ByteArray × Unit)) (i5 : Int) : spec_Join_o0 list0 out3 p4c0 p4c1 p4c2 i5 = spec_Join_c0 list0 out3 p4c0 p4c1 p4c2 i5 := by
  simp only [spec_Join_o0, spec_Join_c0, both_self]
noncomputable def spec_Join_r0 (x : H60_0) : Option (Sum H60_0 (Sum E60_0 Q60_0)) := spec_Join_c0 x.1 x.2.1 x.2.2.1 x.2.2.2.1 x.2.2.2.2.1 x.2.2.2.2.2.1
noncomputable def L60 {R : Type} : Loops R := fun id _ st k => bif Nat.beq id 0 then loopAt hp60_0 e60_0 q60_0 spec_Join_r0 st k else none
noncomputable def spec_Join (list0 : List (ByteArray × Unit)) : Option ((List (ByteArray × Unit)) × Unit) :=
  outK (loopV spec_Join_r0 (list0, [], (0 : Int), (0 : Int), [], (0 : Int), ())) (fun y1 =>
    some (y1.1, ())) (fun y2 =>
    none)
noncomputable def x60 (x : (List (ByteArray × Unit)) × Unit) : Option ((List (ByteArray × Unit)) × Unit) := spec_Join x.1
noncomputable def sem60 : Sem1 := semOf ps60 rs60 x60
theorem so60 : SemsOk Try.prog (semsOf sl60) := sems_cons k63 (sems_nil)
noncomputable def b60_0 : Code := nthLoop code60 0
theorem t60_r0_eq (x : denR (headRT hp60_0)) : codeK (tabOf tr) (semsOf sl60) D60 L60 b60_0 (headSt hp60_0 x) (roundK 0 hp60_0 e60_0 q60_0) = spec_Join_r0 x := (show _ = spec_Join_o0 x.1 x.2.1 x.2.2.1 x.2.2.2.1 x.2.2.2.2.1 x.2.2.2.2.2.1 from by kernel_rfl).trans (spec_Join_o0_eq x.1 x.2.1 x.2.2.1 x.2.2.2.1 x.2.2.2.2.1 x.2.2.2.2.2.1)
theorem loop60_0 {R : Type} (r : R) (w0 : World) (mu : Mu) (hs : AnShape ps60 mu) : LoopAt Try.prog w0 mu 34 (L60 : Loops R) r 0 b60_0 :=
  loop_auto tr_ok eq_ok mixed_ok so60 (D := D60) hs (by kernel_rfl) (fun _ => (loops_of (l := []) (by kernel_rfl) (List.forall_mem_nil _))) t60_r0_eq (fun _ _ => rfl)
theorem t60_eq (x : denR (headRT (ps60.map some))) : codeK (tabOf tr) (semsOf sl60) D60 L60 code60 (start 34 ps60 x) (finK rs60 ps60) = x60 x := by kernel_rfl
theorem k60 : Known Try.prog 60 sem60 :=
  fn_auto tr_ok eq_ok mixed_ok so60 (D := D60) (code := code60) (n := 34) Try.func60 (by kernel_rfl) (by kernel_rfl) (by kernel_rfl) (fun w0 mu _ hs => (loops_of (l := [(0, b60_0)]) (by kernel_rfl) (List.forall_mem_cons.2 ⟨loop60_0 _ w0 mu hs, (List.forall_mem_nil _)⟩))) t60_eq

/-! ### f56: laws.eqStringS -/
noncomputable def code56 : Code := match Try.f56.body with | some c => c | none => .skip
def ps56 : List AP := [.val false [.shr (.cons .str .nil)], .val false [.shr (.cons .str .nil)]]
def rs56 : List RP := [{ src := .tmp 4, agg := false, ps := [.bool] }]
noncomputable def sl56 : SemL := []
def D56 : Draws := fun id => bif Nat.beq id 6 then .op 0 .any (.op 1 .any (.op 2 .any (.op 3 .take (.op 4 .any (.op 5 .any (.op 6 .any (.op 7 .take (.op 8 .any (.nil))))))))) else .nil
def hp56_0 : List (Option AP) := [some (.val false [.shr (.cons .str .nil)]), some (.val false [.shr (.cons .str .nil)]), none, none, none, some (.val false [.int .i64]), none, none, none, none, none, none, none, none, none, none, none, none, none, none, none, none, none, none, none, none]
def e56_0 : List (Option AP) := [none, none, none, none, none, none, none, none, none, none, none, none, none, none, none, none, none, none, none, none, none, none, none, none, none, none]
def q56_0 : List (Option AP) := [none, none, none, none, some (.val false [.bool]), none, none, none, none, none, none, none, none, none, none, none, none, none, none, none, none, none, none, none, none, none]
abbrev H56_0 : Type := (List (ByteArray × Unit)) × (List (ByteArray × Unit)) × Int × Unit
abbrev E56_0 : Type := Unit
abbrev Q56_0 : Type := Bool × Unit
noncomputable def laws_eqStringS_c0 (a0 : List (ByteArray × Unit)) (b1 : List (ByteArray × Unit)) (i5 : Int) : Option (Sum H56_0 (Sum E56_0 Q56_0)) :=
  bif decide (i5 < ((List.length a0 : Nat) : Int)) then
    bif decide ((0 : Int) ≤ i5) then Option.bind ((a0)[Int.toNat i5]?) fun r1 =>
      bif decide ((0 : Int) ≤ i5) then Option.bind ((b1)[Int.toNat i5]?) fun r2 =>
        bif !strEq r1.1 r2.1 then
          some (.inr (.inr (false, ())))
        else
          some (.inl (a0, b1, IntKind.i64.wrap (i5 + (1 : Int)), ()))
      else none
    else none
  else
    some (.inr (.inl (())))
noncomputable def laws_eqStringS_r0 (x : H56_0) : Option (Sum H56_0 (Sum E56_0 Q56_0)) := laws_eqStringS_c0 x.1 x.2.1 x.2.2.1
noncomputable def L56 {R : Type} : Loops R := fun id _ st k => bif Nat.beq id 0 then loopAt hp56_0 e56_0 q56_0 laws_eqStringS_r0 st k else none
noncomputable def laws_eqStringS (a0 : List (ByteArray × Unit)) (b1 : List (ByteArray × Unit)) : Option (Bool × Unit) :=
  bif !decide (((List.length a0 : Nat) : Int) = ((List.length b1 : Nat) : Int)) then
    some (false, ())
  else
    outK (loopV laws_eqStringS_r0 (a0, b1, (0 : Int), ())) (fun y1 =>
      some (true, ())) (fun y2 =>
      some (y2.1, ()))
noncomputable def x56 (x : (List (ByteArray × Unit)) × (List (ByteArray × Unit)) × Unit) : Option (Bool × Unit) := laws_eqStringS x.1 x.2.1
noncomputable def sem56 : Sem1 := semOf ps56 rs56 x56
theorem so56 : SemsOk Try.prog (semsOf sl56) := sems_nil
noncomputable def b56_0 : Code := nthLoop code56 0
theorem t56_r0_eq (x : denR (headRT hp56_0)) : codeK (tabOf tr) (semsOf sl56) D56 L56 b56_0 (headSt hp56_0 x) (roundK 0 hp56_0 e56_0 q56_0) = laws_eqStringS_r0 x := by kernel_rfl
theorem loop56_0 {R : Type} (r : R) (w0 : World) (mu : Mu) (hs : AnShape ps56 mu) : LoopAt Try.prog w0 mu 26 (L56 : Loops R) r 0 b56_0 :=
  loop_auto tr_ok eq_ok mixed_ok so56 (D := D56) hs (by kernel_rfl) (fun _ => (loops_of (l := []) (by kernel_rfl) (List.forall_mem_nil _))) t56_r0_eq (fun _ _ => rfl)
theorem t56_eq (x : denR (headRT (ps56.map some))) : codeK (tabOf tr) (semsOf sl56) D56 L56 code56 (start 26 ps56 x) (finK rs56 ps56) = x56 x := by kernel_rfl
theorem k56 : Known Try.prog 56 sem56 :=
  fn_auto tr_ok eq_ok mixed_ok so56 (D := D56) (code := code56) (n := 26) Try.func56 (by kernel_rfl) (by kernel_rfl) (by kernel_rfl) (fun w0 mu _ hs => (loops_of (l := [(0, b56_0)]) (by kernel_rfl) (List.forall_mem_cons.2 ⟨loop56_0 _ w0 mu hs, (List.forall_mem_nil _)⟩))) t56_eq

/-! ### f102: laws.markText -/
noncomputable def code102 : Code := match Try.f102.body with | some c => c | none => .skip
def ps102 : List AP := [.val false [.int .i64]]
def rs102 : List RP := [{ src := .tmp 2, agg := false, ps := [.str] }]
noncomputable def sl102 : SemL := []
def D102 : Draws := fun _ => .nil
def hp102_0 : List (Option AP) := [some (.val false [.int .i64]), none, none, some (.val false [.str]), none, none, none, none, none, none, none, none, none, none, none, none, none, none, none, none]
def e102_0 : List (Option AP) := [none, none, none, some (.val false [.str]), none, none, none, none, none, none, none, none, none, none, none, none, none, none, none, none]
def q102_0 : List (Option AP) := [none, none, none, none, none, none, none, none, none, none, none, none, none, none, none, none, none, none, none, none]
abbrev H102_0 : Type := Int × ByteArray × Unit
abbrev E102_0 : Type := ByteArray × Unit
abbrev Q102_0 : Type := Unit
noncomputable def laws_markText_c0 (k0 : Int) (out3 : ByteArray) : Option (Sum H102_0 (Sum E102_0 Q102_0)) :=
  bif decide ((0 : Int) < k0) then
    bif Nat.ble ((ByteArray.size (bytesOf [(IntKind.u8.wrap (IntKind.i64.wrap ((48 : Int) + (Int.tmod k0 (10 : Int)))), ())])) + (ByteArray.size out3)) lim then some (.inl (IntKind.i64.wrap (Int.tdiv k0 (10 : Int)), (bytesOf [(IntKind.u8.wrap (IntKind.i64.wrap ((48 : Int) + (Int.tmod k0 (10 : Int)))), ())]) ++ out3, ()))
    else none
  else
    some (.inr (.inl (out3, ())))
noncomputable def laws_markText_r0 (x : H102_0) : Option (Sum H102_0 (Sum E102_0 Q102_0)) := laws_markText_c0 x.1 x.2.1
noncomputable def L102 {R : Type} : Loops R := fun id _ st k => bif Nat.beq id 0 then loopAt hp102_0 e102_0 q102_0 laws_markText_r0 st k else none
noncomputable def laws_markText (k0 : Int) : Option (ByteArray × Unit) :=
  bif decide (k0 ≤ (0 : Int)) then
    some ((ByteArray.mk #[109, 48]), ())
  else
    outK (loopV laws_markText_r0 (k0, (ByteArray.mk #[]), ())) (fun y1 =>
      bif Nat.ble (1 + (ByteArray.size y1.1)) lim then some ((ByteArray.mk #[109]) ++ y1.1, ())
      else none) (fun y2 =>
      none)
noncomputable def x102 (x : Int × Unit) : Option (ByteArray × Unit) := laws_markText x.1
noncomputable def sem102 : Sem1 := semOf ps102 rs102 x102
theorem so102 : SemsOk Try.prog (semsOf sl102) := sems_nil
noncomputable def b102_0 : Code := nthLoop code102 0
theorem t102_r0_eq (x : denR (headRT hp102_0)) : codeK (tabOf tr) (semsOf sl102) D102 L102 b102_0 (headSt hp102_0 x) (roundK 0 hp102_0 e102_0 q102_0) = laws_markText_r0 x := by kernel_rfl
theorem loop102_0 {R : Type} (r : R) (w0 : World) (mu : Mu) (hs : AnShape ps102 mu) : LoopAt Try.prog w0 mu 20 (L102 : Loops R) r 0 b102_0 :=
  loop_auto tr_ok eq_ok mixed_ok so102 (D := D102) hs (by kernel_rfl) (fun _ => (loops_of (l := []) (by kernel_rfl) (List.forall_mem_nil _))) t102_r0_eq (fun _ _ => rfl)
theorem t102_eq (x : denR (headRT (ps102.map some))) : codeK (tabOf tr) (semsOf sl102) D102 L102 code102 (start 20 ps102 x) (finK rs102 ps102) = x102 x := by kernel_rfl
theorem k102 : Known Try.prog 102 sem102 :=
  fn_auto tr_ok eq_ok mixed_ok so102 (D := D102) (code := code102) (n := 20) Try.func102 (by kernel_rfl) (by kernel_rfl) (by kernel_rfl) (fun w0 mu _ hs => (loops_of (l := [(0, b102_0)]) (by kernel_rfl) (List.forall_mem_cons.2 ⟨loop102_0 _ w0 mu hs, (List.forall_mem_nil _)⟩))) t102_eq

/-! ### f58: laws.markStringS -/
noncomputable def code58 : Code := match Try.f58.body with | some c => c | none => .skip
def ps58 : List AP := [.io (.cons .str .nil), .val false [.int .i64]]
def rs58 : List RP := [{ src := .tmp 4, agg := false, ps := [.int .i64] }]
noncomputable def sl58 : SemL := [(102, (.shr, .shr, .shr, sem102))]
def D58 : Draws := fun _ => .nil
def hp58_0 : List (Option AP) := [some (.io (.cons .str .nil)), some (.val false [.int .i64]), none, none, none, some (.val false [.int .i64]), none, none, none, none, none, none, none, none, none, none, none, none, none, none]
def e58_0 : List (Option AP) := [some (.io (.cons .str .nil)), some (.val false [.int .i64]), none, none, none, none, none, none, none, none, none, none, none, none, none, none, none, none, none, none]
def q58_0 : List (Option AP) := [none, none, none, none, none, none, none, none, none, none, none, none, none, none, none, none, none, none, none, none]
abbrev H58_0 : Type := (List (ByteArray × Unit)) × Int × Int × Unit
abbrev E58_0 : Type := (List (ByteArray × Unit)) × Int × Unit
abbrev Q58_0 : Type := Unit
noncomputable def laws_markStringS_c0 (a0 : List (ByteArray × Unit)) (k1 : Int) (i5 : Int) : Option (Sum H58_0 (Sum E58_0 Q58_0)) :=
  bif decide (i5 < ((List.length a0 : Nat) : Int)) then
    Option.bind (laws_markText k1) fun y1 =>
    bif decide ((0 : Int) ≤ i5) then bif Nat.blt (Int.toNat i5) (List.length a0) then Option.bind ((a0)[Int.toNat i5]?) fun r2 =>
        some (.inl (List.set a0 (Int.toNat i5) (y1.1, ()), IntKind.i64.wrap (k1 + (1 : Int)), IntKind.i64.wrap (i5 + (1 : Int)), ()))
      else none
    else none
  else
    some (.inr (.inl (a0, k1, ())))
noncomputable def laws_markStringS_r0 (x : H58_0) : Option (Sum H58_0 (Sum E58_0 Q58_0)) := laws_markStringS_c0 x.1 x.2.1 x.2.2.1
noncomputable def L58 {R : Type} : Loops R := fun id _ st k => bif Nat.beq id 0 then loopAt hp58_0 e58_0 q58_0 laws_markStringS_r0 st k else none
noncomputable def laws_markStringS (a0 : List (ByteArray × Unit)) (k1 : Int) : Option (Int × (List (ByteArray × Unit)) × Unit) :=
  outK (loopV laws_markStringS_r0 (a0, k1, (0 : Int), ())) (fun y1 =>
    some (y1.2.1, y1.1, ())) (fun y2 =>
    none)
noncomputable def x58 (x : (List (ByteArray × Unit)) × Int × Unit) : Option (Int × (List (ByteArray × Unit)) × Unit) := laws_markStringS x.1 x.2.1
noncomputable def sem58 : Sem1 := semOf ps58 rs58 x58
theorem so58 : SemsOk Try.prog (semsOf sl58) := sems_cons k102 (sems_nil)
noncomputable def b58_0 : Code := nthLoop code58 0
theorem t58_r0_eq (x : denR (headRT hp58_0)) : codeK (tabOf tr) (semsOf sl58) D58 L58 b58_0 (headSt hp58_0 x) (roundK 0 hp58_0 e58_0 q58_0) = laws_markStringS_r0 x := by kernel_rfl
theorem loop58_0 {R : Type} (r : R) (w0 : World) (mu : Mu) (hs : AnShape ps58 mu) : LoopAt Try.prog w0 mu 20 (L58 : Loops R) r 0 b58_0 :=
  loop_auto tr_ok eq_ok mixed_ok so58 (D := D58) hs (by kernel_rfl) (fun _ => (loops_of (l := []) (by kernel_rfl) (List.forall_mem_nil _))) t58_r0_eq (fun _ _ => rfl)
theorem t58_eq (x : denR (headRT (ps58.map some))) : codeK (tabOf tr) (semsOf sl58) D58 L58 code58 (start 20 ps58 x) (finK rs58 ps58) = x58 x := by kernel_rfl
theorem k58 : Known Try.prog 58 sem58 :=
  fn_auto tr_ok eq_ok mixed_ok so58 (D := D58) (code := code58) (n := 20) Try.func58 (by kernel_rfl) (by kernel_rfl) (by kernel_rfl) (fun w0 mu _ hs => (loops_of (l := [(0, b58_0)]) (by kernel_rfl) (List.forall_mem_cons.2 ⟨loop58_0 _ w0 mu hs, (List.forall_mem_nil _)⟩))) t58_eq

/-! ### f61: laws.heldStringS -/
noncomputable def code61 : Code := match Try.f61.body with | some c => c | none => .skip
def ps61 : List AP := [.val false [.shr (.cons .str .nil)], .val false [.int .i64]]
def rs61 : List RP := [{ src := .tmp 4, agg := false, ps := [.int .i64] }]
noncomputable def sl61 : SemL := [(102, (.shr, .shr, .shr, sem102))]
def D61 : Draws := fun id => bif Nat.beq id 4 then .op 0 .any (.op 1 .any (.op 2 .any (.op 3 .take (.op 4 .any (.op 5 .one (.op 6 .any (.nil))))))) else .nil
def hp61_0 : List (Option AP) := [some (.val false [.shr (.cons .str .nil)]), some (.val false [.int .i64]), none, none, none, some (.val false [.int .i64]), none, none, none, none, none, none, none, none, none, none, none, none, none, none, none, none]
def e61_0 : List (Option AP) := [none, some (.val false [.int .i64]), none, none, none, none, none, none, none, none, none, none, none, none, none, none, none, none, none, none, none, none]
def q61_0 : List (Option AP) := [none, none, none, none, some (.val false [.int .i64]), none, none, none, none, none, none, none, none, none, none, none, none, none, none, none, none, none]
abbrev H61_0 : Type := (List (ByteArray × Unit)) × Int × Int × Unit
abbrev E61_0 : Type := Int × Unit
abbrev Q61_0 : Type := Int × Unit
noncomputable def laws_heldStringS_c0 (a0 : List (ByteArray × Unit)) (k1 : Int) (i5 : Int) : Option (Sum H61_0 (Sum E61_0 Q61_0)) :=
  bif decide (i5 < ((List.length a0 : Nat) : Int)) then
    bif decide ((0 : Int) ≤ i5) then Option.bind ((a0)[Int.toNat i5]?) fun r1 =>
      Option.bind (laws_markText k1) fun y2 =>
      bif !strEq r1.1 y2.1 then
        some (.inr (.inr ((-1 : Int), ())))
      else
        some (.inl (a0, IntKind.i64.wrap (k1 + (1 : Int)), IntKind.i64.wrap (i5 + (1 : Int)), ()))
    else none
  else
    some (.inr (.inl (k1, ())))
noncomputable def laws_heldStringS_r0 (x : H61_0) : Option (Sum H61_0 (Sum E61_0 Q61_0)) := laws_heldStringS_c0 x.1 x.2.1 x.2.2.1
noncomputable def L61 {R : Type} : Loops R := fun id _ st k => bif Nat.beq id 0 then loopAt hp61_0 e61_0 q61_0 laws_heldStringS_r0 st k else none
noncomputable def laws_heldStringS (a0 : List (ByteArray × Unit)) (k1 : Int) : Option (Int × Unit) :=
  outK (loopV laws_heldStringS_r0 (a0, k1, (0 : Int), ())) (fun y1 =>
    some (y1.1, ())) (fun y2 =>
    some (y2.1, ()))
noncomputable def x61 (x : (List (ByteArray × Unit)) × Int × Unit) : Option (Int × Unit) := laws_heldStringS x.1 x.2.1
noncomputable def sem61 : Sem1 := semOf ps61 rs61 x61
theorem so61 : SemsOk Try.prog (semsOf sl61) := sems_cons k102 (sems_nil)
noncomputable def b61_0 : Code := nthLoop code61 0
theorem t61_r0_eq (x : denR (headRT hp61_0)) : codeK (tabOf tr) (semsOf sl61) D61 L61 b61_0 (headSt hp61_0 x) (roundK 0 hp61_0 e61_0 q61_0) = laws_heldStringS_r0 x := by kernel_rfl
theorem loop61_0 {R : Type} (r : R) (w0 : World) (mu : Mu) (hs : AnShape ps61 mu) : LoopAt Try.prog w0 mu 22 (L61 : Loops R) r 0 b61_0 :=
  loop_auto tr_ok eq_ok mixed_ok so61 (D := D61) hs (by kernel_rfl) (fun _ => (loops_of (l := []) (by kernel_rfl) (List.forall_mem_nil _))) t61_r0_eq (fun _ _ => rfl)
theorem t61_eq (x : denR (headRT (ps61.map some))) : codeK (tabOf tr) (semsOf sl61) D61 L61 code61 (start 22 ps61 x) (finK rs61 ps61) = x61 x := by kernel_rfl
theorem k61 : Known Try.prog 61 sem61 :=
  fn_auto tr_ok eq_ok mixed_ok so61 (D := D61) (code := code61) (n := 22) Try.func61 (by kernel_rfl) (by kernel_rfl) (by kernel_rfl) (fun w0 mu _ hs => (loops_of (l := [(0, b61_0)]) (by kernel_rfl) (List.forall_mem_cons.2 ⟨loop61_0 _ w0 mu hs, (List.forall_mem_nil _)⟩))) t61_eq

/-! ### f9: laws.FnExactJoin -/
noncomputable def code9 : Code := match Try.f9.body with | some c => c | none => .skip
def ps9 : List AP := [.val false [.shr (.cons .str .nil)]]
def rs9 : List RP := [{ src := .tmp 2, agg := false, ps := [.bool] }]
noncomputable def sl9 : SemL := [(52, (.shr, .shr, .shr, sem52)), (54, (.shr, .shr, .shr, sem54)), (60, (.shr, .shr, .shr, sem60)), (51, (.shr, .shr, .shr, sem51)), (56, (.shr, .shr, .shr, sem56)), (58, (.io, .shr, .shr, sem58)), (61, (.shr, .shr, .shr, sem61))]
def D9 : Draws := fun _ => .nil
noncomputable def L9 {R : Type} : Loops R := fun _ _ _ _ => none
noncomputable def laws_FnExactJoin (aList0 : List (ByteArray × Unit)) : Option (Bool × Unit) :=
  Option.bind (laws_szStringS aList0 (1048576 : Int)) fun y1 =>
  bif decide (y1.1 < (0 : Int)) then
    some (true, ())
  else
    Option.bind (laws_toStringS aList0) fun y2 =>
    Option.bind (spec_Join y2.1) fun y3 =>
    Option.bind (laws_toStringS aList0) fun y4 =>
    Option.bind (impl_Join y4.1) fun y5 =>
    Option.bind (laws_eqStringS y5.1 y3.1) fun y6 =>
    bif !y6.1 then
      some (false, ())
    else
      Option.bind (laws_toStringS aList0) fun y7 =>
      Option.bind (laws_eqStringS y4.1 y7.1) fun y8 =>
      bif !y8.1 then
        some (false, ())
      else
        Option.bind (laws_markStringS y4.1 (1 : Int)) fun y9 =>
        bif decide (y9.1 < (0 : Int)) then
          some (false, ())
        else
          Option.bind (laws_eqStringS y5.1 y3.1) fun y10 =>
          bif !y10.1 then
            some (false, ())
          else
            Option.bind (laws_markStringS y5.1 (1 : Int)) fun y11 =>
            Option.bind (laws_heldStringS y11.2.1 (1 : Int)) fun y12 =>
            bif decide (y12.1 < (0 : Int)) then
              some (false, ())
            else bif !decide (y12.1 = y11.1) then
              some (false, ())
            else
              Option.bind (laws_toStringS aList0) fun y13 =>
              Option.bind (impl_Join y13.1) fun y14 =>
              Option.bind (laws_eqStringS y14.1 y3.1) fun y15 =>
              bif !y15.1 then
                some (false, ())
              else
                Option.bind (laws_heldStringS y11.2.1 (1 : Int)) fun y16 =>
                bif decide (y16.1 < (0 : Int)) then
                  some (false, ())
                else bif !decide (y16.1 = y11.1) then
                  some (false, ())
                else
                  some (true, ())
noncomputable def x9 (x : (List (ByteArray × Unit)) × Unit) : Option (Bool × Unit) := laws_FnExactJoin x.1
noncomputable def sem9 : Sem1 := semOf ps9 rs9 x9
theorem so9 : SemsOk Try.prog (semsOf sl9) := sems_cons k52 (sems_cons k54 (sems_cons k60 (sems_cons k51 (sems_cons k56 (sems_cons k58 (sems_cons k61 (sems_nil)))))))
theorem t9_eq (x : denR (headRT (ps9.map some))) : codeK (tabOf tr) (semsOf sl9) D9 L9 code9 (start 69 ps9 x) (finK rs9 ps9) = x9 x := by kernel_rfl
theorem k9 : Known Try.prog 9 sem9 :=
  fn_auto tr_ok eq_ok mixed_ok so9 (D := D9) (code := code9) (n := 69) Try.func9 (by kernel_rfl) (by kernel_rfl) (by kernel_rfl) (fun w0 mu _ hs => (loops_of (l := []) (by kernel_rfl) (List.forall_mem_nil _))) t9_eq

/-! ### f62: laws.szPile -/
noncomputable def code62 : Code := match Try.f62.body with | some c => c | none => .skip
def ps62 : List AP := [.val true [.int .i64, .int .i64, .shr (.cons .str .nil)], .val false [.int .i64]]
def rs62 : List RP := [{ src := .tmp 4, agg := false, ps := [.int .i64] }]
noncomputable def sl62 : SemL := [(52, (.shr, .shr, .shr, sem52))]
def D62 : Draws := fun _ => .nil
noncomputable def L62 {R : Type} : Loops R := fun _ _ _ _ => none
noncomputable def laws_szPile (a0c0 : Int) (a0c1 : Int) (a0c2 : List (ByteArray × Unit)) (left1 : Int) : Option (Int × Unit) :=
  Option.bind (laws_szStringS a0c2 left1) fun y1 =>
  bif decide (y1.1 < (0 : Int)) then
    some ((-1 : Int), ())
  else
    some (y1.1, ())
noncomputable def x62 (x : Int × Int × (List (ByteArray × Unit)) × Int × Unit) : Option (Int × Unit) := laws_szPile x.1 x.2.1 x.2.2.1 x.2.2.2.1
noncomputable def sem62 : Sem1 := semOf ps62 rs62 x62
theorem so62 : SemsOk Try.prog (semsOf sl62) := sems_cons k52 (sems_nil)
theorem t62_eq (x : denR (headRT (ps62.map some))) : codeK (tabOf tr) (semsOf sl62) D62 L62 code62 (start 12 ps62 x) (finK rs62 ps62) = x62 x := by kernel_rfl
theorem k62 : Known Try.prog 62 sem62 :=
  fn_auto tr_ok eq_ok mixed_ok so62 (D := D62) (code := code62) (n := 12) Try.func62 (by kernel_rfl) (by kernel_rfl) (by kernel_rfl) (fun w0 mu _ hs => (loops_of (l := []) (by kernel_rfl) (List.forall_mem_nil _))) t62_eq

/-! ### f64: laws.toPile -/
noncomputable def code64 : Code := match Try.f64.body with | some c => c | none => .skip
def ps64 : List AP := [.val true [.int .i64, .int .i64, .shr (.cons .str .nil)]]
def rs64 : List RP := [{ src := .cell 2, agg := true, ps := [.int .i64, .int .i64, .own (.cons .str .nil)] }]
noncomputable def sl64 : SemL := [(54, (.shr, .shr, .shr, sem54))]
def D64 : Draws := fun _ => .nil
noncomputable def L64 {R : Type} : Loops R := fun _ _ _ _ => none
noncomputable def laws_toPile (a0c0 : Int) (a0c1 : Int) (a0c2 : List (ByteArray × Unit)) : Option (Int × Int × (List (ByteArray × Unit)) × Unit) :=
  Option.bind (laws_toStringS a0c2) fun y1 =>
  some (a0c0, a0c1, y1.1, ())
noncomputable def x64 (x : Int × Int × (List (ByteArray × Unit)) × Unit) : Option (Int × Int × (List (ByteArray × Unit)) × Unit) := laws_toPile x.1 x.2.1 x.2.2.1
noncomputable def sem64 : Sem1 := semOf ps64 rs64 x64
theorem so64 : SemsOk Try.prog (semsOf sl64) := sems_cons k54 (sems_nil)
theorem t64_eq (x : denR (headRT (ps64.map some))) : codeK (tabOf tr) (semsOf sl64) D64 L64 code64 (start 15 ps64 x) (finK rs64 ps64) = x64 x := by kernel_rfl
theorem k64 : Known Try.prog 64 sem64 :=
  fn_auto tr_ok eq_ok mixed_ok so64 (D := D64) (code := code64) (n := 15) Try.func64 (by kernel_rfl) (by kernel_rfl) (by kernel_rfl) (fun w0 mu _ hs => (loops_of (l := []) (by kernel_rfl) (List.forall_mem_nil _))) t64_eq

/-! ### f66: laws.eqPile -/
noncomputable def code66 : Code := match Try.f66.body with | some c => c | none => .skip
def ps66 : List AP := [.val true [.int .i64, .int .i64, .shr (.cons .str .nil)], .val true [.int .i64, .int .i64, .shr (.cons .str .nil)]]
def rs66 : List RP := [{ src := .tmp 4, agg := false, ps := [.bool] }]
noncomputable def sl66 : SemL := [(56, (.shr, .shr, .shr, sem56))]
def D66 : Draws := fun _ => .nil
noncomputable def L66 {R : Type} : Loops R := fun _ _ _ _ => none
noncomputable def laws_eqPile (a0c0 : Int) (a0c1 : Int) (a0c2 : List (ByteArray × Unit)) (b1c0 : Int) (b1c1 : Int) (b1c2 : List (ByteArray × Unit)) : Option (Bool × Unit) :=
  bif !decide (a0c0 = b1c0) then
    some (false, ())
  else bif !decide (a0c1 = b1c1) then
    some (false, ())
  else
    Option.bind (laws_eqStringS a0c2 b1c2) fun y1 =>
    bif !y1.1 then
      some (false, ())
    else
      some (true, ())
noncomputable def x66 (x : Int × Int × (List (ByteArray × Unit)) × Int × Int × (List (ByteArray × Unit)) × Unit) : Option (Bool × Unit) := laws_eqPile x.1 x.2.1 x.2.2.1 x.2.2.2.1 x.2.2.2.2.1 x.2.2.2.2.2.1
noncomputable def sem66 : Sem1 := semOf ps66 rs66 x66
theorem so66 : SemsOk Try.prog (semsOf sl66) := sems_cons k56 (sems_nil)
theorem t66_eq (x : denR (headRT (ps66.map some))) : codeK (tabOf tr) (semsOf sl66) D66 L66 code66 (start 21 ps66 x) (finK rs66 ps66) = x66 x := by kernel_rfl
theorem k66 : Known Try.prog 66 sem66 :=
  fn_auto tr_ok eq_ok mixed_ok so66 (D := D66) (code := code66) (n := 21) Try.func66 (by kernel_rfl) (by kernel_rfl) (by kernel_rfl) (fun w0 mu _ hs => (loops_of (l := []) (by kernel_rfl) (List.forall_mem_nil _))) t66_eq

/-! ### f67: laws.markPile -/
noncomputable def code67 : Code := match Try.f67.body with | some c => c | none => .skip
def ps67 : List AP := [.lend [.int .i64, .int .i64, .own (.cons .str .nil)], .val false [.int .i64]]
def rs67 : List RP := [{ src := .tmp 4, agg := false, ps := [.int .i64] }]
noncomputable def sl67 : SemL := [(58, (.io, .shr, .shr, sem58))]
def D67 : Draws := fun _ => .nil
noncomputable def L67 {R : Type} : Loops R := fun _ _ _ _ => none
noncomputable def laws_markPile (a0c0 : Int) (a0c1 : Int) (a0c2 : List (ByteArray × Unit)) (k1 : Int) : Option (Int × (List (ByteArray × Unit)) × Unit) :=
  Option.bind (laws_markStringS a0c2 k1) fun y1 =>
  some (y1.1, y1.2.1, ())
noncomputable def x67 (x : Int × Int × (List (ByteArray × Unit)) × Int × Unit) : Option (Int × (List (ByteArray × Unit)) × Unit) := laws_markPile x.1 x.2.1 x.2.2.1 x.2.2.2.1
noncomputable def sem67 : Sem1 := semOf ps67 rs67 x67
theorem so67 : SemsOk Try.prog (semsOf sl67) := sems_cons k58 (sems_nil)
theorem t67_eq (x : denR (headRT (ps67.map some))) : codeK (tabOf tr) (semsOf sl67) D67 L67 code67 (start 10 ps67 x) (finK rs67 ps67) = x67 x := by kernel_rfl
theorem k67 : Known Try.prog 67 sem67 :=
  fn_auto tr_ok eq_ok mixed_ok so67 (D := D67) (code := code67) (n := 10) Try.func67 (by kernel_rfl) (by kernel_rfl) (by kernel_rfl) (fun w0 mu _ hs => (loops_of (l := []) (by kernel_rfl) (List.forall_mem_nil _))) t67_eq

/-! ### f68: laws.heldPile -/
noncomputable def code68 : Code := match Try.f68.body with | some c => c | none => .skip
def ps68 : List AP := [.val true [.int .i64, .int .i64, .shr (.cons .str .nil)], .val false [.int .i64]]
def rs68 : List RP := [{ src := .tmp 4, agg := false, ps := [.int .i64] }]
noncomputable def sl68 : SemL := [(61, (.shr, .shr, .shr, sem61))]
def D68 : Draws := fun _ => .nil
noncomputable def L68 {R : Type} : Loops R := fun _ _ _ _ => none
noncomputable def laws_heldPile (a0c0 : Int) (a0c1 : Int) (a0c2 : List (ByteArray × Unit)) (k1 : Int) : Option (Int × Unit) :=
  Option.bind (laws_heldStringS a0c2 k1) fun y1 =>
  bif decide (y1.1 < (0 : Int)) then
    some ((-1 : Int), ())
  else
    some (y1.1, ())
noncomputable def x68 (x : Int × Int × (List (ByteArray × Unit)) × Int × Unit) : Option (Int × Unit) := laws_heldPile x.1 x.2.1 x.2.2.1 x.2.2.2.1
noncomputable def sem68 : Sem1 := semOf ps68 rs68 x68
theorem so68 : SemsOk Try.prog (semsOf sl68) := sems_cons k61 (sems_nil)
theorem t68_eq (x : denR (headRT (ps68.map some))) : codeK (tabOf tr) (semsOf sl68) D68 L68 code68 (start 12 ps68 x) (finK rs68 ps68) = x68 x := by kernel_rfl
theorem k68 : Known Try.prog 68 sem68 :=
  fn_auto tr_ok eq_ok mixed_ok so68 (D := D68) (code := code68) (n := 12) Try.func68 (by kernel_rfl) (by kernel_rfl) (by kernel_rfl) (fun w0 mu _ hs => (loops_of (l := []) (by kernel_rfl) (List.forall_mem_nil _))) t68_eq

/-! ### f10: laws.FnExactAddPiece -/
noncomputable def code10 : Code := match Try.f10.body with | some c => c | none => .skip
def ps10 : List AP := [.val true [.int .i64, .int .i64, .shr (.cons .str .nil)], .val false [.str]]
def rs10 : List RP := [{ src := .tmp 4, agg := false, ps := [.bool] }]
noncomputable def sl10 : SemL := [(62, (.shr, .shr, .shr, sem62)), (64, (.shr, .shr, .shr, sem64)), (63, (.shr, .shr, .shr, sem63)), (65, (.shr, .shr, .shr, sem65)), (66, (.shr, .shr, .shr, sem66)), (67, (.lend, .shr, .shr, sem67)), (68, (.shr, .shr, .shr, sem68))]
def D10 : Draws := fun id => bif Nat.beq id 12 then .op 0 .take (.op 1 .take (.op 2 .one (.op 3 .one (.op 4 .any (.nil))))) else .nil
noncomputable def L10 {R : Type} : Loops R := fun _ _ _ _ => none
noncomputable def laws_FnExactAddPiece (aP0c0 : Int) (aP0c1 : Int) (aP0c2 : List (ByteArray × Unit)) (aText1 : ByteArray) : Option (Bool × Unit) :=
  bif decide ((1048576 : Int) < ((ByteArray.size aText1 : Nat) : Int)) then
    some (true, ())
  else
    Option.bind (laws_szPile aP0c0 aP0c1 aP0c2 (1048576 : Int)) fun y1 =>
    bif decide (y1.1 < (0 : Int)) then
      some (true, ())
    else
      Option.bind (laws_toPile aP0c0 aP0c1 aP0c2) fun y2 =>
      Option.bind (spec_AddPiece y2.1 y2.2.1 y2.2.2.1 aText1) fun y3 =>
      Option.bind (laws_toPile aP0c0 aP0c1 aP0c2) fun y4 =>
      Option.bind (impl_AddPiece y4.1 y4.2.1 y4.2.2.1 aText1) fun y5 =>
      Option.bind (laws_eqPile y5.1 y5.2.1 y5.2.2.1 y3.1 y3.2.1 y3.2.2.1) fun y6 =>
      bif !y6.1 then
        some (false, ())
      else bif !strEq y5.2.2.2.1 y3.2.2.2.1 then
        some (false, ())
      else bif !(y5.2.2.2.2.1 == y3.2.2.2.2.1) then
        some (false, ())
      else
        Option.bind (laws_toPile aP0c0 aP0c1 aP0c2) fun y7 =>
        Option.bind (laws_eqPile y4.1 y4.2.1 y4.2.2.1 y7.1 y7.2.1 y7.2.2.1) fun y8 =>
        bif !y8.1 then
          some (false, ())
        else
          Option.bind (laws_markPile y4.1 y4.2.1 y4.2.2.1 (1 : Int)) fun y9 =>
          bif decide (y9.1 < (0 : Int)) then
            some (false, ())
          else
            Option.bind (laws_eqPile y5.1 y5.2.1 y5.2.2.1 y3.1 y3.2.1 y3.2.2.1) fun y10 =>
            bif !y10.1 then
              some (false, ())
            else bif !strEq y5.2.2.2.1 y3.2.2.2.1 then
              some (false, ())
            else bif !(y5.2.2.2.2.1 == y3.2.2.2.2.1) then
              some (false, ())
            else
              Option.bind (laws_markPile y5.1 y5.2.1 y5.2.2.1 (1 : Int)) fun y11 =>
              Option.bind (laws_heldPile y5.1 y5.2.1 y11.2.1 (1 : Int)) fun y12 =>
              bif decide (y12.1 < (0 : Int)) then
                some (false, ())
              else bif !decide (y12.1 = y11.1) then
                some (false, ())
              else
                Option.bind (laws_toPile aP0c0 aP0c1 aP0c2) fun y13 =>
                Option.bind (impl_AddPiece y13.1 y13.2.1 y13.2.2.1 aText1) fun y14 =>
                Option.bind (laws_eqPile y14.1 y14.2.1 y14.2.2.1 y3.1 y3.2.1 y3.2.2.1) fun y15 =>
                bif !y15.1 then
                  some (false, ())
                else bif !strEq y14.2.2.2.1 y3.2.2.2.1 then
                  some (false, ())
                else bif !(y14.2.2.2.2.1 == y3.2.2.2.2.1) then
                  some (false, ())
                else
                  Option.bind (laws_heldPile y5.1 y5.2.1 y11.2.1 (1 : Int)) fun y16 =>
                  bif decide (y16.1 < (0 : Int)) then
                    some (false, ())
                  else bif !decide (y16.1 = y11.1) then
                    some (false, ())
                  else
                    some (true, ())
noncomputable def x10 (x : Int × Int × (List (ByteArray × Unit)) × ByteArray × Unit) : Option (Bool × Unit) := laws_FnExactAddPiece x.1 x.2.1 x.2.2.1 x.2.2.2.1
noncomputable def sem10 : Sem1 := semOf ps10 rs10 x10
theorem so10 : SemsOk Try.prog (semsOf sl10) := sems_cons k62 (sems_cons k64 (sems_cons k63 (sems_cons k65 (sems_cons k66 (sems_cons k67 (sems_cons k68 (sems_nil)))))))
theorem t10_eq (x : denR (headRT (ps10.map some))) : codeK (tabOf tr) (semsOf sl10) D10 L10 code10 (start 125 ps10 x) (finK rs10 ps10) = x10 x := by kernel_rfl
theorem k10 : Known Try.prog 10 sem10 :=
  fn_auto tr_ok eq_ok mixed_ok so10 (D := D10) (code := code10) (n := 125) Try.func10 (by kernel_rfl) (by kernel_rfl) (by kernel_rfl) (fun w0 mu _ hs => (loops_of (l := []) (by kernel_rfl) (List.forall_mem_nil _))) t10_eq

/-! ### f156: spec.l02Spoilt -/
noncomputable def code156 : Code := match Try.f156.body with | some c => c | none => .skip
def ps156 : List AP := [.box true [.shr (.cons (.int .u8) .nil), .int .i64, .int .i64], .val false [.str]]
def rs156 : List RP := [{ src := .tmp 4, agg := false, ps := [.str] }]
noncomputable def sl156 : SemL := [(87, (.shr, .shr, .shr, sem87)), (152, (.shr, .shr, .shr, sem152))]
def D156 : Draws := fun id => bif Nat.beq id 10 then .op 0 .any (.op 1 .any (.op 2 .any (.op 3 .any (.op 6 .any (.op 7 .any (.op 8 .any (.op 9 .any (.op 4 .last (.op 5 .any (.op 10 .any (.op 11 .any (.nil)))))))))))) else .nil
noncomputable def L156 {R : Type} : Loops R := fun _ _ _ _ => none
noncomputable def spec_l02Spoilt (c0c0 : List (Int × Unit)) (c0c1 : Int) (c0c2 : Int) (s1 : ByteArray) : Option (ByteArray × (List (Int × Unit)) × Int × Int × Unit) :=
  Option.bind (spec_l01Below c0c0 c0c1 c0c2 (12 : Int)) fun y1 =>
  bif decide (y1.1 = (0 : Int)) then
    Option.bind (spec_l01Text y1.2.1 y1.2.2.1 y1.2.2.2.1 (1 : Int)) fun y2 =>
    bif Nat.ble ((ByteArray.size s1) + (ByteArray.size y2.1)) lim then some (s1 ++ y2.1, y2.2.1, y2.2.2.1, y2.2.2.2.1, ())
    else none
  else bif decide (y1.1 = (1 : Int)) then
    Option.bind (spec_l01Below y1.2.1 y1.2.2.1 y1.2.2.2.1 (IntKind.i64.wrap (((ByteArray.size s1 : Nat) : Int) + (1 : Int)))) fun y3 =>
    bif decide ((0 : Int) ≤ y3.1) then bif decide (y3.1 ≤ ((ByteArray.size s1 : Nat) : Int)) then some (ByteArray.extract s1 0 (Int.toNat y3.1), y3.2.1, y3.2.2.1, y3.2.2.2.1, ())
      else none
    else none
  else bif decide (y1.1 = (2 : Int)) then
    bif decide ((0 : Int) < ((ByteArray.size s1 : Nat) : Int)) then
      Option.bind (spec_l01Below y1.2.1 y1.2.2.1 y1.2.2.2.1 ((ByteArray.size s1 : Nat) : Int)) fun y4 =>
      bif decide ((0 : Int) ≤ y4.1) then bif decide (y4.1 ≤ ((ByteArray.size s1 : Nat) : Int)) then bif decide ((0 : Int) ≤ IntKind.i64.wrap (y4.1 + (1 : Int))) then bif decide (IntKind.i64.wrap (y4.1 + (1 : Int)) ≤ ((ByteArray.size s1 : Nat) : Int)) then Option.bind (spec_l01Text y4.2.1 y4.2.2.1 y4.2.2.2.1 (1 : Int)) fun y5 =>
              bif Nat.ble ((ByteArray.size (ByteArray.extract s1 0 (Int.toNat y4.1))) + (ByteArray.size y5.1)) lim then bif Nat.ble ((ByteArray.size ((ByteArray.extract s1 0 (Int.toNat y4.1)) ++ y5.1)) + (ByteArray.size (ByteArray.extract s1 (Int.toNat (IntKind.i64.wrap (y4.1 + (1 : Int)))) (ByteArray.size s1)))) lim then some (((ByteArray.extract s1 0 (Int.toNat y4.1)) ++ y5.1) ++ (ByteArray.extract s1 (Int.toNat (IntKind.i64.wrap (y4.1 + (1 : Int)))) (ByteArray.size s1)), y5.2.1, y5.2.2.1, y5.2.2.2.1, ())
                else none
              else none
            else none
          else none
        else none
      else none
    else
      some (s1, y1.2.1, y1.2.2.1, y1.2.2.2.1, ())
  else bif decide (y1.1 = (3 : Int)) then
    bif decide ((0 : Int) < ((ByteArray.size s1 : Nat) : Int)) then
      Option.bind (spec_l01Below y1.2.1 y1.2.2.1 y1.2.2.2.1 ((ByteArray.size s1 : Nat) : Int)) fun y6 =>
      bif decide ((0 : Int) ≤ y6.1) then bif decide (y6.1 ≤ ((ByteArray.size s1 : Nat) : Int)) then bif decide ((0 : Int) ≤ IntKind.i64.wrap (y6.1 + (1 : Int))) then bif decide (IntKind.i64.wrap (y6.1 + (1 : Int)) ≤ ((ByteArray.size s1 : Nat) : Int)) then Option.bind (spec_l01Text y6.2.1 y6.2.2.1 y6.2.2.2.1 (1 : Int)) fun y7 =>
              bif Nat.ble ((ByteArray.size (ByteArray.extract s1 0 (Int.toNat y6.1))) + (ByteArray.size y7.1)) lim then bif Nat.ble ((ByteArray.size ((ByteArray.extract s1 0 (Int.toNat y6.1)) ++ y7.1)) + (ByteArray.size (ByteArray.extract s1 (Int.toNat (IntKind.i64.wrap (y6.1 + (1 : Int)))) (ByteArray.size s1)))) lim then some (((ByteArray.extract s1 0 (Int.toNat y6.1)) ++ y7.1) ++ (ByteArray.extract s1 (Int.toNat (IntKind.i64.wrap (y6.1 + (1 : Int)))) (ByteArray.size s1)), y7.2.1, y7.2.2.1, y7.2.2.2.1, ())
                else none
              else none
            else none
          else none
        else none
      else none
    else
      some (s1, y1.2.1, y1.2.2.1, y1.2.2.2.1, ())
  else
    some (s1, y1.2.1, y1.2.2.1, y1.2.2.2.1, ())
noncomputable def x156 (x : (List (Int × Unit)) × Int × Int × ByteArray × Unit) : Option (ByteArray × (List (Int × Unit)) × Int × Int × Unit) := spec_l02Spoilt x.1 x.2.1 x.2.2.1 x.2.2.2.1
noncomputable def sem156 : Sem1 := semOf ps156 rs156 x156
theorem so156 : SemsOk Try.prog (semsOf sl156) := sems_cons k87 (sems_cons k152 (sems_nil))
theorem t156_eq (x : denR (headRT (ps156.map some))) : codeK (tabOf tr) (semsOf sl156) D156 L156 code156 (start 45 ps156 x) (finK rs156 ps156) = x156 x := by kernel_rfl
theorem k156 : Known Try.prog 156 sem156 :=
  fn_auto tr_ok eq_ok mixed_ok so156 (D := D156) (code := code156) (n := 45) Try.func156 (by kernel_rfl) (by kernel_rfl) (by kernel_rfl) (fun w0 mu _ hs => (loops_of (l := []) (by kernel_rfl) (List.forall_mem_nil _))) t156_eq

/-! ### f131: spec.l12Stream -/
noncomputable def code131 : Code := match Try.f131.body with | some c => c | none => .skip
def ps131 : List AP := [.box true [.shr (.cons (.int .u8) .nil), .int .i64, .int .i64]]
def rs131 : List RP := [{ src := .tmp 2, agg := false, ps := [.own (.cons .str .nil)] }]
noncomputable def sl131 : SemL := [(87, (.shr, .shr, .shr, sem87)), (121, (.shr, .shr, .shr, sem121)), (48, (.shr, .shr, .shr, sem48)), (86, (.shr, .shr, .shr, sem86)), (156, (.shr, .shr, .shr, sem156))]
def D131 : Draws := fun id => bif Nat.beq id 12 then .op 1 .any (.op 2 .any (.op 3 .any (.op 5 .any (.op 6 .any (.op 7 .any (.op 8 .any (.op 0 .one (.op 4 .last (.op 9 .last (.op 10 .any (.nil))))))))))) else .nil
def hp131_0 : List (Option AP) := [some (.box true [.shr (.cons (.int .u8) .nil), .int .i64, .int .i64]), none, none, some (.val false [.own (.cons .str .nil)]), some (.val false [.int .i64]), none, none, none, none, none, none, none, none, none, none, none, none, none, none, none, none, none, none, none, none, none, none, none, none, none, none, none, none, none, none, none, none, none, none, none, none, none, none, none, none, none, none, none, none, none, none, none, none, none, none, none, none, none, none, none, none, none, none, none, none, none, none, none, none, none]
def e131_0 : List (Option AP) := [some (.box true [.shr (.cons (.int .u8) .nil), .int .i64, .int .i64]), none, none, some (.val false [.own (.cons .str .nil)]), none, none, none, none, none, none, none, none, none, none, none, none, none, none, none, none, none, none, none, none, none, none, none, none, none, none, none, none, none, none, none, none, none, none, none, none, none, none, none, none, none, none, none, none, none, none, none, none, none, none, none, none, none, none, none, none, none, none, none, none, none, none, none, none, none, none]
def q131_0 : List (Option AP) := [none, none, none, none, none, none, none, none, none, none, none, none, none, none, none, none, none, none, none, none, none, none, none, none, none, none, none, none, none, none, none, none, none, none, none, none, none, none, none, none, none, none, none, none, none, none, none, none, none, none, none, none, none, none, none, none, none, none, none, none, none, none, none, none, none, none, none, none, none, none]
abbrev H131_0 : Type := (List (Int × Unit)) × Int × Int × (List (ByteArray × Unit)) × Int × Unit
abbrev E131_0 : Type := (List (Int × Unit)) × Int × Int × (List (ByteArray × Unit)) × Unit
abbrev Q131_0 : Type := Unit
noncomputable def spec_l12Stream_c0 (c0c0 : List (Int × Unit)) (c0c1 : Int) (c0c2 : Int) (out3 : List (ByteArray × Unit)) (i4 : Int) : Option (Sum H131_0 (Sum E131_0 Q131_0)) :=
  Option.bind (spec_l01Below c0c0 c0c1 c0c2 (4 : Int)) fun y1 =>
  bif decide (i4 < y1.1) then
    Option.bind (spec_l01Below y1.2.1 y1.2.2.1 y1.2.2.2.1 (9 : Int)) fun y2 =>
    Option.bind (spec_l12Long y2.2.1 y2.2.2.1 y2.2.2.2.1) fun y3 =>
    Option.bind (spec_Pieces y2.1 y3.1) fun y4 =>
    bif Nat.ble (((List.length out3) + (List.length y4.1)) * 16) lim then some (.inl (y3.2.1, y3.2.2.1, y3.2.2.2.1, out3 ++ y4.1, IntKind.i64.wrap (i4 + (1 : Int)), ()))
    else none
  else
    some (.inr (.inl (y1.2.1, y1.2.2.1, y1.2.2.2.1, out3, ())))
noncomputable def spec_l12Stream_r0 (x : H131_0) : Option (Sum H131_0 (Sum E131_0 Q131_0)) := spec_l12Stream_c0 x.1 x.2.1 x.2.2.1 x.2.2.2.1 x.2.2.2.2.1
noncomputable def L131 {R : Type} : Loops R := fun id _ st k => bif Nat.beq id 0 then loopAt hp131_0 e131_0 q131_0 spec_l12Stream_r0 st k else none
noncomputable def spec_l12Stream (c0c0 : List (Int × Unit)) (c0c1 : Int) (c0c2 : Int) : Option ((List (ByteArray × Unit)) × (List (Int × Unit)) × Int × Int × Unit) :=
  outK (loopV spec_l12Stream_r0 (c0c0, c0c1, c0c2, [], (0 : Int), ())) (fun y1 =>
    bif decide ((0 : Int) < ((List.length y1.2.2.2.1 : Nat) : Int)) then
      Option.bind (spec_l01Once y1.1 y1.2.1 y1.2.2.1 (3 : Int)) fun y3 =>
      bif y3.1 then
        Option.bind (spec_l01Below y3.2.1 y3.2.2.1 y3.2.2.2.1 ((List.length y1.2.2.2.1 : Nat) : Int)) fun y4 =>
        Option.bind (spec_l01Below y4.2.1 y4.2.2.1 y4.2.2.2.1 (3 : Int)) fun y5 =>
        bif decide (y5.1 = (0 : Int)) then
          bif decide ((0 : Int) ≤ y4.1) then bif decide (y4.1 ≤ ((List.length y1.2.2.2.1 : Nat) : Int)) then bif decide ((0 : Int) ≤ IntKind.i64.wrap (y4.1 + (1 : Int))) then bif decide (IntKind.i64.wrap (y4.1 + (1 : Int)) ≤ ((List.length y1.2.2.2.1 : Nat) : Int)) then bif Nat.ble ((0 + (List.length (List.take (Int.toNat y4.1) (List.drop 0 y1.2.2.2.1)))) * 16) lim then bif Nat.ble (((List.length ([] ++ (List.take (Int.toNat y4.1) (List.drop 0 y1.2.2.2.1)))) + (List.length (List.drop (Int.toNat (IntKind.i64.wrap (y4.1 + (1 : Int)))) y1.2.2.2.1))) * 16) lim then some (([] ++ (List.take (Int.toNat y4.1) (List.drop 0 y1.2.2.2.1))) ++ (List.drop (Int.toNat (IntKind.i64.wrap (y4.1 + (1 : Int)))) y1.2.2.2.1), y5.2.1, y5.2.2.1, y5.2.2.2.1, ())
                    else none
                  else none
                else none
              else none
            else none
          else none
        else bif decide (y5.1 = (1 : Int)) then
          bif decide ((0 : Int) ≤ y4.1) then bif Nat.blt (Int.toNat y4.1) (List.length y1.2.2.2.1) then Option.bind ((y1.2.2.2.1)[Int.toNat y4.1]?) fun r6 =>
              Option.bind (spec_l02Spoilt y5.2.1 y5.2.2.1 y5.2.2.2.1 r6.1) fun y7 =>
              bif decide ((0 : Int) ≤ y4.1) then bif Nat.blt (Int.toNat y4.1) (List.length y1.2.2.2.1) then Option.bind ((y1.2.2.2.1)[Int.toNat y4.1]?) fun r8 =>
                  some (List.set y1.2.2.2.1 (Int.toNat y4.1) (y7.1, ()), y7.2.1, y7.2.2.1, y7.2.2.2.1, ())
                else none
              else none
            else none
          else none
        else bif decide ((0 : Int) ≤ y4.1) then bif Nat.blt (Int.toNat y4.1) (List.length y1.2.2.2.1) then Option.bind ((y1.2.2.2.1)[Int.toNat y4.1]?) fun r9 =>
            bif Nat.ble (((List.length y1.2.2.2.1) + 1) * 16) lim then some (y1.2.2.2.1 ++ [(r9.1, ())], y5.2.1, y5.2.2.1, y5.2.2.2.1, ())
            else none
          else none
        else none
      else
        some (y1.2.2.2.1, y3.2.1, y3.2.2.1, y3.2.2.2.1, ())
    else
      some (y1.2.2.2.1, y1.1, y1.2.1, y1.2.2.1, ())) (fun y2 =>
    none)
noncomputable def x131 (x : (List (Int × Unit)) × Int × Int × Unit) : Option ((List (ByteArray × Unit)) × (List (Int × Unit)) × Int × Int × Unit) := spec_l12Stream x.1 x.2.1 x.2.2.1
noncomputable def sem131 : Sem1 := semOf ps131 rs131 x131
theorem so131 : SemsOk Try.prog (semsOf sl131) := sems_cons k87 (sems_cons k121 (sems_cons k48 (sems_cons k86 (sems_cons k156 (sems_nil)))))
noncomputable def b131_0 : Code := nthLoop code131 0
theorem t131_r0_eq (x : denR (headRT hp131_0)) : codeK (tabOf tr) (semsOf sl131) D131 L131 b131_0 (headSt hp131_0 x) (roundK 0 hp131_0 e131_0 q131_0) = spec_l12Stream_r0 x := by kernel_rfl
theorem loop131_0 {R : Type} (r : R) (w0 : World) (mu : Mu) (hs : AnShape ps131 mu) : LoopAt Try.prog w0 mu 70 (L131 : Loops R) r 0 b131_0 :=
  loop_auto tr_ok eq_ok mixed_ok so131 (D := D131) hs (by kernel_rfl) (fun _ => (loops_of (l := []) (by kernel_rfl) (List.forall_mem_nil _))) t131_r0_eq (fun _ _ => rfl)
theorem t131_eq (x : denR (headRT (ps131.map some))) : codeK (tabOf tr) (semsOf sl131) D131 L131 code131 (start 70 ps131 x) (finK rs131 ps131) = x131 x := by kernel_rfl
theorem k131 : Known Try.prog 131 sem131 :=
  fn_auto tr_ok eq_ok mixed_ok so131 (D := D131) (code := code131) (n := 70) Try.func131 (by kernel_rfl) (by kernel_rfl) (by kernel_rfl) (fun w0 mu _ hs => (loops_of (l := [(0, b131_0)]) (by kernel_rfl) (List.forall_mem_cons.2 ⟨loop131_0 _ w0 mu hs, (List.forall_mem_nil _)⟩))) t131_eq

/-! ### f79: spec.DrawJoin -/
noncomputable def code79 : Code := match Try.f79.body with | some c => c | none => .skip
def ps79 : List AP := [.val false [.shr (.cons (.int .u8) .nil)]]
def rs79 : List RP := [{ src := .tmp 2, agg := false, ps := [.own (.cons .str .nil)] }]
noncomputable def sl79 : SemL := [(84, (.shr, .shr, .shr, sem84)), (131, (.shr, .shr, .shr, sem131))]
def D79 : Draws := fun _ => .nil
noncomputable def L79 {R : Type} : Loops R := fun _ _ _ _ => none
noncomputable def spec_DrawJoin (code0 : List (Int × Unit)) : Option ((List (ByteArray × Unit)) × Unit) :=
  Option.bind (spec_l01New code0) fun y1 =>
  Option.bind (spec_l12Stream y1.1 y1.2.1 y1.2.2.1) fun y2 =>
  some (y2.1, ())
noncomputable def x79 (x : (List (Int × Unit)) × Unit) : Option ((List (ByteArray × Unit)) × Unit) := spec_DrawJoin x.1
noncomputable def sem79 : Sem1 := semOf ps79 rs79 x79
theorem so79 : SemsOk Try.prog (semsOf sl79) := sems_cons k84 (sems_cons k131 (sems_nil))
theorem t79_eq (x : denR (headRT (ps79.map some))) : codeK (tabOf tr) (semsOf sl79) D79 L79 code79 (start 6 ps79 x) (finK rs79 ps79) = x79 x := by kernel_rfl
theorem k79 : Known Try.prog 79 sem79 :=
  fn_auto tr_ok eq_ok mixed_ok so79 (D := D79) (code := code79) (n := 6) Try.func79 (by kernel_rfl) (by kernel_rfl) (by kernel_rfl) (fun w0 mu _ hs => (loops_of (l := []) (by kernel_rfl) (List.forall_mem_nil _))) t79_eq

/-! ### f13: laws.FnPiles -/
noncomputable def code13 : Code := match Try.f13.body with | some c => c | none => .skip
def ps13 : List AP := [.val false [.shr (.cons (.int .u8) .nil)]]
def rs13 : List RP := [{ src := .tmp 2, agg := false, ps := [.bool] }]
noncomputable def sl13 : SemL := [(15, (.shr, .shr, .shr, sem15)), (79, (.shr, .shr, .shr, sem79)), (51, (.shr, .shr, .shr, sem51)), (60, (.shr, .shr, .shr, sem60)), (50, (.shr, .shr, .shr, sem50)), (65, (.shr, .shr, .shr, sem65))]
def D13 : Draws := fun id => bif Nat.beq id 12 then .op 0 .take (.op 1 .any (.op 2 .any (.op 3 .any (.op 4 .take (.alt (.op 5 .one (.op 6 .any (.op 7 .any (.op 8 .any (.op 9 .any (.op 10 .one (.op 11 .last (.op 12 .any (.op 13 .any (.nil)))))))))) (.op 10 .one (.op 5 .one (.op 6 .any (.op 7 .any (.op 8 .any (.op 9 .any (.op 11 .last (.op 12 .any (.op 13 .any (.nil))))))))))))))) else .nil
def hp13_0 : List (Option AP) := [none, none, none, some (.val false [.own (.cons .str .nil)]), some (.val false [.own (.cons .str .nil)]), some (.box false [.int .i64, .int .i64, .own (.cons .str .nil)]), some (.val false [.int .i64]), some (.val false [.int .i64]), none, none, none, none, none, none, none, none, none, none, none, none, none, none, none, none, none, none, none, none, none, none, none, none, none, none, none, none, none, none, none, none, none, none, none, none, none, none, none, none, none, none, none, none, none, none, none, none, none, none, none, none, none, none, none, none, none, none, none, none, none]
def e13_0 : List (Option AP) := [none, none, none, none, some (.val false [.own (.cons .str .nil)]), none, some (.val false [.int .i64]), none, none, none, none, none, none, none, none, none, none, none, none, none, none, none, none, none, none, none, none, none, none, none, none, none, none, none, none, none, none, none, none, none, none, none, none, none, none, none, none, none, none, none, none, none, none, none, none, none, none, none, none, none, none, none, none, none, none, none, none, none, none]
def q13_0 : List (Option AP) := [none, none, some (.val false [.bool]), none, none, none, none, none, none, none, none, none, none, none, none, none, none, none, none, none, none, none, none, none, none, none, none, none, none, none, none, none, none, none, none, none, none, none, none, none, none, none, none, none, none, none, none, none, none, none, none, none, none, none, none, none, none, none, none, none, none, none, none, none, none, none, none, none, none]
abbrev H13_0 : Type := (List (ByteArray × Unit)) × (List (ByteArray × Unit)) × Int × Int × (List (ByteArray × Unit)) × Int × Int × Unit
abbrev E13_0 : Type := (List (ByteArray × Unit)) × Int × Unit
abbrev Q13_0 : Type := Bool × Unit
noncomputable def laws_FnPiles_c0 (list3 : List (ByteArray × Unit)) (out4 : List (ByteArray × Unit)) (p5c0 : Int) (p5c1 : Int) (p5c2 : List (ByteArray × Unit)) (n6 : Int) (i7 : Int) : Option (Sum H13_0 (Sum E13_0 Q13_0)) :=
  bif decide (i7 < ((List.length list3 : Nat) : Int)) then
    bif decide ((0 : Int) ≤ i7) then bif Nat.blt (Int.toNat i7) (List.length list3) then Option.bind ((list3)[Int.toNat i7]?) fun r6 =>
        Option.bind (impl_AddPiece p5c0 p5c1 p5c2 r6.1) fun y7 =>
        bif y7.2.2.2.2.1 then
          bif !decide (((List.length y7.2.2.1 : Nat) : Int) = (0 : Int)) then
            some (.inr (.inr (false, ())))
          else bif decide ((0 : Int) < ((List.length y7.2.2.1 : Nat) : Int)) then
            bif decide (y7.2.1 ≤ ((List.length y7.2.2.1 : Nat) : Int)) then
              some (.inr (.inr (false, ())))
            else
              some (.inl (list3, out4, y7.1, y7.2.1, y7.2.2.1, IntKind.i64.wrap (n6 + (1 : Int)), IntKind.i64.wrap (i7 + (1 : Int)), ()))
          else
            some (.inl (list3, out4, y7.1, y7.2.1, y7.2.2.1, IntKind.i64.wrap (n6 + (1 : Int)), IntKind.i64.wrap (i7 + (1 : Int)), ()))
        else bif decide ((0 : Int) < ((List.length y7.2.2.1 : Nat) : Int)) then
          bif decide (y7.2.1 ≤ ((List.length y7.2.2.1 : Nat) : Int)) then
            some (.inr (.inr (false, ())))
          else
            some (.inl (list3, out4, y7.1, y7.2.1, y7.2.2.1, n6, IntKind.i64.wrap (i7 + (1 : Int)), ()))
        else
          some (.inl (list3, out4, y7.1, y7.2.1, y7.2.2.1, n6, IntKind.i64.wrap (i7 + (1 : Int)), ()))
      else none
    else none
  else
    some (.inr (.inl (out4, n6, ())))
noncomputable def laws_FnPiles_o0 (list3 : List (ByteArray × Unit)) (out4 : List (ByteArray × Unit)) (p5c0 : Int) (p5c1 : Int) (p5c2 : List (ByteArray × Unit)) (n6 : Int) (i7 : Int) : Option (Sum H13_0 (Sum E13_0 Q13_0)) :=
  bif decide (i7 < ((List.length list3 : Nat) : Int)) then
    bif decide ((0 : Int) ≤ i7) then bif Nat.blt (Int.toNat i7) (List.length list3) then Option.bind ((list3)[Int.toNat i7]?) fun r6 =>
        both (Option.bind (impl_AddPiece p5c0 p5c1 p5c2 r6.1) fun y7 =>
          bif y7.2.2.2.2.1 then
            bif !decide (((List.length y7.2.2.1 : Nat) : Int) = (0 : Int)) then
              some (.inr (.inr (false, ())))
            else bif decide ((0 : Int) < ((List.length y7.2.2.1 : Nat) : Int)) then
              bif decide (y7.2.1 ≤ ((List.length y7.2.2.1 : Nat) : Int)) then
                some (.inr (.inr (false, ())))
              else
                some (.inl (list3, out4, y7.1, y7.2.1, y7.2.2.1, IntKind.i64.wrap (n6 + (1 : Int)), IntKind.i64.wrap (i7 + (1 : Int)), ()))
            else
              some (.inl (list3, out4, y7.1, y7.2.1, y7.2.2.1, IntKind.i64.wrap (n6 + (1 : Int)), IntKind.i64.wrap (i7 + (1 : Int)), ()))
          else bif decide ((0 : Int) < ((List.length y7.2.2.1 : Nat) : Int)) then
            bif decide (y7.2.1 ≤ ((List.length y7.2.2.1 : Nat) : Int)) then
              some (.inr (.inr (false, ())))
            else
              some (.inl (list3, out4, y7.1, y7.2.1, y7.2.2.1, n6, IntKind.i64.wrap (i7 + (1 : Int)), ()))
          else
            some (.inl (list3, out4, y7.1, y7.2.1, y7.2.2.1, n6, IntKind.i64.wrap (i7 + (1 : Int)), ()))) (Option.bind (impl_AddPiece p5c0 p5c1 p5c2 r6.1) fun y7 =>
          bif y7.2.2.2.2.1 then
            bif !decide (((List.length y7.2.2.1 : Nat) : Int) = (0 : Int)) then
              some (.inr (.inr (false, ())))
            else bif decide ((0 : Int) < ((List.length y7.2.2.1 : Nat) : Int)) then
              bif decide (y7.2.1 ≤ ((List.length y7.2.2.1 : Nat) : Int)) then
                some (.inr (.inr (false, ())))
              else
                some (.inl (list3, out4, y7.1, y7.2.1, y7.2.2.1, IntKind.i64.wrap (n6 + (1 : Int)), IntKind.i64.wrap (i7 + (1 : Int)), ()))
            else
              some (.inl (list3, out4, y7.1, y7.2.1, y7.2.2.1, IntKind.i64.wrap (n6 + (1 : Int)), IntKind.i64.wrap (i7 + (1 : Int)), ()))
          else bif decide ((0 : Int) < ((List.length y7.2.2.1 : Nat) : Int)) then
            bif decide (y7.2.1 ≤ ((List.length y7.2.2.1 : Nat) : Int)) then
              some (.inr (.inr (false, ())))
            else
              some (.inl (list3, out4, y7.1, y7.2.1, y7.2.2.1, n6, IntKind.i64.wrap (i7 + (1 : Int)), ()))
          else
            some (.inl (list3, out4, y7.1, y7.2.1, y7.2.2.1, n6, IntKind.i64.wrap (i7 + (1 : Int)), ())))
      else none
    else none
  else
    some (.inr (.inl (out4, n6, ())))
theorem laws_FnPiles_o0_eq (list3 : List (ByteArray × Unit)) (out4 : List (ByteArray × Unit)) (p5c0 : Int) (p5c1 : Int) (p5c2 : List (ByteArray × Unit)) (n6 : Int) (i7 : Int) : laws_FnPiles_o0 list3 out4 p5c0 p5c1 p5c2 n6 i7 = laws_FnPiles_c0 list3 out4 p5c0 p5c1 p5c2 n6 i7 := by
  simp only [laws_FnPiles_o0, laws_FnPiles_c0, both_self]
noncomputable def laws_FnPiles_r0 (x : H13_0) : Option (Sum H13_0 (Sum E13_0 Q13_0)) := laws_FnPiles_c0 x.1 x.2.1 x.2.2.1 x.2.2.2.1 x.2.2.2.2.1 x.2.2.2.2.2.1 x.2.2.2.2.2.2.1
noncomputable def L13 {R : Type} : Loops R := fun id _ st k => bif Nat.beq id 0 then loopAt hp13_0 e13_0 q13_0 laws_FnPiles_r0 st k else none
noncomputable def laws_FnPiles (code0 : List (Int × Unit)) : Option (Bool × Unit) :=
  Option.bind (laws_big code0) fun y1 =>
  bif y1.1 then
    some (true, ())
  else
    Option.bind (spec_DrawJoin code0) fun y2 =>
    Option.bind (impl_Join y2.1) fun y3 =>
    Option.bind (spec_Join y2.1) fun y4 =>
    Option.bind (laws_sameTexts y3.1 y4.1) fun y5 =>
    bif !y5.1 then
      some (false, ())
    else
      outK (loopV laws_FnPiles_r0 (y2.1, y3.1, (0 : Int), (0 : Int), [], (0 : Int), (0 : Int), ())) (fun y6 =>
        bif decide (y6.2.1 = ((List.length y6.1 : Nat) : Int)) then
          Option.bind (impl_Join ([((ByteArray.mk #[5, 0, 1, 104, 105]), ())])) fun y8 =>
          Option.bind (laws_sameTexts y8.1 ([((ByteArray.mk #[104, 105]), ())])) fun y9 =>
          some (y9.1, ())
        else
          some (false, ())) (fun y7 =>
        some (y7.1, ()))
noncomputable def x13 (x : (List (Int × Unit)) × Unit) : Option (Bool × Unit) := laws_FnPiles x.1
noncomputable def sem13 : Sem1 := semOf ps13 rs13 x13
theorem so13 : SemsOk Try.prog (semsOf sl13) := sems_cons k15 (sems_cons k79 (sems_cons k51 (sems_cons k60 (sems_cons k50 (sems_cons k65 (sems_nil))))))
noncomputable def b13_0 : Code := nthLoop code13 0
theorem t13_r0_eq (x : denR (headRT hp13_0)) : codeK (tabOf tr) (semsOf sl13) D13 L13 b13_0 (headSt hp13_0 x) (roundK 0 hp13_0 e13_0 q13_0) = laws_FnPiles_r0 x := (show _ = laws_FnPiles_o0 x.1 x.2.1 x.2.2.1 x.2.2.2.1 x.2.2.2.2.1 x.2.2.2.2.2.1 x.2.2.2.2.2.2.1 from by kernel_rfl).trans (laws_FnPiles_o0_eq x.1 x.2.1 x.2.2.1 x.2.2.2.1 x.2.2.2.2.1 x.2.2.2.2.2.1 x.2.2.2.2.2.2.1)
theorem loop13_0 {R : Type} (r : R) (w0 : World) (mu : Mu) (hs : AnShape ps13 mu) : LoopAt Try.prog w0 mu 69 (L13 : Loops R) r 0 b13_0 :=
  loop_auto tr_ok eq_ok mixed_ok so13 (D := D13) hs (by kernel_rfl) (fun _ => (loops_of (l := []) (by kernel_rfl) (List.forall_mem_nil _))) t13_r0_eq (fun _ _ => rfl)
theorem t13_eq (x : denR (headRT (ps13.map some))) : codeK (tabOf tr) (semsOf sl13) D13 L13 code13 (start 69 ps13 x) (finK rs13 ps13) = x13 x := by kernel_rfl
theorem k13 : Known Try.prog 13 sem13 :=
  fn_auto tr_ok eq_ok mixed_ok so13 (D := D13) (code := code13) (n := 69) Try.func13 (by kernel_rfl) (by kernel_rfl) (by kernel_rfl) (fun w0 mu _ hs => (loops_of (l := [(0, b13_0)]) (by kernel_rfl) (List.forall_mem_cons.2 ⟨loop13_0 _ w0 mu hs, (List.forall_mem_nil _)⟩))) t13_eq

end Go.TM
