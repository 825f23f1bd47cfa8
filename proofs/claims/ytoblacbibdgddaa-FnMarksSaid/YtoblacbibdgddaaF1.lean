/- What the functions answer, as terms; their contracts. -/
import Derived.Test.YtoblacbibdgddaaBase
set_option linter.unusedSimpArgs false
set_option linter.unusedVariables false
namespace Go.TM
open Go Go.RowKit Go.Proofs

/-! ### f15: laws.szDeed -/
noncomputable def code15 : Code := match Try.f15.body with | some c => c | none => .skip
def ps15 : List AP := [.val true [.int .i64, .int .i64, .int .i64, .int .i64, .str], .val false [.int .i64]]
def rs15 : List RP := [{ src := .tmp 4, agg := false, ps := [.int .i64] }]
noncomputable def sl15 : SemL := []
def D15 : Draws := fun _ => .nil
noncomputable def L15 {R : Type} : Loops R := fun _ _ _ _ => none
noncomputable def laws_szDeed (a0c0 : Int) (a0c1 : Int) (a0c2 : Int) (a0c3 : Int) (a0c4 : ByteArray) (left1 : Int) : Option (Int × Unit) :=
  bif decide (IntKind.i64.wrap (left1 - ((ByteArray.size a0c4 : Nat) : Int)) < (0 : Int)) then
    some ((-1 : Int), ())
  else
    some (IntKind.i64.wrap (left1 - ((ByteArray.size a0c4 : Nat) : Int)), ())
noncomputable def x15 (x : Int × Int × Int × Int × ByteArray × Int × Unit) : Option (Int × Unit) := laws_szDeed x.1 x.2.1 x.2.2.1 x.2.2.2.1 x.2.2.2.2.1 x.2.2.2.2.2.1
noncomputable def sem15 : Sem1 := semOf ps15 rs15 x15
theorem so15 : SemsOk Try.prog (semsOf sl15) := sems_nil
theorem t15_eq (x : denR (headRT (ps15.map some))) : codeK (tabOf tr) (semsOf sl15) D15 L15 code15 (start 13 ps15 x) (finK rs15 ps15) = x15 x := by kernel_rfl
theorem k15 : Known Try.prog 15 sem15 :=
  fn_auto tr_ok eq_ok mixed_ok so15 (D := D15) (code := code15) (n := 13) Try.func15 (by kernel_rfl) (by kernel_rfl) (by kernel_rfl) (fun w0 mu _ hs => (loops_of (l := []) (by kernel_rfl) (List.forall_mem_nil _))) t15_eq

/-! ### f17: laws.toDeed -/
noncomputable def code17 : Code := match Try.f17.body with | some c => c | none => .skip
def ps17 : List AP := [.val true [.int .i64, .int .i64, .int .i64, .int .i64, .str]]
def rs17 : List RP := [{ src := .cell 2, agg := true, ps := [.int .i64, .int .i64, .int .i64, .int .i64, .str] }]
noncomputable def sl17 : SemL := []
def D17 : Draws := fun _ => .nil
noncomputable def L17 {R : Type} : Loops R := fun _ _ _ _ => none
noncomputable def laws_toDeed (a0c0 : Int) (a0c1 : Int) (a0c2 : Int) (a0c3 : Int) (a0c4 : ByteArray) : Option (Int × Int × Int × Int × ByteArray × Unit) :=
  some (a0c0, a0c1, a0c2, a0c3, a0c4, ())
noncomputable def x17 (x : Int × Int × Int × Int × ByteArray × Unit) : Option (Int × Int × Int × Int × ByteArray × Unit) := laws_toDeed x.1 x.2.1 x.2.2.1 x.2.2.2.1 x.2.2.2.2.1
noncomputable def sem17 : Sem1 := semOf ps17 rs17 x17
theorem so17 : SemsOk Try.prog (semsOf sl17) := sems_nil
theorem t17_eq (x : denR (headRT (ps17.map some))) : codeK (tabOf tr) (semsOf sl17) D17 L17 code17 (start 20 ps17 x) (finK rs17 ps17) = x17 x := by kernel_rfl
theorem k17 : Known Try.prog 17 sem17 :=
  fn_auto tr_ok eq_ok mixed_ok so17 (D := D17) (code := code17) (n := 20) Try.func17 (by kernel_rfl) (by kernel_rfl) (by kernel_rfl) (fun w0 mu _ hs => (loops_of (l := []) (by kernel_rfl) (List.forall_mem_nil _))) t17_eq

/-! ### f67: spec.l01In -/
noncomputable def code67 : Code := match Try.f67.body with | some c => c | none => .skip
def ps67 : List AP := [.val false [.int .i64], .val false [.int .i64], .val false [.int .i64]]
def rs67 : List RP := [{ src := .tmp 6, agg := false, ps := [.bool] }]
noncomputable def sl67 : SemL := []
def D67 : Draws := fun _ => .nil
noncomputable def L67 {R : Type} : Loops R := fun _ _ _ _ => none
noncomputable def spec_l01In (x0 : Int) (least1 : Int) (most2 : Int) : Option (Bool × Unit) :=
  bif decide (least1 ≤ x0) then
    some (decide (x0 ≤ most2), ())
  else
    some (false, ())
noncomputable def x67 (x : Int × Int × Int × Unit) : Option (Bool × Unit) := spec_l01In x.1 x.2.1 x.2.2.1
noncomputable def sem67 : Sem1 := semOf ps67 rs67 x67
theorem so67 : SemsOk Try.prog (semsOf sl67) := sems_nil
theorem t67_eq (x : denR (headRT (ps67.map some))) : codeK (tabOf tr) (semsOf sl67) D67 L67 code67 (start 15 ps67 x) (finK rs67 ps67) = x67 x := by kernel_rfl
theorem k67 : Known Try.prog 67 sem67 :=
  fn_auto tr_ok eq_ok mixed_ok so67 (D := D67) (code := code67) (n := 15) Try.func67 (by kernel_rfl) (by kernel_rfl) (by kernel_rfl) (fun w0 mu _ hs => (loops_of (l := []) (by kernel_rfl) (List.forall_mem_nil _))) t67_eq

/-! ### f16: spec.DeedOk -/
noncomputable def code16 : Code := match Try.f16.body with | some c => c | none => .skip
def ps16 : List AP := [.val true [.int .i64, .int .i64, .int .i64, .int .i64, .str]]
def rs16 : List RP := [{ src := .tmp 2, agg := false, ps := [.bool] }]
noncomputable def sl16 : SemL := [(67, (.shr, .shr, .shr, sem67))]
def D16 : Draws := fun _ => .nil
noncomputable def L16 {R : Type} : Loops R := fun _ _ _ _ => none
noncomputable def spec_DeedOk (e0c0 : Int) (e0c1 : Int) (e0c2 : Int) (e0c3 : Int) (e0c4 : ByteArray) : Option (Bool × Unit) :=
  Option.bind (spec_l01In e0c0 (1 : Int) (9 : Int)) fun y1 =>
  bif !y1.1 then
    some (false, ())
  else
    Option.bind (spec_l01In e0c1 (1 : Int) (5 : Int)) fun y2 =>
    bif !y2.1 then
      some (false, ())
    else bif decide (e0c2 < (0 : Int)) then
      some (false, ())
    else bif decide (e0c0 = (1 : Int)) then
      Option.bind (spec_l01In e0c3 (1 : Int) (2 : Int)) fun y3 =>
      bif y3.1 then
        some (decide (((ByteArray.size e0c4 : Nat) : Int) ≤ (60 : Int)), ())
      else
        some (false, ())
    else bif decide (e0c3 = (0 : Int)) then
      some (strEq e0c4 (ByteArray.mk #[]), ())
    else
      some (false, ())
noncomputable def x16 (x : Int × Int × Int × Int × ByteArray × Unit) : Option (Bool × Unit) := spec_DeedOk x.1 x.2.1 x.2.2.1 x.2.2.2.1 x.2.2.2.2.1
noncomputable def sem16 : Sem1 := semOf ps16 rs16 x16
theorem so16 : SemsOk Try.prog (semsOf sl16) := sems_cons k67 (sems_nil)
theorem t16_eq (x : denR (headRT (ps16.map some))) : codeK (tabOf tr) (semsOf sl16) D16 L16 code16 (start 38 ps16 x) (finK rs16 ps16) = x16 x := by kernel_rfl
theorem k16 : Known Try.prog 16 sem16 :=
  fn_auto tr_ok eq_ok mixed_ok so16 (D := D16) (code := code16) (n := 38) Try.func16 (by kernel_rfl) (by kernel_rfl) (by kernel_rfl) (fun w0 mu _ hs => (loops_of (l := []) (by kernel_rfl) (List.forall_mem_nil _))) t16_eq

/-! ### f68: impl.inRange -/
noncomputable def code68 : Code := match Try.f68.body with | some c => c | none => .skip
def ps68 : List AP := [.val false [.int .i64], .val false [.int .i64], .val false [.int .i64]]
def rs68 : List RP := [{ src := .tmp 6, agg := false, ps := [.bool] }]
noncomputable def sl68 : SemL := []
def D68 : Draws := fun _ => .nil
noncomputable def L68 {R : Type} : Loops R := fun _ _ _ _ => none
noncomputable def impl_inRange (n0 : Int) (least1 : Int) (most2 : Int) : Option (Bool × Unit) :=
  bif decide (least1 ≤ n0) then
    some (decide (n0 ≤ most2), ())
  else
    some (false, ())
noncomputable def x68 (x : Int × Int × Int × Unit) : Option (Bool × Unit) := impl_inRange x.1 x.2.1 x.2.2.1
noncomputable def sem68 : Sem1 := semOf ps68 rs68 x68
theorem so68 : SemsOk Try.prog (semsOf sl68) := sems_nil
theorem t68_eq (x : denR (headRT (ps68.map some))) : codeK (tabOf tr) (semsOf sl68) D68 L68 code68 (start 15 ps68 x) (finK rs68 ps68) = x68 x := by kernel_rfl
theorem k68 : Known Try.prog 68 sem68 :=
  fn_auto tr_ok eq_ok mixed_ok so68 (D := D68) (code := code68) (n := 15) Try.func68 (by kernel_rfl) (by kernel_rfl) (by kernel_rfl) (fun w0 mu _ hs => (loops_of (l := []) (by kernel_rfl) (List.forall_mem_nil _))) t68_eq

/-! ### f69: impl.isDaemon -/
noncomputable def code69 : Code := match Try.f69.body with | some c => c | none => .skip
def ps69 : List AP := [.val false [.int .i64]]
def rs69 : List RP := [{ src := .tmp 2, agg := false, ps := [.bool] }]
noncomputable def sl69 : SemL := [(68, (.shr, .shr, .shr, sem68))]
def D69 : Draws := fun _ => .nil
noncomputable def L69 {R : Type} : Loops R := fun _ _ _ _ => none
noncomputable def impl_isDaemon (n0 : Int) : Option (Bool × Unit) :=
  Option.bind (impl_inRange n0 (1 : Int) (5 : Int)) fun y1 =>
  some (y1.1, ())
noncomputable def x69 (x : Int × Unit) : Option (Bool × Unit) := impl_isDaemon x.1
noncomputable def sem69 : Sem1 := semOf ps69 rs69 x69
theorem so69 : SemsOk Try.prog (semsOf sl69) := sems_cons k68 (sems_nil)
theorem t69_eq (x : denR (headRT (ps69.map some))) : codeK (tabOf tr) (semsOf sl69) D69 L69 code69 (start 5 ps69 x) (finK rs69 ps69) = x69 x := by kernel_rfl
theorem k69 : Known Try.prog 69 sem69 :=
  fn_auto tr_ok eq_ok mixed_ok so69 (D := D69) (code := code69) (n := 5) Try.func69 (by kernel_rfl) (by kernel_rfl) (by kernel_rfl) (fun w0 mu _ hs => (loops_of (l := []) (by kernel_rfl) (List.forall_mem_nil _))) t69_eq

/-! ### f99: impl.isLevel -/
noncomputable def code99 : Code := match Try.f99.body with | some c => c | none => .skip
def ps99 : List AP := [.val false [.int .i64]]
def rs99 : List RP := [{ src := .tmp 2, agg := false, ps := [.bool] }]
noncomputable def sl99 : SemL := []
def D99 : Draws := fun _ => .nil
noncomputable def L99 {R : Type} : Loops R := fun _ _ _ _ => none
noncomputable def impl_isLevel (n0 : Int) : Option (Bool × Unit) :=
  bif decide (n0 = (1 : Int)) then
    some (true, ())
  else
    some (decide (n0 = (2 : Int)), ())
noncomputable def x99 (x : Int × Unit) : Option (Bool × Unit) := impl_isLevel x.1
noncomputable def sem99 : Sem1 := semOf ps99 rs99 x99
theorem so99 : SemsOk Try.prog (semsOf sl99) := sems_nil
theorem t99_eq (x : denR (headRT (ps99.map some))) : codeK (tabOf tr) (semsOf sl99) D99 L99 code99 (start 9 ps99 x) (finK rs99 ps99) = x99 x := by kernel_rfl
theorem k99 : Known Try.prog 99 sem99 :=
  fn_auto tr_ok eq_ok mixed_ok so99 (D := D99) (code := code99) (n := 9) Try.func99 (by kernel_rfl) (by kernel_rfl) (by kernel_rfl) (fun w0 mu _ hs => (loops_of (l := []) (by kernel_rfl) (List.forall_mem_nil _))) t99_eq

/-! ### f70: impl.wordsOk -/
noncomputable def code70 : Code := match Try.f70.body with | some c => c | none => .skip
def ps70 : List AP := [.val false [.bool], .val false [.int .i64], .val false [.str]]
def rs70 : List RP := [{ src := .tmp 6, agg := false, ps := [.bool] }]
noncomputable def sl70 : SemL := [(99, (.shr, .shr, .shr, sem99))]
def D70 : Draws := fun _ => .nil
noncomputable def L70 {R : Type} : Loops R := fun _ _ _ _ => none
noncomputable def impl_wordsOk (says0 : Bool) (level1 : Int) (text2 : ByteArray) : Option (Bool × Unit) :=
  bif says0 then
    Option.bind (impl_isLevel level1) fun y1 =>
    bif y1.1 then
      some (decide (((ByteArray.size text2 : Nat) : Int) ≤ (60 : Int)), ())
    else
      some (false, ())
  else bif decide (level1 = (0 : Int)) then
    some (strEq text2 (ByteArray.mk #[]), ())
  else
    some (false, ())
noncomputable def x70 (x : Bool × Int × ByteArray × Unit) : Option (Bool × Unit) := impl_wordsOk x.1 x.2.1 x.2.2.1
noncomputable def sem70 : Sem1 := semOf ps70 rs70 x70
theorem so70 : SemsOk Try.prog (semsOf sl70) := sems_cons k99 (sems_nil)
theorem t70_eq (x : denR (headRT (ps70.map some))) : codeK (tabOf tr) (semsOf sl70) D70 L70 code70 (start 21 ps70 x) (finK rs70 ps70) = x70 x := by kernel_rfl
theorem k70 : Known Try.prog 70 sem70 :=
  fn_auto tr_ok eq_ok mixed_ok so70 (D := D70) (code := code70) (n := 21) Try.func70 (by kernel_rfl) (by kernel_rfl) (by kernel_rfl) (fun w0 mu _ hs => (loops_of (l := []) (by kernel_rfl) (List.forall_mem_nil _))) t70_eq

/-! ### f18: impl.DeedOk -/
noncomputable def code18 : Code := match Try.f18.body with | some c => c | none => .skip
def ps18 : List AP := [.val true [.int .i64, .int .i64, .int .i64, .int .i64, .str]]
def rs18 : List RP := [{ src := .tmp 2, agg := false, ps := [.bool] }]
noncomputable def sl18 : SemL := [(68, (.shr, .shr, .shr, sem68)), (69, (.shr, .shr, .shr, sem69)), (70, (.shr, .shr, .shr, sem70))]
def D18 : Draws := fun _ => .nil
noncomputable def L18 {R : Type} : Loops R := fun _ _ _ _ => none
noncomputable def impl_DeedOk (e0c0 : Int) (e0c1 : Int) (e0c2 : Int) (e0c3 : Int) (e0c4 : ByteArray) : Option (Bool × Unit) :=
  Option.bind (impl_inRange e0c0 (1 : Int) (9 : Int)) fun y1 =>
  bif !y1.1 then
    some (false, ())
  else
    Option.bind (impl_isDaemon e0c1) fun y2 =>
    bif !y2.1 then
      some (false, ())
    else bif decide (e0c2 < (0 : Int)) then
      some (false, ())
    else
      Option.bind (impl_wordsOk (decide (e0c0 = (1 : Int))) e0c3 e0c4) fun y3 =>
      some (y3.1, ())
noncomputable def x18 (x : Int × Int × Int × Int × ByteArray × Unit) : Option (Bool × Unit) := impl_DeedOk x.1 x.2.1 x.2.2.1 x.2.2.2.1 x.2.2.2.2.1
noncomputable def sem18 : Sem1 := semOf ps18 rs18 x18
theorem so18 : SemsOk Try.prog (semsOf sl18) := sems_cons k68 (sems_cons k69 (sems_cons k70 (sems_nil)))
theorem t18_eq (x : denR (headRT (ps18.map some))) : codeK (tabOf tr) (semsOf sl18) D18 L18 code18 (start 26 ps18 x) (finK rs18 ps18) = x18 x := by kernel_rfl
theorem k18 : Known Try.prog 18 sem18 :=
  fn_auto tr_ok eq_ok mixed_ok so18 (D := D18) (code := code18) (n := 26) Try.func18 (by kernel_rfl) (by kernel_rfl) (by kernel_rfl) (fun w0 mu _ hs => (loops_of (l := []) (by kernel_rfl) (List.forall_mem_nil _))) t18_eq

/-! ### f3: laws.FnExactDeedOk -/
noncomputable def code3 : Code := match Try.f3.body with | some c => c | none => .skip
def ps3 : List AP := [.val true [.int .i64, .int .i64, .int .i64, .int .i64, .str]]
def rs3 : List RP := [{ src := .tmp 2, agg := false, ps := [.bool] }]
noncomputable def sl3 : SemL := [(15, (.shr, .shr, .shr, sem15)), (17, (.shr, .shr, .shr, sem17)), (16, (.shr, .shr, .shr, sem16)), (18, (.shr, .shr, .shr, sem18))]
def D3 : Draws := fun _ => .nil
noncomputable def L3 {R : Type} : Loops R := fun _ _ _ _ => none
noncomputable def laws_FnExactDeedOk (aE0c0 : Int) (aE0c1 : Int) (aE0c2 : Int) (aE0c3 : Int) (aE0c4 : ByteArray) : Option (Bool × Unit) :=
  Option.bind (laws_szDeed aE0c0 aE0c1 aE0c2 aE0c3 aE0c4 (1048576 : Int)) fun y1 =>
  bif decide (y1.1 < (0 : Int)) then
    some (true, ())
  else
    Option.bind (laws_toDeed aE0c0 aE0c1 aE0c2 aE0c3 aE0c4) fun y2 =>
    Option.bind (spec_DeedOk y2.1 y2.2.1 y2.2.2.1 y2.2.2.2.1 y2.2.2.2.2.1) fun y3 =>
    Option.bind (laws_toDeed aE0c0 aE0c1 aE0c2 aE0c3 aE0c4) fun y4 =>
    Option.bind (impl_DeedOk y4.1 y4.2.1 y4.2.2.1 y4.2.2.2.1 y4.2.2.2.2.1) fun y5 =>
    bif !(y5.1 == y3.1) then
      some (false, ())
    else
      some (true, ())
noncomputable def x3 (x : Int × Int × Int × Int × ByteArray × Unit) : Option (Bool × Unit) := laws_FnExactDeedOk x.1 x.2.1 x.2.2.1 x.2.2.2.1 x.2.2.2.2.1
noncomputable def sem3 : Sem1 := semOf ps3 rs3 x3
theorem so3 : SemsOk Try.prog (semsOf sl3) := sems_cons k15 (sems_cons k17 (sems_cons k16 (sems_cons k18 (sems_nil))))
theorem t3_eq (x : denR (headRT (ps3.map some))) : codeK (tabOf tr) (semsOf sl3) D3 L3 code3 (start 20 ps3 x) (finK rs3 ps3) = x3 x := by kernel_rfl
theorem k3 : Known Try.prog 3 sem3 :=
  fn_auto tr_ok eq_ok mixed_ok so3 (D := D3) (code := code3) (n := 20) Try.func3 (by kernel_rfl) (by kernel_rfl) (by kernel_rfl) (fun w0 mu _ hs => (loops_of (l := []) (by kernel_rfl) (List.forall_mem_nil _))) t3_eq

/-! ### f71: spec.l01Var -/
noncomputable def code71 : Code := match Try.f71.body with | some c => c | none => .skip
def ps71 : List AP := [.val false [.int .i64]]
def rs71 : List RP := [{ src := .tmp 2, agg := false, ps := [.str] }]
noncomputable def sl71 : SemL := []
def D71 : Draws := fun _ => .nil
def hp71_0 : List (Option AP) := [some (.val false [.int .i64]), none, none, some (.val false [.own (.cons (.int .u8) .nil)]), none, none, none, none, none, none, none, none, none, none, none, none, none, none, none, none, none, none]
def e71_0 : List (Option AP) := [some (.val false [.int .i64]), none, none, some (.val false [.own (.cons (.int .u8) .nil)]), none, none, none, none, none, none, none, none, none, none, none, none, none, none, none, none, none, none]
def q71_0 : List (Option AP) := [none, none, none, none, none, none, none, none, none, none, none, none, none, none, none, none, none, none, none, none, none, none]
abbrev H71_0 : Type := Int × (List (Int × Unit)) × Unit
abbrev E71_0 : Type := Int × (List (Int × Unit)) × Unit
abbrev Q71_0 : Type := Unit
noncomputable def spec_l01Var_c0 (n0 : Int) (out3 : List (Int × Unit)) : Option (Sum H71_0 (Sum E71_0 Q71_0)) :=
  bif decide ((127 : Int) < n0) then
    bif Nat.ble (((List.length out3) + 1) * 1) lim then some (.inl (IntKind.i64.wrap (Int.tdiv n0 (128 : Int)), out3 ++ [(IntKind.u8.wrap (IntKind.i64.wrap ((Int.tmod n0 (128 : Int)) + (128 : Int))), ())], ()))
    else none
  else
    some (.inr (.inl (n0, out3, ())))
noncomputable def spec_l01Var_r0 (x : H71_0) : Option (Sum H71_0 (Sum E71_0 Q71_0)) := spec_l01Var_c0 x.1 x.2.1
noncomputable def L71 {R : Type} : Loops R := fun id _ st k => bif Nat.beq id 0 then loopAt hp71_0 e71_0 q71_0 spec_l01Var_r0 st k else none
noncomputable def spec_l01Var (n0 : Int) : Option (ByteArray × Unit) :=
  outK (loopV spec_l01Var_r0 (n0, [], ())) (fun y1 =>
    bif Nat.ble (((List.length y1.2.1) + 1) * 1) lim then some (bytesOf (y1.2.1 ++ [(IntKind.u8.wrap y1.1, ())]), ())
    else none) (fun y2 =>
    none)
noncomputable def x71 (x : Int × Unit) : Option (ByteArray × Unit) := spec_l01Var x.1
noncomputable def sem71 : Sem1 := semOf ps71 rs71 x71
theorem so71 : SemsOk Try.prog (semsOf sl71) := sems_nil
noncomputable def b71_0 : Code := nthLoop code71 0
theorem t71_r0_eq (x : denR (headRT hp71_0)) : codeK (tabOf tr) (semsOf sl71) D71 L71 b71_0 (headSt hp71_0 x) (roundK 0 hp71_0 e71_0 q71_0) = spec_l01Var_r0 x := by kernel_rfl
theorem loop71_0 {R : Type} (r : R) (w0 : World) (mu : Mu) (hs : AnShape ps71 mu) : LoopAt Try.prog w0 mu 22 (L71 : Loops R) r 0 b71_0 :=
  loop_auto tr_ok eq_ok mixed_ok so71 (D := D71) hs (by kernel_rfl) (fun _ => (loops_of (l := []) (by kernel_rfl) (List.forall_mem_nil _))) t71_r0_eq (fun _ _ => rfl)
theorem t71_eq (x : denR (headRT (ps71.map some))) : codeK (tabOf tr) (semsOf sl71) D71 L71 code71 (start 22 ps71 x) (finK rs71 ps71) = x71 x := by kernel_rfl
theorem k71 : Known Try.prog 71 sem71 :=
  fn_auto tr_ok eq_ok mixed_ok so71 (D := D71) (code := code71) (n := 22) Try.func71 (by kernel_rfl) (by kernel_rfl) (by kernel_rfl) (fun w0 mu _ hs => (loops_of (l := [(0, b71_0)]) (by kernel_rfl) (List.forall_mem_cons.2 ⟨loop71_0 _ w0 mu hs, (List.forall_mem_nil _)⟩))) t71_eq

/-! ### f19: spec.Pieces -/
noncomputable def code19 : Code := match Try.f19.body with | some c => c | none => .skip
def ps19 : List AP := [.val false [.int .i64], .val false [.str]]
def rs19 : List RP := [{ src := .tmp 4, agg := false, ps := [.own (.cons .str .nil)] }, { src := .tmp 5, agg := false, ps := [.bool] }]
noncomputable def sl19 : SemL := [(67, (.shr, .shr, .shr, sem67)), (71, (.shr, .shr, .shr, sem71))]
def D19 : Draws := fun id => bif Nat.beq id 13 then .op 0 .any (.op 1 .any (.op 3 .any (.op 6 .any (.op 9 .any (.op 10 .any (.op 11 .any (.op 12 .any (.op 13 .any (.op 2 .one (.op 4 .one (.op 5 .any (.op 7 .one (.op 8 .any (.op 14 .any (.op 15 .one (.op 16 .last (.op 17 .any (.nil)))))))))))))))))) else .nil
def hp19_0 : List (Option AP) := [some (.val false [.int .i64]), some (.val false [.str]), none, none, none, none, some (.val false [.own (.cons .str .nil)]), some (.val false [.int .i64]), some (.val false [.int .i64]), none, none, none, none, none, none, none, none, none, none, none, none, none, none, none, none, none, none, none, none, none, none, none, none, none, none, none, none, none, none, none, none, none, none, none, none, none, none, none, none, none, none, none, none, none, none, none, none, none, none]
def e19_0 : List (Option AP) := [none, none, none, none, none, none, some (.val false [.own (.cons .str .nil)]), none, none, none, none, none, none, none, none, none, none, none, none, none, none, none, none, none, none, none, none, none, none, none, none, none, none, none, none, none, none, none, none, none, none, none, none, none, none, none, none, none, none, none, none, none, none, none, none, none, none, none, none]
def q19_0 : List (Option AP) := [none, none, none, none, none, none, none, none, none, none, none, none, none, none, none, none, none, none, none, none, none, none, none, none, none, none, none, none, none, none, none, none, none, none, none, none, none, none, none, none, none, none, none, none, none, none, none, none, none, none, none, none, none, none, none, none, none, none, none]
abbrev H19_0 : Type := Int × ByteArray × (List (ByteArray × Unit)) × Int × Int × Unit
abbrev E19_0 : Type := (List (ByteArray × Unit)) × Unit
abbrev Q19_0 : Type := Unit
noncomputable def spec_Pieces_c0 (num0 : Int) (s1 : ByteArray) (out6 : List (ByteArray × Unit)) (count7 : Int) (i8 : Int) : Option (Sum H19_0 (Sum E19_0 Q19_0)) :=
  bif decide (i8 < count7) then
    bif decide (((ByteArray.size s1 : Nat) : Int) < IntKind.i64.wrap ((IntKind.i64.wrap (i8 + (1 : Int))) * (40 : Int))) then
      bif decide ((0 : Int) ≤ IntKind.i64.wrap (i8 * (40 : Int))) then bif decide (((Int.toNat (IntKind.i64.wrap (i8 * (40 : Int))) : Nat) : Int) ≤ ((ByteArray.size s1 : Nat) : Int)) then bif decide (((ByteArray.size s1 : Nat) : Int) ≤ ((ByteArray.size s1 : Nat) : Int)) then Option.bind (spec_l01Var num0) fun y2 =>
            Option.bind (spec_l01Var i8) fun y3 =>
            bif Nat.ble ((ByteArray.size y2.1) + (ByteArray.size y3.1)) lim then Option.bind (spec_l01Var count7) fun y4 =>
              bif Nat.ble ((ByteArray.size (y2.1 ++ y3.1)) + (ByteArray.size y4.1)) lim then bif Nat.ble ((ByteArray.size ((y2.1 ++ y3.1) ++ y4.1)) + (ByteArray.size (ByteArray.extract s1 (Int.toNat (IntKind.i64.wrap (i8 * (40 : Int)))) (Int.toNat ((ByteArray.size s1 : Nat) : Int))))) lim then bif Nat.ble (((List.length out6) + 1) * 16) lim then some (.inl (num0, s1, out6 ++ [(((y2.1 ++ y3.1) ++ y4.1) ++ (ByteArray.extract s1 (Int.toNat (IntKind.i64.wrap (i8 * (40 : Int)))) (Int.toNat ((ByteArray.size s1 : Nat) : Int))), ())], count7, IntKind.i64.wrap (i8 + (1 : Int)), ()))
                  else none
                else none
              else none
            else none
          else none
        else none
      else none
    else bif decide ((0 : Int) ≤ IntKind.i64.wrap (i8 * (40 : Int))) then bif decide (((Int.toNat (IntKind.i64.wrap (i8 * (40 : Int))) : Nat) : Int) ≤ IntKind.i64.wrap ((IntKind.i64.wrap (i8 + (1 : Int))) * (40 : Int))) then bif decide (IntKind.i64.wrap ((IntKind.i64.wrap (i8 + (1 : Int))) * (40 : Int)) ≤ ((ByteArray.size s1 : Nat) : Int)) then Option.bind (spec_l01Var num0) fun y5 =>
          Option.bind (spec_l01Var i8) fun y6 =>
          bif Nat.ble ((ByteArray.size y5.1) + (ByteArray.size y6.1)) lim then Option.bind (spec_l01Var count7) fun y7 =>
            bif Nat.ble ((ByteArray.size (y5.1 ++ y6.1)) + (ByteArray.size y7.1)) lim then bif Nat.ble ((ByteArray.size ((y5.1 ++ y6.1) ++ y7.1)) + (ByteArray.size (ByteArray.extract s1 (Int.toNat (IntKind.i64.wrap (i8 * (40 : Int)))) (Int.toNat (IntKind.i64.wrap ((IntKind.i64.wrap (i8 + (1 : Int))) * (40 : Int))))))) lim then bif Nat.ble (((List.length out6) + 1) * 16) lim then some (.inl (num0, s1, out6 ++ [(((y5.1 ++ y6.1) ++ y7.1) ++ (ByteArray.extract s1 (Int.toNat (IntKind.i64.wrap (i8 * (40 : Int)))) (Int.toNat (IntKind.i64.wrap ((IntKind.i64.wrap (i8 + (1 : Int))) * (40 : Int))))), ())], count7, IntKind.i64.wrap (i8 + (1 : Int)), ()))
                else none
              else none
            else none
          else none
        else none
      else none
    else none
  else
    some (.inr (.inl (out6, ())))
noncomputable def spec_Pieces_r0 (x : H19_0) : Option (Sum H19_0 (Sum E19_0 Q19_0)) := spec_Pieces_c0 x.1 x.2.1 x.2.2.1 x.2.2.2.1 x.2.2.2.2.1
noncomputable def L19 {R : Type} : Loops R := fun id _ st k => bif Nat.beq id 0 then loopAt hp19_0 e19_0 q19_0 spec_Pieces_r0 st k else none
noncomputable def spec_Pieces (num0 : Int) (s1 : ByteArray) : Option ((List (ByteArray × Unit)) × Bool × Unit) :=
  Option.bind (spec_l01In num0 (0 : Int) (100000 : Int)) fun y1 =>
  bif !y1.1 then
    some ([], false, ())
  else bif decide ((400 : Int) < ((ByteArray.size s1 : Nat) : Int)) then
    some ([], false, ())
  else bif decide (IntKind.i64.wrap (Int.tdiv (IntKind.i64.wrap ((IntKind.i64.wrap (((ByteArray.size s1 : Nat) : Int) + (40 : Int))) - (1 : Int))) (40 : Int)) = (0 : Int)) then
    outK (loopV spec_Pieces_r0 (num0, s1, [], (1 : Int), (0 : Int), ())) (fun y2 =>
      some (y2.1, true, ())) (fun y3 =>
      none)
  else
    outK (loopV spec_Pieces_r0 (num0, s1, [], IntKind.i64.wrap (Int.tdiv (IntKind.i64.wrap ((IntKind.i64.wrap (((ByteArray.size s1 : Nat) : Int) + (40 : Int))) - (1 : Int))) (40 : Int)), (0 : Int), ())) (fun y4 =>
      some (y4.1, true, ())) (fun y5 =>
      none)
noncomputable def x19 (x : Int × ByteArray × Unit) : Option ((List (ByteArray × Unit)) × Bool × Unit) := spec_Pieces x.1 x.2.1
noncomputable def sem19 : Sem1 := semOf ps19 rs19 x19
theorem so19 : SemsOk Try.prog (semsOf sl19) := sems_cons k67 (sems_cons k71 (sems_nil))
noncomputable def b19_0 : Code := nthLoop code19 0
theorem t19_r0_eq (x : denR (headRT hp19_0)) : codeK (tabOf tr) (semsOf sl19) D19 L19 b19_0 (headSt hp19_0 x) (roundK 0 hp19_0 e19_0 q19_0) = spec_Pieces_r0 x := by kernel_rfl
theorem loop19_0 {R : Type} (r : R) (w0 : World) (mu : Mu) (hs : AnShape ps19 mu) : LoopAt Try.prog w0 mu 59 (L19 : Loops R) r 0 b19_0 :=
  loop_auto tr_ok eq_ok mixed_ok so19 (D := D19) hs (by kernel_rfl) (fun _ => (loops_of (l := []) (by kernel_rfl) (List.forall_mem_nil _))) t19_r0_eq (fun _ _ => rfl)
theorem t19_eq (x : denR (headRT (ps19.map some))) : codeK (tabOf tr) (semsOf sl19) D19 L19 code19 (start 59 ps19 x) (finK rs19 ps19) = x19 x := by kernel_rfl
theorem k19 : Known Try.prog 19 sem19 :=
  fn_auto tr_ok eq_ok mixed_ok so19 (D := D19) (code := code19) (n := 59) Try.func19 (by kernel_rfl) (by kernel_rfl) (by kernel_rfl) (fun w0 mu _ hs => (loops_of (l := [(0, b19_0)]) (by kernel_rfl) (List.forall_mem_cons.2 ⟨loop19_0 _ w0 mu hs, (List.forall_mem_nil _)⟩))) t19_eq

/-! ### f72: impl.varText -/
noncomputable def code72 : Code := match Try.f72.body with | some c => c | none => .skip
def ps72 : List AP := [.val false [.int .i64]]
def rs72 : List RP := [{ src := .tmp 2, agg := false, ps := [.str] }]
noncomputable def sl72 : SemL := []
def D72 : Draws := fun _ => .nil
def hp72_0 : List (Option AP) := [some (.val false [.int .i64]), none, none, some (.val false [.own (.cons (.int .u8) .nil)]), none, none, none, none, none, none, none, none, none, none, none, none, none, none, none, none, none]
def e72_0 : List (Option AP) := [some (.val false [.int .i64]), none, none, some (.val false [.own (.cons (.int .u8) .nil)]), none, none, none, none, none, none, none, none, none, none, none, none, none, none, none, none, none]
def q72_0 : List (Option AP) := [none, none, none, none, none, none, none, none, none, none, none, none, none, none, none, none, none, none, none, none, none]
abbrev H72_0 : Type := Int × (List (Int × Unit)) × Unit
abbrev E72_0 : Type := Int × (List (Int × Unit)) × Unit
abbrev Q72_0 : Type := Unit
noncomputable def impl_varText_c0 (n0 : Int) (out3 : List (Int × Unit)) : Option (Sum H72_0 (Sum E72_0 Q72_0)) :=
  bif decide ((127 : Int) < n0) then
    bif Nat.ble (((List.length out3) + 1) * 1) lim then some (.inl (IntKind.i64.wrap (Int.tdiv n0 (128 : Int)), out3 ++ [(IntKind.u8.wrap (IntKind.i64.wrap ((128 : Int) + (Int.tmod n0 (128 : Int)))), ())], ()))
    else none
  else
    some (.inr (.inl (n0, out3, ())))
noncomputable def impl_varText_r0 (x : H72_0) : Option (Sum H72_0 (Sum E72_0 Q72_0)) := impl_varText_c0 x.1 x.2.1
noncomputable def L72 {R : Type} : Loops R := fun id _ st k => bif Nat.beq id 0 then loopAt hp72_0 e72_0 q72_0 impl_varText_r0 st k else none
noncomputable def impl_varText (n0 : Int) : Option (ByteArray × Unit) :=
  outK (loopV impl_varText_r0 (n0, [], ())) (fun y1 =>
    bif Nat.ble (((List.length y1.2.1) + 1) * 1) lim then some (bytesOf (y1.2.1 ++ [(IntKind.u8.wrap y1.1, ())]), ())
    else none) (fun y2 =>
    none)
noncomputable def x72 (x : Int × Unit) : Option (ByteArray × Unit) := impl_varText x.1
noncomputable def sem72 : Sem1 := semOf ps72 rs72 x72
theorem so72 : SemsOk Try.prog (semsOf sl72) := sems_nil
noncomputable def b72_0 : Code := nthLoop code72 0
theorem t72_r0_eq (x : denR (headRT hp72_0)) : codeK (tabOf tr) (semsOf sl72) D72 L72 b72_0 (headSt hp72_0 x) (roundK 0 hp72_0 e72_0 q72_0) = impl_varText_r0 x := by kernel_rfl
theorem loop72_0 {R : Type} (r : R) (w0 : World) (mu : Mu) (hs : AnShape ps72 mu) : LoopAt Try.prog w0 mu 21 (L72 : Loops R) r 0 b72_0 :=
  loop_auto tr_ok eq_ok mixed_ok so72 (D := D72) hs (by kernel_rfl) (fun _ => (loops_of (l := []) (by kernel_rfl) (List.forall_mem_nil _))) t72_r0_eq (fun _ _ => rfl)
theorem t72_eq (x : denR (headRT (ps72.map some))) : codeK (tabOf tr) (semsOf sl72) D72 L72 code72 (start 21 ps72 x) (finK rs72 ps72) = x72 x := by kernel_rfl
theorem k72 : Known Try.prog 72 sem72 :=
  fn_auto tr_ok eq_ok mixed_ok so72 (D := D72) (code := code72) (n := 21) Try.func72 (by kernel_rfl) (by kernel_rfl) (by kernel_rfl) (fun w0 mu _ hs => (loops_of (l := [(0, b72_0)]) (by kernel_rfl) (List.forall_mem_cons.2 ⟨loop72_0 _ w0 mu hs, (List.forall_mem_nil _)⟩))) t72_eq

/-! ### f20: impl.Pieces -/
noncomputable def code20 : Code := match Try.f20.body with | some c => c | none => .skip
def ps20 : List AP := [.val false [.int .i64], .val false [.str]]
def rs20 : List RP := [{ src := .tmp 4, agg := false, ps := [.own (.cons .str .nil)] }, { src := .tmp 5, agg := false, ps := [.bool] }]
noncomputable def sl20 : SemL := [(68, (.shr, .shr, .shr, sem68)), (72, (.shr, .shr, .shr, sem72))]
def D20 : Draws := fun _ => .nil
def hp20_0 : List (Option AP) := [some (.val false [.int .i64]), some (.val false [.str]), none, none, none, none, some (.val false [.int .i64]), some (.val false [.own (.cons .str .nil)]), none, none, none, none, none, none, none, none, none, none, none, none, none, none, none, none, some (.val false [.int .i64]), some (.val false [.int .i64]), none, none, none, none, none, none, none, none, none, none, none, none, none, none, none, none, none, none, none, none, none, none, none, none, none, none, none]
def e20_0 : List (Option AP) := [none, none, none, none, none, none, none, some (.val false [.own (.cons .str .nil)]), none, none, none, none, none, none, none, none, none, none, none, none, none, none, none, none, none, none, none, none, none, none, none, none, none, none, none, none, none, none, none, none, none, none, none, none, none, none, none, none, none, none, none, none, none]
def q20_0 : List (Option AP) := [none, none, none, none, none, none, none, none, none, none, none, none, none, none, none, none, none, none, none, none, none, none, none, none, none, none, none, none, none, none, none, none, none, none, none, none, none, none, none, none, none, none, none, none, none, none, none, none, none, none, none, none, none]
abbrev H20_0 : Type := Int × ByteArray × Int × (List (ByteArray × Unit)) × Int × Int × Unit
abbrev E20_0 : Type := (List (ByteArray × Unit)) × Unit
abbrev Q20_0 : Type := Unit
noncomputable def impl_Pieces_c0 (num0 : Int) (s1 : ByteArray) (count6 : Int) (out7 : List (ByteArray × Unit)) (t24 : Int) (t25 : Int) : Option (Sum H20_0 (Sum E20_0 Q20_0)) :=
  bif decide (t25 < t24) then
    bif decide ((0 : Int) ≤ IntKind.i64.wrap (t25 * (40 : Int))) then bif decide (((Int.toNat (IntKind.i64.wrap (t25 * (40 : Int))) : Nat) : Int) ≤ (if ((ByteArray.size s1 : Nat) : Int) < IntKind.i64.wrap ((IntKind.i64.wrap (t25 + (1 : Int))) * (40 : Int)) then ((ByteArray.size s1 : Nat) : Int) else IntKind.i64.wrap ((IntKind.i64.wrap (t25 + (1 : Int))) * (40 : Int)))) then bif decide ((if ((ByteArray.size s1 : Nat) : Int) < IntKind.i64.wrap ((IntKind.i64.wrap (t25 + (1 : Int))) * (40 : Int)) then ((ByteArray.size s1 : Nat) : Int) else IntKind.i64.wrap ((IntKind.i64.wrap (t25 + (1 : Int))) * (40 : Int))) ≤ ((ByteArray.size s1 : Nat) : Int)) then Option.bind (impl_varText num0) fun y2 =>
          Option.bind (impl_varText t25) fun y3 =>
          bif Nat.ble ((ByteArray.size y2.1) + (ByteArray.size y3.1)) lim then Option.bind (impl_varText count6) fun y4 =>
            bif Nat.ble ((ByteArray.size (y2.1 ++ y3.1)) + (ByteArray.size y4.1)) lim then bif Nat.ble ((ByteArray.size ((y2.1 ++ y3.1) ++ y4.1)) + (ByteArray.size (ByteArray.extract s1 (Int.toNat (IntKind.i64.wrap (t25 * (40 : Int)))) (Int.toNat (if ((ByteArray.size s1 : Nat) : Int) < IntKind.i64.wrap ((IntKind.i64.wrap (t25 + (1 : Int))) * (40 : Int)) then ((ByteArray.size s1 : Nat) : Int) else IntKind.i64.wrap ((IntKind.i64.wrap (t25 + (1 : Int))) * (40 : Int))))))) lim then bif Nat.ble (((List.length out7) + 1) * 16) lim then some (.inl (num0, s1, count6, out7 ++ [(((y2.1 ++ y3.1) ++ y4.1) ++ (ByteArray.extract s1 (Int.toNat (IntKind.i64.wrap (t25 * (40 : Int)))) (Int.toNat (if ((ByteArray.size s1 : Nat) : Int) < IntKind.i64.wrap ((IntKind.i64.wrap (t25 + (1 : Int))) * (40 : Int)) then ((ByteArray.size s1 : Nat) : Int) else IntKind.i64.wrap ((IntKind.i64.wrap (t25 + (1 : Int))) * (40 : Int))))), ())], t24, IntKind.i64.wrap (t25 + (1 : Int)), ()))
                else none
              else none
            else none
          else none
        else none
      else none
    else none
  else
    some (.inr (.inl (out7, ())))
noncomputable def impl_Pieces_r0 (x : H20_0) : Option (Sum H20_0 (Sum E20_0 Q20_0)) := impl_Pieces_c0 x.1 x.2.1 x.2.2.1 x.2.2.2.1 x.2.2.2.2.1 x.2.2.2.2.2.1
noncomputable def L20 {R : Type} : Loops R := fun id _ st k => bif Nat.beq id 0 then loopAt hp20_0 e20_0 q20_0 impl_Pieces_r0 st k else none
noncomputable def impl_Pieces (num0 : Int) (s1 : ByteArray) : Option ((List (ByteArray × Unit)) × Bool × Unit) :=
  Option.bind (impl_inRange num0 (0 : Int) (100000 : Int)) fun y1 =>
  bif !y1.1 then
    some ([], false, ())
  else bif decide ((400 : Int) < ((ByteArray.size s1 : Nat) : Int)) then
    some ([], false, ())
  else
    outK (loopV impl_Pieces_r0 (num0, s1, (if IntKind.i64.wrap (Int.tdiv (IntKind.i64.wrap ((IntKind.i64.wrap (((ByteArray.size s1 : Nat) : Int) + (40 : Int))) - (1 : Int))) (40 : Int)) > (1 : Int) then IntKind.i64.wrap (Int.tdiv (IntKind.i64.wrap ((IntKind.i64.wrap (((ByteArray.size s1 : Nat) : Int) + (40 : Int))) - (1 : Int))) (40 : Int)) else (1 : Int)), [], (if IntKind.i64.wrap (Int.tdiv (IntKind.i64.wrap ((IntKind.i64.wrap (((ByteArray.size s1 : Nat) : Int) + (40 : Int))) - (1 : Int))) (40 : Int)) > (1 : Int) then IntKind.i64.wrap (Int.tdiv (IntKind.i64.wrap ((IntKind.i64.wrap (((ByteArray.size s1 : Nat) : Int) + (40 : Int))) - (1 : Int))) (40 : Int)) else (1 : Int)), (0 : Int), ())) (fun y2 =>
      some (y2.1, true, ())) (fun y3 =>
      none)
noncomputable def x20 (x : Int × ByteArray × Unit) : Option ((List (ByteArray × Unit)) × Bool × Unit) := impl_Pieces x.1 x.2.1
noncomputable def sem20 : Sem1 := semOf ps20 rs20 x20
theorem so20 : SemsOk Try.prog (semsOf sl20) := sems_cons k68 (sems_cons k72 (sems_nil))
noncomputable def b20_0 : Code := nthLoop code20 0
theorem t20_r0_eq (x : denR (headRT hp20_0)) : codeK (tabOf tr) (semsOf sl20) D20 L20 b20_0 (headSt hp20_0 x) (roundK 0 hp20_0 e20_0 q20_0) = impl_Pieces_r0 x := by kernel_rfl
theorem loop20_0 {R : Type} (r : R) (w0 : World) (mu : Mu) (hs : AnShape ps20 mu) : LoopAt Try.prog w0 mu 53 (L20 : Loops R) r 0 b20_0 :=
  loop_auto tr_ok eq_ok mixed_ok so20 (D := D20) hs (by kernel_rfl) (fun _ => (loops_of (l := []) (by kernel_rfl) (List.forall_mem_nil _))) t20_r0_eq (fun _ _ => rfl)
theorem t20_eq (x : denR (headRT (ps20.map some))) : codeK (tabOf tr) (semsOf sl20) D20 L20 code20 (start 53 ps20 x) (finK rs20 ps20) = x20 x := by kernel_rfl
theorem k20 : Known Try.prog 20 sem20 :=
  fn_auto tr_ok eq_ok mixed_ok so20 (D := D20) (code := code20) (n := 53) Try.func20 (by kernel_rfl) (by kernel_rfl) (by kernel_rfl) (fun w0 mu _ hs => (loops_of (l := [(0, b20_0)]) (by kernel_rfl) (List.forall_mem_cons.2 ⟨loop20_0 _ w0 mu hs, (List.forall_mem_nil _)⟩))) t20_eq

/-! ### f21: laws.eqStringS -/
noncomputable def code21 : Code := match Try.f21.body with | some c => c | none => .skip
def ps21 : List AP := [.val false [.shr (.cons .str .nil)], .val false [.shr (.cons .str .nil)]]
def rs21 : List RP := [{ src := .tmp 4, agg := false, ps := [.bool] }]
noncomputable def sl21 : SemL := []
def D21 : Draws := fun id => bif Nat.beq id 6 then .op 0 .any (.op 1 .any (.op 2 .any (.op 3 .take (.op 4 .any (.op 5 .any (.op 6 .any (.op 7 .take (.op 8 .any (.nil))))))))) else .nil
def hp21_0 : List (Option AP) := [some (.val false [.shr (.cons .str .nil)]), some (.val false [.shr (.cons .str .nil)]), none, none, none, some (.val false [.int .i64]), none, none, none, none, none, none, none, none, none, none, none, none, none, none, none, none, none, none, none, none]
def e21_0 : List (Option AP) := [none, none, none, none, none, none, none, none, none, none, none, none, none, none, none, none, none, none, none, none, none, none, none, none, none, none]
def q21_0 : List (Option AP) := [none, none, none, none, some (.val false [.bool]), none, none, none, none, none, none, none, none, none, none, none, none, none, none, none, none, none, none, none, none, none]
abbrev H21_0 : Type := (List (ByteArray × Unit)) × (List (ByteArray × Unit)) × Int × Unit
abbrev E21_0 : Type := Unit
abbrev Q21_0 : Type := Bool × Unit
noncomputable def laws_eqStringS_c0 (a0 : List (ByteArray × Unit)) (b1 : List (ByteArray × Unit)) (i5 : Int) : Option (Sum H21_0 (Sum E21_0 Q21_0)) :=
  bif decide (i5 < ((List.length a0 : Nat) : Int)) then
    bif decide ((0 : Int) ≤ i5) then Option.bind ((a0)[Int.toNat i5]?) fun r1 =>
      bif decide ((0 : Int) ≤ i5) then Option.bind ((b1)[Int.toNat i5]?) fun r2 =>
        bif !strEq r1.1 r2.1 then
          some (.inr (.inr (false, ())))
        else
          some (.inl (a0, b1, IntKind.i64.wrap (i5 + (1 : Int)), ()))
      else none
    else none
  else
    some (.inr (.inl (())))
noncomputable def laws_eqStringS_r0 (x : H21_0) : Option (Sum H21_0 (Sum E21_0 Q21_0)) := laws_eqStringS_c0 x.1 x.2.1 x.2.2.1
noncomputable def L21 {R : Type} : Loops R := fun id _ st k => bif Nat.beq id 0 then loopAt hp21_0 e21_0 q21_0 laws_eqStringS_r0 st k else none
noncomputable def laws_eqStringS (a0 : List (ByteArray × Unit)) (b1 : List (ByteArray × Unit)) : Option (Bool × Unit) :=
  bif !decide (((List.length a0 : Nat) : Int) = ((List.length b1 : Nat) : Int)) then
    some (false, ())
  else
    outK (loopV laws_eqStringS_r0 (a0, b1, (0 : Int), ())) (fun y1 =>
      some (true, ())) (fun y2 =>
      some (y2.1, ()))
noncomputable def x21 (x : (List (ByteArray × Unit)) × (List (ByteArray × Unit)) × Unit) : Option (Bool × Unit) := laws_eqStringS x.1 x.2.1
noncomputable def sem21 : Sem1 := semOf ps21 rs21 x21
theorem so21 : SemsOk Try.prog (semsOf sl21) := sems_nil
noncomputable def b21_0 : Code := nthLoop code21 0
theorem t21_r0_eq (x : denR (headRT hp21_0)) : codeK (tabOf tr) (semsOf sl21) D21 L21 b21_0 (headSt hp21_0 x) (roundK 0 hp21_0 e21_0 q21_0) = laws_eqStringS_r0 x := by kernel_rfl
theorem loop21_0 {R : Type} (r : R) (w0 : World) (mu : Mu) (hs : AnShape ps21 mu) : LoopAt Try.prog w0 mu 26 (L21 : Loops R) r 0 b21_0 :=
  loop_auto tr_ok eq_ok mixed_ok so21 (D := D21) hs (by kernel_rfl) (fun _ => (loops_of (l := []) (by kernel_rfl) (List.forall_mem_nil _))) t21_r0_eq (fun _ _ => rfl)
theorem t21_eq (x : denR (headRT (ps21.map some))) : codeK (tabOf tr) (semsOf sl21) D21 L21 code21 (start 26 ps21 x) (finK rs21 ps21) = x21 x := by kernel_rfl
theorem k21 : Known Try.prog 21 sem21 :=
  fn_auto tr_ok eq_ok mixed_ok so21 (D := D21) (code := code21) (n := 26) Try.func21 (by kernel_rfl) (by kernel_rfl) (by kernel_rfl) (fun w0 mu _ hs => (loops_of (l := [(0, b21_0)]) (by kernel_rfl) (List.forall_mem_cons.2 ⟨loop21_0 _ w0 mu hs, (List.forall_mem_nil _)⟩))) t21_eq

/-! ### f73: laws.markText -/
noncomputable def code73 : Code := match Try.f73.body with | some c => c | none => .skip
def ps73 : List AP := [.val false [.int .i64]]
def rs73 : List RP := [{ src := .tmp 2, agg := false, ps := [.str] }]
noncomputable def sl73 : SemL := []
def D73 : Draws := fun _ => .nil
def hp73_0 : List (Option AP) := [some (.val false [.int .i64]), none, none, some (.val false [.str]), none, none, none, none, none, none, none, none, none, none, none, none, none, none, none, none]
def e73_0 : List (Option AP) := [none, none, none, some (.val false [.str]), none, none, none, none, none, none, none, none, none, none, none, none, none, none, none, none]
def q73_0 : List (Option AP) := [none, none, none, none, none, none, none, none, none, none, none, none, none, none, none, none, none, none, none, none]
abbrev H73_0 : Type := Int × ByteArray × Unit
abbrev E73_0 : Type := ByteArray × Unit
abbrev Q73_0 : Type := Unit
noncomputable def laws_markText_c0 (k0 : Int) (out3 : ByteArray) : Option (Sum H73_0 (Sum E73_0 Q73_0)) :=
  bif decide ((0 : Int) < k0) then
    bif Nat.ble ((ByteArray.size (bytesOf [(IntKind.u8.wrap (IntKind.i64.wrap ((48 : Int) + (Int.tmod k0 (10 : Int)))), ())])) + (ByteArray.size out3)) lim then some (.inl (IntKind.i64.wrap (Int.tdiv k0 (10 : Int)), (bytesOf [(IntKind.u8.wrap (IntKind.i64.wrap ((48 : Int) + (Int.tmod k0 (10 : Int)))), ())]) ++ out3, ()))
    else none
  else
    some (.inr (.inl (out3, ())))
noncomputable def laws_markText_r0 (x : H73_0) : Option (Sum H73_0 (Sum E73_0 Q73_0)) := laws_markText_c0 x.1 x.2.1
noncomputable def L73 {R : Type} : Loops R := fun id _ st k => bif Nat.beq id 0 then loopAt hp73_0 e73_0 q73_0 laws_markText_r0 st k else none
noncomputable def laws_markText (k0 : Int) : Option (ByteArray × Unit) :=
  bif decide (k0 ≤ (0 : Int)) then
    some ((ByteArray.mk #[109, 48]), ())
  else
    outK (loopV laws_markText_r0 (k0, (ByteArray.mk #[]), ())) (fun y1 =>
      bif Nat.ble (1 + (ByteArray.size y1.1)) lim then some ((ByteArray.mk #[109]) ++ y1.1, ())
      else none) (fun y2 =>
      none)
noncomputable def x73 (x : Int × Unit) : Option (ByteArray × Unit) := laws_markText x.1
noncomputable def sem73 : Sem1 := semOf ps73 rs73 x73
theorem so73 : SemsOk Try.prog (semsOf sl73) := sems_nil
noncomputable def b73_0 : Code := nthLoop code73 0
theorem t73_r0_eq (x : denR (headRT hp73_0)) : codeK (tabOf tr) (semsOf sl73) D73 L73 b73_0 (headSt hp73_0 x) (roundK 0 hp73_0 e73_0 q73_0) = laws_markText_r0 x := by kernel_rfl
theorem loop73_0 {R : Type} (r : R) (w0 : World) (mu : Mu) (hs : AnShape ps73 mu) : LoopAt Try.prog w0 mu 20 (L73 : Loops R) r 0 b73_0 :=
  loop_auto tr_ok eq_ok mixed_ok so73 (D := D73) hs (by kernel_rfl) (fun _ => (loops_of (l := []) (by kernel_rfl) (List.forall_mem_nil _))) t73_r0_eq (fun _ _ => rfl)
theorem t73_eq (x : denR (headRT (ps73.map some))) : codeK (tabOf tr) (semsOf sl73) D73 L73 code73 (start 20 ps73 x) (finK rs73 ps73) = x73 x := by kernel_rfl
theorem k73 : Known Try.prog 73 sem73 :=
  fn_auto tr_ok eq_ok mixed_ok so73 (D := D73) (code := code73) (n := 20) Try.func73 (by kernel_rfl) (by kernel_rfl) (by kernel_rfl) (fun w0 mu _ hs => (loops_of (l := [(0, b73_0)]) (by kernel_rfl) (List.forall_mem_cons.2 ⟨loop73_0 _ w0 mu hs, (List.forall_mem_nil _)⟩))) t73_eq

/-! ### f22: laws.markStringS -/
noncomputable def code22 : Code := match Try.f22.body with | some c => c | none => .skip
def ps22 : List AP := [.io (.cons .str .nil), .val false [.int .i64]]
def rs22 : List RP := [{ src := .tmp 4, agg := false, ps := [.int .i64] }]
noncomputable def sl22 : SemL := [(73, (.shr, .shr, .shr, sem73))]
def D22 : Draws := fun _ => .nil
def hp22_0 : List (Option AP) := [some (.io (.cons .str .nil)), some (.val false [.int .i64]), none, none, none, some (.val false [.int .i64]), none, none, none, none, none, none, none, none, none, none, none, none, none, none]
def e22_0 : List (Option AP) := [some (.io (.cons .str .nil)), some (.val false [.int .i64]), none, none, none, none, none, none, none, none, none, none, none, none, none, none, none, none, none, none]
def q22_0 : List (Option AP) := [none, none, none, none, none, none, none, none, none, none, none, none, none, none, none, none, none, none, none, none]
abbrev H22_0 : Type := (List (ByteArray × Unit)) × Int × Int × Unit
abbrev E22_0 : Type := (List (ByteArray × Unit)) × Int × Unit
abbrev Q22_0 : Type := Unit
noncomputable def laws_markStringS_c0 (a0 : List (ByteArray × Unit)) (k1 : Int) (i5 : Int) : Option (Sum H22_0 (Sum E22_0 Q22_0)) :=
  bif decide (i5 < ((List.length a0 : Nat) : Int)) then
    Option.bind (laws_markText k1) fun y1 =>
    bif decide ((0 : Int) ≤ i5) then bif Nat.blt (Int.toNat i5) (List.length a0) then Option.bind ((a0)[Int.toNat i5]?) fun r2 =>
        some (.inl (List.set a0 (Int.toNat i5) (y1.1, ()), IntKind.i64.wrap (k1 + (1 : Int)), IntKind.i64.wrap (i5 + (1 : Int)), ()))
      else none
    else none
  else
    some (.inr (.inl (a0, k1, ())))
noncomputable def laws_markStringS_r0 (x : H22_0) : Option (Sum H22_0 (Sum E22_0 Q22_0)) := laws_markStringS_c0 x.1 x.2.1 x.2.2.1
noncomputable def L22 {R : Type} : Loops R := fun id _ st k => bif Nat.beq id 0 then loopAt hp22_0 e22_0 q22_0 laws_markStringS_r0 st k else none
noncomputable def laws_markStringS (a0 : List (ByteArray × Unit)) (k1 : Int) : Option (Int × (List (ByteArray × Unit)) × Unit) :=
  outK (loopV laws_markStringS_r0 (a0, k1, (0 : Int), ())) (fun y1 =>
    some (y1.2.1, y1.1, ())) (fun y2 =>
    none)
noncomputable def x22 (x : (List (ByteArray × Unit)) × Int × Unit) : Option (Int × (List (ByteArray × Unit)) × Unit) := laws_markStringS x.1 x.2.1
noncomputable def sem22 : Sem1 := semOf ps22 rs22 x22
theorem so22 : SemsOk Try.prog (semsOf sl22) := sems_cons k73 (sems_nil)
noncomputable def b22_0 : Code := nthLoop code22 0
theorem t22_r0_eq (x : denR (headRT hp22_0)) : codeK (tabOf tr) (semsOf sl22) D22 L22 b22_0 (headSt hp22_0 x) (roundK 0 hp22_0 e22_0 q22_0) = laws_markStringS_r0 x := by kernel_rfl
theorem loop22_0 {R : Type} (r : R) (w0 : World) (mu : Mu) (hs : AnShape ps22 mu) : LoopAt Try.prog w0 mu 20 (L22 : Loops R) r 0 b22_0 :=
  loop_auto tr_ok eq_ok mixed_ok so22 (D := D22) hs (by kernel_rfl) (fun _ => (loops_of (l := []) (by kernel_rfl) (List.forall_mem_nil _))) t22_r0_eq (fun _ _ => rfl)
theorem t22_eq (x : denR (headRT (ps22.map some))) : codeK (tabOf tr) (semsOf sl22) D22 L22 code22 (start 20 ps22 x) (finK rs22 ps22) = x22 x := by kernel_rfl
theorem k22 : Known Try.prog 22 sem22 :=
  fn_auto tr_ok eq_ok mixed_ok so22 (D := D22) (code := code22) (n := 20) Try.func22 (by kernel_rfl) (by kernel_rfl) (by kernel_rfl) (fun w0 mu _ hs => (loops_of (l := [(0, b22_0)]) (by kernel_rfl) (List.forall_mem_cons.2 ⟨loop22_0 _ w0 mu hs, (List.forall_mem_nil _)⟩))) t22_eq

/-! ### f23: laws.heldStringS -/
noncomputable def code23 : Code := match Try.f23.body with | some c => c | none => .skip
def ps23 : List AP := [.val false [.shr (.cons .str .nil)], .val false [.int .i64]]
def rs23 : List RP := [{ src := .tmp 4, agg := false, ps := [.int .i64] }]
noncomputable def sl23 : SemL := [(73, (.shr, .shr, .shr, sem73))]
def D23 : Draws := fun id => bif Nat.beq id 4 then .op 0 .any (.op 1 .any (.op 2 .any (.op 3 .take (.op 4 .any (.op 5 .one (.op 6 .any (.nil))))))) else .nil
def hp23_0 : List (Option AP) := [some (.val false [.shr (.cons .str .nil)]), some (.val false [.int .i64]), none, none, none, some (.val false [.int .i64]), none, none, none, none, none, none, none, none, none, none, none, none, none, none, none, none]
def e23_0 : List (Option AP) := [none, some (.val false [.int .i64]), none, none, none, none, none, none, none, none, none, none, none, none, none, none, none, none, none, none, none, none]
def q23_0 : List (Option AP) := [none, none, none, none, some (.val false [.int .i64]), none, none, none, none, none, none, none, none, none, none, none, none, none, none, none, none, none]
abbrev H23_0 : Type := (List (ByteArray × Unit)) × Int × Int × Unit
abbrev E23_0 : Type := Int × Unit
abbrev Q23_0 : Type := Int × Unit
noncomputable def laws_heldStringS_c0 (a0 : List (ByteArray × Unit)) (k1 : Int) (i5 : Int) : Option (Sum H23_0 (Sum E23_0 Q23_0)) :=
  bif decide (i5 < ((List.length a0 : Nat) : Int)) then
    bif decide ((0 : Int) ≤ i5) then Option.bind ((a0)[Int.toNat i5]?) fun r1 =>
      Option.bind (laws_markText k1) fun y2 =>
      bif !strEq r1.1 y2.1 then
        some (.inr (.inr ((-1 : Int), ())))
      else
        some (.inl (a0, IntKind.i64.wrap (k1 + (1 : Int)), IntKind.i64.wrap (i5 + (1 : Int)), ()))
    else none
  else
    some (.inr (.inl (k1, ())))
noncomputable def laws_heldStringS_r0 (x : H23_0) : Option (Sum H23_0 (Sum E23_0 Q23_0)) := laws_heldStringS_c0 x.1 x.2.1 x.2.2.1
noncomputable def L23 {R : Type} : Loops R := fun id _ st k => bif Nat.beq id 0 then loopAt hp23_0 e23_0 q23_0 laws_heldStringS_r0 st k else none
noncomputable def laws_heldStringS (a0 : List (ByteArray × Unit)) (k1 : Int) : Option (Int × Unit) :=
  outK (loopV laws_heldStringS_r0 (a0, k1, (0 : Int), ())) (fun y1 =>
    some (y1.1, ())) (fun y2 =>
    some (y2.1, ()))
noncomputable def x23 (x : (List (ByteArray × Unit)) × Int × Unit) : Option (Int × Unit) := laws_heldStringS x.1 x.2.1
noncomputable def sem23 : Sem1 := semOf ps23 rs23 x23
theorem so23 : SemsOk Try.prog (semsOf sl23) := sems_cons k73 (sems_nil)
noncomputable def b23_0 : Code := nthLoop code23 0
theorem t23_r0_eq (x : denR (headRT hp23_0)) : codeK (tabOf tr) (semsOf sl23) D23 L23 b23_0 (headSt hp23_0 x) (roundK 0 hp23_0 e23_0 q23_0) = laws_heldStringS_r0 x := by kernel_rfl
theorem loop23_0 {R : Type} (r : R) (w0 : World) (mu : Mu) (hs : AnShape ps23 mu) : LoopAt Try.prog w0 mu 22 (L23 : Loops R) r 0 b23_0 :=
  loop_auto tr_ok eq_ok mixed_ok so23 (D := D23) hs (by kernel_rfl) (fun _ => (loops_of (l := []) (by kernel_rfl) (List.forall_mem_nil _))) t23_r0_eq (fun _ _ => rfl)
theorem t23_eq (x : denR (headRT (ps23.map some))) : codeK (tabOf tr) (semsOf sl23) D23 L23 code23 (start 22 ps23 x) (finK rs23 ps23) = x23 x := by kernel_rfl
theorem k23 : Known Try.prog 23 sem23 :=
  fn_auto tr_ok eq_ok mixed_ok so23 (D := D23) (code := code23) (n := 22) Try.func23 (by kernel_rfl) (by kernel_rfl) (by kernel_rfl) (fun w0 mu _ hs => (loops_of (l := [(0, b23_0)]) (by kernel_rfl) (List.forall_mem_cons.2 ⟨loop23_0 _ w0 mu hs, (List.forall_mem_nil _)⟩))) t23_eq

/-! ### f4: laws.FnExactPieces -/
noncomputable def code4 : Code := match Try.f4.body with | some c => c | none => .skip
def ps4 : List AP := [.val false [.int .i64], .val false [.str]]
def rs4 : List RP := [{ src := .tmp 4, agg := false, ps := [.bool] }]
noncomputable def sl4 : SemL := [(19, (.shr, .shr, .shr, sem19)), (20, (.shr, .shr, .shr, sem20)), (21, (.shr, .shr, .shr, sem21)), (22, (.io, .shr, .shr, sem22)), (23, (.shr, .shr, .shr, sem23))]
def D4 : Draws := fun _ => .nil
noncomputable def L4 {R : Type} : Loops R := fun _ _ _ _ => none
noncomputable def laws_FnExactPieces (aNum0 : Int) (aS1 : ByteArray) : Option (Bool × Unit) :=
  bif decide ((1048576 : Int) < ((ByteArray.size aS1 : Nat) : Int)) then
    some (true, ())
  else
    Option.bind (spec_Pieces aNum0 aS1) fun y1 =>
    Option.bind (impl_Pieces aNum0 aS1) fun y2 =>
    Option.bind (laws_eqStringS y2.1 y1.1) fun y3 =>
    bif !y3.1 then
      some (false, ())
    else bif !(y2.2.1 == y1.2.1) then
      some (false, ())
    else
      Option.bind (laws_markStringS y2.1 (1 : Int)) fun y4 =>
      Option.bind (laws_heldStringS y4.2.1 (1 : Int)) fun y5 =>
      bif decide (y5.1 < (0 : Int)) then
        some (false, ())
      else bif !decide (y5.1 = y4.1) then
        some (false, ())
      else
        Option.bind (impl_Pieces aNum0 aS1) fun y6 =>
        Option.bind (laws_eqStringS y6.1 y1.1) fun y7 =>
        bif !y7.1 then
          some (false, ())
        else bif !(y6.2.1 == y1.2.1) then
          some (false, ())
        else
          Option.bind (laws_heldStringS y4.2.1 (1 : Int)) fun y8 =>
          bif decide (y8.1 < (0 : Int)) then
            some (false, ())
          else bif !decide (y8.1 = y4.1) then
            some (false, ())
          else
            some (true, ())
noncomputable def x4 (x : Int × ByteArray × Unit) : Option (Bool × Unit) := laws_FnExactPieces x.1 x.2.1
noncomputable def sem4 : Sem1 := semOf ps4 rs4 x4
theorem so4 : SemsOk Try.prog (semsOf sl4) := sems_cons k19 (sems_cons k20 (sems_cons k21 (sems_cons k22 (sems_cons k23 (sems_nil)))))
theorem t4_eq (x : denR (headRT (ps4.map some))) : codeK (tabOf tr) (semsOf sl4) D4 L4 code4 (start 71 ps4 x) (finK rs4 ps4) = x4 x := by kernel_rfl
theorem k4 : Known Try.prog 4 sem4 :=
  fn_auto tr_ok eq_ok mixed_ok so4 (D := D4) (code := code4) (n := 71) Try.func4 (by kernel_rfl) (by kernel_rfl) (by kernel_rfl) (fun w0 mu _ hs => (loops_of (l := []) (by kernel_rfl) (List.forall_mem_nil _))) t4_eq

/-! ### f100: spec.ReadVar -/
noncomputable def code100 : Code := match Try.f100.body with | some c => c | none => .skip
def ps100 : List AP := [.val false [.str], .val false [.int .i64]]
def rs100 : List RP := [{ src := .tmp 4, agg := false, ps := [.int .i64] }, { src := .tmp 5, agg := false, ps := [.int .i64] }, { src := .tmp 6, agg := false, ps := [.bool] }]
noncomputable def sl100 : SemL := [(67, (.shr, .shr, .shr, sem67)), (71, (.shr, .shr, .shr, sem71))]
def D100 : Draws := fun id => bif Nat.beq id 11 then .op 0 .any (.op 1 .any (.op 2 .any (.op 3 .any (.op 5 .any (.op 6 .any (.op 7 .any (.op 8 .any (.op 9 .any (.op 4 .one (.op 10 .any (.op 11 .any (.nil)))))))))))) else .nil
def hp100_0 : List (Option AP) := [some (.val false [.str]), some (.val false [.int .i64]), none, none, none, none, none, some (.val false [.int .i64]), some (.val false [.int .i64]), some (.val false [.int .i64]), none, none, none, none, none, none, none, none, none, none, none, none, none, none, none, none, none, none, none, none, none, none, none, none, none, none, none, none, none, none, none, none, none, none, none, none, none, none, none, none, none, none, none, none, none, none, none, none]
def e100_0 : List (Option AP) := [none, none, none, none, none, none, none, none, none, none, none, none, none, none, none, none, none, none, none, none, none, none, none, none, none, none, none, none, none, none, none, none, none, none, none, none, none, none, none, none, none, none, none, none, none, none, none, none, none, none, none, none, none, none, none, none, none, none]
def q100_0 : List (Option AP) := [none, none, none, none, some (.val false [.int .i64]), some (.val false [.int .i64]), some (.val false [.bool]), none, none, none, none, none, none, none, none, none, none, none, none, none, none, none, none, none, none, none, none, none, none, none, none, none, none, none, none, none, none, none, none, none, none, none, none, none, none, none, none, none, none, none, none, none, none, none, none, none, none, none]
abbrev H100_0 : Type := ByteArray × Int × Int × Int × Int × Unit
abbrev E100_0 : Type := Unit
abbrev Q100_0 : Type := Int × Int × Bool × Unit
noncomputable def spec_ReadVar_c0 (text0 : ByteArray) (at_1 : Int) (n7 : Int) (scale8 : Int) (i9 : Int) : Option (Sum H100_0 (Sum E100_0 Q100_0)) :=
  bif decide (i9 < ((ByteArray.size text0 : Nat) : Int)) then
    bif decide (i9 < IntKind.i64.wrap (at_1 + (5 : Int))) then
      bif decide ((0 : Int) ≤ i9) then bif decide (i9 < ((ByteArray.size text0 : Nat) : Int)) then bif decide ((0 : Int) ≤ i9) then bif decide (i9 < ((ByteArray.size text0 : Nat) : Int)) then bif decide (byteAt text0 i9 < (128 : Int)) then
                bif decide ((1000000000 : Int) < IntKind.i64.wrap (n7 + (IntKind.i64.wrap ((Int.tmod (IntKind.i64.wrap (byteAt text0 i9)) (128 : Int)) * scale8)))) then
                  some (.inr (.inr ((0 : Int), (0 : Int), false, ())))
                else bif decide ((0 : Int) ≤ at_1) then bif decide (((Int.toNat at_1 : Nat) : Int) ≤ IntKind.i64.wrap (i9 + (1 : Int))) then bif decide (IntKind.i64.wrap (i9 + (1 : Int)) ≤ ((ByteArray.size text0 : Nat) : Int)) then Option.bind (spec_l01Var (IntKind.i64.wrap (n7 + (IntKind.i64.wrap ((Int.tmod (IntKind.i64.wrap (byteAt text0 i9)) (128 : Int)) * scale8))))) fun y2 =>
                      bif !strEq y2.1 (ByteArray.extract text0 (Int.toNat at_1) (Int.toNat (IntKind.i64.wrap (i9 + (1 : Int))))) then
                        some (.inr (.inr ((0 : Int), (0 : Int), false, ())))
                      else
                        some (.inr (.inr (IntKind.i64.wrap (n7 + (IntKind.i64.wrap ((Int.tmod (IntKind.i64.wrap (byteAt text0 i9)) (128 : Int)) * scale8))), IntKind.i64.wrap (i9 + (1 : Int)), true, ())))
                    else none
                  else none
                else none
              else
                some (.inl (text0, at_1, IntKind.i64.wrap (n7 + (IntKind.i64.wrap ((Int.tmod (IntKind.i64.wrap (byteAt text0 i9)) (128 : Int)) * scale8))), IntKind.i64.wrap (scale8 * (128 : Int)), IntKind.i64.wrap (i9 + (1 : Int)), ()))
            else none
          else none
        else none
      else none
    else
      some (.inr (.inl (())))
  else
    some (.inr (.inl (())))
noncomputable def spec_ReadVar_r0 (x : H100_0) : Option (Sum H100_0 (Sum E100_0 Q100_0)) := spec_ReadVar_c0 x.1 x.2.1 x.2.2.1 x.2.2.2.1 x.2.2.2.2.1
noncomputable def L100 {R : Type} : Loops R := fun id _ st k => bif Nat.beq id 0 then loopAt hp100_0 e100_0 q100_0 spec_ReadVar_r0 st k else none
noncomputable def spec_ReadVar (text0 : ByteArray) (at_1 : Int) : Option (Int × Int × Bool × Unit) :=
  Option.bind (spec_l01In at_1 (0 : Int) ((ByteArray.size text0 : Nat) : Int)) fun y1 =>
  bif !y1.1 then
    some ((0 : Int), (0 : Int), false, ())
  else
    outK (loopV spec_ReadVar_r0 (text0, at_1, (0 : Int), (1 : Int), at_1, ())) (fun y2 =>
      some ((0 : Int), (0 : Int), false, ())) (fun y3 =>
      some (y3.1, y3.2.1, y3.2.2.1, ()))
noncomputable def x100 (x : ByteArray × Int × Unit) : Option (Int × Int × Bool × Unit) := spec_ReadVar x.1 x.2.1
noncomputable def sem100 : Sem1 := semOf ps100 rs100 x100
theorem so100 : SemsOk Try.prog (semsOf sl100) := sems_cons k67 (sems_cons k71 (sems_nil))
noncomputable def b100_0 : Code := nthLoop code100 0
theorem t100_r0_eq (x : denR (headRT hp100_0)) : codeK (tabOf tr) (semsOf sl100) D100 L100 b100_0 (headSt hp100_0 x) (roundK 0 hp100_0 e100_0 q100_0) = spec_ReadVar_r0 x := by kernel_rfl
theorem loop100_0 {R : Type} (r : R) (w0 : World) (mu : Mu) (hs : AnShape ps100 mu) : LoopAt Try.prog w0 mu 58 (L100 : Loops R) r 0 b100_0 :=
  loop_auto tr_ok eq_ok mixed_ok so100 (D := D100) hs (by kernel_rfl) (fun _ => (loops_of (l := []) (by kernel_rfl) (List.forall_mem_nil _))) t100_r0_eq (fun _ _ => rfl)
theorem t100_eq (x : denR (headRT (ps100.map some))) : codeK (tabOf tr) (semsOf sl100) D100 L100 code100 (start 58 ps100 x) (finK rs100 ps100) = x100 x := by kernel_rfl
theorem k100 : Known Try.prog 100 sem100 :=
  fn_auto tr_ok eq_ok mixed_ok so100 (D := D100) (code := code100) (n := 58) Try.func100 (by kernel_rfl) (by kernel_rfl) (by kernel_rfl) (fun w0 mu _ hs => (loops_of (l := [(0, b100_0)]) (by kernel_rfl) (List.forall_mem_cons.2 ⟨loop100_0 _ w0 mu hs, (List.forall_mem_nil _)⟩))) t100_eq

/-! ### f74: spec.l05Var -/
noncomputable def code74 : Code := match Try.f74.body with | some c => c | none => .skip
def ps74 : List AP := [.box true [.str, .int .i64, .bool]]
def rs74 : List RP := [{ src := .tmp 2, agg := false, ps := [.int .i64] }]
noncomputable def sl74 : SemL := [(100, (.shr, .shr, .shr, sem100))]
def D74 : Draws := fun id => bif Nat.beq id 1 then .op 0 .any (.op 1 .any (.op 2 .any (.op 3 .take (.op 4 .any (.op 5 .any (.op 6 .any (.op 7 .take (.op 8 .one (.op 9 .any (.op 10 .any (.op 11 .any (.op 12 .any (.op 13 .any (.op 14 .any (.op 15 .any (.nil)))))))))))))))) else .nil
noncomputable def L74 {R : Type} : Loops R := fun _ _ _ _ => none
noncomputable def spec_l05Var (c0c0 : ByteArray) (c0c1 : Int) (c0c2 : Bool) : Option (Int × ByteArray × Int × Bool × Unit) :=
  Option.bind (spec_ReadVar c0c0 c0c1) fun y1 =>
  bif c0c2 then
    some ((0 : Int), c0c0, c0c1, true, ())
  else bif !y1.2.2.1 then
    some ((0 : Int), c0c0, c0c1, true, ())
  else
    some (y1.1, c0c0, y1.2.1, c0c2, ())
noncomputable def x74 (x : ByteArray × Int × Bool × Unit) : Option (Int × ByteArray × Int × Bool × Unit) := spec_l05Var x.1 x.2.1 x.2.2.1
noncomputable def sem74 : Sem1 := semOf ps74 rs74 x74
theorem so74 : SemsOk Try.prog (semsOf sl74) := sems_cons k100 (sems_nil)
theorem t74_eq (x : denR (headRT (ps74.map some))) : codeK (tabOf tr) (semsOf sl74) D74 L74 code74 (start 35 ps74 x) (finK rs74 ps74) = x74 x := by kernel_rfl
theorem k74 : Known Try.prog 74 sem74 :=
  fn_auto tr_ok eq_ok mixed_ok so74 (D := D74) (code := code74) (n := 35) Try.func74 (by kernel_rfl) (by kernel_rfl) (by kernel_rfl) (fun w0 mu _ hs => (loops_of (l := []) (by kernel_rfl) (List.forall_mem_nil _))) t74_eq

/-! ### f24: spec.ReadPiece -/
noncomputable def code24 : Code := match Try.f24.body with | some c => c | none => .skip
def ps24 : List AP := [.val false [.str]]
def rs24 : List RP := [{ src := .tmp 2, agg := false, ps := [.int .i64] }, { src := .tmp 3, agg := false, ps := [.int .i64] }, { src := .tmp 4, agg := false, ps := [.int .i64] }, { src := .tmp 5, agg := false, ps := [.str] }, { src := .tmp 6, agg := false, ps := [.bool] }]
noncomputable def sl24 : SemL := [(74, (.shr, .shr, .shr, sem74)), (67, (.shr, .shr, .shr, sem67))]
def D24 : Draws := fun _ => .nil
noncomputable def L24 {R : Type} : Loops R := fun _ _ _ _ => none
noncomputable def spec_ReadPiece (text0 : ByteArray) : Option (Int × Int × Int × ByteArray × Bool × Unit) :=
  Option.bind (spec_l05Var text0 (0 : Int) false) fun y1 =>
  Option.bind (spec_l05Var y1.2.1 y1.2.2.1 y1.2.2.2.1) fun y2 =>
  Option.bind (spec_l05Var y2.2.1 y2.2.2.1 y2.2.2.2.1) fun y3 =>
  bif decide ((0 : Int) ≤ y3.2.2.1) then bif decide (y3.2.2.1 ≤ ((ByteArray.size text0 : Nat) : Int)) then bif y3.2.2.2.1 then
        some ((0 : Int), (0 : Int), (0 : Int), (ByteArray.mk #[]), false, ())
      else bif decide ((100000 : Int) < y1.1) then
        some ((0 : Int), (0 : Int), (0 : Int), (ByteArray.mk #[]), false, ())
      else
        Option.bind (spec_l01In y3.1 (1 : Int) (10 : Int)) fun y4 =>
        bif !y4.1 then
          some ((0 : Int), (0 : Int), (0 : Int), (ByteArray.mk #[]), false, ())
        else bif decide (y3.1 ≤ y2.1) then
          some ((0 : Int), (0 : Int), (0 : Int), (ByteArray.mk #[]), false, ())
        else bif decide ((40 : Int) < ((ByteArray.size (ByteArray.extract text0 (Int.toNat y3.2.2.1) (ByteArray.size text0)) : Nat) : Int)) then
          some ((0 : Int), (0 : Int), (0 : Int), (ByteArray.mk #[]), false, ())
        else bif !(decide (IntKind.i64.wrap (y2.1 + (1 : Int)) = y3.1)) then
          bif !decide (((ByteArray.size (ByteArray.extract text0 (Int.toNat y3.2.2.1) (ByteArray.size text0)) : Nat) : Int) = (40 : Int)) then
            some ((0 : Int), (0 : Int), (0 : Int), (ByteArray.mk #[]), false, ())
          else
            some (y1.1, y2.1, y3.1, ByteArray.extract text0 (Int.toNat y3.2.2.1) (ByteArray.size text0), true, ())
        else
          some (y1.1, y2.1, y3.1, ByteArray.extract text0 (Int.toNat y3.2.2.1) (ByteArray.size text0), true, ())
    else none
  else none
noncomputable def x24 (x : ByteArray × Unit) : Option (Int × Int × Int × ByteArray × Bool × Unit) := spec_ReadPiece x.1
noncomputable def sem24 : Sem1 := semOf ps24 rs24 x24
theorem so24 : SemsOk Try.prog (semsOf sl24) := sems_cons k74 (sems_cons k67 (sems_nil))
theorem t24_eq (x : denR (headRT (ps24.map some))) : codeK (tabOf tr) (semsOf sl24) D24 L24 code24 (start 68 ps24 x) (finK rs24 ps24) = x24 x := by kernel_rfl
theorem k24 : Known Try.prog 24 sem24 :=
  fn_auto tr_ok eq_ok mixed_ok so24 (D := D24) (code := code24) (n := 68) Try.func24 (by kernel_rfl) (by kernel_rfl) (by kernel_rfl) (fun w0 mu _ hs => (loops_of (l := []) (by kernel_rfl) (List.forall_mem_nil _))) t24_eq

/-! ### f101: impl.ReadVar -/
noncomputable def code101 : Code := match Try.f101.body with | some c => c | none => .skip
def ps101 : List AP := [.val false [.str], .val false [.int .i64]]
def rs101 : List RP := [{ src := .tmp 4, agg := false, ps := [.int .i64] }, { src := .tmp 5, agg := false, ps := [.int .i64] }, { src := .tmp 6, agg := false, ps := [.bool] }]
noncomputable def sl101 : SemL := []
def D101 : Draws := fun _ => .nil
def hp101_0 : List (Option AP) := [some (.val false [.str]), some (.val false [.int .i64]), none, none, none, none, none, some (.val false [.int .i64]), some (.val false [.int .i64]), some (.val false [.int .i64]), none, none, none, none, none, none, none, none, none, none, none, none, none, none, none, none, none, none, none, none, none, none, none, none, none, none, none, none, none, none, none, none, none, none, none, none, none, none, none, none, none, none, none, none, none, none, none, none, none, none, none, none]
def e101_0 : List (Option AP) := [none, none, none, none, none, none, none, none, none, none, none, none, none, none, none, none, none, none, none, none, none, none, none, none, none, none, none, none, none, none, none, none, none, none, none, none, none, none, none, none, none, none, none, none, none, none, none, none, none, none, none, none, none, none, none, none, none, none, none, none, none, none]
def q101_0 : List (Option AP) := [none, none, none, none, some (.val false [.int .i64]), some (.val false [.int .i64]), some (.val false [.bool]), none, none, none, none, none, none, none, none, none, none, none, none, none, none, none, none, none, none, none, none, none, none, none, none, none, none, none, none, none, none, none, none, none, none, none, none, none, none, none, none, none, none, none, none, none, none, none, none, none, none, none, none, none, none, none]
abbrev H101_0 : Type := ByteArray × Int × Int × Int × Int × Unit
abbrev E101_0 : Type := Unit
abbrev Q101_0 : Type := Int × Int × Bool × Unit
noncomputable def impl_ReadVar_c0 (text0 : ByteArray) (at_1 : Int) (n7 : Int) (unit8 : Int) (i9 : Int) : Option (Sum H101_0 (Sum E101_0 Q101_0)) :=
  bif decide (i9 < (5 : Int)) then
    bif decide (IntKind.i64.wrap (at_1 + i9) < ((ByteArray.size text0 : Nat) : Int)) then
      bif decide ((0 : Int) ≤ IntKind.i64.wrap (at_1 + i9)) then bif decide (IntKind.i64.wrap (at_1 + i9) < ((ByteArray.size text0 : Nat) : Int)) then bif decide ((128 : Int) ≤ IntKind.i64.wrap (byteAt text0 (IntKind.i64.wrap (at_1 + i9)))) then
            some (.inl (text0, at_1, IntKind.i64.wrap (n7 + (IntKind.i64.wrap ((Int.tmod (IntKind.i64.wrap (byteAt text0 (IntKind.i64.wrap (at_1 + i9)))) (128 : Int)) * unit8))), IntKind.i64.wrap (unit8 * (128 : Int)), IntKind.i64.wrap (i9 + (1 : Int)), ()))
          else bif decide (IntKind.i64.wrap (byteAt text0 (IntKind.i64.wrap (at_1 + i9))) = (0 : Int)) then
            bif decide ((0 : Int) < i9) then
              some (.inr (.inr ((0 : Int), (0 : Int), false, ())))
            else bif decide ((1000000000 : Int) < IntKind.i64.wrap (n7 + (IntKind.i64.wrap ((Int.tmod (IntKind.i64.wrap (byteAt text0 (IntKind.i64.wrap (at_1 + i9)))) (128 : Int)) * unit8)))) then
              some (.inr (.inr ((0 : Int), (0 : Int), false, ())))
            else
              some (.inr (.inr (IntKind.i64.wrap (n7 + (IntKind.i64.wrap ((Int.tmod (IntKind.i64.wrap (byteAt text0 (IntKind.i64.wrap (at_1 + i9)))) (128 : Int)) * unit8))), IntKind.i64.wrap ((IntKind.i64.wrap (at_1 + i9)) + (1 : Int)), true, ())))
          else bif decide ((1000000000 : Int) < IntKind.i64.wrap (n7 + (IntKind.i64.wrap ((Int.tmod (IntKind.i64.wrap (byteAt text0 (IntKind.i64.wrap (at_1 + i9)))) (128 : Int)) * unit8)))) then
            some (.inr (.inr ((0 : Int), (0 : Int), false, ())))
          else
            some (.inr (.inr (IntKind.i64.wrap (n7 + (IntKind.i64.wrap ((Int.tmod (IntKind.i64.wrap (byteAt text0 (IntKind.i64.wrap (at_1 + i9)))) (128 : Int)) * unit8))), IntKind.i64.wrap ((IntKind.i64.wrap (at_1 + i9)) + (1 : Int)), true, ())))
        else none
      else none
    else
      some (.inr (.inl (())))
  else
    some (.inr (.inl (())))
noncomputable def impl_ReadVar_r0 (x : H101_0) : Option (Sum H101_0 (Sum E101_0 Q101_0)) := impl_ReadVar_c0 x.1 x.2.1 x.2.2.1 x.2.2.2.1 x.2.2.2.2.1
noncomputable def L101 {R : Type} : Loops R := fun id _ st k => bif Nat.beq id 0 then loopAt hp101_0 e101_0 q101_0 impl_ReadVar_r0 st k else none
noncomputable def impl_ReadVar (text0 : ByteArray) (at_1 : Int) : Option (Int × Int × Bool × Unit) :=
  bif decide (at_1 < (0 : Int)) then
    some ((0 : Int), (0 : Int), false, ())
  else bif decide (((ByteArray.size text0 : Nat) : Int) < at_1) then
    some ((0 : Int), (0 : Int), false, ())
  else
    outK (loopV impl_ReadVar_r0 (text0, at_1, (0 : Int), (1 : Int), (0 : Int), ())) (fun y1 =>
      some ((0 : Int), (0 : Int), false, ())) (fun y2 =>
      some (y2.1, y2.2.1, y2.2.2.1, ()))
noncomputable def x101 (x : ByteArray × Int × Unit) : Option (Int × Int × Bool × Unit) := impl_ReadVar x.1 x.2.1
noncomputable def sem101 : Sem1 := semOf ps101 rs101 x101
theorem so101 : SemsOk Try.prog (semsOf sl101) := sems_nil
noncomputable def b101_0 : Code := nthLoop code101 0
theorem t101_r0_eq (x : denR (headRT hp101_0)) : codeK (tabOf tr) (semsOf sl101) D101 L101 b101_0 (headSt hp101_0 x) (roundK 0 hp101_0 e101_0 q101_0) = impl_ReadVar_r0 x := by kernel_rfl
theorem loop101_0 {R : Type} (r : R) (w0 : World) (mu : Mu) (hs : AnShape ps101 mu) : LoopAt Try.prog w0 mu 62 (L101 : Loops R) r 0 b101_0 :=
  loop_auto tr_ok eq_ok mixed_ok so101 (D := D101) hs (by kernel_rfl) (fun _ => (loops_of (l := []) (by kernel_rfl) (List.forall_mem_nil _))) t101_r0_eq (fun _ _ => rfl)
theorem t101_eq (x : denR (headRT (ps101.map some))) : codeK (tabOf tr) (semsOf sl101) D101 L101 code101 (start 62 ps101 x) (finK rs101 ps101) = x101 x := by kernel_rfl
theorem k101 : Known Try.prog 101 sem101 :=
  fn_auto tr_ok eq_ok mixed_ok so101 (D := D101) (code := code101) (n := 62) Try.func101 (by kernel_rfl) (by kernel_rfl) (by kernel_rfl) (fun w0 mu _ hs => (loops_of (l := [(0, b101_0)]) (by kernel_rfl) (List.forall_mem_cons.2 ⟨loop101_0 _ w0 mu hs, (List.forall_mem_nil _)⟩))) t101_eq

/-! ### f75: impl.scanner).number -/
noncomputable def code75 : Code := match Try.f75.body with | some c => c | none => .skip
def ps75 : List AP := [.box true [.str, .int .i64, .bool]]
def rs75 : List RP := [{ src := .tmp 2, agg := false, ps := [.int .i64] }]
noncomputable def sl75 : SemL := [(101, (.shr, .shr, .shr, sem101))]
def D75 : Draws := fun id => bif Nat.beq id 1 then .op 0 .any (.op 1 .any (.op 2 .any (.op 3 .take (.op 4 .any (.op 5 .any (.op 6 .any (.op 7 .take (.op 8 .one (.op 9 .any (.op 10 .any (.op 11 .any (.op 12 .any (.op 13 .any (.op 14 .any (.op 15 .any (.nil)))))))))))))))) else .nil
noncomputable def L75 {R : Type} : Loops R := fun _ _ _ _ => none
noncomputable def impl_scanner_number (s0c0 : ByteArray) (s0c1 : Int) (s0c2 : Bool) : Option (Int × ByteArray × Int × Bool × Unit) :=
  Option.bind (impl_ReadVar s0c0 s0c1) fun y1 =>
  bif s0c2 then
    some ((0 : Int), s0c0, s0c1, true, ())
  else bif !y1.2.2.1 then
    some ((0 : Int), s0c0, s0c1, true, ())
  else
    some (y1.1, s0c0, y1.2.1, s0c2, ())
noncomputable def x75 (x : ByteArray × Int × Bool × Unit) : Option (Int × ByteArray × Int × Bool × Unit) := impl_scanner_number x.1 x.2.1 x.2.2.1
noncomputable def sem75 : Sem1 := semOf ps75 rs75 x75
theorem so75 : SemsOk Try.prog (semsOf sl75) := sems_cons k101 (sems_nil)
theorem t75_eq (x : denR (headRT (ps75.map some))) : codeK (tabOf tr) (semsOf sl75) D75 L75 code75 (start 35 ps75 x) (finK rs75 ps75) = x75 x := by kernel_rfl
theorem k75 : Known Try.prog 75 sem75 :=
  fn_auto tr_ok eq_ok mixed_ok so75 (D := D75) (code := code75) (n := 35) Try.func75 (by kernel_rfl) (by kernel_rfl) (by kernel_rfl) (fun w0 mu _ hs => (loops_of (l := []) (by kernel_rfl) (List.forall_mem_nil _))) t75_eq

/-! ### f25: impl.ReadPiece -/
noncomputable def code25 : Code := match Try.f25.body with | some c => c | none => .skip
def ps25 : List AP := [.val false [.str]]
def rs25 : List RP := [{ src := .tmp 2, agg := false, ps := [.int .i64] }, { src := .tmp 3, agg := false, ps := [.int .i64] }, { src := .tmp 4, agg := false, ps := [.int .i64] }, { src := .tmp 5, agg := false, ps := [.str] }, { src := .tmp 6, agg := false, ps := [.bool] }]
noncomputable def sl25 : SemL := [(75, (.shr, .shr, .shr, sem75))]
def D25 : Draws := fun _ => .nil
noncomputable def L25 {R : Type} : Loops R := fun _ _ _ _ => none
noncomputable def impl_ReadPiece (text0 : ByteArray) : Option (Int × Int × Int × ByteArray × Bool × Unit) :=
  Option.bind (impl_scanner_number text0 (0 : Int) false) fun y1 =>
  Option.bind (impl_scanner_number y1.2.1 y1.2.2.1 y1.2.2.2.1) fun y2 =>
  Option.bind (impl_scanner_number y2.2.1 y2.2.2.1 y2.2.2.2.1) fun y3 =>
  bif y3.2.2.2.1 then
    some ((0 : Int), (0 : Int), (0 : Int), (ByteArray.mk #[]), false, ())
  else bif decide ((100000 : Int) < y1.1) then
    some ((0 : Int), (0 : Int), (0 : Int), (ByteArray.mk #[]), false, ())
  else bif decide (y3.1 ≤ y2.1) then
    some ((0 : Int), (0 : Int), (0 : Int), (ByteArray.mk #[]), false, ())
  else bif decide ((10 : Int) < y3.1) then
    some ((0 : Int), (0 : Int), (0 : Int), (ByteArray.mk #[]), false, ())
  else bif decide ((0 : Int) ≤ y3.2.2.1) then bif decide (y3.2.2.1 ≤ ((ByteArray.size text0 : Nat) : Int)) then bif decide ((40 : Int) < ((ByteArray.size (ByteArray.extract text0 (Int.toNat y3.2.2.1) (ByteArray.size text0)) : Nat) : Int)) then
        some ((0 : Int), (0 : Int), (0 : Int), (ByteArray.mk #[]), false, ())
      else bif decide (((ByteArray.size (ByteArray.extract text0 (Int.toNat y3.2.2.1) (ByteArray.size text0)) : Nat) : Int) < (40 : Int)) then
        bif decide (y2.1 < IntKind.i64.wrap (y3.1 - (1 : Int))) then
          some ((0 : Int), (0 : Int), (0 : Int), (ByteArray.mk #[]), false, ())
        else
          some (y1.1, y2.1, y3.1, ByteArray.extract text0 (Int.toNat y3.2.2.1) (ByteArray.size text0), true, ())
      else
        some (y1.1, y2.1, y3.1, ByteArray.extract text0 (Int.toNat y3.2.2.1) (ByteArray.size text0), true, ())
    else none
  else none
noncomputable def x25 (x : ByteArray × Unit) : Option (Int × Int × Int × ByteArray × Bool × Unit) := impl_ReadPiece x.1
noncomputable def sem25 : Sem1 := semOf ps25 rs25 x25
theorem so25 : SemsOk Try.prog (semsOf sl25) := sems_cons k75 (sems_nil)
theorem t25_eq (x : denR (headRT (ps25.map some))) : codeK (tabOf tr) (semsOf sl25) D25 L25 code25 (start 54 ps25 x) (finK rs25 ps25) = x25 x := by kernel_rfl
theorem k25 : Known Try.prog 25 sem25 :=
  fn_auto tr_ok eq_ok mixed_ok so25 (D := D25) (code := code25) (n := 54) Try.func25 (by kernel_rfl) (by kernel_rfl) (by kernel_rfl) (fun w0 mu _ hs => (loops_of (l := []) (by kernel_rfl) (List.forall_mem_nil _))) t25_eq

/-! ### f5: laws.FnExactReadPiece -/
noncomputable def code5 : Code := match Try.f5.body with | some c => c | none => .skip
def ps5 : List AP := [.val false [.str]]
def rs5 : List RP := [{ src := .tmp 2, agg := false, ps := [.bool] }]
noncomputable def sl5 : SemL := [(24, (.shr, .shr, .shr, sem24)), (25, (.shr, .shr, .shr, sem25))]
def D5 : Draws := fun _ => .nil
noncomputable def L5 {R : Type} : Loops R := fun _ _ _ _ => none
noncomputable def laws_FnExactReadPiece (aText0 : ByteArray) : Option (Bool × Unit) :=
  bif decide ((1048576 : Int) < ((ByteArray.size aText0 : Nat) : Int)) then
    some (true, ())
  else
    Option.bind (spec_ReadPiece aText0) fun y1 =>
    Option.bind (impl_ReadPiece aText0) fun y2 =>
    bif !decide (y2.1 = y1.1) then
      some (false, ())
    else bif !decide (y2.2.1 = y1.2.1) then
      some (false, ())
    else bif !decide (y2.2.2.1 = y1.2.2.1) then
      some (false, ())
    else bif !strEq y2.2.2.2.1 y1.2.2.2.1 then
      some (false, ())
    else bif !(y2.2.2.2.2.1 == y1.2.2.2.2.1) then
      some (false, ())
    else
      some (true, ())
noncomputable def x5 (x : ByteArray × Unit) : Option (Bool × Unit) := laws_FnExactReadPiece x.1
noncomputable def sem5 : Sem1 := semOf ps5 rs5 x5
theorem so5 : SemsOk Try.prog (semsOf sl5) := sems_cons k24 (sems_cons k25 (sems_nil))
theorem t5_eq (x : denR (headRT (ps5.map some))) : codeK (tabOf tr) (semsOf sl5) D5 L5 code5 (start 55 ps5 x) (finK rs5 ps5) = x5 x := by kernel_rfl
theorem k5 : Known Try.prog 5 sem5 :=
  fn_auto tr_ok eq_ok mixed_ok so5 (D := D5) (code := code5) (n := 55) Try.func5 (by kernel_rfl) (by kernel_rfl) (by kernel_rfl) (fun w0 mu _ hs => (loops_of (l := []) (by kernel_rfl) (List.forall_mem_nil _))) t5_eq

/-! ### f76: laws.szIntS -/
noncomputable def code76 : Code := match Try.f76.body with | some c => c | none => .skip
def ps76 : List AP := [.val false [.shr (.cons (.int .i64) .nil)], .val false [.int .i64]]
def rs76 : List RP := [{ src := .tmp 4, agg := false, ps := [.int .i64] }]
noncomputable def sl76 : SemL := []
def D76 : Draws := fun _ => .nil
noncomputable def L76 {R : Type} : Loops R := fun _ _ _ _ => none
noncomputable def laws_szIntS (a0 : List (Int × Unit)) (left1 : Int) : Option (Int × Unit) :=
  bif decide (IntKind.i64.wrap (left1 - ((List.length a0 : Nat) : Int)) < (0 : Int)) then
    some ((-1 : Int), ())
  else
    some (IntKind.i64.wrap (left1 - ((List.length a0 : Nat) : Int)), ())
noncomputable def x76 (x : (List (Int × Unit)) × Int × Unit) : Option (Int × Unit) := laws_szIntS x.1 x.2.1
noncomputable def sem76 : Sem1 := semOf ps76 rs76 x76
theorem so76 : SemsOk Try.prog (semsOf sl76) := sems_nil
theorem t76_eq (x : denR (headRT (ps76.map some))) : codeK (tabOf tr) (semsOf sl76) D76 L76 code76 (start 12 ps76 x) (finK rs76 ps76) = x76 x := by kernel_rfl
theorem k76 : Known Try.prog 76 sem76 :=
  fn_auto tr_ok eq_ok mixed_ok so76 (D := D76) (code := code76) (n := 12) Try.func76 (by kernel_rfl) (by kernel_rfl) (by kernel_rfl) (fun w0 mu _ hs => (loops_of (l := []) (by kernel_rfl) (List.forall_mem_nil _))) t76_eq

/-! ### f26: laws.szRing -/
noncomputable def code26 : Code := match Try.f26.body with | some c => c | none => .skip
def ps26 : List AP := [.val true [.int .i64, .shr (.cons (.int .i64) .nil)], .val false [.int .i64]]
def rs26 : List RP := [{ src := .tmp 4, agg := false, ps := [.int .i64] }]
noncomputable def sl26 : SemL := [(76, (.shr, .shr, .shr, sem76))]
def D26 : Draws := fun _ => .nil
noncomputable def L26 {R : Type} : Loops R := fun _ _ _ _ => none
noncomputable def laws_szRing (a0c0 : Int) (a0c1 : List (Int × Unit)) (left1 : Int) : Option (Int × Unit) :=
  Option.bind (laws_szIntS a0c1 left1) fun y1 =>
  bif decide (y1.1 < (0 : Int)) then
    some ((-1 : Int), ())
  else
    some (y1.1, ())
noncomputable def x26 (x : Int × (List (Int × Unit)) × Int × Unit) : Option (Int × Unit) := laws_szRing x.1 x.2.1 x.2.2.1
noncomputable def sem26 : Sem1 := semOf ps26 rs26 x26
theorem so26 : SemsOk Try.prog (semsOf sl26) := sems_cons k76 (sems_nil)
theorem t26_eq (x : denR (headRT (ps26.map some))) : codeK (tabOf tr) (semsOf sl26) D26 L26 code26 (start 12 ps26 x) (finK rs26 ps26) = x26 x := by kernel_rfl
theorem k26 : Known Try.prog 26 sem26 :=
  fn_auto tr_ok eq_ok mixed_ok so26 (D := D26) (code := code26) (n := 12) Try.func26 (by kernel_rfl) (by kernel_rfl) (by kernel_rfl) (fun w0 mu _ hs => (loops_of (l := []) (by kernel_rfl) (List.forall_mem_nil _))) t26_eq

/-! ### f78: laws.toIntS -/
noncomputable def code78 : Code := match Try.f78.body with | some c => c | none => .skip
def ps78 : List AP := [.val false [.shr (.cons (.int .i64) .nil)]]
def rs78 : List RP := [{ src := .tmp 2, agg := false, ps := [.own (.cons (.int .i64) .nil)] }]
noncomputable def sl78 : SemL := []
def D78 : Draws := fun _ => .nil
def hp78_0 : List (Option AP) := [some (.val false [.shr (.cons (.int .i64) .nil)]), none, none, some (.val false [.own (.cons (.int .i64) .nil)]), some (.val false [.int .i64]), none, none, none, none, none, none, none, none, none, none, none, none, none, none, none, none, none]
def e78_0 : List (Option AP) := [none, none, none, some (.val false [.own (.cons (.int .i64) .nil)]), none, none, none, none, none, none, none, none, none, none, none, none, none, none, none, none, none, none]
def q78_0 : List (Option AP) := [none, none, none, none, none, none, none, none, none, none, none, none, none, none, none, none, none, none, none, none, none, none]
abbrev H78_0 : Type := (List (Int × Unit)) × (List (Int × Unit)) × Int × Unit
abbrev E78_0 : Type := (List (Int × Unit)) × Unit
abbrev Q78_0 : Type := Unit
noncomputable def laws_toIntS_c0 (a0 : List (Int × Unit)) (out3 : List (Int × Unit)) (i4 : Int) : Option (Sum H78_0 (Sum E78_0 Q78_0)) :=
  bif decide (i4 < ((List.length a0 : Nat) : Int)) then
    bif decide ((0 : Int) ≤ i4) then Option.bind ((a0)[Int.toNat i4]?) fun r1 =>
      bif decide ((0 : Int) ≤ i4) then bif Nat.blt (Int.toNat i4) (List.length out3) then Option.bind ((out3)[Int.toNat i4]?) fun r2 =>
          some (.inl (a0, List.set out3 (Int.toNat i4) (r1.1, ()), IntKind.i64.wrap (i4 + (1 : Int)), ()))
        else none
      else none
    else none
  else
    some (.inr (.inl (out3, ())))
noncomputable def laws_toIntS_r0 (x : H78_0) : Option (Sum H78_0 (Sum E78_0 Q78_0)) := laws_toIntS_c0 x.1 x.2.1 x.2.2.1
noncomputable def L78 {R : Type} : Loops R := fun id _ st k => bif Nat.beq id 0 then loopAt hp78_0 e78_0 q78_0 laws_toIntS_r0 st k else none
noncomputable def laws_toIntS (a0 : List (Int × Unit)) : Option ((List (Int × Unit)) × Unit) :=
  bif decide (((List.length a0 : Nat) : Int) = ((List.length a0 : Nat) : Int)) then bif decide ((0 : Int) ≤ ((List.length a0 : Nat) : Int)) then bif Nat.ble ((Int.toNat ((List.length a0 : Nat) : Int)) * 8) lim then outK (loopV laws_toIntS_r0 (a0, List.replicate (Int.toNat ((List.length a0 : Nat) : Int)) ((0 : Int), ()), (0 : Int), ())) (fun y1 =>
          some (y1.1, ())) (fun y2 =>
          none)
      else none
    else none
  else none
noncomputable def x78 (x : (List (Int × Unit)) × Unit) : Option ((List (Int × Unit)) × Unit) := laws_toIntS x.1
noncomputable def sem78 : Sem1 := semOf ps78 rs78 x78
theorem so78 : SemsOk Try.prog (semsOf sl78) := sems_nil
noncomputable def b78_0 : Code := nthLoop code78 0
theorem t78_r0_eq (x : denR (headRT hp78_0)) : codeK (tabOf tr) (semsOf sl78) D78 L78 b78_0 (headSt hp78_0 x) (roundK 0 hp78_0 e78_0 q78_0) = laws_toIntS_r0 x := by kernel_rfl
theorem loop78_0 {R : Type} (r : R) (w0 : World) (mu : Mu) (hs : AnShape ps78 mu) : LoopAt Try.prog w0 mu 22 (L78 : Loops R) r 0 b78_0 :=
  loop_auto tr_ok eq_ok mixed_ok so78 (D := D78) hs (by kernel_rfl) (fun _ => (loops_of (l := []) (by kernel_rfl) (List.forall_mem_nil _))) t78_r0_eq (fun _ _ => rfl)
theorem t78_eq (x : denR (headRT (ps78.map some))) : codeK (tabOf tr) (semsOf sl78) D78 L78 code78 (start 22 ps78 x) (finK rs78 ps78) = x78 x := by kernel_rfl
theorem k78 : Known Try.prog 78 sem78 :=
  fn_auto tr_ok eq_ok mixed_ok so78 (D := D78) (code := code78) (n := 22) Try.func78 (by kernel_rfl) (by kernel_rfl) (by kernel_rfl) (fun w0 mu _ hs => (loops_of (l := [(0, b78_0)]) (by kernel_rfl) (List.forall_mem_cons.2 ⟨loop78_0 _ w0 mu hs, (List.forall_mem_nil _)⟩))) t78_eq

/-! ### f28: laws.toRing -/
noncomputable def code28 : Code := match Try.f28.body with | some c => c | none => .skip
def ps28 : List AP := [.val true [.int .i64, .shr (.cons (.int .i64) .nil)]]
def rs28 : List RP := [{ src := .cell 2, agg := true, ps := [.int .i64, .own (.cons (.int .i64) .nil)] }]
noncomputable def sl28 : SemL := [(78, (.shr, .shr, .shr, sem78))]
def D28 : Draws := fun _ => .nil
noncomputable def L28 {R : Type} : Loops R := fun _ _ _ _ => none
noncomputable def laws_toRing (a0c0 : Int) (a0c1 : List (Int × Unit)) : Option (Int × (List (Int × Unit)) × Unit) :=
  Option.bind (laws_toIntS a0c1) fun y1 =>
  some (a0c0, y1.1, ())
noncomputable def x28 (x : Int × (List (Int × Unit)) × Unit) : Option (Int × (List (Int × Unit)) × Unit) := laws_toRing x.1 x.2.1
noncomputable def sem28 : Sem1 := semOf ps28 rs28 x28
theorem so28 : SemsOk Try.prog (semsOf sl28) := sems_cons k78 (sems_nil)
theorem t28_eq (x : denR (headRT (ps28.map some))) : codeK (tabOf tr) (semsOf sl28) D28 L28 code28 (start 12 ps28 x) (finK rs28 ps28) = x28 x := by kernel_rfl
theorem k28 : Known Try.prog 28 sem28 :=
  fn_auto tr_ok eq_ok mixed_ok so28 (D := D28) (code := code28) (n := 12) Try.func28 (by kernel_rfl) (by kernel_rfl) (by kernel_rfl) (fun w0 mu _ hs => (loops_of (l := []) (by kernel_rfl) (List.forall_mem_nil _))) t28_eq

/-! ### f77: spec.RingOk -/
noncomputable def code77 : Code := match Try.f77.body with | some c => c | none => .skip
def ps77 : List AP := [.val true [.int .i64, .shr (.cons (.int .i64) .nil)]]
def rs77 : List RP := [{ src := .tmp 2, agg := false, ps := [.bool] }]
noncomputable def sl77 : SemL := [(67, (.shr, .shr, .shr, sem67))]
def D77 : Draws := fun id => bif Nat.beq id 6 then .op 0 .any (.op 1 .take (.op 2 .any (.op 3 .any (.op 4 .take (.op 5 .one (.op 6 .any (.op 7 .any (.op 8 .any (.op 9 .any (.op 10 .any (.op 11 .any (.op 12 .take (.op 13 .any (.op 14 .any (.op 15 .any (.op 16 .take (.op 17 .any (.op 18 .take (.op 19 .any (.op 20 .any (.op 21 .take (.op 22 .any (.op 23 .any (.op 24 .any (.nil))))))))))))))))))))))))) else .nil
def hp77_0 : List (Option AP) := [none, some (.box false [.int .i64, .shr (.cons (.int .i64) .nil)]), none, some (.val false [.int .i64]), none, none, none, none, none, none, none, none, none, none, none, none, none, none, none, none, none, none, none, none, none, none, none, none, none, none, none, none, none, none, none, none, none, none, none, none, none, none, none, none, none, none, none]
def e77_0 : List (Option AP) := [none, none, none, none, none, none, none, none, none, none, none, none, none, none, none, none, none, none, none, none, none, none, none, none, none, none, none, none, none, none, none, none, none, none, none, none, none, none, none, none, none, none, none, none, none, none, none]
def q77_0 : List (Option AP) := [none, none, some (.val false [.bool]), none, none, none, none, none, none, none, none, none, none, none, none, none, none, none, none, none, none, none, none, none, none, none, none, none, none, none, none, none, none, none, none, none, none, none, none, none, none, none, none, none, none, none, none]
abbrev H77_0 : Type := Int × (List (Int × Unit)) × Int × Unit
abbrev E77_0 : Type := Unit
abbrev Q77_0 : Type := Bool × Unit
noncomputable def spec_RingOk_c0 (r1c0 : Int) (r1c1 : List (Int × Unit)) (i3 : Int) : Option (Sum H77_0 (Sum E77_0 Q77_0)) :=
  bif decide (i3 < ((List.length r1c1 : Nat) : Int)) then
    bif decide ((0 : Int) ≤ i3) then Option.bind ((r1c1)[Int.toNat i3]?) fun r3 =>
      Option.bind (spec_l01In r3.1 (1 : Int) (5 : Int)) fun y4 =>
      bif !y4.1 then
        some (.inr (.inr (false, ())))
      else bif decide ((0 : Int) < i3) then
        bif decide ((0 : Int) ≤ IntKind.i64.wrap (i3 - (1 : Int))) then Option.bind ((r1c1)[Int.toNat (IntKind.i64.wrap (i3 - (1 : Int)))]?) fun r5 =>
          bif decide ((0 : Int) ≤ i3) then Option.bind ((r1c1)[Int.toNat i3]?) fun r6 =>
            bif decide (r6.1 ≤ r5.1) then
              some (.inr (.inr (false, ())))
            else
              some (.inl (r1c0, r1c1, IntKind.i64.wrap (i3 + (1 : Int)), ()))
          else none
        else none
      else
        some (.inl (r1c0, r1c1, IntKind.i64.wrap (i3 + (1 : Int)), ()))
    else none
  else
    some (.inr (.inl (())))
noncomputable def spec_RingOk_r0 (x : H77_0) : Option (Sum H77_0 (Sum E77_0 Q77_0)) := spec_RingOk_c0 x.1 x.2.1 x.2.2.1
noncomputable def L77 {R : Type} : Loops R := fun id _ st k => bif Nat.beq id 0 then loopAt hp77_0 e77_0 q77_0 spec_RingOk_r0 st k else none
noncomputable def spec_RingOk (r0c0 : Int) (r0c1 : List (Int × Unit)) : Option (Bool × Unit) :=
  Option.bind (spec_l01In r0c0 (1 : Int) (9 : Int)) fun y1 =>
  bif !y1.1 then
    some (false, ())
  else
    Option.bind (spec_l01In ((List.length r0c1 : Nat) : Int) (1 : Int) (5 : Int)) fun y2 =>
    bif !y2.1 then
      some (false, ())
    else
      outK (loopV spec_RingOk_r0 (r0c0, r0c1, (0 : Int), ())) (fun y3 =>
        some (true, ())) (fun y4 =>
        some (y4.1, ()))
noncomputable def x77 (x : Int × (List (Int × Unit)) × Unit) : Option (Bool × Unit) := spec_RingOk x.1 x.2.1
noncomputable def sem77 : Sem1 := semOf ps77 rs77 x77
theorem so77 : SemsOk Try.prog (semsOf sl77) := sems_cons k67 (sems_nil)
noncomputable def b77_0 : Code := nthLoop code77 0
theorem t77_r0_eq (x : denR (headRT hp77_0)) : codeK (tabOf tr) (semsOf sl77) D77 L77 b77_0 (headSt hp77_0 x) (roundK 0 hp77_0 e77_0 q77_0) = spec_RingOk_r0 x := by kernel_rfl
theorem loop77_0 {R : Type} (r : R) (w0 : World) (mu : Mu) (hs : AnShape ps77 mu) : LoopAt Try.prog w0 mu 47 (L77 : Loops R) r 0 b77_0 :=
  loop_auto tr_ok eq_ok mixed_ok so77 (D := D77) hs (by kernel_rfl) (fun _ => (loops_of (l := []) (by kernel_rfl) (List.forall_mem_nil _))) t77_r0_eq (fun _ _ => rfl)
theorem t77_eq (x : denR (headRT (ps77.map some))) : codeK (tabOf tr) (semsOf sl77) D77 L77 code77 (start 47 ps77 x) (finK rs77 ps77) = x77 x := by kernel_rfl
theorem k77 : Known Try.prog 77 sem77 :=
  fn_auto tr_ok eq_ok mixed_ok so77 (D := D77) (code := code77) (n := 47) Try.func77 (by kernel_rfl) (by kernel_rfl) (by kernel_rfl) (fun w0 mu _ hs => (loops_of (l := [(0, b77_0)]) (by kernel_rfl) (List.forall_mem_cons.2 ⟨loop77_0 _ w0 mu hs, (List.forall_mem_nil _)⟩))) t77_eq

/-! ### f27: spec.NextOf -/
noncomputable def code27 : Code := match Try.f27.body with | some c => c | none => .skip
def ps27 : List AP := [.val true [.int .i64, .shr (.cons (.int .i64) .nil)], .val false [.int .i64]]
def rs27 : List RP := [{ src := .tmp 4, agg := false, ps := [.int .i64] }]
noncomputable def sl27 : SemL := [(77, (.shr, .shr, .shr, sem77))]
def D27 : Draws := fun id => bif Nat.beq id 7 then .op 0 .any (.op 1 .take (.op 2 .any (.op 3 .any (.op 4 .any (.op 5 .take (.op 6 .any (.op 7 .any (.op 8 .any (.op 9 .take (.op 10 .any (.nil))))))))))) else .nil
def hp27_0 : List (Option AP) := [none, some (.val false [.int .i64]), some (.box false [.int .i64, .shr (.cons (.int .i64) .nil)]), none, none, some (.val false [.int .i64]), none, none, none, none, none, none, none, none, none, none, none, none, none, none, none, none, none, none, none, none, none, none, none, none, none, none, none]
def e27_0 : List (Option AP) := [none, none, none, none, none, none, none, none, none, none, none, none, none, none, none, none, none, none, none, none, none, none, none, none, none, none, none, none, none, none, none, none, none]
def q27_0 : List (Option AP) := [none, none, none, none, some (.val false [.int .i64]), none, none, none, none, none, none, none, none, none, none, none, none, none, none, none, none, none, none, none, none, none, none, none, none, none, none, none, none]
abbrev H27_0 : Type := Int × Int × (List (Int × Unit)) × Int × Unit
abbrev E27_0 : Type := Unit
abbrev Q27_0 : Type := Int × Unit
noncomputable def spec_NextOf_c0 (d1 : Int) (r2c0 : Int) (r2c1 : List (Int × Unit)) (i5 : Int) : Option (Sum H27_0 (Sum E27_0 Q27_0)) :=
  bif decide (i5 < ((List.length r2c1 : Nat) : Int)) then
    bif decide ((0 : Int) ≤ i5) then Option.bind ((r2c1)[Int.toNat i5]?) fun r2 =>
      bif decide (r2.1 = d1) then
        bif decide (((List.length r2c1 : Nat) : Int) = 0) then
          none
        else bif decide ((0 : Int) ≤ Int.tmod (IntKind.i64.wrap (i5 + (1 : Int))) ((List.length r2c1 : Nat) : Int)) then Option.bind ((r2c1)[Int.toNat (Int.tmod (IntKind.i64.wrap (i5 + (1 : Int))) ((List.length r2c1 : Nat) : Int))]?) fun r3 =>
          some (.inr (.inr (r3.1, ())))
        else none
      else
        some (.inl (d1, r2c0, r2c1, IntKind.i64.wrap (i5 + (1 : Int)), ()))
    else none
  else
    some (.inr (.inl (())))
noncomputable def spec_NextOf_r0 (x : H27_0) : Option (Sum H27_0 (Sum E27_0 Q27_0)) := spec_NextOf_c0 x.1 x.2.1 x.2.2.1 x.2.2.2.1
noncomputable def L27 {R : Type} : Loops R := fun id _ st k => bif Nat.beq id 0 then loopAt hp27_0 e27_0 q27_0 spec_NextOf_r0 st k else none
noncomputable def spec_NextOf (r0c0 : Int) (r0c1 : List (Int × Unit)) (d1 : Int) : Option (Int × Unit) :=
  Option.bind (spec_RingOk r0c0 r0c1) fun y1 =>
  bif !y1.1 then
    some ((0 : Int), ())
  else
    outK (loopV spec_NextOf_r0 (d1, r0c0, r0c1, (0 : Int), ())) (fun y2 =>
      some ((0 : Int), ())) (fun y3 =>
      some (y3.1, ()))
noncomputable def x27 (x : Int × (List (Int × Unit)) × Int × Unit) : Option (Int × Unit) := spec_NextOf x.1 x.2.1 x.2.2.1
noncomputable def sem27 : Sem1 := semOf ps27 rs27 x27
theorem so27 : SemsOk Try.prog (semsOf sl27) := sems_cons k77 (sems_nil)
noncomputable def b27_0 : Code := nthLoop code27 0
theorem t27_r0_eq (x : denR (headRT hp27_0)) : codeK (tabOf tr) (semsOf sl27) D27 L27 b27_0 (headSt hp27_0 x) (roundK 0 hp27_0 e27_0 q27_0) = spec_NextOf_r0 x := by kernel_rfl
theorem loop27_0 {R : Type} (r : R) (w0 : World) (mu : Mu) (hs : AnShape ps27 mu) : LoopAt Try.prog w0 mu 33 (L27 : Loops R) r 0 b27_0 :=
  loop_auto tr_ok eq_ok mixed_ok so27 (D := D27) hs (by kernel_rfl) (fun _ => (loops_of (l := []) (by kernel_rfl) (List.forall_mem_nil _))) t27_r0_eq (fun _ _ => rfl)
theorem t27_eq (x : denR (headRT (ps27.map some))) : codeK (tabOf tr) (semsOf sl27) D27 L27 code27 (start 33 ps27 x) (finK rs27 ps27) = x27 x := by kernel_rfl
theorem k27 : Known Try.prog 27 sem27 :=
  fn_auto tr_ok eq_ok mixed_ok so27 (D := D27) (code := code27) (n := 33) Try.func27 (by kernel_rfl) (by kernel_rfl) (by kernel_rfl) (fun w0 mu _ hs => (loops_of (l := [(0, b27_0)]) (by kernel_rfl) (List.forall_mem_cons.2 ⟨loop27_0 _ w0 mu hs, (List.forall_mem_nil _)⟩))) t27_eq

/-! ### f79: slices.Index[[]int,int] -/
noncomputable def code79 : Code := match Try.f79.body with | some c => c | none => .skip
def ps79 : List AP := [.val false [.shr (.cons (.int .i64) .nil)], .val false [.int .i64]]
def rs79 : List RP := [{ src := .tmp 4, agg := false, ps := [.int .i64] }]
noncomputable def sl79 : SemL := []
def D79 : Draws := fun _ => .nil
def hp79_0 : List (Option AP) := [some (.val false [.shr (.cons (.int .i64) .nil)]), some (.val false [.int .i64]), none, none, none, none, none, some (.val false [.int .i64]), some (.val false [.int .i64]), none, none, none, none, none, none, none, none, none, none]
def e79_0 : List (Option AP) := [none, none, none, none, none, none, none, none, none, none, none, none, none, none, none, none, none, none, none]
def q79_0 : List (Option AP) := [none, none, none, none, some (.val false [.int .i64]), none, none, none, none, none, none, none, none, none, none, none, none, none, none]
abbrev H79_0 : Type := (List (Int × Unit)) × Int × Int × Int × Unit
abbrev E79_0 : Type := Unit
abbrev Q79_0 : Type := Int × Unit
noncomputable def slices_Index_int_c0 (s0 : List (Int × Unit)) (v1 : Int) (t7 : Int) (t8 : Int) : Option (Sum H79_0 (Sum E79_0 Q79_0)) :=
  bif decide (t8 < t7) then
    bif decide ((0 : Int) ≤ t8) then Option.bind ((s0)[Int.toNat t8]?) fun r1 =>
      bif decide (v1 = r1.1) then
        some (.inr (.inr (t8, ())))
      else
        some (.inl (s0, v1, t7, IntKind.i64.wrap (t8 + (1 : Int)), ()))
    else none
  else
    some (.inr (.inl (())))
noncomputable def slices_Index_int_r0 (x : H79_0) : Option (Sum H79_0 (Sum E79_0 Q79_0)) := slices_Index_int_c0 x.1 x.2.1 x.2.2.1 x.2.2.2.1
noncomputable def L79 {R : Type} : Loops R := fun id _ st k => bif Nat.beq id 0 then loopAt hp79_0 e79_0 q79_0 slices_Index_int_r0 st k else none
noncomputable def slices_Index_int (s0 : List (Int × Unit)) (v1 : Int) : Option (Int × Unit) :=
  outK (loopV slices_Index_int_r0 (s0, v1, ((List.length s0 : Nat) : Int), (0 : Int), ())) (fun y1 =>
    some ((-1 : Int), ())) (fun y2 =>
    some (y2.1, ()))
noncomputable def x79 (x : (List (Int × Unit)) × Int × Unit) : Option (Int × Unit) := slices_Index_int x.1 x.2.1
noncomputable def sem79 : Sem1 := semOf ps79 rs79 x79
theorem so79 : SemsOk Try.prog (semsOf sl79) := sems_nil
noncomputable def b79_0 : Code := nthLoop code79 0
theorem t79_r0_eq (x : denR (headRT hp79_0)) : codeK (tabOf tr) (semsOf sl79) D79 L79 b79_0 (headSt hp79_0 x) (roundK 0 hp79_0 e79_0 q79_0) = slices_Index_int_r0 x := by kernel_rfl
theorem loop79_0 {R : Type} (r : R) (w0 : World) (mu : Mu) (hs : AnShape ps79 mu) : LoopAt Try.prog w0 mu 19 (L79 : Loops R) r 0 b79_0 :=
  loop_auto tr_ok eq_ok mixed_ok so79 (D := D79) hs (by kernel_rfl) (fun _ => (loops_of (l := []) (by kernel_rfl) (List.forall_mem_nil _))) t79_r0_eq (fun _ _ => rfl)
theorem t79_eq (x : denR (headRT (ps79.map some))) : codeK (tabOf tr) (semsOf sl79) D79 L79 code79 (start 19 ps79 x) (finK rs79 ps79) = x79 x := by kernel_rfl
theorem k79 : Known Try.prog 79 sem79 :=
  fn_auto tr_ok eq_ok mixed_ok so79 (D := D79) (code := code79) (n := 19) Try.func79 (by kernel_rfl) (by kernel_rfl) (by kernel_rfl) (fun w0 mu _ hs => (loops_of (l := [(0, b79_0)]) (by kernel_rfl) (List.forall_mem_cons.2 ⟨loop79_0 _ w0 mu hs, (List.forall_mem_nil _)⟩))) t79_eq

/-! ### f34: impl.RingOk -/
noncomputable def code34 : Code := match Try.f34.body with | some c => c | none => .skip
def ps34 : List AP := [.val true [.int .i64, .shr (.cons (.int .i64) .nil)]]
def rs34 : List RP := [{ src := .tmp 2, agg := false, ps := [.bool] }]
noncomputable def sl34 : SemL := [(68, (.shr, .shr, .shr, sem68)), (69, (.shr, .shr, .shr, sem69))]
def D34 : Draws := fun _ => .nil
def hp34_0 : List (Option AP) := [none, some (.box false [.int .i64, .shr (.cons (.int .i64) .nil)]), none, none, none, none, none, none, none, none, none, none, none, none, none, none, none, some (.val false [.shr (.cons (.int .i64) .nil)]), some (.val false [.int .i64]), some (.val false [.int .i64]), none, none, none, none, none, none, none, none, none, none, none, none, none, none, none, none, none, none, none, none, none, none]
def e34_0 : List (Option AP) := [none, none, none, none, none, none, none, none, none, none, none, none, none, none, none, none, none, none, none, none, none, none, none, none, none, none, none, none, none, none, none, none, none, none, none, none, none, none, none, none, none, none]
def q34_0 : List (Option AP) := [none, none, some (.val false [.bool]), none, none, none, none, none, none, none, none, none, none, none, none, none, none, none, none, none, none, none, none, none, none, none, none, none, none, none, none, none, none, none, none, none, none, none, none, none, none, none]
abbrev H34_0 : Type := Int × (List (Int × Unit)) × (List (Int × Unit)) × Int × Int × Unit
abbrev E34_0 : Type := Unit
abbrev Q34_0 : Type := Bool × Unit
noncomputable def impl_RingOk_c0 (r1c0 : Int) (r1c1 : List (Int × Unit)) (t17 : List (Int × Unit)) (t18 : Int) (t19 : Int) : Option (Sum H34_0 (Sum E34_0 Q34_0)) :=
  bif decide (t19 < t18) then
    bif decide ((0 : Int) ≤ t19) then Option.bind ((t17)[Int.toNat t19]?) fun r3 =>
      Option.bind (impl_isDaemon r3.1) fun y4 =>
      bif !y4.1 then
        some (.inr (.inr (false, ())))
      else bif decide ((0 : Int) < t19) then
        bif decide ((0 : Int) ≤ IntKind.i64.wrap (t19 - (1 : Int))) then Option.bind ((r1c1)[Int.toNat (IntKind.i64.wrap (t19 - (1 : Int)))]?) fun r5 =>
          bif decide (r3.1 ≤ r5.1) then
            some (.inr (.inr (false, ())))
          else
            some (.inl (r1c0, r1c1, t17, t18, IntKind.i64.wrap (t19 + (1 : Int)), ()))
        else none
      else
        some (.inl (r1c0, r1c1, t17, t18, IntKind.i64.wrap (t19 + (1 : Int)), ()))
    else none
  else
    some (.inr (.inl (())))
noncomputable def impl_RingOk_r0 (x : H34_0) : Option (Sum H34_0 (Sum E34_0 Q34_0)) := impl_RingOk_c0 x.1 x.2.1 x.2.2.1 x.2.2.2.1 x.2.2.2.2.1
noncomputable def L34 {R : Type} : Loops R := fun id _ st k => bif Nat.beq id 0 then loopAt hp34_0 e34_0 q34_0 impl_RingOk_r0 st k else none
noncomputable def impl_RingOk (r0c0 : Int) (r0c1 : List (Int × Unit)) : Option (Bool × Unit) :=
  Option.bind (impl_inRange r0c0 (1 : Int) (9 : Int)) fun y1 =>
  bif !y1.1 then
    some (false, ())
  else
    Option.bind (impl_inRange ((List.length r0c1 : Nat) : Int) (1 : Int) (5 : Int)) fun y2 =>
    bif !y2.1 then
      some (false, ())
    else
      outK (loopV impl_RingOk_r0 (r0c0, r0c1, r0c1, ((List.length r0c1 : Nat) : Int), (0 : Int), ())) (fun y3 =>
        some (true, ())) (fun y4 =>
        some (y4.1, ()))
noncomputable def x34 (x : Int × (List (Int × Unit)) × Unit) : Option (Bool × Unit) := impl_RingOk x.1 x.2.1
noncomputable def sem34 : Sem1 := semOf ps34 rs34 x34
theorem so34 : SemsOk Try.prog (semsOf sl34) := sems_cons k68 (sems_cons k69 (sems_nil))
noncomputable def b34_0 : Code := nthLoop code34 0
theorem t34_r0_eq (x : denR (headRT hp34_0)) : codeK (tabOf tr) (semsOf sl34) D34 L34 b34_0 (headSt hp34_0 x) (roundK 0 hp34_0 e34_0 q34_0) = impl_RingOk_r0 x := by kernel_rfl
theorem loop34_0 {R : Type} (r : R) (w0 : World) (mu : Mu) (hs : AnShape ps34 mu) : LoopAt Try.prog w0 mu 42 (L34 : Loops R) r 0 b34_0 :=
  loop_auto tr_ok eq_ok mixed_ok so34 (D := D34) hs (by kernel_rfl) (fun _ => (loops_of (l := []) (by kernel_rfl) (List.forall_mem_nil _))) t34_r0_eq (fun _ _ => rfl)
theorem t34_eq (x : denR (headRT (ps34.map some))) : codeK (tabOf tr) (semsOf sl34) D34 L34 code34 (start 42 ps34 x) (finK rs34 ps34) = x34 x := by kernel_rfl
theorem k34 : Known Try.prog 34 sem34 :=
  fn_auto tr_ok eq_ok mixed_ok so34 (D := D34) (code := code34) (n := 42) Try.func34 (by kernel_rfl) (by kernel_rfl) (by kernel_rfl) (fun w0 mu _ hs => (loops_of (l := [(0, b34_0)]) (by kernel_rfl) (List.forall_mem_cons.2 ⟨loop34_0 _ w0 mu hs, (List.forall_mem_nil _)⟩))) t34_eq

/-! ### f29: impl.NextOf -/
noncomputable def code29 : Code := match Try.f29.body with | some c => c | none => .skip
def ps29 : List AP := [.val true [.int .i64, .shr (.cons (.int .i64) .nil)], .val false [.int .i64]]
def rs29 : List RP := [{ src := .tmp 4, agg := false, ps := [.int .i64] }]
noncomputable def sl29 : SemL := [(79, (.shr, .shr, .shr, sem79)), (34, (.shr, .shr, .shr, sem34))]
def D29 : Draws := fun id => bif Nat.beq id 4 then .op 0 .any (.op 1 .take (.op 2 .any (.op 3 .any (.op 4 .any (.op 5 .take (.op 6 .any (.op 7 .any (.op 8 .any (.op 9 .take (.op 10 .any (.nil))))))))))) else .nil
noncomputable def L29 {R : Type} : Loops R := fun _ _ _ _ => none
noncomputable def impl_NextOf (r0c0 : Int) (r0c1 : List (Int × Unit)) (d1 : Int) : Option (Int × Unit) :=
  Option.bind (slices_Index_int r0c1 d1) fun y1 =>
  bif decide (y1.1 < (0 : Int)) then
    some ((0 : Int), ())
  else
    Option.bind (impl_RingOk r0c0 r0c1) fun y2 =>
    bif !y2.1 then
      some ((0 : Int), ())
    else bif decide (((List.length r0c1 : Nat) : Int) = 0) then
      none
    else bif decide ((0 : Int) ≤ Int.tmod (IntKind.i64.wrap (y1.1 + (1 : Int))) ((List.length r0c1 : Nat) : Int)) then Option.bind ((r0c1)[Int.toNat (Int.tmod (IntKind.i64.wrap (y1.1 + (1 : Int))) ((List.length r0c1 : Nat) : Int))]?) fun r3 =>
      some (r3.1, ())
    else none
noncomputable def x29 (x : Int × (List (Int × Unit)) × Int × Unit) : Option (Int × Unit) := impl_NextOf x.1 x.2.1 x.2.2.1
noncomputable def sem29 : Sem1 := semOf ps29 rs29 x29
theorem so29 : SemsOk Try.prog (semsOf sl29) := sems_cons k79 (sems_cons k34 (sems_nil))
theorem t29_eq (x : denR (headRT (ps29.map some))) : codeK (tabOf tr) (semsOf sl29) D29 L29 code29 (start 27 ps29 x) (finK rs29 ps29) = x29 x := by kernel_rfl
theorem k29 : Known Try.prog 29 sem29 :=
  fn_auto tr_ok eq_ok mixed_ok so29 (D := D29) (code := code29) (n := 27) Try.func29 (by kernel_rfl) (by kernel_rfl) (by kernel_rfl) (fun w0 mu _ hs => (loops_of (l := []) (by kernel_rfl) (List.forall_mem_nil _))) t29_eq

/-! ### f80: laws.eqIntS -/
noncomputable def code80 : Code := match Try.f80.body with | some c => c | none => .skip
def ps80 : List AP := [.val false [.shr (.cons (.int .i64) .nil)], .val false [.shr (.cons (.int .i64) .nil)]]
def rs80 : List RP := [{ src := .tmp 4, agg := false, ps := [.bool] }]
noncomputable def sl80 : SemL := []
def D80 : Draws := fun id => bif Nat.beq id 6 then .op 0 .any (.op 1 .any (.op 2 .any (.op 3 .take (.op 4 .any (.op 5 .any (.op 6 .any (.op 7 .take (.op 8 .any (.nil))))))))) else .nil
def hp80_0 : List (Option AP) := [some (.val false [.shr (.cons (.int .i64) .nil)]), some (.val false [.shr (.cons (.int .i64) .nil)]), none, none, none, some (.val false [.int .i64]), none, none, none, none, none, none, none, none, none, none, none, none, none, none, none, none, none, none, none, none]
def e80_0 : List (Option AP) := [none, none, none, none, none, none, none, none, none, none, none, none, none, none, none, none, none, none, none, none, none, none, none, none, none, none]
def q80_0 : List (Option AP) := [none, none, none, none, some (.val false [.bool]), none, none, none, none, none, none, none, none, none, none, none, none, none, none, none, none, none, none, none, none, none]
abbrev H80_0 : Type := (List (Int × Unit)) × (List (Int × Unit)) × Int × Unit
abbrev E80_0 : Type := Unit
abbrev Q80_0 : Type := Bool × Unit
noncomputable def laws_eqIntS_c0 (a0 : List (Int × Unit)) (b1 : List (Int × Unit)) (i5 : Int) : Option (Sum H80_0 (Sum E80_0 Q80_0)) :=
  bif decide (i5 < ((List.length a0 : Nat) : Int)) then
    bif decide ((0 : Int) ≤ i5) then Option.bind ((a0)[Int.toNat i5]?) fun r1 =>
      bif decide ((0 : Int) ≤ i5) then Option.bind ((b1)[Int.toNat i5]?) fun r2 =>
        bif !decide (r1.1 = r2.1) then
          some (.inr (.inr (false, ())))
        else
          some (.inl (a0, b1, IntKind.i64.wrap (i5 + (1 : Int)), ()))
      else none
    else none
  else
    some (.inr (.inl (())))
noncomputable def laws_eqIntS_r0 (x : H80_0) : Option (Sum H80_0 (Sum E80_0 Q80_0)) := laws_eqIntS_c0 x.1 x.2.1 x.2.2.1
noncomputable def L80 {R : Type} : Loops R := fun id _ st k => bif Nat.beq id 0 then loopAt hp80_0 e80_0 q80_0 laws_eqIntS_r0 st k else none
noncomputable def laws_eqIntS (a0 : List (Int × Unit)) (b1 : List (Int × Unit)) : Option (Bool × Unit) :=
  bif !decide (((List.length a0 : Nat) : Int) = ((List.length b1 : Nat) : Int)) then
    some (false, ())
  else
    outK (loopV laws_eqIntS_r0 (a0, b1, (0 : Int), ())) (fun y1 =>
      some (true, ())) (fun y2 =>
      some (y2.1, ()))
noncomputable def x80 (x : (List (Int × Unit)) × (List (Int × Unit)) × Unit) : Option (Bool × Unit) := laws_eqIntS x.1 x.2.1
noncomputable def sem80 : Sem1 := semOf ps80 rs80 x80
theorem so80 : SemsOk Try.prog (semsOf sl80) := sems_nil
noncomputable def b80_0 : Code := nthLoop code80 0
theorem t80_r0_eq (x : denR (headRT hp80_0)) : codeK (tabOf tr) (semsOf sl80) D80 L80 b80_0 (headSt hp80_0 x) (roundK 0 hp80_0 e80_0 q80_0) = laws_eqIntS_r0 x := by kernel_rfl
theorem loop80_0 {R : Type} (r : R) (w0 : World) (mu : Mu) (hs : AnShape ps80 mu) : LoopAt Try.prog w0 mu 26 (L80 : Loops R) r 0 b80_0 :=
  loop_auto tr_ok eq_ok mixed_ok so80 (D := D80) hs (by kernel_rfl) (fun _ => (loops_of (l := []) (by kernel_rfl) (List.forall_mem_nil _))) t80_r0_eq (fun _ _ => rfl)
theorem t80_eq (x : denR (headRT (ps80.map some))) : codeK (tabOf tr) (semsOf sl80) D80 L80 code80 (start 26 ps80 x) (finK rs80 ps80) = x80 x := by kernel_rfl
theorem k80 : Known Try.prog 80 sem80 :=
  fn_auto tr_ok eq_ok mixed_ok so80 (D := D80) (code := code80) (n := 26) Try.func80 (by kernel_rfl) (by kernel_rfl) (by kernel_rfl) (fun w0 mu _ hs => (loops_of (l := [(0, b80_0)]) (by kernel_rfl) (List.forall_mem_cons.2 ⟨loop80_0 _ w0 mu hs, (List.forall_mem_nil _)⟩))) t80_eq

/-! ### f30: laws.eqRing -/
noncomputable def code30 : Code := match Try.f30.body with | some c => c | none => .skip
def ps30 : List AP := [.val true [.int .i64, .shr (.cons (.int .i64) .nil)], .val true [.int .i64, .shr (.cons (.int .i64) .nil)]]
def rs30 : List RP := [{ src := .tmp 4, agg := false, ps := [.bool] }]
noncomputable def sl30 : SemL := [(80, (.shr, .shr, .shr, sem80))]
def D30 : Draws := fun _ => .nil
noncomputable def L30 {R : Type} : Loops R := fun _ _ _ _ => none
noncomputable def laws_eqRing (a0c0 : Int) (a0c1 : List (Int × Unit)) (b1c0 : Int) (b1c1 : List (Int × Unit)) : Option (Bool × Unit) :=
  bif !decide (a0c0 = b1c0) then
    some (false, ())
  else
    Option.bind (laws_eqIntS a0c1 b1c1) fun y1 =>
    bif !y1.1 then
      some (false, ())
    else
      some (true, ())
noncomputable def x30 (x : Int × (List (Int × Unit)) × Int × (List (Int × Unit)) × Unit) : Option (Bool × Unit) := laws_eqRing x.1 x.2.1 x.2.2.1 x.2.2.2.1
noncomputable def sem30 : Sem1 := semOf ps30 rs30 x30
theorem so30 : SemsOk Try.prog (semsOf sl30) := sems_cons k80 (sems_nil)
theorem t30_eq (x : denR (headRT (ps30.map some))) : codeK (tabOf tr) (semsOf sl30) D30 L30 code30 (start 16 ps30 x) (finK rs30 ps30) = x30 x := by kernel_rfl
theorem k30 : Known Try.prog 30 sem30 :=
  fn_auto tr_ok eq_ok mixed_ok so30 (D := D30) (code := code30) (n := 16) Try.func30 (by kernel_rfl) (by kernel_rfl) (by kernel_rfl) (fun w0 mu _ hs => (loops_of (l := []) (by kernel_rfl) (List.forall_mem_nil _))) t30_eq

/-! ### f6: laws.FnExactNextOf -/
noncomputable def code6 : Code := match Try.f6.body with | some c => c | none => .skip
def ps6 : List AP := [.val true [.int .i64, .shr (.cons (.int .i64) .nil)], .val false [.int .i64]]
def rs6 : List RP := [{ src := .tmp 4, agg := false, ps := [.bool] }]
noncomputable def sl6 : SemL := [(26, (.shr, .shr, .shr, sem26)), (28, (.shr, .shr, .shr, sem28)), (27, (.shr, .shr, .shr, sem27)), (29, (.shr, .shr, .shr, sem29)), (30, (.shr, .shr, .shr, sem30))]
def D6 : Draws := fun id => bif Nat.beq id 10 then .op 0 .take (.op 1 .take (.op 2 .one (.op 3 .one (.op 4 .any (.nil))))) else .nil
noncomputable def L6 {R : Type} : Loops R := fun _ _ _ _ => none
noncomputable def laws_FnExactNextOf (aR0c0 : Int) (aR0c1 : List (Int × Unit)) (aD1 : Int) : Option (Bool × Unit) :=
  Option.bind (laws_szRing aR0c0 aR0c1 (1048576 : Int)) fun y1 =>
  bif decide (y1.1 < (0 : Int)) then
    some (true, ())
  else
    Option.bind (laws_toRing aR0c0 aR0c1) fun y2 =>
    Option.bind (spec_NextOf y2.1 y2.2.1 aD1) fun y3 =>
    Option.bind (laws_toRing aR0c0 aR0c1) fun y4 =>
    Option.bind (impl_NextOf y4.1 y4.2.1 aD1) fun y5 =>
    bif !decide (y5.1 = y3.1) then
      some (false, ())
    else
      Option.bind (laws_toRing aR0c0 aR0c1) fun y6 =>
      Option.bind (laws_eqRing y4.1 y4.2.1 y6.1 y6.2.1) fun y7 =>
      bif !y7.1 then
        some (false, ())
      else
        some (true, ())
noncomputable def x6 (x : Int × (List (Int × Unit)) × Int × Unit) : Option (Bool × Unit) := laws_FnExactNextOf x.1 x.2.1 x.2.2.1
noncomputable def sem6 : Sem1 := semOf ps6 rs6 x6
theorem so6 : SemsOk Try.prog (semsOf sl6) := sems_cons k26 (sems_cons k28 (sems_cons k27 (sems_cons k29 (sems_cons k30 (sems_nil)))))
theorem t6_eq (x : denR (headRT (ps6.map some))) : codeK (tabOf tr) (semsOf sl6) D6 L6 code6 (start 31 ps6 x) (finK rs6 ps6) = x6 x := by kernel_rfl
theorem k6 : Known Try.prog 6 sem6 :=
  fn_auto tr_ok eq_ok mixed_ok so6 (D := D6) (code := code6) (n := 31) Try.func6 (by kernel_rfl) (by kernel_rfl) (by kernel_rfl) (fun w0 mu _ hs => (loops_of (l := []) (by kernel_rfl) (List.forall_mem_nil _))) t6_eq

/-! ### f31: laws.big -/
noncomputable def code31 : Code := match Try.f31.body with | some c => c | none => .skip
def ps31 : List AP := [.val false [.shr (.cons (.int .u8) .nil)]]
def rs31 : List RP := [{ src := .tmp 2, agg := false, ps := [.bool] }]
noncomputable def sl31 : SemL := []
def D31 : Draws := fun _ => .nil
noncomputable def L31 {R : Type} : Loops R := fun _ _ _ _ => none
noncomputable def laws_big (code0 : List (Int × Unit)) : Option (Bool × Unit) :=
  some (decide ((1048576 : Int) < ((List.length code0 : Nat) : Int)), ())
noncomputable def x31 (x : (List (Int × Unit)) × Unit) : Option (Bool × Unit) := laws_big x.1
noncomputable def sem31 : Sem1 := semOf ps31 rs31 x31
theorem so31 : SemsOk Try.prog (semsOf sl31) := sems_nil
theorem t31_eq (x : denR (headRT (ps31.map some))) : codeK (tabOf tr) (semsOf sl31) D31 L31 code31 (start 6 ps31 x) (finK rs31 ps31) = x31 x := by kernel_rfl
theorem k31 : Known Try.prog 31 sem31 :=
  fn_auto tr_ok eq_ok mixed_ok so31 (D := D31) (code := code31) (n := 6) Try.func31 (by kernel_rfl) (by kernel_rfl) (by kernel_rfl) (fun w0 mu _ hs => (loops_of (l := []) (by kernel_rfl) (List.forall_mem_nil _))) t31_eq

/-! ### f82: spec.l01New -/
noncomputable def code82 : Code := match Try.f82.body with | some c => c | none => .skip
def ps82 : List AP := [.val false [.shr (.cons (.int .u8) .nil)]]
def rs82 : List RP := [{ src := .ptr 2, agg := false, ps := [.shr (.cons (.int .u8) .nil), .int .i64, .int .i64] }]
noncomputable def sl82 : SemL := []
def D82 : Draws := fun _ => .nil
def hp82_0 : List (Option AP) := [some (.val false [.shr (.cons (.int .u8) .nil)]), none, none, some (.val false [.int .i64]), some (.val false [.int .i64]), none, none, none, none, none, none, none, none, none, none, none, none, none, none, none, none, none, none, none, none, none, none, none, none, none, none, none]
def e82_0 : List (Option AP) := [some (.val false [.shr (.cons (.int .u8) .nil)]), none, none, some (.val false [.int .i64]), none, none, none, none, none, none, none, none, none, none, none, none, none, none, none, none, none, none, none, none, none, none, none, none, none, none, none, none]
def q82_0 : List (Option AP) := [none, none, none, none, none, none, none, none, none, none, none, none, none, none, none, none, none, none, none, none, none, none, none, none, none, none, none, none, none, none, none, none]
abbrev H82_0 : Type := (List (Int × Unit)) × Int × Int × Unit
abbrev E82_0 : Type := (List (Int × Unit)) × Int × Unit
abbrev Q82_0 : Type := Unit
noncomputable def spec_l01New_c0 (code0 : List (Int × Unit)) (h3 : Int) (i4 : Int) : Option (Sum H82_0 (Sum E82_0 Q82_0)) :=
  bif decide (i4 < ((List.length code0 : Nat) : Int)) then
    bif decide (i4 < (4000 : Int)) then
      bif decide ((0 : Int) ≤ i4) then Option.bind ((code0)[Int.toNat i4]?) fun r1 =>
        some (.inl (code0, IntKind.i64.wrap ((BitVec.ofInt IntKind.i64.bits (IntKind.i64.wrap ((IntKind.i64.wrap ((IntKind.i64.wrap (h3 * (131 : Int))) + (IntKind.i64.wrap r1.1))) + (7 : Int))) &&& BitVec.ofInt IntKind.i64.bits (1073741823 : Int)).toNat : Int), IntKind.i64.wrap (i4 + (1 : Int)), ()))
      else none
    else
      some (.inr (.inl (code0, h3, ())))
  else
    some (.inr (.inl (code0, h3, ())))
noncomputable def spec_l01New_r0 (x : H82_0) : Option (Sum H82_0 (Sum E82_0 Q82_0)) := spec_l01New_c0 x.1 x.2.1 x.2.2.1
noncomputable def L82 {R : Type} : Loops R := fun id _ st k => bif Nat.beq id 0 then loopAt hp82_0 e82_0 q82_0 spec_l01New_r0 st k else none
noncomputable def spec_l01New (code0 : List (Int × Unit)) : Option ((List (Int × Unit)) × Int × Int × Unit) :=
  outK (loopV spec_l01New_r0 (code0, IntKind.i64.wrap ((27101 : Int) + ((List.length code0 : Nat) : Int)), (0 : Int), ())) (fun y1 =>
    some (y1.1, (0 : Int), y1.2.1, ())) (fun y2 =>
    none)
noncomputable def x82 (x : (List (Int × Unit)) × Unit) : Option ((List (Int × Unit)) × Int × Int × Unit) := spec_l01New x.1
noncomputable def sem82 : Sem1 := semOf ps82 rs82 x82
theorem so82 : SemsOk Try.prog (semsOf sl82) := sems_nil
noncomputable def b82_0 : Code := nthLoop code82 0
theorem t82_r0_eq (x : denR (headRT hp82_0)) : codeK (tabOf tr) (semsOf sl82) D82 L82 b82_0 (headSt hp82_0 x) (roundK 0 hp82_0 e82_0 q82_0) = spec_l01New_r0 x := by kernel_rfl
theorem loop82_0 {R : Type} (r : R) (w0 : World) (mu : Mu) (hs : AnShape ps82 mu) : LoopAt Try.prog w0 mu 32 (L82 : Loops R) r 0 b82_0 :=
  loop_auto tr_ok eq_ok mixed_ok so82 (D := D82) hs (by kernel_rfl) (fun _ => (loops_of (l := []) (by kernel_rfl) (List.forall_mem_nil _))) t82_r0_eq (fun _ _ => rfl)
theorem t82_eq (x : denR (headRT (ps82.map some))) : codeK (tabOf tr) (semsOf sl82) D82 L82 code82 (start 32 ps82 x) (finK rs82 ps82) = x82 x := by kernel_rfl
theorem k82 : Known Try.prog 82 sem82 :=
  fn_auto tr_ok eq_ok mixed_ok so82 (D := D82) (code := code82) (n := 32) Try.func82 (by kernel_rfl) (by kernel_rfl) (by kernel_rfl) (fun w0 mu _ hs => (loops_of (l := [(0, b82_0)]) (by kernel_rfl) (List.forall_mem_cons.2 ⟨loop82_0 _ w0 mu hs, (List.forall_mem_nil _)⟩))) t82_eq

/-! ### f112: spec.l01Byte -/
noncomputable def code112 : Code := match Try.f112.body with | some c => c | none => .skip
def ps112 : List AP := [.box true [.shr (.cons (.int .u8) .nil), .int .i64, .int .i64]]
def rs112 : List RP := [{ src := .tmp 2, agg := false, ps := [.int .i64] }]
noncomputable def sl112 : SemL := []
def D112 : Draws := fun id => bif Nat.beq id 2 then .op 0 .any (.op 1 .any (.op 2 .any (.op 3 .take (.op 4 .any (.op 5 .any (.op 6 .any (.op 7 .any (.op 8 .take (.op 9 .any (.op 10 .any (.op 11 .any (.op 12 .any (.nil))))))))))))) else bif Nat.beq id 3 then .op 0 .any (.op 1 .any (.op 2 .any (.op 3 .take (.op 4 .any (.op 5 .any (.op 6 .any (.op 7 .take (.op 8 .any (.op 9 .any (.nil)))))))))) else bif Nat.beq id 4 then .op 0 .any (.op 1 .any (.op 2 .any (.op 3 .any (.op 4 .take (.op 5 .any (.op 6 .any (.op 7 .any (.op 8 .take (.op 9 .any (.op 10 .take (.op 11 .any (.op 12 .any (.op 13 .any (.op 14 .any (.nil))))))))))))))) else .nil
noncomputable def L112 {R : Type} : Loops R := fun _ _ _ _ => none
noncomputable def spec_l01Byte (c0c0 : List (Int × Unit)) (c0c1 : Int) (c0c2 : Int) : Option (Int × (List (Int × Unit)) × Int × Int × Unit) :=
  bif decide (c0c1 < ((List.length c0c0 : Nat) : Int)) then
    bif decide ((0 : Int) ≤ c0c1) then Option.bind ((c0c0)[Int.toNat c0c1]?) fun r1 =>
      some (IntKind.i64.wrap ((BitVec.ofInt IntKind.i64.bits (IntKind.i64.wrap ((IntKind.i64.wrap ((BitVec.ofInt IntKind.i64.bits (IntKind.i64.wrap ((BitVec.ofInt IntKind.i64.bits (Int.fdiv (IntKind.i64.wrap ((IntKind.i64.wrap (c0c2 * (6364136223846793005 : Int))) + (1442695040888963407 : Int))) (2 ^ (min 33 IntKind.i64.bits))) ^^^ BitVec.ofInt IntKind.i64.bits (Int.fdiv (IntKind.i64.wrap ((IntKind.i64.wrap (c0c2 * (6364136223846793005 : Int))) + (1442695040888963407 : Int))) (2 ^ (min 45 IntKind.i64.bits)))).toNat : Int)) &&& BitVec.ofInt IntKind.i64.bits (255 : Int)).toNat : Int)) + (IntKind.i64.wrap r1.1))) &&& BitVec.ofInt IntKind.i64.bits (255 : Int)).toNat : Int), c0c0, IntKind.i64.wrap (c0c1 + (1 : Int)), IntKind.i64.wrap ((IntKind.i64.wrap (c0c2 * (6364136223846793005 : Int))) + (1442695040888963407 : Int)), ())
    else none
  else
    some (IntKind.i64.wrap ((BitVec.ofInt IntKind.i64.bits (IntKind.i64.wrap ((BitVec.ofInt IntKind.i64.bits (Int.fdiv (IntKind.i64.wrap ((IntKind.i64.wrap (c0c2 * (6364136223846793005 : Int))) + (1442695040888963407 : Int))) (2 ^ (min 33 IntKind.i64.bits))) ^^^ BitVec.ofInt IntKind.i64.bits (Int.fdiv (IntKind.i64.wrap ((IntKind.i64.wrap (c0c2 * (6364136223846793005 : Int))) + (1442695040888963407 : Int))) (2 ^ (min 45 IntKind.i64.bits)))).toNat : Int)) &&& BitVec.ofInt IntKind.i64.bits (255 : Int)).toNat : Int), c0c0, c0c1, IntKind.i64.wrap ((IntKind.i64.wrap (c0c2 * (6364136223846793005 : Int))) + (1442695040888963407 : Int)), ())
noncomputable def x112 (x : (List (Int × Unit)) × Int × Int × Unit) : Option (Int × (List (Int × Unit)) × Int × Int × Unit) := spec_l01Byte x.1 x.2.1 x.2.2.1
noncomputable def sem112 : Sem1 := semOf ps112 rs112 x112
theorem so112 : SemsOk Try.prog (semsOf sl112) := sems_nil
theorem t112_eq (x : denR (headRT (ps112.map some))) : codeK (tabOf tr) (semsOf sl112) D112 L112 code112 (start 58 ps112 x) (finK rs112 ps112) = x112 x := by kernel_rfl
theorem k112 : Known Try.prog 112 sem112 :=
  fn_auto tr_ok eq_ok mixed_ok so112 (D := D112) (code := code112) (n := 58) Try.func112 (by kernel_rfl) (by kernel_rfl) (by kernel_rfl) (fun w0 mu _ hs => (loops_of (l := []) (by kernel_rfl) (List.forall_mem_nil _))) t112_eq

/-! ### f102: spec.l01Below -/
noncomputable def code102 : Code := match Try.f102.body with | some c => c | none => .skip
def ps102 : List AP := [.box true [.shr (.cons (.int .u8) .nil), .int .i64, .int .i64], .val false [.int .i64]]
def rs102 : List RP := [{ src := .tmp 4, agg := false, ps := [.int .i64] }]
noncomputable def sl102 : SemL := [(112, (.shr, .shr, .shr, sem112))]
def D102 : Draws := fun _ => .nil
noncomputable def L102 {R : Type} : Loops R := fun _ _ _ _ => none
noncomputable def spec_l01Below (c0c0 : List (Int × Unit)) (c0c1 : Int) (c0c2 : Int) (n1 : Int) : Option (Int × (List (Int × Unit)) × Int × Int × Unit) :=
  bif decide (n1 ≤ (0 : Int)) then
    some ((0 : Int), c0c0, c0c1, c0c2, ())
  else bif decide (n1 ≤ (256 : Int)) then
    Option.bind (spec_l01Byte c0c0 c0c1 c0c2) fun y1 =>
    bif decide (n1 = 0) then
      none
    else
      some (Int.tmod y1.1 n1, y1.2.1, y1.2.2.1, y1.2.2.2.1, ())
  else
    Option.bind (spec_l01Byte c0c0 c0c1 c0c2) fun y2 =>
    Option.bind (spec_l01Byte y2.2.1 y2.2.2.1 y2.2.2.2.1) fun y3 =>
    Option.bind (spec_l01Byte y3.2.1 y3.2.2.1 y3.2.2.2.1) fun y4 =>
    Option.bind (spec_l01Byte y4.2.1 y4.2.2.1 y4.2.2.2.1) fun y5 =>
    bif decide (n1 = 0) then
      none
    else
      some (Int.tmod (IntKind.i64.wrap ((IntKind.i64.wrap ((IntKind.i64.wrap ((IntKind.i64.wrap (y2.1 * (16777216 : Int))) + (IntKind.i64.wrap (y3.1 * (65536 : Int))))) + (IntKind.i64.wrap (y4.1 * (256 : Int))))) + y5.1)) n1, y5.2.1, y5.2.2.1, y5.2.2.2.1, ())
noncomputable def x102 (x : (List (Int × Unit)) × Int × Int × Int × Unit) : Option (Int × (List (Int × Unit)) × Int × Int × Unit) := spec_l01Below x.1 x.2.1 x.2.2.1 x.2.2.2.1
noncomputable def sem102 : Sem1 := semOf ps102 rs102 x102
theorem so102 : SemsOk Try.prog (semsOf sl102) := sems_cons k112 (sems_nil)
theorem t102_eq (x : denR (headRT (ps102.map some))) : codeK (tabOf tr) (semsOf sl102) D102 L102 code102 (start 37 ps102 x) (finK rs102 ps102) = x102 x := by kernel_rfl
theorem k102 : Known Try.prog 102 sem102 :=
  fn_auto tr_ok eq_ok mixed_ok so102 (D := D102) (code := code102) (n := 37) Try.func102 (by kernel_rfl) (by kernel_rfl) (by kernel_rfl) (fun w0 mu _ hs => (loops_of (l := []) (by kernel_rfl) (List.forall_mem_nil _))) t102_eq

/-! ### f96: spec.l01Once -/
noncomputable def code96 : Code := match Try.f96.body with | some c => c | none => .skip
def ps96 : List AP := [.box true [.shr (.cons (.int .u8) .nil), .int .i64, .int .i64], .val false [.int .i64]]
def rs96 : List RP := [{ src := .tmp 4, agg := false, ps := [.bool] }]
noncomputable def sl96 : SemL := [(102, (.shr, .shr, .shr, sem102))]
def D96 : Draws := fun _ => .nil
noncomputable def L96 {R : Type} : Loops R := fun _ _ _ _ => none
noncomputable def spec_l01Once (c0c0 : List (Int × Unit)) (c0c1 : Int) (c0c2 : Int) (n1 : Int) : Option (Bool × (List (Int × Unit)) × Int × Int × Unit) :=
  Option.bind (spec_l01Below c0c0 c0c1 c0c2 n1) fun y1 =>
  some (decide (y1.1 = (0 : Int)), y1.2.1, y1.2.2.1, y1.2.2.2.1, ())
noncomputable def x96 (x : (List (Int × Unit)) × Int × Int × Int × Unit) : Option (Bool × (List (Int × Unit)) × Int × Int × Unit) := spec_l01Once x.1 x.2.1 x.2.2.1 x.2.2.2.1
noncomputable def sem96 : Sem1 := semOf ps96 rs96 x96
theorem so96 : SemsOk Try.prog (semsOf sl96) := sems_cons k102 (sems_nil)
theorem t96_eq (x : denR (headRT (ps96.map some))) : codeK (tabOf tr) (semsOf sl96) D96 L96 code96 (start 9 ps96 x) (finK rs96 ps96) = x96 x := by kernel_rfl
theorem k96 : Known Try.prog 96 sem96 :=
  fn_auto tr_ok eq_ok mixed_ok so96 (D := D96) (code := code96) (n := 9) Try.func96 (by kernel_rfl) (by kernel_rfl) (by kernel_rfl) (fun w0 mu _ hs => (loops_of (l := []) (by kernel_rfl) (List.forall_mem_nil _))) t96_eq

/-! ### f81: spec.l09Ring -/
noncomputable def code81 : Code := match Try.f81.body with | some c => c | none => .skip
def ps81 : List AP := [.box true [.shr (.cons (.int .u8) .nil), .int .i64, .int .i64]]
def rs81 : List RP := [{ src := .cell 2, agg := true, ps := [.int .i64, .own (.cons (.int .i64) .nil)] }]
noncomputable def sl81 : SemL := [(102, (.shr, .shr, .shr, sem102)), (96, (.shr, .shr, .shr, sem96))]
def D81 : Draws := fun _ => .nil
def hp81_0 : List (Option AP) := [some (.box true [.shr (.cons (.int .u8) .nil), .int .i64, .int .i64]), none, some (.box false [.int .i64, .own (.cons (.int .i64) .nil)]), some (.box false [.int .i64, .own (.cons (.int .i64) .nil)]), some (.val false [.int .i64]), none, none, none, none, none, none, none, none, none, none, none, none, none, none, none, none, none, none, none, none, none, none, none, none]
def e81_0 : List (Option AP) := [some (.box true [.shr (.cons (.int .u8) .nil), .int .i64, .int .i64]), none, some (.box false [.int .i64, .own (.cons (.int .i64) .nil)]), some (.box false [.int .i64, .own (.cons (.int .i64) .nil)]), none, none, none, none, none, none, none, none, none, none, none, none, none, none, none, none, none, none, none, none, none, none, none, none, none]
def q81_0 : List (Option AP) := [none, none, none, none, none, none, none, none, none, none, none, none, none, none, none, none, none, none, none, none, none, none, none, none, none, none, none, none, none]
abbrev H81_0 : Type := (List (Int × Unit)) × Int × Int × Int × (List (Int × Unit)) × Int × (List (Int × Unit)) × Int × Unit
abbrev E81_0 : Type := (List (Int × Unit)) × Int × Int × Int × (List (Int × Unit)) × Int × (List (Int × Unit)) × Unit
abbrev Q81_0 : Type := Unit
noncomputable def spec_l09Ring_c0 (c0c0 : List (Int × Unit)) (c0c1 : Int) (c0c2 : Int) (t2c0 : Int) (t2c1 : List (Int × Unit)) (r3c0 : Int) (r3c1 : List (Int × Unit)) (d4 : Int) : Option (Sum H81_0 (Sum E81_0 Q81_0)) :=
  bif decide (d4 ≤ (4 : Int)) then
    Option.bind (spec_l01Once c0c0 c0c1 c0c2 (3 : Int)) fun y2 =>
    bif !y2.1 then
      bif Nat.ble (((List.length r3c1) + 1) * 8) lim then some (.inl (y2.2.1, y2.2.2.1, y2.2.2.2.1, t2c0, t2c1, r3c0, r3c1 ++ [(d4, ())], IntKind.i64.wrap (d4 + (1 : Int)), ()))
      else none
    else
      some (.inl (y2.2.1, y2.2.2.1, y2.2.2.2.1, t2c0, t2c1, r3c0, r3c1, IntKind.i64.wrap (d4 + (1 : Int)), ()))
  else
    some (.inr (.inl (c0c0, c0c1, c0c2, t2c0, t2c1, r3c0, r3c1, ())))
noncomputable def spec_l09Ring_r0 (x : H81_0) : Option (Sum H81_0 (Sum E81_0 Q81_0)) := spec_l09Ring_c0 x.1 x.2.1 x.2.2.1 x.2.2.2.1 x.2.2.2.2.1 x.2.2.2.2.2.1 x.2.2.2.2.2.2.1 x.2.2.2.2.2.2.2.1
noncomputable def L81 {R : Type} : Loops R := fun id _ st k => bif Nat.beq id 0 then loopAt hp81_0 e81_0 q81_0 spec_l09Ring_r0 st k else none
noncomputable def spec_l09Ring (c0c0 : List (Int × Unit)) (c0c1 : Int) (c0c2 : Int) : Option (Int × (List (Int × Unit)) × (List (Int × Unit)) × Int × Int × Unit) :=
  Option.bind (spec_l01Below c0c0 c0c1 c0c2 (3 : Int)) fun y1 =>
  outK (loopV spec_l09Ring_r0 (y1.2.1, y1.2.2.1, y1.2.2.2.1, (0 : Int), [], IntKind.i64.wrap ((1 : Int) + y1.1), [], (1 : Int), ())) (fun y2 =>
    bif decide (((List.length y2.2.2.2.2.2.2.1 : Nat) : Int) = (0 : Int)) then
      some (y2.2.2.2.2.2.1, [((2 : Int), ())], y2.1, y2.2.1, y2.2.2.1, ())
    else
      some (y2.2.2.2.2.2.1, y2.2.2.2.2.2.2.1, y2.1, y2.2.1, y2.2.2.1, ())) (fun y3 =>
    none)
noncomputable def x81 (x : (List (Int × Unit)) × Int × Int × Unit) : Option (Int × (List (Int × Unit)) × (List (Int × Unit)) × Int × Int × Unit) := spec_l09Ring x.1 x.2.1 x.2.2.1
noncomputable def sem81 : Sem1 := semOf ps81 rs81 x81
theorem so81 : SemsOk Try.prog (semsOf sl81) := sems_cons k102 (sems_cons k96 (sems_nil))
noncomputable def b81_0 : Code := nthLoop code81 0
theorem t81_r0_eq (x : denR (headRT hp81_0)) : codeK (tabOf tr) (semsOf sl81) D81 L81 b81_0 (headSt hp81_0 x) (roundK 0 hp81_0 e81_0 q81_0) = spec_l09Ring_r0 x := by kernel_rfl
theorem loop81_0 {R : Type} (r : R) (w0 : World) (mu : Mu) (hs : AnShape ps81 mu) : LoopAt Try.prog w0 mu 29 (L81 : Loops R) r 0 b81_0 :=
  loop_auto tr_ok eq_ok mixed_ok so81 (D := D81) hs (by kernel_rfl) (fun _ => (loops_of (l := []) (by kernel_rfl) (List.forall_mem_nil _))) t81_r0_eq (fun _ _ => rfl)
theorem t81_eq (x : denR (headRT (ps81.map some))) : codeK (tabOf tr) (semsOf sl81) D81 L81 code81 (start 29 ps81 x) (finK rs81 ps81) = x81 x := by kernel_rfl
theorem k81 : Known Try.prog 81 sem81 :=
  fn_auto tr_ok eq_ok mixed_ok so81 (D := D81) (code := code81) (n := 29) Try.func81 (by kernel_rfl) (by kernel_rfl) (by kernel_rfl) (fun w0 mu _ hs => (loops_of (l := [(0, b81_0)]) (by kernel_rfl) (List.forall_mem_cons.2 ⟨loop81_0 _ w0 mu hs, (List.forall_mem_nil _)⟩))) t81_eq

/-! ### f32: spec.DrawRing -/
noncomputable def code32 : Code := match Try.f32.body with | some c => c | none => .skip
def ps32 : List AP := [.val false [.shr (.cons (.int .u8) .nil)]]
def rs32 : List RP := [{ src := .cell 2, agg := true, ps := [.int .i64, .own (.cons (.int .i64) .nil)] }]
noncomputable def sl32 : SemL := [(82, (.shr, .shr, .shr, sem82)), (81, (.shr, .shr, .shr, sem81))]
def D32 : Draws := fun _ => .nil
noncomputable def L32 {R : Type} : Loops R := fun _ _ _ _ => none
noncomputable def spec_DrawRing (code0 : List (Int × Unit)) : Option (Int × (List (Int × Unit)) × Unit) :=
  Option.bind (spec_l01New code0) fun y1 =>
  Option.bind (spec_l09Ring y1.1 y1.2.1 y1.2.2.1) fun y2 =>
  some (y2.1, y2.2.1, ())
noncomputable def x32 (x : (List (Int × Unit)) × Unit) : Option (Int × (List (Int × Unit)) × Unit) := spec_DrawRing x.1
noncomputable def sem32 : Sem1 := semOf ps32 rs32 x32
theorem so32 : SemsOk Try.prog (semsOf sl32) := sems_cons k82 (sems_cons k81 (sems_nil))
theorem t32_eq (x : denR (headRT (ps32.map some))) : codeK (tabOf tr) (semsOf sl32) D32 L32 code32 (start 6 ps32 x) (finK rs32 ps32) = x32 x := by kernel_rfl
theorem k32 : Known Try.prog 32 sem32 :=
  fn_auto tr_ok eq_ok mixed_ok so32 (D := D32) (code := code32) (n := 6) Try.func32 (by kernel_rfl) (by kernel_rfl) (by kernel_rfl) (fun w0 mu _ hs => (loops_of (l := []) (by kernel_rfl) (List.forall_mem_nil _))) t32_eq

/-! ### f33: impl.FirstToken -/
noncomputable def code33 : Code := match Try.f33.body with | some c => c | none => .skip
def ps33 : List AP := [.val true [.int .i64, .shr (.cons (.int .i64) .nil)]]
def rs33 : List RP := [{ src := .cell 2, agg := true, ps := [.int .i64, .int .i64, .int .i64, .int .i64, .int .i64, .own (.cons (.int .i64) .nil)] }]
noncomputable def sl33 : SemL := [(34, (.shr, .shr, .shr, sem34))]
def D33 : Draws := fun _ => .nil
noncomputable def L33 {R : Type} : Loops R := fun _ _ _ _ => none
noncomputable def impl_FirstToken (r0c0 : Int) (r0c1 : List (Int × Unit)) : Option (Int × Int × Int × Int × Int × (List (Int × Unit)) × Unit) :=
  Option.bind (impl_RingOk r0c0 r0c1) fun y1 =>
  bif !y1.1 then
    some ((0 : Int), (0 : Int), (0 : Int), (0 : Int), (0 : Int), [], ())
  else
    some (r0c0, (1 : Int), (0 : Int), (0 : Int), (0 : Int), [], ())
noncomputable def x33 (x : Int × (List (Int × Unit)) × Unit) : Option (Int × Int × Int × Int × Int × (List (Int × Unit)) × Unit) := impl_FirstToken x.1 x.2.1
noncomputable def sem33 : Sem1 := semOf ps33 rs33 x33
theorem so33 : SemsOk Try.prog (semsOf sl33) := sems_cons k34 (sems_nil)
theorem t33_eq (x : denR (headRT (ps33.map some))) : codeK (tabOf tr) (semsOf sl33) D33 L33 code33 (start 10 ps33 x) (finK rs33 ps33) = x33 x := by kernel_rfl
theorem k33 : Known Try.prog 33 sem33 :=
  fn_auto tr_ok eq_ok mixed_ok so33 (D := D33) (code := code33) (n := 10) Try.func33 (by kernel_rfl) (by kernel_rfl) (by kernel_rfl) (fun w0 mu _ hs => (loops_of (l := []) (by kernel_rfl) (List.forall_mem_nil _))) t33_eq

/-! ### f35: laws.sameInts -/
noncomputable def code35 : Code := match Try.f35.body with | some c => c | none => .skip
def ps35 : List AP := [.val false [.shr (.cons (.int .i64) .nil)], .val false [.shr (.cons (.int .i64) .nil)]]
def rs35 : List RP := [{ src := .tmp 4, agg := false, ps := [.bool] }]
noncomputable def sl35 : SemL := []
def D35 : Draws := fun id => bif Nat.beq id 6 then .op 0 .any (.op 1 .any (.op 2 .any (.op 3 .take (.op 4 .any (.op 5 .any (.op 6 .any (.op 7 .take (.op 8 .any (.nil))))))))) else .nil
def hp35_0 : List (Option AP) := [some (.val false [.shr (.cons (.int .i64) .nil)]), some (.val false [.shr (.cons (.int .i64) .nil)]), none, none, none, some (.val false [.int .i64]), none, none, none, none, none, none, none, none, none, none, none, none, none, none, none, none, none, none, none, none]
def e35_0 : List (Option AP) := [none, none, none, none, none, none, none, none, none, none, none, none, none, none, none, none, none, none, none, none, none, none, none, none, none, none]
def q35_0 : List (Option AP) := [none, none, none, none, some (.val false [.bool]), none, none, none, none, none, none, none, none, none, none, none, none, none, none, none, none, none, none, none, none, none]
abbrev H35_0 : Type := (List (Int × Unit)) × (List (Int × Unit)) × Int × Unit
abbrev E35_0 : Type := Unit
abbrev Q35_0 : Type := Bool × Unit
noncomputable def laws_sameInts_c0 (a0 : List (Int × Unit)) (b1 : List (Int × Unit)) (i5 : Int) : Option (Sum H35_0 (Sum E35_0 Q35_0)) :=
  bif decide (i5 < ((List.length a0 : Nat) : Int)) then
    bif decide ((0 : Int) ≤ i5) then Option.bind ((a0)[Int.toNat i5]?) fun r1 =>
      bif decide ((0 : Int) ≤ i5) then Option.bind ((b1)[Int.toNat i5]?) fun r2 =>
        bif !decide (r1.1 = r2.1) then
          some (.inr (.inr (false, ())))
        else
          some (.inl (a0, b1, IntKind.i64.wrap (i5 + (1 : Int)), ()))
      else none
    else none
  else
    some (.inr (.inl (())))
noncomputable def laws_sameInts_r0 (x : H35_0) : Option (Sum H35_0 (Sum E35_0 Q35_0)) := laws_sameInts_c0 x.1 x.2.1 x.2.2.1
noncomputable def L35 {R : Type} : Loops R := fun id _ st k => bif Nat.beq id 0 then loopAt hp35_0 e35_0 q35_0 laws_sameInts_r0 st k else none
noncomputable def laws_sameInts (a0 : List (Int × Unit)) (b1 : List (Int × Unit)) : Option (Bool × Unit) :=
  bif !decide (((List.length a0 : Nat) : Int) = ((List.length b1 : Nat) : Int)) then
    some (false, ())
  else
    outK (loopV laws_sameInts_r0 (a0, b1, (0 : Int), ())) (fun y1 =>
      some (true, ())) (fun y2 =>
      some (y2.1, ()))
noncomputable def x35 (x : (List (Int × Unit)) × (List (Int × Unit)) × Unit) : Option (Bool × Unit) := laws_sameInts x.1 x.2.1
noncomputable def sem35 : Sem1 := semOf ps35 rs35 x35
theorem so35 : SemsOk Try.prog (semsOf sl35) := sems_nil
noncomputable def b35_0 : Code := nthLoop code35 0
theorem t35_r0_eq (x : denR (headRT hp35_0)) : codeK (tabOf tr) (semsOf sl35) D35 L35 b35_0 (headSt hp35_0 x) (roundK 0 hp35_0 e35_0 q35_0) = laws_sameInts_r0 x := by kernel_rfl
theorem loop35_0 {R : Type} (r : R) (w0 : World) (mu : Mu) (hs : AnShape ps35 mu) : LoopAt Try.prog w0 mu 26 (L35 : Loops R) r 0 b35_0 :=
  loop_auto tr_ok eq_ok mixed_ok so35 (D := D35) hs (by kernel_rfl) (fun _ => (loops_of (l := []) (by kernel_rfl) (List.forall_mem_nil _))) t35_r0_eq (fun _ _ => rfl)
theorem t35_eq (x : denR (headRT (ps35.map some))) : codeK (tabOf tr) (semsOf sl35) D35 L35 code35 (start 26 ps35 x) (finK rs35 ps35) = x35 x := by kernel_rfl
theorem k35 : Known Try.prog 35 sem35 :=
  fn_auto tr_ok eq_ok mixed_ok so35 (D := D35) (code := code35) (n := 26) Try.func35 (by kernel_rfl) (by kernel_rfl) (by kernel_rfl) (fun w0 mu _ hs => (loops_of (l := [(0, b35_0)]) (by kernel_rfl) (List.forall_mem_cons.2 ⟨loop35_0 _ w0 mu hs, (List.forall_mem_nil _)⟩))) t35_eq

/-! ### f36: impl.TokenOk -/
noncomputable def code36 : Code := match Try.f36.body with | some c => c | none => .skip
def ps36 : List AP := [.val true [.int .i64, .int .i64, .int .i64, .int .i64, .int .i64, .shr (.cons (.int .i64) .nil)]]
def rs36 : List RP := [{ src := .tmp 2, agg := false, ps := [.bool] }]
noncomputable def sl36 : SemL := [(68, (.shr, .shr, .shr, sem68))]
def D36 : Draws := fun _ => .nil
def hp36_0 : List (Option AP) := [none, some (.box false [.int .i64, .int .i64, .int .i64, .int .i64, .int .i64, .shr (.cons (.int .i64) .nil)]), none, none, none, none, none, none, none, none, none, none, none, none, none, none, none, none, none, none, none, none, some (.val false [.shr (.cons (.int .i64) .nil)]), some (.val false [.int .i64]), some (.val false [.int .i64]), none, none, none, none, none, none, none, none, none, none, none, none, none, none, none, none, none, none, none, none, none, none, none, none, none, none, none, none, none, none, none, none, none, none, none, none, none, none, none, none]
def e36_0 : List (Option AP) := [none, some (.box false [.int .i64, .int .i64, .int .i64, .int .i64, .int .i64, .shr (.cons (.int .i64) .nil)]), none, none, none, none, none, none, none, none, none, none, none, none, none, none, none, none, none, none, none, none, none, none, none, none, none, none, none, none, none, none, none, none, none, none, none, none, none, none, none, none, none, none, none, none, none, none, none, none, none, none, none, none, none, none, none, none, none, none, none, none, none, none, none]
def q36_0 : List (Option AP) := [none, none, some (.val false [.bool]), none, none, none, none, none, none, none, none, none, none, none, none, none, none, none, none, none, none, none, none, none, none, none, none, none, none, none, none, none, none, none, none, none, none, none, none, none, none, none, none, none, none, none, none, none, none, none, none, none, none, none, none, none, none, none, none, none, none, none, none, none, none]
abbrev H36_0 : Type := Int × Int × Int × Int × Int × (List (Int × Unit)) × (List (Int × Unit)) × Int × Int × Unit
abbrev E36_0 : Type := Int × Int × Int × Int × Int × (List (Int × Unit)) × Unit
abbrev Q36_0 : Type := Bool × Unit
noncomputable def impl_TokenOk_c0 (t1c0 : Int) (t1c1 : Int) (t1c2 : Int) (t1c3 : Int) (t1c4 : Int) (t1c5 : List (Int × Unit)) (t22 : List (Int × Unit)) (t23 : Int) (t24 : Int) : Option (Sum H36_0 (Sum E36_0 Q36_0)) :=
  bif decide (t24 < t23) then
    bif decide ((0 : Int) ≤ t24) then Option.bind ((t22)[Int.toNat t24]?) fun r4 =>
      Option.bind (impl_inRange r4.1 (1 : Int) t1c2) fun y5 =>
      bif !y5.1 then
        some (.inr (.inr (false, ())))
      else bif decide ((0 : Int) < t24) then
        bif decide ((0 : Int) ≤ IntKind.i64.wrap (t24 - (1 : Int))) then Option.bind ((t1c5)[Int.toNat (IntKind.i64.wrap (t24 - (1 : Int)))]?) fun r6 =>
          bif decide (r4.1 ≤ r6.1) then
            some (.inr (.inr (false, ())))
          else
            some (.inl (t1c0, t1c1, t1c2, t1c3, t1c4, t1c5, t22, t23, IntKind.i64.wrap (t24 + (1 : Int)), ()))
        else none
      else
        some (.inl (t1c0, t1c1, t1c2, t1c3, t1c4, t1c5, t22, t23, IntKind.i64.wrap (t24 + (1 : Int)), ()))
    else none
  else
    some (.inr (.inl (t1c0, t1c1, t1c2, t1c3, t1c4, t1c5, ())))
noncomputable def impl_TokenOk_r0 (x : H36_0) : Option (Sum H36_0 (Sum E36_0 Q36_0)) := impl_TokenOk_c0 x.1 x.2.1 x.2.2.1 x.2.2.2.1 x.2.2.2.2.1 x.2.2.2.2.2.1 x.2.2.2.2.2.2.1 x.2.2.2.2.2.2.2.1 x.2.2.2.2.2.2.2.2.1
noncomputable def L36 {R : Type} : Loops R := fun id _ st k => bif Nat.beq id 0 then loopAt hp36_0 e36_0 q36_0 impl_TokenOk_r0 st k else none
noncomputable def impl_TokenOk (t0c0 : Int) (t0c1 : Int) (t0c2 : Int) (t0c3 : Int) (t0c4 : Int) (t0c5 : List (Int × Unit)) : Option (Bool × Unit) :=
  Option.bind (impl_inRange t0c0 (1 : Int) (9 : Int)) fun y1 =>
  bif !y1.1 then
    some (false, ())
  else
    Option.bind (impl_inRange t0c1 (1 : Int) (1000000000 : Int)) fun y2 =>
    bif !y2.1 then
      some (false, ())
    else
      Option.bind (impl_inRange t0c2 (0 : Int) (60 : Int)) fun y3 =>
      bif !y3.1 then
        some (false, ())
      else
        outK (loopV impl_TokenOk_r0 (t0c0, t0c1, t0c2, t0c3, t0c4, t0c5, t0c5, ((List.length t0c5 : Nat) : Int), (0 : Int), ())) (fun y4 =>
          Option.bind (impl_inRange y4.2.2.2.1 (0 : Int) y4.2.2.1) fun y6 =>
          bif y6.1 then
            Option.bind (impl_inRange y4.2.2.2.2.1 (0 : Int) (5 : Int)) fun y7 =>
            bif y7.1 then
              some (decide (((List.length y4.2.2.2.2.2.1 : Nat) : Int) ≤ (20 : Int)), ())
            else
              some (false, ())
          else
            some (false, ())) (fun y5 =>
          some (y5.1, ()))
noncomputable def x36 (x : Int × Int × Int × Int × Int × (List (Int × Unit)) × Unit) : Option (Bool × Unit) := impl_TokenOk x.1 x.2.1 x.2.2.1 x.2.2.2.1 x.2.2.2.2.1 x.2.2.2.2.2.1
noncomputable def sem36 : Sem1 := semOf ps36 rs36 x36
theorem so36 : SemsOk Try.prog (semsOf sl36) := sems_cons k68 (sems_nil)
noncomputable def b36_0 : Code := nthLoop code36 0
theorem t36_r0_eq (x : denR (headRT hp36_0)) : codeK (tabOf tr) (semsOf sl36) D36 L36 b36_0 (headSt hp36_0 x) (roundK 0 hp36_0 e36_0 q36_0) = impl_TokenOk_r0 x := by kernel_rfl
theorem loop36_0 {R : Type} (r : R) (w0 : World) (mu : Mu) (hs : AnShape ps36 mu) : LoopAt Try.prog w0 mu 65 (L36 : Loops R) r 0 b36_0 :=
  loop_auto tr_ok eq_ok mixed_ok so36 (D := D36) hs (by kernel_rfl) (fun _ => (loops_of (l := []) (by kernel_rfl) (List.forall_mem_nil _))) t36_r0_eq (fun _ _ => rfl)
theorem t36_eq (x : denR (headRT (ps36.map some))) : codeK (tabOf tr) (semsOf sl36) D36 L36 code36 (start 65 ps36 x) (finK rs36 ps36) = x36 x := by kernel_rfl
theorem k36 : Known Try.prog 36 sem36 :=
  fn_auto tr_ok eq_ok mixed_ok so36 (D := D36) (code := code36) (n := 65) Try.func36 (by kernel_rfl) (by kernel_rfl) (by kernel_rfl) (fun w0 mu _ hs => (loops_of (l := [(0, b36_0)]) (by kernel_rfl) (List.forall_mem_cons.2 ⟨loop36_0 _ w0 mu hs, (List.forall_mem_nil _)⟩))) t36_eq

/-! ### f7: laws.FnRings -/
noncomputable def code7 : Code := match Try.f7.body with | some c => c | none => .skip
def ps7 : List AP := [.val false [.shr (.cons (.int .u8) .nil)]]
def rs7 : List RP := [{ src := .tmp 2, agg := false, ps := [.bool] }]
noncomputable def sl7 : SemL := [(31, (.shr, .shr, .shr, sem31)), (32, (.shr, .shr, .shr, sem32)), (29, (.shr, .shr, .shr, sem29)), (33, (.shr, .shr, .shr, sem33)), (34, (.shr, .shr, .shr, sem34)), (35, (.shr, .shr, .shr, sem35)), (36, (.shr, .shr, .shr, sem36))]
def D7 : Draws := fun _ => .nil
def hp7_0 : List (Option AP) := [none, none, none, some (.box false [.int .i64, .own (.cons (.int .i64) .nil)]), some (.val false [.int .i64]), some (.val false [.own (.cons (.int .i64) .nil)]), some (.val false [.int .i64]), none, none, none, none, none, none, none, none, none, none, none, none, none, none, none, none, none, none, none, none, none, none, none, none, none, none, none, none, none, none, none, none, none, none, none, none, none, none, none, none, none, none, none, none, none, none, none, none, none, none, none, none, none, none, none, none, none, none, none, none, none, none, none]
def e7_0 : List (Option AP) := [none, none, none, some (.box false [.int .i64, .own (.cons (.int .i64) .nil)]), some (.val false [.int .i64]), some (.val false [.own (.cons (.int .i64) .nil)]), none, none, none, none, none, none, none, none, none, none, none, none, none, none, none, none, none, none, none, none, none, none, none, none, none, none, none, none, none, none, none, none, none, none, none, none, none, none, none, none, none, none, none, none, none, none, none, none, none, none, none, none, none, none, none, none, none, none, none, none, none, none, none, none]
def q7_0 : List (Option AP) := [none, none, none, none, none, none, none, none, none, none, none, none, none, none, none, none, none, none, none, none, none, none, none, none, none, none, none, none, none, none, none, none, none, none, none, none, none, none, none, none, none, none, none, none, none, none, none, none, none, none, none, none, none, none, none, none, none, none, none, none, none, none, none, none, none, none, none, none, none, none]
abbrev H7_0 : Type := Int × (List (Int × Unit)) × Int × (List (Int × Unit)) × Int × Unit
abbrev E7_0 : Type := Int × (List (Int × Unit)) × Int × (List (Int × Unit)) × Unit
abbrev Q7_0 : Type := Unit
noncomputable def laws_FnRings_c0 (r3c0 : Int) (r3c1 : List (Int × Unit)) (d4 : Int) (list5 : List (Int × Unit)) (i6 : Int) : Option (Sum H7_0 (Sum E7_0 Q7_0)) :=
  bif decide (i6 < ((List.length r3c1 : Nat) : Int)) then
    bif Nat.ble (((List.length list5) + 1) * 8) lim then Option.bind (impl_NextOf r3c0 r3c1 d4) fun y4 =>
      some (.inl (r3c0, r3c1, y4.1, list5 ++ [(d4, ())], IntKind.i64.wrap (i6 + (1 : Int)), ()))
    else none
  else
    some (.inr (.inl (r3c0, r3c1, d4, list5, ())))
noncomputable def laws_FnRings_r0 (x : H7_0) : Option (Sum H7_0 (Sum E7_0 Q7_0)) := laws_FnRings_c0 x.1 x.2.1 x.2.2.1 x.2.2.2.1 x.2.2.2.2.1
noncomputable def L7 {R : Type} : Loops R := fun id _ st k => bif Nat.beq id 0 then loopAt hp7_0 e7_0 q7_0 laws_FnRings_r0 st k else none
noncomputable def laws_FnRings (code0 : List (Int × Unit)) : Option (Bool × Unit) :=
  Option.bind (laws_big code0) fun y1 =>
  bif y1.1 then
    some (true, ())
  else
    Option.bind (spec_DrawRing code0) fun y2 =>
    bif Nat.blt 0 (List.length y2.2.1) then Option.bind ((y2.2.1)[0]?) fun r3 =>
      outK (loopV laws_FnRings_r0 (y2.1, y2.2.1, r3.1, [], (0 : Int), ())) (fun y4 =>
        Option.bind (impl_FirstToken y4.1 y4.2.1) fun y6 =>
        Option.bind (impl_RingOk y4.1 y4.2.1) fun y7 =>
        bif y7.1 then
          Option.bind (laws_sameInts y4.2.2.2.1 y4.2.1) fun y8 =>
          bif y8.1 then
            bif Nat.blt 0 (List.length y4.2.1) then Option.bind ((y4.2.1)[0]?) fun r9 =>
              bif decide (y4.2.2.1 = r9.1) then
                Option.bind (impl_NextOf y4.1 y4.2.1 (9 : Int)) fun y10 =>
                bif decide (y10.1 = (0 : Int)) then
                  bif decide (y6.1 = y4.1) then
                    bif decide (y6.2.1 = (1 : Int)) then
                      Option.bind (impl_TokenOk y6.1 y6.2.1 y6.2.2.1 y6.2.2.2.1 y6.2.2.2.2.1 y6.2.2.2.2.2.1) fun y11 =>
                      some (y11.1, ())
                    else
                      some (false, ())
                  else
                    some (false, ())
                else
                  some (false, ())
              else
                some (false, ())
            else none
          else
            some (false, ())
        else
          some (false, ())) (fun y5 =>
        none)
    else none
noncomputable def x7 (x : (List (Int × Unit)) × Unit) : Option (Bool × Unit) := laws_FnRings x.1
noncomputable def sem7 : Sem1 := semOf ps7 rs7 x7
theorem so7 : SemsOk Try.prog (semsOf sl7) := sems_cons k31 (sems_cons k32 (sems_cons k29 (sems_cons k33 (sems_cons k34 (sems_cons k35 (sems_cons k36 (sems_nil)))))))
noncomputable def b7_0 : Code := nthLoop code7 0
theorem t7_r0_eq (x : denR (headRT hp7_0)) : codeK (tabOf tr) (semsOf sl7) D7 L7 b7_0 (headSt hp7_0 x) (roundK 0 hp7_0 e7_0 q7_0) = laws_FnRings_r0 x := by kernel_rfl
theorem loop7_0 {R : Type} (r : R) (w0 : World) (mu : Mu) (hs : AnShape ps7 mu) : LoopAt Try.prog w0 mu 70 (L7 : Loops R) r 0 b7_0 :=
  loop_auto tr_ok eq_ok mixed_ok so7 (D := D7) hs (by kernel_rfl) (fun _ => (loops_of (l := []) (by kernel_rfl) (List.forall_mem_nil _))) t7_r0_eq (fun _ _ => rfl)
theorem t7_eq (x : denR (headRT (ps7.map some))) : codeK (tabOf tr) (semsOf sl7) D7 L7 code7 (start 70 ps7 x) (finK rs7 ps7) = x7 x := by kernel_rfl
theorem k7 : Known Try.prog 7 sem7 :=
  fn_auto tr_ok eq_ok mixed_ok so7 (D := D7) (code := code7) (n := 70) Try.func7 (by kernel_rfl) (by kernel_rfl) (by kernel_rfl) (fun w0 mu _ hs => (loops_of (l := [(0, b7_0)]) (by kernel_rfl) (List.forall_mem_cons.2 ⟨loop7_0 _ w0 mu hs, (List.forall_mem_nil _)⟩))) t7_eq

/-! ### f37: laws.szRingS -/
noncomputable def code37 : Code := match Try.f37.body with | some c => c | none => .skip
def ps37 : List AP := [.val false [.shr (.cons (.int .i64) (.cons (.sl (.cons (.int .i64) .nil)) .nil))], .val false [.int .i64]]
def rs37 : List RP := [{ src := .tmp 4, agg := false, ps := [.int .i64] }]
noncomputable def sl37 : SemL := [(26, (.shr, .shr, .shr, sem26))]
def D37 : Draws := fun _ => .nil
def hp37_0 : List (Option AP) := [some (.val false [.shr (.cons (.int .i64) (.cons (.sl (.cons (.int .i64) .nil)) .nil))]), some (.val false [.int .i64]), none, none, none, some (.val false [.int .i64]), none, none, none, none, none, none, none, none, none, none, none, none, none, none, none, none, none, none, none, none, none]
def e37_0 : List (Option AP) := [none, some (.val false [.int .i64]), none, none, none, none, none, none, none, none, none, none, none, none, none, none, none, none, none, none, none, none, none, none, none, none, none]
def q37_0 : List (Option AP) := [none, none, none, none, some (.val false [.int .i64]), none, none, none, none, none, none, none, none, none, none, none, none, none, none, none, none, none, none, none, none, none, none]
abbrev H37_0 : Type := (List (Int × (List (Int × Unit)) × Unit)) × Int × Int × Unit
abbrev E37_0 : Type := Int × Unit
abbrev Q37_0 : Type := Int × Unit
noncomputable def laws_szRingS_c0 (a0 : List (Int × (List (Int × Unit)) × Unit)) (left1 : Int) (i5 : Int) : Option (Sum H37_0 (Sum E37_0 Q37_0)) :=
  bif decide (i5 < ((List.length a0 : Nat) : Int)) then
    bif decide ((0 : Int) ≤ i5) then Option.bind ((a0)[Int.toNat i5]?) fun r1 =>
      Option.bind (laws_szRing r1.1 r1.2.1 left1) fun y2 =>
      bif decide (y2.1 < (0 : Int)) then
        some (.inr (.inr ((-1 : Int), ())))
      else
        some (.inl (a0, y2.1, IntKind.i64.wrap (i5 + (1 : Int)), ()))
    else none
  else
    some (.inr (.inl (left1, ())))
noncomputable def laws_szRingS_r0 (x : H37_0) : Option (Sum H37_0 (Sum E37_0 Q37_0)) := laws_szRingS_c0 x.1 x.2.1 x.2.2.1
noncomputable def L37 {R : Type} : Loops R := fun id _ st k => bif Nat.beq id 0 then loopAt hp37_0 e37_0 q37_0 laws_szRingS_r0 st k else none
noncomputable def laws_szRingS (a0 : List (Int × (List (Int × Unit)) × Unit)) (left1 : Int) : Option (Int × Unit) :=
  bif decide (IntKind.i64.wrap (left1 - ((List.length a0 : Nat) : Int)) < (0 : Int)) then
    some ((-1 : Int), ())
  else
    outK (loopV laws_szRingS_r0 (a0, IntKind.i64.wrap (left1 - ((List.length a0 : Nat) : Int)), (0 : Int), ())) (fun y1 =>
      some (y1.1, ())) (fun y2 =>
      some (y2.1, ()))
noncomputable def x37 (x : (List (Int × (List (Int × Unit)) × Unit)) × Int × Unit) : Option (Int × Unit) := laws_szRingS x.1 x.2.1
noncomputable def sem37 : Sem1 := semOf ps37 rs37 x37
theorem so37 : SemsOk Try.prog (semsOf sl37) := sems_cons k26 (sems_nil)
noncomputable def b37_0 : Code := nthLoop code37 0
theorem t37_r0_eq (x : denR (headRT hp37_0)) : codeK (tabOf tr) (semsOf sl37) D37 L37 b37_0 (headSt hp37_0 x) (roundK 0 hp37_0 e37_0 q37_0) = laws_szRingS_r0 x := by kernel_rfl
theorem loop37_0 {R : Type} (r : R) (w0 : World) (mu : Mu) (hs : AnShape ps37 mu) : LoopAt Try.prog w0 mu 27 (L37 : Loops R) r 0 b37_0 :=
  loop_auto tr_ok eq_ok mixed_ok so37 (D := D37) hs (by kernel_rfl) (fun _ => (loops_of (l := []) (by kernel_rfl) (List.forall_mem_nil _))) t37_r0_eq (fun _ _ => rfl)
theorem t37_eq (x : denR (headRT (ps37.map some))) : codeK (tabOf tr) (semsOf sl37) D37 L37 code37 (start 27 ps37 x) (finK rs37 ps37) = x37 x := by kernel_rfl
theorem k37 : Known Try.prog 37 sem37 :=
  fn_auto tr_ok eq_ok mixed_ok so37 (D := D37) (code := code37) (n := 27) Try.func37 (by kernel_rfl) (by kernel_rfl) (by kernel_rfl) (fun w0 mu _ hs => (loops_of (l := [(0, b37_0)]) (by kernel_rfl) (List.forall_mem_cons.2 ⟨loop37_0 _ w0 mu hs, (List.forall_mem_nil _)⟩))) t37_eq

/-! ### f39: laws.toRingS -/
noncomputable def code39 : Code := match Try.f39.body with | some c => c | none => .skip
def ps39 : List AP := [.val false [.shr (.cons (.int .i64) (.cons (.sl (.cons (.int .i64) .nil)) .nil))]]
def rs39 : List RP := [{ src := .tmp 2, agg := false, ps := [.own (.cons (.int .i64) (.cons (.sl (.cons (.int .i64) .nil)) .nil))] }]
noncomputable def sl39 : SemL := [(28, (.shr, .shr, .shr, sem28))]
def D39 : Draws := fun _ => .nil
def hp39_0 : List (Option AP) := [some (.val false [.shr (.cons (.int .i64) (.cons (.sl (.cons (.int .i64) .nil)) .nil))]), none, none, some (.val false [.own (.cons (.int .i64) (.cons (.sl (.cons (.int .i64) .nil)) .nil))]), some (.val false [.int .i64]), none, none, none, none, none, none, none, none, none, none, none, none, none, none, none, none, none, none]
def e39_0 : List (Option AP) := [none, none, none, some (.val false [.own (.cons (.int .i64) (.cons (.sl (.cons (.int .i64) .nil)) .nil))]), none, none, none, none, none, none, none, none, none, none, none, none, none, none, none, none, none, none, none]
def q39_0 : List (Option AP) := [none, none, none, none, none, none, none, none, none, none, none, none, none, none, none, none, none, none, none, none, none, none, none]
abbrev H39_0 : Type := (List (Int × (List (Int × Unit)) × Unit)) × (List (Int × (List (Int × Unit)) × Unit)) × Int × Unit
abbrev E39_0 : Type := (List (Int × (List (Int × Unit)) × Unit)) × Unit
abbrev Q39_0 : Type := Unit
noncomputable def laws_toRingS_c0 (a0 : List (Int × (List (Int × Unit)) × Unit)) (out3 : List (Int × (List (Int × Unit)) × Unit)) (i4 : Int) : Option (Sum H39_0 (Sum E39_0 Q39_0)) :=
  bif decide (i4 < ((List.length a0 : Nat) : Int)) then
    bif decide ((0 : Int) ≤ i4) then Option.bind ((a0)[Int.toNat i4]?) fun r1 =>
      Option.bind (laws_toRing r1.1 r1.2.1) fun y2 =>
      bif decide ((0 : Int) ≤ i4) then bif Nat.blt (Int.toNat i4) (List.length out3) then Option.bind ((out3)[Int.toNat i4]?) fun _ =>
          some (.inl (a0, List.set out3 (Int.toNat i4) (y2.1, y2.2.1, ()), IntKind.i64.wrap (i4 + (1 : Int)), ()))
        else none
      else none
    else none
  else
    some (.inr (.inl (out3, ())))
noncomputable def laws_toRingS_r0 (x : H39_0) : Option (Sum H39_0 (Sum E39_0 Q39_0)) := laws_toRingS_c0 x.1 x.2.1 x.2.2.1
noncomputable def L39 {R : Type} : Loops R := fun id _ st k => bif Nat.beq id 0 then loopAt hp39_0 e39_0 q39_0 laws_toRingS_r0 st k else none
noncomputable def laws_toRingS (a0 : List (Int × (List (Int × Unit)) × Unit)) : Option ((List (Int × (List (Int × Unit)) × Unit)) × Unit) :=
  bif decide (((List.length a0 : Nat) : Int) = ((List.length a0 : Nat) : Int)) then bif decide ((0 : Int) ≤ ((List.length a0 : Nat) : Int)) then bif Nat.ble ((Int.toNat ((List.length a0 : Nat) : Int)) * 32) lim then outK (loopV laws_toRingS_r0 (a0, List.replicate (Int.toNat ((List.length a0 : Nat) : Int)) ((0 : Int), [], ()), (0 : Int), ())) (fun y1 =>
          some (y1.1, ())) (fun y2 =>
          none)
      else none
    else none
  else none
noncomputable def x39 (x : (List (Int × (List (Int × Unit)) × Unit)) × Unit) : Option ((List (Int × (List (Int × Unit)) × Unit)) × Unit) := laws_toRingS x.1
noncomputable def sem39 : Sem1 := semOf ps39 rs39 x39
theorem so39 : SemsOk Try.prog (semsOf sl39) := sems_cons k28 (sems_nil)
noncomputable def b39_0 : Code := nthLoop code39 0
theorem t39_r0_eq (x : denR (headRT hp39_0)) : codeK (tabOf tr) (semsOf sl39) D39 L39 b39_0 (headSt hp39_0 x) (roundK 0 hp39_0 e39_0 q39_0) = laws_toRingS_r0 x := by kernel_rfl
theorem loop39_0 {R : Type} (r : R) (w0 : World) (mu : Mu) (hs : AnShape ps39 mu) : LoopAt Try.prog w0 mu 23 (L39 : Loops R) r 0 b39_0 :=
  loop_auto tr_ok eq_ok mixed_ok so39 (D := D39) hs (by kernel_rfl) (fun _ => (loops_of (l := []) (by kernel_rfl) (List.forall_mem_nil _))) t39_r0_eq (fun _ _ => rfl)
theorem t39_eq (x : denR (headRT (ps39.map some))) : codeK (tabOf tr) (semsOf sl39) D39 L39 code39 (start 23 ps39 x) (finK rs39 ps39) = x39 x := by kernel_rfl
theorem k39 : Known Try.prog 39 sem39 :=
  fn_auto tr_ok eq_ok mixed_ok so39 (D := D39) (code := code39) (n := 23) Try.func39 (by kernel_rfl) (by kernel_rfl) (by kernel_rfl) (fun w0 mu _ hs => (loops_of (l := [(0, b39_0)]) (by kernel_rfl) (List.forall_mem_cons.2 ⟨loop39_0 _ w0 mu hs, (List.forall_mem_nil _)⟩))) t39_eq

/-! ### f38: spec.RingsOk -/
noncomputable def code38 : Code := match Try.f38.body with | some c => c | none => .skip
def ps38 : List AP := [.val false [.shr (.cons (.int .i64) (.cons (.sl (.cons (.int .i64) .nil)) .nil))]]
def rs38 : List RP := [{ src := .tmp 2, agg := false, ps := [.bool] }]
noncomputable def sl38 : SemL := [(77, (.shr, .shr, .shr, sem77)), (67, (.shr, .shr, .shr, sem67))]
def D38 : Draws := fun _ => .nil
def hp38_0 : List (Option AP) := [some (.val false [.shr (.cons (.int .i64) (.cons (.sl (.cons (.int .i64) .nil)) .nil))]), none, none, some (.val false [.int .i64]), none, none, none, none, none, none, none, none, none, none, none, none, none, none, none, none, none, none, none, none, none, none, none, none, none]
def e38_0 : List (Option AP) := [some (.val false [.shr (.cons (.int .i64) (.cons (.sl (.cons (.int .i64) .nil)) .nil))]), none, none, none, none, none, none, none, none, none, none, none, none, none, none, none, none, none, none, none, none, none, none, none, none, none, none, none, none]
def q38_0 : List (Option AP) := [none, none, some (.val false [.bool]), none, none, none, none, none, none, none, none, none, none, none, none, none, none, none, none, none, none, none, none, none, none, none, none, none, none]
abbrev H38_0 : Type := (List (Int × (List (Int × Unit)) × Unit)) × Int × Unit
abbrev E38_0 : Type := (List (Int × (List (Int × Unit)) × Unit)) × Unit
abbrev Q38_0 : Type := Bool × Unit
noncomputable def spec_RingsOk_c0 (rings0 : List (Int × (List (Int × Unit)) × Unit)) (i3 : Int) : Option (Sum H38_0 (Sum E38_0 Q38_0)) :=
  bif decide (i3 < ((List.length rings0 : Nat) : Int)) then
    bif decide ((0 : Int) ≤ i3) then Option.bind ((rings0)[Int.toNat i3]?) fun r1 =>
      Option.bind (spec_RingOk r1.1 r1.2.1) fun y2 =>
      bif !y2.1 then
        some (.inr (.inr (false, ())))
      else bif decide ((0 : Int) ≤ i3) then Option.bind ((rings0)[Int.toNat i3]?) fun r3 =>
        bif !decide (r3.1 = IntKind.i64.wrap (i3 + (1 : Int))) then
          some (.inr (.inr (false, ())))
        else
          some (.inl (rings0, IntKind.i64.wrap (i3 + (1 : Int)), ()))
      else none
    else none
  else
    some (.inr (.inl (rings0, ())))
noncomputable def spec_RingsOk_r0 (x : H38_0) : Option (Sum H38_0 (Sum E38_0 Q38_0)) := spec_RingsOk_c0 x.1 x.2.1
noncomputable def L38 {R : Type} : Loops R := fun id _ st k => bif Nat.beq id 0 then loopAt hp38_0 e38_0 q38_0 spec_RingsOk_r0 st k else none
noncomputable def spec_RingsOk (rings0 : List (Int × (List (Int × Unit)) × Unit)) : Option (Bool × Unit) :=
  outK (loopV spec_RingsOk_r0 (rings0, (0 : Int), ())) (fun y1 =>
    Option.bind (spec_l01In ((List.length y1.1 : Nat) : Int) (1 : Int) (9 : Int)) fun y3 =>
    some (y3.1, ())) (fun y2 =>
    some (y2.1, ()))
noncomputable def x38 (x : (List (Int × (List (Int × Unit)) × Unit)) × Unit) : Option (Bool × Unit) := spec_RingsOk x.1
noncomputable def sem38 : Sem1 := semOf ps38 rs38 x38
theorem so38 : SemsOk Try.prog (semsOf sl38) := sems_cons k77 (sems_cons k67 (sems_nil))
noncomputable def b38_0 : Code := nthLoop code38 0
theorem t38_r0_eq (x : denR (headRT hp38_0)) : codeK (tabOf tr) (semsOf sl38) D38 L38 b38_0 (headSt hp38_0 x) (roundK 0 hp38_0 e38_0 q38_0) = spec_RingsOk_r0 x := by kernel_rfl
theorem loop38_0 {R : Type} (r : R) (w0 : World) (mu : Mu) (hs : AnShape ps38 mu) : LoopAt Try.prog w0 mu 29 (L38 : Loops R) r 0 b38_0 :=
  loop_auto tr_ok eq_ok mixed_ok so38 (D := D38) hs (by kernel_rfl) (fun _ => (loops_of (l := []) (by kernel_rfl) (List.forall_mem_nil _))) t38_r0_eq (fun _ _ => rfl)
theorem t38_eq (x : denR (headRT (ps38.map some))) : codeK (tabOf tr) (semsOf sl38) D38 L38 code38 (start 29 ps38 x) (finK rs38 ps38) = x38 x := by kernel_rfl
theorem k38 : Known Try.prog 38 sem38 :=
  fn_auto tr_ok eq_ok mixed_ok so38 (D := D38) (code := code38) (n := 29) Try.func38 (by kernel_rfl) (by kernel_rfl) (by kernel_rfl) (fun w0 mu _ hs => (loops_of (l := [(0, b38_0)]) (by kernel_rfl) (List.forall_mem_cons.2 ⟨loop38_0 _ w0 mu hs, (List.forall_mem_nil _)⟩))) t38_eq

/-! ### f40: impl.RingsOk -/
noncomputable def code40 : Code := match Try.f40.body with | some c => c | none => .skip
def ps40 : List AP := [.val false [.shr (.cons (.int .i64) (.cons (.sl (.cons (.int .i64) .nil)) .nil))]]
def rs40 : List RP := [{ src := .tmp 2, agg := false, ps := [.bool] }]
noncomputable def sl40 : SemL := [(34, (.shr, .shr, .shr, sem34)), (68, (.shr, .shr, .shr, sem68))]
def D40 : Draws := fun _ => .nil
def hp40_0 : List (Option AP) := [some (.val false [.shr (.cons (.int .i64) (.cons (.sl (.cons (.int .i64) .nil)) .nil))]), none, none, none, none, some (.val false [.shr (.cons (.int .i64) (.cons (.sl (.cons (.int .i64) .nil)) .nil))]), some (.val false [.int .i64]), some (.val false [.int .i64]), none, none, none, none, none, none, none, none, none, none, none, none, none, none, none, none, none, none]
def e40_0 : List (Option AP) := [some (.val false [.shr (.cons (.int .i64) (.cons (.sl (.cons (.int .i64) .nil)) .nil))]), none, none, none, none, none, none, none, none, none, none, none, none, none, none, none, none, none, none, none, none, none, none, none, none, none]
def q40_0 : List (Option AP) := [none, none, some (.val false [.bool]), none, none, none, none, none, none, none, none, none, none, none, none, none, none, none, none, none, none, none, none, none, none, none]
abbrev H40_0 : Type := (List (Int × (List (Int × Unit)) × Unit)) × (List (Int × (List (Int × Unit)) × Unit)) × Int × Int × Unit
abbrev E40_0 : Type := (List (Int × (List (Int × Unit)) × Unit)) × Unit
abbrev Q40_0 : Type := Bool × Unit
noncomputable def impl_RingsOk_c0 (rings0 : List (Int × (List (Int × Unit)) × Unit)) (t5 : List (Int × (List (Int × Unit)) × Unit)) (t6 : Int) (t7 : Int) : Option (Sum H40_0 (Sum E40_0 Q40_0)) :=
  bif decide (t7 < t6) then
    bif decide ((0 : Int) ≤ t7) then Option.bind ((t5)[Int.toNat t7]?) fun r1 =>
      Option.bind (impl_RingOk r1.1 r1.2.1) fun y2 =>
      bif !y2.1 then
        some (.inr (.inr (false, ())))
      else bif !decide (r1.1 = IntKind.i64.wrap (t7 + (1 : Int))) then
        some (.inr (.inr (false, ())))
      else
        some (.inl (rings0, t5, t6, IntKind.i64.wrap (t7 + (1 : Int)), ()))
    else none
  else
    some (.inr (.inl (rings0, ())))
noncomputable def impl_RingsOk_r0 (x : H40_0) : Option (Sum H40_0 (Sum E40_0 Q40_0)) := impl_RingsOk_c0 x.1 x.2.1 x.2.2.1 x.2.2.2.1
noncomputable def L40 {R : Type} : Loops R := fun id _ st k => bif Nat.beq id 0 then loopAt hp40_0 e40_0 q40_0 impl_RingsOk_r0 st k else none
noncomputable def impl_RingsOk (rings0 : List (Int × (List (Int × Unit)) × Unit)) : Option (Bool × Unit) :=
  outK (loopV impl_RingsOk_r0 (rings0, rings0, ((List.length rings0 : Nat) : Int), (0 : Int), ())) (fun y1 =>
    Option.bind (impl_inRange ((List.length y1.1 : Nat) : Int) (1 : Int) (9 : Int)) fun y3 =>
    some (y3.1, ())) (fun y2 =>
    some (y2.1, ()))
noncomputable def x40 (x : (List (Int × (List (Int × Unit)) × Unit)) × Unit) : Option (Bool × Unit) := impl_RingsOk x.1
noncomputable def sem40 : Sem1 := semOf ps40 rs40 x40
theorem so40 : SemsOk Try.prog (semsOf sl40) := sems_cons k34 (sems_cons k68 (sems_nil))
noncomputable def b40_0 : Code := nthLoop code40 0
theorem t40_r0_eq (x : denR (headRT hp40_0)) : codeK (tabOf tr) (semsOf sl40) D40 L40 b40_0 (headSt hp40_0 x) (roundK 0 hp40_0 e40_0 q40_0) = impl_RingsOk_r0 x := by kernel_rfl
theorem loop40_0 {R : Type} (r : R) (w0 : World) (mu : Mu) (hs : AnShape ps40 mu) : LoopAt Try.prog w0 mu 26 (L40 : Loops R) r 0 b40_0 :=
  loop_auto tr_ok eq_ok mixed_ok so40 (D := D40) hs (by kernel_rfl) (fun _ => (loops_of (l := []) (by kernel_rfl) (List.forall_mem_nil _))) t40_r0_eq (fun _ _ => rfl)
theorem t40_eq (x : denR (headRT (ps40.map some))) : codeK (tabOf tr) (semsOf sl40) D40 L40 code40 (start 26 ps40 x) (finK rs40 ps40) = x40 x := by kernel_rfl
theorem k40 : Known Try.prog 40 sem40 :=
  fn_auto tr_ok eq_ok mixed_ok so40 (D := D40) (code := code40) (n := 26) Try.func40 (by kernel_rfl) (by kernel_rfl) (by kernel_rfl) (fun w0 mu _ hs => (loops_of (l := [(0, b40_0)]) (by kernel_rfl) (List.forall_mem_cons.2 ⟨loop40_0 _ w0 mu hs, (List.forall_mem_nil _)⟩))) t40_eq

/-! ### f41: laws.eqRingS -/
noncomputable def code41 : Code := match Try.f41.body with | some c => c | none => .skip
def ps41 : List AP := [.val false [.shr (.cons (.int .i64) (.cons (.sl (.cons (.int .i64) .nil)) .nil))], .val false [.shr (.cons (.int .i64) (.cons (.sl (.cons (.int .i64) .nil)) .nil))]]
def rs41 : List RP := [{ src := .tmp 4, agg := false, ps := [.bool] }]
noncomputable def sl41 : SemL := [(30, (.shr, .shr, .shr, sem30))]
def D41 : Draws := fun id => bif Nat.beq id 6 then .op 0 .any (.op 1 .any (.op 2 .any (.op 3 .take (.op 4 .any (.op 5 .any (.op 6 .any (.op 7 .take (.op 8 .one (.op 9 .any (.nil)))))))))) else .nil
def hp41_0 : List (Option AP) := [some (.val false [.shr (.cons (.int .i64) (.cons (.sl (.cons (.int .i64) .nil)) .nil))]), some (.val false [.shr (.cons (.int .i64) (.cons (.sl (.cons (.int .i64) .nil)) .nil))]), none, none, none, some (.val false [.int .i64]), none, none, none, none, none, none, none, none, none, none, none, none, none, none, none, none, none, none, none, none, none]
def e41_0 : List (Option AP) := [none, none, none, none, none, none, none, none, none, none, none, none, none, none, none, none, none, none, none, none, none, none, none, none, none, none, none]
def q41_0 : List (Option AP) := [none, none, none, none, some (.val false [.bool]), none, none, none, none, none, none, none, none, none, none, none, none, none, none, none, none, none, none, none, none, none, none]
abbrev H41_0 : Type := (List (Int × (List (Int × Unit)) × Unit)) × (List (Int × (List (Int × Unit)) × Unit)) × Int × Unit
abbrev E41_0 : Type := Unit
abbrev Q41_0 : Type := Bool × Unit
noncomputable def laws_eqRingS_c0 (a0 : List (Int × (List (Int × Unit)) × Unit)) (b1 : List (Int × (List (Int × Unit)) × Unit)) (i5 : Int) : Option (Sum H41_0 (Sum E41_0 Q41_0)) :=
  bif decide (i5 < ((List.length a0 : Nat) : Int)) then
    bif decide ((0 : Int) ≤ i5) then Option.bind ((a0)[Int.toNat i5]?) fun r1 =>
      bif decide ((0 : Int) ≤ i5) then Option.bind ((b1)[Int.toNat i5]?) fun r2 =>
        Option.bind (laws_eqRing r1.1 r1.2.1 r2.1 r2.2.1) fun y3 =>
        bif !y3.1 then
          some (.inr (.inr (false, ())))
        else
          some (.inl (a0, b1, IntKind.i64.wrap (i5 + (1 : Int)), ()))
      else none
    else none
  else
    some (.inr (.inl (())))
noncomputable def laws_eqRingS_r0 (x : H41_0) : Option (Sum H41_0 (Sum E41_0 Q41_0)) := laws_eqRingS_c0 x.1 x.2.1 x.2.2.1
noncomputable def L41 {R : Type} : Loops R := fun id _ st k => bif Nat.beq id 0 then loopAt hp41_0 e41_0 q41_0 laws_eqRingS_r0 st k else none
noncomputable def laws_eqRingS (a0 : List (Int × (List (Int × Unit)) × Unit)) (b1 : List (Int × (List (Int × Unit)) × Unit)) : Option (Bool × Unit) :=
  bif !decide (((List.length a0 : Nat) : Int) = ((List.length b1 : Nat) : Int)) then
    some (false, ())
  else
    outK (loopV laws_eqRingS_r0 (a0, b1, (0 : Int), ())) (fun y1 =>
      some (true, ())) (fun y2 =>
      some (y2.1, ()))
noncomputable def x41 (x : (List (Int × (List (Int × Unit)) × Unit)) × (List (Int × (List (Int × Unit)) × Unit)) × Unit) : Option (Bool × Unit) := laws_eqRingS x.1 x.2.1
noncomputable def sem41 : Sem1 := semOf ps41 rs41 x41
theorem so41 : SemsOk Try.prog (semsOf sl41) := sems_cons k30 (sems_nil)
noncomputable def b41_0 : Code := nthLoop code41 0
theorem t41_r0_eq (x : denR (headRT hp41_0)) : codeK (tabOf tr) (semsOf sl41) D41 L41 b41_0 (headSt hp41_0 x) (roundK 0 hp41_0 e41_0 q41_0) = laws_eqRingS_r0 x := by kernel_rfl
theorem loop41_0 {R : Type} (r : R) (w0 : World) (mu : Mu) (hs : AnShape ps41 mu) : LoopAt Try.prog w0 mu 27 (L41 : Loops R) r 0 b41_0 :=
  loop_auto tr_ok eq_ok mixed_ok so41 (D := D41) hs (by kernel_rfl) (fun _ => (loops_of (l := []) (by kernel_rfl) (List.forall_mem_nil _))) t41_r0_eq (fun _ _ => rfl)
theorem t41_eq (x : denR (headRT (ps41.map some))) : codeK (tabOf tr) (semsOf sl41) D41 L41 code41 (start 27 ps41 x) (finK rs41 ps41) = x41 x := by kernel_rfl
theorem k41 : Known Try.prog 41 sem41 :=
  fn_auto tr_ok eq_ok mixed_ok so41 (D := D41) (code := code41) (n := 27) Try.func41 (by kernel_rfl) (by kernel_rfl) (by kernel_rfl) (fun w0 mu _ hs => (loops_of (l := [(0, b41_0)]) (by kernel_rfl) (List.forall_mem_cons.2 ⟨loop41_0 _ w0 mu hs, (List.forall_mem_nil _)⟩))) t41_eq

/-! ### f8: laws.FnExactRingsOk -/
noncomputable def code8 : Code := match Try.f8.body with | some c => c | none => .skip
def ps8 : List AP := [.val false [.shr (.cons (.int .i64) (.cons (.sl (.cons (.int .i64) .nil)) .nil))]]
def rs8 : List RP := [{ src := .tmp 2, agg := false, ps := [.bool] }]
noncomputable def sl8 : SemL := [(37, (.shr, .shr, .shr, sem37)), (39, (.shr, .shr, .shr, sem39)), (38, (.shr, .shr, .shr, sem38)), (40, (.shr, .shr, .shr, sem40)), (41, (.shr, .shr, .shr, sem41))]
def D8 : Draws := fun _ => .nil
noncomputable def L8 {R : Type} : Loops R := fun _ _ _ _ => none
noncomputable def laws_FnExactRingsOk (aRings0 : List (Int × (List (Int × Unit)) × Unit)) : Option (Bool × Unit) :=
  Option.bind (laws_szRingS aRings0 (1048576 : Int)) fun y1 =>
  bif decide (y1.1 < (0 : Int)) then
    some (true, ())
  else
    Option.bind (laws_toRingS aRings0) fun y2 =>
    Option.bind (spec_RingsOk y2.1) fun y3 =>
    Option.bind (laws_toRingS aRings0) fun y4 =>
    Option.bind (impl_RingsOk y4.1) fun y5 =>
    bif !(y5.1 == y3.1) then
      some (false, ())
    else
      Option.bind (laws_toRingS aRings0) fun y6 =>
      Option.bind (laws_eqRingS y4.1 y6.1) fun y7 =>
      bif !y7.1 then
        some (false, ())
      else
        some (true, ())
noncomputable def x8 (x : (List (Int × (List (Int × Unit)) × Unit)) × Unit) : Option (Bool × Unit) := laws_FnExactRingsOk x.1
noncomputable def sem8 : Sem1 := semOf ps8 rs8 x8
theorem so8 : SemsOk Try.prog (semsOf sl8) := sems_cons k37 (sems_cons k39 (sems_cons k38 (sems_cons k40 (sems_cons k41 (sems_nil)))))
theorem t8_eq (x : denR (headRT (ps8.map some))) : codeK (tabOf tr) (semsOf sl8) D8 L8 code8 (start 27 ps8 x) (finK rs8 ps8) = x8 x := by kernel_rfl
theorem k8 : Known Try.prog 8 sem8 :=
  fn_auto tr_ok eq_ok mixed_ok so8 (D := D8) (code := code8) (n := 27) Try.func8 (by kernel_rfl) (by kernel_rfl) (by kernel_rfl) (fun w0 mu _ hs => (loops_of (l := []) (by kernel_rfl) (List.forall_mem_nil _))) t8_eq

/-! ### f103: laws.szItem -/
noncomputable def code103 : Code := match Try.f103.body with | some c => c | none => .skip
def ps103 : List AP := [.val true [.int .i64, .int .i64, .int .i64, .str], .val false [.int .i64]]
def rs103 : List RP := [{ src := .tmp 4, agg := false, ps := [.int .i64] }]
noncomputable def sl103 : SemL := []
def D103 : Draws := fun _ => .nil
noncomputable def L103 {R : Type} : Loops R := fun _ _ _ _ => none
noncomputable def laws_szItem (a0c0 : Int) (a0c1 : Int) (a0c2 : Int) (a0c3 : ByteArray) (left1 : Int) : Option (Int × Unit) :=
  bif decide (IntKind.i64.wrap (left1 - ((ByteArray.size a0c3 : Nat) : Int)) < (0 : Int)) then
    some ((-1 : Int), ())
  else
    some (IntKind.i64.wrap (left1 - ((ByteArray.size a0c3 : Nat) : Int)), ())
noncomputable def x103 (x : Int × Int × Int × ByteArray × Int × Unit) : Option (Int × Unit) := laws_szItem x.1 x.2.1 x.2.2.1 x.2.2.2.1 x.2.2.2.2.1
noncomputable def sem103 : Sem1 := semOf ps103 rs103 x103
theorem so103 : SemsOk Try.prog (semsOf sl103) := sems_nil
theorem t103_eq (x : denR (headRT (ps103.map some))) : codeK (tabOf tr) (semsOf sl103) D103 L103 code103 (start 13 ps103 x) (finK rs103 ps103) = x103 x := by kernel_rfl
theorem k103 : Known Try.prog 103 sem103 :=
  fn_auto tr_ok eq_ok mixed_ok so103 (D := D103) (code := code103) (n := 13) Try.func103 (by kernel_rfl) (by kernel_rfl) (by kernel_rfl) (fun w0 mu _ hs => (loops_of (l := []) (by kernel_rfl) (List.forall_mem_nil _))) t103_eq

/-! ### f83: laws.szItemS -/
noncomputable def code83 : Code := match Try.f83.body with | some c => c | none => .skip
def ps83 : List AP := [.val false [.shr (.cons (.int .i64) (.cons (.int .i64) (.cons (.int .i64) (.cons .str .nil))))], .val false [.int .i64]]
def rs83 : List RP := [{ src := .tmp 4, agg := false, ps := [.int .i64] }]
noncomputable def sl83 : SemL := [(103, (.shr, .shr, .shr, sem103))]
def D83 : Draws := fun _ => .nil
def hp83_0 : List (Option AP) := [some (.val false [.shr (.cons (.int .i64) (.cons (.int .i64) (.cons (.int .i64) (.cons .str .nil))))]), some (.val false [.int .i64]), none, none, none, some (.val false [.int .i64]), none, none, none, none, none, none, none, none, none, none, none, none, none, none, none, none, none, none, none, none, none]
def e83_0 : List (Option AP) := [none, some (.val false [.int .i64]), none, none, none, none, none, none, none, none, none, none, none, none, none, none, none, none, none, none, none, none, none, none, none, none, none]
def q83_0 : List (Option AP) := [none, none, none, none, some (.val false [.int .i64]), none, none, none, none, none, none, none, none, none, none, none, none, none, none, none, none, none, none, none, none, none, none]
abbrev H83_0 : Type := (List (Int × Int × Int × ByteArray × Unit)) × Int × Int × Unit
abbrev E83_0 : Type := Int × Unit
abbrev Q83_0 : Type := Int × Unit
noncomputable def laws_szItemS_c0 (a0 : List (Int × Int × Int × ByteArray × Unit)) (left1 : Int) (i5 : Int) : Option (Sum H83_0 (Sum E83_0 Q83_0)) :=
  bif decide (i5 < ((List.length a0 : Nat) : Int)) then
    bif decide ((0 : Int) ≤ i5) then Option.bind ((a0)[Int.toNat i5]?) fun r1 =>
      Option.bind (laws_szItem r1.1 r1.2.1 r1.2.2.1 r1.2.2.2.1 left1) fun y2 =>
      bif decide (y2.1 < (0 : Int)) then
        some (.inr (.inr ((-1 : Int), ())))
      else
        some (.inl (a0, y2.1, IntKind.i64.wrap (i5 + (1 : Int)), ()))
    else none
  else
    some (.inr (.inl (left1, ())))
noncomputable def laws_szItemS_r0 (x : H83_0) : Option (Sum H83_0 (Sum E83_0 Q83_0)) := laws_szItemS_c0 x.1 x.2.1 x.2.2.1
noncomputable def L83 {R : Type} : Loops R := fun id _ st k => bif Nat.beq id 0 then loopAt hp83_0 e83_0 q83_0 laws_szItemS_r0 st k else none
noncomputable def laws_szItemS (a0 : List (Int × Int × Int × ByteArray × Unit)) (left1 : Int) : Option (Int × Unit) :=
  bif decide (IntKind.i64.wrap (left1 - ((List.length a0 : Nat) : Int)) < (0 : Int)) then
    some ((-1 : Int), ())
  else
    outK (loopV laws_szItemS_r0 (a0, IntKind.i64.wrap (left1 - ((List.length a0 : Nat) : Int)), (0 : Int), ())) (fun y1 =>
      some (y1.1, ())) (fun y2 =>
      some (y2.1, ()))
noncomputable def x83 (x : (List (Int × Int × Int × ByteArray × Unit)) × Int × Unit) : Option (Int × Unit) := laws_szItemS x.1 x.2.1
noncomputable def sem83 : Sem1 := semOf ps83 rs83 x83
theorem so83 : SemsOk Try.prog (semsOf sl83) := sems_cons k103 (sems_nil)
noncomputable def b83_0 : Code := nthLoop code83 0
theorem t83_r0_eq (x : denR (headRT hp83_0)) : codeK (tabOf tr) (semsOf sl83) D83 L83 b83_0 (headSt hp83_0 x) (roundK 0 hp83_0 e83_0 q83_0) = laws_szItemS_r0 x := by kernel_rfl
theorem loop83_0 {R : Type} (r : R) (w0 : World) (mu : Mu) (hs : AnShape ps83 mu) : LoopAt Try.prog w0 mu 27 (L83 : Loops R) r 0 b83_0 :=
  loop_auto tr_ok eq_ok mixed_ok so83 (D := D83) hs (by kernel_rfl) (fun _ => (loops_of (l := []) (by kernel_rfl) (List.forall_mem_nil _))) t83_r0_eq (fun _ _ => rfl)
theorem t83_eq (x : denR (headRT (ps83.map some))) : codeK (tabOf tr) (semsOf sl83) D83 L83 code83 (start 27 ps83 x) (finK rs83 ps83) = x83 x := by kernel_rfl
theorem k83 : Known Try.prog 83 sem83 :=
  fn_auto tr_ok eq_ok mixed_ok so83 (D := D83) (code := code83) (n := 27) Try.func83 (by kernel_rfl) (by kernel_rfl) (by kernel_rfl) (fun w0 mu _ hs => (loops_of (l := [(0, b83_0)]) (by kernel_rfl) (List.forall_mem_cons.2 ⟨loop83_0 _ w0 mu hs, (List.forall_mem_nil _)⟩))) t83_eq

/-! ### f42: laws.szBundle -/
noncomputable def code42 : Code := match Try.f42.body with | some c => c | none => .skip
def ps42 : List AP := [.val true [.int .i64, .int .i64, .int .i64, .shr (.cons (.int .i64) (.cons (.int .i64) (.cons (.int .i64) (.cons .str .nil))))], .val false [.int .i64]]
def rs42 : List RP := [{ src := .tmp 4, agg := false, ps := [.int .i64] }]
noncomputable def sl42 : SemL := [(83, (.shr, .shr, .shr, sem83))]
def D42 : Draws := fun _ => .nil
noncomputable def L42 {R : Type} : Loops R := fun _ _ _ _ => none
noncomputable def laws_szBundle (a0c0 : Int) (a0c1 : Int) (a0c2 : Int) (a0c3 : List (Int × Int × Int × ByteArray × Unit)) (left1 : Int) : Option (Int × Unit) :=
  Option.bind (laws_szItemS a0c3 left1) fun y1 =>
  bif decide (y1.1 < (0 : Int)) then
    some ((-1 : Int), ())
  else
    some (y1.1, ())
noncomputable def x42 (x : Int × Int × Int × (List (Int × Int × Int × ByteArray × Unit)) × Int × Unit) : Option (Int × Unit) := laws_szBundle x.1 x.2.1 x.2.2.1 x.2.2.2.1 x.2.2.2.2.1
noncomputable def sem42 : Sem1 := semOf ps42 rs42 x42
theorem so42 : SemsOk Try.prog (semsOf sl42) := sems_cons k83 (sems_nil)
theorem t42_eq (x : denR (headRT (ps42.map some))) : codeK (tabOf tr) (semsOf sl42) D42 L42 code42 (start 12 ps42 x) (finK rs42 ps42) = x42 x := by kernel_rfl
theorem k42 : Known Try.prog 42 sem42 :=
  fn_auto tr_ok eq_ok mixed_ok so42 (D := D42) (code := code42) (n := 12) Try.func42 (by kernel_rfl) (by kernel_rfl) (by kernel_rfl) (fun w0 mu _ hs => (loops_of (l := []) (by kernel_rfl) (List.forall_mem_nil _))) t42_eq

/-! ### f105: laws.toItem -/
noncomputable def code105 : Code := match Try.f105.body with | some c => c | none => .skip
def ps105 : List AP := [.val true [.int .i64, .int .i64, .int .i64, .str]]
def rs105 : List RP := [{ src := .cell 2, agg := true, ps := [.int .i64, .int .i64, .int .i64, .str] }]
noncomputable def sl105 : SemL := []
def D105 : Draws := fun _ => .nil
noncomputable def L105 {R : Type} : Loops R := fun _ _ _ _ => none
noncomputable def laws_toItem (a0c0 : Int) (a0c1 : Int) (a0c2 : Int) (a0c3 : ByteArray) : Option (Int × Int × Int × ByteArray × Unit) :=
  some (a0c0, a0c1, a0c2, a0c3, ())
noncomputable def x105 (x : Int × Int × Int × ByteArray × Unit) : Option (Int × Int × Int × ByteArray × Unit) := laws_toItem x.1 x.2.1 x.2.2.1 x.2.2.2.1
noncomputable def sem105 : Sem1 := semOf ps105 rs105 x105
theorem so105 : SemsOk Try.prog (semsOf sl105) := sems_nil
theorem t105_eq (x : denR (headRT (ps105.map some))) : codeK (tabOf tr) (semsOf sl105) D105 L105 code105 (start 17 ps105 x) (finK rs105 ps105) = x105 x := by kernel_rfl
theorem k105 : Known Try.prog 105 sem105 :=
  fn_auto tr_ok eq_ok mixed_ok so105 (D := D105) (code := code105) (n := 17) Try.func105 (by kernel_rfl) (by kernel_rfl) (by kernel_rfl) (fun w0 mu _ hs => (loops_of (l := []) (by kernel_rfl) (List.forall_mem_nil _))) t105_eq

/-! ### f85: laws.toItemS -/
noncomputable def code85 : Code := match Try.f85.body with | some c => c | none => .skip
def ps85 : List AP := [.val false [.shr (.cons (.int .i64) (.cons (.int .i64) (.cons (.int .i64) (.cons .str .nil))))]]
def rs85 : List RP := [{ src := .tmp 2, agg := false, ps := [.own (.cons (.int .i64) (.cons (.int .i64) (.cons (.int .i64) (.cons .str .nil))))] }]
noncomputable def sl85 : SemL := [(105, (.shr, .shr, .shr, sem105))]
def D85 : Draws := fun _ => .nil
def hp85_0 : List (Option AP) := [some (.val false [.shr (.cons (.int .i64) (.cons (.int .i64) (.cons (.int .i64) (.cons .str .nil))))]), none, none, some (.val false [.own (.cons (.int .i64) (.cons (.int .i64) (.cons (.int .i64) (.cons .str .nil))))]), some (.val false [.int .i64]), none, none, none, none, none, none, none, none, none, none, none, none, none, none, none, none, none, none]
def e85_0 : List (Option AP) := [none, none, none, some (.val false [.own (.cons (.int .i64) (.cons (.int .i64) (.cons (.int .i64) (.cons .str .nil))))]), none, none, none, none, none, none, none, none, none, none, none, none, none, none, none, none, none, none, none]
def q85_0 : List (Option AP) := [none, none, none, none, none, none, none, none, none, none, none, none, none, none, none, none, none, none, none, none, none, none, none]
abbrev H85_0 : Type := (List (Int × Int × Int × ByteArray × Unit)) × (List (Int × Int × Int × ByteArray × Unit)) × Int × Unit
abbrev E85_0 : Type := (List (Int × Int × Int × ByteArray × Unit)) × Unit
abbrev Q85_0 : Type := Unit
noncomputable def laws_toItemS_c0 (a0 : List (Int × Int × Int × ByteArray × Unit)) (out3 : List (Int × Int × Int × ByteArray × Unit)) (i4 : Int) : Option (Sum H85_0 (Sum E85_0 Q85_0)) :=
  bif decide (i4 < ((List.length a0 : Nat) : Int)) then
    bif decide ((0 : Int) ≤ i4) then Option.bind ((a0)[Int.toNat i4]?) fun r1 =>
      Option.bind (laws_toItem r1.1 r1.2.1 r1.2.2.1 r1.2.2.2.1) fun y2 =>
      bif decide ((0 : Int) ≤ i4) then bif Nat.blt (Int.toNat i4) (List.length out3) then Option.bind ((out3)[Int.toNat i4]?) fun r3 =>
          some (.inl (a0, List.set out3 (Int.toNat i4) (y2.1, y2.2.1, y2.2.2.1, y2.2.2.2.1, ()), IntKind.i64.wrap (i4 + (1 : Int)), ()))
        else none
      else none
    else none
  else
    some (.inr (.inl (out3, ())))
noncomputable def laws_toItemS_r0 (x : H85_0) : Option (Sum H85_0 (Sum E85_0 Q85_0)) := laws_toItemS_c0 x.1 x.2.1 x.2.2.1
noncomputable def L85 {R : Type} : Loops R := fun id _ st k => bif Nat.beq id 0 then loopAt hp85_0 e85_0 q85_0 laws_toItemS_r0 st k else none
noncomputable def laws_toItemS (a0 : List (Int × Int × Int × ByteArray × Unit)) : Option ((List (Int × Int × Int × ByteArray × Unit)) × Unit) :=
  bif decide (((List.length a0 : Nat) : Int) = ((List.length a0 : Nat) : Int)) then bif decide ((0 : Int) ≤ ((List.length a0 : Nat) : Int)) then bif Nat.ble ((Int.toNat ((List.length a0 : Nat) : Int)) * 40) lim then outK (loopV laws_toItemS_r0 (a0, List.replicate (Int.toNat ((List.length a0 : Nat) : Int)) ((0 : Int), (0 : Int), (0 : Int), ByteArray.empty, ()), (0 : Int), ())) (fun y1 =>
          some (y1.1, ())) (fun y2 =>
          none)
      else none
    else none
  else none
noncomputable def x85 (x : (List (Int × Int × Int × ByteArray × Unit)) × Unit) : Option ((List (Int × Int × Int × ByteArray × Unit)) × Unit) := laws_toItemS x.1
noncomputable def sem85 : Sem1 := semOf ps85 rs85 x85
theorem so85 : SemsOk Try.prog (semsOf sl85) := sems_cons k105 (sems_nil)
noncomputable def b85_0 : Code := nthLoop code85 0
theorem t85_r0_eq (x : denR (headRT hp85_0)) : codeK (tabOf tr) (semsOf sl85) D85 L85 b85_0 (headSt hp85_0 x) (roundK 0 hp85_0 e85_0 q85_0) = laws_toItemS_r0 x := by kernel_rfl
theorem loop85_0 {R : Type} (r : R) (w0 : World) (mu : Mu) (hs : AnShape ps85 mu) : LoopAt Try.prog w0 mu 23 (L85 : Loops R) r 0 b85_0 :=
  loop_auto tr_ok eq_ok mixed_ok so85 (D := D85) hs (by kernel_rfl) (fun _ => (loops_of (l := []) (by kernel_rfl) (List.forall_mem_nil _))) t85_r0_eq (fun _ _ => rfl)
theorem t85_eq (x : denR (headRT (ps85.map some))) : codeK (tabOf tr) (semsOf sl85) D85 L85 code85 (start 23 ps85 x) (finK rs85 ps85) = x85 x := by kernel_rfl
theorem k85 : Known Try.prog 85 sem85 :=
  fn_auto tr_ok eq_ok mixed_ok so85 (D := D85) (code := code85) (n := 23) Try.func85 (by kernel_rfl) (by kernel_rfl) (by kernel_rfl) (fun w0 mu _ hs => (loops_of (l := [(0, b85_0)]) (by kernel_rfl) (List.forall_mem_cons.2 ⟨loop85_0 _ w0 mu hs, (List.forall_mem_nil _)⟩))) t85_eq

/-! ### f44: laws.toBundle -/
noncomputable def code44 : Code := match Try.f44.body with | some c => c | none => .skip
def ps44 : List AP := [.val true [.int .i64, .int .i64, .int .i64, .shr (.cons (.int .i64) (.cons (.int .i64) (.cons (.int .i64) (.cons .str .nil))))]]
def rs44 : List RP := [{ src := .cell 2, agg := true, ps := [.int .i64, .int .i64, .int .i64, .own (.cons (.int .i64) (.cons (.int .i64) (.cons (.int .i64) (.cons .str .nil))))] }]
noncomputable def sl44 : SemL := [(85, (.shr, .shr, .shr, sem85))]
def D44 : Draws := fun _ => .nil
noncomputable def L44 {R : Type} : Loops R := fun _ _ _ _ => none
noncomputable def laws_toBundle (a0c0 : Int) (a0c1 : Int) (a0c2 : Int) (a0c3 : List (Int × Int × Int × ByteArray × Unit)) : Option (Int × Int × Int × (List (Int × Int × Int × ByteArray × Unit)) × Unit) :=
  Option.bind (laws_toItemS a0c3) fun y1 =>
  some (a0c0, a0c1, a0c2, y1.1, ())
noncomputable def x44 (x : Int × Int × Int × (List (Int × Int × Int × ByteArray × Unit)) × Unit) : Option (Int × Int × Int × (List (Int × Int × Int × ByteArray × Unit)) × Unit) := laws_toBundle x.1 x.2.1 x.2.2.1 x.2.2.2.1
noncomputable def sem44 : Sem1 := semOf ps44 rs44 x44
theorem so44 : SemsOk Try.prog (semsOf sl44) := sems_cons k85 (sems_nil)
theorem t44_eq (x : denR (headRT (ps44.map some))) : codeK (tabOf tr) (semsOf sl44) D44 L44 code44 (start 18 ps44 x) (finK rs44 ps44) = x44 x := by kernel_rfl
theorem k44 : Known Try.prog 44 sem44 :=
  fn_auto tr_ok eq_ok mixed_ok so44 (D := D44) (code := code44) (n := 18) Try.func44 (by kernel_rfl) (by kernel_rfl) (by kernel_rfl) (fun w0 mu _ hs => (loops_of (l := []) (by kernel_rfl) (List.forall_mem_nil _))) t44_eq

/-! ### f104: spec.ItemOk -/
noncomputable def code104 : Code := match Try.f104.body with | some c => c | none => .skip
def ps104 : List AP := [.val true [.int .i64, .int .i64, .int .i64, .str]]
def rs104 : List RP := [{ src := .tmp 2, agg := false, ps := [.bool] }]
noncomputable def sl104 : SemL := [(67, (.shr, .shr, .shr, sem67))]
def D104 : Draws := fun _ => .nil
noncomputable def L104 {R : Type} : Loops R := fun _ _ _ _ => none
noncomputable def spec_ItemOk (m0c0 : Int) (m0c1 : Int) (m0c2 : Int) (m0c3 : ByteArray) : Option (Bool × Unit) :=
  Option.bind (spec_l01In m0c0 (1 : Int) (60 : Int)) fun y1 =>
  bif y1.1 then
    Option.bind (spec_l01In m0c1 (1 : Int) (5 : Int)) fun y2 =>
    bif y2.1 then
      Option.bind (spec_l01In m0c2 (1 : Int) (2 : Int)) fun y3 =>
      bif y3.1 then
        some (decide (((ByteArray.size m0c3 : Nat) : Int) ≤ (60 : Int)), ())
      else
        some (false, ())
    else
      some (false, ())
  else
    some (false, ())
noncomputable def x104 (x : Int × Int × Int × ByteArray × Unit) : Option (Bool × Unit) := spec_ItemOk x.1 x.2.1 x.2.2.1 x.2.2.2.1
noncomputable def sem104 : Sem1 := semOf ps104 rs104 x104
theorem so104 : SemsOk Try.prog (semsOf sl104) := sems_cons k67 (sems_nil)
theorem t104_eq (x : denR (headRT (ps104.map some))) : codeK (tabOf tr) (semsOf sl104) D104 L104 code104 (start 22 ps104 x) (finK rs104 ps104) = x104 x := by kernel_rfl
theorem k104 : Known Try.prog 104 sem104 :=
  fn_auto tr_ok eq_ok mixed_ok so104 (D := D104) (code := code104) (n := 22) Try.func104 (by kernel_rfl) (by kernel_rfl) (by kernel_rfl) (fun w0 mu _ hs => (loops_of (l := []) (by kernel_rfl) (List.forall_mem_nil _))) t104_eq

/-! ### f84: spec.ItemsOk -/
noncomputable def code84 : Code := match Try.f84.body with | some c => c | none => .skip
def ps84 : List AP := [.val false [.shr (.cons (.int .i64) (.cons (.int .i64) (.cons (.int .i64) (.cons .str .nil))))]]
def rs84 : List RP := [{ src := .tmp 2, agg := false, ps := [.bool] }]
noncomputable def sl84 : SemL := [(104, (.shr, .shr, .shr, sem104))]
def D84 : Draws := fun id => bif Nat.beq id 4 then .op 0 .any (.op 1 .any (.op 2 .any (.op 3 .take (.op 4 .one (.op 5 .any (.op 6 .any (.op 7 .any (.op 8 .any (.op 9 .any (.op 10 .any (.op 11 .any (.op 12 .any (.op 13 .any (.op 14 .any (.op 15 .take (.op 16 .any (.op 17 .any (.op 18 .any (.op 19 .any (.op 20 .take (.op 21 .any (.op 22 .any (.op 23 .any (.nil)))))))))))))))))))))))) else .nil
def hp84_0 : List (Option AP) := [some (.val false [.shr (.cons (.int .i64) (.cons (.int .i64) (.cons (.int .i64) (.cons .str .nil))))]), none, none, some (.val false [.int .i64]), none, none, none, none, none, none, none, none, none, none, none, none, none, none, none, none, none, none, none, none, none, none, none, none, none, none, none, none, none, none]
def e84_0 : List (Option AP) := [none, none, none, none, none, none, none, none, none, none, none, none, none, none, none, none, none, none, none, none, none, none, none, none, none, none, none, none, none, none, none, none, none, none]
def q84_0 : List (Option AP) := [none, none, some (.val false [.bool]), none, none, none, none, none, none, none, none, none, none, none, none, none, none, none, none, none, none, none, none, none, none, none, none, none, none, none, none, none, none, none]
abbrev H84_0 : Type := (List (Int × Int × Int × ByteArray × Unit)) × Int × Unit
abbrev E84_0 : Type := Unit
abbrev Q84_0 : Type := Bool × Unit
noncomputable def spec_ItemsOk_c0 (list0 : List (Int × Int × Int × ByteArray × Unit)) (i3 : Int) : Option (Sum H84_0 (Sum E84_0 Q84_0)) :=
  bif decide (i3 < ((List.length list0 : Nat) : Int)) then
    bif decide ((0 : Int) ≤ i3) then Option.bind ((list0)[Int.toNat i3]?) fun r1 =>
      Option.bind (spec_ItemOk r1.1 r1.2.1 r1.2.2.1 r1.2.2.2.1) fun y2 =>
      bif !y2.1 then
        some (.inr (.inr (false, ())))
      else bif decide ((0 : Int) < i3) then
        bif decide ((0 : Int) ≤ IntKind.i64.wrap (i3 - (1 : Int))) then Option.bind ((list0)[Int.toNat (IntKind.i64.wrap (i3 - (1 : Int)))]?) fun r3 =>
          bif decide ((0 : Int) ≤ i3) then Option.bind ((list0)[Int.toNat i3]?) fun r4 =>
            bif decide (r4.1 ≤ r3.1) then
              some (.inr (.inr (false, ())))
            else
              some (.inl (list0, IntKind.i64.wrap (i3 + (1 : Int)), ()))
          else none
        else none
      else
        some (.inl (list0, IntKind.i64.wrap (i3 + (1 : Int)), ()))
    else none
  else
    some (.inr (.inl (())))
noncomputable def spec_ItemsOk_r0 (x : H84_0) : Option (Sum H84_0 (Sum E84_0 Q84_0)) := spec_ItemsOk_c0 x.1 x.2.1
noncomputable def L84 {R : Type} : Loops R := fun id _ st k => bif Nat.beq id 0 then loopAt hp84_0 e84_0 q84_0 spec_ItemsOk_r0 st k else none
noncomputable def spec_ItemsOk (list0 : List (Int × Int × Int × ByteArray × Unit)) : Option (Bool × Unit) :=
  outK (loopV spec_ItemsOk_r0 (list0, (0 : Int), ())) (fun y1 =>
    some (true, ())) (fun y2 =>
    some (y2.1, ()))
noncomputable def x84 (x : (List (Int × Int × Int × ByteArray × Unit)) × Unit) : Option (Bool × Unit) := spec_ItemsOk x.1
noncomputable def sem84 : Sem1 := semOf ps84 rs84 x84
theorem so84 : SemsOk Try.prog (semsOf sl84) := sems_cons k104 (sems_nil)
noncomputable def b84_0 : Code := nthLoop code84 0
theorem t84_r0_eq (x : denR (headRT hp84_0)) : codeK (tabOf tr) (semsOf sl84) D84 L84 b84_0 (headSt hp84_0 x) (roundK 0 hp84_0 e84_0 q84_0) = spec_ItemsOk_r0 x := by kernel_rfl
theorem loop84_0 {R : Type} (r : R) (w0 : World) (mu : Mu) (hs : AnShape ps84 mu) : LoopAt Try.prog w0 mu 34 (L84 : Loops R) r 0 b84_0 :=
  loop_auto tr_ok eq_ok mixed_ok so84 (D := D84) hs (by kernel_rfl) (fun _ => (loops_of (l := []) (by kernel_rfl) (List.forall_mem_nil _))) t84_r0_eq (fun _ _ => rfl)
theorem t84_eq (x : denR (headRT (ps84.map some))) : codeK (tabOf tr) (semsOf sl84) D84 L84 code84 (start 34 ps84 x) (finK rs84 ps84) = x84 x := by kernel_rfl
theorem k84 : Known Try.prog 84 sem84 :=
  fn_auto tr_ok eq_ok mixed_ok so84 (D := D84) (code := code84) (n := 34) Try.func84 (by kernel_rfl) (by kernel_rfl) (by kernel_rfl) (fun w0 mu _ hs => (loops_of (l := [(0, b84_0)]) (by kernel_rfl) (List.forall_mem_cons.2 ⟨loop84_0 _ w0 mu hs, (List.forall_mem_nil _)⟩))) t84_eq

/-! ### f43: spec.BundleOk -/
noncomputable def code43 : Code := match Try.f43.body with | some c => c | none => .skip
def ps43 : List AP := [.val true [.int .i64, .int .i64, .int .i64, .shr (.cons (.int .i64) (.cons (.int .i64) (.cons (.int .i64) (.cons .str .nil))))]]
def rs43 : List RP := [{ src := .tmp 2, agg := false, ps := [.bool] }]
noncomputable def sl43 : SemL := [(67, (.shr, .shr, .shr, sem67)), (84, (.shr, .shr, .shr, sem84))]
def D43 : Draws := fun _ => .nil
noncomputable def L43 {R : Type} : Loops R := fun _ _ _ _ => none
noncomputable def spec_BundleOk (b0c0 : Int) (b0c1 : Int) (b0c2 : Int) (b0c3 : List (Int × Int × Int × ByteArray × Unit)) : Option (Bool × Unit) :=
  Option.bind (spec_l01In b0c0 (1 : Int) (5 : Int)) fun y1 =>
  bif y1.1 then
    Option.bind (spec_l01In b0c1 (1 : Int) (9 : Int)) fun y2 =>
    bif y2.1 then
      Option.bind (spec_l01In b0c2 (0 : Int) (IntKind.i64.wrap (b0c1 - (1 : Int)))) fun y3 =>
      bif y3.1 then
        Option.bind (spec_ItemsOk b0c3) fun y4 =>
        bif y4.1 then
          bif decide ((0 : Int) < b0c2) then
            some (true, ())
          else
            some (decide (((List.length b0c3 : Nat) : Int) = (0 : Int)), ())
        else
          some (false, ())
      else
        some (false, ())
    else
      some (false, ())
  else
    some (false, ())
noncomputable def x43 (x : Int × Int × Int × (List (Int × Int × Int × ByteArray × Unit)) × Unit) : Option (Bool × Unit) := spec_BundleOk x.1 x.2.1 x.2.2.1 x.2.2.2.1
noncomputable def sem43 : Sem1 := semOf ps43 rs43 x43
theorem so43 : SemsOk Try.prog (semsOf sl43) := sems_cons k67 (sems_cons k84 (sems_nil))
theorem t43_eq (x : denR (headRT (ps43.map some))) : codeK (tabOf tr) (semsOf sl43) D43 L43 code43 (start 35 ps43 x) (finK rs43 ps43) = x43 x := by kernel_rfl
theorem k43 : Known Try.prog 43 sem43 :=
  fn_auto tr_ok eq_ok mixed_ok so43 (D := D43) (code := code43) (n := 35) Try.func43 (by kernel_rfl) (by kernel_rfl) (by kernel_rfl) (fun w0 mu _ hs => (loops_of (l := []) (by kernel_rfl) (List.forall_mem_nil _))) t43_eq

/-! ### f106: impl.ItemOk -/
noncomputable def code106 : Code := match Try.f106.body with | some c => c | none => .skip
def ps106 : List AP := [.val true [.int .i64, .int .i64, .int .i64, .str]]
def rs106 : List RP := [{ src := .tmp 2, agg := false, ps := [.bool] }]
noncomputable def sl106 : SemL := [(68, (.shr, .shr, .shr, sem68)), (69, (.shr, .shr, .shr, sem69)), (99, (.shr, .shr, .shr, sem99))]
def D106 : Draws := fun _ => .nil
noncomputable def L106 {R : Type} : Loops R := fun _ _ _ _ => none
noncomputable def impl_ItemOk (m0c0 : Int) (m0c1 : Int) (m0c2 : Int) (m0c3 : ByteArray) : Option (Bool × Unit) :=
  Option.bind (impl_inRange m0c0 (1 : Int) (60 : Int)) fun y1 =>
  bif y1.1 then
    Option.bind (impl_isDaemon m0c1) fun y2 =>
    bif y2.1 then
      Option.bind (impl_isLevel m0c2) fun y3 =>
      bif y3.1 then
        some (decide (((ByteArray.size m0c3 : Nat) : Int) ≤ (60 : Int)), ())
      else
        some (false, ())
    else
      some (false, ())
  else
    some (false, ())
noncomputable def x106 (x : Int × Int × Int × ByteArray × Unit) : Option (Bool × Unit) := impl_ItemOk x.1 x.2.1 x.2.2.1 x.2.2.2.1
noncomputable def sem106 : Sem1 := semOf ps106 rs106 x106
theorem so106 : SemsOk Try.prog (semsOf sl106) := sems_cons k68 (sems_cons k69 (sems_cons k99 (sems_nil)))
theorem t106_eq (x : denR (headRT (ps106.map some))) : codeK (tabOf tr) (semsOf sl106) D106 L106 code106 (start 22 ps106 x) (finK rs106 ps106) = x106 x := by kernel_rfl
theorem k106 : Known Try.prog 106 sem106 :=
  fn_auto tr_ok eq_ok mixed_ok so106 (D := D106) (code := code106) (n := 22) Try.func106 (by kernel_rfl) (by kernel_rfl) (by kernel_rfl) (fun w0 mu _ hs => (loops_of (l := []) (by kernel_rfl) (List.forall_mem_nil _))) t106_eq

/-! ### f86: impl.ItemsOk -/
noncomputable def code86 : Code := match Try.f86.body with | some c => c | none => .skip
def ps86 : List AP := [.val false [.shr (.cons (.int .i64) (.cons (.int .i64) (.cons (.int .i64) (.cons .str .nil))))]]
def rs86 : List RP := [{ src := .tmp 2, agg := false, ps := [.bool] }]
noncomputable def sl86 : SemL := [(106, (.shr, .shr, .shr, sem106))]
def D86 : Draws := fun id => bif Nat.beq id 4 then .op 0 .take (.op 1 .one (.op 2 .any (.op 3 .any (.op 4 .any (.op 5 .any (.op 6 .any (.op 7 .any (.op 8 .take (.op 9 .any (.op 10 .any (.op 11 .any (.op 12 .any (.op 13 .any (.op 14 .take (.op 15 .any (.op 16 .any (.op 17 .any (.nil)))))))))))))))))) else .nil
def hp86_0 : List (Option AP) := [some (.val false [.shr (.cons (.int .i64) (.cons (.int .i64) (.cons (.int .i64) (.cons .str .nil))))]), none, none, none, none, some (.val false [.shr (.cons (.int .i64) (.cons (.int .i64) (.cons (.int .i64) (.cons .str .nil))))]), some (.val false [.int .i64]), some (.val false [.int .i64]), none, none, none, none, none, none, none, none, none, none, none, none, none, none, none, none, none, none, none, none, none, none, none]
def e86_0 : List (Option AP) := [none, none, none, none, none, none, none, none, none, none, none, none, none, none, none, none, none, none, none, none, none, none, none, none, none, none, none, none, none, none, none]
def q86_0 : List (Option AP) := [none, none, some (.val false [.bool]), none, none, none, none, none, none, none, none, none, none, none, none, none, none, none, none, none, none, none, none, none, none, none, none, none, none, none, none]
abbrev H86_0 : Type := (List (Int × Int × Int × ByteArray × Unit)) × (List (Int × Int × Int × ByteArray × Unit)) × Int × Int × Unit
abbrev E86_0 : Type := Unit
abbrev Q86_0 : Type := Bool × Unit
noncomputable def impl_ItemsOk_c0 (list0 : List (Int × Int × Int × ByteArray × Unit)) (t5 : List (Int × Int × Int × ByteArray × Unit)) (t6 : Int) (t7 : Int) : Option (Sum H86_0 (Sum E86_0 Q86_0)) :=
  bif decide (t7 < t6) then
    bif decide ((0 : Int) ≤ t7) then Option.bind ((t5)[Int.toNat t7]?) fun r1 =>
      Option.bind (impl_ItemOk r1.1 r1.2.1 r1.2.2.1 r1.2.2.2.1) fun y2 =>
      bif !y2.1 then
        some (.inr (.inr (false, ())))
      else bif decide ((0 : Int) < t7) then
        bif decide ((0 : Int) ≤ IntKind.i64.wrap (t7 - (1 : Int))) then Option.bind ((list0)[Int.toNat (IntKind.i64.wrap (t7 - (1 : Int)))]?) fun r3 =>
          bif decide (r1.1 ≤ r3.1) then
            some (.inr (.inr (false, ())))
          else
            some (.inl (list0, t5, t6, IntKind.i64.wrap (t7 + (1 : Int)), ()))
        else none
      else
        some (.inl (list0, t5, t6, IntKind.i64.wrap (t7 + (1 : Int)), ()))
    else none
  else
    some (.inr (.inl (())))
noncomputable def impl_ItemsOk_r0 (x : H86_0) : Option (Sum H86_0 (Sum E86_0 Q86_0)) := impl_ItemsOk_c0 x.1 x.2.1 x.2.2.1 x.2.2.2.1
noncomputable def L86 {R : Type} : Loops R := fun id _ st k => bif Nat.beq id 0 then loopAt hp86_0 e86_0 q86_0 impl_ItemsOk_r0 st k else none
noncomputable def impl_ItemsOk (list0 : List (Int × Int × Int × ByteArray × Unit)) : Option (Bool × Unit) :=
  outK (loopV impl_ItemsOk_r0 (list0, list0, ((List.length list0 : Nat) : Int), (0 : Int), ())) (fun y1 =>
    some (true, ())) (fun y2 =>
    some (y2.1, ()))
noncomputable def x86 (x : (List (Int × Int × Int × ByteArray × Unit)) × Unit) : Option (Bool × Unit) := impl_ItemsOk x.1
noncomputable def sem86 : Sem1 := semOf ps86 rs86 x86
theorem so86 : SemsOk Try.prog (semsOf sl86) := sems_cons k106 (sems_nil)
noncomputable def b86_0 : Code := nthLoop code86 0
theorem t86_r0_eq (x : denR (headRT hp86_0)) : codeK (tabOf tr) (semsOf sl86) D86 L86 b86_0 (headSt hp86_0 x) (roundK 0 hp86_0 e86_0 q86_0) = impl_ItemsOk_r0 x := by kernel_rfl
theorem loop86_0 {R : Type} (r : R) (w0 : World) (mu : Mu) (hs : AnShape ps86 mu) : LoopAt Try.prog w0 mu 31 (L86 : Loops R) r 0 b86_0 :=
  loop_auto tr_ok eq_ok mixed_ok so86 (D := D86) hs (by kernel_rfl) (fun _ => (loops_of (l := []) (by kernel_rfl) (List.forall_mem_nil _))) t86_r0_eq (fun _ _ => rfl)
theorem t86_eq (x : denR (headRT (ps86.map some))) : codeK (tabOf tr) (semsOf sl86) D86 L86 code86 (start 31 ps86 x) (finK rs86 ps86) = x86 x := by kernel_rfl
theorem k86 : Known Try.prog 86 sem86 :=
  fn_auto tr_ok eq_ok mixed_ok so86 (D := D86) (code := code86) (n := 31) Try.func86 (by kernel_rfl) (by kernel_rfl) (by kernel_rfl) (fun w0 mu _ hs => (loops_of (l := [(0, b86_0)]) (by kernel_rfl) (List.forall_mem_cons.2 ⟨loop86_0 _ w0 mu hs, (List.forall_mem_nil _)⟩))) t86_eq

/-! ### f45: impl.BundleOk -/
noncomputable def code45 : Code := match Try.f45.body with | some c => c | none => .skip
def ps45 : List AP := [.val true [.int .i64, .int .i64, .int .i64, .shr (.cons (.int .i64) (.cons (.int .i64) (.cons (.int .i64) (.cons .str .nil))))]]
def rs45 : List RP := [{ src := .tmp 2, agg := false, ps := [.bool] }]
noncomputable def sl45 : SemL := [(69, (.shr, .shr, .shr, sem69)), (68, (.shr, .shr, .shr, sem68)), (86, (.shr, .shr, .shr, sem86))]
def D45 : Draws := fun _ => .nil
noncomputable def L45 {R : Type} : Loops R := fun _ _ _ _ => none
noncomputable def impl_BundleOk (b0c0 : Int) (b0c1 : Int) (b0c2 : Int) (b0c3 : List (Int × Int × Int × ByteArray × Unit)) : Option (Bool × Unit) :=
  Option.bind (impl_isDaemon b0c0) fun y1 =>
  bif !y1.1 then
    some (false, ())
  else
    Option.bind (impl_inRange b0c1 (1 : Int) (9 : Int)) fun y2 =>
    bif !y2.1 then
      some (false, ())
    else
      Option.bind (impl_inRange b0c2 (0 : Int) (IntKind.i64.wrap (b0c1 - (1 : Int)))) fun y3 =>
      bif !y3.1 then
        some (false, ())
      else
        Option.bind (impl_ItemsOk b0c3) fun y4 =>
        bif y4.1 then
          bif decide ((0 : Int) < b0c2) then
            some (true, ())
          else
            some (decide (((List.length b0c3 : Nat) : Int) = (0 : Int)), ())
        else
          some (false, ())
noncomputable def x45 (x : Int × Int × Int × (List (Int × Int × Int × ByteArray × Unit)) × Unit) : Option (Bool × Unit) := impl_BundleOk x.1 x.2.1 x.2.2.1 x.2.2.2.1
noncomputable def sem45 : Sem1 := semOf ps45 rs45 x45
theorem so45 : SemsOk Try.prog (semsOf sl45) := sems_cons k69 (sems_cons k68 (sems_cons k86 (sems_nil)))
theorem t45_eq (x : denR (headRT (ps45.map some))) : codeK (tabOf tr) (semsOf sl45) D45 L45 code45 (start 36 ps45 x) (finK rs45 ps45) = x45 x := by kernel_rfl
theorem k45 : Known Try.prog 45 sem45 :=
  fn_auto tr_ok eq_ok mixed_ok so45 (D := D45) (code := code45) (n := 36) Try.func45 (by kernel_rfl) (by kernel_rfl) (by kernel_rfl) (fun w0 mu _ hs => (loops_of (l := []) (by kernel_rfl) (List.forall_mem_nil _))) t45_eq

/-! ### f107: laws.eqItem -/
noncomputable def code107 : Code := match Try.f107.body with | some c => c | none => .skip
def ps107 : List AP := [.val true [.int .i64, .int .i64, .int .i64, .str], .val true [.int .i64, .int .i64, .int .i64, .str]]
def rs107 : List RP := [{ src := .tmp 4, agg := false, ps := [.bool] }]
noncomputable def sl107 : SemL := []
def D107 : Draws := fun _ => .nil
noncomputable def L107 {R : Type} : Loops R := fun _ _ _ _ => none
noncomputable def laws_eqItem (a0c0 : Int) (a0c1 : Int) (a0c2 : Int) (a0c3 : ByteArray) (b1c0 : Int) (b1c1 : Int) (b1c2 : Int) (b1c3 : ByteArray) : Option (Bool × Unit) :=
  bif !decide (a0c0 = b1c0) then
    some (false, ())
  else bif !decide (a0c1 = b1c1) then
    some (false, ())
  else bif !decide (a0c2 = b1c2) then
    some (false, ())
  else bif !strEq a0c3 b1c3 then
    some (false, ())
  else
    some (true, ())
noncomputable def x107 (x : Int × Int × Int × ByteArray × Int × Int × Int × ByteArray × Unit) : Option (Bool × Unit) := laws_eqItem x.1 x.2.1 x.2.2.1 x.2.2.2.1 x.2.2.2.2.1 x.2.2.2.2.2.1 x.2.2.2.2.2.2.1 x.2.2.2.2.2.2.2.1
noncomputable def sem107 : Sem1 := semOf ps107 rs107 x107
theorem so107 : SemsOk Try.prog (semsOf sl107) := sems_nil
theorem t107_eq (x : denR (headRT (ps107.map some))) : codeK (tabOf tr) (semsOf sl107) D107 L107 code107 (start 25 ps107 x) (finK rs107 ps107) = x107 x := by kernel_rfl
theorem k107 : Known Try.prog 107 sem107 :=
  fn_auto tr_ok eq_ok mixed_ok so107 (D := D107) (code := code107) (n := 25) Try.func107 (by kernel_rfl) (by kernel_rfl) (by kernel_rfl) (fun w0 mu _ hs => (loops_of (l := []) (by kernel_rfl) (List.forall_mem_nil _))) t107_eq

/-! ### f87: laws.eqItemS -/
noncomputable def code87 : Code := match Try.f87.body with | some c => c | none => .skip
def ps87 : List AP := [.val false [.shr (.cons (.int .i64) (.cons (.int .i64) (.cons (.int .i64) (.cons .str .nil))))], .val false [.shr (.cons (.int .i64) (.cons (.int .i64) (.cons (.int .i64) (.cons .str .nil))))]]
def rs87 : List RP := [{ src := .tmp 4, agg := false, ps := [.bool] }]
noncomputable def sl87 : SemL := [(107, (.shr, .shr, .shr, sem107))]
def D87 : Draws := fun id => bif Nat.beq id 6 then .op 0 .any (.op 1 .any (.op 2 .any (.op 3 .take (.op 4 .any (.op 5 .any (.op 6 .any (.op 7 .take (.op 8 .one (.op 9 .any (.nil)))))))))) else .nil
def hp87_0 : List (Option AP) := [some (.val false [.shr (.cons (.int .i64) (.cons (.int .i64) (.cons (.int .i64) (.cons .str .nil))))]), some (.val false [.shr (.cons (.int .i64) (.cons (.int .i64) (.cons (.int .i64) (.cons .str .nil))))]), none, none, none, some (.val false [.int .i64]), none, none, none, none, none, none, none, none, none, none, none, none, none, none, none, none, none, none, none, none, none]
def e87_0 : List (Option AP) := [none, none, none, none, none, none, none, none, none, none, none, none, none, none, none, none, none, none, none, none, none, none, none, none, none, none, none]
def q87_0 : List (Option AP) := [none, none, none, none, some (.val false [.bool]), none, none, none, none, none, none, none, none, none, none, none, none, none, none, none, none, none, none, none, none, none, none]
abbrev H87_0 : Type := (List (Int × Int × Int × ByteArray × Unit)) × (List (Int × Int × Int × ByteArray × Unit)) × Int × Unit
abbrev E87_0 : Type := Unit
abbrev Q87_0 : Type := Bool × Unit
noncomputable def laws_eqItemS_c0 (a0 : List (Int × Int × Int × ByteArray × Unit)) (b1 : List (Int × Int × Int × ByteArray × Unit)) (i5 : Int) : Option (Sum H87_0 (Sum E87_0 Q87_0)) :=
  bif decide (i5 < ((List.length a0 : Nat) : Int)) then
    bif decide ((0 : Int) ≤ i5) then Option.bind ((a0)[Int.toNat i5]?) fun r1 =>
      bif decide ((0 : Int) ≤ i5) then Option.bind ((b1)[Int.toNat i5]?) fun r2 =>
        Option.bind (laws_eqItem r1.1 r1.2.1 r1.2.2.1 r1.2.2.2.1 r2.1 r2.2.1 r2.2.2.1 r2.2.2.2.1) fun y3 =>
        bif !y3.1 then
          some (.inr (.inr (false, ())))
        else
          some (.inl (a0, b1, IntKind.i64.wrap (i5 + (1 : Int)), ()))
      else none
    else none
  else
    some (.inr (.inl (())))
noncomputable def laws_eqItemS_r0 (x : H87_0) : Option (Sum H87_0 (Sum E87_0 Q87_0)) := laws_eqItemS_c0 x.1 x.2.1 x.2.2.1
noncomputable def L87 {R : Type} : Loops R := fun id _ st k => bif Nat.beq id 0 then loopAt hp87_0 e87_0 q87_0 laws_eqItemS_r0 st k else none
noncomputable def laws_eqItemS (a0 : List (Int × Int × Int × ByteArray × Unit)) (b1 : List (Int × Int × Int × ByteArray × Unit)) : Option (Bool × Unit) :=
  bif !decide (((List.length a0 : Nat) : Int) = ((List.length b1 : Nat) : Int)) then
    some (false, ())
  else
    outK (loopV laws_eqItemS_r0 (a0, b1, (0 : Int), ())) (fun y1 =>
      some (true, ())) (fun y2 =>
      some (y2.1, ()))
noncomputable def x87 (x : (List (Int × Int × Int × ByteArray × Unit)) × (List (Int × Int × Int × ByteArray × Unit)) × Unit) : Option (Bool × Unit) := laws_eqItemS x.1 x.2.1
noncomputable def sem87 : Sem1 := semOf ps87 rs87 x87
theorem so87 : SemsOk Try.prog (semsOf sl87) := sems_cons k107 (sems_nil)
noncomputable def b87_0 : Code := nthLoop code87 0
theorem t87_r0_eq (x : denR (headRT hp87_0)) : codeK (tabOf tr) (semsOf sl87) D87 L87 b87_0 (headSt hp87_0 x) (roundK 0 hp87_0 e87_0 q87_0) = laws_eqItemS_r0 x := by kernel_rfl
theorem loop87_0 {R : Type} (r : R) (w0 : World) (mu : Mu) (hs : AnShape ps87 mu) : LoopAt Try.prog w0 mu 27 (L87 : Loops R) r 0 b87_0 :=
  loop_auto tr_ok eq_ok mixed_ok so87 (D := D87) hs (by kernel_rfl) (fun _ => (loops_of (l := []) (by kernel_rfl) (List.forall_mem_nil _))) t87_r0_eq (fun _ _ => rfl)
theorem t87_eq (x : denR (headRT (ps87.map some))) : codeK (tabOf tr) (semsOf sl87) D87 L87 code87 (start 27 ps87 x) (finK rs87 ps87) = x87 x := by kernel_rfl
theorem k87 : Known Try.prog 87 sem87 :=
  fn_auto tr_ok eq_ok mixed_ok so87 (D := D87) (code := code87) (n := 27) Try.func87 (by kernel_rfl) (by kernel_rfl) (by kernel_rfl) (fun w0 mu _ hs => (loops_of (l := [(0, b87_0)]) (by kernel_rfl) (List.forall_mem_cons.2 ⟨loop87_0 _ w0 mu hs, (List.forall_mem_nil _)⟩))) t87_eq

/-! ### f46: laws.eqBundle -/
noncomputable def code46 : Code := match Try.f46.body with | some c => c | none => .skip
def ps46 : List AP := [.val true [.int .i64, .int .i64, .int .i64, .shr (.cons (.int .i64) (.cons (.int .i64) (.cons (.int .i64) (.cons .str .nil))))], .val true [.int .i64, .int .i64, .int .i64, .shr (.cons (.int .i64) (.cons (.int .i64) (.cons (.int .i64) (.cons .str .nil))))]]
def rs46 : List RP := [{ src := .tmp 4, agg := false, ps := [.bool] }]
noncomputable def sl46 : SemL := [(87, (.shr, .shr, .shr, sem87))]
def D46 : Draws := fun _ => .nil
noncomputable def L46 {R : Type} : Loops R := fun _ _ _ _ => none
noncomputable def laws_eqBundle (a0c0 : Int) (a0c1 : Int) (a0c2 : Int) (a0c3 : List (Int × Int × Int × ByteArray × Unit)) (b1c0 : Int) (b1c1 : Int) (b1c2 : Int) (b1c3 : List (Int × Int × Int × ByteArray × Unit)) : Option (Bool × Unit) :=
  bif !decide (a0c0 = b1c0) then
    some (false, ())
  else bif !decide (a0c1 = b1c1) then
    some (false, ())
  else bif !decide (a0c2 = b1c2) then
    some (false, ())
  else
    Option.bind (laws_eqItemS a0c3 b1c3) fun y1 =>
    bif !y1.1 then
      some (false, ())
    else
      some (true, ())
noncomputable def x46 (x : Int × Int × Int × (List (Int × Int × Int × ByteArray × Unit)) × Int × Int × Int × (List (Int × Int × Int × ByteArray × Unit)) × Unit) : Option (Bool × Unit) := laws_eqBundle x.1 x.2.1 x.2.2.1 x.2.2.2.1 x.2.2.2.2.1 x.2.2.2.2.2.1 x.2.2.2.2.2.2.1 x.2.2.2.2.2.2.2.1
noncomputable def sem46 : Sem1 := semOf ps46 rs46 x46
theorem so46 : SemsOk Try.prog (semsOf sl46) := sems_cons k87 (sems_nil)
theorem t46_eq (x : denR (headRT (ps46.map some))) : codeK (tabOf tr) (semsOf sl46) D46 L46 code46 (start 26 ps46 x) (finK rs46 ps46) = x46 x := by kernel_rfl
theorem k46 : Known Try.prog 46 sem46 :=
  fn_auto tr_ok eq_ok mixed_ok so46 (D := D46) (code := code46) (n := 26) Try.func46 (by kernel_rfl) (by kernel_rfl) (by kernel_rfl) (fun w0 mu _ hs => (loops_of (l := []) (by kernel_rfl) (List.forall_mem_nil _))) t46_eq

/-! ### f9: laws.FnExactBundleOk -/
noncomputable def code9 : Code := match Try.f9.body with | some c => c | none => .skip
def ps9 : List AP := [.val true [.int .i64, .int .i64, .int .i64, .shr (.cons (.int .i64) (.cons (.int .i64) (.cons (.int .i64) (.cons .str .nil))))]]
def rs9 : List RP := [{ src := .tmp 2, agg := false, ps := [.bool] }]
noncomputable def sl9 : SemL := [(42, (.shr, .shr, .shr, sem42)), (44, (.shr, .shr, .shr, sem44)), (43, (.shr, .shr, .shr, sem43)), (45, (.shr, .shr, .shr, sem45)), (46, (.shr, .shr, .shr, sem46))]
def D9 : Draws := fun id => bif Nat.beq id 10 then .op 0 .take (.op 1 .take (.op 2 .one (.op 3 .one (.op 4 .any (.nil))))) else .nil
noncomputable def L9 {R : Type} : Loops R := fun _ _ _ _ => none
noncomputable def laws_FnExactBundleOk (aB0c0 : Int) (aB0c1 : Int) (aB0c2 : Int) (aB0c3 : List (Int × Int × Int × ByteArray × Unit)) : Option (Bool × Unit) :=
  Option.bind (laws_szBundle aB0c0 aB0c1 aB0c2 aB0c3 (1048576 : Int)) fun y1 =>
  bif decide (y1.1 < (0 : Int)) then
    some (true, ())
  else
    Option.bind (laws_toBundle aB0c0 aB0c1 aB0c2 aB0c3) fun y2 =>
    Option.bind (spec_BundleOk y2.1 y2.2.1 y2.2.2.1 y2.2.2.2.1) fun y3 =>
    Option.bind (laws_toBundle aB0c0 aB0c1 aB0c2 aB0c3) fun y4 =>
    Option.bind (impl_BundleOk y4.1 y4.2.1 y4.2.2.1 y4.2.2.2.1) fun y5 =>
    bif !(y5.1 == y3.1) then
      some (false, ())
    else
      Option.bind (laws_toBundle aB0c0 aB0c1 aB0c2 aB0c3) fun y6 =>
      Option.bind (laws_eqBundle y4.1 y4.2.1 y4.2.2.1 y4.2.2.2.1 y6.1 y6.2.1 y6.2.2.1 y6.2.2.2.1) fun y7 =>
      bif !y7.1 then
        some (false, ())
      else
        some (true, ())
noncomputable def x9 (x : Int × Int × Int × (List (Int × Int × Int × ByteArray × Unit)) × Unit) : Option (Bool × Unit) := laws_FnExactBundleOk x.1 x.2.1 x.2.2.1 x.2.2.2.1
noncomputable def sem9 : Sem1 := semOf ps9 rs9 x9
theorem so9 : SemsOk Try.prog (semsOf sl9) := sems_cons k42 (sems_cons k44 (sems_cons k43 (sems_cons k45 (sems_cons k46 (sems_nil)))))
theorem t9_eq (x : denR (headRT (ps9.map some))) : codeK (tabOf tr) (semsOf sl9) D9 L9 code9 (start 27 ps9 x) (finK rs9 ps9) = x9 x := by kernel_rfl
theorem k9 : Known Try.prog 9 sem9 :=
  fn_auto tr_ok eq_ok mixed_ok so9 (D := D9) (code := code9) (n := 27) Try.func9 (by kernel_rfl) (by kernel_rfl) (by kernel_rfl) (fun w0 mu _ hs => (loops_of (l := []) (by kernel_rfl) (List.forall_mem_nil _))) t9_eq

/-! ### f47: laws.szTurn -/
noncomputable def code47 : Code := match Try.f47.body with | some c => c | none => .skip
def ps47 : List AP := [.val true [.int .i64, .int .i64, .int .i64, .int .i64, .str], .val false [.int .i64]]
def rs47 : List RP := [{ src := .tmp 4, agg := false, ps := [.int .i64] }]
noncomputable def sl47 : SemL := []
def D47 : Draws := fun _ => .nil
noncomputable def L47 {R : Type} : Loops R := fun _ _ _ _ => none
noncomputable def laws_szTurn (a0c0 : Int) (a0c1 : Int) (a0c2 : Int) (a0c3 : Int) (a0c4 : ByteArray) (left1 : Int) : Option (Int × Unit) :=
  bif decide (IntKind.i64.wrap (left1 - ((ByteArray.size a0c4 : Nat) : Int)) < (0 : Int)) then
    some ((-1 : Int), ())
  else
    some (IntKind.i64.wrap (left1 - ((ByteArray.size a0c4 : Nat) : Int)), ())
noncomputable def x47 (x : Int × Int × Int × Int × ByteArray × Int × Unit) : Option (Int × Unit) := laws_szTurn x.1 x.2.1 x.2.2.1 x.2.2.2.1 x.2.2.2.2.1 x.2.2.2.2.2.1
noncomputable def sem47 : Sem1 := semOf ps47 rs47 x47
theorem so47 : SemsOk Try.prog (semsOf sl47) := sems_nil
theorem t47_eq (x : denR (headRT (ps47.map some))) : codeK (tabOf tr) (semsOf sl47) D47 L47 code47 (start 13 ps47 x) (finK rs47 ps47) = x47 x := by kernel_rfl
theorem k47 : Known Try.prog 47 sem47 :=
  fn_auto tr_ok eq_ok mixed_ok so47 (D := D47) (code := code47) (n := 13) Try.func47 (by kernel_rfl) (by kernel_rfl) (by kernel_rfl) (fun w0 mu _ hs => (loops_of (l := []) (by kernel_rfl) (List.forall_mem_nil _))) t47_eq

/-! ### f49: laws.toTurn -/
noncomputable def code49 : Code := match Try.f49.body with | some c => c | none => .skip
def ps49 : List AP := [.val true [.int .i64, .int .i64, .int .i64, .int .i64, .str]]
def rs49 : List RP := [{ src := .cell 2, agg := true, ps := [.int .i64, .int .i64, .int .i64, .int .i64, .str] }]
noncomputable def sl49 : SemL := []
def D49 : Draws := fun _ => .nil
noncomputable def L49 {R : Type} : Loops R := fun _ _ _ _ => none
noncomputable def laws_toTurn (a0c0 : Int) (a0c1 : Int) (a0c2 : Int) (a0c3 : Int) (a0c4 : ByteArray) : Option (Int × Int × Int × Int × ByteArray × Unit) :=
  some (a0c0, a0c1, a0c2, a0c3, a0c4, ())
noncomputable def x49 (x : Int × Int × Int × Int × ByteArray × Unit) : Option (Int × Int × Int × Int × ByteArray × Unit) := laws_toTurn x.1 x.2.1 x.2.2.1 x.2.2.2.1 x.2.2.2.2.1
noncomputable def sem49 : Sem1 := semOf ps49 rs49 x49
theorem so49 : SemsOk Try.prog (semsOf sl49) := sems_nil
theorem t49_eq (x : denR (headRT (ps49.map some))) : codeK (tabOf tr) (semsOf sl49) D49 L49 code49 (start 20 ps49 x) (finK rs49 ps49) = x49 x := by kernel_rfl
theorem k49 : Known Try.prog 49 sem49 :=
  fn_auto tr_ok eq_ok mixed_ok so49 (D := D49) (code := code49) (n := 20) Try.func49 (by kernel_rfl) (by kernel_rfl) (by kernel_rfl) (fun w0 mu _ hs => (loops_of (l := []) (by kernel_rfl) (List.forall_mem_nil _))) t49_eq

/-! ### f88: spec.l05In -/
noncomputable def code88 : Code := match Try.f88.body with | some c => c | none => .skip
def ps88 : List AP := [.val false [.shr (.cons (.int .i64) .nil)], .val false [.int .i64]]
def rs88 : List RP := [{ src := .tmp 4, agg := false, ps := [.bool] }]
noncomputable def sl88 : SemL := []
def D88 : Draws := fun _ => .nil
def hp88_0 : List (Option AP) := [some (.val false [.shr (.cons (.int .i64) .nil)]), some (.val false [.int .i64]), none, none, none, some (.val false [.int .i64]), none, none, none, none, none, none, none, none, none, none, none, none]
def e88_0 : List (Option AP) := [none, none, none, none, none, none, none, none, none, none, none, none, none, none, none, none, none, none]
def q88_0 : List (Option AP) := [none, none, none, none, some (.val false [.bool]), none, none, none, none, none, none, none, none, none, none, none, none, none]
abbrev H88_0 : Type := (List (Int × Unit)) × Int × Int × Unit
abbrev E88_0 : Type := Unit
abbrev Q88_0 : Type := Bool × Unit
noncomputable def spec_l05In_c0 (list0 : List (Int × Unit)) (x1 : Int) (i5 : Int) : Option (Sum H88_0 (Sum E88_0 Q88_0)) :=
  bif decide (i5 < ((List.length list0 : Nat) : Int)) then
    bif decide ((0 : Int) ≤ i5) then Option.bind ((list0)[Int.toNat i5]?) fun r1 =>
      bif decide (r1.1 = x1) then
        some (.inr (.inr (true, ())))
      else
        some (.inl (list0, x1, IntKind.i64.wrap (i5 + (1 : Int)), ()))
    else none
  else
    some (.inr (.inl (())))
noncomputable def spec_l05In_r0 (x : H88_0) : Option (Sum H88_0 (Sum E88_0 Q88_0)) := spec_l05In_c0 x.1 x.2.1 x.2.2.1
noncomputable def L88 {R : Type} : Loops R := fun id _ st k => bif Nat.beq id 0 then loopAt hp88_0 e88_0 q88_0 spec_l05In_r0 st k else none
noncomputable def spec_l05In (list0 : List (Int × Unit)) (x1 : Int) : Option (Bool × Unit) :=
  outK (loopV spec_l05In_r0 (list0, x1, (0 : Int), ())) (fun y1 =>
    some (false, ())) (fun y2 =>
    some (y2.1, ()))
noncomputable def x88 (x : (List (Int × Unit)) × Int × Unit) : Option (Bool × Unit) := spec_l05In x.1 x.2.1
noncomputable def sem88 : Sem1 := semOf ps88 rs88 x88
theorem so88 : SemsOk Try.prog (semsOf sl88) := sems_nil
noncomputable def b88_0 : Code := nthLoop code88 0
theorem t88_r0_eq (x : denR (headRT hp88_0)) : codeK (tabOf tr) (semsOf sl88) D88 L88 b88_0 (headSt hp88_0 x) (roundK 0 hp88_0 e88_0 q88_0) = spec_l05In_r0 x := by kernel_rfl
theorem loop88_0 {R : Type} (r : R) (w0 : World) (mu : Mu) (hs : AnShape ps88 mu) : LoopAt Try.prog w0 mu 18 (L88 : Loops R) r 0 b88_0 :=
  loop_auto tr_ok eq_ok mixed_ok so88 (D := D88) hs (by kernel_rfl) (fun _ => (loops_of (l := []) (by kernel_rfl) (List.forall_mem_nil _))) t88_r0_eq (fun _ _ => rfl)
theorem t88_eq (x : denR (headRT (ps88.map some))) : codeK (tabOf tr) (semsOf sl88) D88 L88 code88 (start 18 ps88 x) (finK rs88 ps88) = x88 x := by kernel_rfl
theorem k88 : Known Try.prog 88 sem88 :=
  fn_auto tr_ok eq_ok mixed_ok so88 (D := D88) (code := code88) (n := 18) Try.func88 (by kernel_rfl) (by kernel_rfl) (by kernel_rfl) (fun w0 mu _ hs => (loops_of (l := [(0, b88_0)]) (by kernel_rfl) (List.forall_mem_cons.2 ⟨loop88_0 _ w0 mu hs, (List.forall_mem_nil _)⟩))) t88_eq

/-! ### f48: spec.TurnOk -/
noncomputable def code48 : Code := match Try.f48.body with | some c => c | none => .skip
def ps48 : List AP := [.val true [.int .i64, .shr (.cons (.int .i64) .nil)], .val true [.int .i64, .int .i64, .int .i64, .int .i64, .str]]
def rs48 : List RP := [{ src := .tmp 4, agg := false, ps := [.bool] }]
noncomputable def sl48 : SemL := [(77, (.shr, .shr, .shr, sem77)), (67, (.shr, .shr, .shr, sem67)), (88, (.shr, .shr, .shr, sem88))]
def D48 : Draws := fun _ => .nil
noncomputable def L48 {R : Type} : Loops R := fun _ _ _ _ => none
noncomputable def spec_TurnOk (r0c0 : Int) (r0c1 : List (Int × Unit)) (e1c0 : Int) (e1c1 : Int) (e1c2 : Int) (e1c3 : Int) (e1c4 : ByteArray) : Option (Bool × Unit) :=
  Option.bind (spec_RingOk r0c0 r0c1) fun y1 =>
  bif !y1.1 then
    some (false, ())
  else
    Option.bind (spec_l01In e1c0 (1 : Int) (7 : Int)) fun y2 =>
    bif !y2.1 then
      some (false, ())
    else
      Option.bind (spec_l05In r0c1 e1c1) fun y3 =>
      bif !y3.1 then
        some (false, ())
      else bif decide (e1c2 < (0 : Int)) then
        some (false, ())
      else bif decide (e1c0 = (1 : Int)) then
        Option.bind (spec_l01In e1c3 (1 : Int) (2 : Int)) fun y4 =>
        bif y4.1 then
          some (decide (((ByteArray.size e1c4 : Nat) : Int) ≤ (60 : Int)), ())
        else
          some (false, ())
      else bif decide (e1c3 = (0 : Int)) then
        some (strEq e1c4 (ByteArray.mk #[]), ())
      else
        some (false, ())
noncomputable def x48 (x : Int × (List (Int × Unit)) × Int × Int × Int × Int × ByteArray × Unit) : Option (Bool × Unit) := spec_TurnOk x.1 x.2.1 x.2.2.1 x.2.2.2.1 x.2.2.2.2.1 x.2.2.2.2.2.1 x.2.2.2.2.2.2.1
noncomputable def sem48 : Sem1 := semOf ps48 rs48 x48
theorem so48 : SemsOk Try.prog (semsOf sl48) := sems_cons k77 (sems_cons k67 (sems_cons k88 (sems_nil)))
theorem t48_eq (x : denR (headRT (ps48.map some))) : codeK (tabOf tr) (semsOf sl48) D48 L48 code48 (start 47 ps48 x) (finK rs48 ps48) = x48 x := by kernel_rfl
theorem k48 : Known Try.prog 48 sem48 :=
  fn_auto tr_ok eq_ok mixed_ok so48 (D := D48) (code := code48) (n := 47) Try.func48 (by kernel_rfl) (by kernel_rfl) (by kernel_rfl) (fun w0 mu _ hs => (loops_of (l := []) (by kernel_rfl) (List.forall_mem_nil _))) t48_eq

/-! ### f89: slices.Contains[[]int,int] -/
noncomputable def code89 : Code := match Try.f89.body with | some c => c | none => .skip
def ps89 : List AP := [.val false [.shr (.cons (.int .i64) .nil)], .val false [.int .i64]]
def rs89 : List RP := [{ src := .tmp 4, agg := false, ps := [.bool] }]
noncomputable def sl89 : SemL := [(79, (.shr, .shr, .shr, sem79))]
def D89 : Draws := fun _ => .nil
noncomputable def L89 {R : Type} : Loops R := fun _ _ _ _ => none
noncomputable def slices_Contains_int (s0 : List (Int × Unit)) (v1 : Int) : Option (Bool × Unit) :=
  Option.bind (slices_Index_int s0 v1) fun y1 =>
  some (decide ((0 : Int) ≤ y1.1), ())
noncomputable def x89 (x : (List (Int × Unit)) × Int × Unit) : Option (Bool × Unit) := slices_Contains_int x.1 x.2.1
noncomputable def sem89 : Sem1 := semOf ps89 rs89 x89
theorem so89 : SemsOk Try.prog (semsOf sl89) := sems_cons k79 (sems_nil)
theorem t89_eq (x : denR (headRT (ps89.map some))) : codeK (tabOf tr) (semsOf sl89) D89 L89 code89 (start 9 ps89 x) (finK rs89 ps89) = x89 x := by kernel_rfl
theorem k89 : Known Try.prog 89 sem89 :=
  fn_auto tr_ok eq_ok mixed_ok so89 (D := D89) (code := code89) (n := 9) Try.func89 (by kernel_rfl) (by kernel_rfl) (by kernel_rfl) (fun w0 mu _ hs => (loops_of (l := []) (by kernel_rfl) (List.forall_mem_nil _))) t89_eq

/-! ### f50: impl.TurnOk -/
noncomputable def code50 : Code := match Try.f50.body with | some c => c | none => .skip
def ps50 : List AP := [.val true [.int .i64, .shr (.cons (.int .i64) .nil)], .val true [.int .i64, .int .i64, .int .i64, .int .i64, .str]]
def rs50 : List RP := [{ src := .tmp 4, agg := false, ps := [.bool] }]
noncomputable def sl50 : SemL := [(68, (.shr, .shr, .shr, sem68)), (89, (.shr, .shr, .shr, sem89)), (34, (.shr, .shr, .shr, sem34)), (70, (.shr, .shr, .shr, sem70))]
def D50 : Draws := fun _ => .nil
noncomputable def L50 {R : Type} : Loops R := fun _ _ _ _ => none
noncomputable def impl_TurnOk (r0c0 : Int) (r0c1 : List (Int × Unit)) (e1c0 : Int) (e1c1 : Int) (e1c2 : Int) (e1c3 : Int) (e1c4 : ByteArray) : Option (Bool × Unit) :=
  Option.bind (impl_inRange e1c0 (1 : Int) (7 : Int)) fun y1 =>
  bif !y1.1 then
    some (false, ())
  else
    Option.bind (slices_Contains_int r0c1 e1c1) fun y2 =>
    bif !y2.1 then
      some (false, ())
    else bif decide (e1c2 < (0 : Int)) then
      some (false, ())
    else
      Option.bind (impl_RingOk r0c0 r0c1) fun y3 =>
      bif !y3.1 then
        some (false, ())
      else
        Option.bind (impl_wordsOk (decide (e1c0 = (1 : Int))) e1c3 e1c4) fun y4 =>
        some (y4.1, ())
noncomputable def x50 (x : Int × (List (Int × Unit)) × Int × Int × Int × Int × ByteArray × Unit) : Option (Bool × Unit) := impl_TurnOk x.1 x.2.1 x.2.2.1 x.2.2.2.1 x.2.2.2.2.1 x.2.2.2.2.2.1 x.2.2.2.2.2.2.1
noncomputable def sem50 : Sem1 := semOf ps50 rs50 x50
theorem so50 : SemsOk Try.prog (semsOf sl50) := sems_cons k68 (sems_cons k89 (sems_cons k34 (sems_cons k70 (sems_nil))))
theorem t50_eq (x : denR (headRT (ps50.map some))) : codeK (tabOf tr) (semsOf sl50) D50 L50 code50 (start 35 ps50 x) (finK rs50 ps50) = x50 x := by kernel_rfl
theorem k50 : Known Try.prog 50 sem50 :=
  fn_auto tr_ok eq_ok mixed_ok so50 (D := D50) (code := code50) (n := 35) Try.func50 (by kernel_rfl) (by kernel_rfl) (by kernel_rfl) (fun w0 mu _ hs => (loops_of (l := []) (by kernel_rfl) (List.forall_mem_nil _))) t50_eq

/-! ### f10: laws.FnExactTurnOk -/
noncomputable def code10 : Code := match Try.f10.body with | some c => c | none => .skip
def ps10 : List AP := [.val true [.int .i64, .shr (.cons (.int .i64) .nil)], .val true [.int .i64, .int .i64, .int .i64, .int .i64, .str]]
def rs10 : List RP := [{ src := .tmp 4, agg := false, ps := [.bool] }]
noncomputable def sl10 : SemL := [(26, (.shr, .shr, .shr, sem26)), (47, (.shr, .shr, .shr, sem47)), (28, (.shr, .shr, .shr, sem28)), (49, (.shr, .shr, .shr, sem49)), (48, (.shr, .shr, .shr, sem48)), (50, (.shr, .shr, .shr, sem50)), (30, (.shr, .shr, .shr, sem30))]
def D10 : Draws := fun id => bif Nat.beq id 8 then .op 0 .take (.op 2 .take (.op 1 .one (.op 3 .one (.op 4 .one (.op 5 .any (.nil)))))) else bif Nat.beq id 10 then .op 0 .take (.op 1 .take (.op 2 .one (.op 3 .one (.op 4 .any (.nil))))) else bif Nat.beq id 13 then .op 0 .take (.op 1 .take (.op 2 .one (.op 3 .one (.op 4 .any (.nil))))) else .nil
noncomputable def L10 {R : Type} : Loops R := fun _ _ _ _ => none
noncomputable def laws_FnExactTurnOk (aR0c0 : Int) (aR0c1 : List (Int × Unit)) (aE1c0 : Int) (aE1c1 : Int) (aE1c2 : Int) (aE1c3 : Int) (aE1c4 : ByteArray) : Option (Bool × Unit) :=
  Option.bind (laws_szRing aR0c0 aR0c1 (1048576 : Int)) fun y1 =>
  bif decide (y1.1 < (0 : Int)) then
    some (true, ())
  else
    Option.bind (laws_szTurn aE1c0 aE1c1 aE1c2 aE1c3 aE1c4 y1.1) fun y2 =>
    bif decide (y2.1 < (0 : Int)) then
      some (true, ())
    else
      Option.bind (laws_toRing aR0c0 aR0c1) fun y3 =>
      Option.bind (laws_toTurn aE1c0 aE1c1 aE1c2 aE1c3 aE1c4) fun y4 =>
      Option.bind (spec_TurnOk y3.1 y3.2.1 y4.1 y4.2.1 y4.2.2.1 y4.2.2.2.1 y4.2.2.2.2.1) fun y5 =>
      Option.bind (laws_toRing aR0c0 aR0c1) fun y6 =>
      Option.bind (laws_toTurn aE1c0 aE1c1 aE1c2 aE1c3 aE1c4) fun y7 =>
      Option.bind (impl_TurnOk y6.1 y6.2.1 y7.1 y7.2.1 y7.2.2.1 y7.2.2.2.1 y7.2.2.2.2.1) fun y8 =>
      bif !(y8.1 == y5.1) then
        some (false, ())
      else
        Option.bind (laws_toRing aR0c0 aR0c1) fun y9 =>
        Option.bind (laws_eqRing y6.1 y6.2.1 y9.1 y9.2.1) fun y10 =>
        bif !y10.1 then
          some (false, ())
        else
          some (true, ())
noncomputable def x10 (x : Int × (List (Int × Unit)) × Int × Int × Int × Int × ByteArray × Unit) : Option (Bool × Unit) := laws_FnExactTurnOk x.1 x.2.1 x.2.2.1 x.2.2.2.1 x.2.2.2.2.1 x.2.2.2.2.2.1 x.2.2.2.2.2.2.1
noncomputable def sem10 : Sem1 := semOf ps10 rs10 x10
theorem so10 : SemsOk Try.prog (semsOf sl10) := sems_cons k26 (sems_cons k47 (sems_cons k28 (sems_cons k49 (sems_cons k48 (sems_cons k50 (sems_cons k30 (sems_nil)))))))
theorem t10_eq (x : denR (headRT (ps10.map some))) : codeK (tabOf tr) (semsOf sl10) D10 L10 code10 (start 38 ps10 x) (finK rs10 ps10) = x10 x := by kernel_rfl
theorem k10 : Known Try.prog 10 sem10 :=
  fn_auto tr_ok eq_ok mixed_ok so10 (D := D10) (code := code10) (n := 38) Try.func10 (by kernel_rfl) (by kernel_rfl) (by kernel_rfl) (fun w0 mu _ hs => (loops_of (l := []) (by kernel_rfl) (List.forall_mem_nil _))) t10_eq

/-! ### f51: laws.szItemSS -/
noncomputable def code51 : Code := match Try.f51.body with | some c => c | none => .skip
def ps51 : List AP := [.val false [.shr (.cons (.sl (.cons (.int .i64) (.cons (.int .i64) (.cons (.int .i64) (.cons .str .nil))))) .nil)], .val false [.int .i64]]
def rs51 : List RP := [{ src := .tmp 4, agg := false, ps := [.int .i64] }]
noncomputable def sl51 : SemL := [(83, (.shr, .shr, .shr, sem83))]
def D51 : Draws := fun _ => .nil
def hp51_0 : List (Option AP) := [some (.val false [.shr (.cons (.sl (.cons (.int .i64) (.cons (.int .i64) (.cons (.int .i64) (.cons .str .nil))))) .nil)]), some (.val false [.int .i64]), none, none, none, some (.val false [.int .i64]), none, none, none, none, none, none, none, none, none, none, none, none, none, none, none, none, none, none, none, none, none]
def e51_0 : List (Option AP) := [none, some (.val false [.int .i64]), none, none, none, none, none, none, none, none, none, none, none, none, none, none, none, none, none, none, none, none, none, none, none, none, none]
def q51_0 : List (Option AP) := [none, none, none, none, some (.val false [.int .i64]), none, none, none, none, none, none, none, none, none, none, none, none, none, none, none, none, none, none, none, none, none, none]
abbrev H51_0 : Type := (List ((List (Int × Int × Int × ByteArray × Unit)) × Unit)) × Int × Int × Unit
abbrev E51_0 : Type := Int × Unit
abbrev Q51_0 : Type := Int × Unit
noncomputable def laws_szItemSS_c0 (a0 : List ((List (Int × Int × Int × ByteArray × Unit)) × Unit)) (left1 : Int) (i5 : Int) : Option (Sum H51_0 (Sum E51_0 Q51_0)) :=
  bif decide (i5 < ((List.length a0 : Nat) : Int)) then
    bif decide ((0 : Int) ≤ i5) then Option.bind ((a0)[Int.toNat i5]?) fun r1 =>
      Option.bind (laws_szItemS r1.1 left1) fun y2 =>
      bif decide (y2.1 < (0 : Int)) then
        some (.inr (.inr ((-1 : Int), ())))
      else
        some (.inl (a0, y2.1, IntKind.i64.wrap (i5 + (1 : Int)), ()))
    else none
  else
    some (.inr (.inl (left1, ())))
noncomputable def laws_szItemSS_r0 (x : H51_0) : Option (Sum H51_0 (Sum E51_0 Q51_0)) := laws_szItemSS_c0 x.1 x.2.1 x.2.2.1
noncomputable def L51 {R : Type} : Loops R := fun id _ st k => bif Nat.beq id 0 then loopAt hp51_0 e51_0 q51_0 laws_szItemSS_r0 st k else none
noncomputable def laws_szItemSS (a0 : List ((List (Int × Int × Int × ByteArray × Unit)) × Unit)) (left1 : Int) : Option (Int × Unit) :=
  bif decide (IntKind.i64.wrap (left1 - ((List.length a0 : Nat) : Int)) < (0 : Int)) then
    some ((-1 : Int), ())
  else
    outK (loopV laws_szItemSS_r0 (a0, IntKind.i64.wrap (left1 - ((List.length a0 : Nat) : Int)), (0 : Int), ())) (fun y1 =>
      some (y1.1, ())) (fun y2 =>
      some (y2.1, ()))
noncomputable def x51 (x : (List ((List (Int × Int × Int × ByteArray × Unit)) × Unit)) × Int × Unit) : Option (Int × Unit) := laws_szItemSS x.1 x.2.1
noncomputable def sem51 : Sem1 := semOf ps51 rs51 x51
theorem so51 : SemsOk Try.prog (semsOf sl51) := sems_cons k83 (sems_nil)
noncomputable def b51_0 : Code := nthLoop code51 0
theorem t51_r0_eq (x : denR (headRT hp51_0)) : codeK (tabOf tr) (semsOf sl51) D51 L51 b51_0 (headSt hp51_0 x) (roundK 0 hp51_0 e51_0 q51_0) = laws_szItemSS_r0 x := by kernel_rfl
theorem loop51_0 {R : Type} (r : R) (w0 : World) (mu : Mu) (hs : AnShape ps51 mu) : LoopAt Try.prog w0 mu 27 (L51 : Loops R) r 0 b51_0 :=
  loop_auto tr_ok eq_ok mixed_ok so51 (D := D51) hs (by kernel_rfl) (fun _ => (loops_of (l := []) (by kernel_rfl) (List.forall_mem_nil _))) t51_r0_eq (fun _ _ => rfl)
theorem t51_eq (x : denR (headRT (ps51.map some))) : codeK (tabOf tr) (semsOf sl51) D51 L51 code51 (start 27 ps51 x) (finK rs51 ps51) = x51 x := by kernel_rfl
theorem k51 : Known Try.prog 51 sem51 :=
  fn_auto tr_ok eq_ok mixed_ok so51 (D := D51) (code := code51) (n := 27) Try.func51 (by kernel_rfl) (by kernel_rfl) (by kernel_rfl) (fun w0 mu _ hs => (loops_of (l := [(0, b51_0)]) (by kernel_rfl) (List.forall_mem_cons.2 ⟨loop51_0 _ w0 mu hs, (List.forall_mem_nil _)⟩))) t51_eq

/-! ### f53: laws.toItemSS -/
noncomputable def code53 : Code := match Try.f53.body with | some c => c | none => .skip
def ps53 : List AP := [.val false [.shr (.cons (.sl (.cons (.int .i64) (.cons (.int .i64) (.cons (.int .i64) (.cons .str .nil))))) .nil)]]
def rs53 : List RP := [{ src := .tmp 2, agg := false, ps := [.own (.cons (.sl (.cons (.int .i64) (.cons (.int .i64) (.cons (.int .i64) (.cons .str .nil))))) .nil)] }]
noncomputable def sl53 : SemL := [(85, (.shr, .shr, .shr, sem85))]
def D53 : Draws := fun _ => .nil
def hp53_0 : List (Option AP) := [some (.val false [.shr (.cons (.sl (.cons (.int .i64) (.cons (.int .i64) (.cons (.int .i64) (.cons .str .nil))))) .nil)]), none, none, some (.val false [.own (.cons (.sl (.cons (.int .i64) (.cons (.int .i64) (.cons (.int .i64) (.cons .str .nil))))) .nil)]), some (.val false [.int .i64]), none, none, none, none, none, none, none, none, none, none, none, none, none, none, none, none, none, none]
def e53_0 : List (Option AP) := [none, none, none, some (.val false [.own (.cons (.sl (.cons (.int .i64) (.cons (.int .i64) (.cons (.int .i64) (.cons .str .nil))))) .nil)]), none, none, none, none, none, none, none, none, none, none, none, none, none, none, none, none, none, none, none]
def q53_0 : List (Option AP) := [none, none, none, none, none, none, none, none, none, none, none, none, none, none, none, none, none, none, none, none, none, none, none]
abbrev H53_0 : Type := (List ((List (Int × Int × Int × ByteArray × Unit)) × Unit)) × (List ((List (Int × Int × Int × ByteArray × Unit)) × Unit)) × Int × Unit
abbrev E53_0 : Type := (List ((List (Int × Int × Int × ByteArray × Unit)) × Unit)) × Unit
abbrev Q53_0 : Type := Unit
noncomputable def laws_toItemSS_c0 (a0 : List ((List (Int × Int × Int × ByteArray × Unit)) × Unit)) (out3 : List ((List (Int × Int × Int × ByteArray × Unit)) × Unit)) (i4 : Int) : Option (Sum H53_0 (Sum E53_0 Q53_0)) :=
  bif decide (i4 < ((List.length a0 : Nat) : Int)) then
    bif decide ((0 : Int) ≤ i4) then Option.bind ((a0)[Int.toNat i4]?) fun r1 =>
      Option.bind (laws_toItemS r1.1) fun y2 =>
      bif decide ((0 : Int) ≤ i4) then bif Nat.blt (Int.toNat i4) (List.length out3) then Option.bind ((out3)[Int.toNat i4]?) fun _ =>
          some (.inl (a0, List.set out3 (Int.toNat i4) (y2.1, ()), IntKind.i64.wrap (i4 + (1 : Int)), ()))
        else none
      else none
    else none
  else
    some (.inr (.inl (out3, ())))
noncomputable def laws_toItemSS_r0 (x : H53_0) : Option (Sum H53_0 (Sum E53_0 Q53_0)) := laws_toItemSS_c0 x.1 x.2.1 x.2.2.1
noncomputable def L53 {R : Type} : Loops R := fun id _ st k => bif Nat.beq id 0 then loopAt hp53_0 e53_0 q53_0 laws_toItemSS_r0 st k else none
noncomputable def laws_toItemSS (a0 : List ((List (Int × Int × Int × ByteArray × Unit)) × Unit)) : Option ((List ((List (Int × Int × Int × ByteArray × Unit)) × Unit)) × Unit) :=
  bif decide (((List.length a0 : Nat) : Int) = ((List.length a0 : Nat) : Int)) then bif decide ((0 : Int) ≤ ((List.length a0 : Nat) : Int)) then bif Nat.ble ((Int.toNat ((List.length a0 : Nat) : Int)) * 24) lim then outK (loopV laws_toItemSS_r0 (a0, List.replicate (Int.toNat ((List.length a0 : Nat) : Int)) ([], ()), (0 : Int), ())) (fun y1 =>
          some (y1.1, ())) (fun y2 =>
          none)
      else none
    else none
  else none
noncomputable def x53 (x : (List ((List (Int × Int × Int × ByteArray × Unit)) × Unit)) × Unit) : Option ((List ((List (Int × Int × Int × ByteArray × Unit)) × Unit)) × Unit) := laws_toItemSS x.1
noncomputable def sem53 : Sem1 := semOf ps53 rs53 x53
theorem so53 : SemsOk Try.prog (semsOf sl53) := sems_cons k85 (sems_nil)
noncomputable def b53_0 : Code := nthLoop code53 0
theorem t53_r0_eq (x : denR (headRT hp53_0)) : codeK (tabOf tr) (semsOf sl53) D53 L53 b53_0 (headSt hp53_0 x) (roundK 0 hp53_0 e53_0 q53_0) = laws_toItemSS_r0 x := by kernel_rfl
theorem loop53_0 {R : Type} (r : R) (w0 : World) (mu : Mu) (hs : AnShape ps53 mu) : LoopAt Try.prog w0 mu 23 (L53 : Loops R) r 0 b53_0 :=
  loop_auto tr_ok eq_ok mixed_ok so53 (D := D53) hs (by kernel_rfl) (fun _ => (loops_of (l := []) (by kernel_rfl) (List.forall_mem_nil _))) t53_r0_eq (fun _ _ => rfl)
theorem t53_eq (x : denR (headRT (ps53.map some))) : codeK (tabOf tr) (semsOf sl53) D53 L53 code53 (start 23 ps53 x) (finK rs53 ps53) = x53 x := by kernel_rfl
theorem k53 : Known Try.prog 53 sem53 :=
  fn_auto tr_ok eq_ok mixed_ok so53 (D := D53) (code := code53) (n := 23) Try.func53 (by kernel_rfl) (by kernel_rfl) (by kernel_rfl) (fun w0 mu _ hs => (loops_of (l := [(0, b53_0)]) (by kernel_rfl) (List.forall_mem_cons.2 ⟨loop53_0 _ w0 mu hs, (List.forall_mem_nil _)⟩))) t53_eq

/-! ### f90: spec.l11Begins -/
noncomputable def code90 : Code := match Try.f90.body with | some c => c | none => .skip
def ps90 : List AP := [.val false [.shr (.cons (.int .i64) (.cons (.int .i64) (.cons (.int .i64) (.cons .str .nil))))], .val false [.shr (.cons (.int .i64) (.cons (.int .i64) (.cons (.int .i64) (.cons .str .nil))))]]
def rs90 : List RP := [{ src := .tmp 4, agg := false, ps := [.bool] }]
noncomputable def sl90 : SemL := []
def D90 : Draws := fun id => bif Nat.beq id 6 then .op 0 .any (.op 1 .any (.op 2 .any (.op 3 .take (.op 4 .any (.op 5 .any (.op 6 .any (.op 7 .take (.op 8 .any (.nil))))))))) else .nil
def hp90_0 : List (Option AP) := [some (.val false [.shr (.cons (.int .i64) (.cons (.int .i64) (.cons (.int .i64) (.cons .str .nil))))]), some (.val false [.shr (.cons (.int .i64) (.cons (.int .i64) (.cons (.int .i64) (.cons .str .nil))))]), none, none, none, some (.val false [.int .i64]), none, none, none, none, none, none, none, none, none, none, none, none, none, none, none, none, none, none, none, none]
def e90_0 : List (Option AP) := [none, none, none, none, none, none, none, none, none, none, none, none, none, none, none, none, none, none, none, none, none, none, none, none, none, none]
def q90_0 : List (Option AP) := [none, none, none, none, some (.val false [.bool]), none, none, none, none, none, none, none, none, none, none, none, none, none, none, none, none, none, none, none, none, none]
abbrev H90_0 : Type := (List (Int × Int × Int × ByteArray × Unit)) × (List (Int × Int × Int × ByteArray × Unit)) × Int × Unit
abbrev E90_0 : Type := Unit
abbrev Q90_0 : Type := Bool × Unit
noncomputable def spec_l11Begins_c0 (a0 : List (Int × Int × Int × ByteArray × Unit)) (b1 : List (Int × Int × Int × ByteArray × Unit)) (i5 : Int) : Option (Sum H90_0 (Sum E90_0 Q90_0)) :=
  bif decide (i5 < ((List.length a0 : Nat) : Int)) then
    bif decide ((0 : Int) ≤ i5) then Option.bind ((a0)[Int.toNat i5]?) fun r1 =>
      bif decide ((0 : Int) ≤ i5) then Option.bind ((b1)[Int.toNat i5]?) fun r2 =>
        bif !(decide (r1.1 = r2.1) && (decide (r1.2.1 = r2.2.1) && (decide (r1.2.2.1 = r2.2.2.1) && (strEq r1.2.2.2.1 r2.2.2.2.1 && true)))) then
          some (.inr (.inr (false, ())))
        else
          some (.inl (a0, b1, IntKind.i64.wrap (i5 + (1 : Int)), ()))
      else none
    else none
  else
    some (.inr (.inl (())))
noncomputable def spec_l11Begins_r0 (x : H90_0) : Option (Sum H90_0 (Sum E90_0 Q90_0)) := spec_l11Begins_c0 x.1 x.2.1 x.2.2.1
noncomputable def L90 {R : Type} : Loops R := fun id _ st k => bif Nat.beq id 0 then loopAt hp90_0 e90_0 q90_0 spec_l11Begins_r0 st k else none
noncomputable def spec_l11Begins (a0 : List (Int × Int × Int × ByteArray × Unit)) (b1 : List (Int × Int × Int × ByteArray × Unit)) : Option (Bool × Unit) :=
  bif decide (((List.length b1 : Nat) : Int) < ((List.length a0 : Nat) : Int)) then
    some (false, ())
  else
    outK (loopV spec_l11Begins_r0 (a0, b1, (0 : Int), ())) (fun y1 =>
      some (true, ())) (fun y2 =>
      some (y2.1, ()))
noncomputable def x90 (x : (List (Int × Int × Int × ByteArray × Unit)) × (List (Int × Int × Int × ByteArray × Unit)) × Unit) : Option (Bool × Unit) := spec_l11Begins x.1 x.2.1
noncomputable def sem90 : Sem1 := semOf ps90 rs90 x90
theorem so90 : SemsOk Try.prog (semsOf sl90) := sems_nil
noncomputable def b90_0 : Code := nthLoop code90 0
theorem t90_r0_eq (x : denR (headRT hp90_0)) : codeK (tabOf tr) (semsOf sl90) D90 L90 b90_0 (headSt hp90_0 x) (roundK 0 hp90_0 e90_0 q90_0) = spec_l11Begins_r0 x := by kernel_rfl
theorem loop90_0 {R : Type} (r : R) (w0 : World) (mu : Mu) (hs : AnShape ps90 mu) : LoopAt Try.prog w0 mu 26 (L90 : Loops R) r 0 b90_0 :=
  loop_auto tr_ok eq_ok mixed_ok so90 (D := D90) hs (by kernel_rfl) (fun _ => (loops_of (l := []) (by kernel_rfl) (List.forall_mem_nil _))) t90_r0_eq (fun _ _ => rfl)
theorem t90_eq (x : denR (headRT (ps90.map some))) : codeK (tabOf tr) (semsOf sl90) D90 L90 code90 (start 26 ps90 x) (finK rs90 ps90) = x90 x := by kernel_rfl
theorem k90 : Known Try.prog 90 sem90 :=
  fn_auto tr_ok eq_ok mixed_ok so90 (D := D90) (code := code90) (n := 26) Try.func90 (by kernel_rfl) (by kernel_rfl) (by kernel_rfl) (fun w0 mu _ hs => (loops_of (l := [(0, b90_0)]) (by kernel_rfl) (List.forall_mem_cons.2 ⟨loop90_0 _ w0 mu hs, (List.forall_mem_nil _)⟩))) t90_eq

/-! ### f52: spec.OneOrder -/
noncomputable def code52 : Code := match Try.f52.body with | some c => c | none => .skip
def ps52 : List AP := [.val false [.shr (.cons (.sl (.cons (.int .i64) (.cons (.int .i64) (.cons (.int .i64) (.cons .str .nil))))) .nil)]]
def rs52 : List RP := [{ src := .tmp 2, agg := false, ps := [.bool] }]
noncomputable def sl52 : SemL := [(90, (.shr, .shr, .shr, sem90))]
def D52 : Draws := fun id => bif Nat.beq id 7 then .op 0 .any (.op 1 .any (.op 2 .any (.op 3 .take (.op 4 .any (.op 5 .any (.op 6 .any (.op 7 .take (.op 8 .one (.op 9 .any (.op 10 .any (.op 11 .any (.op 12 .any (.op 13 .any (.op 14 .take (.op 15 .any (.op 16 .any (.op 17 .any (.op 18 .take (.op 19 .one (.op 20 .any (.op 21 .any (.nil)))))))))))))))))))))) else .nil
def hp52_2 : List (Option AP) := [some (.val false [.shr (.cons (.sl (.cons (.int .i64) (.cons (.int .i64) (.cons (.int .i64) (.cons .str .nil))))) .nil)]), none, none, some (.val false [.int .i64]), some (.val false [.int .i64]), none, none, none, none, none, none, none, none, none, none, none, none, none, none, none, none, none, none, none, none, none, none, none, none, none, none, none, none, none, none, none, none, none]
def e52_2 : List (Option AP) := [some (.val false [.shr (.cons (.sl (.cons (.int .i64) (.cons (.int .i64) (.cons (.int .i64) (.cons .str .nil))))) .nil)]), none, none, some (.val false [.int .i64]), none, none, none, none, none, none, none, none, none, none, none, none, none, none, none, none, none, none, none, none, none, none, none, none, none, none, none, none, none, none, none, none, none, none]
def q52_2 : List (Option AP) := [none, none, some (.val false [.bool]), none, none, none, none, none, none, none, none, none, none, none, none, none, none, none, none, none, none, none, none, none, none, none, none, none, none, none, none, none, none, none, none, none, none, none]
abbrev H52_2 : Type := (List ((List (Int × Int × Int × ByteArray × Unit)) × Unit)) × Int × Int × Unit
abbrev E52_2 : Type := (List ((List (Int × Int × Int × ByteArray × Unit)) × Unit)) × Int × Unit
abbrev Q52_2 : Type := Bool × Unit
noncomputable def spec_OneOrder_c2 (lists0 : List ((List (Int × Int × Int × ByteArray × Unit)) × Unit)) (i3 : Int) (k4 : Int) : Option (Sum H52_2 (Sum E52_2 Q52_2)) :=
  bif decide (k4 < i3) then
    bif decide ((0 : Int) ≤ i3) then Option.bind ((lists0)[Int.toNat i3]?) fun r1 =>
      bif decide ((0 : Int) ≤ k4) then Option.bind ((lists0)[Int.toNat k4]?) fun r2 =>
        Option.bind (spec_l11Begins r1.1 r2.1) fun y3 =>
        bif !y3.1 then
          bif decide ((0 : Int) ≤ k4) then Option.bind ((lists0)[Int.toNat k4]?) fun r4 =>
            bif decide ((0 : Int) ≤ i3) then Option.bind ((lists0)[Int.toNat i3]?) fun r5 =>
              Option.bind (spec_l11Begins r4.1 r5.1) fun y6 =>
              bif !y6.1 then
                some (.inr (.inr (false, ())))
              else
                some (.inl (lists0, i3, IntKind.i64.wrap (k4 + (1 : Int)), ()))
            else none
          else none
        else
          some (.inl (lists0, i3, IntKind.i64.wrap (k4 + (1 : Int)), ()))
      else none
    else none
  else
    some (.inr (.inl (lists0, i3, ())))
noncomputable def spec_OneOrder_r2 (x : H52_2) : Option (Sum H52_2 (Sum E52_2 Q52_2)) := spec_OneOrder_c2 x.1 x.2.1 x.2.2.1
def hp52_0 : List (Option AP) := [some (.val false [.shr (.cons (.sl (.cons (.int .i64) (.cons (.int .i64) (.cons (.int .i64) (.cons .str .nil))))) .nil)]), none, none, some (.val false [.int .i64]), none, none, none, none, none, none, none, none, none, none, none, none, none, none, none, none, none, none, none, none, none, none, none, none, none, none, none, none, none, none, none, none, none, none]
def e52_0 : List (Option AP) := [none, none, none, none, none, none, none, none, none, none, none, none, none, none, none, none, none, none, none, none, none, none, none, none, none, none, none, none, none, none, none, none, none, none, none, none, none, none]
def q52_0 : List (Option AP) := [none, none, some (.val false [.bool]), none, none, none, none, none, none, none, none, none, none, none, none, none, none, none, none, none, none, none, none, none, none, none, none, none, none, none, none, none, none, none, none, none, none, none]
abbrev H52_0 : Type := (List ((List (Int × Int × Int × ByteArray × Unit)) × Unit)) × Int × Unit
abbrev E52_0 : Type := Unit
abbrev Q52_0 : Type := Bool × Unit
noncomputable def spec_OneOrder_c0 (lists0 : List ((List (Int × Int × Int × ByteArray × Unit)) × Unit)) (i3 : Int) : Option (Sum H52_0 (Sum E52_0 Q52_0)) :=
  bif decide (i3 < ((List.length lists0 : Nat) : Int)) then
    outK (loopV spec_OneOrder_r2 (lists0, i3, (0 : Int), ())) (fun y7 =>
      some (.inl (y7.1, IntKind.i64.wrap (y7.2.1 + (1 : Int)), ()))) (fun y8 =>
      some (.inr (.inr (y8.1, ()))))
  else
    some (.inr (.inl (())))
noncomputable def spec_OneOrder_r0 (x : H52_0) : Option (Sum H52_0 (Sum E52_0 Q52_0)) := spec_OneOrder_c0 x.1 x.2.1
noncomputable def L52 {R : Type} : Loops R := fun id _ st k => bif Nat.beq id 2 then loopAt hp52_2 e52_2 q52_2 spec_OneOrder_r2 st k else bif Nat.beq id 0 then loopAt hp52_0 e52_0 q52_0 spec_OneOrder_r0 st k else none
noncomputable def spec_OneOrder (lists0 : List ((List (Int × Int × Int × ByteArray × Unit)) × Unit)) : Option (Bool × Unit) :=
  outK (loopV spec_OneOrder_r0 (lists0, (0 : Int), ())) (fun y1 =>
    some (true, ())) (fun y2 =>
    some (y2.1, ()))
noncomputable def x52 (x : (List ((List (Int × Int × Int × ByteArray × Unit)) × Unit)) × Unit) : Option (Bool × Unit) := spec_OneOrder x.1
noncomputable def sem52 : Sem1 := semOf ps52 rs52 x52
theorem so52 : SemsOk Try.prog (semsOf sl52) := sems_cons k90 (sems_nil)
noncomputable def b52_0 : Code := nthLoop code52 0
noncomputable def b52_2 : Code := nthLoop b52_0 0
theorem t52_r2_eq (x : denR (headRT hp52_2)) : codeK (tabOf tr) (semsOf sl52) D52 L52 b52_2 (headSt hp52_2 x) (roundK 2 hp52_2 e52_2 q52_2) = spec_OneOrder_r2 x := by kernel_rfl
theorem loop52_2 {R : Type} (r : R) (w0 : World) (mu : Mu) (hs : AnShape ps52 mu) : LoopAt Try.prog w0 mu 38 (L52 : Loops R) r 2 b52_2 :=
  loop_auto tr_ok eq_ok mixed_ok so52 (D := D52) hs (by kernel_rfl) (fun _ => (loops_of (l := []) (by kernel_rfl) (List.forall_mem_nil _))) t52_r2_eq (fun _ _ => rfl)
theorem t52_r0_eq (x : denR (headRT hp52_0)) : codeK (tabOf tr) (semsOf sl52) D52 L52 b52_0 (headSt hp52_0 x) (roundK 0 hp52_0 e52_0 q52_0) = spec_OneOrder_r0 x := by kernel_rfl
theorem loop52_0 {R : Type} (r : R) (w0 : World) (mu : Mu) (hs : AnShape ps52 mu) : LoopAt Try.prog w0 mu 38 (L52 : Loops R) r 0 b52_0 :=
  loop_auto tr_ok eq_ok mixed_ok so52 (D := D52) hs (by kernel_rfl) (fun _ => (loops_of (l := [(2, b52_2)]) (by kernel_rfl) (List.forall_mem_cons.2 ⟨loop52_2 _ w0 mu hs, (List.forall_mem_nil _)⟩))) t52_r0_eq (fun _ _ => rfl)
theorem t52_eq (x : denR (headRT (ps52.map some))) : codeK (tabOf tr) (semsOf sl52) D52 L52 code52 (start 38 ps52 x) (finK rs52 ps52) = x52 x := by kernel_rfl
theorem k52 : Known Try.prog 52 sem52 :=
  fn_auto tr_ok eq_ok mixed_ok so52 (D := D52) (code := code52) (n := 38) Try.func52 (by kernel_rfl) (by kernel_rfl) (by kernel_rfl) (fun w0 mu _ hs => (loops_of (l := [(0, b52_0)]) (by kernel_rfl) (List.forall_mem_cons.2 ⟨loop52_0 _ w0 mu hs, (List.forall_mem_nil _)⟩))) t52_eq

end Go.TM
