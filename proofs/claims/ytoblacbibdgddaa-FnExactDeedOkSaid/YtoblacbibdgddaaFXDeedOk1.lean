/- What the functions answer, as terms; their contracts. -/
import Derived.Test.YtoblacbibdgddaaBXDeedOk
namespace Go.TM
open Go Go.RowKit Go.Proofs

/-! ### f15: laws.szDeed -/
noncomputable def code15 : Code := match Try.f15.body with | some c => c | none => .skip
def ps15 : List AP := [.val true [.int .i64, .int .i64, .int .i64, .int .i64, .str], .val false [.int .i64]]
def rs15 : List RP := [{ src := .tmp 4, agg := false, ps := [.int .i64] }]
noncomputable def sl15 : SemL := []
def D15 : Draws := fun _ => []
noncomputable def L15 {R : Type} : Loops R := fun _ _ _ _ => none
noncomputable def t15 (a0c0 : Int) (a0c1 : Int) (a0c2 : Int) (a0c3 : Int) (a0c4 : ByteArray) (left1 : Int) : Option (Int × Unit) :=
  bif decide (IntKind.i64.wrap (left1 - ((ByteArray.size a0c4 : Nat) : Int)) < (0 : Int)) then
    some ((-1 : Int), ())
  else
    some (IntKind.i64.wrap (left1 - ((ByteArray.size a0c4 : Nat) : Int)), ())
noncomputable def x15 (x : Int × Int × Int × Int × ByteArray × Int × Unit) : Option (Int × Unit) := t15 x.1 x.2.1 x.2.2.1 x.2.2.2.1 x.2.2.2.2.1 x.2.2.2.2.2.1
noncomputable def sem15 : Sem1 := semOf ps15 rs15 x15
theorem so15 : SemsOk Try.prog (semsOf sl15) := sems_nil
theorem t15_eq (x : denR (headRT (ps15.map some))) : codeK (tabOf tr) (semsOf sl15) D15 L15 code15 (start 13 ps15 x) (finK rs15 ps15) = x15 x := by kernel_rfl
theorem k15 : Known Try.prog 15 sem15 :=
  fn_auto tr_ok eq_ok mixed_ok so15 (D := D15) (code := code15) (n := 13) Try.func15 (by kernel_rfl) (by kernel_rfl) (by kernel_rfl) (fun w0 mu _ hs => (loops_of (l := []) (by kernel_rfl) (List.forall_mem_nil _))) t15_eq

/-! ### f17: laws.toDeed -/
noncomputable def code17 : Code := match Try.f17.body with | some c => c | none => .skip
def ps17 : List AP := [.val true [.int .i64, .int .i64, .int .i64, .int .i64, .str]]
def rs17 : List RP := [{ src := .cell 2, agg := true, ps := [.int .i64, .int .i64, .int .i64, .int .i64, .str] }]
noncomputable def sl17 : SemL := []
def D17 : Draws := fun _ => []
noncomputable def L17 {R : Type} : Loops R := fun _ _ _ _ => none
noncomputable def t17 (a0c0 : Int) (a0c1 : Int) (a0c2 : Int) (a0c3 : Int) (a0c4 : ByteArray) : Option (Int × Int × Int × Int × ByteArray × Unit) :=
  some (a0c0, a0c1, a0c2, a0c3, a0c4, ())
noncomputable def x17 (x : Int × Int × Int × Int × ByteArray × Unit) : Option (Int × Int × Int × Int × ByteArray × Unit) := t17 x.1 x.2.1 x.2.2.1 x.2.2.2.1 x.2.2.2.2.1
noncomputable def sem17 : Sem1 := semOf ps17 rs17 x17
theorem so17 : SemsOk Try.prog (semsOf sl17) := sems_nil
theorem t17_eq (x : denR (headRT (ps17.map some))) : codeK (tabOf tr) (semsOf sl17) D17 L17 code17 (start 20 ps17 x) (finK rs17 ps17) = x17 x := by kernel_rfl
theorem k17 : Known Try.prog 17 sem17 :=
  fn_auto tr_ok eq_ok mixed_ok so17 (D := D17) (code := code17) (n := 20) Try.func17 (by kernel_rfl) (by kernel_rfl) (by kernel_rfl) (fun w0 mu _ hs => (loops_of (l := []) (by kernel_rfl) (List.forall_mem_nil _))) t17_eq

/-! ### f67: spec.l01In -/
noncomputable def code67 : Code := match Try.f67.body with | some c => c | none => .skip
def ps67 : List AP := [.val false [.int .i64], .val false [.int .i64], .val false [.int .i64]]
def rs67 : List RP := [{ src := .tmp 6, agg := false, ps := [.bool] }]
noncomputable def sl67 : SemL := []
def D67 : Draws := fun _ => []
noncomputable def L67 {R : Type} : Loops R := fun _ _ _ _ => none
noncomputable def t67 (x0 : Int) (least1 : Int) (most2 : Int) : Option (Bool × Unit) :=
  bif decide (least1 ≤ x0) then
    some (decide (x0 ≤ most2), ())
  else
    some (false, ())
noncomputable def x67 (x : Int × Int × Int × Unit) : Option (Bool × Unit) := t67 x.1 x.2.1 x.2.2.1
noncomputable def sem67 : Sem1 := semOf ps67 rs67 x67
theorem so67 : SemsOk Try.prog (semsOf sl67) := sems_nil
theorem t67_eq (x : denR (headRT (ps67.map some))) : codeK (tabOf tr) (semsOf sl67) D67 L67 code67 (start 15 ps67 x) (finK rs67 ps67) = x67 x := by kernel_rfl
theorem k67 : Known Try.prog 67 sem67 :=
  fn_auto tr_ok eq_ok mixed_ok so67 (D := D67) (code := code67) (n := 15) Try.func67 (by kernel_rfl) (by kernel_rfl) (by kernel_rfl) (fun w0 mu _ hs => (loops_of (l := []) (by kernel_rfl) (List.forall_mem_nil _))) t67_eq

/-! ### f16: spec.DeedOk -/
noncomputable def code16 : Code := match Try.f16.body with | some c => c | none => .skip
def ps16 : List AP := [.val true [.int .i64, .int .i64, .int .i64, .int .i64, .str]]
def rs16 : List RP := [{ src := .tmp 2, agg := false, ps := [.bool] }]
noncomputable def sl16 : SemL := [(67, (.shr, .shr, .shr, sem67))]
def D16 : Draws := fun _ => []
noncomputable def L16 {R : Type} : Loops R := fun _ _ _ _ => none
noncomputable def t16 (e0c0 : Int) (e0c1 : Int) (e0c2 : Int) (e0c3 : Int) (e0c4 : ByteArray) : Option (Bool × Unit) :=
  Option.bind (t67 e0c0 (1 : Int) (9 : Int)) fun y1 =>
  bif !y1.1 then
    some (false, ())
  else
    Option.bind (t67 e0c1 (1 : Int) (5 : Int)) fun y2 =>
    bif !y2.1 then
      some (false, ())
    else bif decide (e0c2 < (0 : Int)) then
      some (false, ())
    else bif decide (e0c0 = (1 : Int)) then
      Option.bind (t67 e0c3 (1 : Int) (2 : Int)) fun y3 =>
      bif y3.1 then
        some (decide (((ByteArray.size e0c4 : Nat) : Int) ≤ (60 : Int)), ())
      else
        some (false, ())
    else bif decide (e0c3 = (0 : Int)) then
      some (strEq e0c4 (ByteArray.mk #[]), ())
    else
      some (false, ())
noncomputable def x16 (x : Int × Int × Int × Int × ByteArray × Unit) : Option (Bool × Unit) := t16 x.1 x.2.1 x.2.2.1 x.2.2.2.1 x.2.2.2.2.1
noncomputable def sem16 : Sem1 := semOf ps16 rs16 x16
theorem so16 : SemsOk Try.prog (semsOf sl16) := sems_cons k67 (sems_nil)
theorem t16_eq (x : denR (headRT (ps16.map some))) : codeK (tabOf tr) (semsOf sl16) D16 L16 code16 (start 38 ps16 x) (finK rs16 ps16) = x16 x := by kernel_rfl
theorem k16 : Known Try.prog 16 sem16 :=
  fn_auto tr_ok eq_ok mixed_ok so16 (D := D16) (code := code16) (n := 38) Try.func16 (by kernel_rfl) (by kernel_rfl) (by kernel_rfl) (fun w0 mu _ hs => (loops_of (l := []) (by kernel_rfl) (List.forall_mem_nil _))) t16_eq

/-! ### f68: impl.inRange -/
noncomputable def code68 : Code := match Try.f68.body with | some c => c | none => .skip
def ps68 : List AP := [.val false [.int .i64], .val false [.int .i64], .val false [.int .i64]]
def rs68 : List RP := [{ src := .tmp 6, agg := false, ps := [.bool] }]
noncomputable def sl68 : SemL := []
def D68 : Draws := fun _ => []
noncomputable def L68 {R : Type} : Loops R := fun _ _ _ _ => none
noncomputable def t68 (n0 : Int) (least1 : Int) (most2 : Int) : Option (Bool × Unit) :=
  bif decide (least1 ≤ n0) then
    some (decide (n0 ≤ most2), ())
  else
    some (false, ())
noncomputable def x68 (x : Int × Int × Int × Unit) : Option (Bool × Unit) := t68 x.1 x.2.1 x.2.2.1
noncomputable def sem68 : Sem1 := semOf ps68 rs68 x68
theorem so68 : SemsOk Try.prog (semsOf sl68) := sems_nil
theorem t68_eq (x : denR (headRT (ps68.map some))) : codeK (tabOf tr) (semsOf sl68) D68 L68 code68 (start 15 ps68 x) (finK rs68 ps68) = x68 x := by kernel_rfl
theorem k68 : Known Try.prog 68 sem68 :=
  fn_auto tr_ok eq_ok mixed_ok so68 (D := D68) (code := code68) (n := 15) Try.func68 (by kernel_rfl) (by kernel_rfl) (by kernel_rfl) (fun w0 mu _ hs => (loops_of (l := []) (by kernel_rfl) (List.forall_mem_nil _))) t68_eq

/-! ### f69: impl.isDaemon -/
noncomputable def code69 : Code := match Try.f69.body with | some c => c | none => .skip
def ps69 : List AP := [.val false [.int .i64]]
def rs69 : List RP := [{ src := .tmp 2, agg := false, ps := [.bool] }]
noncomputable def sl69 : SemL := [(68, (.shr, .shr, .shr, sem68))]
def D69 : Draws := fun _ => []
noncomputable def L69 {R : Type} : Loops R := fun _ _ _ _ => none
noncomputable def t69 (n0 : Int) : Option (Bool × Unit) :=
  Option.bind (t68 n0 (1 : Int) (5 : Int)) fun y1 =>
  some (y1.1, ())
noncomputable def x69 (x : Int × Unit) : Option (Bool × Unit) := t69 x.1
noncomputable def sem69 : Sem1 := semOf ps69 rs69 x69
theorem so69 : SemsOk Try.prog (semsOf sl69) := sems_cons k68 (sems_nil)
theorem t69_eq (x : denR (headRT (ps69.map some))) : codeK (tabOf tr) (semsOf sl69) D69 L69 code69 (start 5 ps69 x) (finK rs69 ps69) = x69 x := by kernel_rfl
theorem k69 : Known Try.prog 69 sem69 :=
  fn_auto tr_ok eq_ok mixed_ok so69 (D := D69) (code := code69) (n := 5) Try.func69 (by kernel_rfl) (by kernel_rfl) (by kernel_rfl) (fun w0 mu _ hs => (loops_of (l := []) (by kernel_rfl) (List.forall_mem_nil _))) t69_eq

/-! ### f99: impl.isLevel -/
noncomputable def code99 : Code := match Try.f99.body with | some c => c | none => .skip
def ps99 : List AP := [.val false [.int .i64]]
def rs99 : List RP := [{ src := .tmp 2, agg := false, ps := [.bool] }]
noncomputable def sl99 : SemL := []
def D99 : Draws := fun _ => []
noncomputable def L99 {R : Type} : Loops R := fun _ _ _ _ => none
noncomputable def t99 (n0 : Int) : Option (Bool × Unit) :=
  bif decide (n0 = (1 : Int)) then
    some (true, ())
  else
    some (decide (n0 = (2 : Int)), ())
noncomputable def x99 (x : Int × Unit) : Option (Bool × Unit) := t99 x.1
noncomputable def sem99 : Sem1 := semOf ps99 rs99 x99
theorem so99 : SemsOk Try.prog (semsOf sl99) := sems_nil
theorem t99_eq (x : denR (headRT (ps99.map some))) : codeK (tabOf tr) (semsOf sl99) D99 L99 code99 (start 9 ps99 x) (finK rs99 ps99) = x99 x := by kernel_rfl
theorem k99 : Known Try.prog 99 sem99 :=
  fn_auto tr_ok eq_ok mixed_ok so99 (D := D99) (code := code99) (n := 9) Try.func99 (by kernel_rfl) (by kernel_rfl) (by kernel_rfl) (fun w0 mu _ hs => (loops_of (l := []) (by kernel_rfl) (List.forall_mem_nil _))) t99_eq

/-! ### f70: impl.wordsOk -/
noncomputable def code70 : Code := match Try.f70.body with | some c => c | none => .skip
def ps70 : List AP := [.val false [.bool], .val false [.int .i64], .val false [.str]]
def rs70 : List RP := [{ src := .tmp 6, agg := false, ps := [.bool] }]
noncomputable def sl70 : SemL := [(99, (.shr, .shr, .shr, sem99))]
def D70 : Draws := fun _ => []
noncomputable def L70 {R : Type} : Loops R := fun _ _ _ _ => none
noncomputable def t70 (says0 : Bool) (level1 : Int) (text2 : ByteArray) : Option (Bool × Unit) :=
  bif says0 then
    Option.bind (t99 level1) fun y1 =>
    bif y1.1 then
      some (decide (((ByteArray.size text2 : Nat) : Int) ≤ (60 : Int)), ())
    else
      some (false, ())
  else bif decide (level1 = (0 : Int)) then
    some (strEq text2 (ByteArray.mk #[]), ())
  else
    some (false, ())
noncomputable def x70 (x : Bool × Int × ByteArray × Unit) : Option (Bool × Unit) := t70 x.1 x.2.1 x.2.2.1
noncomputable def sem70 : Sem1 := semOf ps70 rs70 x70
theorem so70 : SemsOk Try.prog (semsOf sl70) := sems_cons k99 (sems_nil)
theorem t70_eq (x : denR (headRT (ps70.map some))) : codeK (tabOf tr) (semsOf sl70) D70 L70 code70 (start 21 ps70 x) (finK rs70 ps70) = x70 x := by kernel_rfl
theorem k70 : Known Try.prog 70 sem70 :=
  fn_auto tr_ok eq_ok mixed_ok so70 (D := D70) (code := code70) (n := 21) Try.func70 (by kernel_rfl) (by kernel_rfl) (by kernel_rfl) (fun w0 mu _ hs => (loops_of (l := []) (by kernel_rfl) (List.forall_mem_nil _))) t70_eq

/-! ### f18: impl.DeedOk -/
noncomputable def code18 : Code := match Try.f18.body with | some c => c | none => .skip
def ps18 : List AP := [.val true [.int .i64, .int .i64, .int .i64, .int .i64, .str]]
def rs18 : List RP := [{ src := .tmp 2, agg := false, ps := [.bool] }]
noncomputable def sl18 : SemL := [(68, (.shr, .shr, .shr, sem68)), (69, (.shr, .shr, .shr, sem69)), (70, (.shr, .shr, .shr, sem70))]
def D18 : Draws := fun _ => []
noncomputable def L18 {R : Type} : Loops R := fun _ _ _ _ => none
noncomputable def t18 (e0c0 : Int) (e0c1 : Int) (e0c2 : Int) (e0c3 : Int) (e0c4 : ByteArray) : Option (Bool × Unit) :=
  Option.bind (t68 e0c0 (1 : Int) (9 : Int)) fun y1 =>
  bif !y1.1 then
    some (false, ())
  else
    Option.bind (t69 e0c1) fun y2 =>
    bif !y2.1 then
      some (false, ())
    else bif decide (e0c2 < (0 : Int)) then
      some (false, ())
    else
      Option.bind (t70 (decide (e0c0 = (1 : Int))) e0c3 e0c4) fun y3 =>
      some (y3.1, ())
noncomputable def x18 (x : Int × Int × Int × Int × ByteArray × Unit) : Option (Bool × Unit) := t18 x.1 x.2.1 x.2.2.1 x.2.2.2.1 x.2.2.2.2.1
noncomputable def sem18 : Sem1 := semOf ps18 rs18 x18
theorem so18 : SemsOk Try.prog (semsOf sl18) := sems_cons k68 (sems_cons k69 (sems_cons k70 (sems_nil)))
theorem t18_eq (x : denR (headRT (ps18.map some))) : codeK (tabOf tr) (semsOf sl18) D18 L18 code18 (start 26 ps18 x) (finK rs18 ps18) = x18 x := by kernel_rfl
theorem k18 : Known Try.prog 18 sem18 :=
  fn_auto tr_ok eq_ok mixed_ok so18 (D := D18) (code := code18) (n := 26) Try.func18 (by kernel_rfl) (by kernel_rfl) (by kernel_rfl) (fun w0 mu _ hs => (loops_of (l := []) (by kernel_rfl) (List.forall_mem_nil _))) t18_eq

/-! ### f3: laws.FnExactDeedOk -/
noncomputable def code3 : Code := match Try.f3.body with | some c => c | none => .skip
def ps3 : List AP := [.val true [.int .i64, .int .i64, .int .i64, .int .i64, .str]]
def rs3 : List RP := [{ src := .tmp 2, agg := false, ps := [.bool] }]
noncomputable def sl3 : SemL := [(15, (.shr, .shr, .shr, sem15)), (17, (.shr, .shr, .shr, sem17)), (16, (.shr, .shr, .shr, sem16)), (18, (.shr, .shr, .shr, sem18))]
def D3 : Draws := fun _ => []
noncomputable def L3 {R : Type} : Loops R := fun _ _ _ _ => none
noncomputable def t3 (aE0c0 : Int) (aE0c1 : Int) (aE0c2 : Int) (aE0c3 : Int) (aE0c4 : ByteArray) : Option (Bool × Unit) :=
  Option.bind (t15 aE0c0 aE0c1 aE0c2 aE0c3 aE0c4 (1048576 : Int)) fun y1 =>
  bif decide (y1.1 < (0 : Int)) then
    some (true, ())
  else
    Option.bind (t17 aE0c0 aE0c1 aE0c2 aE0c3 aE0c4) fun y2 =>
    Option.bind (t16 y2.1 y2.2.1 y2.2.2.1 y2.2.2.2.1 y2.2.2.2.2.1) fun y3 =>
    Option.bind (t17 aE0c0 aE0c1 aE0c2 aE0c3 aE0c4) fun y4 =>
    Option.bind (t18 y4.1 y4.2.1 y4.2.2.1 y4.2.2.2.1 y4.2.2.2.2.1) fun y5 =>
    bif !(y5.1 == y3.1) then
      some (false, ())
    else
      some (true, ())
noncomputable def x3 (x : Int × Int × Int × Int × ByteArray × Unit) : Option (Bool × Unit) := t3 x.1 x.2.1 x.2.2.1 x.2.2.2.1 x.2.2.2.2.1
noncomputable def sem3 : Sem1 := semOf ps3 rs3 x3
theorem so3 : SemsOk Try.prog (semsOf sl3) := sems_cons k15 (sems_cons k17 (sems_cons k16 (sems_cons k18 (sems_nil))))
theorem t3_eq (x : denR (headRT (ps3.map some))) : codeK (tabOf tr) (semsOf sl3) D3 L3 code3 (start 20 ps3 x) (finK rs3 ps3) = x3 x := by kernel_rfl
theorem k3 : Known Try.prog 3 sem3 :=
  fn_auto tr_ok eq_ok mixed_ok so3 (D := D3) (code := code3) (n := 20) Try.func3 (by kernel_rfl) (by kernel_rfl) (by kernel_rfl) (fun w0 mu _ hs => (loops_of (l := []) (by kernel_rfl) (List.forall_mem_nil _))) t3_eq

end Go.TM
