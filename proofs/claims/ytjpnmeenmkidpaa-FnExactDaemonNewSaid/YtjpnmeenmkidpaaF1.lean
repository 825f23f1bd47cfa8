/- What the functions answer, as terms; their contracts. -/
import Derived.Test.YtjpnmeenmkidpaaBase
set_option linter.unusedSimpArgs false
set_option linter.unusedVariables false
namespace Go.TM
open Go Go.RowKit Go.Proofs

/-! ### f29: spec.l01In -/
noncomputable def code29 : Code := match Try.f29.body with | some c => c | none => .skip
def ps29 : List AP := [.val false [.int .i64], .val false [.int .i64], .val false [.int .i64]]
def rs29 : List RP := [{ src := .tmp 6, agg := false, ps := [.bool] }]
noncomputable def sl29 : SemL := []
def D29 : Draws := fun _ => .nil
noncomputable def L29 {R : Type} : Loops R := fun _ _ _ _ => none
noncomputable def spec_l01In (x0 : Int) (least1 : Int) (most2 : Int) : Option (Bool × Unit) :=
  bif decide (least1 ≤ x0) then
    some (decide (x0 ≤ most2), ())
  else
    some (false, ())
noncomputable def x29 (x : Int × Int × Int × Unit) : Option (Bool × Unit) := spec_l01In x.1 x.2.1 x.2.2.1
noncomputable def sem29 : Sem1 := semOf ps29 rs29 x29
theorem so29 : SemsOk Try.prog (semsOf sl29) := sems_nil
theorem t29_eq (x : denR (headRT (ps29.map some))) : codeK (tabOf tr) (semsOf sl29) D29 L29 code29 (start 15 ps29 x) (finK rs29 ps29) = x29 x := by kernel_rfl
theorem k29 : Known Try.prog 29 sem29 :=
  fn_auto tr_ok eq_ok mixed_ok so29 (D := D29) (code := code29) (n := 15) Try.func29 (by kernel_rfl) (by kernel_rfl) (by kernel_rfl) (fun w0 mu _ hs => (loops_of (l := []) (by kernel_rfl) (List.forall_mem_nil _))) t29_eq

/-! ### f6: spec.DaemonNew -/
noncomputable def code6 : Code := match Try.f6.body with | some c => c | none => .skip
def ps6 : List AP := [.val false [.int .i64]]
def rs6 : List RP := [{ src := .cell 2, agg := true, ps := [.int .i64, .bool, .int .i64, .int .i64, .own (.cons (.int .i64) .nil), .own (.cons (.int .i64) (.cons (.int .i64) (.cons (.int .i64) (.cons .str .nil)))), .own (.cons (.int .i64) .nil), .own (.cons .str .nil), .int .i64, .int .i64, .int .i64, .int .i64, .int .i64, .int .i64, .int .i64, .int .i64, .int .i64, .own (.cons (.int .i64) .nil), .int .i64, .int .i64, .int .i64, .own (.cons (.int .i64) .nil), .own (.cons (.int .i64) (.cons (.int .i64) (.cons (.int .i64) (.cons (.sl (.cons (.int .i64) (.cons (.int .i64) (.cons (.int .i64) (.cons .str .nil))))) .nil)))), .own (.cons (.int .i64) (.cons (.int .i64) (.cons (.sl (.cons (.int .i64) .nil)) (.cons (.int .i64) (.cons (.int .i64) (.cons (.int .i64) (.cons .str (.cons (.sl (.cons (.int .i64) .nil)) .nil))))))))] }, { src := .tmp 3, agg := false, ps := [.bool] }]
noncomputable def sl6 : SemL := [(29, (.shr, .shr, .shr, sem29))]
def D6 : Draws := fun _ => .nil
noncomputable def L6 {R : Type} : Loops R := fun _ _ _ _ => none
noncomputable def spec_DaemonNew (id0 : Int) : Option (Int × Bool × Int × Int × (List (Int × Unit)) × (List (Int × Int × Int × ByteArray × Unit)) × (List (Int × Unit)) × (List (ByteArray × Unit)) × Int × Int × Int × Int × Int × Int × Int × Int × Int × (List (Int × Unit)) × Int × Int × Int × (List (Int × Unit)) × (List (Int × Int × Int × (List (Int × Int × Int × ByteArray × Unit)) × Unit)) × (List (Int × Int × (List (Int × Unit)) × Int × Int × Int × ByteArray × (List (Int × Unit)) × Unit)) × Bool × Unit) :=
  Option.bind (spec_l01In id0 (1 : Int) (5 : Int)) fun y1 =>
  bif !y1.1 then
    some ((0 : Int), false, (0 : Int), (0 : Int), [], [], [], [], (0 : Int), (0 : Int), (0 : Int), (0 : Int), (0 : Int), (0 : Int), (0 : Int), (0 : Int), (0 : Int), [], (0 : Int), (0 : Int), (0 : Int), [], [], [], false, ())
  else
    some (id0, false, (0 : Int), (0 : Int), [], [], [], [], (0 : Int), (0 : Int), (0 : Int), (0 : Int), (0 : Int), (0 : Int), (0 : Int), (0 : Int), (0 : Int), [], (0 : Int), (0 : Int), (0 : Int), [], [], [], true, ())
noncomputable def x6 (x : Int × Unit) : Option (Int × Bool × Int × Int × (List (Int × Unit)) × (List (Int × Int × Int × ByteArray × Unit)) × (List (Int × Unit)) × (List (ByteArray × Unit)) × Int × Int × Int × Int × Int × Int × Int × Int × Int × (List (Int × Unit)) × Int × Int × Int × (List (Int × Unit)) × (List (Int × Int × Int × (List (Int × Int × Int × ByteArray × Unit)) × Unit)) × (List (Int × Int × (List (Int × Unit)) × Int × Int × Int × ByteArray × (List (Int × Unit)) × Unit)) × Bool × Unit) := spec_DaemonNew x.1
noncomputable def sem6 : Sem1 := semOf ps6 rs6 x6
theorem so6 : SemsOk Try.prog (semsOf sl6) := sems_cons k29 (sems_nil)
theorem t6_eq (x : denR (headRT (ps6.map some))) : codeK (tabOf tr) (semsOf sl6) D6 L6 code6 (start 10 ps6 x) (finK rs6 ps6) = x6 x := by kernel_rfl
theorem k6 : Known Try.prog 6 sem6 :=
  fn_auto tr_ok eq_ok mixed_ok so6 (D := D6) (code := code6) (n := 10) Try.func6 (by kernel_rfl) (by kernel_rfl) (by kernel_rfl) (fun w0 mu _ hs => (loops_of (l := []) (by kernel_rfl) (List.forall_mem_nil _))) t6_eq

/-! ### f49: impl.inRange -/
noncomputable def code49 : Code := match Try.f49.body with | some c => c | none => .skip
def ps49 : List AP := [.val false [.int .i64], .val false [.int .i64], .val false [.int .i64]]
def rs49 : List RP := [{ src := .tmp 6, agg := false, ps := [.bool] }]
noncomputable def sl49 : SemL := []
def D49 : Draws := fun _ => .nil
noncomputable def L49 {R : Type} : Loops R := fun _ _ _ _ => none
noncomputable def impl_inRange (n0 : Int) (least1 : Int) (most2 : Int) : Option (Bool × Unit) :=
  bif decide (least1 ≤ n0) then
    some (decide (n0 ≤ most2), ())
  else
    some (false, ())
noncomputable def x49 (x : Int × Int × Int × Unit) : Option (Bool × Unit) := impl_inRange x.1 x.2.1 x.2.2.1
noncomputable def sem49 : Sem1 := semOf ps49 rs49 x49
theorem so49 : SemsOk Try.prog (semsOf sl49) := sems_nil
theorem t49_eq (x : denR (headRT (ps49.map some))) : codeK (tabOf tr) (semsOf sl49) D49 L49 code49 (start 15 ps49 x) (finK rs49 ps49) = x49 x := by kernel_rfl
theorem k49 : Known Try.prog 49 sem49 :=
  fn_auto tr_ok eq_ok mixed_ok so49 (D := D49) (code := code49) (n := 15) Try.func49 (by kernel_rfl) (by kernel_rfl) (by kernel_rfl) (fun w0 mu _ hs => (loops_of (l := []) (by kernel_rfl) (List.forall_mem_nil _))) t49_eq

/-! ### f30: impl.isDaemon -/
noncomputable def code30 : Code := match Try.f30.body with | some c => c | none => .skip
def ps30 : List AP := [.val false [.int .i64]]
def rs30 : List RP := [{ src := .tmp 2, agg := false, ps := [.bool] }]
noncomputable def sl30 : SemL := [(49, (.shr, .shr, .shr, sem49))]
def D30 : Draws := fun _ => .nil
noncomputable def L30 {R : Type} : Loops R := fun _ _ _ _ => none
noncomputable def impl_isDaemon (n0 : Int) : Option (Bool × Unit) :=
  Option.bind (impl_inRange n0 (1 : Int) (5 : Int)) fun y1 =>
  some (y1.1, ())
noncomputable def x30 (x : Int × Unit) : Option (Bool × Unit) := impl_isDaemon x.1
noncomputable def sem30 : Sem1 := semOf ps30 rs30 x30
theorem so30 : SemsOk Try.prog (semsOf sl30) := sems_cons k49 (sems_nil)
theorem t30_eq (x : denR (headRT (ps30.map some))) : codeK (tabOf tr) (semsOf sl30) D30 L30 code30 (start 5 ps30 x) (finK rs30 ps30) = x30 x := by kernel_rfl
theorem k30 : Known Try.prog 30 sem30 :=
  fn_auto tr_ok eq_ok mixed_ok so30 (D := D30) (code := code30) (n := 5) Try.func30 (by kernel_rfl) (by kernel_rfl) (by kernel_rfl) (fun w0 mu _ hs => (loops_of (l := []) (by kernel_rfl) (List.forall_mem_nil _))) t30_eq

/-! ### f7: impl.DaemonNew -/
noncomputable def code7 : Code := match Try.f7.body with | some c => c | none => .skip
def ps7 : List AP := [.val false [.int .i64]]
def rs7 : List RP := [{ src := .cell 2, agg := true, ps := [.int .i64, .bool, .int .i64, .int .i64, .own (.cons (.int .i64) .nil), .own (.cons (.int .i64) (.cons (.int .i64) (.cons (.int .i64) (.cons .str .nil)))), .own (.cons (.int .i64) .nil), .own (.cons .str .nil), .int .i64, .int .i64, .int .i64, .int .i64, .int .i64, .int .i64, .int .i64, .int .i64, .int .i64, .own (.cons (.int .i64) .nil), .int .i64, .int .i64, .int .i64, .own (.cons (.int .i64) .nil), .own (.cons (.int .i64) (.cons (.int .i64) (.cons (.int .i64) (.cons (.sl (.cons (.int .i64) (.cons (.int .i64) (.cons (.int .i64) (.cons .str .nil))))) .nil)))), .own (.cons (.int .i64) (.cons (.int .i64) (.cons (.sl (.cons (.int .i64) .nil)) (.cons (.int .i64) (.cons (.int .i64) (.cons (.int .i64) (.cons .str (.cons (.sl (.cons (.int .i64) .nil)) .nil))))))))] }, { src := .tmp 3, agg := false, ps := [.bool] }]
noncomputable def sl7 : SemL := [(30, (.shr, .shr, .shr, sem30))]
def D7 : Draws := fun _ => .nil
noncomputable def L7 {R : Type} : Loops R := fun _ _ _ _ => none
noncomputable def impl_DaemonNew (id0 : Int) : Option (Int × Bool × Int × Int × (List (Int × Unit)) × (List (Int × Int × Int × ByteArray × Unit)) × (List (Int × Unit)) × (List (ByteArray × Unit)) × Int × Int × Int × Int × Int × Int × Int × Int × Int × (List (Int × Unit)) × Int × Int × Int × (List (Int × Unit)) × (List (Int × Int × Int × (List (Int × Int × Int × ByteArray × Unit)) × Unit)) × (List (Int × Int × (List (Int × Unit)) × Int × Int × Int × ByteArray × (List (Int × Unit)) × Unit)) × Bool × Unit) :=
  Option.bind (impl_isDaemon id0) fun y1 =>
  bif !y1.1 then
    some ((0 : Int), false, (0 : Int), (0 : Int), [], [], [], [], (0 : Int), (0 : Int), (0 : Int), (0 : Int), (0 : Int), (0 : Int), (0 : Int), (0 : Int), (0 : Int), [], (0 : Int), (0 : Int), (0 : Int), [], [], [], false, ())
  else
    some (id0, false, (0 : Int), (0 : Int), [], [], [], [], (0 : Int), (0 : Int), (0 : Int), (0 : Int), (0 : Int), (0 : Int), (0 : Int), (0 : Int), (0 : Int), [], (0 : Int), (0 : Int), (0 : Int), [], [], [], true, ())
noncomputable def x7 (x : Int × Unit) : Option (Int × Bool × Int × Int × (List (Int × Unit)) × (List (Int × Int × Int × ByteArray × Unit)) × (List (Int × Unit)) × (List (ByteArray × Unit)) × Int × Int × Int × Int × Int × Int × Int × Int × Int × (List (Int × Unit)) × Int × Int × Int × (List (Int × Unit)) × (List (Int × Int × Int × (List (Int × Int × Int × ByteArray × Unit)) × Unit)) × (List (Int × Int × (List (Int × Unit)) × Int × Int × Int × ByteArray × (List (Int × Unit)) × Unit)) × Bool × Unit) := impl_DaemonNew x.1
noncomputable def sem7 : Sem1 := semOf ps7 rs7 x7
theorem so7 : SemsOk Try.prog (semsOf sl7) := sems_cons k30 (sems_nil)
theorem t7_eq (x : denR (headRT (ps7.map some))) : codeK (tabOf tr) (semsOf sl7) D7 L7 code7 (start 10 ps7 x) (finK rs7 ps7) = x7 x := by kernel_rfl
theorem k7 : Known Try.prog 7 sem7 :=
  fn_auto tr_ok eq_ok mixed_ok so7 (D := D7) (code := code7) (n := 10) Try.func7 (by kernel_rfl) (by kernel_rfl) (by kernel_rfl) (fun w0 mu _ hs => (loops_of (l := []) (by kernel_rfl) (List.forall_mem_nil _))) t7_eq

/-! ### f60: laws.eqIntS -/
noncomputable def code60 : Code := match Try.f60.body with | some c => c | none => .skip
def ps60 : List AP := [.val false [.shr (.cons (.int .i64) .nil)], .val false [.shr (.cons (.int .i64) .nil)]]
def rs60 : List RP := [{ src := .tmp 4, agg := false, ps := [.bool] }]
noncomputable def sl60 : SemL := []
def D60 : Draws := fun id => bif Nat.beq id 6 then .op 0 .any (.op 1 .any (.op 2 .any (.op 3 .take (.op 4 .any (.op 5 .any (.op 6 .any (.op 7 .take (.op 8 .any (.nil))))))))) else .nil
def hp60_0 : List (Option AP) := [some (.val false [.shr (.cons (.int .i64) .nil)]), some (.val false [.shr (.cons (.int .i64) .nil)]), none, none, none, some (.val false [.int .i64]), none, none, none, none, none, none, none, none, none, none, none, none, none, none, none, none, none, none, none, none]
def e60_0 : List (Option AP) := [none, none, none, none, none, none, none, none, none, none, none, none, none, none, none, none, none, none, none, none, none, none, none, none, none, none]
def q60_0 : List (Option AP) := [none, none, none, none, some (.val false [.bool]), none, none, none, none, none, none, none, none, none, none, none, none, none, none, none, none, none, none, none, none, none]
abbrev H60_0 : Type := (List (Int × Unit)) × (List (Int × Unit)) × Int × Unit
abbrev E60_0 : Type := Unit
abbrev Q60_0 : Type := Bool × Unit
noncomputable def laws_eqIntS_c0 (a0 : List (Int × Unit)) (b1 : List (Int × Unit)) (i5 : Int) : Option (Sum H60_0 (Sum E60_0 Q60_0)) :=
  bif decide (i5 < ((List.length a0 : Nat) : Int)) then
    bif decide ((0 : Int) ≤ i5) then Option.bind ((a0)[Int.toNat i5]?) fun r1 =>
      bif decide ((0 : Int) ≤ i5) then Option.bind ((b1)[Int.toNat i5]?) fun r2 =>
        bif !decide (r1.1 = r2.1) then
          some (.inr (.inr (false, ())))
        else
          some (.inl (a0, b1, IntKind.i64.wrap (i5 + (1 : Int)), ()))
      else none
    else none
  else
    some (.inr (.inl (())))
noncomputable def laws_eqIntS_r0 (x : H60_0) : Option (Sum H60_0 (Sum E60_0 Q60_0)) := laws_eqIntS_c0 x.1 x.2.1 x.2.2.1
noncomputable def L60 {R : Type} : Loops R := fun id _ st k => bif Nat.beq id 0 then loopAt hp60_0 e60_0 q60_0 laws_eqIntS_r0 st k else none
noncomputable def laws_eqIntS (a0 : List (Int × Unit)) (b1 : List (Int × Unit)) : Option (Bool × Unit) :=
  bif !decide (((List.length a0 : Nat) : Int) = ((List.length b1 : Nat) : Int)) then
    some (false, ())
  else
    outK (loopV laws_eqIntS_r0 (a0, b1, (0 : Int), ())) (fun y1 =>
      some (true, ())) (fun y2 =>
      some (y2.1, ()))
noncomputable def x60 (x : (List (Int × Unit)) × (List (Int × Unit)) × Unit) : Option (Bool × Unit) := laws_eqIntS x.1 x.2.1
noncomputable def sem60 : Sem1 := semOf ps60 rs60 x60
theorem so60 : SemsOk Try.prog (semsOf sl60) := sems_nil
noncomputable def b60_0 : Code := nthLoop code60 0
theorem t60_r0_eq (x : denR (headRT hp60_0)) : codeK (tabOf tr) (semsOf sl60) D60 L60 b60_0 (headSt hp60_0 x) (roundK 0 hp60_0 e60_0 q60_0) = laws_eqIntS_r0 x := by kernel_rfl
theorem loop60_0 {R : Type} (r : R) (w0 : World) (mu : Mu) (hs : AnShape ps60 mu) : LoopAt Try.prog w0 mu 26 (L60 : Loops R) r 0 b60_0 :=
  loop_auto tr_ok eq_ok mixed_ok so60 (D := D60) hs (by kernel_rfl) (fun _ => (loops_of (l := []) (by kernel_rfl) (List.forall_mem_nil _))) t60_r0_eq (fun _ _ => rfl)
theorem t60_eq (x : denR (headRT (ps60.map some))) : codeK (tabOf tr) (semsOf sl60) D60 L60 code60 (start 26 ps60 x) (finK rs60 ps60) = x60 x := by kernel_rfl
theorem k60 : Known Try.prog 60 sem60 :=
  fn_auto tr_ok eq_ok mixed_ok so60 (D := D60) (code := code60) (n := 26) Try.func60 (by kernel_rfl) (by kernel_rfl) (by kernel_rfl) (fun w0 mu _ hs => (loops_of (l := [(0, b60_0)]) (by kernel_rfl) (List.forall_mem_cons.2 ⟨loop60_0 _ w0 mu hs, (List.forall_mem_nil _)⟩))) t60_eq

/-! ### f32: laws.eqRing -/
noncomputable def code32 : Code := match Try.f32.body with | some c => c | none => .skip
def ps32 : List AP := [.val true [.int .i64, .shr (.cons (.int .i64) .nil)], .val true [.int .i64, .shr (.cons (.int .i64) .nil)]]
def rs32 : List RP := [{ src := .tmp 4, agg := false, ps := [.bool] }]
noncomputable def sl32 : SemL := [(60, (.shr, .shr, .shr, sem60))]
def D32 : Draws := fun _ => .nil
noncomputable def L32 {R : Type} : Loops R := fun _ _ _ _ => none
noncomputable def laws_eqRing (a0c0 : Int) (a0c1 : List (Int × Unit)) (b1c0 : Int) (b1c1 : List (Int × Unit)) : Option (Bool × Unit) :=
  bif !decide (a0c0 = b1c0) then
    some (false, ())
  else
    Option.bind (laws_eqIntS a0c1 b1c1) fun y1 =>
    bif !y1.1 then
      some (false, ())
    else
      some (true, ())
noncomputable def x32 (x : Int × (List (Int × Unit)) × Int × (List (Int × Unit)) × Unit) : Option (Bool × Unit) := laws_eqRing x.1 x.2.1 x.2.2.1 x.2.2.2.1
noncomputable def sem32 : Sem1 := semOf ps32 rs32 x32
theorem so32 : SemsOk Try.prog (semsOf sl32) := sems_cons k60 (sems_nil)
theorem t32_eq (x : denR (headRT (ps32.map some))) : codeK (tabOf tr) (semsOf sl32) D32 L32 code32 (start 16 ps32 x) (finK rs32 ps32) = x32 x := by kernel_rfl
theorem k32 : Known Try.prog 32 sem32 :=
  fn_auto tr_ok eq_ok mixed_ok so32 (D := D32) (code := code32) (n := 16) Try.func32 (by kernel_rfl) (by kernel_rfl) (by kernel_rfl) (fun w0 mu _ hs => (loops_of (l := []) (by kernel_rfl) (List.forall_mem_nil _))) t32_eq

/-! ### f61: laws.eqItem -/
noncomputable def code61 : Code := match Try.f61.body with | some c => c | none => .skip
def ps61 : List AP := [.val true [.int .i64, .int .i64, .int .i64, .str], .val true [.int .i64, .int .i64, .int .i64, .str]]
def rs61 : List RP := [{ src := .tmp 4, agg := false, ps := [.bool] }]
noncomputable def sl61 : SemL := []
def D61 : Draws := fun _ => .nil
noncomputable def L61 {R : Type} : Loops R := fun _ _ _ _ => none
noncomputable def laws_eqItem (a0c0 : Int) (a0c1 : Int) (a0c2 : Int) (a0c3 : ByteArray) (b1c0 : Int) (b1c1 : Int) (b1c2 : Int) (b1c3 : ByteArray) : Option (Bool × Unit) :=
  bif !decide (a0c0 = b1c0) then
    some (false, ())
  else bif !decide (a0c1 = b1c1) then
    some (false, ())
  else bif !decide (a0c2 = b1c2) then
    some (false, ())
  else bif !strEq a0c3 b1c3 then
    some (false, ())
  else
    some (true, ())
noncomputable def x61 (x : Int × Int × Int × ByteArray × Int × Int × Int × ByteArray × Unit) : Option (Bool × Unit) := laws_eqItem x.1 x.2.1 x.2.2.1 x.2.2.2.1 x.2.2.2.2.1 x.2.2.2.2.2.1 x.2.2.2.2.2.2.1 x.2.2.2.2.2.2.2.1
noncomputable def sem61 : Sem1 := semOf ps61 rs61 x61
theorem so61 : SemsOk Try.prog (semsOf sl61) := sems_nil
theorem t61_eq (x : denR (headRT (ps61.map some))) : codeK (tabOf tr) (semsOf sl61) D61 L61 code61 (start 25 ps61 x) (finK rs61 ps61) = x61 x := by kernel_rfl
theorem k61 : Known Try.prog 61 sem61 :=
  fn_auto tr_ok eq_ok mixed_ok so61 (D := D61) (code := code61) (n := 25) Try.func61 (by kernel_rfl) (by kernel_rfl) (by kernel_rfl) (fun w0 mu _ hs => (loops_of (l := []) (by kernel_rfl) (List.forall_mem_nil _))) t61_eq

/-! ### f25: laws.eqItemS -/
noncomputable def code25 : Code := match Try.f25.body with | some c => c | none => .skip
def ps25 : List AP := [.val false [.shr (.cons (.int .i64) (.cons (.int .i64) (.cons (.int .i64) (.cons .str .nil))))], .val false [.shr (.cons (.int .i64) (.cons (.int .i64) (.cons (.int .i64) (.cons .str .nil))))]]
def rs25 : List RP := [{ src := .tmp 4, agg := false, ps := [.bool] }]
noncomputable def sl25 : SemL := [(61, (.shr, .shr, .shr, sem61))]
def D25 : Draws := fun id => bif Nat.beq id 6 then .op 0 .any (.op 1 .any (.op 2 .any (.op 3 .take (.op 4 .any (.op 5 .any (.op 6 .any (.op 7 .take (.op 8 .one (.op 9 .any (.nil)))))))))) else .nil
def hp25_0 : List (Option AP) := [some (.val false [.shr (.cons (.int .i64) (.cons (.int .i64) (.cons (.int .i64) (.cons .str .nil))))]), some (.val false [.shr (.cons (.int .i64) (.cons (.int .i64) (.cons (.int .i64) (.cons .str .nil))))]), none, none, none, some (.val false [.int .i64]), none, none, none, none, none, none, none, none, none, none, none, none, none, none, none, none, none, none, none, none, none]
def e25_0 : List (Option AP) := [none, none, none, none, none, none, none, none, none, none, none, none, none, none, none, none, none, none, none, none, none, none, none, none, none, none, none]
def q25_0 : List (Option AP) := [none, none, none, none, some (.val false [.bool]), none, none, none, none, none, none, none, none, none, none, none, none, none, none, none, none, none, none, none, none, none, none]
abbrev H25_0 : Type := (List (Int × Int × Int × ByteArray × Unit)) × (List (Int × Int × Int × ByteArray × Unit)) × Int × Unit
abbrev E25_0 : Type := Unit
abbrev Q25_0 : Type := Bool × Unit
noncomputable def laws_eqItemS_c0 (a0 : List (Int × Int × Int × ByteArray × Unit)) (b1 : List (Int × Int × Int × ByteArray × Unit)) (i5 : Int) : Option (Sum H25_0 (Sum E25_0 Q25_0)) :=
  bif decide (i5 < ((List.length a0 : Nat) : Int)) then
    bif decide ((0 : Int) ≤ i5) then Option.bind ((a0)[Int.toNat i5]?) fun r1 =>
      bif decide ((0 : Int) ≤ i5) then Option.bind ((b1)[Int.toNat i5]?) fun r2 =>
        Option.bind (laws_eqItem r1.1 r1.2.1 r1.2.2.1 r1.2.2.2.1 r2.1 r2.2.1 r2.2.2.1 r2.2.2.2.1) fun y3 =>
        bif !y3.1 then
          some (.inr (.inr (false, ())))
        else
          some (.inl (a0, b1, IntKind.i64.wrap (i5 + (1 : Int)), ()))
      else none
    else none
  else
    some (.inr (.inl (())))
noncomputable def laws_eqItemS_r0 (x : H25_0) : Option (Sum H25_0 (Sum E25_0 Q25_0)) := laws_eqItemS_c0 x.1 x.2.1 x.2.2.1
noncomputable def L25 {R : Type} : Loops R := fun id _ st k => bif Nat.beq id 0 then loopAt hp25_0 e25_0 q25_0 laws_eqItemS_r0 st k else none
noncomputable def laws_eqItemS (a0 : List (Int × Int × Int × ByteArray × Unit)) (b1 : List (Int × Int × Int × ByteArray × Unit)) : Option (Bool × Unit) :=
  bif !decide (((List.length a0 : Nat) : Int) = ((List.length b1 : Nat) : Int)) then
    some (false, ())
  else
    outK (loopV laws_eqItemS_r0 (a0, b1, (0 : Int), ())) (fun y1 =>
      some (true, ())) (fun y2 =>
      some (y2.1, ()))
noncomputable def x25 (x : (List (Int × Int × Int × ByteArray × Unit)) × (List (Int × Int × Int × ByteArray × Unit)) × Unit) : Option (Bool × Unit) := laws_eqItemS x.1 x.2.1
noncomputable def sem25 : Sem1 := semOf ps25 rs25 x25
theorem so25 : SemsOk Try.prog (semsOf sl25) := sems_cons k61 (sems_nil)
noncomputable def b25_0 : Code := nthLoop code25 0
theorem t25_r0_eq (x : denR (headRT hp25_0)) : codeK (tabOf tr) (semsOf sl25) D25 L25 b25_0 (headSt hp25_0 x) (roundK 0 hp25_0 e25_0 q25_0) = laws_eqItemS_r0 x := by kernel_rfl
theorem loop25_0 {R : Type} (r : R) (w0 : World) (mu : Mu) (hs : AnShape ps25 mu) : LoopAt Try.prog w0 mu 27 (L25 : Loops R) r 0 b25_0 :=
  loop_auto tr_ok eq_ok mixed_ok so25 (D := D25) hs (by kernel_rfl) (fun _ => (loops_of (l := []) (by kernel_rfl) (List.forall_mem_nil _))) t25_r0_eq (fun _ _ => rfl)
theorem t25_eq (x : denR (headRT (ps25.map some))) : codeK (tabOf tr) (semsOf sl25) D25 L25 code25 (start 27 ps25 x) (finK rs25 ps25) = x25 x := by kernel_rfl
theorem k25 : Known Try.prog 25 sem25 :=
  fn_auto tr_ok eq_ok mixed_ok so25 (D := D25) (code := code25) (n := 27) Try.func25 (by kernel_rfl) (by kernel_rfl) (by kernel_rfl) (fun w0 mu _ hs => (loops_of (l := [(0, b25_0)]) (by kernel_rfl) (List.forall_mem_cons.2 ⟨loop25_0 _ w0 mu hs, (List.forall_mem_nil _)⟩))) t25_eq

/-! ### f65: laws.eqStringS -/
noncomputable def code65 : Code := match Try.f65.body with | some c => c | none => .skip
def ps65 : List AP := [.val false [.shr (.cons .str .nil)], .val false [.shr (.cons .str .nil)]]
def rs65 : List RP := [{ src := .tmp 4, agg := false, ps := [.bool] }]
noncomputable def sl65 : SemL := []
def D65 : Draws := fun id => bif Nat.beq id 6 then .op 0 .any (.op 1 .any (.op 2 .any (.op 3 .take (.op 4 .any (.op 5 .any (.op 6 .any (.op 7 .take (.op 8 .any (.nil))))))))) else .nil
def hp65_0 : List (Option AP) := [some (.val false [.shr (.cons .str .nil)]), some (.val false [.shr (.cons .str .nil)]), none, none, none, some (.val false [.int .i64]), none, none, none, none, none, none, none, none, none, none, none, none, none, none, none, none, none, none, none, none]
def e65_0 : List (Option AP) := [none, none, none, none, none, none, none, none, none, none, none, none, none, none, none, none, none, none, none, none, none, none, none, none, none, none]
def q65_0 : List (Option AP) := [none, none, none, none, some (.val false [.bool]), none, none, none, none, none, none, none, none, none, none, none, none, none, none, none, none, none, none, none, none, none]
abbrev H65_0 : Type := (List (ByteArray × Unit)) × (List (ByteArray × Unit)) × Int × Unit
abbrev E65_0 : Type := Unit
abbrev Q65_0 : Type := Bool × Unit
noncomputable def laws_eqStringS_c0 (a0 : List (ByteArray × Unit)) (b1 : List (ByteArray × Unit)) (i5 : Int) : Option (Sum H65_0 (Sum E65_0 Q65_0)) :=
  bif decide (i5 < ((List.length a0 : Nat) : Int)) then
    bif decide ((0 : Int) ≤ i5) then Option.bind ((a0)[Int.toNat i5]?) fun r1 =>
      bif decide ((0 : Int) ≤ i5) then Option.bind ((b1)[Int.toNat i5]?) fun r2 =>
        bif !strEq r1.1 r2.1 then
          some (.inr (.inr (false, ())))
        else
          some (.inl (a0, b1, IntKind.i64.wrap (i5 + (1 : Int)), ()))
      else none
    else none
  else
    some (.inr (.inl (())))
noncomputable def laws_eqStringS_r0 (x : H65_0) : Option (Sum H65_0 (Sum E65_0 Q65_0)) := laws_eqStringS_c0 x.1 x.2.1 x.2.2.1
noncomputable def L65 {R : Type} : Loops R := fun id _ st k => bif Nat.beq id 0 then loopAt hp65_0 e65_0 q65_0 laws_eqStringS_r0 st k else none
noncomputable def laws_eqStringS (a0 : List (ByteArray × Unit)) (b1 : List (ByteArray × Unit)) : Option (Bool × Unit) :=
  bif !decide (((List.length a0 : Nat) : Int) = ((List.length b1 : Nat) : Int)) then
    some (false, ())
  else
    outK (loopV laws_eqStringS_r0 (a0, b1, (0 : Int), ())) (fun y1 =>
      some (true, ())) (fun y2 =>
      some (y2.1, ()))
noncomputable def x65 (x : (List (ByteArray × Unit)) × (List (ByteArray × Unit)) × Unit) : Option (Bool × Unit) := laws_eqStringS x.1 x.2.1
noncomputable def sem65 : Sem1 := semOf ps65 rs65 x65
theorem so65 : SemsOk Try.prog (semsOf sl65) := sems_nil
noncomputable def b65_0 : Code := nthLoop code65 0
theorem t65_r0_eq (x : denR (headRT hp65_0)) : codeK (tabOf tr) (semsOf sl65) D65 L65 b65_0 (headSt hp65_0 x) (roundK 0 hp65_0 e65_0 q65_0) = laws_eqStringS_r0 x := by kernel_rfl
theorem loop65_0 {R : Type} (r : R) (w0 : World) (mu : Mu) (hs : AnShape ps65 mu) : LoopAt Try.prog w0 mu 26 (L65 : Loops R) r 0 b65_0 :=
  loop_auto tr_ok eq_ok mixed_ok so65 (D := D65) hs (by kernel_rfl) (fun _ => (loops_of (l := []) (by kernel_rfl) (List.forall_mem_nil _))) t65_r0_eq (fun _ _ => rfl)
theorem t65_eq (x : denR (headRT (ps65.map some))) : codeK (tabOf tr) (semsOf sl65) D65 L65 code65 (start 26 ps65 x) (finK rs65 ps65) = x65 x := by kernel_rfl
theorem k65 : Known Try.prog 65 sem65 :=
  fn_auto tr_ok eq_ok mixed_ok so65 (D := D65) (code := code65) (n := 26) Try.func65 (by kernel_rfl) (by kernel_rfl) (by kernel_rfl) (fun w0 mu _ hs => (loops_of (l := [(0, b65_0)]) (by kernel_rfl) (List.forall_mem_cons.2 ⟨loop65_0 _ w0 mu hs, (List.forall_mem_nil _)⟩))) t65_eq

/-! ### f24: laws.eqToken -/
noncomputable def code24 : Code := match Try.f24.body with | some c => c | none => .skip
def ps24 : List AP := [.val true [.int .i64, .int .i64, .int .i64, .int .i64, .int .i64, .shr (.cons (.int .i64) .nil)], .val true [.int .i64, .int .i64, .int .i64, .int .i64, .int .i64, .shr (.cons (.int .i64) .nil)]]
def rs24 : List RP := [{ src := .tmp 4, agg := false, ps := [.bool] }]
noncomputable def sl24 : SemL := [(60, (.shr, .shr, .shr, sem60))]
def D24 : Draws := fun _ => .nil
noncomputable def L24 {R : Type} : Loops R := fun _ _ _ _ => none
noncomputable def laws_eqToken (a0c0 : Int) (a0c1 : Int) (a0c2 : Int) (a0c3 : Int) (a0c4 : Int) (a0c5 : List (Int × Unit)) (b1c0 : Int) (b1c1 : Int) (b1c2 : Int) (b1c3 : Int) (b1c4 : Int) (b1c5 : List (Int × Unit)) : Option (Bool × Unit) :=
  bif !decide (a0c0 = b1c0) then
    some (false, ())
  else bif !decide (a0c1 = b1c1) then
    some (false, ())
  else bif !decide (a0c2 = b1c2) then
    some (false, ())
  else bif !decide (a0c3 = b1c3) then
    some (false, ())
  else bif !decide (a0c4 = b1c4) then
    some (false, ())
  else
    Option.bind (laws_eqIntS a0c5 b1c5) fun y1 =>
    bif !y1.1 then
      some (false, ())
    else
      some (true, ())
noncomputable def x24 (x : Int × Int × Int × Int × Int × (List (Int × Unit)) × Int × Int × Int × Int × Int × (List (Int × Unit)) × Unit) : Option (Bool × Unit) := laws_eqToken x.1 x.2.1 x.2.2.1 x.2.2.2.1 x.2.2.2.2.1 x.2.2.2.2.2.1 x.2.2.2.2.2.2.1 x.2.2.2.2.2.2.2.1 x.2.2.2.2.2.2.2.2.1 x.2.2.2.2.2.2.2.2.2.1 x.2.2.2.2.2.2.2.2.2.2.1 x.2.2.2.2.2.2.2.2.2.2.2.1
noncomputable def sem24 : Sem1 := semOf ps24 rs24 x24
theorem so24 : SemsOk Try.prog (semsOf sl24) := sems_cons k60 (sems_nil)
theorem t24_eq (x : denR (headRT (ps24.map some))) : codeK (tabOf tr) (semsOf sl24) D24 L24 code24 (start 36 ps24 x) (finK rs24 ps24) = x24 x := by kernel_rfl
theorem k24 : Known Try.prog 24 sem24 :=
  fn_auto tr_ok eq_ok mixed_ok so24 (D := D24) (code := code24) (n := 36) Try.func24 (by kernel_rfl) (by kernel_rfl) (by kernel_rfl) (fun w0 mu _ hs => (loops_of (l := []) (by kernel_rfl) (List.forall_mem_nil _))) t24_eq

/-! ### f31: laws.eqMate -/
noncomputable def code31 : Code := match Try.f31.body with | some c => c | none => .skip
def ps31 : List AP := [.val true [.int .i64, .int .i64, .shr (.cons (.int .i64) .nil), .shr (.cons (.int .i64) (.cons (.int .i64) (.cons (.int .i64) (.cons .str .nil)))), .shr (.cons (.int .i64) .nil), .shr (.cons .str .nil), .int .i64, .int .i64, .int .i64, .int .i64, .int .i64, .int .i64, .int .i64, .int .i64, .int .i64, .shr (.cons (.int .i64) .nil)], .val true [.int .i64, .int .i64, .shr (.cons (.int .i64) .nil), .shr (.cons (.int .i64) (.cons (.int .i64) (.cons (.int .i64) (.cons .str .nil)))), .shr (.cons (.int .i64) .nil), .shr (.cons .str .nil), .int .i64, .int .i64, .int .i64, .int .i64, .int .i64, .int .i64, .int .i64, .int .i64, .int .i64, .shr (.cons (.int .i64) .nil)]]
def rs31 : List RP := [{ src := .tmp 4, agg := false, ps := [.bool] }]
noncomputable def sl31 : SemL := [(32, (.shr, .shr, .shr, sem32)), (25, (.shr, .shr, .shr, sem25)), (60, (.shr, .shr, .shr, sem60)), (65, (.shr, .shr, .shr, sem65)), (24, (.shr, .shr, .shr, sem24))]
def D31 : Draws := fun _ => .nil
noncomputable def L31 {R : Type} : Loops R := fun _ _ _ _ => none
noncomputable def laws_eqMate (a0c0 : Int) (a0c1 : Int) (a0c2 : List (Int × Unit)) (a0c3 : List (Int × Int × Int × ByteArray × Unit)) (a0c4 : List (Int × Unit)) (a0c5 : List (ByteArray × Unit)) (a0c6 : Int) (a0c7 : Int) (a0c8 : Int) (a0c9 : Int) (a0c10 : Int) (a0c11 : Int) (a0c12 : Int) (a0c13 : Int) (a0c14 : Int) (a0c15 : List (Int × Unit)) (b1c0 : Int) (b1c1 : Int) (b1c2 : List (Int × Unit)) (b1c3 : List (Int × Int × Int × ByteArray × Unit)) (b1c4 : List (Int × Unit)) (b1c5 : List (ByteArray × Unit)) (b1c6 : Int) (b1c7 : Int) (b1c8 : Int) (b1c9 : Int) (b1c10 : Int) (b1c11 : Int) (b1c12 : Int) (b1c13 : Int) (b1c14 : Int) (b1c15 : List (Int × Unit)) : Option (Bool × Unit) :=
  bif !decide (a0c0 = b1c0) then
    some (false, ())
  else
    Option.bind (laws_eqRing a0c1 a0c2 b1c1 b1c2) fun y1 =>
    bif !y1.1 then
      some (false, ())
    else
      Option.bind (laws_eqItemS a0c3 b1c3) fun y2 =>
      bif !y2.1 then
        some (false, ())
      else
        Option.bind (laws_eqIntS a0c4 b1c4) fun y3 =>
        bif !y3.1 then
          some (false, ())
        else
          Option.bind (laws_eqStringS a0c5 b1c5) fun y4 =>
          bif !y4.1 then
            some (false, ())
          else bif !decide (a0c6 = b1c6) then
            some (false, ())
          else bif !decide (a0c7 = b1c7) then
            some (false, ())
          else bif !decide (a0c8 = b1c8) then
            some (false, ())
          else bif !decide (a0c9 = b1c9) then
            some (false, ())
          else
            Option.bind (laws_eqToken a0c10 a0c11 a0c12 a0c13 a0c14 a0c15 b1c10 b1c11 b1c12 b1c13 b1c14 b1c15) fun y5 =>
            bif !y5.1 then
              some (false, ())
            else
              some (true, ())
noncomputable def x31 (x : Int × Int × (List (Int × Unit)) × (List (Int × Int × Int × ByteArray × Unit)) × (List (Int × Unit)) × (List (ByteArray × Unit)) × Int × Int × Int × Int × Int × Int × Int × Int × Int × (List (Int × Unit)) × Int × Int × (List (Int × Unit)) × (List (Int × Int × Int × ByteArray × Unit)) × (List (Int × Unit)) × (List (ByteArray × Unit)) × Int × Int × Int × Int × Int × Int × Int × Int × Int × (List (Int × Unit)) × Unit) : Option (Bool × Unit) := laws_eqMate x.1 x.2.1 x.2.2.1 x.2.2.2.1 x.2.2.2.2.1 x.2.2.2.2.2.1 x.2.2.2.2.2.2.1 x.2.2.2.2.2.2.2.1 x.2.2.2.2.2.2.2.2.1 x.2.2.2.2.2.2.2.2.2.1 x.2.2.2.2.2.2.2.2.2.2.1 x.2.2.2.2.2.2.2.2.2.2.2.1 x.2.2.2.2.2.2.2.2.2.2.2.2.1 x.2.2.2.2.2.2.2.2.2.2.2.2.2.1 x.2.2.2.2.2.2.2.2.2.2.2.2.2.2.1 x.2.2.2.2.2.2.2.2.2.2.2.2.2.2.2.1 x.2.2.2.2.2.2.2.2.2.2.2.2.2.2.2.2.1 x.2.2.2.2.2.2.2.2.2.2.2.2.2.2.2.2.2.1 x.2.2.2.2.2.2.2.2.2.2.2.2.2.2.2.2.2.2.1 x.2.2.2.2.2.2.2.2.2.2.2.2.2.2.2.2.2.2.2.1 x.2.2.2.2.2.2.2.2.2.2.2.2.2.2.2.2.2.2.2.2.1 x.2.2.2.2.2.2.2.2.2.2.2.2.2.2.2.2.2.2.2.2.2.1 x.2.2.2.2.2.2.2.2.2.2.2.2.2.2.2.2.2.2.2.2.2.2.1 x.2.2.2.2.2.2.2.2.2.2.2.2.2.2.2.2.2.2.2.2.2.2.2.1 x.2.2.2.2.2.2.2.2.2.2.2.2.2.2.2.2.2.2.2.2.2.2.2.2.1 x.2.2.2.2.2.2.2.2.2.2.2.2.2.2.2.2.2.2.2.2.2.2.2.2.2.1 x.2.2.2.2.2.2.2.2.2.2.2.2.2.2.2.2.2.2.2.2.2.2.2.2.2.2.1 x.2.2.2.2.2.2.2.2.2.2.2.2.2.2.2.2.2.2.2.2.2.2.2.2.2.2.2.1 x.2.2.2.2.2.2.2.2.2.2.2.2.2.2.2.2.2.2.2.2.2.2.2.2.2.2.2.2.1 x.2.2.2.2.2.2.2.2.2.2.2.2.2.2.2.2.2.2.2.2.2.2.2.2.2.2.2.2.2.1 x.2.2.2.2.2.2.2.2.2.2.2.2.2.2.2.2.2.2.2.2.2.2.2.2.2.2.2.2.2.2.1 x.2.2.2.2.2.2.2.2.2.2.2.2.2.2.2.2.2.2.2.2.2.2.2.2.2.2.2.2.2.2.2.1
noncomputable def sem31 : Sem1 := semOf ps31 rs31 x31
theorem so31 : SemsOk Try.prog (semsOf sl31) := sems_cons k32 (sems_cons k25 (sems_cons k60 (sems_cons k65 (sems_cons k24 (sems_nil)))))
theorem t31_eq (x : denR (headRT (ps31.map some))) : codeK (tabOf tr) (semsOf sl31) D31 L31 code31 (start 60 ps31 x) (finK rs31 ps31) = x31 x := by kernel_rfl
theorem k31 : Known Try.prog 31 sem31 :=
  fn_auto tr_ok eq_ok mixed_ok so31 (D := D31) (code := code31) (n := 60) Try.func31 (by kernel_rfl) (by kernel_rfl) (by kernel_rfl) (fun w0 mu _ hs => (loops_of (l := []) (by kernel_rfl) (List.forall_mem_nil _))) t31_eq

/-! ### f66: laws.eqBundle -/
noncomputable def code66 : Code := match Try.f66.body with | some c => c | none => .skip
def ps66 : List AP := [.val true [.int .i64, .int .i64, .int .i64, .shr (.cons (.int .i64) (.cons (.int .i64) (.cons (.int .i64) (.cons .str .nil))))], .val true [.int .i64, .int .i64, .int .i64, .shr (.cons (.int .i64) (.cons (.int .i64) (.cons (.int .i64) (.cons .str .nil))))]]
def rs66 : List RP := [{ src := .tmp 4, agg := false, ps := [.bool] }]
noncomputable def sl66 : SemL := [(25, (.shr, .shr, .shr, sem25))]
def D66 : Draws := fun _ => .nil
noncomputable def L66 {R : Type} : Loops R := fun _ _ _ _ => none
noncomputable def laws_eqBundle (a0c0 : Int) (a0c1 : Int) (a0c2 : Int) (a0c3 : List (Int × Int × Int × ByteArray × Unit)) (b1c0 : Int) (b1c1 : Int) (b1c2 : Int) (b1c3 : List (Int × Int × Int × ByteArray × Unit)) : Option (Bool × Unit) :=
  bif !decide (a0c0 = b1c0) then
    some (false, ())
  else bif !decide (a0c1 = b1c1) then
    some (false, ())
  else bif !decide (a0c2 = b1c2) then
    some (false, ())
  else
    Option.bind (laws_eqItemS a0c3 b1c3) fun y1 =>
    bif !y1.1 then
      some (false, ())
    else
      some (true, ())
noncomputable def x66 (x : Int × Int × Int × (List (Int × Int × Int × ByteArray × Unit)) × Int × Int × Int × (List (Int × Int × Int × ByteArray × Unit)) × Unit) : Option (Bool × Unit) := laws_eqBundle x.1 x.2.1 x.2.2.1 x.2.2.2.1 x.2.2.2.2.1 x.2.2.2.2.2.1 x.2.2.2.2.2.2.1 x.2.2.2.2.2.2.2.1
noncomputable def sem66 : Sem1 := semOf ps66 rs66 x66
theorem so66 : SemsOk Try.prog (semsOf sl66) := sems_cons k25 (sems_nil)
theorem t66_eq (x : denR (headRT (ps66.map some))) : codeK (tabOf tr) (semsOf sl66) D66 L66 code66 (start 26 ps66 x) (finK rs66 ps66) = x66 x := by kernel_rfl
theorem k66 : Known Try.prog 66 sem66 :=
  fn_auto tr_ok eq_ok mixed_ok so66 (D := D66) (code := code66) (n := 26) Try.func66 (by kernel_rfl) (by kernel_rfl) (by kernel_rfl) (fun w0 mu _ hs => (loops_of (l := []) (by kernel_rfl) (List.forall_mem_nil _))) t66_eq

/-! ### f33: laws.eqBundleS -/
noncomputable def code33 : Code := match Try.f33.body with | some c => c | none => .skip
def ps33 : List AP := [.val false [.shr (.cons (.int .i64) (.cons (.int .i64) (.cons (.int .i64) (.cons (.sl (.cons (.int .i64) (.cons (.int .i64) (.cons (.int .i64) (.cons .str .nil))))) .nil))))], .val false [.shr (.cons (.int .i64) (.cons (.int .i64) (.cons (.int .i64) (.cons (.sl (.cons (.int .i64) (.cons (.int .i64) (.cons (.int .i64) (.cons .str .nil))))) .nil))))]]
def rs33 : List RP := [{ src := .tmp 4, agg := false, ps := [.bool] }]
noncomputable def sl33 : SemL := [(66, (.shr, .shr, .shr, sem66))]
def D33 : Draws := fun id => bif Nat.beq id 6 then .op 0 .any (.op 1 .any (.op 2 .any (.op 3 .take (.op 4 .any (.op 5 .any (.op 6 .any (.op 7 .take (.op 8 .one (.op 9 .any (.nil)))))))))) else .nil
def hp33_0 : List (Option AP) := [some (.val false [.shr (.cons (.int .i64) (.cons (.int .i64) (.cons (.int .i64) (.cons (.sl (.cons (.int .i64) (.cons (.int .i64) (.cons (.int .i64) (.cons .str .nil))))) .nil))))]), some (.val false [.shr (.cons (.int .i64) (.cons (.int .i64) (.cons (.int .i64) (.cons (.sl (.cons (.int .i64) (.cons (.int .i64) (.cons (.int .i64) (.cons .str .nil))))) .nil))))]), none, none, none, some (.val false [.int .i64]), none, none, none, none, none, none, none, none, none, none, none, none, none, none, none, none, none, none, none, none, none]
def e33_0 : List (Option AP) := [none, none, none, none, none, none, none, none, none, none, none, none, none, none, none, none, none, none, none, none, none, none, none, none, none, none, none]
def q33_0 : List (Option AP) := [none, none, none, none, some (.val false [.bool]), none, none, none, none, none, none, none, none, none, none, none, none, none, none, none, none, none, none, none, none, none, none]
abbrev H33_0 : Type := (List (Int × Int × Int × (List (Int × Int × Int × ByteArray × Unit)) × Unit)) × (List (Int × Int × Int × (List (Int × Int × Int × ByteArray × Unit)) × Unit)) × Int × Unit
abbrev E33_0 : Type := Unit
abbrev Q33_0 : Type := Bool × Unit
noncomputable def laws_eqBundleS_c0 (a0 : List (Int × Int × Int × (List (Int × Int × Int × ByteArray × Unit)) × Unit)) (b1 : List (Int × Int × Int × (List (Int × Int × Int × ByteArray × Unit)) × Unit)) (i5 : Int) : Option (Sum H33_0 (Sum E33_0 Q33_0)) :=
  bif decide (i5 < ((List.length a0 : Nat) : Int)) then
    bif decide ((0 : Int) ≤ i5) then Option.bind ((a0)[Int.toNat i5]?) fun r1 =>
      bif decide ((0 : Int) ≤ i5) then Option.bind ((b1)[Int.toNat i5]?) fun r2 =>
        Option.bind (laws_eqBundle r1.1 r1.2.1 r1.2.2.1 r1.2.2.2.1 r2.1 r2.2.1 r2.2.2.1 r2.2.2.2.1) fun y3 =>
        bif !y3.1 then
          some (.inr (.inr (false, ())))
        else
          some (.inl (a0, b1, IntKind.i64.wrap (i5 + (1 : Int)), ()))
      else none
    else none
  else
    some (.inr (.inl (())))
noncomputable def laws_eqBundleS_r0 (x : H33_0) : Option (Sum H33_0 (Sum E33_0 Q33_0)) := laws_eqBundleS_c0 x.1 x.2.1 x.2.2.1
noncomputable def L33 {R : Type} : Loops R := fun id _ st k => bif Nat.beq id 0 then loopAt hp33_0 e33_0 q33_0 laws_eqBundleS_r0 st k else none
noncomputable def laws_eqBundleS (a0 : List (Int × Int × Int × (List (Int × Int × Int × ByteArray × Unit)) × Unit)) (b1 : List (Int × Int × Int × (List (Int × Int × Int × ByteArray × Unit)) × Unit)) : Option (Bool × Unit) :=
  bif !decide (((List.length a0 : Nat) : Int) = ((List.length b1 : Nat) : Int)) then
    some (false, ())
  else
    outK (loopV laws_eqBundleS_r0 (a0, b1, (0 : Int), ())) (fun y1 =>
      some (true, ())) (fun y2 =>
      some (y2.1, ()))
noncomputable def x33 (x : (List (Int × Int × Int × (List (Int × Int × Int × ByteArray × Unit)) × Unit)) × (List (Int × Int × Int × (List (Int × Int × Int × ByteArray × Unit)) × Unit)) × Unit) : Option (Bool × Unit) := laws_eqBundleS x.1 x.2.1
noncomputable def sem33 : Sem1 := semOf ps33 rs33 x33
theorem so33 : SemsOk Try.prog (semsOf sl33) := sems_cons k66 (sems_nil)
noncomputable def b33_0 : Code := nthLoop code33 0
theorem t33_r0_eq (x : denR (headRT hp33_0)) : codeK (tabOf tr) (semsOf sl33) D33 L33 b33_0 (headSt hp33_0 x) (roundK 0 hp33_0 e33_0 q33_0) = laws_eqBundleS_r0 x := by kernel_rfl
theorem loop33_0 {R : Type} (r : R) (w0 : World) (mu : Mu) (hs : AnShape ps33 mu) : LoopAt Try.prog w0 mu 27 (L33 : Loops R) r 0 b33_0 :=
  loop_auto tr_ok eq_ok mixed_ok so33 (D := D33) hs (by kernel_rfl) (fun _ => (loops_of (l := []) (by kernel_rfl) (List.forall_mem_nil _))) t33_r0_eq (fun _ _ => rfl)
theorem t33_eq (x : denR (headRT (ps33.map some))) : codeK (tabOf tr) (semsOf sl33) D33 L33 code33 (start 27 ps33 x) (finK rs33 ps33) = x33 x := by kernel_rfl
theorem k33 : Known Try.prog 33 sem33 :=
  fn_auto tr_ok eq_ok mixed_ok so33 (D := D33) (code := code33) (n := 27) Try.func33 (by kernel_rfl) (by kernel_rfl) (by kernel_rfl) (fun w0 mu _ hs => (loops_of (l := [(0, b33_0)]) (by kernel_rfl) (List.forall_mem_cons.2 ⟨loop33_0 _ w0 mu hs, (List.forall_mem_nil _)⟩))) t33_eq

/-! ### f67: laws.eqEvent -/
noncomputable def code67 : Code := match Try.f67.body with | some c => c | none => .skip
def ps67 : List AP := [.val true [.int .i64, .int .i64, .shr (.cons (.int .i64) .nil), .int .i64, .int .i64, .int .i64, .str, .shr (.cons (.int .i64) .nil)], .val true [.int .i64, .int .i64, .shr (.cons (.int .i64) .nil), .int .i64, .int .i64, .int .i64, .str, .shr (.cons (.int .i64) .nil)]]
def rs67 : List RP := [{ src := .tmp 4, agg := false, ps := [.bool] }]
noncomputable def sl67 : SemL := [(32, (.shr, .shr, .shr, sem32)), (61, (.shr, .shr, .shr, sem61)), (60, (.shr, .shr, .shr, sem60))]
def D67 : Draws := fun _ => .nil
noncomputable def L67 {R : Type} : Loops R := fun _ _ _ _ => none
noncomputable def laws_eqEvent (a0c0 : Int) (a0c1 : Int) (a0c2 : List (Int × Unit)) (a0c3 : Int) (a0c4 : Int) (a0c5 : Int) (a0c6 : ByteArray) (a0c7 : List (Int × Unit)) (b1c0 : Int) (b1c1 : Int) (b1c2 : List (Int × Unit)) (b1c3 : Int) (b1c4 : Int) (b1c5 : Int) (b1c6 : ByteArray) (b1c7 : List (Int × Unit)) : Option (Bool × Unit) :=
  bif !decide (a0c0 = b1c0) then
    some (false, ())
  else
    Option.bind (laws_eqRing a0c1 a0c2 b1c1 b1c2) fun y1 =>
    bif !y1.1 then
      some (false, ())
    else
      Option.bind (laws_eqItem a0c3 a0c4 a0c5 a0c6 b1c3 b1c4 b1c5 b1c6) fun y2 =>
      bif !y2.1 then
        some (false, ())
      else
        Option.bind (laws_eqIntS a0c7 b1c7) fun y3 =>
        bif !y3.1 then
          some (false, ())
        else
          some (true, ())
noncomputable def x67 (x : Int × Int × (List (Int × Unit)) × Int × Int × Int × ByteArray × (List (Int × Unit)) × Int × Int × (List (Int × Unit)) × Int × Int × Int × ByteArray × (List (Int × Unit)) × Unit) : Option (Bool × Unit) := laws_eqEvent x.1 x.2.1 x.2.2.1 x.2.2.2.1 x.2.2.2.2.1 x.2.2.2.2.2.1 x.2.2.2.2.2.2.1 x.2.2.2.2.2.2.2.1 x.2.2.2.2.2.2.2.2.1 x.2.2.2.2.2.2.2.2.2.1 x.2.2.2.2.2.2.2.2.2.2.1 x.2.2.2.2.2.2.2.2.2.2.2.1 x.2.2.2.2.2.2.2.2.2.2.2.2.1 x.2.2.2.2.2.2.2.2.2.2.2.2.2.1 x.2.2.2.2.2.2.2.2.2.2.2.2.2.2.1 x.2.2.2.2.2.2.2.2.2.2.2.2.2.2.2.1
noncomputable def sem67 : Sem1 := semOf ps67 rs67 x67
theorem so67 : SemsOk Try.prog (semsOf sl67) := sems_cons k32 (sems_cons k61 (sems_cons k60 (sems_nil)))
theorem t67_eq (x : denR (headRT (ps67.map some))) : codeK (tabOf tr) (semsOf sl67) D67 L67 code67 (start 28 ps67 x) (finK rs67 ps67) = x67 x := by kernel_rfl
theorem k67 : Known Try.prog 67 sem67 :=
  fn_auto tr_ok eq_ok mixed_ok so67 (D := D67) (code := code67) (n := 28) Try.func67 (by kernel_rfl) (by kernel_rfl) (by kernel_rfl) (fun w0 mu _ hs => (loops_of (l := []) (by kernel_rfl) (List.forall_mem_nil _))) t67_eq

/-! ### f34: laws.eqEventS -/
noncomputable def code34 : Code := match Try.f34.body with | some c => c | none => .skip
def ps34 : List AP := [.val false [.shr (.cons (.int .i64) (.cons (.int .i64) (.cons (.sl (.cons (.int .i64) .nil)) (.cons (.int .i64) (.cons (.int .i64) (.cons (.int .i64) (.cons .str (.cons (.sl (.cons (.int .i64) .nil)) .nil))))))))], .val false [.shr (.cons (.int .i64) (.cons (.int .i64) (.cons (.sl (.cons (.int .i64) .nil)) (.cons (.int .i64) (.cons (.int .i64) (.cons (.int .i64) (.cons .str (.cons (.sl (.cons (.int .i64) .nil)) .nil))))))))]]
def rs34 : List RP := [{ src := .tmp 4, agg := false, ps := [.bool] }]
noncomputable def sl34 : SemL := [(67, (.shr, .shr, .shr, sem67))]
def D34 : Draws := fun id => bif Nat.beq id 6 then .op 0 .any (.op 1 .any (.op 2 .any (.op 3 .take (.op 4 .any (.op 5 .any (.op 6 .any (.op 7 .take (.op 8 .one (.op 9 .any (.nil)))))))))) else .nil
def hp34_0 : List (Option AP) := [some (.val false [.shr (.cons (.int .i64) (.cons (.int .i64) (.cons (.sl (.cons (.int .i64) .nil)) (.cons (.int .i64) (.cons (.int .i64) (.cons (.int .i64) (.cons .str (.cons (.sl (.cons (.int .i64) .nil)) .nil))))))))]), some (.val false [.shr (.cons (.int .i64) (.cons (.int .i64) (.cons (.sl (.cons (.int .i64) .nil)) (.cons (.int .i64) (.cons (.int .i64) (.cons (.int .i64) (.cons .str (.cons (.sl (.cons (.int .i64) .nil)) .nil))))))))]), none, none, none, some (.val false [.int .i64]), none, none, none, none, none, none, none, none, none, none, none, none, none, none, none, none, none, none, none, none, none]
def e34_0 : List (Option AP) := [none, none, none, none, none, none, none, none, none, none, none, none, none, none, none, none, none, none, none, none, none, none, none, none, none, none, none]
def q34_0 : List (Option AP) := [none, none, none, none, some (.val false [.bool]), none, none, none, none, none, none, none, none, none, none, none, none, none, none, none, none, none, none, none, none, none, none]
abbrev H34_0 : Type := (List (Int × Int × (List (Int × Unit)) × Int × Int × Int × ByteArray × (List (Int × Unit)) × Unit)) × (List (Int × Int × (List (Int × Unit)) × Int × Int × Int × ByteArray × (List (Int × Unit)) × Unit)) × Int × Unit
abbrev E34_0 : Type := Unit
abbrev Q34_0 : Type := Bool × Unit
noncomputable def laws_eqEventS_c0 (a0 : List (Int × Int × (List (Int × Unit)) × Int × Int × Int × ByteArray × (List (Int × Unit)) × Unit)) (b1 : List (Int × Int × (List (Int × Unit)) × Int × Int × Int × ByteArray × (List (Int × Unit)) × Unit)) (i5 : Int) : Option (Sum H34_0 (Sum E34_0 Q34_0)) :=
  bif decide (i5 < ((List.length a0 : Nat) : Int)) then
    bif decide ((0 : Int) ≤ i5) then Option.bind ((a0)[Int.toNat i5]?) fun r1 =>
      bif decide ((0 : Int) ≤ i5) then Option.bind ((b1)[Int.toNat i5]?) fun r2 =>
        Option.bind (laws_eqEvent r1.1 r1.2.1 r1.2.2.1 r1.2.2.2.1 r1.2.2.2.2.1 r1.2.2.2.2.2.1 r1.2.2.2.2.2.2.1 r1.2.2.2.2.2.2.2.1 r2.1 r2.2.1 r2.2.2.1 r2.2.2.2.1 r2.2.2.2.2.1 r2.2.2.2.2.2.1 r2.2.2.2.2.2.2.1 r2.2.2.2.2.2.2.2.1) fun y3 =>
        bif !y3.1 then
          some (.inr (.inr (false, ())))
        else
          some (.inl (a0, b1, IntKind.i64.wrap (i5 + (1 : Int)), ()))
      else none
    else none
  else
    some (.inr (.inl (())))
noncomputable def laws_eqEventS_r0 (x : H34_0) : Option (Sum H34_0 (Sum E34_0 Q34_0)) := laws_eqEventS_c0 x.1 x.2.1 x.2.2.1
noncomputable def L34 {R : Type} : Loops R := fun id _ st k => bif Nat.beq id 0 then loopAt hp34_0 e34_0 q34_0 laws_eqEventS_r0 st k else none
noncomputable def laws_eqEventS (a0 : List (Int × Int × (List (Int × Unit)) × Int × Int × Int × ByteArray × (List (Int × Unit)) × Unit)) (b1 : List (Int × Int × (List (Int × Unit)) × Int × Int × Int × ByteArray × (List (Int × Unit)) × Unit)) : Option (Bool × Unit) :=
  bif !decide (((List.length a0 : Nat) : Int) = ((List.length b1 : Nat) : Int)) then
    some (false, ())
  else
    outK (loopV laws_eqEventS_r0 (a0, b1, (0 : Int), ())) (fun y1 =>
      some (true, ())) (fun y2 =>
      some (y2.1, ()))
noncomputable def x34 (x : (List (Int × Int × (List (Int × Unit)) × Int × Int × Int × ByteArray × (List (Int × Unit)) × Unit)) × (List (Int × Int × (List (Int × Unit)) × Int × Int × Int × ByteArray × (List (Int × Unit)) × Unit)) × Unit) : Option (Bool × Unit) := laws_eqEventS x.1 x.2.1
noncomputable def sem34 : Sem1 := semOf ps34 rs34 x34
theorem so34 : SemsOk Try.prog (semsOf sl34) := sems_cons k67 (sems_nil)
noncomputable def b34_0 : Code := nthLoop code34 0
theorem t34_r0_eq (x : denR (headRT hp34_0)) : codeK (tabOf tr) (semsOf sl34) D34 L34 b34_0 (headSt hp34_0 x) (roundK 0 hp34_0 e34_0 q34_0) = laws_eqEventS_r0 x := by kernel_rfl
theorem loop34_0 {R : Type} (r : R) (w0 : World) (mu : Mu) (hs : AnShape ps34 mu) : LoopAt Try.prog w0 mu 27 (L34 : Loops R) r 0 b34_0 :=
  loop_auto tr_ok eq_ok mixed_ok so34 (D := D34) hs (by kernel_rfl) (fun _ => (loops_of (l := []) (by kernel_rfl) (List.forall_mem_nil _))) t34_r0_eq (fun _ _ => rfl)
theorem t34_eq (x : denR (headRT (ps34.map some))) : codeK (tabOf tr) (semsOf sl34) D34 L34 code34 (start 27 ps34 x) (finK rs34 ps34) = x34 x := by kernel_rfl
theorem k34 : Known Try.prog 34 sem34 :=
  fn_auto tr_ok eq_ok mixed_ok so34 (D := D34) (code := code34) (n := 27) Try.func34 (by kernel_rfl) (by kernel_rfl) (by kernel_rfl) (fun w0 mu _ hs => (loops_of (l := [(0, b34_0)]) (by kernel_rfl) (List.forall_mem_cons.2 ⟨loop34_0 _ w0 mu hs, (List.forall_mem_nil _)⟩))) t34_eq

/-! ### f8: laws.eqDaemon -/
noncomputable def code8 : Code := match Try.f8.body with | some c => c | none => .skip
def ps8 : List AP := [.val true [.int .i64, .bool, .int .i64, .int .i64, .shr (.cons (.int .i64) .nil), .shr (.cons (.int .i64) (.cons (.int .i64) (.cons (.int .i64) (.cons .str .nil)))), .shr (.cons (.int .i64) .nil), .shr (.cons .str .nil), .int .i64, .int .i64, .int .i64, .int .i64, .int .i64, .int .i64, .int .i64, .int .i64, .int .i64, .shr (.cons (.int .i64) .nil), .int .i64, .int .i64, .int .i64, .shr (.cons (.int .i64) .nil), .shr (.cons (.int .i64) (.cons (.int .i64) (.cons (.int .i64) (.cons (.sl (.cons (.int .i64) (.cons (.int .i64) (.cons (.int .i64) (.cons .str .nil))))) .nil)))), .shr (.cons (.int .i64) (.cons (.int .i64) (.cons (.sl (.cons (.int .i64) .nil)) (.cons (.int .i64) (.cons (.int .i64) (.cons (.int .i64) (.cons .str (.cons (.sl (.cons (.int .i64) .nil)) .nil))))))))], .val true [.int .i64, .bool, .int .i64, .int .i64, .shr (.cons (.int .i64) .nil), .shr (.cons (.int .i64) (.cons (.int .i64) (.cons (.int .i64) (.cons .str .nil)))), .shr (.cons (.int .i64) .nil), .shr (.cons .str .nil), .int .i64, .int .i64, .int .i64, .int .i64, .int .i64, .int .i64, .int .i64, .int .i64, .int .i64, .shr (.cons (.int .i64) .nil), .int .i64, .int .i64, .int .i64, .shr (.cons (.int .i64) .nil), .shr (.cons (.int .i64) (.cons (.int .i64) (.cons (.int .i64) (.cons (.sl (.cons (.int .i64) (.cons (.int .i64) (.cons (.int .i64) (.cons .str .nil))))) .nil)))), .shr (.cons (.int .i64) (.cons (.int .i64) (.cons (.sl (.cons (.int .i64) .nil)) (.cons (.int .i64) (.cons (.int .i64) (.cons (.int .i64) (.cons .str (.cons (.sl (.cons (.int .i64) .nil)) .nil))))))))]]
def rs8 : List RP := [{ src := .tmp 4, agg := false, ps := [.bool] }]
noncomputable def sl8 : SemL := [(31, (.shr, .shr, .shr, sem31)), (32, (.shr, .shr, .shr, sem32)), (33, (.shr, .shr, .shr, sem33)), (34, (.shr, .shr, .shr, sem34))]
def D8 : Draws := fun _ => .nil
noncomputable def L8 {R : Type} : Loops R := fun _ _ _ _ => none
noncomputable def laws_eqDaemon (a0c0 : Int) (a0c1 : Bool) (a0c2 : Int) (a0c3 : Int) (a0c4 : List (Int × Unit)) (a0c5 : List (Int × Int × Int × ByteArray × Unit)) (a0c6 : List (Int × Unit)) (a0c7 : List (ByteArray × Unit)) (a0c8 : Int) (a0c9 : Int) (a0c10 : Int) (a0c11 : Int) (a0c12 : Int) (a0c13 : Int) (a0c14 : Int) (a0c15 : Int) (a0c16 : Int) (a0c17 : List (Int × Unit)) (a0c18 : Int) (a0c19 : Int) (a0c20 : Int) (a0c21 : List (Int × Unit)) (a0c22 : List (Int × Int × Int × (List (Int × Int × Int × ByteArray × Unit)) × Unit)) (a0c23 : List (Int × Int × (List (Int × Unit)) × Int × Int × Int × ByteArray × (List (Int × Unit)) × Unit)) (b1c0 : Int) (b1c1 : Bool) (b1c2 : Int) (b1c3 : Int) (b1c4 : List (Int × Unit)) (b1c5 : List (Int × Int × Int × ByteArray × Unit)) (b1c6 : List (Int × Unit)) (b1c7 : List (ByteArray × Unit)) (b1c8 : Int) (b1c9 : Int) (b1c10 : Int) (b1c11 : Int) (b1c12 : Int) (b1c13 : Int) (b1c14 : Int) (b1c15 : Int) (b1c16 : Int) (b1c17 : List (Int × Unit)) (b1c18 : Int) (b1c19 : Int) (b1c20 : Int) (b1c21 : List (Int × Unit)) (b1c22 : List (Int × Int × Int × (List (Int × Int × Int × ByteArray × Unit)) × Unit)) (b1c23 : List (Int × Int × (List (Int × Unit)) × Int × Int × Int × ByteArray × (List (Int × Unit)) × Unit)) : Option (Bool × Unit) :=
  bif !decide (a0c0 = b1c0) then
    some (false, ())
  else bif !(a0c1 == b1c1) then
    some (false, ())
  else
    Option.bind (laws_eqMate a0c2 a0c3 a0c4 a0c5 a0c6 a0c7 a0c8 a0c9 a0c10 a0c11 a0c12 a0c13 a0c14 a0c15 a0c16 a0c17 b1c2 b1c3 b1c4 b1c5 b1c6 b1c7 b1c8 b1c9 b1c10 b1c11 b1c12 b1c13 b1c14 b1c15 b1c16 b1c17) fun y1 =>
    bif !y1.1 then
      some (false, ())
    else bif !decide (a0c18 = b1c18) then
      some (false, ())
    else bif !decide (a0c19 = b1c19) then
      some (false, ())
    else
      Option.bind (laws_eqRing a0c20 a0c21 b1c20 b1c21) fun y2 =>
      bif !y2.1 then
        some (false, ())
      else
        Option.bind (laws_eqBundleS a0c22 b1c22) fun y3 =>
        bif !y3.1 then
          some (false, ())
        else
          Option.bind (laws_eqEventS a0c23 b1c23) fun y4 =>
          bif !y4.1 then
            some (false, ())
          else
            some (true, ())
noncomputable def x8 (x : Int × Bool × Int × Int × (List (Int × Unit)) × (List (Int × Int × Int × ByteArray × Unit)) × (List (Int × Unit)) × (List (ByteArray × Unit)) × Int × Int × Int × Int × Int × Int × Int × Int × Int × (List (Int × Unit)) × Int × Int × Int × (List (Int × Unit)) × (List (Int × Int × Int × (List (Int × Int × Int × ByteArray × Unit)) × Unit)) × (List (Int × Int × (List (Int × Unit)) × Int × Int × Int × ByteArray × (List (Int × Unit)) × Unit)) × Int × Bool × Int × Int × (List (Int × Unit)) × (List (Int × Int × Int × ByteArray × Unit)) × (List (Int × Unit)) × (List (ByteArray × Unit)) × Int × Int × Int × Int × Int × Int × Int × Int × Int × (List (Int × Unit)) × Int × Int × Int × (List (Int × Unit)) × (List (Int × Int × Int × (List (Int × Int × Int × ByteArray × Unit)) × Unit)) × (List (Int × Int × (List (Int × Unit)) × Int × Int × Int × ByteArray × (List (Int × Unit)) × Unit)) × Unit) : Option (Bool × Unit) := laws_eqDaemon x.1 x.2.1 x.2.2.1 x.2.2.2.1 x.2.2.2.2.1 x.2.2.2.2.2.1 x.2.2.2.2.2.2.1 x.2.2.2.2.2.2.2.1 x.2.2.2.2.2.2.2.2.1 x.2.2.2.2.2.2.2.2.2.1 x.2.2.2.2.2.2.2.2.2.2.1 x.2.2.2.2.2.2.2.2.2.2.2.1 x.2.2.2.2.2.2.2.2.2.2.2.2.1 x.2.2.2.2.2.2.2.2.2.2.2.2.2.1 x.2.2.2.2.2.2.2.2.2.2.2.2.2.2.1 x.2.2.2.2.2.2.2.2.2.2.2.2.2.2.2.1 x.2.2.2.2.2.2.2.2.2.2.2.2.2.2.2.2.1 x.2.2.2.2.2.2.2.2.2.2.2.2.2.2.2.2.2.1 x.2.2.2.2.2.2.2.2.2.2.2.2.2.2.2.2.2.2.1 x.2.2.2.2.2.2.2.2.2.2.2.2.2.2.2.2.2.2.2.1 x.2.2.2.2.2.2.2.2.2.2.2.2.2.2.2.2.2.2.2.2.1 x.2.2.2.2.2.2.2.2.2.2.2.2.2.2.2.2.2.2.2.2.2.1 x.2.2.2.2.2.2.2.2.2.2.2.2.2.2.2.2.2.2.2.2.2.2.1 x.2.2.2.2.2.2.2.2.2.2.2.2.2.2.2.2.2.2.2.2.2.2.2.1 x.2.2.2.2.2.2.2.2.2.2.2.2.2.2.2.2.2.2.2.2.2.2.2.2.1 x.2.2.2.2.2.2.2.2.2.2.2.2.2.2.2.2.2.2.2.2.2.2.2.2.2.1 x.2.2.2.2.2.2.2.2.2.2.2.2.2.2.2.2.2.2.2.2.2.2.2.2.2.2.1 x.2.2.2.2.2.2.2.2.2.2.2.2.2.2.2.2.2.2.2.2.2.2.2.2.2.2.2.1 x.2.2.2.2.2.2.2.2.2.2.2.2.2.2.2.2.2.2.2.2.2.2.2.2.2.2.2.2.1 x.2.2.2.2.2.2.2.2.2.2.2.2.2.2.2.2.2.2.2.2.2.2.2.2.2.2.2.2.2.1 x.2.2.2.2.2.2.2.2.2.2.2.2.2.2.2.2.2.2.2.2.2.2.2.2.2.2.2.2.2.2.1 x.2.2.2.2.2.2.2.2.2.2.2.2.2.2.2.2.2.2.2.2.2.2.2.2.2.2.2.2.2.2.2.1 x.2.2.2.2.2.2.2.2.2.2.2.2.2.2.2.2.2.2.2.2.2.2.2.2.2.2.2.2.2.2.2.2.1 x.2.2.2.2.2.2.2.2.2.2.2.2.2.2.2.2.2.2.2.2.2.2.2.2.2.2.2.2.2.2.2.2.2.1 x.2.2.2.2.2.2.2.2.2.2.2.2.2.2.2.2.2.2.2.2.2.2.2.2.2.2.2.2.2.2.2.2.2.2.1 x.2.2.2.2.2.2.2.2.2.2.2.2.2.2.2.2.2.2.2.2.2.2.2.2.2.2.2.2.2.2.2.2.2.2.2.1 x.2.2.2.2.2.2.2.2.2.2.2.2.2.2.2.2.2.2.2.2.2.2.2.2.2.2.2.2.2.2.2.2.2.2.2.2.1 x.2.2.2.2.2.2.2.2.2.2.2.2.2.2.2.2.2.2.2.2.2.2.2.2.2.2.2.2.2.2.2.2.2.2.2.2.2.1 x.2.2.2.2.2.2.2.2.2.2.2.2.2.2.2.2.2.2.2.2.2.2.2.2.2.2.2.2.2.2.2.2.2.2.2.2.2.2.1 x.2.2.2.2.2.2.2.2.2.2.2.2.2.2.2.2.2.2.2.2.2.2.2.2.2.2.2.2.2.2.2.2.2.2.2.2.2.2.2.1 x.2.2.2.2.2.2.2.2.2.2.2.2.2.2.2.2.2.2.2.2.2.2.2.2.2.2.2.2.2.2.2.2.2.2.2.2.2.2.2.2.1 x.2.2.2.2.2.2.2.2.2.2.2.2.2.2.2.2.2.2.2.2.2.2.2.2.2.2.2.2.2.2.2.2.2.2.2.2.2.2.2.2.2.1 x.2.2.2.2.2.2.2.2.2.2.2.2.2.2.2.2.2.2.2.2.2.2.2.2.2.2.2.2.2.2.2.2.2.2.2.2.2.2.2.2.2.2.1 x.2.2.2.2.2.2.2.2.2.2.2.2.2.2.2.2.2.2.2.2.2.2.2.2.2.2.2.2.2.2.2.2.2.2.2.2.2.2.2.2.2.2.2.1 x.2.2.2.2.2.2.2.2.2.2.2.2.2.2.2.2.2.2.2.2.2.2.2.2.2.2.2.2.2.2.2.2.2.2.2.2.2.2.2.2.2.2.2.2.1 x.2.2.2.2.2.2.2.2.2.2.2.2.2.2.2.2.2.2.2.2.2.2.2.2.2.2.2.2.2.2.2.2.2.2.2.2.2.2.2.2.2.2.2.2.2.1 x.2.2.2.2.2.2.2.2.2.2.2.2.2.2.2.2.2.2.2.2.2.2.2.2.2.2.2.2.2.2.2.2.2.2.2.2.2.2.2.2.2.2.2.2.2.2.1 x.2.2.2.2.2.2.2.2.2.2.2.2.2.2.2.2.2.2.2.2.2.2.2.2.2.2.2.2.2.2.2.2.2.2.2.2.2.2.2.2.2.2.2.2.2.2.2.1
noncomputable def sem8 : Sem1 := semOf ps8 rs8 x8
theorem so8 : SemsOk Try.prog (semsOf sl8) := sems_cons k31 (sems_cons k32 (sems_cons k33 (sems_cons k34 (sems_nil))))
theorem t8_eq (x : denR (headRT (ps8.map some))) : codeK (tabOf tr) (semsOf sl8) D8 L8 code8 (start 49 ps8 x) (finK rs8 ps8) = x8 x := by kernel_rfl
theorem k8 : Known Try.prog 8 sem8 :=
  fn_auto tr_ok eq_ok mixed_ok so8 (D := D8) (code := code8) (n := 49) Try.func8 (by kernel_rfl) (by kernel_rfl) (by kernel_rfl) (fun w0 mu _ hs => (loops_of (l := []) (by kernel_rfl) (List.forall_mem_nil _))) t8_eq

/-! ### f62: laws.markIntS -/
noncomputable def code62 : Code := match Try.f62.body with | some c => c | none => .skip
def ps62 : List AP := [.io (.cons (.int .i64) .nil), .val false [.int .i64]]
def rs62 : List RP := [{ src := .tmp 4, agg := false, ps := [.int .i64] }]
noncomputable def sl62 : SemL := []
def D62 : Draws := fun _ => .nil
def hp62_0 : List (Option AP) := [some (.io (.cons (.int .i64) .nil)), some (.val false [.int .i64]), none, none, none, some (.val false [.int .i64]), none, none, none, none, none, none, none, none, none, none, none, none, none]
def e62_0 : List (Option AP) := [some (.io (.cons (.int .i64) .nil)), some (.val false [.int .i64]), none, none, none, none, none, none, none, none, none, none, none, none, none, none, none, none, none]
def q62_0 : List (Option AP) := [none, none, none, none, none, none, none, none, none, none, none, none, none, none, none, none, none, none, none]
abbrev H62_0 : Type := (List (Int × Unit)) × Int × Int × Unit
abbrev E62_0 : Type := (List (Int × Unit)) × Int × Unit
abbrev Q62_0 : Type := Unit
noncomputable def laws_markIntS_c0 (a0 : List (Int × Unit)) (k1 : Int) (i5 : Int) : Option (Sum H62_0 (Sum E62_0 Q62_0)) :=
  bif decide (i5 < ((List.length a0 : Nat) : Int)) then
    bif decide ((0 : Int) ≤ i5) then bif Nat.blt (Int.toNat i5) (List.length a0) then Option.bind ((a0)[Int.toNat i5]?) fun r1 =>
        some (.inl (List.set a0 (Int.toNat i5) (k1, ()), IntKind.i64.wrap (k1 + (1 : Int)), IntKind.i64.wrap (i5 + (1 : Int)), ()))
      else none
    else none
  else
    some (.inr (.inl (a0, k1, ())))
noncomputable def laws_markIntS_r0 (x : H62_0) : Option (Sum H62_0 (Sum E62_0 Q62_0)) := laws_markIntS_c0 x.1 x.2.1 x.2.2.1
noncomputable def L62 {R : Type} : Loops R := fun id _ st k => bif Nat.beq id 0 then loopAt hp62_0 e62_0 q62_0 laws_markIntS_r0 st k else none
noncomputable def laws_markIntS (a0 : List (Int × Unit)) (k1 : Int) : Option (Int × (List (Int × Unit)) × Unit) :=
  outK (loopV laws_markIntS_r0 (a0, k1, (0 : Int), ())) (fun y1 =>
    some (y1.2.1, y1.1, ())) (fun y2 =>
    none)
noncomputable def x62 (x : (List (Int × Unit)) × Int × Unit) : Option (Int × (List (Int × Unit)) × Unit) := laws_markIntS x.1 x.2.1
noncomputable def sem62 : Sem1 := semOf ps62 rs62 x62
theorem so62 : SemsOk Try.prog (semsOf sl62) := sems_nil
noncomputable def b62_0 : Code := nthLoop code62 0
theorem t62_r0_eq (x : denR (headRT hp62_0)) : codeK (tabOf tr) (semsOf sl62) D62 L62 b62_0 (headSt hp62_0 x) (roundK 0 hp62_0 e62_0 q62_0) = laws_markIntS_r0 x := by kernel_rfl
theorem loop62_0 {R : Type} (r : R) (w0 : World) (mu : Mu) (hs : AnShape ps62 mu) : LoopAt Try.prog w0 mu 19 (L62 : Loops R) r 0 b62_0 :=
  loop_auto tr_ok eq_ok mixed_ok so62 (D := D62) hs (by kernel_rfl) (fun _ => (loops_of (l := []) (by kernel_rfl) (List.forall_mem_nil _))) t62_r0_eq (fun _ _ => rfl)
theorem t62_eq (x : denR (headRT (ps62.map some))) : codeK (tabOf tr) (semsOf sl62) D62 L62 code62 (start 19 ps62 x) (finK rs62 ps62) = x62 x := by kernel_rfl
theorem k62 : Known Try.prog 62 sem62 :=
  fn_auto tr_ok eq_ok mixed_ok so62 (D := D62) (code := code62) (n := 19) Try.func62 (by kernel_rfl) (by kernel_rfl) (by kernel_rfl) (fun w0 mu _ hs => (loops_of (l := [(0, b62_0)]) (by kernel_rfl) (List.forall_mem_cons.2 ⟨loop62_0 _ w0 mu hs, (List.forall_mem_nil _)⟩))) t62_eq

/-! ### f36: laws.markRing -/
noncomputable def code36 : Code := match Try.f36.body with | some c => c | none => .skip
def ps36 : List AP := [.lend [.int .i64, .own (.cons (.int .i64) .nil)], .val false [.int .i64]]
def rs36 : List RP := [{ src := .tmp 4, agg := false, ps := [.int .i64] }]
noncomputable def sl36 : SemL := [(62, (.io, .shr, .shr, sem62))]
def D36 : Draws := fun _ => .nil
noncomputable def L36 {R : Type} : Loops R := fun _ _ _ _ => none
noncomputable def laws_markRing (a0c0 : Int) (a0c1 : List (Int × Unit)) (k1 : Int) : Option (Int × (List (Int × Unit)) × Unit) :=
  Option.bind (laws_markIntS a0c1 k1) fun y1 =>
  some (y1.1, y1.2.1, ())
noncomputable def x36 (x : Int × (List (Int × Unit)) × Int × Unit) : Option (Int × (List (Int × Unit)) × Unit) := laws_markRing x.1 x.2.1 x.2.2.1
noncomputable def sem36 : Sem1 := semOf ps36 rs36 x36
theorem so36 : SemsOk Try.prog (semsOf sl36) := sems_cons k62 (sems_nil)
theorem t36_eq (x : denR (headRT (ps36.map some))) : codeK (tabOf tr) (semsOf sl36) D36 L36 code36 (start 10 ps36 x) (finK rs36 ps36) = x36 x := by kernel_rfl
theorem k36 : Known Try.prog 36 sem36 :=
  fn_auto tr_ok eq_ok mixed_ok so36 (D := D36) (code := code36) (n := 10) Try.func36 (by kernel_rfl) (by kernel_rfl) (by kernel_rfl) (fun w0 mu _ hs => (loops_of (l := []) (by kernel_rfl) (List.forall_mem_nil _))) t36_eq

/-! ### f63: laws.markText -/
noncomputable def code63 : Code := match Try.f63.body with | some c => c | none => .skip
def ps63 : List AP := [.val false [.int .i64]]
def rs63 : List RP := [{ src := .tmp 2, agg := false, ps := [.str] }]
noncomputable def sl63 : SemL := []
def D63 : Draws := fun _ => .nil
def hp63_0 : List (Option AP) := [some (.val false [.int .i64]), none, none, some (.val false [.str]), none, none, none, none, none, none, none, none, none, none, none, none, none, none, none, none]
def e63_0 : List (Option AP) := [none, none, none, some (.val false [.str]), none, none, none, none, none, none, none, none, none, none, none, none, none, none, none, none]
def q63_0 : List (Option AP) := [none, none, none, none, none, none, none, none, none, none, none, none, none, none, none, none, none, none, none, none]
abbrev H63_0 : Type := Int × ByteArray × Unit
abbrev E63_0 : Type := ByteArray × Unit
abbrev Q63_0 : Type := Unit
noncomputable def laws_markText_c0 (k0 : Int) (out3 : ByteArray) : Option (Sum H63_0 (Sum E63_0 Q63_0)) :=
  bif decide ((0 : Int) < k0) then
    bif Nat.ble ((ByteArray.size (bytesOf [(IntKind.u8.wrap (IntKind.i64.wrap ((48 : Int) + (Int.tmod k0 (10 : Int)))), ())])) + (ByteArray.size out3)) lim then some (.inl (IntKind.i64.wrap (Int.tdiv k0 (10 : Int)), (bytesOf [(IntKind.u8.wrap (IntKind.i64.wrap ((48 : Int) + (Int.tmod k0 (10 : Int)))), ())]) ++ out3, ()))
    else none
  else
    some (.inr (.inl (out3, ())))
noncomputable def laws_markText_r0 (x : H63_0) : Option (Sum H63_0 (Sum E63_0 Q63_0)) := laws_markText_c0 x.1 x.2.1
noncomputable def L63 {R : Type} : Loops R := fun id _ st k => bif Nat.beq id 0 then loopAt hp63_0 e63_0 q63_0 laws_markText_r0 st k else none
noncomputable def laws_markText (k0 : Int) : Option (ByteArray × Unit) :=
  bif decide (k0 ≤ (0 : Int)) then
    some ((ByteArray.mk #[109, 48]), ())
  else
    outK (loopV laws_markText_r0 (k0, (ByteArray.mk #[]), ())) (fun y1 =>
      bif Nat.ble (1 + (ByteArray.size y1.1)) lim then some ((ByteArray.mk #[109]) ++ y1.1, ())
      else none) (fun y2 =>
      none)
noncomputable def x63 (x : Int × Unit) : Option (ByteArray × Unit) := laws_markText x.1
noncomputable def sem63 : Sem1 := semOf ps63 rs63 x63
theorem so63 : SemsOk Try.prog (semsOf sl63) := sems_nil
noncomputable def b63_0 : Code := nthLoop code63 0
theorem t63_r0_eq (x : denR (headRT hp63_0)) : codeK (tabOf tr) (semsOf sl63) D63 L63 b63_0 (headSt hp63_0 x) (roundK 0 hp63_0 e63_0 q63_0) = laws_markText_r0 x := by kernel_rfl
theorem loop63_0 {R : Type} (r : R) (w0 : World) (mu : Mu) (hs : AnShape ps63 mu) : LoopAt Try.prog w0 mu 20 (L63 : Loops R) r 0 b63_0 :=
  loop_auto tr_ok eq_ok mixed_ok so63 (D := D63) hs (by kernel_rfl) (fun _ => (loops_of (l := []) (by kernel_rfl) (List.forall_mem_nil _))) t63_r0_eq (fun _ _ => rfl)
theorem t63_eq (x : denR (headRT (ps63.map some))) : codeK (tabOf tr) (semsOf sl63) D63 L63 code63 (start 20 ps63 x) (finK rs63 ps63) = x63 x := by kernel_rfl
theorem k63 : Known Try.prog 63 sem63 :=
  fn_auto tr_ok eq_ok mixed_ok so63 (D := D63) (code := code63) (n := 20) Try.func63 (by kernel_rfl) (by kernel_rfl) (by kernel_rfl) (fun w0 mu _ hs => (loops_of (l := [(0, b63_0)]) (by kernel_rfl) (List.forall_mem_cons.2 ⟨loop63_0 _ w0 mu hs, (List.forall_mem_nil _)⟩))) t63_eq

/-! ### f27: laws.markItemS -/
noncomputable def code27 : Code := match Try.f27.body with | some c => c | none => .skip
def ps27 : List AP := [.io (.cons (.int .i64) (.cons (.int .i64) (.cons (.int .i64) (.cons .str .nil)))), .val false [.int .i64]]
def rs27 : List RP := [{ src := .tmp 4, agg := false, ps := [.int .i64] }]
noncomputable def sl27 : SemL := [(63, (.shr, .shr, .shr, sem63))]
def D27 : Draws := fun _ => .nil
def hp27_0 : List (Option AP) := [some (.io (.cons (.int .i64) (.cons (.int .i64) (.cons (.int .i64) (.cons .str .nil))))), some (.val false [.int .i64]), none, none, none, some (.val false [.int .i64]), none, none, none, none, none, none, none, none, none, none, none, none, none, none, none, none, none, none, none, none, none, none, none, none, none, none, none, none, none, none, none, none, none, none, none, none]
def e27_0 : List (Option AP) := [some (.io (.cons (.int .i64) (.cons (.int .i64) (.cons (.int .i64) (.cons .str .nil))))), some (.val false [.int .i64]), none, none, none, none, none, none, none, none, none, none, none, none, none, none, none, none, none, none, none, none, none, none, none, none, none, none, none, none, none, none, none, none, none, none, none, none, none, none, none, none]
def q27_0 : List (Option AP) := [none, none, none, none, none, none, none, none, none, none, none, none, none, none, none, none, none, none, none, none, none, none, none, none, none, none, none, none, none, none, none, none, none, none, none, none, none, none, none, none, none, none]
abbrev H27_0 : Type := (List (Int × Int × Int × ByteArray × Unit)) × Int × Int × Unit
abbrev E27_0 : Type := (List (Int × Int × Int × ByteArray × Unit)) × Int × Unit
abbrev Q27_0 : Type := Unit
noncomputable def laws_markItemS_c0 (a0 : List (Int × Int × Int × ByteArray × Unit)) (k1 : Int) (i5 : Int) : Option (Sum H27_0 (Sum E27_0 Q27_0)) :=
  bif decide (i5 < ((List.length a0 : Nat) : Int)) then
    bif decide ((0 : Int) ≤ i5) then bif Nat.blt (Int.toNat i5) (List.length a0) then Option.bind ((a0)[Int.toNat i5]?) fun r1 =>
        bif decide ((0 : Int) ≤ i5) then bif Nat.blt (Int.toNat i5) (List.length (List.set a0 (Int.toNat i5) (k1, r1.2.1, r1.2.2.1, r1.2.2.2.1, ()))) then Option.bind ((List.set a0 (Int.toNat i5) (k1, r1.2.1, r1.2.2.1, r1.2.2.2.1, ()))[Int.toNat i5]?) fun r2 =>
            bif decide ((0 : Int) ≤ i5) then bif Nat.blt (Int.toNat i5) (List.length (List.set (List.set a0 (Int.toNat i5) (k1, r1.2.1, r1.2.2.1, r1.2.2.2.1, ())) (Int.toNat i5) (r2.1, IntKind.i64.wrap (k1 + (1 : Int)), r2.2.2.1, r2.2.2.2.1, ()))) then Option.bind ((List.set (List.set a0 (Int.toNat i5) (k1, r1.2.1, r1.2.2.1, r1.2.2.2.1, ())) (Int.toNat i5) (r2.1, IntKind.i64.wrap (k1 + (1 : Int)), r2.2.2.1, r2.2.2.2.1, ()))[Int.toNat i5]?) fun r3 =>
                Option.bind (laws_markText (IntKind.i64.wrap ((IntKind.i64.wrap ((IntKind.i64.wrap (k1 + (1 : Int))) + (1 : Int))) + (1 : Int)))) fun y4 =>
                bif decide ((0 : Int) ≤ i5) then bif Nat.blt (Int.toNat i5) (List.length (List.set (List.set (List.set a0 (Int.toNat i5) (k1, r1.2.1, r1.2.2.1, r1.2.2.2.1, ())) (Int.toNat i5) (r2.1, IntKind.i64.wrap (k1 + (1 : Int)), r2.2.2.1, r2.2.2.2.1, ())) (Int.toNat i5) (r3.1, r3.2.1, IntKind.i64.wrap ((IntKind.i64.wrap (k1 + (1 : Int))) + (1 : Int)), r3.2.2.2.1, ()))) then Option.bind ((List.set (List.set (List.set a0 (Int.toNat i5) (k1, r1.2.1, r1.2.2.1, r1.2.2.2.1, ())) (Int.toNat i5) (r2.1, IntKind.i64.wrap (k1 + (1 : Int)), r2.2.2.1, r2.2.2.2.1, ())) (Int.toNat i5) (r3.1, r3.2.1, IntKind.i64.wrap ((IntKind.i64.wrap (k1 + (1 : Int))) + (1 : Int)), r3.2.2.2.1, ()))[Int.toNat i5]?) fun r5 =>
                    some (.inl (List.set (List.set (List.set (List.set a0 (Int.toNat i5) (k1, r1.2.1, r1.2.2.1, r1.2.2.2.1, ())) (Int.toNat i5) (r2.1, IntKind.i64.wrap (k1 + (1 : Int)), r2.2.2.1, r2.2.2.2.1, ())) (Int.toNat i5) (r3.1, r3.2.1, IntKind.i64.wrap ((IntKind.i64.wrap (k1 + (1 : Int))) + (1 : Int)), r3.2.2.2.1, ())) (Int.toNat i5) (r5.1, r5.2.1, r5.2.2.1, y4.1, ()), IntKind.i64.wrap ((IntKind.i64.wrap ((IntKind.i64.wrap ((IntKind.i64.wrap (k1 + (1 : Int))) + (1 : Int))) + (1 : Int))) + (1 : Int)), IntKind.i64.wrap (i5 + (1 : Int)), ()))
                  else none
                else none
              else none
            else none
          else none
        else none
      else none
    else none
  else
    some (.inr (.inl (a0, k1, ())))
noncomputable def laws_markItemS_r0 (x : H27_0) : Option (Sum H27_0 (Sum E27_0 Q27_0)) := laws_markItemS_c0 x.1 x.2.1 x.2.2.1
noncomputable def L27 {R : Type} : Loops R := fun id _ st k => bif Nat.beq id 0 then loopAt hp27_0 e27_0 q27_0 laws_markItemS_r0 st k else none
noncomputable def laws_markItemS (a0 : List (Int × Int × Int × ByteArray × Unit)) (k1 : Int) : Option (Int × (List (Int × Int × Int × ByteArray × Unit)) × Unit) :=
  outK (loopV laws_markItemS_r0 (a0, k1, (0 : Int), ())) (fun y1 =>
    some (y1.2.1, y1.1, ())) (fun y2 =>
    none)
noncomputable def x27 (x : (List (Int × Int × Int × ByteArray × Unit)) × Int × Unit) : Option (Int × (List (Int × Int × Int × ByteArray × Unit)) × Unit) := laws_markItemS x.1 x.2.1
noncomputable def sem27 : Sem1 := semOf ps27 rs27 x27
theorem so27 : SemsOk Try.prog (semsOf sl27) := sems_cons k63 (sems_nil)
noncomputable def b27_0 : Code := nthLoop code27 0
theorem t27_r0_eq (x : denR (headRT hp27_0)) : codeK (tabOf tr) (semsOf sl27) D27 L27 b27_0 (headSt hp27_0 x) (roundK 0 hp27_0 e27_0 q27_0) = laws_markItemS_r0 x := by kernel_rfl
theorem loop27_0 {R : Type} (r : R) (w0 : World) (mu : Mu) (hs : AnShape ps27 mu) : LoopAt Try.prog w0 mu 42 (L27 : Loops R) r 0 b27_0 :=
  loop_auto tr_ok eq_ok mixed_ok so27 (D := D27) hs (by kernel_rfl) (fun _ => (loops_of (l := []) (by kernel_rfl) (List.forall_mem_nil _))) t27_r0_eq (fun _ _ => rfl)
theorem t27_eq (x : denR (headRT (ps27.map some))) : codeK (tabOf tr) (semsOf sl27) D27 L27 code27 (start 42 ps27 x) (finK rs27 ps27) = x27 x := by kernel_rfl
theorem k27 : Known Try.prog 27 sem27 :=
  fn_auto tr_ok eq_ok mixed_ok so27 (D := D27) (code := code27) (n := 42) Try.func27 (by kernel_rfl) (by kernel_rfl) (by kernel_rfl) (fun w0 mu _ hs => (loops_of (l := [(0, b27_0)]) (by kernel_rfl) (List.forall_mem_cons.2 ⟨loop27_0 _ w0 mu hs, (List.forall_mem_nil _)⟩))) t27_eq

/-! ### f68: laws.markStringS -/
noncomputable def code68 : Code := match Try.f68.body with | some c => c | none => .skip
def ps68 : List AP := [.io (.cons .str .nil), .val false [.int .i64]]
def rs68 : List RP := [{ src := .tmp 4, agg := false, ps := [.int .i64] }]
noncomputable def sl68 : SemL := [(63, (.shr, .shr, .shr, sem63))]
def D68 : Draws := fun _ => .nil
def hp68_0 : List (Option AP) := [some (.io (.cons .str .nil)), some (.val false [.int .i64]), none, none, none, some (.val false [.int .i64]), none, none, none, none, none, none, none, none, none, none, none, none, none, none]
def e68_0 : List (Option AP) := [some (.io (.cons .str .nil)), some (.val false [.int .i64]), none, none, none, none, none, none, none, none, none, none, none, none, none, none, none, none, none, none]
def q68_0 : List (Option AP) := [none, none, none, none, none, none, none, none, none, none, none, none, none, none, none, none, none, none, none, none]
abbrev H68_0 : Type := (List (ByteArray × Unit)) × Int × Int × Unit
abbrev E68_0 : Type := (List (ByteArray × Unit)) × Int × Unit
abbrev Q68_0 : Type := Unit
noncomputable def laws_markStringS_c0 (a0 : List (ByteArray × Unit)) (k1 : Int) (i5 : Int) : Option (Sum H68_0 (Sum E68_0 Q68_0)) :=
  bif decide (i5 < ((List.length a0 : Nat) : Int)) then
    Option.bind (laws_markText k1) fun y1 =>
    bif decide ((0 : Int) ≤ i5) then bif Nat.blt (Int.toNat i5) (List.length a0) then Option.bind ((a0)[Int.toNat i5]?) fun r2 =>
        some (.inl (List.set a0 (Int.toNat i5) (y1.1, ()), IntKind.i64.wrap (k1 + (1 : Int)), IntKind.i64.wrap (i5 + (1 : Int)), ()))
      else none
    else none
  else
    some (.inr (.inl (a0, k1, ())))
noncomputable def laws_markStringS_r0 (x : H68_0) : Option (Sum H68_0 (Sum E68_0 Q68_0)) := laws_markStringS_c0 x.1 x.2.1 x.2.2.1
noncomputable def L68 {R : Type} : Loops R := fun id _ st k => bif Nat.beq id 0 then loopAt hp68_0 e68_0 q68_0 laws_markStringS_r0 st k else none
noncomputable def laws_markStringS (a0 : List (ByteArray × Unit)) (k1 : Int) : Option (Int × (List (ByteArray × Unit)) × Unit) :=
  outK (loopV laws_markStringS_r0 (a0, k1, (0 : Int), ())) (fun y1 =>
    some (y1.2.1, y1.1, ())) (fun y2 =>
    none)
noncomputable def x68 (x : (List (ByteArray × Unit)) × Int × Unit) : Option (Int × (List (ByteArray × Unit)) × Unit) := laws_markStringS x.1 x.2.1
noncomputable def sem68 : Sem1 := semOf ps68 rs68 x68
theorem so68 : SemsOk Try.prog (semsOf sl68) := sems_cons k63 (sems_nil)
noncomputable def b68_0 : Code := nthLoop code68 0
theorem t68_r0_eq (x : denR (headRT hp68_0)) : codeK (tabOf tr) (semsOf sl68) D68 L68 b68_0 (headSt hp68_0 x) (roundK 0 hp68_0 e68_0 q68_0) = laws_markStringS_r0 x := by kernel_rfl
theorem loop68_0 {R : Type} (r : R) (w0 : World) (mu : Mu) (hs : AnShape ps68 mu) : LoopAt Try.prog w0 mu 20 (L68 : Loops R) r 0 b68_0 :=
  loop_auto tr_ok eq_ok mixed_ok so68 (D := D68) hs (by kernel_rfl) (fun _ => (loops_of (l := []) (by kernel_rfl) (List.forall_mem_nil _))) t68_r0_eq (fun _ _ => rfl)
theorem t68_eq (x : denR (headRT (ps68.map some))) : codeK (tabOf tr) (semsOf sl68) D68 L68 code68 (start 20 ps68 x) (finK rs68 ps68) = x68 x := by kernel_rfl
theorem k68 : Known Try.prog 68 sem68 :=
  fn_auto tr_ok eq_ok mixed_ok so68 (D := D68) (code := code68) (n := 20) Try.func68 (by kernel_rfl) (by kernel_rfl) (by kernel_rfl) (fun w0 mu _ hs => (loops_of (l := [(0, b68_0)]) (by kernel_rfl) (List.forall_mem_cons.2 ⟨loop68_0 _ w0 mu hs, (List.forall_mem_nil _)⟩))) t68_eq

/-! ### f26: laws.markToken -/
noncomputable def code26 : Code := match Try.f26.body with | some c => c | none => .skip
def ps26 : List AP := [.lend [.int .i64, .int .i64, .int .i64, .int .i64, .int .i64, .own (.cons (.int .i64) .nil)], .val false [.int .i64]]
def rs26 : List RP := [{ src := .tmp 4, agg := false, ps := [.int .i64] }]
noncomputable def sl26 : SemL := [(62, (.io, .shr, .shr, sem62))]
def D26 : Draws := fun _ => .nil
noncomputable def L26 {R : Type} : Loops R := fun _ _ _ _ => none
noncomputable def laws_markToken (a0c0 : Int) (a0c1 : Int) (a0c2 : Int) (a0c3 : Int) (a0c4 : Int) (a0c5 : List (Int × Unit)) (k1 : Int) : Option (Int × (List (Int × Unit)) × Unit) :=
  Option.bind (laws_markIntS a0c5 k1) fun y1 =>
  some (y1.1, y1.2.1, ())
noncomputable def x26 (x : Int × Int × Int × Int × Int × (List (Int × Unit)) × Int × Unit) : Option (Int × (List (Int × Unit)) × Unit) := laws_markToken x.1 x.2.1 x.2.2.1 x.2.2.2.1 x.2.2.2.2.1 x.2.2.2.2.2.1 x.2.2.2.2.2.2.1
noncomputable def sem26 : Sem1 := semOf ps26 rs26 x26
theorem so26 : SemsOk Try.prog (semsOf sl26) := sems_cons k62 (sems_nil)
theorem t26_eq (x : denR (headRT (ps26.map some))) : codeK (tabOf tr) (semsOf sl26) D26 L26 code26 (start 10 ps26 x) (finK rs26 ps26) = x26 x := by kernel_rfl
theorem k26 : Known Try.prog 26 sem26 :=
  fn_auto tr_ok eq_ok mixed_ok so26 (D := D26) (code := code26) (n := 10) Try.func26 (by kernel_rfl) (by kernel_rfl) (by kernel_rfl) (fun w0 mu _ hs => (loops_of (l := []) (by kernel_rfl) (List.forall_mem_nil _))) t26_eq

/-! ### f35: laws.markMate -/
noncomputable def code35 : Code := match Try.f35.body with | some c => c | none => .skip
def ps35 : List AP := [.lend [.int .i64, .int .i64, .own (.cons (.int .i64) .nil), .own (.cons (.int .i64) (.cons (.int .i64) (.cons (.int .i64) (.cons .str .nil)))), .own (.cons (.int .i64) .nil), .own (.cons .str .nil), .int .i64, .int .i64, .int .i64, .int .i64, .int .i64, .int .i64, .int .i64, .int .i64, .int .i64, .own (.cons (.int .i64) .nil)], .val false [.int .i64]]
def rs35 : List RP := [{ src := .tmp 4, agg := false, ps := [.int .i64] }]
noncomputable def sl35 : SemL := [(36, (.lend, .shr, .shr, sem36)), (27, (.io, .shr, .shr, sem27)), (62, (.io, .shr, .shr, sem62)), (68, (.io, .shr, .shr, sem68)), (26, (.lend, .shr, .shr, sem26))]
def D35 : Draws := fun _ => .nil
noncomputable def L35 {R : Type} : Loops R := fun _ _ _ _ => none
noncomputable def laws_markMate (a0c0 : Int) (a0c1 : Int) (a0c2 : List (Int × Unit)) (a0c3 : List (Int × Int × Int × ByteArray × Unit)) (a0c4 : List (Int × Unit)) (a0c5 : List (ByteArray × Unit)) (a0c6 : Int) (a0c7 : Int) (a0c8 : Int) (a0c9 : Int) (a0c10 : Int) (a0c11 : Int) (a0c12 : Int) (a0c13 : Int) (a0c14 : Int) (a0c15 : List (Int × Unit)) (k1 : Int) : Option (Int × (List (Int × Unit)) × (List (Int × Int × Int × ByteArray × Unit)) × (List (Int × Unit)) × (List (ByteArray × Unit)) × (List (Int × Unit)) × Unit) :=
  Option.bind (laws_markRing a0c1 a0c2 k1) fun y1 =>
  Option.bind (laws_markItemS a0c3 y1.1) fun y2 =>
  Option.bind (laws_markIntS a0c4 y2.1) fun y3 =>
  Option.bind (laws_markStringS a0c5 y3.1) fun y4 =>
  Option.bind (laws_markToken a0c10 a0c11 a0c12 a0c13 a0c14 a0c15 y4.1) fun y5 =>
  some (y5.1, y1.2.1, y2.2.1, y3.2.1, y4.2.1, y5.2.1, ())
noncomputable def x35 (x : Int × Int × (List (Int × Unit)) × (List (Int × Int × Int × ByteArray × Unit)) × (List (Int × Unit)) × (List (ByteArray × Unit)) × Int × Int × Int × Int × Int × Int × Int × Int × Int × (List (Int × Unit)) × Int × Unit) : Option (Int × (List (Int × Unit)) × (List (Int × Int × Int × ByteArray × Unit)) × (List (Int × Unit)) × (List (ByteArray × Unit)) × (List (Int × Unit)) × Unit) := laws_markMate x.1 x.2.1 x.2.2.1 x.2.2.2.1 x.2.2.2.2.1 x.2.2.2.2.2.1 x.2.2.2.2.2.2.1 x.2.2.2.2.2.2.2.1 x.2.2.2.2.2.2.2.2.1 x.2.2.2.2.2.2.2.2.2.1 x.2.2.2.2.2.2.2.2.2.2.1 x.2.2.2.2.2.2.2.2.2.2.2.1 x.2.2.2.2.2.2.2.2.2.2.2.2.1 x.2.2.2.2.2.2.2.2.2.2.2.2.2.1 x.2.2.2.2.2.2.2.2.2.2.2.2.2.2.1 x.2.2.2.2.2.2.2.2.2.2.2.2.2.2.2.1 x.2.2.2.2.2.2.2.2.2.2.2.2.2.2.2.2.1
noncomputable def sem35 : Sem1 := semOf ps35 rs35 x35
theorem so35 : SemsOk Try.prog (semsOf sl35) := sems_cons k36 (sems_cons k27 (sems_cons k62 (sems_cons k68 (sems_cons k26 (sems_nil)))))
theorem t35_eq (x : denR (headRT (ps35.map some))) : codeK (tabOf tr) (semsOf sl35) D35 L35 code35 (start 26 ps35 x) (finK rs35 ps35) = x35 x := by kernel_rfl
theorem k35 : Known Try.prog 35 sem35 :=
  fn_auto tr_ok eq_ok mixed_ok so35 (D := D35) (code := code35) (n := 26) Try.func35 (by kernel_rfl) (by kernel_rfl) (by kernel_rfl) (fun w0 mu _ hs => (loops_of (l := []) (by kernel_rfl) (List.forall_mem_nil _))) t35_eq

/-! ### f37: laws.markBundleS -/
noncomputable def code37 : Code := match Try.f37.body with | some c => c | none => .skip
def ps37 : List AP := [.val false [.shr (.cons (.int .i64) (.cons (.int .i64) (.cons (.int .i64) (.cons (.sl (.cons (.int .i64) (.cons (.int .i64) (.cons (.int .i64) (.cons .str .nil))))) .nil))))], .val false [.int .i64]]
def rs37 : List RP := [{ src := .tmp 4, agg := false, ps := [.int .i64] }]
noncomputable def sl37 : SemL := []
def D37 : Draws := fun _ => .nil
def hp37_0 : List (Option AP) := [some (.val false [.shr (.cons (.int .i64) (.cons (.int .i64) (.cons (.int .i64) (.cons (.sl (.cons (.int .i64) (.cons (.int .i64) (.cons (.int .i64) (.cons .str .nil))))) .nil))))]), some (.val false [.int .i64]), none, none, none, some (.val false [.int .i64]), none, none, none, none, none, none, none, none, none, none, none, none, none, none, none, none, none, none, none, none, none, none, none, none, none, none, none, none, none, none, none, none, none, none, none]
def e37_0 : List (Option AP) := [none, some (.val false [.int .i64]), none, none, none, none, none, none, none, none, none, none, none, none, none, none, none, none, none, none, none, none, none, none, none, none, none, none, none, none, none, none, none, none, none, none, none, none, none, none, none]
def q37_0 : List (Option AP) := [none, none, none, none, none, none, none, none, none, none, none, none, none, none, none, none, none, none, none, none, none, none, none, none, none, none, none, none, none, none, none, none, none, none, none, none, none, none, none, none, none]
abbrev H37_0 : Type := (List (Int × Int × Int × (List (Int × Int × Int × ByteArray × Unit)) × Unit)) × Int × Int × Unit
abbrev E37_0 : Type := Int × Unit
abbrev Q37_0 : Type := Unit
noncomputable def laws_markBundleS_c0 (a0 : List (Int × Int × Int × (List (Int × Int × Int × ByteArray × Unit)) × Unit)) (k1 : Int) (i5 : Int) : Option (Sum H37_0 (Sum E37_0 Q37_0)) :=
  bif decide (i5 < ((List.length a0 : Nat) : Int)) then
    bif decide ((0 : Int) ≤ i5) then Option.bind ((a0)[Int.toNat i5]?) fun r1 =>
      none
    else none
  else
    some (.inr (.inl (k1, ())))
noncomputable def laws_markBundleS_r0 (x : H37_0) : Option (Sum H37_0 (Sum E37_0 Q37_0)) := laws_markBundleS_c0 x.1 x.2.1 x.2.2.1
noncomputable def L37 {R : Type} : Loops R := fun id _ st k => bif Nat.beq id 0 then loopAt hp37_0 e37_0 q37_0 laws_markBundleS_r0 st k else none
noncomputable def laws_markBundleS (a0 : List (Int × Int × Int × (List (Int × Int × Int × ByteArray × Unit)) × Unit)) (k1 : Int) : Option (Int × Unit) :=
  outK (loopV laws_markBundleS_r0 (a0, k1, (0 : Int), ())) (fun y1 =>
    some (y1.1, ())) (fun y2 =>
    none)
noncomputable def x37 (x : (List (Int × Int × Int × (List (Int × Int × Int × ByteArray × Unit)) × Unit)) × Int × Unit) : Option (Int × Unit) := laws_markBundleS x.1 x.2.1
noncomputable def sem37 : Sem1 := semOf ps37 rs37 x37
theorem so37 : SemsOk Try.prog (semsOf sl37) := sems_nil
noncomputable def b37_0 : Code := nthLoop code37 0
theorem t37_r0_eq (x : denR (headRT hp37_0)) : codeK (tabOf tr) (semsOf sl37) D37 L37 b37_0 (headSt hp37_0 x) (roundK 0 hp37_0 e37_0 q37_0) = laws_markBundleS_r0 x := by kernel_rfl
theorem loop37_0 {R : Type} (r : R) (w0 : World) (mu : Mu) (hs : AnShape ps37 mu) : LoopAt Try.prog w0 mu 41 (L37 : Loops R) r 0 b37_0 :=
  loop_auto tr_ok eq_ok mixed_ok so37 (D := D37) hs (by kernel_rfl) (fun _ => (loops_of (l := []) (by kernel_rfl) (List.forall_mem_nil _))) t37_r0_eq (fun _ _ => rfl)
theorem t37_eq (x : denR (headRT (ps37.map some))) : codeK (tabOf tr) (semsOf sl37) D37 L37 code37 (start 41 ps37 x) (finK rs37 ps37) = x37 x := by kernel_rfl
theorem k37 : Known Try.prog 37 sem37 :=
  fn_auto tr_ok eq_ok mixed_ok so37 (D := D37) (code := code37) (n := 41) Try.func37 (by kernel_rfl) (by kernel_rfl) (by kernel_rfl) (fun w0 mu _ hs => (loops_of (l := [(0, b37_0)]) (by kernel_rfl) (List.forall_mem_cons.2 ⟨loop37_0 _ w0 mu hs, (List.forall_mem_nil _)⟩))) t37_eq

/-! ### f38: laws.markEventS -/
noncomputable def code38 : Code := match Try.f38.body with | some c => c | none => .skip
def ps38 : List AP := [.val false [.shr (.cons (.int .i64) (.cons (.int .i64) (.cons (.sl (.cons (.int .i64) .nil)) (.cons (.int .i64) (.cons (.int .i64) (.cons (.int .i64) (.cons .str (.cons (.sl (.cons (.int .i64) .nil)) .nil))))))))], .val false [.int .i64]]
def rs38 : List RP := [{ src := .tmp 4, agg := false, ps := [.int .i64] }]
noncomputable def sl38 : SemL := []
def D38 : Draws := fun _ => .nil
def hp38_0 : List (Option AP) := [some (.val false [.shr (.cons (.int .i64) (.cons (.int .i64) (.cons (.sl (.cons (.int .i64) .nil)) (.cons (.int .i64) (.cons (.int .i64) (.cons (.int .i64) (.cons .str (.cons (.sl (.cons (.int .i64) .nil)) .nil))))))))]), some (.val false [.int .i64]), none, none, none, some (.val false [.int .i64]), none, none, none, none, none, none, none, none, none, none, none, none, none, none, none, none, none, none, none, none, none, none, none, none, none, none, none, none, none, none, none, none, none, none, none, none, none, none, none, none, none, none, none, none, none, none, none, none, none, none, none, none, none, none, none, none, none, none, none, none, none, none, none, none, none, none, none, none, none, none]
def e38_0 : List (Option AP) := [none, some (.val false [.int .i64]), none, none, none, none, none, none, none, none, none, none, none, none, none, none, none, none, none, none, none, none, none, none, none, none, none, none, none, none, none, none, none, none, none, none, none, none, none, none, none, none, none, none, none, none, none, none, none, none, none, none, none, none, none, none, none, none, none, none, none, none, none, none, none, none, none, none, none, none, none, none, none, none, none, none]
def q38_0 : List (Option AP) := [none, none, none, none, none, none, none, none, none, none, none, none, none, none, none, none, none, none, none, none, none, none, none, none, none, none, none, none, none, none, none, none, none, none, none, none, none, none, none, none, none, none, none, none, none, none, none, none, none, none, none, none, none, none, none, none, none, none, none, none, none, none, none, none, none, none, none, none, none, none, none, none, none, none, none, none]
abbrev H38_0 : Type := (List (Int × Int × (List (Int × Unit)) × Int × Int × Int × ByteArray × (List (Int × Unit)) × Unit)) × Int × Int × Unit
abbrev E38_0 : Type := Int × Unit
abbrev Q38_0 : Type := Unit
noncomputable def laws_markEventS_c0 (a0 : List (Int × Int × (List (Int × Unit)) × Int × Int × Int × ByteArray × (List (Int × Unit)) × Unit)) (k1 : Int) (i5 : Int) : Option (Sum H38_0 (Sum E38_0 Q38_0)) :=
  bif decide (i5 < ((List.length a0 : Nat) : Int)) then
    bif decide ((0 : Int) ≤ i5) then Option.bind ((a0)[Int.toNat i5]?) fun r1 =>
      none
    else none
  else
    some (.inr (.inl (k1, ())))
noncomputable def laws_markEventS_r0 (x : H38_0) : Option (Sum H38_0 (Sum E38_0 Q38_0)) := laws_markEventS_c0 x.1 x.2.1 x.2.2.1
noncomputable def L38 {R : Type} : Loops R := fun id _ st k => bif Nat.beq id 0 then loopAt hp38_0 e38_0 q38_0 laws_markEventS_r0 st k else none
noncomputable def laws_markEventS (a0 : List (Int × Int × (List (Int × Unit)) × Int × Int × Int × ByteArray × (List (Int × Unit)) × Unit)) (k1 : Int) : Option (Int × Unit) :=
  outK (loopV laws_markEventS_r0 (a0, k1, (0 : Int), ())) (fun y1 =>
    some (y1.1, ())) (fun y2 =>
    none)
noncomputable def x38 (x : (List (Int × Int × (List (Int × Unit)) × Int × Int × Int × ByteArray × (List (Int × Unit)) × Unit)) × Int × Unit) : Option (Int × Unit) := laws_markEventS x.1 x.2.1
noncomputable def sem38 : Sem1 := semOf ps38 rs38 x38
theorem so38 : SemsOk Try.prog (semsOf sl38) := sems_nil
noncomputable def b38_0 : Code := nthLoop code38 0
theorem t38_r0_eq (x : denR (headRT hp38_0)) : codeK (tabOf tr) (semsOf sl38) D38 L38 b38_0 (headSt hp38_0 x) (roundK 0 hp38_0 e38_0 q38_0) = laws_markEventS_r0 x := by kernel_rfl
theorem loop38_0 {R : Type} (r : R) (w0 : World) (mu : Mu) (hs : AnShape ps38 mu) : LoopAt Try.prog w0 mu 76 (L38 : Loops R) r 0 b38_0 :=
  loop_auto tr_ok eq_ok mixed_ok so38 (D := D38) hs (by kernel_rfl) (fun _ => (loops_of (l := []) (by kernel_rfl) (List.forall_mem_nil _))) t38_r0_eq (fun _ _ => rfl)
theorem t38_eq (x : denR (headRT (ps38.map some))) : codeK (tabOf tr) (semsOf sl38) D38 L38 code38 (start 76 ps38 x) (finK rs38 ps38) = x38 x := by kernel_rfl
theorem k38 : Known Try.prog 38 sem38 :=
  fn_auto tr_ok eq_ok mixed_ok so38 (D := D38) (code := code38) (n := 76) Try.func38 (by kernel_rfl) (by kernel_rfl) (by kernel_rfl) (fun w0 mu _ hs => (loops_of (l := [(0, b38_0)]) (by kernel_rfl) (List.forall_mem_cons.2 ⟨loop38_0 _ w0 mu hs, (List.forall_mem_nil _)⟩))) t38_eq

/-! ### f9: laws.markDaemon -/
noncomputable def code9 : Code := match Try.f9.body with | some c => c | none => .skip
def ps9 : List AP := [.lend [.int .i64, .bool, .int .i64, .int .i64, .own (.cons (.int .i64) .nil), .own (.cons (.int .i64) (.cons (.int .i64) (.cons (.int .i64) (.cons .str .nil)))), .own (.cons (.int .i64) .nil), .own (.cons .str .nil), .int .i64, .int .i64, .int .i64, .int .i64, .int .i64, .int .i64, .int .i64, .int .i64, .int .i64, .own (.cons (.int .i64) .nil), .int .i64, .int .i64, .int .i64, .own (.cons (.int .i64) .nil), .own (.cons (.int .i64) (.cons (.int .i64) (.cons (.int .i64) (.cons (.sl (.cons (.int .i64) (.cons (.int .i64) (.cons (.int .i64) (.cons .str .nil))))) .nil)))), .own (.cons (.int .i64) (.cons (.int .i64) (.cons (.sl (.cons (.int .i64) .nil)) (.cons (.int .i64) (.cons (.int .i64) (.cons (.int .i64) (.cons .str (.cons (.sl (.cons (.int .i64) .nil)) .nil))))))))], .val false [.int .i64]]
def rs9 : List RP := [{ src := .tmp 4, agg := false, ps := [.int .i64] }]
noncomputable def sl9 : SemL := [(35, (.lend, .shr, .shr, sem35)), (36, (.lend, .shr, .shr, sem36)), (37, (.shr, .shr, .shr, sem37)), (38, (.shr, .shr, .shr, sem38))]
def D9 : Draws := fun _ => .nil
noncomputable def L9 {R : Type} : Loops R := fun _ _ _ _ => none
noncomputable def laws_markDaemon (a0c0 : Int) (a0c1 : Bool) (a0c2 : Int) (a0c3 : Int) (a0c4 : List (Int × Unit)) (a0c5 : List (Int × Int × Int × ByteArray × Unit)) (a0c6 : List (Int × Unit)) (a0c7 : List (ByteArray × Unit)) (a0c8 : Int) (a0c9 : Int) (a0c10 : Int) (a0c11 : Int) (a0c12 : Int) (a0c13 : Int) (a0c14 : Int) (a0c15 : Int) (a0c16 : Int) (a0c17 : List (Int × Unit)) (a0c18 : Int) (a0c19 : Int) (a0c20 : Int) (a0c21 : List (Int × Unit)) (a0c22 : List (Int × Int × Int × (List (Int × Int × Int × ByteArray × Unit)) × Unit)) (a0c23 : List (Int × Int × (List (Int × Unit)) × Int × Int × Int × ByteArray × (List (Int × Unit)) × Unit)) (k1 : Int) : Option (Int × (List (Int × Unit)) × (List (Int × Int × Int × ByteArray × Unit)) × (List (Int × Unit)) × (List (ByteArray × Unit)) × (List (Int × Unit)) × (List (Int × Unit)) × (List (Int × Int × Int × (List (Int × Int × Int × ByteArray × Unit)) × Unit)) × (List (Int × Int × (List (Int × Unit)) × Int × Int × Int × ByteArray × (List (Int × Unit)) × Unit)) × Unit) :=
  Option.bind (laws_markMate a0c2 a0c3 a0c4 a0c5 a0c6 a0c7 a0c8 a0c9 a0c10 a0c11 a0c12 a0c13 a0c14 a0c15 a0c16 a0c17 k1) fun y1 =>
  Option.bind (laws_markRing a0c20 a0c21 y1.1) fun y2 =>
  Option.bind (laws_markBundleS a0c22 y2.1) fun y3 =>
  Option.bind (laws_markEventS a0c23 y3.1) fun y4 =>
  some (y4.1, y1.2.1, y1.2.2.1, y1.2.2.2.1, y1.2.2.2.2.1, y1.2.2.2.2.2.1, y2.2.1, a0c22, a0c23, ())
noncomputable def x9 (x : Int × Bool × Int × Int × (List (Int × Unit)) × (List (Int × Int × Int × ByteArray × Unit)) × (List (Int × Unit)) × (List (ByteArray × Unit)) × Int × Int × Int × Int × Int × Int × Int × Int × Int × (List (Int × Unit)) × Int × Int × Int × (List (Int × Unit)) × (List (Int × Int × Int × (List (Int × Int × Int × ByteArray × Unit)) × Unit)) × (List (Int × Int × (List (Int × Unit)) × Int × Int × Int × ByteArray × (List (Int × Unit)) × Unit)) × Int × Unit) : Option (Int × (List (Int × Unit)) × (List (Int × Int × Int × ByteArray × Unit)) × (List (Int × Unit)) × (List (ByteArray × Unit)) × (List (Int × Unit)) × (List (Int × Unit)) × (List (Int × Int × Int × (List (Int × Int × Int × ByteArray × Unit)) × Unit)) × (List (Int × Int × (List (Int × Unit)) × Int × Int × Int × ByteArray × (List (Int × Unit)) × Unit)) × Unit) := laws_markDaemon x.1 x.2.1 x.2.2.1 x.2.2.2.1 x.2.2.2.2.1 x.2.2.2.2.2.1 x.2.2.2.2.2.2.1 x.2.2.2.2.2.2.2.1 x.2.2.2.2.2.2.2.2.1 x.2.2.2.2.2.2.2.2.2.1 x.2.2.2.2.2.2.2.2.2.2.1 x.2.2.2.2.2.2.2.2.2.2.2.1 x.2.2.2.2.2.2.2.2.2.2.2.2.1 x.2.2.2.2.2.2.2.2.2.2.2.2.2.1 x.2.2.2.2.2.2.2.2.2.2.2.2.2.2.1 x.2.2.2.2.2.2.2.2.2.2.2.2.2.2.2.1 x.2.2.2.2.2.2.2.2.2.2.2.2.2.2.2.2.1 x.2.2.2.2.2.2.2.2.2.2.2.2.2.2.2.2.2.1 x.2.2.2.2.2.2.2.2.2.2.2.2.2.2.2.2.2.2.1 x.2.2.2.2.2.2.2.2.2.2.2.2.2.2.2.2.2.2.2.1 x.2.2.2.2.2.2.2.2.2.2.2.2.2.2.2.2.2.2.2.2.1 x.2.2.2.2.2.2.2.2.2.2.2.2.2.2.2.2.2.2.2.2.2.1 x.2.2.2.2.2.2.2.2.2.2.2.2.2.2.2.2.2.2.2.2.2.2.1 x.2.2.2.2.2.2.2.2.2.2.2.2.2.2.2.2.2.2.2.2.2.2.2.1 x.2.2.2.2.2.2.2.2.2.2.2.2.2.2.2.2.2.2.2.2.2.2.2.2.1
noncomputable def sem9 : Sem1 := semOf ps9 rs9 x9
theorem so9 : SemsOk Try.prog (semsOf sl9) := sems_cons k35 (sems_cons k36 (sems_cons k37 (sems_cons k38 (sems_nil))))
theorem t9_eq (x : denR (headRT (ps9.map some))) : codeK (tabOf tr) (semsOf sl9) D9 L9 code9 (start 22 ps9 x) (finK rs9 ps9) = x9 x := by kernel_rfl
theorem k9 : Known Try.prog 9 sem9 :=
  fn_auto tr_ok eq_ok mixed_ok so9 (D := D9) (code := code9) (n := 22) Try.func9 (by kernel_rfl) (by kernel_rfl) (by kernel_rfl) (fun w0 mu _ hs => (loops_of (l := []) (by kernel_rfl) (List.forall_mem_nil _))) t9_eq

/-! ### f64: laws.heldIntS -/
noncomputable def code64 : Code := match Try.f64.body with | some c => c | none => .skip
def ps64 : List AP := [.val false [.shr (.cons (.int .i64) .nil)], .val false [.int .i64]]
def rs64 : List RP := [{ src := .tmp 4, agg := false, ps := [.int .i64] }]
noncomputable def sl64 : SemL := []
def D64 : Draws := fun _ => .nil
def hp64_0 : List (Option AP) := [some (.val false [.shr (.cons (.int .i64) .nil)]), some (.val false [.int .i64]), none, none, none, some (.val false [.int .i64]), none, none, none, none, none, none, none, none, none, none, none, none, none, none, none]
def e64_0 : List (Option AP) := [none, some (.val false [.int .i64]), none, none, none, none, none, none, none, none, none, none, none, none, none, none, none, none, none, none, none]
def q64_0 : List (Option AP) := [none, none, none, none, some (.val false [.int .i64]), none, none, none, none, none, none, none, none, none, none, none, none, none, none, none, none]
abbrev H64_0 : Type := (List (Int × Unit)) × Int × Int × Unit
abbrev E64_0 : Type := Int × Unit
abbrev Q64_0 : Type := Int × Unit
noncomputable def laws_heldIntS_c0 (a0 : List (Int × Unit)) (k1 : Int) (i5 : Int) : Option (Sum H64_0 (Sum E64_0 Q64_0)) :=
  bif decide (i5 < ((List.length a0 : Nat) : Int)) then
    bif decide ((0 : Int) ≤ i5) then Option.bind ((a0)[Int.toNat i5]?) fun r1 =>
      bif !decide (r1.1 = k1) then
        some (.inr (.inr ((-1 : Int), ())))
      else
        some (.inl (a0, IntKind.i64.wrap (k1 + (1 : Int)), IntKind.i64.wrap (i5 + (1 : Int)), ()))
    else none
  else
    some (.inr (.inl (k1, ())))
noncomputable def laws_heldIntS_r0 (x : H64_0) : Option (Sum H64_0 (Sum E64_0 Q64_0)) := laws_heldIntS_c0 x.1 x.2.1 x.2.2.1
noncomputable def L64 {R : Type} : Loops R := fun id _ st k => bif Nat.beq id 0 then loopAt hp64_0 e64_0 q64_0 laws_heldIntS_r0 st k else none
noncomputable def laws_heldIntS (a0 : List (Int × Unit)) (k1 : Int) : Option (Int × Unit) :=
  outK (loopV laws_heldIntS_r0 (a0, k1, (0 : Int), ())) (fun y1 =>
    some (y1.1, ())) (fun y2 =>
    some (y2.1, ()))
noncomputable def x64 (x : (List (Int × Unit)) × Int × Unit) : Option (Int × Unit) := laws_heldIntS x.1 x.2.1
noncomputable def sem64 : Sem1 := semOf ps64 rs64 x64
theorem so64 : SemsOk Try.prog (semsOf sl64) := sems_nil
noncomputable def b64_0 : Code := nthLoop code64 0
theorem t64_r0_eq (x : denR (headRT hp64_0)) : codeK (tabOf tr) (semsOf sl64) D64 L64 b64_0 (headSt hp64_0 x) (roundK 0 hp64_0 e64_0 q64_0) = laws_heldIntS_r0 x := by kernel_rfl
theorem loop64_0 {R : Type} (r : R) (w0 : World) (mu : Mu) (hs : AnShape ps64 mu) : LoopAt Try.prog w0 mu 21 (L64 : Loops R) r 0 b64_0 :=
  loop_auto tr_ok eq_ok mixed_ok so64 (D := D64) hs (by kernel_rfl) (fun _ => (loops_of (l := []) (by kernel_rfl) (List.forall_mem_nil _))) t64_r0_eq (fun _ _ => rfl)
theorem t64_eq (x : denR (headRT (ps64.map some))) : codeK (tabOf tr) (semsOf sl64) D64 L64 code64 (start 21 ps64 x) (finK rs64 ps64) = x64 x := by kernel_rfl
theorem k64 : Known Try.prog 64 sem64 :=
  fn_auto tr_ok eq_ok mixed_ok so64 (D := D64) (code := code64) (n := 21) Try.func64 (by kernel_rfl) (by kernel_rfl) (by kernel_rfl) (fun w0 mu _ hs => (loops_of (l := [(0, b64_0)]) (by kernel_rfl) (List.forall_mem_cons.2 ⟨loop64_0 _ w0 mu hs, (List.forall_mem_nil _)⟩))) t64_eq

/-! ### f40: laws.heldRing -/
noncomputable def code40 : Code := match Try.f40.body with | some c => c | none => .skip
def ps40 : List AP := [.val true [.int .i64, .shr (.cons (.int .i64) .nil)], .val false [.int .i64]]
def rs40 : List RP := [{ src := .tmp 4, agg := false, ps := [.int .i64] }]
noncomputable def sl40 : SemL := [(64, (.shr, .shr, .shr, sem64))]
def D40 : Draws := fun _ => .nil
noncomputable def L40 {R : Type} : Loops R := fun _ _ _ _ => none
noncomputable def laws_heldRing (a0c0 : Int) (a0c1 : List (Int × Unit)) (k1 : Int) : Option (Int × Unit) :=
  Option.bind (laws_heldIntS a0c1 k1) fun y1 =>
  bif decide (y1.1 < (0 : Int)) then
    some ((-1 : Int), ())
  else
    some (y1.1, ())
noncomputable def x40 (x : Int × (List (Int × Unit)) × Int × Unit) : Option (Int × Unit) := laws_heldRing x.1 x.2.1 x.2.2.1
noncomputable def sem40 : Sem1 := semOf ps40 rs40 x40
theorem so40 : SemsOk Try.prog (semsOf sl40) := sems_cons k64 (sems_nil)
theorem t40_eq (x : denR (headRT (ps40.map some))) : codeK (tabOf tr) (semsOf sl40) D40 L40 code40 (start 12 ps40 x) (finK rs40 ps40) = x40 x := by kernel_rfl
theorem k40 : Known Try.prog 40 sem40 :=
  fn_auto tr_ok eq_ok mixed_ok so40 (D := D40) (code := code40) (n := 12) Try.func40 (by kernel_rfl) (by kernel_rfl) (by kernel_rfl) (fun w0 mu _ hs => (loops_of (l := []) (by kernel_rfl) (List.forall_mem_nil _))) t40_eq

/-! ### f69: laws.heldItemS -/
noncomputable def code69 : Code := match Try.f69.body with | some c => c | none => .skip
def ps69 : List AP := [.val false [.shr (.cons (.int .i64) (.cons (.int .i64) (.cons (.int .i64) (.cons .str .nil))))], .val false [.int .i64]]
def rs69 : List RP := [{ src := .tmp 4, agg := false, ps := [.int .i64] }]
noncomputable def sl69 : SemL := [(63, (.shr, .shr, .shr, sem63))]
def D69 : Draws := fun id => bif Nat.beq id 13 then .op 0 .any (.op 1 .any (.op 2 .any (.op 3 .any (.op 4 .take (.op 5 .any (.op 6 .one (.op 7 .any (.nil)))))))) else .nil
def hp69_0 : List (Option AP) := [some (.val false [.shr (.cons (.int .i64) (.cons (.int .i64) (.cons (.int .i64) (.cons .str .nil))))]), some (.val false [.int .i64]), none, none, none, some (.val false [.int .i64]), none, none, none, none, none, none, none, none, none, none, none, none, none, none, none, none, none, none, none, none, none, none, none, none, none, none, none, none, none, none, none, none, none, none, none, none, none, none, none, none, none, none, none, none]
def e69_0 : List (Option AP) := [none, some (.val false [.int .i64]), none, none, none, none, none, none, none, none, none, none, none, none, none, none, none, none, none, none, none, none, none, none, none, none, none, none, none, none, none, none, none, none, none, none, none, none, none, none, none, none, none, none, none, none, none, none, none, none]
def q69_0 : List (Option AP) := [none, none, none, none, some (.val false [.int .i64]), none, none, none, none, none, none, none, none, none, none, none, none, none, none, none, none, none, none, none, none, none, none, none, none, none, none, none, none, none, none, none, none, none, none, none, none, none, none, none, none, none, none, none, none, none]
abbrev H69_0 : Type := (List (Int × Int × Int × ByteArray × Unit)) × Int × Int × Unit
abbrev E69_0 : Type := Int × Unit
abbrev Q69_0 : Type := Int × Unit
noncomputable def laws_heldItemS_c0 (a0 : List (Int × Int × Int × ByteArray × Unit)) (k1 : Int) (i5 : Int) : Option (Sum H69_0 (Sum E69_0 Q69_0)) :=
  bif decide (i5 < ((List.length a0 : Nat) : Int)) then
    bif decide ((0 : Int) ≤ i5) then Option.bind ((a0)[Int.toNat i5]?) fun r1 =>
      bif !decide (r1.1 = k1) then
        some (.inr (.inr ((-1 : Int), ())))
      else bif decide ((0 : Int) ≤ i5) then Option.bind ((a0)[Int.toNat i5]?) fun r2 =>
        bif !decide (r2.2.1 = IntKind.i64.wrap (k1 + (1 : Int))) then
          some (.inr (.inr ((-1 : Int), ())))
        else bif decide ((0 : Int) ≤ i5) then Option.bind ((a0)[Int.toNat i5]?) fun r3 =>
          bif !decide (r3.2.2.1 = IntKind.i64.wrap ((IntKind.i64.wrap (k1 + (1 : Int))) + (1 : Int))) then
            some (.inr (.inr ((-1 : Int), ())))
          else bif decide ((0 : Int) ≤ i5) then Option.bind ((a0)[Int.toNat i5]?) fun r4 =>
            Option.bind (laws_markText (IntKind.i64.wrap ((IntKind.i64.wrap ((IntKind.i64.wrap (k1 + (1 : Int))) + (1 : Int))) + (1 : Int)))) fun y5 =>
            bif !strEq r4.2.2.2.1 y5.1 then
              some (.inr (.inr ((-1 : Int), ())))
            else
              some (.inl (a0, IntKind.i64.wrap ((IntKind.i64.wrap ((IntKind.i64.wrap ((IntKind.i64.wrap (k1 + (1 : Int))) + (1 : Int))) + (1 : Int))) + (1 : Int)), IntKind.i64.wrap (i5 + (1 : Int)), ()))
          else none
        else none
      else none
    else none
  else
    some (.inr (.inl (k1, ())))
noncomputable def laws_heldItemS_r0 (x : H69_0) : Option (Sum H69_0 (Sum E69_0 Q69_0)) := laws_heldItemS_c0 x.1 x.2.1 x.2.2.1
noncomputable def L69 {R : Type} : Loops R := fun id _ st k => bif Nat.beq id 0 then loopAt hp69_0 e69_0 q69_0 laws_heldItemS_r0 st k else none
noncomputable def laws_heldItemS (a0 : List (Int × Int × Int × ByteArray × Unit)) (k1 : Int) : Option (Int × Unit) :=
  outK (loopV laws_heldItemS_r0 (a0, k1, (0 : Int), ())) (fun y1 =>
    some (y1.1, ())) (fun y2 =>
    some (y2.1, ()))
noncomputable def x69 (x : (List (Int × Int × Int × ByteArray × Unit)) × Int × Unit) : Option (Int × Unit) := laws_heldItemS x.1 x.2.1
noncomputable def sem69 : Sem1 := semOf ps69 rs69 x69
theorem so69 : SemsOk Try.prog (semsOf sl69) := sems_cons k63 (sems_nil)
noncomputable def b69_0 : Code := nthLoop code69 0
theorem t69_r0_eq (x : denR (headRT hp69_0)) : codeK (tabOf tr) (semsOf sl69) D69 L69 b69_0 (headSt hp69_0 x) (roundK 0 hp69_0 e69_0 q69_0) = laws_heldItemS_r0 x := by kernel_rfl
theorem loop69_0 {R : Type} (r : R) (w0 : World) (mu : Mu) (hs : AnShape ps69 mu) : LoopAt Try.prog w0 mu 50 (L69 : Loops R) r 0 b69_0 :=
  loop_auto tr_ok eq_ok mixed_ok so69 (D := D69) hs (by kernel_rfl) (fun _ => (loops_of (l := []) (by kernel_rfl) (List.forall_mem_nil _))) t69_r0_eq (fun _ _ => rfl)
theorem t69_eq (x : denR (headRT (ps69.map some))) : codeK (tabOf tr) (semsOf sl69) D69 L69 code69 (start 50 ps69 x) (finK rs69 ps69) = x69 x := by kernel_rfl
theorem k69 : Known Try.prog 69 sem69 :=
  fn_auto tr_ok eq_ok mixed_ok so69 (D := D69) (code := code69) (n := 50) Try.func69 (by kernel_rfl) (by kernel_rfl) (by kernel_rfl) (fun w0 mu _ hs => (loops_of (l := [(0, b69_0)]) (by kernel_rfl) (List.forall_mem_cons.2 ⟨loop69_0 _ w0 mu hs, (List.forall_mem_nil _)⟩))) t69_eq

/-! ### f70: laws.heldStringS -/
noncomputable def code70 : Code := match Try.f70.body with | some c => c | none => .skip
def ps70 : List AP := [.val false [.shr (.cons .str .nil)], .val false [.int .i64]]
def rs70 : List RP := [{ src := .tmp 4, agg := false, ps := [.int .i64] }]
noncomputable def sl70 : SemL := [(63, (.shr, .shr, .shr, sem63))]
def D70 : Draws := fun id => bif Nat.beq id 4 then .op 0 .any (.op 1 .any (.op 2 .any (.op 3 .take (.op 4 .any (.op 5 .one (.op 6 .any (.nil))))))) else .nil
def hp70_0 : List (Option AP) := [some (.val false [.shr (.cons .str .nil)]), some (.val false [.int .i64]), none, none, none, some (.val false [.int .i64]), none, none, none, none, none, none, none, none, none, none, none, none, none, none, none, none]
def e70_0 : List (Option AP) := [none, some (.val false [.int .i64]), none, none, none, none, none, none, none, none, none, none, none, none, none, none, none, none, none, none, none, none]
def q70_0 : List (Option AP) := [none, none, none, none, some (.val false [.int .i64]), none, none, none, none, none, none, none, none, none, none, none, none, none, none, none, none, none]
abbrev H70_0 : Type := (List (ByteArray × Unit)) × Int × Int × Unit
abbrev E70_0 : Type := Int × Unit
abbrev Q70_0 : Type := Int × Unit
noncomputable def laws_heldStringS_c0 (a0 : List (ByteArray × Unit)) (k1 : Int) (i5 : Int) : Option (Sum H70_0 (Sum E70_0 Q70_0)) :=
  bif decide (i5 < ((List.length a0 : Nat) : Int)) then
    bif decide ((0 : Int) ≤ i5) then Option.bind ((a0)[Int.toNat i5]?) fun r1 =>
      Option.bind (laws_markText k1) fun y2 =>
      bif !strEq r1.1 y2.1 then
        some (.inr (.inr ((-1 : Int), ())))
      else
        some (.inl (a0, IntKind.i64.wrap (k1 + (1 : Int)), IntKind.i64.wrap (i5 + (1 : Int)), ()))
    else none
  else
    some (.inr (.inl (k1, ())))
noncomputable def laws_heldStringS_r0 (x : H70_0) : Option (Sum H70_0 (Sum E70_0 Q70_0)) := laws_heldStringS_c0 x.1 x.2.1 x.2.2.1
noncomputable def L70 {R : Type} : Loops R := fun id _ st k => bif Nat.beq id 0 then loopAt hp70_0 e70_0 q70_0 laws_heldStringS_r0 st k else none
noncomputable def laws_heldStringS (a0 : List (ByteArray × Unit)) (k1 : Int) : Option (Int × Unit) :=
  outK (loopV laws_heldStringS_r0 (a0, k1, (0 : Int), ())) (fun y1 =>
    some (y1.1, ())) (fun y2 =>
    some (y2.1, ()))
noncomputable def x70 (x : (List (ByteArray × Unit)) × Int × Unit) : Option (Int × Unit) := laws_heldStringS x.1 x.2.1
noncomputable def sem70 : Sem1 := semOf ps70 rs70 x70
theorem so70 : SemsOk Try.prog (semsOf sl70) := sems_cons k63 (sems_nil)
noncomputable def b70_0 : Code := nthLoop code70 0
theorem t70_r0_eq (x : denR (headRT hp70_0)) : codeK (tabOf tr) (semsOf sl70) D70 L70 b70_0 (headSt hp70_0 x) (roundK 0 hp70_0 e70_0 q70_0) = laws_heldStringS_r0 x := by kernel_rfl
theorem loop70_0 {R : Type} (r : R) (w0 : World) (mu : Mu) (hs : AnShape ps70 mu) : LoopAt Try.prog w0 mu 22 (L70 : Loops R) r 0 b70_0 :=
  loop_auto tr_ok eq_ok mixed_ok so70 (D := D70) hs (by kernel_rfl) (fun _ => (loops_of (l := []) (by kernel_rfl) (List.forall_mem_nil _))) t70_r0_eq (fun _ _ => rfl)
theorem t70_eq (x : denR (headRT (ps70.map some))) : codeK (tabOf tr) (semsOf sl70) D70 L70 code70 (start 22 ps70 x) (finK rs70 ps70) = x70 x := by kernel_rfl
theorem k70 : Known Try.prog 70 sem70 :=
  fn_auto tr_ok eq_ok mixed_ok so70 (D := D70) (code := code70) (n := 22) Try.func70 (by kernel_rfl) (by kernel_rfl) (by kernel_rfl) (fun w0 mu _ hs => (loops_of (l := [(0, b70_0)]) (by kernel_rfl) (List.forall_mem_cons.2 ⟨loop70_0 _ w0 mu hs, (List.forall_mem_nil _)⟩))) t70_eq

/-! ### f28: laws.heldToken -/
noncomputable def code28 : Code := match Try.f28.body with | some c => c | none => .skip
def ps28 : List AP := [.val true [.int .i64, .int .i64, .int .i64, .int .i64, .int .i64, .shr (.cons (.int .i64) .nil)], .val false [.int .i64]]
def rs28 : List RP := [{ src := .tmp 4, agg := false, ps := [.int .i64] }]
noncomputable def sl28 : SemL := [(64, (.shr, .shr, .shr, sem64))]
def D28 : Draws := fun _ => .nil
noncomputable def L28 {R : Type} : Loops R := fun _ _ _ _ => none
noncomputable def laws_heldToken (a0c0 : Int) (a0c1 : Int) (a0c2 : Int) (a0c3 : Int) (a0c4 : Int) (a0c5 : List (Int × Unit)) (k1 : Int) : Option (Int × Unit) :=
  Option.bind (laws_heldIntS a0c5 k1) fun y1 =>
  bif decide (y1.1 < (0 : Int)) then
    some ((-1 : Int), ())
  else
    some (y1.1, ())
noncomputable def x28 (x : Int × Int × Int × Int × Int × (List (Int × Unit)) × Int × Unit) : Option (Int × Unit) := laws_heldToken x.1 x.2.1 x.2.2.1 x.2.2.2.1 x.2.2.2.2.1 x.2.2.2.2.2.1 x.2.2.2.2.2.2.1
noncomputable def sem28 : Sem1 := semOf ps28 rs28 x28
theorem so28 : SemsOk Try.prog (semsOf sl28) := sems_cons k64 (sems_nil)
theorem t28_eq (x : denR (headRT (ps28.map some))) : codeK (tabOf tr) (semsOf sl28) D28 L28 code28 (start 12 ps28 x) (finK rs28 ps28) = x28 x := by kernel_rfl
theorem k28 : Known Try.prog 28 sem28 :=
  fn_auto tr_ok eq_ok mixed_ok so28 (D := D28) (code := code28) (n := 12) Try.func28 (by kernel_rfl) (by kernel_rfl) (by kernel_rfl) (fun w0 mu _ hs => (loops_of (l := []) (by kernel_rfl) (List.forall_mem_nil _))) t28_eq

/-! ### f39: laws.heldMate -/
noncomputable def code39 : Code := match Try.f39.body with | some c => c | none => .skip
def ps39 : List AP := [.val true [.int .i64, .int .i64, .shr (.cons (.int .i64) .nil), .shr (.cons (.int .i64) (.cons (.int .i64) (.cons (.int .i64) (.cons .str .nil)))), .shr (.cons (.int .i64) .nil), .shr (.cons .str .nil), .int .i64, .int .i64, .int .i64, .int .i64, .int .i64, .int .i64, .int .i64, .int .i64, .int .i64, .shr (.cons (.int .i64) .nil)], .val false [.int .i64]]
def rs39 : List RP := [{ src := .tmp 4, agg := false, ps := [.int .i64] }]
noncomputable def sl39 : SemL := [(40, (.shr, .shr, .shr, sem40)), (69, (.shr, .shr, .shr, sem69)), (64, (.shr, .shr, .shr, sem64)), (70, (.shr, .shr, .shr, sem70)), (28, (.shr, .shr, .shr, sem28))]
def D39 : Draws := fun _ => .nil
noncomputable def L39 {R : Type} : Loops R := fun _ _ _ _ => none
noncomputable def laws_heldMate (a0c0 : Int) (a0c1 : Int) (a0c2 : List (Int × Unit)) (a0c3 : List (Int × Int × Int × ByteArray × Unit)) (a0c4 : List (Int × Unit)) (a0c5 : List (ByteArray × Unit)) (a0c6 : Int) (a0c7 : Int) (a0c8 : Int) (a0c9 : Int) (a0c10 : Int) (a0c11 : Int) (a0c12 : Int) (a0c13 : Int) (a0c14 : Int) (a0c15 : List (Int × Unit)) (k1 : Int) : Option (Int × Unit) :=
  Option.bind (laws_heldRing a0c1 a0c2 k1) fun y1 =>
  bif decide (y1.1 < (0 : Int)) then
    some ((-1 : Int), ())
  else
    Option.bind (laws_heldItemS a0c3 y1.1) fun y2 =>
    bif decide (y2.1 < (0 : Int)) then
      some ((-1 : Int), ())
    else
      Option.bind (laws_heldIntS a0c4 y2.1) fun y3 =>
      bif decide (y3.1 < (0 : Int)) then
        some ((-1 : Int), ())
      else
        Option.bind (laws_heldStringS a0c5 y3.1) fun y4 =>
        bif decide (y4.1 < (0 : Int)) then
          some ((-1 : Int), ())
        else
          Option.bind (laws_heldToken a0c10 a0c11 a0c12 a0c13 a0c14 a0c15 y4.1) fun y5 =>
          bif decide (y5.1 < (0 : Int)) then
            some ((-1 : Int), ())
          else
            some (y5.1, ())
noncomputable def x39 (x : Int × Int × (List (Int × Unit)) × (List (Int × Int × Int × ByteArray × Unit)) × (List (Int × Unit)) × (List (ByteArray × Unit)) × Int × Int × Int × Int × Int × Int × Int × Int × Int × (List (Int × Unit)) × Int × Unit) : Option (Int × Unit) := laws_heldMate x.1 x.2.1 x.2.2.1 x.2.2.2.1 x.2.2.2.2.1 x.2.2.2.2.2.1 x.2.2.2.2.2.2.1 x.2.2.2.2.2.2.2.1 x.2.2.2.2.2.2.2.2.1 x.2.2.2.2.2.2.2.2.2.1 x.2.2.2.2.2.2.2.2.2.2.1 x.2.2.2.2.2.2.2.2.2.2.2.1 x.2.2.2.2.2.2.2.2.2.2.2.2.1 x.2.2.2.2.2.2.2.2.2.2.2.2.2.1 x.2.2.2.2.2.2.2.2.2.2.2.2.2.2.1 x.2.2.2.2.2.2.2.2.2.2.2.2.2.2.2.1 x.2.2.2.2.2.2.2.2.2.2.2.2.2.2.2.2.1
noncomputable def sem39 : Sem1 := semOf ps39 rs39 x39
theorem so39 : SemsOk Try.prog (semsOf sl39) := sems_cons k40 (sems_cons k69 (sems_cons k64 (sems_cons k70 (sems_cons k28 (sems_nil)))))
theorem t39_eq (x : denR (headRT (ps39.map some))) : codeK (tabOf tr) (semsOf sl39) D39 L39 code39 (start 36 ps39 x) (finK rs39 ps39) = x39 x := by kernel_rfl
theorem k39 : Known Try.prog 39 sem39 :=
  fn_auto tr_ok eq_ok mixed_ok so39 (D := D39) (code := code39) (n := 36) Try.func39 (by kernel_rfl) (by kernel_rfl) (by kernel_rfl) (fun w0 mu _ hs => (loops_of (l := []) (by kernel_rfl) (List.forall_mem_nil _))) t39_eq

/-! ### f41: laws.heldBundleS -/
noncomputable def code41 : Code := match Try.f41.body with | some c => c | none => .skip
def ps41 : List AP := [.val false [.shr (.cons (.int .i64) (.cons (.int .i64) (.cons (.int .i64) (.cons (.sl (.cons (.int .i64) (.cons (.int .i64) (.cons (.int .i64) (.cons .str .nil))))) .nil))))], .val false [.int .i64]]
def rs41 : List RP := [{ src := .tmp 4, agg := false, ps := [.int .i64] }]
noncomputable def sl41 : SemL := [(69, (.shr, .shr, .shr, sem69))]
def D41 : Draws := fun _ => .nil
def hp41_0 : List (Option AP) := [some (.val false [.shr (.cons (.int .i64) (.cons (.int .i64) (.cons (.int .i64) (.cons (.sl (.cons (.int .i64) (.cons (.int .i64) (.cons (.int .i64) (.cons .str .nil))))) .nil))))]), some (.val false [.int .i64]), none, none, none, some (.val false [.int .i64]), none, none, none, none, none, none, none, none, none, none, none, none, none, none, none, none, none, none, none, none, none, none, none, none, none, none, none, none, none, none, none, none, none, none, none, none, none, none, none, none, none, none, none]
def e41_0 : List (Option AP) := [none, some (.val false [.int .i64]), none, none, none, none, none, none, none, none, none, none, none, none, none, none, none, none, none, none, none, none, none, none, none, none, none, none, none, none, none, none, none, none, none, none, none, none, none, none, none, none, none, none, none, none, none, none, none]
def q41_0 : List (Option AP) := [none, none, none, none, some (.val false [.int .i64]), none, none, none, none, none, none, none, none, none, none, none, none, none, none, none, none, none, none, none, none, none, none, none, none, none, none, none, none, none, none, none, none, none, none, none, none, none, none, none, none, none, none, none, none]
abbrev H41_0 : Type := (List (Int × Int × Int × (List (Int × Int × Int × ByteArray × Unit)) × Unit)) × Int × Int × Unit
abbrev E41_0 : Type := Int × Unit
abbrev Q41_0 : Type := Int × Unit
noncomputable def laws_heldBundleS_c0 (a0 : List (Int × Int × Int × (List (Int × Int × Int × ByteArray × Unit)) × Unit)) (k1 : Int) (i5 : Int) : Option (Sum H41_0 (Sum E41_0 Q41_0)) :=
  bif decide (i5 < ((List.length a0 : Nat) : Int)) then
    bif decide ((0 : Int) ≤ i5) then Option.bind ((a0)[Int.toNat i5]?) fun r1 =>
      bif !decide (r1.1 = k1) then
        some (.inr (.inr ((-1 : Int), ())))
      else bif decide ((0 : Int) ≤ i5) then Option.bind ((a0)[Int.toNat i5]?) fun r2 =>
        bif !decide (r2.2.1 = IntKind.i64.wrap (k1 + (1 : Int))) then
          some (.inr (.inr ((-1 : Int), ())))
        else bif decide ((0 : Int) ≤ i5) then Option.bind ((a0)[Int.toNat i5]?) fun r3 =>
          bif !decide (r3.2.2.1 = IntKind.i64.wrap ((IntKind.i64.wrap (k1 + (1 : Int))) + (1 : Int))) then
            some (.inr (.inr ((-1 : Int), ())))
          else bif decide ((0 : Int) ≤ i5) then Option.bind ((a0)[Int.toNat i5]?) fun r4 =>
            Option.bind (laws_heldItemS r4.2.2.2.1 (IntKind.i64.wrap ((IntKind.i64.wrap ((IntKind.i64.wrap (k1 + (1 : Int))) + (1 : Int))) + (1 : Int)))) fun y5 =>
            bif decide (y5.1 < (0 : Int)) then
              some (.inr (.inr ((-1 : Int), ())))
            else
              some (.inl (a0, y5.1, IntKind.i64.wrap (i5 + (1 : Int)), ()))
          else none
        else none
      else none
    else none
  else
    some (.inr (.inl (k1, ())))
noncomputable def laws_heldBundleS_r0 (x : H41_0) : Option (Sum H41_0 (Sum E41_0 Q41_0)) := laws_heldBundleS_c0 x.1 x.2.1 x.2.2.1
noncomputable def L41 {R : Type} : Loops R := fun id _ st k => bif Nat.beq id 0 then loopAt hp41_0 e41_0 q41_0 laws_heldBundleS_r0 st k else none
noncomputable def laws_heldBundleS (a0 : List (Int × Int × Int × (List (Int × Int × Int × ByteArray × Unit)) × Unit)) (k1 : Int) : Option (Int × Unit) :=
  outK (loopV laws_heldBundleS_r0 (a0, k1, (0 : Int), ())) (fun y1 =>
    some (y1.1, ())) (fun y2 =>
    some (y2.1, ()))
noncomputable def x41 (x : (List (Int × Int × Int × (List (Int × Int × Int × ByteArray × Unit)) × Unit)) × Int × Unit) : Option (Int × Unit) := laws_heldBundleS x.1 x.2.1
noncomputable def sem41 : Sem1 := semOf ps41 rs41 x41
theorem so41 : SemsOk Try.prog (semsOf sl41) := sems_cons k69 (sems_nil)
noncomputable def b41_0 : Code := nthLoop code41 0
theorem t41_r0_eq (x : denR (headRT hp41_0)) : codeK (tabOf tr) (semsOf sl41) D41 L41 b41_0 (headSt hp41_0 x) (roundK 0 hp41_0 e41_0 q41_0) = laws_heldBundleS_r0 x := by kernel_rfl
theorem loop41_0 {R : Type} (r : R) (w0 : World) (mu : Mu) (hs : AnShape ps41 mu) : LoopAt Try.prog w0 mu 49 (L41 : Loops R) r 0 b41_0 :=
  loop_auto tr_ok eq_ok mixed_ok so41 (D := D41) hs (by kernel_rfl) (fun _ => (loops_of (l := []) (by kernel_rfl) (List.forall_mem_nil _))) t41_r0_eq (fun _ _ => rfl)
theorem t41_eq (x : denR (headRT (ps41.map some))) : codeK (tabOf tr) (semsOf sl41) D41 L41 code41 (start 49 ps41 x) (finK rs41 ps41) = x41 x := by kernel_rfl
theorem k41 : Known Try.prog 41 sem41 :=
  fn_auto tr_ok eq_ok mixed_ok so41 (D := D41) (code := code41) (n := 49) Try.func41 (by kernel_rfl) (by kernel_rfl) (by kernel_rfl) (fun w0 mu _ hs => (loops_of (l := [(0, b41_0)]) (by kernel_rfl) (List.forall_mem_cons.2 ⟨loop41_0 _ w0 mu hs, (List.forall_mem_nil _)⟩))) t41_eq

/-! ### f42: laws.heldEventS -/
noncomputable def code42 : Code := match Try.f42.body with | some c => c | none => .skip
def ps42 : List AP := [.val false [.shr (.cons (.int .i64) (.cons (.int .i64) (.cons (.sl (.cons (.int .i64) .nil)) (.cons (.int .i64) (.cons (.int .i64) (.cons (.int .i64) (.cons .str (.cons (.sl (.cons (.int .i64) .nil)) .nil))))))))], .val false [.int .i64]]
def rs42 : List RP := [{ src := .tmp 4, agg := false, ps := [.int .i64] }]
noncomputable def sl42 : SemL := [(64, (.shr, .shr, .shr, sem64)), (63, (.shr, .shr, .shr, sem63))]
def D42 : Draws := fun id => bif Nat.beq id 22 then .op 0 .any (.op 1 .any (.op 2 .any (.op 3 .any (.op 4 .any (.op 5 .take (.op 6 .any (.op 7 .one (.op 8 .any (.nil))))))))) else .nil
def hp42_0 : List (Option AP) := [some (.val false [.shr (.cons (.int .i64) (.cons (.int .i64) (.cons (.sl (.cons (.int .i64) .nil)) (.cons (.int .i64) (.cons (.int .i64) (.cons (.int .i64) (.cons .str (.cons (.sl (.cons (.int .i64) .nil)) .nil))))))))]), some (.val false [.int .i64]), none, none, none, some (.val false [.int .i64]), none, none, none, none, none, none, none, none, none, none, none, none, none, none, none, none, none, none, none, none, none, none, none, none, none, none, none, none, none, none, none, none, none, none, none, none, none, none, none, none, none, none, none, none, none, none, none, none, none, none, none, none, none, none, none, none, none, none, none, none, none, none, none, none, none, none, none, none, none, none, none, none, none, none, none, none, none, none, none, none, none, none, none, none, none, none]
def e42_0 : List (Option AP) := [none, some (.val false [.int .i64]), none, none, none, none, none, none, none, none, none, none, none, none, none, none, none, none, none, none, none, none, none, none, none, none, none, none, none, none, none, none, none, none, none, none, none, none, none, none, none, none, none, none, none, none, none, none, none, none, none, none, none, none, none, none, none, none, none, none, none, none, none, none, none, none, none, none, none, none, none, none, none, none, none, none, none, none, none, none, none, none, none, none, none, none, none, none, none, none, none, none]
def q42_0 : List (Option AP) := [none, none, none, none, some (.val false [.int .i64]), none, none, none, none, none, none, none, none, none, none, none, none, none, none, none, none, none, none, none, none, none, none, none, none, none, none, none, none, none, none, none, none, none, none, none, none, none, none, none, none, none, none, none, none, none, none, none, none, none, none, none, none, none, none, none, none, none, none, none, none, none, none, none, none, none, none, none, none, none, none, none, none, none, none, none, none, none, none, none, none, none, none, none, none, none, none, none]
abbrev H42_0 : Type := (List (Int × Int × (List (Int × Unit)) × Int × Int × Int × ByteArray × (List (Int × Unit)) × Unit)) × Int × Int × Unit
abbrev E42_0 : Type := Int × Unit
abbrev Q42_0 : Type := Int × Unit
noncomputable def laws_heldEventS_c0 (a0 : List (Int × Int × (List (Int × Unit)) × Int × Int × Int × ByteArray × (List (Int × Unit)) × Unit)) (k1 : Int) (i5 : Int) : Option (Sum H42_0 (Sum E42_0 Q42_0)) :=
  bif decide (i5 < ((List.length a0 : Nat) : Int)) then
    bif decide ((0 : Int) ≤ i5) then Option.bind ((a0)[Int.toNat i5]?) fun r1 =>
      bif !decide (r1.1 = k1) then
        some (.inr (.inr ((-1 : Int), ())))
      else bif decide ((0 : Int) ≤ i5) then Option.bind ((a0)[Int.toNat i5]?) fun r2 =>
        bif !decide (r2.2.1 = IntKind.i64.wrap (k1 + (1 : Int))) then
          some (.inr (.inr ((-1 : Int), ())))
        else bif decide ((0 : Int) ≤ i5) then Option.bind ((a0)[Int.toNat i5]?) fun r3 =>
          Option.bind (laws_heldIntS r3.2.2.1 (IntKind.i64.wrap ((IntKind.i64.wrap (k1 + (1 : Int))) + (1 : Int)))) fun y4 =>
          bif decide (y4.1 < (0 : Int)) then
            some (.inr (.inr ((-1 : Int), ())))
          else bif decide ((0 : Int) ≤ i5) then Option.bind ((a0)[Int.toNat i5]?) fun r5 =>
            bif !decide (r5.2.2.2.1 = y4.1) then
              some (.inr (.inr ((-1 : Int), ())))
            else bif decide ((0 : Int) ≤ i5) then Option.bind ((a0)[Int.toNat i5]?) fun r6 =>
              bif !decide (r6.2.2.2.2.1 = IntKind.i64.wrap (y4.1 + (1 : Int))) then
                some (.inr (.inr ((-1 : Int), ())))
              else bif decide ((0 : Int) ≤ i5) then Option.bind ((a0)[Int.toNat i5]?) fun r7 =>
                bif !decide (r7.2.2.2.2.2.1 = IntKind.i64.wrap ((IntKind.i64.wrap (y4.1 + (1 : Int))) + (1 : Int))) then
                  some (.inr (.inr ((-1 : Int), ())))
                else bif decide ((0 : Int) ≤ i5) then Option.bind ((a0)[Int.toNat i5]?) fun r8 =>
                  Option.bind (laws_markText (IntKind.i64.wrap ((IntKind.i64.wrap ((IntKind.i64.wrap (y4.1 + (1 : Int))) + (1 : Int))) + (1 : Int)))) fun y9 =>
                  bif !strEq r8.2.2.2.2.2.2.1 y9.1 then
                    some (.inr (.inr ((-1 : Int), ())))
                  else bif decide ((0 : Int) ≤ i5) then Option.bind ((a0)[Int.toNat i5]?) fun r10 =>
                    Option.bind (laws_heldIntS r10.2.2.2.2.2.2.2.1 (IntKind.i64.wrap ((IntKind.i64.wrap ((IntKind.i64.wrap ((IntKind.i64.wrap (y4.1 + (1 : Int))) + (1 : Int))) + (1 : Int))) + (1 : Int)))) fun y11 =>
                    bif decide (y11.1 < (0 : Int)) then
                      some (.inr (.inr ((-1 : Int), ())))
                    else
                      some (.inl (a0, y11.1, IntKind.i64.wrap (i5 + (1 : Int)), ()))
                  else none
                else none
              else none
            else none
          else none
        else none
      else none
    else none
  else
    some (.inr (.inl (k1, ())))
noncomputable def laws_heldEventS_r0 (x : H42_0) : Option (Sum H42_0 (Sum E42_0 Q42_0)) := laws_heldEventS_c0 x.1 x.2.1 x.2.2.1
noncomputable def L42 {R : Type} : Loops R := fun id _ st k => bif Nat.beq id 0 then loopAt hp42_0 e42_0 q42_0 laws_heldEventS_r0 st k else none
noncomputable def laws_heldEventS (a0 : List (Int × Int × (List (Int × Unit)) × Int × Int × Int × ByteArray × (List (Int × Unit)) × Unit)) (k1 : Int) : Option (Int × Unit) :=
  outK (loopV laws_heldEventS_r0 (a0, k1, (0 : Int), ())) (fun y1 =>
    some (y1.1, ())) (fun y2 =>
    some (y2.1, ()))
noncomputable def x42 (x : (List (Int × Int × (List (Int × Unit)) × Int × Int × Int × ByteArray × (List (Int × Unit)) × Unit)) × Int × Unit) : Option (Int × Unit) := laws_heldEventS x.1 x.2.1
noncomputable def sem42 : Sem1 := semOf ps42 rs42 x42
theorem so42 : SemsOk Try.prog (semsOf sl42) := sems_cons k64 (sems_cons k63 (sems_nil))
noncomputable def b42_0 : Code := nthLoop code42 0
theorem t42_r0_eq (x : denR (headRT hp42_0)) : codeK (tabOf tr) (semsOf sl42) D42 L42 b42_0 (headSt hp42_0 x) (roundK 0 hp42_0 e42_0 q42_0) = laws_heldEventS_r0 x := by kernel_rfl
theorem loop42_0 {R : Type} (r : R) (w0 : World) (mu : Mu) (hs : AnShape ps42 mu) : LoopAt Try.prog w0 mu 92 (L42 : Loops R) r 0 b42_0 :=
  loop_auto tr_ok eq_ok mixed_ok so42 (D := D42) hs (by kernel_rfl) (fun _ => (loops_of (l := []) (by kernel_rfl) (List.forall_mem_nil _))) t42_r0_eq (fun _ _ => rfl)
theorem t42_eq (x : denR (headRT (ps42.map some))) : codeK (tabOf tr) (semsOf sl42) D42 L42 code42 (start 92 ps42 x) (finK rs42 ps42) = x42 x := by kernel_rfl
theorem k42 : Known Try.prog 42 sem42 :=
  fn_auto tr_ok eq_ok mixed_ok so42 (D := D42) (code := code42) (n := 92) Try.func42 (by kernel_rfl) (by kernel_rfl) (by kernel_rfl) (fun w0 mu _ hs => (loops_of (l := [(0, b42_0)]) (by kernel_rfl) (List.forall_mem_cons.2 ⟨loop42_0 _ w0 mu hs, (List.forall_mem_nil _)⟩))) t42_eq

/-! ### f10: laws.heldDaemon -/
noncomputable def code10 : Code := match Try.f10.body with | some c => c | none => .skip
def ps10 : List AP := [.val true [.int .i64, .bool, .int .i64, .int .i64, .shr (.cons (.int .i64) .nil), .shr (.cons (.int .i64) (.cons (.int .i64) (.cons (.int .i64) (.cons .str .nil)))), .shr (.cons (.int .i64) .nil), .shr (.cons .str .nil), .int .i64, .int .i64, .int .i64, .int .i64, .int .i64, .int .i64, .int .i64, .int .i64, .int .i64, .shr (.cons (.int .i64) .nil), .int .i64, .int .i64, .int .i64, .shr (.cons (.int .i64) .nil), .shr (.cons (.int .i64) (.cons (.int .i64) (.cons (.int .i64) (.cons (.sl (.cons (.int .i64) (.cons (.int .i64) (.cons (.int .i64) (.cons .str .nil))))) .nil)))), .shr (.cons (.int .i64) (.cons (.int .i64) (.cons (.sl (.cons (.int .i64) .nil)) (.cons (.int .i64) (.cons (.int .i64) (.cons (.int .i64) (.cons .str (.cons (.sl (.cons (.int .i64) .nil)) .nil))))))))], .val false [.int .i64]]
def rs10 : List RP := [{ src := .tmp 4, agg := false, ps := [.int .i64] }]
noncomputable def sl10 : SemL := [(39, (.shr, .shr, .shr, sem39)), (40, (.shr, .shr, .shr, sem40)), (41, (.shr, .shr, .shr, sem41)), (42, (.shr, .shr, .shr, sem42))]
def D10 : Draws := fun _ => .nil
noncomputable def L10 {R : Type} : Loops R := fun _ _ _ _ => none
noncomputable def laws_heldDaemon (a0c0 : Int) (a0c1 : Bool) (a0c2 : Int) (a0c3 : Int) (a0c4 : List (Int × Unit)) (a0c5 : List (Int × Int × Int × ByteArray × Unit)) (a0c6 : List (Int × Unit)) (a0c7 : List (ByteArray × Unit)) (a0c8 : Int) (a0c9 : Int) (a0c10 : Int) (a0c11 : Int) (a0c12 : Int) (a0c13 : Int) (a0c14 : Int) (a0c15 : Int) (a0c16 : Int) (a0c17 : List (Int × Unit)) (a0c18 : Int) (a0c19 : Int) (a0c20 : Int) (a0c21 : List (Int × Unit)) (a0c22 : List (Int × Int × Int × (List (Int × Int × Int × ByteArray × Unit)) × Unit)) (a0c23 : List (Int × Int × (List (Int × Unit)) × Int × Int × Int × ByteArray × (List (Int × Unit)) × Unit)) (k1 : Int) : Option (Int × Unit) :=
  Option.bind (laws_heldMate a0c2 a0c3 a0c4 a0c5 a0c6 a0c7 a0c8 a0c9 a0c10 a0c11 a0c12 a0c13 a0c14 a0c15 a0c16 a0c17 k1) fun y1 =>
  bif decide (y1.1 < (0 : Int)) then
    some ((-1 : Int), ())
  else
    Option.bind (laws_heldRing a0c20 a0c21 y1.1) fun y2 =>
    bif decide (y2.1 < (0 : Int)) then
      some ((-1 : Int), ())
    else
      Option.bind (laws_heldBundleS a0c22 y2.1) fun y3 =>
      bif decide (y3.1 < (0 : Int)) then
        some ((-1 : Int), ())
      else
        Option.bind (laws_heldEventS a0c23 y3.1) fun y4 =>
        bif decide (y4.1 < (0 : Int)) then
          some ((-1 : Int), ())
        else
          some (y4.1, ())
noncomputable def x10 (x : Int × Bool × Int × Int × (List (Int × Unit)) × (List (Int × Int × Int × ByteArray × Unit)) × (List (Int × Unit)) × (List (ByteArray × Unit)) × Int × Int × Int × Int × Int × Int × Int × Int × Int × (List (Int × Unit)) × Int × Int × Int × (List (Int × Unit)) × (List (Int × Int × Int × (List (Int × Int × Int × ByteArray × Unit)) × Unit)) × (List (Int × Int × (List (Int × Unit)) × Int × Int × Int × ByteArray × (List (Int × Unit)) × Unit)) × Int × Unit) : Option (Int × Unit) := laws_heldDaemon x.1 x.2.1 x.2.2.1 x.2.2.2.1 x.2.2.2.2.1 x.2.2.2.2.2.1 x.2.2.2.2.2.2.1 x.2.2.2.2.2.2.2.1 x.2.2.2.2.2.2.2.2.1 x.2.2.2.2.2.2.2.2.2.1 x.2.2.2.2.2.2.2.2.2.2.1 x.2.2.2.2.2.2.2.2.2.2.2.1 x.2.2.2.2.2.2.2.2.2.2.2.2.1 x.2.2.2.2.2.2.2.2.2.2.2.2.2.1 x.2.2.2.2.2.2.2.2.2.2.2.2.2.2.1 x.2.2.2.2.2.2.2.2.2.2.2.2.2.2.2.1 x.2.2.2.2.2.2.2.2.2.2.2.2.2.2.2.2.1 x.2.2.2.2.2.2.2.2.2.2.2.2.2.2.2.2.2.1 x.2.2.2.2.2.2.2.2.2.2.2.2.2.2.2.2.2.2.1 x.2.2.2.2.2.2.2.2.2.2.2.2.2.2.2.2.2.2.2.1 x.2.2.2.2.2.2.2.2.2.2.2.2.2.2.2.2.2.2.2.2.1 x.2.2.2.2.2.2.2.2.2.2.2.2.2.2.2.2.2.2.2.2.2.1 x.2.2.2.2.2.2.2.2.2.2.2.2.2.2.2.2.2.2.2.2.2.2.1 x.2.2.2.2.2.2.2.2.2.2.2.2.2.2.2.2.2.2.2.2.2.2.2.1 x.2.2.2.2.2.2.2.2.2.2.2.2.2.2.2.2.2.2.2.2.2.2.2.2.1
noncomputable def sem10 : Sem1 := semOf ps10 rs10 x10
theorem so10 : SemsOk Try.prog (semsOf sl10) := sems_cons k39 (sems_cons k40 (sems_cons k41 (sems_cons k42 (sems_nil))))
theorem t10_eq (x : denR (headRT (ps10.map some))) : codeK (tabOf tr) (semsOf sl10) D10 L10 code10 (start 30 ps10 x) (finK rs10 ps10) = x10 x := by kernel_rfl
theorem k10 : Known Try.prog 10 sem10 :=
  fn_auto tr_ok eq_ok mixed_ok so10 (D := D10) (code := code10) (n := 30) Try.func10 (by kernel_rfl) (by kernel_rfl) (by kernel_rfl) (fun w0 mu _ hs => (loops_of (l := []) (by kernel_rfl) (List.forall_mem_nil _))) t10_eq

/-! ### f3: laws.FnExactDaemonNew -/
noncomputable def code3 : Code := match Try.f3.body with | some c => c | none => .skip
def ps3 : List AP := [.val false [.int .i64]]
def rs3 : List RP := [{ src := .tmp 2, agg := false, ps := [.bool] }]
noncomputable def sl3 : SemL := [(6, (.shr, .shr, .shr, sem6)), (7, (.shr, .shr, .shr, sem7)), (8, (.shr, .shr, .shr, sem8)), (9, (.lend, .shr, .shr, sem9)), (10, (.shr, .shr, .shr, sem10))]
def D3 : Draws := fun _ => .nil
noncomputable def L3 {R : Type} : Loops R := fun _ _ _ _ => none
noncomputable def laws_FnExactDaemonNew (aId0 : Int) : Option (Bool × Unit) :=
  Option.bind (spec_DaemonNew aId0) fun y1 =>
  Option.bind (impl_DaemonNew aId0) fun y2 =>
  Option.bind (laws_eqDaemon y2.1 y2.2.1 y2.2.2.1 y2.2.2.2.1 y2.2.2.2.2.1 y2.2.2.2.2.2.1 y2.2.2.2.2.2.2.1 y2.2.2.2.2.2.2.2.1 y2.2.2.2.2.2.2.2.2.1 y2.2.2.2.2.2.2.2.2.2.1 y2.2.2.2.2.2.2.2.2.2.2.1 y2.2.2.2.2.2.2.2.2.2.2.2.1 y2.2.2.2.2.2.2.2.2.2.2.2.2.1 y2.2.2.2.2.2.2.2.2.2.2.2.2.2.1 y2.2.2.2.2.2.2.2.2.2.2.2.2.2.2.1 y2.2.2.2.2.2.2.2.2.2.2.2.2.2.2.2.1 y2.2.2.2.2.2.2.2.2.2.2.2.2.2.2.2.2.1 y2.2.2.2.2.2.2.2.2.2.2.2.2.2.2.2.2.2.1 y2.2.2.2.2.2.2.2.2.2.2.2.2.2.2.2.2.2.2.1 y2.2.2.2.2.2.2.2.2.2.2.2.2.2.2.2.2.2.2.2.1 y2.2.2.2.2.2.2.2.2.2.2.2.2.2.2.2.2.2.2.2.2.1 y2.2.2.2.2.2.2.2.2.2.2.2.2.2.2.2.2.2.2.2.2.2.1 y2.2.2.2.2.2.2.2.2.2.2.2.2.2.2.2.2.2.2.2.2.2.2.1 y2.2.2.2.2.2.2.2.2.2.2.2.2.2.2.2.2.2.2.2.2.2.2.2.1 y1.1 y1.2.1 y1.2.2.1 y1.2.2.2.1 y1.2.2.2.2.1 y1.2.2.2.2.2.1 y1.2.2.2.2.2.2.1 y1.2.2.2.2.2.2.2.1 y1.2.2.2.2.2.2.2.2.1 y1.2.2.2.2.2.2.2.2.2.1 y1.2.2.2.2.2.2.2.2.2.2.1 y1.2.2.2.2.2.2.2.2.2.2.2.1 y1.2.2.2.2.2.2.2.2.2.2.2.2.1 y1.2.2.2.2.2.2.2.2.2.2.2.2.2.1 y1.2.2.2.2.2.2.2.2.2.2.2.2.2.2.1 y1.2.2.2.2.2.2.2.2.2.2.2.2.2.2.2.1 y1.2.2.2.2.2.2.2.2.2.2.2.2.2.2.2.2.1 y1.2.2.2.2.2.2.2.2.2.2.2.2.2.2.2.2.2.1 y1.2.2.2.2.2.2.2.2.2.2.2.2.2.2.2.2.2.2.1 y1.2.2.2.2.2.2.2.2.2.2.2.2.2.2.2.2.2.2.2.1 y1.2.2.2.2.2.2.2.2.2.2.2.2.2.2.2.2.2.2.2.2.1 y1.2.2.2.2.2.2.2.2.2.2.2.2.2.2.2.2.2.2.2.2.2.1 y1.2.2.2.2.2.2.2.2.2.2.2.2.2.2.2.2.2.2.2.2.2.2.1 y1.2.2.2.2.2.2.2.2.2.2.2.2.2.2.2.2.2.2.2.2.2.2.2.1) fun y3 =>
  bif !y3.1 then
    some (false, ())
  else bif !(y2.2.2.2.2.2.2.2.2.2.2.2.2.2.2.2.2.2.2.2.2.2.2.2.2.1 == y1.2.2.2.2.2.2.2.2.2.2.2.2.2.2.2.2.2.2.2.2.2.2.2.2.1) then
    some (false, ())
  else
    Option.bind (laws_markDaemon y2.1 y2.2.1 y2.2.2.1 y2.2.2.2.1 y2.2.2.2.2.1 y2.2.2.2.2.2.1 y2.2.2.2.2.2.2.1 y2.2.2.2.2.2.2.2.1 y2.2.2.2.2.2.2.2.2.1 y2.2.2.2.2.2.2.2.2.2.1 y2.2.2.2.2.2.2.2.2.2.2.1 y2.2.2.2.2.2.2.2.2.2.2.2.1 y2.2.2.2.2.2.2.2.2.2.2.2.2.1 y2.2.2.2.2.2.2.2.2.2.2.2.2.2.1 y2.2.2.2.2.2.2.2.2.2.2.2.2.2.2.1 y2.2.2.2.2.2.2.2.2.2.2.2.2.2.2.2.1 y2.2.2.2.2.2.2.2.2.2.2.2.2.2.2.2.2.1 y2.2.2.2.2.2.2.2.2.2.2.2.2.2.2.2.2.2.1 y2.2.2.2.2.2.2.2.2.2.2.2.2.2.2.2.2.2.2.1 y2.2.2.2.2.2.2.2.2.2.2.2.2.2.2.2.2.2.2.2.1 y2.2.2.2.2.2.2.2.2.2.2.2.2.2.2.2.2.2.2.2.2.1 y2.2.2.2.2.2.2.2.2.2.2.2.2.2.2.2.2.2.2.2.2.2.1 y2.2.2.2.2.2.2.2.2.2.2.2.2.2.2.2.2.2.2.2.2.2.2.1 y2.2.2.2.2.2.2.2.2.2.2.2.2.2.2.2.2.2.2.2.2.2.2.2.1 (1 : Int)) fun y4 =>
    Option.bind (laws_heldDaemon y2.1 y2.2.1 y2.2.2.1 y2.2.2.2.1 y4.2.1 y4.2.2.1 y4.2.2.2.1 y4.2.2.2.2.1 y2.2.2.2.2.2.2.2.2.1 y2.2.2.2.2.2.2.2.2.2.1 y2.2.2.2.2.2.2.2.2.2.2.1 y2.2.2.2.2.2.2.2.2.2.2.2.1 y2.2.2.2.2.2.2.2.2.2.2.2.2.1 y2.2.2.2.2.2.2.2.2.2.2.2.2.2.1 y2.2.2.2.2.2.2.2.2.2.2.2.2.2.2.1 y2.2.2.2.2.2.2.2.2.2.2.2.2.2.2.2.1 y2.2.2.2.2.2.2.2.2.2.2.2.2.2.2.2.2.1 y4.2.2.2.2.2.1 y2.2.2.2.2.2.2.2.2.2.2.2.2.2.2.2.2.2.2.1 y2.2.2.2.2.2.2.2.2.2.2.2.2.2.2.2.2.2.2.2.1 y2.2.2.2.2.2.2.2.2.2.2.2.2.2.2.2.2.2.2.2.2.1 y4.2.2.2.2.2.2.1 y4.2.2.2.2.2.2.2.1 y4.2.2.2.2.2.2.2.2.1 (1 : Int)) fun y5 =>
    bif decide (y5.1 < (0 : Int)) then
      some (false, ())
    else bif !decide (y5.1 = y4.1) then
      some (false, ())
    else
      Option.bind (impl_DaemonNew aId0) fun y6 =>
      Option.bind (laws_eqDaemon y6.1 y6.2.1 y6.2.2.1 y6.2.2.2.1 y6.2.2.2.2.1 y6.2.2.2.2.2.1 y6.2.2.2.2.2.2.1 y6.2.2.2.2.2.2.2.1 y6.2.2.2.2.2.2.2.2.1 y6.2.2.2.2.2.2.2.2.2.1 y6.2.2.2.2.2.2.2.2.2.2.1 y6.2.2.2.2.2.2.2.2.2.2.2.1 y6.2.2.2.2.2.2.2.2.2.2.2.2.1 y6.2.2.2.2.2.2.2.2.2.2.2.2.2.1 y6.2.2.2.2.2.2.2.2.2.2.2.2.2.2.1 y6.2.2.2.2.2.2.2.2.2.2.2.2.2.2.2.1 y6.2.2.2.2.2.2.2.2.2.2.2.2.2.2.2.2.1 y6.2.2.2.2.2.2.2.2.2.2.2.2.2.2.2.2.2.1 y6.2.2.2.2.2.2.2.2.2.2.2.2.2.2.2.2.2.2.1 y6.2.2.2.2.2.2.2.2.2.2.2.2.2.2.2.2.2.2.2.1 y6.2.2.2.2.2.2.2.2.2.2.2.2.2.2.2.2.2.2.2.2.1 y6.2.2.2.2.2.2.2.2.2.2.2.2.2.2.2.2.2.2.2.2.2.1 y6.2.2.2.2.2.2.2.2.2.2.2.2.2.2.2.2.2.2.2.2.2.2.1 y6.2.2.2.2.2.2.2.2.2.2.2.2.2.2.2.2.2.2.2.2.2.2.2.1 y1.1 y1.2.1 y1.2.2.1 y1.2.2.2.1 y1.2.2.2.2.1 y1.2.2.2.2.2.1 y1.2.2.2.2.2.2.1 y1.2.2.2.2.2.2.2.1 y1.2.2.2.2.2.2.2.2.1 y1.2.2.2.2.2.2.2.2.2.1 y1.2.2.2.2.2.2.2.2.2.2.1 y1.2.2.2.2.2.2.2.2.2.2.2.1 y1.2.2.2.2.2.2.2.2.2.2.2.2.1 y1.2.2.2.2.2.2.2.2.2.2.2.2.2.1 y1.2.2.2.2.2.2.2.2.2.2.2.2.2.2.1 y1.2.2.2.2.2.2.2.2.2.2.2.2.2.2.2.1 y1.2.2.2.2.2.2.2.2.2.2.2.2.2.2.2.2.1 y1.2.2.2.2.2.2.2.2.2.2.2.2.2.2.2.2.2.1 y1.2.2.2.2.2.2.2.2.2.2.2.2.2.2.2.2.2.2.1 y1.2.2.2.2.2.2.2.2.2.2.2.2.2.2.2.2.2.2.2.1 y1.2.2.2.2.2.2.2.2.2.2.2.2.2.2.2.2.2.2.2.2.1 y1.2.2.2.2.2.2.2.2.2.2.2.2.2.2.2.2.2.2.2.2.2.1 y1.2.2.2.2.2.2.2.2.2.2.2.2.2.2.2.2.2.2.2.2.2.2.1 y1.2.2.2.2.2.2.2.2.2.2.2.2.2.2.2.2.2.2.2.2.2.2.2.1) fun y7 =>
      bif !y7.1 then
        some (false, ())
      else bif !(y6.2.2.2.2.2.2.2.2.2.2.2.2.2.2.2.2.2.2.2.2.2.2.2.2.1 == y1.2.2.2.2.2.2.2.2.2.2.2.2.2.2.2.2.2.2.2.2.2.2.2.2.1) then
        some (false, ())
      else
        Option.bind (laws_heldDaemon y2.1 y2.2.1 y2.2.2.1 y2.2.2.2.1 y4.2.1 y4.2.2.1 y4.2.2.2.1 y4.2.2.2.2.1 y2.2.2.2.2.2.2.2.2.1 y2.2.2.2.2.2.2.2.2.2.1 y2.2.2.2.2.2.2.2.2.2.2.1 y2.2.2.2.2.2.2.2.2.2.2.2.1 y2.2.2.2.2.2.2.2.2.2.2.2.2.1 y2.2.2.2.2.2.2.2.2.2.2.2.2.2.1 y2.2.2.2.2.2.2.2.2.2.2.2.2.2.2.1 y2.2.2.2.2.2.2.2.2.2.2.2.2.2.2.2.1 y2.2.2.2.2.2.2.2.2.2.2.2.2.2.2.2.2.1 y4.2.2.2.2.2.1 y2.2.2.2.2.2.2.2.2.2.2.2.2.2.2.2.2.2.2.1 y2.2.2.2.2.2.2.2.2.2.2.2.2.2.2.2.2.2.2.2.1 y2.2.2.2.2.2.2.2.2.2.2.2.2.2.2.2.2.2.2.2.2.1 y4.2.2.2.2.2.2.1 y4.2.2.2.2.2.2.2.1 y4.2.2.2.2.2.2.2.2.1 (1 : Int)) fun y8 =>
        bif decide (y8.1 < (0 : Int)) then
          some (false, ())
        else bif !decide (y8.1 = y4.1) then
          some (false, ())
        else
          some (true, ())
noncomputable def x3 (x : Int × Unit) : Option (Bool × Unit) := laws_FnExactDaemonNew x.1
noncomputable def sem3 : Sem1 := semOf ps3 rs3 x3
theorem so3 : SemsOk Try.prog (semsOf sl3) := sems_cons k6 (sems_cons k7 (sems_cons k8 (sems_cons k9 (sems_cons k10 (sems_nil)))))
theorem t3_eq (x : denR (headRT (ps3.map some))) : codeK (tabOf tr) (semsOf sl3) D3 L3 code3 (start 63 ps3 x) (finK rs3 ps3) = x3 x := by kernel_rfl
theorem k3 : Known Try.prog 3 sem3 :=
  fn_auto tr_ok eq_ok mixed_ok so3 (D := D3) (code := code3) (n := 63) Try.func3 (by kernel_rfl) (by kernel_rfl) (by kernel_rfl) (fun w0 mu _ hs => (loops_of (l := []) (by kernel_rfl) (List.forall_mem_nil _))) t3_eq

/-! ### f11: laws.big -/
noncomputable def code11 : Code := match Try.f11.body with | some c => c | none => .skip
def ps11 : List AP := [.val false [.shr (.cons (.int .u8) .nil)]]
def rs11 : List RP := [{ src := .tmp 2, agg := false, ps := [.bool] }]
noncomputable def sl11 : SemL := []
def D11 : Draws := fun _ => .nil
noncomputable def L11 {R : Type} : Loops R := fun _ _ _ _ => none
noncomputable def laws_big (code0 : List (Int × Unit)) : Option (Bool × Unit) :=
  some (decide ((1048576 : Int) < ((List.length code0 : Nat) : Int)), ())
noncomputable def x11 (x : (List (Int × Unit)) × Unit) : Option (Bool × Unit) := laws_big x.1
noncomputable def sem11 : Sem1 := semOf ps11 rs11 x11
theorem so11 : SemsOk Try.prog (semsOf sl11) := sems_nil
theorem t11_eq (x : denR (headRT (ps11.map some))) : codeK (tabOf tr) (semsOf sl11) D11 L11 code11 (start 6 ps11 x) (finK rs11 ps11) = x11 x := by kernel_rfl
theorem k11 : Known Try.prog 11 sem11 :=
  fn_auto tr_ok eq_ok mixed_ok so11 (D := D11) (code := code11) (n := 6) Try.func11 (by kernel_rfl) (by kernel_rfl) (by kernel_rfl) (fun w0 mu _ hs => (loops_of (l := []) (by kernel_rfl) (List.forall_mem_nil _))) t11_eq

/-! ### f43: spec.l01New -/
noncomputable def code43 : Code := match Try.f43.body with | some c => c | none => .skip
def ps43 : List AP := [.val false [.shr (.cons (.int .u8) .nil)]]
def rs43 : List RP := [{ src := .ptr 2, agg := false, ps := [.shr (.cons (.int .u8) .nil), .int .i64, .int .i64] }]
noncomputable def sl43 : SemL := []
def D43 : Draws := fun _ => .nil
def hp43_0 : List (Option AP) := [some (.val false [.shr (.cons (.int .u8) .nil)]), none, none, some (.val false [.int .i64]), some (.val false [.int .i64]), none, none, none, none, none, none, none, none, none, none, none, none, none, none, none, none, none, none, none, none, none, none, none, none, none, none, none]
def e43_0 : List (Option AP) := [some (.val false [.shr (.cons (.int .u8) .nil)]), none, none, some (.val false [.int .i64]), none, none, none, none, none, none, none, none, none, none, none, none, none, none, none, none, none, none, none, none, none, none, none, none, none, none, none, none]
def q43_0 : List (Option AP) := [none, none, none, none, none, none, none, none, none, none, none, none, none, none, none, none, none, none, none, none, none, none, none, none, none, none, none, none, none, none, none, none]
abbrev H43_0 : Type := (List (Int × Unit)) × Int × Int × Unit
abbrev E43_0 : Type := (List (Int × Unit)) × Int × Unit
abbrev Q43_0 : Type := Unit
noncomputable def spec_l01New_c0 (code0 : List (Int × Unit)) (h3 : Int) (i4 : Int) : Option (Sum H43_0 (Sum E43_0 Q43_0)) :=
  bif decide (i4 < ((List.length code0 : Nat) : Int)) then
    bif decide (i4 < (4000 : Int)) then
      bif decide ((0 : Int) ≤ i4) then Option.bind ((code0)[Int.toNat i4]?) fun r1 =>
        some (.inl (code0, IntKind.i64.wrap ((BitVec.ofInt IntKind.i64.bits (IntKind.i64.wrap ((IntKind.i64.wrap ((IntKind.i64.wrap (h3 * (131 : Int))) + (IntKind.i64.wrap r1.1))) + (7 : Int))) &&& BitVec.ofInt IntKind.i64.bits (1073741823 : Int)).toNat : Int), IntKind.i64.wrap (i4 + (1 : Int)), ()))
      else none
    else
      some (.inr (.inl (code0, h3, ())))
  else
    some (.inr (.inl (code0, h3, ())))
noncomputable def spec_l01New_r0 (x : H43_0) : Option (Sum H43_0 (Sum E43_0 Q43_0)) := spec_l01New_c0 x.1 x.2.1 x.2.2.1
noncomputable def L43 {R : Type} : Loops R := fun id _ st k => bif Nat.beq id 0 then loopAt hp43_0 e43_0 q43_0 spec_l01New_r0 st k else none
noncomputable def spec_l01New (code0 : List (Int × Unit)) : Option ((List (Int × Unit)) × Int × Int × Unit) :=
  outK (loopV spec_l01New_r0 (code0, IntKind.i64.wrap ((27101 : Int) + ((List.length code0 : Nat) : Int)), (0 : Int), ())) (fun y1 =>
    some (y1.1, (0 : Int), y1.2.1, ())) (fun y2 =>
    none)
noncomputable def x43 (x : (List (Int × Unit)) × Unit) : Option ((List (Int × Unit)) × Int × Int × Unit) := spec_l01New x.1
noncomputable def sem43 : Sem1 := semOf ps43 rs43 x43
theorem so43 : SemsOk Try.prog (semsOf sl43) := sems_nil
noncomputable def b43_0 : Code := nthLoop code43 0
theorem t43_r0_eq (x : denR (headRT hp43_0)) : codeK (tabOf tr) (semsOf sl43) D43 L43 b43_0 (headSt hp43_0 x) (roundK 0 hp43_0 e43_0 q43_0) = spec_l01New_r0 x := by kernel_rfl
theorem loop43_0 {R : Type} (r : R) (w0 : World) (mu : Mu) (hs : AnShape ps43 mu) : LoopAt Try.prog w0 mu 32 (L43 : Loops R) r 0 b43_0 :=
  loop_auto tr_ok eq_ok mixed_ok so43 (D := D43) hs (by kernel_rfl) (fun _ => (loops_of (l := []) (by kernel_rfl) (List.forall_mem_nil _))) t43_r0_eq (fun _ _ => rfl)
theorem t43_eq (x : denR (headRT (ps43.map some))) : codeK (tabOf tr) (semsOf sl43) D43 L43 code43 (start 32 ps43 x) (finK rs43 ps43) = x43 x := by kernel_rfl
theorem k43 : Known Try.prog 43 sem43 :=
  fn_auto tr_ok eq_ok mixed_ok so43 (D := D43) (code := code43) (n := 32) Try.func43 (by kernel_rfl) (by kernel_rfl) (by kernel_rfl) (fun w0 mu _ hs => (loops_of (l := [(0, b43_0)]) (by kernel_rfl) (List.forall_mem_cons.2 ⟨loop43_0 _ w0 mu hs, (List.forall_mem_nil _)⟩))) t43_eq

/-! ### f82: spec.l01Byte -/
noncomputable def code82 : Code := match Try.f82.body with | some c => c | none => .skip
def ps82 : List AP := [.box true [.shr (.cons (.int .u8) .nil), .int .i64, .int .i64]]
def rs82 : List RP := [{ src := .tmp 2, agg := false, ps := [.int .i64] }]
noncomputable def sl82 : SemL := []
def D82 : Draws := fun id => bif Nat.beq id 2 then .op 0 .any (.op 1 .any (.op 2 .any (.op 3 .take (.op 4 .any (.op 5 .any (.op 6 .any (.op 7 .any (.op 8 .take (.op 9 .any (.op 10 .any (.op 11 .any (.op 12 .any (.nil))))))))))))) else bif Nat.beq id 3 then .op 0 .any (.op 1 .any (.op 2 .any (.op 3 .take (.op 4 .any (.op 5 .any (.op 6 .any (.op 7 .take (.op 8 .any (.op 9 .any (.nil)))))))))) else bif Nat.beq id 4 then .op 0 .any (.op 1 .any (.op 2 .any (.op 3 .any (.op 4 .take (.op 5 .any (.op 6 .any (.op 7 .any (.op 8 .take (.op 9 .any (.op 10 .take (.op 11 .any (.op 12 .any (.op 13 .any (.op 14 .any (.nil))))))))))))))) else .nil
noncomputable def L82 {R : Type} : Loops R := fun _ _ _ _ => none
noncomputable def spec_l01Byte (c0c0 : List (Int × Unit)) (c0c1 : Int) (c0c2 : Int) : Option (Int × (List (Int × Unit)) × Int × Int × Unit) :=
  bif decide (c0c1 < ((List.length c0c0 : Nat) : Int)) then
    bif decide ((0 : Int) ≤ c0c1) then Option.bind ((c0c0)[Int.toNat c0c1]?) fun r1 =>
      some (IntKind.i64.wrap ((BitVec.ofInt IntKind.i64.bits (IntKind.i64.wrap ((IntKind.i64.wrap ((BitVec.ofInt IntKind.i64.bits (IntKind.i64.wrap ((BitVec.ofInt IntKind.i64.bits (Int.fdiv (IntKind.i64.wrap ((IntKind.i64.wrap (c0c2 * (6364136223846793005 : Int))) + (1442695040888963407 : Int))) (2 ^ (min 33 IntKind.i64.bits))) ^^^ BitVec.ofInt IntKind.i64.bits (Int.fdiv (IntKind.i64.wrap ((IntKind.i64.wrap (c0c2 * (6364136223846793005 : Int))) + (1442695040888963407 : Int))) (2 ^ (min 45 IntKind.i64.bits)))).toNat : Int)) &&& BitVec.ofInt IntKind.i64.bits (255 : Int)).toNat : Int)) + (IntKind.i64.wrap r1.1))) &&& BitVec.ofInt IntKind.i64.bits (255 : Int)).toNat : Int), c0c0, IntKind.i64.wrap (c0c1 + (1 : Int)), IntKind.i64.wrap ((IntKind.i64.wrap (c0c2 * (6364136223846793005 : Int))) + (1442695040888963407 : Int)), ())
    else none
  else
    some (IntKind.i64.wrap ((BitVec.ofInt IntKind.i64.bits (IntKind.i64.wrap ((BitVec.ofInt IntKind.i64.bits (Int.fdiv (IntKind.i64.wrap ((IntKind.i64.wrap (c0c2 * (6364136223846793005 : Int))) + (1442695040888963407 : Int))) (2 ^ (min 33 IntKind.i64.bits))) ^^^ BitVec.ofInt IntKind.i64.bits (Int.fdiv (IntKind.i64.wrap ((IntKind.i64.wrap (c0c2 * (6364136223846793005 : Int))) + (1442695040888963407 : Int))) (2 ^ (min 45 IntKind.i64.bits)))).toNat : Int)) &&& BitVec.ofInt IntKind.i64.bits (255 : Int)).toNat : Int), c0c0, c0c1, IntKind.i64.wrap ((IntKind.i64.wrap (c0c2 * (6364136223846793005 : Int))) + (1442695040888963407 : Int)), ())
noncomputable def x82 (x : (List (Int × Unit)) × Int × Int × Unit) : Option (Int × (List (Int × Unit)) × Int × Int × Unit) := spec_l01Byte x.1 x.2.1 x.2.2.1
noncomputable def sem82 : Sem1 := semOf ps82 rs82 x82
theorem so82 : SemsOk Try.prog (semsOf sl82) := sems_nil
theorem t82_eq (x : denR (headRT (ps82.map some))) : codeK (tabOf tr) (semsOf sl82) D82 L82 code82 (start 58 ps82 x) (finK rs82 ps82) = x82 x := by kernel_rfl
theorem k82 : Known Try.prog 82 sem82 :=
  fn_auto tr_ok eq_ok mixed_ok so82 (D := D82) (code := code82) (n := 58) Try.func82 (by kernel_rfl) (by kernel_rfl) (by kernel_rfl) (fun w0 mu _ hs => (loops_of (l := []) (by kernel_rfl) (List.forall_mem_nil _))) t82_eq

/-! ### f72: spec.l01Below -/
noncomputable def code72 : Code := match Try.f72.body with | some c => c | none => .skip
def ps72 : List AP := [.box true [.shr (.cons (.int .u8) .nil), .int .i64, .int .i64], .val false [.int .i64]]
def rs72 : List RP := [{ src := .tmp 4, agg := false, ps := [.int .i64] }]
noncomputable def sl72 : SemL := [(82, (.shr, .shr, .shr, sem82))]
def D72 : Draws := fun _ => .nil
noncomputable def L72 {R : Type} : Loops R := fun _ _ _ _ => none
noncomputable def spec_l01Below (c0c0 : List (Int × Unit)) (c0c1 : Int) (c0c2 : Int) (n1 : Int) : Option (Int × (List (Int × Unit)) × Int × Int × Unit) :=
  bif decide (n1 ≤ (0 : Int)) then
    some ((0 : Int), c0c0, c0c1, c0c2, ())
  else bif decide (n1 ≤ (256 : Int)) then
    Option.bind (spec_l01Byte c0c0 c0c1 c0c2) fun y1 =>
    bif decide (n1 = 0) then
      none
    else
      some (Int.tmod y1.1 n1, y1.2.1, y1.2.2.1, y1.2.2.2.1, ())
  else
    Option.bind (spec_l01Byte c0c0 c0c1 c0c2) fun y2 =>
    Option.bind (spec_l01Byte y2.2.1 y2.2.2.1 y2.2.2.2.1) fun y3 =>
    Option.bind (spec_l01Byte y3.2.1 y3.2.2.1 y3.2.2.2.1) fun y4 =>
    Option.bind (spec_l01Byte y4.2.1 y4.2.2.1 y4.2.2.2.1) fun y5 =>
    bif decide (n1 = 0) then
      none
    else
      some (Int.tmod (IntKind.i64.wrap ((IntKind.i64.wrap ((IntKind.i64.wrap ((IntKind.i64.wrap (y2.1 * (16777216 : Int))) + (IntKind.i64.wrap (y3.1 * (65536 : Int))))) + (IntKind.i64.wrap (y4.1 * (256 : Int))))) + y5.1)) n1, y5.2.1, y5.2.2.1, y5.2.2.2.1, ())
noncomputable def x72 (x : (List (Int × Unit)) × Int × Int × Int × Unit) : Option (Int × (List (Int × Unit)) × Int × Int × Unit) := spec_l01Below x.1 x.2.1 x.2.2.1 x.2.2.2.1
noncomputable def sem72 : Sem1 := semOf ps72 rs72 x72
theorem so72 : SemsOk Try.prog (semsOf sl72) := sems_cons k82 (sems_nil)
theorem t72_eq (x : denR (headRT (ps72.map some))) : codeK (tabOf tr) (semsOf sl72) D72 L72 code72 (start 37 ps72 x) (finK rs72 ps72) = x72 x := by kernel_rfl
theorem k72 : Known Try.prog 72 sem72 :=
  fn_auto tr_ok eq_ok mixed_ok so72 (D := D72) (code := code72) (n := 37) Try.func72 (by kernel_rfl) (by kernel_rfl) (by kernel_rfl) (fun w0 mu _ hs => (loops_of (l := []) (by kernel_rfl) (List.forall_mem_nil _))) t72_eq

/-! ### f81: spec.l01Once -/
noncomputable def code81 : Code := match Try.f81.body with | some c => c | none => .skip
def ps81 : List AP := [.box true [.shr (.cons (.int .u8) .nil), .int .i64, .int .i64], .val false [.int .i64]]
def rs81 : List RP := [{ src := .tmp 4, agg := false, ps := [.bool] }]
noncomputable def sl81 : SemL := [(72, (.shr, .shr, .shr, sem72))]
def D81 : Draws := fun _ => .nil
noncomputable def L81 {R : Type} : Loops R := fun _ _ _ _ => none
noncomputable def spec_l01Once (c0c0 : List (Int × Unit)) (c0c1 : Int) (c0c2 : Int) (n1 : Int) : Option (Bool × (List (Int × Unit)) × Int × Int × Unit) :=
  Option.bind (spec_l01Below c0c0 c0c1 c0c2 n1) fun y1 =>
  some (decide (y1.1 = (0 : Int)), y1.2.1, y1.2.2.1, y1.2.2.2.1, ())
noncomputable def x81 (x : (List (Int × Unit)) × Int × Int × Int × Unit) : Option (Bool × (List (Int × Unit)) × Int × Int × Unit) := spec_l01Once x.1 x.2.1 x.2.2.1 x.2.2.2.1
noncomputable def sem81 : Sem1 := semOf ps81 rs81 x81
theorem so81 : SemsOk Try.prog (semsOf sl81) := sems_cons k72 (sems_nil)
theorem t81_eq (x : denR (headRT (ps81.map some))) : codeK (tabOf tr) (semsOf sl81) D81 L81 code81 (start 9 ps81 x) (finK rs81 ps81) = x81 x := by kernel_rfl
theorem k81 : Known Try.prog 81 sem81 :=
  fn_auto tr_ok eq_ok mixed_ok so81 (D := D81) (code := code81) (n := 9) Try.func81 (by kernel_rfl) (by kernel_rfl) (by kernel_rfl) (fun w0 mu _ hs => (loops_of (l := []) (by kernel_rfl) (List.forall_mem_nil _))) t81_eq

/-! ### f71: spec.l05Token -/
noncomputable def code71 : Code := match Try.f71.body with | some c => c | none => .skip
def ps71 : List AP := [.box true [.shr (.cons (.int .u8) .nil), .int .i64, .int .i64]]
def rs71 : List RP := [{ src := .cell 2, agg := true, ps := [.int .i64, .int .i64, .int .i64, .int .i64, .int .i64, .own (.cons (.int .i64) .nil)] }]
noncomputable def sl71 : SemL := [(72, (.shr, .shr, .shr, sem72)), (81, (.shr, .shr, .shr, sem81))]
def D71 : Draws := fun _ => .nil
def hp71_0 : List (Option AP) := [some (.box true [.shr (.cons (.int .u8) .nil), .int .i64, .int .i64]), none, some (.box false [.int .i64, .int .i64, .int .i64, .int .i64, .int .i64, .own (.cons (.int .i64) .nil)]), some (.box false [.int .i64, .int .i64, .int .i64, .int .i64, .int .i64, .own (.cons (.int .i64) .nil)]), some (.val false [.int .i64]), none, none, none, none, none, none, none, none, none, none, none, none, none, none, none, none, none, none, none, none, none, none, none, none, none, none, none, none, none, none, none, none, none, none, none, none, none, none, none, none, none, none, none]
def e71_0 : List (Option AP) := [some (.box true [.shr (.cons (.int .u8) .nil), .int .i64, .int .i64]), none, some (.box false [.int .i64, .int .i64, .int .i64, .int .i64, .int .i64, .own (.cons (.int .i64) .nil)]), some (.box false [.int .i64, .int .i64, .int .i64, .int .i64, .int .i64, .own (.cons (.int .i64) .nil)]), none, none, none, none, none, none, none, none, none, none, none, none, none, none, none, none, none, none, none, none, none, none, none, none, none, none, none, none, none, none, none, none, none, none, none, none, none, none, none, none, none, none, none, none]
def q71_0 : List (Option AP) := [none, none, none, none, none, none, none, none, none, none, none, none, none, none, none, none, none, none, none, none, none, none, none, none, none, none, none, none, none, none, none, none, none, none, none, none, none, none, none, none, none, none, none, none, none, none, none, none]
abbrev H71_0 : Type := (List (Int × Unit)) × Int × Int × Int × Int × Int × Int × Int × (List (Int × Unit)) × Int × Int × Int × Int × Int × (List (Int × Unit)) × Int × Unit
abbrev E71_0 : Type := (List (Int × Unit)) × Int × Int × Int × Int × Int × Int × Int × (List (Int × Unit)) × Int × Int × Int × Int × Int × (List (Int × Unit)) × Unit
abbrev Q71_0 : Type := Unit
noncomputable def spec_l05Token_c0 (c0c0 : List (Int × Unit)) (c0c1 : Int) (c0c2 : Int) (t2c0 : Int) (t2c1 : Int) (t2c2 : Int) (t2c3 : Int) (t2c4 : Int) (t2c5 : List (Int × Unit)) (t3c0 : Int) (t3c1 : Int) (t3c2 : Int) (t3c3 : Int) (t3c4 : Int) (t3c5 : List (Int × Unit)) (i4 : Int) : Option (Sum H71_0 (Sum E71_0 Q71_0)) :=
  bif decide (i4 ≤ t3c2) then
    Option.bind (spec_l01Once c0c0 c0c1 c0c2 (5 : Int)) fun y6 =>
    bif y6.1 then
      bif Nat.ble (((List.length t3c5) + 1) * 8) lim then some (.inl (y6.2.1, y6.2.2.1, y6.2.2.2.1, t2c0, t2c1, t2c2, t2c3, t2c4, t2c5, t3c0, t3c1, t3c2, t3c3, t3c4, t3c5 ++ [(i4, ())], IntKind.i64.wrap (i4 + (1 : Int)), ()))
      else none
    else
      some (.inl (y6.2.1, y6.2.2.1, y6.2.2.2.1, t2c0, t2c1, t2c2, t2c3, t2c4, t2c5, t3c0, t3c1, t3c2, t3c3, t3c4, t3c5, IntKind.i64.wrap (i4 + (1 : Int)), ()))
  else
    some (.inr (.inl (c0c0, c0c1, c0c2, t2c0, t2c1, t2c2, t2c3, t2c4, t2c5, t3c0, t3c1, t3c2, t3c3, t3c4, t3c5, ())))
noncomputable def spec_l05Token_r0 (x : H71_0) : Option (Sum H71_0 (Sum E71_0 Q71_0)) := spec_l05Token_c0 x.1 x.2.1 x.2.2.1 x.2.2.2.1 x.2.2.2.2.1 x.2.2.2.2.2.1 x.2.2.2.2.2.2.1 x.2.2.2.2.2.2.2.1 x.2.2.2.2.2.2.2.2.1 x.2.2.2.2.2.2.2.2.2.1 x.2.2.2.2.2.2.2.2.2.2.1 x.2.2.2.2.2.2.2.2.2.2.2.1 x.2.2.2.2.2.2.2.2.2.2.2.2.1 x.2.2.2.2.2.2.2.2.2.2.2.2.2.1 x.2.2.2.2.2.2.2.2.2.2.2.2.2.2.1 x.2.2.2.2.2.2.2.2.2.2.2.2.2.2.2.1
noncomputable def L71 {R : Type} : Loops R := fun id _ st k => bif Nat.beq id 0 then loopAt hp71_0 e71_0 q71_0 spec_l05Token_r0 st k else none
noncomputable def spec_l05Token (c0c0 : List (Int × Unit)) (c0c1 : Int) (c0c2 : Int) : Option (Int × Int × Int × Int × Int × (List (Int × Unit)) × (List (Int × Unit)) × Int × Int × Unit) :=
  Option.bind (spec_l01Below c0c0 c0c1 c0c2 (3 : Int)) fun y1 =>
  Option.bind (spec_l01Below y1.2.1 y1.2.2.1 y1.2.2.2.1 (9 : Int)) fun y2 =>
  Option.bind (spec_l01Below y2.2.1 y2.2.2.1 y2.2.2.2.1 (12 : Int)) fun y3 =>
  Option.bind (spec_l01Below y3.2.1 y3.2.2.1 y3.2.2.2.1 (IntKind.i64.wrap (y3.1 + (1 : Int)))) fun y4 =>
  bif decide (y4.1 < y3.1) then
    Option.bind (spec_l01Below y4.2.1 y4.2.2.1 y4.2.2.2.1 (3 : Int)) fun y5 =>
    outK (loopV spec_l05Token_r0 (y5.2.1, y5.2.2.1, y5.2.2.2.1, (0 : Int), (0 : Int), (0 : Int), (0 : Int), (0 : Int), [], IntKind.i64.wrap ((1 : Int) + y1.1), IntKind.i64.wrap ((1 : Int) + y2.1), y3.1, y4.1, IntKind.i64.wrap ((1 : Int) + y5.1), [], (1 : Int), ())) (fun y6 =>
      some (y6.2.2.2.2.2.2.2.2.2.1, y6.2.2.2.2.2.2.2.2.2.2.1, y6.2.2.2.2.2.2.2.2.2.2.2.1, y6.2.2.2.2.2.2.2.2.2.2.2.2.1, y6.2.2.2.2.2.2.2.2.2.2.2.2.2.1, y6.2.2.2.2.2.2.2.2.2.2.2.2.2.2.1, y6.1, y6.2.1, y6.2.2.1, ())) (fun y7 =>
      none)
  else
    Option.bind (spec_l01Once y4.2.1 y4.2.2.1 y4.2.2.2.1 (6 : Int)) fun y8 =>
    bif y8.1 then
      Option.bind (spec_l01Below y8.2.1 y8.2.2.1 y8.2.2.2.1 (3 : Int)) fun y9 =>
      outK (loopV spec_l05Token_r0 (y9.2.1, y9.2.2.1, y9.2.2.2.1, (0 : Int), (0 : Int), (0 : Int), (0 : Int), (0 : Int), [], IntKind.i64.wrap ((1 : Int) + y1.1), IntKind.i64.wrap ((1 : Int) + y2.1), y3.1, y4.1, IntKind.i64.wrap ((1 : Int) + y9.1), [], (1 : Int), ())) (fun y10 =>
        some (y10.2.2.2.2.2.2.2.2.2.1, y10.2.2.2.2.2.2.2.2.2.2.1, y10.2.2.2.2.2.2.2.2.2.2.2.1, y10.2.2.2.2.2.2.2.2.2.2.2.2.1, y10.2.2.2.2.2.2.2.2.2.2.2.2.2.1, y10.2.2.2.2.2.2.2.2.2.2.2.2.2.2.1, y10.1, y10.2.1, y10.2.2.1, ())) (fun y11 =>
        none)
    else
      outK (loopV spec_l05Token_r0 (y8.2.1, y8.2.2.1, y8.2.2.2.1, (0 : Int), (0 : Int), (0 : Int), (0 : Int), (0 : Int), [], IntKind.i64.wrap ((1 : Int) + y1.1), IntKind.i64.wrap ((1 : Int) + y2.1), y3.1, y4.1, (0 : Int), [], (1 : Int), ())) (fun y12 =>
        some (y12.2.2.2.2.2.2.2.2.2.1, y12.2.2.2.2.2.2.2.2.2.2.1, y12.2.2.2.2.2.2.2.2.2.2.2.1, y12.2.2.2.2.2.2.2.2.2.2.2.2.1, y12.2.2.2.2.2.2.2.2.2.2.2.2.2.1, y12.2.2.2.2.2.2.2.2.2.2.2.2.2.2.1, y12.1, y12.2.1, y12.2.2.1, ())) (fun y13 =>
        none)
noncomputable def x71 (x : (List (Int × Unit)) × Int × Int × Unit) : Option (Int × Int × Int × Int × Int × (List (Int × Unit)) × (List (Int × Unit)) × Int × Int × Unit) := spec_l05Token x.1 x.2.1 x.2.2.1
noncomputable def sem71 : Sem1 := semOf ps71 rs71 x71
theorem so71 : SemsOk Try.prog (semsOf sl71) := sems_cons k72 (sems_cons k81 (sems_nil))
noncomputable def b71_0 : Code := nthLoop code71 0
theorem t71_r0_eq (x : denR (headRT hp71_0)) : codeK (tabOf tr) (semsOf sl71) D71 L71 b71_0 (headSt hp71_0 x) (roundK 0 hp71_0 e71_0 q71_0) = spec_l05Token_r0 x := by kernel_rfl
theorem loop71_0 {R : Type} (r : R) (w0 : World) (mu : Mu) (hs : AnShape ps71 mu) : LoopAt Try.prog w0 mu 48 (L71 : Loops R) r 0 b71_0 :=
  loop_auto tr_ok eq_ok mixed_ok so71 (D := D71) hs (by kernel_rfl) (fun _ => (loops_of (l := []) (by kernel_rfl) (List.forall_mem_nil _))) t71_r0_eq (fun _ _ => rfl)
theorem t71_eq (x : denR (headRT (ps71.map some))) : codeK (tabOf tr) (semsOf sl71) D71 L71 code71 (start 48 ps71 x) (finK rs71 ps71) = x71 x := by kernel_rfl
theorem k71 : Known Try.prog 71 sem71 :=
  fn_auto tr_ok eq_ok mixed_ok so71 (D := D71) (code := code71) (n := 48) Try.func71 (by kernel_rfl) (by kernel_rfl) (by kernel_rfl) (fun w0 mu _ hs => (loops_of (l := [(0, b71_0)]) (by kernel_rfl) (List.forall_mem_cons.2 ⟨loop71_0 _ w0 mu hs, (List.forall_mem_nil _)⟩))) t71_eq

/-! ### f73: spec.l01PickInt -/
noncomputable def code73 : Code := match Try.f73.body with | some c => c | none => .skip
def ps73 : List AP := [.box true [.shr (.cons (.int .u8) .nil), .int .i64, .int .i64], .val false [.shr (.cons (.int .i64) .nil)]]
def rs73 : List RP := [{ src := .tmp 4, agg := false, ps := [.int .i64] }]
noncomputable def sl73 : SemL := [(72, (.shr, .shr, .shr, sem72))]
def D73 : Draws := fun _ => .nil
noncomputable def L73 {R : Type} : Loops R := fun _ _ _ _ => none
noncomputable def spec_l01PickInt (c0c0 : List (Int × Unit)) (c0c1 : Int) (c0c2 : Int) (list1 : List (Int × Unit)) : Option (Int × (List (Int × Unit)) × Int × Int × Unit) :=
  Option.bind (spec_l01Below c0c0 c0c1 c0c2 ((List.length list1 : Nat) : Int)) fun y1 =>
  bif decide ((0 : Int) ≤ y1.1) then Option.bind ((list1)[Int.toNat y1.1]?) fun r2 =>
    some (r2.1, y1.2.1, y1.2.2.1, y1.2.2.2.1, ())
  else none
noncomputable def x73 (x : (List (Int × Unit)) × Int × Int × (List (Int × Unit)) × Unit) : Option (Int × (List (Int × Unit)) × Int × Int × Unit) := spec_l01PickInt x.1 x.2.1 x.2.2.1 x.2.2.2.1
noncomputable def sem73 : Sem1 := semOf ps73 rs73 x73
theorem so73 : SemsOk Try.prog (semsOf sl73) := sems_cons k72 (sems_nil)
theorem t73_eq (x : denR (headRT (ps73.map some))) : codeK (tabOf tr) (semsOf sl73) D73 L73 code73 (start 12 ps73 x) (finK rs73 ps73) = x73 x := by kernel_rfl
theorem k73 : Known Try.prog 73 sem73 :=
  fn_auto tr_ok eq_ok mixed_ok so73 (D := D73) (code := code73) (n := 12) Try.func73 (by kernel_rfl) (by kernel_rfl) (by kernel_rfl) (fun w0 mu _ hs => (loops_of (l := []) (by kernel_rfl) (List.forall_mem_nil _))) t73_eq

/-! ### f44: spec.l05AnyToken -/
noncomputable def code44 : Code := match Try.f44.body with | some c => c | none => .skip
def ps44 : List AP := [.box true [.shr (.cons (.int .u8) .nil), .int .i64, .int .i64]]
def rs44 : List RP := [{ src := .cell 2, agg := true, ps := [.int .i64, .int .i64, .int .i64, .int .i64, .int .i64, .own (.cons (.int .i64) .nil)] }]
noncomputable def sl44 : SemL := [(71, (.shr, .shr, .shr, sem71)), (72, (.shr, .shr, .shr, sem72)), (73, (.shr, .shr, .shr, sem73))]
def D44 : Draws := fun id => bif Nat.beq id 14 then .op 0 .any (.op 2 .any (.op 3 .any (.op 4 .take (.op 5 .any (.op 6 .take (.op 7 .any (.alt (.op 1 .one (.op 8 .one (.op 9 .last (.op 10 .one (.op 11 .last (.op 12 .any (.op 13 .last (.nil)))))))) (.op 8 .one (.alt (.op 1 .one (.op 9 .last (.op 10 .one (.op 11 .last (.op 12 .any (.op 13 .last (.nil))))))) (.op 9 .last (.op 1 .take (.op 10 .one (.op 11 .last (.op 12 .any (.op 13 .last (.nil)))))))))))))))) else .nil
noncomputable def L44 {R : Type} : Loops R := fun _ _ _ _ => none
noncomputable def spec_l05AnyToken (c0c0 : List (Int × Unit)) (c0c1 : Int) (c0c2 : Int) : Option (Int × Int × Int × Int × Int × (List (Int × Unit)) × (List (Int × Unit)) × Int × Int × Unit) :=
  Option.bind (spec_l05Token c0c0 c0c1 c0c2) fun y1 =>
  Option.bind (spec_l01Below y1.2.2.2.2.2.2.1 y1.2.2.2.2.2.2.2.1 y1.2.2.2.2.2.2.2.2.1 (24 : Int)) fun y2 =>
  bif decide (y2.1 = (0 : Int)) then
    Option.bind (spec_l01PickInt y2.2.1 y2.2.2.1 y2.2.2.2.1 [((0 : Int), ()), ((9 : Int), ()), ((10 : Int), ())]) fun y3 =>
    some (y3.1, y1.2.1, y1.2.2.1, y1.2.2.2.1, y1.2.2.2.2.1, y1.2.2.2.2.2.1, y3.2.1, y3.2.2.1, y3.2.2.2.1, ())
  else bif decide (y2.1 = (1 : Int)) then
    Option.bind (spec_l01PickInt y2.2.1 y2.2.2.1 y2.2.2.2.1 [((0 : Int), ()), ((-1 : Int), ()), ((1000000000 : Int), ()), ((1000000001 : Int), ())]) fun y4 =>
    some (y1.1, y4.1, y1.2.2.1, y1.2.2.2.1, y1.2.2.2.2.1, y1.2.2.2.2.2.1, y4.2.1, y4.2.2.1, y4.2.2.2.1, ())
  else bif decide (y2.1 = (2 : Int)) then
    Option.bind (spec_l01PickInt y2.2.1 y2.2.2.1 y2.2.2.2.1 [((-1 : Int), ()), ((60 : Int), ()), ((61 : Int), ())]) fun y5 =>
    some (y1.1, y1.2.1, y5.1, y1.2.2.2.1, y1.2.2.2.2.1, y1.2.2.2.2.2.1, y5.2.1, y5.2.2.1, y5.2.2.2.1, ())
  else bif decide (y2.1 = (3 : Int)) then
    Option.bind (spec_l01PickInt y2.2.1 y2.2.2.1 y2.2.2.2.1 [((-1 : Int), ()), (y1.2.2.1, ()), (IntKind.i64.wrap (y1.2.2.1 + (1 : Int)), ())]) fun y6 =>
    some (y1.1, y1.2.1, y1.2.2.1, y6.1, y1.2.2.2.2.1, y1.2.2.2.2.2.1, y6.2.1, y6.2.2.1, y6.2.2.2.1, ())
  else bif decide (y2.1 = (4 : Int)) then
    Option.bind (spec_l01PickInt y2.2.1 y2.2.2.1 y2.2.2.2.1 [((-1 : Int), ()), ((5 : Int), ()), ((6 : Int), ())]) fun y7 =>
    some (y1.1, y1.2.1, y1.2.2.1, y1.2.2.2.1, y7.1, y1.2.2.2.2.2.1, y7.2.1, y7.2.2.1, y7.2.2.2.1, ())
  else bif decide (y2.1 = (5 : Int)) then
    Option.bind (spec_l01PickInt y2.2.1 y2.2.2.1 y2.2.2.2.1 [((0 : Int), ()), ((1 : Int), ()), (y1.2.2.1, ()), (IntKind.i64.wrap (y1.2.2.1 + (1 : Int)), ())]) fun y8 =>
    bif Nat.ble (((List.length y1.2.2.2.2.2.1) + 1) * 8) lim then some (y1.1, y1.2.1, y1.2.2.1, y1.2.2.2.1, y1.2.2.2.2.1, y1.2.2.2.2.2.1 ++ [(y8.1, ())], y8.2.1, y8.2.2.1, y8.2.2.2.1, ())
    else none
  else
    some (y1.1, y1.2.1, y1.2.2.1, y1.2.2.2.1, y1.2.2.2.2.1, y1.2.2.2.2.2.1, y2.2.1, y2.2.2.1, y2.2.2.2.1, ())
noncomputable def spec_l05AnyToken_o (c0c0 : List (Int × Unit)) (c0c1 : Int) (c0c2 : Int) : Option (Int × Int × Int × Int × Int × (List (Int × Unit)) × (List (Int × Unit)) × Int × Int × Unit) :=
  Option.bind (spec_l05Token c0c0 c0c1 c0c2) fun y1 =>
  Option.bind (spec_l01Below y1.2.2.2.2.2.2.1 y1.2.2.2.2.2.2.2.1 y1.2.2.2.2.2.2.2.2.1 (24 : Int)) fun y2 =>
  bif decide (y2.1 = (0 : Int)) then
    Option.bind (spec_l01PickInt y2.2.1 y2.2.2.1 y2.2.2.2.1 [((0 : Int), ()), ((9 : Int), ()), ((10 : Int), ())]) fun y3 =>
    some (y3.1, y1.2.1, y1.2.2.1, y1.2.2.2.1, y1.2.2.2.2.1, y1.2.2.2.2.2.1, y3.2.1, y3.2.2.1, y3.2.2.2.1, ())
  else bif decide (y2.1 = (1 : Int)) then
    Option.bind (spec_l01PickInt y2.2.1 y2.2.2.1 y2.2.2.2.1 [((0 : Int), ()), ((-1 : Int), ()), ((1000000000 : Int), ()), ((1000000001 : Int), ())]) fun y4 =>
    some (y1.1, y4.1, y1.2.2.1, y1.2.2.2.1, y1.2.2.2.2.1, y1.2.2.2.2.2.1, y4.2.1, y4.2.2.1, y4.2.2.2.1, ())
  else bif decide (y2.1 = (2 : Int)) then
    Option.bind (spec_l01PickInt y2.2.1 y2.2.2.1 y2.2.2.2.1 [((-1 : Int), ()), ((60 : Int), ()), ((61 : Int), ())]) fun y5 =>
    some (y1.1, y1.2.1, y5.1, y1.2.2.2.1, y1.2.2.2.2.1, y1.2.2.2.2.2.1, y5.2.1, y5.2.2.1, y5.2.2.2.1, ())
  else bif decide (y2.1 = (3 : Int)) then
    Option.bind (spec_l01PickInt y2.2.1 y2.2.2.1 y2.2.2.2.1 [((-1 : Int), ()), (y1.2.2.1, ()), (IntKind.i64.wrap (y1.2.2.1 + (1 : Int)), ())]) fun y6 =>
    some (y1.1, y1.2.1, y1.2.2.1, y6.1, y1.2.2.2.2.1, y1.2.2.2.2.2.1, y6.2.1, y6.2.2.1, y6.2.2.2.1, ())
  else bif decide (y2.1 = (4 : Int)) then
    Option.bind (spec_l01PickInt y2.2.1 y2.2.2.1 y2.2.2.2.1 [((-1 : Int), ()), ((5 : Int), ()), ((6 : Int), ())]) fun y7 =>
    some (y1.1, y1.2.1, y1.2.2.1, y1.2.2.2.1, y7.1, y1.2.2.2.2.2.1, y7.2.1, y7.2.2.1, y7.2.2.2.1, ())
  else bif decide (y2.1 = (5 : Int)) then
    both (Option.bind (spec_l01PickInt y2.2.1 y2.2.2.1 y2.2.2.2.1 [((0 : Int), ()), ((1 : Int), ()), (y1.2.2.1, ()), (IntKind.i64.wrap (y1.2.2.1 + (1 : Int)), ())]) fun y8 =>
      bif Nat.ble (((List.length y1.2.2.2.2.2.1) + 1) * 8) lim then some (y1.1, y1.2.1, y1.2.2.1, y1.2.2.2.1, y1.2.2.2.2.1, y1.2.2.2.2.2.1 ++ [(y8.1, ())], y8.2.1, y8.2.2.1, y8.2.2.2.1, ())
      else none) (both (Option.bind (spec_l01PickInt y2.2.1 y2.2.2.1 y2.2.2.2.1 [((0 : Int), ()), ((1 : Int), ()), (y1.2.2.1, ()), (IntKind.i64.wrap (y1.2.2.1 + (1 : Int)), ())]) fun y8 =>
        bif Nat.ble (((List.length y1.2.2.2.2.2.1) + 1) * 8) lim then some (y1.1, y1.2.1, y1.2.2.1, y1.2.2.2.1, y1.2.2.2.2.1, y1.2.2.2.2.2.1 ++ [(y8.1, ())], y8.2.1, y8.2.2.1, y8.2.2.2.1, ())
        else none) (Option.bind (spec_l01PickInt y2.2.1 y2.2.2.1 y2.2.2.2.1 [((0 : Int), ()), ((1 : Int), ()), (y1.2.2.1, ()), (IntKind.i64.wrap (y1.2.2.1 + (1 : Int)), ())]) fun y8 =>
        bif Nat.ble (((List.length y1.2.2.2.2.2.1) + 1) * 8) lim then some (y1.1, y1.2.1, y1.2.2.1, y1.2.2.2.1, y1.2.2.2.2.1, y1.2.2.2.2.2.1 ++ [(y8.1, ())], y8.2.1, y8.2.2.1, y8.2.2.2.1, ())
        else none))
  else
    some (y1.1, y1.2.1, y1.2.2.1, y1.2.2.2.1, y1.2.2.2.2.1, y1.2.2.2.2.2.1, y2.2.1, y2.2.2.1, y2.2.2.2.1, ())
theorem spec_l05AnyToken_o_eq (c0c0 : List (Int × Unit)) (c0c1 : Int) (c0c2 : Int) : spec_l05AnyToken_o c0c0 c0c1 c0c2 = spec_l05AnyToken c0c0 c0c1 c0c2 := by
  simp only [spec_l05AnyToken_o, spec_l05AnyToken, both_self]
noncomputable def x44 (x : (List (Int × Unit)) × Int × Int × Unit) : Option (Int × Int × Int × Int × Int × (List (Int × Unit)) × (List (Int × Unit)) × Int × Int × Unit) := spec_l05AnyToken x.1 x.2.1 x.2.2.1
noncomputable def sem44 : Sem1 := semOf ps44 rs44 x44
theorem so44 : SemsOk Try.prog (semsOf sl44) := sems_cons k71 (sems_cons k72 (sems_cons k73 (sems_nil)))
theorem t44_eq (x : denR (headRT (ps44.map some))) : codeK (tabOf tr) (semsOf sl44) D44 L44 code44 (start 59 ps44 x) (finK rs44 ps44) = x44 x := (show _ = spec_l05AnyToken_o x.1 x.2.1 x.2.2.1 from by kernel_rfl).trans (spec_l05AnyToken_o_eq x.1 x.2.1 x.2.2.1)
theorem k44 : Known Try.prog 44 sem44 :=
  fn_auto tr_ok eq_ok mixed_ok so44 (D := D44) (code := code44) (n := 59) Try.func44 (by kernel_rfl) (by kernel_rfl) (by kernel_rfl) (fun w0 mu _ hs => (loops_of (l := []) (by kernel_rfl) (List.forall_mem_nil _))) t44_eq

/-! ### f96: spec.l01Pick -/
noncomputable def code96 : Code := match Try.f96.body with | some c => c | none => .skip
def ps96 : List AP := [.box true [.shr (.cons (.int .u8) .nil), .int .i64, .int .i64], .val false [.shr (.cons .str .nil)]]
def rs96 : List RP := [{ src := .tmp 4, agg := false, ps := [.str] }]
noncomputable def sl96 : SemL := [(72, (.shr, .shr, .shr, sem72))]
def D96 : Draws := fun _ => .nil
noncomputable def L96 {R : Type} : Loops R := fun _ _ _ _ => none
noncomputable def spec_l01Pick (c0c0 : List (Int × Unit)) (c0c1 : Int) (c0c2 : Int) (list1 : List (ByteArray × Unit)) : Option (ByteArray × (List (Int × Unit)) × Int × Int × Unit) :=
  Option.bind (spec_l01Below c0c0 c0c1 c0c2 ((List.length list1 : Nat) : Int)) fun y1 =>
  bif decide ((0 : Int) ≤ y1.1) then Option.bind ((list1)[Int.toNat y1.1]?) fun r2 =>
    some (r2.1, y1.2.1, y1.2.2.1, y1.2.2.2.1, ())
  else none
noncomputable def x96 (x : (List (Int × Unit)) × Int × Int × (List (ByteArray × Unit)) × Unit) : Option (ByteArray × (List (Int × Unit)) × Int × Int × Unit) := spec_l01Pick x.1 x.2.1 x.2.2.1 x.2.2.2.1
noncomputable def sem96 : Sem1 := semOf ps96 rs96 x96
theorem so96 : SemsOk Try.prog (semsOf sl96) := sems_cons k72 (sems_nil)
theorem t96_eq (x : denR (headRT (ps96.map some))) : codeK (tabOf tr) (semsOf sl96) D96 L96 code96 (start 12 ps96 x) (finK rs96 ps96) = x96 x := by kernel_rfl
theorem k96 : Known Try.prog 96 sem96 :=
  fn_auto tr_ok eq_ok mixed_ok so96 (D := D96) (code := code96) (n := 12) Try.func96 (by kernel_rfl) (by kernel_rfl) (by kernel_rfl) (fun w0 mu _ hs => (loops_of (l := []) (by kernel_rfl) (List.forall_mem_nil _))) t96_eq

/-! ### f83: spec.l05Of -/
noncomputable def code83 : Code := match Try.f83.body with | some c => c | none => .skip
def ps83 : List AP := [.box true [.shr (.cons (.int .u8) .nil), .int .i64, .int .i64], .val false [.int .i64]]
def rs83 : List RP := [{ src := .cell 4, agg := true, ps := [.int .i64, .int .i64, .int .i64, .str] }]
noncomputable def sl83 : SemL := [(72, (.shr, .shr, .shr, sem72)), (96, (.shr, .shr, .shr, sem96))]
def D83 : Draws := fun _ => .nil
noncomputable def L83 {R : Type} : Loops R := fun _ _ _ _ => none
noncomputable def spec_l05Of (c0c0 : List (Int × Unit)) (c0c1 : Int) (c0c2 : Int) (seq1 : Int) : Option (Int × Int × Int × ByteArray × (List (Int × Unit)) × Int × Int × Unit) :=
  Option.bind (spec_l01Below c0c0 c0c1 c0c2 (2 : Int)) fun y1 =>
  Option.bind (spec_l01Pick y1.2.1 y1.2.2.1 y1.2.2.2.1 ([((ByteArray.mk #[]), ()), ((ByteArray.mk #[120]), ()), ((ByteArray.mk #[121, 121]), ()), ((ByteArray.mk #[122, 122, 122]), ())])) fun y2 =>
  some (seq1, IntKind.i64.wrap ((1 : Int) + (Int.tmod seq1 (3 : Int))), IntKind.i64.wrap ((1 : Int) + y1.1), y2.1, y2.2.1, y2.2.2.1, y2.2.2.2.1, ())
noncomputable def x83 (x : (List (Int × Unit)) × Int × Int × Int × Unit) : Option (Int × Int × Int × ByteArray × (List (Int × Unit)) × Int × Int × Unit) := spec_l05Of x.1 x.2.1 x.2.2.1 x.2.2.2.1
noncomputable def sem83 : Sem1 := semOf ps83 rs83 x83
theorem so83 : SemsOk Try.prog (semsOf sl83) := sems_cons k72 (sems_cons k96 (sems_nil))
theorem t83_eq (x : denR (headRT (ps83.map some))) : codeK (tabOf tr) (semsOf sl83) D83 L83 code83 (start 16 ps83 x) (finK rs83 ps83) = x83 x := by kernel_rfl
theorem k83 : Known Try.prog 83 sem83 :=
  fn_auto tr_ok eq_ok mixed_ok so83 (D := D83) (code := code83) (n := 16) Try.func83 (by kernel_rfl) (by kernel_rfl) (by kernel_rfl) (fun w0 mu _ hs => (loops_of (l := []) (by kernel_rfl) (List.forall_mem_nil _))) t83_eq

/-! ### f74: spec.l05Items -/
noncomputable def code74 : Code := match Try.f74.body with | some c => c | none => .skip
def ps74 : List AP := [.box true [.shr (.cons (.int .u8) .nil), .int .i64, .int .i64]]
def rs74 : List RP := [{ src := .tmp 2, agg := false, ps := [.own (.cons (.int .i64) (.cons (.int .i64) (.cons (.int .i64) (.cons .str .nil))))] }]
noncomputable def sl74 : SemL := [(72, (.shr, .shr, .shr, sem72)), (81, (.shr, .shr, .shr, sem81)), (83, (.shr, .shr, .shr, sem83))]
def D74 : Draws := fun _ => .nil
def hp74_0 : List (Option AP) := [some (.box true [.shr (.cons (.int .u8) .nil), .int .i64, .int .i64]), none, none, some (.val false [.own (.cons (.int .i64) (.cons (.int .i64) (.cons (.int .i64) (.cons .str .nil))))]), some (.val false [.int .i64]), none, none, none, none, none, none, none, none, none, none, none, none, none, none, none, none, none]
def e74_0 : List (Option AP) := [some (.box true [.shr (.cons (.int .u8) .nil), .int .i64, .int .i64]), none, none, some (.val false [.own (.cons (.int .i64) (.cons (.int .i64) (.cons (.int .i64) (.cons .str .nil))))]), none, none, none, none, none, none, none, none, none, none, none, none, none, none, none, none, none, none]
def q74_0 : List (Option AP) := [none, none, none, none, none, none, none, none, none, none, none, none, none, none, none, none, none, none, none, none, none, none]
abbrev H74_0 : Type := (List (Int × Unit)) × Int × Int × (List (Int × Int × Int × ByteArray × Unit)) × Int × Unit
abbrev E74_0 : Type := (List (Int × Unit)) × Int × Int × (List (Int × Int × Int × ByteArray × Unit)) × Unit
abbrev Q74_0 : Type := Unit
noncomputable def spec_l05Items_c0 (c0c0 : List (Int × Unit)) (c0c1 : Int) (c0c2 : Int) (out3 : List (Int × Int × Int × ByteArray × Unit)) (i4 : Int) : Option (Sum H74_0 (Sum E74_0 Q74_0)) :=
  Option.bind (spec_l01Below c0c0 c0c1 c0c2 (10 : Int)) fun y1 =>
  bif decide (i4 ≤ y1.1) then
    Option.bind (spec_l01Once y1.2.1 y1.2.2.1 y1.2.2.2.1 (4 : Int)) fun y2 =>
    bif !y2.1 then
      Option.bind (spec_l05Of y2.2.1 y2.2.2.1 y2.2.2.2.1 i4) fun y3 =>
      bif Nat.ble (((List.length out3) + 1) * 40) lim then some (.inl (y3.2.2.2.2.1, y3.2.2.2.2.2.1, y3.2.2.2.2.2.2.1, out3 ++ [(y3.1, y3.2.1, y3.2.2.1, y3.2.2.2.1, ())], IntKind.i64.wrap (i4 + (1 : Int)), ()))
      else none
    else
      some (.inl (y2.2.1, y2.2.2.1, y2.2.2.2.1, out3, IntKind.i64.wrap (i4 + (1 : Int)), ()))
  else
    some (.inr (.inl (y1.2.1, y1.2.2.1, y1.2.2.2.1, out3, ())))
noncomputable def spec_l05Items_r0 (x : H74_0) : Option (Sum H74_0 (Sum E74_0 Q74_0)) := spec_l05Items_c0 x.1 x.2.1 x.2.2.1 x.2.2.2.1 x.2.2.2.2.1
noncomputable def L74 {R : Type} : Loops R := fun id _ st k => bif Nat.beq id 0 then loopAt hp74_0 e74_0 q74_0 spec_l05Items_r0 st k else none
noncomputable def spec_l05Items (c0c0 : List (Int × Unit)) (c0c1 : Int) (c0c2 : Int) : Option ((List (Int × Int × Int × ByteArray × Unit)) × (List (Int × Unit)) × Int × Int × Unit) :=
  outK (loopV spec_l05Items_r0 (c0c0, c0c1, c0c2, [], (1 : Int), ())) (fun y1 =>
    some (y1.2.2.2.1, y1.1, y1.2.1, y1.2.2.1, ())) (fun y2 =>
    none)
noncomputable def x74 (x : (List (Int × Unit)) × Int × Int × Unit) : Option ((List (Int × Int × Int × ByteArray × Unit)) × (List (Int × Unit)) × Int × Int × Unit) := spec_l05Items x.1 x.2.1 x.2.2.1
noncomputable def sem74 : Sem1 := semOf ps74 rs74 x74
theorem so74 : SemsOk Try.prog (semsOf sl74) := sems_cons k72 (sems_cons k81 (sems_cons k83 (sems_nil)))
noncomputable def b74_0 : Code := nthLoop code74 0
theorem t74_r0_eq (x : denR (headRT hp74_0)) : codeK (tabOf tr) (semsOf sl74) D74 L74 b74_0 (headSt hp74_0 x) (roundK 0 hp74_0 e74_0 q74_0) = spec_l05Items_r0 x := by kernel_rfl
theorem loop74_0 {R : Type} (r : R) (w0 : World) (mu : Mu) (hs : AnShape ps74 mu) : LoopAt Try.prog w0 mu 22 (L74 : Loops R) r 0 b74_0 :=
  loop_auto tr_ok eq_ok mixed_ok so74 (D := D74) hs (by kernel_rfl) (fun _ => (loops_of (l := []) (by kernel_rfl) (List.forall_mem_nil _))) t74_r0_eq (fun _ _ => rfl)
theorem t74_eq (x : denR (headRT (ps74.map some))) : codeK (tabOf tr) (semsOf sl74) D74 L74 code74 (start 22 ps74 x) (finK rs74 ps74) = x74 x := by kernel_rfl
theorem k74 : Known Try.prog 74 sem74 :=
  fn_auto tr_ok eq_ok mixed_ok so74 (D := D74) (code := code74) (n := 22) Try.func74 (by kernel_rfl) (by kernel_rfl) (by kernel_rfl) (fun w0 mu _ hs => (loops_of (l := [(0, b74_0)]) (by kernel_rfl) (List.forall_mem_cons.2 ⟨loop74_0 _ w0 mu hs, (List.forall_mem_nil _)⟩))) t74_eq

/-! ### f84: spec.l01Long -/
noncomputable def code84 : Code := match Try.f84.body with | some c => c | none => .skip
def ps84 : List AP := [.val false [.int .i64], .val false [.int .u8]]
def rs84 : List RP := [{ src := .tmp 4, agg := false, ps := [.str] }]
noncomputable def sl84 : SemL := []
def D84 : Draws := fun _ => .nil
def hp84_0 : List (Option AP) := [some (.val false [.int .i64]), some (.val false [.int .u8]), none, none, none, some (.val false [.own (.cons (.int .u8) .nil)]), some (.val false [.int .i64]), none, none, none, none, none, none, none, none, none, none, none, none, none]
def e84_0 : List (Option AP) := [none, none, none, none, none, some (.val false [.own (.cons (.int .u8) .nil)]), none, none, none, none, none, none, none, none, none, none, none, none, none, none]
def q84_0 : List (Option AP) := [none, none, none, none, none, none, none, none, none, none, none, none, none, none, none, none, none, none, none, none]
abbrev H84_0 : Type := Int × Int × (List (Int × Unit)) × Int × Unit
abbrev E84_0 : Type := (List (Int × Unit)) × Unit
abbrev Q84_0 : Type := Unit
noncomputable def spec_l01Long_c0 (n0 : Int) (x1 : Int) (out5 : List (Int × Unit)) (i6 : Int) : Option (Sum H84_0 (Sum E84_0 Q84_0)) :=
  bif decide (i6 < n0) then
    bif decide ((0 : Int) ≤ i6) then bif Nat.blt (Int.toNat i6) (List.length out5) then Option.bind ((out5)[Int.toNat i6]?) fun r1 =>
        some (.inl (n0, x1, List.set out5 (Int.toNat i6) (x1, ()), IntKind.i64.wrap (i6 + (1 : Int)), ()))
      else none
    else none
  else
    some (.inr (.inl (out5, ())))
noncomputable def spec_l01Long_r0 (x : H84_0) : Option (Sum H84_0 (Sum E84_0 Q84_0)) := spec_l01Long_c0 x.1 x.2.1 x.2.2.1 x.2.2.2.1
noncomputable def L84 {R : Type} : Loops R := fun id _ st k => bif Nat.beq id 0 then loopAt hp84_0 e84_0 q84_0 spec_l01Long_r0 st k else none
noncomputable def spec_l01Long (n0 : Int) (x1 : Int) : Option (ByteArray × Unit) :=
  bif decide (n0 = n0) then bif decide ((0 : Int) ≤ n0) then bif Nat.ble ((Int.toNat n0) * 1) lim then outK (loopV spec_l01Long_r0 (n0, x1, List.replicate (Int.toNat n0) ((0 : Int), ()), (0 : Int), ())) (fun y1 =>
          some (bytesOf y1.1, ())) (fun y2 =>
          none)
      else none
    else none
  else none
noncomputable def x84 (x : Int × Int × Unit) : Option (ByteArray × Unit) := spec_l01Long x.1 x.2.1
noncomputable def sem84 : Sem1 := semOf ps84 rs84 x84
theorem so84 : SemsOk Try.prog (semsOf sl84) := sems_nil
noncomputable def b84_0 : Code := nthLoop code84 0
theorem t84_r0_eq (x : denR (headRT hp84_0)) : codeK (tabOf tr) (semsOf sl84) D84 L84 b84_0 (headSt hp84_0 x) (roundK 0 hp84_0 e84_0 q84_0) = spec_l01Long_r0 x := by kernel_rfl
theorem loop84_0 {R : Type} (r : R) (w0 : World) (mu : Mu) (hs : AnShape ps84 mu) : LoopAt Try.prog w0 mu 20 (L84 : Loops R) r 0 b84_0 :=
  loop_auto tr_ok eq_ok mixed_ok so84 (D := D84) hs (by kernel_rfl) (fun _ => (loops_of (l := []) (by kernel_rfl) (List.forall_mem_nil _))) t84_r0_eq (fun _ _ => rfl)
theorem t84_eq (x : denR (headRT (ps84.map some))) : codeK (tabOf tr) (semsOf sl84) D84 L84 code84 (start 20 ps84 x) (finK rs84 ps84) = x84 x := by kernel_rfl
theorem k84 : Known Try.prog 84 sem84 :=
  fn_auto tr_ok eq_ok mixed_ok so84 (D := D84) (code := code84) (n := 20) Try.func84 (by kernel_rfl) (by kernel_rfl) (by kernel_rfl) (fun w0 mu _ hs => (loops_of (l := [(0, b84_0)]) (by kernel_rfl) (List.forall_mem_cons.2 ⟨loop84_0 _ w0 mu hs, (List.forall_mem_nil _)⟩))) t84_eq

/-! ### f75: spec.l05AnyItem -/
noncomputable def code75 : Code := match Try.f75.body with | some c => c | none => .skip
def ps75 : List AP := [.box true [.shr (.cons (.int .u8) .nil), .int .i64, .int .i64]]
def rs75 : List RP := [{ src := .cell 2, agg := true, ps := [.int .i64, .int .i64, .int .i64, .str] }]
noncomputable def sl75 : SemL := [(72, (.shr, .shr, .shr, sem72)), (83, (.shr, .shr, .shr, sem83)), (73, (.shr, .shr, .shr, sem73)), (84, (.shr, .shr, .shr, sem84))]
def D75 : Draws := fun _ => .nil
noncomputable def L75 {R : Type} : Loops R := fun _ _ _ _ => none
noncomputable def spec_l05AnyItem (c0c0 : List (Int × Unit)) (c0c1 : Int) (c0c2 : Int) : Option (Int × Int × Int × ByteArray × (List (Int × Unit)) × Int × Int × Unit) :=
  Option.bind (spec_l01Below c0c0 c0c1 c0c2 (12 : Int)) fun y1 =>
  Option.bind (spec_l05Of y1.2.1 y1.2.2.1 y1.2.2.2.1 (IntKind.i64.wrap ((1 : Int) + y1.1))) fun y2 =>
  Option.bind (spec_l01Below y2.2.2.2.2.1 y2.2.2.2.2.2.1 y2.2.2.2.2.2.2.1 (16 : Int)) fun y3 =>
  bif decide (y3.1 = (0 : Int)) then
    Option.bind (spec_l01PickInt y3.2.1 y3.2.2.1 y3.2.2.2.1 [((0 : Int), ()), ((-1 : Int), ()), ((60 : Int), ()), ((61 : Int), ())]) fun y4 =>
    some (y4.1, y2.2.1, y2.2.2.1, y2.2.2.2.1, y4.2.1, y4.2.2.1, y4.2.2.2.1, ())
  else bif decide (y3.1 = (1 : Int)) then
    Option.bind (spec_l01PickInt y3.2.1 y3.2.2.1 y3.2.2.2.1 [((0 : Int), ()), ((5 : Int), ()), ((6 : Int), ())]) fun y5 =>
    some (y2.1, y5.1, y2.2.2.1, y2.2.2.2.1, y5.2.1, y5.2.2.1, y5.2.2.2.1, ())
  else bif decide (y3.1 = (2 : Int)) then
    Option.bind (spec_l01PickInt y3.2.1 y3.2.2.1 y3.2.2.2.1 [((0 : Int), ()), ((3 : Int), ())]) fun y6 =>
    some (y2.1, y2.2.1, y6.1, y2.2.2.2.1, y6.2.1, y6.2.2.1, y6.2.2.2.1, ())
  else bif decide (y3.1 = (3 : Int)) then
    Option.bind (spec_l01Below y3.2.1 y3.2.2.1 y3.2.2.2.1 (2 : Int)) fun y7 =>
    Option.bind (spec_l01Long (IntKind.i64.wrap ((60 : Int) + y7.1)) (65 : Int)) fun y8 =>
    some (y2.1, y2.2.1, y2.2.2.1, y8.1, y7.2.1, y7.2.2.1, y7.2.2.2.1, ())
  else
    some (y2.1, y2.2.1, y2.2.2.1, y2.2.2.2.1, y3.2.1, y3.2.2.1, y3.2.2.2.1, ())
noncomputable def x75 (x : (List (Int × Unit)) × Int × Int × Unit) : Option (Int × Int × Int × ByteArray × (List (Int × Unit)) × Int × Int × Unit) := spec_l05AnyItem x.1 x.2.1 x.2.2.1
noncomputable def sem75 : Sem1 := semOf ps75 rs75 x75
theorem so75 : SemsOk Try.prog (semsOf sl75) := sems_cons k72 (sems_cons k83 (sems_cons k73 (sems_cons k84 (sems_nil))))
theorem t75_eq (x : denR (headRT (ps75.map some))) : codeK (tabOf tr) (semsOf sl75) D75 L75 code75 (start 37 ps75 x) (finK rs75 ps75) = x75 x := by kernel_rfl
theorem k75 : Known Try.prog 75 sem75 :=
  fn_auto tr_ok eq_ok mixed_ok so75 (D := D75) (code := code75) (n := 37) Try.func75 (by kernel_rfl) (by kernel_rfl) (by kernel_rfl) (fun w0 mu _ hs => (loops_of (l := []) (by kernel_rfl) (List.forall_mem_nil _))) t75_eq

/-! ### f45: spec.l05AnyItems -/
noncomputable def code45 : Code := match Try.f45.body with | some c => c | none => .skip
def ps45 : List AP := [.box true [.shr (.cons (.int .u8) .nil), .int .i64, .int .i64]]
def rs45 : List RP := [{ src := .tmp 2, agg := false, ps := [.own (.cons (.int .i64) (.cons (.int .i64) (.cons (.int .i64) (.cons .str .nil))))] }]
noncomputable def sl45 : SemL := [(74, (.shr, .shr, .shr, sem74)), (72, (.shr, .shr, .shr, sem72)), (75, (.shr, .shr, .shr, sem75)), (73, (.shr, .shr, .shr, sem73))]
def D45 : Draws := fun _ => .nil
noncomputable def L45 {R : Type} : Loops R := fun _ _ _ _ => none
noncomputable def spec_l05AnyItems (c0c0 : List (Int × Unit)) (c0c1 : Int) (c0c2 : Int) : Option ((List (Int × Int × Int × ByteArray × Unit)) × (List (Int × Unit)) × Int × Int × Unit) :=
  Option.bind (spec_l05Items c0c0 c0c1 c0c2) fun y1 =>
  Option.bind (spec_l01Below y1.2.1 y1.2.2.1 y1.2.2.2.1 (16 : Int)) fun y2 =>
  bif decide (y2.1 = (0 : Int)) then
    Option.bind (spec_l05AnyItem y2.2.1 y2.2.2.1 y2.2.2.2.1) fun y3 =>
    bif Nat.ble (((List.length y1.1) + 1) * 40) lim then some (y1.1 ++ [(y3.1, y3.2.1, y3.2.2.1, y3.2.2.2.1, ())], y3.2.2.2.2.1, y3.2.2.2.2.2.1, y3.2.2.2.2.2.2.1, ())
    else none
  else bif decide (y2.1 = (1 : Int)) then
    bif decide ((0 : Int) < ((List.length y1.1 : Nat) : Int)) then
      Option.bind (spec_l01Below y2.2.1 y2.2.2.1 y2.2.2.2.1 ((List.length y1.1 : Nat) : Int)) fun y4 =>
      Option.bind (spec_l01PickInt y4.2.1 y4.2.2.1 y4.2.2.2.1 [((0 : Int), ()), ((-1 : Int), ()), ((3 : Int), ()), ((61 : Int), ())]) fun y5 =>
      bif decide ((0 : Int) ≤ y4.1) then bif Nat.blt (Int.toNat y4.1) (List.length y1.1) then Option.bind ((y1.1)[Int.toNat y4.1]?) fun r6 =>
          some (List.set y1.1 (Int.toNat y4.1) (y5.1, r6.2.1, r6.2.2.1, r6.2.2.2.1, ()), y5.2.1, y5.2.2.1, y5.2.2.2.1, ())
        else none
      else none
    else
      some (y1.1, y2.2.1, y2.2.2.1, y2.2.2.2.1, ())
  else
    some (y1.1, y2.2.1, y2.2.2.1, y2.2.2.2.1, ())
noncomputable def x45 (x : (List (Int × Unit)) × Int × Int × Unit) : Option ((List (Int × Int × Int × ByteArray × Unit)) × (List (Int × Unit)) × Int × Int × Unit) := spec_l05AnyItems x.1 x.2.1 x.2.2.1
noncomputable def sem45 : Sem1 := semOf ps45 rs45 x45
theorem so45 : SemsOk Try.prog (semsOf sl45) := sems_cons k74 (sems_cons k72 (sems_cons k75 (sems_cons k73 (sems_nil))))
theorem t45_eq (x : denR (headRT (ps45.map some))) : codeK (tabOf tr) (semsOf sl45) D45 L45 code45 (start 31 ps45 x) (finK rs45 ps45) = x45 x := by kernel_rfl
theorem k45 : Known Try.prog 45 sem45 :=
  fn_auto tr_ok eq_ok mixed_ok so45 (D := D45) (code := code45) (n := 31) Try.func45 (by kernel_rfl) (by kernel_rfl) (by kernel_rfl) (fun w0 mu _ hs => (loops_of (l := []) (by kernel_rfl) (List.forall_mem_nil _))) t45_eq

/-! ### f12: spec.DrawLacks -/
noncomputable def code12 : Code := match Try.f12.body with | some c => c | none => .skip
def ps12 : List AP := [.val false [.shr (.cons (.int .u8) .nil)]]
def rs12 : List RP := [{ src := .cell 2, agg := true, ps := [.int .i64, .int .i64, .int .i64, .int .i64, .int .i64, .own (.cons (.int .i64) .nil)] }, { src := .tmp 3, agg := false, ps := [.own (.cons (.int .i64) (.cons (.int .i64) (.cons (.int .i64) (.cons .str .nil))))] }]
noncomputable def sl12 : SemL := [(43, (.shr, .shr, .shr, sem43)), (44, (.shr, .shr, .shr, sem44)), (45, (.shr, .shr, .shr, sem45))]
def D12 : Draws := fun _ => .nil
noncomputable def L12 {R : Type} : Loops R := fun _ _ _ _ => none
noncomputable def spec_DrawLacks (code0 : List (Int × Unit)) : Option (Int × Int × Int × Int × Int × (List (Int × Unit)) × (List (Int × Int × Int × ByteArray × Unit)) × Unit) :=
  Option.bind (spec_l01New code0) fun y1 =>
  Option.bind (spec_l05AnyToken y1.1 y1.2.1 y1.2.2.1) fun y2 =>
  Option.bind (spec_l05AnyItems y2.2.2.2.2.2.2.1 y2.2.2.2.2.2.2.2.1 y2.2.2.2.2.2.2.2.2.1) fun y3 =>
  some (y2.1, y2.2.1, y2.2.2.1, y2.2.2.2.1, y2.2.2.2.2.1, y2.2.2.2.2.2.1, y3.1, ())
noncomputable def x12 (x : (List (Int × Unit)) × Unit) : Option (Int × Int × Int × Int × Int × (List (Int × Unit)) × (List (Int × Int × Int × ByteArray × Unit)) × Unit) := spec_DrawLacks x.1
noncomputable def sem12 : Sem1 := semOf ps12 rs12 x12
theorem so12 : SemsOk Try.prog (semsOf sl12) := sems_cons k43 (sems_cons k44 (sems_cons k45 (sems_nil)))
theorem t12_eq (x : denR (headRT (ps12.map some))) : codeK (tabOf tr) (semsOf sl12) D12 L12 code12 (start 11 ps12 x) (finK rs12 ps12) = x12 x := by kernel_rfl
theorem k12 : Known Try.prog 12 sem12 :=
  fn_auto tr_ok eq_ok mixed_ok so12 (D := D12) (code := code12) (n := 11) Try.func12 (by kernel_rfl) (by kernel_rfl) (by kernel_rfl) (fun w0 mu _ hs => (loops_of (l := []) (by kernel_rfl) (List.forall_mem_nil _))) t12_eq

/-! ### f52: slices.Clone[[]int,int] -/
noncomputable def code52 : Code := match Try.f52.body with | some c => c | none => .skip
def ps52 : List AP := [.val false [.shr (.cons (.int .i64) .nil)]]
def rs52 : List RP := [{ src := .tmp 2, agg := false, ps := [.own (.cons (.int .i64) .nil)] }]
noncomputable def sl52 : SemL := []
def D52 : Draws := fun _ => .nil
noncomputable def L52 {R : Type} : Loops R := fun _ _ _ _ => none
noncomputable def slices_Clone_int (s0 : List (Int × Unit)) : Option ((List (Int × Unit)) × Unit) :=
  bif Nat.ble ((0 + (List.length s0)) * 8) lim then some ([] ++ s0, ())
  else none
noncomputable def x52 (x : (List (Int × Unit)) × Unit) : Option ((List (Int × Unit)) × Unit) := slices_Clone_int x.1
noncomputable def sem52 : Sem1 := semOf ps52 rs52 x52
theorem so52 : SemsOk Try.prog (semsOf sl52) := sems_nil
theorem t52_nn (x : denR (headRT (ps52.map some))) : codeK (tabOf tr) (semsOf sl52) D52 L52 code52 (startNn 8 ((.cons (.int .i64) .nil)) x.1 ps52 x) (finK rs52 ps52) = x52 x := by kernel_rfl
theorem t52_nil (z : Unit) : codeK (tabOf tr) (semsOf sl52) D52 L52 code52 (startNil 8 ps52 (([] : List (denR ((.cons (.int .i64) .nil)))), z)) (finK rs52 ps52) = x52 (([] : List (denR ((.cons (.int .i64) .nil)))), z) := by kernel_rfl
theorem k52 : Known Try.prog 52 sem52 :=
  fn_auto_nil tr_ok eq_ok mixed_ok so52 (D := D52) (code := code52) (n := 8) Try.func52 (by kernel_rfl) (by kernel_rfl) (by kernel_rfl) (fun w0 mu _ hs => (loops_of (l := []) (by kernel_rfl) (List.forall_mem_nil _))) t52_nil t52_nn

/-! ### f46: impl.copyToken -/
noncomputable def code46 : Code := match Try.f46.body with | some c => c | none => .skip
def ps46 : List AP := [.val true [.int .i64, .int .i64, .int .i64, .int .i64, .int .i64, .shr (.cons (.int .i64) .nil)]]
def rs46 : List RP := [{ src := .cell 2, agg := true, ps := [.int .i64, .int .i64, .int .i64, .int .i64, .int .i64, .own (.cons (.int .i64) .nil)] }]
noncomputable def sl46 : SemL := [(52, (.shr, .shr, .shr, sem52))]
def D46 : Draws := fun _ => .nil
noncomputable def L46 {R : Type} : Loops R := fun _ _ _ _ => none
noncomputable def impl_copyToken (t0c0 : Int) (t0c1 : Int) (t0c2 : Int) (t0c3 : Int) (t0c4 : Int) (t0c5 : List (Int × Unit)) : Option (Int × Int × Int × Int × Int × (List (Int × Unit)) × Unit) :=
  Option.bind (slices_Clone_int t0c5) fun y1 =>
  some (t0c0, t0c1, t0c2, t0c3, t0c4, y1.1, ())
noncomputable def x46 (x : Int × Int × Int × Int × Int × (List (Int × Unit)) × Unit) : Option (Int × Int × Int × Int × Int × (List (Int × Unit)) × Unit) := impl_copyToken x.1 x.2.1 x.2.2.1 x.2.2.2.1 x.2.2.2.2.1 x.2.2.2.2.2.1
noncomputable def sem46 : Sem1 := semOf ps46 rs46 x46
theorem so46 : SemsOk Try.prog (semsOf sl46) := sems_cons k52 (sems_nil)
theorem t46_eq (x : denR (headRT (ps46.map some))) : codeK (tabOf tr) (semsOf sl46) D46 L46 code46 (start 8 ps46 x) (finK rs46 ps46) = x46 x := by kernel_rfl
theorem k46 : Known Try.prog 46 sem46 :=
  fn_auto tr_ok eq_ok mixed_ok so46 (D := D46) (code := code46) (n := 8) Try.func46 (by kernel_rfl) (by kernel_rfl) (by kernel_rfl) (fun w0 mu _ hs => (loops_of (l := []) (by kernel_rfl) (List.forall_mem_nil _))) t46_eq

/-! ### f48: impl.ItemAt -/
noncomputable def code48 : Code := match Try.f48.body with | some c => c | none => .skip
def ps48 : List AP := [.val false [.shr (.cons (.int .i64) (.cons (.int .i64) (.cons (.int .i64) (.cons .str .nil))))], .val false [.int .i64]]
def rs48 : List RP := [{ src := .cell 4, agg := true, ps := [.int .i64, .int .i64, .int .i64, .str] }, { src := .tmp 5, agg := false, ps := [.bool] }]
noncomputable def sl48 : SemL := []
def D48 : Draws := fun _ => .nil
def hp48_0 : List (Option AP) := [none, some (.val false [.int .i64]), none, none, some (.box false [.int .i64, .int .i64, .int .i64, .str]), none, none, none, some (.val false [.shr (.cons (.int .i64) (.cons (.int .i64) (.cons (.int .i64) (.cons .str .nil))))]), some (.val false [.int .i64]), some (.val false [.int .i64]), none, none, none, none, none, none, none, none, none, none]
def e48_0 : List (Option AP) := [none, none, none, none, some (.box false [.int .i64, .int .i64, .int .i64, .str]), none, none, none, none, none, none, none, none, none, none, none, none, none, none, none, none]
def q48_0 : List (Option AP) := [none, none, none, none, some (.box false [.int .i64, .int .i64, .int .i64, .str]), some (.val false [.bool]), none, none, none, none, none, none, none, none, none, none, none, none, none, none, none]
abbrev H48_0 : Type := Int × Int × Int × Int × ByteArray × (List (Int × Int × Int × ByteArray × Unit)) × Int × Int × Unit
abbrev E48_0 : Type := Int × Int × Int × ByteArray × Unit
abbrev Q48_0 : Type := Int × Int × Int × ByteArray × Bool × Unit
noncomputable def impl_ItemAt_c0 (seq1 : Int) (t4c0 : Int) (t4c1 : Int) (t4c2 : Int) (t4c3 : ByteArray) (t8 : List (Int × Int × Int × ByteArray × Unit)) (t9 : Int) (t10 : Int) : Option (Sum H48_0 (Sum E48_0 Q48_0)) :=
  bif decide (t10 < t9) then
    bif decide ((0 : Int) ≤ t10) then Option.bind ((t8)[Int.toNat t10]?) fun r1 =>
      bif decide (r1.1 = seq1) then
        some (.inr (.inr (r1.1, r1.2.1, r1.2.2.1, r1.2.2.2.1, true, ())))
      else
        some (.inl (seq1, t4c0, t4c1, t4c2, t4c3, t8, t9, IntKind.i64.wrap (t10 + (1 : Int)), ()))
    else none
  else
    some (.inr (.inl (t4c0, t4c1, t4c2, t4c3, ())))
noncomputable def impl_ItemAt_r0 (x : H48_0) : Option (Sum H48_0 (Sum E48_0 Q48_0)) := impl_ItemAt_c0 x.1 x.2.1 x.2.2.1 x.2.2.2.1 x.2.2.2.2.1 x.2.2.2.2.2.1 x.2.2.2.2.2.2.1 x.2.2.2.2.2.2.2.1
noncomputable def L48 {R : Type} : Loops R := fun id _ st k => bif Nat.beq id 0 then loopAt hp48_0 e48_0 q48_0 impl_ItemAt_r0 st k else none
noncomputable def impl_ItemAt (list0 : List (Int × Int × Int × ByteArray × Unit)) (seq1 : Int) : Option (Int × Int × Int × ByteArray × Bool × Unit) :=
  outK (loopV impl_ItemAt_r0 (seq1, (0 : Int), (0 : Int), (0 : Int), ByteArray.empty, list0, ((List.length list0 : Nat) : Int), (0 : Int), ())) (fun y1 =>
    some ((0 : Int), (0 : Int), (0 : Int), ByteArray.empty, false, ())) (fun y2 =>
    some (y2.1, y2.2.1, y2.2.2.1, y2.2.2.2.1, y2.2.2.2.2.1, ()))
noncomputable def x48 (x : (List (Int × Int × Int × ByteArray × Unit)) × Int × Unit) : Option (Int × Int × Int × ByteArray × Bool × Unit) := impl_ItemAt x.1 x.2.1
noncomputable def sem48 : Sem1 := semOf ps48 rs48 x48
theorem so48 : SemsOk Try.prog (semsOf sl48) := sems_nil
noncomputable def b48_0 : Code := nthLoop code48 0
theorem t48_r0_eq (x : denR (headRT hp48_0)) : codeK (tabOf tr) (semsOf sl48) D48 L48 b48_0 (headSt hp48_0 x) (roundK 0 hp48_0 e48_0 q48_0) = impl_ItemAt_r0 x := by kernel_rfl
theorem loop48_0 {R : Type} (r : R) (w0 : World) (mu : Mu) (hs : AnShape ps48 mu) : LoopAt Try.prog w0 mu 21 (L48 : Loops R) r 0 b48_0 :=
  loop_auto tr_ok eq_ok mixed_ok so48 (D := D48) hs (by kernel_rfl) (fun _ => (loops_of (l := []) (by kernel_rfl) (List.forall_mem_nil _))) t48_r0_eq (fun _ _ => rfl)
theorem t48_eq (x : denR (headRT (ps48.map some))) : codeK (tabOf tr) (semsOf sl48) D48 L48 code48 (start 21 ps48 x) (finK rs48 ps48) = x48 x := by kernel_rfl
theorem k48 : Known Try.prog 48 sem48 :=
  fn_auto tr_ok eq_ok mixed_ok so48 (D := D48) (code := code48) (n := 21) Try.func48 (by kernel_rfl) (by kernel_rfl) (by kernel_rfl) (fun w0 mu _ hs => (loops_of (l := [(0, b48_0)]) (by kernel_rfl) (List.forall_mem_cons.2 ⟨loop48_0 _ w0 mu hs, (List.forall_mem_nil _)⟩))) t48_eq

/-! ### f76: impl.AruOf -/
noncomputable def code76 : Code := match Try.f76.body with | some c => c | none => .skip
def ps76 : List AP := [.val false [.shr (.cons (.int .i64) (.cons (.int .i64) (.cons (.int .i64) (.cons .str .nil))))]]
def rs76 : List RP := [{ src := .tmp 2, agg := false, ps := [.int .i64] }]
noncomputable def sl76 : SemL := [(48, (.shr, .shr, .shr, sem48))]
def D76 : Draws := fun _ => .nil
def hp76_0 : List (Option AP) := [some (.val false [.shr (.cons (.int .i64) (.cons (.int .i64) (.cons (.int .i64) (.cons .str .nil))))]), none, none, some (.val false [.int .i64]), none, none, none, none, none, none, none, none, none, none, none, none, none, none]
def e76_0 : List (Option AP) := [none, none, none, none, none, none, none, none, none, none, none, none, none, none, none, none, none, none]
def q76_0 : List (Option AP) := [none, none, some (.val false [.int .i64]), none, none, none, none, none, none, none, none, none, none, none, none, none, none, none]
abbrev H76_0 : Type := (List (Int × Int × Int × ByteArray × Unit)) × Int × Unit
abbrev E76_0 : Type := Unit
abbrev Q76_0 : Type := Int × Unit
noncomputable def impl_AruOf_c0 (list0 : List (Int × Int × Int × ByteArray × Unit)) (aru3 : Int) : Option (Sum H76_0 (Sum E76_0 Q76_0)) :=
  Option.bind (impl_ItemAt list0 (IntKind.i64.wrap (aru3 + (1 : Int)))) fun y1 =>
  bif !y1.2.2.2.2.1 then
    some (.inr (.inr (aru3, ())))
  else
    some (.inl (list0, IntKind.i64.wrap (aru3 + (1 : Int)), ()))
noncomputable def impl_AruOf_r0 (x : H76_0) : Option (Sum H76_0 (Sum E76_0 Q76_0)) := impl_AruOf_c0 x.1 x.2.1
noncomputable def L76 {R : Type} : Loops R := fun id _ st k => bif Nat.beq id 0 then loopAt hp76_0 e76_0 q76_0 impl_AruOf_r0 st k else none
noncomputable def impl_AruOf (list0 : List (Int × Int × Int × ByteArray × Unit)) : Option (Int × Unit) :=
  outK (loopV impl_AruOf_r0 (list0, (0 : Int), ())) (fun y1 =>
    none) (fun y2 =>
    some (y2.1, ()))
noncomputable def x76 (x : (List (Int × Int × Int × ByteArray × Unit)) × Unit) : Option (Int × Unit) := impl_AruOf x.1
noncomputable def sem76 : Sem1 := semOf ps76 rs76 x76
theorem so76 : SemsOk Try.prog (semsOf sl76) := sems_cons k48 (sems_nil)
noncomputable def b76_0 : Code := nthLoop code76 0
theorem t76_r0_eq (x : denR (headRT hp76_0)) : codeK (tabOf tr) (semsOf sl76) D76 L76 b76_0 (headSt hp76_0 x) (roundK 0 hp76_0 e76_0 q76_0) = impl_AruOf_r0 x := by kernel_rfl
theorem loop76_0 {R : Type} (r : R) (w0 : World) (mu : Mu) (hs : AnShape ps76 mu) : LoopAt Try.prog w0 mu 18 (L76 : Loops R) r 0 b76_0 :=
  loop_auto tr_ok eq_ok mixed_ok so76 (D := D76) hs (by kernel_rfl) (fun _ => (loops_of (l := []) (by kernel_rfl) (List.forall_mem_nil _))) t76_r0_eq (fun _ _ => rfl)
theorem t76_eq (x : denR (headRT (ps76.map some))) : codeK (tabOf tr) (semsOf sl76) D76 L76 code76 (start 18 ps76 x) (finK rs76 ps76) = x76 x := by kernel_rfl
theorem k76 : Known Try.prog 76 sem76 :=
  fn_auto tr_ok eq_ok mixed_ok so76 (D := D76) (code := code76) (n := 18) Try.func76 (by kernel_rfl) (by kernel_rfl) (by kernel_rfl) (fun w0 mu _ hs => (loops_of (l := [(0, b76_0)]) (by kernel_rfl) (List.forall_mem_cons.2 ⟨loop76_0 _ w0 mu hs, (List.forall_mem_nil _)⟩))) t76_eq

/-! ### f47: impl.Missing -/
noncomputable def code47 : Code := match Try.f47.body with | some c => c | none => .skip
def ps47 : List AP := [.val false [.shr (.cons (.int .i64) (.cons (.int .i64) (.cons (.int .i64) (.cons .str .nil))))], .val false [.int .i64]]
def rs47 : List RP := [{ src := .tmp 4, agg := false, ps := [.own (.cons (.int .i64) .nil)] }]
noncomputable def sl47 : SemL := [(76, (.shr, .shr, .shr, sem76)), (48, (.shr, .shr, .shr, sem48))]
def D47 : Draws := fun _ => .nil
def hp47_0 : List (Option AP) := [some (.val false [.shr (.cons (.int .i64) (.cons (.int .i64) (.cons (.int .i64) (.cons .str .nil))))]), some (.val false [.int .i64]), none, none, none, some (.val false [.own (.cons (.int .i64) .nil)]), some (.val false [.int .i64]), none, none, none, none, none, none, none, none, none, none, none, none, none, none, none, none, none, none, none, none, none, none, none, none, none, none, none, none, none]
def e47_0 : List (Option AP) := [none, none, none, none, none, some (.val false [.own (.cons (.int .i64) .nil)]), none, none, none, none, none, none, none, none, none, none, none, none, none, none, none, none, none, none, none, none, none, none, none, none, none, none, none, none, none, none]
def q47_0 : List (Option AP) := [none, none, none, none, none, none, none, none, none, none, none, none, none, none, none, none, none, none, none, none, none, none, none, none, none, none, none, none, none, none, none, none, none, none, none, none]
abbrev H47_0 : Type := (List (Int × Int × Int × ByteArray × Unit)) × Int × (List (Int × Unit)) × Int × Unit
abbrev E47_0 : Type := (List (Int × Unit)) × Unit
abbrev Q47_0 : Type := Unit
noncomputable def impl_Missing_c0 (list0 : List (Int × Int × Int × ByteArray × Unit)) (upto1 : Int) (out5 : List (Int × Unit)) (seq6 : Int) : Option (Sum H47_0 (Sum E47_0 Q47_0)) :=
  bif decide (seq6 ≤ (if (60 : Int) < upto1 then (60 : Int) else upto1)) then
    bif decide (((List.length out5 : Nat) : Int) < (20 : Int)) then
      Option.bind (impl_ItemAt list0 seq6) fun y2 =>
      bif !y2.2.2.2.2.1 then
        bif Nat.ble (((List.length out5) + 1) * 8) lim then some (.inl (list0, upto1, out5 ++ [(seq6, ())], IntKind.i64.wrap (seq6 + (1 : Int)), ()))
        else none
      else
        some (.inl (list0, upto1, out5, IntKind.i64.wrap (seq6 + (1 : Int)), ()))
    else
      some (.inr (.inl (out5, ())))
  else
    some (.inr (.inl (out5, ())))
noncomputable def impl_Missing_r0 (x : H47_0) : Option (Sum H47_0 (Sum E47_0 Q47_0)) := impl_Missing_c0 x.1 x.2.1 x.2.2.1 x.2.2.2.1
noncomputable def L47 {R : Type} : Loops R := fun id _ st k => bif Nat.beq id 0 then loopAt hp47_0 e47_0 q47_0 impl_Missing_r0 st k else none
noncomputable def impl_Missing (list0 : List (Int × Int × Int × ByteArray × Unit)) (upto1 : Int) : Option ((List (Int × Unit)) × Unit) :=
  Option.bind (impl_AruOf list0) fun y1 =>
  outK (loopV impl_Missing_r0 (list0, upto1, [], IntKind.i64.wrap (y1.1 + (1 : Int)), ())) (fun y2 =>
    some (y2.1, ())) (fun y3 =>
    none)
noncomputable def x47 (x : (List (Int × Int × Int × ByteArray × Unit)) × Int × Unit) : Option ((List (Int × Unit)) × Unit) := impl_Missing x.1 x.2.1
noncomputable def sem47 : Sem1 := semOf ps47 rs47 x47
theorem so47 : SemsOk Try.prog (semsOf sl47) := sems_cons k76 (sems_cons k48 (sems_nil))
noncomputable def b47_0 : Code := nthLoop code47 0
theorem t47_r0_eq (x : denR (headRT hp47_0)) : codeK (tabOf tr) (semsOf sl47) D47 L47 b47_0 (headSt hp47_0 x) (roundK 0 hp47_0 e47_0 q47_0) = impl_Missing_r0 x := by kernel_rfl
theorem loop47_0 {R : Type} (r : R) (w0 : World) (mu : Mu) (hs : AnShape ps47 mu) : LoopAt Try.prog w0 mu 36 (L47 : Loops R) r 0 b47_0 :=
  loop_auto tr_ok eq_ok mixed_ok so47 (D := D47) hs (by kernel_rfl) (fun _ => (loops_of (l := []) (by kernel_rfl) (List.forall_mem_nil _))) t47_r0_eq (fun _ _ => rfl)
theorem t47_eq (x : denR (headRT (ps47.map some))) : codeK (tabOf tr) (semsOf sl47) D47 L47 code47 (start 36 ps47 x) (finK rs47 ps47) = x47 x := by kernel_rfl
theorem k47 : Known Try.prog 47 sem47 :=
  fn_auto tr_ok eq_ok mixed_ok so47 (D := D47) (code := code47) (n := 36) Try.func47 (by kernel_rfl) (by kernel_rfl) (by kernel_rfl) (fun w0 mu _ hs => (loops_of (l := [(0, b47_0)]) (by kernel_rfl) (List.forall_mem_cons.2 ⟨loop47_0 _ w0 mu hs, (List.forall_mem_nil _)⟩))) t47_eq

/-! ### f50: slices.Sort[[]int,int], of the library -/
def ren189 : Go.Shelf.Ren := ⟨fun | 189 => 50 | 125 => 78 | 257 => 77 | 128 => 94 | 129 => 95 | 294 => 85 | 295 => 86 | 296 => 87 | 297 => 88 | 298 => 89 | 299 => 90 | 216 => 91 | 300 => 92 | 301 => 93 | 328 => 97 | 329 => 98 | 330 => 99 | 331 => 100 | 332 => 101 | 215 => 102 | 343 => 103 | n => n, fun | 28 => 22 | 3 => 3 | 46 => 103 | 0 => 0 | 51 => 118 | 53 => 120 | 4 => 4 | 183 => 110 | 182 => 109 | 131 => 115 | 5 => 5 | 9 => 9 | 218 => 122 | 222 => 126 | 228 => 128 | 229 => 129 | n => n, fun | n => n⟩
set_option maxRecDepth 100000 in
theorem lays189 : Go.Proofs.Lays.n189 Try.prog ren189 := { mixed := by kernel_rfl, f125 := Try.func78.trans (congrArg some (by kernel_rfl)), f128 := Try.func94.trans (congrArg some (by kernel_rfl)), f129 := Try.func95.trans (congrArg some (by kernel_rfl)), f189 := Try.func50.trans (congrArg some (by kernel_rfl)), f215 := Try.func102.trans (congrArg some (by kernel_rfl)), f216 := Try.func91.trans (congrArg some (by kernel_rfl)), f257 := Try.func77.trans (congrArg some (by kernel_rfl)), f294 := Try.func85.trans (congrArg some (by kernel_rfl)), f295 := Try.func86.trans (congrArg some (by kernel_rfl)), f296 := Try.func87.trans (congrArg some (by kernel_rfl)), f297 := Try.func88.trans (congrArg some (by kernel_rfl)), f298 := Try.func89.trans (congrArg some (by kernel_rfl)), f299 := Try.func90.trans (congrArg some (by kernel_rfl)), f300 := Try.func92.trans (congrArg some (by kernel_rfl)), f301 := Try.func93.trans (congrArg some (by kernel_rfl)), f328 := Try.func97.trans (congrArg some (by kernel_rfl)), f329 := Try.func98.trans (congrArg some (by kernel_rfl)), f330 := Try.func99.trans (congrArg some (by kernel_rfl)), f331 := Try.func100.trans (congrArg some (by kernel_rfl)), f332 := Try.func101.trans (congrArg some (by kernel_rfl)), f343 := Try.func103.trans (congrArg some (by kernel_rfl)), t0 := Try.underlying0, a0 := Try.isAgg0, z0 := Try.sizeOf0, v0 := Try.zeroValue0, t3 := Try.underlying3, a3 := Try.isAgg3, z3 := Try.sizeOf3, v3 := Try.zeroValue3, t4 := Try.underlying4, a4 := Try.isAgg4, z4 := Try.sizeOf4, v4 := Try.zeroValue4, t5 := Try.underlying5, a5 := Try.isAgg5, z5 := Try.sizeOf5, v5 := Try.zeroValue5, t9 := Try.underlying9, a9 := Try.isAgg9, z9 := Try.sizeOf9, v9 := Try.zeroValue9, t28 := Try.underlying22, a28 := Try.isAgg22, z28 := Try.sizeOf22, v28 := Try.zeroValue22, t46 := Try.underlying103, a46 := Try.isAgg103, z46 := Try.sizeOf103, v46 := Try.zeroValue103, t51 := Try.underlying118, a51 := Try.isAgg118, z51 := Try.sizeOf118, v51 := Try.zeroValue118, t53 := Try.underlying120, a53 := Try.isAgg120, z53 := Try.sizeOf120, v53 := Try.zeroValue120, t131 := Try.underlying115, a131 := Try.isAgg115, z131 := Try.sizeOf115, v131 := Try.zeroValue115, t182 := Try.underlying109, a182 := Try.isAgg109, z182 := Try.sizeOf109, v182 := Try.zeroValue109, t183 := Try.underlying110, a183 := Try.isAgg110, z183 := Try.sizeOf110, v183 := Try.zeroValue110, t218 := Try.underlying122, a218 := Try.isAgg122, z218 := Try.sizeOf122, v218 := Try.zeroValue122, t222 := Try.underlying126, a222 := Try.isAgg126, z222 := Try.sizeOf126, v222 := Try.zeroValue126, t228 := Try.underlying128, a228 := Try.isAgg128, z228 := Try.sizeOf128, v228 := Try.zeroValue128, t229 := Try.underlying129, a229 := Try.isAgg129, z229 := Try.sizeOf129, v229 := Try.zeroValue129 }
noncomputable def sem50 : Sem1 := semOf [.io (.cons (.int .i64) .nil)] [] (fun x => sortT x.1)
theorem k50 : Known Try.prog 50 sem50 := sort_known lays189 rfl ⟨_, Try.func50, rfl, rfl⟩

/-! ### f51: slices.Compact[[]int,int], of the library -/
def ren2_20 : Go.Shelf.Ren := ⟨fun | 20 => 51 | n => n, fun | 22 => 22 | 3 => 3 | 4 => 4 | 0 => 0 | n => n, fun | n => n⟩
set_option maxRecDepth 100000 in
theorem lays2_20 : Go.Proofs.Lays2.n20 Try.prog ren2_20 := { mixed := by kernel_rfl, f20 := Try.func51.trans (congrArg some (by kernel_rfl)), t0 := Try.underlying0, a0 := Try.isAgg0, z0 := Try.sizeOf0, v0 := Try.zeroValue0, t3 := Try.underlying3, a3 := Try.isAgg3, z3 := Try.sizeOf3, v3 := Try.zeroValue3, t4 := Try.underlying4, a4 := Try.isAgg4, z4 := Try.sizeOf4, v4 := Try.zeroValue4, t22 := Try.underlying22, a22 := Try.isAgg22, z22 := Try.sizeOf22, v22 := Try.zeroValue22, i3 := by kernel_rfl }
noncomputable def sem51 : Sem1 := semOf [.val false [.own (.cons (.int .i64) .nil)]] [{ src := .tmp 0, agg := false, ps := [.own (.cons (.int .i64) .nil)] }] (fun x => compactT x.1)
theorem k51 : Known Try.prog 51 sem51 := compact_known lays2_20 rfl ⟨_, Try.func51, rfl, rfl⟩

/-! ### f13: impl.Lacks -/
noncomputable def code13 : Code := match Try.f13.body with | some c => c | none => .skip
def ps13 : List AP := [.val true [.int .i64, .int .i64, .int .i64, .int .i64, .int .i64, .shr (.cons (.int .i64) .nil)], .val false [.shr (.cons (.int .i64) (.cons (.int .i64) (.cons (.int .i64) (.cons .str .nil))))]]
def rs13 : List RP := [{ src := .cell 4, agg := true, ps := [.int .i64, .int .i64, .int .i64, .int .i64, .int .i64, .own (.cons (.int .i64) .nil)] }]
noncomputable def sl13 : SemL := [(46, (.shr, .shr, .shr, sem46)), (47, (.shr, .shr, .shr, sem47)), (48, (.shr, .shr, .shr, sem48)), (49, (.shr, .shr, .shr, sem49)), (50, (.io, .shr, .shr, sem50)), (51, (.own, .shr, .shr, sem51)), (52, (.shr, .shr, .shr, sem52))]
def D13 : Draws := fun _ => .nil
def hp13_0 : List (Option AP) := [none, some (.val false [.shr (.cons (.int .i64) (.cons (.int .i64) (.cons (.int .i64) (.cons .str .nil))))]), none, none, some (.box false [.int .i64, .int .i64, .int .i64, .int .i64, .int .i64, .own (.cons (.int .i64) .nil)]), some (.box false [.int .i64, .int .i64, .int .i64, .int .i64, .int .i64, .own (.cons (.int .i64) .nil)]), some (.val false [.own (.cons (.int .i64) .nil)]), none, none, none, none, none, none, none, none, none, none, none, some (.val false [.shr (.cons (.int .i64) .nil)]), some (.val false [.int .i64]), some (.val false [.int .i64]), none, none, none, none, none, none, none, none, none, none, none, none, none, none, none, none, none, none, none, none, none, none, none, none, none, none, none, none, none, none, none, none]
def e13_0 : List (Option AP) := [none, none, none, none, some (.box false [.int .i64, .int .i64, .int .i64, .int .i64, .int .i64, .own (.cons (.int .i64) .nil)]), some (.box false [.int .i64, .int .i64, .int .i64, .int .i64, .int .i64, .own (.cons (.int .i64) .nil)]), some (.val false [.own (.cons (.int .i64) .nil)]), none, none, none, none, none, none, none, none, none, none, none, none, none, none, none, none, none, none, none, none, none, none, none, none, none, none, none, none, none, none, none, none, none, none, none, none, none, none, none, none, none, none, none, none, none, none]
def q13_0 : List (Option AP) := [none, none, none, none, none, none, none, none, none, none, none, none, none, none, none, none, none, none, none, none, none, none, none, none, none, none, none, none, none, none, none, none, none, none, none, none, none, none, none, none, none, none, none, none, none, none, none, none, none, none, none, none, none]
abbrev H13_0 : Type := (List (Int × Int × Int × ByteArray × Unit)) × Int × Int × Int × Int × Int × (List (Int × Unit)) × Int × Int × Int × Int × Int × (List (Int × Unit)) × (List (Int × Unit)) × (List (Int × Unit)) × Int × Int × Unit
abbrev E13_0 : Type := Int × Int × Int × Int × Int × (List (Int × Unit)) × Int × Int × Int × Int × Int × (List (Int × Unit)) × (List (Int × Unit)) × Unit
abbrev Q13_0 : Type := Unit
noncomputable def impl_Lacks_c0 (list1 : List (Int × Int × Int × ByteArray × Unit)) (t4c0 : Int) (t4c1 : Int) (t4c2 : Int) (t4c3 : Int) (t4c4 : Int) (t4c5 : List (Int × Unit)) (out5c0 : Int) (out5c1 : Int) (out5c2 : Int) (out5c3 : Int) (out5c4 : Int) (out5c5 : List (Int × Unit)) (wants6 : List (Int × Unit)) (t18 : List (Int × Unit)) (t19 : Int) (t20 : Int) : Option (Sum H13_0 (Sum E13_0 Q13_0)) :=
  bif decide (t20 < t19) then
    bif decide ((0 : Int) ≤ t20) then Option.bind ((t18)[Int.toNat t20]?) fun r3 =>
      Option.bind (impl_ItemAt list1 r3.1) fun y4 =>
      bif !y4.2.2.2.2.1 then
        Option.bind (impl_inRange r3.1 (1 : Int) (60 : Int)) fun y5 =>
        bif y5.1 then
          bif Nat.ble (((List.length wants6) + 1) * 8) lim then some (.inl (list1, t4c0, t4c1, t4c2, t4c3, t4c4, t4c5, out5c0, out5c1, out5c2, out5c3, out5c4, out5c5, wants6 ++ [(r3.1, ())], t18, t19, IntKind.i64.wrap (t20 + (1 : Int)), ()))
          else none
        else
          some (.inl (list1, t4c0, t4c1, t4c2, t4c3, t4c4, t4c5, out5c0, out5c1, out5c2, out5c3, out5c4, out5c5, wants6, t18, t19, IntKind.i64.wrap (t20 + (1 : Int)), ()))
      else
        some (.inl (list1, t4c0, t4c1, t4c2, t4c3, t4c4, t4c5, out5c0, out5c1, out5c2, out5c3, out5c4, out5c5, wants6, t18, t19, IntKind.i64.wrap (t20 + (1 : Int)), ()))
    else none
  else
    some (.inr (.inl (t4c0, t4c1, t4c2, t4c3, t4c4, t4c5, out5c0, out5c1, out5c2, out5c3, out5c4, out5c5, wants6, ())))
noncomputable def impl_Lacks_r0 (x : H13_0) : Option (Sum H13_0 (Sum E13_0 Q13_0)) := impl_Lacks_c0 x.1 x.2.1 x.2.2.1 x.2.2.2.1 x.2.2.2.2.1 x.2.2.2.2.2.1 x.2.2.2.2.2.2.1 x.2.2.2.2.2.2.2.1 x.2.2.2.2.2.2.2.2.1 x.2.2.2.2.2.2.2.2.2.1 x.2.2.2.2.2.2.2.2.2.2.1 x.2.2.2.2.2.2.2.2.2.2.2.1 x.2.2.2.2.2.2.2.2.2.2.2.2.1 x.2.2.2.2.2.2.2.2.2.2.2.2.2.1 x.2.2.2.2.2.2.2.2.2.2.2.2.2.2.1 x.2.2.2.2.2.2.2.2.2.2.2.2.2.2.2.1 x.2.2.2.2.2.2.2.2.2.2.2.2.2.2.2.2.1
noncomputable def L13 {R : Type} : Loops R := fun id _ st k => bif Nat.beq id 0 then loopAt hp13_0 e13_0 q13_0 impl_Lacks_r0 st k else none
noncomputable def impl_Lacks (t0c0 : Int) (t0c1 : Int) (t0c2 : Int) (t0c3 : Int) (t0c4 : Int) (t0c5 : List (Int × Unit)) (list1 : List (Int × Int × Int × ByteArray × Unit)) : Option (Int × Int × Int × Int × Int × (List (Int × Unit)) × Unit) :=
  Option.bind (impl_copyToken t0c0 t0c1 t0c2 t0c3 t0c4 t0c5) fun y1 =>
  Option.bind (impl_Missing list1 t0c2) fun y2 =>
  outK (loopV impl_Lacks_r0 (list1, (0 : Int), (0 : Int), (0 : Int), (0 : Int), (0 : Int), [], y1.1, y1.2.1, y1.2.2.1, y1.2.2.2.1, y1.2.2.2.2.1, y1.2.2.2.2.2.1, y2.1, t0c5, ((List.length t0c5 : Nat) : Int), (0 : Int), ())) (fun y3 =>
    Option.bind (sortT y3.2.2.2.2.2.2.2.2.2.2.2.2.1) fun y5 =>
    Option.bind (compactT y5.1) fun y6 =>
    bif decide ((0 : Int) ≤ (if (20 : Int) < ((List.length y6.1 : Nat) : Int) then (20 : Int) else ((List.length y6.1 : Nat) : Int))) then bif decide ((if (20 : Int) < ((List.length y6.1 : Nat) : Int) then (20 : Int) else ((List.length y6.1 : Nat) : Int)) ≤ ((List.length y6.1 : Nat) : Int)) then Option.bind (slices_Clone_int (List.take (Int.toNat (if (20 : Int) < ((List.length y6.1 : Nat) : Int) then (20 : Int) else ((List.length y6.1 : Nat) : Int))) (List.drop 0 y6.1))) fun y7 =>
        some (y3.2.2.2.2.2.2.1, y3.2.2.2.2.2.2.2.1, y3.2.2.2.2.2.2.2.2.1, y3.2.2.2.2.2.2.2.2.2.1, y3.2.2.2.2.2.2.2.2.2.2.1, y7.1, ())
      else none
    else none) (fun y4 =>
    none)
noncomputable def x13 (x : Int × Int × Int × Int × Int × (List (Int × Unit)) × (List (Int × Int × Int × ByteArray × Unit)) × Unit) : Option (Int × Int × Int × Int × Int × (List (Int × Unit)) × Unit) := impl_Lacks x.1 x.2.1 x.2.2.1 x.2.2.2.1 x.2.2.2.2.1 x.2.2.2.2.2.1 x.2.2.2.2.2.2.1
noncomputable def sem13 : Sem1 := semOf ps13 rs13 x13
theorem so13 : SemsOk Try.prog (semsOf sl13) := sems_cons k46 (sems_cons k47 (sems_cons k48 (sems_cons k49 (sems_cons k50 (sems_cons k51 (sems_cons k52 (sems_nil)))))))
noncomputable def b13_0 : Code := nthLoop code13 0
theorem t13_r0_eq (x : denR (headRT hp13_0)) : codeK (tabOf tr) (semsOf sl13) D13 L13 b13_0 (headSt hp13_0 x) (roundK 0 hp13_0 e13_0 q13_0) = impl_Lacks_r0 x := by kernel_rfl
theorem loop13_0 {R : Type} (r : R) (w0 : World) (mu : Mu) (hs : AnShape ps13 mu) : LoopAt Try.prog w0 mu 53 (L13 : Loops R) r 0 b13_0 :=
  loop_auto tr_ok eq_ok mixed_ok so13 (D := D13) hs (by kernel_rfl) (fun _ => (loops_of (l := []) (by kernel_rfl) (List.forall_mem_nil _))) t13_r0_eq (fun _ _ => rfl)
theorem t13_eq (x : denR (headRT (ps13.map some))) : codeK (tabOf tr) (semsOf sl13) D13 L13 code13 (start 53 ps13 x) (finK rs13 ps13) = x13 x := by kernel_rfl
theorem k13 : Known Try.prog 13 sem13 :=
  fn_auto tr_ok eq_ok mixed_ok so13 (D := D13) (code := code13) (n := 53) Try.func13 (by kernel_rfl) (by kernel_rfl) (by kernel_rfl) (fun w0 mu _ hs => (loops_of (l := [(0, b13_0)]) (by kernel_rfl) (List.forall_mem_cons.2 ⟨loop13_0 _ w0 mu hs, (List.forall_mem_nil _)⟩))) t13_eq

/-! ### f17: spec.ItemAt -/
noncomputable def code17 : Code := match Try.f17.body with | some c => c | none => .skip
def ps17 : List AP := [.val false [.shr (.cons (.int .i64) (.cons (.int .i64) (.cons (.int .i64) (.cons .str .nil))))], .val false [.int .i64]]
def rs17 : List RP := [{ src := .cell 4, agg := true, ps := [.int .i64, .int .i64, .int .i64, .str] }, { src := .tmp 5, agg := false, ps := [.bool] }]
noncomputable def sl17 : SemL := []
def D17 : Draws := fun _ => .nil
def hp17_0 : List (Option AP) := [some (.val false [.shr (.cons (.int .i64) (.cons (.int .i64) (.cons (.int .i64) (.cons .str .nil))))]), some (.val false [.int .i64]), none, none, some (.box false [.int .i64, .int .i64, .int .i64, .str]), none, some (.val false [.int .i64]), none, none, none, none, none, none, none, none, none, none, none, none, none, none, none, none, none, none]
def e17_0 : List (Option AP) := [none, none, none, none, some (.box false [.int .i64, .int .i64, .int .i64, .str]), none, none, none, none, none, none, none, none, none, none, none, none, none, none, none, none, none, none, none, none]
def q17_0 : List (Option AP) := [none, none, none, none, some (.box false [.int .i64, .int .i64, .int .i64, .str]), some (.val false [.bool]), none, none, none, none, none, none, none, none, none, none, none, none, none, none, none, none, none, none, none]
abbrev H17_0 : Type := (List (Int × Int × Int × ByteArray × Unit)) × Int × Int × Int × Int × ByteArray × Int × Unit
abbrev E17_0 : Type := Int × Int × Int × ByteArray × Unit
abbrev Q17_0 : Type := Int × Int × Int × ByteArray × Bool × Unit
noncomputable def spec_ItemAt_c0 (list0 : List (Int × Int × Int × ByteArray × Unit)) (seq1 : Int) (t4c0 : Int) (t4c1 : Int) (t4c2 : Int) (t4c3 : ByteArray) (i6 : Int) : Option (Sum H17_0 (Sum E17_0 Q17_0)) :=
  bif decide (i6 < ((List.length list0 : Nat) : Int)) then
    bif decide ((0 : Int) ≤ i6) then Option.bind ((list0)[Int.toNat i6]?) fun r1 =>
      bif decide (r1.1 = seq1) then
        bif decide ((0 : Int) ≤ i6) then Option.bind ((list0)[Int.toNat i6]?) fun r2 =>
          some (.inr (.inr (r2.1, r2.2.1, r2.2.2.1, r2.2.2.2.1, true, ())))
        else none
      else
        some (.inl (list0, seq1, t4c0, t4c1, t4c2, t4c3, IntKind.i64.wrap (i6 + (1 : Int)), ()))
    else none
  else
    some (.inr (.inl (t4c0, t4c1, t4c2, t4c3, ())))
noncomputable def spec_ItemAt_r0 (x : H17_0) : Option (Sum H17_0 (Sum E17_0 Q17_0)) := spec_ItemAt_c0 x.1 x.2.1 x.2.2.1 x.2.2.2.1 x.2.2.2.2.1 x.2.2.2.2.2.1 x.2.2.2.2.2.2.1
noncomputable def L17 {R : Type} : Loops R := fun id _ st k => bif Nat.beq id 0 then loopAt hp17_0 e17_0 q17_0 spec_ItemAt_r0 st k else none
noncomputable def spec_ItemAt (list0 : List (Int × Int × Int × ByteArray × Unit)) (seq1 : Int) : Option (Int × Int × Int × ByteArray × Bool × Unit) :=
  outK (loopV spec_ItemAt_r0 (list0, seq1, (0 : Int), (0 : Int), (0 : Int), ByteArray.empty, (0 : Int), ())) (fun y1 =>
    some ((0 : Int), (0 : Int), (0 : Int), ByteArray.empty, false, ())) (fun y2 =>
    some (y2.1, y2.2.1, y2.2.2.1, y2.2.2.2.1, y2.2.2.2.2.1, ()))
noncomputable def x17 (x : (List (Int × Int × Int × ByteArray × Unit)) × Int × Unit) : Option (Int × Int × Int × ByteArray × Bool × Unit) := spec_ItemAt x.1 x.2.1
noncomputable def sem17 : Sem1 := semOf ps17 rs17 x17
theorem so17 : SemsOk Try.prog (semsOf sl17) := sems_nil
noncomputable def b17_0 : Code := nthLoop code17 0
theorem t17_r0_eq (x : denR (headRT hp17_0)) : codeK (tabOf tr) (semsOf sl17) D17 L17 b17_0 (headSt hp17_0 x) (roundK 0 hp17_0 e17_0 q17_0) = spec_ItemAt_r0 x := by kernel_rfl
theorem loop17_0 {R : Type} (r : R) (w0 : World) (mu : Mu) (hs : AnShape ps17 mu) : LoopAt Try.prog w0 mu 25 (L17 : Loops R) r 0 b17_0 :=
  loop_auto tr_ok eq_ok mixed_ok so17 (D := D17) hs (by kernel_rfl) (fun _ => (loops_of (l := []) (by kernel_rfl) (List.forall_mem_nil _))) t17_r0_eq (fun _ _ => rfl)
theorem t17_eq (x : denR (headRT (ps17.map some))) : codeK (tabOf tr) (semsOf sl17) D17 L17 code17 (start 25 ps17 x) (finK rs17 ps17) = x17 x := by kernel_rfl
theorem k17 : Known Try.prog 17 sem17 :=
  fn_auto tr_ok eq_ok mixed_ok so17 (D := D17) (code := code17) (n := 25) Try.func17 (by kernel_rfl) (by kernel_rfl) (by kernel_rfl) (fun w0 mu _ hs => (loops_of (l := [(0, b17_0)]) (by kernel_rfl) (List.forall_mem_cons.2 ⟨loop17_0 _ w0 mu hs, (List.forall_mem_nil _)⟩))) t17_eq

/-! ### f79: spec.AruOf -/
noncomputable def code79 : Code := match Try.f79.body with | some c => c | none => .skip
def ps79 : List AP := [.val false [.shr (.cons (.int .i64) (.cons (.int .i64) (.cons (.int .i64) (.cons .str .nil))))]]
def rs79 : List RP := [{ src := .tmp 2, agg := false, ps := [.int .i64] }]
noncomputable def sl79 : SemL := [(17, (.shr, .shr, .shr, sem17))]
def D79 : Draws := fun _ => .nil
def hp79_0 : List (Option AP) := [some (.val false [.shr (.cons (.int .i64) (.cons (.int .i64) (.cons (.int .i64) (.cons .str .nil))))]), none, none, some (.val false [.int .i64]), some (.val false [.int .i64]), none, none, none, none, none, none, none, none, none, none, none, none, none, none, none, none, none, none, none, none, none]
def e79_0 : List (Option AP) := [none, none, none, some (.val false [.int .i64]), none, none, none, none, none, none, none, none, none, none, none, none, none, none, none, none, none, none, none, none, none, none]
def q79_0 : List (Option AP) := [none, none, some (.val false [.int .i64]), none, none, none, none, none, none, none, none, none, none, none, none, none, none, none, none, none, none, none, none, none, none, none]
abbrev H79_0 : Type := (List (Int × Int × Int × ByteArray × Unit)) × Int × Int × Unit
abbrev E79_0 : Type := Int × Unit
abbrev Q79_0 : Type := Int × Unit
noncomputable def spec_AruOf_c0 (list0 : List (Int × Int × Int × ByteArray × Unit)) (n3 : Int) (i4 : Int) : Option (Sum H79_0 (Sum E79_0 Q79_0)) :=
  bif decide (i4 < ((List.length list0 : Nat) : Int)) then
    Option.bind (spec_ItemAt list0 (IntKind.i64.wrap (n3 + (1 : Int)))) fun y1 =>
    bif !y1.2.2.2.2.1 then
      some (.inr (.inr (n3, ())))
    else
      some (.inl (list0, IntKind.i64.wrap (n3 + (1 : Int)), IntKind.i64.wrap (i4 + (1 : Int)), ()))
  else
    some (.inr (.inl (n3, ())))
noncomputable def spec_AruOf_r0 (x : H79_0) : Option (Sum H79_0 (Sum E79_0 Q79_0)) := spec_AruOf_c0 x.1 x.2.1 x.2.2.1
noncomputable def L79 {R : Type} : Loops R := fun id _ st k => bif Nat.beq id 0 then loopAt hp79_0 e79_0 q79_0 spec_AruOf_r0 st k else none
noncomputable def spec_AruOf (list0 : List (Int × Int × Int × ByteArray × Unit)) : Option (Int × Unit) :=
  outK (loopV spec_AruOf_r0 (list0, (0 : Int), (0 : Int), ())) (fun y1 =>
    some (y1.1, ())) (fun y2 =>
    some (y2.1, ()))
noncomputable def x79 (x : (List (Int × Int × Int × ByteArray × Unit)) × Unit) : Option (Int × Unit) := spec_AruOf x.1
noncomputable def sem79 : Sem1 := semOf ps79 rs79 x79
theorem so79 : SemsOk Try.prog (semsOf sl79) := sems_cons k17 (sems_nil)
noncomputable def b79_0 : Code := nthLoop code79 0
theorem t79_r0_eq (x : denR (headRT hp79_0)) : codeK (tabOf tr) (semsOf sl79) D79 L79 b79_0 (headSt hp79_0 x) (roundK 0 hp79_0 e79_0 q79_0) = spec_AruOf_r0 x := by kernel_rfl
theorem loop79_0 {R : Type} (r : R) (w0 : World) (mu : Mu) (hs : AnShape ps79 mu) : LoopAt Try.prog w0 mu 26 (L79 : Loops R) r 0 b79_0 :=
  loop_auto tr_ok eq_ok mixed_ok so79 (D := D79) hs (by kernel_rfl) (fun _ => (loops_of (l := []) (by kernel_rfl) (List.forall_mem_nil _))) t79_r0_eq (fun _ _ => rfl)
theorem t79_eq (x : denR (headRT (ps79.map some))) : codeK (tabOf tr) (semsOf sl79) D79 L79 code79 (start 26 ps79 x) (finK rs79 ps79) = x79 x := by kernel_rfl
theorem k79 : Known Try.prog 79 sem79 :=
  fn_auto tr_ok eq_ok mixed_ok so79 (D := D79) (code := code79) (n := 26) Try.func79 (by kernel_rfl) (by kernel_rfl) (by kernel_rfl) (fun w0 mu _ hs => (loops_of (l := [(0, b79_0)]) (by kernel_rfl) (List.forall_mem_cons.2 ⟨loop79_0 _ w0 mu hs, (List.forall_mem_nil _)⟩))) t79_eq

/-! ### f53: spec.Missing -/
noncomputable def code53 : Code := match Try.f53.body with | some c => c | none => .skip
def ps53 : List AP := [.val false [.shr (.cons (.int .i64) (.cons (.int .i64) (.cons (.int .i64) (.cons .str .nil))))], .val false [.int .i64]]
def rs53 : List RP := [{ src := .tmp 4, agg := false, ps := [.own (.cons (.int .i64) .nil)] }]
noncomputable def sl53 : SemL := [(79, (.shr, .shr, .shr, sem79)), (17, (.shr, .shr, .shr, sem17))]
def D53 : Draws := fun _ => .nil
def hp53_0 : List (Option AP) := [some (.val false [.shr (.cons (.int .i64) (.cons (.int .i64) (.cons (.int .i64) (.cons .str .nil))))]), some (.val false [.int .i64]), none, none, none, some (.val false [.own (.cons (.int .i64) .nil)]), some (.val false [.int .i64]), none, none, none, none, none, none, none, none, none, none, none, none, none, none, none, none, none, none, none, none, none, none, none, none, none, none, none, none, none, none, none]
def e53_0 : List (Option AP) := [none, none, none, none, none, some (.val false [.own (.cons (.int .i64) .nil)]), none, none, none, none, none, none, none, none, none, none, none, none, none, none, none, none, none, none, none, none, none, none, none, none, none, none, none, none, none, none, none, none]
def q53_0 : List (Option AP) := [none, none, none, none, none, none, none, none, none, none, none, none, none, none, none, none, none, none, none, none, none, none, none, none, none, none, none, none, none, none, none, none, none, none, none, none, none, none]
abbrev H53_0 : Type := (List (Int × Int × Int × ByteArray × Unit)) × Int × (List (Int × Unit)) × Int × Unit
abbrev E53_0 : Type := (List (Int × Unit)) × Unit
abbrev Q53_0 : Type := Unit
noncomputable def spec_Missing_c0 (list0 : List (Int × Int × Int × ByteArray × Unit)) (upto1 : Int) (out5 : List (Int × Unit)) (seq6 : Int) : Option (Sum H53_0 (Sum E53_0 Q53_0)) :=
  bif decide (seq6 ≤ upto1) then
    bif decide (((List.length out5 : Nat) : Int) < (20 : Int)) then
      Option.bind (spec_ItemAt list0 seq6) fun y2 =>
      bif !y2.2.2.2.2.1 then
        bif Nat.ble (((List.length out5) + 1) * 8) lim then some (.inl (list0, upto1, out5 ++ [(seq6, ())], IntKind.i64.wrap (seq6 + (1 : Int)), ()))
        else none
      else
        some (.inl (list0, upto1, out5, IntKind.i64.wrap (seq6 + (1 : Int)), ()))
    else
      some (.inr (.inl (out5, ())))
  else
    some (.inr (.inl (out5, ())))
noncomputable def spec_Missing_r0 (x : H53_0) : Option (Sum H53_0 (Sum E53_0 Q53_0)) := spec_Missing_c0 x.1 x.2.1 x.2.2.1 x.2.2.2.1
noncomputable def L53 {R : Type} : Loops R := fun id _ st k => bif Nat.beq id 0 then loopAt hp53_0 e53_0 q53_0 spec_Missing_r0 st k else none
noncomputable def spec_Missing (list0 : List (Int × Int × Int × ByteArray × Unit)) (upto1 : Int) : Option ((List (Int × Unit)) × Unit) :=
  bif decide ((60 : Int) < upto1) then
    Option.bind (spec_AruOf list0) fun y1 =>
    outK (loopV spec_Missing_r0 (list0, (60 : Int), [], IntKind.i64.wrap (y1.1 + (1 : Int)), ())) (fun y2 =>
      some (y2.1, ())) (fun y3 =>
      none)
  else
    Option.bind (spec_AruOf list0) fun y4 =>
    outK (loopV spec_Missing_r0 (list0, upto1, [], IntKind.i64.wrap (y4.1 + (1 : Int)), ())) (fun y5 =>
      some (y5.1, ())) (fun y6 =>
      none)
noncomputable def x53 (x : (List (Int × Int × Int × ByteArray × Unit)) × Int × Unit) : Option ((List (Int × Unit)) × Unit) := spec_Missing x.1 x.2.1
noncomputable def sem53 : Sem1 := semOf ps53 rs53 x53
theorem so53 : SemsOk Try.prog (semsOf sl53) := sems_cons k79 (sems_cons k17 (sems_nil))
noncomputable def b53_0 : Code := nthLoop code53 0
theorem t53_r0_eq (x : denR (headRT hp53_0)) : codeK (tabOf tr) (semsOf sl53) D53 L53 b53_0 (headSt hp53_0 x) (roundK 0 hp53_0 e53_0 q53_0) = spec_Missing_r0 x := by kernel_rfl
theorem loop53_0 {R : Type} (r : R) (w0 : World) (mu : Mu) (hs : AnShape ps53 mu) : LoopAt Try.prog w0 mu 38 (L53 : Loops R) r 0 b53_0 :=
  loop_auto tr_ok eq_ok mixed_ok so53 (D := D53) hs (by kernel_rfl) (fun _ => (loops_of (l := []) (by kernel_rfl) (List.forall_mem_nil _))) t53_r0_eq (fun _ _ => rfl)
theorem t53_eq (x : denR (headRT (ps53.map some))) : codeK (tabOf tr) (semsOf sl53) D53 L53 code53 (start 38 ps53 x) (finK rs53 ps53) = x53 x := by kernel_rfl
theorem k53 : Known Try.prog 53 sem53 :=
  fn_auto tr_ok eq_ok mixed_ok so53 (D := D53) (code := code53) (n := 38) Try.func53 (by kernel_rfl) (by kernel_rfl) (by kernel_rfl) (fun w0 mu _ hs => (loops_of (l := [(0, b53_0)]) (by kernel_rfl) (List.forall_mem_cons.2 ⟨loop53_0 _ w0 mu hs, (List.forall_mem_nil _)⟩))) t53_eq

/-! ### f54: spec.l05In -/
noncomputable def code54 : Code := match Try.f54.body with | some c => c | none => .skip
def ps54 : List AP := [.val false [.shr (.cons (.int .i64) .nil)], .val false [.int .i64]]
def rs54 : List RP := [{ src := .tmp 4, agg := false, ps := [.bool] }]
noncomputable def sl54 : SemL := []
def D54 : Draws := fun _ => .nil
def hp54_0 : List (Option AP) := [some (.val false [.shr (.cons (.int .i64) .nil)]), some (.val false [.int .i64]), none, none, none, some (.val false [.int .i64]), none, none, none, none, none, none, none, none, none, none, none, none]
def e54_0 : List (Option AP) := [none, none, none, none, none, none, none, none, none, none, none, none, none, none, none, none, none, none]
def q54_0 : List (Option AP) := [none, none, none, none, some (.val false [.bool]), none, none, none, none, none, none, none, none, none, none, none, none, none]
abbrev H54_0 : Type := (List (Int × Unit)) × Int × Int × Unit
abbrev E54_0 : Type := Unit
abbrev Q54_0 : Type := Bool × Unit
noncomputable def spec_l05In_c0 (list0 : List (Int × Unit)) (x1 : Int) (i5 : Int) : Option (Sum H54_0 (Sum E54_0 Q54_0)) :=
  bif decide (i5 < ((List.length list0 : Nat) : Int)) then
    bif decide ((0 : Int) ≤ i5) then Option.bind ((list0)[Int.toNat i5]?) fun r1 =>
      bif decide (r1.1 = x1) then
        some (.inr (.inr (true, ())))
      else
        some (.inl (list0, x1, IntKind.i64.wrap (i5 + (1 : Int)), ()))
    else none
  else
    some (.inr (.inl (())))
noncomputable def spec_l05In_r0 (x : H54_0) : Option (Sum H54_0 (Sum E54_0 Q54_0)) := spec_l05In_c0 x.1 x.2.1 x.2.2.1
noncomputable def L54 {R : Type} : Loops R := fun id _ st k => bif Nat.beq id 0 then loopAt hp54_0 e54_0 q54_0 spec_l05In_r0 st k else none
noncomputable def spec_l05In (list0 : List (Int × Unit)) (x1 : Int) : Option (Bool × Unit) :=
  outK (loopV spec_l05In_r0 (list0, x1, (0 : Int), ())) (fun y1 =>
    some (false, ())) (fun y2 =>
    some (y2.1, ()))
noncomputable def x54 (x : (List (Int × Unit)) × Int × Unit) : Option (Bool × Unit) := spec_l05In x.1 x.2.1
noncomputable def sem54 : Sem1 := semOf ps54 rs54 x54
theorem so54 : SemsOk Try.prog (semsOf sl54) := sems_nil
noncomputable def b54_0 : Code := nthLoop code54 0
theorem t54_r0_eq (x : denR (headRT hp54_0)) : codeK (tabOf tr) (semsOf sl54) D54 L54 b54_0 (headSt hp54_0 x) (roundK 0 hp54_0 e54_0 q54_0) = spec_l05In_r0 x := by kernel_rfl
theorem loop54_0 {R : Type} (r : R) (w0 : World) (mu : Mu) (hs : AnShape ps54 mu) : LoopAt Try.prog w0 mu 18 (L54 : Loops R) r 0 b54_0 :=
  loop_auto tr_ok eq_ok mixed_ok so54 (D := D54) hs (by kernel_rfl) (fun _ => (loops_of (l := []) (by kernel_rfl) (List.forall_mem_nil _))) t54_r0_eq (fun _ _ => rfl)
theorem t54_eq (x : denR (headRT (ps54.map some))) : codeK (tabOf tr) (semsOf sl54) D54 L54 code54 (start 18 ps54 x) (finK rs54 ps54) = x54 x := by kernel_rfl
theorem k54 : Known Try.prog 54 sem54 :=
  fn_auto tr_ok eq_ok mixed_ok so54 (D := D54) (code := code54) (n := 18) Try.func54 (by kernel_rfl) (by kernel_rfl) (by kernel_rfl) (fun w0 mu _ hs => (loops_of (l := [(0, b54_0)]) (by kernel_rfl) (List.forall_mem_cons.2 ⟨loop54_0 _ w0 mu hs, (List.forall_mem_nil _)⟩))) t54_eq

/-! ### f15: spec.Lacks -/
noncomputable def code15 : Code := match Try.f15.body with | some c => c | none => .skip
def ps15 : List AP := [.val true [.int .i64, .int .i64, .int .i64, .int .i64, .int .i64, .shr (.cons (.int .i64) .nil)], .val false [.shr (.cons (.int .i64) (.cons (.int .i64) (.cons (.int .i64) (.cons .str .nil))))]]
def rs15 : List RP := [{ src := .cell 4, agg := true, ps := [.int .i64, .int .i64, .int .i64, .int .i64, .int .i64, .own (.cons (.int .i64) .nil)] }]
noncomputable def sl15 : SemL := [(53, (.shr, .shr, .shr, sem53)), (17, (.shr, .shr, .shr, sem17)), (54, (.shr, .shr, .shr, sem54))]
def D15 : Draws := fun _ => .nil
def hp15_0 : List (Option AP) := [none, some (.val false [.shr (.cons (.int .i64) (.cons (.int .i64) (.cons (.int .i64) (.cons .str .nil))))]), some (.box false [.int .i64, .int .i64, .int .i64, .int .i64, .int .i64, .shr (.cons (.int .i64) .nil)]), none, some (.box false [.int .i64, .int .i64, .int .i64, .int .i64, .int .i64, .own (.cons (.int .i64) .nil)]), some (.box false [.int .i64, .int .i64, .int .i64, .int .i64, .int .i64, .own (.cons (.int .i64) .nil)]), some (.val false [.own (.cons (.int .i64) .nil)]), some (.val false [.int .i64]), none, none, none, none, none, none, none, none, none, none, none, none, none, none, none, none, none, none, none, none, none, none, none, none, none, none, none, none, none, none, none, none, none, none, none, none, none, none, none, none, none, none, none, none, none, none, none, none, none, none, none, none, none]
def e15_0 : List (Option AP) := [none, none, none, none, some (.box false [.int .i64, .int .i64, .int .i64, .int .i64, .int .i64, .own (.cons (.int .i64) .nil)]), some (.box false [.int .i64, .int .i64, .int .i64, .int .i64, .int .i64, .own (.cons (.int .i64) .nil)]), none, none, none, none, none, none, none, none, none, none, none, none, none, none, none, none, none, none, none, none, none, none, none, none, none, none, none, none, none, none, none, none, none, none, none, none, none, none, none, none, none, none, none, none, none, none, none, none, none, none, none, none, none, none, none]
def q15_0 : List (Option AP) := [none, none, none, none, none, none, none, none, none, none, none, none, none, none, none, none, none, none, none, none, none, none, none, none, none, none, none, none, none, none, none, none, none, none, none, none, none, none, none, none, none, none, none, none, none, none, none, none, none, none, none, none, none, none, none, none, none, none, none, none, none]
abbrev H15_0 : Type := (List (Int × Int × Int × ByteArray × Unit)) × Int × Int × Int × Int × Int × (List (Int × Unit)) × Int × Int × Int × Int × Int × (List (Int × Unit)) × Int × Int × Int × Int × Int × (List (Int × Unit)) × (List (Int × Unit)) × Int × Unit
abbrev E15_0 : Type := Int × Int × Int × Int × Int × (List (Int × Unit)) × Int × Int × Int × Int × Int × (List (Int × Unit)) × Unit
abbrev Q15_0 : Type := Unit
noncomputable def spec_Lacks_c0 (list1 : List (Int × Int × Int × ByteArray × Unit)) (t2c0 : Int) (t2c1 : Int) (t2c2 : Int) (t2c3 : Int) (t2c4 : Int) (t2c5 : List (Int × Unit)) (t4c0 : Int) (t4c1 : Int) (t4c2 : Int) (t4c3 : Int) (t4c4 : Int) (t4c5 : List (Int × Unit)) (out5c0 : Int) (out5c1 : Int) (out5c2 : Int) (out5c3 : Int) (out5c4 : Int) (out5c5 : List (Int × Unit)) (lack6 : List (Int × Unit)) (seq7 : Int) : Option (Sum H15_0 (Sum E15_0 Q15_0)) :=
  bif decide (seq7 ≤ (60 : Int)) then
    bif decide (((List.length out5c5 : Nat) : Int) < (20 : Int)) then
      Option.bind (spec_ItemAt list1 seq7) fun y2 =>
      bif !y2.2.2.2.2.1 then
        Option.bind (spec_l05In t2c5 seq7) fun y3 =>
        bif y3.1 then
          bif Nat.ble (((List.length out5c5) + 1) * 8) lim then some (.inl (list1, t2c0, t2c1, t2c2, t2c3, t2c4, t2c5, t4c0, t4c1, t4c2, t4c3, t4c4, t4c5, out5c0, out5c1, out5c2, out5c3, out5c4, out5c5 ++ [(seq7, ())], lack6, IntKind.i64.wrap (seq7 + (1 : Int)), ()))
          else none
        else
          Option.bind (spec_l05In lack6 seq7) fun y4 =>
          bif y4.1 then
            bif Nat.ble (((List.length out5c5) + 1) * 8) lim then some (.inl (list1, t2c0, t2c1, t2c2, t2c3, t2c4, t2c5, t4c0, t4c1, t4c2, t4c3, t4c4, t4c5, out5c0, out5c1, out5c2, out5c3, out5c4, out5c5 ++ [(seq7, ())], lack6, IntKind.i64.wrap (seq7 + (1 : Int)), ()))
            else none
          else
            some (.inl (list1, t2c0, t2c1, t2c2, t2c3, t2c4, t2c5, t4c0, t4c1, t4c2, t4c3, t4c4, t4c5, out5c0, out5c1, out5c2, out5c3, out5c4, out5c5, lack6, IntKind.i64.wrap (seq7 + (1 : Int)), ()))
      else
        Option.bind (spec_l05In lack6 seq7) fun y5 =>
        bif y5.1 then
          bif Nat.ble (((List.length out5c5) + 1) * 8) lim then some (.inl (list1, t2c0, t2c1, t2c2, t2c3, t2c4, t2c5, t4c0, t4c1, t4c2, t4c3, t4c4, t4c5, out5c0, out5c1, out5c2, out5c3, out5c4, out5c5 ++ [(seq7, ())], lack6, IntKind.i64.wrap (seq7 + (1 : Int)), ()))
          else none
        else
          some (.inl (list1, t2c0, t2c1, t2c2, t2c3, t2c4, t2c5, t4c0, t4c1, t4c2, t4c3, t4c4, t4c5, out5c0, out5c1, out5c2, out5c3, out5c4, out5c5, lack6, IntKind.i64.wrap (seq7 + (1 : Int)), ()))
    else
      some (.inr (.inl (t4c0, t4c1, t4c2, t4c3, t4c4, t4c5, out5c0, out5c1, out5c2, out5c3, out5c4, out5c5, ())))
  else
    some (.inr (.inl (t4c0, t4c1, t4c2, t4c3, t4c4, t4c5, out5c0, out5c1, out5c2, out5c3, out5c4, out5c5, ())))
noncomputable def spec_Lacks_r0 (x : H15_0) : Option (Sum H15_0 (Sum E15_0 Q15_0)) := spec_Lacks_c0 x.1 x.2.1 x.2.2.1 x.2.2.2.1 x.2.2.2.2.1 x.2.2.2.2.2.1 x.2.2.2.2.2.2.1 x.2.2.2.2.2.2.2.1 x.2.2.2.2.2.2.2.2.1 x.2.2.2.2.2.2.2.2.2.1 x.2.2.2.2.2.2.2.2.2.2.1 x.2.2.2.2.2.2.2.2.2.2.2.1 x.2.2.2.2.2.2.2.2.2.2.2.2.1 x.2.2.2.2.2.2.2.2.2.2.2.2.2.1 x.2.2.2.2.2.2.2.2.2.2.2.2.2.2.1 x.2.2.2.2.2.2.2.2.2.2.2.2.2.2.2.1 x.2.2.2.2.2.2.2.2.2.2.2.2.2.2.2.2.1 x.2.2.2.2.2.2.2.2.2.2.2.2.2.2.2.2.2.1 x.2.2.2.2.2.2.2.2.2.2.2.2.2.2.2.2.2.2.1 x.2.2.2.2.2.2.2.2.2.2.2.2.2.2.2.2.2.2.2.1 x.2.2.2.2.2.2.2.2.2.2.2.2.2.2.2.2.2.2.2.2.1
noncomputable def L15 {R : Type} : Loops R := fun id _ st k => bif Nat.beq id 0 then loopAt hp15_0 e15_0 q15_0 spec_Lacks_r0 st k else none
noncomputable def spec_Lacks (t0c0 : Int) (t0c1 : Int) (t0c2 : Int) (t0c3 : Int) (t0c4 : Int) (t0c5 : List (Int × Unit)) (list1 : List (Int × Int × Int × ByteArray × Unit)) : Option (Int × Int × Int × Int × Int × (List (Int × Unit)) × Unit) :=
  Option.bind (spec_Missing list1 t0c2) fun y1 =>
  outK (loopV spec_Lacks_r0 (list1, t0c0, t0c1, t0c2, t0c3, t0c4, t0c5, (0 : Int), (0 : Int), (0 : Int), (0 : Int), (0 : Int), [], t0c0, t0c1, t0c2, t0c3, t0c4, [], y1.1, (1 : Int), ())) (fun y2 =>
    some (y2.2.2.2.2.2.2.1, y2.2.2.2.2.2.2.2.1, y2.2.2.2.2.2.2.2.2.1, y2.2.2.2.2.2.2.2.2.2.1, y2.2.2.2.2.2.2.2.2.2.2.1, y2.2.2.2.2.2.2.2.2.2.2.2.1, ())) (fun y3 =>
    none)
noncomputable def x15 (x : Int × Int × Int × Int × Int × (List (Int × Unit)) × (List (Int × Int × Int × ByteArray × Unit)) × Unit) : Option (Int × Int × Int × Int × Int × (List (Int × Unit)) × Unit) := spec_Lacks x.1 x.2.1 x.2.2.1 x.2.2.2.1 x.2.2.2.2.1 x.2.2.2.2.2.1 x.2.2.2.2.2.2.1
noncomputable def sem15 : Sem1 := semOf ps15 rs15 x15
theorem so15 : SemsOk Try.prog (semsOf sl15) := sems_cons k53 (sems_cons k17 (sems_cons k54 (sems_nil)))
noncomputable def b15_0 : Code := nthLoop code15 0
theorem t15_r0_eq (x : denR (headRT hp15_0)) : codeK (tabOf tr) (semsOf sl15) D15 L15 b15_0 (headSt hp15_0 x) (roundK 0 hp15_0 e15_0 q15_0) = spec_Lacks_r0 x := by kernel_rfl
theorem loop15_0 {R : Type} (r : R) (w0 : World) (mu : Mu) (hs : AnShape ps15 mu) : LoopAt Try.prog w0 mu 61 (L15 : Loops R) r 0 b15_0 :=
  loop_auto tr_ok eq_ok mixed_ok so15 (D := D15) hs (by kernel_rfl) (fun _ => (loops_of (l := []) (by kernel_rfl) (List.forall_mem_nil _))) t15_r0_eq (fun _ _ => rfl)
theorem t15_eq (x : denR (headRT (ps15.map some))) : codeK (tabOf tr) (semsOf sl15) D15 L15 code15 (start 61 ps15 x) (finK rs15 ps15) = x15 x := by kernel_rfl
theorem k15 : Known Try.prog 15 sem15 :=
  fn_auto tr_ok eq_ok mixed_ok so15 (D := D15) (code := code15) (n := 61) Try.func15 (by kernel_rfl) (by kernel_rfl) (by kernel_rfl) (fun w0 mu _ hs => (loops_of (l := [(0, b15_0)]) (by kernel_rfl) (List.forall_mem_cons.2 ⟨loop15_0 _ w0 mu hs, (List.forall_mem_nil _)⟩))) t15_eq

/-! ### f14: laws.sameInts -/
noncomputable def code14 : Code := match Try.f14.body with | some c => c | none => .skip
def ps14 : List AP := [.val false [.shr (.cons (.int .i64) .nil)], .val false [.shr (.cons (.int .i64) .nil)]]
def rs14 : List RP := [{ src := .tmp 4, agg := false, ps := [.bool] }]
noncomputable def sl14 : SemL := []
def D14 : Draws := fun id => bif Nat.beq id 6 then .op 0 .any (.op 1 .any (.op 2 .any (.op 3 .take (.op 4 .any (.op 5 .any (.op 6 .any (.op 7 .take (.op 8 .any (.nil))))))))) else .nil
def hp14_0 : List (Option AP) := [some (.val false [.shr (.cons (.int .i64) .nil)]), some (.val false [.shr (.cons (.int .i64) .nil)]), none, none, none, some (.val false [.int .i64]), none, none, none, none, none, none, none, none, none, none, none, none, none, none, none, none, none, none, none, none]
def e14_0 : List (Option AP) := [none, none, none, none, none, none, none, none, none, none, none, none, none, none, none, none, none, none, none, none, none, none, none, none, none, none]
def q14_0 : List (Option AP) := [none, none, none, none, some (.val false [.bool]), none, none, none, none, none, none, none, none, none, none, none, none, none, none, none, none, none, none, none, none, none]
abbrev H14_0 : Type := (List (Int × Unit)) × (List (Int × Unit)) × Int × Unit
abbrev E14_0 : Type := Unit
abbrev Q14_0 : Type := Bool × Unit
noncomputable def laws_sameInts_c0 (a0 : List (Int × Unit)) (b1 : List (Int × Unit)) (i5 : Int) : Option (Sum H14_0 (Sum E14_0 Q14_0)) :=
  bif decide (i5 < ((List.length a0 : Nat) : Int)) then
    bif decide ((0 : Int) ≤ i5) then Option.bind ((a0)[Int.toNat i5]?) fun r1 =>
      bif decide ((0 : Int) ≤ i5) then Option.bind ((b1)[Int.toNat i5]?) fun r2 =>
        bif !decide (r1.1 = r2.1) then
          some (.inr (.inr (false, ())))
        else
          some (.inl (a0, b1, IntKind.i64.wrap (i5 + (1 : Int)), ()))
      else none
    else none
  else
    some (.inr (.inl (())))
noncomputable def laws_sameInts_r0 (x : H14_0) : Option (Sum H14_0 (Sum E14_0 Q14_0)) := laws_sameInts_c0 x.1 x.2.1 x.2.2.1
noncomputable def L14 {R : Type} : Loops R := fun id _ st k => bif Nat.beq id 0 then loopAt hp14_0 e14_0 q14_0 laws_sameInts_r0 st k else none
noncomputable def laws_sameInts (a0 : List (Int × Unit)) (b1 : List (Int × Unit)) : Option (Bool × Unit) :=
  bif !decide (((List.length a0 : Nat) : Int) = ((List.length b1 : Nat) : Int)) then
    some (false, ())
  else
    outK (loopV laws_sameInts_r0 (a0, b1, (0 : Int), ())) (fun y1 =>
      some (true, ())) (fun y2 =>
      some (y2.1, ()))
noncomputable def x14 (x : (List (Int × Unit)) × (List (Int × Unit)) × Unit) : Option (Bool × Unit) := laws_sameInts x.1 x.2.1
noncomputable def sem14 : Sem1 := semOf ps14 rs14 x14
theorem so14 : SemsOk Try.prog (semsOf sl14) := sems_nil
noncomputable def b14_0 : Code := nthLoop code14 0
theorem t14_r0_eq (x : denR (headRT hp14_0)) : codeK (tabOf tr) (semsOf sl14) D14 L14 b14_0 (headSt hp14_0 x) (roundK 0 hp14_0 e14_0 q14_0) = laws_sameInts_r0 x := by kernel_rfl
theorem loop14_0 {R : Type} (r : R) (w0 : World) (mu : Mu) (hs : AnShape ps14 mu) : LoopAt Try.prog w0 mu 26 (L14 : Loops R) r 0 b14_0 :=
  loop_auto tr_ok eq_ok mixed_ok so14 (D := D14) hs (by kernel_rfl) (fun _ => (loops_of (l := []) (by kernel_rfl) (List.forall_mem_nil _))) t14_r0_eq (fun _ _ => rfl)
theorem t14_eq (x : denR (headRT (ps14.map some))) : codeK (tabOf tr) (semsOf sl14) D14 L14 code14 (start 26 ps14 x) (finK rs14 ps14) = x14 x := by kernel_rfl
theorem k14 : Known Try.prog 14 sem14 :=
  fn_auto tr_ok eq_ok mixed_ok so14 (D := D14) (code := code14) (n := 26) Try.func14 (by kernel_rfl) (by kernel_rfl) (by kernel_rfl) (fun w0 mu _ hs => (loops_of (l := [(0, b14_0)]) (by kernel_rfl) (List.forall_mem_cons.2 ⟨loop14_0 _ w0 mu hs, (List.forall_mem_nil _)⟩))) t14_eq

/-! ### f16: laws.rises -/
noncomputable def code16 : Code := match Try.f16.body with | some c => c | none => .skip
def ps16 : List AP := [.val false [.shr (.cons (.int .i64) .nil)]]
def rs16 : List RP := [{ src := .tmp 2, agg := false, ps := [.bool] }]
noncomputable def sl16 : SemL := []
def D16 : Draws := fun id => bif Nat.beq id 4 then .op 0 .any (.op 1 .any (.op 2 .any (.op 3 .any (.op 4 .take (.op 5 .any (.op 6 .any (.op 7 .any (.op 8 .take (.op 9 .any (.nil)))))))))) else .nil
def hp16_0 : List (Option AP) := [some (.val false [.shr (.cons (.int .i64) .nil)]), none, none, some (.val false [.int .i64]), none, none, none, none, none, none, none, none, none, none, none, none, none, none, none, none]
def e16_0 : List (Option AP) := [none, none, none, none, none, none, none, none, none, none, none, none, none, none, none, none, none, none, none, none]
def q16_0 : List (Option AP) := [none, none, some (.val false [.bool]), none, none, none, none, none, none, none, none, none, none, none, none, none, none, none, none, none]
abbrev H16_0 : Type := (List (Int × Unit)) × Int × Unit
abbrev E16_0 : Type := Unit
abbrev Q16_0 : Type := Bool × Unit
noncomputable def laws_rises_c0 (list0 : List (Int × Unit)) (i3 : Int) : Option (Sum H16_0 (Sum E16_0 Q16_0)) :=
  bif decide (i3 < ((List.length list0 : Nat) : Int)) then
    bif decide ((0 : Int) ≤ IntKind.i64.wrap (i3 - (1 : Int))) then Option.bind ((list0)[Int.toNat (IntKind.i64.wrap (i3 - (1 : Int)))]?) fun r1 =>
      bif decide ((0 : Int) ≤ i3) then Option.bind ((list0)[Int.toNat i3]?) fun r2 =>
        bif decide (r2.1 ≤ r1.1) then
          some (.inr (.inr (false, ())))
        else
          some (.inl (list0, IntKind.i64.wrap (i3 + (1 : Int)), ()))
      else none
    else none
  else
    some (.inr (.inl (())))
noncomputable def laws_rises_r0 (x : H16_0) : Option (Sum H16_0 (Sum E16_0 Q16_0)) := laws_rises_c0 x.1 x.2.1
noncomputable def L16 {R : Type} : Loops R := fun id _ st k => bif Nat.beq id 0 then loopAt hp16_0 e16_0 q16_0 laws_rises_r0 st k else none
noncomputable def laws_rises (list0 : List (Int × Unit)) : Option (Bool × Unit) :=
  outK (loopV laws_rises_r0 (list0, (1 : Int), ())) (fun y1 =>
    some (true, ())) (fun y2 =>
    some (y2.1, ()))
noncomputable def x16 (x : (List (Int × Unit)) × Unit) : Option (Bool × Unit) := laws_rises x.1
noncomputable def sem16 : Sem1 := semOf ps16 rs16 x16
theorem so16 : SemsOk Try.prog (semsOf sl16) := sems_nil
noncomputable def b16_0 : Code := nthLoop code16 0
theorem t16_r0_eq (x : denR (headRT hp16_0)) : codeK (tabOf tr) (semsOf sl16) D16 L16 b16_0 (headSt hp16_0 x) (roundK 0 hp16_0 e16_0 q16_0) = laws_rises_r0 x := by kernel_rfl
theorem loop16_0 {R : Type} (r : R) (w0 : World) (mu : Mu) (hs : AnShape ps16 mu) : LoopAt Try.prog w0 mu 20 (L16 : Loops R) r 0 b16_0 :=
  loop_auto tr_ok eq_ok mixed_ok so16 (D := D16) hs (by kernel_rfl) (fun _ => (loops_of (l := []) (by kernel_rfl) (List.forall_mem_nil _))) t16_r0_eq (fun _ _ => rfl)
theorem t16_eq (x : denR (headRT (ps16.map some))) : codeK (tabOf tr) (semsOf sl16) D16 L16 code16 (start 20 ps16 x) (finK rs16 ps16) = x16 x := by kernel_rfl
theorem k16 : Known Try.prog 16 sem16 :=
  fn_auto tr_ok eq_ok mixed_ok so16 (D := D16) (code := code16) (n := 20) Try.func16 (by kernel_rfl) (by kernel_rfl) (by kernel_rfl) (fun w0 mu _ hs => (loops_of (l := [(0, b16_0)]) (by kernel_rfl) (List.forall_mem_cons.2 ⟨loop16_0 _ w0 mu hs, (List.forall_mem_nil _)⟩))) t16_eq

/-! ### f80: slices.Index[[]int,int] -/
noncomputable def code80 : Code := match Try.f80.body with | some c => c | none => .skip
def ps80 : List AP := [.val false [.shr (.cons (.int .i64) .nil)], .val false [.int .i64]]
def rs80 : List RP := [{ src := .tmp 4, agg := false, ps := [.int .i64] }]
noncomputable def sl80 : SemL := []
def D80 : Draws := fun _ => .nil
def hp80_0 : List (Option AP) := [some (.val false [.shr (.cons (.int .i64) .nil)]), some (.val false [.int .i64]), none, none, none, none, none, some (.val false [.int .i64]), some (.val false [.int .i64]), none, none, none, none, none, none, none, none, none, none]
def e80_0 : List (Option AP) := [none, none, none, none, none, none, none, none, none, none, none, none, none, none, none, none, none, none, none]
def q80_0 : List (Option AP) := [none, none, none, none, some (.val false [.int .i64]), none, none, none, none, none, none, none, none, none, none, none, none, none, none]
abbrev H80_0 : Type := (List (Int × Unit)) × Int × Int × Int × Unit
abbrev E80_0 : Type := Unit
abbrev Q80_0 : Type := Int × Unit
noncomputable def slices_Index_int_c0 (s0 : List (Int × Unit)) (v1 : Int) (t7 : Int) (t8 : Int) : Option (Sum H80_0 (Sum E80_0 Q80_0)) :=
  bif decide (t8 < t7) then
    bif decide ((0 : Int) ≤ t8) then Option.bind ((s0)[Int.toNat t8]?) fun r1 =>
      bif decide (v1 = r1.1) then
        some (.inr (.inr (t8, ())))
      else
        some (.inl (s0, v1, t7, IntKind.i64.wrap (t8 + (1 : Int)), ()))
    else none
  else
    some (.inr (.inl (())))
noncomputable def slices_Index_int_r0 (x : H80_0) : Option (Sum H80_0 (Sum E80_0 Q80_0)) := slices_Index_int_c0 x.1 x.2.1 x.2.2.1 x.2.2.2.1
noncomputable def L80 {R : Type} : Loops R := fun id _ st k => bif Nat.beq id 0 then loopAt hp80_0 e80_0 q80_0 slices_Index_int_r0 st k else none
noncomputable def slices_Index_int (s0 : List (Int × Unit)) (v1 : Int) : Option (Int × Unit) :=
  outK (loopV slices_Index_int_r0 (s0, v1, ((List.length s0 : Nat) : Int), (0 : Int), ())) (fun y1 =>
    some ((-1 : Int), ())) (fun y2 =>
    some (y2.1, ()))
noncomputable def x80 (x : (List (Int × Unit)) × Int × Unit) : Option (Int × Unit) := slices_Index_int x.1 x.2.1
noncomputable def sem80 : Sem1 := semOf ps80 rs80 x80
theorem so80 : SemsOk Try.prog (semsOf sl80) := sems_nil
noncomputable def b80_0 : Code := nthLoop code80 0
theorem t80_r0_eq (x : denR (headRT hp80_0)) : codeK (tabOf tr) (semsOf sl80) D80 L80 b80_0 (headSt hp80_0 x) (roundK 0 hp80_0 e80_0 q80_0) = slices_Index_int_r0 x := by kernel_rfl
theorem loop80_0 {R : Type} (r : R) (w0 : World) (mu : Mu) (hs : AnShape ps80 mu) : LoopAt Try.prog w0 mu 19 (L80 : Loops R) r 0 b80_0 :=
  loop_auto tr_ok eq_ok mixed_ok so80 (D := D80) hs (by kernel_rfl) (fun _ => (loops_of (l := []) (by kernel_rfl) (List.forall_mem_nil _))) t80_r0_eq (fun _ _ => rfl)
theorem t80_eq (x : denR (headRT (ps80.map some))) : codeK (tabOf tr) (semsOf sl80) D80 L80 code80 (start 19 ps80 x) (finK rs80 ps80) = x80 x := by kernel_rfl
theorem k80 : Known Try.prog 80 sem80 :=
  fn_auto tr_ok eq_ok mixed_ok so80 (D := D80) (code := code80) (n := 19) Try.func80 (by kernel_rfl) (by kernel_rfl) (by kernel_rfl) (fun w0 mu _ hs => (loops_of (l := [(0, b80_0)]) (by kernel_rfl) (List.forall_mem_cons.2 ⟨loop80_0 _ w0 mu hs, (List.forall_mem_nil _)⟩))) t80_eq

/-! ### f55: slices.Contains[[]int,int] -/
noncomputable def code55 : Code := match Try.f55.body with | some c => c | none => .skip
def ps55 : List AP := [.val false [.shr (.cons (.int .i64) .nil)], .val false [.int .i64]]
def rs55 : List RP := [{ src := .tmp 4, agg := false, ps := [.bool] }]
noncomputable def sl55 : SemL := [(80, (.shr, .shr, .shr, sem80))]
def D55 : Draws := fun _ => .nil
noncomputable def L55 {R : Type} : Loops R := fun _ _ _ _ => none
noncomputable def slices_Contains_int (s0 : List (Int × Unit)) (v1 : Int) : Option (Bool × Unit) :=
  Option.bind (slices_Index_int s0 v1) fun y1 =>
  some (decide ((0 : Int) ≤ y1.1), ())
noncomputable def x55 (x : (List (Int × Unit)) × Int × Unit) : Option (Bool × Unit) := slices_Contains_int x.1 x.2.1
noncomputable def sem55 : Sem1 := semOf ps55 rs55 x55
theorem so55 : SemsOk Try.prog (semsOf sl55) := sems_cons k80 (sems_nil)
theorem t55_eq (x : denR (headRT (ps55.map some))) : codeK (tabOf tr) (semsOf sl55) D55 L55 code55 (start 9 ps55 x) (finK rs55 ps55) = x55 x := by kernel_rfl
theorem k55 : Known Try.prog 55 sem55 :=
  fn_auto tr_ok eq_ok mixed_ok so55 (D := D55) (code := code55) (n := 9) Try.func55 (by kernel_rfl) (by kernel_rfl) (by kernel_rfl) (fun w0 mu _ hs => (loops_of (l := []) (by kernel_rfl) (List.forall_mem_nil _))) t55_eq

end Go.TM
