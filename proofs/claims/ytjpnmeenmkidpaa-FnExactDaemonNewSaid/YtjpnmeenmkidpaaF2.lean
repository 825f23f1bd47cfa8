/- What the functions answer, as terms; their contracts. -/
import Derived.Test.YtjpnmeenmkidpaaF1
set_option linter.unusedSimpArgs false
set_option linter.unusedVariables false
namespace Go.TM
open Go Go.RowKit Go.Proofs

/-! ### f18: impl.Give -/
noncomputable def code18 : Code := match Try.f18.body with | some c => c | none => .skip
def ps18 : List AP := [.val true [.int .i64, .int .i64, .int .i64, .int .i64, .int .i64, .shr (.cons (.int .i64) .nil)], .val false [.shr (.cons (.int .i64) (.cons (.int .i64) (.cons (.int .i64) (.cons .str .nil))))]]
def rs18 : List RP := [{ src := .tmp 4, agg := false, ps := [.own (.cons (.int .i64) (.cons (.int .i64) (.cons (.int .i64) (.cons .str .nil))))] }]
noncomputable def sl18 : SemL := [(55, (.shr, .shr, .shr, sem55))]
def D18 : Draws := fun _ => .nil
def hp18_0 : List (Option AP) := [none, none, some (.box false [.int .i64, .int .i64, .int .i64, .int .i64, .int .i64, .shr (.cons (.int .i64) .nil)]), none, none, some (.val false [.own (.cons (.int .i64) (.cons (.int .i64) (.cons (.int .i64) (.cons .str .nil))))]), none, none, some (.val false [.shr (.cons (.int .i64) (.cons (.int .i64) (.cons (.int .i64) (.cons .str .nil))))]), some (.val false [.int .i64]), some (.val false [.int .i64]), none, none, none, none, none, none, none, none, none, none, none, none, none, none]
def e18_0 : List (Option AP) := [none, none, none, none, none, some (.val false [.own (.cons (.int .i64) (.cons (.int .i64) (.cons (.int .i64) (.cons .str .nil))))]), none, none, none, none, none, none, none, none, none, none, none, none, none, none, none, none, none, none, none]
def q18_0 : List (Option AP) := [none, none, none, none, none, none, none, none, none, none, none, none, none, none, none, none, none, none, none, none, none, none, none, none, none]
abbrev H18_0 : Type := Int × Int × Int × Int × Int × (List (Int × Unit)) × (List (Int × Int × Int × ByteArray × Unit)) × (List (Int × Int × Int × ByteArray × Unit)) × Int × Int × Unit
abbrev E18_0 : Type := (List (Int × Int × Int × ByteArray × Unit)) × Unit
abbrev Q18_0 : Type := Unit
noncomputable def impl_Give_c0 (t2c0 : Int) (t2c1 : Int) (t2c2 : Int) (t2c3 : Int) (t2c4 : Int) (t2c5 : List (Int × Unit)) (out5 : List (Int × Int × Int × ByteArray × Unit)) (t8 : List (Int × Int × Int × ByteArray × Unit)) (t9 : Int) (t10 : Int) : Option (Sum H18_0 (Sum E18_0 Q18_0)) :=
  bif decide (t10 < t9) then
    bif decide ((0 : Int) ≤ t10) then Option.bind ((t8)[Int.toNat t10]?) fun r1 =>
      Option.bind (slices_Contains_int t2c5 r1.1) fun y2 =>
      bif y2.1 then
        bif Nat.ble (((List.length out5) + 1) * 40) lim then some (.inl (t2c0, t2c1, t2c2, t2c3, t2c4, t2c5, out5 ++ [(r1.1, r1.2.1, r1.2.2.1, r1.2.2.2.1, ())], t8, t9, IntKind.i64.wrap (t10 + (1 : Int)), ()))
        else none
      else
        some (.inl (t2c0, t2c1, t2c2, t2c3, t2c4, t2c5, out5, t8, t9, IntKind.i64.wrap (t10 + (1 : Int)), ()))
    else none
  else
    some (.inr (.inl (out5, ())))
noncomputable def impl_Give_r0 (x : H18_0) : Option (Sum H18_0 (Sum E18_0 Q18_0)) := impl_Give_c0 x.1 x.2.1 x.2.2.1 x.2.2.2.1 x.2.2.2.2.1 x.2.2.2.2.2.1 x.2.2.2.2.2.2.1 x.2.2.2.2.2.2.2.1 x.2.2.2.2.2.2.2.2.1 x.2.2.2.2.2.2.2.2.2.1
noncomputable def L18 {R : Type} : Loops R := fun id _ st k => bif Nat.beq id 0 then loopAt hp18_0 e18_0 q18_0 impl_Give_r0 st k else none
noncomputable def impl_Give (t0c0 : Int) (t0c1 : Int) (t0c2 : Int) (t0c3 : Int) (t0c4 : Int) (t0c5 : List (Int × Unit)) (list1 : List (Int × Int × Int × ByteArray × Unit)) : Option ((List (Int × Int × Int × ByteArray × Unit)) × Unit) :=
  outK (loopV impl_Give_r0 (t0c0, t0c1, t0c2, t0c3, t0c4, t0c5, [], list1, ((List.length list1 : Nat) : Int), (0 : Int), ())) (fun y1 =>
    some (y1.1, ())) (fun y2 =>
    none)
noncomputable def x18 (x : Int × Int × Int × Int × Int × (List (Int × Unit)) × (List (Int × Int × Int × ByteArray × Unit)) × Unit) : Option ((List (Int × Int × Int × ByteArray × Unit)) × Unit) := impl_Give x.1 x.2.1 x.2.2.1 x.2.2.2.1 x.2.2.2.2.1 x.2.2.2.2.2.1 x.2.2.2.2.2.2.1
noncomputable def sem18 : Sem1 := semOf ps18 rs18 x18
theorem so18 : SemsOk Try.prog (semsOf sl18) := sems_cons k55 (sems_nil)
noncomputable def b18_0 : Code := nthLoop code18 0
theorem t18_r0_eq (x : denR (headRT hp18_0)) : codeK (tabOf tr) (semsOf sl18) D18 L18 b18_0 (headSt hp18_0 x) (roundK 0 hp18_0 e18_0 q18_0) = impl_Give_r0 x := by kernel_rfl
theorem loop18_0 {R : Type} (r : R) (w0 : World) (mu : Mu) (hs : AnShape ps18 mu) : LoopAt Try.prog w0 mu 25 (L18 : Loops R) r 0 b18_0 :=
  loop_auto tr_ok eq_ok mixed_ok so18 (D := D18) hs (by kernel_rfl) (fun _ => (loops_of (l := []) (by kernel_rfl) (List.forall_mem_nil _))) t18_r0_eq (fun _ _ => rfl)
theorem t18_eq (x : denR (headRT (ps18.map some))) : codeK (tabOf tr) (semsOf sl18) D18 L18 code18 (start 25 ps18 x) (finK rs18 ps18) = x18 x := by kernel_rfl
theorem k18 : Known Try.prog 18 sem18 :=
  fn_auto tr_ok eq_ok mixed_ok so18 (D := D18) (code := code18) (n := 25) Try.func18 (by kernel_rfl) (by kernel_rfl) (by kernel_rfl) (fun w0 mu _ hs => (loops_of (l := [(0, b18_0)]) (by kernel_rfl) (List.forall_mem_cons.2 ⟨loop18_0 _ w0 mu hs, (List.forall_mem_nil _)⟩))) t18_eq

/-! ### f19: laws.in -/
noncomputable def code19 : Code := match Try.f19.body with | some c => c | none => .skip
def ps19 : List AP := [.val false [.shr (.cons (.int .i64) .nil)], .val false [.int .i64]]
def rs19 : List RP := [{ src := .tmp 4, agg := false, ps := [.bool] }]
noncomputable def sl19 : SemL := []
def D19 : Draws := fun _ => .nil
def hp19_0 : List (Option AP) := [some (.val false [.shr (.cons (.int .i64) .nil)]), some (.val false [.int .i64]), none, none, none, some (.val false [.int .i64]), none, none, none, none, none, none, none, none, none, none, none, none]
def e19_0 : List (Option AP) := [none, none, none, none, none, none, none, none, none, none, none, none, none, none, none, none, none, none]
def q19_0 : List (Option AP) := [none, none, none, none, some (.val false [.bool]), none, none, none, none, none, none, none, none, none, none, none, none, none]
abbrev H19_0 : Type := (List (Int × Unit)) × Int × Int × Unit
abbrev E19_0 : Type := Unit
abbrev Q19_0 : Type := Bool × Unit
noncomputable def laws_in_c0 (list0 : List (Int × Unit)) (x1 : Int) (i5 : Int) : Option (Sum H19_0 (Sum E19_0 Q19_0)) :=
  bif decide (i5 < ((List.length list0 : Nat) : Int)) then
    bif decide ((0 : Int) ≤ i5) then Option.bind ((list0)[Int.toNat i5]?) fun r1 =>
      bif decide (r1.1 = x1) then
        some (.inr (.inr (true, ())))
      else
        some (.inl (list0, x1, IntKind.i64.wrap (i5 + (1 : Int)), ()))
    else none
  else
    some (.inr (.inl (())))
noncomputable def laws_in_r0 (x : H19_0) : Option (Sum H19_0 (Sum E19_0 Q19_0)) := laws_in_c0 x.1 x.2.1 x.2.2.1
noncomputable def L19 {R : Type} : Loops R := fun id _ st k => bif Nat.beq id 0 then loopAt hp19_0 e19_0 q19_0 laws_in_r0 st k else none
noncomputable def laws_in (list0 : List (Int × Unit)) (x1 : Int) : Option (Bool × Unit) :=
  outK (loopV laws_in_r0 (list0, x1, (0 : Int), ())) (fun y1 =>
    some (false, ())) (fun y2 =>
    some (y2.1, ()))
noncomputable def x19 (x : (List (Int × Unit)) × Int × Unit) : Option (Bool × Unit) := laws_in x.1 x.2.1
noncomputable def sem19 : Sem1 := semOf ps19 rs19 x19
theorem so19 : SemsOk Try.prog (semsOf sl19) := sems_nil
noncomputable def b19_0 : Code := nthLoop code19 0
theorem t19_r0_eq (x : denR (headRT hp19_0)) : codeK (tabOf tr) (semsOf sl19) D19 L19 b19_0 (headSt hp19_0 x) (roundK 0 hp19_0 e19_0 q19_0) = laws_in_r0 x := by kernel_rfl
theorem loop19_0 {R : Type} (r : R) (w0 : World) (mu : Mu) (hs : AnShape ps19 mu) : LoopAt Try.prog w0 mu 18 (L19 : Loops R) r 0 b19_0 :=
  loop_auto tr_ok eq_ok mixed_ok so19 (D := D19) hs (by kernel_rfl) (fun _ => (loops_of (l := []) (by kernel_rfl) (List.forall_mem_nil _))) t19_r0_eq (fun _ _ => rfl)
theorem t19_eq (x : denR (headRT (ps19.map some))) : codeK (tabOf tr) (semsOf sl19) D19 L19 code19 (start 18 ps19 x) (finK rs19 ps19) = x19 x := by kernel_rfl
theorem k19 : Known Try.prog 19 sem19 :=
  fn_auto tr_ok eq_ok mixed_ok so19 (D := D19) (code := code19) (n := 18) Try.func19 (by kernel_rfl) (by kernel_rfl) (by kernel_rfl) (fun w0 mu _ hs => (loops_of (l := [(0, b19_0)]) (by kernel_rfl) (List.forall_mem_cons.2 ⟨loop19_0 _ w0 mu hs, (List.forall_mem_nil _)⟩))) t19_eq

/-! ### f4: laws.FnLacks -/
noncomputable def code4 : Code := match Try.f4.body with | some c => c | none => .skip
def ps4 : List AP := [.val false [.shr (.cons (.int .u8) .nil)]]
def rs4 : List RP := [{ src := .tmp 2, agg := false, ps := [.bool] }]
noncomputable def sl4 : SemL := [(11, (.shr, .shr, .shr, sem11)), (12, (.shr, .shr, .shr, sem12)), (13, (.shr, .shr, .shr, sem13)), (15, (.shr, .shr, .shr, sem15)), (14, (.shr, .shr, .shr, sem14)), (16, (.shr, .shr, .shr, sem16)), (17, (.shr, .shr, .shr, sem17)), (18, (.shr, .shr, .shr, sem18)), (19, (.shr, .shr, .shr, sem19))]
def D4 : Draws := fun id => bif Nat.beq id 5 then .op 0 .any (.op 1 .take (.op 2 .take (.op 3 .any (.op 4 .one (.op 5 .any (.op 6 .one (.op 7 .any (.op 8 .any (.op 9 .any (.op 10 .take (.op 11 .one (.op 12 .any (.op 13 .any (.op 14 .any (.op 15 .any (.op 16 .take (.op 17 .any (.op 18 .any (.op 19 .any (.nil)))))))))))))))))))) else bif Nat.beq id 17 then .op 0 .any (.op 1 .take (.op 2 .any (.op 3 .any (.op 4 .any (.op 5 .any (.op 6 .take (.op 7 .one (.op 8 .any (.nil))))))))) else .nil
def hp4_0 : List (Option AP) := [none, none, none, some (.box false [.int .i64, .int .i64, .int .i64, .int .i64, .int .i64, .own (.cons (.int .i64) .nil)]), some (.val false [.own (.cons (.int .i64) (.cons (.int .i64) (.cons (.int .i64) (.cons .str .nil))))]), some (.box false [.int .i64, .int .i64, .int .i64, .int .i64, .int .i64, .own (.cons (.int .i64) .nil)]), some (.val false [.int .i64]), none, none, none, none, none, none, none, none, none, none, none, none, none, none, none, none, none, none, none, none, none, none, none, none, none, none, none, none, none, none, none, none, none, none, none, none, none, none, none, none, none, none, none, none, none, none, none, none, none, none, none, none, none, none, none, none, none, none, none, none, none, none, none, none, none, none, none, none, none, none, none, none, none, none, none, none, none, none, none, none, none, none, none, none, none, none, none, none, none]
def e4_0 : List (Option AP) := [none, none, none, some (.box false [.int .i64, .int .i64, .int .i64, .int .i64, .int .i64, .own (.cons (.int .i64) .nil)]), some (.val false [.own (.cons (.int .i64) (.cons (.int .i64) (.cons (.int .i64) (.cons .str .nil))))]), some (.box false [.int .i64, .int .i64, .int .i64, .int .i64, .int .i64, .own (.cons (.int .i64) .nil)]), none, none, none, none, none, none, none, none, none, none, none, none, none, none, none, none, none, none, none, none, none, none, none, none, none, none, none, none, none, none, none, none, none, none, none, none, none, none, none, none, none, none, none, none, none, none, none, none, none, none, none, none, none, none, none, none, none, none, none, none, none, none, none, none, none, none, none, none, none, none, none, none, none, none, none, none, none, none, none, none, none, none, none, none, none, none, none, none, none, none]
def q4_0 : List (Option AP) := [none, none, some (.val false [.bool]), none, none, none, none, none, none, none, none, none, none, none, none, none, none, none, none, none, none, none, none, none, none, none, none, none, none, none, none, none, none, none, none, none, none, none, none, none, none, none, none, none, none, none, none, none, none, none, none, none, none, none, none, none, none, none, none, none, none, none, none, none, none, none, none, none, none, none, none, none, none, none, none, none, none, none, none, none, none, none, none, none, none, none, none, none, none, none, none, none, none, none, none, none]
abbrev H4_0 : Type := Int × Int × Int × Int × Int × (List (Int × Unit)) × (List (Int × Int × Int × ByteArray × Unit)) × Int × Int × Int × Int × Int × (List (Int × Unit)) × Int × Unit
abbrev E4_0 : Type := Int × Int × Int × Int × Int × (List (Int × Unit)) × (List (Int × Int × Int × ByteArray × Unit)) × Int × Int × Int × Int × Int × (List (Int × Unit)) × Unit
abbrev Q4_0 : Type := Bool × Unit
noncomputable def laws_FnLacks_c0 (t3c0 : Int) (t3c1 : Int) (t3c2 : Int) (t3c3 : Int) (t3c4 : Int) (t3c5 : List (Int × Unit)) (list4 : List (Int × Int × Int × ByteArray × Unit)) (n5c0 : Int) (n5c1 : Int) (n5c2 : Int) (n5c3 : Int) (n5c4 : Int) (n5c5 : List (Int × Unit)) (i6 : Int) : Option (Sum H4_0 (Sum E4_0 Q4_0)) :=
  bif decide (i6 < ((List.length n5c5 : Nat) : Int)) then
    bif decide ((0 : Int) ≤ i6) then bif Nat.blt (Int.toNat i6) (List.length n5c5) then Option.bind ((n5c5)[Int.toNat i6]?) fun r7 =>
        Option.bind (spec_ItemAt list4 r7.1) fun y8 =>
        bif y8.2.2.2.2.1 then
          some (.inr (.inr (false, ())))
        else
          some (.inl (t3c0, t3c1, t3c2, t3c3, t3c4, t3c5, list4, n5c0, n5c1, n5c2, n5c3, n5c4, n5c5, IntKind.i64.wrap (i6 + (1 : Int)), ()))
      else none
    else none
  else
    some (.inr (.inl (t3c0, t3c1, t3c2, t3c3, t3c4, t3c5, list4, n5c0, n5c1, n5c2, n5c3, n5c4, n5c5, ())))
noncomputable def laws_FnLacks_r0 (x : H4_0) : Option (Sum H4_0 (Sum E4_0 Q4_0)) := laws_FnLacks_c0 x.1 x.2.1 x.2.2.1 x.2.2.2.1 x.2.2.2.2.1 x.2.2.2.2.2.1 x.2.2.2.2.2.2.1 x.2.2.2.2.2.2.2.1 x.2.2.2.2.2.2.2.2.1 x.2.2.2.2.2.2.2.2.2.1 x.2.2.2.2.2.2.2.2.2.2.1 x.2.2.2.2.2.2.2.2.2.2.2.1 x.2.2.2.2.2.2.2.2.2.2.2.2.1 x.2.2.2.2.2.2.2.2.2.2.2.2.2.1
def hp4_2 : List (Option AP) := [none, none, none, some (.box false [.int .i64, .int .i64, .int .i64, .int .i64, .int .i64, .own (.cons (.int .i64) .nil)]), some (.val false [.own (.cons (.int .i64) (.cons (.int .i64) (.cons (.int .i64) (.cons .str .nil))))]), some (.box false [.int .i64, .int .i64, .int .i64, .int .i64, .int .i64, .own (.cons (.int .i64) .nil)]), none, none, none, some (.val false [.own (.cons (.int .i64) (.cons (.int .i64) (.cons (.int .i64) (.cons .str .nil))))]), some (.val false [.int .i64]), none, none, none, none, none, none, none, none, none, none, none, none, none, none, none, none, none, none, none, none, none, none, none, none, none, none, none, none, none, none, none, none, none, none, none, none, none, none, none, none, none, none, none, none, none, none, none, none, none, none, none, none, none, none, none, none, none, none, none, none, none, none, none, none, none, none, none, none, none, none, none, none, none, none, none, none, none, none, none, none, none, none, none, none, none]
def e4_2 : List (Option AP) := [none, none, none, some (.box false [.int .i64, .int .i64, .int .i64, .int .i64, .int .i64, .own (.cons (.int .i64) .nil)]), some (.val false [.own (.cons (.int .i64) (.cons (.int .i64) (.cons (.int .i64) (.cons .str .nil))))]), some (.box false [.int .i64, .int .i64, .int .i64, .int .i64, .int .i64, .own (.cons (.int .i64) .nil)]), none, none, none, none, none, none, none, none, none, none, none, none, none, none, none, none, none, none, none, none, none, none, none, none, none, none, none, none, none, none, none, none, none, none, none, none, none, none, none, none, none, none, none, none, none, none, none, none, none, none, none, none, none, none, none, none, none, none, none, none, none, none, none, none, none, none, none, none, none, none, none, none, none, none, none, none, none, none, none, none, none, none, none, none, none, none, none, none, none, none]
def q4_2 : List (Option AP) := [none, none, some (.val false [.bool]), none, none, none, none, none, none, none, none, none, none, none, none, none, none, none, none, none, none, none, none, none, none, none, none, none, none, none, none, none, none, none, none, none, none, none, none, none, none, none, none, none, none, none, none, none, none, none, none, none, none, none, none, none, none, none, none, none, none, none, none, none, none, none, none, none, none, none, none, none, none, none, none, none, none, none, none, none, none, none, none, none, none, none, none, none, none, none, none, none, none, none, none, none]
abbrev H4_2 : Type := Int × Int × Int × Int × Int × (List (Int × Unit)) × (List (Int × Int × Int × ByteArray × Unit)) × Int × Int × Int × Int × Int × (List (Int × Unit)) × (List (Int × Int × Int × ByteArray × Unit)) × Int × Unit
abbrev E4_2 : Type := Int × Int × Int × Int × Int × (List (Int × Unit)) × (List (Int × Int × Int × ByteArray × Unit)) × Int × Int × Int × Int × Int × (List (Int × Unit)) × Unit
abbrev Q4_2 : Type := Bool × Unit
noncomputable def laws_FnLacks_c2 (t3c0 : Int) (t3c1 : Int) (t3c2 : Int) (t3c3 : Int) (t3c4 : Int) (t3c5 : List (Int × Unit)) (list4 : List (Int × Int × Int × ByteArray × Unit)) (n5c0 : Int) (n5c1 : Int) (n5c2 : Int) (n5c3 : Int) (n5c4 : Int) (n5c5 : List (Int × Unit)) (give9 : List (Int × Int × Int × ByteArray × Unit)) (i10 : Int) : Option (Sum H4_2 (Sum E4_2 Q4_2)) :=
  bif decide (i10 < ((List.length give9 : Nat) : Int)) then
    bif decide ((0 : Int) ≤ i10) then bif Nat.blt (Int.toNat i10) (List.length give9) then Option.bind ((give9)[Int.toNat i10]?) fun r12 =>
        Option.bind (laws_in t3c5 r12.1) fun y13 =>
        bif !y13.1 then
          some (.inr (.inr (false, ())))
        else
          some (.inl (t3c0, t3c1, t3c2, t3c3, t3c4, t3c5, list4, n5c0, n5c1, n5c2, n5c3, n5c4, n5c5, give9, IntKind.i64.wrap (i10 + (1 : Int)), ()))
      else none
    else none
  else
    some (.inr (.inl (t3c0, t3c1, t3c2, t3c3, t3c4, t3c5, list4, n5c0, n5c1, n5c2, n5c3, n5c4, n5c5, ())))
noncomputable def laws_FnLacks_r2 (x : H4_2) : Option (Sum H4_2 (Sum E4_2 Q4_2)) := laws_FnLacks_c2 x.1 x.2.1 x.2.2.1 x.2.2.2.1 x.2.2.2.2.1 x.2.2.2.2.2.1 x.2.2.2.2.2.2.1 x.2.2.2.2.2.2.2.1 x.2.2.2.2.2.2.2.2.1 x.2.2.2.2.2.2.2.2.2.1 x.2.2.2.2.2.2.2.2.2.2.1 x.2.2.2.2.2.2.2.2.2.2.2.1 x.2.2.2.2.2.2.2.2.2.2.2.2.1 x.2.2.2.2.2.2.2.2.2.2.2.2.2.1 x.2.2.2.2.2.2.2.2.2.2.2.2.2.2.1
noncomputable def L4 {R : Type} : Loops R := fun id _ st k => bif Nat.beq id 0 then loopAt hp4_0 e4_0 q4_0 laws_FnLacks_r0 st k else bif Nat.beq id 2 then loopAt hp4_2 e4_2 q4_2 laws_FnLacks_r2 st k else none
noncomputable def laws_FnLacks (code0 : List (Int × Unit)) : Option (Bool × Unit) :=
  Option.bind (laws_big code0) fun y1 =>
  bif y1.1 then
    some (true, ())
  else
    Option.bind (spec_DrawLacks code0) fun y2 =>
    Option.bind (impl_Lacks y2.1 y2.2.1 y2.2.2.1 y2.2.2.2.1 y2.2.2.2.2.1 y2.2.2.2.2.2.1 y2.2.2.2.2.2.2.1) fun y3 =>
    Option.bind (spec_Lacks y2.1 y2.2.1 y2.2.2.1 y2.2.2.2.1 y2.2.2.2.2.1 y2.2.2.2.2.2.1 y2.2.2.2.2.2.2.1) fun y4 =>
    Option.bind (laws_sameInts y3.2.2.2.2.2.1 y4.2.2.2.2.2.1) fun y5 =>
    bif !y5.1 then
      some (false, ())
    else
      Option.bind (laws_rises y3.2.2.2.2.2.1) fun y6 =>
      bif !y6.1 then
        some (false, ())
      else bif decide ((20 : Int) < ((List.length y3.2.2.2.2.2.1 : Nat) : Int)) then
        some (false, ())
      else
        outK (loopV laws_FnLacks_r0 (y2.1, y2.2.1, y2.2.2.1, y2.2.2.2.1, y2.2.2.2.2.1, y2.2.2.2.2.2.1, y2.2.2.2.2.2.2.1, y3.1, y3.2.1, y3.2.2.1, y3.2.2.2.1, y3.2.2.2.2.1, y3.2.2.2.2.2.1, (0 : Int), ())) (fun y7 =>
          Option.bind (impl_Give y7.1 y7.2.1 y7.2.2.1 y7.2.2.2.1 y7.2.2.2.2.1 y7.2.2.2.2.2.1 y7.2.2.2.2.2.2.1) fun y9 =>
          outK (loopV laws_FnLacks_r2 (y7.1, y7.2.1, y7.2.2.1, y7.2.2.2.1, y7.2.2.2.2.1, y7.2.2.2.2.2.1, y7.2.2.2.2.2.2.1, y7.2.2.2.2.2.2.2.1, y7.2.2.2.2.2.2.2.2.1, y7.2.2.2.2.2.2.2.2.2.1, y7.2.2.2.2.2.2.2.2.2.2.1, y7.2.2.2.2.2.2.2.2.2.2.2.1, y7.2.2.2.2.2.2.2.2.2.2.2.2.1, y9.1, (0 : Int), ())) (fun y10 =>
            Option.bind (impl_Give y10.2.2.2.2.2.2.2.1 y10.2.2.2.2.2.2.2.2.1 y10.2.2.2.2.2.2.2.2.2.1 y10.2.2.2.2.2.2.2.2.2.2.1 y10.2.2.2.2.2.2.2.2.2.2.2.1 y10.2.2.2.2.2.2.2.2.2.2.2.2.1 y10.2.2.2.2.2.2.1) fun y12 =>
            bif decide (((List.length y12.1 : Nat) : Int) = (0 : Int)) then
              bif decide (y10.2.2.2.2.2.2.2.2.2.1 = y10.2.2.1) then
                some (decide (y10.2.2.2.2.2.2.2.2.2.2.1 = y10.2.2.2.1), ())
              else
                some (false, ())
            else
              some (false, ())) (fun y11 =>
            some (y11.1, ()))) (fun y8 =>
          some (y8.1, ()))
noncomputable def x4 (x : (List (Int × Unit)) × Unit) : Option (Bool × Unit) := laws_FnLacks x.1
noncomputable def sem4 : Sem1 := semOf ps4 rs4 x4
theorem so4 : SemsOk Try.prog (semsOf sl4) := sems_cons k11 (sems_cons k12 (sems_cons k13 (sems_cons k15 (sems_cons k14 (sems_cons k16 (sems_cons k17 (sems_cons k18 (sems_cons k19 (sems_nil)))))))))
noncomputable def b4_2 : Code := nthLoop code4 1
noncomputable def b4_0 : Code := nthLoop code4 0
theorem t4_r0_eq (x : denR (headRT hp4_0)) : codeK (tabOf tr) (semsOf sl4) D4 L4 b4_0 (headSt hp4_0 x) (roundK 0 hp4_0 e4_0 q4_0) = laws_FnLacks_r0 x := by kernel_rfl
theorem loop4_0 {R : Type} (r : R) (w0 : World) (mu : Mu) (hs : AnShape ps4 mu) : LoopAt Try.prog w0 mu 96 (L4 : Loops R) r 0 b4_0 :=
  loop_auto tr_ok eq_ok mixed_ok so4 (D := D4) hs (by kernel_rfl) (fun _ => (loops_of (l := []) (by kernel_rfl) (List.forall_mem_nil _))) t4_r0_eq (fun _ _ => rfl)
theorem t4_r2_eq (x : denR (headRT hp4_2)) : codeK (tabOf tr) (semsOf sl4) D4 L4 b4_2 (headSt hp4_2 x) (roundK 2 hp4_2 e4_2 q4_2) = laws_FnLacks_r2 x := by kernel_rfl
theorem loop4_2 {R : Type} (r : R) (w0 : World) (mu : Mu) (hs : AnShape ps4 mu) : LoopAt Try.prog w0 mu 96 (L4 : Loops R) r 2 b4_2 :=
  loop_auto tr_ok eq_ok mixed_ok so4 (D := D4) hs (by kernel_rfl) (fun _ => (loops_of (l := []) (by kernel_rfl) (List.forall_mem_nil _))) t4_r2_eq (fun _ _ => rfl)
theorem t4_eq (x : denR (headRT (ps4.map some))) : codeK (tabOf tr) (semsOf sl4) D4 L4 code4 (start 96 ps4 x) (finK rs4 ps4) = x4 x := by kernel_rfl
theorem k4 : Known Try.prog 4 sem4 :=
  fn_auto tr_ok eq_ok mixed_ok so4 (D := D4) (code := code4) (n := 96) Try.func4 (by kernel_rfl) (by kernel_rfl) (by kernel_rfl) (fun w0 mu _ hs => (loops_of (l := [(0, b4_0), (2, b4_2)]) (by kernel_rfl) (List.forall_mem_cons.2 ⟨loop4_0 _ w0 mu hs, (List.forall_mem_cons.2 ⟨loop4_2 _ w0 mu hs, (List.forall_mem_nil _)⟩)⟩))) t4_eq

/-! ### f56: laws.szIntS -/
noncomputable def code56 : Code := match Try.f56.body with | some c => c | none => .skip
def ps56 : List AP := [.val false [.shr (.cons (.int .i64) .nil)], .val false [.int .i64]]
def rs56 : List RP := [{ src := .tmp 4, agg := false, ps := [.int .i64] }]
noncomputable def sl56 : SemL := []
def D56 : Draws := fun _ => .nil
noncomputable def L56 {R : Type} : Loops R := fun _ _ _ _ => none
noncomputable def laws_szIntS (a0 : List (Int × Unit)) (left1 : Int) : Option (Int × Unit) :=
  bif decide (IntKind.i64.wrap (left1 - ((List.length a0 : Nat) : Int)) < (0 : Int)) then
    some ((-1 : Int), ())
  else
    some (IntKind.i64.wrap (left1 - ((List.length a0 : Nat) : Int)), ())
noncomputable def x56 (x : (List (Int × Unit)) × Int × Unit) : Option (Int × Unit) := laws_szIntS x.1 x.2.1
noncomputable def sem56 : Sem1 := semOf ps56 rs56 x56
theorem so56 : SemsOk Try.prog (semsOf sl56) := sems_nil
theorem t56_eq (x : denR (headRT (ps56.map some))) : codeK (tabOf tr) (semsOf sl56) D56 L56 code56 (start 12 ps56 x) (finK rs56 ps56) = x56 x := by kernel_rfl
theorem k56 : Known Try.prog 56 sem56 :=
  fn_auto tr_ok eq_ok mixed_ok so56 (D := D56) (code := code56) (n := 12) Try.func56 (by kernel_rfl) (by kernel_rfl) (by kernel_rfl) (fun w0 mu _ hs => (loops_of (l := []) (by kernel_rfl) (List.forall_mem_nil _))) t56_eq

/-! ### f20: laws.szToken -/
noncomputable def code20 : Code := match Try.f20.body with | some c => c | none => .skip
def ps20 : List AP := [.val true [.int .i64, .int .i64, .int .i64, .int .i64, .int .i64, .shr (.cons (.int .i64) .nil)], .val false [.int .i64]]
def rs20 : List RP := [{ src := .tmp 4, agg := false, ps := [.int .i64] }]
noncomputable def sl20 : SemL := [(56, (.shr, .shr, .shr, sem56))]
def D20 : Draws := fun _ => .nil
noncomputable def L20 {R : Type} : Loops R := fun _ _ _ _ => none
noncomputable def laws_szToken (a0c0 : Int) (a0c1 : Int) (a0c2 : Int) (a0c3 : Int) (a0c4 : Int) (a0c5 : List (Int × Unit)) (left1 : Int) : Option (Int × Unit) :=
  Option.bind (laws_szIntS a0c5 left1) fun y1 =>
  bif decide (y1.1 < (0 : Int)) then
    some ((-1 : Int), ())
  else
    some (y1.1, ())
noncomputable def x20 (x : Int × Int × Int × Int × Int × (List (Int × Unit)) × Int × Unit) : Option (Int × Unit) := laws_szToken x.1 x.2.1 x.2.2.1 x.2.2.2.1 x.2.2.2.2.1 x.2.2.2.2.2.1 x.2.2.2.2.2.2.1
noncomputable def sem20 : Sem1 := semOf ps20 rs20 x20
theorem so20 : SemsOk Try.prog (semsOf sl20) := sems_cons k56 (sems_nil)
theorem t20_eq (x : denR (headRT (ps20.map some))) : codeK (tabOf tr) (semsOf sl20) D20 L20 code20 (start 12 ps20 x) (finK rs20 ps20) = x20 x := by kernel_rfl
theorem k20 : Known Try.prog 20 sem20 :=
  fn_auto tr_ok eq_ok mixed_ok so20 (D := D20) (code := code20) (n := 12) Try.func20 (by kernel_rfl) (by kernel_rfl) (by kernel_rfl) (fun w0 mu _ hs => (loops_of (l := []) (by kernel_rfl) (List.forall_mem_nil _))) t20_eq

/-! ### f57: laws.szItem -/
noncomputable def code57 : Code := match Try.f57.body with | some c => c | none => .skip
def ps57 : List AP := [.val true [.int .i64, .int .i64, .int .i64, .str], .val false [.int .i64]]
def rs57 : List RP := [{ src := .tmp 4, agg := false, ps := [.int .i64] }]
noncomputable def sl57 : SemL := []
def D57 : Draws := fun _ => .nil
noncomputable def L57 {R : Type} : Loops R := fun _ _ _ _ => none
noncomputable def laws_szItem (a0c0 : Int) (a0c1 : Int) (a0c2 : Int) (a0c3 : ByteArray) (left1 : Int) : Option (Int × Unit) :=
  bif decide (IntKind.i64.wrap (left1 - ((ByteArray.size a0c3 : Nat) : Int)) < (0 : Int)) then
    some ((-1 : Int), ())
  else
    some (IntKind.i64.wrap (left1 - ((ByteArray.size a0c3 : Nat) : Int)), ())
noncomputable def x57 (x : Int × Int × Int × ByteArray × Int × Unit) : Option (Int × Unit) := laws_szItem x.1 x.2.1 x.2.2.1 x.2.2.2.1 x.2.2.2.2.1
noncomputable def sem57 : Sem1 := semOf ps57 rs57 x57
theorem so57 : SemsOk Try.prog (semsOf sl57) := sems_nil
theorem t57_eq (x : denR (headRT (ps57.map some))) : codeK (tabOf tr) (semsOf sl57) D57 L57 code57 (start 13 ps57 x) (finK rs57 ps57) = x57 x := by kernel_rfl
theorem k57 : Known Try.prog 57 sem57 :=
  fn_auto tr_ok eq_ok mixed_ok so57 (D := D57) (code := code57) (n := 13) Try.func57 (by kernel_rfl) (by kernel_rfl) (by kernel_rfl) (fun w0 mu _ hs => (loops_of (l := []) (by kernel_rfl) (List.forall_mem_nil _))) t57_eq

/-! ### f21: laws.szItemS -/
noncomputable def code21 : Code := match Try.f21.body with | some c => c | none => .skip
def ps21 : List AP := [.val false [.shr (.cons (.int .i64) (.cons (.int .i64) (.cons (.int .i64) (.cons .str .nil))))], .val false [.int .i64]]
def rs21 : List RP := [{ src := .tmp 4, agg := false, ps := [.int .i64] }]
noncomputable def sl21 : SemL := [(57, (.shr, .shr, .shr, sem57))]
def D21 : Draws := fun _ => .nil
def hp21_0 : List (Option AP) := [some (.val false [.shr (.cons (.int .i64) (.cons (.int .i64) (.cons (.int .i64) (.cons .str .nil))))]), some (.val false [.int .i64]), none, none, none, some (.val false [.int .i64]), none, none, none, none, none, none, none, none, none, none, none, none, none, none, none, none, none, none, none, none, none]
def e21_0 : List (Option AP) := [none, some (.val false [.int .i64]), none, none, none, none, none, none, none, none, none, none, none, none, none, none, none, none, none, none, none, none, none, none, none, none, none]
def q21_0 : List (Option AP) := [none, none, none, none, some (.val false [.int .i64]), none, none, none, none, none, none, none, none, none, none, none, none, none, none, none, none, none, none, none, none, none, none]
abbrev H21_0 : Type := (List (Int × Int × Int × ByteArray × Unit)) × Int × Int × Unit
abbrev E21_0 : Type := Int × Unit
abbrev Q21_0 : Type := Int × Unit
noncomputable def laws_szItemS_c0 (a0 : List (Int × Int × Int × ByteArray × Unit)) (left1 : Int) (i5 : Int) : Option (Sum H21_0 (Sum E21_0 Q21_0)) :=
  bif decide (i5 < ((List.length a0 : Nat) : Int)) then
    bif decide ((0 : Int) ≤ i5) then Option.bind ((a0)[Int.toNat i5]?) fun r1 =>
      Option.bind (laws_szItem r1.1 r1.2.1 r1.2.2.1 r1.2.2.2.1 left1) fun y2 =>
      bif decide (y2.1 < (0 : Int)) then
        some (.inr (.inr ((-1 : Int), ())))
      else
        some (.inl (a0, y2.1, IntKind.i64.wrap (i5 + (1 : Int)), ()))
    else none
  else
    some (.inr (.inl (left1, ())))
noncomputable def laws_szItemS_r0 (x : H21_0) : Option (Sum H21_0 (Sum E21_0 Q21_0)) := laws_szItemS_c0 x.1 x.2.1 x.2.2.1
noncomputable def L21 {R : Type} : Loops R := fun id _ st k => bif Nat.beq id 0 then loopAt hp21_0 e21_0 q21_0 laws_szItemS_r0 st k else none
noncomputable def laws_szItemS (a0 : List (Int × Int × Int × ByteArray × Unit)) (left1 : Int) : Option (Int × Unit) :=
  bif decide (IntKind.i64.wrap (left1 - ((List.length a0 : Nat) : Int)) < (0 : Int)) then
    some ((-1 : Int), ())
  else
    outK (loopV laws_szItemS_r0 (a0, IntKind.i64.wrap (left1 - ((List.length a0 : Nat) : Int)), (0 : Int), ())) (fun y1 =>
      some (y1.1, ())) (fun y2 =>
      some (y2.1, ()))
noncomputable def x21 (x : (List (Int × Int × Int × ByteArray × Unit)) × Int × Unit) : Option (Int × Unit) := laws_szItemS x.1 x.2.1
noncomputable def sem21 : Sem1 := semOf ps21 rs21 x21
theorem so21 : SemsOk Try.prog (semsOf sl21) := sems_cons k57 (sems_nil)
noncomputable def b21_0 : Code := nthLoop code21 0
theorem t21_r0_eq (x : denR (headRT hp21_0)) : codeK (tabOf tr) (semsOf sl21) D21 L21 b21_0 (headSt hp21_0 x) (roundK 0 hp21_0 e21_0 q21_0) = laws_szItemS_r0 x := by kernel_rfl
theorem loop21_0 {R : Type} (r : R) (w0 : World) (mu : Mu) (hs : AnShape ps21 mu) : LoopAt Try.prog w0 mu 27 (L21 : Loops R) r 0 b21_0 :=
  loop_auto tr_ok eq_ok mixed_ok so21 (D := D21) hs (by kernel_rfl) (fun _ => (loops_of (l := []) (by kernel_rfl) (List.forall_mem_nil _))) t21_r0_eq (fun _ _ => rfl)
theorem t21_eq (x : denR (headRT (ps21.map some))) : codeK (tabOf tr) (semsOf sl21) D21 L21 code21 (start 27 ps21 x) (finK rs21 ps21) = x21 x := by kernel_rfl
theorem k21 : Known Try.prog 21 sem21 :=
  fn_auto tr_ok eq_ok mixed_ok so21 (D := D21) (code := code21) (n := 27) Try.func21 (by kernel_rfl) (by kernel_rfl) (by kernel_rfl) (fun w0 mu _ hs => (loops_of (l := [(0, b21_0)]) (by kernel_rfl) (List.forall_mem_cons.2 ⟨loop21_0 _ w0 mu hs, (List.forall_mem_nil _)⟩))) t21_eq

/-! ### f58: laws.toIntS -/
noncomputable def code58 : Code := match Try.f58.body with | some c => c | none => .skip
def ps58 : List AP := [.val false [.shr (.cons (.int .i64) .nil)]]
def rs58 : List RP := [{ src := .tmp 2, agg := false, ps := [.own (.cons (.int .i64) .nil)] }]
noncomputable def sl58 : SemL := []
def D58 : Draws := fun _ => .nil
def hp58_0 : List (Option AP) := [some (.val false [.shr (.cons (.int .i64) .nil)]), none, none, some (.val false [.own (.cons (.int .i64) .nil)]), some (.val false [.int .i64]), none, none, none, none, none, none, none, none, none, none, none, none, none, none, none, none, none]
def e58_0 : List (Option AP) := [none, none, none, some (.val false [.own (.cons (.int .i64) .nil)]), none, none, none, none, none, none, none, none, none, none, none, none, none, none, none, none, none, none]
def q58_0 : List (Option AP) := [none, none, none, none, none, none, none, none, none, none, none, none, none, none, none, none, none, none, none, none, none, none]
abbrev H58_0 : Type := (List (Int × Unit)) × (List (Int × Unit)) × Int × Unit
abbrev E58_0 : Type := (List (Int × Unit)) × Unit
abbrev Q58_0 : Type := Unit
noncomputable def laws_toIntS_c0 (a0 : List (Int × Unit)) (out3 : List (Int × Unit)) (i4 : Int) : Option (Sum H58_0 (Sum E58_0 Q58_0)) :=
  bif decide (i4 < ((List.length a0 : Nat) : Int)) then
    bif decide ((0 : Int) ≤ i4) then Option.bind ((a0)[Int.toNat i4]?) fun r1 =>
      bif decide ((0 : Int) ≤ i4) then bif Nat.blt (Int.toNat i4) (List.length out3) then Option.bind ((out3)[Int.toNat i4]?) fun r2 =>
          some (.inl (a0, List.set out3 (Int.toNat i4) (r1.1, ()), IntKind.i64.wrap (i4 + (1 : Int)), ()))
        else none
      else none
    else none
  else
    some (.inr (.inl (out3, ())))
noncomputable def laws_toIntS_r0 (x : H58_0) : Option (Sum H58_0 (Sum E58_0 Q58_0)) := laws_toIntS_c0 x.1 x.2.1 x.2.2.1
noncomputable def L58 {R : Type} : Loops R := fun id _ st k => bif Nat.beq id 0 then loopAt hp58_0 e58_0 q58_0 laws_toIntS_r0 st k else none
noncomputable def laws_toIntS (a0 : List (Int × Unit)) : Option ((List (Int × Unit)) × Unit) :=
  bif decide (((List.length a0 : Nat) : Int) = ((List.length a0 : Nat) : Int)) then bif decide ((0 : Int) ≤ ((List.length a0 : Nat) : Int)) then bif Nat.ble ((Int.toNat ((List.length a0 : Nat) : Int)) * 8) lim then outK (loopV laws_toIntS_r0 (a0, List.replicate (Int.toNat ((List.length a0 : Nat) : Int)) ((0 : Int), ()), (0 : Int), ())) (fun y1 =>
          some (y1.1, ())) (fun y2 =>
          none)
      else none
    else none
  else none
noncomputable def x58 (x : (List (Int × Unit)) × Unit) : Option ((List (Int × Unit)) × Unit) := laws_toIntS x.1
noncomputable def sem58 : Sem1 := semOf ps58 rs58 x58
theorem so58 : SemsOk Try.prog (semsOf sl58) := sems_nil
noncomputable def b58_0 : Code := nthLoop code58 0
theorem t58_r0_eq (x : denR (headRT hp58_0)) : codeK (tabOf tr) (semsOf sl58) D58 L58 b58_0 (headSt hp58_0 x) (roundK 0 hp58_0 e58_0 q58_0) = laws_toIntS_r0 x := by kernel_rfl
theorem loop58_0 {R : Type} (r : R) (w0 : World) (mu : Mu) (hs : AnShape ps58 mu) : LoopAt Try.prog w0 mu 22 (L58 : Loops R) r 0 b58_0 :=
  loop_auto tr_ok eq_ok mixed_ok so58 (D := D58) hs (by kernel_rfl) (fun _ => (loops_of (l := []) (by kernel_rfl) (List.forall_mem_nil _))) t58_r0_eq (fun _ _ => rfl)
theorem t58_eq (x : denR (headRT (ps58.map some))) : codeK (tabOf tr) (semsOf sl58) D58 L58 code58 (start 22 ps58 x) (finK rs58 ps58) = x58 x := by kernel_rfl
theorem k58 : Known Try.prog 58 sem58 :=
  fn_auto tr_ok eq_ok mixed_ok so58 (D := D58) (code := code58) (n := 22) Try.func58 (by kernel_rfl) (by kernel_rfl) (by kernel_rfl) (fun w0 mu _ hs => (loops_of (l := [(0, b58_0)]) (by kernel_rfl) (List.forall_mem_cons.2 ⟨loop58_0 _ w0 mu hs, (List.forall_mem_nil _)⟩))) t58_eq

/-! ### f22: laws.toToken -/
noncomputable def code22 : Code := match Try.f22.body with | some c => c | none => .skip
def ps22 : List AP := [.val true [.int .i64, .int .i64, .int .i64, .int .i64, .int .i64, .shr (.cons (.int .i64) .nil)]]
def rs22 : List RP := [{ src := .cell 2, agg := true, ps := [.int .i64, .int .i64, .int .i64, .int .i64, .int .i64, .own (.cons (.int .i64) .nil)] }]
noncomputable def sl22 : SemL := [(58, (.shr, .shr, .shr, sem58))]
def D22 : Draws := fun _ => .nil
noncomputable def L22 {R : Type} : Loops R := fun _ _ _ _ => none
noncomputable def laws_toToken (a0c0 : Int) (a0c1 : Int) (a0c2 : Int) (a0c3 : Int) (a0c4 : Int) (a0c5 : List (Int × Unit)) : Option (Int × Int × Int × Int × Int × (List (Int × Unit)) × Unit) :=
  Option.bind (laws_toIntS a0c5) fun y1 =>
  some (a0c0, a0c1, a0c2, a0c3, a0c4, y1.1, ())
noncomputable def x22 (x : Int × Int × Int × Int × Int × (List (Int × Unit)) × Unit) : Option (Int × Int × Int × Int × Int × (List (Int × Unit)) × Unit) := laws_toToken x.1 x.2.1 x.2.2.1 x.2.2.2.1 x.2.2.2.2.1 x.2.2.2.2.2.1
noncomputable def sem22 : Sem1 := semOf ps22 rs22 x22
theorem so22 : SemsOk Try.prog (semsOf sl22) := sems_cons k58 (sems_nil)
theorem t22_eq (x : denR (headRT (ps22.map some))) : codeK (tabOf tr) (semsOf sl22) D22 L22 code22 (start 24 ps22 x) (finK rs22 ps22) = x22 x := by kernel_rfl
theorem k22 : Known Try.prog 22 sem22 :=
  fn_auto tr_ok eq_ok mixed_ok so22 (D := D22) (code := code22) (n := 24) Try.func22 (by kernel_rfl) (by kernel_rfl) (by kernel_rfl) (fun w0 mu _ hs => (loops_of (l := []) (by kernel_rfl) (List.forall_mem_nil _))) t22_eq

/-! ### f59: laws.toItem -/
noncomputable def code59 : Code := match Try.f59.body with | some c => c | none => .skip
def ps59 : List AP := [.val true [.int .i64, .int .i64, .int .i64, .str]]
def rs59 : List RP := [{ src := .cell 2, agg := true, ps := [.int .i64, .int .i64, .int .i64, .str] }]
noncomputable def sl59 : SemL := []
def D59 : Draws := fun _ => .nil
noncomputable def L59 {R : Type} : Loops R := fun _ _ _ _ => none
noncomputable def laws_toItem (a0c0 : Int) (a0c1 : Int) (a0c2 : Int) (a0c3 : ByteArray) : Option (Int × Int × Int × ByteArray × Unit) :=
  some (a0c0, a0c1, a0c2, a0c3, ())
noncomputable def x59 (x : Int × Int × Int × ByteArray × Unit) : Option (Int × Int × Int × ByteArray × Unit) := laws_toItem x.1 x.2.1 x.2.2.1 x.2.2.2.1
noncomputable def sem59 : Sem1 := semOf ps59 rs59 x59
theorem so59 : SemsOk Try.prog (semsOf sl59) := sems_nil
theorem t59_eq (x : denR (headRT (ps59.map some))) : codeK (tabOf tr) (semsOf sl59) D59 L59 code59 (start 17 ps59 x) (finK rs59 ps59) = x59 x := by kernel_rfl
theorem k59 : Known Try.prog 59 sem59 :=
  fn_auto tr_ok eq_ok mixed_ok so59 (D := D59) (code := code59) (n := 17) Try.func59 (by kernel_rfl) (by kernel_rfl) (by kernel_rfl) (fun w0 mu _ hs => (loops_of (l := []) (by kernel_rfl) (List.forall_mem_nil _))) t59_eq

/-! ### f23: laws.toItemS -/
noncomputable def code23 : Code := match Try.f23.body with | some c => c | none => .skip
def ps23 : List AP := [.val false [.shr (.cons (.int .i64) (.cons (.int .i64) (.cons (.int .i64) (.cons .str .nil))))]]
def rs23 : List RP := [{ src := .tmp 2, agg := false, ps := [.own (.cons (.int .i64) (.cons (.int .i64) (.cons (.int .i64) (.cons .str .nil))))] }]
noncomputable def sl23 : SemL := [(59, (.shr, .shr, .shr, sem59))]
def D23 : Draws := fun _ => .nil
def hp23_0 : List (Option AP) := [some (.val false [.shr (.cons (.int .i64) (.cons (.int .i64) (.cons (.int .i64) (.cons .str .nil))))]), none, none, some (.val false [.own (.cons (.int .i64) (.cons (.int .i64) (.cons (.int .i64) (.cons .str .nil))))]), some (.val false [.int .i64]), none, none, none, none, none, none, none, none, none, none, none, none, none, none, none, none, none, none]
def e23_0 : List (Option AP) := [none, none, none, some (.val false [.own (.cons (.int .i64) (.cons (.int .i64) (.cons (.int .i64) (.cons .str .nil))))]), none, none, none, none, none, none, none, none, none, none, none, none, none, none, none, none, none, none, none]
def q23_0 : List (Option AP) := [none, none, none, none, none, none, none, none, none, none, none, none, none, none, none, none, none, none, none, none, none, none, none]
abbrev H23_0 : Type := (List (Int × Int × Int × ByteArray × Unit)) × (List (Int × Int × Int × ByteArray × Unit)) × Int × Unit
abbrev E23_0 : Type := (List (Int × Int × Int × ByteArray × Unit)) × Unit
abbrev Q23_0 : Type := Unit
noncomputable def laws_toItemS_c0 (a0 : List (Int × Int × Int × ByteArray × Unit)) (out3 : List (Int × Int × Int × ByteArray × Unit)) (i4 : Int) : Option (Sum H23_0 (Sum E23_0 Q23_0)) :=
  bif decide (i4 < ((List.length a0 : Nat) : Int)) then
    bif decide ((0 : Int) ≤ i4) then Option.bind ((a0)[Int.toNat i4]?) fun r1 =>
      Option.bind (laws_toItem r1.1 r1.2.1 r1.2.2.1 r1.2.2.2.1) fun y2 =>
      bif decide ((0 : Int) ≤ i4) then bif Nat.blt (Int.toNat i4) (List.length out3) then Option.bind ((out3)[Int.toNat i4]?) fun r3 =>
          some (.inl (a0, List.set out3 (Int.toNat i4) (y2.1, y2.2.1, y2.2.2.1, y2.2.2.2.1, ()), IntKind.i64.wrap (i4 + (1 : Int)), ()))
        else none
      else none
    else none
  else
    some (.inr (.inl (out3, ())))
noncomputable def laws_toItemS_r0 (x : H23_0) : Option (Sum H23_0 (Sum E23_0 Q23_0)) := laws_toItemS_c0 x.1 x.2.1 x.2.2.1
noncomputable def L23 {R : Type} : Loops R := fun id _ st k => bif Nat.beq id 0 then loopAt hp23_0 e23_0 q23_0 laws_toItemS_r0 st k else none
noncomputable def laws_toItemS (a0 : List (Int × Int × Int × ByteArray × Unit)) : Option ((List (Int × Int × Int × ByteArray × Unit)) × Unit) :=
  bif decide (((List.length a0 : Nat) : Int) = ((List.length a0 : Nat) : Int)) then bif decide ((0 : Int) ≤ ((List.length a0 : Nat) : Int)) then bif Nat.ble ((Int.toNat ((List.length a0 : Nat) : Int)) * 40) lim then outK (loopV laws_toItemS_r0 (a0, List.replicate (Int.toNat ((List.length a0 : Nat) : Int)) ((0 : Int), (0 : Int), (0 : Int), ByteArray.empty, ()), (0 : Int), ())) (fun y1 =>
          some (y1.1, ())) (fun y2 =>
          none)
      else none
    else none
  else none
noncomputable def x23 (x : (List (Int × Int × Int × ByteArray × Unit)) × Unit) : Option ((List (Int × Int × Int × ByteArray × Unit)) × Unit) := laws_toItemS x.1
noncomputable def sem23 : Sem1 := semOf ps23 rs23 x23
theorem so23 : SemsOk Try.prog (semsOf sl23) := sems_cons k59 (sems_nil)
noncomputable def b23_0 : Code := nthLoop code23 0
theorem t23_r0_eq (x : denR (headRT hp23_0)) : codeK (tabOf tr) (semsOf sl23) D23 L23 b23_0 (headSt hp23_0 x) (roundK 0 hp23_0 e23_0 q23_0) = laws_toItemS_r0 x := by kernel_rfl
theorem loop23_0 {R : Type} (r : R) (w0 : World) (mu : Mu) (hs : AnShape ps23 mu) : LoopAt Try.prog w0 mu 23 (L23 : Loops R) r 0 b23_0 :=
  loop_auto tr_ok eq_ok mixed_ok so23 (D := D23) hs (by kernel_rfl) (fun _ => (loops_of (l := []) (by kernel_rfl) (List.forall_mem_nil _))) t23_r0_eq (fun _ _ => rfl)
theorem t23_eq (x : denR (headRT (ps23.map some))) : codeK (tabOf tr) (semsOf sl23) D23 L23 code23 (start 23 ps23 x) (finK rs23 ps23) = x23 x := by kernel_rfl
theorem k23 : Known Try.prog 23 sem23 :=
  fn_auto tr_ok eq_ok mixed_ok so23 (D := D23) (code := code23) (n := 23) Try.func23 (by kernel_rfl) (by kernel_rfl) (by kernel_rfl) (fun w0 mu _ hs => (loops_of (l := [(0, b23_0)]) (by kernel_rfl) (List.forall_mem_cons.2 ⟨loop23_0 _ w0 mu hs, (List.forall_mem_nil _)⟩))) t23_eq

/-! ### f5: laws.FnExactLacks -/
noncomputable def code5 : Code := match Try.f5.body with | some c => c | none => .skip
def ps5 : List AP := [.val true [.int .i64, .int .i64, .int .i64, .int .i64, .int .i64, .shr (.cons (.int .i64) .nil)], .val false [.shr (.cons (.int .i64) (.cons (.int .i64) (.cons (.int .i64) (.cons .str .nil))))]]
def rs5 : List RP := [{ src := .tmp 4, agg := false, ps := [.bool] }]
noncomputable def sl5 : SemL := [(20, (.shr, .shr, .shr, sem20)), (21, (.shr, .shr, .shr, sem21)), (22, (.shr, .shr, .shr, sem22)), (23, (.shr, .shr, .shr, sem23)), (15, (.shr, .shr, .shr, sem15)), (13, (.shr, .shr, .shr, sem13)), (24, (.shr, .shr, .shr, sem24)), (25, (.shr, .shr, .shr, sem25)), (26, (.lend, .shr, .shr, sem26)), (27, (.io, .shr, .shr, sem27)), (28, (.shr, .shr, .shr, sem28))]
def D5 : Draws := fun id => bif Nat.beq id 14 then .op 0 .take (.op 1 .take (.op 2 .one (.op 3 .one (.op 4 .any (.nil))))) else .nil
noncomputable def L5 {R : Type} : Loops R := fun _ _ _ _ => none
noncomputable def laws_FnExactLacks (aT0c0 : Int) (aT0c1 : Int) (aT0c2 : Int) (aT0c3 : Int) (aT0c4 : Int) (aT0c5 : List (Int × Unit)) (aList1 : List (Int × Int × Int × ByteArray × Unit)) : Option (Bool × Unit) :=
  Option.bind (laws_szToken aT0c0 aT0c1 aT0c2 aT0c3 aT0c4 aT0c5 (1048576 : Int)) fun y1 =>
  bif decide (y1.1 < (0 : Int)) then
    some (true, ())
  else
    Option.bind (laws_szItemS aList1 y1.1) fun y2 =>
    bif decide (y2.1 < (0 : Int)) then
      some (true, ())
    else
      Option.bind (laws_toToken aT0c0 aT0c1 aT0c2 aT0c3 aT0c4 aT0c5) fun y3 =>
      Option.bind (laws_toItemS aList1) fun y4 =>
      Option.bind (spec_Lacks y3.1 y3.2.1 y3.2.2.1 y3.2.2.2.1 y3.2.2.2.2.1 y3.2.2.2.2.2.1 y4.1) fun y5 =>
      Option.bind (laws_toToken aT0c0 aT0c1 aT0c2 aT0c3 aT0c4 aT0c5) fun y6 =>
      Option.bind (laws_toItemS aList1) fun y7 =>
      Option.bind (impl_Lacks y6.1 y6.2.1 y6.2.2.1 y6.2.2.2.1 y6.2.2.2.2.1 y6.2.2.2.2.2.1 y7.1) fun y8 =>
      Option.bind (laws_eqToken y8.1 y8.2.1 y8.2.2.1 y8.2.2.2.1 y8.2.2.2.2.1 y8.2.2.2.2.2.1 y5.1 y5.2.1 y5.2.2.1 y5.2.2.2.1 y5.2.2.2.2.1 y5.2.2.2.2.2.1) fun y9 =>
      bif !y9.1 then
        some (false, ())
      else
        Option.bind (laws_toToken aT0c0 aT0c1 aT0c2 aT0c3 aT0c4 aT0c5) fun y10 =>
        Option.bind (laws_eqToken y6.1 y6.2.1 y6.2.2.1 y6.2.2.2.1 y6.2.2.2.2.1 y6.2.2.2.2.2.1 y10.1 y10.2.1 y10.2.2.1 y10.2.2.2.1 y10.2.2.2.2.1 y10.2.2.2.2.2.1) fun y11 =>
        bif !y11.1 then
          some (false, ())
        else
          Option.bind (laws_toItemS aList1) fun y12 =>
          Option.bind (laws_eqItemS y7.1 y12.1) fun y13 =>
          bif !y13.1 then
            some (false, ())
          else
            Option.bind (laws_markToken y6.1 y6.2.1 y6.2.2.1 y6.2.2.2.1 y6.2.2.2.2.1 y6.2.2.2.2.2.1 (1 : Int)) fun y14 =>
            Option.bind (laws_markItemS y7.1 y14.1) fun y15 =>
            bif decide (y15.1 < (0 : Int)) then
              some (false, ())
            else
              Option.bind (laws_eqToken y8.1 y8.2.1 y8.2.2.1 y8.2.2.2.1 y8.2.2.2.2.1 y8.2.2.2.2.2.1 y5.1 y5.2.1 y5.2.2.1 y5.2.2.2.1 y5.2.2.2.2.1 y5.2.2.2.2.2.1) fun y16 =>
              bif !y16.1 then
                some (false, ())
              else
                Option.bind (laws_markToken y8.1 y8.2.1 y8.2.2.1 y8.2.2.2.1 y8.2.2.2.2.1 y8.2.2.2.2.2.1 (1 : Int)) fun y17 =>
                Option.bind (laws_heldToken y8.1 y8.2.1 y8.2.2.1 y8.2.2.2.1 y8.2.2.2.2.1 y17.2.1 (1 : Int)) fun y18 =>
                bif decide (y18.1 < (0 : Int)) then
                  some (false, ())
                else bif !decide (y18.1 = y17.1) then
                  some (false, ())
                else
                  Option.bind (laws_toToken aT0c0 aT0c1 aT0c2 aT0c3 aT0c4 aT0c5) fun y19 =>
                  Option.bind (laws_toItemS aList1) fun y20 =>
                  Option.bind (impl_Lacks y19.1 y19.2.1 y19.2.2.1 y19.2.2.2.1 y19.2.2.2.2.1 y19.2.2.2.2.2.1 y20.1) fun y21 =>
                  Option.bind (laws_eqToken y21.1 y21.2.1 y21.2.2.1 y21.2.2.2.1 y21.2.2.2.2.1 y21.2.2.2.2.2.1 y5.1 y5.2.1 y5.2.2.1 y5.2.2.2.1 y5.2.2.2.2.1 y5.2.2.2.2.2.1) fun y22 =>
                  bif !y22.1 then
                    some (false, ())
                  else
                    Option.bind (laws_heldToken y8.1 y8.2.1 y8.2.2.1 y8.2.2.2.1 y8.2.2.2.2.1 y17.2.1 (1 : Int)) fun y23 =>
                    bif decide (y23.1 < (0 : Int)) then
                      some (false, ())
                    else bif !decide (y23.1 = y17.1) then
                      some (false, ())
                    else
                      some (true, ())
noncomputable def x5 (x : Int × Int × Int × Int × Int × (List (Int × Unit)) × (List (Int × Int × Int × ByteArray × Unit)) × Unit) : Option (Bool × Unit) := laws_FnExactLacks x.1 x.2.1 x.2.2.1 x.2.2.2.1 x.2.2.2.2.1 x.2.2.2.2.2.1 x.2.2.2.2.2.2.1
noncomputable def sem5 : Sem1 := semOf ps5 rs5 x5
theorem so5 : SemsOk Try.prog (semsOf sl5) := sems_cons k20 (sems_cons k21 (sems_cons k22 (sems_cons k23 (sems_cons k15 (sems_cons k13 (sems_cons k24 (sems_cons k25 (sems_cons k26 (sems_cons k27 (sems_cons k28 (sems_nil)))))))))))
theorem t5_eq (x : denR (headRT (ps5.map some))) : codeK (tabOf tr) (semsOf sl5) D5 L5 code5 (start 92 ps5 x) (finK rs5 ps5) = x5 x := by kernel_rfl
theorem k5 : Known Try.prog 5 sem5 :=
  fn_auto tr_ok eq_ok mixed_ok so5 (D := D5) (code := code5) (n := 92) Try.func5 (by kernel_rfl) (by kernel_rfl) (by kernel_rfl) (fun w0 mu _ hs => (loops_of (l := []) (by kernel_rfl) (List.forall_mem_nil _))) t5_eq

end Go.TM
