/- What the functions answer, as terms; their contracts. -/
import Derived.Test.YtmljblppihbkdaaABase
set_option linter.unusedSimpArgs false
set_option linter.unusedVariables false
namespace Go.TM
open Go Go.RowKit Go.Proofs

/-! ### f62: laws.szIntS -/
noncomputable def code62 : Code := match Try.f62.body with | some c => c | none => .skip
def ps62 : List AP := [.val false [.shr T_i], .val false [.int .i64]]
def rs62 : List RP := [{ src := .tmp 4, agg := false, ps := [.int .i64] }]
noncomputable def sl62 : SemL := []
def D62 : Draws := fun _ => .nil
noncomputable def L62 {R : Type} : Loops R := fun _ _ _ _ => none
noncomputable def laws_szIntS (a0 : List (Int × Unit)) (left1 : Int) : Option (Int × Unit) :=
  bif decide (IntKind.i64.wrap (left1 - ((List.length a0 : Nat) : Int)) < (0 : Int)) then
    some ((-1 : Int), ())
  else
    some (IntKind.i64.wrap (left1 - ((List.length a0 : Nat) : Int)), ())
noncomputable def x62 (x : (List (Int × Unit)) × Int × Unit) : Option (Int × Unit) := laws_szIntS x.1 x.2.1
noncomputable def sem62 : Sem1 := semOf ps62 rs62 x62
theorem so62 : SemsOk Try.prog (semsOf sl62) := sems_nil
theorem t62_eq (x : denR (headRT (ps62.map some))) : codeK (tabOf tr) (semsOf sl62) D62 L62 code62 (start 12 ps62 x) (finK rs62 ps62) = x62 x := by kernel_rfl
theorem k62 : Known Try.prog 62 sem62 :=
  fn_auto tr_ok eq_ok mixed_ok so62 (D := D62) (code := code62) (n := 12) Try.func62 (by kernel_rfl) (by kernel_rfl) (by kernel_rfl) (fun w0 mu _ hs => (loops_of (l := []) (by kernel_rfl) (List.forall_mem_nil _))) t62_eq

/-! ### f10: laws.szRing -/
noncomputable def code10 : Code := match Try.f10.body with | some c => c | none => .skip
def ps10 : List AP := [.val true [.int .i64, .shr T_i], .val false [.int .i64]]
def rs10 : List RP := [{ src := .tmp 4, agg := false, ps := [.int .i64] }]
noncomputable def sl10 : SemL := [(62, (.shr, .shr, .shr, sem62))]
def D10 : Draws := fun _ => .nil
noncomputable def L10 {R : Type} : Loops R := fun _ _ _ _ => none
noncomputable def laws_szRing (a0c0 : Int) (a0c1 : List (Int × Unit)) (left1 : Int) : Option (Int × Unit) :=
  Option.bind (laws_szIntS a0c1 left1) fun y1 =>
  bif decide (y1.1 < (0 : Int)) then
    some ((-1 : Int), ())
  else
    some (y1.1, ())
noncomputable def x10 (x : Int × (List (Int × Unit)) × Int × Unit) : Option (Int × Unit) := laws_szRing x.1 x.2.1 x.2.2.1
noncomputable def sem10 : Sem1 := semOf ps10 rs10 x10
theorem so10 : SemsOk Try.prog (semsOf sl10) := sems_cons k62 (sems_nil)
theorem t10_eq (x : denR (headRT (ps10.map some))) : codeK (tabOf tr) (semsOf sl10) D10 L10 code10 (start 12 ps10 x) (finK rs10 ps10) = x10 x := by kernel_rfl
theorem k10 : Known Try.prog 10 sem10 :=
  fn_auto tr_ok eq_ok mixed_ok so10 (D := D10) (code := code10) (n := 12) Try.func10 (by kernel_rfl) (by kernel_rfl) (by kernel_rfl) (fun w0 mu _ hs => (loops_of (l := []) (by kernel_rfl) (List.forall_mem_nil _))) t10_eq

/-! ### f66: laws.toIntS -/
noncomputable def code66 : Code := match Try.f66.body with | some c => c | none => .skip
def ps66 : List AP := [.val false [.shr T_i]]
def rs66 : List RP := [{ src := .tmp 2, agg := false, ps := [.own T_i] }]
noncomputable def sl66 : SemL := []
def D66 : Draws := fun _ => .nil
def hp66_0 : List (Option AP) := [some (.val false [.shr T_i]), none, none, some (.val false [.own T_i]), some (.val false [.int .i64]), none, none, none, none, none, none, none, none, none, none, none, none, none, none, none, none, none, none]
def e66_0 : List (Option AP) := [none, none, none, some (.val false [.own T_i]), none, none, none, none, none, none, none, none, none, none, none, none, none, none, none, none, none, none, none]
def q66_0 : List (Option AP) := [none, none, none, none, none, none, none, none, none, none, none, none, none, none, none, none, none, none, none, none, none, none, none]
abbrev H66_0 : Type := (List (Int × Unit)) × (List (Int × Unit)) × Int × Unit
abbrev E66_0 : Type := (List (Int × Unit)) × Unit
abbrev Q66_0 : Type := Unit
noncomputable def laws_toIntS_c0 (a0 : List (Int × Unit)) (out3 : List (Int × Unit)) (i4 : Int) : Option (Sum H66_0 (Sum E66_0 Q66_0)) :=
  bif decide (i4 < ((List.length a0 : Nat) : Int)) then
    bif decide ((0 : Int) ≤ i4) then Option.bind ((a0)[Int.toNat i4]?) fun r1 =>
      bif decide ((0 : Int) ≤ i4) then bif Nat.blt (Int.toNat i4) (List.length out3) then Option.bind ((out3)[Int.toNat i4]?) fun r2 =>
          some (.inl (a0, List.set out3 (Int.toNat i4) (r1.1, ()), IntKind.i64.wrap (i4 + (1 : Int)), ()))
        else none
      else none
    else none
  else
    some (.inr (.inl (out3, ())))
noncomputable def laws_toIntS_r0 (x : H66_0) : Option (Sum H66_0 (Sum E66_0 Q66_0)) := laws_toIntS_c0 x.1 x.2.1 x.2.2.1
noncomputable def L66 {R : Type} : Loops R := fun id _ st k => bif Nat.beq id 0 then loopAt hp66_0 e66_0 q66_0 laws_toIntS_r0 st k else none
noncomputable def laws_toIntS (a0 : List (Int × Unit)) : Option ((List (Int × Unit)) × Unit) :=
  bif decide (((List.length a0 : Nat) : Int) = ((List.length a0 : Nat) : Int)) then bif decide ((0 : Int) ≤ ((List.length a0 : Nat) : Int)) then bif Nat.ble ((Int.toNat ((List.length a0 : Nat) : Int)) * 8) lim then outK (loopV laws_toIntS_r0 (a0, List.replicate (Int.toNat ((List.length a0 : Nat) : Int)) ((0 : Int), ()), (0 : Int), ())) (fun y1 =>
          some (y1.1, ())) (fun y2 =>
          none)
      else none
    else none
  else none
noncomputable def x66 (x : (List (Int × Unit)) × Unit) : Option ((List (Int × Unit)) × Unit) := laws_toIntS x.1
noncomputable def sem66 : Sem1 := semOf ps66 rs66 x66
theorem so66 : SemsOk Try.prog (semsOf sl66) := sems_nil
noncomputable def b66_0 : Code := nthLoop code66 0
theorem t66_r0_eq (x : denR (headRT hp66_0)) : codeK (tabOf tr) (semsOf sl66) D66 L66 b66_0 (headSt hp66_0 x) (roundK 0 hp66_0 e66_0 q66_0) = laws_toIntS_r0 x := by kernel_rfl
theorem loop66_0 {R : Type} (r : R) (w0 : World) (mu : Mu) (hs : AnShape ps66 mu) : LoopAt Try.prog w0 mu 22 (L66 : Loops R) r 0 b66_0 :=
  loop_auto tr_ok eq_ok mixed_ok so66 (D := D66) hs (by kernel_rfl) (fun _ => (loops_of (l := []) (by kernel_rfl) (List.forall_mem_nil _))) t66_r0_eq (fun _ _ => rfl)
theorem t66_eq (x : denR (headRT (ps66.map some))) : codeK (tabOf tr) (semsOf sl66) D66 L66 code66 (start 22 ps66 x) (finK rs66 ps66) = x66 x := by kernel_rfl
theorem k66 : Known Try.prog 66 sem66 :=
  fn_auto tr_ok eq_ok mixed_ok so66 (D := D66) (code := code66) (n := 22) Try.func66 (by kernel_rfl) (by kernel_rfl) (by kernel_rfl) (fun w0 mu _ hs => (loops_of (l := [(0, b66_0)]) (by kernel_rfl) (List.forall_mem_cons.2 ⟨loop66_0 _ w0 mu hs, (List.forall_mem_nil _)⟩))) t66_eq

/-! ### f12: laws.toRing -/
noncomputable def code12 : Code := match Try.f12.body with | some c => c | none => .skip
def ps12 : List AP := [.val true [.int .i64, .shr T_i]]
def rs12 : List RP := [{ src := .cell 2, agg := true, ps := [.int .i64, .own T_i] }]
noncomputable def sl12 : SemL := [(66, (.shr, .shr, .shr, sem66))]
def D12 : Draws := fun _ => .nil
noncomputable def L12 {R : Type} : Loops R := fun _ _ _ _ => none
noncomputable def laws_toRing (a0c0 : Int) (a0c1 : List (Int × Unit)) : Option (Int × (List (Int × Unit)) × Unit) :=
  Option.bind (laws_toIntS a0c1) fun y1 =>
  some (a0c0, y1.1, ())
noncomputable def x12 (x : Int × (List (Int × Unit)) × Unit) : Option (Int × (List (Int × Unit)) × Unit) := laws_toRing x.1 x.2.1
noncomputable def sem12 : Sem1 := semOf ps12 rs12 x12
theorem so12 : SemsOk Try.prog (semsOf sl12) := sems_cons k66 (sems_nil)
theorem t12_eq (x : denR (headRT (ps12.map some))) : codeK (tabOf tr) (semsOf sl12) D12 L12 code12 (start 12 ps12 x) (finK rs12 ps12) = x12 x := by kernel_rfl
theorem k12 : Known Try.prog 12 sem12 :=
  fn_auto tr_ok eq_ok mixed_ok so12 (D := D12) (code := code12) (n := 12) Try.func12 (by kernel_rfl) (by kernel_rfl) (by kernel_rfl) (fun w0 mu _ hs => (loops_of (l := []) (by kernel_rfl) (List.forall_mem_nil _))) t12_eq

/-! ### f144: spec.l01In -/
noncomputable def code144 : Code := match Try.f144.body with | some c => c | none => .skip
def ps144 : List AP := [.val false [.int .i64], .val false [.int .i64], .val false [.int .i64]]
def rs144 : List RP := [{ src := .tmp 6, agg := false, ps := [.bool] }]
noncomputable def sl144 : SemL := []
def D144 : Draws := fun _ => .nil
noncomputable def L144 {R : Type} : Loops R := fun _ _ _ _ => none
noncomputable def spec_l01In (x0 : Int) (least1 : Int) (most2 : Int) : Option (Bool × Unit) :=
  bif decide (least1 ≤ x0) then
    some (decide (x0 ≤ most2), ())
  else
    some (false, ())
noncomputable def x144 (x : Int × Int × Int × Unit) : Option (Bool × Unit) := spec_l01In x.1 x.2.1 x.2.2.1
noncomputable def sem144 : Sem1 := semOf ps144 rs144 x144
theorem so144 : SemsOk Try.prog (semsOf sl144) := sems_nil
theorem t144_eq (x : denR (headRT (ps144.map some))) : codeK (tabOf tr) (semsOf sl144) D144 L144 code144 (start 15 ps144 x) (finK rs144 ps144) = x144 x := by kernel_rfl
theorem k144 : Known Try.prog 144 sem144 :=
  fn_auto tr_ok eq_ok mixed_ok so144 (D := D144) (code := code144) (n := 15) Try.func144 (by kernel_rfl) (by kernel_rfl) (by kernel_rfl) (fun w0 mu _ hs => (loops_of (l := []) (by kernel_rfl) (List.forall_mem_nil _))) t144_eq

/-! ### f63: spec.RingOk -/
noncomputable def code63 : Code := match Try.f63.body with | some c => c | none => .skip
def ps63 : List AP := [.val true [.int .i64, .shr T_i]]
def rs63 : List RP := [{ src := .tmp 2, agg := false, ps := [.bool] }]
noncomputable def sl63 : SemL := [(144, (.shr, .shr, .shr, sem144))]
def D63 : Draws := fun id => bif Nat.beq id 6 then .op 0 .any (.op 1 .take (.op 2 .any (.op 3 .any (.op 4 .take (.op 5 .one (.op 6 .any (.op 7 .any (.op 8 .any (.op 9 .any (.op 10 .any (.op 11 .any (.op 12 .take (.op 13 .any (.op 14 .any (.op 15 .any (.op 16 .take (.op 17 .any (.op 18 .take (.op 19 .any (.op 20 .any (.op 21 .take (.op 22 .any (.op 23 .any (.op 24 .any (.nil))))))))))))))))))))))))) else .nil
def hp63_0 : List (Option AP) := [none, some (.box false [.int .i64, .shr T_i]), none, some (.val false [.int .i64]), none, none, none, none, none, none, none, none, none, none, none, none, none, none, none, none, none, none, none, none, none, none, none, none, none, none, none, none, none, none, none, none, none, none, none, none, none, none, none, none, none, none, none, none]
def e63_0 : List (Option AP) := [none, none, none, none, none, none, none, none, none, none, none, none, none, none, none, none, none, none, none, none, none, none, none, none, none, none, none, none, none, none, none, none, none, none, none, none, none, none, none, none, none, none, none, none, none, none, none, none]
def q63_0 : List (Option AP) := [none, none, some (.val false [.bool]), none, none, none, none, none, none, none, none, none, none, none, none, none, none, none, none, none, none, none, none, none, none, none, none, none, none, none, none, none, none, none, none, none, none, none, none, none, none, none, none, none, none, none, none, none]
abbrev H63_0 : Type := Int × (List (Int × Unit)) × Int × Unit
abbrev E63_0 : Type := Unit
abbrev Q63_0 : Type := Bool × Unit
noncomputable def spec_RingOk_c0 (r1c0 : Int) (r1c1 : List (Int × Unit)) (i3 : Int) : Option (Sum H63_0 (Sum E63_0 Q63_0)) :=
  bif decide (i3 < ((List.length r1c1 : Nat) : Int)) then
    bif decide ((0 : Int) ≤ i3) then Option.bind ((r1c1)[Int.toNat i3]?) fun r3 =>
      Option.bind (spec_l01In r3.1 (1 : Int) (5 : Int)) fun y4 =>
      bif !y4.1 then
        some (.inr (.inr (false, ())))
      else bif decide ((0 : Int) < i3) then
        bif decide ((0 : Int) ≤ IntKind.i64.wrap (i3 - (1 : Int))) then Option.bind ((r1c1)[Int.toNat (IntKind.i64.wrap (i3 - (1 : Int)))]?) fun r5 =>
          bif decide ((0 : Int) ≤ i3) then Option.bind ((r1c1)[Int.toNat i3]?) fun r6 =>
            bif decide (r6.1 ≤ r5.1) then
              some (.inr (.inr (false, ())))
            else
              some (.inl (r1c0, r1c1, IntKind.i64.wrap (i3 + (1 : Int)), ()))
          else none
        else none
      else
        some (.inl (r1c0, r1c1, IntKind.i64.wrap (i3 + (1 : Int)), ()))
    else none
  else
    some (.inr (.inl (())))
noncomputable def spec_RingOk_r0 (x : H63_0) : Option (Sum H63_0 (Sum E63_0 Q63_0)) := spec_RingOk_c0 x.1 x.2.1 x.2.2.1
noncomputable def L63 {R : Type} : Loops R := fun id _ st k => bif Nat.beq id 0 then loopAt hp63_0 e63_0 q63_0 spec_RingOk_r0 st k else none
noncomputable def spec_RingOk (r0c0 : Int) (r0c1 : List (Int × Unit)) : Option (Bool × Unit) :=
  Option.bind (spec_l01In r0c0 (1 : Int) (9 : Int)) fun y1 =>
  bif !y1.1 then
    some (false, ())
  else
    Option.bind (spec_l01In ((List.length r0c1 : Nat) : Int) (1 : Int) (5 : Int)) fun y2 =>
    bif !y2.1 then
      some (false, ())
    else
      outK (loopV spec_RingOk_r0 (r0c0, r0c1, (0 : Int), ())) (fun y3 =>
        some (true, ())) (fun y4 =>
        some (y4.1, ()))
noncomputable def x63 (x : Int × (List (Int × Unit)) × Unit) : Option (Bool × Unit) := spec_RingOk x.1 x.2.1
noncomputable def sem63 : Sem1 := semOf ps63 rs63 x63
theorem so63 : SemsOk Try.prog (semsOf sl63) := sems_cons k144 (sems_nil)
noncomputable def b63_0 : Code := nthLoop code63 0
theorem t63_r0_eq (x : denR (headRT hp63_0)) : codeK (tabOf tr) (semsOf sl63) D63 L63 b63_0 (headSt hp63_0 x) (roundK 0 hp63_0 e63_0 q63_0) = spec_RingOk_r0 x := by kernel_rfl
theorem loop63_0 {R : Type} (r : R) (w0 : World) (mu : Mu) (hs : AnShape ps63 mu) : LoopAt Try.prog w0 mu 47 (L63 : Loops R) r 0 b63_0 :=
  loop_auto tr_ok eq_ok mixed_ok so63 (D := D63) hs (by kernel_rfl) (fun _ => (loops_of (l := []) (by kernel_rfl) (List.forall_mem_nil _))) t63_r0_eq (fun _ _ => rfl)
theorem t63_eq (x : denR (headRT (ps63.map some))) : codeK (tabOf tr) (semsOf sl63) D63 L63 code63 (start 47 ps63 x) (finK rs63 ps63) = x63 x := by kernel_rfl
theorem k63 : Known Try.prog 63 sem63 :=
  fn_auto tr_ok eq_ok mixed_ok so63 (D := D63) (code := code63) (n := 47) Try.func63 (by kernel_rfl) (by kernel_rfl) (by kernel_rfl) (fun w0 mu _ hs => (loops_of (l := [(0, b63_0)]) (by kernel_rfl) (List.forall_mem_cons.2 ⟨loop63_0 _ w0 mu hs, (List.forall_mem_nil _)⟩))) t63_eq

/-! ### f145: spec.l05In -/
noncomputable def code145 : Code := match Try.f145.body with | some c => c | none => .skip
def ps145 : List AP := [.val false [.shr T_i], .val false [.int .i64]]
def rs145 : List RP := [{ src := .tmp 4, agg := false, ps := [.bool] }]
noncomputable def sl145 : SemL := []
def D145 : Draws := fun _ => .nil
def hp145_0 : List (Option AP) := [some (.val false [.shr T_i]), some (.val false [.int .i64]), none, none, none, some (.val false [.int .i64]), none, none, none, none, none, none, none, none, none, none, none, none, none]
def e145_0 : List (Option AP) := [none, none, none, none, none, none, none, none, none, none, none, none, none, none, none, none, none, none, none]
def q145_0 : List (Option AP) := [none, none, none, none, some (.val false [.bool]), none, none, none, none, none, none, none, none, none, none, none, none, none, none]
abbrev H145_0 : Type := (List (Int × Unit)) × Int × Int × Unit
abbrev E145_0 : Type := Unit
abbrev Q145_0 : Type := Bool × Unit
noncomputable def spec_l05In_c0 (list0 : List (Int × Unit)) (x1 : Int) (i5 : Int) : Option (Sum H145_0 (Sum E145_0 Q145_0)) :=
  bif decide (i5 < ((List.length list0 : Nat) : Int)) then
    bif decide ((0 : Int) ≤ i5) then Option.bind ((list0)[Int.toNat i5]?) fun r1 =>
      bif decide (r1.1 = x1) then
        some (.inr (.inr (true, ())))
      else
        some (.inl (list0, x1, IntKind.i64.wrap (i5 + (1 : Int)), ()))
    else none
  else
    some (.inr (.inl (())))
noncomputable def spec_l05In_r0 (x : H145_0) : Option (Sum H145_0 (Sum E145_0 Q145_0)) := spec_l05In_c0 x.1 x.2.1 x.2.2.1
noncomputable def L145 {R : Type} : Loops R := fun id _ st k => bif Nat.beq id 0 then loopAt hp145_0 e145_0 q145_0 spec_l05In_r0 st k else none
noncomputable def spec_l05In (list0 : List (Int × Unit)) (x1 : Int) : Option (Bool × Unit) :=
  outK (loopV spec_l05In_r0 (list0, x1, (0 : Int), ())) (fun y1 =>
    some (false, ())) (fun y2 =>
    some (y2.1, ()))
noncomputable def x145 (x : (List (Int × Unit)) × Int × Unit) : Option (Bool × Unit) := spec_l05In x.1 x.2.1
noncomputable def sem145 : Sem1 := semOf ps145 rs145 x145
theorem so145 : SemsOk Try.prog (semsOf sl145) := sems_nil
noncomputable def b145_0 : Code := nthLoop code145 0
theorem t145_r0_eq (x : denR (headRT hp145_0)) : codeK (tabOf tr) (semsOf sl145) D145 L145 b145_0 (headSt hp145_0 x) (roundK 0 hp145_0 e145_0 q145_0) = spec_l05In_r0 x := by kernel_rfl
theorem loop145_0 {R : Type} (r : R) (w0 : World) (mu : Mu) (hs : AnShape ps145 mu) : LoopAt Try.prog w0 mu 18 (L145 : Loops R) r 0 b145_0 :=
  loop_auto tr_ok eq_ok mixed_ok so145 (D := D145) hs (by kernel_rfl) (fun _ => (loops_of (l := []) (by kernel_rfl) (List.forall_mem_nil _))) t145_r0_eq (fun _ _ => rfl)
theorem t145_eq (x : denR (headRT (ps145.map some))) : codeK (tabOf tr) (semsOf sl145) D145 L145 code145 (start 18 ps145 x) (finK rs145 ps145) = x145 x := by kernel_rfl
theorem k145 : Known Try.prog 145 sem145 :=
  fn_auto tr_ok eq_ok mixed_ok so145 (D := D145) (code := code145) (n := 18) Try.func145 (by kernel_rfl) (by kernel_rfl) (by kernel_rfl) (fun w0 mu _ hs => (loops_of (l := [(0, b145_0)]) (by kernel_rfl) (List.forall_mem_cons.2 ⟨loop145_0 _ w0 mu hs, (List.forall_mem_nil _)⟩))) t145_eq

/-! ### f64: spec.MateNew -/
noncomputable def code64 : Code := match Try.f64.body with | some c => c | none => .skip
def ps64 : List AP := [.val false [.int .i64], .val true [.int .i64, .shr T_i]]
def rs64 : List RP := [{ src := .cell 4, agg := true, ps := [.int .i64, .int .i64, .own T_i, .own T_iiis, .own T_i, .own T_s, .int .i64, .int .i64, .int .i64, .int .i64, .int .i64, .int .i64, .int .i64, .int .i64, .int .i64, .own T_i] }, { src := .tmp 5, agg := false, ps := [.bool] }]
noncomputable def sl64 : SemL := [(63, (.shr, .shr, .shr, sem63)), (145, (.shr, .shr, .shr, sem145))]
def D64 : Draws := fun id => bif Nat.beq id 3 then .op 0 .any (.op 1 .any (.op 4 .any (.op 5 .take (.alt (.op 2 .one (.op 3 .one (.op 6 .last (.op 7 .any (.op 8 .any (.op 9 .last (.op 10 .any (.nil)))))))) (.op 3 .one (.alt (.op 2 .one (.op 6 .last (.op 7 .any (.op 8 .any (.op 9 .last (.op 10 .any (.nil))))))) (.op 6 .last (.op 2 .take (.op 7 .any (.op 8 .any (.op 9 .last (.op 10 .any (.nil))))))))))))) else .nil
noncomputable def L64 {R : Type} : Loops R := fun _ _ _ _ => none
noncomputable def spec_MateNew (id0 : Int) (r1c0 : Int) (r1c1 : List (Int × Unit)) : Option (Int × Int × (List (Int × Unit)) × (List R_iiis) × (List (Int × Unit)) × (List (ByteArray × Unit)) × Int × Int × Int × Int × Int × Int × Int × Int × Int × (List (Int × Unit)) × Bool × Unit) :=
  Option.bind (spec_RingOk r1c0 r1c1) fun y1 =>
  bif !y1.1 then
    some ((0 : Int), (0 : Int), [], [], [], [], (0 : Int), (0 : Int), (0 : Int), (0 : Int), (0 : Int), (0 : Int), (0 : Int), (0 : Int), (0 : Int), [], false, ())
  else
    Option.bind (spec_l05In r1c1 id0) fun y2 =>
    bif !y2.1 then
      some ((0 : Int), (0 : Int), [], [], [], [], (0 : Int), (0 : Int), (0 : Int), (0 : Int), (0 : Int), (0 : Int), (0 : Int), (0 : Int), (0 : Int), [], false, ())
    else bif Nat.ble ((0 + (List.length r1c1)) * 8) lim then some (id0, r1c0, [] ++ r1c1, [], [], [], (0 : Int), (0 : Int), (0 : Int), (0 : Int), (0 : Int), (0 : Int), (0 : Int), (0 : Int), (0 : Int), [], true, ())
    else none
noncomputable def spec_MateNew_o (id0 : Int) (r1c0 : Int) (r1c1 : List (Int × Unit)) : Option (Int × Int × (List (Int × Unit)) × (List R_iiis) × (List (Int × Unit)) × (List (ByteArray × Unit)) × Int × Int × Int × Int × Int × Int × Int × Int × Int × (List (Int × Unit)) × Bool × Unit) :=
  Option.bind (spec_RingOk r1c0 r1c1) fun y1 =>
  bif !y1.1 then
    some ((0 : Int), (0 : Int), [], [], [], [], (0 : Int), (0 : Int), (0 : Int), (0 : Int), (0 : Int), (0 : Int), (0 : Int), (0 : Int), (0 : Int), [], false, ())
  else
    Option.bind (spec_l05In r1c1 id0) fun y2 =>
    bif !y2.1 then
      some ((0 : Int), (0 : Int), [], [], [], [], (0 : Int), (0 : Int), (0 : Int), (0 : Int), (0 : Int), (0 : Int), (0 : Int), (0 : Int), (0 : Int), [], false, ())
    else
      (fun K6 : Option (Int × Int × (List (Int × Unit)) × (List R_iiis) × (List (Int × Unit)) × (List (ByteArray × Unit)) × Int × Int × Int × Int × Int × Int × Int × Int × Int × (List (Int × Unit)) × Bool × Unit) => both (bif Nat.ble ((0 + (List.length r1c1)) * 8) lim then K6
          else none) (both (bif Nat.ble ((0 + (List.length r1c1)) * 8) lim then K6
            else none) (bif Nat.ble ((0 + (List.length r1c1)) * 8) lim then K6
            else none))) (some (id0, r1c0, [] ++ r1c1, [], [], [], (0 : Int), (0 : Int), (0 : Int), (0 : Int), (0 : Int), (0 : Int), (0 : Int), (0 : Int), (0 : Int), [], true, ()))
theorem spec_MateNew_o_eq (id0 : Int) (r1c0 : Int) (r1c1 : List (Int × Unit)) : spec_MateNew_o id0 r1c0 r1c1 = spec_MateNew id0 r1c0 r1c1 := by
  simp only [spec_MateNew_o, spec_MateNew, both_self]
noncomputable def x64 (x : Int × Int × (List (Int × Unit)) × Unit) : Option (Int × Int × (List (Int × Unit)) × (List R_iiis) × (List (Int × Unit)) × (List (ByteArray × Unit)) × Int × Int × Int × Int × Int × Int × Int × Int × Int × (List (Int × Unit)) × Bool × Unit) := spec_MateNew x.1 x.2.1 x.2.2.1
noncomputable def sem64 : Sem1 := semOf ps64 rs64 x64
theorem so64 : SemsOk Try.prog (semsOf sl64) := sems_cons k63 (sems_cons k145 (sems_nil))
theorem t64_eq (x : denR (headRT (ps64.map some))) : codeK (tabOf tr) (semsOf sl64) D64 L64 code64 (start 26 ps64 x) (finK rs64 ps64) = x64 x := (show _ = spec_MateNew_o x.1 x.2.1 x.2.2.1 from by kernel_rfl).trans (spec_MateNew_o_eq x.1 x.2.1 x.2.2.1)
theorem k64 : Known Try.prog 64 sem64 :=
  fn_auto tr_ok eq_ok mixed_ok so64 (D := D64) (code := code64) (n := 26) Try.func64 (by kernel_rfl) (by kernel_rfl) (by kernel_rfl) (fun w0 mu _ hs => (loops_of (l := []) (by kernel_rfl) (List.forall_mem_nil _))) t64_eq

/-! ### f65: spec.FirstToken -/
noncomputable def code65 : Code := match Try.f65.body with | some c => c | none => .skip
def ps65 : List AP := [.val true [.int .i64, .shr T_i]]
def rs65 : List RP := [{ src := .cell 2, agg := true, ps := [.int .i64, .int .i64, .int .i64, .int .i64, .int .i64, .own T_i] }]
noncomputable def sl65 : SemL := [(63, (.shr, .shr, .shr, sem63))]
def D65 : Draws := fun _ => .nil
noncomputable def L65 {R : Type} : Loops R := fun _ _ _ _ => none
noncomputable def spec_FirstToken (r0c0 : Int) (r0c1 : List (Int × Unit)) : Option (Int × Int × Int × Int × Int × (List (Int × Unit)) × Unit) :=
  Option.bind (spec_RingOk r0c0 r0c1) fun y1 =>
  bif !y1.1 then
    some ((0 : Int), (0 : Int), (0 : Int), (0 : Int), (0 : Int), [], ())
  else
    some (r0c0, (1 : Int), (0 : Int), (0 : Int), (0 : Int), [], ())
noncomputable def x65 (x : Int × (List (Int × Unit)) × Unit) : Option (Int × Int × Int × Int × Int × (List (Int × Unit)) × Unit) := spec_FirstToken x.1 x.2.1
noncomputable def sem65 : Sem1 := semOf ps65 rs65 x65
theorem so65 : SemsOk Try.prog (semsOf sl65) := sems_cons k63 (sems_nil)
theorem t65_eq (x : denR (headRT (ps65.map some))) : codeK (tabOf tr) (semsOf sl65) D65 L65 code65 (start 10 ps65 x) (finK rs65 ps65) = x65 x := by kernel_rfl
theorem k65 : Known Try.prog 65 sem65 :=
  fn_auto tr_ok eq_ok mixed_ok so65 (D := D65) (code := code65) (n := 10) Try.func65 (by kernel_rfl) (by kernel_rfl) (by kernel_rfl) (fun w0 mu _ hs => (loops_of (l := []) (by kernel_rfl) (List.forall_mem_nil _))) t65_eq

/-! ### f11: spec.WorkNew -/
noncomputable def code11 : Code := match Try.f11.body with | some c => c | none => .skip
def ps11 : List AP := [.val true [.int .i64, .shr T_i]]
def rs11 : List RP := [{ src := .cell 2, agg := true, ps := [.int .i64, .own T_i, .own T_iiLiELiiisELiELsEiiiiiiiiiLiE .dp, .own T_ibiiiiiLiEiiis .dp, .own T_LiiisE .dp, .own T_iiis] }, { src := .tmp 3, agg := false, ps := [.bool] }]
noncomputable def sl11 : SemL := [(63, (.shr, .shr, .shr, sem63)), (64, (.shr, .shr, .shr, sem64)), (65, (.shr, .shr, .shr, sem65))]
def D11 : Draws := fun id => bif Nat.beq id 3 then .op 0 .any (.op 3 .any (.op 4 .take (.alt (.op 1 .one (.alt (.op 2 .one (.alt (.op 5 .last (.op 6 .any (.op 7 .any (.op 8 .one (.op 9 .last (.nil)))))) (.op 8 .one (.op 5 .last (.op 6 .any (.op 7 .any (.op 9 .last (.nil)))))))) (.op 8 .one (.op 2 .one (.op 5 .last (.op 6 .any (.op 7 .any (.op 9 .last (.nil))))))))) (.alt (.op 2 .one (.alt (.op 1 .one (.alt (.op 5 .last (.op 6 .any (.op 7 .any (.op 8 .one (.op 9 .last (.nil)))))) (.op 8 .one (.op 5 .last (.op 6 .any (.op 7 .any (.op 9 .last (.nil)))))))) (.alt (.op 5 .last (.op 1 .take (.op 6 .any (.op 7 .any (.op 8 .one (.op 9 .last (.nil))))))) (.op 8 .one (.alt (.op 1 .one (.op 5 .last (.op 6 .any (.op 7 .any (.op 9 .last (.nil)))))) (.op 5 .last (.op 1 .take (.op 6 .any (.op 7 .any (.op 9 .last (.nil))))))))))) (.op 8 .one (.alt (.op 1 .one (.op 2 .one (.op 5 .last (.op 6 .any (.op 7 .any (.op 9 .last (.nil))))))) (.op 2 .one (.alt (.op 1 .one (.op 5 .last (.op 6 .any (.op 7 .any (.op 9 .last (.nil)))))) (.op 5 .last (.op 1 .take (.op 6 .any (.op 7 .any (.op 9 .last (.nil)))))))))))))) else bif Nat.beq id 7 then .op 0 .any (.op 1 .take (.op 2 .any (.op 3 .any (.op 4 .take (.op 5 .take (.alt (.op 6 .one (.op 7 .any (.op 8 .any (.op 9 .any (.op 10 .one (.op 11 .last (.op 12 .any (.nil)))))))) (.op 10 .one (.op 6 .one (.op 7 .any (.op 8 .any (.op 9 .any (.op 11 .last (.op 12 .any (.nil)))))))))))))) else bif Nat.beq id 10 then .op 0 .any (.op 1 .take (.op 2 .any (.op 3 .take (.op 4 .take (.op 5 .one (.op 6 .any (.op 7 .one (.op 8 .any (.op 9 .last (.nil)))))))))) else .nil
def hp11_0 : List (Option AP) := [none, some (.box false [.int .i64, .shr T_i]), some (.box false [.int .i64, .own T_i, .own T_iiLiELiiisELiELsEiiiiiiiiiLiE .dp, .own T_ibiiiiiLiEiiis .dp, .own T_LiiisE .dp, .own T_iiis]), none, some (.box false [.int .i64, .own T_i, .own T_iiLiELiiisELiELsEiiiiiiiiiLiE .dp, .own T_ibiiiiiLiEiiis .dp, .own T_LiiisE .dp, .own T_iiis]), some (.val false [.int .i64]), none, none, none, none, none, none, none, none, none, none, none, none, none, none, none, none, none, none, none, none, none, none, none, none, none, none, none, none, none, none, none, none, none, none, none, none, none, none, none, none, none, none, none, none, none, none, none, none, none, none, none, none, none, none]
def e11_0 : List (Option AP) := [none, some (.box false [.int .i64, .shr T_i]), some (.box false [.int .i64, .own T_i, .own T_iiLiELiiisELiELsEiiiiiiiiiLiE .dp, .own T_ibiiiiiLiEiiis .dp, .own T_LiiisE .dp, .own T_iiis]), none, some (.box false [.int .i64, .own T_i, .own T_iiLiELiiisELiELsEiiiiiiiiiLiE .dp, .own T_ibiiiiiLiEiiis .dp, .own T_LiiisE .dp, .own T_iiis]), none, none, none, none, none, none, none, none, none, none, none, none, none, none, none, none, none, none, none, none, none, none, none, none, none, none, none, none, none, none, none, none, none, none, none, none, none, none, none, none, none, none, none, none, none, none, none, none, none, none, none, none, none, none, none]
def q11_0 : List (Option AP) := [none, none, none, none, none, none, none, none, none, none, none, none, none, none, none, none, none, none, none, none, none, none, none, none, none, none, none, none, none, none, none, none, none, none, none, none, none, none, none, none, none, none, none, none, none, none, none, none, none, none, none, none, none, none, none, none, none, none, none, none]
abbrev H11_0 : Type := Int × (List (Int × Unit)) × Int × (List (Int × Unit)) × (List R_iiLiELiiisELiELsEiiiiiiiiiLiE) × (List R_ibiiiiiLiEiiis) × (List ((List R_iiis) × Unit)) × (List R_iiis) × Int × (List (Int × Unit)) × (List R_iiLiELiiisELiELsEiiiiiiiiiLiE) × (List R_ibiiiiiLiEiiis) × (List ((List R_iiis) × Unit)) × (List R_iiis) × Int × Unit
abbrev E11_0 : Type := Int × (List (Int × Unit)) × Int × (List (Int × Unit)) × (List R_iiLiELiiisELiELsEiiiiiiiiiLiE) × (List R_ibiiiiiLiEiiis) × (List ((List R_iiis) × Unit)) × (List R_iiis) × Int × (List (Int × Unit)) × (List R_iiLiELiiisELiELsEiiiiiiiiiLiE) × (List R_ibiiiiiLiEiiis) × (List ((List R_iiis) × Unit)) × (List R_iiis) × Unit
abbrev Q11_0 : Type := Unit
noncomputable def spec_WorkNew_c0 (r1c0 : Int) (r1c1 : List (Int × Unit)) (t2c0 : Int) (t2c1 : List (Int × Unit)) (t2c2 : List R_iiLiELiiisELiELsEiiiiiiiiiLiE) (t2c3 : List R_ibiiiiiLiEiiis) (t2c4 : List ((List R_iiis) × Unit)) (t2c5 : List R_iiis) (w4c0 : Int) (w4c1 : List (Int × Unit)) (w4c2 : List R_iiLiELiiisELiELsEiiiiiiiiiLiE) (w4c3 : List R_ibiiiiiLiEiiis) (w4c4 : List ((List R_iiis) × Unit)) (w4c5 : List R_iiis) (i5 : Int) : Option (Sum H11_0 (Sum E11_0 Q11_0)) :=
  bif decide (i5 < ((List.length r1c1 : Nat) : Int)) then
    bif decide ((0 : Int) ≤ i5) then Option.bind ((r1c1)[Int.toNat i5]?) fun r2 =>
      Option.bind (spec_MateNew r2.1 r1c0 r1c1) fun y2o6 =>
      bif Nat.ble (((List.length w4c2) + 1) * 208) lim then bif Nat.ble (((List.length w4c4) + 1) * 24) lim then some (.inl (r1c0, r1c1, t2c0, t2c1, t2c2, t2c3, t2c4, t2c5, w4c0, w4c1, w4c2 ++ [(y2o6.1, y2o6.2.1, y2o6.2.2.1, y2o6.2.2.2.1, y2o6.2.2.2.2.1, y2o6.2.2.2.2.2.1, y2o6.2.2.2.2.2.2.1, y2o6.2.2.2.2.2.2.2.1, y2o6.2.2.2.2.2.2.2.2.1, y2o6.2.2.2.2.2.2.2.2.2.1, y2o6.2.2.2.2.2.2.2.2.2.2.1, y2o6.2.2.2.2.2.2.2.2.2.2.2.1, y2o6.2.2.2.2.2.2.2.2.2.2.2.2.1, y2o6.2.2.2.2.2.2.2.2.2.2.2.2.2.1, y2o6.2.2.2.2.2.2.2.2.2.2.2.2.2.2.1, y2o6.2.2.2.2.2.2.2.2.2.2.2.2.2.2.2.1, ())], w4c3, w4c4 ++ ([([], ())]), w4c5, IntKind.i64.wrap (i5 + (1 : Int)), ()))
        else none
      else none
    else none
  else
    some (.inr (.inl (r1c0, r1c1, t2c0, t2c1, t2c2, t2c3, t2c4, t2c5, w4c0, w4c1, w4c2, w4c3, w4c4, w4c5, ())))
noncomputable def spec_WorkNew_o0 (r1c0 : Int) (r1c1 : List (Int × Unit)) (t2c0 : Int) (t2c1 : List (Int × Unit)) (t2c2 : List R_iiLiELiiisELiELsEiiiiiiiiiLiE) (t2c3 : List R_ibiiiiiLiEiiis) (t2c4 : List ((List R_iiis) × Unit)) (t2c5 : List R_iiis) (w4c0 : Int) (w4c1 : List (Int × Unit)) (w4c2 : List R_iiLiELiiisELiELsEiiiiiiiiiLiE) (w4c3 : List R_ibiiiiiLiEiiis) (w4c4 : List ((List R_iiis) × Unit)) (w4c5 : List R_iiis) (i5 : Int) : Option (Sum H11_0 (Sum E11_0 Q11_0)) :=
  bif decide (i5 < ((List.length r1c1 : Nat) : Int)) then
    bif decide ((0 : Int) ≤ i5) then Option.bind ((r1c1)[Int.toNat i5]?) fun r2 =>
      (fun K7 : (Int × Int × (List (Int × Unit)) × (List R_iiis) × (List (Int × Unit)) × (List (ByteArray × Unit)) × Int × Int × Int × Int × Int × Int × Int × Int × Int × (List (Int × Unit)) × Bool × Unit) → Option (Sum H11_0 (Sum E11_0 Q11_0)) => both (Option.bind (spec_MateNew r2.1 r1c0 r1c1) fun y2o6 =>
          K7 y2o6) (Option.bind (spec_MateNew r2.1 r1c0 r1c1) fun y2o6 =>
          K7 y2o6)) (fun y2o6 =>
      bif Nat.ble (((List.length w4c2) + 1) * 208) lim then bif Nat.ble (((List.length w4c4) + 1) * 24) lim then some (.inl (r1c0, r1c1, t2c0, t2c1, t2c2, t2c3, t2c4, t2c5, w4c0, w4c1, w4c2 ++ [(y2o6.1, y2o6.2.1, y2o6.2.2.1, y2o6.2.2.2.1, y2o6.2.2.2.2.1, y2o6.2.2.2.2.2.1, y2o6.2.2.2.2.2.2.1, y2o6.2.2.2.2.2.2.2.1, y2o6.2.2.2.2.2.2.2.2.1, y2o6.2.2.2.2.2.2.2.2.2.1, y2o6.2.2.2.2.2.2.2.2.2.2.1, y2o6.2.2.2.2.2.2.2.2.2.2.2.1, y2o6.2.2.2.2.2.2.2.2.2.2.2.2.1, y2o6.2.2.2.2.2.2.2.2.2.2.2.2.2.1, y2o6.2.2.2.2.2.2.2.2.2.2.2.2.2.2.1, y2o6.2.2.2.2.2.2.2.2.2.2.2.2.2.2.2.1, ())], w4c3, w4c4 ++ ([([], ())]), w4c5, IntKind.i64.wrap (i5 + (1 : Int)), ()))
          else none
        else none)
    else none
  else
    some (.inr (.inl (r1c0, r1c1, t2c0, t2c1, t2c2, t2c3, t2c4, t2c5, w4c0, w4c1, w4c2, w4c3, w4c4, w4c5, ())))
theorem spec_WorkNew_o0_eq (r1c0 : Int) (r1c1 : List (Int × Unit)) (t2c0 : Int) (t2c1 : List (Int × Unit)) (t2c2 : List R_iiLiELiiisELiELsEiiiiiiiiiLiE) (t2c3 : List R_ibiiiiiLiEiiis) (t2c4 : List ((List R_iiis) × Unit)) (t2c5 : List R_iiis) (w4c0 : Int) (w4c1 : List (Int × Unit)) (w4c2 : List R_iiLiELiiisELiELsEiiiiiiiiiLiE) (w4c3 : List R_ibiiiiiLiEiiis) (w4c4 : List ((List R_iiis) × Unit)) (w4c5 : List R_iiis) (i5 : Int) : spec_WorkNew_o0 r1c0 r1c1 t2c0 t2c1 t2c2 t2c3 t2c4 t2c5 w4c0 w4c1 w4c2 w4c3 w4c4 w4c5 i5 = spec_WorkNew_c0 r1c0 r1c1 t2c0 t2c1 t2c2 t2c3 t2c4 t2c5 w4c0 w4c1 w4c2 w4c3 w4c4 w4c5 i5 := by
  simp only [spec_WorkNew_o0, spec_WorkNew_c0, both_self]
noncomputable def spec_WorkNew_r0 (x : H11_0) : Option (Sum H11_0 (Sum E11_0 Q11_0)) := spec_WorkNew_c0 x.1 x.2.1 x.2.2.1 x.2.2.2.1 x.2.2.2.2.1 x.2.2.2.2.2.1 x.2.2.2.2.2.2.1 x.2.2.2.2.2.2.2.1 x.2.2.2.2.2.2.2.2.1 x.2.2.2.2.2.2.2.2.2.1 x.2.2.2.2.2.2.2.2.2.2.1 x.2.2.2.2.2.2.2.2.2.2.2.1 x.2.2.2.2.2.2.2.2.2.2.2.2.1 x.2.2.2.2.2.2.2.2.2.2.2.2.2.1 x.2.2.2.2.2.2.2.2.2.2.2.2.2.2.1
noncomputable def L11 {R : Type} : Loops R := fun id _ st k => bif Nat.beq id 0 then loopAt hp11_0 e11_0 q11_0 spec_WorkNew_r0 st k else none
noncomputable def spec_WorkNew (r0c0 : Int) (r0c1 : List (Int × Unit)) : Option (Int × (List (Int × Unit)) × (List R_iiLiELiiisELiELsEiiiiiiiiiLiE) × (List R_ibiiiiiLiEiiis) × (List ((List R_iiis) × Unit)) × (List R_iiis) × Bool × Unit) :=
  Option.bind (spec_RingOk r0c0 r0c1) fun y1 =>
  bif !y1.1 then
    some ((0 : Int), [], [], [], [], [], false, ())
  else bif Nat.ble ((0 + (List.length r0c1)) * 8) lim then outK (loopV spec_WorkNew_r0 (r0c0, r0c1, (0 : Int), [], [], [], [], [], r0c0, [] ++ r0c1, [], [], [], [], (0 : Int), ())) (fun y2 =>
      Option.bind ((y2.2.1)[0]?) fun r4 =>
      Option.bind (spec_FirstToken y2.1 y2.2.1) fun y5 =>
      some (y2.2.2.2.2.2.2.2.2.1, y2.2.2.2.2.2.2.2.2.2.1, y2.2.2.2.2.2.2.2.2.2.2.1, [(r4.1, true, y5.1, y5.2.1, y5.2.2.1, y5.2.2.2.1, y5.2.2.2.2.1, y5.2.2.2.2.2.1, (0 : Int), (0 : Int), (0 : Int), ByteArray.empty, ())], y2.2.2.2.2.2.2.2.2.2.2.2.2.1, y2.2.2.2.2.2.2.2.2.2.2.2.2.2.1, true, ())) (fun y3 =>
      none)
  else none
noncomputable def spec_WorkNew_o (r0c0 : Int) (r0c1 : List (Int × Unit)) : Option (Int × (List (Int × Unit)) × (List R_iiLiELiiisELiELsEiiiiiiiiiLiE) × (List R_ibiiiiiLiEiiis) × (List ((List R_iiis) × Unit)) × (List R_iiis) × Bool × Unit) :=
  Option.bind (spec_RingOk r0c0 r0c1) fun y1 =>
  bif !y1.1 then
    some ((0 : Int), [], [], [], [], [], false, ())
  else
    (fun K8 : Option (Int × (List (Int × Unit)) × (List R_iiLiELiiisELiELsEiiiiiiiiiLiE) × (List R_ibiiiiiLiEiiis) × (List ((List R_iiis) × Unit)) × (List R_iiis) × Bool × Unit) => both (both (both (bif Nat.ble ((0 + (List.length r0c1)) * 8) lim then K8
            else none) (bif Nat.ble ((0 + (List.length r0c1)) * 8) lim then K8
            else none)) (bif Nat.ble ((0 + (List.length r0c1)) * 8) lim then K8
          else none)) (both (both (both (bif Nat.ble ((0 + (List.length r0c1)) * 8) lim then K8
              else none) (bif Nat.ble ((0 + (List.length r0c1)) * 8) lim then K8
              else none)) (both (bif Nat.ble ((0 + (List.length r0c1)) * 8) lim then K8
              else none) (both (bif Nat.ble ((0 + (List.length r0c1)) * 8) lim then K8
                else none) (bif Nat.ble ((0 + (List.length r0c1)) * 8) lim then K8
                else none)))) (both (bif Nat.ble ((0 + (List.length r0c1)) * 8) lim then K8
            else none) (both (bif Nat.ble ((0 + (List.length r0c1)) * 8) lim then K8
              else none) (bif Nat.ble ((0 + (List.length r0c1)) * 8) lim then K8
              else none))))) (outK (loopV spec_WorkNew_r0 (r0c0, r0c1, (0 : Int), [], [], [], [], [], r0c0, [] ++ r0c1, [], [], [], [], (0 : Int), ())) (fun y2 =>
        Option.bind ((y2.2.1)[0]?) fun r4 =>
        Option.bind (spec_FirstToken y2.1 y2.2.1) fun y5 =>
        some (y2.2.2.2.2.2.2.2.2.1, y2.2.2.2.2.2.2.2.2.2.1, y2.2.2.2.2.2.2.2.2.2.2.1, [(r4.1, true, y5.1, y5.2.1, y5.2.2.1, y5.2.2.2.1, y5.2.2.2.2.1, y5.2.2.2.2.2.1, (0 : Int), (0 : Int), (0 : Int), ByteArray.empty, ())], y2.2.2.2.2.2.2.2.2.2.2.2.2.1, y2.2.2.2.2.2.2.2.2.2.2.2.2.2.1, true, ())) (fun y3 =>
        none))
theorem spec_WorkNew_o_eq (r0c0 : Int) (r0c1 : List (Int × Unit)) : spec_WorkNew_o r0c0 r0c1 = spec_WorkNew r0c0 r0c1 := by
  simp only [spec_WorkNew_o, spec_WorkNew, both_self]
noncomputable def x11 (x : Int × (List (Int × Unit)) × Unit) : Option (Int × (List (Int × Unit)) × (List R_iiLiELiiisELiELsEiiiiiiiiiLiE) × (List R_ibiiiiiLiEiiis) × (List ((List R_iiis) × Unit)) × (List R_iiis) × Bool × Unit) := spec_WorkNew x.1 x.2.1
noncomputable def sem11 : Sem1 := semOf ps11 rs11 x11
theorem so11 : SemsOk Try.prog (semsOf sl11) := sems_cons k63 (sems_cons k64 (sems_cons k65 (sems_nil)))
noncomputable def b11_0 : Code := nthLoop code11 0
theorem t11_r0_eq (x : denR (headRT hp11_0)) : codeK (tabOf tr) (semsOf sl11) D11 L11 b11_0 (headSt hp11_0 x) (roundK 0 hp11_0 e11_0 q11_0) = spec_WorkNew_r0 x := (show _ = spec_WorkNew_o0 x.1 x.2.1 x.2.2.1 x.2.2.2.1 x.2.2.2.2.1 x.2.2.2.2.2.1 x.2.2.2.2.2.2.1 x.2.2.2.2.2.2.2.1 x.2.2.2.2.2.2.2.2.1 x.2.2.2.2.2.2.2.2.2.1 x.2.2.2.2.2.2.2.2.2.2.1 x.2.2.2.2.2.2.2.2.2.2.2.1 x.2.2.2.2.2.2.2.2.2.2.2.2.1 x.2.2.2.2.2.2.2.2.2.2.2.2.2.1 x.2.2.2.2.2.2.2.2.2.2.2.2.2.2.1 from by kernel_rfl).trans (spec_WorkNew_o0_eq x.1 x.2.1 x.2.2.1 x.2.2.2.1 x.2.2.2.2.1 x.2.2.2.2.2.1 x.2.2.2.2.2.2.1 x.2.2.2.2.2.2.2.1 x.2.2.2.2.2.2.2.2.1 x.2.2.2.2.2.2.2.2.2.1 x.2.2.2.2.2.2.2.2.2.2.1 x.2.2.2.2.2.2.2.2.2.2.2.1 x.2.2.2.2.2.2.2.2.2.2.2.2.1 x.2.2.2.2.2.2.2.2.2.2.2.2.2.1 x.2.2.2.2.2.2.2.2.2.2.2.2.2.2.1)
theorem loop11_0 {R : Type} (r : R) (w0 : World) (mu : Mu) (hs : AnShape ps11 mu) : LoopAt Try.prog w0 mu 59 (L11 : Loops R) r 0 b11_0 :=
  loop_auto tr_ok eq_ok mixed_ok so11 (D := D11) hs (by kernel_rfl) (fun _ => (loops_of (l := []) (by kernel_rfl) (List.forall_mem_nil _))) t11_r0_eq (fun _ _ => rfl)
theorem t11_eq (x : denR (headRT (ps11.map some))) : codeK (tabOf tr) (semsOf sl11) D11 L11 code11 (start 59 ps11 x) (finK rs11 ps11) = x11 x := (show _ = spec_WorkNew_o x.1 x.2.1 from by kernel_rfl).trans (spec_WorkNew_o_eq x.1 x.2.1)
theorem k11 : Known Try.prog 11 sem11 :=
  fn_auto tr_ok eq_ok mixed_ok so11 (D := D11) (code := code11) (n := 59) Try.func11 (by kernel_rfl) (by kernel_rfl) (by kernel_rfl) (fun w0 mu _ hs => (loops_of (l := [(0, b11_0)]) (by kernel_rfl) (List.forall_mem_cons.2 ⟨loop11_0 _ w0 mu hs, (List.forall_mem_nil _)⟩))) t11_eq

/-! ### f146: impl.inRange -/
noncomputable def code146 : Code := match Try.f146.body with | some c => c | none => .skip
def ps146 : List AP := [.val false [.int .i64], .val false [.int .i64], .val false [.int .i64]]
def rs146 : List RP := [{ src := .tmp 6, agg := false, ps := [.bool] }]
noncomputable def sl146 : SemL := []
def D146 : Draws := fun _ => .nil
noncomputable def L146 {R : Type} : Loops R := fun _ _ _ _ => none
noncomputable def impl_inRange (n0 : Int) (least1 : Int) (most2 : Int) : Option (Bool × Unit) :=
  bif decide (least1 ≤ n0) then
    some (decide (n0 ≤ most2), ())
  else
    some (false, ())
noncomputable def x146 (x : Int × Int × Int × Unit) : Option (Bool × Unit) := impl_inRange x.1 x.2.1 x.2.2.1
noncomputable def sem146 : Sem1 := semOf ps146 rs146 x146
theorem so146 : SemsOk Try.prog (semsOf sl146) := sems_nil
theorem t146_eq (x : denR (headRT (ps146.map some))) : codeK (tabOf tr) (semsOf sl146) D146 L146 code146 (start 15 ps146 x) (finK rs146 ps146) = x146 x := by kernel_rfl
theorem k146 : Known Try.prog 146 sem146 :=
  fn_auto tr_ok eq_ok mixed_ok so146 (D := D146) (code := code146) (n := 15) Try.func146 (by kernel_rfl) (by kernel_rfl) (by kernel_rfl) (fun w0 mu _ hs => (loops_of (l := []) (by kernel_rfl) (List.forall_mem_nil _))) t146_eq

/-! ### f147: impl.isDaemon -/
noncomputable def code147 : Code := match Try.f147.body with | some c => c | none => .skip
def ps147 : List AP := [.val false [.int .i64]]
def rs147 : List RP := [{ src := .tmp 2, agg := false, ps := [.bool] }]
noncomputable def sl147 : SemL := [(146, (.shr, .shr, .shr, sem146))]
def D147 : Draws := fun _ => .nil
noncomputable def L147 {R : Type} : Loops R := fun _ _ _ _ => none
noncomputable def impl_isDaemon (n0 : Int) : Option (Bool × Unit) :=
  Option.bind (impl_inRange n0 (1 : Int) (5 : Int)) fun y1 =>
  some (y1.1, ())
noncomputable def x147 (x : Int × Unit) : Option (Bool × Unit) := impl_isDaemon x.1
noncomputable def sem147 : Sem1 := semOf ps147 rs147 x147
theorem so147 : SemsOk Try.prog (semsOf sl147) := sems_cons k146 (sems_nil)
theorem t147_eq (x : denR (headRT (ps147.map some))) : codeK (tabOf tr) (semsOf sl147) D147 L147 code147 (start 5 ps147 x) (finK rs147 ps147) = x147 x := by kernel_rfl
theorem k147 : Known Try.prog 147 sem147 :=
  fn_auto tr_ok eq_ok mixed_ok so147 (D := D147) (code := code147) (n := 5) Try.func147 (by kernel_rfl) (by kernel_rfl) (by kernel_rfl) (fun w0 mu _ hs => (loops_of (l := []) (by kernel_rfl) (List.forall_mem_nil _))) t147_eq

/-! ### f67: impl.RingOk -/
noncomputable def code67 : Code := match Try.f67.body with | some c => c | none => .skip
def ps67 : List AP := [.val true [.int .i64, .shr T_i]]
def rs67 : List RP := [{ src := .tmp 2, agg := false, ps := [.bool] }]
noncomputable def sl67 : SemL := [(146, (.shr, .shr, .shr, sem146)), (147, (.shr, .shr, .shr, sem147))]
def D67 : Draws := fun _ => .nil
def hp67_0 : List (Option AP) := [none, some (.box false [.int .i64, .shr T_i]), none, none, none, none, none, none, none, none, none, none, none, none, none, none, none, some (.val false [.shr T_i]), some (.val false [.int .i64]), some (.val false [.int .i64]), none, none, none, none, none, none, none, none, none, none, none, none, none, none, none, none, none, none, none, none, none, none, none]
def e67_0 : List (Option AP) := [none, none, none, none, none, none, none, none, none, none, none, none, none, none, none, none, none, none, none, none, none, none, none, none, none, none, none, none, none, none, none, none, none, none, none, none, none, none, none, none, none, none, none]
def q67_0 : List (Option AP) := [none, none, some (.val false [.bool]), none, none, none, none, none, none, none, none, none, none, none, none, none, none, none, none, none, none, none, none, none, none, none, none, none, none, none, none, none, none, none, none, none, none, none, none, none, none, none, none]
abbrev H67_0 : Type := Int × (List (Int × Unit)) × (List (Int × Unit)) × Int × Int × Unit
abbrev E67_0 : Type := Unit
abbrev Q67_0 : Type := Bool × Unit
noncomputable def impl_RingOk_c0 (r1c0 : Int) (r1c1 : List (Int × Unit)) (t17 : List (Int × Unit)) (t18 : Int) (t19 : Int) : Option (Sum H67_0 (Sum E67_0 Q67_0)) :=
  bif decide (t19 < t18) then
    bif decide ((0 : Int) ≤ t19) then Option.bind ((t17)[Int.toNat t19]?) fun r3 =>
      Option.bind (impl_isDaemon r3.1) fun y4 =>
      bif !y4.1 then
        some (.inr (.inr (false, ())))
      else bif decide ((0 : Int) < t19) then
        bif decide ((0 : Int) ≤ IntKind.i64.wrap (t19 - (1 : Int))) then Option.bind ((r1c1)[Int.toNat (IntKind.i64.wrap (t19 - (1 : Int)))]?) fun r5 =>
          bif decide (r3.1 ≤ r5.1) then
            some (.inr (.inr (false, ())))
          else
            some (.inl (r1c0, r1c1, t17, t18, IntKind.i64.wrap (t19 + (1 : Int)), ()))
        else none
      else
        some (.inl (r1c0, r1c1, t17, t18, IntKind.i64.wrap (t19 + (1 : Int)), ()))
    else none
  else
    some (.inr (.inl (())))
noncomputable def impl_RingOk_r0 (x : H67_0) : Option (Sum H67_0 (Sum E67_0 Q67_0)) := impl_RingOk_c0 x.1 x.2.1 x.2.2.1 x.2.2.2.1 x.2.2.2.2.1
noncomputable def L67 {R : Type} : Loops R := fun id _ st k => bif Nat.beq id 0 then loopAt hp67_0 e67_0 q67_0 impl_RingOk_r0 st k else none
noncomputable def impl_RingOk (r0c0 : Int) (r0c1 : List (Int × Unit)) : Option (Bool × Unit) :=
  Option.bind (impl_inRange r0c0 (1 : Int) (9 : Int)) fun y1 =>
  bif !y1.1 then
    some (false, ())
  else
    Option.bind (impl_inRange ((List.length r0c1 : Nat) : Int) (1 : Int) (5 : Int)) fun y2 =>
    bif !y2.1 then
      some (false, ())
    else
      outK (loopV impl_RingOk_r0 (r0c0, r0c1, r0c1, ((List.length r0c1 : Nat) : Int), (0 : Int), ())) (fun y3 =>
        some (true, ())) (fun y4 =>
        some (y4.1, ()))
noncomputable def x67 (x : Int × (List (Int × Unit)) × Unit) : Option (Bool × Unit) := impl_RingOk x.1 x.2.1
noncomputable def sem67 : Sem1 := semOf ps67 rs67 x67
theorem so67 : SemsOk Try.prog (semsOf sl67) := sems_cons k146 (sems_cons k147 (sems_nil))
noncomputable def b67_0 : Code := nthLoop code67 0
theorem t67_r0_eq (x : denR (headRT hp67_0)) : codeK (tabOf tr) (semsOf sl67) D67 L67 b67_0 (headSt hp67_0 x) (roundK 0 hp67_0 e67_0 q67_0) = impl_RingOk_r0 x := by kernel_rfl
theorem loop67_0 {R : Type} (r : R) (w0 : World) (mu : Mu) (hs : AnShape ps67 mu) : LoopAt Try.prog w0 mu 42 (L67 : Loops R) r 0 b67_0 :=
  loop_auto tr_ok eq_ok mixed_ok so67 (D := D67) hs (by kernel_rfl) (fun _ => (loops_of (l := []) (by kernel_rfl) (List.forall_mem_nil _))) t67_r0_eq (fun _ _ => rfl)
theorem t67_eq (x : denR (headRT (ps67.map some))) : codeK (tabOf tr) (semsOf sl67) D67 L67 code67 (start 42 ps67 x) (finK rs67 ps67) = x67 x := by kernel_rfl
theorem k67 : Known Try.prog 67 sem67 :=
  fn_auto tr_ok eq_ok mixed_ok so67 (D := D67) (code := code67) (n := 42) Try.func67 (by kernel_rfl) (by kernel_rfl) (by kernel_rfl) (fun w0 mu _ hs => (loops_of (l := [(0, b67_0)]) (by kernel_rfl) (List.forall_mem_cons.2 ⟨loop67_0 _ w0 mu hs, (List.forall_mem_nil _)⟩))) t67_eq

/-! ### f148: slices.Clone[[]int,int] -/
noncomputable def code148 : Code := match Try.f148.body with | some c => c | none => .skip
def ps148 : List AP := [.val false [.shr T_i]]
def rs148 : List RP := [{ src := .tmp 2, agg := false, ps := [.own T_i] }]
noncomputable def sl148 : SemL := []
def D148 : Draws := fun _ => .nil
noncomputable def L148 {R : Type} : Loops R := fun _ _ _ _ => none
noncomputable def slices_Clone_int (s0 : List (Int × Unit)) : Option ((List (Int × Unit)) × Unit) :=
  bif Nat.ble ((0 + (List.length s0)) * 8) lim then some ([] ++ s0, ())
  else none
noncomputable def x148 (x : (List (Int × Unit)) × Unit) : Option ((List (Int × Unit)) × Unit) := slices_Clone_int x.1
noncomputable def sem148 : Sem1 := semOf ps148 rs148 x148
theorem so148 : SemsOk Try.prog (semsOf sl148) := sems_nil
theorem t148_nn (x : denR (headRT (ps148.map some))) : codeK (tabOf tr) (semsOf sl148) D148 L148 code148 (startNn 8 (T_i) x.1 ps148 x) (finK rs148 ps148) = x148 x := by kernel_rfl
theorem t148_nil (z : Unit) : codeK (tabOf tr) (semsOf sl148) D148 L148 code148 (startNil 8 ps148 (([] : List (denR (T_i))), z)) (finK rs148 ps148) = x148 (([] : List (denR (T_i))), z) := by kernel_rfl
theorem k148 : Known Try.prog 148 sem148 :=
  fn_auto_nil tr_ok eq_ok mixed_ok so148 (D := D148) (code := code148) (n := 8) Try.func148 (by kernel_rfl) (by kernel_rfl) (by kernel_rfl) (fun w0 mu _ hs => (loops_of (l := []) (by kernel_rfl) (List.forall_mem_nil _))) t148_nil t148_nn

/-! ### f68: impl.copyRing -/
noncomputable def code68 : Code := match Try.f68.body with | some c => c | none => .skip
def ps68 : List AP := [.val true [.int .i64, .shr T_i]]
def rs68 : List RP := [{ src := .cell 2, agg := true, ps := [.int .i64, .own T_i] }]
noncomputable def sl68 : SemL := [(148, (.shr, .shr, .shr, sem148))]
def D68 : Draws := fun id => bif Nat.beq id 1 then .op 0 .any (.op 1 .take (.op 2 .any (.op 3 .take (.op 4 .one (.op 5 .any (.op 6 .last (.nil))))))) else .nil
noncomputable def L68 {R : Type} : Loops R := fun _ _ _ _ => none
noncomputable def impl_copyRing (r0c0 : Int) (r0c1 : List (Int × Unit)) : Option (Int × (List (Int × Unit)) × Unit) :=
  Option.bind (slices_Clone_int r0c1) fun y1 =>
  some (r0c0, y1.1, ())
noncomputable def x68 (x : Int × (List (Int × Unit)) × Unit) : Option (Int × (List (Int × Unit)) × Unit) := impl_copyRing x.1 x.2.1
noncomputable def sem68 : Sem1 := semOf ps68 rs68 x68
theorem so68 : SemsOk Try.prog (semsOf sl68) := sems_cons k148 (sems_nil)
theorem t68_eq (x : denR (headRT (ps68.map some))) : codeK (tabOf tr) (semsOf sl68) D68 L68 code68 (start 9 ps68 x) (finK rs68 ps68) = x68 x := by kernel_rfl
theorem k68 : Known Try.prog 68 sem68 :=
  fn_auto tr_ok eq_ok mixed_ok so68 (D := D68) (code := code68) (n := 9) Try.func68 (by kernel_rfl) (by kernel_rfl) (by kernel_rfl) (fun w0 mu _ hs => (loops_of (l := []) (by kernel_rfl) (List.forall_mem_nil _))) t68_eq

/-! ### f185: slices.Index[[]int,int] -/
noncomputable def code185 : Code := match Try.f185.body with | some c => c | none => .skip
def ps185 : List AP := [.val false [.shr T_i], .val false [.int .i64]]
def rs185 : List RP := [{ src := .tmp 4, agg := false, ps := [.int .i64] }]
noncomputable def sl185 : SemL := []
def D185 : Draws := fun _ => .nil
def hp185_0 : List (Option AP) := [some (.val false [.shr T_i]), some (.val false [.int .i64]), none, none, none, none, none, some (.val false [.int .i64]), some (.val false [.int .i64]), none, none, none, none, none, none, none, none, none, none, none]
def e185_0 : List (Option AP) := [none, none, none, none, none, none, none, none, none, none, none, none, none, none, none, none, none, none, none, none]
def q185_0 : List (Option AP) := [none, none, none, none, some (.val false [.int .i64]), none, none, none, none, none, none, none, none, none, none, none, none, none, none, none]
abbrev H185_0 : Type := (List (Int × Unit)) × Int × Int × Int × Unit
abbrev E185_0 : Type := Unit
abbrev Q185_0 : Type := Int × Unit
noncomputable def slices_Index_int_c0 (s0 : List (Int × Unit)) (v1 : Int) (t7 : Int) (t8 : Int) : Option (Sum H185_0 (Sum E185_0 Q185_0)) :=
  bif decide (t8 < t7) then
    bif decide ((0 : Int) ≤ t8) then Option.bind ((s0)[Int.toNat t8]?) fun r1 =>
      bif decide (v1 = r1.1) then
        some (.inr (.inr (t8, ())))
      else
        some (.inl (s0, v1, t7, IntKind.i64.wrap (t8 + (1 : Int)), ()))
    else none
  else
    some (.inr (.inl (())))
noncomputable def slices_Index_int_r0 (x : H185_0) : Option (Sum H185_0 (Sum E185_0 Q185_0)) := slices_Index_int_c0 x.1 x.2.1 x.2.2.1 x.2.2.2.1
noncomputable def L185 {R : Type} : Loops R := fun id _ st k => bif Nat.beq id 0 then loopAt hp185_0 e185_0 q185_0 slices_Index_int_r0 st k else none
noncomputable def slices_Index_int (s0 : List (Int × Unit)) (v1 : Int) : Option (Int × Unit) :=
  outK (loopV slices_Index_int_r0 (s0, v1, ((List.length s0 : Nat) : Int), (0 : Int), ())) (fun y1 =>
    some ((-1 : Int), ())) (fun y2 =>
    some (y2.1, ()))
noncomputable def x185 (x : (List (Int × Unit)) × Int × Unit) : Option (Int × Unit) := slices_Index_int x.1 x.2.1
noncomputable def sem185 : Sem1 := semOf ps185 rs185 x185
theorem so185 : SemsOk Try.prog (semsOf sl185) := sems_nil
noncomputable def b185_0 : Code := nthLoop code185 0
theorem t185_r0_eq (x : denR (headRT hp185_0)) : codeK (tabOf tr) (semsOf sl185) D185 L185 b185_0 (headSt hp185_0 x) (roundK 0 hp185_0 e185_0 q185_0) = slices_Index_int_r0 x := by kernel_rfl
theorem loop185_0 {R : Type} (r : R) (w0 : World) (mu : Mu) (hs : AnShape ps185 mu) : LoopAt Try.prog w0 mu 19 (L185 : Loops R) r 0 b185_0 :=
  loop_auto tr_ok eq_ok mixed_ok so185 (D := D185) hs (by kernel_rfl) (fun _ => (loops_of (l := []) (by kernel_rfl) (List.forall_mem_nil _))) t185_r0_eq (fun _ _ => rfl)
theorem t185_eq (x : denR (headRT (ps185.map some))) : codeK (tabOf tr) (semsOf sl185) D185 L185 code185 (start 19 ps185 x) (finK rs185 ps185) = x185 x := by kernel_rfl
theorem k185 : Known Try.prog 185 sem185 :=
  fn_auto tr_ok eq_ok mixed_ok so185 (D := D185) (code := code185) (n := 19) Try.func185 (by kernel_rfl) (by kernel_rfl) (by kernel_rfl) (fun w0 mu _ hs => (loops_of (l := [(0, b185_0)]) (by kernel_rfl) (List.forall_mem_cons.2 ⟨loop185_0 _ w0 mu hs, (List.forall_mem_nil _)⟩))) t185_eq

/-! ### f149: slices.Contains[[]int,int] -/
noncomputable def code149 : Code := match Try.f149.body with | some c => c | none => .skip
def ps149 : List AP := [.val false [.shr T_i], .val false [.int .i64]]
def rs149 : List RP := [{ src := .tmp 4, agg := false, ps := [.bool] }]
noncomputable def sl149 : SemL := [(185, (.shr, .shr, .shr, sem185))]
def D149 : Draws := fun _ => .nil
noncomputable def L149 {R : Type} : Loops R := fun _ _ _ _ => none
noncomputable def slices_Contains_int (s0 : List (Int × Unit)) (v1 : Int) : Option (Bool × Unit) :=
  Option.bind (slices_Index_int s0 v1) fun y1 =>
  some (decide ((0 : Int) ≤ y1.1), ())
noncomputable def x149 (x : (List (Int × Unit)) × Int × Unit) : Option (Bool × Unit) := slices_Contains_int x.1 x.2.1
noncomputable def sem149 : Sem1 := semOf ps149 rs149 x149
theorem so149 : SemsOk Try.prog (semsOf sl149) := sems_cons k185 (sems_nil)
theorem t149_eq (x : denR (headRT (ps149.map some))) : codeK (tabOf tr) (semsOf sl149) D149 L149 code149 (start 9 ps149 x) (finK rs149 ps149) = x149 x := by kernel_rfl
theorem k149 : Known Try.prog 149 sem149 :=
  fn_auto tr_ok eq_ok mixed_ok so149 (D := D149) (code := code149) (n := 9) Try.func149 (by kernel_rfl) (by kernel_rfl) (by kernel_rfl) (fun w0 mu _ hs => (loops_of (l := []) (by kernel_rfl) (List.forall_mem_nil _))) t149_eq

/-! ### f69: impl.MateNew -/
noncomputable def code69 : Code := match Try.f69.body with | some c => c | none => .skip
def ps69 : List AP := [.val false [.int .i64], .val true [.int .i64, .shr T_i]]
def rs69 : List RP := [{ src := .cell 4, agg := true, ps := [.int .i64, .int .i64, .own T_i, .own T_iiis, .own T_i, .own T_s, .int .i64, .int .i64, .int .i64, .int .i64, .int .i64, .int .i64, .int .i64, .int .i64, .int .i64, .own T_i] }, { src := .tmp 5, agg := false, ps := [.bool] }]
noncomputable def sl69 : SemL := [(149, (.shr, .shr, .shr, sem149)), (67, (.shr, .shr, .shr, sem67)), (68, (.shr, .shr, .shr, sem68))]
def D69 : Draws := fun _ => .nil
noncomputable def L69 {R : Type} : Loops R := fun _ _ _ _ => none
noncomputable def impl_MateNew (id0 : Int) (r1c0 : Int) (r1c1 : List (Int × Unit)) : Option (Int × Int × (List (Int × Unit)) × (List R_iiis) × (List (Int × Unit)) × (List (ByteArray × Unit)) × Int × Int × Int × Int × Int × Int × Int × Int × Int × (List (Int × Unit)) × Bool × Unit) :=
  Option.bind (slices_Contains_int r1c1 id0) fun y1 =>
  bif !y1.1 then
    some ((0 : Int), (0 : Int), [], [], [], [], (0 : Int), (0 : Int), (0 : Int), (0 : Int), (0 : Int), (0 : Int), (0 : Int), (0 : Int), (0 : Int), [], false, ())
  else
    Option.bind (impl_RingOk r1c0 r1c1) fun y2 =>
    bif !y2.1 then
      some ((0 : Int), (0 : Int), [], [], [], [], (0 : Int), (0 : Int), (0 : Int), (0 : Int), (0 : Int), (0 : Int), (0 : Int), (0 : Int), (0 : Int), [], false, ())
    else
      Option.bind (impl_copyRing r1c0 r1c1) fun y3 =>
      some (id0, y3.1, y3.2.1, [], [], [], (0 : Int), (0 : Int), (0 : Int), (0 : Int), (0 : Int), (0 : Int), (0 : Int), (0 : Int), (0 : Int), [], true, ())
noncomputable def x69 (x : Int × Int × (List (Int × Unit)) × Unit) : Option (Int × Int × (List (Int × Unit)) × (List R_iiis) × (List (Int × Unit)) × (List (ByteArray × Unit)) × Int × Int × Int × Int × Int × Int × Int × Int × Int × (List (Int × Unit)) × Bool × Unit) := impl_MateNew x.1 x.2.1 x.2.2.1
noncomputable def sem69 : Sem1 := semOf ps69 rs69 x69
theorem so69 : SemsOk Try.prog (semsOf sl69) := sems_cons k149 (sems_cons k67 (sems_cons k68 (sems_nil)))
theorem t69_eq (x : denR (headRT (ps69.map some))) : codeK (tabOf tr) (semsOf sl69) D69 L69 code69 (start 21 ps69 x) (finK rs69 ps69) = x69 x := by kernel_rfl
theorem k69 : Known Try.prog 69 sem69 :=
  fn_auto tr_ok eq_ok mixed_ok so69 (D := D69) (code := code69) (n := 21) Try.func69 (by kernel_rfl) (by kernel_rfl) (by kernel_rfl) (fun w0 mu _ hs => (loops_of (l := []) (by kernel_rfl) (List.forall_mem_nil _))) t69_eq

/-! ### f70: impl.FirstToken -/
noncomputable def code70 : Code := match Try.f70.body with | some c => c | none => .skip
def ps70 : List AP := [.val true [.int .i64, .shr T_i]]
def rs70 : List RP := [{ src := .cell 2, agg := true, ps := [.int .i64, .int .i64, .int .i64, .int .i64, .int .i64, .own T_i] }]
noncomputable def sl70 : SemL := [(67, (.shr, .shr, .shr, sem67))]
def D70 : Draws := fun _ => .nil
noncomputable def L70 {R : Type} : Loops R := fun _ _ _ _ => none
noncomputable def impl_FirstToken (r0c0 : Int) (r0c1 : List (Int × Unit)) : Option (Int × Int × Int × Int × Int × (List (Int × Unit)) × Unit) :=
  Option.bind (impl_RingOk r0c0 r0c1) fun y1 =>
  bif !y1.1 then
    some ((0 : Int), (0 : Int), (0 : Int), (0 : Int), (0 : Int), [], ())
  else
    some (r0c0, (1 : Int), (0 : Int), (0 : Int), (0 : Int), [], ())
noncomputable def x70 (x : Int × (List (Int × Unit)) × Unit) : Option (Int × Int × Int × Int × Int × (List (Int × Unit)) × Unit) := impl_FirstToken x.1 x.2.1
noncomputable def sem70 : Sem1 := semOf ps70 rs70 x70
theorem so70 : SemsOk Try.prog (semsOf sl70) := sems_cons k67 (sems_nil)
theorem t70_eq (x : denR (headRT (ps70.map some))) : codeK (tabOf tr) (semsOf sl70) D70 L70 code70 (start 10 ps70 x) (finK rs70 ps70) = x70 x := by kernel_rfl
theorem k70 : Known Try.prog 70 sem70 :=
  fn_auto tr_ok eq_ok mixed_ok so70 (D := D70) (code := code70) (n := 10) Try.func70 (by kernel_rfl) (by kernel_rfl) (by kernel_rfl) (fun w0 mu _ hs => (loops_of (l := []) (by kernel_rfl) (List.forall_mem_nil _))) t70_eq

/-! ### f13: impl.WorkNew -/
noncomputable def code13 : Code := match Try.f13.body with | some c => c | none => .skip
def ps13 : List AP := [.val true [.int .i64, .shr T_i]]
def rs13 : List RP := [{ src := .cell 2, agg := true, ps := [.int .i64, .own T_i, .own T_iiLiELiiisELiELsEiiiiiiiiiLiE .dp, .own T_ibiiiiiLiEiiis .dp, .own T_LiiisE .dp, .own T_iiis] }, { src := .tmp 3, agg := false, ps := [.bool] }]
noncomputable def sl13 : SemL := [(67, (.shr, .shr, .shr, sem67)), (68, (.shr, .shr, .shr, sem68)), (69, (.shr, .shr, .shr, sem69)), (70, (.shr, .shr, .shr, sem70))]
def D13 : Draws := fun id => bif Nat.beq id 3 then .op 0 .take (.op 2 .any (.op 3 .take (.op 4 .any (.alt (.op 1 .one (.alt (.op 5 .one (.op 6 .any (.op 7 .one (.op 8 .last (.nil))))) (.op 7 .one (.op 5 .one (.op 6 .any (.op 8 .last (.nil))))))) (.alt (.op 5 .one (.alt (.op 1 .one (.op 6 .any (.op 7 .one (.op 8 .last (.nil))))) (.op 7 .one (.op 1 .one (.op 6 .any (.op 8 .last (.nil))))))) (.op 7 .one (.alt (.op 1 .one (.op 5 .one (.op 6 .any (.op 8 .last (.nil))))) (.op 5 .one (.op 1 .one (.op 6 .any (.op 8 .last (.nil)))))))))))) else bif Nat.beq id 10 then .op 0 .any (.op 1 .take (.op 2 .any (.op 3 .take (.op 4 .take (.op 5 .one (.op 6 .any (.op 7 .one (.op 8 .any (.op 9 .last (.nil)))))))))) else .nil
def hp13_0 : List (Option AP) := [none, some (.box false [.int .i64, .shr T_i]), some (.box false [.int .i64, .own T_i, .own T_iiLiELiiisELiELsEiiiiiiiiiLiE .dp, .own T_ibiiiiiLiEiiis .dp, .own T_LiiisE .dp, .own T_iiis]), none, some (.box false [.int .i64, .own T_i, .own T_iiLiELiiisELiELsEiiiiiiiiiLiE .dp, .own T_ibiiiiiLiEiiis .dp, .own T_LiiisE .dp, .own T_iiis]), none, none, none, none, none, none, none, none, none, none, none, none, none, none, none, none, some (.val false [.shr T_i]), some (.val false [.int .i64]), some (.val false [.int .i64]), none, none, none, none, none, none, none, none, none, none, none, none, none, none, none, none, none, none, none, none, none, none, none, none, none, none, none]
def e13_0 : List (Option AP) := [none, some (.box false [.int .i64, .shr T_i]), some (.box false [.int .i64, .own T_i, .own T_iiLiELiiisELiELsEiiiiiiiiiLiE .dp, .own T_ibiiiiiLiEiiis .dp, .own T_LiiisE .dp, .own T_iiis]), none, some (.box false [.int .i64, .own T_i, .own T_iiLiELiiisELiELsEiiiiiiiiiLiE .dp, .own T_ibiiiiiLiEiiis .dp, .own T_LiiisE .dp, .own T_iiis]), none, none, none, none, none, none, none, none, none, none, none, none, none, none, none, none, none, none, none, none, none, none, none, none, none, none, none, none, none, none, none, none, none, none, none, none, none, none, none, none, none, none, none, none, none, none]
def q13_0 : List (Option AP) := [none, none, none, none, none, none, none, none, none, none, none, none, none, none, none, none, none, none, none, none, none, none, none, none, none, none, none, none, none, none, none, none, none, none, none, none, none, none, none, none, none, none, none, none, none, none, none, none, none, none, none]
abbrev H13_0 : Type := Int × (List (Int × Unit)) × Int × (List (Int × Unit)) × (List R_iiLiELiiisELiELsEiiiiiiiiiLiE) × (List R_ibiiiiiLiEiiis) × (List ((List R_iiis) × Unit)) × (List R_iiis) × Int × (List (Int × Unit)) × (List R_iiLiELiiisELiELsEiiiiiiiiiLiE) × (List R_ibiiiiiLiEiiis) × (List ((List R_iiis) × Unit)) × (List R_iiis) × (List (Int × Unit)) × Int × Int × Unit
abbrev E13_0 : Type := Int × (List (Int × Unit)) × Int × (List (Int × Unit)) × (List R_iiLiELiiisELiELsEiiiiiiiiiLiE) × (List R_ibiiiiiLiEiiis) × (List ((List R_iiis) × Unit)) × (List R_iiis) × Int × (List (Int × Unit)) × (List R_iiLiELiiisELiELsEiiiiiiiiiLiE) × (List R_ibiiiiiLiEiiis) × (List ((List R_iiis) × Unit)) × (List R_iiis) × Unit
abbrev Q13_0 : Type := Unit
noncomputable def impl_WorkNew_c0 (r1c0 : Int) (r1c1 : List (Int × Unit)) (t2c0 : Int) (t2c1 : List (Int × Unit)) (t2c2 : List R_iiLiELiiisELiELsEiiiiiiiiiLiE) (t2c3 : List R_ibiiiiiLiEiiis) (t2c4 : List ((List R_iiis) × Unit)) (t2c5 : List R_iiis) (w4c0 : Int) (w4c1 : List (Int × Unit)) (w4c2 : List R_iiLiELiiisELiELsEiiiiiiiiiLiE) (w4c3 : List R_ibiiiiiLiEiiis) (w4c4 : List ((List R_iiis) × Unit)) (w4c5 : List R_iiis) (t21 : List (Int × Unit)) (t22 : Int) (t23 : Int) : Option (Sum H13_0 (Sum E13_0 Q13_0)) :=
  bif decide (t23 < t22) then
    bif decide ((0 : Int) ≤ t23) then Option.bind ((t21)[Int.toNat t23]?) fun r3 =>
      Option.bind (impl_MateNew r3.1 r1c0 r1c1) fun y4 =>
      bif Nat.ble (((List.length w4c2) + 1) * 208) lim then some (.inl (r1c0, r1c1, t2c0, t2c1, t2c2, t2c3, t2c4, t2c5, w4c0, w4c1, w4c2 ++ [(y4.1, y4.2.1, y4.2.2.1, y4.2.2.2.1, y4.2.2.2.2.1, y4.2.2.2.2.2.1, y4.2.2.2.2.2.2.1, y4.2.2.2.2.2.2.2.1, y4.2.2.2.2.2.2.2.2.1, y4.2.2.2.2.2.2.2.2.2.1, y4.2.2.2.2.2.2.2.2.2.2.1, y4.2.2.2.2.2.2.2.2.2.2.2.1, y4.2.2.2.2.2.2.2.2.2.2.2.2.1, y4.2.2.2.2.2.2.2.2.2.2.2.2.2.1, y4.2.2.2.2.2.2.2.2.2.2.2.2.2.2.1, y4.2.2.2.2.2.2.2.2.2.2.2.2.2.2.2.1, ())], w4c3, w4c4, w4c5, t21, t22, IntKind.i64.wrap (t23 + (1 : Int)), ()))
      else none
    else none
  else
    some (.inr (.inl (r1c0, r1c1, t2c0, t2c1, t2c2, t2c3, t2c4, t2c5, w4c0, w4c1, w4c2, w4c3, w4c4, w4c5, ())))
noncomputable def impl_WorkNew_r0 (x : H13_0) : Option (Sum H13_0 (Sum E13_0 Q13_0)) := impl_WorkNew_c0 x.1 x.2.1 x.2.2.1 x.2.2.2.1 x.2.2.2.2.1 x.2.2.2.2.2.1 x.2.2.2.2.2.2.1 x.2.2.2.2.2.2.2.1 x.2.2.2.2.2.2.2.2.1 x.2.2.2.2.2.2.2.2.2.1 x.2.2.2.2.2.2.2.2.2.2.1 x.2.2.2.2.2.2.2.2.2.2.2.1 x.2.2.2.2.2.2.2.2.2.2.2.2.1 x.2.2.2.2.2.2.2.2.2.2.2.2.2.1 x.2.2.2.2.2.2.2.2.2.2.2.2.2.2.1 x.2.2.2.2.2.2.2.2.2.2.2.2.2.2.2.1 x.2.2.2.2.2.2.2.2.2.2.2.2.2.2.2.2.1
noncomputable def L13 {R : Type} : Loops R := fun id _ st k => bif Nat.beq id 0 then loopAt hp13_0 e13_0 q13_0 impl_WorkNew_r0 st k else none
noncomputable def impl_WorkNew (r0c0 : Int) (r0c1 : List (Int × Unit)) : Option (Int × (List (Int × Unit)) × (List R_iiLiELiiisELiELsEiiiiiiiiiLiE) × (List R_ibiiiiiLiEiiis) × (List ((List R_iiis) × Unit)) × (List R_iiis) × Bool × Unit) :=
  Option.bind (impl_RingOk r0c0 r0c1) fun y1 =>
  bif !y1.1 then
    some ((0 : Int), [], [], [], [], [], false, ())
  else
    (fun K9 : (Int × (List (Int × Unit)) × Unit) → Option (Int × (List (Int × Unit)) × (List R_iiLiELiiisELiELsEiiiiiiiiiLiE) × (List R_ibiiiiiLiEiiis) × (List ((List R_iiis) × Unit)) × (List R_iiis) × Bool × Unit) => both (Option.bind (impl_copyRing r0c0 r0c1) fun y1o1 =>
        bif decide (((List.length r0c1 : Nat) : Int) = ((List.length r0c1 : Nat) : Int)) then bif decide ((0 : Int) ≤ ((List.length r0c1 : Nat) : Int)) then bif Nat.ble ((Int.toNat ((List.length r0c1 : Nat) : Int)) * 24) lim then K9 y1o1
            else none
          else none
        else none) (both (bif decide (((List.length r0c1 : Nat) : Int) = ((List.length r0c1 : Nat) : Int)) then bif decide ((0 : Int) ≤ ((List.length r0c1 : Nat) : Int)) then bif Nat.ble ((Int.toNat ((List.length r0c1 : Nat) : Int)) * 24) lim then Option.bind (impl_copyRing r0c0 r0c1) fun y1o1 =>
                K9 y1o1
              else none
            else none
          else none) (both (Option.bind (impl_copyRing r0c0 r0c1) fun y1o1 =>
            bif decide (((List.length r0c1 : Nat) : Int) = ((List.length r0c1 : Nat) : Int)) then bif decide ((0 : Int) ≤ ((List.length r0c1 : Nat) : Int)) then bif Nat.ble ((Int.toNat ((List.length r0c1 : Nat) : Int)) * 24) lim then K9 y1o1
                else none
              else none
            else none) (bif decide (((List.length r0c1 : Nat) : Int) = ((List.length r0c1 : Nat) : Int)) then bif decide ((0 : Int) ≤ ((List.length r0c1 : Nat) : Int)) then bif Nat.ble ((Int.toNat ((List.length r0c1 : Nat) : Int)) * 24) lim then Option.bind (impl_copyRing r0c0 r0c1) fun y1o1 =>
                  K9 y1o1
                else none
              else none
            else none)))) (fun y1o1 =>
    outK (loopV impl_WorkNew_r0 (r0c0, r0c1, (0 : Int), [], [], [], [], [], y1o1.1, y1o1.2.1, [], [], List.replicate (Int.toNat ((List.length r0c1 : Nat) : Int)) ([], ()), [], r0c1, ((List.length r0c1 : Nat) : Int), (0 : Int), ())) (fun y3 =>
        Option.bind ((y3.2.1)[0]?) fun r5 =>
        Option.bind (impl_FirstToken y3.1 y3.2.1) fun y6 =>
        some (y3.2.2.2.2.2.2.2.2.1, y3.2.2.2.2.2.2.2.2.2.1, y3.2.2.2.2.2.2.2.2.2.2.1, [(r5.1, true, y6.1, y6.2.1, y6.2.2.1, y6.2.2.2.1, y6.2.2.2.2.1, y6.2.2.2.2.2.1, (0 : Int), (0 : Int), (0 : Int), ByteArray.empty, ())], y3.2.2.2.2.2.2.2.2.2.2.2.2.1, y3.2.2.2.2.2.2.2.2.2.2.2.2.2.1, true, ())) (fun y4 =>
        none))
noncomputable def impl_WorkNew_o (r0c0 : Int) (r0c1 : List (Int × Unit)) : Option (Int × (List (Int × Unit)) × (List R_iiLiELiiisELiELsEiiiiiiiiiLiE) × (List R_ibiiiiiLiEiiis) × (List ((List R_iiis) × Unit)) × (List R_iiis) × Bool × Unit) :=
  Option.bind (impl_RingOk r0c0 r0c1) fun y1 =>
  bif !y1.1 then
    some ((0 : Int), [], [], [], [], [], false, ())
  else
    (fun K10 : (Int × (List (Int × Unit)) × Unit) → Option (Int × (List (Int × Unit)) × (List R_iiLiELiiisELiELsEiiiiiiiiiLiE) × (List R_ibiiiiiLiEiiis) × (List ((List R_iiis) × Unit)) × (List R_iiis) × Bool × Unit) => both (Option.bind (impl_copyRing r0c0 r0c1) fun y1o1 =>
        both (bif decide (((List.length r0c1 : Nat) : Int) = ((List.length r0c1 : Nat) : Int)) then bif decide ((0 : Int) ≤ ((List.length r0c1 : Nat) : Int)) then bif Nat.ble ((Int.toNat ((List.length r0c1 : Nat) : Int)) * 24) lim then K10 y1o1
              else none
            else none
          else none) (bif decide (((List.length r0c1 : Nat) : Int) = ((List.length r0c1 : Nat) : Int)) then bif decide ((0 : Int) ≤ ((List.length r0c1 : Nat) : Int)) then bif Nat.ble ((Int.toNat ((List.length r0c1 : Nat) : Int)) * 24) lim then K10 y1o1
              else none
            else none
          else none)) (both (bif decide (((List.length r0c1 : Nat) : Int) = ((List.length r0c1 : Nat) : Int)) then bif decide ((0 : Int) ≤ ((List.length r0c1 : Nat) : Int)) then bif Nat.ble ((Int.toNat ((List.length r0c1 : Nat) : Int)) * 24) lim then both (Option.bind (impl_copyRing r0c0 r0c1) fun y1o1 =>
                  K10 y1o1) (Option.bind (impl_copyRing r0c0 r0c1) fun y1o1 =>
                  K10 y1o1)
              else none
            else none
          else none) (both (Option.bind (impl_copyRing r0c0 r0c1) fun y1o1 =>
            bif decide (((List.length r0c1 : Nat) : Int) = ((List.length r0c1 : Nat) : Int)) then bif decide ((0 : Int) ≤ ((List.length r0c1 : Nat) : Int)) then bif Nat.ble ((Int.toNat ((List.length r0c1 : Nat) : Int)) * 24) lim then K10 y1o1
                else none
              else none
            else none) (bif decide (((List.length r0c1 : Nat) : Int) = ((List.length r0c1 : Nat) : Int)) then bif decide ((0 : Int) ≤ ((List.length r0c1 : Nat) : Int)) then bif Nat.ble ((Int.toNat ((List.length r0c1 : Nat) : Int)) * 24) lim then Option.bind (impl_copyRing r0c0 r0c1) fun y1o1 =>
                  K10 y1o1
                else none
              else none
            else none)))) (fun y1o1 =>
    outK (loopV impl_WorkNew_r0 (r0c0, r0c1, (0 : Int), [], [], [], [], [], y1o1.1, y1o1.2.1, [], [], List.replicate (Int.toNat ((List.length r0c1 : Nat) : Int)) ([], ()), [], r0c1, ((List.length r0c1 : Nat) : Int), (0 : Int), ())) (fun y3 =>
        Option.bind ((y3.2.1)[0]?) fun r5 =>
        Option.bind (impl_FirstToken y3.1 y3.2.1) fun y6 =>
        some (y3.2.2.2.2.2.2.2.2.1, y3.2.2.2.2.2.2.2.2.2.1, y3.2.2.2.2.2.2.2.2.2.2.1, [(r5.1, true, y6.1, y6.2.1, y6.2.2.1, y6.2.2.2.1, y6.2.2.2.2.1, y6.2.2.2.2.2.1, (0 : Int), (0 : Int), (0 : Int), ByteArray.empty, ())], y3.2.2.2.2.2.2.2.2.2.2.2.2.1, y3.2.2.2.2.2.2.2.2.2.2.2.2.2.1, true, ())) (fun y4 =>
        none))
theorem impl_WorkNew_o_eq (r0c0 : Int) (r0c1 : List (Int × Unit)) : impl_WorkNew_o r0c0 r0c1 = impl_WorkNew r0c0 r0c1 := by
  simp only [impl_WorkNew_o, impl_WorkNew, both_self]
noncomputable def x13 (x : Int × (List (Int × Unit)) × Unit) : Option (Int × (List (Int × Unit)) × (List R_iiLiELiiisELiELsEiiiiiiiiiLiE) × (List R_ibiiiiiLiEiiis) × (List ((List R_iiis) × Unit)) × (List R_iiis) × Bool × Unit) := impl_WorkNew x.1 x.2.1
noncomputable def sem13 : Sem1 := semOf ps13 rs13 x13
theorem so13 : SemsOk Try.prog (semsOf sl13) := sems_cons k67 (sems_cons k68 (sems_cons k69 (sems_cons k70 (sems_nil))))
noncomputable def b13_0 : Code := nthLoop code13 0
theorem t13_r0_eq (x : denR (headRT hp13_0)) : codeK (tabOf tr) (semsOf sl13) D13 L13 b13_0 (headSt hp13_0 x) (roundK 0 hp13_0 e13_0 q13_0) = impl_WorkNew_r0 x := by kernel_rfl
theorem loop13_0 {R : Type} (r : R) (w0 : World) (mu : Mu) (hs : AnShape ps13 mu) : LoopAt Try.prog w0 mu 50 (L13 : Loops R) r 0 b13_0 :=
  loop_auto tr_ok eq_ok mixed_ok so13 (D := D13) hs (by kernel_rfl) (fun _ => (loops_of (l := []) (by kernel_rfl) (List.forall_mem_nil _))) t13_r0_eq (fun _ _ => rfl)
theorem t13_eq (x : denR (headRT (ps13.map some))) : codeK (tabOf tr) (semsOf sl13) D13 L13 code13 (start 50 ps13 x) (finK rs13 ps13) = x13 x := (show _ = impl_WorkNew_o x.1 x.2.1 from by kernel_rfl).trans (impl_WorkNew_o_eq x.1 x.2.1)
theorem k13 : Known Try.prog 13 sem13 :=
  fn_auto tr_ok eq_ok mixed_ok so13 (D := D13) (code := code13) (n := 50) Try.func13 (by kernel_rfl) (by kernel_rfl) (by kernel_rfl) (fun w0 mu _ hs => (loops_of (l := [(0, b13_0)]) (by kernel_rfl) (List.forall_mem_cons.2 ⟨loop13_0 _ w0 mu hs, (List.forall_mem_nil _)⟩))) t13_eq

/-! ### f74: laws.eqIntS -/
noncomputable def code74 : Code := match Try.f74.body with | some c => c | none => .skip
def ps74 : List AP := [.val false [.shr T_i], .val false [.shr T_i]]
def rs74 : List RP := [{ src := .tmp 4, agg := false, ps := [.bool] }]
noncomputable def sl74 : SemL := []
def D74 : Draws := fun id => bif Nat.beq id 6 then .op 0 .any (.op 1 .any (.op 2 .any (.op 3 .take (.op 4 .any (.op 5 .any (.op 6 .any (.op 7 .take (.op 8 .any (.nil))))))))) else .nil
def hp74_0 : List (Option AP) := [some (.val false [.shr T_i]), some (.val false [.shr T_i]), none, none, none, some (.val false [.int .i64]), none, none, none, none, none, none, none, none, none, none, none, none, none, none, none, none, none, none, none, none, none]
def e74_0 : List (Option AP) := [none, none, none, none, none, none, none, none, none, none, none, none, none, none, none, none, none, none, none, none, none, none, none, none, none, none, none]
def q74_0 : List (Option AP) := [none, none, none, none, some (.val false [.bool]), none, none, none, none, none, none, none, none, none, none, none, none, none, none, none, none, none, none, none, none, none, none]
abbrev H74_0 : Type := (List (Int × Unit)) × (List (Int × Unit)) × Int × Unit
abbrev E74_0 : Type := Unit
abbrev Q74_0 : Type := Bool × Unit
noncomputable def laws_eqIntS_c0 (a0 : List (Int × Unit)) (b1 : List (Int × Unit)) (i5 : Int) : Option (Sum H74_0 (Sum E74_0 Q74_0)) :=
  bif decide (i5 < ((List.length a0 : Nat) : Int)) then
    bif decide ((0 : Int) ≤ i5) then Option.bind ((a0)[Int.toNat i5]?) fun r1 =>
      bif decide ((0 : Int) ≤ i5) then Option.bind ((b1)[Int.toNat i5]?) fun r2 =>
        bif !decide (r1.1 = r2.1) then
          some (.inr (.inr (false, ())))
        else
          some (.inl (a0, b1, IntKind.i64.wrap (i5 + (1 : Int)), ()))
      else none
    else none
  else
    some (.inr (.inl (())))
noncomputable def laws_eqIntS_r0 (x : H74_0) : Option (Sum H74_0 (Sum E74_0 Q74_0)) := laws_eqIntS_c0 x.1 x.2.1 x.2.2.1
noncomputable def L74 {R : Type} : Loops R := fun id _ st k => bif Nat.beq id 0 then loopAt hp74_0 e74_0 q74_0 laws_eqIntS_r0 st k else none
noncomputable def laws_eqIntS (a0 : List (Int × Unit)) (b1 : List (Int × Unit)) : Option (Bool × Unit) :=
  bif !decide (((List.length a0 : Nat) : Int) = ((List.length b1 : Nat) : Int)) then
    some (false, ())
  else
    outK (loopV laws_eqIntS_r0 (a0, b1, (0 : Int), ())) (fun y1 =>
      some (true, ())) (fun y2 =>
      some (y2.1, ()))
noncomputable def x74 (x : (List (Int × Unit)) × (List (Int × Unit)) × Unit) : Option (Bool × Unit) := laws_eqIntS x.1 x.2.1
noncomputable def sem74 : Sem1 := semOf ps74 rs74 x74
theorem so74 : SemsOk Try.prog (semsOf sl74) := sems_nil
noncomputable def b74_0 : Code := nthLoop code74 0
theorem t74_r0_eq (x : denR (headRT hp74_0)) : codeK (tabOf tr) (semsOf sl74) D74 L74 b74_0 (headSt hp74_0 x) (roundK 0 hp74_0 e74_0 q74_0) = laws_eqIntS_r0 x := by kernel_rfl
theorem loop74_0 {R : Type} (r : R) (w0 : World) (mu : Mu) (hs : AnShape ps74 mu) : LoopAt Try.prog w0 mu 26 (L74 : Loops R) r 0 b74_0 :=
  loop_auto tr_ok eq_ok mixed_ok so74 (D := D74) hs (by kernel_rfl) (fun _ => (loops_of (l := []) (by kernel_rfl) (List.forall_mem_nil _))) t74_r0_eq (fun _ _ => rfl)
theorem t74_eq (x : denR (headRT (ps74.map some))) : codeK (tabOf tr) (semsOf sl74) D74 L74 code74 (start 26 ps74 x) (finK rs74 ps74) = x74 x := by kernel_rfl
theorem k74 : Known Try.prog 74 sem74 :=
  fn_auto tr_ok eq_ok mixed_ok so74 (D := D74) (code := code74) (n := 26) Try.func74 (by kernel_rfl) (by kernel_rfl) (by kernel_rfl) (fun w0 mu _ hs => (loops_of (l := [(0, b74_0)]) (by kernel_rfl) (List.forall_mem_cons.2 ⟨loop74_0 _ w0 mu hs, (List.forall_mem_nil _)⟩))) t74_eq

/-! ### f15: laws.eqRing -/
noncomputable def code15 : Code := match Try.f15.body with | some c => c | none => .skip
def ps15 : List AP := [.val true [.int .i64, .shr T_i], .val true [.int .i64, .shr T_i]]
def rs15 : List RP := [{ src := .tmp 4, agg := false, ps := [.bool] }]
noncomputable def sl15 : SemL := [(74, (.shr, .shr, .shr, sem74))]
def D15 : Draws := fun _ => .nil
noncomputable def L15 {R : Type} : Loops R := fun _ _ _ _ => none
noncomputable def laws_eqRing (a0c0 : Int) (a0c1 : List (Int × Unit)) (b1c0 : Int) (b1c1 : List (Int × Unit)) : Option (Bool × Unit) :=
  bif !decide (a0c0 = b1c0) then
    some (false, ())
  else
    Option.bind (laws_eqIntS a0c1 b1c1) fun y1 =>
    bif !y1.1 then
      some (false, ())
    else
      some (true, ())
noncomputable def x15 (x : Int × (List (Int × Unit)) × Int × (List (Int × Unit)) × Unit) : Option (Bool × Unit) := laws_eqRing x.1 x.2.1 x.2.2.1 x.2.2.2.1
noncomputable def sem15 : Sem1 := semOf ps15 rs15 x15
theorem so15 : SemsOk Try.prog (semsOf sl15) := sems_cons k74 (sems_nil)
theorem t15_eq (x : denR (headRT (ps15.map some))) : codeK (tabOf tr) (semsOf sl15) D15 L15 code15 (start 16 ps15 x) (finK rs15 ps15) = x15 x := by kernel_rfl
theorem k15 : Known Try.prog 15 sem15 :=
  fn_auto tr_ok eq_ok mixed_ok so15 (D := D15) (code := code15) (n := 16) Try.func15 (by kernel_rfl) (by kernel_rfl) (by kernel_rfl) (fun w0 mu _ hs => (loops_of (l := []) (by kernel_rfl) (List.forall_mem_nil _))) t15_eq

/-! ### f106: laws.eqItem -/
noncomputable def code106 : Code := match Try.f106.body with | some c => c | none => .skip
def ps106 : List AP := [.val true [.int .i64, .int .i64, .int .i64, .str], .val true [.int .i64, .int .i64, .int .i64, .str]]
def rs106 : List RP := [{ src := .tmp 4, agg := false, ps := [.bool] }]
noncomputable def sl106 : SemL := []
def D106 : Draws := fun _ => .nil
noncomputable def L106 {R : Type} : Loops R := fun _ _ _ _ => none
noncomputable def laws_eqItem (a0c0 : Int) (a0c1 : Int) (a0c2 : Int) (a0c3 : ByteArray) (b1c0 : Int) (b1c1 : Int) (b1c2 : Int) (b1c3 : ByteArray) : Option (Bool × Unit) :=
  bif !decide (a0c0 = b1c0) then
    some (false, ())
  else bif !decide (a0c1 = b1c1) then
    some (false, ())
  else bif !decide (a0c2 = b1c2) then
    some (false, ())
  else bif !strEq a0c3 b1c3 then
    some (false, ())
  else
    some (true, ())
noncomputable def x106 (x : Int × Int × Int × ByteArray × Int × Int × Int × ByteArray × Unit) : Option (Bool × Unit) := laws_eqItem x.1 x.2.1 x.2.2.1 x.2.2.2.1 x.2.2.2.2.1 x.2.2.2.2.2.1 x.2.2.2.2.2.2.1 x.2.2.2.2.2.2.2.1
noncomputable def sem106 : Sem1 := semOf ps106 rs106 x106
theorem so106 : SemsOk Try.prog (semsOf sl106) := sems_nil
theorem t106_eq (x : denR (headRT (ps106.map some))) : codeK (tabOf tr) (semsOf sl106) D106 L106 code106 (start 25 ps106 x) (finK rs106 ps106) = x106 x := by kernel_rfl
theorem k106 : Known Try.prog 106 sem106 :=
  fn_auto tr_ok eq_ok mixed_ok so106 (D := D106) (code := code106) (n := 25) Try.func106 (by kernel_rfl) (by kernel_rfl) (by kernel_rfl) (fun w0 mu _ hs => (loops_of (l := []) (by kernel_rfl) (List.forall_mem_nil _))) t106_eq

/-! ### f32: laws.eqItemS -/
noncomputable def code32 : Code := match Try.f32.body with | some c => c | none => .skip
def ps32 : List AP := [.val false [.shr T_iiis], .val false [.shr T_iiis]]
def rs32 : List RP := [{ src := .tmp 4, agg := false, ps := [.bool] }]
noncomputable def sl32 : SemL := [(106, (.shr, .shr, .shr, sem106))]
def D32 : Draws := fun id => bif Nat.beq id 6 then .op 0 .any (.op 1 .any (.op 2 .any (.op 3 .take (.op 4 .any (.op 5 .any (.op 6 .any (.op 7 .take (.op 8 .one (.op 9 .any (.nil)))))))))) else .nil
def hp32_0 : List (Option AP) := [some (.val false [.shr T_iiis]), some (.val false [.shr T_iiis]), none, none, none, some (.val false [.int .i64]), none, none, none, none, none, none, none, none, none, none, none, none, none, none, none, none, none, none, none, none, none, none]
def e32_0 : List (Option AP) := [none, none, none, none, none, none, none, none, none, none, none, none, none, none, none, none, none, none, none, none, none, none, none, none, none, none, none, none]
def q32_0 : List (Option AP) := [none, none, none, none, some (.val false [.bool]), none, none, none, none, none, none, none, none, none, none, none, none, none, none, none, none, none, none, none, none, none, none, none]
abbrev H32_0 : Type := (List R_iiis) × (List R_iiis) × Int × Unit
abbrev E32_0 : Type := Unit
abbrev Q32_0 : Type := Bool × Unit
noncomputable def laws_eqItemS_c0 (a0 : List R_iiis) (b1 : List R_iiis) (i5 : Int) : Option (Sum H32_0 (Sum E32_0 Q32_0)) :=
  bif decide (i5 < ((List.length a0 : Nat) : Int)) then
    bif decide ((0 : Int) ≤ i5) then Option.bind ((a0)[Int.toNat i5]?) fun r1 =>
      bif decide ((0 : Int) ≤ i5) then Option.bind ((b1)[Int.toNat i5]?) fun r2 =>
        Option.bind (laws_eqItem r1.1 r1.2.1 r1.2.2.1 r1.2.2.2.1 r2.1 r2.2.1 r2.2.2.1 r2.2.2.2.1) fun y3 =>
        bif !y3.1 then
          some (.inr (.inr (false, ())))
        else
          some (.inl (a0, b1, IntKind.i64.wrap (i5 + (1 : Int)), ()))
      else none
    else none
  else
    some (.inr (.inl (())))
noncomputable def laws_eqItemS_r0 (x : H32_0) : Option (Sum H32_0 (Sum E32_0 Q32_0)) := laws_eqItemS_c0 x.1 x.2.1 x.2.2.1
noncomputable def L32 {R : Type} : Loops R := fun id _ st k => bif Nat.beq id 0 then loopAt hp32_0 e32_0 q32_0 laws_eqItemS_r0 st k else none
noncomputable def laws_eqItemS (a0 : List R_iiis) (b1 : List R_iiis) : Option (Bool × Unit) :=
  bif !decide (((List.length a0 : Nat) : Int) = ((List.length b1 : Nat) : Int)) then
    some (false, ())
  else
    outK (loopV laws_eqItemS_r0 (a0, b1, (0 : Int), ())) (fun y1 =>
      some (true, ())) (fun y2 =>
      some (y2.1, ()))
noncomputable def x32 (x : (List R_iiis) × (List R_iiis) × Unit) : Option (Bool × Unit) := laws_eqItemS x.1 x.2.1
noncomputable def sem32 : Sem1 := semOf ps32 rs32 x32
theorem so32 : SemsOk Try.prog (semsOf sl32) := sems_cons k106 (sems_nil)
noncomputable def b32_0 : Code := nthLoop code32 0
theorem t32_r0_eq (x : denR (headRT hp32_0)) : codeK (tabOf tr) (semsOf sl32) D32 L32 b32_0 (headSt hp32_0 x) (roundK 0 hp32_0 e32_0 q32_0) = laws_eqItemS_r0 x := by kernel_rfl
theorem loop32_0 {R : Type} (r : R) (w0 : World) (mu : Mu) (hs : AnShape ps32 mu) : LoopAt Try.prog w0 mu 27 (L32 : Loops R) r 0 b32_0 :=
  loop_auto tr_ok eq_ok mixed_ok so32 (D := D32) hs (by kernel_rfl) (fun _ => (loops_of (l := []) (by kernel_rfl) (List.forall_mem_nil _))) t32_r0_eq (fun _ _ => rfl)
theorem t32_eq (x : denR (headRT (ps32.map some))) : codeK (tabOf tr) (semsOf sl32) D32 L32 code32 (start 27 ps32 x) (finK rs32 ps32) = x32 x := by kernel_rfl
theorem k32 : Known Try.prog 32 sem32 :=
  fn_auto tr_ok eq_ok mixed_ok so32 (D := D32) (code := code32) (n := 27) Try.func32 (by kernel_rfl) (by kernel_rfl) (by kernel_rfl) (fun w0 mu _ hs => (loops_of (l := [(0, b32_0)]) (by kernel_rfl) (List.forall_mem_cons.2 ⟨loop32_0 _ w0 mu hs, (List.forall_mem_nil _)⟩))) t32_eq

/-! ### f141: laws.eqStringS -/
noncomputable def code141 : Code := match Try.f141.body with | some c => c | none => .skip
def ps141 : List AP := [.val false [.shr T_s], .val false [.shr T_s]]
def rs141 : List RP := [{ src := .tmp 4, agg := false, ps := [.bool] }]
noncomputable def sl141 : SemL := []
def D141 : Draws := fun id => bif Nat.beq id 6 then .op 0 .any (.op 1 .any (.op 2 .any (.op 3 .take (.op 4 .any (.op 5 .any (.op 6 .any (.op 7 .take (.op 8 .any (.nil))))))))) else .nil
def hp141_0 : List (Option AP) := [some (.val false [.shr T_s]), some (.val false [.shr T_s]), none, none, none, some (.val false [.int .i64]), none, none, none, none, none, none, none, none, none, none, none, none, none, none, none, none, none, none, none, none, none]
def e141_0 : List (Option AP) := [none, none, none, none, none, none, none, none, none, none, none, none, none, none, none, none, none, none, none, none, none, none, none, none, none, none, none]
def q141_0 : List (Option AP) := [none, none, none, none, some (.val false [.bool]), none, none, none, none, none, none, none, none, none, none, none, none, none, none, none, none, none, none, none, none, none, none]
abbrev H141_0 : Type := (List (ByteArray × Unit)) × (List (ByteArray × Unit)) × Int × Unit
abbrev E141_0 : Type := Unit
abbrev Q141_0 : Type := Bool × Unit
noncomputable def laws_eqStringS_c0 (a0 : List (ByteArray × Unit)) (b1 : List (ByteArray × Unit)) (i5 : Int) : Option (Sum H141_0 (Sum E141_0 Q141_0)) :=
  bif decide (i5 < ((List.length a0 : Nat) : Int)) then
    bif decide ((0 : Int) ≤ i5) then Option.bind ((a0)[Int.toNat i5]?) fun r1 =>
      bif decide ((0 : Int) ≤ i5) then Option.bind ((b1)[Int.toNat i5]?) fun r2 =>
        bif !strEq r1.1 r2.1 then
          some (.inr (.inr (false, ())))
        else
          some (.inl (a0, b1, IntKind.i64.wrap (i5 + (1 : Int)), ()))
      else none
    else none
  else
    some (.inr (.inl (())))
noncomputable def laws_eqStringS_r0 (x : H141_0) : Option (Sum H141_0 (Sum E141_0 Q141_0)) := laws_eqStringS_c0 x.1 x.2.1 x.2.2.1
noncomputable def L141 {R : Type} : Loops R := fun id _ st k => bif Nat.beq id 0 then loopAt hp141_0 e141_0 q141_0 laws_eqStringS_r0 st k else none
noncomputable def laws_eqStringS (a0 : List (ByteArray × Unit)) (b1 : List (ByteArray × Unit)) : Option (Bool × Unit) :=
  bif !decide (((List.length a0 : Nat) : Int) = ((List.length b1 : Nat) : Int)) then
    some (false, ())
  else
    outK (loopV laws_eqStringS_r0 (a0, b1, (0 : Int), ())) (fun y1 =>
      some (true, ())) (fun y2 =>
      some (y2.1, ()))
noncomputable def x141 (x : (List (ByteArray × Unit)) × (List (ByteArray × Unit)) × Unit) : Option (Bool × Unit) := laws_eqStringS x.1 x.2.1
noncomputable def sem141 : Sem1 := semOf ps141 rs141 x141
theorem so141 : SemsOk Try.prog (semsOf sl141) := sems_nil
noncomputable def b141_0 : Code := nthLoop code141 0
theorem t141_r0_eq (x : denR (headRT hp141_0)) : codeK (tabOf tr) (semsOf sl141) D141 L141 b141_0 (headSt hp141_0 x) (roundK 0 hp141_0 e141_0 q141_0) = laws_eqStringS_r0 x := by kernel_rfl
theorem loop141_0 {R : Type} (r : R) (w0 : World) (mu : Mu) (hs : AnShape ps141 mu) : LoopAt Try.prog w0 mu 26 (L141 : Loops R) r 0 b141_0 :=
  loop_auto tr_ok eq_ok mixed_ok so141 (D := D141) hs (by kernel_rfl) (fun _ => (loops_of (l := []) (by kernel_rfl) (List.forall_mem_nil _))) t141_r0_eq (fun _ _ => rfl)
theorem t141_eq (x : denR (headRT (ps141.map some))) : codeK (tabOf tr) (semsOf sl141) D141 L141 code141 (start 26 ps141 x) (finK rs141 ps141) = x141 x := by kernel_rfl
theorem k141 : Known Try.prog 141 sem141 :=
  fn_auto tr_ok eq_ok mixed_ok so141 (D := D141) (code := code141) (n := 26) Try.func141 (by kernel_rfl) (by kernel_rfl) (by kernel_rfl) (fun w0 mu _ hs => (loops_of (l := [(0, b141_0)]) (by kernel_rfl) (List.forall_mem_cons.2 ⟨loop141_0 _ w0 mu hs, (List.forall_mem_nil _)⟩))) t141_eq

/-! ### f48: laws.eqToken -/
noncomputable def code48 : Code := match Try.f48.body with | some c => c | none => .skip
def ps48 : List AP := [.val true [.int .i64, .int .i64, .int .i64, .int .i64, .int .i64, .shr T_i], .val true [.int .i64, .int .i64, .int .i64, .int .i64, .int .i64, .shr T_i]]
def rs48 : List RP := [{ src := .tmp 4, agg := false, ps := [.bool] }]
noncomputable def sl48 : SemL := [(74, (.shr, .shr, .shr, sem74))]
def D48 : Draws := fun _ => .nil
noncomputable def L48 {R : Type} : Loops R := fun _ _ _ _ => none
noncomputable def laws_eqToken (a0c0 : Int) (a0c1 : Int) (a0c2 : Int) (a0c3 : Int) (a0c4 : Int) (a0c5 : List (Int × Unit)) (b1c0 : Int) (b1c1 : Int) (b1c2 : Int) (b1c3 : Int) (b1c4 : Int) (b1c5 : List (Int × Unit)) : Option (Bool × Unit) :=
  bif !decide (a0c0 = b1c0) then
    some (false, ())
  else bif !decide (a0c1 = b1c1) then
    some (false, ())
  else bif !decide (a0c2 = b1c2) then
    some (false, ())
  else bif !decide (a0c3 = b1c3) then
    some (false, ())
  else bif !decide (a0c4 = b1c4) then
    some (false, ())
  else
    Option.bind (laws_eqIntS a0c5 b1c5) fun y1 =>
    bif !y1.1 then
      some (false, ())
    else
      some (true, ())
noncomputable def x48 (x : Int × Int × Int × Int × Int × (List (Int × Unit)) × Int × Int × Int × Int × Int × (List (Int × Unit)) × Unit) : Option (Bool × Unit) := laws_eqToken x.1 x.2.1 x.2.2.1 x.2.2.2.1 x.2.2.2.2.1 x.2.2.2.2.2.1 x.2.2.2.2.2.2.1 x.2.2.2.2.2.2.2.1 x.2.2.2.2.2.2.2.2.1 x.2.2.2.2.2.2.2.2.2.1 x.2.2.2.2.2.2.2.2.2.2.1 x.2.2.2.2.2.2.2.2.2.2.2.1
noncomputable def sem48 : Sem1 := semOf ps48 rs48 x48
theorem so48 : SemsOk Try.prog (semsOf sl48) := sems_cons k74 (sems_nil)
theorem t48_eq (x : denR (headRT (ps48.map some))) : codeK (tabOf tr) (semsOf sl48) D48 L48 code48 (start 36 ps48 x) (finK rs48 ps48) = x48 x := by kernel_rfl
theorem k48 : Known Try.prog 48 sem48 :=
  fn_auto tr_ok eq_ok mixed_ok so48 (D := D48) (code := code48) (n := 36) Try.func48 (by kernel_rfl) (by kernel_rfl) (by kernel_rfl) (fun w0 mu _ hs => (loops_of (l := []) (by kernel_rfl) (List.forall_mem_nil _))) t48_eq

/-! ### f59: laws.eqMate -/
noncomputable def code59 : Code := match Try.f59.body with | some c => c | none => .skip
def ps59 : List AP := [.val true [.int .i64, .int .i64, .shr T_i, .shr T_iiis, .shr T_i, .shr T_s, .int .i64, .int .i64, .int .i64, .int .i64, .int .i64, .int .i64, .int .i64, .int .i64, .int .i64, .shr T_i], .val true [.int .i64, .int .i64, .shr T_i, .shr T_iiis, .shr T_i, .shr T_s, .int .i64, .int .i64, .int .i64, .int .i64, .int .i64, .int .i64, .int .i64, .int .i64, .int .i64, .shr T_i]]
def rs59 : List RP := [{ src := .tmp 4, agg := false, ps := [.bool] }]
noncomputable def sl59 : SemL := [(15, (.shr, .shr, .shr, sem15)), (32, (.shr, .shr, .shr, sem32)), (74, (.shr, .shr, .shr, sem74)), (141, (.shr, .shr, .shr, sem141)), (48, (.shr, .shr, .shr, sem48))]
def D59 : Draws := fun _ => .nil
noncomputable def L59 {R : Type} : Loops R := fun _ _ _ _ => none
noncomputable def laws_eqMate (a0c0 : Int) (a0c1 : Int) (a0c2 : List (Int × Unit)) (a0c3 : List R_iiis) (a0c4 : List (Int × Unit)) (a0c5 : List (ByteArray × Unit)) (a0c6 : Int) (a0c7 : Int) (a0c8 : Int) (a0c9 : Int) (a0c10 : Int) (a0c11 : Int) (a0c12 : Int) (a0c13 : Int) (a0c14 : Int) (a0c15 : List (Int × Unit)) (b1c0 : Int) (b1c1 : Int) (b1c2 : List (Int × Unit)) (b1c3 : List R_iiis) (b1c4 : List (Int × Unit)) (b1c5 : List (ByteArray × Unit)) (b1c6 : Int) (b1c7 : Int) (b1c8 : Int) (b1c9 : Int) (b1c10 : Int) (b1c11 : Int) (b1c12 : Int) (b1c13 : Int) (b1c14 : Int) (b1c15 : List (Int × Unit)) : Option (Bool × Unit) :=
  bif !decide (a0c0 = b1c0) then
    some (false, ())
  else
    Option.bind (laws_eqRing a0c1 a0c2 b1c1 b1c2) fun y1 =>
    bif !y1.1 then
      some (false, ())
    else
      Option.bind (laws_eqItemS a0c3 b1c3) fun y2 =>
      bif !y2.1 then
        some (false, ())
      else
        Option.bind (laws_eqIntS a0c4 b1c4) fun y3 =>
        bif !y3.1 then
          some (false, ())
        else
          Option.bind (laws_eqStringS a0c5 b1c5) fun y4 =>
          bif !y4.1 then
            some (false, ())
          else bif !decide (a0c6 = b1c6) then
            some (false, ())
          else bif !decide (a0c7 = b1c7) then
            some (false, ())
          else bif !decide (a0c8 = b1c8) then
            some (false, ())
          else bif !decide (a0c9 = b1c9) then
            some (false, ())
          else
            Option.bind (laws_eqToken a0c10 a0c11 a0c12 a0c13 a0c14 a0c15 b1c10 b1c11 b1c12 b1c13 b1c14 b1c15) fun y5 =>
            bif !y5.1 then
              some (false, ())
            else
              some (true, ())
noncomputable def x59 (x : Int × Int × (List (Int × Unit)) × (List R_iiis) × (List (Int × Unit)) × (List (ByteArray × Unit)) × Int × Int × Int × Int × Int × Int × Int × Int × Int × (List (Int × Unit)) × Int × Int × (List (Int × Unit)) × (List R_iiis) × (List (Int × Unit)) × (List (ByteArray × Unit)) × Int × Int × Int × Int × Int × Int × Int × Int × Int × (List (Int × Unit)) × Unit) : Option (Bool × Unit) := laws_eqMate x.1 x.2.1 x.2.2.1 x.2.2.2.1 x.2.2.2.2.1 x.2.2.2.2.2.1 x.2.2.2.2.2.2.1 x.2.2.2.2.2.2.2.1 x.2.2.2.2.2.2.2.2.1 x.2.2.2.2.2.2.2.2.2.1 x.2.2.2.2.2.2.2.2.2.2.1 x.2.2.2.2.2.2.2.2.2.2.2.1 x.2.2.2.2.2.2.2.2.2.2.2.2.1 x.2.2.2.2.2.2.2.2.2.2.2.2.2.1 x.2.2.2.2.2.2.2.2.2.2.2.2.2.2.1 x.2.2.2.2.2.2.2.2.2.2.2.2.2.2.2.1 x.2.2.2.2.2.2.2.2.2.2.2.2.2.2.2.2.1 x.2.2.2.2.2.2.2.2.2.2.2.2.2.2.2.2.2.1 x.2.2.2.2.2.2.2.2.2.2.2.2.2.2.2.2.2.2.1 x.2.2.2.2.2.2.2.2.2.2.2.2.2.2.2.2.2.2.2.1 x.2.2.2.2.2.2.2.2.2.2.2.2.2.2.2.2.2.2.2.2.1 x.2.2.2.2.2.2.2.2.2.2.2.2.2.2.2.2.2.2.2.2.2.1 x.2.2.2.2.2.2.2.2.2.2.2.2.2.2.2.2.2.2.2.2.2.2.1 x.2.2.2.2.2.2.2.2.2.2.2.2.2.2.2.2.2.2.2.2.2.2.2.1 x.2.2.2.2.2.2.2.2.2.2.2.2.2.2.2.2.2.2.2.2.2.2.2.2.1 x.2.2.2.2.2.2.2.2.2.2.2.2.2.2.2.2.2.2.2.2.2.2.2.2.2.1 x.2.2.2.2.2.2.2.2.2.2.2.2.2.2.2.2.2.2.2.2.2.2.2.2.2.2.1 x.2.2.2.2.2.2.2.2.2.2.2.2.2.2.2.2.2.2.2.2.2.2.2.2.2.2.2.1 x.2.2.2.2.2.2.2.2.2.2.2.2.2.2.2.2.2.2.2.2.2.2.2.2.2.2.2.2.1 x.2.2.2.2.2.2.2.2.2.2.2.2.2.2.2.2.2.2.2.2.2.2.2.2.2.2.2.2.2.1 x.2.2.2.2.2.2.2.2.2.2.2.2.2.2.2.2.2.2.2.2.2.2.2.2.2.2.2.2.2.2.1 x.2.2.2.2.2.2.2.2.2.2.2.2.2.2.2.2.2.2.2.2.2.2.2.2.2.2.2.2.2.2.2.1
noncomputable def sem59 : Sem1 := semOf ps59 rs59 x59
theorem so59 : SemsOk Try.prog (semsOf sl59) := sems_cons k15 (sems_cons k32 (sems_cons k74 (sems_cons k141 (sems_cons k48 (sems_nil)))))
theorem t59_eq (x : denR (headRT (ps59.map some))) : codeK (tabOf tr) (semsOf sl59) D59 L59 code59 (start 60 ps59 x) (finK rs59 ps59) = x59 x := by kernel_rfl
theorem k59 : Known Try.prog 59 sem59 :=
  fn_auto tr_ok eq_ok mixed_ok so59 (D := D59) (code := code59) (n := 60) Try.func59 (by kernel_rfl) (by kernel_rfl) (by kernel_rfl) (fun w0 mu _ hs => (loops_of (l := []) (by kernel_rfl) (List.forall_mem_nil _))) t59_eq

/-! ### f71: laws.eqMateS -/
noncomputable def code71 : Code := match Try.f71.body with | some c => c | none => .skip
def ps71 : List AP := [.val false [.shr T_iiLiELiiisELiELsEiiiiiiiiiLiE], .val false [.shr T_iiLiELiiisELiELsEiiiiiiiiiLiE]]
def rs71 : List RP := [{ src := .tmp 4, agg := false, ps := [.bool] }]
noncomputable def sl71 : SemL := [(59, (.shr, .shr, .shr, sem59))]
def D71 : Draws := fun id => bif Nat.beq id 6 then .op 0 .any (.op 1 .any (.op 2 .any (.op 3 .take (.op 4 .any (.op 5 .any (.op 6 .any (.op 7 .take (.op 8 .one (.op 9 .any (.nil)))))))))) else .nil
def hp71_0 : List (Option AP) := [some (.val false [.shr T_iiLiELiiisELiELsEiiiiiiiiiLiE]), some (.val false [.shr T_iiLiELiiisELiELsEiiiiiiiiiLiE]), none, none, none, some (.val false [.int .i64]), none, none, none, none, none, none, none, none, none, none, none, none, none, none, none, none, none, none, none, none, none, none]
def e71_0 : List (Option AP) := [none, none, none, none, none, none, none, none, none, none, none, none, none, none, none, none, none, none, none, none, none, none, none, none, none, none, none, none]
def q71_0 : List (Option AP) := [none, none, none, none, some (.val false [.bool]), none, none, none, none, none, none, none, none, none, none, none, none, none, none, none, none, none, none, none, none, none, none, none]
abbrev H71_0 : Type := (List R_iiLiELiiisELiELsEiiiiiiiiiLiE) × (List R_iiLiELiiisELiELsEiiiiiiiiiLiE) × Int × Unit
abbrev E71_0 : Type := Unit
abbrev Q71_0 : Type := Bool × Unit
noncomputable def laws_eqMateS_c0 (a0 : List R_iiLiELiiisELiELsEiiiiiiiiiLiE) (b1 : List R_iiLiELiiisELiELsEiiiiiiiiiLiE) (i5 : Int) : Option (Sum H71_0 (Sum E71_0 Q71_0)) :=
  bif decide (i5 < ((List.length a0 : Nat) : Int)) then
    bif decide ((0 : Int) ≤ i5) then Option.bind ((a0)[Int.toNat i5]?) fun r1 =>
      bif decide ((0 : Int) ≤ i5) then Option.bind ((b1)[Int.toNat i5]?) fun r2 =>
        Option.bind (laws_eqMate r1.1 r1.2.1 r1.2.2.1 r1.2.2.2.1 r1.2.2.2.2.1 r1.2.2.2.2.2.1 r1.2.2.2.2.2.2.1 r1.2.2.2.2.2.2.2.1 r1.2.2.2.2.2.2.2.2.1 r1.2.2.2.2.2.2.2.2.2.1 r1.2.2.2.2.2.2.2.2.2.2.1 r1.2.2.2.2.2.2.2.2.2.2.2.1 r1.2.2.2.2.2.2.2.2.2.2.2.2.1 r1.2.2.2.2.2.2.2.2.2.2.2.2.2.1 r1.2.2.2.2.2.2.2.2.2.2.2.2.2.2.1 r1.2.2.2.2.2.2.2.2.2.2.2.2.2.2.2.1 r2.1 r2.2.1 r2.2.2.1 r2.2.2.2.1 r2.2.2.2.2.1 r2.2.2.2.2.2.1 r2.2.2.2.2.2.2.1 r2.2.2.2.2.2.2.2.1 r2.2.2.2.2.2.2.2.2.1 r2.2.2.2.2.2.2.2.2.2.1 r2.2.2.2.2.2.2.2.2.2.2.1 r2.2.2.2.2.2.2.2.2.2.2.2.1 r2.2.2.2.2.2.2.2.2.2.2.2.2.1 r2.2.2.2.2.2.2.2.2.2.2.2.2.2.1 r2.2.2.2.2.2.2.2.2.2.2.2.2.2.2.1 r2.2.2.2.2.2.2.2.2.2.2.2.2.2.2.2.1) fun y3 =>
        bif !y3.1 then
          some (.inr (.inr (false, ())))
        else
          some (.inl (a0, b1, IntKind.i64.wrap (i5 + (1 : Int)), ()))
      else none
    else none
  else
    some (.inr (.inl (())))
noncomputable def laws_eqMateS_r0 (x : H71_0) : Option (Sum H71_0 (Sum E71_0 Q71_0)) := laws_eqMateS_c0 x.1 x.2.1 x.2.2.1
noncomputable def L71 {R : Type} : Loops R := fun id _ st k => bif Nat.beq id 0 then loopAt hp71_0 e71_0 q71_0 laws_eqMateS_r0 st k else none
noncomputable def laws_eqMateS (a0 : List R_iiLiELiiisELiELsEiiiiiiiiiLiE) (b1 : List R_iiLiELiiisELiELsEiiiiiiiiiLiE) : Option (Bool × Unit) :=
  bif !decide (((List.length a0 : Nat) : Int) = ((List.length b1 : Nat) : Int)) then
    some (false, ())
  else
    outK (loopV laws_eqMateS_r0 (a0, b1, (0 : Int), ())) (fun y1 =>
      some (true, ())) (fun y2 =>
      some (y2.1, ()))
noncomputable def x71 (x : (List R_iiLiELiiisELiELsEiiiiiiiiiLiE) × (List R_iiLiELiiisELiELsEiiiiiiiiiLiE) × Unit) : Option (Bool × Unit) := laws_eqMateS x.1 x.2.1
noncomputable def sem71 : Sem1 := semOf ps71 rs71 x71
theorem so71 : SemsOk Try.prog (semsOf sl71) := sems_cons k59 (sems_nil)
noncomputable def b71_0 : Code := nthLoop code71 0
theorem t71_r0_eq (x : denR (headRT hp71_0)) : codeK (tabOf tr) (semsOf sl71) D71 L71 b71_0 (headSt hp71_0 x) (roundK 0 hp71_0 e71_0 q71_0) = laws_eqMateS_r0 x := by kernel_rfl
theorem loop71_0 {R : Type} (r : R) (w0 : World) (mu : Mu) (hs : AnShape ps71 mu) : LoopAt Try.prog w0 mu 27 (L71 : Loops R) r 0 b71_0 :=
  loop_auto tr_ok eq_ok mixed_ok so71 (D := D71) hs (by kernel_rfl) (fun _ => (loops_of (l := []) (by kernel_rfl) (List.forall_mem_nil _))) t71_r0_eq (fun _ _ => rfl)
theorem t71_eq (x : denR (headRT (ps71.map some))) : codeK (tabOf tr) (semsOf sl71) D71 L71 code71 (start 27 ps71 x) (finK rs71 ps71) = x71 x := by kernel_rfl
theorem k71 : Known Try.prog 71 sem71 :=
  fn_auto tr_ok eq_ok mixed_ok so71 (D := D71) (code := code71) (n := 27) Try.func71 (by kernel_rfl) (by kernel_rfl) (by kernel_rfl) (fun w0 mu _ hs => (loops_of (l := [(0, b71_0)]) (by kernel_rfl) (List.forall_mem_cons.2 ⟨loop71_0 _ w0 mu hs, (List.forall_mem_nil _)⟩))) t71_eq

/-! ### f150: laws.eqFly -/
noncomputable def code150 : Code := match Try.f150.body with | some c => c | none => .skip
def ps150 : List AP := [.val true [.int .i64, .bool, .int .i64, .int .i64, .int .i64, .int .i64, .int .i64, .shr T_i, .int .i64, .int .i64, .int .i64, .str], .val true [.int .i64, .bool, .int .i64, .int .i64, .int .i64, .int .i64, .int .i64, .shr T_i, .int .i64, .int .i64, .int .i64, .str]]
def rs150 : List RP := [{ src := .tmp 4, agg := false, ps := [.bool] }]
noncomputable def sl150 : SemL := [(48, (.shr, .shr, .shr, sem48)), (106, (.shr, .shr, .shr, sem106))]
def D150 : Draws := fun _ => .nil
noncomputable def L150 {R : Type} : Loops R := fun _ _ _ _ => none
noncomputable def laws_eqFly (a0c0 : Int) (a0c1 : Bool) (a0c2 : Int) (a0c3 : Int) (a0c4 : Int) (a0c5 : Int) (a0c6 : Int) (a0c7 : List (Int × Unit)) (a0c8 : Int) (a0c9 : Int) (a0c10 : Int) (a0c11 : ByteArray) (b1c0 : Int) (b1c1 : Bool) (b1c2 : Int) (b1c3 : Int) (b1c4 : Int) (b1c5 : Int) (b1c6 : Int) (b1c7 : List (Int × Unit)) (b1c8 : Int) (b1c9 : Int) (b1c10 : Int) (b1c11 : ByteArray) : Option (Bool × Unit) :=
  bif !decide (a0c0 = b1c0) then
    some (false, ())
  else bif !(a0c1 == b1c1) then
    some (false, ())
  else
    Option.bind (laws_eqToken a0c2 a0c3 a0c4 a0c5 a0c6 a0c7 b1c2 b1c3 b1c4 b1c5 b1c6 b1c7) fun y1 =>
    bif !y1.1 then
      some (false, ())
    else
      Option.bind (laws_eqItem a0c8 a0c9 a0c10 a0c11 b1c8 b1c9 b1c10 b1c11) fun y2 =>
      bif !y2.1 then
        some (false, ())
      else
        some (true, ())
noncomputable def x150 (x : Int × Bool × Int × Int × Int × Int × Int × (List (Int × Unit)) × Int × Int × Int × ByteArray × Int × Bool × Int × Int × Int × Int × Int × (List (Int × Unit)) × Int × Int × Int × ByteArray × Unit) : Option (Bool × Unit) := laws_eqFly x.1 x.2.1 x.2.2.1 x.2.2.2.1 x.2.2.2.2.1 x.2.2.2.2.2.1 x.2.2.2.2.2.2.1 x.2.2.2.2.2.2.2.1 x.2.2.2.2.2.2.2.2.1 x.2.2.2.2.2.2.2.2.2.1 x.2.2.2.2.2.2.2.2.2.2.1 x.2.2.2.2.2.2.2.2.2.2.2.1 x.2.2.2.2.2.2.2.2.2.2.2.2.1 x.2.2.2.2.2.2.2.2.2.2.2.2.2.1 x.2.2.2.2.2.2.2.2.2.2.2.2.2.2.1 x.2.2.2.2.2.2.2.2.2.2.2.2.2.2.2.1 x.2.2.2.2.2.2.2.2.2.2.2.2.2.2.2.2.1 x.2.2.2.2.2.2.2.2.2.2.2.2.2.2.2.2.2.1 x.2.2.2.2.2.2.2.2.2.2.2.2.2.2.2.2.2.2.1 x.2.2.2.2.2.2.2.2.2.2.2.2.2.2.2.2.2.2.2.1 x.2.2.2.2.2.2.2.2.2.2.2.2.2.2.2.2.2.2.2.2.1 x.2.2.2.2.2.2.2.2.2.2.2.2.2.2.2.2.2.2.2.2.2.1 x.2.2.2.2.2.2.2.2.2.2.2.2.2.2.2.2.2.2.2.2.2.2.1 x.2.2.2.2.2.2.2.2.2.2.2.2.2.2.2.2.2.2.2.2.2.2.2.1
noncomputable def sem150 : Sem1 := semOf ps150 rs150 x150
theorem so150 : SemsOk Try.prog (semsOf sl150) := sems_cons k48 (sems_cons k106 (sems_nil))
theorem t150_eq (x : denR (headRT (ps150.map some))) : codeK (tabOf tr) (semsOf sl150) D150 L150 code150 (start 27 ps150 x) (finK rs150 ps150) = x150 x := by kernel_rfl
theorem k150 : Known Try.prog 150 sem150 :=
  fn_auto tr_ok eq_ok mixed_ok so150 (D := D150) (code := code150) (n := 27) Try.func150 (by kernel_rfl) (by kernel_rfl) (by kernel_rfl) (fun w0 mu _ hs => (loops_of (l := []) (by kernel_rfl) (List.forall_mem_nil _))) t150_eq

/-! ### f72: laws.eqFlyS -/
noncomputable def code72 : Code := match Try.f72.body with | some c => c | none => .skip
def ps72 : List AP := [.val false [.shr T_ibiiiiiLiEiiis], .val false [.shr T_ibiiiiiLiEiiis]]
def rs72 : List RP := [{ src := .tmp 4, agg := false, ps := [.bool] }]
noncomputable def sl72 : SemL := [(150, (.shr, .shr, .shr, sem150))]
def D72 : Draws := fun id => bif Nat.beq id 6 then .op 0 .any (.op 1 .any (.op 2 .any (.op 3 .take (.op 4 .any (.op 5 .any (.op 6 .any (.op 7 .take (.op 8 .one (.op 9 .any (.nil)))))))))) else .nil
def hp72_0 : List (Option AP) := [some (.val false [.shr T_ibiiiiiLiEiiis]), some (.val false [.shr T_ibiiiiiLiEiiis]), none, none, none, some (.val false [.int .i64]), none, none, none, none, none, none, none, none, none, none, none, none, none, none, none, none, none, none, none, none, none, none]
def e72_0 : List (Option AP) := [none, none, none, none, none, none, none, none, none, none, none, none, none, none, none, none, none, none, none, none, none, none, none, none, none, none, none, none]
def q72_0 : List (Option AP) := [none, none, none, none, some (.val false [.bool]), none, none, none, none, none, none, none, none, none, none, none, none, none, none, none, none, none, none, none, none, none, none, none]
abbrev H72_0 : Type := (List R_ibiiiiiLiEiiis) × (List R_ibiiiiiLiEiiis) × Int × Unit
abbrev E72_0 : Type := Unit
abbrev Q72_0 : Type := Bool × Unit
noncomputable def laws_eqFlyS_c0 (a0 : List R_ibiiiiiLiEiiis) (b1 : List R_ibiiiiiLiEiiis) (i5 : Int) : Option (Sum H72_0 (Sum E72_0 Q72_0)) :=
  bif decide (i5 < ((List.length a0 : Nat) : Int)) then
    bif decide ((0 : Int) ≤ i5) then Option.bind ((a0)[Int.toNat i5]?) fun r1 =>
      bif decide ((0 : Int) ≤ i5) then Option.bind ((b1)[Int.toNat i5]?) fun r2 =>
        Option.bind (laws_eqFly r1.1 r1.2.1 r1.2.2.1 r1.2.2.2.1 r1.2.2.2.2.1 r1.2.2.2.2.2.1 r1.2.2.2.2.2.2.1 r1.2.2.2.2.2.2.2.1 r1.2.2.2.2.2.2.2.2.1 r1.2.2.2.2.2.2.2.2.2.1 r1.2.2.2.2.2.2.2.2.2.2.1 r1.2.2.2.2.2.2.2.2.2.2.2.1 r2.1 r2.2.1 r2.2.2.1 r2.2.2.2.1 r2.2.2.2.2.1 r2.2.2.2.2.2.1 r2.2.2.2.2.2.2.1 r2.2.2.2.2.2.2.2.1 r2.2.2.2.2.2.2.2.2.1 r2.2.2.2.2.2.2.2.2.2.1 r2.2.2.2.2.2.2.2.2.2.2.1 r2.2.2.2.2.2.2.2.2.2.2.2.1) fun y3 =>
        bif !y3.1 then
          some (.inr (.inr (false, ())))
        else
          some (.inl (a0, b1, IntKind.i64.wrap (i5 + (1 : Int)), ()))
      else none
    else none
  else
    some (.inr (.inl (())))
noncomputable def laws_eqFlyS_r0 (x : H72_0) : Option (Sum H72_0 (Sum E72_0 Q72_0)) := laws_eqFlyS_c0 x.1 x.2.1 x.2.2.1
noncomputable def L72 {R : Type} : Loops R := fun id _ st k => bif Nat.beq id 0 then loopAt hp72_0 e72_0 q72_0 laws_eqFlyS_r0 st k else none
noncomputable def laws_eqFlyS (a0 : List R_ibiiiiiLiEiiis) (b1 : List R_ibiiiiiLiEiiis) : Option (Bool × Unit) :=
  bif !decide (((List.length a0 : Nat) : Int) = ((List.length b1 : Nat) : Int)) then
    some (false, ())
  else
    outK (loopV laws_eqFlyS_r0 (a0, b1, (0 : Int), ())) (fun y1 =>
      some (true, ())) (fun y2 =>
      some (y2.1, ()))
noncomputable def x72 (x : (List R_ibiiiiiLiEiiis) × (List R_ibiiiiiLiEiiis) × Unit) : Option (Bool × Unit) := laws_eqFlyS x.1 x.2.1
noncomputable def sem72 : Sem1 := semOf ps72 rs72 x72
theorem so72 : SemsOk Try.prog (semsOf sl72) := sems_cons k150 (sems_nil)
noncomputable def b72_0 : Code := nthLoop code72 0
theorem t72_r0_eq (x : denR (headRT hp72_0)) : codeK (tabOf tr) (semsOf sl72) D72 L72 b72_0 (headSt hp72_0 x) (roundK 0 hp72_0 e72_0 q72_0) = laws_eqFlyS_r0 x := by kernel_rfl
theorem loop72_0 {R : Type} (r : R) (w0 : World) (mu : Mu) (hs : AnShape ps72 mu) : LoopAt Try.prog w0 mu 27 (L72 : Loops R) r 0 b72_0 :=
  loop_auto tr_ok eq_ok mixed_ok so72 (D := D72) hs (by kernel_rfl) (fun _ => (loops_of (l := []) (by kernel_rfl) (List.forall_mem_nil _))) t72_r0_eq (fun _ _ => rfl)
theorem t72_eq (x : denR (headRT (ps72.map some))) : codeK (tabOf tr) (semsOf sl72) D72 L72 code72 (start 27 ps72 x) (finK rs72 ps72) = x72 x := by kernel_rfl
theorem k72 : Known Try.prog 72 sem72 :=
  fn_auto tr_ok eq_ok mixed_ok so72 (D := D72) (code := code72) (n := 27) Try.func72 (by kernel_rfl) (by kernel_rfl) (by kernel_rfl) (fun w0 mu _ hs => (loops_of (l := [(0, b72_0)]) (by kernel_rfl) (List.forall_mem_cons.2 ⟨loop72_0 _ w0 mu hs, (List.forall_mem_nil _)⟩))) t72_eq

/-! ### f73: laws.eqItemSS -/
noncomputable def code73 : Code := match Try.f73.body with | some c => c | none => .skip
def ps73 : List AP := [.val false [.shr T_LiiisE], .val false [.shr T_LiiisE]]
def rs73 : List RP := [{ src := .tmp 4, agg := false, ps := [.bool] }]
noncomputable def sl73 : SemL := [(32, (.shr, .shr, .shr, sem32))]
def D73 : Draws := fun id => bif Nat.beq id 6 then .op 0 .any (.op 1 .any (.op 2 .any (.op 3 .take (.op 4 .any (.op 5 .any (.op 6 .any (.op 7 .take (.op 8 .one (.op 9 .any (.nil)))))))))) else .nil
def hp73_0 : List (Option AP) := [some (.val false [.shr T_LiiisE]), some (.val false [.shr T_LiiisE]), none, none, none, some (.val false [.int .i64]), none, none, none, none, none, none, none, none, none, none, none, none, none, none, none, none, none, none, none, none, none, none]
def e73_0 : List (Option AP) := [none, none, none, none, none, none, none, none, none, none, none, none, none, none, none, none, none, none, none, none, none, none, none, none, none, none, none, none]
def q73_0 : List (Option AP) := [none, none, none, none, some (.val false [.bool]), none, none, none, none, none, none, none, none, none, none, none, none, none, none, none, none, none, none, none, none, none, none, none]
abbrev H73_0 : Type := (List ((List R_iiis) × Unit)) × (List ((List R_iiis) × Unit)) × Int × Unit
abbrev E73_0 : Type := Unit
abbrev Q73_0 : Type := Bool × Unit
noncomputable def laws_eqItemSS_c0 (a0 : List ((List R_iiis) × Unit)) (b1 : List ((List R_iiis) × Unit)) (i5 : Int) : Option (Sum H73_0 (Sum E73_0 Q73_0)) :=
  bif decide (i5 < ((List.length a0 : Nat) : Int)) then
    bif decide ((0 : Int) ≤ i5) then Option.bind ((a0)[Int.toNat i5]?) fun r1 =>
      bif decide ((0 : Int) ≤ i5) then Option.bind ((b1)[Int.toNat i5]?) fun r2 =>
        Option.bind (laws_eqItemS r1.1 r2.1) fun y3 =>
        bif !y3.1 then
          some (.inr (.inr (false, ())))
        else
          some (.inl (a0, b1, IntKind.i64.wrap (i5 + (1 : Int)), ()))
      else none
    else none
  else
    some (.inr (.inl (())))
noncomputable def laws_eqItemSS_r0 (x : H73_0) : Option (Sum H73_0 (Sum E73_0 Q73_0)) := laws_eqItemSS_c0 x.1 x.2.1 x.2.2.1
noncomputable def L73 {R : Type} : Loops R := fun id _ st k => bif Nat.beq id 0 then loopAt hp73_0 e73_0 q73_0 laws_eqItemSS_r0 st k else none
noncomputable def laws_eqItemSS (a0 : List ((List R_iiis) × Unit)) (b1 : List ((List R_iiis) × Unit)) : Option (Bool × Unit) :=
  bif !decide (((List.length a0 : Nat) : Int) = ((List.length b1 : Nat) : Int)) then
    some (false, ())
  else
    outK (loopV laws_eqItemSS_r0 (a0, b1, (0 : Int), ())) (fun y1 =>
      some (true, ())) (fun y2 =>
      some (y2.1, ()))
noncomputable def x73 (x : (List ((List R_iiis) × Unit)) × (List ((List R_iiis) × Unit)) × Unit) : Option (Bool × Unit) := laws_eqItemSS x.1 x.2.1
noncomputable def sem73 : Sem1 := semOf ps73 rs73 x73
theorem so73 : SemsOk Try.prog (semsOf sl73) := sems_cons k32 (sems_nil)
noncomputable def b73_0 : Code := nthLoop code73 0
theorem t73_r0_eq (x : denR (headRT hp73_0)) : codeK (tabOf tr) (semsOf sl73) D73 L73 b73_0 (headSt hp73_0 x) (roundK 0 hp73_0 e73_0 q73_0) = laws_eqItemSS_r0 x := by kernel_rfl
theorem loop73_0 {R : Type} (r : R) (w0 : World) (mu : Mu) (hs : AnShape ps73 mu) : LoopAt Try.prog w0 mu 27 (L73 : Loops R) r 0 b73_0 :=
  loop_auto tr_ok eq_ok mixed_ok so73 (D := D73) hs (by kernel_rfl) (fun _ => (loops_of (l := []) (by kernel_rfl) (List.forall_mem_nil _))) t73_r0_eq (fun _ _ => rfl)
theorem t73_eq (x : denR (headRT (ps73.map some))) : codeK (tabOf tr) (semsOf sl73) D73 L73 code73 (start 27 ps73 x) (finK rs73 ps73) = x73 x := by kernel_rfl
theorem k73 : Known Try.prog 73 sem73 :=
  fn_auto tr_ok eq_ok mixed_ok so73 (D := D73) (code := code73) (n := 27) Try.func73 (by kernel_rfl) (by kernel_rfl) (by kernel_rfl) (fun w0 mu _ hs => (loops_of (l := [(0, b73_0)]) (by kernel_rfl) (List.forall_mem_cons.2 ⟨loop73_0 _ w0 mu hs, (List.forall_mem_nil _)⟩))) t73_eq

/-! ### f14: laws.eqWork -/
noncomputable def code14 : Code := match Try.f14.body with | some c => c | none => .skip
def ps14 : List AP := [.val true [.int .i64, .shr T_i, .shr T_iiLiELiiisELiELsEiiiiiiiiiLiE, .shr T_ibiiiiiLiEiiis, .shr T_LiiisE, .shr T_iiis], .val true [.int .i64, .shr T_i, .shr T_iiLiELiiisELiELsEiiiiiiiiiLiE, .shr T_ibiiiiiLiEiiis, .shr T_LiiisE, .shr T_iiis]]
def rs14 : List RP := [{ src := .tmp 4, agg := false, ps := [.bool] }]
noncomputable def sl14 : SemL := [(15, (.shr, .shr, .shr, sem15)), (71, (.shr, .shr, .shr, sem71)), (72, (.shr, .shr, .shr, sem72)), (73, (.shr, .shr, .shr, sem73)), (32, (.shr, .shr, .shr, sem32))]
def D14 : Draws := fun _ => .nil
noncomputable def L14 {R : Type} : Loops R := fun _ _ _ _ => none
noncomputable def laws_eqWork (a0c0 : Int) (a0c1 : List (Int × Unit)) (a0c2 : List R_iiLiELiiisELiELsEiiiiiiiiiLiE) (a0c3 : List R_ibiiiiiLiEiiis) (a0c4 : List ((List R_iiis) × Unit)) (a0c5 : List R_iiis) (b1c0 : Int) (b1c1 : List (Int × Unit)) (b1c2 : List R_iiLiELiiisELiELsEiiiiiiiiiLiE) (b1c3 : List R_ibiiiiiLiEiiis) (b1c4 : List ((List R_iiis) × Unit)) (b1c5 : List R_iiis) : Option (Bool × Unit) :=
  Option.bind (laws_eqRing a0c0 a0c1 b1c0 b1c1) fun y1 =>
  bif !y1.1 then
    some (false, ())
  else
    Option.bind (laws_eqMateS a0c2 b1c2) fun y2 =>
    bif !y2.1 then
      some (false, ())
    else
      Option.bind (laws_eqFlyS a0c3 b1c3) fun y3 =>
      bif !y3.1 then
        some (false, ())
      else
        Option.bind (laws_eqItemSS a0c4 b1c4) fun y4 =>
        bif !y4.1 then
          some (false, ())
        else
          Option.bind (laws_eqItemS a0c5 b1c5) fun y5 =>
          bif !y5.1 then
            some (false, ())
          else
            some (true, ())
noncomputable def x14 (x : Int × (List (Int × Unit)) × (List R_iiLiELiiisELiELsEiiiiiiiiiLiE) × (List R_ibiiiiiLiEiiis) × (List ((List R_iiis) × Unit)) × (List R_iiis) × Int × (List (Int × Unit)) × (List R_iiLiELiiisELiELsEiiiiiiiiiLiE) × (List R_ibiiiiiLiEiiis) × (List ((List R_iiis) × Unit)) × (List R_iiis) × Unit) : Option (Bool × Unit) := laws_eqWork x.1 x.2.1 x.2.2.1 x.2.2.2.1 x.2.2.2.2.1 x.2.2.2.2.2.1 x.2.2.2.2.2.2.1 x.2.2.2.2.2.2.2.1 x.2.2.2.2.2.2.2.2.1 x.2.2.2.2.2.2.2.2.2.1 x.2.2.2.2.2.2.2.2.2.2.1 x.2.2.2.2.2.2.2.2.2.2.2.1
noncomputable def sem14 : Sem1 := semOf ps14 rs14 x14
theorem so14 : SemsOk Try.prog (semsOf sl14) := sems_cons k15 (sems_cons k71 (sems_cons k72 (sems_cons k73 (sems_cons k32 (sems_nil)))))
theorem t14_eq (x : denR (headRT (ps14.map some))) : codeK (tabOf tr) (semsOf sl14) D14 L14 code14 (start 35 ps14 x) (finK rs14 ps14) = x14 x := by kernel_rfl
theorem k14 : Known Try.prog 14 sem14 :=
  fn_auto tr_ok eq_ok mixed_ok so14 (D := D14) (code := code14) (n := 35) Try.func14 (by kernel_rfl) (by kernel_rfl) (by kernel_rfl) (fun w0 mu _ hs => (loops_of (l := []) (by kernel_rfl) (List.forall_mem_nil _))) t14_eq

/-! ### f75: laws.markIntS -/
noncomputable def code75 : Code := match Try.f75.body with | some c => c | none => .skip
def ps75 : List AP := [.io T_i, .val false [.int .i64]]
def rs75 : List RP := [{ src := .tmp 4, agg := false, ps := [.int .i64] }]
noncomputable def sl75 : SemL := []
def D75 : Draws := fun _ => .nil
def hp75_0 : List (Option AP) := [some (.io T_i), some (.val false [.int .i64]), none, none, none, some (.val false [.int .i64]), none, none, none, none, none, none, none, none, none, none, none, none, none, none]
def e75_0 : List (Option AP) := [some (.io T_i), some (.val false [.int .i64]), none, none, none, none, none, none, none, none, none, none, none, none, none, none, none, none, none, none]
def q75_0 : List (Option AP) := [none, none, none, none, none, none, none, none, none, none, none, none, none, none, none, none, none, none, none, none]
abbrev H75_0 : Type := (List (Int × Unit)) × Int × Int × Unit
abbrev E75_0 : Type := (List (Int × Unit)) × Int × Unit
abbrev Q75_0 : Type := Unit
noncomputable def laws_markIntS_c0 (a0 : List (Int × Unit)) (k1 : Int) (i5 : Int) : Option (Sum H75_0 (Sum E75_0 Q75_0)) :=
  bif decide (i5 < ((List.length a0 : Nat) : Int)) then
    bif decide ((0 : Int) ≤ i5) then bif Nat.blt (Int.toNat i5) (List.length a0) then Option.bind ((a0)[Int.toNat i5]?) fun r1 =>
        some (.inl (List.set a0 (Int.toNat i5) (k1, ()), IntKind.i64.wrap (k1 + (1 : Int)), IntKind.i64.wrap (i5 + (1 : Int)), ()))
      else none
    else none
  else
    some (.inr (.inl (a0, k1, ())))
noncomputable def laws_markIntS_r0 (x : H75_0) : Option (Sum H75_0 (Sum E75_0 Q75_0)) := laws_markIntS_c0 x.1 x.2.1 x.2.2.1
noncomputable def L75 {R : Type} : Loops R := fun id _ st k => bif Nat.beq id 0 then loopAt hp75_0 e75_0 q75_0 laws_markIntS_r0 st k else none
noncomputable def laws_markIntS (a0 : List (Int × Unit)) (k1 : Int) : Option (Int × (List (Int × Unit)) × Unit) :=
  outK (loopV laws_markIntS_r0 (a0, k1, (0 : Int), ())) (fun y1 =>
    some (y1.2.1, y1.1, ())) (fun y2 =>
    none)
noncomputable def x75 (x : (List (Int × Unit)) × Int × Unit) : Option (Int × (List (Int × Unit)) × Unit) := laws_markIntS x.1 x.2.1
noncomputable def sem75 : Sem1 := semOf ps75 rs75 x75
theorem so75 : SemsOk Try.prog (semsOf sl75) := sems_nil
noncomputable def b75_0 : Code := nthLoop code75 0
theorem t75_r0_eq (x : denR (headRT hp75_0)) : codeK (tabOf tr) (semsOf sl75) D75 L75 b75_0 (headSt hp75_0 x) (roundK 0 hp75_0 e75_0 q75_0) = laws_markIntS_r0 x := by kernel_rfl
theorem loop75_0 {R : Type} (r : R) (w0 : World) (mu : Mu) (hs : AnShape ps75 mu) : LoopAt Try.prog w0 mu 19 (L75 : Loops R) r 0 b75_0 :=
  loop_auto tr_ok eq_ok mixed_ok so75 (D := D75) hs (by kernel_rfl) (fun _ => (loops_of (l := []) (by kernel_rfl) (List.forall_mem_nil _))) t75_r0_eq (fun _ _ => rfl)
theorem t75_eq (x : denR (headRT (ps75.map some))) : codeK (tabOf tr) (semsOf sl75) D75 L75 code75 (start 19 ps75 x) (finK rs75 ps75) = x75 x := by kernel_rfl
theorem k75 : Known Try.prog 75 sem75 :=
  fn_auto tr_ok eq_ok mixed_ok so75 (D := D75) (code := code75) (n := 19) Try.func75 (by kernel_rfl) (by kernel_rfl) (by kernel_rfl) (fun w0 mu _ hs => (loops_of (l := [(0, b75_0)]) (by kernel_rfl) (List.forall_mem_cons.2 ⟨loop75_0 _ w0 mu hs, (List.forall_mem_nil _)⟩))) t75_eq

/-! ### f16: laws.markRing -/
noncomputable def code16 : Code := match Try.f16.body with | some c => c | none => .skip
def ps16 : List AP := [.lend [.int .i64, .own T_i], .val false [.int .i64]]
def rs16 : List RP := [{ src := .tmp 4, agg := false, ps := [.int .i64] }]
noncomputable def sl16 : SemL := [(75, (.io, .shr, .shr, sem75))]
def D16 : Draws := fun _ => .nil
noncomputable def L16 {R : Type} : Loops R := fun _ _ _ _ => none
noncomputable def laws_markRing (a0c0 : Int) (a0c1 : List (Int × Unit)) (k1 : Int) : Option (Int × (List (Int × Unit)) × Unit) :=
  Option.bind (laws_markIntS a0c1 k1) fun y1 =>
  some (y1.1, y1.2.1, ())
noncomputable def x16 (x : Int × (List (Int × Unit)) × Int × Unit) : Option (Int × (List (Int × Unit)) × Unit) := laws_markRing x.1 x.2.1 x.2.2.1
noncomputable def sem16 : Sem1 := semOf ps16 rs16 x16
theorem so16 : SemsOk Try.prog (semsOf sl16) := sems_cons k75 (sems_nil)
theorem t16_eq (x : denR (headRT (ps16.map some))) : codeK (tabOf tr) (semsOf sl16) D16 L16 code16 (start 10 ps16 x) (finK rs16 ps16) = x16 x := by kernel_rfl
theorem k16 : Known Try.prog 16 sem16 :=
  fn_auto tr_ok eq_ok mixed_ok so16 (D := D16) (code := code16) (n := 10) Try.func16 (by kernel_rfl) (by kernel_rfl) (by kernel_rfl) (fun w0 mu _ hs => (loops_of (l := []) (by kernel_rfl) (List.forall_mem_nil _))) t16_eq

/-! ### f107: laws.markText -/
noncomputable def code107 : Code := match Try.f107.body with | some c => c | none => .skip
def ps107 : List AP := [.val false [.int .i64]]
def rs107 : List RP := [{ src := .tmp 2, agg := false, ps := [.str] }]
noncomputable def sl107 : SemL := []
def D107 : Draws := fun _ => .nil
def hp107_0 : List (Option AP) := [some (.val false [.int .i64]), none, none, some (.val false [.str]), none, none, none, none, none, none, none, none, none, none, none, none, none, none, none, none, none]
def e107_0 : List (Option AP) := [none, none, none, some (.val false [.str]), none, none, none, none, none, none, none, none, none, none, none, none, none, none, none, none, none]
def q107_0 : List (Option AP) := [none, none, none, none, none, none, none, none, none, none, none, none, none, none, none, none, none, none, none, none, none]
abbrev H107_0 : Type := Int × ByteArray × Unit
abbrev E107_0 : Type := ByteArray × Unit
abbrev Q107_0 : Type := Unit
noncomputable def laws_markText_c0 (k0 : Int) (out3 : ByteArray) : Option (Sum H107_0 (Sum E107_0 Q107_0)) :=
  bif decide ((0 : Int) < k0) then
    bif Nat.ble ((ByteArray.size (bytesOf [(IntKind.u8.wrap (IntKind.i64.wrap ((48 : Int) + (Int.tmod k0 (10 : Int)))), ())])) + (ByteArray.size out3)) lim then some (.inl (IntKind.i64.wrap (Int.tdiv k0 (10 : Int)), (bytesOf [(IntKind.u8.wrap (IntKind.i64.wrap ((48 : Int) + (Int.tmod k0 (10 : Int)))), ())]) ++ out3, ()))
    else none
  else
    some (.inr (.inl (out3, ())))
noncomputable def laws_markText_r0 (x : H107_0) : Option (Sum H107_0 (Sum E107_0 Q107_0)) := laws_markText_c0 x.1 x.2.1
noncomputable def L107 {R : Type} : Loops R := fun id _ st k => bif Nat.beq id 0 then loopAt hp107_0 e107_0 q107_0 laws_markText_r0 st k else none
noncomputable def laws_markText (k0 : Int) : Option (ByteArray × Unit) :=
  bif decide (k0 ≤ (0 : Int)) then
    some ((ByteArray.mk #[109, 48]), ())
  else
    outK (loopV laws_markText_r0 (k0, (ByteArray.mk #[]), ())) (fun y1 =>
      bif Nat.ble (1 + (ByteArray.size y1.1)) lim then some ((ByteArray.mk #[109]) ++ y1.1, ())
      else none) (fun y2 =>
      none)
noncomputable def x107 (x : Int × Unit) : Option (ByteArray × Unit) := laws_markText x.1
noncomputable def sem107 : Sem1 := semOf ps107 rs107 x107
theorem so107 : SemsOk Try.prog (semsOf sl107) := sems_nil
noncomputable def b107_0 : Code := nthLoop code107 0
theorem t107_r0_eq (x : denR (headRT hp107_0)) : codeK (tabOf tr) (semsOf sl107) D107 L107 b107_0 (headSt hp107_0 x) (roundK 0 hp107_0 e107_0 q107_0) = laws_markText_r0 x := by kernel_rfl
theorem loop107_0 {R : Type} (r : R) (w0 : World) (mu : Mu) (hs : AnShape ps107 mu) : LoopAt Try.prog w0 mu 20 (L107 : Loops R) r 0 b107_0 :=
  loop_auto tr_ok eq_ok mixed_ok so107 (D := D107) hs (by kernel_rfl) (fun _ => (loops_of (l := []) (by kernel_rfl) (List.forall_mem_nil _))) t107_r0_eq (fun _ _ => rfl)
theorem t107_eq (x : denR (headRT (ps107.map some))) : codeK (tabOf tr) (semsOf sl107) D107 L107 code107 (start 20 ps107 x) (finK rs107 ps107) = x107 x := by kernel_rfl
theorem k107 : Known Try.prog 107 sem107 :=
  fn_auto tr_ok eq_ok mixed_ok so107 (D := D107) (code := code107) (n := 20) Try.func107 (by kernel_rfl) (by kernel_rfl) (by kernel_rfl) (fun w0 mu _ hs => (loops_of (l := [(0, b107_0)]) (by kernel_rfl) (List.forall_mem_cons.2 ⟨loop107_0 _ w0 mu hs, (List.forall_mem_nil _)⟩))) t107_eq

/-! ### f35: laws.markItemS -/
noncomputable def code35 : Code := match Try.f35.body with | some c => c | none => .skip
def ps35 : List AP := [.io T_iiis, .val false [.int .i64]]
def rs35 : List RP := [{ src := .tmp 4, agg := false, ps := [.int .i64] }]
noncomputable def sl35 : SemL := [(107, (.shr, .shr, .shr, sem107))]
def D35 : Draws := fun _ => .nil
def hp35_0 : List (Option AP) := [some (.io T_iiis), some (.val false [.int .i64]), none, none, none, some (.val false [.int .i64]), none, none, none, none, none, none, none, none, none, none, none, none, none, none, none, none, none, none, none, none, none, none, none, none, none, none, none, none, none, none, none, none, none, none, none, none, none]
def e35_0 : List (Option AP) := [some (.io T_iiis), some (.val false [.int .i64]), none, none, none, none, none, none, none, none, none, none, none, none, none, none, none, none, none, none, none, none, none, none, none, none, none, none, none, none, none, none, none, none, none, none, none, none, none, none, none, none, none]
def q35_0 : List (Option AP) := [none, none, none, none, none, none, none, none, none, none, none, none, none, none, none, none, none, none, none, none, none, none, none, none, none, none, none, none, none, none, none, none, none, none, none, none, none, none, none, none, none, none, none]
abbrev H35_0 : Type := (List R_iiis) × Int × Int × Unit
abbrev E35_0 : Type := (List R_iiis) × Int × Unit
abbrev Q35_0 : Type := Unit
noncomputable def laws_markItemS_c0 (a0 : List R_iiis) (k1 : Int) (i5 : Int) : Option (Sum H35_0 (Sum E35_0 Q35_0)) :=
  bif decide (i5 < ((List.length a0 : Nat) : Int)) then
    bif decide ((0 : Int) ≤ i5) then bif Nat.blt (Int.toNat i5) (List.length a0) then Option.bind ((a0)[Int.toNat i5]?) fun r1 =>
        bif decide ((0 : Int) ≤ i5) then bif Nat.blt (Int.toNat i5) (List.length (List.set a0 (Int.toNat i5) (k1, r1.2.1, r1.2.2.1, r1.2.2.2.1, ()))) then Option.bind ((List.set a0 (Int.toNat i5) (k1, r1.2.1, r1.2.2.1, r1.2.2.2.1, ()))[Int.toNat i5]?) fun r2 =>
            bif decide ((0 : Int) ≤ i5) then bif Nat.blt (Int.toNat i5) (List.length (List.set (List.set a0 (Int.toNat i5) (k1, r1.2.1, r1.2.2.1, r1.2.2.2.1, ())) (Int.toNat i5) (r2.1, IntKind.i64.wrap (k1 + (1 : Int)), r2.2.2.1, r2.2.2.2.1, ()))) then Option.bind ((List.set (List.set a0 (Int.toNat i5) (k1, r1.2.1, r1.2.2.1, r1.2.2.2.1, ())) (Int.toNat i5) (r2.1, IntKind.i64.wrap (k1 + (1 : Int)), r2.2.2.1, r2.2.2.2.1, ()))[Int.toNat i5]?) fun r3 =>
                Option.bind (laws_markText (IntKind.i64.wrap ((IntKind.i64.wrap ((IntKind.i64.wrap (k1 + (1 : Int))) + (1 : Int))) + (1 : Int)))) fun y4 =>
                bif decide ((0 : Int) ≤ i5) then bif Nat.blt (Int.toNat i5) (List.length (List.set (List.set (List.set a0 (Int.toNat i5) (k1, r1.2.1, r1.2.2.1, r1.2.2.2.1, ())) (Int.toNat i5) (r2.1, IntKind.i64.wrap (k1 + (1 : Int)), r2.2.2.1, r2.2.2.2.1, ())) (Int.toNat i5) (r3.1, r3.2.1, IntKind.i64.wrap ((IntKind.i64.wrap (k1 + (1 : Int))) + (1 : Int)), r3.2.2.2.1, ()))) then Option.bind ((List.set (List.set (List.set a0 (Int.toNat i5) (k1, r1.2.1, r1.2.2.1, r1.2.2.2.1, ())) (Int.toNat i5) (r2.1, IntKind.i64.wrap (k1 + (1 : Int)), r2.2.2.1, r2.2.2.2.1, ())) (Int.toNat i5) (r3.1, r3.2.1, IntKind.i64.wrap ((IntKind.i64.wrap (k1 + (1 : Int))) + (1 : Int)), r3.2.2.2.1, ()))[Int.toNat i5]?) fun r5 =>
                    some (.inl (List.set (List.set (List.set (List.set a0 (Int.toNat i5) (k1, r1.2.1, r1.2.2.1, r1.2.2.2.1, ())) (Int.toNat i5) (r2.1, IntKind.i64.wrap (k1 + (1 : Int)), r2.2.2.1, r2.2.2.2.1, ())) (Int.toNat i5) (r3.1, r3.2.1, IntKind.i64.wrap ((IntKind.i64.wrap (k1 + (1 : Int))) + (1 : Int)), r3.2.2.2.1, ())) (Int.toNat i5) (r5.1, r5.2.1, r5.2.2.1, y4.1, ()), IntKind.i64.wrap ((IntKind.i64.wrap ((IntKind.i64.wrap ((IntKind.i64.wrap (k1 + (1 : Int))) + (1 : Int))) + (1 : Int))) + (1 : Int)), IntKind.i64.wrap (i5 + (1 : Int)), ()))
                  else none
                else none
              else none
            else none
          else none
        else none
      else none
    else none
  else
    some (.inr (.inl (a0, k1, ())))
noncomputable def laws_markItemS_r0 (x : H35_0) : Option (Sum H35_0 (Sum E35_0 Q35_0)) := laws_markItemS_c0 x.1 x.2.1 x.2.2.1
noncomputable def L35 {R : Type} : Loops R := fun id _ st k => bif Nat.beq id 0 then loopAt hp35_0 e35_0 q35_0 laws_markItemS_r0 st k else none
noncomputable def laws_markItemS (a0 : List R_iiis) (k1 : Int) : Option (Int × (List R_iiis) × Unit) :=
  outK (loopV laws_markItemS_r0 (a0, k1, (0 : Int), ())) (fun y1 =>
    some (y1.2.1, y1.1, ())) (fun y2 =>
    none)
noncomputable def x35 (x : (List R_iiis) × Int × Unit) : Option (Int × (List R_iiis) × Unit) := laws_markItemS x.1 x.2.1
noncomputable def sem35 : Sem1 := semOf ps35 rs35 x35
theorem so35 : SemsOk Try.prog (semsOf sl35) := sems_cons k107 (sems_nil)
noncomputable def b35_0 : Code := nthLoop code35 0
theorem t35_r0_eq (x : denR (headRT hp35_0)) : codeK (tabOf tr) (semsOf sl35) D35 L35 b35_0 (headSt hp35_0 x) (roundK 0 hp35_0 e35_0 q35_0) = laws_markItemS_r0 x := by kernel_rfl
theorem loop35_0 {R : Type} (r : R) (w0 : World) (mu : Mu) (hs : AnShape ps35 mu) : LoopAt Try.prog w0 mu 42 (L35 : Loops R) r 0 b35_0 :=
  loop_auto tr_ok eq_ok mixed_ok so35 (D := D35) hs (by kernel_rfl) (fun _ => (loops_of (l := []) (by kernel_rfl) (List.forall_mem_nil _))) t35_r0_eq (fun _ _ => rfl)
theorem t35_eq (x : denR (headRT (ps35.map some))) : codeK (tabOf tr) (semsOf sl35) D35 L35 code35 (start 42 ps35 x) (finK rs35 ps35) = x35 x := by kernel_rfl
theorem k35 : Known Try.prog 35 sem35 :=
  fn_auto tr_ok eq_ok mixed_ok so35 (D := D35) (code := code35) (n := 42) Try.func35 (by kernel_rfl) (by kernel_rfl) (by kernel_rfl) (fun w0 mu _ hs => (loops_of (l := [(0, b35_0)]) (by kernel_rfl) (List.forall_mem_cons.2 ⟨loop35_0 _ w0 mu hs, (List.forall_mem_nil _)⟩))) t35_eq

/-! ### f142: laws.markStringS -/
noncomputable def code142 : Code := match Try.f142.body with | some c => c | none => .skip
def ps142 : List AP := [.io T_s, .val false [.int .i64]]
def rs142 : List RP := [{ src := .tmp 4, agg := false, ps := [.int .i64] }]
noncomputable def sl142 : SemL := [(107, (.shr, .shr, .shr, sem107))]
def D142 : Draws := fun _ => .nil
def hp142_0 : List (Option AP) := [some (.io T_s), some (.val false [.int .i64]), none, none, none, some (.val false [.int .i64]), none, none, none, none, none, none, none, none, none, none, none, none, none, none, none]
def e142_0 : List (Option AP) := [some (.io T_s), some (.val false [.int .i64]), none, none, none, none, none, none, none, none, none, none, none, none, none, none, none, none, none, none, none]
def q142_0 : List (Option AP) := [none, none, none, none, none, none, none, none, none, none, none, none, none, none, none, none, none, none, none, none, none]
abbrev H142_0 : Type := (List (ByteArray × Unit)) × Int × Int × Unit
abbrev E142_0 : Type := (List (ByteArray × Unit)) × Int × Unit
abbrev Q142_0 : Type := Unit
noncomputable def laws_markStringS_c0 (a0 : List (ByteArray × Unit)) (k1 : Int) (i5 : Int) : Option (Sum H142_0 (Sum E142_0 Q142_0)) :=
  bif decide (i5 < ((List.length a0 : Nat) : Int)) then
    Option.bind (laws_markText k1) fun y1 =>
    bif decide ((0 : Int) ≤ i5) then bif Nat.blt (Int.toNat i5) (List.length a0) then Option.bind ((a0)[Int.toNat i5]?) fun r2 =>
        some (.inl (List.set a0 (Int.toNat i5) (y1.1, ()), IntKind.i64.wrap (k1 + (1 : Int)), IntKind.i64.wrap (i5 + (1 : Int)), ()))
      else none
    else none
  else
    some (.inr (.inl (a0, k1, ())))
noncomputable def laws_markStringS_r0 (x : H142_0) : Option (Sum H142_0 (Sum E142_0 Q142_0)) := laws_markStringS_c0 x.1 x.2.1 x.2.2.1
noncomputable def L142 {R : Type} : Loops R := fun id _ st k => bif Nat.beq id 0 then loopAt hp142_0 e142_0 q142_0 laws_markStringS_r0 st k else none
noncomputable def laws_markStringS (a0 : List (ByteArray × Unit)) (k1 : Int) : Option (Int × (List (ByteArray × Unit)) × Unit) :=
  outK (loopV laws_markStringS_r0 (a0, k1, (0 : Int), ())) (fun y1 =>
    some (y1.2.1, y1.1, ())) (fun y2 =>
    none)
noncomputable def x142 (x : (List (ByteArray × Unit)) × Int × Unit) : Option (Int × (List (ByteArray × Unit)) × Unit) := laws_markStringS x.1 x.2.1
noncomputable def sem142 : Sem1 := semOf ps142 rs142 x142
theorem so142 : SemsOk Try.prog (semsOf sl142) := sems_cons k107 (sems_nil)
noncomputable def b142_0 : Code := nthLoop code142 0
theorem t142_r0_eq (x : denR (headRT hp142_0)) : codeK (tabOf tr) (semsOf sl142) D142 L142 b142_0 (headSt hp142_0 x) (roundK 0 hp142_0 e142_0 q142_0) = laws_markStringS_r0 x := by kernel_rfl
theorem loop142_0 {R : Type} (r : R) (w0 : World) (mu : Mu) (hs : AnShape ps142 mu) : LoopAt Try.prog w0 mu 20 (L142 : Loops R) r 0 b142_0 :=
  loop_auto tr_ok eq_ok mixed_ok so142 (D := D142) hs (by kernel_rfl) (fun _ => (loops_of (l := []) (by kernel_rfl) (List.forall_mem_nil _))) t142_r0_eq (fun _ _ => rfl)
theorem t142_eq (x : denR (headRT (ps142.map some))) : codeK (tabOf tr) (semsOf sl142) D142 L142 code142 (start 20 ps142 x) (finK rs142 ps142) = x142 x := by kernel_rfl
theorem k142 : Known Try.prog 142 sem142 :=
  fn_auto tr_ok eq_ok mixed_ok so142 (D := D142) (code := code142) (n := 20) Try.func142 (by kernel_rfl) (by kernel_rfl) (by kernel_rfl) (fun w0 mu _ hs => (loops_of (l := [(0, b142_0)]) (by kernel_rfl) (List.forall_mem_cons.2 ⟨loop142_0 _ w0 mu hs, (List.forall_mem_nil _)⟩))) t142_eq

/-! ### f76: laws.markMateS -/
noncomputable def code76 : Code := match Try.f76.body with | some c => c | none => .skip
def ps76 : List AP := [.io T_iiLiELiiisELiELsEiiiiiiiiiLiE .dp, .val false [.int .i64]]
def rs76 : List RP := [{ src := .tmp 4, agg := false, ps := [.int .i64] }]
noncomputable def sl76 : SemL := [(75, (.io, .shr, .shr, sem75)), (35, (.io, .shr, .shr, sem35)), (142, (.io, .shr, .shr, sem142))]
def D76 : Draws := fun _ => .nil
def hp76_0 : List (Option AP) := [some (.io T_iiLiELiiisELiELsEiiiiiiiiiLiE .dp), some (.val false [.int .i64]), none, none, none, some (.val false [.int .i64]), none, none, none, none, none, none, none, none, none, none, none, none, none, none, none, none, none, none, none, none, none, none, none, none, none, none, none, none, none, none, none, none, none, none, none, none, none, none, none, none, none, none, none, none, none, none, none, none, none, none, none, none, none, none, none, none, none, none, none, none, none, none, none, none, none, none, none, none, none, none, none, none, none, none, none, none, none, none, none, none, none, none, none, none, none, none, none, none, none, none, none, none, none, none, none, none, none, none, none, none, none, none, none, none, none, none, none, none, none, none, none, none, none, none, none, none, none, none, none, none, none, none, none, none, none, none, none, none]
def e76_0 : List (Option AP) := [some (.io T_iiLiELiiisELiELsEiiiiiiiiiLiE .dp), some (.val false [.int .i64]), none, none, none, none, none, none, none, none, none, none, none, none, none, none, none, none, none, none, none, none, none, none, none, none, none, none, none, none, none, none, none, none, none, none, none, none, none, none, none, none, none, none, none, none, none, none, none, none, none, none, none, none, none, none, none, none, none, none, none, none, none, none, none, none, none, none, none, none, none, none, none, none, none, none, none, none, none, none, none, none, none, none, none, none, none, none, none, none, none, none, none, none, none, none, none, none, none, none, none, none, none, none, none, none, none, none, none, none, none, none, none, none, none, none, none, none, none, none, none, none, none, none, none, none, none, none, none, none, none, none, none, none]
def q76_0 : List (Option AP) := [none, none, none, none, none, none, none, none, none, none, none, none, none, none, none, none, none, none, none, none, none, none, none, none, none, none, none, none, none, none, none, none, none, none, none, none, none, none, none, none, none, none, none, none, none, none, none, none, none, none, none, none, none, none, none, none, none, none, none, none, none, none, none, none, none, none, none, none, none, none, none, none, none, none, none, none, none, none, none, none, none, none, none, none, none, none, none, none, none, none, none, none, none, none, none, none, none, none, none, none, none, none, none, none, none, none, none, none, none, none, none, none, none, none, none, none, none, none, none, none, none, none, none, none, none, none, none, none, none, none, none, none, none, none]
abbrev H76_0 : Type := (List R_iiLiELiiisELiELsEiiiiiiiiiLiE) × Int × Int × Unit
abbrev E76_0 : Type := (List R_iiLiELiiisELiELsEiiiiiiiiiLiE) × Int × Unit
abbrev Q76_0 : Type := Unit
noncomputable def laws_markMateS_c0 (a0 : List R_iiLiELiiisELiELsEiiiiiiiiiLiE) (k1 : Int) (i5 : Int) : Option (Sum H76_0 (Sum E76_0 Q76_0)) :=
  bif decide (i5 < ((List.length a0 : Nat) : Int)) then
    bif decide ((0 : Int) ≤ i5) then bif Nat.blt (Int.toNat i5) (List.length a0) then Option.bind ((a0)[Int.toNat i5]?) fun r1 =>
        bif decide ((0 : Int) ≤ i5) then bif Nat.blt (Int.toNat i5) (List.length (List.set a0 (Int.toNat i5) (k1, r1.2.1, r1.2.2.1, r1.2.2.2.1, r1.2.2.2.2.1, r1.2.2.2.2.2.1, r1.2.2.2.2.2.2.1, r1.2.2.2.2.2.2.2.1, r1.2.2.2.2.2.2.2.2.1, r1.2.2.2.2.2.2.2.2.2.1, r1.2.2.2.2.2.2.2.2.2.2.1, r1.2.2.2.2.2.2.2.2.2.2.2.1, r1.2.2.2.2.2.2.2.2.2.2.2.2.1, r1.2.2.2.2.2.2.2.2.2.2.2.2.2.1, r1.2.2.2.2.2.2.2.2.2.2.2.2.2.2.1, r1.2.2.2.2.2.2.2.2.2.2.2.2.2.2.2.1, ()))) then Option.bind ((List.set a0 (Int.toNat i5) (k1, r1.2.1, r1.2.2.1, r1.2.2.2.1, r1.2.2.2.2.1, r1.2.2.2.2.2.1, r1.2.2.2.2.2.2.1, r1.2.2.2.2.2.2.2.1, r1.2.2.2.2.2.2.2.2.1, r1.2.2.2.2.2.2.2.2.2.1, r1.2.2.2.2.2.2.2.2.2.2.1, r1.2.2.2.2.2.2.2.2.2.2.2.1, r1.2.2.2.2.2.2.2.2.2.2.2.2.1, r1.2.2.2.2.2.2.2.2.2.2.2.2.2.1, r1.2.2.2.2.2.2.2.2.2.2.2.2.2.2.1, r1.2.2.2.2.2.2.2.2.2.2.2.2.2.2.2.1, ()))[Int.toNat i5]?) fun r2 =>
            (fun l3 : List (Int × Int × (List (Int × Unit)) × (List R_iiis) × (List (Int × Unit)) × (List (ByteArray × Unit)) × Int × Int × Int × Int × Int × Int × Int × Int × Int × (List (Int × Unit)) × Unit) =>
            bif decide ((0 : Int) ≤ i5) then bif Nat.blt (Int.toNat i5) (List.length l3) then Option.bind ((l3)[Int.toNat i5]?) fun r4 =>
                Option.bind (laws_markIntS r4.2.2.1 (IntKind.i64.wrap ((IntKind.i64.wrap (k1 + (1 : Int))) + (1 : Int)))) fun y5 =>
                Option.bind ((l3)[Int.toNat i5]?) fun r6 =>
                bif decide ((0 : Int) ≤ i5) then bif Nat.blt (Int.toNat i5) (List.length (List.set l3 (Int.toNat i5) (r6.1, r6.2.1, y5.2.1, r6.2.2.2.1, r6.2.2.2.2.1, r6.2.2.2.2.2.1, r6.2.2.2.2.2.2.1, r6.2.2.2.2.2.2.2.1, r6.2.2.2.2.2.2.2.2.1, r6.2.2.2.2.2.2.2.2.2.1, r6.2.2.2.2.2.2.2.2.2.2.1, r6.2.2.2.2.2.2.2.2.2.2.2.1, r6.2.2.2.2.2.2.2.2.2.2.2.2.1, r6.2.2.2.2.2.2.2.2.2.2.2.2.2.1, r6.2.2.2.2.2.2.2.2.2.2.2.2.2.2.1, r6.2.2.2.2.2.2.2.2.2.2.2.2.2.2.2.1, ()))) then Option.bind ((List.set l3 (Int.toNat i5) (r6.1, r6.2.1, y5.2.1, r6.2.2.2.1, r6.2.2.2.2.1, r6.2.2.2.2.2.1, r6.2.2.2.2.2.2.1, r6.2.2.2.2.2.2.2.1, r6.2.2.2.2.2.2.2.2.1, r6.2.2.2.2.2.2.2.2.2.1, r6.2.2.2.2.2.2.2.2.2.2.1, r6.2.2.2.2.2.2.2.2.2.2.2.1, r6.2.2.2.2.2.2.2.2.2.2.2.2.1, r6.2.2.2.2.2.2.2.2.2.2.2.2.2.1, r6.2.2.2.2.2.2.2.2.2.2.2.2.2.2.1, r6.2.2.2.2.2.2.2.2.2.2.2.2.2.2.2.1, ()))[Int.toNat i5]?) fun r7 =>
                    Option.bind (laws_markItemS r7.2.2.2.1 y5.1) fun y8 =>
                    Option.bind ((List.set l3 (Int.toNat i5) (r6.1, r6.2.1, y5.2.1, r6.2.2.2.1, r6.2.2.2.2.1, r6.2.2.2.2.2.1, r6.2.2.2.2.2.2.1, r6.2.2.2.2.2.2.2.1, r6.2.2.2.2.2.2.2.2.1, r6.2.2.2.2.2.2.2.2.2.1, r6.2.2.2.2.2.2.2.2.2.2.1, r6.2.2.2.2.2.2.2.2.2.2.2.1, r6.2.2.2.2.2.2.2.2.2.2.2.2.1, r6.2.2.2.2.2.2.2.2.2.2.2.2.2.1, r6.2.2.2.2.2.2.2.2.2.2.2.2.2.2.1, r6.2.2.2.2.2.2.2.2.2.2.2.2.2.2.2.1, ()))[Int.toNat i5]?) fun r9 =>
                    (fun l10 : List (Int × Int × (List (Int × Unit)) × (List R_iiis) × (List (Int × Unit)) × (List (ByteArray × Unit)) × Int × Int × Int × Int × Int × Int × Int × Int × Int × (List (Int × Unit)) × Unit) =>
                    bif decide ((0 : Int) ≤ i5) then bif Nat.blt (Int.toNat i5) (List.length l10) then Option.bind ((l10)[Int.toNat i5]?) fun r11 =>
                        Option.bind (laws_markIntS r11.2.2.2.2.1 y8.1) fun y12 =>
                        Option.bind ((l10)[Int.toNat i5]?) fun r13 =>
                        bif decide ((0 : Int) ≤ i5) then bif Nat.blt (Int.toNat i5) (List.length (List.set l10 (Int.toNat i5) (r13.1, r13.2.1, r13.2.2.1, r13.2.2.2.1, y12.2.1, r13.2.2.2.2.2.1, r13.2.2.2.2.2.2.1, r13.2.2.2.2.2.2.2.1, r13.2.2.2.2.2.2.2.2.1, r13.2.2.2.2.2.2.2.2.2.1, r13.2.2.2.2.2.2.2.2.2.2.1, r13.2.2.2.2.2.2.2.2.2.2.2.1, r13.2.2.2.2.2.2.2.2.2.2.2.2.1, r13.2.2.2.2.2.2.2.2.2.2.2.2.2.1, r13.2.2.2.2.2.2.2.2.2.2.2.2.2.2.1, r13.2.2.2.2.2.2.2.2.2.2.2.2.2.2.2.1, ()))) then Option.bind ((List.set l10 (Int.toNat i5) (r13.1, r13.2.1, r13.2.2.1, r13.2.2.2.1, y12.2.1, r13.2.2.2.2.2.1, r13.2.2.2.2.2.2.1, r13.2.2.2.2.2.2.2.1, r13.2.2.2.2.2.2.2.2.1, r13.2.2.2.2.2.2.2.2.2.1, r13.2.2.2.2.2.2.2.2.2.2.1, r13.2.2.2.2.2.2.2.2.2.2.2.1, r13.2.2.2.2.2.2.2.2.2.2.2.2.1, r13.2.2.2.2.2.2.2.2.2.2.2.2.2.1, r13.2.2.2.2.2.2.2.2.2.2.2.2.2.2.1, r13.2.2.2.2.2.2.2.2.2.2.2.2.2.2.2.1, ()))[Int.toNat i5]?) fun r14 =>
                            Option.bind (laws_markStringS r14.2.2.2.2.2.1 y12.1) fun y15 =>
                            Option.bind ((List.set l10 (Int.toNat i5) (r13.1, r13.2.1, r13.2.2.1, r13.2.2.2.1, y12.2.1, r13.2.2.2.2.2.1, r13.2.2.2.2.2.2.1, r13.2.2.2.2.2.2.2.1, r13.2.2.2.2.2.2.2.2.1, r13.2.2.2.2.2.2.2.2.2.1, r13.2.2.2.2.2.2.2.2.2.2.1, r13.2.2.2.2.2.2.2.2.2.2.2.1, r13.2.2.2.2.2.2.2.2.2.2.2.2.1, r13.2.2.2.2.2.2.2.2.2.2.2.2.2.1, r13.2.2.2.2.2.2.2.2.2.2.2.2.2.2.1, r13.2.2.2.2.2.2.2.2.2.2.2.2.2.2.2.1, ()))[Int.toNat i5]?) fun r16 =>
                            (fun l17 : List (Int × Int × (List (Int × Unit)) × (List R_iiis) × (List (Int × Unit)) × (List (ByteArray × Unit)) × Int × Int × Int × Int × Int × Int × Int × Int × Int × (List (Int × Unit)) × Unit) =>
                            bif decide ((0 : Int) ≤ i5) then bif Nat.blt (Int.toNat i5) (List.length l17) then Option.bind ((l17)[Int.toNat i5]?) fun r18 =>
                                bif decide ((0 : Int) ≤ i5) then bif Nat.blt (Int.toNat i5) (List.length (List.set l17 (Int.toNat i5) (r18.1, r18.2.1, r18.2.2.1, r18.2.2.2.1, r18.2.2.2.2.1, r18.2.2.2.2.2.1, y15.1, r18.2.2.2.2.2.2.2.1, r18.2.2.2.2.2.2.2.2.1, r18.2.2.2.2.2.2.2.2.2.1, r18.2.2.2.2.2.2.2.2.2.2.1, r18.2.2.2.2.2.2.2.2.2.2.2.1, r18.2.2.2.2.2.2.2.2.2.2.2.2.1, r18.2.2.2.2.2.2.2.2.2.2.2.2.2.1, r18.2.2.2.2.2.2.2.2.2.2.2.2.2.2.1, r18.2.2.2.2.2.2.2.2.2.2.2.2.2.2.2.1, ()))) then Option.bind ((List.set l17 (Int.toNat i5) (r18.1, r18.2.1, r18.2.2.1, r18.2.2.2.1, r18.2.2.2.2.1, r18.2.2.2.2.2.1, y15.1, r18.2.2.2.2.2.2.2.1, r18.2.2.2.2.2.2.2.2.1, r18.2.2.2.2.2.2.2.2.2.1, r18.2.2.2.2.2.2.2.2.2.2.1, r18.2.2.2.2.2.2.2.2.2.2.2.1, r18.2.2.2.2.2.2.2.2.2.2.2.2.1, r18.2.2.2.2.2.2.2.2.2.2.2.2.2.1, r18.2.2.2.2.2.2.2.2.2.2.2.2.2.2.1, r18.2.2.2.2.2.2.2.2.2.2.2.2.2.2.2.1, ()))[Int.toNat i5]?) fun r19 =>
                                    (fun l20 : List (Int × Int × (List (Int × Unit)) × (List R_iiis) × (List (Int × Unit)) × (List (ByteArray × Unit)) × Int × Int × Int × Int × Int × Int × Int × Int × Int × (List (Int × Unit)) × Unit) =>
                                    bif decide ((0 : Int) ≤ i5) then bif Nat.blt (Int.toNat i5) (List.length l20) then Option.bind ((l20)[Int.toNat i5]?) fun r21 =>
                                        bif decide ((0 : Int) ≤ i5) then bif Nat.blt (Int.toNat i5) (List.length (List.set l20 (Int.toNat i5) (r21.1, r21.2.1, r21.2.2.1, r21.2.2.2.1, r21.2.2.2.2.1, r21.2.2.2.2.2.1, r21.2.2.2.2.2.2.1, r21.2.2.2.2.2.2.2.1, IntKind.i64.wrap ((IntKind.i64.wrap (y15.1 + (1 : Int))) + (1 : Int)), r21.2.2.2.2.2.2.2.2.2.1, r21.2.2.2.2.2.2.2.2.2.2.1, r21.2.2.2.2.2.2.2.2.2.2.2.1, r21.2.2.2.2.2.2.2.2.2.2.2.2.1, r21.2.2.2.2.2.2.2.2.2.2.2.2.2.1, r21.2.2.2.2.2.2.2.2.2.2.2.2.2.2.1, r21.2.2.2.2.2.2.2.2.2.2.2.2.2.2.2.1, ()))) then Option.bind ((List.set l20 (Int.toNat i5) (r21.1, r21.2.1, r21.2.2.1, r21.2.2.2.1, r21.2.2.2.2.1, r21.2.2.2.2.2.1, r21.2.2.2.2.2.2.1, r21.2.2.2.2.2.2.2.1, IntKind.i64.wrap ((IntKind.i64.wrap (y15.1 + (1 : Int))) + (1 : Int)), r21.2.2.2.2.2.2.2.2.2.1, r21.2.2.2.2.2.2.2.2.2.2.1, r21.2.2.2.2.2.2.2.2.2.2.2.1, r21.2.2.2.2.2.2.2.2.2.2.2.2.1, r21.2.2.2.2.2.2.2.2.2.2.2.2.2.1, r21.2.2.2.2.2.2.2.2.2.2.2.2.2.2.1, r21.2.2.2.2.2.2.2.2.2.2.2.2.2.2.2.1, ()))[Int.toNat i5]?) fun r22 =>
                                            (fun l23 : List (Int × Int × (List (Int × Unit)) × (List R_iiis) × (List (Int × Unit)) × (List (ByteArray × Unit)) × Int × Int × Int × Int × Int × Int × Int × Int × Int × (List (Int × Unit)) × Unit) =>
                                            bif decide ((0 : Int) ≤ i5) then bif Nat.blt (Int.toNat i5) (List.length l23) then Option.bind ((l23)[Int.toNat i5]?) fun r24 =>
                                                bif decide ((0 : Int) ≤ i5) then bif Nat.blt (Int.toNat i5) (List.length (List.set l23 (Int.toNat i5) (r24.1, r24.2.1, r24.2.2.1, r24.2.2.2.1, r24.2.2.2.2.1, r24.2.2.2.2.2.1, r24.2.2.2.2.2.2.1, r24.2.2.2.2.2.2.2.1, r24.2.2.2.2.2.2.2.2.1, r24.2.2.2.2.2.2.2.2.2.1, IntKind.i64.wrap ((IntKind.i64.wrap ((IntKind.i64.wrap ((IntKind.i64.wrap (y15.1 + (1 : Int))) + (1 : Int))) + (1 : Int))) + (1 : Int)), r24.2.2.2.2.2.2.2.2.2.2.2.1, r24.2.2.2.2.2.2.2.2.2.2.2.2.1, r24.2.2.2.2.2.2.2.2.2.2.2.2.2.1, r24.2.2.2.2.2.2.2.2.2.2.2.2.2.2.1, r24.2.2.2.2.2.2.2.2.2.2.2.2.2.2.2.1, ()))) then Option.bind ((List.set l23 (Int.toNat i5) (r24.1, r24.2.1, r24.2.2.1, r24.2.2.2.1, r24.2.2.2.2.1, r24.2.2.2.2.2.1, r24.2.2.2.2.2.2.1, r24.2.2.2.2.2.2.2.1, r24.2.2.2.2.2.2.2.2.1, r24.2.2.2.2.2.2.2.2.2.1, IntKind.i64.wrap ((IntKind.i64.wrap ((IntKind.i64.wrap ((IntKind.i64.wrap (y15.1 + (1 : Int))) + (1 : Int))) + (1 : Int))) + (1 : Int)), r24.2.2.2.2.2.2.2.2.2.2.2.1, r24.2.2.2.2.2.2.2.2.2.2.2.2.1, r24.2.2.2.2.2.2.2.2.2.2.2.2.2.1, r24.2.2.2.2.2.2.2.2.2.2.2.2.2.2.1, r24.2.2.2.2.2.2.2.2.2.2.2.2.2.2.2.1, ()))[Int.toNat i5]?) fun r25 =>
                                                    (fun l26 : List (Int × Int × (List (Int × Unit)) × (List R_iiis) × (List (Int × Unit)) × (List (ByteArray × Unit)) × Int × Int × Int × Int × Int × Int × Int × Int × Int × (List (Int × Unit)) × Unit) =>
                                                    bif decide ((0 : Int) ≤ i5) then bif Nat.blt (Int.toNat i5) (List.length l26) then Option.bind ((l26)[Int.toNat i5]?) fun r27 =>
                                                        bif decide ((0 : Int) ≤ i5) then bif Nat.blt (Int.toNat i5) (List.length (List.set l26 (Int.toNat i5) (r27.1, r27.2.1, r27.2.2.1, r27.2.2.2.1, r27.2.2.2.2.1, r27.2.2.2.2.2.1, r27.2.2.2.2.2.2.1, r27.2.2.2.2.2.2.2.1, r27.2.2.2.2.2.2.2.2.1, r27.2.2.2.2.2.2.2.2.2.1, r27.2.2.2.2.2.2.2.2.2.2.1, r27.2.2.2.2.2.2.2.2.2.2.2.1, IntKind.i64.wrap ((IntKind.i64.wrap ((IntKind.i64.wrap ((IntKind.i64.wrap ((IntKind.i64.wrap ((IntKind.i64.wrap (y15.1 + (1 : Int))) + (1 : Int))) + (1 : Int))) + (1 : Int))) + (1 : Int))) + (1 : Int)), r27.2.2.2.2.2.2.2.2.2.2.2.2.2.1, r27.2.2.2.2.2.2.2.2.2.2.2.2.2.2.1, r27.2.2.2.2.2.2.2.2.2.2.2.2.2.2.2.1, ()))) then Option.bind ((List.set l26 (Int.toNat i5) (r27.1, r27.2.1, r27.2.2.1, r27.2.2.2.1, r27.2.2.2.2.1, r27.2.2.2.2.2.1, r27.2.2.2.2.2.2.1, r27.2.2.2.2.2.2.2.1, r27.2.2.2.2.2.2.2.2.1, r27.2.2.2.2.2.2.2.2.2.1, r27.2.2.2.2.2.2.2.2.2.2.1, r27.2.2.2.2.2.2.2.2.2.2.2.1, IntKind.i64.wrap ((IntKind.i64.wrap ((IntKind.i64.wrap ((IntKind.i64.wrap ((IntKind.i64.wrap ((IntKind.i64.wrap (y15.1 + (1 : Int))) + (1 : Int))) + (1 : Int))) + (1 : Int))) + (1 : Int))) + (1 : Int)), r27.2.2.2.2.2.2.2.2.2.2.2.2.2.1, r27.2.2.2.2.2.2.2.2.2.2.2.2.2.2.1, r27.2.2.2.2.2.2.2.2.2.2.2.2.2.2.2.1, ()))[Int.toNat i5]?) fun r28 =>
                                                            (fun l29 : List (Int × Int × (List (Int × Unit)) × (List R_iiis) × (List (Int × Unit)) × (List (ByteArray × Unit)) × Int × Int × Int × Int × Int × Int × Int × Int × Int × (List (Int × Unit)) × Unit) =>
                                                            bif decide ((0 : Int) ≤ i5) then bif Nat.blt (Int.toNat i5) (List.length l29) then Option.bind ((l29)[Int.toNat i5]?) fun r30 =>
                                                                (fun l31 : List (Int × Int × (List (Int × Unit)) × (List R_iiis) × (List (Int × Unit)) × (List (ByteArray × Unit)) × Int × Int × Int × Int × Int × Int × Int × Int × Int × (List (Int × Unit)) × Unit) =>
                                                                bif decide ((0 : Int) ≤ i5) then bif Nat.blt (Int.toNat i5) (List.length l31) then Option.bind ((l31)[Int.toNat i5]?) fun r32 =>
                                                                    Option.bind (laws_markIntS r32.2.2.2.2.2.2.2.2.2.2.2.2.2.2.2.1 (IntKind.i64.wrap ((IntKind.i64.wrap ((IntKind.i64.wrap ((IntKind.i64.wrap ((IntKind.i64.wrap ((IntKind.i64.wrap ((IntKind.i64.wrap ((IntKind.i64.wrap ((IntKind.i64.wrap (y15.1 + (1 : Int))) + (1 : Int))) + (1 : Int))) + (1 : Int))) + (1 : Int))) + (1 : Int))) + (1 : Int))) + (1 : Int))) + (1 : Int)))) fun y33 =>
                                                                    Option.bind ((l31)[Int.toNat i5]?) fun r34 =>
                                                                    some (.inl (List.set l31 (Int.toNat i5) (r34.1, r34.2.1, r34.2.2.1, r34.2.2.2.1, r34.2.2.2.2.1, r34.2.2.2.2.2.1, r34.2.2.2.2.2.2.1, r34.2.2.2.2.2.2.2.1, r34.2.2.2.2.2.2.2.2.1, r34.2.2.2.2.2.2.2.2.2.1, r34.2.2.2.2.2.2.2.2.2.2.1, r34.2.2.2.2.2.2.2.2.2.2.2.1, r34.2.2.2.2.2.2.2.2.2.2.2.2.1, r34.2.2.2.2.2.2.2.2.2.2.2.2.2.1, r34.2.2.2.2.2.2.2.2.2.2.2.2.2.2.1, y33.2.1, ()), y33.1, IntKind.i64.wrap (i5 + (1 : Int)), ()))
                                                                  else none
                                                                else none) (List.set l29 (Int.toNat i5) (r30.1, r30.2.1, r30.2.2.1, r30.2.2.2.1, r30.2.2.2.2.1, r30.2.2.2.2.2.1, r30.2.2.2.2.2.2.1, r30.2.2.2.2.2.2.2.1, r30.2.2.2.2.2.2.2.2.1, r30.2.2.2.2.2.2.2.2.2.1, r30.2.2.2.2.2.2.2.2.2.2.1, r30.2.2.2.2.2.2.2.2.2.2.2.1, r30.2.2.2.2.2.2.2.2.2.2.2.2.1, r30.2.2.2.2.2.2.2.2.2.2.2.2.2.1, IntKind.i64.wrap ((IntKind.i64.wrap ((IntKind.i64.wrap ((IntKind.i64.wrap ((IntKind.i64.wrap ((IntKind.i64.wrap ((IntKind.i64.wrap ((IntKind.i64.wrap (y15.1 + (1 : Int))) + (1 : Int))) + (1 : Int))) + (1 : Int))) + (1 : Int))) + (1 : Int))) + (1 : Int))) + (1 : Int)), r30.2.2.2.2.2.2.2.2.2.2.2.2.2.2.2.1, ()))
                                                              else none
                                                            else none) (List.set (List.set l26 (Int.toNat i5) (r27.1, r27.2.1, r27.2.2.1, r27.2.2.2.1, r27.2.2.2.2.1, r27.2.2.2.2.2.1, r27.2.2.2.2.2.2.1, r27.2.2.2.2.2.2.2.1, r27.2.2.2.2.2.2.2.2.1, r27.2.2.2.2.2.2.2.2.2.1, r27.2.2.2.2.2.2.2.2.2.2.1, r27.2.2.2.2.2.2.2.2.2.2.2.1, IntKind.i64.wrap ((IntKind.i64.wrap ((IntKind.i64.wrap ((IntKind.i64.wrap ((IntKind.i64.wrap ((IntKind.i64.wrap (y15.1 + (1 : Int))) + (1 : Int))) + (1 : Int))) + (1 : Int))) + (1 : Int))) + (1 : Int)), r27.2.2.2.2.2.2.2.2.2.2.2.2.2.1, r27.2.2.2.2.2.2.2.2.2.2.2.2.2.2.1, r27.2.2.2.2.2.2.2.2.2.2.2.2.2.2.2.1, ())) (Int.toNat i5) (r28.1, r28.2.1, r28.2.2.1, r28.2.2.2.1, r28.2.2.2.2.1, r28.2.2.2.2.2.1, r28.2.2.2.2.2.2.1, r28.2.2.2.2.2.2.2.1, r28.2.2.2.2.2.2.2.2.1, r28.2.2.2.2.2.2.2.2.2.1, r28.2.2.2.2.2.2.2.2.2.2.1, r28.2.2.2.2.2.2.2.2.2.2.2.1, r28.2.2.2.2.2.2.2.2.2.2.2.2.1, IntKind.i64.wrap ((IntKind.i64.wrap ((IntKind.i64.wrap ((IntKind.i64.wrap ((IntKind.i64.wrap ((IntKind.i64.wrap ((IntKind.i64.wrap (y15.1 + (1 : Int))) + (1 : Int))) + (1 : Int))) + (1 : Int))) + (1 : Int))) + (1 : Int))) + (1 : Int)), r28.2.2.2.2.2.2.2.2.2.2.2.2.2.2.1, r28.2.2.2.2.2.2.2.2.2.2.2.2.2.2.2.1, ()))
                                                          else none
                                                        else none
                                                      else none
                                                    else none) (List.set (List.set l23 (Int.toNat i5) (r24.1, r24.2.1, r24.2.2.1, r24.2.2.2.1, r24.2.2.2.2.1, r24.2.2.2.2.2.1, r24.2.2.2.2.2.2.1, r24.2.2.2.2.2.2.2.1, r24.2.2.2.2.2.2.2.2.1, r24.2.2.2.2.2.2.2.2.2.1, IntKind.i64.wrap ((IntKind.i64.wrap ((IntKind.i64.wrap ((IntKind.i64.wrap (y15.1 + (1 : Int))) + (1 : Int))) + (1 : Int))) + (1 : Int)), r24.2.2.2.2.2.2.2.2.2.2.2.1, r24.2.2.2.2.2.2.2.2.2.2.2.2.1, r24.2.2.2.2.2.2.2.2.2.2.2.2.2.1, r24.2.2.2.2.2.2.2.2.2.2.2.2.2.2.1, r24.2.2.2.2.2.2.2.2.2.2.2.2.2.2.2.1, ())) (Int.toNat i5) (r25.1, r25.2.1, r25.2.2.1, r25.2.2.2.1, r25.2.2.2.2.1, r25.2.2.2.2.2.1, r25.2.2.2.2.2.2.1, r25.2.2.2.2.2.2.2.1, r25.2.2.2.2.2.2.2.2.1, r25.2.2.2.2.2.2.2.2.2.1, r25.2.2.2.2.2.2.2.2.2.2.1, IntKind.i64.wrap ((IntKind.i64.wrap ((IntKind.i64.wrap ((IntKind.i64.wrap ((IntKind.i64.wrap (y15.1 + (1 : Int))) + (1 : Int))) + (1 : Int))) + (1 : Int))) + (1 : Int)), r25.2.2.2.2.2.2.2.2.2.2.2.2.1, r25.2.2.2.2.2.2.2.2.2.2.2.2.2.1, r25.2.2.2.2.2.2.2.2.2.2.2.2.2.2.1, r25.2.2.2.2.2.2.2.2.2.2.2.2.2.2.2.1, ()))
                                                  else none
                                                else none
                                              else none
                                            else none) (List.set (List.set l20 (Int.toNat i5) (r21.1, r21.2.1, r21.2.2.1, r21.2.2.2.1, r21.2.2.2.2.1, r21.2.2.2.2.2.1, r21.2.2.2.2.2.2.1, r21.2.2.2.2.2.2.2.1, IntKind.i64.wrap ((IntKind.i64.wrap (y15.1 + (1 : Int))) + (1 : Int)), r21.2.2.2.2.2.2.2.2.2.1, r21.2.2.2.2.2.2.2.2.2.2.1, r21.2.2.2.2.2.2.2.2.2.2.2.1, r21.2.2.2.2.2.2.2.2.2.2.2.2.1, r21.2.2.2.2.2.2.2.2.2.2.2.2.2.1, r21.2.2.2.2.2.2.2.2.2.2.2.2.2.2.1, r21.2.2.2.2.2.2.2.2.2.2.2.2.2.2.2.1, ())) (Int.toNat i5) (r22.1, r22.2.1, r22.2.2.1, r22.2.2.2.1, r22.2.2.2.2.1, r22.2.2.2.2.2.1, r22.2.2.2.2.2.2.1, r22.2.2.2.2.2.2.2.1, r22.2.2.2.2.2.2.2.2.1, IntKind.i64.wrap ((IntKind.i64.wrap ((IntKind.i64.wrap (y15.1 + (1 : Int))) + (1 : Int))) + (1 : Int)), r22.2.2.2.2.2.2.2.2.2.2.1, r22.2.2.2.2.2.2.2.2.2.2.2.1, r22.2.2.2.2.2.2.2.2.2.2.2.2.1, r22.2.2.2.2.2.2.2.2.2.2.2.2.2.1, r22.2.2.2.2.2.2.2.2.2.2.2.2.2.2.1, r22.2.2.2.2.2.2.2.2.2.2.2.2.2.2.2.1, ()))
                                          else none
                                        else none
                                      else none
                                    else none) (List.set (List.set l17 (Int.toNat i5) (r18.1, r18.2.1, r18.2.2.1, r18.2.2.2.1, r18.2.2.2.2.1, r18.2.2.2.2.2.1, y15.1, r18.2.2.2.2.2.2.2.1, r18.2.2.2.2.2.2.2.2.1, r18.2.2.2.2.2.2.2.2.2.1, r18.2.2.2.2.2.2.2.2.2.2.1, r18.2.2.2.2.2.2.2.2.2.2.2.1, r18.2.2.2.2.2.2.2.2.2.2.2.2.1, r18.2.2.2.2.2.2.2.2.2.2.2.2.2.1, r18.2.2.2.2.2.2.2.2.2.2.2.2.2.2.1, r18.2.2.2.2.2.2.2.2.2.2.2.2.2.2.2.1, ())) (Int.toNat i5) (r19.1, r19.2.1, r19.2.2.1, r19.2.2.2.1, r19.2.2.2.2.1, r19.2.2.2.2.2.1, r19.2.2.2.2.2.2.1, IntKind.i64.wrap (y15.1 + (1 : Int)), r19.2.2.2.2.2.2.2.2.1, r19.2.2.2.2.2.2.2.2.2.1, r19.2.2.2.2.2.2.2.2.2.2.1, r19.2.2.2.2.2.2.2.2.2.2.2.1, r19.2.2.2.2.2.2.2.2.2.2.2.2.1, r19.2.2.2.2.2.2.2.2.2.2.2.2.2.1, r19.2.2.2.2.2.2.2.2.2.2.2.2.2.2.1, r19.2.2.2.2.2.2.2.2.2.2.2.2.2.2.2.1, ()))
                                  else none
                                else none
                              else none
                            else none) (List.set (List.set l10 (Int.toNat i5) (r13.1, r13.2.1, r13.2.2.1, r13.2.2.2.1, y12.2.1, r13.2.2.2.2.2.1, r13.2.2.2.2.2.2.1, r13.2.2.2.2.2.2.2.1, r13.2.2.2.2.2.2.2.2.1, r13.2.2.2.2.2.2.2.2.2.1, r13.2.2.2.2.2.2.2.2.2.2.1, r13.2.2.2.2.2.2.2.2.2.2.2.1, r13.2.2.2.2.2.2.2.2.2.2.2.2.1, r13.2.2.2.2.2.2.2.2.2.2.2.2.2.1, r13.2.2.2.2.2.2.2.2.2.2.2.2.2.2.1, r13.2.2.2.2.2.2.2.2.2.2.2.2.2.2.2.1, ())) (Int.toNat i5) (r16.1, r16.2.1, r16.2.2.1, r16.2.2.2.1, r16.2.2.2.2.1, y15.2.1, r16.2.2.2.2.2.2.1, r16.2.2.2.2.2.2.2.1, r16.2.2.2.2.2.2.2.2.1, r16.2.2.2.2.2.2.2.2.2.1, r16.2.2.2.2.2.2.2.2.2.2.1, r16.2.2.2.2.2.2.2.2.2.2.2.1, r16.2.2.2.2.2.2.2.2.2.2.2.2.1, r16.2.2.2.2.2.2.2.2.2.2.2.2.2.1, r16.2.2.2.2.2.2.2.2.2.2.2.2.2.2.1, r16.2.2.2.2.2.2.2.2.2.2.2.2.2.2.2.1, ()))
                          else none
                        else none
                      else none
                    else none) (List.set (List.set l3 (Int.toNat i5) (r6.1, r6.2.1, y5.2.1, r6.2.2.2.1, r6.2.2.2.2.1, r6.2.2.2.2.2.1, r6.2.2.2.2.2.2.1, r6.2.2.2.2.2.2.2.1, r6.2.2.2.2.2.2.2.2.1, r6.2.2.2.2.2.2.2.2.2.1, r6.2.2.2.2.2.2.2.2.2.2.1, r6.2.2.2.2.2.2.2.2.2.2.2.1, r6.2.2.2.2.2.2.2.2.2.2.2.2.1, r6.2.2.2.2.2.2.2.2.2.2.2.2.2.1, r6.2.2.2.2.2.2.2.2.2.2.2.2.2.2.1, r6.2.2.2.2.2.2.2.2.2.2.2.2.2.2.2.1, ())) (Int.toNat i5) (r9.1, r9.2.1, r9.2.2.1, y8.2.1, r9.2.2.2.2.1, r9.2.2.2.2.2.1, r9.2.2.2.2.2.2.1, r9.2.2.2.2.2.2.2.1, r9.2.2.2.2.2.2.2.2.1, r9.2.2.2.2.2.2.2.2.2.1, r9.2.2.2.2.2.2.2.2.2.2.1, r9.2.2.2.2.2.2.2.2.2.2.2.1, r9.2.2.2.2.2.2.2.2.2.2.2.2.1, r9.2.2.2.2.2.2.2.2.2.2.2.2.2.1, r9.2.2.2.2.2.2.2.2.2.2.2.2.2.2.1, r9.2.2.2.2.2.2.2.2.2.2.2.2.2.2.2.1, ()))
                  else none
                else none
              else none
            else none) (List.set (List.set a0 (Int.toNat i5) (k1, r1.2.1, r1.2.2.1, r1.2.2.2.1, r1.2.2.2.2.1, r1.2.2.2.2.2.1, r1.2.2.2.2.2.2.1, r1.2.2.2.2.2.2.2.1, r1.2.2.2.2.2.2.2.2.1, r1.2.2.2.2.2.2.2.2.2.1, r1.2.2.2.2.2.2.2.2.2.2.1, r1.2.2.2.2.2.2.2.2.2.2.2.1, r1.2.2.2.2.2.2.2.2.2.2.2.2.1, r1.2.2.2.2.2.2.2.2.2.2.2.2.2.1, r1.2.2.2.2.2.2.2.2.2.2.2.2.2.2.1, r1.2.2.2.2.2.2.2.2.2.2.2.2.2.2.2.1, ())) (Int.toNat i5) (r2.1, IntKind.i64.wrap (k1 + (1 : Int)), r2.2.2.1, r2.2.2.2.1, r2.2.2.2.2.1, r2.2.2.2.2.2.1, r2.2.2.2.2.2.2.1, r2.2.2.2.2.2.2.2.1, r2.2.2.2.2.2.2.2.2.1, r2.2.2.2.2.2.2.2.2.2.1, r2.2.2.2.2.2.2.2.2.2.2.1, r2.2.2.2.2.2.2.2.2.2.2.2.1, r2.2.2.2.2.2.2.2.2.2.2.2.2.1, r2.2.2.2.2.2.2.2.2.2.2.2.2.2.1, r2.2.2.2.2.2.2.2.2.2.2.2.2.2.2.1, r2.2.2.2.2.2.2.2.2.2.2.2.2.2.2.2.1, ()))
          else none
        else none
      else none
    else none
  else
    some (.inr (.inl (a0, k1, ())))
noncomputable def laws_markMateS_r0 (x : H76_0) : Option (Sum H76_0 (Sum E76_0 Q76_0)) := laws_markMateS_c0 x.1 x.2.1 x.2.2.1
noncomputable def L76 {R : Type} : Loops R := fun id _ st k => bif Nat.beq id 0 then loopAt hp76_0 e76_0 q76_0 laws_markMateS_r0 st k else none
noncomputable def laws_markMateS (a0 : List R_iiLiELiiisELiELsEiiiiiiiiiLiE) (k1 : Int) : Option (Int × (List R_iiLiELiiisELiELsEiiiiiiiiiLiE) × Unit) :=
  outK (loopV laws_markMateS_r0 (a0, k1, (0 : Int), ())) (fun y1 =>
    some (y1.2.1, y1.1, ())) (fun y2 =>
    none)
noncomputable def x76 (x : (List R_iiLiELiiisELiELsEiiiiiiiiiLiE) × Int × Unit) : Option (Int × (List R_iiLiELiiisELiELsEiiiiiiiiiLiE) × Unit) := laws_markMateS x.1 x.2.1
noncomputable def sem76 : Sem1 := semOf ps76 rs76 x76
theorem so76 : SemsOk Try.prog (semsOf sl76) := sems_cons k75 (sems_cons k35 (sems_cons k142 (sems_nil)))
noncomputable def b76_0 : Code := nthLoop code76 0
theorem t76_r0_eq (x : denR (headRT hp76_0)) : codeK (tabOf tr) (semsOf sl76) D76 L76 b76_0 (headSt hp76_0 x) (roundK 0 hp76_0 e76_0 q76_0) = laws_markMateS_r0 x := by kernel_rfl
theorem loop76_0 {R : Type} (r : R) (w0 : World) (mu : Mu) (hs : AnShape ps76 mu) : LoopAt Try.prog w0 mu 133 (L76 : Loops R) r 0 b76_0 :=
  loop_auto tr_ok eq_ok mixed_ok so76 (D := D76) hs (by kernel_rfl) (fun _ => (loops_of (l := []) (by kernel_rfl) (List.forall_mem_nil _))) t76_r0_eq (fun _ _ => rfl)
theorem t76_eq (x : denR (headRT (ps76.map some))) : codeK (tabOf tr) (semsOf sl76) D76 L76 code76 (start 133 ps76 x) (finK rs76 ps76) = x76 x := by kernel_rfl
theorem k76 : Known Try.prog 76 sem76 :=
  fn_auto tr_ok eq_ok mixed_ok so76 (D := D76) (code := code76) (n := 133) Try.func76 (by kernel_rfl) (by kernel_rfl) (by kernel_rfl) (fun w0 mu _ hs => (loops_of (l := [(0, b76_0)]) (by kernel_rfl) (List.forall_mem_cons.2 ⟨loop76_0 _ w0 mu hs, (List.forall_mem_nil _)⟩))) t76_eq

/-! ### f77: laws.markFlyS -/
noncomputable def code77 : Code := match Try.f77.body with | some c => c | none => .skip
def ps77 : List AP := [.io T_ibiiiiiLiEiiis .dp, .val false [.int .i64]]
def rs77 : List RP := [{ src := .tmp 4, agg := false, ps := [.int .i64] }]
noncomputable def sl77 : SemL := [(75, (.io, .shr, .shr, sem75)), (107, (.shr, .shr, .shr, sem107))]
def D77 : Draws := fun _ => .nil
def hp77_0 : List (Option AP) := [some (.io T_ibiiiiiLiEiiis .dp), some (.val false [.int .i64]), none, none, none, some (.val false [.int .i64]), none, none, none, none, none, none, none, none, none, none, none, none, none, none, none, none, none, none, none, none, none, none, none, none, none, none, none, none, none, none, none, none, none, none, none, none, none, none, none, none, none, none, none, none, none, none, none, none, none, none, none, none, none, none, none, none, none, none, none, none, none, none, none, none, none, none, none, none, none, none, none, none, none, none, none, none, none, none, none, none, none, none, none, none, none, none, none, none, none, none, none, none, none, none, none, none, none, none, none, none, none, none, none, none, none]
def e77_0 : List (Option AP) := [some (.io T_ibiiiiiLiEiiis .dp), some (.val false [.int .i64]), none, none, none, none, none, none, none, none, none, none, none, none, none, none, none, none, none, none, none, none, none, none, none, none, none, none, none, none, none, none, none, none, none, none, none, none, none, none, none, none, none, none, none, none, none, none, none, none, none, none, none, none, none, none, none, none, none, none, none, none, none, none, none, none, none, none, none, none, none, none, none, none, none, none, none, none, none, none, none, none, none, none, none, none, none, none, none, none, none, none, none, none, none, none, none, none, none, none, none, none, none, none, none, none, none, none, none, none, none]
def q77_0 : List (Option AP) := [none, none, none, none, none, none, none, none, none, none, none, none, none, none, none, none, none, none, none, none, none, none, none, none, none, none, none, none, none, none, none, none, none, none, none, none, none, none, none, none, none, none, none, none, none, none, none, none, none, none, none, none, none, none, none, none, none, none, none, none, none, none, none, none, none, none, none, none, none, none, none, none, none, none, none, none, none, none, none, none, none, none, none, none, none, none, none, none, none, none, none, none, none, none, none, none, none, none, none, none, none, none, none, none, none, none, none, none, none, none, none]
abbrev H77_0 : Type := (List R_ibiiiiiLiEiiis) × Int × Int × Unit
abbrev E77_0 : Type := (List R_ibiiiiiLiEiiis) × Int × Unit
abbrev Q77_0 : Type := Unit
noncomputable def laws_markFlyS_c0 (a0 : List R_ibiiiiiLiEiiis) (k1 : Int) (i5 : Int) : Option (Sum H77_0 (Sum E77_0 Q77_0)) :=
  bif decide (i5 < ((List.length a0 : Nat) : Int)) then
    bif decide ((0 : Int) ≤ i5) then bif Nat.blt (Int.toNat i5) (List.length a0) then Option.bind ((a0)[Int.toNat i5]?) fun r1 =>
        bif decide ((0 : Int) ≤ i5) then bif Nat.blt (Int.toNat i5) (List.length (List.set a0 (Int.toNat i5) (k1, r1.2.1, r1.2.2.1, r1.2.2.2.1, r1.2.2.2.2.1, r1.2.2.2.2.2.1, r1.2.2.2.2.2.2.1, r1.2.2.2.2.2.2.2.1, r1.2.2.2.2.2.2.2.2.1, r1.2.2.2.2.2.2.2.2.2.1, r1.2.2.2.2.2.2.2.2.2.2.1, r1.2.2.2.2.2.2.2.2.2.2.2.1, ()))) then Option.bind ((List.set a0 (Int.toNat i5) (k1, r1.2.1, r1.2.2.1, r1.2.2.2.1, r1.2.2.2.2.1, r1.2.2.2.2.2.1, r1.2.2.2.2.2.2.1, r1.2.2.2.2.2.2.2.1, r1.2.2.2.2.2.2.2.2.1, r1.2.2.2.2.2.2.2.2.2.1, r1.2.2.2.2.2.2.2.2.2.2.1, r1.2.2.2.2.2.2.2.2.2.2.2.1, ()))[Int.toNat i5]?) fun r2 =>
            bif decide ((0 : Int) ≤ i5) then bif Nat.blt (Int.toNat i5) (List.length (List.set (List.set a0 (Int.toNat i5) (k1, r1.2.1, r1.2.2.1, r1.2.2.2.1, r1.2.2.2.2.1, r1.2.2.2.2.2.1, r1.2.2.2.2.2.2.1, r1.2.2.2.2.2.2.2.1, r1.2.2.2.2.2.2.2.2.1, r1.2.2.2.2.2.2.2.2.2.1, r1.2.2.2.2.2.2.2.2.2.2.1, r1.2.2.2.2.2.2.2.2.2.2.2.1, ())) (Int.toNat i5) (r2.1, decide (Int.tmod (IntKind.i64.wrap (k1 + (1 : Int))) (3 : Int) = (0 : Int)), r2.2.2.1, r2.2.2.2.1, r2.2.2.2.2.1, r2.2.2.2.2.2.1, r2.2.2.2.2.2.2.1, r2.2.2.2.2.2.2.2.1, r2.2.2.2.2.2.2.2.2.1, r2.2.2.2.2.2.2.2.2.2.1, r2.2.2.2.2.2.2.2.2.2.2.1, r2.2.2.2.2.2.2.2.2.2.2.2.1, ()))) then Option.bind ((List.set (List.set a0 (Int.toNat i5) (k1, r1.2.1, r1.2.2.1, r1.2.2.2.1, r1.2.2.2.2.1, r1.2.2.2.2.2.1, r1.2.2.2.2.2.2.1, r1.2.2.2.2.2.2.2.1, r1.2.2.2.2.2.2.2.2.1, r1.2.2.2.2.2.2.2.2.2.1, r1.2.2.2.2.2.2.2.2.2.2.1, r1.2.2.2.2.2.2.2.2.2.2.2.1, ())) (Int.toNat i5) (r2.1, decide (Int.tmod (IntKind.i64.wrap (k1 + (1 : Int))) (3 : Int) = (0 : Int)), r2.2.2.1, r2.2.2.2.1, r2.2.2.2.2.1, r2.2.2.2.2.2.1, r2.2.2.2.2.2.2.1, r2.2.2.2.2.2.2.2.1, r2.2.2.2.2.2.2.2.2.1, r2.2.2.2.2.2.2.2.2.2.1, r2.2.2.2.2.2.2.2.2.2.2.1, r2.2.2.2.2.2.2.2.2.2.2.2.1, ()))[Int.toNat i5]?) fun r3 =>
                (fun l4 : List (Int × Bool × Int × Int × Int × Int × Int × (List (Int × Unit)) × Int × Int × Int × ByteArray × Unit) =>
                bif decide ((0 : Int) ≤ i5) then bif Nat.blt (Int.toNat i5) (List.length l4) then Option.bind ((l4)[Int.toNat i5]?) fun r5 =>
                    bif decide ((0 : Int) ≤ i5) then bif Nat.blt (Int.toNat i5) (List.length (List.set l4 (Int.toNat i5) (r5.1, r5.2.1, r5.2.2.1, IntKind.i64.wrap ((IntKind.i64.wrap ((IntKind.i64.wrap (k1 + (1 : Int))) + (1 : Int))) + (1 : Int)), r5.2.2.2.2.1, r5.2.2.2.2.2.1, r5.2.2.2.2.2.2.1, r5.2.2.2.2.2.2.2.1, r5.2.2.2.2.2.2.2.2.1, r5.2.2.2.2.2.2.2.2.2.1, r5.2.2.2.2.2.2.2.2.2.2.1, r5.2.2.2.2.2.2.2.2.2.2.2.1, ()))) then Option.bind ((List.set l4 (Int.toNat i5) (r5.1, r5.2.1, r5.2.2.1, IntKind.i64.wrap ((IntKind.i64.wrap ((IntKind.i64.wrap (k1 + (1 : Int))) + (1 : Int))) + (1 : Int)), r5.2.2.2.2.1, r5.2.2.2.2.2.1, r5.2.2.2.2.2.2.1, r5.2.2.2.2.2.2.2.1, r5.2.2.2.2.2.2.2.2.1, r5.2.2.2.2.2.2.2.2.2.1, r5.2.2.2.2.2.2.2.2.2.2.1, r5.2.2.2.2.2.2.2.2.2.2.2.1, ()))[Int.toNat i5]?) fun r6 =>
                        (fun l7 : List (Int × Bool × Int × Int × Int × Int × Int × (List (Int × Unit)) × Int × Int × Int × ByteArray × Unit) =>
                        bif decide ((0 : Int) ≤ i5) then bif Nat.blt (Int.toNat i5) (List.length l7) then Option.bind ((l7)[Int.toNat i5]?) fun r8 =>
                            bif decide ((0 : Int) ≤ i5) then bif Nat.blt (Int.toNat i5) (List.length (List.set l7 (Int.toNat i5) (r8.1, r8.2.1, r8.2.2.1, r8.2.2.2.1, r8.2.2.2.2.1, IntKind.i64.wrap ((IntKind.i64.wrap ((IntKind.i64.wrap ((IntKind.i64.wrap ((IntKind.i64.wrap (k1 + (1 : Int))) + (1 : Int))) + (1 : Int))) + (1 : Int))) + (1 : Int)), r8.2.2.2.2.2.2.1, r8.2.2.2.2.2.2.2.1, r8.2.2.2.2.2.2.2.2.1, r8.2.2.2.2.2.2.2.2.2.1, r8.2.2.2.2.2.2.2.2.2.2.1, r8.2.2.2.2.2.2.2.2.2.2.2.1, ()))) then Option.bind ((List.set l7 (Int.toNat i5) (r8.1, r8.2.1, r8.2.2.1, r8.2.2.2.1, r8.2.2.2.2.1, IntKind.i64.wrap ((IntKind.i64.wrap ((IntKind.i64.wrap ((IntKind.i64.wrap ((IntKind.i64.wrap (k1 + (1 : Int))) + (1 : Int))) + (1 : Int))) + (1 : Int))) + (1 : Int)), r8.2.2.2.2.2.2.1, r8.2.2.2.2.2.2.2.1, r8.2.2.2.2.2.2.2.2.1, r8.2.2.2.2.2.2.2.2.2.1, r8.2.2.2.2.2.2.2.2.2.2.1, r8.2.2.2.2.2.2.2.2.2.2.2.1, ()))[Int.toNat i5]?) fun r9 =>
                                (fun l10 : List (Int × Bool × Int × Int × Int × Int × Int × (List (Int × Unit)) × Int × Int × Int × ByteArray × Unit) =>
                                bif decide ((0 : Int) ≤ i5) then bif Nat.blt (Int.toNat i5) (List.length l10) then Option.bind ((l10)[Int.toNat i5]?) fun r11 =>
                                    Option.bind (laws_markIntS r11.2.2.2.2.2.2.2.1 (IntKind.i64.wrap ((IntKind.i64.wrap ((IntKind.i64.wrap ((IntKind.i64.wrap ((IntKind.i64.wrap ((IntKind.i64.wrap ((IntKind.i64.wrap (k1 + (1 : Int))) + (1 : Int))) + (1 : Int))) + (1 : Int))) + (1 : Int))) + (1 : Int))) + (1 : Int)))) fun y12 =>
                                    Option.bind ((l10)[Int.toNat i5]?) fun r13 =>
                                    bif decide ((0 : Int) ≤ i5) then bif Nat.blt (Int.toNat i5) (List.length (List.set l10 (Int.toNat i5) (r13.1, r13.2.1, r13.2.2.1, r13.2.2.2.1, r13.2.2.2.2.1, r13.2.2.2.2.2.1, r13.2.2.2.2.2.2.1, y12.2.1, r13.2.2.2.2.2.2.2.2.1, r13.2.2.2.2.2.2.2.2.2.1, r13.2.2.2.2.2.2.2.2.2.2.1, r13.2.2.2.2.2.2.2.2.2.2.2.1, ()))) then Option.bind ((List.set l10 (Int.toNat i5) (r13.1, r13.2.1, r13.2.2.1, r13.2.2.2.1, r13.2.2.2.2.1, r13.2.2.2.2.2.1, r13.2.2.2.2.2.2.1, y12.2.1, r13.2.2.2.2.2.2.2.2.1, r13.2.2.2.2.2.2.2.2.2.1, r13.2.2.2.2.2.2.2.2.2.2.1, r13.2.2.2.2.2.2.2.2.2.2.2.1, ()))[Int.toNat i5]?) fun r14 =>
                                        bif decide ((0 : Int) ≤ i5) then bif Nat.blt (Int.toNat i5) (List.length (List.set (List.set l10 (Int.toNat i5) (r13.1, r13.2.1, r13.2.2.1, r13.2.2.2.1, r13.2.2.2.2.1, r13.2.2.2.2.2.1, r13.2.2.2.2.2.2.1, y12.2.1, r13.2.2.2.2.2.2.2.2.1, r13.2.2.2.2.2.2.2.2.2.1, r13.2.2.2.2.2.2.2.2.2.2.1, r13.2.2.2.2.2.2.2.2.2.2.2.1, ())) (Int.toNat i5) (r14.1, r14.2.1, r14.2.2.1, r14.2.2.2.1, r14.2.2.2.2.1, r14.2.2.2.2.2.1, r14.2.2.2.2.2.2.1, r14.2.2.2.2.2.2.2.1, y12.1, r14.2.2.2.2.2.2.2.2.2.1, r14.2.2.2.2.2.2.2.2.2.2.1, r14.2.2.2.2.2.2.2.2.2.2.2.1, ()))) then Option.bind ((List.set (List.set l10 (Int.toNat i5) (r13.1, r13.2.1, r13.2.2.1, r13.2.2.2.1, r13.2.2.2.2.1, r13.2.2.2.2.2.1, r13.2.2.2.2.2.2.1, y12.2.1, r13.2.2.2.2.2.2.2.2.1, r13.2.2.2.2.2.2.2.2.2.1, r13.2.2.2.2.2.2.2.2.2.2.1, r13.2.2.2.2.2.2.2.2.2.2.2.1, ())) (Int.toNat i5) (r14.1, r14.2.1, r14.2.2.1, r14.2.2.2.1, r14.2.2.2.2.1, r14.2.2.2.2.2.1, r14.2.2.2.2.2.2.1, r14.2.2.2.2.2.2.2.1, y12.1, r14.2.2.2.2.2.2.2.2.2.1, r14.2.2.2.2.2.2.2.2.2.2.1, r14.2.2.2.2.2.2.2.2.2.2.2.1, ()))[Int.toNat i5]?) fun r15 =>
                                            (fun l16 : List (Int × Bool × Int × Int × Int × Int × Int × (List (Int × Unit)) × Int × Int × Int × ByteArray × Unit) =>
                                            bif decide ((0 : Int) ≤ i5) then bif Nat.blt (Int.toNat i5) (List.length l16) then Option.bind ((l16)[Int.toNat i5]?) fun r17 =>
                                                Option.bind (laws_markText (IntKind.i64.wrap ((IntKind.i64.wrap ((IntKind.i64.wrap (y12.1 + (1 : Int))) + (1 : Int))) + (1 : Int)))) fun y18 =>
                                                bif decide ((0 : Int) ≤ i5) then bif Nat.blt (Int.toNat i5) (List.length (List.set l16 (Int.toNat i5) (r17.1, r17.2.1, r17.2.2.1, r17.2.2.2.1, r17.2.2.2.2.1, r17.2.2.2.2.2.1, r17.2.2.2.2.2.2.1, r17.2.2.2.2.2.2.2.1, r17.2.2.2.2.2.2.2.2.1, r17.2.2.2.2.2.2.2.2.2.1, IntKind.i64.wrap ((IntKind.i64.wrap (y12.1 + (1 : Int))) + (1 : Int)), r17.2.2.2.2.2.2.2.2.2.2.2.1, ()))) then Option.bind ((List.set l16 (Int.toNat i5) (r17.1, r17.2.1, r17.2.2.1, r17.2.2.2.1, r17.2.2.2.2.1, r17.2.2.2.2.2.1, r17.2.2.2.2.2.2.1, r17.2.2.2.2.2.2.2.1, r17.2.2.2.2.2.2.2.2.1, r17.2.2.2.2.2.2.2.2.2.1, IntKind.i64.wrap ((IntKind.i64.wrap (y12.1 + (1 : Int))) + (1 : Int)), r17.2.2.2.2.2.2.2.2.2.2.2.1, ()))[Int.toNat i5]?) fun r19 =>
                                                    some (.inl (List.set (List.set l16 (Int.toNat i5) (r17.1, r17.2.1, r17.2.2.1, r17.2.2.2.1, r17.2.2.2.2.1, r17.2.2.2.2.2.1, r17.2.2.2.2.2.2.1, r17.2.2.2.2.2.2.2.1, r17.2.2.2.2.2.2.2.2.1, r17.2.2.2.2.2.2.2.2.2.1, IntKind.i64.wrap ((IntKind.i64.wrap (y12.1 + (1 : Int))) + (1 : Int)), r17.2.2.2.2.2.2.2.2.2.2.2.1, ())) (Int.toNat i5) (r19.1, r19.2.1, r19.2.2.1, r19.2.2.2.1, r19.2.2.2.2.1, r19.2.2.2.2.2.1, r19.2.2.2.2.2.2.1, r19.2.2.2.2.2.2.2.1, r19.2.2.2.2.2.2.2.2.1, r19.2.2.2.2.2.2.2.2.2.1, r19.2.2.2.2.2.2.2.2.2.2.1, y18.1, ()), IntKind.i64.wrap ((IntKind.i64.wrap ((IntKind.i64.wrap ((IntKind.i64.wrap (y12.1 + (1 : Int))) + (1 : Int))) + (1 : Int))) + (1 : Int)), IntKind.i64.wrap (i5 + (1 : Int)), ()))
                                                  else none
                                                else none
                                              else none
                                            else none) (List.set (List.set (List.set l10 (Int.toNat i5) (r13.1, r13.2.1, r13.2.2.1, r13.2.2.2.1, r13.2.2.2.2.1, r13.2.2.2.2.2.1, r13.2.2.2.2.2.2.1, y12.2.1, r13.2.2.2.2.2.2.2.2.1, r13.2.2.2.2.2.2.2.2.2.1, r13.2.2.2.2.2.2.2.2.2.2.1, r13.2.2.2.2.2.2.2.2.2.2.2.1, ())) (Int.toNat i5) (r14.1, r14.2.1, r14.2.2.1, r14.2.2.2.1, r14.2.2.2.2.1, r14.2.2.2.2.2.1, r14.2.2.2.2.2.2.1, r14.2.2.2.2.2.2.2.1, y12.1, r14.2.2.2.2.2.2.2.2.2.1, r14.2.2.2.2.2.2.2.2.2.2.1, r14.2.2.2.2.2.2.2.2.2.2.2.1, ())) (Int.toNat i5) (r15.1, r15.2.1, r15.2.2.1, r15.2.2.2.1, r15.2.2.2.2.1, r15.2.2.2.2.2.1, r15.2.2.2.2.2.2.1, r15.2.2.2.2.2.2.2.1, r15.2.2.2.2.2.2.2.2.1, IntKind.i64.wrap (y12.1 + (1 : Int)), r15.2.2.2.2.2.2.2.2.2.2.1, r15.2.2.2.2.2.2.2.2.2.2.2.1, ()))
                                          else none
                                        else none
                                      else none
                                    else none
                                  else none
                                else none) (List.set (List.set l7 (Int.toNat i5) (r8.1, r8.2.1, r8.2.2.1, r8.2.2.2.1, r8.2.2.2.2.1, IntKind.i64.wrap ((IntKind.i64.wrap ((IntKind.i64.wrap ((IntKind.i64.wrap ((IntKind.i64.wrap (k1 + (1 : Int))) + (1 : Int))) + (1 : Int))) + (1 : Int))) + (1 : Int)), r8.2.2.2.2.2.2.1, r8.2.2.2.2.2.2.2.1, r8.2.2.2.2.2.2.2.2.1, r8.2.2.2.2.2.2.2.2.2.1, r8.2.2.2.2.2.2.2.2.2.2.1, r8.2.2.2.2.2.2.2.2.2.2.2.1, ())) (Int.toNat i5) (r9.1, r9.2.1, r9.2.2.1, r9.2.2.2.1, r9.2.2.2.2.1, r9.2.2.2.2.2.1, IntKind.i64.wrap ((IntKind.i64.wrap ((IntKind.i64.wrap ((IntKind.i64.wrap ((IntKind.i64.wrap ((IntKind.i64.wrap (k1 + (1 : Int))) + (1 : Int))) + (1 : Int))) + (1 : Int))) + (1 : Int))) + (1 : Int)), r9.2.2.2.2.2.2.2.1, r9.2.2.2.2.2.2.2.2.1, r9.2.2.2.2.2.2.2.2.2.1, r9.2.2.2.2.2.2.2.2.2.2.1, r9.2.2.2.2.2.2.2.2.2.2.2.1, ()))
                              else none
                            else none
                          else none
                        else none) (List.set (List.set l4 (Int.toNat i5) (r5.1, r5.2.1, r5.2.2.1, IntKind.i64.wrap ((IntKind.i64.wrap ((IntKind.i64.wrap (k1 + (1 : Int))) + (1 : Int))) + (1 : Int)), r5.2.2.2.2.1, r5.2.2.2.2.2.1, r5.2.2.2.2.2.2.1, r5.2.2.2.2.2.2.2.1, r5.2.2.2.2.2.2.2.2.1, r5.2.2.2.2.2.2.2.2.2.1, r5.2.2.2.2.2.2.2.2.2.2.1, r5.2.2.2.2.2.2.2.2.2.2.2.1, ())) (Int.toNat i5) (r6.1, r6.2.1, r6.2.2.1, r6.2.2.2.1, IntKind.i64.wrap ((IntKind.i64.wrap ((IntKind.i64.wrap ((IntKind.i64.wrap (k1 + (1 : Int))) + (1 : Int))) + (1 : Int))) + (1 : Int)), r6.2.2.2.2.2.1, r6.2.2.2.2.2.2.1, r6.2.2.2.2.2.2.2.1, r6.2.2.2.2.2.2.2.2.1, r6.2.2.2.2.2.2.2.2.2.1, r6.2.2.2.2.2.2.2.2.2.2.1, r6.2.2.2.2.2.2.2.2.2.2.2.1, ()))
                      else none
                    else none
                  else none
                else none) (List.set (List.set (List.set a0 (Int.toNat i5) (k1, r1.2.1, r1.2.2.1, r1.2.2.2.1, r1.2.2.2.2.1, r1.2.2.2.2.2.1, r1.2.2.2.2.2.2.1, r1.2.2.2.2.2.2.2.1, r1.2.2.2.2.2.2.2.2.1, r1.2.2.2.2.2.2.2.2.2.1, r1.2.2.2.2.2.2.2.2.2.2.1, r1.2.2.2.2.2.2.2.2.2.2.2.1, ())) (Int.toNat i5) (r2.1, decide (Int.tmod (IntKind.i64.wrap (k1 + (1 : Int))) (3 : Int) = (0 : Int)), r2.2.2.1, r2.2.2.2.1, r2.2.2.2.2.1, r2.2.2.2.2.2.1, r2.2.2.2.2.2.2.1, r2.2.2.2.2.2.2.2.1, r2.2.2.2.2.2.2.2.2.1, r2.2.2.2.2.2.2.2.2.2.1, r2.2.2.2.2.2.2.2.2.2.2.1, r2.2.2.2.2.2.2.2.2.2.2.2.1, ())) (Int.toNat i5) (r3.1, r3.2.1, IntKind.i64.wrap ((IntKind.i64.wrap (k1 + (1 : Int))) + (1 : Int)), r3.2.2.2.1, r3.2.2.2.2.1, r3.2.2.2.2.2.1, r3.2.2.2.2.2.2.1, r3.2.2.2.2.2.2.2.1, r3.2.2.2.2.2.2.2.2.1, r3.2.2.2.2.2.2.2.2.2.1, r3.2.2.2.2.2.2.2.2.2.2.1, r3.2.2.2.2.2.2.2.2.2.2.2.1, ()))
              else none
            else none
          else none
        else none
      else none
    else none
  else
    some (.inr (.inl (a0, k1, ())))
noncomputable def laws_markFlyS_r0 (x : H77_0) : Option (Sum H77_0 (Sum E77_0 Q77_0)) := laws_markFlyS_c0 x.1 x.2.1 x.2.2.1
noncomputable def L77 {R : Type} : Loops R := fun id _ st k => bif Nat.beq id 0 then loopAt hp77_0 e77_0 q77_0 laws_markFlyS_r0 st k else none
noncomputable def laws_markFlyS (a0 : List R_ibiiiiiLiEiiis) (k1 : Int) : Option (Int × (List R_ibiiiiiLiEiiis) × Unit) :=
  outK (loopV laws_markFlyS_r0 (a0, k1, (0 : Int), ())) (fun y1 =>
    some (y1.2.1, y1.1, ())) (fun y2 =>
    none)
noncomputable def x77 (x : (List R_ibiiiiiLiEiiis) × Int × Unit) : Option (Int × (List R_ibiiiiiLiEiiis) × Unit) := laws_markFlyS x.1 x.2.1
noncomputable def sem77 : Sem1 := semOf ps77 rs77 x77
theorem so77 : SemsOk Try.prog (semsOf sl77) := sems_cons k75 (sems_cons k107 (sems_nil))
noncomputable def b77_0 : Code := nthLoop code77 0
theorem t77_r0_eq (x : denR (headRT hp77_0)) : codeK (tabOf tr) (semsOf sl77) D77 L77 b77_0 (headSt hp77_0 x) (roundK 0 hp77_0 e77_0 q77_0) = laws_markFlyS_r0 x := by kernel_rfl
theorem loop77_0 {R : Type} (r : R) (w0 : World) (mu : Mu) (hs : AnShape ps77 mu) : LoopAt Try.prog w0 mu 110 (L77 : Loops R) r 0 b77_0 :=
  loop_auto tr_ok eq_ok mixed_ok so77 (D := D77) hs (by kernel_rfl) (fun _ => (loops_of (l := []) (by kernel_rfl) (List.forall_mem_nil _))) t77_r0_eq (fun _ _ => rfl)
theorem t77_eq (x : denR (headRT (ps77.map some))) : codeK (tabOf tr) (semsOf sl77) D77 L77 code77 (start 110 ps77 x) (finK rs77 ps77) = x77 x := by kernel_rfl
theorem k77 : Known Try.prog 77 sem77 :=
  fn_auto tr_ok eq_ok mixed_ok so77 (D := D77) (code := code77) (n := 110) Try.func77 (by kernel_rfl) (by kernel_rfl) (by kernel_rfl) (fun w0 mu _ hs => (loops_of (l := [(0, b77_0)]) (by kernel_rfl) (List.forall_mem_cons.2 ⟨loop77_0 _ w0 mu hs, (List.forall_mem_nil _)⟩))) t77_eq

/-! ### f78: laws.markItemSS -/
noncomputable def code78 : Code := match Try.f78.body with | some c => c | none => .skip
def ps78 : List AP := [.io T_LiiisE .dp, .val false [.int .i64]]
def rs78 : List RP := [{ src := .tmp 4, agg := false, ps := [.int .i64] }]
noncomputable def sl78 : SemL := [(35, (.io, .shr, .shr, sem35))]
def D78 : Draws := fun _ => .nil
def hp78_0 : List (Option AP) := [some (.io T_LiiisE .dp), some (.val false [.int .i64]), none, none, none, some (.val false [.int .i64]), none, none, none, none, none, none, none, none, none, none, none, none, none, none]
def e78_0 : List (Option AP) := [some (.io T_LiiisE .dp), some (.val false [.int .i64]), none, none, none, none, none, none, none, none, none, none, none, none, none, none, none, none, none, none]
def q78_0 : List (Option AP) := [none, none, none, none, none, none, none, none, none, none, none, none, none, none, none, none, none, none, none, none]
abbrev H78_0 : Type := (List ((List R_iiis) × Unit)) × Int × Int × Unit
abbrev E78_0 : Type := (List ((List R_iiis) × Unit)) × Int × Unit
abbrev Q78_0 : Type := Unit
noncomputable def laws_markItemSS_c0 (a0 : List ((List R_iiis) × Unit)) (k1 : Int) (i5 : Int) : Option (Sum H78_0 (Sum E78_0 Q78_0)) :=
  bif decide (i5 < ((List.length a0 : Nat) : Int)) then
    bif decide ((0 : Int) ≤ i5) then bif Nat.blt (Int.toNat i5) (List.length a0) then Option.bind ((a0)[Int.toNat i5]?) fun r1 =>
        Option.bind (laws_markItemS r1.1 k1) fun y2 =>
        Option.bind ((a0)[Int.toNat i5]?) fun r3 =>
        some (.inl (List.set a0 (Int.toNat i5) (y2.2.1, ()), y2.1, IntKind.i64.wrap (i5 + (1 : Int)), ()))
      else none
    else none
  else
    some (.inr (.inl (a0, k1, ())))
noncomputable def laws_markItemSS_r0 (x : H78_0) : Option (Sum H78_0 (Sum E78_0 Q78_0)) := laws_markItemSS_c0 x.1 x.2.1 x.2.2.1
noncomputable def L78 {R : Type} : Loops R := fun id _ st k => bif Nat.beq id 0 then loopAt hp78_0 e78_0 q78_0 laws_markItemSS_r0 st k else none
noncomputable def laws_markItemSS (a0 : List ((List R_iiis) × Unit)) (k1 : Int) : Option (Int × (List ((List R_iiis) × Unit)) × Unit) :=
  outK (loopV laws_markItemSS_r0 (a0, k1, (0 : Int), ())) (fun y1 =>
    some (y1.2.1, y1.1, ())) (fun y2 =>
    none)
noncomputable def x78 (x : (List ((List R_iiis) × Unit)) × Int × Unit) : Option (Int × (List ((List R_iiis) × Unit)) × Unit) := laws_markItemSS x.1 x.2.1
noncomputable def sem78 : Sem1 := semOf ps78 rs78 x78
theorem so78 : SemsOk Try.prog (semsOf sl78) := sems_cons k35 (sems_nil)
noncomputable def b78_0 : Code := nthLoop code78 0
theorem t78_r0_eq (x : denR (headRT hp78_0)) : codeK (tabOf tr) (semsOf sl78) D78 L78 b78_0 (headSt hp78_0 x) (roundK 0 hp78_0 e78_0 q78_0) = laws_markItemSS_r0 x := by kernel_rfl
theorem loop78_0 {R : Type} (r : R) (w0 : World) (mu : Mu) (hs : AnShape ps78 mu) : LoopAt Try.prog w0 mu 19 (L78 : Loops R) r 0 b78_0 :=
  loop_auto tr_ok eq_ok mixed_ok so78 (D := D78) hs (by kernel_rfl) (fun _ => (loops_of (l := []) (by kernel_rfl) (List.forall_mem_nil _))) t78_r0_eq (fun _ _ => rfl)
theorem t78_eq (x : denR (headRT (ps78.map some))) : codeK (tabOf tr) (semsOf sl78) D78 L78 code78 (start 19 ps78 x) (finK rs78 ps78) = x78 x := by kernel_rfl
theorem k78 : Known Try.prog 78 sem78 :=
  fn_auto tr_ok eq_ok mixed_ok so78 (D := D78) (code := code78) (n := 19) Try.func78 (by kernel_rfl) (by kernel_rfl) (by kernel_rfl) (fun w0 mu _ hs => (loops_of (l := [(0, b78_0)]) (by kernel_rfl) (List.forall_mem_cons.2 ⟨loop78_0 _ w0 mu hs, (List.forall_mem_nil _)⟩))) t78_eq

/-! ### f17: laws.markWork -/
noncomputable def code17 : Code := match Try.f17.body with | some c => c | none => .skip
def ps17 : List AP := [.lend [.int .i64, .own T_i, .own T_iiLiELiiisELiELsEiiiiiiiiiLiE .dp, .own T_ibiiiiiLiEiiis .dp, .own T_LiiisE .dp, .own T_iiis], .val false [.int .i64]]
def rs17 : List RP := [{ src := .tmp 4, agg := false, ps := [.int .i64] }]
noncomputable def sl17 : SemL := [(16, (.lend, .shr, .shr, sem16)), (76, (.io, .shr, .shr, sem76)), (77, (.io, .shr, .shr, sem77)), (78, (.io, .shr, .shr, sem78)), (35, (.io, .shr, .shr, sem35))]
def D17 : Draws := fun _ => .nil
noncomputable def L17 {R : Type} : Loops R := fun _ _ _ _ => none
noncomputable def laws_markWork (a0c0 : Int) (a0c1 : List (Int × Unit)) (a0c2 : List R_iiLiELiiisELiELsEiiiiiiiiiLiE) (a0c3 : List R_ibiiiiiLiEiiis) (a0c4 : List ((List R_iiis) × Unit)) (a0c5 : List R_iiis) (k1 : Int) : Option (Int × (List (Int × Unit)) × (List R_iiLiELiiisELiELsEiiiiiiiiiLiE) × (List R_ibiiiiiLiEiiis) × (List ((List R_iiis) × Unit)) × (List R_iiis) × Unit) :=
  Option.bind (laws_markRing a0c0 a0c1 k1) fun y1 =>
  Option.bind (laws_markMateS a0c2 y1.1) fun y2 =>
  Option.bind (laws_markFlyS a0c3 y2.1) fun y3 =>
  Option.bind (laws_markItemSS a0c4 y3.1) fun y4 =>
  Option.bind (laws_markItemS a0c5 y4.1) fun y5 =>
  some (y5.1, y1.2.1, y2.2.1, y3.2.1, y4.2.1, y5.2.1, ())
noncomputable def x17 (x : Int × (List (Int × Unit)) × (List R_iiLiELiiisELiELsEiiiiiiiiiLiE) × (List R_ibiiiiiLiEiiis) × (List ((List R_iiis) × Unit)) × (List R_iiis) × Int × Unit) : Option (Int × (List (Int × Unit)) × (List R_iiLiELiiisELiELsEiiiiiiiiiLiE) × (List R_ibiiiiiLiEiiis) × (List ((List R_iiis) × Unit)) × (List R_iiis) × Unit) := laws_markWork x.1 x.2.1 x.2.2.1 x.2.2.2.1 x.2.2.2.2.1 x.2.2.2.2.2.1 x.2.2.2.2.2.2.1
noncomputable def sem17 : Sem1 := semOf ps17 rs17 x17
theorem so17 : SemsOk Try.prog (semsOf sl17) := sems_cons k16 (sems_cons k76 (sems_cons k77 (sems_cons k78 (sems_cons k35 (sems_nil)))))
theorem t17_eq (x : denR (headRT (ps17.map some))) : codeK (tabOf tr) (semsOf sl17) D17 L17 code17 (start 26 ps17 x) (finK rs17 ps17) = x17 x := by kernel_rfl
theorem k17 : Known Try.prog 17 sem17 :=
  fn_auto tr_ok eq_ok mixed_ok so17 (D := D17) (code := code17) (n := 26) Try.func17 (by kernel_rfl) (by kernel_rfl) (by kernel_rfl) (fun w0 mu _ hs => (loops_of (l := []) (by kernel_rfl) (List.forall_mem_nil _))) t17_eq

/-! ### f130: laws.heldIntS -/
noncomputable def code130 : Code := match Try.f130.body with | some c => c | none => .skip
def ps130 : List AP := [.val false [.shr T_i], .val false [.int .i64]]
def rs130 : List RP := [{ src := .tmp 4, agg := false, ps := [.int .i64] }]
noncomputable def sl130 : SemL := []
def D130 : Draws := fun _ => .nil
def hp130_0 : List (Option AP) := [some (.val false [.shr T_i]), some (.val false [.int .i64]), none, none, none, some (.val false [.int .i64]), none, none, none, none, none, none, none, none, none, none, none, none, none, none, none, none]
def e130_0 : List (Option AP) := [none, some (.val false [.int .i64]), none, none, none, none, none, none, none, none, none, none, none, none, none, none, none, none, none, none, none, none]
def q130_0 : List (Option AP) := [none, none, none, none, some (.val false [.int .i64]), none, none, none, none, none, none, none, none, none, none, none, none, none, none, none, none, none]
abbrev H130_0 : Type := (List (Int × Unit)) × Int × Int × Unit
abbrev E130_0 : Type := Int × Unit
abbrev Q130_0 : Type := Int × Unit
noncomputable def laws_heldIntS_c0 (a0 : List (Int × Unit)) (k1 : Int) (i5 : Int) : Option (Sum H130_0 (Sum E130_0 Q130_0)) :=
  bif decide (i5 < ((List.length a0 : Nat) : Int)) then
    bif decide ((0 : Int) ≤ i5) then Option.bind ((a0)[Int.toNat i5]?) fun r1 =>
      bif !decide (r1.1 = k1) then
        some (.inr (.inr ((-1 : Int), ())))
      else
        some (.inl (a0, IntKind.i64.wrap (k1 + (1 : Int)), IntKind.i64.wrap (i5 + (1 : Int)), ()))
    else none
  else
    some (.inr (.inl (k1, ())))
noncomputable def laws_heldIntS_r0 (x : H130_0) : Option (Sum H130_0 (Sum E130_0 Q130_0)) := laws_heldIntS_c0 x.1 x.2.1 x.2.2.1
noncomputable def L130 {R : Type} : Loops R := fun id _ st k => bif Nat.beq id 0 then loopAt hp130_0 e130_0 q130_0 laws_heldIntS_r0 st k else none
noncomputable def laws_heldIntS (a0 : List (Int × Unit)) (k1 : Int) : Option (Int × Unit) :=
  outK (loopV laws_heldIntS_r0 (a0, k1, (0 : Int), ())) (fun y1 =>
    some (y1.1, ())) (fun y2 =>
    some (y2.1, ()))
noncomputable def x130 (x : (List (Int × Unit)) × Int × Unit) : Option (Int × Unit) := laws_heldIntS x.1 x.2.1
noncomputable def sem130 : Sem1 := semOf ps130 rs130 x130
theorem so130 : SemsOk Try.prog (semsOf sl130) := sems_nil
noncomputable def b130_0 : Code := nthLoop code130 0
theorem t130_r0_eq (x : denR (headRT hp130_0)) : codeK (tabOf tr) (semsOf sl130) D130 L130 b130_0 (headSt hp130_0 x) (roundK 0 hp130_0 e130_0 q130_0) = laws_heldIntS_r0 x := by kernel_rfl
theorem loop130_0 {R : Type} (r : R) (w0 : World) (mu : Mu) (hs : AnShape ps130 mu) : LoopAt Try.prog w0 mu 21 (L130 : Loops R) r 0 b130_0 :=
  loop_auto tr_ok eq_ok mixed_ok so130 (D := D130) hs (by kernel_rfl) (fun _ => (loops_of (l := []) (by kernel_rfl) (List.forall_mem_nil _))) t130_r0_eq (fun _ _ => rfl)
theorem t130_eq (x : denR (headRT (ps130.map some))) : codeK (tabOf tr) (semsOf sl130) D130 L130 code130 (start 21 ps130 x) (finK rs130 ps130) = x130 x := by kernel_rfl
theorem k130 : Known Try.prog 130 sem130 :=
  fn_auto tr_ok eq_ok mixed_ok so130 (D := D130) (code := code130) (n := 21) Try.func130 (by kernel_rfl) (by kernel_rfl) (by kernel_rfl) (fun w0 mu _ hs => (loops_of (l := [(0, b130_0)]) (by kernel_rfl) (List.forall_mem_cons.2 ⟨loop130_0 _ w0 mu hs, (List.forall_mem_nil _)⟩))) t130_eq

/-! ### f79: laws.heldRing -/
noncomputable def code79 : Code := match Try.f79.body with | some c => c | none => .skip
def ps79 : List AP := [.val true [.int .i64, .shr T_i], .val false [.int .i64]]
def rs79 : List RP := [{ src := .tmp 4, agg := false, ps := [.int .i64] }]
noncomputable def sl79 : SemL := [(130, (.shr, .shr, .shr, sem130))]
def D79 : Draws := fun _ => .nil
noncomputable def L79 {R : Type} : Loops R := fun _ _ _ _ => none
noncomputable def laws_heldRing (a0c0 : Int) (a0c1 : List (Int × Unit)) (k1 : Int) : Option (Int × Unit) :=
  Option.bind (laws_heldIntS a0c1 k1) fun y1 =>
  bif decide (y1.1 < (0 : Int)) then
    some ((-1 : Int), ())
  else
    some (y1.1, ())
noncomputable def x79 (x : Int × (List (Int × Unit)) × Int × Unit) : Option (Int × Unit) := laws_heldRing x.1 x.2.1 x.2.2.1
noncomputable def sem79 : Sem1 := semOf ps79 rs79 x79
theorem so79 : SemsOk Try.prog (semsOf sl79) := sems_cons k130 (sems_nil)
theorem t79_eq (x : denR (headRT (ps79.map some))) : codeK (tabOf tr) (semsOf sl79) D79 L79 code79 (start 12 ps79 x) (finK rs79 ps79) = x79 x := by kernel_rfl
theorem k79 : Known Try.prog 79 sem79 :=
  fn_auto tr_ok eq_ok mixed_ok so79 (D := D79) (code := code79) (n := 12) Try.func79 (by kernel_rfl) (by kernel_rfl) (by kernel_rfl) (fun w0 mu _ hs => (loops_of (l := []) (by kernel_rfl) (List.forall_mem_nil _))) t79_eq

/-! ### f36: laws.heldItemS -/
noncomputable def code36 : Code := match Try.f36.body with | some c => c | none => .skip
def ps36 : List AP := [.val false [.shr T_iiis], .val false [.int .i64]]
def rs36 : List RP := [{ src := .tmp 4, agg := false, ps := [.int .i64] }]
noncomputable def sl36 : SemL := [(107, (.shr, .shr, .shr, sem107))]
def D36 : Draws := fun id => bif Nat.beq id 13 then .op 0 .any (.op 1 .any (.op 2 .any (.op 3 .any (.op 4 .take (.op 5 .any (.op 6 .one (.op 7 .any (.nil)))))))) else .nil
def hp36_0 : List (Option AP) := [some (.val false [.shr T_iiis]), some (.val false [.int .i64]), none, none, none, some (.val false [.int .i64]), none, none, none, none, none, none, none, none, none, none, none, none, none, none, none, none, none, none, none, none, none, none, none, none, none, none, none, none, none, none, none, none, none, none, none, none, none, none, none, none, none, none, none, none, none]
def e36_0 : List (Option AP) := [none, some (.val false [.int .i64]), none, none, none, none, none, none, none, none, none, none, none, none, none, none, none, none, none, none, none, none, none, none, none, none, none, none, none, none, none, none, none, none, none, none, none, none, none, none, none, none, none, none, none, none, none, none, none, none, none]
def q36_0 : List (Option AP) := [none, none, none, none, some (.val false [.int .i64]), none, none, none, none, none, none, none, none, none, none, none, none, none, none, none, none, none, none, none, none, none, none, none, none, none, none, none, none, none, none, none, none, none, none, none, none, none, none, none, none, none, none, none, none, none, none]
abbrev H36_0 : Type := (List R_iiis) × Int × Int × Unit
abbrev E36_0 : Type := Int × Unit
abbrev Q36_0 : Type := Int × Unit
noncomputable def laws_heldItemS_c0 (a0 : List R_iiis) (k1 : Int) (i5 : Int) : Option (Sum H36_0 (Sum E36_0 Q36_0)) :=
  bif decide (i5 < ((List.length a0 : Nat) : Int)) then
    bif decide ((0 : Int) ≤ i5) then Option.bind ((a0)[Int.toNat i5]?) fun r1 =>
      bif !decide (r1.1 = k1) then
        some (.inr (.inr ((-1 : Int), ())))
      else bif decide ((0 : Int) ≤ i5) then Option.bind ((a0)[Int.toNat i5]?) fun r2 =>
        bif !decide (r2.2.1 = IntKind.i64.wrap (k1 + (1 : Int))) then
          some (.inr (.inr ((-1 : Int), ())))
        else bif decide ((0 : Int) ≤ i5) then Option.bind ((a0)[Int.toNat i5]?) fun r3 =>
          bif !decide (r3.2.2.1 = IntKind.i64.wrap ((IntKind.i64.wrap (k1 + (1 : Int))) + (1 : Int))) then
            some (.inr (.inr ((-1 : Int), ())))
          else bif decide ((0 : Int) ≤ i5) then Option.bind ((a0)[Int.toNat i5]?) fun r4 =>
            Option.bind (laws_markText (IntKind.i64.wrap ((IntKind.i64.wrap ((IntKind.i64.wrap (k1 + (1 : Int))) + (1 : Int))) + (1 : Int)))) fun y5 =>
            bif !strEq r4.2.2.2.1 y5.1 then
              some (.inr (.inr ((-1 : Int), ())))
            else
              some (.inl (a0, IntKind.i64.wrap ((IntKind.i64.wrap ((IntKind.i64.wrap ((IntKind.i64.wrap (k1 + (1 : Int))) + (1 : Int))) + (1 : Int))) + (1 : Int)), IntKind.i64.wrap (i5 + (1 : Int)), ()))
          else none
        else none
      else none
    else none
  else
    some (.inr (.inl (k1, ())))
noncomputable def laws_heldItemS_r0 (x : H36_0) : Option (Sum H36_0 (Sum E36_0 Q36_0)) := laws_heldItemS_c0 x.1 x.2.1 x.2.2.1
noncomputable def L36 {R : Type} : Loops R := fun id _ st k => bif Nat.beq id 0 then loopAt hp36_0 e36_0 q36_0 laws_heldItemS_r0 st k else none
noncomputable def laws_heldItemS (a0 : List R_iiis) (k1 : Int) : Option (Int × Unit) :=
  outK (loopV laws_heldItemS_r0 (a0, k1, (0 : Int), ())) (fun y1 =>
    some (y1.1, ())) (fun y2 =>
    some (y2.1, ()))
noncomputable def x36 (x : (List R_iiis) × Int × Unit) : Option (Int × Unit) := laws_heldItemS x.1 x.2.1
noncomputable def sem36 : Sem1 := semOf ps36 rs36 x36
theorem so36 : SemsOk Try.prog (semsOf sl36) := sems_cons k107 (sems_nil)
noncomputable def b36_0 : Code := nthLoop code36 0
theorem t36_r0_eq (x : denR (headRT hp36_0)) : codeK (tabOf tr) (semsOf sl36) D36 L36 b36_0 (headSt hp36_0 x) (roundK 0 hp36_0 e36_0 q36_0) = laws_heldItemS_r0 x := by kernel_rfl
theorem loop36_0 {R : Type} (r : R) (w0 : World) (mu : Mu) (hs : AnShape ps36 mu) : LoopAt Try.prog w0 mu 50 (L36 : Loops R) r 0 b36_0 :=
  loop_auto tr_ok eq_ok mixed_ok so36 (D := D36) hs (by kernel_rfl) (fun _ => (loops_of (l := []) (by kernel_rfl) (List.forall_mem_nil _))) t36_r0_eq (fun _ _ => rfl)
theorem t36_eq (x : denR (headRT (ps36.map some))) : codeK (tabOf tr) (semsOf sl36) D36 L36 code36 (start 50 ps36 x) (finK rs36 ps36) = x36 x := by kernel_rfl
theorem k36 : Known Try.prog 36 sem36 :=
  fn_auto tr_ok eq_ok mixed_ok so36 (D := D36) (code := code36) (n := 50) Try.func36 (by kernel_rfl) (by kernel_rfl) (by kernel_rfl) (fun w0 mu _ hs => (loops_of (l := [(0, b36_0)]) (by kernel_rfl) (List.forall_mem_cons.2 ⟨loop36_0 _ w0 mu hs, (List.forall_mem_nil _)⟩))) t36_eq

/-! ### f143: laws.heldStringS -/
noncomputable def code143 : Code := match Try.f143.body with | some c => c | none => .skip
def ps143 : List AP := [.val false [.shr T_s], .val false [.int .i64]]
def rs143 : List RP := [{ src := .tmp 4, agg := false, ps := [.int .i64] }]
noncomputable def sl143 : SemL := [(107, (.shr, .shr, .shr, sem107))]
def D143 : Draws := fun id => bif Nat.beq id 4 then .op 0 .any (.op 1 .any (.op 2 .any (.op 3 .take (.op 4 .any (.op 5 .one (.op 6 .any (.nil))))))) else .nil
def hp143_0 : List (Option AP) := [some (.val false [.shr T_s]), some (.val false [.int .i64]), none, none, none, some (.val false [.int .i64]), none, none, none, none, none, none, none, none, none, none, none, none, none, none, none, none, none]
def e143_0 : List (Option AP) := [none, some (.val false [.int .i64]), none, none, none, none, none, none, none, none, none, none, none, none, none, none, none, none, none, none, none, none, none]
def q143_0 : List (Option AP) := [none, none, none, none, some (.val false [.int .i64]), none, none, none, none, none, none, none, none, none, none, none, none, none, none, none, none, none, none]
abbrev H143_0 : Type := (List (ByteArray × Unit)) × Int × Int × Unit
abbrev E143_0 : Type := Int × Unit
abbrev Q143_0 : Type := Int × Unit
noncomputable def laws_heldStringS_c0 (a0 : List (ByteArray × Unit)) (k1 : Int) (i5 : Int) : Option (Sum H143_0 (Sum E143_0 Q143_0)) :=
  bif decide (i5 < ((List.length a0 : Nat) : Int)) then
    bif decide ((0 : Int) ≤ i5) then Option.bind ((a0)[Int.toNat i5]?) fun r1 =>
      Option.bind (laws_markText k1) fun y2 =>
      bif !strEq r1.1 y2.1 then
        some (.inr (.inr ((-1 : Int), ())))
      else
        some (.inl (a0, IntKind.i64.wrap (k1 + (1 : Int)), IntKind.i64.wrap (i5 + (1 : Int)), ()))
    else none
  else
    some (.inr (.inl (k1, ())))
noncomputable def laws_heldStringS_r0 (x : H143_0) : Option (Sum H143_0 (Sum E143_0 Q143_0)) := laws_heldStringS_c0 x.1 x.2.1 x.2.2.1
noncomputable def L143 {R : Type} : Loops R := fun id _ st k => bif Nat.beq id 0 then loopAt hp143_0 e143_0 q143_0 laws_heldStringS_r0 st k else none
noncomputable def laws_heldStringS (a0 : List (ByteArray × Unit)) (k1 : Int) : Option (Int × Unit) :=
  outK (loopV laws_heldStringS_r0 (a0, k1, (0 : Int), ())) (fun y1 =>
    some (y1.1, ())) (fun y2 =>
    some (y2.1, ()))
noncomputable def x143 (x : (List (ByteArray × Unit)) × Int × Unit) : Option (Int × Unit) := laws_heldStringS x.1 x.2.1
noncomputable def sem143 : Sem1 := semOf ps143 rs143 x143
theorem so143 : SemsOk Try.prog (semsOf sl143) := sems_cons k107 (sems_nil)
noncomputable def b143_0 : Code := nthLoop code143 0
theorem t143_r0_eq (x : denR (headRT hp143_0)) : codeK (tabOf tr) (semsOf sl143) D143 L143 b143_0 (headSt hp143_0 x) (roundK 0 hp143_0 e143_0 q143_0) = laws_heldStringS_r0 x := by kernel_rfl
theorem loop143_0 {R : Type} (r : R) (w0 : World) (mu : Mu) (hs : AnShape ps143 mu) : LoopAt Try.prog w0 mu 22 (L143 : Loops R) r 0 b143_0 :=
  loop_auto tr_ok eq_ok mixed_ok so143 (D := D143) hs (by kernel_rfl) (fun _ => (loops_of (l := []) (by kernel_rfl) (List.forall_mem_nil _))) t143_r0_eq (fun _ _ => rfl)
theorem t143_eq (x : denR (headRT (ps143.map some))) : codeK (tabOf tr) (semsOf sl143) D143 L143 code143 (start 22 ps143 x) (finK rs143 ps143) = x143 x := by kernel_rfl
theorem k143 : Known Try.prog 143 sem143 :=
  fn_auto tr_ok eq_ok mixed_ok so143 (D := D143) (code := code143) (n := 22) Try.func143 (by kernel_rfl) (by kernel_rfl) (by kernel_rfl) (fun w0 mu _ hs => (loops_of (l := [(0, b143_0)]) (by kernel_rfl) (List.forall_mem_cons.2 ⟨loop143_0 _ w0 mu hs, (List.forall_mem_nil _)⟩))) t143_eq

/-! ### f80: laws.heldMateS -/
noncomputable def code80 : Code := match Try.f80.body with | some c => c | none => .skip
def ps80 : List AP := [.val false [.shr T_iiLiELiiisELiELsEiiiiiiiiiLiE], .val false [.int .i64]]
def rs80 : List RP := [{ src := .tmp 4, agg := false, ps := [.int .i64] }]
noncomputable def sl80 : SemL := [(130, (.shr, .shr, .shr, sem130)), (36, (.shr, .shr, .shr, sem36)), (143, (.shr, .shr, .shr, sem143))]
def D80 : Draws := fun _ => .nil
def hp80_0 : List (Option AP) := [some (.val false [.shr T_iiLiELiiisELiELsEiiiiiiiiiLiE]), some (.val false [.int .i64]), none, none, none, some (.val false [.int .i64]), none, none, none, none, none, none, none, none, none, none, none, none, none, none, none, none, none, none, none, none, none, none, none, none, none, none, none, none, none, none, none, none, none, none, none, none, none, none, none, none, none, none, none, none, none, none, none, none, none, none, none, none, none, none, none, none, none, none, none, none, none, none, none, none, none, none, none, none, none, none, none, none, none, none, none, none, none, none, none, none, none, none, none, none, none, none, none, none, none, none, none, none, none, none, none, none, none, none, none, none, none, none, none, none, none, none, none, none, none, none, none, none, none, none, none, none, none, none, none, none, none, none, none, none, none, none, none, none, none, none, none, none, none, none, none, none, none, none, none, none, none, none, none, none, none, none, none, none, none, none, none, none, none, none, none, none, none, none, none, none]
def e80_0 : List (Option AP) := [none, some (.val false [.int .i64]), none, none, none, none, none, none, none, none, none, none, none, none, none, none, none, none, none, none, none, none, none, none, none, none, none, none, none, none, none, none, none, none, none, none, none, none, none, none, none, none, none, none, none, none, none, none, none, none, none, none, none, none, none, none, none, none, none, none, none, none, none, none, none, none, none, none, none, none, none, none, none, none, none, none, none, none, none, none, none, none, none, none, none, none, none, none, none, none, none, none, none, none, none, none, none, none, none, none, none, none, none, none, none, none, none, none, none, none, none, none, none, none, none, none, none, none, none, none, none, none, none, none, none, none, none, none, none, none, none, none, none, none, none, none, none, none, none, none, none, none, none, none, none, none, none, none, none, none, none, none, none, none, none, none, none, none, none, none, none, none, none, none, none, none]
def q80_0 : List (Option AP) := [none, none, none, none, some (.val false [.int .i64]), none, none, none, none, none, none, none, none, none, none, none, none, none, none, none, none, none, none, none, none, none, none, none, none, none, none, none, none, none, none, none, none, none, none, none, none, none, none, none, none, none, none, none, none, none, none, none, none, none, none, none, none, none, none, none, none, none, none, none, none, none, none, none, none, none, none, none, none, none, none, none, none, none, none, none, none, none, none, none, none, none, none, none, none, none, none, none, none, none, none, none, none, none, none, none, none, none, none, none, none, none, none, none, none, none, none, none, none, none, none, none, none, none, none, none, none, none, none, none, none, none, none, none, none, none, none, none, none, none, none, none, none, none, none, none, none, none, none, none, none, none, none, none, none, none, none, none, none, none, none, none, none, none, none, none, none, none, none, none, none, none]
abbrev H80_0 : Type := (List R_iiLiELiiisELiELsEiiiiiiiiiLiE) × Int × Int × Unit
abbrev E80_0 : Type := Int × Unit
abbrev Q80_0 : Type := Int × Unit
noncomputable def laws_heldMateS_c0 (a0 : List R_iiLiELiiisELiELsEiiiiiiiiiLiE) (k1 : Int) (i5 : Int) : Option (Sum H80_0 (Sum E80_0 Q80_0)) :=
  bif decide (i5 < ((List.length a0 : Nat) : Int)) then
    bif decide ((0 : Int) ≤ i5) then Option.bind ((a0)[Int.toNat i5]?) fun r1 =>
      bif !decide (r1.1 = k1) then
        some (.inr (.inr ((-1 : Int), ())))
      else bif decide ((0 : Int) ≤ i5) then Option.bind ((a0)[Int.toNat i5]?) fun r2 =>
        bif !decide (r2.2.1 = IntKind.i64.wrap (k1 + (1 : Int))) then
          some (.inr (.inr ((-1 : Int), ())))
        else bif decide ((0 : Int) ≤ i5) then Option.bind ((a0)[Int.toNat i5]?) fun r3 =>
          Option.bind (laws_heldIntS r3.2.2.1 (IntKind.i64.wrap ((IntKind.i64.wrap (k1 + (1 : Int))) + (1 : Int)))) fun y4 =>
          bif decide (y4.1 < (0 : Int)) then
            some (.inr (.inr ((-1 : Int), ())))
          else bif decide ((0 : Int) ≤ i5) then Option.bind ((a0)[Int.toNat i5]?) fun r5 =>
            Option.bind (laws_heldItemS r5.2.2.2.1 y4.1) fun y6 =>
            bif decide (y6.1 < (0 : Int)) then
              some (.inr (.inr ((-1 : Int), ())))
            else bif decide ((0 : Int) ≤ i5) then Option.bind ((a0)[Int.toNat i5]?) fun r7 =>
              Option.bind (laws_heldIntS r7.2.2.2.2.1 y6.1) fun y8 =>
              bif decide (y8.1 < (0 : Int)) then
                some (.inr (.inr ((-1 : Int), ())))
              else bif decide ((0 : Int) ≤ i5) then Option.bind ((a0)[Int.toNat i5]?) fun r9 =>
                Option.bind (laws_heldStringS r9.2.2.2.2.2.1 y8.1) fun y10 =>
                bif decide (y10.1 < (0 : Int)) then
                  some (.inr (.inr ((-1 : Int), ())))
                else bif decide ((0 : Int) ≤ i5) then Option.bind ((a0)[Int.toNat i5]?) fun r11 =>
                  bif !decide (r11.2.2.2.2.2.2.1 = y10.1) then
                    some (.inr (.inr ((-1 : Int), ())))
                  else bif decide ((0 : Int) ≤ i5) then Option.bind ((a0)[Int.toNat i5]?) fun r12 =>
                    bif !decide (r12.2.2.2.2.2.2.2.1 = IntKind.i64.wrap (y10.1 + (1 : Int))) then
                      some (.inr (.inr ((-1 : Int), ())))
                    else bif decide ((0 : Int) ≤ i5) then Option.bind ((a0)[Int.toNat i5]?) fun r13 =>
                      bif !decide (r13.2.2.2.2.2.2.2.2.1 = IntKind.i64.wrap ((IntKind.i64.wrap (y10.1 + (1 : Int))) + (1 : Int))) then
                        some (.inr (.inr ((-1 : Int), ())))
                      else bif decide ((0 : Int) ≤ i5) then Option.bind ((a0)[Int.toNat i5]?) fun r14 =>
                        bif !decide (r14.2.2.2.2.2.2.2.2.2.1 = IntKind.i64.wrap ((IntKind.i64.wrap ((IntKind.i64.wrap (y10.1 + (1 : Int))) + (1 : Int))) + (1 : Int))) then
                          some (.inr (.inr ((-1 : Int), ())))
                        else bif decide ((0 : Int) ≤ i5) then Option.bind ((a0)[Int.toNat i5]?) fun r15 =>
                          bif !decide (r15.2.2.2.2.2.2.2.2.2.2.1 = IntKind.i64.wrap ((IntKind.i64.wrap ((IntKind.i64.wrap ((IntKind.i64.wrap (y10.1 + (1 : Int))) + (1 : Int))) + (1 : Int))) + (1 : Int))) then
                            some (.inr (.inr ((-1 : Int), ())))
                          else bif decide ((0 : Int) ≤ i5) then Option.bind ((a0)[Int.toNat i5]?) fun r16 =>
                            bif !decide (r16.2.2.2.2.2.2.2.2.2.2.2.1 = IntKind.i64.wrap ((IntKind.i64.wrap ((IntKind.i64.wrap ((IntKind.i64.wrap ((IntKind.i64.wrap (y10.1 + (1 : Int))) + (1 : Int))) + (1 : Int))) + (1 : Int))) + (1 : Int))) then
                              some (.inr (.inr ((-1 : Int), ())))
                            else bif decide ((0 : Int) ≤ i5) then Option.bind ((a0)[Int.toNat i5]?) fun r17 =>
                              bif !decide (r17.2.2.2.2.2.2.2.2.2.2.2.2.1 = IntKind.i64.wrap ((IntKind.i64.wrap ((IntKind.i64.wrap ((IntKind.i64.wrap ((IntKind.i64.wrap ((IntKind.i64.wrap (y10.1 + (1 : Int))) + (1 : Int))) + (1 : Int))) + (1 : Int))) + (1 : Int))) + (1 : Int))) then
                                some (.inr (.inr ((-1 : Int), ())))
                              else bif decide ((0 : Int) ≤ i5) then Option.bind ((a0)[Int.toNat i5]?) fun r18 =>
                                bif !decide (r18.2.2.2.2.2.2.2.2.2.2.2.2.2.1 = IntKind.i64.wrap ((IntKind.i64.wrap ((IntKind.i64.wrap ((IntKind.i64.wrap ((IntKind.i64.wrap ((IntKind.i64.wrap ((IntKind.i64.wrap (y10.1 + (1 : Int))) + (1 : Int))) + (1 : Int))) + (1 : Int))) + (1 : Int))) + (1 : Int))) + (1 : Int))) then
                                  some (.inr (.inr ((-1 : Int), ())))
                                else bif decide ((0 : Int) ≤ i5) then Option.bind ((a0)[Int.toNat i5]?) fun r19 =>
                                  bif !decide (r19.2.2.2.2.2.2.2.2.2.2.2.2.2.2.1 = IntKind.i64.wrap ((IntKind.i64.wrap ((IntKind.i64.wrap ((IntKind.i64.wrap ((IntKind.i64.wrap ((IntKind.i64.wrap ((IntKind.i64.wrap ((IntKind.i64.wrap (y10.1 + (1 : Int))) + (1 : Int))) + (1 : Int))) + (1 : Int))) + (1 : Int))) + (1 : Int))) + (1 : Int))) + (1 : Int))) then
                                    some (.inr (.inr ((-1 : Int), ())))
                                  else bif decide ((0 : Int) ≤ i5) then Option.bind ((a0)[Int.toNat i5]?) fun r20 =>
                                    Option.bind (laws_heldIntS r20.2.2.2.2.2.2.2.2.2.2.2.2.2.2.2.1 (IntKind.i64.wrap ((IntKind.i64.wrap ((IntKind.i64.wrap ((IntKind.i64.wrap ((IntKind.i64.wrap ((IntKind.i64.wrap ((IntKind.i64.wrap ((IntKind.i64.wrap ((IntKind.i64.wrap (y10.1 + (1 : Int))) + (1 : Int))) + (1 : Int))) + (1 : Int))) + (1 : Int))) + (1 : Int))) + (1 : Int))) + (1 : Int))) + (1 : Int)))) fun y21 =>
                                    bif decide (y21.1 < (0 : Int)) then
                                      some (.inr (.inr ((-1 : Int), ())))
                                    else
                                      some (.inl (a0, y21.1, IntKind.i64.wrap (i5 + (1 : Int)), ()))
                                  else none
                                else none
                              else none
                            else none
                          else none
                        else none
                      else none
                    else none
                  else none
                else none
              else none
            else none
          else none
        else none
      else none
    else none
  else
    some (.inr (.inl (k1, ())))
noncomputable def laws_heldMateS_r0 (x : H80_0) : Option (Sum H80_0 (Sum E80_0 Q80_0)) := laws_heldMateS_c0 x.1 x.2.1 x.2.2.1
noncomputable def L80 {R : Type} : Loops R := fun id _ st k => bif Nat.beq id 0 then loopAt hp80_0 e80_0 q80_0 laws_heldMateS_r0 st k else none
noncomputable def laws_heldMateS (a0 : List R_iiLiELiiisELiELsEiiiiiiiiiLiE) (k1 : Int) : Option (Int × Unit) :=
  outK (loopV laws_heldMateS_r0 (a0, k1, (0 : Int), ())) (fun y1 =>
    some (y1.1, ())) (fun y2 =>
    some (y2.1, ()))
noncomputable def x80 (x : (List R_iiLiELiiisELiELsEiiiiiiiiiLiE) × Int × Unit) : Option (Int × Unit) := laws_heldMateS x.1 x.2.1
noncomputable def sem80 : Sem1 := semOf ps80 rs80 x80
theorem so80 : SemsOk Try.prog (semsOf sl80) := sems_cons k130 (sems_cons k36 (sems_cons k143 (sems_nil)))
noncomputable def b80_0 : Code := nthLoop code80 0
theorem t80_r0_eq (x : denR (headRT hp80_0)) : codeK (tabOf tr) (semsOf sl80) D80 L80 b80_0 (headSt hp80_0 x) (roundK 0 hp80_0 e80_0 q80_0) = laws_heldMateS_r0 x := by kernel_rfl
theorem loop80_0 {R : Type} (r : R) (w0 : World) (mu : Mu) (hs : AnShape ps80 mu) : LoopAt Try.prog w0 mu 165 (L80 : Loops R) r 0 b80_0 :=
  loop_auto tr_ok eq_ok mixed_ok so80 (D := D80) hs (by kernel_rfl) (fun _ => (loops_of (l := []) (by kernel_rfl) (List.forall_mem_nil _))) t80_r0_eq (fun _ _ => rfl)
theorem t80_eq (x : denR (headRT (ps80.map some))) : codeK (tabOf tr) (semsOf sl80) D80 L80 code80 (start 165 ps80 x) (finK rs80 ps80) = x80 x := by kernel_rfl
theorem k80 : Known Try.prog 80 sem80 :=
  fn_auto tr_ok eq_ok mixed_ok so80 (D := D80) (code := code80) (n := 165) Try.func80 (by kernel_rfl) (by kernel_rfl) (by kernel_rfl) (fun w0 mu _ hs => (loops_of (l := [(0, b80_0)]) (by kernel_rfl) (List.forall_mem_cons.2 ⟨loop80_0 _ w0 mu hs, (List.forall_mem_nil _)⟩))) t80_eq

/-! ### f81: laws.heldFlyS -/
noncomputable def code81 : Code := match Try.f81.body with | some c => c | none => .skip
def ps81 : List AP := [.val false [.shr T_ibiiiiiLiEiiis], .val false [.int .i64]]
def rs81 : List RP := [{ src := .tmp 4, agg := false, ps := [.int .i64] }]
noncomputable def sl81 : SemL := [(130, (.shr, .shr, .shr, sem130)), (107, (.shr, .shr, .shr, sem107))]
def D81 : Draws := fun id => bif Nat.beq id 37 then .op 0 .any (.op 1 .any (.op 2 .any (.op 3 .any (.op 4 .any (.op 5 .take (.op 6 .any (.op 7 .one (.op 8 .any (.nil))))))))) else .nil
def hp81_0 : List (Option AP) := [some (.val false [.shr T_ibiiiiiLiEiiis]), some (.val false [.int .i64]), none, none, none, some (.val false [.int .i64]), none, none, none, none, none, none, none, none, none, none, none, none, none, none, none, none, none, none, none, none, none, none, none, none, none, none, none, none, none, none, none, none, none, none, none, none, none, none, none, none, none, none, none, none, none, none, none, none, none, none, none, none, none, none, none, none, none, none, none, none, none, none, none, none, none, none, none, none, none, none, none, none, none, none, none, none, none, none, none, none, none, none, none, none, none, none, none, none, none, none, none, none, none, none, none, none, none, none, none, none, none, none, none, none, none, none, none, none, none, none, none, none, none, none, none, none, none, none, none, none, none, none, none, none, none, none, none, none, none]
def e81_0 : List (Option AP) := [none, some (.val false [.int .i64]), none, none, none, none, none, none, none, none, none, none, none, none, none, none, none, none, none, none, none, none, none, none, none, none, none, none, none, none, none, none, none, none, none, none, none, none, none, none, none, none, none, none, none, none, none, none, none, none, none, none, none, none, none, none, none, none, none, none, none, none, none, none, none, none, none, none, none, none, none, none, none, none, none, none, none, none, none, none, none, none, none, none, none, none, none, none, none, none, none, none, none, none, none, none, none, none, none, none, none, none, none, none, none, none, none, none, none, none, none, none, none, none, none, none, none, none, none, none, none, none, none, none, none, none, none, none, none, none, none, none, none, none, none]
def q81_0 : List (Option AP) := [none, none, none, none, some (.val false [.int .i64]), none, none, none, none, none, none, none, none, none, none, none, none, none, none, none, none, none, none, none, none, none, none, none, none, none, none, none, none, none, none, none, none, none, none, none, none, none, none, none, none, none, none, none, none, none, none, none, none, none, none, none, none, none, none, none, none, none, none, none, none, none, none, none, none, none, none, none, none, none, none, none, none, none, none, none, none, none, none, none, none, none, none, none, none, none, none, none, none, none, none, none, none, none, none, none, none, none, none, none, none, none, none, none, none, none, none, none, none, none, none, none, none, none, none, none, none, none, none, none, none, none, none, none, none, none, none, none, none, none, none]
abbrev H81_0 : Type := (List R_ibiiiiiLiEiiis) × Int × Int × Unit
abbrev E81_0 : Type := Int × Unit
abbrev Q81_0 : Type := Int × Unit
noncomputable def laws_heldFlyS_c0 (a0 : List R_ibiiiiiLiEiiis) (k1 : Int) (i5 : Int) : Option (Sum H81_0 (Sum E81_0 Q81_0)) :=
  bif decide (i5 < ((List.length a0 : Nat) : Int)) then
    bif decide ((0 : Int) ≤ i5) then Option.bind ((a0)[Int.toNat i5]?) fun r1 =>
      bif !decide (r1.1 = k1) then
        some (.inr (.inr ((-1 : Int), ())))
      else bif decide ((0 : Int) ≤ i5) then Option.bind ((a0)[Int.toNat i5]?) fun r2 =>
        bif !(r2.2.1 == (decide (Int.tmod (IntKind.i64.wrap (k1 + (1 : Int))) (3 : Int) = (0 : Int)))) then
          some (.inr (.inr ((-1 : Int), ())))
        else bif decide ((0 : Int) ≤ i5) then Option.bind ((a0)[Int.toNat i5]?) fun r3 =>
          bif !decide (r3.2.2.1 = IntKind.i64.wrap ((IntKind.i64.wrap (k1 + (1 : Int))) + (1 : Int))) then
            some (.inr (.inr ((-1 : Int), ())))
          else bif decide ((0 : Int) ≤ i5) then Option.bind ((a0)[Int.toNat i5]?) fun r4 =>
            bif !decide (r4.2.2.2.1 = IntKind.i64.wrap ((IntKind.i64.wrap ((IntKind.i64.wrap (k1 + (1 : Int))) + (1 : Int))) + (1 : Int))) then
              some (.inr (.inr ((-1 : Int), ())))
            else bif decide ((0 : Int) ≤ i5) then Option.bind ((a0)[Int.toNat i5]?) fun r5 =>
              bif !decide (r5.2.2.2.2.1 = IntKind.i64.wrap ((IntKind.i64.wrap ((IntKind.i64.wrap ((IntKind.i64.wrap (k1 + (1 : Int))) + (1 : Int))) + (1 : Int))) + (1 : Int))) then
                some (.inr (.inr ((-1 : Int), ())))
              else bif decide ((0 : Int) ≤ i5) then Option.bind ((a0)[Int.toNat i5]?) fun r6 =>
                bif !decide (r6.2.2.2.2.2.1 = IntKind.i64.wrap ((IntKind.i64.wrap ((IntKind.i64.wrap ((IntKind.i64.wrap ((IntKind.i64.wrap (k1 + (1 : Int))) + (1 : Int))) + (1 : Int))) + (1 : Int))) + (1 : Int))) then
                  some (.inr (.inr ((-1 : Int), ())))
                else bif decide ((0 : Int) ≤ i5) then Option.bind ((a0)[Int.toNat i5]?) fun r7 =>
                  bif !decide (r7.2.2.2.2.2.2.1 = IntKind.i64.wrap ((IntKind.i64.wrap ((IntKind.i64.wrap ((IntKind.i64.wrap ((IntKind.i64.wrap ((IntKind.i64.wrap (k1 + (1 : Int))) + (1 : Int))) + (1 : Int))) + (1 : Int))) + (1 : Int))) + (1 : Int))) then
                    some (.inr (.inr ((-1 : Int), ())))
                  else bif decide ((0 : Int) ≤ i5) then Option.bind ((a0)[Int.toNat i5]?) fun r8 =>
                    Option.bind (laws_heldIntS r8.2.2.2.2.2.2.2.1 (IntKind.i64.wrap ((IntKind.i64.wrap ((IntKind.i64.wrap ((IntKind.i64.wrap ((IntKind.i64.wrap ((IntKind.i64.wrap ((IntKind.i64.wrap (k1 + (1 : Int))) + (1 : Int))) + (1 : Int))) + (1 : Int))) + (1 : Int))) + (1 : Int))) + (1 : Int)))) fun y9 =>
                    bif decide (y9.1 < (0 : Int)) then
                      some (.inr (.inr ((-1 : Int), ())))
                    else bif decide ((0 : Int) ≤ i5) then Option.bind ((a0)[Int.toNat i5]?) fun r10 =>
                      bif !decide (r10.2.2.2.2.2.2.2.2.1 = y9.1) then
                        some (.inr (.inr ((-1 : Int), ())))
                      else bif decide ((0 : Int) ≤ i5) then Option.bind ((a0)[Int.toNat i5]?) fun r11 =>
                        bif !decide (r11.2.2.2.2.2.2.2.2.2.1 = IntKind.i64.wrap (y9.1 + (1 : Int))) then
                          some (.inr (.inr ((-1 : Int), ())))
                        else bif decide ((0 : Int) ≤ i5) then Option.bind ((a0)[Int.toNat i5]?) fun r12 =>
                          bif !decide (r12.2.2.2.2.2.2.2.2.2.2.1 = IntKind.i64.wrap ((IntKind.i64.wrap (y9.1 + (1 : Int))) + (1 : Int))) then
                            some (.inr (.inr ((-1 : Int), ())))
                          else bif decide ((0 : Int) ≤ i5) then Option.bind ((a0)[Int.toNat i5]?) fun r13 =>
                            Option.bind (laws_markText (IntKind.i64.wrap ((IntKind.i64.wrap ((IntKind.i64.wrap (y9.1 + (1 : Int))) + (1 : Int))) + (1 : Int)))) fun y14 =>
                            bif !strEq r13.2.2.2.2.2.2.2.2.2.2.2.1 y14.1 then
                              some (.inr (.inr ((-1 : Int), ())))
                            else
                              some (.inl (a0, IntKind.i64.wrap ((IntKind.i64.wrap ((IntKind.i64.wrap ((IntKind.i64.wrap (y9.1 + (1 : Int))) + (1 : Int))) + (1 : Int))) + (1 : Int)), IntKind.i64.wrap (i5 + (1 : Int)), ()))
                          else none
                        else none
                      else none
                    else none
                  else none
                else none
              else none
            else none
          else none
        else none
      else none
    else none
  else
    some (.inr (.inl (k1, ())))
noncomputable def laws_heldFlyS_r0 (x : H81_0) : Option (Sum H81_0 (Sum E81_0 Q81_0)) := laws_heldFlyS_c0 x.1 x.2.1 x.2.2.1
noncomputable def L81 {R : Type} : Loops R := fun id _ st k => bif Nat.beq id 0 then loopAt hp81_0 e81_0 q81_0 laws_heldFlyS_r0 st k else none
noncomputable def laws_heldFlyS (a0 : List R_ibiiiiiLiEiiis) (k1 : Int) : Option (Int × Unit) :=
  outK (loopV laws_heldFlyS_r0 (a0, k1, (0 : Int), ())) (fun y1 =>
    some (y1.1, ())) (fun y2 =>
    some (y2.1, ()))
noncomputable def x81 (x : (List R_ibiiiiiLiEiiis) × Int × Unit) : Option (Int × Unit) := laws_heldFlyS x.1 x.2.1
noncomputable def sem81 : Sem1 := semOf ps81 rs81 x81
theorem so81 : SemsOk Try.prog (semsOf sl81) := sems_cons k130 (sems_cons k107 (sems_nil))
noncomputable def b81_0 : Code := nthLoop code81 0
theorem t81_r0_eq (x : denR (headRT hp81_0)) : codeK (tabOf tr) (semsOf sl81) D81 L81 b81_0 (headSt hp81_0 x) (roundK 0 hp81_0 e81_0 q81_0) = laws_heldFlyS_r0 x := by kernel_rfl
theorem loop81_0 {R : Type} (r : R) (w0 : World) (mu : Mu) (hs : AnShape ps81 mu) : LoopAt Try.prog w0 mu 134 (L81 : Loops R) r 0 b81_0 :=
  loop_auto tr_ok eq_ok mixed_ok so81 (D := D81) hs (by kernel_rfl) (fun _ => (loops_of (l := []) (by kernel_rfl) (List.forall_mem_nil _))) t81_r0_eq (fun _ _ => rfl)
theorem t81_eq (x : denR (headRT (ps81.map some))) : codeK (tabOf tr) (semsOf sl81) D81 L81 code81 (start 134 ps81 x) (finK rs81 ps81) = x81 x := by kernel_rfl
theorem k81 : Known Try.prog 81 sem81 :=
  fn_auto tr_ok eq_ok mixed_ok so81 (D := D81) (code := code81) (n := 134) Try.func81 (by kernel_rfl) (by kernel_rfl) (by kernel_rfl) (fun w0 mu _ hs => (loops_of (l := [(0, b81_0)]) (by kernel_rfl) (List.forall_mem_cons.2 ⟨loop81_0 _ w0 mu hs, (List.forall_mem_nil _)⟩))) t81_eq

/-! ### f82: laws.heldItemSS -/
noncomputable def code82 : Code := match Try.f82.body with | some c => c | none => .skip
def ps82 : List AP := [.val false [.shr T_LiiisE], .val false [.int .i64]]
def rs82 : List RP := [{ src := .tmp 4, agg := false, ps := [.int .i64] }]
noncomputable def sl82 : SemL := [(36, (.shr, .shr, .shr, sem36))]
def D82 : Draws := fun _ => .nil
def hp82_0 : List (Option AP) := [some (.val false [.shr T_LiiisE]), some (.val false [.int .i64]), none, none, none, some (.val false [.int .i64]), none, none, none, none, none, none, none, none, none, none, none, none, none, none, none, none]
def e82_0 : List (Option AP) := [none, some (.val false [.int .i64]), none, none, none, none, none, none, none, none, none, none, none, none, none, none, none, none, none, none, none, none]
def q82_0 : List (Option AP) := [none, none, none, none, some (.val false [.int .i64]), none, none, none, none, none, none, none, none, none, none, none, none, none, none, none, none, none]
abbrev H82_0 : Type := (List ((List R_iiis) × Unit)) × Int × Int × Unit
abbrev E82_0 : Type := Int × Unit
abbrev Q82_0 : Type := Int × Unit
noncomputable def laws_heldItemSS_c0 (a0 : List ((List R_iiis) × Unit)) (k1 : Int) (i5 : Int) : Option (Sum H82_0 (Sum E82_0 Q82_0)) :=
  bif decide (i5 < ((List.length a0 : Nat) : Int)) then
    bif decide ((0 : Int) ≤ i5) then Option.bind ((a0)[Int.toNat i5]?) fun r1 =>
      Option.bind (laws_heldItemS r1.1 k1) fun y2 =>
      bif decide (y2.1 < (0 : Int)) then
        some (.inr (.inr ((-1 : Int), ())))
      else
        some (.inl (a0, y2.1, IntKind.i64.wrap (i5 + (1 : Int)), ()))
    else none
  else
    some (.inr (.inl (k1, ())))
noncomputable def laws_heldItemSS_r0 (x : H82_0) : Option (Sum H82_0 (Sum E82_0 Q82_0)) := laws_heldItemSS_c0 x.1 x.2.1 x.2.2.1
noncomputable def L82 {R : Type} : Loops R := fun id _ st k => bif Nat.beq id 0 then loopAt hp82_0 e82_0 q82_0 laws_heldItemSS_r0 st k else none
noncomputable def laws_heldItemSS (a0 : List ((List R_iiis) × Unit)) (k1 : Int) : Option (Int × Unit) :=
  outK (loopV laws_heldItemSS_r0 (a0, k1, (0 : Int), ())) (fun y1 =>
    some (y1.1, ())) (fun y2 =>
    some (y2.1, ()))
noncomputable def x82 (x : (List ((List R_iiis) × Unit)) × Int × Unit) : Option (Int × Unit) := laws_heldItemSS x.1 x.2.1
noncomputable def sem82 : Sem1 := semOf ps82 rs82 x82
theorem so82 : SemsOk Try.prog (semsOf sl82) := sems_cons k36 (sems_nil)
noncomputable def b82_0 : Code := nthLoop code82 0
theorem t82_r0_eq (x : denR (headRT hp82_0)) : codeK (tabOf tr) (semsOf sl82) D82 L82 b82_0 (headSt hp82_0 x) (roundK 0 hp82_0 e82_0 q82_0) = laws_heldItemSS_r0 x := by kernel_rfl
theorem loop82_0 {R : Type} (r : R) (w0 : World) (mu : Mu) (hs : AnShape ps82 mu) : LoopAt Try.prog w0 mu 21 (L82 : Loops R) r 0 b82_0 :=
  loop_auto tr_ok eq_ok mixed_ok so82 (D := D82) hs (by kernel_rfl) (fun _ => (loops_of (l := []) (by kernel_rfl) (List.forall_mem_nil _))) t82_r0_eq (fun _ _ => rfl)
theorem t82_eq (x : denR (headRT (ps82.map some))) : codeK (tabOf tr) (semsOf sl82) D82 L82 code82 (start 21 ps82 x) (finK rs82 ps82) = x82 x := by kernel_rfl
theorem k82 : Known Try.prog 82 sem82 :=
  fn_auto tr_ok eq_ok mixed_ok so82 (D := D82) (code := code82) (n := 21) Try.func82 (by kernel_rfl) (by kernel_rfl) (by kernel_rfl) (fun w0 mu _ hs => (loops_of (l := [(0, b82_0)]) (by kernel_rfl) (List.forall_mem_cons.2 ⟨loop82_0 _ w0 mu hs, (List.forall_mem_nil _)⟩))) t82_eq

/-! ### f18: laws.heldWork -/
noncomputable def code18 : Code := match Try.f18.body with | some c => c | none => .skip
def ps18 : List AP := [.val true [.int .i64, .shr T_i, .shr T_iiLiELiiisELiELsEiiiiiiiiiLiE, .shr T_ibiiiiiLiEiiis, .shr T_LiiisE, .shr T_iiis], .val false [.int .i64]]
def rs18 : List RP := [{ src := .tmp 4, agg := false, ps := [.int .i64] }]
noncomputable def sl18 : SemL := [(79, (.shr, .shr, .shr, sem79)), (80, (.shr, .shr, .shr, sem80)), (81, (.shr, .shr, .shr, sem81)), (82, (.shr, .shr, .shr, sem82)), (36, (.shr, .shr, .shr, sem36))]
def D18 : Draws := fun _ => .nil
noncomputable def L18 {R : Type} : Loops R := fun _ _ _ _ => none
noncomputable def laws_heldWork (a0c0 : Int) (a0c1 : List (Int × Unit)) (a0c2 : List R_iiLiELiiisELiELsEiiiiiiiiiLiE) (a0c3 : List R_ibiiiiiLiEiiis) (a0c4 : List ((List R_iiis) × Unit)) (a0c5 : List R_iiis) (k1 : Int) : Option (Int × Unit) :=
  Option.bind (laws_heldRing a0c0 a0c1 k1) fun y1 =>
  bif decide (y1.1 < (0 : Int)) then
    some ((-1 : Int), ())
  else
    Option.bind (laws_heldMateS a0c2 y1.1) fun y2 =>
    bif decide (y2.1 < (0 : Int)) then
      some ((-1 : Int), ())
    else
      Option.bind (laws_heldFlyS a0c3 y2.1) fun y3 =>
      bif decide (y3.1 < (0 : Int)) then
        some ((-1 : Int), ())
      else
        Option.bind (laws_heldItemSS a0c4 y3.1) fun y4 =>
        bif decide (y4.1 < (0 : Int)) then
          some ((-1 : Int), ())
        else
          Option.bind (laws_heldItemS a0c5 y4.1) fun y5 =>
          bif decide (y5.1 < (0 : Int)) then
            some ((-1 : Int), ())
          else
            some (y5.1, ())
noncomputable def x18 (x : Int × (List (Int × Unit)) × (List R_iiLiELiiisELiELsEiiiiiiiiiLiE) × (List R_ibiiiiiLiEiiis) × (List ((List R_iiis) × Unit)) × (List R_iiis) × Int × Unit) : Option (Int × Unit) := laws_heldWork x.1 x.2.1 x.2.2.1 x.2.2.2.1 x.2.2.2.2.1 x.2.2.2.2.2.1 x.2.2.2.2.2.2.1
noncomputable def sem18 : Sem1 := semOf ps18 rs18 x18
theorem so18 : SemsOk Try.prog (semsOf sl18) := sems_cons k79 (sems_cons k80 (sems_cons k81 (sems_cons k82 (sems_cons k36 (sems_nil)))))
theorem t18_eq (x : denR (headRT (ps18.map some))) : codeK (tabOf tr) (semsOf sl18) D18 L18 code18 (start 36 ps18 x) (finK rs18 ps18) = x18 x := by kernel_rfl
theorem k18 : Known Try.prog 18 sem18 :=
  fn_auto tr_ok eq_ok mixed_ok so18 (D := D18) (code := code18) (n := 36) Try.func18 (by kernel_rfl) (by kernel_rfl) (by kernel_rfl) (fun w0 mu _ hs => (loops_of (l := []) (by kernel_rfl) (List.forall_mem_nil _))) t18_eq

/-! ### f3: laws.FnExactWorkNew -/
noncomputable def code3 : Code := match Try.f3.body with | some c => c | none => .skip
def ps3 : List AP := [.val true [.int .i64, .shr T_i]]
def rs3 : List RP := [{ src := .tmp 2, agg := false, ps := [.bool] }]
noncomputable def sl3 : SemL := [(10, (.shr, .shr, .shr, sem10)), (12, (.shr, .shr, .shr, sem12)), (11, (.shr, .shr, .shr, sem11)), (13, (.shr, .shr, .shr, sem13)), (14, (.shr, .shr, .shr, sem14)), (15, (.shr, .shr, .shr, sem15)), (16, (.lend, .shr, .shr, sem16)), (17, (.lend, .shr, .shr, sem17)), (18, (.shr, .shr, .shr, sem18))]
def D3 : Draws := fun id => bif Nat.beq id 10 then .op 0 .take (.op 1 .take (.op 2 .one (.op 3 .one (.op 4 .any (.nil))))) else .nil
noncomputable def L3 {R : Type} : Loops R := fun _ _ _ _ => none
noncomputable def laws_FnExactWorkNew (aR0c0 : Int) (aR0c1 : List (Int × Unit)) : Option (Bool × Unit) :=
  Option.bind (laws_szRing aR0c0 aR0c1 (1048576 : Int)) fun y1 =>
  bif decide (y1.1 < (0 : Int)) then
    some (true, ())
  else
    Option.bind (laws_toRing aR0c0 aR0c1) fun y2 =>
    Option.bind (spec_WorkNew y2.1 y2.2.1) fun y3 =>
    Option.bind (laws_toRing aR0c0 aR0c1) fun y4 =>
    Option.bind (impl_WorkNew y4.1 y4.2.1) fun y5 =>
    Option.bind (laws_eqWork y5.1 y5.2.1 y5.2.2.1 y5.2.2.2.1 y5.2.2.2.2.1 y5.2.2.2.2.2.1 y3.1 y3.2.1 y3.2.2.1 y3.2.2.2.1 y3.2.2.2.2.1 y3.2.2.2.2.2.1) fun y6 =>
    bif !y6.1 then
      some (false, ())
    else bif !(y5.2.2.2.2.2.2.1 == y3.2.2.2.2.2.2.1) then
      some (false, ())
    else
      Option.bind (laws_toRing aR0c0 aR0c1) fun y7 =>
      Option.bind (laws_eqRing y4.1 y4.2.1 y7.1 y7.2.1) fun y8 =>
      bif !y8.1 then
        some (false, ())
      else
        Option.bind (laws_markRing y4.1 y4.2.1 (1 : Int)) fun y9 =>
        bif decide (y9.1 < (0 : Int)) then
          some (false, ())
        else
          Option.bind (laws_eqWork y5.1 y5.2.1 y5.2.2.1 y5.2.2.2.1 y5.2.2.2.2.1 y5.2.2.2.2.2.1 y3.1 y3.2.1 y3.2.2.1 y3.2.2.2.1 y3.2.2.2.2.1 y3.2.2.2.2.2.1) fun y10 =>
          bif !y10.1 then
            some (false, ())
          else bif !(y5.2.2.2.2.2.2.1 == y3.2.2.2.2.2.2.1) then
            some (false, ())
          else
            Option.bind (laws_markWork y5.1 y5.2.1 y5.2.2.1 y5.2.2.2.1 y5.2.2.2.2.1 y5.2.2.2.2.2.1 (1 : Int)) fun y11 =>
            Option.bind (laws_heldWork y5.1 y11.2.1 y11.2.2.1 y11.2.2.2.1 y11.2.2.2.2.1 y11.2.2.2.2.2.1 (1 : Int)) fun y12 =>
            bif decide (y12.1 < (0 : Int)) then
              some (false, ())
            else bif !decide (y12.1 = y11.1) then
              some (false, ())
            else
              Option.bind (laws_toRing aR0c0 aR0c1) fun y13 =>
              Option.bind (impl_WorkNew y13.1 y13.2.1) fun y14 =>
              Option.bind (laws_eqWork y14.1 y14.2.1 y14.2.2.1 y14.2.2.2.1 y14.2.2.2.2.1 y14.2.2.2.2.2.1 y3.1 y3.2.1 y3.2.2.1 y3.2.2.2.1 y3.2.2.2.2.1 y3.2.2.2.2.2.1) fun y15 =>
              bif !y15.1 then
                some (false, ())
              else bif !(y14.2.2.2.2.2.2.1 == y3.2.2.2.2.2.2.1) then
                some (false, ())
              else
                Option.bind (laws_heldWork y5.1 y11.2.1 y11.2.2.1 y11.2.2.2.1 y11.2.2.2.2.1 y11.2.2.2.2.2.1 (1 : Int)) fun y16 =>
                bif decide (y16.1 < (0 : Int)) then
                  some (false, ())
                else bif !decide (y16.1 = y11.1) then
                  some (false, ())
                else
                  some (true, ())
noncomputable def x3 (x : Int × (List (Int × Unit)) × Unit) : Option (Bool × Unit) := laws_FnExactWorkNew x.1 x.2.1
noncomputable def sem3 : Sem1 := semOf ps3 rs3 x3
theorem so3 : SemsOk Try.prog (semsOf sl3) := sems_cons k10 (sems_cons k12 (sems_cons k11 (sems_cons k13 (sems_cons k14 (sems_cons k15 (sems_cons k16 (sems_cons k17 (sems_cons k18 (sems_nil)))))))))
theorem t3_eq (x : denR (headRT (ps3.map some))) : codeK (tabOf tr) (semsOf sl3) D3 L3 code3 (start 96 ps3 x) (finK rs3 ps3) = x3 x := by kernel_rfl
theorem k3 : Known Try.prog 3 sem3 :=
  fn_auto tr_ok eq_ok mixed_ok so3 (D := D3) (code := code3) (n := 96) Try.func3 (by kernel_rfl) (by kernel_rfl) (by kernel_rfl) (fun w0 mu _ hs => (loops_of (l := []) (by kernel_rfl) (List.forall_mem_nil _))) t3_eq

end Go.TM
