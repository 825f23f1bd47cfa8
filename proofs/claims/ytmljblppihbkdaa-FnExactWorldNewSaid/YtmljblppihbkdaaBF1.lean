/- What the functions answer, as terms; their contracts. -/
import Derived.Test.YtmljblppihbkdaaBBase
set_option linter.unusedSimpArgs false
set_option linter.unusedVariables false
namespace Go.TM
open Go Go.RowKit Go.Proofs

/-! ### f62: laws.szIntS -/
noncomputable def code62 : Code := match Try.f62.body with | some c => c | none => .skip
def ps62 : List AP := [.val false [.shr T_i], .val false [.int .i64]]
def rs62 : List RP := [{ src := .tmp 4, agg := false, ps := [.int .i64] }]
noncomputable def sl62 : SemL := []
def D62 : Draws := fun _ => .nil
noncomputable def L62 {R : Type} : Loops R := fun _ _ _ _ => none
noncomputable def laws_szIntS (a0 : List (Int × Unit)) (left1 : Int) : Option (Int × Unit) :=
  bif decide (IntKind.i64.wrap (left1 - ((List.length a0 : Nat) : Int)) < (0 : Int)) then
    some ((-1 : Int), ())
  else
    some (IntKind.i64.wrap (left1 - ((List.length a0 : Nat) : Int)), ())
noncomputable def x62 (x : (List (Int × Unit)) × Int × Unit) : Option (Int × Unit) := laws_szIntS x.1 x.2.1
noncomputable def sem62 : Sem1 := semOf ps62 rs62 x62
theorem so62 : SemsOk Try.prog (semsOf sl62) := sems_nil
theorem t62_eq (x : denR (headRT (ps62.map some))) : codeK (tabOf tr) (semsOf sl62) D62 L62 code62 (start 12 ps62 x) (finK rs62 ps62) = x62 x := by kernel_rfl
theorem k62 : Known Try.prog 62 sem62 :=
  fn_auto tr_ok eq_ok mixed_ok so62 (D := D62) (code := code62) (n := 12) Try.func62 (by kernel_rfl) (by kernel_rfl) (by kernel_rfl) (fun w0 mu _ hs => (loops_of (l := []) (by kernel_rfl) (List.forall_mem_nil _))) t62_eq

/-! ### f10: laws.szRing -/
noncomputable def code10 : Code := match Try.f10.body with | some c => c | none => .skip
def ps10 : List AP := [.val true [.int .i64, .shr T_i], .val false [.int .i64]]
def rs10 : List RP := [{ src := .tmp 4, agg := false, ps := [.int .i64] }]
noncomputable def sl10 : SemL := [(62, (.shr, .shr, .shr, sem62))]
def D10 : Draws := fun _ => .nil
noncomputable def L10 {R : Type} : Loops R := fun _ _ _ _ => none
noncomputable def laws_szRing (a0c0 : Int) (a0c1 : List (Int × Unit)) (left1 : Int) : Option (Int × Unit) :=
  Option.bind (laws_szIntS a0c1 left1) fun y1 =>
  bif decide (y1.1 < (0 : Int)) then
    some ((-1 : Int), ())
  else
    some (y1.1, ())
noncomputable def x10 (x : Int × (List (Int × Unit)) × Int × Unit) : Option (Int × Unit) := laws_szRing x.1 x.2.1 x.2.2.1
noncomputable def sem10 : Sem1 := semOf ps10 rs10 x10
theorem so10 : SemsOk Try.prog (semsOf sl10) := sems_cons k62 (sems_nil)
theorem t10_eq (x : denR (headRT (ps10.map some))) : codeK (tabOf tr) (semsOf sl10) D10 L10 code10 (start 12 ps10 x) (finK rs10 ps10) = x10 x := by kernel_rfl
theorem k10 : Known Try.prog 10 sem10 :=
  fn_auto tr_ok eq_ok mixed_ok so10 (D := D10) (code := code10) (n := 12) Try.func10 (by kernel_rfl) (by kernel_rfl) (by kernel_rfl) (fun w0 mu _ hs => (loops_of (l := []) (by kernel_rfl) (List.forall_mem_nil _))) t10_eq

/-! ### f19: laws.szRingS -/
noncomputable def code19 : Code := match Try.f19.body with | some c => c | none => .skip
def ps19 : List AP := [.val false [.shr T_iLiE], .val false [.int .i64]]
def rs19 : List RP := [{ src := .tmp 4, agg := false, ps := [.int .i64] }]
noncomputable def sl19 : SemL := [(10, (.shr, .shr, .shr, sem10))]
def D19 : Draws := fun _ => .nil
def hp19_0 : List (Option AP) := [some (.val false [.shr T_iLiE]), some (.val false [.int .i64]), none, none, none, some (.val false [.int .i64]), none, none, none, none, none, none, none, none, none, none, none, none, none, none, none, none, none, none, none, none, none, none]
def e19_0 : List (Option AP) := [none, some (.val false [.int .i64]), none, none, none, none, none, none, none, none, none, none, none, none, none, none, none, none, none, none, none, none, none, none, none, none, none, none]
def q19_0 : List (Option AP) := [none, none, none, none, some (.val false [.int .i64]), none, none, none, none, none, none, none, none, none, none, none, none, none, none, none, none, none, none, none, none, none, none, none]
abbrev H19_0 : Type := (List R_iLiE) × Int × Int × Unit
abbrev E19_0 : Type := Int × Unit
abbrev Q19_0 : Type := Int × Unit
noncomputable def laws_szRingS_c0 (a0 : List R_iLiE) (left1 : Int) (i5 : Int) : Option (Sum H19_0 (Sum E19_0 Q19_0)) :=
  bif decide (i5 < ((List.length a0 : Nat) : Int)) then
    bif decide ((0 : Int) ≤ i5) then Option.bind ((a0)[Int.toNat i5]?) fun r1 =>
      Option.bind (laws_szRing r1.1 r1.2.1 left1) fun y2 =>
      bif decide (y2.1 < (0 : Int)) then
        some (.inr (.inr ((-1 : Int), ())))
      else
        some (.inl (a0, y2.1, IntKind.i64.wrap (i5 + (1 : Int)), ()))
    else none
  else
    some (.inr (.inl (left1, ())))
noncomputable def laws_szRingS_r0 (x : H19_0) : Option (Sum H19_0 (Sum E19_0 Q19_0)) := laws_szRingS_c0 x.1 x.2.1 x.2.2.1
noncomputable def L19 {R : Type} : Loops R := fun id _ st k => bif Nat.beq id 0 then loopAt hp19_0 e19_0 q19_0 laws_szRingS_r0 st k else none
noncomputable def laws_szRingS (a0 : List R_iLiE) (left1 : Int) : Option (Int × Unit) :=
  bif decide (IntKind.i64.wrap (left1 - ((List.length a0 : Nat) : Int)) < (0 : Int)) then
    some ((-1 : Int), ())
  else
    outK (loopV laws_szRingS_r0 (a0, IntKind.i64.wrap (left1 - ((List.length a0 : Nat) : Int)), (0 : Int), ())) (fun y1 =>
      some (y1.1, ())) (fun y2 =>
      some (y2.1, ()))
noncomputable def x19 (x : (List R_iLiE) × Int × Unit) : Option (Int × Unit) := laws_szRingS x.1 x.2.1
noncomputable def sem19 : Sem1 := semOf ps19 rs19 x19
theorem so19 : SemsOk Try.prog (semsOf sl19) := sems_cons k10 (sems_nil)
noncomputable def b19_0 : Code := nthLoop code19 0
theorem t19_r0_eq (x : denR (headRT hp19_0)) : codeK (tabOf tr) (semsOf sl19) D19 L19 b19_0 (headSt hp19_0 x) (roundK 0 hp19_0 e19_0 q19_0) = laws_szRingS_r0 x := by kernel_rfl
theorem loop19_0 {R : Type} (r : R) (w0 : World) (mu : Mu) (hs : AnShape ps19 mu) : LoopAt Try.prog w0 mu 27 (L19 : Loops R) r 0 b19_0 :=
  loop_auto tr_ok eq_ok mixed_ok so19 (D := D19) hs (by kernel_rfl) (fun _ => (loops_of (l := []) (by kernel_rfl) (List.forall_mem_nil _))) t19_r0_eq (fun _ _ => rfl)
theorem t19_eq (x : denR (headRT (ps19.map some))) : codeK (tabOf tr) (semsOf sl19) D19 L19 code19 (start 27 ps19 x) (finK rs19 ps19) = x19 x := by kernel_rfl
theorem k19 : Known Try.prog 19 sem19 :=
  fn_auto tr_ok eq_ok mixed_ok so19 (D := D19) (code := code19) (n := 27) Try.func19 (by kernel_rfl) (by kernel_rfl) (by kernel_rfl) (fun w0 mu _ hs => (loops_of (l := [(0, b19_0)]) (by kernel_rfl) (List.forall_mem_cons.2 ⟨loop19_0 _ w0 mu hs, (List.forall_mem_nil _)⟩))) t19_eq

/-! ### f66: laws.toIntS -/
noncomputable def code66 : Code := match Try.f66.body with | some c => c | none => .skip
def ps66 : List AP := [.val false [.shr T_i]]
def rs66 : List RP := [{ src := .tmp 2, agg := false, ps := [.own T_i] }]
noncomputable def sl66 : SemL := []
def D66 : Draws := fun _ => .nil
def hp66_0 : List (Option AP) := [some (.val false [.shr T_i]), none, none, some (.val false [.own T_i]), some (.val false [.int .i64]), none, none, none, none, none, none, none, none, none, none, none, none, none, none, none, none, none, none]
def e66_0 : List (Option AP) := [none, none, none, some (.val false [.own T_i]), none, none, none, none, none, none, none, none, none, none, none, none, none, none, none, none, none, none, none]
def q66_0 : List (Option AP) := [none, none, none, none, none, none, none, none, none, none, none, none, none, none, none, none, none, none, none, none, none, none, none]
abbrev H66_0 : Type := (List (Int × Unit)) × (List (Int × Unit)) × Int × Unit
abbrev E66_0 : Type := (List (Int × Unit)) × Unit
abbrev Q66_0 : Type := Unit
noncomputable def laws_toIntS_c0 (a0 : List (Int × Unit)) (out3 : List (Int × Unit)) (i4 : Int) : Option (Sum H66_0 (Sum E66_0 Q66_0)) :=
  bif decide (i4 < ((List.length a0 : Nat) : Int)) then
    bif decide ((0 : Int) ≤ i4) then Option.bind ((a0)[Int.toNat i4]?) fun r1 =>
      bif decide ((0 : Int) ≤ i4) then bif Nat.blt (Int.toNat i4) (List.length out3) then Option.bind ((out3)[Int.toNat i4]?) fun r2 =>
          some (.inl (a0, List.set out3 (Int.toNat i4) (r1.1, ()), IntKind.i64.wrap (i4 + (1 : Int)), ()))
        else none
      else none
    else none
  else
    some (.inr (.inl (out3, ())))
noncomputable def laws_toIntS_r0 (x : H66_0) : Option (Sum H66_0 (Sum E66_0 Q66_0)) := laws_toIntS_c0 x.1 x.2.1 x.2.2.1
noncomputable def L66 {R : Type} : Loops R := fun id _ st k => bif Nat.beq id 0 then loopAt hp66_0 e66_0 q66_0 laws_toIntS_r0 st k else none
noncomputable def laws_toIntS (a0 : List (Int × Unit)) : Option ((List (Int × Unit)) × Unit) :=
  bif decide (((List.length a0 : Nat) : Int) = ((List.length a0 : Nat) : Int)) then bif decide ((0 : Int) ≤ ((List.length a0 : Nat) : Int)) then bif Nat.ble ((Int.toNat ((List.length a0 : Nat) : Int)) * 8) lim then outK (loopV laws_toIntS_r0 (a0, List.replicate (Int.toNat ((List.length a0 : Nat) : Int)) ((0 : Int), ()), (0 : Int), ())) (fun y1 =>
          some (y1.1, ())) (fun y2 =>
          none)
      else none
    else none
  else none
noncomputable def x66 (x : (List (Int × Unit)) × Unit) : Option ((List (Int × Unit)) × Unit) := laws_toIntS x.1
noncomputable def sem66 : Sem1 := semOf ps66 rs66 x66
theorem so66 : SemsOk Try.prog (semsOf sl66) := sems_nil
noncomputable def b66_0 : Code := nthLoop code66 0
theorem t66_r0_eq (x : denR (headRT hp66_0)) : codeK (tabOf tr) (semsOf sl66) D66 L66 b66_0 (headSt hp66_0 x) (roundK 0 hp66_0 e66_0 q66_0) = laws_toIntS_r0 x := by kernel_rfl
theorem loop66_0 {R : Type} (r : R) (w0 : World) (mu : Mu) (hs : AnShape ps66 mu) : LoopAt Try.prog w0 mu 22 (L66 : Loops R) r 0 b66_0 :=
  loop_auto tr_ok eq_ok mixed_ok so66 (D := D66) hs (by kernel_rfl) (fun _ => (loops_of (l := []) (by kernel_rfl) (List.forall_mem_nil _))) t66_r0_eq (fun _ _ => rfl)
theorem t66_eq (x : denR (headRT (ps66.map some))) : codeK (tabOf tr) (semsOf sl66) D66 L66 code66 (start 22 ps66 x) (finK rs66 ps66) = x66 x := by kernel_rfl
theorem k66 : Known Try.prog 66 sem66 :=
  fn_auto tr_ok eq_ok mixed_ok so66 (D := D66) (code := code66) (n := 22) Try.func66 (by kernel_rfl) (by kernel_rfl) (by kernel_rfl) (fun w0 mu _ hs => (loops_of (l := [(0, b66_0)]) (by kernel_rfl) (List.forall_mem_cons.2 ⟨loop66_0 _ w0 mu hs, (List.forall_mem_nil _)⟩))) t66_eq

/-! ### f12: laws.toRing -/
noncomputable def code12 : Code := match Try.f12.body with | some c => c | none => .skip
def ps12 : List AP := [.val true [.int .i64, .shr T_i]]
def rs12 : List RP := [{ src := .cell 2, agg := true, ps := [.int .i64, .own T_i] }]
noncomputable def sl12 : SemL := [(66, (.shr, .shr, .shr, sem66))]
def D12 : Draws := fun _ => .nil
noncomputable def L12 {R : Type} : Loops R := fun _ _ _ _ => none
noncomputable def laws_toRing (a0c0 : Int) (a0c1 : List (Int × Unit)) : Option (Int × (List (Int × Unit)) × Unit) :=
  Option.bind (laws_toIntS a0c1) fun y1 =>
  some (a0c0, y1.1, ())
noncomputable def x12 (x : Int × (List (Int × Unit)) × Unit) : Option (Int × (List (Int × Unit)) × Unit) := laws_toRing x.1 x.2.1
noncomputable def sem12 : Sem1 := semOf ps12 rs12 x12
theorem so12 : SemsOk Try.prog (semsOf sl12) := sems_cons k66 (sems_nil)
theorem t12_eq (x : denR (headRT (ps12.map some))) : codeK (tabOf tr) (semsOf sl12) D12 L12 code12 (start 12 ps12 x) (finK rs12 ps12) = x12 x := by kernel_rfl
theorem k12 : Known Try.prog 12 sem12 :=
  fn_auto tr_ok eq_ok mixed_ok so12 (D := D12) (code := code12) (n := 12) Try.func12 (by kernel_rfl) (by kernel_rfl) (by kernel_rfl) (fun w0 mu _ hs => (loops_of (l := []) (by kernel_rfl) (List.forall_mem_nil _))) t12_eq

/-! ### f21: laws.toRingS -/
noncomputable def code21 : Code := match Try.f21.body with | some c => c | none => .skip
def ps21 : List AP := [.val false [.shr T_iLiE]]
def rs21 : List RP := [{ src := .tmp 2, agg := false, ps := [.own T_iLiE .dp] }]
noncomputable def sl21 : SemL := [(12, (.shr, .shr, .shr, sem12))]
def D21 : Draws := fun _ => .nil
def hp21_0 : List (Option AP) := [some (.val false [.shr T_iLiE]), none, none, some (.val false [.own T_iLiE .dp]), some (.val false [.int .i64]), none, none, none, none, none, none, none, none, none, none, none, none, none, none, none, none, none, none, none]
def e21_0 : List (Option AP) := [none, none, none, some (.val false [.own T_iLiE .dp]), none, none, none, none, none, none, none, none, none, none, none, none, none, none, none, none, none, none, none, none]
def q21_0 : List (Option AP) := [none, none, none, none, none, none, none, none, none, none, none, none, none, none, none, none, none, none, none, none, none, none, none, none]
abbrev H21_0 : Type := (List R_iLiE) × (List R_iLiE) × Int × Unit
abbrev E21_0 : Type := (List R_iLiE) × Unit
abbrev Q21_0 : Type := Unit
noncomputable def laws_toRingS_c0 (a0 : List R_iLiE) (out3 : List R_iLiE) (i4 : Int) : Option (Sum H21_0 (Sum E21_0 Q21_0)) :=
  bif decide (i4 < ((List.length a0 : Nat) : Int)) then
    bif decide ((0 : Int) ≤ i4) then Option.bind ((a0)[Int.toNat i4]?) fun r1 =>
      Option.bind (laws_toRing r1.1 r1.2.1) fun y2 =>
      bif decide ((0 : Int) ≤ i4) then bif Nat.blt (Int.toNat i4) (List.length out3) then Option.bind ((out3)[Int.toNat i4]?) fun _ =>
          some (.inl (a0, List.set out3 (Int.toNat i4) (y2.1, y2.2.1, ()), IntKind.i64.wrap (i4 + (1 : Int)), ()))
        else none
      else none
    else none
  else
    some (.inr (.inl (out3, ())))
noncomputable def laws_toRingS_r0 (x : H21_0) : Option (Sum H21_0 (Sum E21_0 Q21_0)) := laws_toRingS_c0 x.1 x.2.1 x.2.2.1
noncomputable def L21 {R : Type} : Loops R := fun id _ st k => bif Nat.beq id 0 then loopAt hp21_0 e21_0 q21_0 laws_toRingS_r0 st k else none
noncomputable def laws_toRingS (a0 : List R_iLiE) : Option ((List R_iLiE) × Unit) :=
  bif decide (((List.length a0 : Nat) : Int) = ((List.length a0 : Nat) : Int)) then bif decide ((0 : Int) ≤ ((List.length a0 : Nat) : Int)) then bif Nat.ble ((Int.toNat ((List.length a0 : Nat) : Int)) * 32) lim then outK (loopV laws_toRingS_r0 (a0, List.replicate (Int.toNat ((List.length a0 : Nat) : Int)) ((0 : Int), [], ()), (0 : Int), ())) (fun y1 =>
          some (y1.1, ())) (fun y2 =>
          none)
      else none
    else none
  else none
noncomputable def x21 (x : (List R_iLiE) × Unit) : Option ((List R_iLiE) × Unit) := laws_toRingS x.1
noncomputable def sem21 : Sem1 := semOf ps21 rs21 x21
theorem so21 : SemsOk Try.prog (semsOf sl21) := sems_cons k12 (sems_nil)
noncomputable def b21_0 : Code := nthLoop code21 0
theorem t21_r0_eq (x : denR (headRT hp21_0)) : codeK (tabOf tr) (semsOf sl21) D21 L21 b21_0 (headSt hp21_0 x) (roundK 0 hp21_0 e21_0 q21_0) = laws_toRingS_r0 x := by kernel_rfl
theorem loop21_0 {R : Type} (r : R) (w0 : World) (mu : Mu) (hs : AnShape ps21 mu) : LoopAt Try.prog w0 mu 23 (L21 : Loops R) r 0 b21_0 :=
  loop_auto tr_ok eq_ok mixed_ok so21 (D := D21) hs (by kernel_rfl) (fun _ => (loops_of (l := []) (by kernel_rfl) (List.forall_mem_nil _))) t21_r0_eq (fun _ _ => rfl)
theorem t21_eq (x : denR (headRT (ps21.map some))) : codeK (tabOf tr) (semsOf sl21) D21 L21 code21 (start 23 ps21 x) (finK rs21 ps21) = x21 x := by kernel_rfl
theorem k21 : Known Try.prog 21 sem21 :=
  fn_auto tr_ok eq_ok mixed_ok so21 (D := D21) (code := code21) (n := 23) Try.func21 (by kernel_rfl) (by kernel_rfl) (by kernel_rfl) (fun w0 mu _ hs => (loops_of (l := [(0, b21_0)]) (by kernel_rfl) (List.forall_mem_cons.2 ⟨loop21_0 _ w0 mu hs, (List.forall_mem_nil _)⟩))) t21_eq

/-! ### f144: spec.l01In -/
noncomputable def code144 : Code := match Try.f144.body with | some c => c | none => .skip
def ps144 : List AP := [.val false [.int .i64], .val false [.int .i64], .val false [.int .i64]]
def rs144 : List RP := [{ src := .tmp 6, agg := false, ps := [.bool] }]
noncomputable def sl144 : SemL := []
def D144 : Draws := fun _ => .nil
noncomputable def L144 {R : Type} : Loops R := fun _ _ _ _ => none
noncomputable def spec_l01In (x0 : Int) (least1 : Int) (most2 : Int) : Option (Bool × Unit) :=
  bif decide (least1 ≤ x0) then
    some (decide (x0 ≤ most2), ())
  else
    some (false, ())
noncomputable def x144 (x : Int × Int × Int × Unit) : Option (Bool × Unit) := spec_l01In x.1 x.2.1 x.2.2.1
noncomputable def sem144 : Sem1 := semOf ps144 rs144 x144
theorem so144 : SemsOk Try.prog (semsOf sl144) := sems_nil
theorem t144_eq (x : denR (headRT (ps144.map some))) : codeK (tabOf tr) (semsOf sl144) D144 L144 code144 (start 15 ps144 x) (finK rs144 ps144) = x144 x := by kernel_rfl
theorem k144 : Known Try.prog 144 sem144 :=
  fn_auto tr_ok eq_ok mixed_ok so144 (D := D144) (code := code144) (n := 15) Try.func144 (by kernel_rfl) (by kernel_rfl) (by kernel_rfl) (fun w0 mu _ hs => (loops_of (l := []) (by kernel_rfl) (List.forall_mem_nil _))) t144_eq

/-! ### f63: spec.RingOk -/
noncomputable def code63 : Code := match Try.f63.body with | some c => c | none => .skip
def ps63 : List AP := [.val true [.int .i64, .shr T_i]]
def rs63 : List RP := [{ src := .tmp 2, agg := false, ps := [.bool] }]
noncomputable def sl63 : SemL := [(144, (.shr, .shr, .shr, sem144))]
def D63 : Draws := fun id => bif Nat.beq id 6 then .op 0 .any (.op 1 .take (.op 2 .any (.op 3 .any (.op 4 .take (.op 5 .one (.op 6 .any (.op 7 .any (.op 8 .any (.op 9 .any (.op 10 .any (.op 11 .any (.op 12 .take (.op 13 .any (.op 14 .any (.op 15 .any (.op 16 .take (.op 17 .any (.op 18 .take (.op 19 .any (.op 20 .any (.op 21 .take (.op 22 .any (.op 23 .any (.op 24 .any (.nil))))))))))))))))))))))))) else .nil
def hp63_0 : List (Option AP) := [none, some (.box false [.int .i64, .shr T_i]), none, some (.val false [.int .i64]), none, none, none, none, none, none, none, none, none, none, none, none, none, none, none, none, none, none, none, none, none, none, none, none, none, none, none, none, none, none, none, none, none, none, none, none, none, none, none, none, none, none, none, none]
def e63_0 : List (Option AP) := [none, none, none, none, none, none, none, none, none, none, none, none, none, none, none, none, none, none, none, none, none, none, none, none, none, none, none, none, none, none, none, none, none, none, none, none, none, none, none, none, none, none, none, none, none, none, none, none]
def q63_0 : List (Option AP) := [none, none, some (.val false [.bool]), none, none, none, none, none, none, none, none, none, none, none, none, none, none, none, none, none, none, none, none, none, none, none, none, none, none, none, none, none, none, none, none, none, none, none, none, none, none, none, none, none, none, none, none, none]
abbrev H63_0 : Type := Int × (List (Int × Unit)) × Int × Unit
abbrev E63_0 : Type := Unit
abbrev Q63_0 : Type := Bool × Unit
noncomputable def spec_RingOk_c0 (r1c0 : Int) (r1c1 : List (Int × Unit)) (i3 : Int) : Option (Sum H63_0 (Sum E63_0 Q63_0)) :=
  bif decide (i3 < ((List.length r1c1 : Nat) : Int)) then
    bif decide ((0 : Int) ≤ i3) then Option.bind ((r1c1)[Int.toNat i3]?) fun r3 =>
      Option.bind (spec_l01In r3.1 (1 : Int) (5 : Int)) fun y4 =>
      bif !y4.1 then
        some (.inr (.inr (false, ())))
      else bif decide ((0 : Int) < i3) then
        bif decide ((0 : Int) ≤ IntKind.i64.wrap (i3 - (1 : Int))) then Option.bind ((r1c1)[Int.toNat (IntKind.i64.wrap (i3 - (1 : Int)))]?) fun r5 =>
          bif decide ((0 : Int) ≤ i3) then Option.bind ((r1c1)[Int.toNat i3]?) fun r6 =>
            bif decide (r6.1 ≤ r5.1) then
              some (.inr (.inr (false, ())))
            else
              some (.inl (r1c0, r1c1, IntKind.i64.wrap (i3 + (1 : Int)), ()))
          else none
        else none
      else
        some (.inl (r1c0, r1c1, IntKind.i64.wrap (i3 + (1 : Int)), ()))
    else none
  else
    some (.inr (.inl (())))
noncomputable def spec_RingOk_r0 (x : H63_0) : Option (Sum H63_0 (Sum E63_0 Q63_0)) := spec_RingOk_c0 x.1 x.2.1 x.2.2.1
noncomputable def L63 {R : Type} : Loops R := fun id _ st k => bif Nat.beq id 0 then loopAt hp63_0 e63_0 q63_0 spec_RingOk_r0 st k else none
noncomputable def spec_RingOk (r0c0 : Int) (r0c1 : List (Int × Unit)) : Option (Bool × Unit) :=
  Option.bind (spec_l01In r0c0 (1 : Int) (9 : Int)) fun y1 =>
  bif !y1.1 then
    some (false, ())
  else
    Option.bind (spec_l01In ((List.length r0c1 : Nat) : Int) (1 : Int) (5 : Int)) fun y2 =>
    bif !y2.1 then
      some (false, ())
    else
      outK (loopV spec_RingOk_r0 (r0c0, r0c1, (0 : Int), ())) (fun y3 =>
        some (true, ())) (fun y4 =>
        some (y4.1, ()))
noncomputable def x63 (x : Int × (List (Int × Unit)) × Unit) : Option (Bool × Unit) := spec_RingOk x.1 x.2.1
noncomputable def sem63 : Sem1 := semOf ps63 rs63 x63
theorem so63 : SemsOk Try.prog (semsOf sl63) := sems_cons k144 (sems_nil)
noncomputable def b63_0 : Code := nthLoop code63 0
theorem t63_r0_eq (x : denR (headRT hp63_0)) : codeK (tabOf tr) (semsOf sl63) D63 L63 b63_0 (headSt hp63_0 x) (roundK 0 hp63_0 e63_0 q63_0) = spec_RingOk_r0 x := by kernel_rfl
theorem loop63_0 {R : Type} (r : R) (w0 : World) (mu : Mu) (hs : AnShape ps63 mu) : LoopAt Try.prog w0 mu 47 (L63 : Loops R) r 0 b63_0 :=
  loop_auto tr_ok eq_ok mixed_ok so63 (D := D63) hs (by kernel_rfl) (fun _ => (loops_of (l := []) (by kernel_rfl) (List.forall_mem_nil _))) t63_r0_eq (fun _ _ => rfl)
theorem t63_eq (x : denR (headRT (ps63.map some))) : codeK (tabOf tr) (semsOf sl63) D63 L63 code63 (start 47 ps63 x) (finK rs63 ps63) = x63 x := by kernel_rfl
theorem k63 : Known Try.prog 63 sem63 :=
  fn_auto tr_ok eq_ok mixed_ok so63 (D := D63) (code := code63) (n := 47) Try.func63 (by kernel_rfl) (by kernel_rfl) (by kernel_rfl) (fun w0 mu _ hs => (loops_of (l := [(0, b63_0)]) (by kernel_rfl) (List.forall_mem_cons.2 ⟨loop63_0 _ w0 mu hs, (List.forall_mem_nil _)⟩))) t63_eq

/-! ### f83: spec.RingsOk -/
noncomputable def code83 : Code := match Try.f83.body with | some c => c | none => .skip
def ps83 : List AP := [.val false [.shr T_iLiE]]
def rs83 : List RP := [{ src := .tmp 2, agg := false, ps := [.bool] }]
noncomputable def sl83 : SemL := [(63, (.shr, .shr, .shr, sem63)), (144, (.shr, .shr, .shr, sem144))]
def D83 : Draws := fun _ => .nil
def hp83_0 : List (Option AP) := [some (.val false [.shr T_iLiE]), none, none, some (.val false [.int .i64]), none, none, none, none, none, none, none, none, none, none, none, none, none, none, none, none, none, none, none, none, none, none, none, none, none, none]
def e83_0 : List (Option AP) := [some (.val false [.shr T_iLiE]), none, none, none, none, none, none, none, none, none, none, none, none, none, none, none, none, none, none, none, none, none, none, none, none, none, none, none, none, none]
def q83_0 : List (Option AP) := [none, none, some (.val false [.bool]), none, none, none, none, none, none, none, none, none, none, none, none, none, none, none, none, none, none, none, none, none, none, none, none, none, none, none]
abbrev H83_0 : Type := (List R_iLiE) × Int × Unit
abbrev E83_0 : Type := (List R_iLiE) × Unit
abbrev Q83_0 : Type := Bool × Unit
noncomputable def spec_RingsOk_c0 (rings0 : List R_iLiE) (i3 : Int) : Option (Sum H83_0 (Sum E83_0 Q83_0)) :=
  bif decide (i3 < ((List.length rings0 : Nat) : Int)) then
    bif decide ((0 : Int) ≤ i3) then Option.bind ((rings0)[Int.toNat i3]?) fun r1 =>
      Option.bind (spec_RingOk r1.1 r1.2.1) fun y2 =>
      bif !y2.1 then
        some (.inr (.inr (false, ())))
      else bif decide ((0 : Int) ≤ i3) then Option.bind ((rings0)[Int.toNat i3]?) fun r3 =>
        bif !decide (r3.1 = IntKind.i64.wrap (i3 + (1 : Int))) then
          some (.inr (.inr (false, ())))
        else
          some (.inl (rings0, IntKind.i64.wrap (i3 + (1 : Int)), ()))
      else none
    else none
  else
    some (.inr (.inl (rings0, ())))
noncomputable def spec_RingsOk_r0 (x : H83_0) : Option (Sum H83_0 (Sum E83_0 Q83_0)) := spec_RingsOk_c0 x.1 x.2.1
noncomputable def L83 {R : Type} : Loops R := fun id _ st k => bif Nat.beq id 0 then loopAt hp83_0 e83_0 q83_0 spec_RingsOk_r0 st k else none
noncomputable def spec_RingsOk (rings0 : List R_iLiE) : Option (Bool × Unit) :=
  outK (loopV spec_RingsOk_r0 (rings0, (0 : Int), ())) (fun y1 =>
    Option.bind (spec_l01In ((List.length y1.1 : Nat) : Int) (1 : Int) (9 : Int)) fun y3 =>
    some (y3.1, ())) (fun y2 =>
    some (y2.1, ()))
noncomputable def x83 (x : (List R_iLiE) × Unit) : Option (Bool × Unit) := spec_RingsOk x.1
noncomputable def sem83 : Sem1 := semOf ps83 rs83 x83
theorem so83 : SemsOk Try.prog (semsOf sl83) := sems_cons k63 (sems_cons k144 (sems_nil))
noncomputable def b83_0 : Code := nthLoop code83 0
theorem t83_r0_eq (x : denR (headRT hp83_0)) : codeK (tabOf tr) (semsOf sl83) D83 L83 b83_0 (headSt hp83_0 x) (roundK 0 hp83_0 e83_0 q83_0) = spec_RingsOk_r0 x := by kernel_rfl
theorem loop83_0 {R : Type} (r : R) (w0 : World) (mu : Mu) (hs : AnShape ps83 mu) : LoopAt Try.prog w0 mu 29 (L83 : Loops R) r 0 b83_0 :=
  loop_auto tr_ok eq_ok mixed_ok so83 (D := D83) hs (by kernel_rfl) (fun _ => (loops_of (l := []) (by kernel_rfl) (List.forall_mem_nil _))) t83_r0_eq (fun _ _ => rfl)
theorem t83_eq (x : denR (headRT (ps83.map some))) : codeK (tabOf tr) (semsOf sl83) D83 L83 code83 (start 29 ps83 x) (finK rs83 ps83) = x83 x := by kernel_rfl
theorem k83 : Known Try.prog 83 sem83 :=
  fn_auto tr_ok eq_ok mixed_ok so83 (D := D83) (code := code83) (n := 29) Try.func83 (by kernel_rfl) (by kernel_rfl) (by kernel_rfl) (fun w0 mu _ hs => (loops_of (l := [(0, b83_0)]) (by kernel_rfl) (List.forall_mem_cons.2 ⟨loop83_0 _ w0 mu hs, (List.forall_mem_nil _)⟩))) t83_eq

/-! ### f151: spec.l14CopyRing -/
noncomputable def code151 : Code := match Try.f151.body with | some c => c | none => .skip
def ps151 : List AP := [.val true [.int .i64, .shr T_i]]
def rs151 : List RP := [{ src := .cell 2, agg := true, ps := [.int .i64, .own T_i] }]
noncomputable def sl151 : SemL := []
def D151 : Draws := fun id => bif Nat.beq id 1 then .op 0 .any (.op 3 .any (.op 4 .take (.alt (.op 1 .one (.op 2 .one (.op 5 .last (.op 6 .any (.op 7 .last (.nil)))))) (.op 2 .one (.alt (.op 1 .one (.op 5 .last (.op 6 .any (.op 7 .last (.nil))))) (.op 5 .last (.op 1 .take (.op 6 .any (.op 7 .last (.nil)))))))))) else .nil
noncomputable def L151 {R : Type} : Loops R := fun _ _ _ _ => none
noncomputable def spec_l14CopyRing (r0c0 : Int) (r0c1 : List (Int × Unit)) : Option (Int × (List (Int × Unit)) × Unit) :=
  bif Nat.ble ((0 + (List.length r0c1)) * 8) lim then some (r0c0, [] ++ r0c1, ())
  else none
noncomputable def spec_l14CopyRing_o (r0c0 : Int) (r0c1 : List (Int × Unit)) : Option (Int × (List (Int × Unit)) × Unit) :=
  (fun K12 : Option (Int × (List (Int × Unit)) × Unit) => both (bif Nat.ble ((0 + (List.length r0c1)) * 8) lim then K12
      else none) (both (bif Nat.ble ((0 + (List.length r0c1)) * 8) lim then K12
        else none) (bif Nat.ble ((0 + (List.length r0c1)) * 8) lim then K12
        else none))) (some (r0c0, [] ++ r0c1, ()))
theorem spec_l14CopyRing_o_eq (r0c0 : Int) (r0c1 : List (Int × Unit)) : spec_l14CopyRing_o r0c0 r0c1 = spec_l14CopyRing r0c0 r0c1 := by
  simp only [spec_l14CopyRing_o, spec_l14CopyRing, both_self]
noncomputable def x151 (x : Int × (List (Int × Unit)) × Unit) : Option (Int × (List (Int × Unit)) × Unit) := spec_l14CopyRing x.1 x.2.1
noncomputable def sem151 : Sem1 := semOf ps151 rs151 x151
theorem so151 : SemsOk Try.prog (semsOf sl151) := sems_nil
theorem t151_eq (x : denR (headRT (ps151.map some))) : codeK (tabOf tr) (semsOf sl151) D151 L151 code151 (start 10 ps151 x) (finK rs151 ps151) = x151 x := (show _ = spec_l14CopyRing_o x.1 x.2.1 from by kernel_rfl).trans (spec_l14CopyRing_o_eq x.1 x.2.1)
theorem k151 : Known Try.prog 151 sem151 :=
  fn_auto tr_ok eq_ok mixed_ok so151 (D := D151) (code := code151) (n := 10) Try.func151 (by kernel_rfl) (by kernel_rfl) (by kernel_rfl) (fun w0 mu _ hs => (loops_of (l := []) (by kernel_rfl) (List.forall_mem_nil _))) t151_eq

/-! ### f84: spec.l15Rings -/
noncomputable def code84 : Code := match Try.f84.body with | some c => c | none => .skip
def ps84 : List AP := [.val false [.shr T_iLiE]]
def rs84 : List RP := [{ src := .tmp 2, agg := false, ps := [.own T_iLiE .dp] }]
noncomputable def sl84 : SemL := [(151, (.shr, .shr, .shr, sem151))]
def D84 : Draws := fun _ => .nil
def hp84_0 : List (Option AP) := [some (.val false [.shr T_iLiE]), none, none, some (.val false [.own T_iLiE .dp]), some (.val false [.int .i64]), none, none, none, none, none, none, none, none, none, none, none, none, none, none, none, none, none]
def e84_0 : List (Option AP) := [none, none, none, some (.val false [.own T_iLiE .dp]), none, none, none, none, none, none, none, none, none, none, none, none, none, none, none, none, none, none]
def q84_0 : List (Option AP) := [none, none, none, none, none, none, none, none, none, none, none, none, none, none, none, none, none, none, none, none, none, none]
abbrev H84_0 : Type := (List R_iLiE) × (List R_iLiE) × Int × Unit
abbrev E84_0 : Type := (List R_iLiE) × Unit
abbrev Q84_0 : Type := Unit
noncomputable def spec_l15Rings_c0 (rings0 : List R_iLiE) (out3 : List R_iLiE) (i4 : Int) : Option (Sum H84_0 (Sum E84_0 Q84_0)) :=
  bif decide (i4 < ((List.length rings0 : Nat) : Int)) then
    bif decide ((0 : Int) ≤ i4) then Option.bind ((rings0)[Int.toNat i4]?) fun r1 =>
      Option.bind (spec_l14CopyRing r1.1 r1.2.1) fun y2 =>
      bif Nat.ble (((List.length out3) + 1) * 32) lim then some (.inl (rings0, out3 ++ [(y2.1, y2.2.1, ())], IntKind.i64.wrap (i4 + (1 : Int)), ()))
      else none
    else none
  else
    some (.inr (.inl (out3, ())))
noncomputable def spec_l15Rings_r0 (x : H84_0) : Option (Sum H84_0 (Sum E84_0 Q84_0)) := spec_l15Rings_c0 x.1 x.2.1 x.2.2.1
noncomputable def L84 {R : Type} : Loops R := fun id _ st k => bif Nat.beq id 0 then loopAt hp84_0 e84_0 q84_0 spec_l15Rings_r0 st k else none
noncomputable def spec_l15Rings (rings0 : List R_iLiE) : Option ((List R_iLiE) × Unit) :=
  outK (loopV spec_l15Rings_r0 (rings0, [], (0 : Int), ())) (fun y1 =>
    some (y1.1, ())) (fun y2 =>
    none)
noncomputable def x84 (x : (List R_iLiE) × Unit) : Option ((List R_iLiE) × Unit) := spec_l15Rings x.1
noncomputable def sem84 : Sem1 := semOf ps84 rs84 x84
theorem so84 : SemsOk Try.prog (semsOf sl84) := sems_cons k151 (sems_nil)
noncomputable def b84_0 : Code := nthLoop code84 0
theorem t84_r0_eq (x : denR (headRT hp84_0)) : codeK (tabOf tr) (semsOf sl84) D84 L84 b84_0 (headSt hp84_0 x) (roundK 0 hp84_0 e84_0 q84_0) = spec_l15Rings_r0 x := by kernel_rfl
theorem loop84_0 {R : Type} (r : R) (w0 : World) (mu : Mu) (hs : AnShape ps84 mu) : LoopAt Try.prog w0 mu 21 (L84 : Loops R) r 0 b84_0 :=
  loop_auto tr_ok eq_ok mixed_ok so84 (D := D84) hs (by kernel_rfl) (fun _ => (loops_of (l := []) (by kernel_rfl) (List.forall_mem_nil _))) t84_r0_eq (fun _ _ => rfl)
theorem t84_eq (x : denR (headRT (ps84.map some))) : codeK (tabOf tr) (semsOf sl84) D84 L84 code84 (start 21 ps84 x) (finK rs84 ps84) = x84 x := by kernel_rfl
theorem k84 : Known Try.prog 84 sem84 :=
  fn_auto tr_ok eq_ok mixed_ok so84 (D := D84) (code := code84) (n := 21) Try.func84 (by kernel_rfl) (by kernel_rfl) (by kernel_rfl) (fun w0 mu _ hs => (loops_of (l := [(0, b84_0)]) (by kernel_rfl) (List.forall_mem_cons.2 ⟨loop84_0 _ w0 mu hs, (List.forall_mem_nil _)⟩))) t84_eq

/-! ### f85: spec.DaemonNew -/
noncomputable def code85 : Code := match Try.f85.body with | some c => c | none => .skip
def ps85 : List AP := [.val false [.int .i64]]
def rs85 : List RP := [{ src := .cell 2, agg := true, ps := [.int .i64, .bool, .int .i64, .int .i64, .own T_i, .own T_iiis, .own T_i, .own T_s, .int .i64, .int .i64, .int .i64, .int .i64, .int .i64, .int .i64, .int .i64, .int .i64, .int .i64, .own T_i, .int .i64, .int .i64, .int .i64, .own T_i, .own T_iiiLiiisE .dp, .own T_iiLiEiiisLiE .dp] }, { src := .tmp 3, agg := false, ps := [.bool] }]
noncomputable def sl85 : SemL := [(144, (.shr, .shr, .shr, sem144))]
def D85 : Draws := fun _ => .nil
noncomputable def L85 {R : Type} : Loops R := fun _ _ _ _ => none
noncomputable def spec_DaemonNew (id0 : Int) : Option (Int × Bool × Int × Int × (List (Int × Unit)) × (List R_iiis) × (List (Int × Unit)) × (List (ByteArray × Unit)) × Int × Int × Int × Int × Int × Int × Int × Int × Int × (List (Int × Unit)) × Int × Int × Int × (List (Int × Unit)) × (List R_iiiLiiisE) × (List R_iiLiEiiisLiE) × Bool × Unit) :=
  Option.bind (spec_l01In id0 (1 : Int) (5 : Int)) fun y1 =>
  bif !y1.1 then
    some ((0 : Int), false, (0 : Int), (0 : Int), [], [], [], [], (0 : Int), (0 : Int), (0 : Int), (0 : Int), (0 : Int), (0 : Int), (0 : Int), (0 : Int), (0 : Int), [], (0 : Int), (0 : Int), (0 : Int), [], [], [], false, ())
  else
    some (id0, false, (0 : Int), (0 : Int), [], [], [], [], (0 : Int), (0 : Int), (0 : Int), (0 : Int), (0 : Int), (0 : Int), (0 : Int), (0 : Int), (0 : Int), [], (0 : Int), (0 : Int), (0 : Int), [], [], [], true, ())
noncomputable def x85 (x : Int × Unit) : Option (Int × Bool × Int × Int × (List (Int × Unit)) × (List R_iiis) × (List (Int × Unit)) × (List (ByteArray × Unit)) × Int × Int × Int × Int × Int × Int × Int × Int × Int × (List (Int × Unit)) × Int × Int × Int × (List (Int × Unit)) × (List R_iiiLiiisE) × (List R_iiLiEiiisLiE) × Bool × Unit) := spec_DaemonNew x.1
noncomputable def sem85 : Sem1 := semOf ps85 rs85 x85
theorem so85 : SemsOk Try.prog (semsOf sl85) := sems_cons k144 (sems_nil)
theorem t85_eq (x : denR (headRT (ps85.map some))) : codeK (tabOf tr) (semsOf sl85) D85 L85 code85 (start 10 ps85 x) (finK rs85 ps85) = x85 x := by kernel_rfl
theorem k85 : Known Try.prog 85 sem85 :=
  fn_auto tr_ok eq_ok mixed_ok so85 (D := D85) (code := code85) (n := 10) Try.func85 (by kernel_rfl) (by kernel_rfl) (by kernel_rfl) (fun w0 mu _ hs => (loops_of (l := []) (by kernel_rfl) (List.forall_mem_nil _))) t85_eq

/-! ### f20: spec.WorldNew -/
noncomputable def code20 : Code := match Try.f20.body with | some c => c | none => .skip
def ps20 : List AP := [.val false [.shr T_iLiE]]
def rs20 : List RP := [{ src := .cell 2, agg := true, ps := [.own T_iLiE .dp, .own T_ibiiLiELiiisELiELsEiiiiiiiiiLiEiiiLiELiiiLiiisEELiiLiEiiisLiEE .dp, .own T_iiiiiisiiiiiLiEiiiLiiisE .dp, .own T_iiLiEiiisLiE .dp] }, { src := .tmp 3, agg := false, ps := [.bool] }]
noncomputable def sl20 : SemL := [(83, (.shr, .shr, .shr, sem83)), (84, (.shr, .shr, .shr, sem84)), (85, (.shr, .shr, .shr, sem85))]
def D20 : Draws := fun _ => .nil
def hp20_0 : List (Option AP) := [none, none, some (.box false [.own T_iLiE .dp, .own T_ibiiLiELiiisELiELsEiiiiiiiiiLiEiiiLiELiiiLiiisEELiiLiEiiisLiEE .dp, .own T_iiiiiisiiiiiLiEiiiLiiisE .dp, .own T_iiLiEiiisLiE .dp]), none, some (.box false [.own T_iLiE .dp, .own T_ibiiLiELiiisELiELsEiiiiiiiiiLiEiiiLiELiiiLiiisEELiiLiEiiisLiEE .dp, .own T_iiiiiisiiiiiLiEiiiLiiisE .dp, .own T_iiLiEiiisLiE .dp]), some (.val false [.int .i64]), none, none, none, none, none, none, none, none, none, none, none, none, none, none, none, none, none, none, none, none, none, none, none, none, none, none]
def e20_0 : List (Option AP) := [none, none, some (.box false [.own T_iLiE .dp, .own T_ibiiLiELiiisELiELsEiiiiiiiiiLiEiiiLiELiiiLiiisEELiiLiEiiisLiEE .dp, .own T_iiiiiisiiiiiLiEiiiLiiisE .dp, .own T_iiLiEiiisLiE .dp]), none, some (.box false [.own T_iLiE .dp, .own T_ibiiLiELiiisELiELsEiiiiiiiiiLiEiiiLiELiiiLiiisEELiiLiEiiisLiEE .dp, .own T_iiiiiisiiiiiLiEiiiLiiisE .dp, .own T_iiLiEiiisLiE .dp]), none, none, none, none, none, none, none, none, none, none, none, none, none, none, none, none, none, none, none, none, none, none, none, none, none, none, none]
def q20_0 : List (Option AP) := [none, none, none, none, none, none, none, none, none, none, none, none, none, none, none, none, none, none, none, none, none, none, none, none, none, none, none, none, none, none, none, none]
abbrev H20_0 : Type := (List R_iLiE) × (List R_ibiiLiELiiisELiELsEiiiiiiiiiLiEiiiLiELiiiLiiisEELiiLiEiiisLiEE) × (List R_iiiiiisiiiiiLiEiiiLiiisE) × (List R_iiLiEiiisLiE) × (List R_iLiE) × (List R_ibiiLiELiiisELiELsEiiiiiiiiiLiEiiiLiELiiiLiiisEELiiLiEiiisLiEE) × (List R_iiiiiisiiiiiLiEiiiLiiisE) × (List R_iiLiEiiisLiE) × Int × Unit
abbrev E20_0 : Type := (List R_iLiE) × (List R_ibiiLiELiiisELiELsEiiiiiiiiiLiEiiiLiELiiiLiiisEELiiLiEiiisLiEE) × (List R_iiiiiisiiiiiLiEiiiLiiisE) × (List R_iiLiEiiisLiE) × (List R_iLiE) × (List R_ibiiLiELiiisELiELsEiiiiiiiiiLiEiiiLiELiiiLiiisEELiiLiEiiisLiEE) × (List R_iiiiiisiiiiiLiEiiiLiiisE) × (List R_iiLiEiiisLiE) × Unit
abbrev Q20_0 : Type := Unit
noncomputable def spec_WorldNew_c0 (t2c0 : List R_iLiE) (t2c1 : List R_ibiiLiELiiisELiELsEiiiiiiiiiLiEiiiLiELiiiLiiisEELiiLiEiiisLiEE) (t2c2 : List R_iiiiiisiiiiiLiEiiiLiiisE) (t2c3 : List R_iiLiEiiisLiE) (w4c0 : List R_iLiE) (w4c1 : List R_ibiiLiELiiisELiELsEiiiiiiiiiLiEiiiLiELiiiLiiisEELiiLiEiiisLiEE) (w4c2 : List R_iiiiiisiiiiiLiEiiiLiiisE) (w4c3 : List R_iiLiEiiisLiE) (i5 : Int) : Option (Sum H20_0 (Sum E20_0 Q20_0)) :=
  bif decide (i5 ≤ (5 : Int)) then
    Option.bind (spec_DaemonNew i5) fun y3 =>
    bif Nat.ble (((List.length w4c1) + 1) * 320) lim then some (.inl (t2c0, t2c1, t2c2, t2c3, w4c0, w4c1 ++ [(y3.1, y3.2.1, y3.2.2.1, y3.2.2.2.1, y3.2.2.2.2.1, y3.2.2.2.2.2.1, y3.2.2.2.2.2.2.1, y3.2.2.2.2.2.2.2.1, y3.2.2.2.2.2.2.2.2.1, y3.2.2.2.2.2.2.2.2.2.1, y3.2.2.2.2.2.2.2.2.2.2.1, y3.2.2.2.2.2.2.2.2.2.2.2.1, y3.2.2.2.2.2.2.2.2.2.2.2.2.1, y3.2.2.2.2.2.2.2.2.2.2.2.2.2.1, y3.2.2.2.2.2.2.2.2.2.2.2.2.2.2.1, y3.2.2.2.2.2.2.2.2.2.2.2.2.2.2.2.1, y3.2.2.2.2.2.2.2.2.2.2.2.2.2.2.2.2.1, y3.2.2.2.2.2.2.2.2.2.2.2.2.2.2.2.2.2.1, y3.2.2.2.2.2.2.2.2.2.2.2.2.2.2.2.2.2.2.1, y3.2.2.2.2.2.2.2.2.2.2.2.2.2.2.2.2.2.2.2.1, y3.2.2.2.2.2.2.2.2.2.2.2.2.2.2.2.2.2.2.2.2.1, y3.2.2.2.2.2.2.2.2.2.2.2.2.2.2.2.2.2.2.2.2.2.1, y3.2.2.2.2.2.2.2.2.2.2.2.2.2.2.2.2.2.2.2.2.2.2.1, y3.2.2.2.2.2.2.2.2.2.2.2.2.2.2.2.2.2.2.2.2.2.2.2.1, ())], w4c2, w4c3, IntKind.i64.wrap (i5 + (1 : Int)), ()))
    else none
  else
    some (.inr (.inl (t2c0, t2c1, t2c2, t2c3, w4c0, w4c1, w4c2, w4c3, ())))
noncomputable def spec_WorldNew_r0 (x : H20_0) : Option (Sum H20_0 (Sum E20_0 Q20_0)) := spec_WorldNew_c0 x.1 x.2.1 x.2.2.1 x.2.2.2.1 x.2.2.2.2.1 x.2.2.2.2.2.1 x.2.2.2.2.2.2.1 x.2.2.2.2.2.2.2.1 x.2.2.2.2.2.2.2.2.1
noncomputable def L20 {R : Type} : Loops R := fun id _ st k => bif Nat.beq id 0 then loopAt hp20_0 e20_0 q20_0 spec_WorldNew_r0 st k else none
noncomputable def spec_WorldNew (rings0 : List R_iLiE) : Option ((List R_iLiE) × (List R_ibiiLiELiiisELiELsEiiiiiiiiiLiEiiiLiELiiiLiiisEELiiLiEiiisLiEE) × (List R_iiiiiisiiiiiLiEiiiLiiisE) × (List R_iiLiEiiisLiE) × Bool × Unit) :=
  Option.bind (spec_RingsOk rings0) fun y1 =>
  bif !y1.1 then
    some ([], [], [], [], false, ())
  else
    Option.bind (spec_l15Rings rings0) fun y2 =>
    outK (loopV spec_WorldNew_r0 ([], [], [], [], y2.1, [], [], [], (1 : Int), ())) (fun y3 =>
      some (y3.2.2.2.2.1, y3.2.2.2.2.2.1, y3.2.2.2.2.2.2.1, y3.2.2.2.2.2.2.2.1, true, ())) (fun y4 =>
      none)
noncomputable def x20 (x : (List R_iLiE) × Unit) : Option ((List R_iLiE) × (List R_ibiiLiELiiisELiELsEiiiiiiiiiLiEiiiLiELiiiLiiisEELiiLiEiiisLiEE) × (List R_iiiiiisiiiiiLiEiiiLiiisE) × (List R_iiLiEiiisLiE) × Bool × Unit) := spec_WorldNew x.1
noncomputable def sem20 : Sem1 := semOf ps20 rs20 x20
theorem so20 : SemsOk Try.prog (semsOf sl20) := sems_cons k83 (sems_cons k84 (sems_cons k85 (sems_nil)))
noncomputable def b20_0 : Code := nthLoop code20 0
theorem t20_r0_eq (x : denR (headRT hp20_0)) : codeK (tabOf tr) (semsOf sl20) D20 L20 b20_0 (headSt hp20_0 x) (roundK 0 hp20_0 e20_0 q20_0) = spec_WorldNew_r0 x := by kernel_rfl
theorem loop20_0 {R : Type} (r : R) (w0 : World) (mu : Mu) (hs : AnShape ps20 mu) : LoopAt Try.prog w0 mu 31 (L20 : Loops R) r 0 b20_0 :=
  loop_auto tr_ok eq_ok mixed_ok so20 (D := D20) hs (by kernel_rfl) (fun _ => (loops_of (l := []) (by kernel_rfl) (List.forall_mem_nil _))) t20_r0_eq (fun _ _ => rfl)
theorem t20_eq (x : denR (headRT (ps20.map some))) : codeK (tabOf tr) (semsOf sl20) D20 L20 code20 (start 31 ps20 x) (finK rs20 ps20) = x20 x := by kernel_rfl
theorem k20 : Known Try.prog 20 sem20 :=
  fn_auto tr_ok eq_ok mixed_ok so20 (D := D20) (code := code20) (n := 31) Try.func20 (by kernel_rfl) (by kernel_rfl) (by kernel_rfl) (fun w0 mu _ hs => (loops_of (l := [(0, b20_0)]) (by kernel_rfl) (List.forall_mem_cons.2 ⟨loop20_0 _ w0 mu hs, (List.forall_mem_nil _)⟩))) t20_eq

/-! ### f146: impl.inRange -/
noncomputable def code146 : Code := match Try.f146.body with | some c => c | none => .skip
def ps146 : List AP := [.val false [.int .i64], .val false [.int .i64], .val false [.int .i64]]
def rs146 : List RP := [{ src := .tmp 6, agg := false, ps := [.bool] }]
noncomputable def sl146 : SemL := []
def D146 : Draws := fun _ => .nil
noncomputable def L146 {R : Type} : Loops R := fun _ _ _ _ => none
noncomputable def impl_inRange (n0 : Int) (least1 : Int) (most2 : Int) : Option (Bool × Unit) :=
  bif decide (least1 ≤ n0) then
    some (decide (n0 ≤ most2), ())
  else
    some (false, ())
noncomputable def x146 (x : Int × Int × Int × Unit) : Option (Bool × Unit) := impl_inRange x.1 x.2.1 x.2.2.1
noncomputable def sem146 : Sem1 := semOf ps146 rs146 x146
theorem so146 : SemsOk Try.prog (semsOf sl146) := sems_nil
theorem t146_eq (x : denR (headRT (ps146.map some))) : codeK (tabOf tr) (semsOf sl146) D146 L146 code146 (start 15 ps146 x) (finK rs146 ps146) = x146 x := by kernel_rfl
theorem k146 : Known Try.prog 146 sem146 :=
  fn_auto tr_ok eq_ok mixed_ok so146 (D := D146) (code := code146) (n := 15) Try.func146 (by kernel_rfl) (by kernel_rfl) (by kernel_rfl) (fun w0 mu _ hs => (loops_of (l := []) (by kernel_rfl) (List.forall_mem_nil _))) t146_eq

/-! ### f147: impl.isDaemon -/
noncomputable def code147 : Code := match Try.f147.body with | some c => c | none => .skip
def ps147 : List AP := [.val false [.int .i64]]
def rs147 : List RP := [{ src := .tmp 2, agg := false, ps := [.bool] }]
noncomputable def sl147 : SemL := [(146, (.shr, .shr, .shr, sem146))]
def D147 : Draws := fun _ => .nil
noncomputable def L147 {R : Type} : Loops R := fun _ _ _ _ => none
noncomputable def impl_isDaemon (n0 : Int) : Option (Bool × Unit) :=
  Option.bind (impl_inRange n0 (1 : Int) (5 : Int)) fun y1 =>
  some (y1.1, ())
noncomputable def x147 (x : Int × Unit) : Option (Bool × Unit) := impl_isDaemon x.1
noncomputable def sem147 : Sem1 := semOf ps147 rs147 x147
theorem so147 : SemsOk Try.prog (semsOf sl147) := sems_cons k146 (sems_nil)
theorem t147_eq (x : denR (headRT (ps147.map some))) : codeK (tabOf tr) (semsOf sl147) D147 L147 code147 (start 5 ps147 x) (finK rs147 ps147) = x147 x := by kernel_rfl
theorem k147 : Known Try.prog 147 sem147 :=
  fn_auto tr_ok eq_ok mixed_ok so147 (D := D147) (code := code147) (n := 5) Try.func147 (by kernel_rfl) (by kernel_rfl) (by kernel_rfl) (fun w0 mu _ hs => (loops_of (l := []) (by kernel_rfl) (List.forall_mem_nil _))) t147_eq

/-! ### f67: impl.RingOk -/
noncomputable def code67 : Code := match Try.f67.body with | some c => c | none => .skip
def ps67 : List AP := [.val true [.int .i64, .shr T_i]]
def rs67 : List RP := [{ src := .tmp 2, agg := false, ps := [.bool] }]
noncomputable def sl67 : SemL := [(146, (.shr, .shr, .shr, sem146)), (147, (.shr, .shr, .shr, sem147))]
def D67 : Draws := fun _ => .nil
def hp67_0 : List (Option AP) := [none, some (.box false [.int .i64, .shr T_i]), none, none, none, none, none, none, none, none, none, none, none, none, none, none, none, some (.val false [.shr T_i]), some (.val false [.int .i64]), some (.val false [.int .i64]), none, none, none, none, none, none, none, none, none, none, none, none, none, none, none, none, none, none, none, none, none, none, none]
def e67_0 : List (Option AP) := [none, none, none, none, none, none, none, none, none, none, none, none, none, none, none, none, none, none, none, none, none, none, none, none, none, none, none, none, none, none, none, none, none, none, none, none, none, none, none, none, none, none, none]
def q67_0 : List (Option AP) := [none, none, some (.val false [.bool]), none, none, none, none, none, none, none, none, none, none, none, none, none, none, none, none, none, none, none, none, none, none, none, none, none, none, none, none, none, none, none, none, none, none, none, none, none, none, none, none]
abbrev H67_0 : Type := Int × (List (Int × Unit)) × (List (Int × Unit)) × Int × Int × Unit
abbrev E67_0 : Type := Unit
abbrev Q67_0 : Type := Bool × Unit
noncomputable def impl_RingOk_c0 (r1c0 : Int) (r1c1 : List (Int × Unit)) (t17 : List (Int × Unit)) (t18 : Int) (t19 : Int) : Option (Sum H67_0 (Sum E67_0 Q67_0)) :=
  bif decide (t19 < t18) then
    bif decide ((0 : Int) ≤ t19) then Option.bind ((t17)[Int.toNat t19]?) fun r3 =>
      Option.bind (impl_isDaemon r3.1) fun y4 =>
      bif !y4.1 then
        some (.inr (.inr (false, ())))
      else bif decide ((0 : Int) < t19) then
        bif decide ((0 : Int) ≤ IntKind.i64.wrap (t19 - (1 : Int))) then Option.bind ((r1c1)[Int.toNat (IntKind.i64.wrap (t19 - (1 : Int)))]?) fun r5 =>
          bif decide (r3.1 ≤ r5.1) then
            some (.inr (.inr (false, ())))
          else
            some (.inl (r1c0, r1c1, t17, t18, IntKind.i64.wrap (t19 + (1 : Int)), ()))
        else none
      else
        some (.inl (r1c0, r1c1, t17, t18, IntKind.i64.wrap (t19 + (1 : Int)), ()))
    else none
  else
    some (.inr (.inl (())))
noncomputable def impl_RingOk_r0 (x : H67_0) : Option (Sum H67_0 (Sum E67_0 Q67_0)) := impl_RingOk_c0 x.1 x.2.1 x.2.2.1 x.2.2.2.1 x.2.2.2.2.1
noncomputable def L67 {R : Type} : Loops R := fun id _ st k => bif Nat.beq id 0 then loopAt hp67_0 e67_0 q67_0 impl_RingOk_r0 st k else none
noncomputable def impl_RingOk (r0c0 : Int) (r0c1 : List (Int × Unit)) : Option (Bool × Unit) :=
  Option.bind (impl_inRange r0c0 (1 : Int) (9 : Int)) fun y1 =>
  bif !y1.1 then
    some (false, ())
  else
    Option.bind (impl_inRange ((List.length r0c1 : Nat) : Int) (1 : Int) (5 : Int)) fun y2 =>
    bif !y2.1 then
      some (false, ())
    else
      outK (loopV impl_RingOk_r0 (r0c0, r0c1, r0c1, ((List.length r0c1 : Nat) : Int), (0 : Int), ())) (fun y3 =>
        some (true, ())) (fun y4 =>
        some (y4.1, ()))
noncomputable def x67 (x : Int × (List (Int × Unit)) × Unit) : Option (Bool × Unit) := impl_RingOk x.1 x.2.1
noncomputable def sem67 : Sem1 := semOf ps67 rs67 x67
theorem so67 : SemsOk Try.prog (semsOf sl67) := sems_cons k146 (sems_cons k147 (sems_nil))
noncomputable def b67_0 : Code := nthLoop code67 0
theorem t67_r0_eq (x : denR (headRT hp67_0)) : codeK (tabOf tr) (semsOf sl67) D67 L67 b67_0 (headSt hp67_0 x) (roundK 0 hp67_0 e67_0 q67_0) = impl_RingOk_r0 x := by kernel_rfl
theorem loop67_0 {R : Type} (r : R) (w0 : World) (mu : Mu) (hs : AnShape ps67 mu) : LoopAt Try.prog w0 mu 42 (L67 : Loops R) r 0 b67_0 :=
  loop_auto tr_ok eq_ok mixed_ok so67 (D := D67) hs (by kernel_rfl) (fun _ => (loops_of (l := []) (by kernel_rfl) (List.forall_mem_nil _))) t67_r0_eq (fun _ _ => rfl)
theorem t67_eq (x : denR (headRT (ps67.map some))) : codeK (tabOf tr) (semsOf sl67) D67 L67 code67 (start 42 ps67 x) (finK rs67 ps67) = x67 x := by kernel_rfl
theorem k67 : Known Try.prog 67 sem67 :=
  fn_auto tr_ok eq_ok mixed_ok so67 (D := D67) (code := code67) (n := 42) Try.func67 (by kernel_rfl) (by kernel_rfl) (by kernel_rfl) (fun w0 mu _ hs => (loops_of (l := [(0, b67_0)]) (by kernel_rfl) (List.forall_mem_cons.2 ⟨loop67_0 _ w0 mu hs, (List.forall_mem_nil _)⟩))) t67_eq

/-! ### f86: impl.RingsOk -/
noncomputable def code86 : Code := match Try.f86.body with | some c => c | none => .skip
def ps86 : List AP := [.val false [.shr T_iLiE]]
def rs86 : List RP := [{ src := .tmp 2, agg := false, ps := [.bool] }]
noncomputable def sl86 : SemL := [(67, (.shr, .shr, .shr, sem67)), (146, (.shr, .shr, .shr, sem146))]
def D86 : Draws := fun _ => .nil
def hp86_0 : List (Option AP) := [some (.val false [.shr T_iLiE]), none, none, none, none, some (.val false [.shr T_iLiE]), some (.val false [.int .i64]), some (.val false [.int .i64]), none, none, none, none, none, none, none, none, none, none, none, none, none, none, none, none, none, none, none]
def e86_0 : List (Option AP) := [some (.val false [.shr T_iLiE]), none, none, none, none, none, none, none, none, none, none, none, none, none, none, none, none, none, none, none, none, none, none, none, none, none, none]
def q86_0 : List (Option AP) := [none, none, some (.val false [.bool]), none, none, none, none, none, none, none, none, none, none, none, none, none, none, none, none, none, none, none, none, none, none, none, none]
abbrev H86_0 : Type := (List R_iLiE) × (List R_iLiE) × Int × Int × Unit
abbrev E86_0 : Type := (List R_iLiE) × Unit
abbrev Q86_0 : Type := Bool × Unit
noncomputable def impl_RingsOk_c0 (rings0 : List R_iLiE) (t5 : List R_iLiE) (t6 : Int) (t7 : Int) : Option (Sum H86_0 (Sum E86_0 Q86_0)) :=
  bif decide (t7 < t6) then
    bif decide ((0 : Int) ≤ t7) then Option.bind ((t5)[Int.toNat t7]?) fun r1 =>
      Option.bind (impl_RingOk r1.1 r1.2.1) fun y2 =>
      bif !y2.1 then
        some (.inr (.inr (false, ())))
      else bif !decide (r1.1 = IntKind.i64.wrap (t7 + (1 : Int))) then
        some (.inr (.inr (false, ())))
      else
        some (.inl (rings0, t5, t6, IntKind.i64.wrap (t7 + (1 : Int)), ()))
    else none
  else
    some (.inr (.inl (rings0, ())))
noncomputable def impl_RingsOk_r0 (x : H86_0) : Option (Sum H86_0 (Sum E86_0 Q86_0)) := impl_RingsOk_c0 x.1 x.2.1 x.2.2.1 x.2.2.2.1
noncomputable def L86 {R : Type} : Loops R := fun id _ st k => bif Nat.beq id 0 then loopAt hp86_0 e86_0 q86_0 impl_RingsOk_r0 st k else none
noncomputable def impl_RingsOk (rings0 : List R_iLiE) : Option (Bool × Unit) :=
  outK (loopV impl_RingsOk_r0 (rings0, rings0, ((List.length rings0 : Nat) : Int), (0 : Int), ())) (fun y1 =>
    Option.bind (impl_inRange ((List.length y1.1 : Nat) : Int) (1 : Int) (9 : Int)) fun y3 =>
    some (y3.1, ())) (fun y2 =>
    some (y2.1, ()))
noncomputable def x86 (x : (List R_iLiE) × Unit) : Option (Bool × Unit) := impl_RingsOk x.1
noncomputable def sem86 : Sem1 := semOf ps86 rs86 x86
theorem so86 : SemsOk Try.prog (semsOf sl86) := sems_cons k67 (sems_cons k146 (sems_nil))
noncomputable def b86_0 : Code := nthLoop code86 0
theorem t86_r0_eq (x : denR (headRT hp86_0)) : codeK (tabOf tr) (semsOf sl86) D86 L86 b86_0 (headSt hp86_0 x) (roundK 0 hp86_0 e86_0 q86_0) = impl_RingsOk_r0 x := by kernel_rfl
theorem loop86_0 {R : Type} (r : R) (w0 : World) (mu : Mu) (hs : AnShape ps86 mu) : LoopAt Try.prog w0 mu 26 (L86 : Loops R) r 0 b86_0 :=
  loop_auto tr_ok eq_ok mixed_ok so86 (D := D86) hs (by kernel_rfl) (fun _ => (loops_of (l := []) (by kernel_rfl) (List.forall_mem_nil _))) t86_r0_eq (fun _ _ => rfl)
theorem t86_eq (x : denR (headRT (ps86.map some))) : codeK (tabOf tr) (semsOf sl86) D86 L86 code86 (start 26 ps86 x) (finK rs86 ps86) = x86 x := by kernel_rfl
theorem k86 : Known Try.prog 86 sem86 :=
  fn_auto tr_ok eq_ok mixed_ok so86 (D := D86) (code := code86) (n := 26) Try.func86 (by kernel_rfl) (by kernel_rfl) (by kernel_rfl) (fun w0 mu _ hs => (loops_of (l := [(0, b86_0)]) (by kernel_rfl) (List.forall_mem_cons.2 ⟨loop86_0 _ w0 mu hs, (List.forall_mem_nil _)⟩))) t86_eq

/-! ### f148: slices.Clone[[]int,int] -/
noncomputable def code148 : Code := match Try.f148.body with | some c => c | none => .skip
def ps148 : List AP := [.val false [.shr T_i]]
def rs148 : List RP := [{ src := .tmp 2, agg := false, ps := [.own T_i] }]
noncomputable def sl148 : SemL := []
def D148 : Draws := fun _ => .nil
noncomputable def L148 {R : Type} : Loops R := fun _ _ _ _ => none
noncomputable def slices_Clone_int (s0 : List (Int × Unit)) : Option ((List (Int × Unit)) × Unit) :=
  bif Nat.ble ((0 + (List.length s0)) * 8) lim then some ([] ++ s0, ())
  else none
noncomputable def x148 (x : (List (Int × Unit)) × Unit) : Option ((List (Int × Unit)) × Unit) := slices_Clone_int x.1
noncomputable def sem148 : Sem1 := semOf ps148 rs148 x148
theorem so148 : SemsOk Try.prog (semsOf sl148) := sems_nil
theorem t148_nn (x : denR (headRT (ps148.map some))) : codeK (tabOf tr) (semsOf sl148) D148 L148 code148 (startNn 8 (T_i) x.1 ps148 x) (finK rs148 ps148) = x148 x := by kernel_rfl
theorem t148_nil (z : Unit) : codeK (tabOf tr) (semsOf sl148) D148 L148 code148 (startNil 8 ps148 (([] : List (denR (T_i))), z)) (finK rs148 ps148) = x148 (([] : List (denR (T_i))), z) := by kernel_rfl
theorem k148 : Known Try.prog 148 sem148 :=
  fn_auto_nil tr_ok eq_ok mixed_ok so148 (D := D148) (code := code148) (n := 8) Try.func148 (by kernel_rfl) (by kernel_rfl) (by kernel_rfl) (fun w0 mu _ hs => (loops_of (l := []) (by kernel_rfl) (List.forall_mem_nil _))) t148_nil t148_nn

/-! ### f68: impl.copyRing -/
noncomputable def code68 : Code := match Try.f68.body with | some c => c | none => .skip
def ps68 : List AP := [.val true [.int .i64, .shr T_i]]
def rs68 : List RP := [{ src := .cell 2, agg := true, ps := [.int .i64, .own T_i] }]
noncomputable def sl68 : SemL := [(148, (.shr, .shr, .shr, sem148))]
def D68 : Draws := fun id => bif Nat.beq id 1 then .op 0 .any (.op 1 .take (.op 2 .any (.op 3 .take (.op 4 .one (.op 5 .any (.op 6 .last (.nil))))))) else .nil
noncomputable def L68 {R : Type} : Loops R := fun _ _ _ _ => none
noncomputable def impl_copyRing (r0c0 : Int) (r0c1 : List (Int × Unit)) : Option (Int × (List (Int × Unit)) × Unit) :=
  Option.bind (slices_Clone_int r0c1) fun y1 =>
  some (r0c0, y1.1, ())
noncomputable def x68 (x : Int × (List (Int × Unit)) × Unit) : Option (Int × (List (Int × Unit)) × Unit) := impl_copyRing x.1 x.2.1
noncomputable def sem68 : Sem1 := semOf ps68 rs68 x68
theorem so68 : SemsOk Try.prog (semsOf sl68) := sems_cons k148 (sems_nil)
theorem t68_eq (x : denR (headRT (ps68.map some))) : codeK (tabOf tr) (semsOf sl68) D68 L68 code68 (start 9 ps68 x) (finK rs68 ps68) = x68 x := by kernel_rfl
theorem k68 : Known Try.prog 68 sem68 :=
  fn_auto tr_ok eq_ok mixed_ok so68 (D := D68) (code := code68) (n := 9) Try.func68 (by kernel_rfl) (by kernel_rfl) (by kernel_rfl) (fun w0 mu _ hs => (loops_of (l := []) (by kernel_rfl) (List.forall_mem_nil _))) t68_eq

/-! ### f87: impl.DaemonNew -/
noncomputable def code87 : Code := match Try.f87.body with | some c => c | none => .skip
def ps87 : List AP := [.val false [.int .i64]]
def rs87 : List RP := [{ src := .cell 2, agg := true, ps := [.int .i64, .bool, .int .i64, .int .i64, .own T_i, .own T_iiis, .own T_i, .own T_s, .int .i64, .int .i64, .int .i64, .int .i64, .int .i64, .int .i64, .int .i64, .int .i64, .int .i64, .own T_i, .int .i64, .int .i64, .int .i64, .own T_i, .own T_iiiLiiisE .dp, .own T_iiLiEiiisLiE .dp] }, { src := .tmp 3, agg := false, ps := [.bool] }]
noncomputable def sl87 : SemL := [(147, (.shr, .shr, .shr, sem147))]
def D87 : Draws := fun _ => .nil
noncomputable def L87 {R : Type} : Loops R := fun _ _ _ _ => none
noncomputable def impl_DaemonNew (id0 : Int) : Option (Int × Bool × Int × Int × (List (Int × Unit)) × (List R_iiis) × (List (Int × Unit)) × (List (ByteArray × Unit)) × Int × Int × Int × Int × Int × Int × Int × Int × Int × (List (Int × Unit)) × Int × Int × Int × (List (Int × Unit)) × (List R_iiiLiiisE) × (List R_iiLiEiiisLiE) × Bool × Unit) :=
  Option.bind (impl_isDaemon id0) fun y1 =>
  bif !y1.1 then
    some ((0 : Int), false, (0 : Int), (0 : Int), [], [], [], [], (0 : Int), (0 : Int), (0 : Int), (0 : Int), (0 : Int), (0 : Int), (0 : Int), (0 : Int), (0 : Int), [], (0 : Int), (0 : Int), (0 : Int), [], [], [], false, ())
  else
    some (id0, false, (0 : Int), (0 : Int), [], [], [], [], (0 : Int), (0 : Int), (0 : Int), (0 : Int), (0 : Int), (0 : Int), (0 : Int), (0 : Int), (0 : Int), [], (0 : Int), (0 : Int), (0 : Int), [], [], [], true, ())
noncomputable def x87 (x : Int × Unit) : Option (Int × Bool × Int × Int × (List (Int × Unit)) × (List R_iiis) × (List (Int × Unit)) × (List (ByteArray × Unit)) × Int × Int × Int × Int × Int × Int × Int × Int × Int × (List (Int × Unit)) × Int × Int × Int × (List (Int × Unit)) × (List R_iiiLiiisE) × (List R_iiLiEiiisLiE) × Bool × Unit) := impl_DaemonNew x.1
noncomputable def sem87 : Sem1 := semOf ps87 rs87 x87
theorem so87 : SemsOk Try.prog (semsOf sl87) := sems_cons k147 (sems_nil)
theorem t87_eq (x : denR (headRT (ps87.map some))) : codeK (tabOf tr) (semsOf sl87) D87 L87 code87 (start 10 ps87 x) (finK rs87 ps87) = x87 x := by kernel_rfl
theorem k87 : Known Try.prog 87 sem87 :=
  fn_auto tr_ok eq_ok mixed_ok so87 (D := D87) (code := code87) (n := 10) Try.func87 (by kernel_rfl) (by kernel_rfl) (by kernel_rfl) (fun w0 mu _ hs => (loops_of (l := []) (by kernel_rfl) (List.forall_mem_nil _))) t87_eq

/-! ### f22: impl.WorldNew -/
noncomputable def code22 : Code := match Try.f22.body with | some c => c | none => .skip
def ps22 : List AP := [.val false [.shr T_iLiE]]
def rs22 : List RP := [{ src := .cell 2, agg := true, ps := [.own T_iLiE .dp, .own T_ibiiLiELiiisELiELsEiiiiiiiiiLiEiiiLiELiiiLiiisEELiiLiEiiisLiEE .dp, .own T_iiiiiisiiiiiLiEiiiLiiisE .dp, .own T_iiLiEiiisLiE .dp] }, { src := .tmp 3, agg := false, ps := [.bool] }]
noncomputable def sl22 : SemL := [(86, (.shr, .shr, .shr, sem86)), (68, (.shr, .shr, .shr, sem68)), (87, (.shr, .shr, .shr, sem87))]
def D22 : Draws := fun id => bif Nat.beq id 7 then .op 0 .any (.op 1 .take (.op 2 .take (.op 3 .one (.op 4 .one (.op 5 .last (.op 6 .any (.op 7 .last (.nil)))))))) else .nil
def hp22_0 : List (Option AP) := [none, none, some (.box false [.own T_iLiE .dp, .own T_ibiiLiELiiisELiELsEiiiiiiiiiLiEiiiLiELiiiLiiisEELiiLiEiiisLiEE .dp, .own T_iiiiiisiiiiiLiEiiiLiiisE .dp, .own T_iiLiEiiisLiE .dp]), none, some (.box false [.own T_iLiE .dp, .own T_ibiiLiELiiisELiELsEiiiiiiiiiLiEiiiLiELiiiLiiisEELiiLiEiiisLiEE .dp, .own T_iiiiiisiiiiiLiEiiiLiiisE .dp, .own T_iiLiEiiisLiE .dp]), none, none, none, none, none, none, none, none, none, some (.val false [.shr T_iLiE]), some (.val false [.int .i64]), some (.val false [.int .i64]), none, none, none, none, none, none, none, none, none, none, none, none, none, none, none, none, none, none, none, none, none, none, none, none, none, none, none, none]
def e22_0 : List (Option AP) := [none, none, some (.box false [.own T_iLiE .dp, .own T_ibiiLiELiiisELiELsEiiiiiiiiiLiEiiiLiELiiiLiiisEELiiLiEiiisLiEE .dp, .own T_iiiiiisiiiiiLiEiiiLiiisE .dp, .own T_iiLiEiiisLiE .dp]), none, some (.box false [.own T_iLiE .dp, .own T_ibiiLiELiiisELiELsEiiiiiiiiiLiEiiiLiELiiiLiiisEELiiLiEiiisLiEE .dp, .own T_iiiiiisiiiiiLiEiiiLiiisE .dp, .own T_iiLiEiiisLiE .dp]), none, none, none, none, none, none, none, none, none, none, none, none, none, none, none, none, none, none, none, none, none, none, none, none, none, none, none, none, none, none, none, none, none, none, none, none, none, none, none, none]
def q22_0 : List (Option AP) := [none, none, none, none, none, none, none, none, none, none, none, none, none, none, none, none, none, none, none, none, none, none, none, none, none, none, none, none, none, none, none, none, none, none, none, none, none, none, none, none, none, none, none, none, none]
abbrev H22_0 : Type := (List R_iLiE) × (List R_ibiiLiELiiisELiELsEiiiiiiiiiLiEiiiLiELiiiLiiisEELiiLiEiiisLiEE) × (List R_iiiiiisiiiiiLiEiiiLiiisE) × (List R_iiLiEiiisLiE) × (List R_iLiE) × (List R_ibiiLiELiiisELiELsEiiiiiiiiiLiEiiiLiELiiiLiiisEELiiLiEiiisLiEE) × (List R_iiiiiisiiiiiLiEiiiLiiisE) × (List R_iiLiEiiisLiE) × (List R_iLiE) × Int × Int × Unit
abbrev E22_0 : Type := (List R_iLiE) × (List R_ibiiLiELiiisELiELsEiiiiiiiiiLiEiiiLiELiiiLiiisEELiiLiEiiisLiEE) × (List R_iiiiiisiiiiiLiEiiiLiiisE) × (List R_iiLiEiiisLiE) × (List R_iLiE) × (List R_ibiiLiELiiisELiELsEiiiiiiiiiLiEiiiLiELiiiLiiisEELiiLiEiiisLiEE) × (List R_iiiiiisiiiiiLiEiiiLiiisE) × (List R_iiLiEiiisLiE) × Unit
abbrev Q22_0 : Type := Unit
noncomputable def impl_WorldNew_c0 (t2c0 : List R_iLiE) (t2c1 : List R_ibiiLiELiiisELiELsEiiiiiiiiiLiEiiiLiELiiiLiiisEELiiLiEiiisLiEE) (t2c2 : List R_iiiiiisiiiiiLiEiiiLiiisE) (t2c3 : List R_iiLiEiiisLiE) (w4c0 : List R_iLiE) (w4c1 : List R_ibiiLiELiiisELiELsEiiiiiiiiiLiEiiiLiELiiiLiiisEELiiLiEiiisLiEE) (w4c2 : List R_iiiiiisiiiiiLiEiiiLiiisE) (w4c3 : List R_iiLiEiiisLiE) (t14 : List R_iLiE) (t15 : Int) (t16 : Int) : Option (Sum H22_0 (Sum E22_0 Q22_0)) :=
  bif decide (t16 < t15) then
    bif decide ((0 : Int) ≤ t16) then Option.bind ((t14)[Int.toNat t16]?) fun r2 =>
      Option.bind (impl_copyRing r2.1 r2.2.1) fun y3 =>
      bif Nat.ble (((List.length w4c0) + 1) * 32) lim then some (.inl (t2c0, t2c1, t2c2, t2c3, w4c0 ++ [(y3.1, y3.2.1, ())], w4c1, w4c2, w4c3, t14, t15, IntKind.i64.wrap (t16 + (1 : Int)), ()))
      else none
    else none
  else
    some (.inr (.inl (t2c0, t2c1, t2c2, t2c3, w4c0, w4c1, w4c2, w4c3, ())))
noncomputable def impl_WorldNew_r0 (x : H22_0) : Option (Sum H22_0 (Sum E22_0 Q22_0)) := impl_WorldNew_c0 x.1 x.2.1 x.2.2.1 x.2.2.2.1 x.2.2.2.2.1 x.2.2.2.2.2.1 x.2.2.2.2.2.2.1 x.2.2.2.2.2.2.2.1 x.2.2.2.2.2.2.2.2.1 x.2.2.2.2.2.2.2.2.2.1 x.2.2.2.2.2.2.2.2.2.2.1
def hp22_2 : List (Option AP) := [none, none, some (.box false [.own T_iLiE .dp, .own T_ibiiLiELiiisELiELsEiiiiiiiiiLiEiiiLiELiiiLiiisEELiiLiEiiisLiEE .dp, .own T_iiiiiisiiiiiLiEiiiLiiisE .dp, .own T_iiLiEiiisLiE .dp]), none, some (.box false [.own T_iLiE .dp, .own T_ibiiLiELiiisELiELsEiiiiiiiiiLiEiiiLiELiiiLiiisEELiiLiEiiisLiEE .dp, .own T_iiiiiisiiiiiLiEiiiLiiisE .dp, .own T_iiLiEiiisLiE .dp]), none, none, some (.val false [.int .i64]), none, none, none, none, none, none, none, none, none, none, none, none, none, none, none, none, none, none, none, none, none, none, none, none, none, none, none, none, none, none, none, none, none, none, none, none, none]
def e22_2 : List (Option AP) := [none, none, some (.box false [.own T_iLiE .dp, .own T_ibiiLiELiiisELiELsEiiiiiiiiiLiEiiiLiELiiiLiiisEELiiLiEiiisLiEE .dp, .own T_iiiiiisiiiiiLiEiiiLiiisE .dp, .own T_iiLiEiiisLiE .dp]), none, some (.box false [.own T_iLiE .dp, .own T_ibiiLiELiiisELiELsEiiiiiiiiiLiEiiiLiELiiiLiiisEELiiLiEiiisLiEE .dp, .own T_iiiiiisiiiiiLiEiiiLiiisE .dp, .own T_iiLiEiiisLiE .dp]), none, none, none, none, none, none, none, none, none, none, none, none, none, none, none, none, none, none, none, none, none, none, none, none, none, none, none, none, none, none, none, none, none, none, none, none, none, none, none, none]
def q22_2 : List (Option AP) := [none, none, none, none, none, none, none, none, none, none, none, none, none, none, none, none, none, none, none, none, none, none, none, none, none, none, none, none, none, none, none, none, none, none, none, none, none, none, none, none, none, none, none, none, none]
abbrev H22_2 : Type := (List R_iLiE) × (List R_ibiiLiELiiisELiELsEiiiiiiiiiLiEiiiLiELiiiLiiisEELiiLiEiiisLiEE) × (List R_iiiiiisiiiiiLiEiiiLiiisE) × (List R_iiLiEiiisLiE) × (List R_iLiE) × (List R_ibiiLiELiiisELiELsEiiiiiiiiiLiEiiiLiELiiiLiiisEELiiLiEiiisLiEE) × (List R_iiiiiisiiiiiLiEiiiLiiisE) × (List R_iiLiEiiisLiE) × Int × Unit
abbrev E22_2 : Type := (List R_iLiE) × (List R_ibiiLiELiiisELiELsEiiiiiiiiiLiEiiiLiELiiiLiiisEELiiLiEiiisLiEE) × (List R_iiiiiisiiiiiLiEiiiLiiisE) × (List R_iiLiEiiisLiE) × (List R_iLiE) × (List R_ibiiLiELiiisELiELsEiiiiiiiiiLiEiiiLiELiiiLiiisEELiiLiEiiisLiEE) × (List R_iiiiiisiiiiiLiEiiiLiiisE) × (List R_iiLiEiiisLiE) × Unit
abbrev Q22_2 : Type := Unit
noncomputable def impl_WorldNew_c2 (t2c0 : List R_iLiE) (t2c1 : List R_ibiiLiELiiisELiELsEiiiiiiiiiLiEiiiLiELiiiLiiisEELiiLiEiiisLiEE) (t2c2 : List R_iiiiiisiiiiiLiEiiiLiiisE) (t2c3 : List R_iiLiEiiisLiE) (w4c0 : List R_iLiE) (w4c1 : List R_ibiiLiELiiisELiELsEiiiiiiiiiLiEiiiLiELiiiLiiisEELiiLiEiiisLiEE) (w4c2 : List R_iiiiiisiiiiiLiEiiiLiiisE) (w4c3 : List R_iiLiEiiisLiE) (id7 : Int) : Option (Sum H22_2 (Sum E22_2 Q22_2)) :=
  bif decide (id7 ≤ (5 : Int)) then
    Option.bind (impl_DaemonNew id7) fun y6 =>
    bif Nat.ble (((List.length w4c1) + 1) * 320) lim then some (.inl (t2c0, t2c1, t2c2, t2c3, w4c0, w4c1 ++ [(y6.1, y6.2.1, y6.2.2.1, y6.2.2.2.1, y6.2.2.2.2.1, y6.2.2.2.2.2.1, y6.2.2.2.2.2.2.1, y6.2.2.2.2.2.2.2.1, y6.2.2.2.2.2.2.2.2.1, y6.2.2.2.2.2.2.2.2.2.1, y6.2.2.2.2.2.2.2.2.2.2.1, y6.2.2.2.2.2.2.2.2.2.2.2.1, y6.2.2.2.2.2.2.2.2.2.2.2.2.1, y6.2.2.2.2.2.2.2.2.2.2.2.2.2.1, y6.2.2.2.2.2.2.2.2.2.2.2.2.2.2.1, y6.2.2.2.2.2.2.2.2.2.2.2.2.2.2.2.1, y6.2.2.2.2.2.2.2.2.2.2.2.2.2.2.2.2.1, y6.2.2.2.2.2.2.2.2.2.2.2.2.2.2.2.2.2.1, y6.2.2.2.2.2.2.2.2.2.2.2.2.2.2.2.2.2.2.1, y6.2.2.2.2.2.2.2.2.2.2.2.2.2.2.2.2.2.2.2.1, y6.2.2.2.2.2.2.2.2.2.2.2.2.2.2.2.2.2.2.2.2.1, y6.2.2.2.2.2.2.2.2.2.2.2.2.2.2.2.2.2.2.2.2.2.1, y6.2.2.2.2.2.2.2.2.2.2.2.2.2.2.2.2.2.2.2.2.2.2.1, y6.2.2.2.2.2.2.2.2.2.2.2.2.2.2.2.2.2.2.2.2.2.2.2.1, ())], w4c2, w4c3, IntKind.i64.wrap (id7 + (1 : Int)), ()))
    else none
  else
    some (.inr (.inl (t2c0, t2c1, t2c2, t2c3, w4c0, w4c1, w4c2, w4c3, ())))
noncomputable def impl_WorldNew_r2 (x : H22_2) : Option (Sum H22_2 (Sum E22_2 Q22_2)) := impl_WorldNew_c2 x.1 x.2.1 x.2.2.1 x.2.2.2.1 x.2.2.2.2.1 x.2.2.2.2.2.1 x.2.2.2.2.2.2.1 x.2.2.2.2.2.2.2.1 x.2.2.2.2.2.2.2.2.1
noncomputable def L22 {R : Type} : Loops R := fun id _ st k => bif Nat.beq id 0 then loopAt hp22_0 e22_0 q22_0 impl_WorldNew_r0 st k else bif Nat.beq id 2 then loopAt hp22_2 e22_2 q22_2 impl_WorldNew_r2 st k else none
noncomputable def impl_WorldNew (rings0 : List R_iLiE) : Option ((List R_iLiE) × (List R_ibiiLiELiiisELiELsEiiiiiiiiiLiEiiiLiELiiiLiiisEELiiLiEiiisLiEE) × (List R_iiiiiisiiiiiLiEiiiLiiisE) × (List R_iiLiEiiisLiE) × Bool × Unit) :=
  Option.bind (impl_RingsOk rings0) fun y1 =>
  bif !y1.1 then
    some ([], [], [], [], false, ())
  else
    outK (loopV impl_WorldNew_r0 ([], [], [], [], [], [], [], [], rings0, ((List.length rings0 : Nat) : Int), (0 : Int), ())) (fun y2 =>
      outK (loopV impl_WorldNew_r2 (y2.1, y2.2.1, y2.2.2.1, y2.2.2.2.1, y2.2.2.2.2.1, y2.2.2.2.2.2.1, y2.2.2.2.2.2.2.1, y2.2.2.2.2.2.2.2.1, (1 : Int), ())) (fun y4 =>
        some (y4.2.2.2.2.1, y4.2.2.2.2.2.1, y4.2.2.2.2.2.2.1, y4.2.2.2.2.2.2.2.1, true, ())) (fun y5 =>
        none)) (fun y3 =>
      none)
noncomputable def x22 (x : (List R_iLiE) × Unit) : Option ((List R_iLiE) × (List R_ibiiLiELiiisELiELsEiiiiiiiiiLiEiiiLiELiiiLiiisEELiiLiEiiisLiEE) × (List R_iiiiiisiiiiiLiEiiiLiiisE) × (List R_iiLiEiiisLiE) × Bool × Unit) := impl_WorldNew x.1
noncomputable def sem22 : Sem1 := semOf ps22 rs22 x22
theorem so22 : SemsOk Try.prog (semsOf sl22) := sems_cons k86 (sems_cons k68 (sems_cons k87 (sems_nil)))
noncomputable def b22_2 : Code := nthLoop code22 1
noncomputable def b22_0 : Code := nthLoop code22 0
theorem t22_r0_eq (x : denR (headRT hp22_0)) : codeK (tabOf tr) (semsOf sl22) D22 L22 b22_0 (headSt hp22_0 x) (roundK 0 hp22_0 e22_0 q22_0) = impl_WorldNew_r0 x := by kernel_rfl
theorem loop22_0 {R : Type} (r : R) (w0 : World) (mu : Mu) (hs : AnShape ps22 mu) : LoopAt Try.prog w0 mu 44 (L22 : Loops R) r 0 b22_0 :=
  loop_auto tr_ok eq_ok mixed_ok so22 (D := D22) hs (by kernel_rfl) (fun _ => (loops_of (l := []) (by kernel_rfl) (List.forall_mem_nil _))) t22_r0_eq (fun _ _ => rfl)
theorem t22_r2_eq (x : denR (headRT hp22_2)) : codeK (tabOf tr) (semsOf sl22) D22 L22 b22_2 (headSt hp22_2 x) (roundK 2 hp22_2 e22_2 q22_2) = impl_WorldNew_r2 x := by kernel_rfl
theorem loop22_2 {R : Type} (r : R) (w0 : World) (mu : Mu) (hs : AnShape ps22 mu) : LoopAt Try.prog w0 mu 44 (L22 : Loops R) r 2 b22_2 :=
  loop_auto tr_ok eq_ok mixed_ok so22 (D := D22) hs (by kernel_rfl) (fun _ => (loops_of (l := []) (by kernel_rfl) (List.forall_mem_nil _))) t22_r2_eq (fun _ _ => rfl)
theorem t22_eq (x : denR (headRT (ps22.map some))) : codeK (tabOf tr) (semsOf sl22) D22 L22 code22 (start 44 ps22 x) (finK rs22 ps22) = x22 x := by kernel_rfl
theorem k22 : Known Try.prog 22 sem22 :=
  fn_auto tr_ok eq_ok mixed_ok so22 (D := D22) (code := code22) (n := 44) Try.func22 (by kernel_rfl) (by kernel_rfl) (by kernel_rfl) (fun w0 mu _ hs => (loops_of (l := [(0, b22_0), (2, b22_2)]) (by kernel_rfl) (List.forall_mem_cons.2 ⟨loop22_0 _ w0 mu hs, (List.forall_mem_cons.2 ⟨loop22_2 _ w0 mu hs, (List.forall_mem_nil _)⟩)⟩))) t22_eq

/-! ### f74: laws.eqIntS -/
noncomputable def code74 : Code := match Try.f74.body with | some c => c | none => .skip
def ps74 : List AP := [.val false [.shr T_i], .val false [.shr T_i]]
def rs74 : List RP := [{ src := .tmp 4, agg := false, ps := [.bool] }]
noncomputable def sl74 : SemL := []
def D74 : Draws := fun id => bif Nat.beq id 6 then .op 0 .any (.op 1 .any (.op 2 .any (.op 3 .take (.op 4 .any (.op 5 .any (.op 6 .any (.op 7 .take (.op 8 .any (.nil))))))))) else .nil
def hp74_0 : List (Option AP) := [some (.val false [.shr T_i]), some (.val false [.shr T_i]), none, none, none, some (.val false [.int .i64]), none, none, none, none, none, none, none, none, none, none, none, none, none, none, none, none, none, none, none, none, none]
def e74_0 : List (Option AP) := [none, none, none, none, none, none, none, none, none, none, none, none, none, none, none, none, none, none, none, none, none, none, none, none, none, none, none]
def q74_0 : List (Option AP) := [none, none, none, none, some (.val false [.bool]), none, none, none, none, none, none, none, none, none, none, none, none, none, none, none, none, none, none, none, none, none, none]
abbrev H74_0 : Type := (List (Int × Unit)) × (List (Int × Unit)) × Int × Unit
abbrev E74_0 : Type := Unit
abbrev Q74_0 : Type := Bool × Unit
noncomputable def laws_eqIntS_c0 (a0 : List (Int × Unit)) (b1 : List (Int × Unit)) (i5 : Int) : Option (Sum H74_0 (Sum E74_0 Q74_0)) :=
  bif decide (i5 < ((List.length a0 : Nat) : Int)) then
    bif decide ((0 : Int) ≤ i5) then Option.bind ((a0)[Int.toNat i5]?) fun r1 =>
      bif decide ((0 : Int) ≤ i5) then Option.bind ((b1)[Int.toNat i5]?) fun r2 =>
        bif !decide (r1.1 = r2.1) then
          some (.inr (.inr (false, ())))
        else
          some (.inl (a0, b1, IntKind.i64.wrap (i5 + (1 : Int)), ()))
      else none
    else none
  else
    some (.inr (.inl (())))
noncomputable def laws_eqIntS_r0 (x : H74_0) : Option (Sum H74_0 (Sum E74_0 Q74_0)) := laws_eqIntS_c0 x.1 x.2.1 x.2.2.1
noncomputable def L74 {R : Type} : Loops R := fun id _ st k => bif Nat.beq id 0 then loopAt hp74_0 e74_0 q74_0 laws_eqIntS_r0 st k else none
noncomputable def laws_eqIntS (a0 : List (Int × Unit)) (b1 : List (Int × Unit)) : Option (Bool × Unit) :=
  bif !decide (((List.length a0 : Nat) : Int) = ((List.length b1 : Nat) : Int)) then
    some (false, ())
  else
    outK (loopV laws_eqIntS_r0 (a0, b1, (0 : Int), ())) (fun y1 =>
      some (true, ())) (fun y2 =>
      some (y2.1, ()))
noncomputable def x74 (x : (List (Int × Unit)) × (List (Int × Unit)) × Unit) : Option (Bool × Unit) := laws_eqIntS x.1 x.2.1
noncomputable def sem74 : Sem1 := semOf ps74 rs74 x74
theorem so74 : SemsOk Try.prog (semsOf sl74) := sems_nil
noncomputable def b74_0 : Code := nthLoop code74 0
theorem t74_r0_eq (x : denR (headRT hp74_0)) : codeK (tabOf tr) (semsOf sl74) D74 L74 b74_0 (headSt hp74_0 x) (roundK 0 hp74_0 e74_0 q74_0) = laws_eqIntS_r0 x := by kernel_rfl
theorem loop74_0 {R : Type} (r : R) (w0 : World) (mu : Mu) (hs : AnShape ps74 mu) : LoopAt Try.prog w0 mu 26 (L74 : Loops R) r 0 b74_0 :=
  loop_auto tr_ok eq_ok mixed_ok so74 (D := D74) hs (by kernel_rfl) (fun _ => (loops_of (l := []) (by kernel_rfl) (List.forall_mem_nil _))) t74_r0_eq (fun _ _ => rfl)
theorem t74_eq (x : denR (headRT (ps74.map some))) : codeK (tabOf tr) (semsOf sl74) D74 L74 code74 (start 26 ps74 x) (finK rs74 ps74) = x74 x := by kernel_rfl
theorem k74 : Known Try.prog 74 sem74 :=
  fn_auto tr_ok eq_ok mixed_ok so74 (D := D74) (code := code74) (n := 26) Try.func74 (by kernel_rfl) (by kernel_rfl) (by kernel_rfl) (fun w0 mu _ hs => (loops_of (l := [(0, b74_0)]) (by kernel_rfl) (List.forall_mem_cons.2 ⟨loop74_0 _ w0 mu hs, (List.forall_mem_nil _)⟩))) t74_eq

/-! ### f15: laws.eqRing -/
noncomputable def code15 : Code := match Try.f15.body with | some c => c | none => .skip
def ps15 : List AP := [.val true [.int .i64, .shr T_i], .val true [.int .i64, .shr T_i]]
def rs15 : List RP := [{ src := .tmp 4, agg := false, ps := [.bool] }]
noncomputable def sl15 : SemL := [(74, (.shr, .shr, .shr, sem74))]
def D15 : Draws := fun _ => .nil
noncomputable def L15 {R : Type} : Loops R := fun _ _ _ _ => none
noncomputable def laws_eqRing (a0c0 : Int) (a0c1 : List (Int × Unit)) (b1c0 : Int) (b1c1 : List (Int × Unit)) : Option (Bool × Unit) :=
  bif !decide (a0c0 = b1c0) then
    some (false, ())
  else
    Option.bind (laws_eqIntS a0c1 b1c1) fun y1 =>
    bif !y1.1 then
      some (false, ())
    else
      some (true, ())
noncomputable def x15 (x : Int × (List (Int × Unit)) × Int × (List (Int × Unit)) × Unit) : Option (Bool × Unit) := laws_eqRing x.1 x.2.1 x.2.2.1 x.2.2.2.1
noncomputable def sem15 : Sem1 := semOf ps15 rs15 x15
theorem so15 : SemsOk Try.prog (semsOf sl15) := sems_cons k74 (sems_nil)
theorem t15_eq (x : denR (headRT (ps15.map some))) : codeK (tabOf tr) (semsOf sl15) D15 L15 code15 (start 16 ps15 x) (finK rs15 ps15) = x15 x := by kernel_rfl
theorem k15 : Known Try.prog 15 sem15 :=
  fn_auto tr_ok eq_ok mixed_ok so15 (D := D15) (code := code15) (n := 16) Try.func15 (by kernel_rfl) (by kernel_rfl) (by kernel_rfl) (fun w0 mu _ hs => (loops_of (l := []) (by kernel_rfl) (List.forall_mem_nil _))) t15_eq

/-! ### f24: laws.eqRingS -/
noncomputable def code24 : Code := match Try.f24.body with | some c => c | none => .skip
def ps24 : List AP := [.val false [.shr T_iLiE], .val false [.shr T_iLiE]]
def rs24 : List RP := [{ src := .tmp 4, agg := false, ps := [.bool] }]
noncomputable def sl24 : SemL := [(15, (.shr, .shr, .shr, sem15))]
def D24 : Draws := fun id => bif Nat.beq id 6 then .op 0 .any (.op 1 .any (.op 2 .any (.op 3 .take (.op 4 .any (.op 5 .any (.op 6 .any (.op 7 .take (.op 8 .one (.op 9 .any (.nil)))))))))) else .nil
def hp24_0 : List (Option AP) := [some (.val false [.shr T_iLiE]), some (.val false [.shr T_iLiE]), none, none, none, some (.val false [.int .i64]), none, none, none, none, none, none, none, none, none, none, none, none, none, none, none, none, none, none, none, none, none, none]
def e24_0 : List (Option AP) := [none, none, none, none, none, none, none, none, none, none, none, none, none, none, none, none, none, none, none, none, none, none, none, none, none, none, none, none]
def q24_0 : List (Option AP) := [none, none, none, none, some (.val false [.bool]), none, none, none, none, none, none, none, none, none, none, none, none, none, none, none, none, none, none, none, none, none, none, none]
abbrev H24_0 : Type := (List R_iLiE) × (List R_iLiE) × Int × Unit
abbrev E24_0 : Type := Unit
abbrev Q24_0 : Type := Bool × Unit
noncomputable def laws_eqRingS_c0 (a0 : List R_iLiE) (b1 : List R_iLiE) (i5 : Int) : Option (Sum H24_0 (Sum E24_0 Q24_0)) :=
  bif decide (i5 < ((List.length a0 : Nat) : Int)) then
    bif decide ((0 : Int) ≤ i5) then Option.bind ((a0)[Int.toNat i5]?) fun r1 =>
      bif decide ((0 : Int) ≤ i5) then Option.bind ((b1)[Int.toNat i5]?) fun r2 =>
        Option.bind (laws_eqRing r1.1 r1.2.1 r2.1 r2.2.1) fun y3 =>
        bif !y3.1 then
          some (.inr (.inr (false, ())))
        else
          some (.inl (a0, b1, IntKind.i64.wrap (i5 + (1 : Int)), ()))
      else none
    else none
  else
    some (.inr (.inl (())))
noncomputable def laws_eqRingS_r0 (x : H24_0) : Option (Sum H24_0 (Sum E24_0 Q24_0)) := laws_eqRingS_c0 x.1 x.2.1 x.2.2.1
noncomputable def L24 {R : Type} : Loops R := fun id _ st k => bif Nat.beq id 0 then loopAt hp24_0 e24_0 q24_0 laws_eqRingS_r0 st k else none
noncomputable def laws_eqRingS (a0 : List R_iLiE) (b1 : List R_iLiE) : Option (Bool × Unit) :=
  bif !decide (((List.length a0 : Nat) : Int) = ((List.length b1 : Nat) : Int)) then
    some (false, ())
  else
    outK (loopV laws_eqRingS_r0 (a0, b1, (0 : Int), ())) (fun y1 =>
      some (true, ())) (fun y2 =>
      some (y2.1, ()))
noncomputable def x24 (x : (List R_iLiE) × (List R_iLiE) × Unit) : Option (Bool × Unit) := laws_eqRingS x.1 x.2.1
noncomputable def sem24 : Sem1 := semOf ps24 rs24 x24
theorem so24 : SemsOk Try.prog (semsOf sl24) := sems_cons k15 (sems_nil)
noncomputable def b24_0 : Code := nthLoop code24 0
theorem t24_r0_eq (x : denR (headRT hp24_0)) : codeK (tabOf tr) (semsOf sl24) D24 L24 b24_0 (headSt hp24_0 x) (roundK 0 hp24_0 e24_0 q24_0) = laws_eqRingS_r0 x := by kernel_rfl
theorem loop24_0 {R : Type} (r : R) (w0 : World) (mu : Mu) (hs : AnShape ps24 mu) : LoopAt Try.prog w0 mu 27 (L24 : Loops R) r 0 b24_0 :=
  loop_auto tr_ok eq_ok mixed_ok so24 (D := D24) hs (by kernel_rfl) (fun _ => (loops_of (l := []) (by kernel_rfl) (List.forall_mem_nil _))) t24_r0_eq (fun _ _ => rfl)
theorem t24_eq (x : denR (headRT (ps24.map some))) : codeK (tabOf tr) (semsOf sl24) D24 L24 code24 (start 27 ps24 x) (finK rs24 ps24) = x24 x := by kernel_rfl
theorem k24 : Known Try.prog 24 sem24 :=
  fn_auto tr_ok eq_ok mixed_ok so24 (D := D24) (code := code24) (n := 27) Try.func24 (by kernel_rfl) (by kernel_rfl) (by kernel_rfl) (fun w0 mu _ hs => (loops_of (l := [(0, b24_0)]) (by kernel_rfl) (List.forall_mem_cons.2 ⟨loop24_0 _ w0 mu hs, (List.forall_mem_nil _)⟩))) t24_eq

/-! ### f106: laws.eqItem -/
noncomputable def code106 : Code := match Try.f106.body with | some c => c | none => .skip
def ps106 : List AP := [.val true [.int .i64, .int .i64, .int .i64, .str], .val true [.int .i64, .int .i64, .int .i64, .str]]
def rs106 : List RP := [{ src := .tmp 4, agg := false, ps := [.bool] }]
noncomputable def sl106 : SemL := []
def D106 : Draws := fun _ => .nil
noncomputable def L106 {R : Type} : Loops R := fun _ _ _ _ => none
noncomputable def laws_eqItem (a0c0 : Int) (a0c1 : Int) (a0c2 : Int) (a0c3 : ByteArray) (b1c0 : Int) (b1c1 : Int) (b1c2 : Int) (b1c3 : ByteArray) : Option (Bool × Unit) :=
  bif !decide (a0c0 = b1c0) then
    some (false, ())
  else bif !decide (a0c1 = b1c1) then
    some (false, ())
  else bif !decide (a0c2 = b1c2) then
    some (false, ())
  else bif !strEq a0c3 b1c3 then
    some (false, ())
  else
    some (true, ())
noncomputable def x106 (x : Int × Int × Int × ByteArray × Int × Int × Int × ByteArray × Unit) : Option (Bool × Unit) := laws_eqItem x.1 x.2.1 x.2.2.1 x.2.2.2.1 x.2.2.2.2.1 x.2.2.2.2.2.1 x.2.2.2.2.2.2.1 x.2.2.2.2.2.2.2.1
noncomputable def sem106 : Sem1 := semOf ps106 rs106 x106
theorem so106 : SemsOk Try.prog (semsOf sl106) := sems_nil
theorem t106_eq (x : denR (headRT (ps106.map some))) : codeK (tabOf tr) (semsOf sl106) D106 L106 code106 (start 25 ps106 x) (finK rs106 ps106) = x106 x := by kernel_rfl
theorem k106 : Known Try.prog 106 sem106 :=
  fn_auto tr_ok eq_ok mixed_ok so106 (D := D106) (code := code106) (n := 25) Try.func106 (by kernel_rfl) (by kernel_rfl) (by kernel_rfl) (fun w0 mu _ hs => (loops_of (l := []) (by kernel_rfl) (List.forall_mem_nil _))) t106_eq

/-! ### f32: laws.eqItemS -/
noncomputable def code32 : Code := match Try.f32.body with | some c => c | none => .skip
def ps32 : List AP := [.val false [.shr T_iiis], .val false [.shr T_iiis]]
def rs32 : List RP := [{ src := .tmp 4, agg := false, ps := [.bool] }]
noncomputable def sl32 : SemL := [(106, (.shr, .shr, .shr, sem106))]
def D32 : Draws := fun id => bif Nat.beq id 6 then .op 0 .any (.op 1 .any (.op 2 .any (.op 3 .take (.op 4 .any (.op 5 .any (.op 6 .any (.op 7 .take (.op 8 .one (.op 9 .any (.nil)))))))))) else .nil
def hp32_0 : List (Option AP) := [some (.val false [.shr T_iiis]), some (.val false [.shr T_iiis]), none, none, none, some (.val false [.int .i64]), none, none, none, none, none, none, none, none, none, none, none, none, none, none, none, none, none, none, none, none, none, none]
def e32_0 : List (Option AP) := [none, none, none, none, none, none, none, none, none, none, none, none, none, none, none, none, none, none, none, none, none, none, none, none, none, none, none, none]
def q32_0 : List (Option AP) := [none, none, none, none, some (.val false [.bool]), none, none, none, none, none, none, none, none, none, none, none, none, none, none, none, none, none, none, none, none, none, none, none]
abbrev H32_0 : Type := (List R_iiis) × (List R_iiis) × Int × Unit
abbrev E32_0 : Type := Unit
abbrev Q32_0 : Type := Bool × Unit
noncomputable def laws_eqItemS_c0 (a0 : List R_iiis) (b1 : List R_iiis) (i5 : Int) : Option (Sum H32_0 (Sum E32_0 Q32_0)) :=
  bif decide (i5 < ((List.length a0 : Nat) : Int)) then
    bif decide ((0 : Int) ≤ i5) then Option.bind ((a0)[Int.toNat i5]?) fun r1 =>
      bif decide ((0 : Int) ≤ i5) then Option.bind ((b1)[Int.toNat i5]?) fun r2 =>
        Option.bind (laws_eqItem r1.1 r1.2.1 r1.2.2.1 r1.2.2.2.1 r2.1 r2.2.1 r2.2.2.1 r2.2.2.2.1) fun y3 =>
        bif !y3.1 then
          some (.inr (.inr (false, ())))
        else
          some (.inl (a0, b1, IntKind.i64.wrap (i5 + (1 : Int)), ()))
      else none
    else none
  else
    some (.inr (.inl (())))
noncomputable def laws_eqItemS_r0 (x : H32_0) : Option (Sum H32_0 (Sum E32_0 Q32_0)) := laws_eqItemS_c0 x.1 x.2.1 x.2.2.1
noncomputable def L32 {R : Type} : Loops R := fun id _ st k => bif Nat.beq id 0 then loopAt hp32_0 e32_0 q32_0 laws_eqItemS_r0 st k else none
noncomputable def laws_eqItemS (a0 : List R_iiis) (b1 : List R_iiis) : Option (Bool × Unit) :=
  bif !decide (((List.length a0 : Nat) : Int) = ((List.length b1 : Nat) : Int)) then
    some (false, ())
  else
    outK (loopV laws_eqItemS_r0 (a0, b1, (0 : Int), ())) (fun y1 =>
      some (true, ())) (fun y2 =>
      some (y2.1, ()))
noncomputable def x32 (x : (List R_iiis) × (List R_iiis) × Unit) : Option (Bool × Unit) := laws_eqItemS x.1 x.2.1
noncomputable def sem32 : Sem1 := semOf ps32 rs32 x32
theorem so32 : SemsOk Try.prog (semsOf sl32) := sems_cons k106 (sems_nil)
noncomputable def b32_0 : Code := nthLoop code32 0
theorem t32_r0_eq (x : denR (headRT hp32_0)) : codeK (tabOf tr) (semsOf sl32) D32 L32 b32_0 (headSt hp32_0 x) (roundK 0 hp32_0 e32_0 q32_0) = laws_eqItemS_r0 x := by kernel_rfl
theorem loop32_0 {R : Type} (r : R) (w0 : World) (mu : Mu) (hs : AnShape ps32 mu) : LoopAt Try.prog w0 mu 27 (L32 : Loops R) r 0 b32_0 :=
  loop_auto tr_ok eq_ok mixed_ok so32 (D := D32) hs (by kernel_rfl) (fun _ => (loops_of (l := []) (by kernel_rfl) (List.forall_mem_nil _))) t32_r0_eq (fun _ _ => rfl)
theorem t32_eq (x : denR (headRT (ps32.map some))) : codeK (tabOf tr) (semsOf sl32) D32 L32 code32 (start 27 ps32 x) (finK rs32 ps32) = x32 x := by kernel_rfl
theorem k32 : Known Try.prog 32 sem32 :=
  fn_auto tr_ok eq_ok mixed_ok so32 (D := D32) (code := code32) (n := 27) Try.func32 (by kernel_rfl) (by kernel_rfl) (by kernel_rfl) (fun w0 mu _ hs => (loops_of (l := [(0, b32_0)]) (by kernel_rfl) (List.forall_mem_cons.2 ⟨loop32_0 _ w0 mu hs, (List.forall_mem_nil _)⟩))) t32_eq

/-! ### f141: laws.eqStringS -/
noncomputable def code141 : Code := match Try.f141.body with | some c => c | none => .skip
def ps141 : List AP := [.val false [.shr T_s], .val false [.shr T_s]]
def rs141 : List RP := [{ src := .tmp 4, agg := false, ps := [.bool] }]
noncomputable def sl141 : SemL := []
def D141 : Draws := fun id => bif Nat.beq id 6 then .op 0 .any (.op 1 .any (.op 2 .any (.op 3 .take (.op 4 .any (.op 5 .any (.op 6 .any (.op 7 .take (.op 8 .any (.nil))))))))) else .nil
def hp141_0 : List (Option AP) := [some (.val false [.shr T_s]), some (.val false [.shr T_s]), none, none, none, some (.val false [.int .i64]), none, none, none, none, none, none, none, none, none, none, none, none, none, none, none, none, none, none, none, none, none]
def e141_0 : List (Option AP) := [none, none, none, none, none, none, none, none, none, none, none, none, none, none, none, none, none, none, none, none, none, none, none, none, none, none, none]
def q141_0 : List (Option AP) := [none, none, none, none, some (.val false [.bool]), none, none, none, none, none, none, none, none, none, none, none, none, none, none, none, none, none, none, none, none, none, none]
abbrev H141_0 : Type := (List (ByteArray × Unit)) × (List (ByteArray × Unit)) × Int × Unit
abbrev E141_0 : Type := Unit
abbrev Q141_0 : Type := Bool × Unit
noncomputable def laws_eqStringS_c0 (a0 : List (ByteArray × Unit)) (b1 : List (ByteArray × Unit)) (i5 : Int) : Option (Sum H141_0 (Sum E141_0 Q141_0)) :=
  bif decide (i5 < ((List.length a0 : Nat) : Int)) then
    bif decide ((0 : Int) ≤ i5) then Option.bind ((a0)[Int.toNat i5]?) fun r1 =>
      bif decide ((0 : Int) ≤ i5) then Option.bind ((b1)[Int.toNat i5]?) fun r2 =>
        bif !strEq r1.1 r2.1 then
          some (.inr (.inr (false, ())))
        else
          some (.inl (a0, b1, IntKind.i64.wrap (i5 + (1 : Int)), ()))
      else none
    else none
  else
    some (.inr (.inl (())))
noncomputable def laws_eqStringS_r0 (x : H141_0) : Option (Sum H141_0 (Sum E141_0 Q141_0)) := laws_eqStringS_c0 x.1 x.2.1 x.2.2.1
noncomputable def L141 {R : Type} : Loops R := fun id _ st k => bif Nat.beq id 0 then loopAt hp141_0 e141_0 q141_0 laws_eqStringS_r0 st k else none
noncomputable def laws_eqStringS (a0 : List (ByteArray × Unit)) (b1 : List (ByteArray × Unit)) : Option (Bool × Unit) :=
  bif !decide (((List.length a0 : Nat) : Int) = ((List.length b1 : Nat) : Int)) then
    some (false, ())
  else
    outK (loopV laws_eqStringS_r0 (a0, b1, (0 : Int), ())) (fun y1 =>
      some (true, ())) (fun y2 =>
      some (y2.1, ()))
noncomputable def x141 (x : (List (ByteArray × Unit)) × (List (ByteArray × Unit)) × Unit) : Option (Bool × Unit) := laws_eqStringS x.1 x.2.1
noncomputable def sem141 : Sem1 := semOf ps141 rs141 x141
theorem so141 : SemsOk Try.prog (semsOf sl141) := sems_nil
noncomputable def b141_0 : Code := nthLoop code141 0
theorem t141_r0_eq (x : denR (headRT hp141_0)) : codeK (tabOf tr) (semsOf sl141) D141 L141 b141_0 (headSt hp141_0 x) (roundK 0 hp141_0 e141_0 q141_0) = laws_eqStringS_r0 x := by kernel_rfl
theorem loop141_0 {R : Type} (r : R) (w0 : World) (mu : Mu) (hs : AnShape ps141 mu) : LoopAt Try.prog w0 mu 26 (L141 : Loops R) r 0 b141_0 :=
  loop_auto tr_ok eq_ok mixed_ok so141 (D := D141) hs (by kernel_rfl) (fun _ => (loops_of (l := []) (by kernel_rfl) (List.forall_mem_nil _))) t141_r0_eq (fun _ _ => rfl)
theorem t141_eq (x : denR (headRT (ps141.map some))) : codeK (tabOf tr) (semsOf sl141) D141 L141 code141 (start 26 ps141 x) (finK rs141 ps141) = x141 x := by kernel_rfl
theorem k141 : Known Try.prog 141 sem141 :=
  fn_auto tr_ok eq_ok mixed_ok so141 (D := D141) (code := code141) (n := 26) Try.func141 (by kernel_rfl) (by kernel_rfl) (by kernel_rfl) (fun w0 mu _ hs => (loops_of (l := [(0, b141_0)]) (by kernel_rfl) (List.forall_mem_cons.2 ⟨loop141_0 _ w0 mu hs, (List.forall_mem_nil _)⟩))) t141_eq

/-! ### f48: laws.eqToken -/
noncomputable def code48 : Code := match Try.f48.body with | some c => c | none => .skip
def ps48 : List AP := [.val true [.int .i64, .int .i64, .int .i64, .int .i64, .int .i64, .shr T_i], .val true [.int .i64, .int .i64, .int .i64, .int .i64, .int .i64, .shr T_i]]
def rs48 : List RP := [{ src := .tmp 4, agg := false, ps := [.bool] }]
noncomputable def sl48 : SemL := [(74, (.shr, .shr, .shr, sem74))]
def D48 : Draws := fun _ => .nil
noncomputable def L48 {R : Type} : Loops R := fun _ _ _ _ => none
noncomputable def laws_eqToken (a0c0 : Int) (a0c1 : Int) (a0c2 : Int) (a0c3 : Int) (a0c4 : Int) (a0c5 : List (Int × Unit)) (b1c0 : Int) (b1c1 : Int) (b1c2 : Int) (b1c3 : Int) (b1c4 : Int) (b1c5 : List (Int × Unit)) : Option (Bool × Unit) :=
  bif !decide (a0c0 = b1c0) then
    some (false, ())
  else bif !decide (a0c1 = b1c1) then
    some (false, ())
  else bif !decide (a0c2 = b1c2) then
    some (false, ())
  else bif !decide (a0c3 = b1c3) then
    some (false, ())
  else bif !decide (a0c4 = b1c4) then
    some (false, ())
  else
    Option.bind (laws_eqIntS a0c5 b1c5) fun y1 =>
    bif !y1.1 then
      some (false, ())
    else
      some (true, ())
noncomputable def x48 (x : Int × Int × Int × Int × Int × (List (Int × Unit)) × Int × Int × Int × Int × Int × (List (Int × Unit)) × Unit) : Option (Bool × Unit) := laws_eqToken x.1 x.2.1 x.2.2.1 x.2.2.2.1 x.2.2.2.2.1 x.2.2.2.2.2.1 x.2.2.2.2.2.2.1 x.2.2.2.2.2.2.2.1 x.2.2.2.2.2.2.2.2.1 x.2.2.2.2.2.2.2.2.2.1 x.2.2.2.2.2.2.2.2.2.2.1 x.2.2.2.2.2.2.2.2.2.2.2.1
noncomputable def sem48 : Sem1 := semOf ps48 rs48 x48
theorem so48 : SemsOk Try.prog (semsOf sl48) := sems_cons k74 (sems_nil)
theorem t48_eq (x : denR (headRT (ps48.map some))) : codeK (tabOf tr) (semsOf sl48) D48 L48 code48 (start 36 ps48 x) (finK rs48 ps48) = x48 x := by kernel_rfl
theorem k48 : Known Try.prog 48 sem48 :=
  fn_auto tr_ok eq_ok mixed_ok so48 (D := D48) (code := code48) (n := 36) Try.func48 (by kernel_rfl) (by kernel_rfl) (by kernel_rfl) (fun w0 mu _ hs => (loops_of (l := []) (by kernel_rfl) (List.forall_mem_nil _))) t48_eq

/-! ### f59: laws.eqMate -/
noncomputable def code59 : Code := match Try.f59.body with | some c => c | none => .skip
def ps59 : List AP := [.val true [.int .i64, .int .i64, .shr T_i, .shr T_iiis, .shr T_i, .shr T_s, .int .i64, .int .i64, .int .i64, .int .i64, .int .i64, .int .i64, .int .i64, .int .i64, .int .i64, .shr T_i], .val true [.int .i64, .int .i64, .shr T_i, .shr T_iiis, .shr T_i, .shr T_s, .int .i64, .int .i64, .int .i64, .int .i64, .int .i64, .int .i64, .int .i64, .int .i64, .int .i64, .shr T_i]]
def rs59 : List RP := [{ src := .tmp 4, agg := false, ps := [.bool] }]
noncomputable def sl59 : SemL := [(15, (.shr, .shr, .shr, sem15)), (32, (.shr, .shr, .shr, sem32)), (74, (.shr, .shr, .shr, sem74)), (141, (.shr, .shr, .shr, sem141)), (48, (.shr, .shr, .shr, sem48))]
def D59 : Draws := fun _ => .nil
noncomputable def L59 {R : Type} : Loops R := fun _ _ _ _ => none
noncomputable def laws_eqMate (a0c0 : Int) (a0c1 : Int) (a0c2 : List (Int × Unit)) (a0c3 : List R_iiis) (a0c4 : List (Int × Unit)) (a0c5 : List (ByteArray × Unit)) (a0c6 : Int) (a0c7 : Int) (a0c8 : Int) (a0c9 : Int) (a0c10 : Int) (a0c11 : Int) (a0c12 : Int) (a0c13 : Int) (a0c14 : Int) (a0c15 : List (Int × Unit)) (b1c0 : Int) (b1c1 : Int) (b1c2 : List (Int × Unit)) (b1c3 : List R_iiis) (b1c4 : List (Int × Unit)) (b1c5 : List (ByteArray × Unit)) (b1c6 : Int) (b1c7 : Int) (b1c8 : Int) (b1c9 : Int) (b1c10 : Int) (b1c11 : Int) (b1c12 : Int) (b1c13 : Int) (b1c14 : Int) (b1c15 : List (Int × Unit)) : Option (Bool × Unit) :=
  bif !decide (a0c0 = b1c0) then
    some (false, ())
  else
    Option.bind (laws_eqRing a0c1 a0c2 b1c1 b1c2) fun y1 =>
    bif !y1.1 then
      some (false, ())
    else
      Option.bind (laws_eqItemS a0c3 b1c3) fun y2 =>
      bif !y2.1 then
        some (false, ())
      else
        Option.bind (laws_eqIntS a0c4 b1c4) fun y3 =>
        bif !y3.1 then
          some (false, ())
        else
          Option.bind (laws_eqStringS a0c5 b1c5) fun y4 =>
          bif !y4.1 then
            some (false, ())
          else bif !decide (a0c6 = b1c6) then
            some (false, ())
          else bif !decide (a0c7 = b1c7) then
            some (false, ())
          else bif !decide (a0c8 = b1c8) then
            some (false, ())
          else bif !decide (a0c9 = b1c9) then
            some (false, ())
          else
            Option.bind (laws_eqToken a0c10 a0c11 a0c12 a0c13 a0c14 a0c15 b1c10 b1c11 b1c12 b1c13 b1c14 b1c15) fun y5 =>
            bif !y5.1 then
              some (false, ())
            else
              some (true, ())
noncomputable def x59 (x : Int × Int × (List (Int × Unit)) × (List R_iiis) × (List (Int × Unit)) × (List (ByteArray × Unit)) × Int × Int × Int × Int × Int × Int × Int × Int × Int × (List (Int × Unit)) × Int × Int × (List (Int × Unit)) × (List R_iiis) × (List (Int × Unit)) × (List (ByteArray × Unit)) × Int × Int × Int × Int × Int × Int × Int × Int × Int × (List (Int × Unit)) × Unit) : Option (Bool × Unit) := laws_eqMate x.1 x.2.1 x.2.2.1 x.2.2.2.1 x.2.2.2.2.1 x.2.2.2.2.2.1 x.2.2.2.2.2.2.1 x.2.2.2.2.2.2.2.1 x.2.2.2.2.2.2.2.2.1 x.2.2.2.2.2.2.2.2.2.1 x.2.2.2.2.2.2.2.2.2.2.1 x.2.2.2.2.2.2.2.2.2.2.2.1 x.2.2.2.2.2.2.2.2.2.2.2.2.1 x.2.2.2.2.2.2.2.2.2.2.2.2.2.1 x.2.2.2.2.2.2.2.2.2.2.2.2.2.2.1 x.2.2.2.2.2.2.2.2.2.2.2.2.2.2.2.1 x.2.2.2.2.2.2.2.2.2.2.2.2.2.2.2.2.1 x.2.2.2.2.2.2.2.2.2.2.2.2.2.2.2.2.2.1 x.2.2.2.2.2.2.2.2.2.2.2.2.2.2.2.2.2.2.1 x.2.2.2.2.2.2.2.2.2.2.2.2.2.2.2.2.2.2.2.1 x.2.2.2.2.2.2.2.2.2.2.2.2.2.2.2.2.2.2.2.2.1 x.2.2.2.2.2.2.2.2.2.2.2.2.2.2.2.2.2.2.2.2.2.1 x.2.2.2.2.2.2.2.2.2.2.2.2.2.2.2.2.2.2.2.2.2.2.1 x.2.2.2.2.2.2.2.2.2.2.2.2.2.2.2.2.2.2.2.2.2.2.2.1 x.2.2.2.2.2.2.2.2.2.2.2.2.2.2.2.2.2.2.2.2.2.2.2.2.1 x.2.2.2.2.2.2.2.2.2.2.2.2.2.2.2.2.2.2.2.2.2.2.2.2.2.1 x.2.2.2.2.2.2.2.2.2.2.2.2.2.2.2.2.2.2.2.2.2.2.2.2.2.2.1 x.2.2.2.2.2.2.2.2.2.2.2.2.2.2.2.2.2.2.2.2.2.2.2.2.2.2.2.1 x.2.2.2.2.2.2.2.2.2.2.2.2.2.2.2.2.2.2.2.2.2.2.2.2.2.2.2.2.1 x.2.2.2.2.2.2.2.2.2.2.2.2.2.2.2.2.2.2.2.2.2.2.2.2.2.2.2.2.2.1 x.2.2.2.2.2.2.2.2.2.2.2.2.2.2.2.2.2.2.2.2.2.2.2.2.2.2.2.2.2.2.1 x.2.2.2.2.2.2.2.2.2.2.2.2.2.2.2.2.2.2.2.2.2.2.2.2.2.2.2.2.2.2.2.1
noncomputable def sem59 : Sem1 := semOf ps59 rs59 x59
theorem so59 : SemsOk Try.prog (semsOf sl59) := sems_cons k15 (sems_cons k32 (sems_cons k74 (sems_cons k141 (sems_cons k48 (sems_nil)))))
theorem t59_eq (x : denR (headRT (ps59.map some))) : codeK (tabOf tr) (semsOf sl59) D59 L59 code59 (start 60 ps59 x) (finK rs59 ps59) = x59 x := by kernel_rfl
theorem k59 : Known Try.prog 59 sem59 :=
  fn_auto tr_ok eq_ok mixed_ok so59 (D := D59) (code := code59) (n := 60) Try.func59 (by kernel_rfl) (by kernel_rfl) (by kernel_rfl) (fun w0 mu _ hs => (loops_of (l := []) (by kernel_rfl) (List.forall_mem_nil _))) t59_eq

/-! ### f43: laws.eqBundle -/
noncomputable def code43 : Code := match Try.f43.body with | some c => c | none => .skip
def ps43 : List AP := [.val true [.int .i64, .int .i64, .int .i64, .shr T_iiis], .val true [.int .i64, .int .i64, .int .i64, .shr T_iiis]]
def rs43 : List RP := [{ src := .tmp 4, agg := false, ps := [.bool] }]
noncomputable def sl43 : SemL := [(32, (.shr, .shr, .shr, sem32))]
def D43 : Draws := fun _ => .nil
noncomputable def L43 {R : Type} : Loops R := fun _ _ _ _ => none
noncomputable def laws_eqBundle (a0c0 : Int) (a0c1 : Int) (a0c2 : Int) (a0c3 : List R_iiis) (b1c0 : Int) (b1c1 : Int) (b1c2 : Int) (b1c3 : List R_iiis) : Option (Bool × Unit) :=
  bif !decide (a0c0 = b1c0) then
    some (false, ())
  else bif !decide (a0c1 = b1c1) then
    some (false, ())
  else bif !decide (a0c2 = b1c2) then
    some (false, ())
  else
    Option.bind (laws_eqItemS a0c3 b1c3) fun y1 =>
    bif !y1.1 then
      some (false, ())
    else
      some (true, ())
noncomputable def x43 (x : Int × Int × Int × (List R_iiis) × Int × Int × Int × (List R_iiis) × Unit) : Option (Bool × Unit) := laws_eqBundle x.1 x.2.1 x.2.2.1 x.2.2.2.1 x.2.2.2.2.1 x.2.2.2.2.2.1 x.2.2.2.2.2.2.1 x.2.2.2.2.2.2.2.1
noncomputable def sem43 : Sem1 := semOf ps43 rs43 x43
theorem so43 : SemsOk Try.prog (semsOf sl43) := sems_cons k32 (sems_nil)
theorem t43_eq (x : denR (headRT (ps43.map some))) : codeK (tabOf tr) (semsOf sl43) D43 L43 code43 (start 26 ps43 x) (finK rs43 ps43) = x43 x := by kernel_rfl
theorem k43 : Known Try.prog 43 sem43 :=
  fn_auto tr_ok eq_ok mixed_ok so43 (D := D43) (code := code43) (n := 26) Try.func43 (by kernel_rfl) (by kernel_rfl) (by kernel_rfl) (fun w0 mu _ hs => (loops_of (l := []) (by kernel_rfl) (List.forall_mem_nil _))) t43_eq

/-! ### f33: laws.eqBundleS -/
noncomputable def code33 : Code := match Try.f33.body with | some c => c | none => .skip
def ps33 : List AP := [.val false [.shr T_iiiLiiisE], .val false [.shr T_iiiLiiisE]]
def rs33 : List RP := [{ src := .tmp 4, agg := false, ps := [.bool] }]
noncomputable def sl33 : SemL := [(43, (.shr, .shr, .shr, sem43))]
def D33 : Draws := fun id => bif Nat.beq id 6 then .op 0 .any (.op 1 .any (.op 2 .any (.op 3 .take (.op 4 .any (.op 5 .any (.op 6 .any (.op 7 .take (.op 8 .one (.op 9 .any (.nil)))))))))) else .nil
def hp33_0 : List (Option AP) := [some (.val false [.shr T_iiiLiiisE]), some (.val false [.shr T_iiiLiiisE]), none, none, none, some (.val false [.int .i64]), none, none, none, none, none, none, none, none, none, none, none, none, none, none, none, none, none, none, none, none, none, none]
def e33_0 : List (Option AP) := [none, none, none, none, none, none, none, none, none, none, none, none, none, none, none, none, none, none, none, none, none, none, none, none, none, none, none, none]
def q33_0 : List (Option AP) := [none, none, none, none, some (.val false [.bool]), none, none, none, none, none, none, none, none, none, none, none, none, none, none, none, none, none, none, none, none, none, none, none]
abbrev H33_0 : Type := (List R_iiiLiiisE) × (List R_iiiLiiisE) × Int × Unit
abbrev E33_0 : Type := Unit
abbrev Q33_0 : Type := Bool × Unit
noncomputable def laws_eqBundleS_c0 (a0 : List R_iiiLiiisE) (b1 : List R_iiiLiiisE) (i5 : Int) : Option (Sum H33_0 (Sum E33_0 Q33_0)) :=
  bif decide (i5 < ((List.length a0 : Nat) : Int)) then
    bif decide ((0 : Int) ≤ i5) then Option.bind ((a0)[Int.toNat i5]?) fun r1 =>
      bif decide ((0 : Int) ≤ i5) then Option.bind ((b1)[Int.toNat i5]?) fun r2 =>
        Option.bind (laws_eqBundle r1.1 r1.2.1 r1.2.2.1 r1.2.2.2.1 r2.1 r2.2.1 r2.2.2.1 r2.2.2.2.1) fun y3 =>
        bif !y3.1 then
          some (.inr (.inr (false, ())))
        else
          some (.inl (a0, b1, IntKind.i64.wrap (i5 + (1 : Int)), ()))
      else none
    else none
  else
    some (.inr (.inl (())))
noncomputable def laws_eqBundleS_r0 (x : H33_0) : Option (Sum H33_0 (Sum E33_0 Q33_0)) := laws_eqBundleS_c0 x.1 x.2.1 x.2.2.1
noncomputable def L33 {R : Type} : Loops R := fun id _ st k => bif Nat.beq id 0 then loopAt hp33_0 e33_0 q33_0 laws_eqBundleS_r0 st k else none
noncomputable def laws_eqBundleS (a0 : List R_iiiLiiisE) (b1 : List R_iiiLiiisE) : Option (Bool × Unit) :=
  bif !decide (((List.length a0 : Nat) : Int) = ((List.length b1 : Nat) : Int)) then
    some (false, ())
  else
    outK (loopV laws_eqBundleS_r0 (a0, b1, (0 : Int), ())) (fun y1 =>
      some (true, ())) (fun y2 =>
      some (y2.1, ()))
noncomputable def x33 (x : (List R_iiiLiiisE) × (List R_iiiLiiisE) × Unit) : Option (Bool × Unit) := laws_eqBundleS x.1 x.2.1
noncomputable def sem33 : Sem1 := semOf ps33 rs33 x33
theorem so33 : SemsOk Try.prog (semsOf sl33) := sems_cons k43 (sems_nil)
noncomputable def b33_0 : Code := nthLoop code33 0
theorem t33_r0_eq (x : denR (headRT hp33_0)) : codeK (tabOf tr) (semsOf sl33) D33 L33 b33_0 (headSt hp33_0 x) (roundK 0 hp33_0 e33_0 q33_0) = laws_eqBundleS_r0 x := by kernel_rfl
theorem loop33_0 {R : Type} (r : R) (w0 : World) (mu : Mu) (hs : AnShape ps33 mu) : LoopAt Try.prog w0 mu 27 (L33 : Loops R) r 0 b33_0 :=
  loop_auto tr_ok eq_ok mixed_ok so33 (D := D33) hs (by kernel_rfl) (fun _ => (loops_of (l := []) (by kernel_rfl) (List.forall_mem_nil _))) t33_r0_eq (fun _ _ => rfl)
theorem t33_eq (x : denR (headRT (ps33.map some))) : codeK (tabOf tr) (semsOf sl33) D33 L33 code33 (start 27 ps33 x) (finK rs33 ps33) = x33 x := by kernel_rfl
theorem k33 : Known Try.prog 33 sem33 :=
  fn_auto tr_ok eq_ok mixed_ok so33 (D := D33) (code := code33) (n := 27) Try.func33 (by kernel_rfl) (by kernel_rfl) (by kernel_rfl) (fun w0 mu _ hs => (loops_of (l := [(0, b33_0)]) (by kernel_rfl) (List.forall_mem_cons.2 ⟨loop33_0 _ w0 mu hs, (List.forall_mem_nil _)⟩))) t33_eq

/-! ### f153: laws.eqEvent -/
noncomputable def code153 : Code := match Try.f153.body with | some c => c | none => .skip
def ps153 : List AP := [.val true [.int .i64, .int .i64, .shr T_i, .int .i64, .int .i64, .int .i64, .str, .shr T_i], .val true [.int .i64, .int .i64, .shr T_i, .int .i64, .int .i64, .int .i64, .str, .shr T_i]]
def rs153 : List RP := [{ src := .tmp 4, agg := false, ps := [.bool] }]
noncomputable def sl153 : SemL := [(15, (.shr, .shr, .shr, sem15)), (106, (.shr, .shr, .shr, sem106)), (74, (.shr, .shr, .shr, sem74))]
def D153 : Draws := fun _ => .nil
noncomputable def L153 {R : Type} : Loops R := fun _ _ _ _ => none
noncomputable def laws_eqEvent (a0c0 : Int) (a0c1 : Int) (a0c2 : List (Int × Unit)) (a0c3 : Int) (a0c4 : Int) (a0c5 : Int) (a0c6 : ByteArray) (a0c7 : List (Int × Unit)) (b1c0 : Int) (b1c1 : Int) (b1c2 : List (Int × Unit)) (b1c3 : Int) (b1c4 : Int) (b1c5 : Int) (b1c6 : ByteArray) (b1c7 : List (Int × Unit)) : Option (Bool × Unit) :=
  bif !decide (a0c0 = b1c0) then
    some (false, ())
  else
    Option.bind (laws_eqRing a0c1 a0c2 b1c1 b1c2) fun y1 =>
    bif !y1.1 then
      some (false, ())
    else
      Option.bind (laws_eqItem a0c3 a0c4 a0c5 a0c6 b1c3 b1c4 b1c5 b1c6) fun y2 =>
      bif !y2.1 then
        some (false, ())
      else
        Option.bind (laws_eqIntS a0c7 b1c7) fun y3 =>
        bif !y3.1 then
          some (false, ())
        else
          some (true, ())
noncomputable def x153 (x : Int × Int × (List (Int × Unit)) × Int × Int × Int × ByteArray × (List (Int × Unit)) × Int × Int × (List (Int × Unit)) × Int × Int × Int × ByteArray × (List (Int × Unit)) × Unit) : Option (Bool × Unit) := laws_eqEvent x.1 x.2.1 x.2.2.1 x.2.2.2.1 x.2.2.2.2.1 x.2.2.2.2.2.1 x.2.2.2.2.2.2.1 x.2.2.2.2.2.2.2.1 x.2.2.2.2.2.2.2.2.1 x.2.2.2.2.2.2.2.2.2.1 x.2.2.2.2.2.2.2.2.2.2.1 x.2.2.2.2.2.2.2.2.2.2.2.1 x.2.2.2.2.2.2.2.2.2.2.2.2.1 x.2.2.2.2.2.2.2.2.2.2.2.2.2.1 x.2.2.2.2.2.2.2.2.2.2.2.2.2.2.1 x.2.2.2.2.2.2.2.2.2.2.2.2.2.2.2.1
noncomputable def sem153 : Sem1 := semOf ps153 rs153 x153
theorem so153 : SemsOk Try.prog (semsOf sl153) := sems_cons k15 (sems_cons k106 (sems_cons k74 (sems_nil)))
theorem t153_eq (x : denR (headRT (ps153.map some))) : codeK (tabOf tr) (semsOf sl153) D153 L153 code153 (start 28 ps153 x) (finK rs153 ps153) = x153 x := by kernel_rfl
theorem k153 : Known Try.prog 153 sem153 :=
  fn_auto tr_ok eq_ok mixed_ok so153 (D := D153) (code := code153) (n := 28) Try.func153 (by kernel_rfl) (by kernel_rfl) (by kernel_rfl) (fun w0 mu _ hs => (loops_of (l := []) (by kernel_rfl) (List.forall_mem_nil _))) t153_eq

/-! ### f90: laws.eqEventS -/
noncomputable def code90 : Code := match Try.f90.body with | some c => c | none => .skip
def ps90 : List AP := [.val false [.shr T_iiLiEiiisLiE], .val false [.shr T_iiLiEiiisLiE]]
def rs90 : List RP := [{ src := .tmp 4, agg := false, ps := [.bool] }]
noncomputable def sl90 : SemL := [(153, (.shr, .shr, .shr, sem153))]
def D90 : Draws := fun id => bif Nat.beq id 6 then .op 0 .any (.op 1 .any (.op 2 .any (.op 3 .take (.op 4 .any (.op 5 .any (.op 6 .any (.op 7 .take (.op 8 .one (.op 9 .any (.nil)))))))))) else .nil
def hp90_0 : List (Option AP) := [some (.val false [.shr T_iiLiEiiisLiE]), some (.val false [.shr T_iiLiEiiisLiE]), none, none, none, some (.val false [.int .i64]), none, none, none, none, none, none, none, none, none, none, none, none, none, none, none, none, none, none, none, none, none, none]
def e90_0 : List (Option AP) := [none, none, none, none, none, none, none, none, none, none, none, none, none, none, none, none, none, none, none, none, none, none, none, none, none, none, none, none]
def q90_0 : List (Option AP) := [none, none, none, none, some (.val false [.bool]), none, none, none, none, none, none, none, none, none, none, none, none, none, none, none, none, none, none, none, none, none, none, none]
abbrev H90_0 : Type := (List R_iiLiEiiisLiE) × (List R_iiLiEiiisLiE) × Int × Unit
abbrev E90_0 : Type := Unit
abbrev Q90_0 : Type := Bool × Unit
noncomputable def laws_eqEventS_c0 (a0 : List R_iiLiEiiisLiE) (b1 : List R_iiLiEiiisLiE) (i5 : Int) : Option (Sum H90_0 (Sum E90_0 Q90_0)) :=
  bif decide (i5 < ((List.length a0 : Nat) : Int)) then
    bif decide ((0 : Int) ≤ i5) then Option.bind ((a0)[Int.toNat i5]?) fun r1 =>
      bif decide ((0 : Int) ≤ i5) then Option.bind ((b1)[Int.toNat i5]?) fun r2 =>
        Option.bind (laws_eqEvent r1.1 r1.2.1 r1.2.2.1 r1.2.2.2.1 r1.2.2.2.2.1 r1.2.2.2.2.2.1 r1.2.2.2.2.2.2.1 r1.2.2.2.2.2.2.2.1 r2.1 r2.2.1 r2.2.2.1 r2.2.2.2.1 r2.2.2.2.2.1 r2.2.2.2.2.2.1 r2.2.2.2.2.2.2.1 r2.2.2.2.2.2.2.2.1) fun y3 =>
        bif !y3.1 then
          some (.inr (.inr (false, ())))
        else
          some (.inl (a0, b1, IntKind.i64.wrap (i5 + (1 : Int)), ()))
      else none
    else none
  else
    some (.inr (.inl (())))
noncomputable def laws_eqEventS_r0 (x : H90_0) : Option (Sum H90_0 (Sum E90_0 Q90_0)) := laws_eqEventS_c0 x.1 x.2.1 x.2.2.1
noncomputable def L90 {R : Type} : Loops R := fun id _ st k => bif Nat.beq id 0 then loopAt hp90_0 e90_0 q90_0 laws_eqEventS_r0 st k else none
noncomputable def laws_eqEventS (a0 : List R_iiLiEiiisLiE) (b1 : List R_iiLiEiiisLiE) : Option (Bool × Unit) :=
  bif !decide (((List.length a0 : Nat) : Int) = ((List.length b1 : Nat) : Int)) then
    some (false, ())
  else
    outK (loopV laws_eqEventS_r0 (a0, b1, (0 : Int), ())) (fun y1 =>
      some (true, ())) (fun y2 =>
      some (y2.1, ()))
noncomputable def x90 (x : (List R_iiLiEiiisLiE) × (List R_iiLiEiiisLiE) × Unit) : Option (Bool × Unit) := laws_eqEventS x.1 x.2.1
noncomputable def sem90 : Sem1 := semOf ps90 rs90 x90
theorem so90 : SemsOk Try.prog (semsOf sl90) := sems_cons k153 (sems_nil)
noncomputable def b90_0 : Code := nthLoop code90 0
theorem t90_r0_eq (x : denR (headRT hp90_0)) : codeK (tabOf tr) (semsOf sl90) D90 L90 b90_0 (headSt hp90_0 x) (roundK 0 hp90_0 e90_0 q90_0) = laws_eqEventS_r0 x := by kernel_rfl
theorem loop90_0 {R : Type} (r : R) (w0 : World) (mu : Mu) (hs : AnShape ps90 mu) : LoopAt Try.prog w0 mu 27 (L90 : Loops R) r 0 b90_0 :=
  loop_auto tr_ok eq_ok mixed_ok so90 (D := D90) hs (by kernel_rfl) (fun _ => (loops_of (l := []) (by kernel_rfl) (List.forall_mem_nil _))) t90_r0_eq (fun _ _ => rfl)
theorem t90_eq (x : denR (headRT (ps90.map some))) : codeK (tabOf tr) (semsOf sl90) D90 L90 code90 (start 27 ps90 x) (finK rs90 ps90) = x90 x := by kernel_rfl
theorem k90 : Known Try.prog 90 sem90 :=
  fn_auto tr_ok eq_ok mixed_ok so90 (D := D90) (code := code90) (n := 27) Try.func90 (by kernel_rfl) (by kernel_rfl) (by kernel_rfl) (fun w0 mu _ hs => (loops_of (l := [(0, b90_0)]) (by kernel_rfl) (List.forall_mem_cons.2 ⟨loop90_0 _ w0 mu hs, (List.forall_mem_nil _)⟩))) t90_eq

/-! ### f49: laws.eqDaemon -/
noncomputable def code49 : Code := match Try.f49.body with | some c => c | none => .skip
def ps49 : List AP := [.val true [.int .i64, .bool, .int .i64, .int .i64, .shr T_i, .shr T_iiis, .shr T_i, .shr T_s, .int .i64, .int .i64, .int .i64, .int .i64, .int .i64, .int .i64, .int .i64, .int .i64, .int .i64, .shr T_i, .int .i64, .int .i64, .int .i64, .shr T_i, .shr T_iiiLiiisE, .shr T_iiLiEiiisLiE], .val true [.int .i64, .bool, .int .i64, .int .i64, .shr T_i, .shr T_iiis, .shr T_i, .shr T_s, .int .i64, .int .i64, .int .i64, .int .i64, .int .i64, .int .i64, .int .i64, .int .i64, .int .i64, .shr T_i, .int .i64, .int .i64, .int .i64, .shr T_i, .shr T_iiiLiiisE, .shr T_iiLiEiiisLiE]]
def rs49 : List RP := [{ src := .tmp 4, agg := false, ps := [.bool] }]
noncomputable def sl49 : SemL := [(59, (.shr, .shr, .shr, sem59)), (15, (.shr, .shr, .shr, sem15)), (33, (.shr, .shr, .shr, sem33)), (90, (.shr, .shr, .shr, sem90))]
def D49 : Draws := fun _ => .nil
noncomputable def L49 {R : Type} : Loops R := fun _ _ _ _ => none
noncomputable def laws_eqDaemon (a0c0 : Int) (a0c1 : Bool) (a0c2 : Int) (a0c3 : Int) (a0c4 : List (Int × Unit)) (a0c5 : List R_iiis) (a0c6 : List (Int × Unit)) (a0c7 : List (ByteArray × Unit)) (a0c8 : Int) (a0c9 : Int) (a0c10 : Int) (a0c11 : Int) (a0c12 : Int) (a0c13 : Int) (a0c14 : Int) (a0c15 : Int) (a0c16 : Int) (a0c17 : List (Int × Unit)) (a0c18 : Int) (a0c19 : Int) (a0c20 : Int) (a0c21 : List (Int × Unit)) (a0c22 : List R_iiiLiiisE) (a0c23 : List R_iiLiEiiisLiE) (b1c0 : Int) (b1c1 : Bool) (b1c2 : Int) (b1c3 : Int) (b1c4 : List (Int × Unit)) (b1c5 : List R_iiis) (b1c6 : List (Int × Unit)) (b1c7 : List (ByteArray × Unit)) (b1c8 : Int) (b1c9 : Int) (b1c10 : Int) (b1c11 : Int) (b1c12 : Int) (b1c13 : Int) (b1c14 : Int) (b1c15 : Int) (b1c16 : Int) (b1c17 : List (Int × Unit)) (b1c18 : Int) (b1c19 : Int) (b1c20 : Int) (b1c21 : List (Int × Unit)) (b1c22 : List R_iiiLiiisE) (b1c23 : List R_iiLiEiiisLiE) : Option (Bool × Unit) :=
  bif !decide (a0c0 = b1c0) then
    some (false, ())
  else bif !(a0c1 == b1c1) then
    some (false, ())
  else
    Option.bind (laws_eqMate a0c2 a0c3 a0c4 a0c5 a0c6 a0c7 a0c8 a0c9 a0c10 a0c11 a0c12 a0c13 a0c14 a0c15 a0c16 a0c17 b1c2 b1c3 b1c4 b1c5 b1c6 b1c7 b1c8 b1c9 b1c10 b1c11 b1c12 b1c13 b1c14 b1c15 b1c16 b1c17) fun y1 =>
    bif !y1.1 then
      some (false, ())
    else bif !decide (a0c18 = b1c18) then
      some (false, ())
    else bif !decide (a0c19 = b1c19) then
      some (false, ())
    else
      Option.bind (laws_eqRing a0c20 a0c21 b1c20 b1c21) fun y2 =>
      bif !y2.1 then
        some (false, ())
      else
        Option.bind (laws_eqBundleS a0c22 b1c22) fun y3 =>
        bif !y3.1 then
          some (false, ())
        else
          Option.bind (laws_eqEventS a0c23 b1c23) fun y4 =>
          bif !y4.1 then
            some (false, ())
          else
            some (true, ())
noncomputable def x49 (x : Int × Bool × Int × Int × (List (Int × Unit)) × (List R_iiis) × (List (Int × Unit)) × (List (ByteArray × Unit)) × Int × Int × Int × Int × Int × Int × Int × Int × Int × (List (Int × Unit)) × Int × Int × Int × (List (Int × Unit)) × (List R_iiiLiiisE) × (List R_iiLiEiiisLiE) × Int × Bool × Int × Int × (List (Int × Unit)) × (List R_iiis) × (List (Int × Unit)) × (List (ByteArray × Unit)) × Int × Int × Int × Int × Int × Int × Int × Int × Int × (List (Int × Unit)) × Int × Int × Int × (List (Int × Unit)) × (List R_iiiLiiisE) × (List R_iiLiEiiisLiE) × Unit) : Option (Bool × Unit) := laws_eqDaemon x.1 x.2.1 x.2.2.1 x.2.2.2.1 x.2.2.2.2.1 x.2.2.2.2.2.1 x.2.2.2.2.2.2.1 x.2.2.2.2.2.2.2.1 x.2.2.2.2.2.2.2.2.1 x.2.2.2.2.2.2.2.2.2.1 x.2.2.2.2.2.2.2.2.2.2.1 x.2.2.2.2.2.2.2.2.2.2.2.1 x.2.2.2.2.2.2.2.2.2.2.2.2.1 x.2.2.2.2.2.2.2.2.2.2.2.2.2.1 x.2.2.2.2.2.2.2.2.2.2.2.2.2.2.1 x.2.2.2.2.2.2.2.2.2.2.2.2.2.2.2.1 x.2.2.2.2.2.2.2.2.2.2.2.2.2.2.2.2.1 x.2.2.2.2.2.2.2.2.2.2.2.2.2.2.2.2.2.1 x.2.2.2.2.2.2.2.2.2.2.2.2.2.2.2.2.2.2.1 x.2.2.2.2.2.2.2.2.2.2.2.2.2.2.2.2.2.2.2.1 x.2.2.2.2.2.2.2.2.2.2.2.2.2.2.2.2.2.2.2.2.1 x.2.2.2.2.2.2.2.2.2.2.2.2.2.2.2.2.2.2.2.2.2.1 x.2.2.2.2.2.2.2.2.2.2.2.2.2.2.2.2.2.2.2.2.2.2.1 x.2.2.2.2.2.2.2.2.2.2.2.2.2.2.2.2.2.2.2.2.2.2.2.1 x.2.2.2.2.2.2.2.2.2.2.2.2.2.2.2.2.2.2.2.2.2.2.2.2.1 x.2.2.2.2.2.2.2.2.2.2.2.2.2.2.2.2.2.2.2.2.2.2.2.2.2.1 x.2.2.2.2.2.2.2.2.2.2.2.2.2.2.2.2.2.2.2.2.2.2.2.2.2.2.1 x.2.2.2.2.2.2.2.2.2.2.2.2.2.2.2.2.2.2.2.2.2.2.2.2.2.2.2.1 x.2.2.2.2.2.2.2.2.2.2.2.2.2.2.2.2.2.2.2.2.2.2.2.2.2.2.2.2.1 x.2.2.2.2.2.2.2.2.2.2.2.2.2.2.2.2.2.2.2.2.2.2.2.2.2.2.2.2.2.1 x.2.2.2.2.2.2.2.2.2.2.2.2.2.2.2.2.2.2.2.2.2.2.2.2.2.2.2.2.2.2.1 x.2.2.2.2.2.2.2.2.2.2.2.2.2.2.2.2.2.2.2.2.2.2.2.2.2.2.2.2.2.2.2.1 x.2.2.2.2.2.2.2.2.2.2.2.2.2.2.2.2.2.2.2.2.2.2.2.2.2.2.2.2.2.2.2.2.1 x.2.2.2.2.2.2.2.2.2.2.2.2.2.2.2.2.2.2.2.2.2.2.2.2.2.2.2.2.2.2.2.2.2.1 x.2.2.2.2.2.2.2.2.2.2.2.2.2.2.2.2.2.2.2.2.2.2.2.2.2.2.2.2.2.2.2.2.2.2.1 x.2.2.2.2.2.2.2.2.2.2.2.2.2.2.2.2.2.2.2.2.2.2.2.2.2.2.2.2.2.2.2.2.2.2.2.1 x.2.2.2.2.2.2.2.2.2.2.2.2.2.2.2.2.2.2.2.2.2.2.2.2.2.2.2.2.2.2.2.2.2.2.2.2.1 x.2.2.2.2.2.2.2.2.2.2.2.2.2.2.2.2.2.2.2.2.2.2.2.2.2.2.2.2.2.2.2.2.2.2.2.2.2.1 x.2.2.2.2.2.2.2.2.2.2.2.2.2.2.2.2.2.2.2.2.2.2.2.2.2.2.2.2.2.2.2.2.2.2.2.2.2.2.1 x.2.2.2.2.2.2.2.2.2.2.2.2.2.2.2.2.2.2.2.2.2.2.2.2.2.2.2.2.2.2.2.2.2.2.2.2.2.2.2.1 x.2.2.2.2.2.2.2.2.2.2.2.2.2.2.2.2.2.2.2.2.2.2.2.2.2.2.2.2.2.2.2.2.2.2.2.2.2.2.2.2.1 x.2.2.2.2.2.2.2.2.2.2.2.2.2.2.2.2.2.2.2.2.2.2.2.2.2.2.2.2.2.2.2.2.2.2.2.2.2.2.2.2.2.1 x.2.2.2.2.2.2.2.2.2.2.2.2.2.2.2.2.2.2.2.2.2.2.2.2.2.2.2.2.2.2.2.2.2.2.2.2.2.2.2.2.2.2.1 x.2.2.2.2.2.2.2.2.2.2.2.2.2.2.2.2.2.2.2.2.2.2.2.2.2.2.2.2.2.2.2.2.2.2.2.2.2.2.2.2.2.2.2.1 x.2.2.2.2.2.2.2.2.2.2.2.2.2.2.2.2.2.2.2.2.2.2.2.2.2.2.2.2.2.2.2.2.2.2.2.2.2.2.2.2.2.2.2.2.1 x.2.2.2.2.2.2.2.2.2.2.2.2.2.2.2.2.2.2.2.2.2.2.2.2.2.2.2.2.2.2.2.2.2.2.2.2.2.2.2.2.2.2.2.2.2.1 x.2.2.2.2.2.2.2.2.2.2.2.2.2.2.2.2.2.2.2.2.2.2.2.2.2.2.2.2.2.2.2.2.2.2.2.2.2.2.2.2.2.2.2.2.2.2.1 x.2.2.2.2.2.2.2.2.2.2.2.2.2.2.2.2.2.2.2.2.2.2.2.2.2.2.2.2.2.2.2.2.2.2.2.2.2.2.2.2.2.2.2.2.2.2.2.1
noncomputable def sem49 : Sem1 := semOf ps49 rs49 x49
theorem so49 : SemsOk Try.prog (semsOf sl49) := sems_cons k59 (sems_cons k15 (sems_cons k33 (sems_cons k90 (sems_nil))))
theorem t49_eq (x : denR (headRT (ps49.map some))) : codeK (tabOf tr) (semsOf sl49) D49 L49 code49 (start 49 ps49 x) (finK rs49 ps49) = x49 x := by kernel_rfl
theorem k49 : Known Try.prog 49 sem49 :=
  fn_auto tr_ok eq_ok mixed_ok so49 (D := D49) (code := code49) (n := 49) Try.func49 (by kernel_rfl) (by kernel_rfl) (by kernel_rfl) (fun w0 mu _ hs => (loops_of (l := []) (by kernel_rfl) (List.forall_mem_nil _))) t49_eq

/-! ### f88: laws.eqDaemonS -/
noncomputable def code88 : Code := match Try.f88.body with | some c => c | none => .skip
def ps88 : List AP := [.val false [.shr T_ibiiLiELiiisELiELsEiiiiiiiiiLiEiiiLiELiiiLiiisEELiiLiEiiisLiEE], .val false [.shr T_ibiiLiELiiisELiELsEiiiiiiiiiLiEiiiLiELiiiLiiisEELiiLiEiiisLiEE]]
def rs88 : List RP := [{ src := .tmp 4, agg := false, ps := [.bool] }]
noncomputable def sl88 : SemL := [(49, (.shr, .shr, .shr, sem49))]
def D88 : Draws := fun id => bif Nat.beq id 6 then .op 0 .any (.op 1 .any (.op 2 .any (.op 3 .take (.op 4 .any (.op 5 .any (.op 6 .any (.op 7 .take (.op 8 .one (.op 9 .any (.nil)))))))))) else .nil
def hp88_0 : List (Option AP) := [some (.val false [.shr T_ibiiLiELiiisELiELsEiiiiiiiiiLiEiiiLiELiiiLiiisEELiiLiEiiisLiEE]), some (.val false [.shr T_ibiiLiELiiisELiELsEiiiiiiiiiLiEiiiLiELiiiLiiisEELiiLiEiiisLiEE]), none, none, none, some (.val false [.int .i64]), none, none, none, none, none, none, none, none, none, none, none, none, none, none, none, none, none, none, none, none, none, none]
def e88_0 : List (Option AP) := [none, none, none, none, none, none, none, none, none, none, none, none, none, none, none, none, none, none, none, none, none, none, none, none, none, none, none, none]
def q88_0 : List (Option AP) := [none, none, none, none, some (.val false [.bool]), none, none, none, none, none, none, none, none, none, none, none, none, none, none, none, none, none, none, none, none, none, none, none]
abbrev H88_0 : Type := (List R_ibiiLiELiiisELiELsEiiiiiiiiiLiEiiiLiELiiiLiiisEELiiLiEiiisLiEE) × (List R_ibiiLiELiiisELiELsEiiiiiiiiiLiEiiiLiELiiiLiiisEELiiLiEiiisLiEE) × Int × Unit
abbrev E88_0 : Type := Unit
abbrev Q88_0 : Type := Bool × Unit
noncomputable def laws_eqDaemonS_c0 (a0 : List R_ibiiLiELiiisELiELsEiiiiiiiiiLiEiiiLiELiiiLiiisEELiiLiEiiisLiEE) (b1 : List R_ibiiLiELiiisELiELsEiiiiiiiiiLiEiiiLiELiiiLiiisEELiiLiEiiisLiEE) (i5 : Int) : Option (Sum H88_0 (Sum E88_0 Q88_0)) :=
  bif decide (i5 < ((List.length a0 : Nat) : Int)) then
    bif decide ((0 : Int) ≤ i5) then Option.bind ((a0)[Int.toNat i5]?) fun r1 =>
      bif decide ((0 : Int) ≤ i5) then Option.bind ((b1)[Int.toNat i5]?) fun r2 =>
        Option.bind (laws_eqDaemon r1.1 r1.2.1 r1.2.2.1 r1.2.2.2.1 r1.2.2.2.2.1 r1.2.2.2.2.2.1 r1.2.2.2.2.2.2.1 r1.2.2.2.2.2.2.2.1 r1.2.2.2.2.2.2.2.2.1 r1.2.2.2.2.2.2.2.2.2.1 r1.2.2.2.2.2.2.2.2.2.2.1 r1.2.2.2.2.2.2.2.2.2.2.2.1 r1.2.2.2.2.2.2.2.2.2.2.2.2.1 r1.2.2.2.2.2.2.2.2.2.2.2.2.2.1 r1.2.2.2.2.2.2.2.2.2.2.2.2.2.2.1 r1.2.2.2.2.2.2.2.2.2.2.2.2.2.2.2.1 r1.2.2.2.2.2.2.2.2.2.2.2.2.2.2.2.2.1 r1.2.2.2.2.2.2.2.2.2.2.2.2.2.2.2.2.2.1 r1.2.2.2.2.2.2.2.2.2.2.2.2.2.2.2.2.2.2.1 r1.2.2.2.2.2.2.2.2.2.2.2.2.2.2.2.2.2.2.2.1 r1.2.2.2.2.2.2.2.2.2.2.2.2.2.2.2.2.2.2.2.2.1 r1.2.2.2.2.2.2.2.2.2.2.2.2.2.2.2.2.2.2.2.2.2.1 r1.2.2.2.2.2.2.2.2.2.2.2.2.2.2.2.2.2.2.2.2.2.2.1 r1.2.2.2.2.2.2.2.2.2.2.2.2.2.2.2.2.2.2.2.2.2.2.2.1 r2.1 r2.2.1 r2.2.2.1 r2.2.2.2.1 r2.2.2.2.2.1 r2.2.2.2.2.2.1 r2.2.2.2.2.2.2.1 r2.2.2.2.2.2.2.2.1 r2.2.2.2.2.2.2.2.2.1 r2.2.2.2.2.2.2.2.2.2.1 r2.2.2.2.2.2.2.2.2.2.2.1 r2.2.2.2.2.2.2.2.2.2.2.2.1 r2.2.2.2.2.2.2.2.2.2.2.2.2.1 r2.2.2.2.2.2.2.2.2.2.2.2.2.2.1 r2.2.2.2.2.2.2.2.2.2.2.2.2.2.2.1 r2.2.2.2.2.2.2.2.2.2.2.2.2.2.2.2.1 r2.2.2.2.2.2.2.2.2.2.2.2.2.2.2.2.2.1 r2.2.2.2.2.2.2.2.2.2.2.2.2.2.2.2.2.2.1 r2.2.2.2.2.2.2.2.2.2.2.2.2.2.2.2.2.2.2.1 r2.2.2.2.2.2.2.2.2.2.2.2.2.2.2.2.2.2.2.2.1 r2.2.2.2.2.2.2.2.2.2.2.2.2.2.2.2.2.2.2.2.2.1 r2.2.2.2.2.2.2.2.2.2.2.2.2.2.2.2.2.2.2.2.2.2.1 r2.2.2.2.2.2.2.2.2.2.2.2.2.2.2.2.2.2.2.2.2.2.2.1 r2.2.2.2.2.2.2.2.2.2.2.2.2.2.2.2.2.2.2.2.2.2.2.2.1) fun y3 =>
        bif !y3.1 then
          some (.inr (.inr (false, ())))
        else
          some (.inl (a0, b1, IntKind.i64.wrap (i5 + (1 : Int)), ()))
      else none
    else none
  else
    some (.inr (.inl (())))
noncomputable def laws_eqDaemonS_r0 (x : H88_0) : Option (Sum H88_0 (Sum E88_0 Q88_0)) := laws_eqDaemonS_c0 x.1 x.2.1 x.2.2.1
noncomputable def L88 {R : Type} : Loops R := fun id _ st k => bif Nat.beq id 0 then loopAt hp88_0 e88_0 q88_0 laws_eqDaemonS_r0 st k else none
noncomputable def laws_eqDaemonS (a0 : List R_ibiiLiELiiisELiELsEiiiiiiiiiLiEiiiLiELiiiLiiisEELiiLiEiiisLiEE) (b1 : List R_ibiiLiELiiisELiELsEiiiiiiiiiLiEiiiLiELiiiLiiisEELiiLiEiiisLiEE) : Option (Bool × Unit) :=
  bif !decide (((List.length a0 : Nat) : Int) = ((List.length b1 : Nat) : Int)) then
    some (false, ())
  else
    outK (loopV laws_eqDaemonS_r0 (a0, b1, (0 : Int), ())) (fun y1 =>
      some (true, ())) (fun y2 =>
      some (y2.1, ()))
noncomputable def x88 (x : (List R_ibiiLiELiiisELiELsEiiiiiiiiiLiEiiiLiELiiiLiiisEELiiLiEiiisLiEE) × (List R_ibiiLiELiiisELiELsEiiiiiiiiiLiEiiiLiELiiiLiiisEELiiLiEiiisLiEE) × Unit) : Option (Bool × Unit) := laws_eqDaemonS x.1 x.2.1
noncomputable def sem88 : Sem1 := semOf ps88 rs88 x88
theorem so88 : SemsOk Try.prog (semsOf sl88) := sems_cons k49 (sems_nil)
noncomputable def b88_0 : Code := nthLoop code88 0
theorem t88_r0_eq (x : denR (headRT hp88_0)) : codeK (tabOf tr) (semsOf sl88) D88 L88 b88_0 (headSt hp88_0 x) (roundK 0 hp88_0 e88_0 q88_0) = laws_eqDaemonS_r0 x := by kernel_rfl
theorem loop88_0 {R : Type} (r : R) (w0 : World) (mu : Mu) (hs : AnShape ps88 mu) : LoopAt Try.prog w0 mu 27 (L88 : Loops R) r 0 b88_0 :=
  loop_auto tr_ok eq_ok mixed_ok so88 (D := D88) hs (by kernel_rfl) (fun _ => (loops_of (l := []) (by kernel_rfl) (List.forall_mem_nil _))) t88_r0_eq (fun _ _ => rfl)
theorem t88_eq (x : denR (headRT (ps88.map some))) : codeK (tabOf tr) (semsOf sl88) D88 L88 code88 (start 27 ps88 x) (finK rs88 ps88) = x88 x := by kernel_rfl
theorem k88 : Known Try.prog 88 sem88 :=
  fn_auto tr_ok eq_ok mixed_ok so88 (D := D88) (code := code88) (n := 27) Try.func88 (by kernel_rfl) (by kernel_rfl) (by kernel_rfl) (fun w0 mu _ hs => (loops_of (l := [(0, b88_0)]) (by kernel_rfl) (List.forall_mem_cons.2 ⟨loop88_0 _ w0 mu hs, (List.forall_mem_nil _)⟩))) t88_eq

/-! ### f152: laws.eqLetter -/
noncomputable def code152 : Code := match Try.f152.body with | some c => c | none => .skip
def ps152 : List AP := [.val true [.int .i64, .int .i64, .int .i64, .int .i64, .int .i64, .int .i64, .str, .int .i64, .int .i64, .int .i64, .int .i64, .int .i64, .shr T_i, .int .i64, .int .i64, .int .i64, .shr T_iiis], .val true [.int .i64, .int .i64, .int .i64, .int .i64, .int .i64, .int .i64, .str, .int .i64, .int .i64, .int .i64, .int .i64, .int .i64, .shr T_i, .int .i64, .int .i64, .int .i64, .shr T_iiis]]
def rs152 : List RP := [{ src := .tmp 4, agg := false, ps := [.bool] }]
noncomputable def sl152 : SemL := [(106, (.shr, .shr, .shr, sem106)), (48, (.shr, .shr, .shr, sem48)), (43, (.shr, .shr, .shr, sem43))]
def D152 : Draws := fun _ => .nil
noncomputable def L152 {R : Type} : Loops R := fun _ _ _ _ => none
noncomputable def laws_eqLetter (a0c0 : Int) (a0c1 : Int) (a0c2 : Int) (a0c3 : Int) (a0c4 : Int) (a0c5 : Int) (a0c6 : ByteArray) (a0c7 : Int) (a0c8 : Int) (a0c9 : Int) (a0c10 : Int) (a0c11 : Int) (a0c12 : List (Int × Unit)) (a0c13 : Int) (a0c14 : Int) (a0c15 : Int) (a0c16 : List R_iiis) (b1c0 : Int) (b1c1 : Int) (b1c2 : Int) (b1c3 : Int) (b1c4 : Int) (b1c5 : Int) (b1c6 : ByteArray) (b1c7 : Int) (b1c8 : Int) (b1c9 : Int) (b1c10 : Int) (b1c11 : Int) (b1c12 : List (Int × Unit)) (b1c13 : Int) (b1c14 : Int) (b1c15 : Int) (b1c16 : List R_iiis) : Option (Bool × Unit) :=
  bif !decide (a0c0 = b1c0) then
    some (false, ())
  else bif !decide (a0c1 = b1c1) then
    some (false, ())
  else bif !decide (a0c2 = b1c2) then
    some (false, ())
  else
    Option.bind (laws_eqItem a0c3 a0c4 a0c5 a0c6 b1c3 b1c4 b1c5 b1c6) fun y1 =>
    bif !y1.1 then
      some (false, ())
    else
      Option.bind (laws_eqToken a0c7 a0c8 a0c9 a0c10 a0c11 a0c12 b1c7 b1c8 b1c9 b1c10 b1c11 b1c12) fun y2 =>
      bif !y2.1 then
        some (false, ())
      else
        Option.bind (laws_eqBundle a0c13 a0c14 a0c15 a0c16 b1c13 b1c14 b1c15 b1c16) fun y3 =>
        bif !y3.1 then
          some (false, ())
        else
          some (true, ())
noncomputable def x152 (x : Int × Int × Int × Int × Int × Int × ByteArray × Int × Int × Int × Int × Int × (List (Int × Unit)) × Int × Int × Int × (List R_iiis) × Int × Int × Int × Int × Int × Int × ByteArray × Int × Int × Int × Int × Int × (List (Int × Unit)) × Int × Int × Int × (List R_iiis) × Unit) : Option (Bool × Unit) := laws_eqLetter x.1 x.2.1 x.2.2.1 x.2.2.2.1 x.2.2.2.2.1 x.2.2.2.2.2.1 x.2.2.2.2.2.2.1 x.2.2.2.2.2.2.2.1 x.2.2.2.2.2.2.2.2.1 x.2.2.2.2.2.2.2.2.2.1 x.2.2.2.2.2.2.2.2.2.2.1 x.2.2.2.2.2.2.2.2.2.2.2.1 x.2.2.2.2.2.2.2.2.2.2.2.2.1 x.2.2.2.2.2.2.2.2.2.2.2.2.2.1 x.2.2.2.2.2.2.2.2.2.2.2.2.2.2.1 x.2.2.2.2.2.2.2.2.2.2.2.2.2.2.2.1 x.2.2.2.2.2.2.2.2.2.2.2.2.2.2.2.2.1 x.2.2.2.2.2.2.2.2.2.2.2.2.2.2.2.2.2.1 x.2.2.2.2.2.2.2.2.2.2.2.2.2.2.2.2.2.2.1 x.2.2.2.2.2.2.2.2.2.2.2.2.2.2.2.2.2.2.2.1 x.2.2.2.2.2.2.2.2.2.2.2.2.2.2.2.2.2.2.2.2.1 x.2.2.2.2.2.2.2.2.2.2.2.2.2.2.2.2.2.2.2.2.2.1 x.2.2.2.2.2.2.2.2.2.2.2.2.2.2.2.2.2.2.2.2.2.2.1 x.2.2.2.2.2.2.2.2.2.2.2.2.2.2.2.2.2.2.2.2.2.2.2.1 x.2.2.2.2.2.2.2.2.2.2.2.2.2.2.2.2.2.2.2.2.2.2.2.2.1 x.2.2.2.2.2.2.2.2.2.2.2.2.2.2.2.2.2.2.2.2.2.2.2.2.2.1 x.2.2.2.2.2.2.2.2.2.2.2.2.2.2.2.2.2.2.2.2.2.2.2.2.2.2.1 x.2.2.2.2.2.2.2.2.2.2.2.2.2.2.2.2.2.2.2.2.2.2.2.2.2.2.2.1 x.2.2.2.2.2.2.2.2.2.2.2.2.2.2.2.2.2.2.2.2.2.2.2.2.2.2.2.2.1 x.2.2.2.2.2.2.2.2.2.2.2.2.2.2.2.2.2.2.2.2.2.2.2.2.2.2.2.2.2.1 x.2.2.2.2.2.2.2.2.2.2.2.2.2.2.2.2.2.2.2.2.2.2.2.2.2.2.2.2.2.2.1 x.2.2.2.2.2.2.2.2.2.2.2.2.2.2.2.2.2.2.2.2.2.2.2.2.2.2.2.2.2.2.2.1 x.2.2.2.2.2.2.2.2.2.2.2.2.2.2.2.2.2.2.2.2.2.2.2.2.2.2.2.2.2.2.2.2.1 x.2.2.2.2.2.2.2.2.2.2.2.2.2.2.2.2.2.2.2.2.2.2.2.2.2.2.2.2.2.2.2.2.2.1
noncomputable def sem152 : Sem1 := semOf ps152 rs152 x152
theorem so152 : SemsOk Try.prog (semsOf sl152) := sems_cons k106 (sems_cons k48 (sems_cons k43 (sems_nil)))
theorem t152_eq (x : denR (headRT (ps152.map some))) : codeK (tabOf tr) (semsOf sl152) D152 L152 code152 (start 38 ps152 x) (finK rs152 ps152) = x152 x := by kernel_rfl
theorem k152 : Known Try.prog 152 sem152 :=
  fn_auto tr_ok eq_ok mixed_ok so152 (D := D152) (code := code152) (n := 38) Try.func152 (by kernel_rfl) (by kernel_rfl) (by kernel_rfl) (fun w0 mu _ hs => (loops_of (l := []) (by kernel_rfl) (List.forall_mem_nil _))) t152_eq

/-! ### f89: laws.eqLetterS -/
noncomputable def code89 : Code := match Try.f89.body with | some c => c | none => .skip
def ps89 : List AP := [.val false [.shr T_iiiiiisiiiiiLiEiiiLiiisE], .val false [.shr T_iiiiiisiiiiiLiEiiiLiiisE]]
def rs89 : List RP := [{ src := .tmp 4, agg := false, ps := [.bool] }]
noncomputable def sl89 : SemL := [(152, (.shr, .shr, .shr, sem152))]
def D89 : Draws := fun id => bif Nat.beq id 6 then .op 0 .any (.op 1 .any (.op 2 .any (.op 3 .take (.op 4 .any (.op 5 .any (.op 6 .any (.op 7 .take (.op 8 .one (.op 9 .any (.nil)))))))))) else .nil
def hp89_0 : List (Option AP) := [some (.val false [.shr T_iiiiiisiiiiiLiEiiiLiiisE]), some (.val false [.shr T_iiiiiisiiiiiLiEiiiLiiisE]), none, none, none, some (.val false [.int .i64]), none, none, none, none, none, none, none, none, none, none, none, none, none, none, none, none, none, none, none, none, none, none]
def e89_0 : List (Option AP) := [none, none, none, none, none, none, none, none, none, none, none, none, none, none, none, none, none, none, none, none, none, none, none, none, none, none, none, none]
def q89_0 : List (Option AP) := [none, none, none, none, some (.val false [.bool]), none, none, none, none, none, none, none, none, none, none, none, none, none, none, none, none, none, none, none, none, none, none, none]
abbrev H89_0 : Type := (List R_iiiiiisiiiiiLiEiiiLiiisE) × (List R_iiiiiisiiiiiLiEiiiLiiisE) × Int × Unit
abbrev E89_0 : Type := Unit
abbrev Q89_0 : Type := Bool × Unit
noncomputable def laws_eqLetterS_c0 (a0 : List R_iiiiiisiiiiiLiEiiiLiiisE) (b1 : List R_iiiiiisiiiiiLiEiiiLiiisE) (i5 : Int) : Option (Sum H89_0 (Sum E89_0 Q89_0)) :=
  bif decide (i5 < ((List.length a0 : Nat) : Int)) then
    bif decide ((0 : Int) ≤ i5) then Option.bind ((a0)[Int.toNat i5]?) fun r1 =>
      bif decide ((0 : Int) ≤ i5) then Option.bind ((b1)[Int.toNat i5]?) fun r2 =>
        Option.bind (laws_eqLetter r1.1 r1.2.1 r1.2.2.1 r1.2.2.2.1 r1.2.2.2.2.1 r1.2.2.2.2.2.1 r1.2.2.2.2.2.2.1 r1.2.2.2.2.2.2.2.1 r1.2.2.2.2.2.2.2.2.1 r1.2.2.2.2.2.2.2.2.2.1 r1.2.2.2.2.2.2.2.2.2.2.1 r1.2.2.2.2.2.2.2.2.2.2.2.1 r1.2.2.2.2.2.2.2.2.2.2.2.2.1 r1.2.2.2.2.2.2.2.2.2.2.2.2.2.1 r1.2.2.2.2.2.2.2.2.2.2.2.2.2.2.1 r1.2.2.2.2.2.2.2.2.2.2.2.2.2.2.2.1 r1.2.2.2.2.2.2.2.2.2.2.2.2.2.2.2.2.1 r2.1 r2.2.1 r2.2.2.1 r2.2.2.2.1 r2.2.2.2.2.1 r2.2.2.2.2.2.1 r2.2.2.2.2.2.2.1 r2.2.2.2.2.2.2.2.1 r2.2.2.2.2.2.2.2.2.1 r2.2.2.2.2.2.2.2.2.2.1 r2.2.2.2.2.2.2.2.2.2.2.1 r2.2.2.2.2.2.2.2.2.2.2.2.1 r2.2.2.2.2.2.2.2.2.2.2.2.2.1 r2.2.2.2.2.2.2.2.2.2.2.2.2.2.1 r2.2.2.2.2.2.2.2.2.2.2.2.2.2.2.1 r2.2.2.2.2.2.2.2.2.2.2.2.2.2.2.2.1 r2.2.2.2.2.2.2.2.2.2.2.2.2.2.2.2.2.1) fun y3 =>
        bif !y3.1 then
          some (.inr (.inr (false, ())))
        else
          some (.inl (a0, b1, IntKind.i64.wrap (i5 + (1 : Int)), ()))
      else none
    else none
  else
    some (.inr (.inl (())))
noncomputable def laws_eqLetterS_r0 (x : H89_0) : Option (Sum H89_0 (Sum E89_0 Q89_0)) := laws_eqLetterS_c0 x.1 x.2.1 x.2.2.1
noncomputable def L89 {R : Type} : Loops R := fun id _ st k => bif Nat.beq id 0 then loopAt hp89_0 e89_0 q89_0 laws_eqLetterS_r0 st k else none
noncomputable def laws_eqLetterS (a0 : List R_iiiiiisiiiiiLiEiiiLiiisE) (b1 : List R_iiiiiisiiiiiLiEiiiLiiisE) : Option (Bool × Unit) :=
  bif !decide (((List.length a0 : Nat) : Int) = ((List.length b1 : Nat) : Int)) then
    some (false, ())
  else
    outK (loopV laws_eqLetterS_r0 (a0, b1, (0 : Int), ())) (fun y1 =>
      some (true, ())) (fun y2 =>
      some (y2.1, ()))
noncomputable def x89 (x : (List R_iiiiiisiiiiiLiEiiiLiiisE) × (List R_iiiiiisiiiiiLiEiiiLiiisE) × Unit) : Option (Bool × Unit) := laws_eqLetterS x.1 x.2.1
noncomputable def sem89 : Sem1 := semOf ps89 rs89 x89
theorem so89 : SemsOk Try.prog (semsOf sl89) := sems_cons k152 (sems_nil)
noncomputable def b89_0 : Code := nthLoop code89 0
theorem t89_r0_eq (x : denR (headRT hp89_0)) : codeK (tabOf tr) (semsOf sl89) D89 L89 b89_0 (headSt hp89_0 x) (roundK 0 hp89_0 e89_0 q89_0) = laws_eqLetterS_r0 x := by kernel_rfl
theorem loop89_0 {R : Type} (r : R) (w0 : World) (mu : Mu) (hs : AnShape ps89 mu) : LoopAt Try.prog w0 mu 27 (L89 : Loops R) r 0 b89_0 :=
  loop_auto tr_ok eq_ok mixed_ok so89 (D := D89) hs (by kernel_rfl) (fun _ => (loops_of (l := []) (by kernel_rfl) (List.forall_mem_nil _))) t89_r0_eq (fun _ _ => rfl)
theorem t89_eq (x : denR (headRT (ps89.map some))) : codeK (tabOf tr) (semsOf sl89) D89 L89 code89 (start 27 ps89 x) (finK rs89 ps89) = x89 x := by kernel_rfl
theorem k89 : Known Try.prog 89 sem89 :=
  fn_auto tr_ok eq_ok mixed_ok so89 (D := D89) (code := code89) (n := 27) Try.func89 (by kernel_rfl) (by kernel_rfl) (by kernel_rfl) (fun w0 mu _ hs => (loops_of (l := [(0, b89_0)]) (by kernel_rfl) (List.forall_mem_cons.2 ⟨loop89_0 _ w0 mu hs, (List.forall_mem_nil _)⟩))) t89_eq

/-! ### f23: laws.eqWorld -/
noncomputable def code23 : Code := match Try.f23.body with | some c => c | none => .skip
def ps23 : List AP := [.val true [.shr T_iLiE, .shr T_ibiiLiELiiisELiELsEiiiiiiiiiLiEiiiLiELiiiLiiisEELiiLiEiiisLiEE, .shr T_iiiiiisiiiiiLiEiiiLiiisE, .shr T_iiLiEiiisLiE], .val true [.shr T_iLiE, .shr T_ibiiLiELiiisELiELsEiiiiiiiiiLiEiiiLiELiiiLiiisEELiiLiEiiisLiEE, .shr T_iiiiiisiiiiiLiEiiiLiiisE, .shr T_iiLiEiiisLiE]]
def rs23 : List RP := [{ src := .tmp 4, agg := false, ps := [.bool] }]
noncomputable def sl23 : SemL := [(24, (.shr, .shr, .shr, sem24)), (88, (.shr, .shr, .shr, sem88)), (89, (.shr, .shr, .shr, sem89)), (90, (.shr, .shr, .shr, sem90))]
def D23 : Draws := fun _ => .nil
noncomputable def L23 {R : Type} : Loops R := fun _ _ _ _ => none
noncomputable def laws_eqWorld (a0c0 : List R_iLiE) (a0c1 : List R_ibiiLiELiiisELiELsEiiiiiiiiiLiEiiiLiELiiiLiiisEELiiLiEiiisLiEE) (a0c2 : List R_iiiiiisiiiiiLiEiiiLiiisE) (a0c3 : List R_iiLiEiiisLiE) (b1c0 : List R_iLiE) (b1c1 : List R_ibiiLiELiiisELiELsEiiiiiiiiiLiEiiiLiELiiiLiiisEELiiLiEiiisLiEE) (b1c2 : List R_iiiiiisiiiiiLiEiiiLiiisE) (b1c3 : List R_iiLiEiiisLiE) : Option (Bool × Unit) :=
  Option.bind (laws_eqRingS a0c0 b1c0) fun y1 =>
  bif !y1.1 then
    some (false, ())
  else
    Option.bind (laws_eqDaemonS a0c1 b1c1) fun y2 =>
    bif !y2.1 then
      some (false, ())
    else
      Option.bind (laws_eqLetterS a0c2 b1c2) fun y3 =>
      bif !y3.1 then
        some (false, ())
      else
        Option.bind (laws_eqEventS a0c3 b1c3) fun y4 =>
        bif !y4.1 then
          some (false, ())
        else
          some (true, ())
noncomputable def x23 (x : (List R_iLiE) × (List R_ibiiLiELiiisELiELsEiiiiiiiiiLiEiiiLiELiiiLiiisEELiiLiEiiisLiEE) × (List R_iiiiiisiiiiiLiEiiiLiiisE) × (List R_iiLiEiiisLiE) × (List R_iLiE) × (List R_ibiiLiELiiisELiELsEiiiiiiiiiLiEiiiLiELiiiLiiisEELiiLiEiiisLiEE) × (List R_iiiiiisiiiiiLiEiiiLiiisE) × (List R_iiLiEiiisLiE) × Unit) : Option (Bool × Unit) := laws_eqWorld x.1 x.2.1 x.2.2.1 x.2.2.2.1 x.2.2.2.2.1 x.2.2.2.2.2.1 x.2.2.2.2.2.2.1 x.2.2.2.2.2.2.2.1
noncomputable def sem23 : Sem1 := semOf ps23 rs23 x23
theorem so23 : SemsOk Try.prog (semsOf sl23) := sems_cons k24 (sems_cons k88 (sems_cons k89 (sems_cons k90 (sems_nil))))
theorem t23_eq (x : denR (headRT (ps23.map some))) : codeK (tabOf tr) (semsOf sl23) D23 L23 code23 (start 29 ps23 x) (finK rs23 ps23) = x23 x := by kernel_rfl
theorem k23 : Known Try.prog 23 sem23 :=
  fn_auto tr_ok eq_ok mixed_ok so23 (D := D23) (code := code23) (n := 29) Try.func23 (by kernel_rfl) (by kernel_rfl) (by kernel_rfl) (fun w0 mu _ hs => (loops_of (l := []) (by kernel_rfl) (List.forall_mem_nil _))) t23_eq

/-! ### f75: laws.markIntS -/
noncomputable def code75 : Code := match Try.f75.body with | some c => c | none => .skip
def ps75 : List AP := [.io T_i, .val false [.int .i64]]
def rs75 : List RP := [{ src := .tmp 4, agg := false, ps := [.int .i64] }]
noncomputable def sl75 : SemL := []
def D75 : Draws := fun _ => .nil
def hp75_0 : List (Option AP) := [some (.io T_i), some (.val false [.int .i64]), none, none, none, some (.val false [.int .i64]), none, none, none, none, none, none, none, none, none, none, none, none, none, none]
def e75_0 : List (Option AP) := [some (.io T_i), some (.val false [.int .i64]), none, none, none, none, none, none, none, none, none, none, none, none, none, none, none, none, none, none]
def q75_0 : List (Option AP) := [none, none, none, none, none, none, none, none, none, none, none, none, none, none, none, none, none, none, none, none]
abbrev H75_0 : Type := (List (Int × Unit)) × Int × Int × Unit
abbrev E75_0 : Type := (List (Int × Unit)) × Int × Unit
abbrev Q75_0 : Type := Unit
noncomputable def laws_markIntS_c0 (a0 : List (Int × Unit)) (k1 : Int) (i5 : Int) : Option (Sum H75_0 (Sum E75_0 Q75_0)) :=
  bif decide (i5 < ((List.length a0 : Nat) : Int)) then
    bif decide ((0 : Int) ≤ i5) then bif Nat.blt (Int.toNat i5) (List.length a0) then Option.bind ((a0)[Int.toNat i5]?) fun r1 =>
        some (.inl (List.set a0 (Int.toNat i5) (k1, ()), IntKind.i64.wrap (k1 + (1 : Int)), IntKind.i64.wrap (i5 + (1 : Int)), ()))
      else none
    else none
  else
    some (.inr (.inl (a0, k1, ())))
noncomputable def laws_markIntS_r0 (x : H75_0) : Option (Sum H75_0 (Sum E75_0 Q75_0)) := laws_markIntS_c0 x.1 x.2.1 x.2.2.1
noncomputable def L75 {R : Type} : Loops R := fun id _ st k => bif Nat.beq id 0 then loopAt hp75_0 e75_0 q75_0 laws_markIntS_r0 st k else none
noncomputable def laws_markIntS (a0 : List (Int × Unit)) (k1 : Int) : Option (Int × (List (Int × Unit)) × Unit) :=
  outK (loopV laws_markIntS_r0 (a0, k1, (0 : Int), ())) (fun y1 =>
    some (y1.2.1, y1.1, ())) (fun y2 =>
    none)
noncomputable def x75 (x : (List (Int × Unit)) × Int × Unit) : Option (Int × (List (Int × Unit)) × Unit) := laws_markIntS x.1 x.2.1
noncomputable def sem75 : Sem1 := semOf ps75 rs75 x75
theorem so75 : SemsOk Try.prog (semsOf sl75) := sems_nil
noncomputable def b75_0 : Code := nthLoop code75 0
theorem t75_r0_eq (x : denR (headRT hp75_0)) : codeK (tabOf tr) (semsOf sl75) D75 L75 b75_0 (headSt hp75_0 x) (roundK 0 hp75_0 e75_0 q75_0) = laws_markIntS_r0 x := by kernel_rfl
theorem loop75_0 {R : Type} (r : R) (w0 : World) (mu : Mu) (hs : AnShape ps75 mu) : LoopAt Try.prog w0 mu 19 (L75 : Loops R) r 0 b75_0 :=
  loop_auto tr_ok eq_ok mixed_ok so75 (D := D75) hs (by kernel_rfl) (fun _ => (loops_of (l := []) (by kernel_rfl) (List.forall_mem_nil _))) t75_r0_eq (fun _ _ => rfl)
theorem t75_eq (x : denR (headRT (ps75.map some))) : codeK (tabOf tr) (semsOf sl75) D75 L75 code75 (start 19 ps75 x) (finK rs75 ps75) = x75 x := by kernel_rfl
theorem k75 : Known Try.prog 75 sem75 :=
  fn_auto tr_ok eq_ok mixed_ok so75 (D := D75) (code := code75) (n := 19) Try.func75 (by kernel_rfl) (by kernel_rfl) (by kernel_rfl) (fun w0 mu _ hs => (loops_of (l := [(0, b75_0)]) (by kernel_rfl) (List.forall_mem_cons.2 ⟨loop75_0 _ w0 mu hs, (List.forall_mem_nil _)⟩))) t75_eq

/-! ### f25: laws.markRingS -/
noncomputable def code25 : Code := match Try.f25.body with | some c => c | none => .skip
def ps25 : List AP := [.io T_iLiE .dp, .val false [.int .i64]]
def rs25 : List RP := [{ src := .tmp 4, agg := false, ps := [.int .i64] }]
noncomputable def sl25 : SemL := [(75, (.io, .shr, .shr, sem75))]
def D25 : Draws := fun _ => .nil
def hp25_0 : List (Option AP) := [some (.io T_iLiE .dp), some (.val false [.int .i64]), none, none, none, some (.val false [.int .i64]), none, none, none, none, none, none, none, none, none, none, none, none, none, none, none, none, none, none, none, none, none, none]
def e25_0 : List (Option AP) := [some (.io T_iLiE .dp), some (.val false [.int .i64]), none, none, none, none, none, none, none, none, none, none, none, none, none, none, none, none, none, none, none, none, none, none, none, none, none, none]
def q25_0 : List (Option AP) := [none, none, none, none, none, none, none, none, none, none, none, none, none, none, none, none, none, none, none, none, none, none, none, none, none, none, none, none]
abbrev H25_0 : Type := (List R_iLiE) × Int × Int × Unit
abbrev E25_0 : Type := (List R_iLiE) × Int × Unit
abbrev Q25_0 : Type := Unit
noncomputable def laws_markRingS_c0 (a0 : List R_iLiE) (k1 : Int) (i5 : Int) : Option (Sum H25_0 (Sum E25_0 Q25_0)) :=
  bif decide (i5 < ((List.length a0 : Nat) : Int)) then
    bif decide ((0 : Int) ≤ i5) then bif Nat.blt (Int.toNat i5) (List.length a0) then Option.bind ((a0)[Int.toNat i5]?) fun r1 =>
        bif decide ((0 : Int) ≤ i5) then bif Nat.blt (Int.toNat i5) (List.length (List.set a0 (Int.toNat i5) (k1, r1.2.1, ()))) then Option.bind ((List.set a0 (Int.toNat i5) (k1, r1.2.1, ()))[Int.toNat i5]?) fun r2 =>
            Option.bind (laws_markIntS r2.2.1 (IntKind.i64.wrap (k1 + (1 : Int)))) fun y3 =>
            Option.bind ((List.set a0 (Int.toNat i5) (k1, r1.2.1, ()))[Int.toNat i5]?) fun r4 =>
            some (.inl (List.set (List.set a0 (Int.toNat i5) (k1, r1.2.1, ())) (Int.toNat i5) (r4.1, y3.2.1, ()), y3.1, IntKind.i64.wrap (i5 + (1 : Int)), ()))
          else none
        else none
      else none
    else none
  else
    some (.inr (.inl (a0, k1, ())))
noncomputable def laws_markRingS_r0 (x : H25_0) : Option (Sum H25_0 (Sum E25_0 Q25_0)) := laws_markRingS_c0 x.1 x.2.1 x.2.2.1
noncomputable def L25 {R : Type} : Loops R := fun id _ st k => bif Nat.beq id 0 then loopAt hp25_0 e25_0 q25_0 laws_markRingS_r0 st k else none
noncomputable def laws_markRingS (a0 : List R_iLiE) (k1 : Int) : Option (Int × (List R_iLiE) × Unit) :=
  outK (loopV laws_markRingS_r0 (a0, k1, (0 : Int), ())) (fun y1 =>
    some (y1.2.1, y1.1, ())) (fun y2 =>
    none)
noncomputable def x25 (x : (List R_iLiE) × Int × Unit) : Option (Int × (List R_iLiE) × Unit) := laws_markRingS x.1 x.2.1
noncomputable def sem25 : Sem1 := semOf ps25 rs25 x25
theorem so25 : SemsOk Try.prog (semsOf sl25) := sems_cons k75 (sems_nil)
noncomputable def b25_0 : Code := nthLoop code25 0
theorem t25_r0_eq (x : denR (headRT hp25_0)) : codeK (tabOf tr) (semsOf sl25) D25 L25 b25_0 (headSt hp25_0 x) (roundK 0 hp25_0 e25_0 q25_0) = laws_markRingS_r0 x := by kernel_rfl
theorem loop25_0 {R : Type} (r : R) (w0 : World) (mu : Mu) (hs : AnShape ps25 mu) : LoopAt Try.prog w0 mu 27 (L25 : Loops R) r 0 b25_0 :=
  loop_auto tr_ok eq_ok mixed_ok so25 (D := D25) hs (by kernel_rfl) (fun _ => (loops_of (l := []) (by kernel_rfl) (List.forall_mem_nil _))) t25_r0_eq (fun _ _ => rfl)
theorem t25_eq (x : denR (headRT (ps25.map some))) : codeK (tabOf tr) (semsOf sl25) D25 L25 code25 (start 27 ps25 x) (finK rs25 ps25) = x25 x := by kernel_rfl
theorem k25 : Known Try.prog 25 sem25 :=
  fn_auto tr_ok eq_ok mixed_ok so25 (D := D25) (code := code25) (n := 27) Try.func25 (by kernel_rfl) (by kernel_rfl) (by kernel_rfl) (fun w0 mu _ hs => (loops_of (l := [(0, b25_0)]) (by kernel_rfl) (List.forall_mem_cons.2 ⟨loop25_0 _ w0 mu hs, (List.forall_mem_nil _)⟩))) t25_eq

/-! ### f107: laws.markText -/
noncomputable def code107 : Code := match Try.f107.body with | some c => c | none => .skip
def ps107 : List AP := [.val false [.int .i64]]
def rs107 : List RP := [{ src := .tmp 2, agg := false, ps := [.str] }]
noncomputable def sl107 : SemL := []
def D107 : Draws := fun _ => .nil
def hp107_0 : List (Option AP) := [some (.val false [.int .i64]), none, none, some (.val false [.str]), none, none, none, none, none, none, none, none, none, none, none, none, none, none, none, none, none]
def e107_0 : List (Option AP) := [none, none, none, some (.val false [.str]), none, none, none, none, none, none, none, none, none, none, none, none, none, none, none, none, none]
def q107_0 : List (Option AP) := [none, none, none, none, none, none, none, none, none, none, none, none, none, none, none, none, none, none, none, none, none]
abbrev H107_0 : Type := Int × ByteArray × Unit
abbrev E107_0 : Type := ByteArray × Unit
abbrev Q107_0 : Type := Unit
noncomputable def laws_markText_c0 (k0 : Int) (out3 : ByteArray) : Option (Sum H107_0 (Sum E107_0 Q107_0)) :=
  bif decide ((0 : Int) < k0) then
    bif Nat.ble ((ByteArray.size (bytesOf [(IntKind.u8.wrap (IntKind.i64.wrap ((48 : Int) + (Int.tmod k0 (10 : Int)))), ())])) + (ByteArray.size out3)) lim then some (.inl (IntKind.i64.wrap (Int.tdiv k0 (10 : Int)), (bytesOf [(IntKind.u8.wrap (IntKind.i64.wrap ((48 : Int) + (Int.tmod k0 (10 : Int)))), ())]) ++ out3, ()))
    else none
  else
    some (.inr (.inl (out3, ())))
noncomputable def laws_markText_r0 (x : H107_0) : Option (Sum H107_0 (Sum E107_0 Q107_0)) := laws_markText_c0 x.1 x.2.1
noncomputable def L107 {R : Type} : Loops R := fun id _ st k => bif Nat.beq id 0 then loopAt hp107_0 e107_0 q107_0 laws_markText_r0 st k else none
noncomputable def laws_markText (k0 : Int) : Option (ByteArray × Unit) :=
  bif decide (k0 ≤ (0 : Int)) then
    some ((ByteArray.mk #[109, 48]), ())
  else
    outK (loopV laws_markText_r0 (k0, (ByteArray.mk #[]), ())) (fun y1 =>
      bif Nat.ble (1 + (ByteArray.size y1.1)) lim then some ((ByteArray.mk #[109]) ++ y1.1, ())
      else none) (fun y2 =>
      none)
noncomputable def x107 (x : Int × Unit) : Option (ByteArray × Unit) := laws_markText x.1
noncomputable def sem107 : Sem1 := semOf ps107 rs107 x107
theorem so107 : SemsOk Try.prog (semsOf sl107) := sems_nil
noncomputable def b107_0 : Code := nthLoop code107 0
theorem t107_r0_eq (x : denR (headRT hp107_0)) : codeK (tabOf tr) (semsOf sl107) D107 L107 b107_0 (headSt hp107_0 x) (roundK 0 hp107_0 e107_0 q107_0) = laws_markText_r0 x := by kernel_rfl
theorem loop107_0 {R : Type} (r : R) (w0 : World) (mu : Mu) (hs : AnShape ps107 mu) : LoopAt Try.prog w0 mu 20 (L107 : Loops R) r 0 b107_0 :=
  loop_auto tr_ok eq_ok mixed_ok so107 (D := D107) hs (by kernel_rfl) (fun _ => (loops_of (l := []) (by kernel_rfl) (List.forall_mem_nil _))) t107_r0_eq (fun _ _ => rfl)
theorem t107_eq (x : denR (headRT (ps107.map some))) : codeK (tabOf tr) (semsOf sl107) D107 L107 code107 (start 20 ps107 x) (finK rs107 ps107) = x107 x := by kernel_rfl
theorem k107 : Known Try.prog 107 sem107 :=
  fn_auto tr_ok eq_ok mixed_ok so107 (D := D107) (code := code107) (n := 20) Try.func107 (by kernel_rfl) (by kernel_rfl) (by kernel_rfl) (fun w0 mu _ hs => (loops_of (l := [(0, b107_0)]) (by kernel_rfl) (List.forall_mem_cons.2 ⟨loop107_0 _ w0 mu hs, (List.forall_mem_nil _)⟩))) t107_eq

/-! ### f35: laws.markItemS -/
noncomputable def code35 : Code := match Try.f35.body with | some c => c | none => .skip
def ps35 : List AP := [.io T_iiis, .val false [.int .i64]]
def rs35 : List RP := [{ src := .tmp 4, agg := false, ps := [.int .i64] }]
noncomputable def sl35 : SemL := [(107, (.shr, .shr, .shr, sem107))]
def D35 : Draws := fun _ => .nil
def hp35_0 : List (Option AP) := [some (.io T_iiis), some (.val false [.int .i64]), none, none, none, some (.val false [.int .i64]), none, none, none, none, none, none, none, none, none, none, none, none, none, none, none, none, none, none, none, none, none, none, none, none, none, none, none, none, none, none, none, none, none, none, none, none, none]
def e35_0 : List (Option AP) := [some (.io T_iiis), some (.val false [.int .i64]), none, none, none, none, none, none, none, none, none, none, none, none, none, none, none, none, none, none, none, none, none, none, none, none, none, none, none, none, none, none, none, none, none, none, none, none, none, none, none, none, none]
def q35_0 : List (Option AP) := [none, none, none, none, none, none, none, none, none, none, none, none, none, none, none, none, none, none, none, none, none, none, none, none, none, none, none, none, none, none, none, none, none, none, none, none, none, none, none, none, none, none, none]
abbrev H35_0 : Type := (List R_iiis) × Int × Int × Unit
abbrev E35_0 : Type := (List R_iiis) × Int × Unit
abbrev Q35_0 : Type := Unit
noncomputable def laws_markItemS_c0 (a0 : List R_iiis) (k1 : Int) (i5 : Int) : Option (Sum H35_0 (Sum E35_0 Q35_0)) :=
  bif decide (i5 < ((List.length a0 : Nat) : Int)) then
    bif decide ((0 : Int) ≤ i5) then bif Nat.blt (Int.toNat i5) (List.length a0) then Option.bind ((a0)[Int.toNat i5]?) fun r1 =>
        bif decide ((0 : Int) ≤ i5) then bif Nat.blt (Int.toNat i5) (List.length (List.set a0 (Int.toNat i5) (k1, r1.2.1, r1.2.2.1, r1.2.2.2.1, ()))) then Option.bind ((List.set a0 (Int.toNat i5) (k1, r1.2.1, r1.2.2.1, r1.2.2.2.1, ()))[Int.toNat i5]?) fun r2 =>
            bif decide ((0 : Int) ≤ i5) then bif Nat.blt (Int.toNat i5) (List.length (List.set (List.set a0 (Int.toNat i5) (k1, r1.2.1, r1.2.2.1, r1.2.2.2.1, ())) (Int.toNat i5) (r2.1, IntKind.i64.wrap (k1 + (1 : Int)), r2.2.2.1, r2.2.2.2.1, ()))) then Option.bind ((List.set (List.set a0 (Int.toNat i5) (k1, r1.2.1, r1.2.2.1, r1.2.2.2.1, ())) (Int.toNat i5) (r2.1, IntKind.i64.wrap (k1 + (1 : Int)), r2.2.2.1, r2.2.2.2.1, ()))[Int.toNat i5]?) fun r3 =>
                Option.bind (laws_markText (IntKind.i64.wrap ((IntKind.i64.wrap ((IntKind.i64.wrap (k1 + (1 : Int))) + (1 : Int))) + (1 : Int)))) fun y4 =>
                bif decide ((0 : Int) ≤ i5) then bif Nat.blt (Int.toNat i5) (List.length (List.set (List.set (List.set a0 (Int.toNat i5) (k1, r1.2.1, r1.2.2.1, r1.2.2.2.1, ())) (Int.toNat i5) (r2.1, IntKind.i64.wrap (k1 + (1 : Int)), r2.2.2.1, r2.2.2.2.1, ())) (Int.toNat i5) (r3.1, r3.2.1, IntKind.i64.wrap ((IntKind.i64.wrap (k1 + (1 : Int))) + (1 : Int)), r3.2.2.2.1, ()))) then Option.bind ((List.set (List.set (List.set a0 (Int.toNat i5) (k1, r1.2.1, r1.2.2.1, r1.2.2.2.1, ())) (Int.toNat i5) (r2.1, IntKind.i64.wrap (k1 + (1 : Int)), r2.2.2.1, r2.2.2.2.1, ())) (Int.toNat i5) (r3.1, r3.2.1, IntKind.i64.wrap ((IntKind.i64.wrap (k1 + (1 : Int))) + (1 : Int)), r3.2.2.2.1, ()))[Int.toNat i5]?) fun r5 =>
                    some (.inl (List.set (List.set (List.set (List.set a0 (Int.toNat i5) (k1, r1.2.1, r1.2.2.1, r1.2.2.2.1, ())) (Int.toNat i5) (r2.1, IntKind.i64.wrap (k1 + (1 : Int)), r2.2.2.1, r2.2.2.2.1, ())) (Int.toNat i5) (r3.1, r3.2.1, IntKind.i64.wrap ((IntKind.i64.wrap (k1 + (1 : Int))) + (1 : Int)), r3.2.2.2.1, ())) (Int.toNat i5) (r5.1, r5.2.1, r5.2.2.1, y4.1, ()), IntKind.i64.wrap ((IntKind.i64.wrap ((IntKind.i64.wrap ((IntKind.i64.wrap (k1 + (1 : Int))) + (1 : Int))) + (1 : Int))) + (1 : Int)), IntKind.i64.wrap (i5 + (1 : Int)), ()))
                  else none
                else none
              else none
            else none
          else none
        else none
      else none
    else none
  else
    some (.inr (.inl (a0, k1, ())))
noncomputable def laws_markItemS_r0 (x : H35_0) : Option (Sum H35_0 (Sum E35_0 Q35_0)) := laws_markItemS_c0 x.1 x.2.1 x.2.2.1
noncomputable def L35 {R : Type} : Loops R := fun id _ st k => bif Nat.beq id 0 then loopAt hp35_0 e35_0 q35_0 laws_markItemS_r0 st k else none
noncomputable def laws_markItemS (a0 : List R_iiis) (k1 : Int) : Option (Int × (List R_iiis) × Unit) :=
  outK (loopV laws_markItemS_r0 (a0, k1, (0 : Int), ())) (fun y1 =>
    some (y1.2.1, y1.1, ())) (fun y2 =>
    none)
noncomputable def x35 (x : (List R_iiis) × Int × Unit) : Option (Int × (List R_iiis) × Unit) := laws_markItemS x.1 x.2.1
noncomputable def sem35 : Sem1 := semOf ps35 rs35 x35
theorem so35 : SemsOk Try.prog (semsOf sl35) := sems_cons k107 (sems_nil)
noncomputable def b35_0 : Code := nthLoop code35 0
theorem t35_r0_eq (x : denR (headRT hp35_0)) : codeK (tabOf tr) (semsOf sl35) D35 L35 b35_0 (headSt hp35_0 x) (roundK 0 hp35_0 e35_0 q35_0) = laws_markItemS_r0 x := by kernel_rfl
theorem loop35_0 {R : Type} (r : R) (w0 : World) (mu : Mu) (hs : AnShape ps35 mu) : LoopAt Try.prog w0 mu 42 (L35 : Loops R) r 0 b35_0 :=
  loop_auto tr_ok eq_ok mixed_ok so35 (D := D35) hs (by kernel_rfl) (fun _ => (loops_of (l := []) (by kernel_rfl) (List.forall_mem_nil _))) t35_r0_eq (fun _ _ => rfl)
theorem t35_eq (x : denR (headRT (ps35.map some))) : codeK (tabOf tr) (semsOf sl35) D35 L35 code35 (start 42 ps35 x) (finK rs35 ps35) = x35 x := by kernel_rfl
theorem k35 : Known Try.prog 35 sem35 :=
  fn_auto tr_ok eq_ok mixed_ok so35 (D := D35) (code := code35) (n := 42) Try.func35 (by kernel_rfl) (by kernel_rfl) (by kernel_rfl) (fun w0 mu _ hs => (loops_of (l := [(0, b35_0)]) (by kernel_rfl) (List.forall_mem_cons.2 ⟨loop35_0 _ w0 mu hs, (List.forall_mem_nil _)⟩))) t35_eq

/-! ### f142: laws.markStringS -/
noncomputable def code142 : Code := match Try.f142.body with | some c => c | none => .skip
def ps142 : List AP := [.io T_s, .val false [.int .i64]]
def rs142 : List RP := [{ src := .tmp 4, agg := false, ps := [.int .i64] }]
noncomputable def sl142 : SemL := [(107, (.shr, .shr, .shr, sem107))]
def D142 : Draws := fun _ => .nil
def hp142_0 : List (Option AP) := [some (.io T_s), some (.val false [.int .i64]), none, none, none, some (.val false [.int .i64]), none, none, none, none, none, none, none, none, none, none, none, none, none, none, none]
def e142_0 : List (Option AP) := [some (.io T_s), some (.val false [.int .i64]), none, none, none, none, none, none, none, none, none, none, none, none, none, none, none, none, none, none, none]
def q142_0 : List (Option AP) := [none, none, none, none, none, none, none, none, none, none, none, none, none, none, none, none, none, none, none, none, none]
abbrev H142_0 : Type := (List (ByteArray × Unit)) × Int × Int × Unit
abbrev E142_0 : Type := (List (ByteArray × Unit)) × Int × Unit
abbrev Q142_0 : Type := Unit
noncomputable def laws_markStringS_c0 (a0 : List (ByteArray × Unit)) (k1 : Int) (i5 : Int) : Option (Sum H142_0 (Sum E142_0 Q142_0)) :=
  bif decide (i5 < ((List.length a0 : Nat) : Int)) then
    Option.bind (laws_markText k1) fun y1 =>
    bif decide ((0 : Int) ≤ i5) then bif Nat.blt (Int.toNat i5) (List.length a0) then Option.bind ((a0)[Int.toNat i5]?) fun r2 =>
        some (.inl (List.set a0 (Int.toNat i5) (y1.1, ()), IntKind.i64.wrap (k1 + (1 : Int)), IntKind.i64.wrap (i5 + (1 : Int)), ()))
      else none
    else none
  else
    some (.inr (.inl (a0, k1, ())))
noncomputable def laws_markStringS_r0 (x : H142_0) : Option (Sum H142_0 (Sum E142_0 Q142_0)) := laws_markStringS_c0 x.1 x.2.1 x.2.2.1
noncomputable def L142 {R : Type} : Loops R := fun id _ st k => bif Nat.beq id 0 then loopAt hp142_0 e142_0 q142_0 laws_markStringS_r0 st k else none
noncomputable def laws_markStringS (a0 : List (ByteArray × Unit)) (k1 : Int) : Option (Int × (List (ByteArray × Unit)) × Unit) :=
  outK (loopV laws_markStringS_r0 (a0, k1, (0 : Int), ())) (fun y1 =>
    some (y1.2.1, y1.1, ())) (fun y2 =>
    none)
noncomputable def x142 (x : (List (ByteArray × Unit)) × Int × Unit) : Option (Int × (List (ByteArray × Unit)) × Unit) := laws_markStringS x.1 x.2.1
noncomputable def sem142 : Sem1 := semOf ps142 rs142 x142
theorem so142 : SemsOk Try.prog (semsOf sl142) := sems_cons k107 (sems_nil)
noncomputable def b142_0 : Code := nthLoop code142 0
theorem t142_r0_eq (x : denR (headRT hp142_0)) : codeK (tabOf tr) (semsOf sl142) D142 L142 b142_0 (headSt hp142_0 x) (roundK 0 hp142_0 e142_0 q142_0) = laws_markStringS_r0 x := by kernel_rfl
theorem loop142_0 {R : Type} (r : R) (w0 : World) (mu : Mu) (hs : AnShape ps142 mu) : LoopAt Try.prog w0 mu 20 (L142 : Loops R) r 0 b142_0 :=
  loop_auto tr_ok eq_ok mixed_ok so142 (D := D142) hs (by kernel_rfl) (fun _ => (loops_of (l := []) (by kernel_rfl) (List.forall_mem_nil _))) t142_r0_eq (fun _ _ => rfl)
theorem t142_eq (x : denR (headRT (ps142.map some))) : codeK (tabOf tr) (semsOf sl142) D142 L142 code142 (start 20 ps142 x) (finK rs142 ps142) = x142 x := by kernel_rfl
theorem k142 : Known Try.prog 142 sem142 :=
  fn_auto tr_ok eq_ok mixed_ok so142 (D := D142) (code := code142) (n := 20) Try.func142 (by kernel_rfl) (by kernel_rfl) (by kernel_rfl) (fun w0 mu _ hs => (loops_of (l := [(0, b142_0)]) (by kernel_rfl) (List.forall_mem_cons.2 ⟨loop142_0 _ w0 mu hs, (List.forall_mem_nil _)⟩))) t142_eq

/-! ### f34: laws.markBundleS -/
noncomputable def code34 : Code := match Try.f34.body with | some c => c | none => .skip
def ps34 : List AP := [.io T_iiiLiiisE .dp, .val false [.int .i64]]
def rs34 : List RP := [{ src := .tmp 4, agg := false, ps := [.int .i64] }]
noncomputable def sl34 : SemL := [(35, (.io, .shr, .shr, sem35))]
def D34 : Draws := fun _ => .nil
def hp34_0 : List (Option AP) := [some (.io T_iiiLiiisE .dp), some (.val false [.int .i64]), none, none, none, some (.val false [.int .i64]), none, none, none, none, none, none, none, none, none, none, none, none, none, none, none, none, none, none, none, none, none, none, none, none, none, none, none, none, none, none, none, none, none, none, none, none]
def e34_0 : List (Option AP) := [some (.io T_iiiLiiisE .dp), some (.val false [.int .i64]), none, none, none, none, none, none, none, none, none, none, none, none, none, none, none, none, none, none, none, none, none, none, none, none, none, none, none, none, none, none, none, none, none, none, none, none, none, none, none, none]
def q34_0 : List (Option AP) := [none, none, none, none, none, none, none, none, none, none, none, none, none, none, none, none, none, none, none, none, none, none, none, none, none, none, none, none, none, none, none, none, none, none, none, none, none, none, none, none, none, none]
abbrev H34_0 : Type := (List R_iiiLiiisE) × Int × Int × Unit
abbrev E34_0 : Type := (List R_iiiLiiisE) × Int × Unit
abbrev Q34_0 : Type := Unit
noncomputable def laws_markBundleS_c0 (a0 : List R_iiiLiiisE) (k1 : Int) (i5 : Int) : Option (Sum H34_0 (Sum E34_0 Q34_0)) :=
  bif decide (i5 < ((List.length a0 : Nat) : Int)) then
    bif decide ((0 : Int) ≤ i5) then bif Nat.blt (Int.toNat i5) (List.length a0) then Option.bind ((a0)[Int.toNat i5]?) fun r1 =>
        bif decide ((0 : Int) ≤ i5) then bif Nat.blt (Int.toNat i5) (List.length (List.set a0 (Int.toNat i5) (k1, r1.2.1, r1.2.2.1, r1.2.2.2.1, ()))) then Option.bind ((List.set a0 (Int.toNat i5) (k1, r1.2.1, r1.2.2.1, r1.2.2.2.1, ()))[Int.toNat i5]?) fun r2 =>
            bif decide ((0 : Int) ≤ i5) then bif Nat.blt (Int.toNat i5) (List.length (List.set (List.set a0 (Int.toNat i5) (k1, r1.2.1, r1.2.2.1, r1.2.2.2.1, ())) (Int.toNat i5) (r2.1, IntKind.i64.wrap (k1 + (1 : Int)), r2.2.2.1, r2.2.2.2.1, ()))) then Option.bind ((List.set (List.set a0 (Int.toNat i5) (k1, r1.2.1, r1.2.2.1, r1.2.2.2.1, ())) (Int.toNat i5) (r2.1, IntKind.i64.wrap (k1 + (1 : Int)), r2.2.2.1, r2.2.2.2.1, ()))[Int.toNat i5]?) fun r3 =>
                bif decide ((0 : Int) ≤ i5) then bif Nat.blt (Int.toNat i5) (List.length (List.set (List.set (List.set a0 (Int.toNat i5) (k1, r1.2.1, r1.2.2.1, r1.2.2.2.1, ())) (Int.toNat i5) (r2.1, IntKind.i64.wrap (k1 + (1 : Int)), r2.2.2.1, r2.2.2.2.1, ())) (Int.toNat i5) (r3.1, r3.2.1, IntKind.i64.wrap ((IntKind.i64.wrap (k1 + (1 : Int))) + (1 : Int)), r3.2.2.2.1, ()))) then Option.bind ((List.set (List.set (List.set a0 (Int.toNat i5) (k1, r1.2.1, r1.2.2.1, r1.2.2.2.1, ())) (Int.toNat i5) (r2.1, IntKind.i64.wrap (k1 + (1 : Int)), r2.2.2.1, r2.2.2.2.1, ())) (Int.toNat i5) (r3.1, r3.2.1, IntKind.i64.wrap ((IntKind.i64.wrap (k1 + (1 : Int))) + (1 : Int)), r3.2.2.2.1, ()))[Int.toNat i5]?) fun r4 =>
                    Option.bind (laws_markItemS r4.2.2.2.1 (IntKind.i64.wrap ((IntKind.i64.wrap ((IntKind.i64.wrap (k1 + (1 : Int))) + (1 : Int))) + (1 : Int)))) fun y5 =>
                    Option.bind ((List.set (List.set (List.set a0 (Int.toNat i5) (k1, r1.2.1, r1.2.2.1, r1.2.2.2.1, ())) (Int.toNat i5) (r2.1, IntKind.i64.wrap (k1 + (1 : Int)), r2.2.2.1, r2.2.2.2.1, ())) (Int.toNat i5) (r3.1, r3.2.1, IntKind.i64.wrap ((IntKind.i64.wrap (k1 + (1 : Int))) + (1 : Int)), r3.2.2.2.1, ()))[Int.toNat i5]?) fun r6 =>
                    some (.inl (List.set (List.set (List.set (List.set a0 (Int.toNat i5) (k1, r1.2.1, r1.2.2.1, r1.2.2.2.1, ())) (Int.toNat i5) (r2.1, IntKind.i64.wrap (k1 + (1 : Int)), r2.2.2.1, r2.2.2.2.1, ())) (Int.toNat i5) (r3.1, r3.2.1, IntKind.i64.wrap ((IntKind.i64.wrap (k1 + (1 : Int))) + (1 : Int)), r3.2.2.2.1, ())) (Int.toNat i5) (r6.1, r6.2.1, r6.2.2.1, y5.2.1, ()), y5.1, IntKind.i64.wrap (i5 + (1 : Int)), ()))
                  else none
                else none
              else none
            else none
          else none
        else none
      else none
    else none
  else
    some (.inr (.inl (a0, k1, ())))
noncomputable def laws_markBundleS_r0 (x : H34_0) : Option (Sum H34_0 (Sum E34_0 Q34_0)) := laws_markBundleS_c0 x.1 x.2.1 x.2.2.1
noncomputable def L34 {R : Type} : Loops R := fun id _ st k => bif Nat.beq id 0 then loopAt hp34_0 e34_0 q34_0 laws_markBundleS_r0 st k else none
noncomputable def laws_markBundleS (a0 : List R_iiiLiiisE) (k1 : Int) : Option (Int × (List R_iiiLiiisE) × Unit) :=
  outK (loopV laws_markBundleS_r0 (a0, k1, (0 : Int), ())) (fun y1 =>
    some (y1.2.1, y1.1, ())) (fun y2 =>
    none)
noncomputable def x34 (x : (List R_iiiLiiisE) × Int × Unit) : Option (Int × (List R_iiiLiiisE) × Unit) := laws_markBundleS x.1 x.2.1
noncomputable def sem34 : Sem1 := semOf ps34 rs34 x34
theorem so34 : SemsOk Try.prog (semsOf sl34) := sems_cons k35 (sems_nil)
noncomputable def b34_0 : Code := nthLoop code34 0
theorem t34_r0_eq (x : denR (headRT hp34_0)) : codeK (tabOf tr) (semsOf sl34) D34 L34 b34_0 (headSt hp34_0 x) (roundK 0 hp34_0 e34_0 q34_0) = laws_markBundleS_r0 x := by kernel_rfl
theorem loop34_0 {R : Type} (r : R) (w0 : World) (mu : Mu) (hs : AnShape ps34 mu) : LoopAt Try.prog w0 mu 41 (L34 : Loops R) r 0 b34_0 :=
  loop_auto tr_ok eq_ok mixed_ok so34 (D := D34) hs (by kernel_rfl) (fun _ => (loops_of (l := []) (by kernel_rfl) (List.forall_mem_nil _))) t34_r0_eq (fun _ _ => rfl)
theorem t34_eq (x : denR (headRT (ps34.map some))) : codeK (tabOf tr) (semsOf sl34) D34 L34 code34 (start 41 ps34 x) (finK rs34 ps34) = x34 x := by kernel_rfl
theorem k34 : Known Try.prog 34 sem34 :=
  fn_auto tr_ok eq_ok mixed_ok so34 (D := D34) (code := code34) (n := 41) Try.func34 (by kernel_rfl) (by kernel_rfl) (by kernel_rfl) (fun w0 mu _ hs => (loops_of (l := [(0, b34_0)]) (by kernel_rfl) (List.forall_mem_cons.2 ⟨loop34_0 _ w0 mu hs, (List.forall_mem_nil _)⟩))) t34_eq

/-! ### f93: laws.markEventS -/
noncomputable def code93 : Code := match Try.f93.body with | some c => c | none => .skip
def ps93 : List AP := [.io T_iiLiEiiisLiE .dp, .val false [.int .i64]]
def rs93 : List RP := [{ src := .tmp 4, agg := false, ps := [.int .i64] }]
noncomputable def sl93 : SemL := [(75, (.io, .shr, .shr, sem75)), (107, (.shr, .shr, .shr, sem107))]
def D93 : Draws := fun _ => .nil
def hp93_0 : List (Option AP) := [some (.io T_iiLiEiiisLiE .dp), some (.val false [.int .i64]), none, none, none, some (.val false [.int .i64]), none, none, none, none, none, none, none, none, none, none, none, none, none, none, none, none, none, none, none, none, none, none, none, none, none, none, none, none, none, none, none, none, none, none, none, none, none, none, none, none, none, none, none, none, none, none, none, none, none, none, none, none, none, none, none, none, none, none, none, none, none, none, none, none, none, none, none, none, none, none, none]
def e93_0 : List (Option AP) := [some (.io T_iiLiEiiisLiE .dp), some (.val false [.int .i64]), none, none, none, none, none, none, none, none, none, none, none, none, none, none, none, none, none, none, none, none, none, none, none, none, none, none, none, none, none, none, none, none, none, none, none, none, none, none, none, none, none, none, none, none, none, none, none, none, none, none, none, none, none, none, none, none, none, none, none, none, none, none, none, none, none, none, none, none, none, none, none, none, none, none, none]
def q93_0 : List (Option AP) := [none, none, none, none, none, none, none, none, none, none, none, none, none, none, none, none, none, none, none, none, none, none, none, none, none, none, none, none, none, none, none, none, none, none, none, none, none, none, none, none, none, none, none, none, none, none, none, none, none, none, none, none, none, none, none, none, none, none, none, none, none, none, none, none, none, none, none, none, none, none, none, none, none, none, none, none, none]
abbrev H93_0 : Type := (List R_iiLiEiiisLiE) × Int × Int × Unit
abbrev E93_0 : Type := (List R_iiLiEiiisLiE) × Int × Unit
abbrev Q93_0 : Type := Unit
noncomputable def laws_markEventS_c0 (a0 : List R_iiLiEiiisLiE) (k1 : Int) (i5 : Int) : Option (Sum H93_0 (Sum E93_0 Q93_0)) :=
  bif decide (i5 < ((List.length a0 : Nat) : Int)) then
    bif decide ((0 : Int) ≤ i5) then bif Nat.blt (Int.toNat i5) (List.length a0) then Option.bind ((a0)[Int.toNat i5]?) fun r1 =>
        bif decide ((0 : Int) ≤ i5) then bif Nat.blt (Int.toNat i5) (List.length (List.set a0 (Int.toNat i5) (k1, r1.2.1, r1.2.2.1, r1.2.2.2.1, r1.2.2.2.2.1, r1.2.2.2.2.2.1, r1.2.2.2.2.2.2.1, r1.2.2.2.2.2.2.2.1, ()))) then Option.bind ((List.set a0 (Int.toNat i5) (k1, r1.2.1, r1.2.2.1, r1.2.2.2.1, r1.2.2.2.2.1, r1.2.2.2.2.2.1, r1.2.2.2.2.2.2.1, r1.2.2.2.2.2.2.2.1, ()))[Int.toNat i5]?) fun r2 =>
            bif decide ((0 : Int) ≤ i5) then bif Nat.blt (Int.toNat i5) (List.length (List.set (List.set a0 (Int.toNat i5) (k1, r1.2.1, r1.2.2.1, r1.2.2.2.1, r1.2.2.2.2.1, r1.2.2.2.2.2.1, r1.2.2.2.2.2.2.1, r1.2.2.2.2.2.2.2.1, ())) (Int.toNat i5) (r2.1, IntKind.i64.wrap (k1 + (1 : Int)), r2.2.2.1, r2.2.2.2.1, r2.2.2.2.2.1, r2.2.2.2.2.2.1, r2.2.2.2.2.2.2.1, r2.2.2.2.2.2.2.2.1, ()))) then Option.bind ((List.set (List.set a0 (Int.toNat i5) (k1, r1.2.1, r1.2.2.1, r1.2.2.2.1, r1.2.2.2.2.1, r1.2.2.2.2.2.1, r1.2.2.2.2.2.2.1, r1.2.2.2.2.2.2.2.1, ())) (Int.toNat i5) (r2.1, IntKind.i64.wrap (k1 + (1 : Int)), r2.2.2.1, r2.2.2.2.1, r2.2.2.2.2.1, r2.2.2.2.2.2.1, r2.2.2.2.2.2.2.1, r2.2.2.2.2.2.2.2.1, ()))[Int.toNat i5]?) fun r3 =>
                Option.bind (laws_markIntS r3.2.2.1 (IntKind.i64.wrap ((IntKind.i64.wrap (k1 + (1 : Int))) + (1 : Int)))) fun y4 =>
                Option.bind ((List.set (List.set a0 (Int.toNat i5) (k1, r1.2.1, r1.2.2.1, r1.2.2.2.1, r1.2.2.2.2.1, r1.2.2.2.2.2.1, r1.2.2.2.2.2.2.1, r1.2.2.2.2.2.2.2.1, ())) (Int.toNat i5) (r2.1, IntKind.i64.wrap (k1 + (1 : Int)), r2.2.2.1, r2.2.2.2.1, r2.2.2.2.2.1, r2.2.2.2.2.2.1, r2.2.2.2.2.2.2.1, r2.2.2.2.2.2.2.2.1, ()))[Int.toNat i5]?) fun r5 =>
                bif decide ((0 : Int) ≤ i5) then bif Nat.blt (Int.toNat i5) (List.length (List.set (List.set (List.set a0 (Int.toNat i5) (k1, r1.2.1, r1.2.2.1, r1.2.2.2.1, r1.2.2.2.2.1, r1.2.2.2.2.2.1, r1.2.2.2.2.2.2.1, r1.2.2.2.2.2.2.2.1, ())) (Int.toNat i5) (r2.1, IntKind.i64.wrap (k1 + (1 : Int)), r2.2.2.1, r2.2.2.2.1, r2.2.2.2.2.1, r2.2.2.2.2.2.1, r2.2.2.2.2.2.2.1, r2.2.2.2.2.2.2.2.1, ())) (Int.toNat i5) (r5.1, r5.2.1, y4.2.1, r5.2.2.2.1, r5.2.2.2.2.1, r5.2.2.2.2.2.1, r5.2.2.2.2.2.2.1, r5.2.2.2.2.2.2.2.1, ()))) then Option.bind ((List.set (List.set (List.set a0 (Int.toNat i5) (k1, r1.2.1, r1.2.2.1, r1.2.2.2.1, r1.2.2.2.2.1, r1.2.2.2.2.2.1, r1.2.2.2.2.2.2.1, r1.2.2.2.2.2.2.2.1, ())) (Int.toNat i5) (r2.1, IntKind.i64.wrap (k1 + (1 : Int)), r2.2.2.1, r2.2.2.2.1, r2.2.2.2.2.1, r2.2.2.2.2.2.1, r2.2.2.2.2.2.2.1, r2.2.2.2.2.2.2.2.1, ())) (Int.toNat i5) (r5.1, r5.2.1, y4.2.1, r5.2.2.2.1, r5.2.2.2.2.1, r5.2.2.2.2.2.1, r5.2.2.2.2.2.2.1, r5.2.2.2.2.2.2.2.1, ()))[Int.toNat i5]?) fun r6 =>
                    bif decide ((0 : Int) ≤ i5) then bif Nat.blt (Int.toNat i5) (List.length (List.set (List.set (List.set (List.set a0 (Int.toNat i5) (k1, r1.2.1, r1.2.2.1, r1.2.2.2.1, r1.2.2.2.2.1, r1.2.2.2.2.2.1, r1.2.2.2.2.2.2.1, r1.2.2.2.2.2.2.2.1, ())) (Int.toNat i5) (r2.1, IntKind.i64.wrap (k1 + (1 : Int)), r2.2.2.1, r2.2.2.2.1, r2.2.2.2.2.1, r2.2.2.2.2.2.1, r2.2.2.2.2.2.2.1, r2.2.2.2.2.2.2.2.1, ())) (Int.toNat i5) (r5.1, r5.2.1, y4.2.1, r5.2.2.2.1, r5.2.2.2.2.1, r5.2.2.2.2.2.1, r5.2.2.2.2.2.2.1, r5.2.2.2.2.2.2.2.1, ())) (Int.toNat i5) (r6.1, r6.2.1, r6.2.2.1, y4.1, r6.2.2.2.2.1, r6.2.2.2.2.2.1, r6.2.2.2.2.2.2.1, r6.2.2.2.2.2.2.2.1, ()))) then Option.bind ((List.set (List.set (List.set (List.set a0 (Int.toNat i5) (k1, r1.2.1, r1.2.2.1, r1.2.2.2.1, r1.2.2.2.2.1, r1.2.2.2.2.2.1, r1.2.2.2.2.2.2.1, r1.2.2.2.2.2.2.2.1, ())) (Int.toNat i5) (r2.1, IntKind.i64.wrap (k1 + (1 : Int)), r2.2.2.1, r2.2.2.2.1, r2.2.2.2.2.1, r2.2.2.2.2.2.1, r2.2.2.2.2.2.2.1, r2.2.2.2.2.2.2.2.1, ())) (Int.toNat i5) (r5.1, r5.2.1, y4.2.1, r5.2.2.2.1, r5.2.2.2.2.1, r5.2.2.2.2.2.1, r5.2.2.2.2.2.2.1, r5.2.2.2.2.2.2.2.1, ())) (Int.toNat i5) (r6.1, r6.2.1, r6.2.2.1, y4.1, r6.2.2.2.2.1, r6.2.2.2.2.2.1, r6.2.2.2.2.2.2.1, r6.2.2.2.2.2.2.2.1, ()))[Int.toNat i5]?) fun r7 =>
                        (fun l8 : List (Int × Int × (List (Int × Unit)) × Int × Int × Int × ByteArray × (List (Int × Unit)) × Unit) =>
                        bif decide ((0 : Int) ≤ i5) then bif Nat.blt (Int.toNat i5) (List.length l8) then Option.bind ((l8)[Int.toNat i5]?) fun r9 =>
                            Option.bind (laws_markText (IntKind.i64.wrap ((IntKind.i64.wrap ((IntKind.i64.wrap (y4.1 + (1 : Int))) + (1 : Int))) + (1 : Int)))) fun y10 =>
                            bif decide ((0 : Int) ≤ i5) then bif Nat.blt (Int.toNat i5) (List.length (List.set l8 (Int.toNat i5) (r9.1, r9.2.1, r9.2.2.1, r9.2.2.2.1, r9.2.2.2.2.1, IntKind.i64.wrap ((IntKind.i64.wrap (y4.1 + (1 : Int))) + (1 : Int)), r9.2.2.2.2.2.2.1, r9.2.2.2.2.2.2.2.1, ()))) then Option.bind ((List.set l8 (Int.toNat i5) (r9.1, r9.2.1, r9.2.2.1, r9.2.2.2.1, r9.2.2.2.2.1, IntKind.i64.wrap ((IntKind.i64.wrap (y4.1 + (1 : Int))) + (1 : Int)), r9.2.2.2.2.2.2.1, r9.2.2.2.2.2.2.2.1, ()))[Int.toNat i5]?) fun r11 =>
                                bif decide ((0 : Int) ≤ i5) then bif Nat.blt (Int.toNat i5) (List.length (List.set (List.set l8 (Int.toNat i5) (r9.1, r9.2.1, r9.2.2.1, r9.2.2.2.1, r9.2.2.2.2.1, IntKind.i64.wrap ((IntKind.i64.wrap (y4.1 + (1 : Int))) + (1 : Int)), r9.2.2.2.2.2.2.1, r9.2.2.2.2.2.2.2.1, ())) (Int.toNat i5) (r11.1, r11.2.1, r11.2.2.1, r11.2.2.2.1, r11.2.2.2.2.1, r11.2.2.2.2.2.1, y10.1, r11.2.2.2.2.2.2.2.1, ()))) then Option.bind ((List.set (List.set l8 (Int.toNat i5) (r9.1, r9.2.1, r9.2.2.1, r9.2.2.2.1, r9.2.2.2.2.1, IntKind.i64.wrap ((IntKind.i64.wrap (y4.1 + (1 : Int))) + (1 : Int)), r9.2.2.2.2.2.2.1, r9.2.2.2.2.2.2.2.1, ())) (Int.toNat i5) (r11.1, r11.2.1, r11.2.2.1, r11.2.2.2.1, r11.2.2.2.2.1, r11.2.2.2.2.2.1, y10.1, r11.2.2.2.2.2.2.2.1, ()))[Int.toNat i5]?) fun r12 =>
                                    Option.bind (laws_markIntS r12.2.2.2.2.2.2.2.1 (IntKind.i64.wrap ((IntKind.i64.wrap ((IntKind.i64.wrap ((IntKind.i64.wrap (y4.1 + (1 : Int))) + (1 : Int))) + (1 : Int))) + (1 : Int)))) fun y13 =>
                                    Option.bind ((List.set (List.set l8 (Int.toNat i5) (r9.1, r9.2.1, r9.2.2.1, r9.2.2.2.1, r9.2.2.2.2.1, IntKind.i64.wrap ((IntKind.i64.wrap (y4.1 + (1 : Int))) + (1 : Int)), r9.2.2.2.2.2.2.1, r9.2.2.2.2.2.2.2.1, ())) (Int.toNat i5) (r11.1, r11.2.1, r11.2.2.1, r11.2.2.2.1, r11.2.2.2.2.1, r11.2.2.2.2.2.1, y10.1, r11.2.2.2.2.2.2.2.1, ()))[Int.toNat i5]?) fun r14 =>
                                    some (.inl (List.set (List.set (List.set l8 (Int.toNat i5) (r9.1, r9.2.1, r9.2.2.1, r9.2.2.2.1, r9.2.2.2.2.1, IntKind.i64.wrap ((IntKind.i64.wrap (y4.1 + (1 : Int))) + (1 : Int)), r9.2.2.2.2.2.2.1, r9.2.2.2.2.2.2.2.1, ())) (Int.toNat i5) (r11.1, r11.2.1, r11.2.2.1, r11.2.2.2.1, r11.2.2.2.2.1, r11.2.2.2.2.2.1, y10.1, r11.2.2.2.2.2.2.2.1, ())) (Int.toNat i5) (r14.1, r14.2.1, r14.2.2.1, r14.2.2.2.1, r14.2.2.2.2.1, r14.2.2.2.2.2.1, r14.2.2.2.2.2.2.1, y13.2.1, ()), y13.1, IntKind.i64.wrap (i5 + (1 : Int)), ()))
                                  else none
                                else none
                              else none
                            else none
                          else none
                        else none) (List.set (List.set (List.set (List.set (List.set a0 (Int.toNat i5) (k1, r1.2.1, r1.2.2.1, r1.2.2.2.1, r1.2.2.2.2.1, r1.2.2.2.2.2.1, r1.2.2.2.2.2.2.1, r1.2.2.2.2.2.2.2.1, ())) (Int.toNat i5) (r2.1, IntKind.i64.wrap (k1 + (1 : Int)), r2.2.2.1, r2.2.2.2.1, r2.2.2.2.2.1, r2.2.2.2.2.2.1, r2.2.2.2.2.2.2.1, r2.2.2.2.2.2.2.2.1, ())) (Int.toNat i5) (r5.1, r5.2.1, y4.2.1, r5.2.2.2.1, r5.2.2.2.2.1, r5.2.2.2.2.2.1, r5.2.2.2.2.2.2.1, r5.2.2.2.2.2.2.2.1, ())) (Int.toNat i5) (r6.1, r6.2.1, r6.2.2.1, y4.1, r6.2.2.2.2.1, r6.2.2.2.2.2.1, r6.2.2.2.2.2.2.1, r6.2.2.2.2.2.2.2.1, ())) (Int.toNat i5) (r7.1, r7.2.1, r7.2.2.1, r7.2.2.2.1, IntKind.i64.wrap (y4.1 + (1 : Int)), r7.2.2.2.2.2.1, r7.2.2.2.2.2.2.1, r7.2.2.2.2.2.2.2.1, ()))
                      else none
                    else none
                  else none
                else none
              else none
            else none
          else none
        else none
      else none
    else none
  else
    some (.inr (.inl (a0, k1, ())))
noncomputable def laws_markEventS_r0 (x : H93_0) : Option (Sum H93_0 (Sum E93_0 Q93_0)) := laws_markEventS_c0 x.1 x.2.1 x.2.2.1
noncomputable def L93 {R : Type} : Loops R := fun id _ st k => bif Nat.beq id 0 then loopAt hp93_0 e93_0 q93_0 laws_markEventS_r0 st k else none
noncomputable def laws_markEventS (a0 : List R_iiLiEiiisLiE) (k1 : Int) : Option (Int × (List R_iiLiEiiisLiE) × Unit) :=
  outK (loopV laws_markEventS_r0 (a0, k1, (0 : Int), ())) (fun y1 =>
    some (y1.2.1, y1.1, ())) (fun y2 =>
    none)
noncomputable def x93 (x : (List R_iiLiEiiisLiE) × Int × Unit) : Option (Int × (List R_iiLiEiiisLiE) × Unit) := laws_markEventS x.1 x.2.1
noncomputable def sem93 : Sem1 := semOf ps93 rs93 x93
theorem so93 : SemsOk Try.prog (semsOf sl93) := sems_cons k75 (sems_cons k107 (sems_nil))
noncomputable def b93_0 : Code := nthLoop code93 0
theorem t93_r0_eq (x : denR (headRT hp93_0)) : codeK (tabOf tr) (semsOf sl93) D93 L93 b93_0 (headSt hp93_0 x) (roundK 0 hp93_0 e93_0 q93_0) = laws_markEventS_r0 x := by kernel_rfl
theorem loop93_0 {R : Type} (r : R) (w0 : World) (mu : Mu) (hs : AnShape ps93 mu) : LoopAt Try.prog w0 mu 76 (L93 : Loops R) r 0 b93_0 :=
  loop_auto tr_ok eq_ok mixed_ok so93 (D := D93) hs (by kernel_rfl) (fun _ => (loops_of (l := []) (by kernel_rfl) (List.forall_mem_nil _))) t93_r0_eq (fun _ _ => rfl)
theorem t93_eq (x : denR (headRT (ps93.map some))) : codeK (tabOf tr) (semsOf sl93) D93 L93 code93 (start 76 ps93 x) (finK rs93 ps93) = x93 x := by kernel_rfl
theorem k93 : Known Try.prog 93 sem93 :=
  fn_auto tr_ok eq_ok mixed_ok so93 (D := D93) (code := code93) (n := 76) Try.func93 (by kernel_rfl) (by kernel_rfl) (by kernel_rfl) (fun w0 mu _ hs => (loops_of (l := [(0, b93_0)]) (by kernel_rfl) (List.forall_mem_cons.2 ⟨loop93_0 _ w0 mu hs, (List.forall_mem_nil _)⟩))) t93_eq

/-! ### f91: laws.markDaemonS -/
noncomputable def code91 : Code := match Try.f91.body with | some c => c | none => .skip
def ps91 : List AP := [.io T_ibiiLiELiiisELiELsEiiiiiiiiiLiEiiiLiELiiiLiiisEELiiLiEiiisLiEE .dp, .val false [.int .i64]]
def rs91 : List RP := [{ src := .tmp 4, agg := false, ps := [.int .i64] }]
noncomputable def sl91 : SemL := [(75, (.io, .shr, .shr, sem75)), (35, (.io, .shr, .shr, sem35)), (142, (.io, .shr, .shr, sem142)), (34, (.io, .shr, .shr, sem34)), (93, (.io, .shr, .shr, sem93))]
def D91 : Draws := fun _ => .nil
def hp91_0 : List (Option AP) := [some (.io T_ibiiLiELiiisELiELsEiiiiiiiiiLiEiiiLiELiiiLiiisEELiiLiEiiisLiEE .dp), some (.val false [.int .i64]), none, none, none, some (.val false [.int .i64]), none, none, none, none, none, none, none, none, none, none, none, none, none, none, none, none, none, none, none, none, none, none, none, none, none, none, none, none, none, none, none, none, none, none, none, none, none, none, none, none, none, none, none, none, none, none, none, none, none, none, none, none, none, none, none, none, none, none, none, none, none, none, none, none, none, none, none, none, none, none, none, none, none, none, none, none, none, none, none, none, none, none, none, none, none, none, none, none, none, none, none, none, none, none, none, none, none, none, none, none, none, none, none, none, none, none, none, none, none, none, none, none, none, none, none, none, none, none, none, none, none, none, none, none, none, none, none, none, none, none, none, none, none, none, none, none, none, none, none, none, none, none, none, none, none, none, none, none, none, none, none, none, none, none, none, none, none, none, none, none, none, none, none, none, none, none, none, none, none, none, none, none, none, none, none, none, none, none, none, none, none, none, none, none, none, none, none, none, none, none, none, none, none, none, none, none, none, none, none, none, none, none, none, none]
def e91_0 : List (Option AP) := [some (.io T_ibiiLiELiiisELiELsEiiiiiiiiiLiEiiiLiELiiiLiiisEELiiLiEiiisLiEE .dp), some (.val false [.int .i64]), none, none, none, none, none, none, none, none, none, none, none, none, none, none, none, none, none, none, none, none, none, none, none, none, none, none, none, none, none, none, none, none, none, none, none, none, none, none, none, none, none, none, none, none, none, none, none, none, none, none, none, none, none, none, none, none, none, none, none, none, none, none, none, none, none, none, none, none, none, none, none, none, none, none, none, none, none, none, none, none, none, none, none, none, none, none, none, none, none, none, none, none, none, none, none, none, none, none, none, none, none, none, none, none, none, none, none, none, none, none, none, none, none, none, none, none, none, none, none, none, none, none, none, none, none, none, none, none, none, none, none, none, none, none, none, none, none, none, none, none, none, none, none, none, none, none, none, none, none, none, none, none, none, none, none, none, none, none, none, none, none, none, none, none, none, none, none, none, none, none, none, none, none, none, none, none, none, none, none, none, none, none, none, none, none, none, none, none, none, none, none, none, none, none, none, none, none, none, none, none, none, none, none, none, none, none, none, none]
def q91_0 : List (Option AP) := [none, none, none, none, none, none, none, none, none, none, none, none, none, none, none, none, none, none, none, none, none, none, none, none, none, none, none, none, none, none, none, none, none, none, none, none, none, none, none, none, none, none, none, none, none, none, none, none, none, none, none, none, none, none, none, none, none, none, none, none, none, none, none, none, none, none, none, none, none, none, none, none, none, none, none, none, none, none, none, none, none, none, none, none, none, none, none, none, none, none, none, none, none, none, none, none, none, none, none, none, none, none, none, none, none, none, none, none, none, none, none, none, none, none, none, none, none, none, none, none, none, none, none, none, none, none, none, none, none, none, none, none, none, none, none, none, none, none, none, none, none, none, none, none, none, none, none, none, none, none, none, none, none, none, none, none, none, none, none, none, none, none, none, none, none, none, none, none, none, none, none, none, none, none, none, none, none, none, none, none, none, none, none, none, none, none, none, none, none, none, none, none, none, none, none, none, none, none, none, none, none, none, none, none, none, none, none, none, none, none]
abbrev H91_0 : Type := (List R_ibiiLiELiiisELiELsEiiiiiiiiiLiEiiiLiELiiiLiiisEELiiLiEiiisLiEE) × Int × Int × Unit
abbrev E91_0 : Type := (List R_ibiiLiELiiisELiELsEiiiiiiiiiLiEiiiLiELiiiLiiisEELiiLiEiiisLiEE) × Int × Unit
abbrev Q91_0 : Type := Unit
noncomputable def laws_markDaemonS_c0 (a0 : List R_ibiiLiELiiisELiELsEiiiiiiiiiLiEiiiLiELiiiLiiisEELiiLiEiiisLiEE) (k1 : Int) (i5 : Int) : Option (Sum H91_0 (Sum E91_0 Q91_0)) :=
  bif decide (i5 < ((List.length a0 : Nat) : Int)) then
    bif decide ((0 : Int) ≤ i5) then bif Nat.blt (Int.toNat i5) (List.length a0) then Option.bind ((a0)[Int.toNat i5]?) fun r1 =>
        (fun l2 : List (Int × Bool × Int × Int × (List (Int × Unit)) × (List R_iiis) × (List (Int × Unit)) × (List (ByteArray × Unit)) × Int × Int × Int × Int × Int × Int × Int × Int × Int × (List (Int × Unit)) × Int × Int × Int × (List (Int × Unit)) × (List R_iiiLiiisE) × (List R_iiLiEiiisLiE) × Unit) =>
        bif decide ((0 : Int) ≤ i5) then bif Nat.blt (Int.toNat i5) (List.length l2) then Option.bind ((l2)[Int.toNat i5]?) fun r3 =>
            (fun l4 : List (Int × Bool × Int × Int × (List (Int × Unit)) × (List R_iiis) × (List (Int × Unit)) × (List (ByteArray × Unit)) × Int × Int × Int × Int × Int × Int × Int × Int × Int × (List (Int × Unit)) × Int × Int × Int × (List (Int × Unit)) × (List R_iiiLiiisE) × (List R_iiLiEiiisLiE) × Unit) =>
            bif decide ((0 : Int) ≤ i5) then bif Nat.blt (Int.toNat i5) (List.length l4) then Option.bind ((l4)[Int.toNat i5]?) fun r5 =>
                (fun l6 : List (Int × Bool × Int × Int × (List (Int × Unit)) × (List R_iiis) × (List (Int × Unit)) × (List (ByteArray × Unit)) × Int × Int × Int × Int × Int × Int × Int × Int × Int × (List (Int × Unit)) × Int × Int × Int × (List (Int × Unit)) × (List R_iiiLiiisE) × (List R_iiLiEiiisLiE) × Unit) =>
                bif decide ((0 : Int) ≤ i5) then bif Nat.blt (Int.toNat i5) (List.length l6) then Option.bind ((l6)[Int.toNat i5]?) fun r7 =>
                    (fun l8 : List (Int × Bool × Int × Int × (List (Int × Unit)) × (List R_iiis) × (List (Int × Unit)) × (List (ByteArray × Unit)) × Int × Int × Int × Int × Int × Int × Int × Int × Int × (List (Int × Unit)) × Int × Int × Int × (List (Int × Unit)) × (List R_iiiLiiisE) × (List R_iiLiEiiisLiE) × Unit) =>
                    bif decide ((0 : Int) ≤ i5) then bif Nat.blt (Int.toNat i5) (List.length l8) then Option.bind ((l8)[Int.toNat i5]?) fun r9 =>
                        Option.bind (laws_markIntS r9.2.2.2.2.1 (IntKind.i64.wrap ((IntKind.i64.wrap ((IntKind.i64.wrap ((IntKind.i64.wrap (k1 + (1 : Int))) + (1 : Int))) + (1 : Int))) + (1 : Int)))) fun y10 =>
                        Option.bind ((l8)[Int.toNat i5]?) fun r11 =>
                        (fun l12 : List (Int × Bool × Int × Int × (List (Int × Unit)) × (List R_iiis) × (List (Int × Unit)) × (List (ByteArray × Unit)) × Int × Int × Int × Int × Int × Int × Int × Int × Int × (List (Int × Unit)) × Int × Int × Int × (List (Int × Unit)) × (List R_iiiLiiisE) × (List R_iiLiEiiisLiE) × Unit) =>
                        bif decide ((0 : Int) ≤ i5) then bif Nat.blt (Int.toNat i5) (List.length l12) then Option.bind ((l12)[Int.toNat i5]?) fun r13 =>
                            Option.bind (laws_markItemS r13.2.2.2.2.2.1 y10.1) fun y14 =>
                            Option.bind ((l12)[Int.toNat i5]?) fun r15 =>
                            (fun l16 : List (Int × Bool × Int × Int × (List (Int × Unit)) × (List R_iiis) × (List (Int × Unit)) × (List (ByteArray × Unit)) × Int × Int × Int × Int × Int × Int × Int × Int × Int × (List (Int × Unit)) × Int × Int × Int × (List (Int × Unit)) × (List R_iiiLiiisE) × (List R_iiLiEiiisLiE) × Unit) =>
                            bif decide ((0 : Int) ≤ i5) then bif Nat.blt (Int.toNat i5) (List.length l16) then Option.bind ((l16)[Int.toNat i5]?) fun r17 =>
                                Option.bind (laws_markIntS r17.2.2.2.2.2.2.1 y14.1) fun y18 =>
                                Option.bind ((l16)[Int.toNat i5]?) fun r19 =>
                                (fun l20 : List (Int × Bool × Int × Int × (List (Int × Unit)) × (List R_iiis) × (List (Int × Unit)) × (List (ByteArray × Unit)) × Int × Int × Int × Int × Int × Int × Int × Int × Int × (List (Int × Unit)) × Int × Int × Int × (List (Int × Unit)) × (List R_iiiLiiisE) × (List R_iiLiEiiisLiE) × Unit) =>
                                bif decide ((0 : Int) ≤ i5) then bif Nat.blt (Int.toNat i5) (List.length l20) then Option.bind ((l20)[Int.toNat i5]?) fun r21 =>
                                    Option.bind (laws_markStringS r21.2.2.2.2.2.2.2.1 y18.1) fun y22 =>
                                    Option.bind ((l20)[Int.toNat i5]?) fun r23 =>
                                    (fun l24 : List (Int × Bool × Int × Int × (List (Int × Unit)) × (List R_iiis) × (List (Int × Unit)) × (List (ByteArray × Unit)) × Int × Int × Int × Int × Int × Int × Int × Int × Int × (List (Int × Unit)) × Int × Int × Int × (List (Int × Unit)) × (List R_iiiLiiisE) × (List R_iiLiEiiisLiE) × Unit) =>
                                    bif decide ((0 : Int) ≤ i5) then bif Nat.blt (Int.toNat i5) (List.length l24) then Option.bind ((l24)[Int.toNat i5]?) fun r25 =>
                                        (fun l26 : List (Int × Bool × Int × Int × (List (Int × Unit)) × (List R_iiis) × (List (Int × Unit)) × (List (ByteArray × Unit)) × Int × Int × Int × Int × Int × Int × Int × Int × Int × (List (Int × Unit)) × Int × Int × Int × (List (Int × Unit)) × (List R_iiiLiiisE) × (List R_iiLiEiiisLiE) × Unit) =>
                                        bif decide ((0 : Int) ≤ i5) then bif Nat.blt (Int.toNat i5) (List.length l26) then Option.bind ((l26)[Int.toNat i5]?) fun r27 =>
                                            (fun l28 : List (Int × Bool × Int × Int × (List (Int × Unit)) × (List R_iiis) × (List (Int × Unit)) × (List (ByteArray × Unit)) × Int × Int × Int × Int × Int × Int × Int × Int × Int × (List (Int × Unit)) × Int × Int × Int × (List (Int × Unit)) × (List R_iiiLiiisE) × (List R_iiLiEiiisLiE) × Unit) =>
                                            bif decide ((0 : Int) ≤ i5) then bif Nat.blt (Int.toNat i5) (List.length l28) then Option.bind ((l28)[Int.toNat i5]?) fun r29 =>
                                                (fun l30 : List (Int × Bool × Int × Int × (List (Int × Unit)) × (List R_iiis) × (List (Int × Unit)) × (List (ByteArray × Unit)) × Int × Int × Int × Int × Int × Int × Int × Int × Int × (List (Int × Unit)) × Int × Int × Int × (List (Int × Unit)) × (List R_iiiLiiisE) × (List R_iiLiEiiisLiE) × Unit) =>
                                                bif decide ((0 : Int) ≤ i5) then bif Nat.blt (Int.toNat i5) (List.length l30) then Option.bind ((l30)[Int.toNat i5]?) fun r31 =>
                                                    (fun l32 : List (Int × Bool × Int × Int × (List (Int × Unit)) × (List R_iiis) × (List (Int × Unit)) × (List (ByteArray × Unit)) × Int × Int × Int × Int × Int × Int × Int × Int × Int × (List (Int × Unit)) × Int × Int × Int × (List (Int × Unit)) × (List R_iiiLiiisE) × (List R_iiLiEiiisLiE) × Unit) =>
                                                    bif decide ((0 : Int) ≤ i5) then bif Nat.blt (Int.toNat i5) (List.length l32) then Option.bind ((l32)[Int.toNat i5]?) fun r33 =>
                                                        (fun l34 : List (Int × Bool × Int × Int × (List (Int × Unit)) × (List R_iiis) × (List (Int × Unit)) × (List (ByteArray × Unit)) × Int × Int × Int × Int × Int × Int × Int × Int × Int × (List (Int × Unit)) × Int × Int × Int × (List (Int × Unit)) × (List R_iiiLiiisE) × (List R_iiLiEiiisLiE) × Unit) =>
                                                        bif decide ((0 : Int) ≤ i5) then bif Nat.blt (Int.toNat i5) (List.length l34) then Option.bind ((l34)[Int.toNat i5]?) fun r35 =>
                                                            (fun l36 : List (Int × Bool × Int × Int × (List (Int × Unit)) × (List R_iiis) × (List (Int × Unit)) × (List (ByteArray × Unit)) × Int × Int × Int × Int × Int × Int × Int × Int × Int × (List (Int × Unit)) × Int × Int × Int × (List (Int × Unit)) × (List R_iiiLiiisE) × (List R_iiLiEiiisLiE) × Unit) =>
                                                            bif decide ((0 : Int) ≤ i5) then bif Nat.blt (Int.toNat i5) (List.length l36) then Option.bind ((l36)[Int.toNat i5]?) fun r37 =>
                                                                (fun l38 : List (Int × Bool × Int × Int × (List (Int × Unit)) × (List R_iiis) × (List (Int × Unit)) × (List (ByteArray × Unit)) × Int × Int × Int × Int × Int × Int × Int × Int × Int × (List (Int × Unit)) × Int × Int × Int × (List (Int × Unit)) × (List R_iiiLiiisE) × (List R_iiLiEiiisLiE) × Unit) =>
                                                                bif decide ((0 : Int) ≤ i5) then bif Nat.blt (Int.toNat i5) (List.length l38) then Option.bind ((l38)[Int.toNat i5]?) fun r39 =>
                                                                    (fun l40 : List (Int × Bool × Int × Int × (List (Int × Unit)) × (List R_iiis) × (List (Int × Unit)) × (List (ByteArray × Unit)) × Int × Int × Int × Int × Int × Int × Int × Int × Int × (List (Int × Unit)) × Int × Int × Int × (List (Int × Unit)) × (List R_iiiLiiisE) × (List R_iiLiEiiisLiE) × Unit) =>
                                                                    bif decide ((0 : Int) ≤ i5) then bif Nat.blt (Int.toNat i5) (List.length l40) then Option.bind ((l40)[Int.toNat i5]?) fun r41 =>
                                                                        (fun l42 : List (Int × Bool × Int × Int × (List (Int × Unit)) × (List R_iiis) × (List (Int × Unit)) × (List (ByteArray × Unit)) × Int × Int × Int × Int × Int × Int × Int × Int × Int × (List (Int × Unit)) × Int × Int × Int × (List (Int × Unit)) × (List R_iiiLiiisE) × (List R_iiLiEiiisLiE) × Unit) =>
                                                                        bif decide ((0 : Int) ≤ i5) then bif Nat.blt (Int.toNat i5) (List.length l42) then Option.bind ((l42)[Int.toNat i5]?) fun r43 =>
                                                                            Option.bind (laws_markIntS r43.2.2.2.2.2.2.2.2.2.2.2.2.2.2.2.2.2.1 (IntKind.i64.wrap ((IntKind.i64.wrap ((IntKind.i64.wrap ((IntKind.i64.wrap ((IntKind.i64.wrap ((IntKind.i64.wrap ((IntKind.i64.wrap ((IntKind.i64.wrap ((IntKind.i64.wrap (y22.1 + (1 : Int))) + (1 : Int))) + (1 : Int))) + (1 : Int))) + (1 : Int))) + (1 : Int))) + (1 : Int))) + (1 : Int))) + (1 : Int)))) fun y44 =>
                                                                            Option.bind ((l42)[Int.toNat i5]?) fun r45 =>
                                                                            (fun l46 : List (Int × Bool × Int × Int × (List (Int × Unit)) × (List R_iiis) × (List (Int × Unit)) × (List (ByteArray × Unit)) × Int × Int × Int × Int × Int × Int × Int × Int × Int × (List (Int × Unit)) × Int × Int × Int × (List (Int × Unit)) × (List R_iiiLiiisE) × (List R_iiLiEiiisLiE) × Unit) =>
                                                                            bif decide ((0 : Int) ≤ i5) then bif Nat.blt (Int.toNat i5) (List.length l46) then Option.bind ((l46)[Int.toNat i5]?) fun r47 =>
                                                                                (fun l48 : List (Int × Bool × Int × Int × (List (Int × Unit)) × (List R_iiis) × (List (Int × Unit)) × (List (ByteArray × Unit)) × Int × Int × Int × Int × Int × Int × Int × Int × Int × (List (Int × Unit)) × Int × Int × Int × (List (Int × Unit)) × (List R_iiiLiiisE) × (List R_iiLiEiiisLiE) × Unit) =>
                                                                                bif decide ((0 : Int) ≤ i5) then bif Nat.blt (Int.toNat i5) (List.length l48) then Option.bind ((l48)[Int.toNat i5]?) fun r49 =>
                                                                                    (fun l50 : List (Int × Bool × Int × Int × (List (Int × Unit)) × (List R_iiis) × (List (Int × Unit)) × (List (ByteArray × Unit)) × Int × Int × Int × Int × Int × Int × Int × Int × Int × (List (Int × Unit)) × Int × Int × Int × (List (Int × Unit)) × (List R_iiiLiiisE) × (List R_iiLiEiiisLiE) × Unit) =>
                                                                                    bif decide ((0 : Int) ≤ i5) then bif Nat.blt (Int.toNat i5) (List.length l50) then Option.bind ((l50)[Int.toNat i5]?) fun r51 =>
                                                                                        (fun l52 : List (Int × Bool × Int × Int × (List (Int × Unit)) × (List R_iiis) × (List (Int × Unit)) × (List (ByteArray × Unit)) × Int × Int × Int × Int × Int × Int × Int × Int × Int × (List (Int × Unit)) × Int × Int × Int × (List (Int × Unit)) × (List R_iiiLiiisE) × (List R_iiLiEiiisLiE) × Unit) =>
                                                                                        bif decide ((0 : Int) ≤ i5) then bif Nat.blt (Int.toNat i5) (List.length l52) then Option.bind ((l52)[Int.toNat i5]?) fun r53 =>
                                                                                            Option.bind (laws_markIntS r53.2.2.2.2.2.2.2.2.2.2.2.2.2.2.2.2.2.2.2.2.2.1 (IntKind.i64.wrap ((IntKind.i64.wrap ((IntKind.i64.wrap (y44.1 + (1 : Int))) + (1 : Int))) + (1 : Int)))) fun y54 =>
                                                                                            Option.bind ((l52)[Int.toNat i5]?) fun r55 =>
                                                                                            (fun l56 : List (Int × Bool × Int × Int × (List (Int × Unit)) × (List R_iiis) × (List (Int × Unit)) × (List (ByteArray × Unit)) × Int × Int × Int × Int × Int × Int × Int × Int × Int × (List (Int × Unit)) × Int × Int × Int × (List (Int × Unit)) × (List R_iiiLiiisE) × (List R_iiLiEiiisLiE) × Unit) =>
                                                                                            bif decide ((0 : Int) ≤ i5) then bif Nat.blt (Int.toNat i5) (List.length l56) then Option.bind ((l56)[Int.toNat i5]?) fun r57 =>
                                                                                                Option.bind (laws_markBundleS r57.2.2.2.2.2.2.2.2.2.2.2.2.2.2.2.2.2.2.2.2.2.2.1 y54.1) fun y58 =>
                                                                                                Option.bind ((l56)[Int.toNat i5]?) fun r59 =>
                                                                                                (fun l60 : List (Int × Bool × Int × Int × (List (Int × Unit)) × (List R_iiis) × (List (Int × Unit)) × (List (ByteArray × Unit)) × Int × Int × Int × Int × Int × Int × Int × Int × Int × (List (Int × Unit)) × Int × Int × Int × (List (Int × Unit)) × (List R_iiiLiiisE) × (List R_iiLiEiiisLiE) × Unit) =>
                                                                                                bif decide ((0 : Int) ≤ i5) then bif Nat.blt (Int.toNat i5) (List.length l60) then Option.bind ((l60)[Int.toNat i5]?) fun r61 =>
                                                                                                    Option.bind (laws_markEventS r61.2.2.2.2.2.2.2.2.2.2.2.2.2.2.2.2.2.2.2.2.2.2.2.1 y58.1) fun y62 =>
                                                                                                    Option.bind ((l60)[Int.toNat i5]?) fun r63 =>
                                                                                                    (fun l64 : List (Int × Bool × Int × Int × (List (Int × Unit)) × (List R_iiis) × (List (Int × Unit)) × (List (ByteArray × Unit)) × Int × Int × Int × Int × Int × Int × Int × Int × Int × (List (Int × Unit)) × Int × Int × Int × (List (Int × Unit)) × (List R_iiiLiiisE) × (List R_iiLiEiiisLiE) × Unit) =>
                                                                                                    some (.inl (l64, y62.1, IntKind.i64.wrap (i5 + (1 : Int)), ()))) (List.set l60 (Int.toNat i5) (r63.1, r63.2.1, r63.2.2.1, r63.2.2.2.1, r63.2.2.2.2.1, r63.2.2.2.2.2.1, r63.2.2.2.2.2.2.1, r63.2.2.2.2.2.2.2.1, r63.2.2.2.2.2.2.2.2.1, r63.2.2.2.2.2.2.2.2.2.1, r63.2.2.2.2.2.2.2.2.2.2.1, r63.2.2.2.2.2.2.2.2.2.2.2.1, r63.2.2.2.2.2.2.2.2.2.2.2.2.1, r63.2.2.2.2.2.2.2.2.2.2.2.2.2.1, r63.2.2.2.2.2.2.2.2.2.2.2.2.2.2.1, r63.2.2.2.2.2.2.2.2.2.2.2.2.2.2.2.1, r63.2.2.2.2.2.2.2.2.2.2.2.2.2.2.2.2.1, r63.2.2.2.2.2.2.2.2.2.2.2.2.2.2.2.2.2.1, r63.2.2.2.2.2.2.2.2.2.2.2.2.2.2.2.2.2.2.1, r63.2.2.2.2.2.2.2.2.2.2.2.2.2.2.2.2.2.2.2.1, r63.2.2.2.2.2.2.2.2.2.2.2.2.2.2.2.2.2.2.2.2.1, r63.2.2.2.2.2.2.2.2.2.2.2.2.2.2.2.2.2.2.2.2.2.1, r63.2.2.2.2.2.2.2.2.2.2.2.2.2.2.2.2.2.2.2.2.2.2.1, y62.2.1, ()))
                                                                                                  else none
                                                                                                else none) (List.set l56 (Int.toNat i5) (r59.1, r59.2.1, r59.2.2.1, r59.2.2.2.1, r59.2.2.2.2.1, r59.2.2.2.2.2.1, r59.2.2.2.2.2.2.1, r59.2.2.2.2.2.2.2.1, r59.2.2.2.2.2.2.2.2.1, r59.2.2.2.2.2.2.2.2.2.1, r59.2.2.2.2.2.2.2.2.2.2.1, r59.2.2.2.2.2.2.2.2.2.2.2.1, r59.2.2.2.2.2.2.2.2.2.2.2.2.1, r59.2.2.2.2.2.2.2.2.2.2.2.2.2.1, r59.2.2.2.2.2.2.2.2.2.2.2.2.2.2.1, r59.2.2.2.2.2.2.2.2.2.2.2.2.2.2.2.1, r59.2.2.2.2.2.2.2.2.2.2.2.2.2.2.2.2.1, r59.2.2.2.2.2.2.2.2.2.2.2.2.2.2.2.2.2.1, r59.2.2.2.2.2.2.2.2.2.2.2.2.2.2.2.2.2.2.1, r59.2.2.2.2.2.2.2.2.2.2.2.2.2.2.2.2.2.2.2.1, r59.2.2.2.2.2.2.2.2.2.2.2.2.2.2.2.2.2.2.2.2.1, r59.2.2.2.2.2.2.2.2.2.2.2.2.2.2.2.2.2.2.2.2.2.1, y58.2.1, r59.2.2.2.2.2.2.2.2.2.2.2.2.2.2.2.2.2.2.2.2.2.2.2.1, ()))
                                                                                              else none
                                                                                            else none) (List.set l52 (Int.toNat i5) (r55.1, r55.2.1, r55.2.2.1, r55.2.2.2.1, r55.2.2.2.2.1, r55.2.2.2.2.2.1, r55.2.2.2.2.2.2.1, r55.2.2.2.2.2.2.2.1, r55.2.2.2.2.2.2.2.2.1, r55.2.2.2.2.2.2.2.2.2.1, r55.2.2.2.2.2.2.2.2.2.2.1, r55.2.2.2.2.2.2.2.2.2.2.2.1, r55.2.2.2.2.2.2.2.2.2.2.2.2.1, r55.2.2.2.2.2.2.2.2.2.2.2.2.2.1, r55.2.2.2.2.2.2.2.2.2.2.2.2.2.2.1, r55.2.2.2.2.2.2.2.2.2.2.2.2.2.2.2.1, r55.2.2.2.2.2.2.2.2.2.2.2.2.2.2.2.2.1, r55.2.2.2.2.2.2.2.2.2.2.2.2.2.2.2.2.2.1, r55.2.2.2.2.2.2.2.2.2.2.2.2.2.2.2.2.2.2.1, r55.2.2.2.2.2.2.2.2.2.2.2.2.2.2.2.2.2.2.2.1, r55.2.2.2.2.2.2.2.2.2.2.2.2.2.2.2.2.2.2.2.2.1, y54.2.1, r55.2.2.2.2.2.2.2.2.2.2.2.2.2.2.2.2.2.2.2.2.2.2.1, r55.2.2.2.2.2.2.2.2.2.2.2.2.2.2.2.2.2.2.2.2.2.2.2.1, ()))
                                                                                          else none
                                                                                        else none) (List.set l50 (Int.toNat i5) (r51.1, r51.2.1, r51.2.2.1, r51.2.2.2.1, r51.2.2.2.2.1, r51.2.2.2.2.2.1, r51.2.2.2.2.2.2.1, r51.2.2.2.2.2.2.2.1, r51.2.2.2.2.2.2.2.2.1, r51.2.2.2.2.2.2.2.2.2.1, r51.2.2.2.2.2.2.2.2.2.2.1, r51.2.2.2.2.2.2.2.2.2.2.2.1, r51.2.2.2.2.2.2.2.2.2.2.2.2.1, r51.2.2.2.2.2.2.2.2.2.2.2.2.2.1, r51.2.2.2.2.2.2.2.2.2.2.2.2.2.2.1, r51.2.2.2.2.2.2.2.2.2.2.2.2.2.2.2.1, r51.2.2.2.2.2.2.2.2.2.2.2.2.2.2.2.2.1, r51.2.2.2.2.2.2.2.2.2.2.2.2.2.2.2.2.2.1, r51.2.2.2.2.2.2.2.2.2.2.2.2.2.2.2.2.2.2.1, r51.2.2.2.2.2.2.2.2.2.2.2.2.2.2.2.2.2.2.2.1, IntKind.i64.wrap ((IntKind.i64.wrap (y44.1 + (1 : Int))) + (1 : Int)), r51.2.2.2.2.2.2.2.2.2.2.2.2.2.2.2.2.2.2.2.2.2.1, r51.2.2.2.2.2.2.2.2.2.2.2.2.2.2.2.2.2.2.2.2.2.2.1, r51.2.2.2.2.2.2.2.2.2.2.2.2.2.2.2.2.2.2.2.2.2.2.2.1, ()))
                                                                                      else none
                                                                                    else none) (List.set l48 (Int.toNat i5) (r49.1, r49.2.1, r49.2.2.1, r49.2.2.2.1, r49.2.2.2.2.1, r49.2.2.2.2.2.1, r49.2.2.2.2.2.2.1, r49.2.2.2.2.2.2.2.1, r49.2.2.2.2.2.2.2.2.1, r49.2.2.2.2.2.2.2.2.2.1, r49.2.2.2.2.2.2.2.2.2.2.1, r49.2.2.2.2.2.2.2.2.2.2.2.1, r49.2.2.2.2.2.2.2.2.2.2.2.2.1, r49.2.2.2.2.2.2.2.2.2.2.2.2.2.1, r49.2.2.2.2.2.2.2.2.2.2.2.2.2.2.1, r49.2.2.2.2.2.2.2.2.2.2.2.2.2.2.2.1, r49.2.2.2.2.2.2.2.2.2.2.2.2.2.2.2.2.1, r49.2.2.2.2.2.2.2.2.2.2.2.2.2.2.2.2.2.1, r49.2.2.2.2.2.2.2.2.2.2.2.2.2.2.2.2.2.2.1, IntKind.i64.wrap (y44.1 + (1 : Int)), r49.2.2.2.2.2.2.2.2.2.2.2.2.2.2.2.2.2.2.2.2.1, r49.2.2.2.2.2.2.2.2.2.2.2.2.2.2.2.2.2.2.2.2.2.1, r49.2.2.2.2.2.2.2.2.2.2.2.2.2.2.2.2.2.2.2.2.2.2.1, r49.2.2.2.2.2.2.2.2.2.2.2.2.2.2.2.2.2.2.2.2.2.2.2.1, ()))
                                                                                  else none
                                                                                else none) (List.set l46 (Int.toNat i5) (r47.1, r47.2.1, r47.2.2.1, r47.2.2.2.1, r47.2.2.2.2.1, r47.2.2.2.2.2.1, r47.2.2.2.2.2.2.1, r47.2.2.2.2.2.2.2.1, r47.2.2.2.2.2.2.2.2.1, r47.2.2.2.2.2.2.2.2.2.1, r47.2.2.2.2.2.2.2.2.2.2.1, r47.2.2.2.2.2.2.2.2.2.2.2.1, r47.2.2.2.2.2.2.2.2.2.2.2.2.1, r47.2.2.2.2.2.2.2.2.2.2.2.2.2.1, r47.2.2.2.2.2.2.2.2.2.2.2.2.2.2.1, r47.2.2.2.2.2.2.2.2.2.2.2.2.2.2.2.1, r47.2.2.2.2.2.2.2.2.2.2.2.2.2.2.2.2.1, r47.2.2.2.2.2.2.2.2.2.2.2.2.2.2.2.2.2.1, y44.1, r47.2.2.2.2.2.2.2.2.2.2.2.2.2.2.2.2.2.2.2.1, r47.2.2.2.2.2.2.2.2.2.2.2.2.2.2.2.2.2.2.2.2.1, r47.2.2.2.2.2.2.2.2.2.2.2.2.2.2.2.2.2.2.2.2.2.1, r47.2.2.2.2.2.2.2.2.2.2.2.2.2.2.2.2.2.2.2.2.2.2.1, r47.2.2.2.2.2.2.2.2.2.2.2.2.2.2.2.2.2.2.2.2.2.2.2.1, ()))
                                                                              else none
                                                                            else none) (List.set l42 (Int.toNat i5) (r45.1, r45.2.1, r45.2.2.1, r45.2.2.2.1, r45.2.2.2.2.1, r45.2.2.2.2.2.1, r45.2.2.2.2.2.2.1, r45.2.2.2.2.2.2.2.1, r45.2.2.2.2.2.2.2.2.1, r45.2.2.2.2.2.2.2.2.2.1, r45.2.2.2.2.2.2.2.2.2.2.1, r45.2.2.2.2.2.2.2.2.2.2.2.1, r45.2.2.2.2.2.2.2.2.2.2.2.2.1, r45.2.2.2.2.2.2.2.2.2.2.2.2.2.1, r45.2.2.2.2.2.2.2.2.2.2.2.2.2.2.1, r45.2.2.2.2.2.2.2.2.2.2.2.2.2.2.2.1, r45.2.2.2.2.2.2.2.2.2.2.2.2.2.2.2.2.1, y44.2.1, r45.2.2.2.2.2.2.2.2.2.2.2.2.2.2.2.2.2.2.1, r45.2.2.2.2.2.2.2.2.2.2.2.2.2.2.2.2.2.2.2.1, r45.2.2.2.2.2.2.2.2.2.2.2.2.2.2.2.2.2.2.2.2.1, r45.2.2.2.2.2.2.2.2.2.2.2.2.2.2.2.2.2.2.2.2.2.1, r45.2.2.2.2.2.2.2.2.2.2.2.2.2.2.2.2.2.2.2.2.2.2.1, r45.2.2.2.2.2.2.2.2.2.2.2.2.2.2.2.2.2.2.2.2.2.2.2.1, ()))
                                                                          else none
                                                                        else none) (List.set l40 (Int.toNat i5) (r41.1, r41.2.1, r41.2.2.1, r41.2.2.2.1, r41.2.2.2.2.1, r41.2.2.2.2.2.1, r41.2.2.2.2.2.2.1, r41.2.2.2.2.2.2.2.1, r41.2.2.2.2.2.2.2.2.1, r41.2.2.2.2.2.2.2.2.2.1, r41.2.2.2.2.2.2.2.2.2.2.1, r41.2.2.2.2.2.2.2.2.2.2.2.1, r41.2.2.2.2.2.2.2.2.2.2.2.2.1, r41.2.2.2.2.2.2.2.2.2.2.2.2.2.1, r41.2.2.2.2.2.2.2.2.2.2.2.2.2.2.1, r41.2.2.2.2.2.2.2.2.2.2.2.2.2.2.2.1, IntKind.i64.wrap ((IntKind.i64.wrap ((IntKind.i64.wrap ((IntKind.i64.wrap ((IntKind.i64.wrap ((IntKind.i64.wrap ((IntKind.i64.wrap ((IntKind.i64.wrap (y22.1 + (1 : Int))) + (1 : Int))) + (1 : Int))) + (1 : Int))) + (1 : Int))) + (1 : Int))) + (1 : Int))) + (1 : Int)), r41.2.2.2.2.2.2.2.2.2.2.2.2.2.2.2.2.2.1, r41.2.2.2.2.2.2.2.2.2.2.2.2.2.2.2.2.2.2.1, r41.2.2.2.2.2.2.2.2.2.2.2.2.2.2.2.2.2.2.2.1, r41.2.2.2.2.2.2.2.2.2.2.2.2.2.2.2.2.2.2.2.2.1, r41.2.2.2.2.2.2.2.2.2.2.2.2.2.2.2.2.2.2.2.2.2.1, r41.2.2.2.2.2.2.2.2.2.2.2.2.2.2.2.2.2.2.2.2.2.2.1, r41.2.2.2.2.2.2.2.2.2.2.2.2.2.2.2.2.2.2.2.2.2.2.2.1, ()))
                                                                      else none
                                                                    else none) (List.set l38 (Int.toNat i5) (r39.1, r39.2.1, r39.2.2.1, r39.2.2.2.1, r39.2.2.2.2.1, r39.2.2.2.2.2.1, r39.2.2.2.2.2.2.1, r39.2.2.2.2.2.2.2.1, r39.2.2.2.2.2.2.2.2.1, r39.2.2.2.2.2.2.2.2.2.1, r39.2.2.2.2.2.2.2.2.2.2.1, r39.2.2.2.2.2.2.2.2.2.2.2.1, r39.2.2.2.2.2.2.2.2.2.2.2.2.1, r39.2.2.2.2.2.2.2.2.2.2.2.2.2.1, r39.2.2.2.2.2.2.2.2.2.2.2.2.2.2.1, IntKind.i64.wrap ((IntKind.i64.wrap ((IntKind.i64.wrap ((IntKind.i64.wrap ((IntKind.i64.wrap ((IntKind.i64.wrap ((IntKind.i64.wrap (y22.1 + (1 : Int))) + (1 : Int))) + (1 : Int))) + (1 : Int))) + (1 : Int))) + (1 : Int))) + (1 : Int)), r39.2.2.2.2.2.2.2.2.2.2.2.2.2.2.2.2.1, r39.2.2.2.2.2.2.2.2.2.2.2.2.2.2.2.2.2.1, r39.2.2.2.2.2.2.2.2.2.2.2.2.2.2.2.2.2.2.1, r39.2.2.2.2.2.2.2.2.2.2.2.2.2.2.2.2.2.2.2.1, r39.2.2.2.2.2.2.2.2.2.2.2.2.2.2.2.2.2.2.2.2.1, r39.2.2.2.2.2.2.2.2.2.2.2.2.2.2.2.2.2.2.2.2.2.1, r39.2.2.2.2.2.2.2.2.2.2.2.2.2.2.2.2.2.2.2.2.2.2.1, r39.2.2.2.2.2.2.2.2.2.2.2.2.2.2.2.2.2.2.2.2.2.2.2.1, ()))
                                                                  else none
                                                                else none) (List.set l36 (Int.toNat i5) (r37.1, r37.2.1, r37.2.2.1, r37.2.2.2.1, r37.2.2.2.2.1, r37.2.2.2.2.2.1, r37.2.2.2.2.2.2.1, r37.2.2.2.2.2.2.2.1, r37.2.2.2.2.2.2.2.2.1, r37.2.2.2.2.2.2.2.2.2.1, r37.2.2.2.2.2.2.2.2.2.2.1, r37.2.2.2.2.2.2.2.2.2.2.2.1, r37.2.2.2.2.2.2.2.2.2.2.2.2.1, r37.2.2.2.2.2.2.2.2.2.2.2.2.2.1, IntKind.i64.wrap ((IntKind.i64.wrap ((IntKind.i64.wrap ((IntKind.i64.wrap ((IntKind.i64.wrap ((IntKind.i64.wrap (y22.1 + (1 : Int))) + (1 : Int))) + (1 : Int))) + (1 : Int))) + (1 : Int))) + (1 : Int)), r37.2.2.2.2.2.2.2.2.2.2.2.2.2.2.2.1, r37.2.2.2.2.2.2.2.2.2.2.2.2.2.2.2.2.1, r37.2.2.2.2.2.2.2.2.2.2.2.2.2.2.2.2.2.1, r37.2.2.2.2.2.2.2.2.2.2.2.2.2.2.2.2.2.2.1, r37.2.2.2.2.2.2.2.2.2.2.2.2.2.2.2.2.2.2.2.1, r37.2.2.2.2.2.2.2.2.2.2.2.2.2.2.2.2.2.2.2.2.1, r37.2.2.2.2.2.2.2.2.2.2.2.2.2.2.2.2.2.2.2.2.2.1, r37.2.2.2.2.2.2.2.2.2.2.2.2.2.2.2.2.2.2.2.2.2.2.1, r37.2.2.2.2.2.2.2.2.2.2.2.2.2.2.2.2.2.2.2.2.2.2.2.1, ()))
                                                              else none
                                                            else none) (List.set l34 (Int.toNat i5) (r35.1, r35.2.1, r35.2.2.1, r35.2.2.2.1, r35.2.2.2.2.1, r35.2.2.2.2.2.1, r35.2.2.2.2.2.2.1, r35.2.2.2.2.2.2.2.1, r35.2.2.2.2.2.2.2.2.1, r35.2.2.2.2.2.2.2.2.2.1, r35.2.2.2.2.2.2.2.2.2.2.1, r35.2.2.2.2.2.2.2.2.2.2.2.1, r35.2.2.2.2.2.2.2.2.2.2.2.2.1, IntKind.i64.wrap ((IntKind.i64.wrap ((IntKind.i64.wrap ((IntKind.i64.wrap ((IntKind.i64.wrap (y22.1 + (1 : Int))) + (1 : Int))) + (1 : Int))) + (1 : Int))) + (1 : Int)), r35.2.2.2.2.2.2.2.2.2.2.2.2.2.2.1, r35.2.2.2.2.2.2.2.2.2.2.2.2.2.2.2.1, r35.2.2.2.2.2.2.2.2.2.2.2.2.2.2.2.2.1, r35.2.2.2.2.2.2.2.2.2.2.2.2.2.2.2.2.2.1, r35.2.2.2.2.2.2.2.2.2.2.2.2.2.2.2.2.2.2.1, r35.2.2.2.2.2.2.2.2.2.2.2.2.2.2.2.2.2.2.2.1, r35.2.2.2.2.2.2.2.2.2.2.2.2.2.2.2.2.2.2.2.2.1, r35.2.2.2.2.2.2.2.2.2.2.2.2.2.2.2.2.2.2.2.2.2.1, r35.2.2.2.2.2.2.2.2.2.2.2.2.2.2.2.2.2.2.2.2.2.2.1, r35.2.2.2.2.2.2.2.2.2.2.2.2.2.2.2.2.2.2.2.2.2.2.2.1, ()))
                                                          else none
                                                        else none) (List.set l32 (Int.toNat i5) (r33.1, r33.2.1, r33.2.2.1, r33.2.2.2.1, r33.2.2.2.2.1, r33.2.2.2.2.2.1, r33.2.2.2.2.2.2.1, r33.2.2.2.2.2.2.2.1, r33.2.2.2.2.2.2.2.2.1, r33.2.2.2.2.2.2.2.2.2.1, r33.2.2.2.2.2.2.2.2.2.2.1, r33.2.2.2.2.2.2.2.2.2.2.2.1, IntKind.i64.wrap ((IntKind.i64.wrap ((IntKind.i64.wrap ((IntKind.i64.wrap (y22.1 + (1 : Int))) + (1 : Int))) + (1 : Int))) + (1 : Int)), r33.2.2.2.2.2.2.2.2.2.2.2.2.2.1, r33.2.2.2.2.2.2.2.2.2.2.2.2.2.2.1, r33.2.2.2.2.2.2.2.2.2.2.2.2.2.2.2.1, r33.2.2.2.2.2.2.2.2.2.2.2.2.2.2.2.2.1, r33.2.2.2.2.2.2.2.2.2.2.2.2.2.2.2.2.2.1, r33.2.2.2.2.2.2.2.2.2.2.2.2.2.2.2.2.2.2.1, r33.2.2.2.2.2.2.2.2.2.2.2.2.2.2.2.2.2.2.2.1, r33.2.2.2.2.2.2.2.2.2.2.2.2.2.2.2.2.2.2.2.2.1, r33.2.2.2.2.2.2.2.2.2.2.2.2.2.2.2.2.2.2.2.2.2.1, r33.2.2.2.2.2.2.2.2.2.2.2.2.2.2.2.2.2.2.2.2.2.2.1, r33.2.2.2.2.2.2.2.2.2.2.2.2.2.2.2.2.2.2.2.2.2.2.2.1, ()))
                                                      else none
                                                    else none) (List.set l30 (Int.toNat i5) (r31.1, r31.2.1, r31.2.2.1, r31.2.2.2.1, r31.2.2.2.2.1, r31.2.2.2.2.2.1, r31.2.2.2.2.2.2.1, r31.2.2.2.2.2.2.2.1, r31.2.2.2.2.2.2.2.2.1, r31.2.2.2.2.2.2.2.2.2.1, r31.2.2.2.2.2.2.2.2.2.2.1, IntKind.i64.wrap ((IntKind.i64.wrap ((IntKind.i64.wrap (y22.1 + (1 : Int))) + (1 : Int))) + (1 : Int)), r31.2.2.2.2.2.2.2.2.2.2.2.2.1, r31.2.2.2.2.2.2.2.2.2.2.2.2.2.1, r31.2.2.2.2.2.2.2.2.2.2.2.2.2.2.1, r31.2.2.2.2.2.2.2.2.2.2.2.2.2.2.2.1, r31.2.2.2.2.2.2.2.2.2.2.2.2.2.2.2.2.1, r31.2.2.2.2.2.2.2.2.2.2.2.2.2.2.2.2.2.1, r31.2.2.2.2.2.2.2.2.2.2.2.2.2.2.2.2.2.2.1, r31.2.2.2.2.2.2.2.2.2.2.2.2.2.2.2.2.2.2.2.1, r31.2.2.2.2.2.2.2.2.2.2.2.2.2.2.2.2.2.2.2.2.1, r31.2.2.2.2.2.2.2.2.2.2.2.2.2.2.2.2.2.2.2.2.2.1, r31.2.2.2.2.2.2.2.2.2.2.2.2.2.2.2.2.2.2.2.2.2.2.1, r31.2.2.2.2.2.2.2.2.2.2.2.2.2.2.2.2.2.2.2.2.2.2.2.1, ()))
                                                  else none
                                                else none) (List.set l28 (Int.toNat i5) (r29.1, r29.2.1, r29.2.2.1, r29.2.2.2.1, r29.2.2.2.2.1, r29.2.2.2.2.2.1, r29.2.2.2.2.2.2.1, r29.2.2.2.2.2.2.2.1, r29.2.2.2.2.2.2.2.2.1, r29.2.2.2.2.2.2.2.2.2.1, IntKind.i64.wrap ((IntKind.i64.wrap (y22.1 + (1 : Int))) + (1 : Int)), r29.2.2.2.2.2.2.2.2.2.2.2.1, r29.2.2.2.2.2.2.2.2.2.2.2.2.1, r29.2.2.2.2.2.2.2.2.2.2.2.2.2.1, r29.2.2.2.2.2.2.2.2.2.2.2.2.2.2.1, r29.2.2.2.2.2.2.2.2.2.2.2.2.2.2.2.1, r29.2.2.2.2.2.2.2.2.2.2.2.2.2.2.2.2.1, r29.2.2.2.2.2.2.2.2.2.2.2.2.2.2.2.2.2.1, r29.2.2.2.2.2.2.2.2.2.2.2.2.2.2.2.2.2.2.1, r29.2.2.2.2.2.2.2.2.2.2.2.2.2.2.2.2.2.2.2.1, r29.2.2.2.2.2.2.2.2.2.2.2.2.2.2.2.2.2.2.2.2.1, r29.2.2.2.2.2.2.2.2.2.2.2.2.2.2.2.2.2.2.2.2.2.1, r29.2.2.2.2.2.2.2.2.2.2.2.2.2.2.2.2.2.2.2.2.2.2.1, r29.2.2.2.2.2.2.2.2.2.2.2.2.2.2.2.2.2.2.2.2.2.2.2.1, ()))
                                              else none
                                            else none) (List.set l26 (Int.toNat i5) (r27.1, r27.2.1, r27.2.2.1, r27.2.2.2.1, r27.2.2.2.2.1, r27.2.2.2.2.2.1, r27.2.2.2.2.2.2.1, r27.2.2.2.2.2.2.2.1, r27.2.2.2.2.2.2.2.2.1, IntKind.i64.wrap (y22.1 + (1 : Int)), r27.2.2.2.2.2.2.2.2.2.2.1, r27.2.2.2.2.2.2.2.2.2.2.2.1, r27.2.2.2.2.2.2.2.2.2.2.2.2.1, r27.2.2.2.2.2.2.2.2.2.2.2.2.2.1, r27.2.2.2.2.2.2.2.2.2.2.2.2.2.2.1, r27.2.2.2.2.2.2.2.2.2.2.2.2.2.2.2.1, r27.2.2.2.2.2.2.2.2.2.2.2.2.2.2.2.2.1, r27.2.2.2.2.2.2.2.2.2.2.2.2.2.2.2.2.2.1, r27.2.2.2.2.2.2.2.2.2.2.2.2.2.2.2.2.2.2.1, r27.2.2.2.2.2.2.2.2.2.2.2.2.2.2.2.2.2.2.2.1, r27.2.2.2.2.2.2.2.2.2.2.2.2.2.2.2.2.2.2.2.2.1, r27.2.2.2.2.2.2.2.2.2.2.2.2.2.2.2.2.2.2.2.2.2.1, r27.2.2.2.2.2.2.2.2.2.2.2.2.2.2.2.2.2.2.2.2.2.2.1, r27.2.2.2.2.2.2.2.2.2.2.2.2.2.2.2.2.2.2.2.2.2.2.2.1, ()))
                                          else none
                                        else none) (List.set l24 (Int.toNat i5) (r25.1, r25.2.1, r25.2.2.1, r25.2.2.2.1, r25.2.2.2.2.1, r25.2.2.2.2.2.1, r25.2.2.2.2.2.2.1, r25.2.2.2.2.2.2.2.1, y22.1, r25.2.2.2.2.2.2.2.2.2.1, r25.2.2.2.2.2.2.2.2.2.2.1, r25.2.2.2.2.2.2.2.2.2.2.2.1, r25.2.2.2.2.2.2.2.2.2.2.2.2.1, r25.2.2.2.2.2.2.2.2.2.2.2.2.2.1, r25.2.2.2.2.2.2.2.2.2.2.2.2.2.2.1, r25.2.2.2.2.2.2.2.2.2.2.2.2.2.2.2.1, r25.2.2.2.2.2.2.2.2.2.2.2.2.2.2.2.2.1, r25.2.2.2.2.2.2.2.2.2.2.2.2.2.2.2.2.2.1, r25.2.2.2.2.2.2.2.2.2.2.2.2.2.2.2.2.2.2.1, r25.2.2.2.2.2.2.2.2.2.2.2.2.2.2.2.2.2.2.2.1, r25.2.2.2.2.2.2.2.2.2.2.2.2.2.2.2.2.2.2.2.2.1, r25.2.2.2.2.2.2.2.2.2.2.2.2.2.2.2.2.2.2.2.2.2.1, r25.2.2.2.2.2.2.2.2.2.2.2.2.2.2.2.2.2.2.2.2.2.2.1, r25.2.2.2.2.2.2.2.2.2.2.2.2.2.2.2.2.2.2.2.2.2.2.2.1, ()))
                                      else none
                                    else none) (List.set l20 (Int.toNat i5) (r23.1, r23.2.1, r23.2.2.1, r23.2.2.2.1, r23.2.2.2.2.1, r23.2.2.2.2.2.1, r23.2.2.2.2.2.2.1, y22.2.1, r23.2.2.2.2.2.2.2.2.1, r23.2.2.2.2.2.2.2.2.2.1, r23.2.2.2.2.2.2.2.2.2.2.1, r23.2.2.2.2.2.2.2.2.2.2.2.1, r23.2.2.2.2.2.2.2.2.2.2.2.2.1, r23.2.2.2.2.2.2.2.2.2.2.2.2.2.1, r23.2.2.2.2.2.2.2.2.2.2.2.2.2.2.1, r23.2.2.2.2.2.2.2.2.2.2.2.2.2.2.2.1, r23.2.2.2.2.2.2.2.2.2.2.2.2.2.2.2.2.1, r23.2.2.2.2.2.2.2.2.2.2.2.2.2.2.2.2.2.1, r23.2.2.2.2.2.2.2.2.2.2.2.2.2.2.2.2.2.2.1, r23.2.2.2.2.2.2.2.2.2.2.2.2.2.2.2.2.2.2.2.1, r23.2.2.2.2.2.2.2.2.2.2.2.2.2.2.2.2.2.2.2.2.1, r23.2.2.2.2.2.2.2.2.2.2.2.2.2.2.2.2.2.2.2.2.2.1, r23.2.2.2.2.2.2.2.2.2.2.2.2.2.2.2.2.2.2.2.2.2.2.1, r23.2.2.2.2.2.2.2.2.2.2.2.2.2.2.2.2.2.2.2.2.2.2.2.1, ()))
                                  else none
                                else none) (List.set l16 (Int.toNat i5) (r19.1, r19.2.1, r19.2.2.1, r19.2.2.2.1, r19.2.2.2.2.1, r19.2.2.2.2.2.1, y18.2.1, r19.2.2.2.2.2.2.2.1, r19.2.2.2.2.2.2.2.2.1, r19.2.2.2.2.2.2.2.2.2.1, r19.2.2.2.2.2.2.2.2.2.2.1, r19.2.2.2.2.2.2.2.2.2.2.2.1, r19.2.2.2.2.2.2.2.2.2.2.2.2.1, r19.2.2.2.2.2.2.2.2.2.2.2.2.2.1, r19.2.2.2.2.2.2.2.2.2.2.2.2.2.2.1, r19.2.2.2.2.2.2.2.2.2.2.2.2.2.2.2.1, r19.2.2.2.2.2.2.2.2.2.2.2.2.2.2.2.2.1, r19.2.2.2.2.2.2.2.2.2.2.2.2.2.2.2.2.2.1, r19.2.2.2.2.2.2.2.2.2.2.2.2.2.2.2.2.2.2.1, r19.2.2.2.2.2.2.2.2.2.2.2.2.2.2.2.2.2.2.2.1, r19.2.2.2.2.2.2.2.2.2.2.2.2.2.2.2.2.2.2.2.2.1, r19.2.2.2.2.2.2.2.2.2.2.2.2.2.2.2.2.2.2.2.2.2.1, r19.2.2.2.2.2.2.2.2.2.2.2.2.2.2.2.2.2.2.2.2.2.2.1, r19.2.2.2.2.2.2.2.2.2.2.2.2.2.2.2.2.2.2.2.2.2.2.2.1, ()))
                              else none
                            else none) (List.set l12 (Int.toNat i5) (r15.1, r15.2.1, r15.2.2.1, r15.2.2.2.1, r15.2.2.2.2.1, y14.2.1, r15.2.2.2.2.2.2.1, r15.2.2.2.2.2.2.2.1, r15.2.2.2.2.2.2.2.2.1, r15.2.2.2.2.2.2.2.2.2.1, r15.2.2.2.2.2.2.2.2.2.2.1, r15.2.2.2.2.2.2.2.2.2.2.2.1, r15.2.2.2.2.2.2.2.2.2.2.2.2.1, r15.2.2.2.2.2.2.2.2.2.2.2.2.2.1, r15.2.2.2.2.2.2.2.2.2.2.2.2.2.2.1, r15.2.2.2.2.2.2.2.2.2.2.2.2.2.2.2.1, r15.2.2.2.2.2.2.2.2.2.2.2.2.2.2.2.2.1, r15.2.2.2.2.2.2.2.2.2.2.2.2.2.2.2.2.2.1, r15.2.2.2.2.2.2.2.2.2.2.2.2.2.2.2.2.2.2.1, r15.2.2.2.2.2.2.2.2.2.2.2.2.2.2.2.2.2.2.2.1, r15.2.2.2.2.2.2.2.2.2.2.2.2.2.2.2.2.2.2.2.2.1, r15.2.2.2.2.2.2.2.2.2.2.2.2.2.2.2.2.2.2.2.2.2.1, r15.2.2.2.2.2.2.2.2.2.2.2.2.2.2.2.2.2.2.2.2.2.2.1, r15.2.2.2.2.2.2.2.2.2.2.2.2.2.2.2.2.2.2.2.2.2.2.2.1, ()))
                          else none
                        else none) (List.set l8 (Int.toNat i5) (r11.1, r11.2.1, r11.2.2.1, r11.2.2.2.1, y10.2.1, r11.2.2.2.2.2.1, r11.2.2.2.2.2.2.1, r11.2.2.2.2.2.2.2.1, r11.2.2.2.2.2.2.2.2.1, r11.2.2.2.2.2.2.2.2.2.1, r11.2.2.2.2.2.2.2.2.2.2.1, r11.2.2.2.2.2.2.2.2.2.2.2.1, r11.2.2.2.2.2.2.2.2.2.2.2.2.1, r11.2.2.2.2.2.2.2.2.2.2.2.2.2.1, r11.2.2.2.2.2.2.2.2.2.2.2.2.2.2.1, r11.2.2.2.2.2.2.2.2.2.2.2.2.2.2.2.1, r11.2.2.2.2.2.2.2.2.2.2.2.2.2.2.2.2.1, r11.2.2.2.2.2.2.2.2.2.2.2.2.2.2.2.2.2.1, r11.2.2.2.2.2.2.2.2.2.2.2.2.2.2.2.2.2.2.1, r11.2.2.2.2.2.2.2.2.2.2.2.2.2.2.2.2.2.2.2.1, r11.2.2.2.2.2.2.2.2.2.2.2.2.2.2.2.2.2.2.2.2.1, r11.2.2.2.2.2.2.2.2.2.2.2.2.2.2.2.2.2.2.2.2.2.1, r11.2.2.2.2.2.2.2.2.2.2.2.2.2.2.2.2.2.2.2.2.2.2.1, r11.2.2.2.2.2.2.2.2.2.2.2.2.2.2.2.2.2.2.2.2.2.2.2.1, ()))
                      else none
                    else none) (List.set l6 (Int.toNat i5) (r7.1, r7.2.1, r7.2.2.1, IntKind.i64.wrap ((IntKind.i64.wrap ((IntKind.i64.wrap (k1 + (1 : Int))) + (1 : Int))) + (1 : Int)), r7.2.2.2.2.1, r7.2.2.2.2.2.1, r7.2.2.2.2.2.2.1, r7.2.2.2.2.2.2.2.1, r7.2.2.2.2.2.2.2.2.1, r7.2.2.2.2.2.2.2.2.2.1, r7.2.2.2.2.2.2.2.2.2.2.1, r7.2.2.2.2.2.2.2.2.2.2.2.1, r7.2.2.2.2.2.2.2.2.2.2.2.2.1, r7.2.2.2.2.2.2.2.2.2.2.2.2.2.1, r7.2.2.2.2.2.2.2.2.2.2.2.2.2.2.1, r7.2.2.2.2.2.2.2.2.2.2.2.2.2.2.2.1, r7.2.2.2.2.2.2.2.2.2.2.2.2.2.2.2.2.1, r7.2.2.2.2.2.2.2.2.2.2.2.2.2.2.2.2.2.1, r7.2.2.2.2.2.2.2.2.2.2.2.2.2.2.2.2.2.2.1, r7.2.2.2.2.2.2.2.2.2.2.2.2.2.2.2.2.2.2.2.1, r7.2.2.2.2.2.2.2.2.2.2.2.2.2.2.2.2.2.2.2.2.1, r7.2.2.2.2.2.2.2.2.2.2.2.2.2.2.2.2.2.2.2.2.2.1, r7.2.2.2.2.2.2.2.2.2.2.2.2.2.2.2.2.2.2.2.2.2.2.1, r7.2.2.2.2.2.2.2.2.2.2.2.2.2.2.2.2.2.2.2.2.2.2.2.1, ()))
                  else none
                else none) (List.set l4 (Int.toNat i5) (r5.1, r5.2.1, IntKind.i64.wrap ((IntKind.i64.wrap (k1 + (1 : Int))) + (1 : Int)), r5.2.2.2.1, r5.2.2.2.2.1, r5.2.2.2.2.2.1, r5.2.2.2.2.2.2.1, r5.2.2.2.2.2.2.2.1, r5.2.2.2.2.2.2.2.2.1, r5.2.2.2.2.2.2.2.2.2.1, r5.2.2.2.2.2.2.2.2.2.2.1, r5.2.2.2.2.2.2.2.2.2.2.2.1, r5.2.2.2.2.2.2.2.2.2.2.2.2.1, r5.2.2.2.2.2.2.2.2.2.2.2.2.2.1, r5.2.2.2.2.2.2.2.2.2.2.2.2.2.2.1, r5.2.2.2.2.2.2.2.2.2.2.2.2.2.2.2.1, r5.2.2.2.2.2.2.2.2.2.2.2.2.2.2.2.2.1, r5.2.2.2.2.2.2.2.2.2.2.2.2.2.2.2.2.2.1, r5.2.2.2.2.2.2.2.2.2.2.2.2.2.2.2.2.2.2.1, r5.2.2.2.2.2.2.2.2.2.2.2.2.2.2.2.2.2.2.2.1, r5.2.2.2.2.2.2.2.2.2.2.2.2.2.2.2.2.2.2.2.2.1, r5.2.2.2.2.2.2.2.2.2.2.2.2.2.2.2.2.2.2.2.2.2.1, r5.2.2.2.2.2.2.2.2.2.2.2.2.2.2.2.2.2.2.2.2.2.2.1, r5.2.2.2.2.2.2.2.2.2.2.2.2.2.2.2.2.2.2.2.2.2.2.2.1, ()))
              else none
            else none) (List.set l2 (Int.toNat i5) (r3.1, decide (Int.tmod (IntKind.i64.wrap (k1 + (1 : Int))) (3 : Int) = (0 : Int)), r3.2.2.1, r3.2.2.2.1, r3.2.2.2.2.1, r3.2.2.2.2.2.1, r3.2.2.2.2.2.2.1, r3.2.2.2.2.2.2.2.1, r3.2.2.2.2.2.2.2.2.1, r3.2.2.2.2.2.2.2.2.2.1, r3.2.2.2.2.2.2.2.2.2.2.1, r3.2.2.2.2.2.2.2.2.2.2.2.1, r3.2.2.2.2.2.2.2.2.2.2.2.2.1, r3.2.2.2.2.2.2.2.2.2.2.2.2.2.1, r3.2.2.2.2.2.2.2.2.2.2.2.2.2.2.1, r3.2.2.2.2.2.2.2.2.2.2.2.2.2.2.2.1, r3.2.2.2.2.2.2.2.2.2.2.2.2.2.2.2.2.1, r3.2.2.2.2.2.2.2.2.2.2.2.2.2.2.2.2.2.1, r3.2.2.2.2.2.2.2.2.2.2.2.2.2.2.2.2.2.2.1, r3.2.2.2.2.2.2.2.2.2.2.2.2.2.2.2.2.2.2.2.1, r3.2.2.2.2.2.2.2.2.2.2.2.2.2.2.2.2.2.2.2.2.1, r3.2.2.2.2.2.2.2.2.2.2.2.2.2.2.2.2.2.2.2.2.2.1, r3.2.2.2.2.2.2.2.2.2.2.2.2.2.2.2.2.2.2.2.2.2.2.1, r3.2.2.2.2.2.2.2.2.2.2.2.2.2.2.2.2.2.2.2.2.2.2.2.1, ()))
          else none
        else none) (List.set a0 (Int.toNat i5) (k1, r1.2.1, r1.2.2.1, r1.2.2.2.1, r1.2.2.2.2.1, r1.2.2.2.2.2.1, r1.2.2.2.2.2.2.1, r1.2.2.2.2.2.2.2.1, r1.2.2.2.2.2.2.2.2.1, r1.2.2.2.2.2.2.2.2.2.1, r1.2.2.2.2.2.2.2.2.2.2.1, r1.2.2.2.2.2.2.2.2.2.2.2.1, r1.2.2.2.2.2.2.2.2.2.2.2.2.1, r1.2.2.2.2.2.2.2.2.2.2.2.2.2.1, r1.2.2.2.2.2.2.2.2.2.2.2.2.2.2.1, r1.2.2.2.2.2.2.2.2.2.2.2.2.2.2.2.1, r1.2.2.2.2.2.2.2.2.2.2.2.2.2.2.2.2.1, r1.2.2.2.2.2.2.2.2.2.2.2.2.2.2.2.2.2.1, r1.2.2.2.2.2.2.2.2.2.2.2.2.2.2.2.2.2.2.1, r1.2.2.2.2.2.2.2.2.2.2.2.2.2.2.2.2.2.2.2.1, r1.2.2.2.2.2.2.2.2.2.2.2.2.2.2.2.2.2.2.2.2.1, r1.2.2.2.2.2.2.2.2.2.2.2.2.2.2.2.2.2.2.2.2.2.1, r1.2.2.2.2.2.2.2.2.2.2.2.2.2.2.2.2.2.2.2.2.2.2.1, r1.2.2.2.2.2.2.2.2.2.2.2.2.2.2.2.2.2.2.2.2.2.2.2.1, ()))
      else none
    else none
  else
    some (.inr (.inl (a0, k1, ())))
noncomputable def laws_markDaemonS_r0 (x : H91_0) : Option (Sum H91_0 (Sum E91_0 Q91_0)) := laws_markDaemonS_c0 x.1 x.2.1 x.2.2.1
noncomputable def L91 {R : Type} : Loops R := fun id _ st k => bif Nat.beq id 0 then loopAt hp91_0 e91_0 q91_0 laws_markDaemonS_r0 st k else none
noncomputable def laws_markDaemonS (a0 : List R_ibiiLiELiiisELiELsEiiiiiiiiiLiEiiiLiELiiiLiiisEELiiLiEiiisLiEE) (k1 : Int) : Option (Int × (List R_ibiiLiELiiisELiELsEiiiiiiiiiLiEiiiLiELiiiLiiisEELiiLiEiiisLiEE) × Unit) :=
  outK (loopV laws_markDaemonS_r0 (a0, k1, (0 : Int), ())) (fun y1 =>
    some (y1.2.1, y1.1, ())) (fun y2 =>
    none)
noncomputable def x91 (x : (List R_ibiiLiELiiisELiELsEiiiiiiiiiLiEiiiLiELiiiLiiisEELiiLiEiiisLiEE) × Int × Unit) : Option (Int × (List R_ibiiLiELiiisELiELsEiiiiiiiiiLiEiiiLiELiiiLiiisEELiiLiEiiisLiEE) × Unit) := laws_markDaemonS x.1 x.2.1
noncomputable def sem91 : Sem1 := semOf ps91 rs91 x91
theorem so91 : SemsOk Try.prog (semsOf sl91) := sems_cons k75 (sems_cons k35 (sems_cons k142 (sems_cons k34 (sems_cons k93 (sems_nil)))))
noncomputable def b91_0 : Code := nthLoop code91 0
theorem t91_r0_eq (x : denR (headRT hp91_0)) : codeK (tabOf tr) (semsOf sl91) D91 L91 b91_0 (headSt hp91_0 x) (roundK 0 hp91_0 e91_0 q91_0) = laws_markDaemonS_r0 x := by kernel_rfl
theorem loop91_0 {R : Type} (r : R) (w0 : World) (mu : Mu) (hs : AnShape ps91 mu) : LoopAt Try.prog w0 mu 209 (L91 : Loops R) r 0 b91_0 :=
  loop_auto tr_ok eq_ok mixed_ok so91 (D := D91) hs (by kernel_rfl) (fun _ => (loops_of (l := []) (by kernel_rfl) (List.forall_mem_nil _))) t91_r0_eq (fun _ _ => rfl)
theorem t91_eq (x : denR (headRT (ps91.map some))) : codeK (tabOf tr) (semsOf sl91) D91 L91 code91 (start 209 ps91 x) (finK rs91 ps91) = x91 x := by kernel_rfl
theorem k91 : Known Try.prog 91 sem91 :=
  fn_auto tr_ok eq_ok mixed_ok so91 (D := D91) (code := code91) (n := 209) Try.func91 (by kernel_rfl) (by kernel_rfl) (by kernel_rfl) (fun w0 mu _ hs => (loops_of (l := [(0, b91_0)]) (by kernel_rfl) (List.forall_mem_cons.2 ⟨loop91_0 _ w0 mu hs, (List.forall_mem_nil _)⟩))) t91_eq

/-! ### f92: laws.markLetterS -/
noncomputable def code92 : Code := match Try.f92.body with | some c => c | none => .skip
def ps92 : List AP := [.io T_iiiiiisiiiiiLiEiiiLiiisE .dp, .val false [.int .i64]]
def rs92 : List RP := [{ src := .tmp 4, agg := false, ps := [.int .i64] }]
noncomputable def sl92 : SemL := [(107, (.shr, .shr, .shr, sem107)), (75, (.io, .shr, .shr, sem75)), (35, (.io, .shr, .shr, sem35))]
def D92 : Draws := fun _ => .nil
def hp92_0 : List (Option AP) := [some (.io T_iiiiiisiiiiiLiEiiiLiiisE .dp), some (.val false [.int .i64]), none, none, none, some (.val false [.int .i64]), none, none, none, none, none, none, none, none, none, none, none, none, none, none, none, none, none, none, none, none, none, none, none, none, none, none, none, none, none, none, none, none, none, none, none, none, none, none, none, none, none, none, none, none, none, none, none, none, none, none, none, none, none, none, none, none, none, none, none, none, none, none, none, none, none, none, none, none, none, none, none, none, none, none, none, none, none, none, none, none, none, none, none, none, none, none, none, none, none, none, none, none, none, none, none, none, none, none, none, none, none, none, none, none, none, none, none, none, none, none, none, none, none, none, none, none, none, none, none, none, none, none, none, none, none, none, none, none, none, none, none, none, none, none, none, none, none, none, none, none, none, none]
def e92_0 : List (Option AP) := [some (.io T_iiiiiisiiiiiLiEiiiLiiisE .dp), some (.val false [.int .i64]), none, none, none, none, none, none, none, none, none, none, none, none, none, none, none, none, none, none, none, none, none, none, none, none, none, none, none, none, none, none, none, none, none, none, none, none, none, none, none, none, none, none, none, none, none, none, none, none, none, none, none, none, none, none, none, none, none, none, none, none, none, none, none, none, none, none, none, none, none, none, none, none, none, none, none, none, none, none, none, none, none, none, none, none, none, none, none, none, none, none, none, none, none, none, none, none, none, none, none, none, none, none, none, none, none, none, none, none, none, none, none, none, none, none, none, none, none, none, none, none, none, none, none, none, none, none, none, none, none, none, none, none, none, none, none, none, none, none, none, none, none, none, none, none, none, none]
def q92_0 : List (Option AP) := [none, none, none, none, none, none, none, none, none, none, none, none, none, none, none, none, none, none, none, none, none, none, none, none, none, none, none, none, none, none, none, none, none, none, none, none, none, none, none, none, none, none, none, none, none, none, none, none, none, none, none, none, none, none, none, none, none, none, none, none, none, none, none, none, none, none, none, none, none, none, none, none, none, none, none, none, none, none, none, none, none, none, none, none, none, none, none, none, none, none, none, none, none, none, none, none, none, none, none, none, none, none, none, none, none, none, none, none, none, none, none, none, none, none, none, none, none, none, none, none, none, none, none, none, none, none, none, none, none, none, none, none, none, none, none, none, none, none, none, none, none, none, none, none, none, none, none, none]
abbrev H92_0 : Type := (List R_iiiiiisiiiiiLiEiiiLiiisE) × Int × Int × Unit
abbrev E92_0 : Type := (List R_iiiiiisiiiiiLiEiiiLiiisE) × Int × Unit
abbrev Q92_0 : Type := Unit
noncomputable def laws_markLetterS_c0 (a0 : List R_iiiiiisiiiiiLiEiiiLiiisE) (k1 : Int) (i5 : Int) : Option (Sum H92_0 (Sum E92_0 Q92_0)) :=
  bif decide (i5 < ((List.length a0 : Nat) : Int)) then
    bif decide ((0 : Int) ≤ i5) then bif Nat.blt (Int.toNat i5) (List.length a0) then Option.bind ((a0)[Int.toNat i5]?) fun r1 =>
        bif decide ((0 : Int) ≤ i5) then bif Nat.blt (Int.toNat i5) (List.length (List.set a0 (Int.toNat i5) (k1, r1.2.1, r1.2.2.1, r1.2.2.2.1, r1.2.2.2.2.1, r1.2.2.2.2.2.1, r1.2.2.2.2.2.2.1, r1.2.2.2.2.2.2.2.1, r1.2.2.2.2.2.2.2.2.1, r1.2.2.2.2.2.2.2.2.2.1, r1.2.2.2.2.2.2.2.2.2.2.1, r1.2.2.2.2.2.2.2.2.2.2.2.1, r1.2.2.2.2.2.2.2.2.2.2.2.2.1, r1.2.2.2.2.2.2.2.2.2.2.2.2.2.1, r1.2.2.2.2.2.2.2.2.2.2.2.2.2.2.1, r1.2.2.2.2.2.2.2.2.2.2.2.2.2.2.2.1, r1.2.2.2.2.2.2.2.2.2.2.2.2.2.2.2.2.1, ()))) then Option.bind ((List.set a0 (Int.toNat i5) (k1, r1.2.1, r1.2.2.1, r1.2.2.2.1, r1.2.2.2.2.1, r1.2.2.2.2.2.1, r1.2.2.2.2.2.2.1, r1.2.2.2.2.2.2.2.1, r1.2.2.2.2.2.2.2.2.1, r1.2.2.2.2.2.2.2.2.2.1, r1.2.2.2.2.2.2.2.2.2.2.1, r1.2.2.2.2.2.2.2.2.2.2.2.1, r1.2.2.2.2.2.2.2.2.2.2.2.2.1, r1.2.2.2.2.2.2.2.2.2.2.2.2.2.1, r1.2.2.2.2.2.2.2.2.2.2.2.2.2.2.1, r1.2.2.2.2.2.2.2.2.2.2.2.2.2.2.2.1, r1.2.2.2.2.2.2.2.2.2.2.2.2.2.2.2.2.1, ()))[Int.toNat i5]?) fun r2 =>
            (fun l3 : List (Int × Int × Int × Int × Int × Int × ByteArray × Int × Int × Int × Int × Int × (List (Int × Unit)) × Int × Int × Int × (List R_iiis) × Unit) =>
            bif decide ((0 : Int) ≤ i5) then bif Nat.blt (Int.toNat i5) (List.length l3) then Option.bind ((l3)[Int.toNat i5]?) fun r4 =>
                bif decide ((0 : Int) ≤ i5) then bif Nat.blt (Int.toNat i5) (List.length (List.set l3 (Int.toNat i5) (r4.1, r4.2.1, IntKind.i64.wrap ((IntKind.i64.wrap (k1 + (1 : Int))) + (1 : Int)), r4.2.2.2.1, r4.2.2.2.2.1, r4.2.2.2.2.2.1, r4.2.2.2.2.2.2.1, r4.2.2.2.2.2.2.2.1, r4.2.2.2.2.2.2.2.2.1, r4.2.2.2.2.2.2.2.2.2.1, r4.2.2.2.2.2.2.2.2.2.2.1, r4.2.2.2.2.2.2.2.2.2.2.2.1, r4.2.2.2.2.2.2.2.2.2.2.2.2.1, r4.2.2.2.2.2.2.2.2.2.2.2.2.2.1, r4.2.2.2.2.2.2.2.2.2.2.2.2.2.2.1, r4.2.2.2.2.2.2.2.2.2.2.2.2.2.2.2.1, r4.2.2.2.2.2.2.2.2.2.2.2.2.2.2.2.2.1, ()))) then Option.bind ((List.set l3 (Int.toNat i5) (r4.1, r4.2.1, IntKind.i64.wrap ((IntKind.i64.wrap (k1 + (1 : Int))) + (1 : Int)), r4.2.2.2.1, r4.2.2.2.2.1, r4.2.2.2.2.2.1, r4.2.2.2.2.2.2.1, r4.2.2.2.2.2.2.2.1, r4.2.2.2.2.2.2.2.2.1, r4.2.2.2.2.2.2.2.2.2.1, r4.2.2.2.2.2.2.2.2.2.2.1, r4.2.2.2.2.2.2.2.2.2.2.2.1, r4.2.2.2.2.2.2.2.2.2.2.2.2.1, r4.2.2.2.2.2.2.2.2.2.2.2.2.2.1, r4.2.2.2.2.2.2.2.2.2.2.2.2.2.2.1, r4.2.2.2.2.2.2.2.2.2.2.2.2.2.2.2.1, r4.2.2.2.2.2.2.2.2.2.2.2.2.2.2.2.2.1, ()))[Int.toNat i5]?) fun r5 =>
                    (fun l6 : List (Int × Int × Int × Int × Int × Int × ByteArray × Int × Int × Int × Int × Int × (List (Int × Unit)) × Int × Int × Int × (List R_iiis) × Unit) =>
                    bif decide ((0 : Int) ≤ i5) then bif Nat.blt (Int.toNat i5) (List.length l6) then Option.bind ((l6)[Int.toNat i5]?) fun r7 =>
                        bif decide ((0 : Int) ≤ i5) then bif Nat.blt (Int.toNat i5) (List.length (List.set l6 (Int.toNat i5) (r7.1, r7.2.1, r7.2.2.1, r7.2.2.2.1, IntKind.i64.wrap ((IntKind.i64.wrap ((IntKind.i64.wrap ((IntKind.i64.wrap (k1 + (1 : Int))) + (1 : Int))) + (1 : Int))) + (1 : Int)), r7.2.2.2.2.2.1, r7.2.2.2.2.2.2.1, r7.2.2.2.2.2.2.2.1, r7.2.2.2.2.2.2.2.2.1, r7.2.2.2.2.2.2.2.2.2.1, r7.2.2.2.2.2.2.2.2.2.2.1, r7.2.2.2.2.2.2.2.2.2.2.2.1, r7.2.2.2.2.2.2.2.2.2.2.2.2.1, r7.2.2.2.2.2.2.2.2.2.2.2.2.2.1, r7.2.2.2.2.2.2.2.2.2.2.2.2.2.2.1, r7.2.2.2.2.2.2.2.2.2.2.2.2.2.2.2.1, r7.2.2.2.2.2.2.2.2.2.2.2.2.2.2.2.2.1, ()))) then Option.bind ((List.set l6 (Int.toNat i5) (r7.1, r7.2.1, r7.2.2.1, r7.2.2.2.1, IntKind.i64.wrap ((IntKind.i64.wrap ((IntKind.i64.wrap ((IntKind.i64.wrap (k1 + (1 : Int))) + (1 : Int))) + (1 : Int))) + (1 : Int)), r7.2.2.2.2.2.1, r7.2.2.2.2.2.2.1, r7.2.2.2.2.2.2.2.1, r7.2.2.2.2.2.2.2.2.1, r7.2.2.2.2.2.2.2.2.2.1, r7.2.2.2.2.2.2.2.2.2.2.1, r7.2.2.2.2.2.2.2.2.2.2.2.1, r7.2.2.2.2.2.2.2.2.2.2.2.2.1, r7.2.2.2.2.2.2.2.2.2.2.2.2.2.1, r7.2.2.2.2.2.2.2.2.2.2.2.2.2.2.1, r7.2.2.2.2.2.2.2.2.2.2.2.2.2.2.2.1, r7.2.2.2.2.2.2.2.2.2.2.2.2.2.2.2.2.1, ()))[Int.toNat i5]?) fun r8 =>
                            (fun l9 : List (Int × Int × Int × Int × Int × Int × ByteArray × Int × Int × Int × Int × Int × (List (Int × Unit)) × Int × Int × Int × (List R_iiis) × Unit) =>
                            Option.bind (laws_markText (IntKind.i64.wrap ((IntKind.i64.wrap ((IntKind.i64.wrap ((IntKind.i64.wrap ((IntKind.i64.wrap ((IntKind.i64.wrap (k1 + (1 : Int))) + (1 : Int))) + (1 : Int))) + (1 : Int))) + (1 : Int))) + (1 : Int)))) fun y10 =>
                            bif decide ((0 : Int) ≤ i5) then bif Nat.blt (Int.toNat i5) (List.length l9) then Option.bind ((l9)[Int.toNat i5]?) fun r11 =>
                                bif decide ((0 : Int) ≤ i5) then bif Nat.blt (Int.toNat i5) (List.length (List.set l9 (Int.toNat i5) (r11.1, r11.2.1, r11.2.2.1, r11.2.2.2.1, r11.2.2.2.2.1, r11.2.2.2.2.2.1, y10.1, r11.2.2.2.2.2.2.2.1, r11.2.2.2.2.2.2.2.2.1, r11.2.2.2.2.2.2.2.2.2.1, r11.2.2.2.2.2.2.2.2.2.2.1, r11.2.2.2.2.2.2.2.2.2.2.2.1, r11.2.2.2.2.2.2.2.2.2.2.2.2.1, r11.2.2.2.2.2.2.2.2.2.2.2.2.2.1, r11.2.2.2.2.2.2.2.2.2.2.2.2.2.2.1, r11.2.2.2.2.2.2.2.2.2.2.2.2.2.2.2.1, r11.2.2.2.2.2.2.2.2.2.2.2.2.2.2.2.2.1, ()))) then Option.bind ((List.set l9 (Int.toNat i5) (r11.1, r11.2.1, r11.2.2.1, r11.2.2.2.1, r11.2.2.2.2.1, r11.2.2.2.2.2.1, y10.1, r11.2.2.2.2.2.2.2.1, r11.2.2.2.2.2.2.2.2.1, r11.2.2.2.2.2.2.2.2.2.1, r11.2.2.2.2.2.2.2.2.2.2.1, r11.2.2.2.2.2.2.2.2.2.2.2.1, r11.2.2.2.2.2.2.2.2.2.2.2.2.1, r11.2.2.2.2.2.2.2.2.2.2.2.2.2.1, r11.2.2.2.2.2.2.2.2.2.2.2.2.2.2.1, r11.2.2.2.2.2.2.2.2.2.2.2.2.2.2.2.1, r11.2.2.2.2.2.2.2.2.2.2.2.2.2.2.2.2.1, ()))[Int.toNat i5]?) fun r12 =>
                                    (fun l13 : List (Int × Int × Int × Int × Int × Int × ByteArray × Int × Int × Int × Int × Int × (List (Int × Unit)) × Int × Int × Int × (List R_iiis) × Unit) =>
                                    bif decide ((0 : Int) ≤ i5) then bif Nat.blt (Int.toNat i5) (List.length l13) then Option.bind ((l13)[Int.toNat i5]?) fun r14 =>
                                        (fun l15 : List (Int × Int × Int × Int × Int × Int × ByteArray × Int × Int × Int × Int × Int × (List (Int × Unit)) × Int × Int × Int × (List R_iiis) × Unit) =>
                                        bif decide ((0 : Int) ≤ i5) then bif Nat.blt (Int.toNat i5) (List.length l15) then Option.bind ((l15)[Int.toNat i5]?) fun r16 =>
                                            (fun l17 : List (Int × Int × Int × Int × Int × Int × ByteArray × Int × Int × Int × Int × Int × (List (Int × Unit)) × Int × Int × Int × (List R_iiis) × Unit) =>
                                            bif decide ((0 : Int) ≤ i5) then bif Nat.blt (Int.toNat i5) (List.length l17) then Option.bind ((l17)[Int.toNat i5]?) fun r18 =>
                                                (fun l19 : List (Int × Int × Int × Int × Int × Int × ByteArray × Int × Int × Int × Int × Int × (List (Int × Unit)) × Int × Int × Int × (List R_iiis) × Unit) =>
                                                bif decide ((0 : Int) ≤ i5) then bif Nat.blt (Int.toNat i5) (List.length l19) then Option.bind ((l19)[Int.toNat i5]?) fun r20 =>
                                                    (fun l21 : List (Int × Int × Int × Int × Int × Int × ByteArray × Int × Int × Int × Int × Int × (List (Int × Unit)) × Int × Int × Int × (List R_iiis) × Unit) =>
                                                    bif decide ((0 : Int) ≤ i5) then bif Nat.blt (Int.toNat i5) (List.length l21) then Option.bind ((l21)[Int.toNat i5]?) fun r22 =>
                                                        Option.bind (laws_markIntS r22.2.2.2.2.2.2.2.2.2.2.2.2.1 (IntKind.i64.wrap ((IntKind.i64.wrap ((IntKind.i64.wrap ((IntKind.i64.wrap ((IntKind.i64.wrap ((IntKind.i64.wrap ((IntKind.i64.wrap ((IntKind.i64.wrap ((IntKind.i64.wrap ((IntKind.i64.wrap ((IntKind.i64.wrap ((IntKind.i64.wrap (k1 + (1 : Int))) + (1 : Int))) + (1 : Int))) + (1 : Int))) + (1 : Int))) + (1 : Int))) + (1 : Int))) + (1 : Int))) + (1 : Int))) + (1 : Int))) + (1 : Int))) + (1 : Int)))) fun y23 =>
                                                        Option.bind ((l21)[Int.toNat i5]?) fun r24 =>
                                                        bif decide ((0 : Int) ≤ i5) then bif Nat.blt (Int.toNat i5) (List.length (List.set l21 (Int.toNat i5) (r24.1, r24.2.1, r24.2.2.1, r24.2.2.2.1, r24.2.2.2.2.1, r24.2.2.2.2.2.1, r24.2.2.2.2.2.2.1, r24.2.2.2.2.2.2.2.1, r24.2.2.2.2.2.2.2.2.1, r24.2.2.2.2.2.2.2.2.2.1, r24.2.2.2.2.2.2.2.2.2.2.1, r24.2.2.2.2.2.2.2.2.2.2.2.1, y23.2.1, r24.2.2.2.2.2.2.2.2.2.2.2.2.2.1, r24.2.2.2.2.2.2.2.2.2.2.2.2.2.2.1, r24.2.2.2.2.2.2.2.2.2.2.2.2.2.2.2.1, r24.2.2.2.2.2.2.2.2.2.2.2.2.2.2.2.2.1, ()))) then Option.bind ((List.set l21 (Int.toNat i5) (r24.1, r24.2.1, r24.2.2.1, r24.2.2.2.1, r24.2.2.2.2.1, r24.2.2.2.2.2.1, r24.2.2.2.2.2.2.1, r24.2.2.2.2.2.2.2.1, r24.2.2.2.2.2.2.2.2.1, r24.2.2.2.2.2.2.2.2.2.1, r24.2.2.2.2.2.2.2.2.2.2.1, r24.2.2.2.2.2.2.2.2.2.2.2.1, y23.2.1, r24.2.2.2.2.2.2.2.2.2.2.2.2.2.1, r24.2.2.2.2.2.2.2.2.2.2.2.2.2.2.1, r24.2.2.2.2.2.2.2.2.2.2.2.2.2.2.2.1, r24.2.2.2.2.2.2.2.2.2.2.2.2.2.2.2.2.1, ()))[Int.toNat i5]?) fun r25 =>
                                                            (fun l26 : List (Int × Int × Int × Int × Int × Int × ByteArray × Int × Int × Int × Int × Int × (List (Int × Unit)) × Int × Int × Int × (List R_iiis) × Unit) =>
                                                            bif decide ((0 : Int) ≤ i5) then bif Nat.blt (Int.toNat i5) (List.length l26) then Option.bind ((l26)[Int.toNat i5]?) fun r27 =>
                                                                bif decide ((0 : Int) ≤ i5) then bif Nat.blt (Int.toNat i5) (List.length (List.set l26 (Int.toNat i5) (r27.1, r27.2.1, r27.2.2.1, r27.2.2.2.1, r27.2.2.2.2.1, r27.2.2.2.2.2.1, r27.2.2.2.2.2.2.1, r27.2.2.2.2.2.2.2.1, r27.2.2.2.2.2.2.2.2.1, r27.2.2.2.2.2.2.2.2.2.1, r27.2.2.2.2.2.2.2.2.2.2.1, r27.2.2.2.2.2.2.2.2.2.2.2.1, r27.2.2.2.2.2.2.2.2.2.2.2.2.1, r27.2.2.2.2.2.2.2.2.2.2.2.2.2.1, IntKind.i64.wrap (y23.1 + (1 : Int)), r27.2.2.2.2.2.2.2.2.2.2.2.2.2.2.2.1, r27.2.2.2.2.2.2.2.2.2.2.2.2.2.2.2.2.1, ()))) then Option.bind ((List.set l26 (Int.toNat i5) (r27.1, r27.2.1, r27.2.2.1, r27.2.2.2.1, r27.2.2.2.2.1, r27.2.2.2.2.2.1, r27.2.2.2.2.2.2.1, r27.2.2.2.2.2.2.2.1, r27.2.2.2.2.2.2.2.2.1, r27.2.2.2.2.2.2.2.2.2.1, r27.2.2.2.2.2.2.2.2.2.2.1, r27.2.2.2.2.2.2.2.2.2.2.2.1, r27.2.2.2.2.2.2.2.2.2.2.2.2.1, r27.2.2.2.2.2.2.2.2.2.2.2.2.2.1, IntKind.i64.wrap (y23.1 + (1 : Int)), r27.2.2.2.2.2.2.2.2.2.2.2.2.2.2.2.1, r27.2.2.2.2.2.2.2.2.2.2.2.2.2.2.2.2.1, ()))[Int.toNat i5]?) fun r28 =>
                                                                    (fun l29 : List (Int × Int × Int × Int × Int × Int × ByteArray × Int × Int × Int × Int × Int × (List (Int × Unit)) × Int × Int × Int × (List R_iiis) × Unit) =>
                                                                    bif decide ((0 : Int) ≤ i5) then bif Nat.blt (Int.toNat i5) (List.length l29) then Option.bind ((l29)[Int.toNat i5]?) fun r30 =>
                                                                        Option.bind (laws_markItemS r30.2.2.2.2.2.2.2.2.2.2.2.2.2.2.2.2.1 (IntKind.i64.wrap ((IntKind.i64.wrap ((IntKind.i64.wrap (y23.1 + (1 : Int))) + (1 : Int))) + (1 : Int)))) fun y31 =>
                                                                        Option.bind ((l29)[Int.toNat i5]?) fun r32 =>
                                                                        some (.inl (List.set l29 (Int.toNat i5) (r32.1, r32.2.1, r32.2.2.1, r32.2.2.2.1, r32.2.2.2.2.1, r32.2.2.2.2.2.1, r32.2.2.2.2.2.2.1, r32.2.2.2.2.2.2.2.1, r32.2.2.2.2.2.2.2.2.1, r32.2.2.2.2.2.2.2.2.2.1, r32.2.2.2.2.2.2.2.2.2.2.1, r32.2.2.2.2.2.2.2.2.2.2.2.1, r32.2.2.2.2.2.2.2.2.2.2.2.2.1, r32.2.2.2.2.2.2.2.2.2.2.2.2.2.1, r32.2.2.2.2.2.2.2.2.2.2.2.2.2.2.1, r32.2.2.2.2.2.2.2.2.2.2.2.2.2.2.2.1, y31.2.1, ()), y31.1, IntKind.i64.wrap (i5 + (1 : Int)), ()))
                                                                      else none
                                                                    else none) (List.set (List.set l26 (Int.toNat i5) (r27.1, r27.2.1, r27.2.2.1, r27.2.2.2.1, r27.2.2.2.2.1, r27.2.2.2.2.2.1, r27.2.2.2.2.2.2.1, r27.2.2.2.2.2.2.2.1, r27.2.2.2.2.2.2.2.2.1, r27.2.2.2.2.2.2.2.2.2.1, r27.2.2.2.2.2.2.2.2.2.2.1, r27.2.2.2.2.2.2.2.2.2.2.2.1, r27.2.2.2.2.2.2.2.2.2.2.2.2.1, r27.2.2.2.2.2.2.2.2.2.2.2.2.2.1, IntKind.i64.wrap (y23.1 + (1 : Int)), r27.2.2.2.2.2.2.2.2.2.2.2.2.2.2.2.1, r27.2.2.2.2.2.2.2.2.2.2.2.2.2.2.2.2.1, ())) (Int.toNat i5) (r28.1, r28.2.1, r28.2.2.1, r28.2.2.2.1, r28.2.2.2.2.1, r28.2.2.2.2.2.1, r28.2.2.2.2.2.2.1, r28.2.2.2.2.2.2.2.1, r28.2.2.2.2.2.2.2.2.1, r28.2.2.2.2.2.2.2.2.2.1, r28.2.2.2.2.2.2.2.2.2.2.1, r28.2.2.2.2.2.2.2.2.2.2.2.1, r28.2.2.2.2.2.2.2.2.2.2.2.2.1, r28.2.2.2.2.2.2.2.2.2.2.2.2.2.1, r28.2.2.2.2.2.2.2.2.2.2.2.2.2.2.1, IntKind.i64.wrap ((IntKind.i64.wrap (y23.1 + (1 : Int))) + (1 : Int)), r28.2.2.2.2.2.2.2.2.2.2.2.2.2.2.2.2.1, ()))
                                                                  else none
                                                                else none
                                                              else none
                                                            else none) (List.set (List.set l21 (Int.toNat i5) (r24.1, r24.2.1, r24.2.2.1, r24.2.2.2.1, r24.2.2.2.2.1, r24.2.2.2.2.2.1, r24.2.2.2.2.2.2.1, r24.2.2.2.2.2.2.2.1, r24.2.2.2.2.2.2.2.2.1, r24.2.2.2.2.2.2.2.2.2.1, r24.2.2.2.2.2.2.2.2.2.2.1, r24.2.2.2.2.2.2.2.2.2.2.2.1, y23.2.1, r24.2.2.2.2.2.2.2.2.2.2.2.2.2.1, r24.2.2.2.2.2.2.2.2.2.2.2.2.2.2.1, r24.2.2.2.2.2.2.2.2.2.2.2.2.2.2.2.1, r24.2.2.2.2.2.2.2.2.2.2.2.2.2.2.2.2.1, ())) (Int.toNat i5) (r25.1, r25.2.1, r25.2.2.1, r25.2.2.2.1, r25.2.2.2.2.1, r25.2.2.2.2.2.1, r25.2.2.2.2.2.2.1, r25.2.2.2.2.2.2.2.1, r25.2.2.2.2.2.2.2.2.1, r25.2.2.2.2.2.2.2.2.2.1, r25.2.2.2.2.2.2.2.2.2.2.1, r25.2.2.2.2.2.2.2.2.2.2.2.1, r25.2.2.2.2.2.2.2.2.2.2.2.2.1, y23.1, r25.2.2.2.2.2.2.2.2.2.2.2.2.2.2.1, r25.2.2.2.2.2.2.2.2.2.2.2.2.2.2.2.1, r25.2.2.2.2.2.2.2.2.2.2.2.2.2.2.2.2.1, ()))
                                                          else none
                                                        else none
                                                      else none
                                                    else none) (List.set l19 (Int.toNat i5) (r20.1, r20.2.1, r20.2.2.1, r20.2.2.2.1, r20.2.2.2.2.1, r20.2.2.2.2.2.1, r20.2.2.2.2.2.2.1, r20.2.2.2.2.2.2.2.1, r20.2.2.2.2.2.2.2.2.1, r20.2.2.2.2.2.2.2.2.2.1, r20.2.2.2.2.2.2.2.2.2.2.1, IntKind.i64.wrap ((IntKind.i64.wrap ((IntKind.i64.wrap ((IntKind.i64.wrap ((IntKind.i64.wrap ((IntKind.i64.wrap ((IntKind.i64.wrap ((IntKind.i64.wrap ((IntKind.i64.wrap ((IntKind.i64.wrap ((IntKind.i64.wrap (k1 + (1 : Int))) + (1 : Int))) + (1 : Int))) + (1 : Int))) + (1 : Int))) + (1 : Int))) + (1 : Int))) + (1 : Int))) + (1 : Int))) + (1 : Int))) + (1 : Int)), r20.2.2.2.2.2.2.2.2.2.2.2.2.1, r20.2.2.2.2.2.2.2.2.2.2.2.2.2.1, r20.2.2.2.2.2.2.2.2.2.2.2.2.2.2.1, r20.2.2.2.2.2.2.2.2.2.2.2.2.2.2.2.1, r20.2.2.2.2.2.2.2.2.2.2.2.2.2.2.2.2.1, ()))
                                                  else none
                                                else none) (List.set l17 (Int.toNat i5) (r18.1, r18.2.1, r18.2.2.1, r18.2.2.2.1, r18.2.2.2.2.1, r18.2.2.2.2.2.1, r18.2.2.2.2.2.2.1, r18.2.2.2.2.2.2.2.1, r18.2.2.2.2.2.2.2.2.1, r18.2.2.2.2.2.2.2.2.2.1, IntKind.i64.wrap ((IntKind.i64.wrap ((IntKind.i64.wrap ((IntKind.i64.wrap ((IntKind.i64.wrap ((IntKind.i64.wrap ((IntKind.i64.wrap ((IntKind.i64.wrap ((IntKind.i64.wrap ((IntKind.i64.wrap (k1 + (1 : Int))) + (1 : Int))) + (1 : Int))) + (1 : Int))) + (1 : Int))) + (1 : Int))) + (1 : Int))) + (1 : Int))) + (1 : Int))) + (1 : Int)), r18.2.2.2.2.2.2.2.2.2.2.2.1, r18.2.2.2.2.2.2.2.2.2.2.2.2.1, r18.2.2.2.2.2.2.2.2.2.2.2.2.2.1, r18.2.2.2.2.2.2.2.2.2.2.2.2.2.2.1, r18.2.2.2.2.2.2.2.2.2.2.2.2.2.2.2.1, r18.2.2.2.2.2.2.2.2.2.2.2.2.2.2.2.2.1, ()))
                                              else none
                                            else none) (List.set l15 (Int.toNat i5) (r16.1, r16.2.1, r16.2.2.1, r16.2.2.2.1, r16.2.2.2.2.1, r16.2.2.2.2.2.1, r16.2.2.2.2.2.2.1, r16.2.2.2.2.2.2.2.1, r16.2.2.2.2.2.2.2.2.1, IntKind.i64.wrap ((IntKind.i64.wrap ((IntKind.i64.wrap ((IntKind.i64.wrap ((IntKind.i64.wrap ((IntKind.i64.wrap ((IntKind.i64.wrap ((IntKind.i64.wrap ((IntKind.i64.wrap (k1 + (1 : Int))) + (1 : Int))) + (1 : Int))) + (1 : Int))) + (1 : Int))) + (1 : Int))) + (1 : Int))) + (1 : Int))) + (1 : Int)), r16.2.2.2.2.2.2.2.2.2.2.1, r16.2.2.2.2.2.2.2.2.2.2.2.1, r16.2.2.2.2.2.2.2.2.2.2.2.2.1, r16.2.2.2.2.2.2.2.2.2.2.2.2.2.1, r16.2.2.2.2.2.2.2.2.2.2.2.2.2.2.1, r16.2.2.2.2.2.2.2.2.2.2.2.2.2.2.2.1, r16.2.2.2.2.2.2.2.2.2.2.2.2.2.2.2.2.1, ()))
                                          else none
                                        else none) (List.set l13 (Int.toNat i5) (r14.1, r14.2.1, r14.2.2.1, r14.2.2.2.1, r14.2.2.2.2.1, r14.2.2.2.2.2.1, r14.2.2.2.2.2.2.1, r14.2.2.2.2.2.2.2.1, IntKind.i64.wrap ((IntKind.i64.wrap ((IntKind.i64.wrap ((IntKind.i64.wrap ((IntKind.i64.wrap ((IntKind.i64.wrap ((IntKind.i64.wrap ((IntKind.i64.wrap (k1 + (1 : Int))) + (1 : Int))) + (1 : Int))) + (1 : Int))) + (1 : Int))) + (1 : Int))) + (1 : Int))) + (1 : Int)), r14.2.2.2.2.2.2.2.2.2.1, r14.2.2.2.2.2.2.2.2.2.2.1, r14.2.2.2.2.2.2.2.2.2.2.2.1, r14.2.2.2.2.2.2.2.2.2.2.2.2.1, r14.2.2.2.2.2.2.2.2.2.2.2.2.2.1, r14.2.2.2.2.2.2.2.2.2.2.2.2.2.2.1, r14.2.2.2.2.2.2.2.2.2.2.2.2.2.2.2.1, r14.2.2.2.2.2.2.2.2.2.2.2.2.2.2.2.2.1, ()))
                                      else none
                                    else none) (List.set (List.set l9 (Int.toNat i5) (r11.1, r11.2.1, r11.2.2.1, r11.2.2.2.1, r11.2.2.2.2.1, r11.2.2.2.2.2.1, y10.1, r11.2.2.2.2.2.2.2.1, r11.2.2.2.2.2.2.2.2.1, r11.2.2.2.2.2.2.2.2.2.1, r11.2.2.2.2.2.2.2.2.2.2.1, r11.2.2.2.2.2.2.2.2.2.2.2.1, r11.2.2.2.2.2.2.2.2.2.2.2.2.1, r11.2.2.2.2.2.2.2.2.2.2.2.2.2.1, r11.2.2.2.2.2.2.2.2.2.2.2.2.2.2.1, r11.2.2.2.2.2.2.2.2.2.2.2.2.2.2.2.1, r11.2.2.2.2.2.2.2.2.2.2.2.2.2.2.2.2.1, ())) (Int.toNat i5) (r12.1, r12.2.1, r12.2.2.1, r12.2.2.2.1, r12.2.2.2.2.1, r12.2.2.2.2.2.1, r12.2.2.2.2.2.2.1, IntKind.i64.wrap ((IntKind.i64.wrap ((IntKind.i64.wrap ((IntKind.i64.wrap ((IntKind.i64.wrap ((IntKind.i64.wrap ((IntKind.i64.wrap (k1 + (1 : Int))) + (1 : Int))) + (1 : Int))) + (1 : Int))) + (1 : Int))) + (1 : Int))) + (1 : Int)), r12.2.2.2.2.2.2.2.2.1, r12.2.2.2.2.2.2.2.2.2.1, r12.2.2.2.2.2.2.2.2.2.2.1, r12.2.2.2.2.2.2.2.2.2.2.2.1, r12.2.2.2.2.2.2.2.2.2.2.2.2.1, r12.2.2.2.2.2.2.2.2.2.2.2.2.2.1, r12.2.2.2.2.2.2.2.2.2.2.2.2.2.2.1, r12.2.2.2.2.2.2.2.2.2.2.2.2.2.2.2.1, r12.2.2.2.2.2.2.2.2.2.2.2.2.2.2.2.2.1, ()))
                                  else none
                                else none
                              else none
                            else none) (List.set (List.set l6 (Int.toNat i5) (r7.1, r7.2.1, r7.2.2.1, r7.2.2.2.1, IntKind.i64.wrap ((IntKind.i64.wrap ((IntKind.i64.wrap ((IntKind.i64.wrap (k1 + (1 : Int))) + (1 : Int))) + (1 : Int))) + (1 : Int)), r7.2.2.2.2.2.1, r7.2.2.2.2.2.2.1, r7.2.2.2.2.2.2.2.1, r7.2.2.2.2.2.2.2.2.1, r7.2.2.2.2.2.2.2.2.2.1, r7.2.2.2.2.2.2.2.2.2.2.1, r7.2.2.2.2.2.2.2.2.2.2.2.1, r7.2.2.2.2.2.2.2.2.2.2.2.2.1, r7.2.2.2.2.2.2.2.2.2.2.2.2.2.1, r7.2.2.2.2.2.2.2.2.2.2.2.2.2.2.1, r7.2.2.2.2.2.2.2.2.2.2.2.2.2.2.2.1, r7.2.2.2.2.2.2.2.2.2.2.2.2.2.2.2.2.1, ())) (Int.toNat i5) (r8.1, r8.2.1, r8.2.2.1, r8.2.2.2.1, r8.2.2.2.2.1, IntKind.i64.wrap ((IntKind.i64.wrap ((IntKind.i64.wrap ((IntKind.i64.wrap ((IntKind.i64.wrap (k1 + (1 : Int))) + (1 : Int))) + (1 : Int))) + (1 : Int))) + (1 : Int)), r8.2.2.2.2.2.2.1, r8.2.2.2.2.2.2.2.1, r8.2.2.2.2.2.2.2.2.1, r8.2.2.2.2.2.2.2.2.2.1, r8.2.2.2.2.2.2.2.2.2.2.1, r8.2.2.2.2.2.2.2.2.2.2.2.1, r8.2.2.2.2.2.2.2.2.2.2.2.2.1, r8.2.2.2.2.2.2.2.2.2.2.2.2.2.1, r8.2.2.2.2.2.2.2.2.2.2.2.2.2.2.1, r8.2.2.2.2.2.2.2.2.2.2.2.2.2.2.2.1, r8.2.2.2.2.2.2.2.2.2.2.2.2.2.2.2.2.1, ()))
                          else none
                        else none
                      else none
                    else none) (List.set (List.set l3 (Int.toNat i5) (r4.1, r4.2.1, IntKind.i64.wrap ((IntKind.i64.wrap (k1 + (1 : Int))) + (1 : Int)), r4.2.2.2.1, r4.2.2.2.2.1, r4.2.2.2.2.2.1, r4.2.2.2.2.2.2.1, r4.2.2.2.2.2.2.2.1, r4.2.2.2.2.2.2.2.2.1, r4.2.2.2.2.2.2.2.2.2.1, r4.2.2.2.2.2.2.2.2.2.2.1, r4.2.2.2.2.2.2.2.2.2.2.2.1, r4.2.2.2.2.2.2.2.2.2.2.2.2.1, r4.2.2.2.2.2.2.2.2.2.2.2.2.2.1, r4.2.2.2.2.2.2.2.2.2.2.2.2.2.2.1, r4.2.2.2.2.2.2.2.2.2.2.2.2.2.2.2.1, r4.2.2.2.2.2.2.2.2.2.2.2.2.2.2.2.2.1, ())) (Int.toNat i5) (r5.1, r5.2.1, r5.2.2.1, IntKind.i64.wrap ((IntKind.i64.wrap ((IntKind.i64.wrap (k1 + (1 : Int))) + (1 : Int))) + (1 : Int)), r5.2.2.2.2.1, r5.2.2.2.2.2.1, r5.2.2.2.2.2.2.1, r5.2.2.2.2.2.2.2.1, r5.2.2.2.2.2.2.2.2.1, r5.2.2.2.2.2.2.2.2.2.1, r5.2.2.2.2.2.2.2.2.2.2.1, r5.2.2.2.2.2.2.2.2.2.2.2.1, r5.2.2.2.2.2.2.2.2.2.2.2.2.1, r5.2.2.2.2.2.2.2.2.2.2.2.2.2.1, r5.2.2.2.2.2.2.2.2.2.2.2.2.2.2.1, r5.2.2.2.2.2.2.2.2.2.2.2.2.2.2.2.1, r5.2.2.2.2.2.2.2.2.2.2.2.2.2.2.2.2.1, ()))
                  else none
                else none
              else none
            else none) (List.set (List.set a0 (Int.toNat i5) (k1, r1.2.1, r1.2.2.1, r1.2.2.2.1, r1.2.2.2.2.1, r1.2.2.2.2.2.1, r1.2.2.2.2.2.2.1, r1.2.2.2.2.2.2.2.1, r1.2.2.2.2.2.2.2.2.1, r1.2.2.2.2.2.2.2.2.2.1, r1.2.2.2.2.2.2.2.2.2.2.1, r1.2.2.2.2.2.2.2.2.2.2.2.1, r1.2.2.2.2.2.2.2.2.2.2.2.2.1, r1.2.2.2.2.2.2.2.2.2.2.2.2.2.1, r1.2.2.2.2.2.2.2.2.2.2.2.2.2.2.1, r1.2.2.2.2.2.2.2.2.2.2.2.2.2.2.2.1, r1.2.2.2.2.2.2.2.2.2.2.2.2.2.2.2.2.1, ())) (Int.toNat i5) (r2.1, IntKind.i64.wrap (k1 + (1 : Int)), r2.2.2.1, r2.2.2.2.1, r2.2.2.2.2.1, r2.2.2.2.2.2.1, r2.2.2.2.2.2.2.1, r2.2.2.2.2.2.2.2.1, r2.2.2.2.2.2.2.2.2.1, r2.2.2.2.2.2.2.2.2.2.1, r2.2.2.2.2.2.2.2.2.2.2.1, r2.2.2.2.2.2.2.2.2.2.2.2.1, r2.2.2.2.2.2.2.2.2.2.2.2.2.1, r2.2.2.2.2.2.2.2.2.2.2.2.2.2.1, r2.2.2.2.2.2.2.2.2.2.2.2.2.2.2.1, r2.2.2.2.2.2.2.2.2.2.2.2.2.2.2.2.1, r2.2.2.2.2.2.2.2.2.2.2.2.2.2.2.2.2.1, ()))
          else none
        else none
      else none
    else none
  else
    some (.inr (.inl (a0, k1, ())))
noncomputable def laws_markLetterS_r0 (x : H92_0) : Option (Sum H92_0 (Sum E92_0 Q92_0)) := laws_markLetterS_c0 x.1 x.2.1 x.2.2.1
noncomputable def L92 {R : Type} : Loops R := fun id _ st k => bif Nat.beq id 0 then loopAt hp92_0 e92_0 q92_0 laws_markLetterS_r0 st k else none
noncomputable def laws_markLetterS (a0 : List R_iiiiiisiiiiiLiEiiiLiiisE) (k1 : Int) : Option (Int × (List R_iiiiiisiiiiiLiEiiiLiiisE) × Unit) :=
  outK (loopV laws_markLetterS_r0 (a0, k1, (0 : Int), ())) (fun y1 =>
    some (y1.2.1, y1.1, ())) (fun y2 =>
    none)
noncomputable def x92 (x : (List R_iiiiiisiiiiiLiEiiiLiiisE) × Int × Unit) : Option (Int × (List R_iiiiiisiiiiiLiEiiiLiiisE) × Unit) := laws_markLetterS x.1 x.2.1
noncomputable def sem92 : Sem1 := semOf ps92 rs92 x92
theorem so92 : SemsOk Try.prog (semsOf sl92) := sems_cons k107 (sems_cons k75 (sems_cons k35 (sems_nil)))
noncomputable def b92_0 : Code := nthLoop code92 0
theorem t92_r0_eq (x : denR (headRT hp92_0)) : codeK (tabOf tr) (semsOf sl92) D92 L92 b92_0 (headSt hp92_0 x) (roundK 0 hp92_0 e92_0 q92_0) = laws_markLetterS_r0 x := by kernel_rfl
theorem loop92_0 {R : Type} (r : R) (w0 : World) (mu : Mu) (hs : AnShape ps92 mu) : LoopAt Try.prog w0 mu 147 (L92 : Loops R) r 0 b92_0 :=
  loop_auto tr_ok eq_ok mixed_ok so92 (D := D92) hs (by kernel_rfl) (fun _ => (loops_of (l := []) (by kernel_rfl) (List.forall_mem_nil _))) t92_r0_eq (fun _ _ => rfl)
theorem t92_eq (x : denR (headRT (ps92.map some))) : codeK (tabOf tr) (semsOf sl92) D92 L92 code92 (start 147 ps92 x) (finK rs92 ps92) = x92 x := by kernel_rfl
theorem k92 : Known Try.prog 92 sem92 :=
  fn_auto tr_ok eq_ok mixed_ok so92 (D := D92) (code := code92) (n := 147) Try.func92 (by kernel_rfl) (by kernel_rfl) (by kernel_rfl) (fun w0 mu _ hs => (loops_of (l := [(0, b92_0)]) (by kernel_rfl) (List.forall_mem_cons.2 ⟨loop92_0 _ w0 mu hs, (List.forall_mem_nil _)⟩))) t92_eq

/-! ### f26: laws.markWorld -/
noncomputable def code26 : Code := match Try.f26.body with | some c => c | none => .skip
def ps26 : List AP := [.lend [.own T_iLiE .dp, .own T_ibiiLiELiiisELiELsEiiiiiiiiiLiEiiiLiELiiiLiiisEELiiLiEiiisLiEE .dp, .own T_iiiiiisiiiiiLiEiiiLiiisE .dp, .own T_iiLiEiiisLiE .dp], .val false [.int .i64]]
def rs26 : List RP := [{ src := .tmp 4, agg := false, ps := [.int .i64] }]
noncomputable def sl26 : SemL := [(25, (.io, .shr, .shr, sem25)), (91, (.io, .shr, .shr, sem91)), (92, (.io, .shr, .shr, sem92)), (93, (.io, .shr, .shr, sem93))]
def D26 : Draws := fun _ => .nil
noncomputable def L26 {R : Type} : Loops R := fun _ _ _ _ => none
noncomputable def laws_markWorld (a0c0 : List R_iLiE) (a0c1 : List R_ibiiLiELiiisELiELsEiiiiiiiiiLiEiiiLiELiiiLiiisEELiiLiEiiisLiEE) (a0c2 : List R_iiiiiisiiiiiLiEiiiLiiisE) (a0c3 : List R_iiLiEiiisLiE) (k1 : Int) : Option (Int × (List R_iLiE) × (List R_ibiiLiELiiisELiELsEiiiiiiiiiLiEiiiLiELiiiLiiisEELiiLiEiiisLiEE) × (List R_iiiiiisiiiiiLiEiiiLiiisE) × (List R_iiLiEiiisLiE) × Unit) :=
  Option.bind (laws_markRingS a0c0 k1) fun y1 =>
  Option.bind (laws_markDaemonS a0c1 y1.1) fun y2 =>
  Option.bind (laws_markLetterS a0c2 y2.1) fun y3 =>
  Option.bind (laws_markEventS a0c3 y3.1) fun y4 =>
  some (y4.1, y1.2.1, y2.2.1, y3.2.1, y4.2.1, ())
noncomputable def x26 (x : (List R_iLiE) × (List R_ibiiLiELiiisELiELsEiiiiiiiiiLiEiiiLiELiiiLiiisEELiiLiEiiisLiEE) × (List R_iiiiiisiiiiiLiEiiiLiiisE) × (List R_iiLiEiiisLiE) × Int × Unit) : Option (Int × (List R_iLiE) × (List R_ibiiLiELiiisELiELsEiiiiiiiiiLiEiiiLiELiiiLiiisEELiiLiEiiisLiEE) × (List R_iiiiiisiiiiiLiEiiiLiiisE) × (List R_iiLiEiiisLiE) × Unit) := laws_markWorld x.1 x.2.1 x.2.2.1 x.2.2.2.1 x.2.2.2.2.1
noncomputable def sem26 : Sem1 := semOf ps26 rs26 x26
theorem so26 : SemsOk Try.prog (semsOf sl26) := sems_cons k25 (sems_cons k91 (sems_cons k92 (sems_cons k93 (sems_nil))))
theorem t26_eq (x : denR (headRT (ps26.map some))) : codeK (tabOf tr) (semsOf sl26) D26 L26 code26 (start 22 ps26 x) (finK rs26 ps26) = x26 x := by kernel_rfl
theorem k26 : Known Try.prog 26 sem26 :=
  fn_auto tr_ok eq_ok mixed_ok so26 (D := D26) (code := code26) (n := 22) Try.func26 (by kernel_rfl) (by kernel_rfl) (by kernel_rfl) (fun w0 mu _ hs => (loops_of (l := []) (by kernel_rfl) (List.forall_mem_nil _))) t26_eq

/-! ### f130: laws.heldIntS -/
noncomputable def code130 : Code := match Try.f130.body with | some c => c | none => .skip
def ps130 : List AP := [.val false [.shr T_i], .val false [.int .i64]]
def rs130 : List RP := [{ src := .tmp 4, agg := false, ps := [.int .i64] }]
noncomputable def sl130 : SemL := []
def D130 : Draws := fun _ => .nil
def hp130_0 : List (Option AP) := [some (.val false [.shr T_i]), some (.val false [.int .i64]), none, none, none, some (.val false [.int .i64]), none, none, none, none, none, none, none, none, none, none, none, none, none, none, none, none]
def e130_0 : List (Option AP) := [none, some (.val false [.int .i64]), none, none, none, none, none, none, none, none, none, none, none, none, none, none, none, none, none, none, none, none]
def q130_0 : List (Option AP) := [none, none, none, none, some (.val false [.int .i64]), none, none, none, none, none, none, none, none, none, none, none, none, none, none, none, none, none]
abbrev H130_0 : Type := (List (Int × Unit)) × Int × Int × Unit
abbrev E130_0 : Type := Int × Unit
abbrev Q130_0 : Type := Int × Unit
noncomputable def laws_heldIntS_c0 (a0 : List (Int × Unit)) (k1 : Int) (i5 : Int) : Option (Sum H130_0 (Sum E130_0 Q130_0)) :=
  bif decide (i5 < ((List.length a0 : Nat) : Int)) then
    bif decide ((0 : Int) ≤ i5) then Option.bind ((a0)[Int.toNat i5]?) fun r1 =>
      bif !decide (r1.1 = k1) then
        some (.inr (.inr ((-1 : Int), ())))
      else
        some (.inl (a0, IntKind.i64.wrap (k1 + (1 : Int)), IntKind.i64.wrap (i5 + (1 : Int)), ()))
    else none
  else
    some (.inr (.inl (k1, ())))
noncomputable def laws_heldIntS_r0 (x : H130_0) : Option (Sum H130_0 (Sum E130_0 Q130_0)) := laws_heldIntS_c0 x.1 x.2.1 x.2.2.1
noncomputable def L130 {R : Type} : Loops R := fun id _ st k => bif Nat.beq id 0 then loopAt hp130_0 e130_0 q130_0 laws_heldIntS_r0 st k else none
noncomputable def laws_heldIntS (a0 : List (Int × Unit)) (k1 : Int) : Option (Int × Unit) :=
  outK (loopV laws_heldIntS_r0 (a0, k1, (0 : Int), ())) (fun y1 =>
    some (y1.1, ())) (fun y2 =>
    some (y2.1, ()))
noncomputable def x130 (x : (List (Int × Unit)) × Int × Unit) : Option (Int × Unit) := laws_heldIntS x.1 x.2.1
noncomputable def sem130 : Sem1 := semOf ps130 rs130 x130
theorem so130 : SemsOk Try.prog (semsOf sl130) := sems_nil
noncomputable def b130_0 : Code := nthLoop code130 0
theorem t130_r0_eq (x : denR (headRT hp130_0)) : codeK (tabOf tr) (semsOf sl130) D130 L130 b130_0 (headSt hp130_0 x) (roundK 0 hp130_0 e130_0 q130_0) = laws_heldIntS_r0 x := by kernel_rfl
theorem loop130_0 {R : Type} (r : R) (w0 : World) (mu : Mu) (hs : AnShape ps130 mu) : LoopAt Try.prog w0 mu 21 (L130 : Loops R) r 0 b130_0 :=
  loop_auto tr_ok eq_ok mixed_ok so130 (D := D130) hs (by kernel_rfl) (fun _ => (loops_of (l := []) (by kernel_rfl) (List.forall_mem_nil _))) t130_r0_eq (fun _ _ => rfl)
theorem t130_eq (x : denR (headRT (ps130.map some))) : codeK (tabOf tr) (semsOf sl130) D130 L130 code130 (start 21 ps130 x) (finK rs130 ps130) = x130 x := by kernel_rfl
theorem k130 : Known Try.prog 130 sem130 :=
  fn_auto tr_ok eq_ok mixed_ok so130 (D := D130) (code := code130) (n := 21) Try.func130 (by kernel_rfl) (by kernel_rfl) (by kernel_rfl) (fun w0 mu _ hs => (loops_of (l := [(0, b130_0)]) (by kernel_rfl) (List.forall_mem_cons.2 ⟨loop130_0 _ w0 mu hs, (List.forall_mem_nil _)⟩))) t130_eq

end Go.TM
