/- What the functions answer, as terms; their contracts. -/
import Derived.Test.YtmljblppihbkdaaCF1
set_option linter.unusedSimpArgs false
set_option linter.unusedVariables false
namespace Go.TM
open Go Go.RowKit Go.Proofs

/-! ### f90: laws.eqEventS -/
noncomputable def code90 : Code := match Try.f90.body with | some c => c | none => .skip
def ps90 : List AP := [.val false [.shr T_iiLiEiiisLiE], .val false [.shr T_iiLiEiiisLiE]]
def rs90 : List RP := [{ src := .tmp 4, agg := false, ps := [.bool] }]
noncomputable def sl90 : SemL := [(153, (.shr, .shr, .shr, sem153))]
def D90 : Draws := fun id => bif Nat.beq id 6 then .op 0 .any (.op 1 .any (.op 2 .any (.op 3 .take (.op 4 .any (.op 5 .any (.op 6 .any (.op 7 .take (.op 8 .one (.op 9 .any (.nil)))))))))) else .nil
def hp90_0 : List (Option AP) := [some (.val false [.shr T_iiLiEiiisLiE]), some (.val false [.shr T_iiLiEiiisLiE]), none, none, none, some (.val false [.int .i64]), none, none, none, none, none, none, none, none, none, none, none, none, none, none, none, none, none, none, none, none, none, none]
def e90_0 : List (Option AP) := [none, none, none, none, none, none, none, none, none, none, none, none, none, none, none, none, none, none, none, none, none, none, none, none, none, none, none, none]
def q90_0 : List (Option AP) := [none, none, none, none, some (.val false [.bool]), none, none, none, none, none, none, none, none, none, none, none, none, none, none, none, none, none, none, none, none, none, none, none]
abbrev H90_0 : Type := (List R_iiLiEiiisLiE) × (List R_iiLiEiiisLiE) × Int × Unit
abbrev E90_0 : Type := Unit
abbrev Q90_0 : Type := Bool × Unit
noncomputable def laws_eqEventS_c0 (a0 : List R_iiLiEiiisLiE) (b1 : List R_iiLiEiiisLiE) (i5 : Int) : Option (Sum H90_0 (Sum E90_0 Q90_0)) :=
  bif decide (i5 < ((List.length a0 : Nat) : Int)) then
    bif decide ((0 : Int) ≤ i5) then Option.bind ((a0)[Int.toNat i5]?) fun r1 =>
      bif decide ((0 : Int) ≤ i5) then Option.bind ((b1)[Int.toNat i5]?) fun r2 =>
        Option.bind (laws_eqEvent r1.1 r1.2.1 r1.2.2.1 r1.2.2.2.1 r1.2.2.2.2.1 r1.2.2.2.2.2.1 r1.2.2.2.2.2.2.1 r1.2.2.2.2.2.2.2.1 r2.1 r2.2.1 r2.2.2.1 r2.2.2.2.1 r2.2.2.2.2.1 r2.2.2.2.2.2.1 r2.2.2.2.2.2.2.1 r2.2.2.2.2.2.2.2.1) fun y3 =>
        bif !y3.1 then
          some (.inr (.inr (false, ())))
        else
          some (.inl (a0, b1, IntKind.i64.wrap (i5 + (1 : Int)), ()))
      else none
    else none
  else
    some (.inr (.inl (())))
noncomputable def laws_eqEventS_r0 (x : H90_0) : Option (Sum H90_0 (Sum E90_0 Q90_0)) := laws_eqEventS_c0 x.1 x.2.1 x.2.2.1
noncomputable def L90 {R : Type} : Loops R := fun id _ st k => bif Nat.beq id 0 then loopAt hp90_0 e90_0 q90_0 laws_eqEventS_r0 st k else none
noncomputable def laws_eqEventS (a0 : List R_iiLiEiiisLiE) (b1 : List R_iiLiEiiisLiE) : Option (Bool × Unit) :=
  bif !decide (((List.length a0 : Nat) : Int) = ((List.length b1 : Nat) : Int)) then
    some (false, ())
  else
    outK (loopV laws_eqEventS_r0 (a0, b1, (0 : Int), ())) (fun y1 =>
      some (true, ())) (fun y2 =>
      some (y2.1, ()))
noncomputable def x90 (x : (List R_iiLiEiiisLiE) × (List R_iiLiEiiisLiE) × Unit) : Option (Bool × Unit) := laws_eqEventS x.1 x.2.1
noncomputable def sem90 : Sem1 := semOf ps90 rs90 x90
theorem so90 : SemsOk Try.prog (semsOf sl90) := sems_cons k153 (sems_nil)
noncomputable def b90_0 : Code := nthLoop code90 0
theorem t90_r0_eq (x : denR (headRT hp90_0)) : codeK (tabOf tr) (semsOf sl90) D90 L90 b90_0 (headSt hp90_0 x) (roundK 0 hp90_0 e90_0 q90_0) = laws_eqEventS_r0 x := by kernel_rfl
theorem loop90_0 {R : Type} (r : R) (w0 : World) (mu : Mu) (hs : AnShape ps90 mu) : LoopAt Try.prog w0 mu 27 (L90 : Loops R) r 0 b90_0 :=
  loop_auto tr_ok eq_ok mixed_ok so90 (D := D90) hs (by kernel_rfl) (fun _ => (loops_of (l := []) (by kernel_rfl) (List.forall_mem_nil _))) t90_r0_eq (fun _ _ => rfl)
theorem t90_eq (x : denR (headRT (ps90.map some))) : codeK (tabOf tr) (semsOf sl90) D90 L90 code90 (start 27 ps90 x) (finK rs90 ps90) = x90 x := by kernel_rfl
theorem k90 : Known Try.prog 90 sem90 :=
  fn_auto tr_ok eq_ok mixed_ok so90 (D := D90) (code := code90) (n := 27) Try.func90 (by kernel_rfl) (by kernel_rfl) (by kernel_rfl) (fun w0 mu _ hs => (loops_of (l := [(0, b90_0)]) (by kernel_rfl) (List.forall_mem_cons.2 ⟨loop90_0 _ w0 mu hs, (List.forall_mem_nil _)⟩))) t90_eq

/-! ### f49: laws.eqDaemon -/
noncomputable def code49 : Code := match Try.f49.body with | some c => c | none => .skip
def ps49 : List AP := [.val true [.int .i64, .bool, .int .i64, .int .i64, .shr T_i, .shr T_iiis, .shr T_i, .shr T_s, .int .i64, .int .i64, .int .i64, .int .i64, .int .i64, .int .i64, .int .i64, .int .i64, .int .i64, .shr T_i, .int .i64, .int .i64, .int .i64, .shr T_i, .shr T_iiiLiiisE, .shr T_iiLiEiiisLiE], .val true [.int .i64, .bool, .int .i64, .int .i64, .shr T_i, .shr T_iiis, .shr T_i, .shr T_s, .int .i64, .int .i64, .int .i64, .int .i64, .int .i64, .int .i64, .int .i64, .int .i64, .int .i64, .shr T_i, .int .i64, .int .i64, .int .i64, .shr T_i, .shr T_iiiLiiisE, .shr T_iiLiEiiisLiE]]
def rs49 : List RP := [{ src := .tmp 4, agg := false, ps := [.bool] }]
noncomputable def sl49 : SemL := [(59, (.shr, .shr, .shr, sem59)), (15, (.shr, .shr, .shr, sem15)), (33, (.shr, .shr, .shr, sem33)), (90, (.shr, .shr, .shr, sem90))]
def D49 : Draws := fun _ => .nil
noncomputable def L49 {R : Type} : Loops R := fun _ _ _ _ => none
noncomputable def laws_eqDaemon (a0c0 : Int) (a0c1 : Bool) (a0c2 : Int) (a0c3 : Int) (a0c4 : List (Int × Unit)) (a0c5 : List R_iiis) (a0c6 : List (Int × Unit)) (a0c7 : List (ByteArray × Unit)) (a0c8 : Int) (a0c9 : Int) (a0c10 : Int) (a0c11 : Int) (a0c12 : Int) (a0c13 : Int) (a0c14 : Int) (a0c15 : Int) (a0c16 : Int) (a0c17 : List (Int × Unit)) (a0c18 : Int) (a0c19 : Int) (a0c20 : Int) (a0c21 : List (Int × Unit)) (a0c22 : List R_iiiLiiisE) (a0c23 : List R_iiLiEiiisLiE) (b1c0 : Int) (b1c1 : Bool) (b1c2 : Int) (b1c3 : Int) (b1c4 : List (Int × Unit)) (b1c5 : List R_iiis) (b1c6 : List (Int × Unit)) (b1c7 : List (ByteArray × Unit)) (b1c8 : Int) (b1c9 : Int) (b1c10 : Int) (b1c11 : Int) (b1c12 : Int) (b1c13 : Int) (b1c14 : Int) (b1c15 : Int) (b1c16 : Int) (b1c17 : List (Int × Unit)) (b1c18 : Int) (b1c19 : Int) (b1c20 : Int) (b1c21 : List (Int × Unit)) (b1c22 : List R_iiiLiiisE) (b1c23 : List R_iiLiEiiisLiE) : Option (Bool × Unit) :=
  bif !decide (a0c0 = b1c0) then
    some (false, ())
  else bif !(a0c1 == b1c1) then
    some (false, ())
  else
    Option.bind (laws_eqMate a0c2 a0c3 a0c4 a0c5 a0c6 a0c7 a0c8 a0c9 a0c10 a0c11 a0c12 a0c13 a0c14 a0c15 a0c16 a0c17 b1c2 b1c3 b1c4 b1c5 b1c6 b1c7 b1c8 b1c9 b1c10 b1c11 b1c12 b1c13 b1c14 b1c15 b1c16 b1c17) fun y1 =>
    bif !y1.1 then
      some (false, ())
    else bif !decide (a0c18 = b1c18) then
      some (false, ())
    else bif !decide (a0c19 = b1c19) then
      some (false, ())
    else
      Option.bind (laws_eqRing a0c20 a0c21 b1c20 b1c21) fun y2 =>
      bif !y2.1 then
        some (false, ())
      else
        Option.bind (laws_eqBundleS a0c22 b1c22) fun y3 =>
        bif !y3.1 then
          some (false, ())
        else
          Option.bind (laws_eqEventS a0c23 b1c23) fun y4 =>
          bif !y4.1 then
            some (false, ())
          else
            some (true, ())
noncomputable def x49 (x : Int × Bool × Int × Int × (List (Int × Unit)) × (List R_iiis) × (List (Int × Unit)) × (List (ByteArray × Unit)) × Int × Int × Int × Int × Int × Int × Int × Int × Int × (List (Int × Unit)) × Int × Int × Int × (List (Int × Unit)) × (List R_iiiLiiisE) × (List R_iiLiEiiisLiE) × Int × Bool × Int × Int × (List (Int × Unit)) × (List R_iiis) × (List (Int × Unit)) × (List (ByteArray × Unit)) × Int × Int × Int × Int × Int × Int × Int × Int × Int × (List (Int × Unit)) × Int × Int × Int × (List (Int × Unit)) × (List R_iiiLiiisE) × (List R_iiLiEiiisLiE) × Unit) : Option (Bool × Unit) := laws_eqDaemon x.1 x.2.1 x.2.2.1 x.2.2.2.1 x.2.2.2.2.1 x.2.2.2.2.2.1 x.2.2.2.2.2.2.1 x.2.2.2.2.2.2.2.1 x.2.2.2.2.2.2.2.2.1 x.2.2.2.2.2.2.2.2.2.1 x.2.2.2.2.2.2.2.2.2.2.1 x.2.2.2.2.2.2.2.2.2.2.2.1 x.2.2.2.2.2.2.2.2.2.2.2.2.1 x.2.2.2.2.2.2.2.2.2.2.2.2.2.1 x.2.2.2.2.2.2.2.2.2.2.2.2.2.2.1 x.2.2.2.2.2.2.2.2.2.2.2.2.2.2.2.1 x.2.2.2.2.2.2.2.2.2.2.2.2.2.2.2.2.1 x.2.2.2.2.2.2.2.2.2.2.2.2.2.2.2.2.2.1 x.2.2.2.2.2.2.2.2.2.2.2.2.2.2.2.2.2.2.1 x.2.2.2.2.2.2.2.2.2.2.2.2.2.2.2.2.2.2.2.1 x.2.2.2.2.2.2.2.2.2.2.2.2.2.2.2.2.2.2.2.2.1 x.2.2.2.2.2.2.2.2.2.2.2.2.2.2.2.2.2.2.2.2.2.1 x.2.2.2.2.2.2.2.2.2.2.2.2.2.2.2.2.2.2.2.2.2.2.1 x.2.2.2.2.2.2.2.2.2.2.2.2.2.2.2.2.2.2.2.2.2.2.2.1 x.2.2.2.2.2.2.2.2.2.2.2.2.2.2.2.2.2.2.2.2.2.2.2.2.1 x.2.2.2.2.2.2.2.2.2.2.2.2.2.2.2.2.2.2.2.2.2.2.2.2.2.1 x.2.2.2.2.2.2.2.2.2.2.2.2.2.2.2.2.2.2.2.2.2.2.2.2.2.2.1 x.2.2.2.2.2.2.2.2.2.2.2.2.2.2.2.2.2.2.2.2.2.2.2.2.2.2.2.1 x.2.2.2.2.2.2.2.2.2.2.2.2.2.2.2.2.2.2.2.2.2.2.2.2.2.2.2.2.1 x.2.2.2.2.2.2.2.2.2.2.2.2.2.2.2.2.2.2.2.2.2.2.2.2.2.2.2.2.2.1 x.2.2.2.2.2.2.2.2.2.2.2.2.2.2.2.2.2.2.2.2.2.2.2.2.2.2.2.2.2.2.1 x.2.2.2.2.2.2.2.2.2.2.2.2.2.2.2.2.2.2.2.2.2.2.2.2.2.2.2.2.2.2.2.1 x.2.2.2.2.2.2.2.2.2.2.2.2.2.2.2.2.2.2.2.2.2.2.2.2.2.2.2.2.2.2.2.2.1 x.2.2.2.2.2.2.2.2.2.2.2.2.2.2.2.2.2.2.2.2.2.2.2.2.2.2.2.2.2.2.2.2.2.1 x.2.2.2.2.2.2.2.2.2.2.2.2.2.2.2.2.2.2.2.2.2.2.2.2.2.2.2.2.2.2.2.2.2.2.1 x.2.2.2.2.2.2.2.2.2.2.2.2.2.2.2.2.2.2.2.2.2.2.2.2.2.2.2.2.2.2.2.2.2.2.2.1 x.2.2.2.2.2.2.2.2.2.2.2.2.2.2.2.2.2.2.2.2.2.2.2.2.2.2.2.2.2.2.2.2.2.2.2.2.1 x.2.2.2.2.2.2.2.2.2.2.2.2.2.2.2.2.2.2.2.2.2.2.2.2.2.2.2.2.2.2.2.2.2.2.2.2.2.1 x.2.2.2.2.2.2.2.2.2.2.2.2.2.2.2.2.2.2.2.2.2.2.2.2.2.2.2.2.2.2.2.2.2.2.2.2.2.2.1 x.2.2.2.2.2.2.2.2.2.2.2.2.2.2.2.2.2.2.2.2.2.2.2.2.2.2.2.2.2.2.2.2.2.2.2.2.2.2.2.1 x.2.2.2.2.2.2.2.2.2.2.2.2.2.2.2.2.2.2.2.2.2.2.2.2.2.2.2.2.2.2.2.2.2.2.2.2.2.2.2.2.1 x.2.2.2.2.2.2.2.2.2.2.2.2.2.2.2.2.2.2.2.2.2.2.2.2.2.2.2.2.2.2.2.2.2.2.2.2.2.2.2.2.2.1 x.2.2.2.2.2.2.2.2.2.2.2.2.2.2.2.2.2.2.2.2.2.2.2.2.2.2.2.2.2.2.2.2.2.2.2.2.2.2.2.2.2.2.1 x.2.2.2.2.2.2.2.2.2.2.2.2.2.2.2.2.2.2.2.2.2.2.2.2.2.2.2.2.2.2.2.2.2.2.2.2.2.2.2.2.2.2.2.1 x.2.2.2.2.2.2.2.2.2.2.2.2.2.2.2.2.2.2.2.2.2.2.2.2.2.2.2.2.2.2.2.2.2.2.2.2.2.2.2.2.2.2.2.2.1 x.2.2.2.2.2.2.2.2.2.2.2.2.2.2.2.2.2.2.2.2.2.2.2.2.2.2.2.2.2.2.2.2.2.2.2.2.2.2.2.2.2.2.2.2.2.1 x.2.2.2.2.2.2.2.2.2.2.2.2.2.2.2.2.2.2.2.2.2.2.2.2.2.2.2.2.2.2.2.2.2.2.2.2.2.2.2.2.2.2.2.2.2.2.1 x.2.2.2.2.2.2.2.2.2.2.2.2.2.2.2.2.2.2.2.2.2.2.2.2.2.2.2.2.2.2.2.2.2.2.2.2.2.2.2.2.2.2.2.2.2.2.2.1
noncomputable def sem49 : Sem1 := semOf ps49 rs49 x49
theorem so49 : SemsOk Try.prog (semsOf sl49) := sems_cons k59 (sems_cons k15 (sems_cons k33 (sems_cons k90 (sems_nil))))
theorem t49_eq (x : denR (headRT (ps49.map some))) : codeK (tabOf tr) (semsOf sl49) D49 L49 code49 (start 49 ps49 x) (finK rs49 ps49) = x49 x := by kernel_rfl
theorem k49 : Known Try.prog 49 sem49 :=
  fn_auto tr_ok eq_ok mixed_ok so49 (D := D49) (code := code49) (n := 49) Try.func49 (by kernel_rfl) (by kernel_rfl) (by kernel_rfl) (fun w0 mu _ hs => (loops_of (l := []) (by kernel_rfl) (List.forall_mem_nil _))) t49_eq

/-! ### f75: laws.markIntS -/
noncomputable def code75 : Code := match Try.f75.body with | some c => c | none => .skip
def ps75 : List AP := [.io T_i, .val false [.int .i64]]
def rs75 : List RP := [{ src := .tmp 4, agg := false, ps := [.int .i64] }]
noncomputable def sl75 : SemL := []
def D75 : Draws := fun _ => .nil
def hp75_0 : List (Option AP) := [some (.io T_i), some (.val false [.int .i64]), none, none, none, some (.val false [.int .i64]), none, none, none, none, none, none, none, none, none, none, none, none, none, none]
def e75_0 : List (Option AP) := [some (.io T_i), some (.val false [.int .i64]), none, none, none, none, none, none, none, none, none, none, none, none, none, none, none, none, none, none]
def q75_0 : List (Option AP) := [none, none, none, none, none, none, none, none, none, none, none, none, none, none, none, none, none, none, none, none]
abbrev H75_0 : Type := (List (Int × Unit)) × Int × Int × Unit
abbrev E75_0 : Type := (List (Int × Unit)) × Int × Unit
abbrev Q75_0 : Type := Unit
noncomputable def laws_markIntS_c0 (a0 : List (Int × Unit)) (k1 : Int) (i5 : Int) : Option (Sum H75_0 (Sum E75_0 Q75_0)) :=
  bif decide (i5 < ((List.length a0 : Nat) : Int)) then
    bif decide ((0 : Int) ≤ i5) then bif Nat.blt (Int.toNat i5) (List.length a0) then Option.bind ((a0)[Int.toNat i5]?) fun r1 =>
        some (.inl (List.set a0 (Int.toNat i5) (k1, ()), IntKind.i64.wrap (k1 + (1 : Int)), IntKind.i64.wrap (i5 + (1 : Int)), ()))
      else none
    else none
  else
    some (.inr (.inl (a0, k1, ())))
noncomputable def laws_markIntS_r0 (x : H75_0) : Option (Sum H75_0 (Sum E75_0 Q75_0)) := laws_markIntS_c0 x.1 x.2.1 x.2.2.1
noncomputable def L75 {R : Type} : Loops R := fun id _ st k => bif Nat.beq id 0 then loopAt hp75_0 e75_0 q75_0 laws_markIntS_r0 st k else none
noncomputable def laws_markIntS (a0 : List (Int × Unit)) (k1 : Int) : Option (Int × (List (Int × Unit)) × Unit) :=
  outK (loopV laws_markIntS_r0 (a0, k1, (0 : Int), ())) (fun y1 =>
    some (y1.2.1, y1.1, ())) (fun y2 =>
    none)
noncomputable def x75 (x : (List (Int × Unit)) × Int × Unit) : Option (Int × (List (Int × Unit)) × Unit) := laws_markIntS x.1 x.2.1
noncomputable def sem75 : Sem1 := semOf ps75 rs75 x75
theorem so75 : SemsOk Try.prog (semsOf sl75) := sems_nil
noncomputable def b75_0 : Code := nthLoop code75 0
theorem t75_r0_eq (x : denR (headRT hp75_0)) : codeK (tabOf tr) (semsOf sl75) D75 L75 b75_0 (headSt hp75_0 x) (roundK 0 hp75_0 e75_0 q75_0) = laws_markIntS_r0 x := by kernel_rfl
theorem loop75_0 {R : Type} (r : R) (w0 : World) (mu : Mu) (hs : AnShape ps75 mu) : LoopAt Try.prog w0 mu 19 (L75 : Loops R) r 0 b75_0 :=
  loop_auto tr_ok eq_ok mixed_ok so75 (D := D75) hs (by kernel_rfl) (fun _ => (loops_of (l := []) (by kernel_rfl) (List.forall_mem_nil _))) t75_r0_eq (fun _ _ => rfl)
theorem t75_eq (x : denR (headRT (ps75.map some))) : codeK (tabOf tr) (semsOf sl75) D75 L75 code75 (start 19 ps75 x) (finK rs75 ps75) = x75 x := by kernel_rfl
theorem k75 : Known Try.prog 75 sem75 :=
  fn_auto tr_ok eq_ok mixed_ok so75 (D := D75) (code := code75) (n := 19) Try.func75 (by kernel_rfl) (by kernel_rfl) (by kernel_rfl) (fun w0 mu _ hs => (loops_of (l := [(0, b75_0)]) (by kernel_rfl) (List.forall_mem_cons.2 ⟨loop75_0 _ w0 mu hs, (List.forall_mem_nil _)⟩))) t75_eq

/-! ### f16: laws.markRing -/
noncomputable def code16 : Code := match Try.f16.body with | some c => c | none => .skip
def ps16 : List AP := [.lend [.int .i64, .own T_i], .val false [.int .i64]]
def rs16 : List RP := [{ src := .tmp 4, agg := false, ps := [.int .i64] }]
noncomputable def sl16 : SemL := [(75, (.io, .shr, .shr, sem75))]
def D16 : Draws := fun _ => .nil
noncomputable def L16 {R : Type} : Loops R := fun _ _ _ _ => none
noncomputable def laws_markRing (a0c0 : Int) (a0c1 : List (Int × Unit)) (k1 : Int) : Option (Int × (List (Int × Unit)) × Unit) :=
  Option.bind (laws_markIntS a0c1 k1) fun y1 =>
  some (y1.1, y1.2.1, ())
noncomputable def x16 (x : Int × (List (Int × Unit)) × Int × Unit) : Option (Int × (List (Int × Unit)) × Unit) := laws_markRing x.1 x.2.1 x.2.2.1
noncomputable def sem16 : Sem1 := semOf ps16 rs16 x16
theorem so16 : SemsOk Try.prog (semsOf sl16) := sems_cons k75 (sems_nil)
theorem t16_eq (x : denR (headRT (ps16.map some))) : codeK (tabOf tr) (semsOf sl16) D16 L16 code16 (start 10 ps16 x) (finK rs16 ps16) = x16 x := by kernel_rfl
theorem k16 : Known Try.prog 16 sem16 :=
  fn_auto tr_ok eq_ok mixed_ok so16 (D := D16) (code := code16) (n := 10) Try.func16 (by kernel_rfl) (by kernel_rfl) (by kernel_rfl) (fun w0 mu _ hs => (loops_of (l := []) (by kernel_rfl) (List.forall_mem_nil _))) t16_eq

/-! ### f107: laws.markText -/
noncomputable def code107 : Code := match Try.f107.body with | some c => c | none => .skip
def ps107 : List AP := [.val false [.int .i64]]
def rs107 : List RP := [{ src := .tmp 2, agg := false, ps := [.str] }]
noncomputable def sl107 : SemL := []
def D107 : Draws := fun _ => .nil
def hp107_0 : List (Option AP) := [some (.val false [.int .i64]), none, none, some (.val false [.str]), none, none, none, none, none, none, none, none, none, none, none, none, none, none, none, none, none]
def e107_0 : List (Option AP) := [none, none, none, some (.val false [.str]), none, none, none, none, none, none, none, none, none, none, none, none, none, none, none, none, none]
def q107_0 : List (Option AP) := [none, none, none, none, none, none, none, none, none, none, none, none, none, none, none, none, none, none, none, none, none]
abbrev H107_0 : Type := Int × ByteArray × Unit
abbrev E107_0 : Type := ByteArray × Unit
abbrev Q107_0 : Type := Unit
noncomputable def laws_markText_c0 (k0 : Int) (out3 : ByteArray) : Option (Sum H107_0 (Sum E107_0 Q107_0)) :=
  bif decide ((0 : Int) < k0) then
    bif Nat.ble ((ByteArray.size (bytesOf [(IntKind.u8.wrap (IntKind.i64.wrap ((48 : Int) + (Int.tmod k0 (10 : Int)))), ())])) + (ByteArray.size out3)) lim then some (.inl (IntKind.i64.wrap (Int.tdiv k0 (10 : Int)), (bytesOf [(IntKind.u8.wrap (IntKind.i64.wrap ((48 : Int) + (Int.tmod k0 (10 : Int)))), ())]) ++ out3, ()))
    else none
  else
    some (.inr (.inl (out3, ())))
noncomputable def laws_markText_r0 (x : H107_0) : Option (Sum H107_0 (Sum E107_0 Q107_0)) := laws_markText_c0 x.1 x.2.1
noncomputable def L107 {R : Type} : Loops R := fun id _ st k => bif Nat.beq id 0 then loopAt hp107_0 e107_0 q107_0 laws_markText_r0 st k else none
noncomputable def laws_markText (k0 : Int) : Option (ByteArray × Unit) :=
  bif decide (k0 ≤ (0 : Int)) then
    some ((ByteArray.mk #[109, 48]), ())
  else
    outK (loopV laws_markText_r0 (k0, (ByteArray.mk #[]), ())) (fun y1 =>
      bif Nat.ble (1 + (ByteArray.size y1.1)) lim then some ((ByteArray.mk #[109]) ++ y1.1, ())
      else none) (fun y2 =>
      none)
noncomputable def x107 (x : Int × Unit) : Option (ByteArray × Unit) := laws_markText x.1
noncomputable def sem107 : Sem1 := semOf ps107 rs107 x107
theorem so107 : SemsOk Try.prog (semsOf sl107) := sems_nil
noncomputable def b107_0 : Code := nthLoop code107 0
theorem t107_r0_eq (x : denR (headRT hp107_0)) : codeK (tabOf tr) (semsOf sl107) D107 L107 b107_0 (headSt hp107_0 x) (roundK 0 hp107_0 e107_0 q107_0) = laws_markText_r0 x := by kernel_rfl
theorem loop107_0 {R : Type} (r : R) (w0 : World) (mu : Mu) (hs : AnShape ps107 mu) : LoopAt Try.prog w0 mu 20 (L107 : Loops R) r 0 b107_0 :=
  loop_auto tr_ok eq_ok mixed_ok so107 (D := D107) hs (by kernel_rfl) (fun _ => (loops_of (l := []) (by kernel_rfl) (List.forall_mem_nil _))) t107_r0_eq (fun _ _ => rfl)
theorem t107_eq (x : denR (headRT (ps107.map some))) : codeK (tabOf tr) (semsOf sl107) D107 L107 code107 (start 20 ps107 x) (finK rs107 ps107) = x107 x := by kernel_rfl
theorem k107 : Known Try.prog 107 sem107 :=
  fn_auto tr_ok eq_ok mixed_ok so107 (D := D107) (code := code107) (n := 20) Try.func107 (by kernel_rfl) (by kernel_rfl) (by kernel_rfl) (fun w0 mu _ hs => (loops_of (l := [(0, b107_0)]) (by kernel_rfl) (List.forall_mem_cons.2 ⟨loop107_0 _ w0 mu hs, (List.forall_mem_nil _)⟩))) t107_eq

/-! ### f35: laws.markItemS -/
noncomputable def code35 : Code := match Try.f35.body with | some c => c | none => .skip
def ps35 : List AP := [.io T_iiis, .val false [.int .i64]]
def rs35 : List RP := [{ src := .tmp 4, agg := false, ps := [.int .i64] }]
noncomputable def sl35 : SemL := [(107, (.shr, .shr, .shr, sem107))]
def D35 : Draws := fun _ => .nil
def hp35_0 : List (Option AP) := [some (.io T_iiis), some (.val false [.int .i64]), none, none, none, some (.val false [.int .i64]), none, none, none, none, none, none, none, none, none, none, none, none, none, none, none, none, none, none, none, none, none, none, none, none, none, none, none, none, none, none, none, none, none, none, none, none, none]
def e35_0 : List (Option AP) := [some (.io T_iiis), some (.val false [.int .i64]), none, none, none, none, none, none, none, none, none, none, none, none, none, none, none, none, none, none, none, none, none, none, none, none, none, none, none, none, none, none, none, none, none, none, none, none, none, none, none, none, none]
def q35_0 : List (Option AP) := [none, none, none, none, none, none, none, none, none, none, none, none, none, none, none, none, none, none, none, none, none, none, none, none, none, none, none, none, none, none, none, none, none, none, none, none, none, none, none, none, none, none, none]
abbrev H35_0 : Type := (List R_iiis) × Int × Int × Unit
abbrev E35_0 : Type := (List R_iiis) × Int × Unit
abbrev Q35_0 : Type := Unit
noncomputable def laws_markItemS_c0 (a0 : List R_iiis) (k1 : Int) (i5 : Int) : Option (Sum H35_0 (Sum E35_0 Q35_0)) :=
  bif decide (i5 < ((List.length a0 : Nat) : Int)) then
    bif decide ((0 : Int) ≤ i5) then bif Nat.blt (Int.toNat i5) (List.length a0) then Option.bind ((a0)[Int.toNat i5]?) fun r1 =>
        bif decide ((0 : Int) ≤ i5) then bif Nat.blt (Int.toNat i5) (List.length (List.set a0 (Int.toNat i5) (k1, r1.2.1, r1.2.2.1, r1.2.2.2.1, ()))) then Option.bind ((List.set a0 (Int.toNat i5) (k1, r1.2.1, r1.2.2.1, r1.2.2.2.1, ()))[Int.toNat i5]?) fun r2 =>
            bif decide ((0 : Int) ≤ i5) then bif Nat.blt (Int.toNat i5) (List.length (List.set (List.set a0 (Int.toNat i5) (k1, r1.2.1, r1.2.2.1, r1.2.2.2.1, ())) (Int.toNat i5) (r2.1, IntKind.i64.wrap (k1 + (1 : Int)), r2.2.2.1, r2.2.2.2.1, ()))) then Option.bind ((List.set (List.set a0 (Int.toNat i5) (k1, r1.2.1, r1.2.2.1, r1.2.2.2.1, ())) (Int.toNat i5) (r2.1, IntKind.i64.wrap (k1 + (1 : Int)), r2.2.2.1, r2.2.2.2.1, ()))[Int.toNat i5]?) fun r3 =>
                Option.bind (laws_markText (IntKind.i64.wrap ((IntKind.i64.wrap ((IntKind.i64.wrap (k1 + (1 : Int))) + (1 : Int))) + (1 : Int)))) fun y4 =>
                bif decide ((0 : Int) ≤ i5) then bif Nat.blt (Int.toNat i5) (List.length (List.set (List.set (List.set a0 (Int.toNat i5) (k1, r1.2.1, r1.2.2.1, r1.2.2.2.1, ())) (Int.toNat i5) (r2.1, IntKind.i64.wrap (k1 + (1 : Int)), r2.2.2.1, r2.2.2.2.1, ())) (Int.toNat i5) (r3.1, r3.2.1, IntKind.i64.wrap ((IntKind.i64.wrap (k1 + (1 : Int))) + (1 : Int)), r3.2.2.2.1, ()))) then Option.bind ((List.set (List.set (List.set a0 (Int.toNat i5) (k1, r1.2.1, r1.2.2.1, r1.2.2.2.1, ())) (Int.toNat i5) (r2.1, IntKind.i64.wrap (k1 + (1 : Int)), r2.2.2.1, r2.2.2.2.1, ())) (Int.toNat i5) (r3.1, r3.2.1, IntKind.i64.wrap ((IntKind.i64.wrap (k1 + (1 : Int))) + (1 : Int)), r3.2.2.2.1, ()))[Int.toNat i5]?) fun r5 =>
                    some (.inl (List.set (List.set (List.set (List.set a0 (Int.toNat i5) (k1, r1.2.1, r1.2.2.1, r1.2.2.2.1, ())) (Int.toNat i5) (r2.1, IntKind.i64.wrap (k1 + (1 : Int)), r2.2.2.1, r2.2.2.2.1, ())) (Int.toNat i5) (r3.1, r3.2.1, IntKind.i64.wrap ((IntKind.i64.wrap (k1 + (1 : Int))) + (1 : Int)), r3.2.2.2.1, ())) (Int.toNat i5) (r5.1, r5.2.1, r5.2.2.1, y4.1, ()), IntKind.i64.wrap ((IntKind.i64.wrap ((IntKind.i64.wrap ((IntKind.i64.wrap (k1 + (1 : Int))) + (1 : Int))) + (1 : Int))) + (1 : Int)), IntKind.i64.wrap (i5 + (1 : Int)), ()))
                  else none
                else none
              else none
            else none
          else none
        else none
      else none
    else none
  else
    some (.inr (.inl (a0, k1, ())))
noncomputable def laws_markItemS_r0 (x : H35_0) : Option (Sum H35_0 (Sum E35_0 Q35_0)) := laws_markItemS_c0 x.1 x.2.1 x.2.2.1
noncomputable def L35 {R : Type} : Loops R := fun id _ st k => bif Nat.beq id 0 then loopAt hp35_0 e35_0 q35_0 laws_markItemS_r0 st k else none
noncomputable def laws_markItemS (a0 : List R_iiis) (k1 : Int) : Option (Int × (List R_iiis) × Unit) :=
  outK (loopV laws_markItemS_r0 (a0, k1, (0 : Int), ())) (fun y1 =>
    some (y1.2.1, y1.1, ())) (fun y2 =>
    none)
noncomputable def x35 (x : (List R_iiis) × Int × Unit) : Option (Int × (List R_iiis) × Unit) := laws_markItemS x.1 x.2.1
noncomputable def sem35 : Sem1 := semOf ps35 rs35 x35
theorem so35 : SemsOk Try.prog (semsOf sl35) := sems_cons k107 (sems_nil)
noncomputable def b35_0 : Code := nthLoop code35 0
theorem t35_r0_eq (x : denR (headRT hp35_0)) : codeK (tabOf tr) (semsOf sl35) D35 L35 b35_0 (headSt hp35_0 x) (roundK 0 hp35_0 e35_0 q35_0) = laws_markItemS_r0 x := by kernel_rfl
theorem loop35_0 {R : Type} (r : R) (w0 : World) (mu : Mu) (hs : AnShape ps35 mu) : LoopAt Try.prog w0 mu 42 (L35 : Loops R) r 0 b35_0 :=
  loop_auto tr_ok eq_ok mixed_ok so35 (D := D35) hs (by kernel_rfl) (fun _ => (loops_of (l := []) (by kernel_rfl) (List.forall_mem_nil _))) t35_r0_eq (fun _ _ => rfl)
theorem t35_eq (x : denR (headRT (ps35.map some))) : codeK (tabOf tr) (semsOf sl35) D35 L35 code35 (start 42 ps35 x) (finK rs35 ps35) = x35 x := by kernel_rfl
theorem k35 : Known Try.prog 35 sem35 :=
  fn_auto tr_ok eq_ok mixed_ok so35 (D := D35) (code := code35) (n := 42) Try.func35 (by kernel_rfl) (by kernel_rfl) (by kernel_rfl) (fun w0 mu _ hs => (loops_of (l := [(0, b35_0)]) (by kernel_rfl) (List.forall_mem_cons.2 ⟨loop35_0 _ w0 mu hs, (List.forall_mem_nil _)⟩))) t35_eq

/-! ### f142: laws.markStringS -/
noncomputable def code142 : Code := match Try.f142.body with | some c => c | none => .skip
def ps142 : List AP := [.io T_s, .val false [.int .i64]]
def rs142 : List RP := [{ src := .tmp 4, agg := false, ps := [.int .i64] }]
noncomputable def sl142 : SemL := [(107, (.shr, .shr, .shr, sem107))]
def D142 : Draws := fun _ => .nil
def hp142_0 : List (Option AP) := [some (.io T_s), some (.val false [.int .i64]), none, none, none, some (.val false [.int .i64]), none, none, none, none, none, none, none, none, none, none, none, none, none, none, none]
def e142_0 : List (Option AP) := [some (.io T_s), some (.val false [.int .i64]), none, none, none, none, none, none, none, none, none, none, none, none, none, none, none, none, none, none, none]
def q142_0 : List (Option AP) := [none, none, none, none, none, none, none, none, none, none, none, none, none, none, none, none, none, none, none, none, none]
abbrev H142_0 : Type := (List (ByteArray × Unit)) × Int × Int × Unit
abbrev E142_0 : Type := (List (ByteArray × Unit)) × Int × Unit
abbrev Q142_0 : Type := Unit
noncomputable def laws_markStringS_c0 (a0 : List (ByteArray × Unit)) (k1 : Int) (i5 : Int) : Option (Sum H142_0 (Sum E142_0 Q142_0)) :=
  bif decide (i5 < ((List.length a0 : Nat) : Int)) then
    Option.bind (laws_markText k1) fun y1 =>
    bif decide ((0 : Int) ≤ i5) then bif Nat.blt (Int.toNat i5) (List.length a0) then Option.bind ((a0)[Int.toNat i5]?) fun r2 =>
        some (.inl (List.set a0 (Int.toNat i5) (y1.1, ()), IntKind.i64.wrap (k1 + (1 : Int)), IntKind.i64.wrap (i5 + (1 : Int)), ()))
      else none
    else none
  else
    some (.inr (.inl (a0, k1, ())))
noncomputable def laws_markStringS_r0 (x : H142_0) : Option (Sum H142_0 (Sum E142_0 Q142_0)) := laws_markStringS_c0 x.1 x.2.1 x.2.2.1
noncomputable def L142 {R : Type} : Loops R := fun id _ st k => bif Nat.beq id 0 then loopAt hp142_0 e142_0 q142_0 laws_markStringS_r0 st k else none
noncomputable def laws_markStringS (a0 : List (ByteArray × Unit)) (k1 : Int) : Option (Int × (List (ByteArray × Unit)) × Unit) :=
  outK (loopV laws_markStringS_r0 (a0, k1, (0 : Int), ())) (fun y1 =>
    some (y1.2.1, y1.1, ())) (fun y2 =>
    none)
noncomputable def x142 (x : (List (ByteArray × Unit)) × Int × Unit) : Option (Int × (List (ByteArray × Unit)) × Unit) := laws_markStringS x.1 x.2.1
noncomputable def sem142 : Sem1 := semOf ps142 rs142 x142
theorem so142 : SemsOk Try.prog (semsOf sl142) := sems_cons k107 (sems_nil)
noncomputable def b142_0 : Code := nthLoop code142 0
theorem t142_r0_eq (x : denR (headRT hp142_0)) : codeK (tabOf tr) (semsOf sl142) D142 L142 b142_0 (headSt hp142_0 x) (roundK 0 hp142_0 e142_0 q142_0) = laws_markStringS_r0 x := by kernel_rfl
theorem loop142_0 {R : Type} (r : R) (w0 : World) (mu : Mu) (hs : AnShape ps142 mu) : LoopAt Try.prog w0 mu 20 (L142 : Loops R) r 0 b142_0 :=
  loop_auto tr_ok eq_ok mixed_ok so142 (D := D142) hs (by kernel_rfl) (fun _ => (loops_of (l := []) (by kernel_rfl) (List.forall_mem_nil _))) t142_r0_eq (fun _ _ => rfl)
theorem t142_eq (x : denR (headRT (ps142.map some))) : codeK (tabOf tr) (semsOf sl142) D142 L142 code142 (start 20 ps142 x) (finK rs142 ps142) = x142 x := by kernel_rfl
theorem k142 : Known Try.prog 142 sem142 :=
  fn_auto tr_ok eq_ok mixed_ok so142 (D := D142) (code := code142) (n := 20) Try.func142 (by kernel_rfl) (by kernel_rfl) (by kernel_rfl) (fun w0 mu _ hs => (loops_of (l := [(0, b142_0)]) (by kernel_rfl) (List.forall_mem_cons.2 ⟨loop142_0 _ w0 mu hs, (List.forall_mem_nil _)⟩))) t142_eq

/-! ### f51: laws.markToken -/
noncomputable def code51 : Code := match Try.f51.body with | some c => c | none => .skip
def ps51 : List AP := [.lend [.int .i64, .int .i64, .int .i64, .int .i64, .int .i64, .own T_i], .val false [.int .i64]]
def rs51 : List RP := [{ src := .tmp 4, agg := false, ps := [.int .i64] }]
noncomputable def sl51 : SemL := [(75, (.io, .shr, .shr, sem75))]
def D51 : Draws := fun _ => .nil
noncomputable def L51 {R : Type} : Loops R := fun _ _ _ _ => none
noncomputable def laws_markToken (a0c0 : Int) (a0c1 : Int) (a0c2 : Int) (a0c3 : Int) (a0c4 : Int) (a0c5 : List (Int × Unit)) (k1 : Int) : Option (Int × (List (Int × Unit)) × Unit) :=
  Option.bind (laws_markIntS a0c5 k1) fun y1 =>
  some (y1.1, y1.2.1, ())
noncomputable def x51 (x : Int × Int × Int × Int × Int × (List (Int × Unit)) × Int × Unit) : Option (Int × (List (Int × Unit)) × Unit) := laws_markToken x.1 x.2.1 x.2.2.1 x.2.2.2.1 x.2.2.2.2.1 x.2.2.2.2.2.1 x.2.2.2.2.2.2.1
noncomputable def sem51 : Sem1 := semOf ps51 rs51 x51
theorem so51 : SemsOk Try.prog (semsOf sl51) := sems_cons k75 (sems_nil)
theorem t51_eq (x : denR (headRT (ps51.map some))) : codeK (tabOf tr) (semsOf sl51) D51 L51 code51 (start 10 ps51 x) (finK rs51 ps51) = x51 x := by kernel_rfl
theorem k51 : Known Try.prog 51 sem51 :=
  fn_auto tr_ok eq_ok mixed_ok so51 (D := D51) (code := code51) (n := 10) Try.func51 (by kernel_rfl) (by kernel_rfl) (by kernel_rfl) (fun w0 mu _ hs => (loops_of (l := []) (by kernel_rfl) (List.forall_mem_nil _))) t51_eq

/-! ### f60: laws.markMate -/
noncomputable def code60 : Code := match Try.f60.body with | some c => c | none => .skip
def ps60 : List AP := [.lend [.int .i64, .int .i64, .own T_i, .own T_iiis, .own T_i, .own T_s, .int .i64, .int .i64, .int .i64, .int .i64, .int .i64, .int .i64, .int .i64, .int .i64, .int .i64, .own T_i], .val false [.int .i64]]
def rs60 : List RP := [{ src := .tmp 4, agg := false, ps := [.int .i64] }]
noncomputable def sl60 : SemL := [(16, (.lend, .shr, .shr, sem16)), (35, (.io, .shr, .shr, sem35)), (75, (.io, .shr, .shr, sem75)), (142, (.io, .shr, .shr, sem142)), (51, (.lend, .shr, .shr, sem51))]
def D60 : Draws := fun _ => .nil
noncomputable def L60 {R : Type} : Loops R := fun _ _ _ _ => none
noncomputable def laws_markMate (a0c0 : Int) (a0c1 : Int) (a0c2 : List (Int × Unit)) (a0c3 : List R_iiis) (a0c4 : List (Int × Unit)) (a0c5 : List (ByteArray × Unit)) (a0c6 : Int) (a0c7 : Int) (a0c8 : Int) (a0c9 : Int) (a0c10 : Int) (a0c11 : Int) (a0c12 : Int) (a0c13 : Int) (a0c14 : Int) (a0c15 : List (Int × Unit)) (k1 : Int) : Option (Int × (List (Int × Unit)) × (List R_iiis) × (List (Int × Unit)) × (List (ByteArray × Unit)) × (List (Int × Unit)) × Unit) :=
  Option.bind (laws_markRing a0c1 a0c2 k1) fun y1 =>
  Option.bind (laws_markItemS a0c3 y1.1) fun y2 =>
  Option.bind (laws_markIntS a0c4 y2.1) fun y3 =>
  Option.bind (laws_markStringS a0c5 y3.1) fun y4 =>
  Option.bind (laws_markToken a0c10 a0c11 a0c12 a0c13 a0c14 a0c15 y4.1) fun y5 =>
  some (y5.1, y1.2.1, y2.2.1, y3.2.1, y4.2.1, y5.2.1, ())
noncomputable def x60 (x : Int × Int × (List (Int × Unit)) × (List R_iiis) × (List (Int × Unit)) × (List (ByteArray × Unit)) × Int × Int × Int × Int × Int × Int × Int × Int × Int × (List (Int × Unit)) × Int × Unit) : Option (Int × (List (Int × Unit)) × (List R_iiis) × (List (Int × Unit)) × (List (ByteArray × Unit)) × (List (Int × Unit)) × Unit) := laws_markMate x.1 x.2.1 x.2.2.1 x.2.2.2.1 x.2.2.2.2.1 x.2.2.2.2.2.1 x.2.2.2.2.2.2.1 x.2.2.2.2.2.2.2.1 x.2.2.2.2.2.2.2.2.1 x.2.2.2.2.2.2.2.2.2.1 x.2.2.2.2.2.2.2.2.2.2.1 x.2.2.2.2.2.2.2.2.2.2.2.1 x.2.2.2.2.2.2.2.2.2.2.2.2.1 x.2.2.2.2.2.2.2.2.2.2.2.2.2.1 x.2.2.2.2.2.2.2.2.2.2.2.2.2.2.1 x.2.2.2.2.2.2.2.2.2.2.2.2.2.2.2.1 x.2.2.2.2.2.2.2.2.2.2.2.2.2.2.2.2.1
noncomputable def sem60 : Sem1 := semOf ps60 rs60 x60
theorem so60 : SemsOk Try.prog (semsOf sl60) := sems_cons k16 (sems_cons k35 (sems_cons k75 (sems_cons k142 (sems_cons k51 (sems_nil)))))
theorem t60_eq (x : denR (headRT (ps60.map some))) : codeK (tabOf tr) (semsOf sl60) D60 L60 code60 (start 26 ps60 x) (finK rs60 ps60) = x60 x := by kernel_rfl
theorem k60 : Known Try.prog 60 sem60 :=
  fn_auto tr_ok eq_ok mixed_ok so60 (D := D60) (code := code60) (n := 26) Try.func60 (by kernel_rfl) (by kernel_rfl) (by kernel_rfl) (fun w0 mu _ hs => (loops_of (l := []) (by kernel_rfl) (List.forall_mem_nil _))) t60_eq

/-! ### f34: laws.markBundleS -/
noncomputable def code34 : Code := match Try.f34.body with | some c => c | none => .skip
def ps34 : List AP := [.io T_iiiLiiisE .dp, .val false [.int .i64]]
def rs34 : List RP := [{ src := .tmp 4, agg := false, ps := [.int .i64] }]
noncomputable def sl34 : SemL := [(35, (.io, .shr, .shr, sem35))]
def D34 : Draws := fun _ => .nil
def hp34_0 : List (Option AP) := [some (.io T_iiiLiiisE .dp), some (.val false [.int .i64]), none, none, none, some (.val false [.int .i64]), none, none, none, none, none, none, none, none, none, none, none, none, none, none, none, none, none, none, none, none, none, none, none, none, none, none, none, none, none, none, none, none, none, none, none, none]
def e34_0 : List (Option AP) := [some (.io T_iiiLiiisE .dp), some (.val false [.int .i64]), none, none, none, none, none, none, none, none, none, none, none, none, none, none, none, none, none, none, none, none, none, none, none, none, none, none, none, none, none, none, none, none, none, none, none, none, none, none, none, none]
def q34_0 : List (Option AP) := [none, none, none, none, none, none, none, none, none, none, none, none, none, none, none, none, none, none, none, none, none, none, none, none, none, none, none, none, none, none, none, none, none, none, none, none, none, none, none, none, none, none]
abbrev H34_0 : Type := (List R_iiiLiiisE) × Int × Int × Unit
abbrev E34_0 : Type := (List R_iiiLiiisE) × Int × Unit
abbrev Q34_0 : Type := Unit
noncomputable def laws_markBundleS_c0 (a0 : List R_iiiLiiisE) (k1 : Int) (i5 : Int) : Option (Sum H34_0 (Sum E34_0 Q34_0)) :=
  bif decide (i5 < ((List.length a0 : Nat) : Int)) then
    bif decide ((0 : Int) ≤ i5) then bif Nat.blt (Int.toNat i5) (List.length a0) then Option.bind ((a0)[Int.toNat i5]?) fun r1 =>
        bif decide ((0 : Int) ≤ i5) then bif Nat.blt (Int.toNat i5) (List.length (List.set a0 (Int.toNat i5) (k1, r1.2.1, r1.2.2.1, r1.2.2.2.1, ()))) then Option.bind ((List.set a0 (Int.toNat i5) (k1, r1.2.1, r1.2.2.1, r1.2.2.2.1, ()))[Int.toNat i5]?) fun r2 =>
            bif decide ((0 : Int) ≤ i5) then bif Nat.blt (Int.toNat i5) (List.length (List.set (List.set a0 (Int.toNat i5) (k1, r1.2.1, r1.2.2.1, r1.2.2.2.1, ())) (Int.toNat i5) (r2.1, IntKind.i64.wrap (k1 + (1 : Int)), r2.2.2.1, r2.2.2.2.1, ()))) then Option.bind ((List.set (List.set a0 (Int.toNat i5) (k1, r1.2.1, r1.2.2.1, r1.2.2.2.1, ())) (Int.toNat i5) (r2.1, IntKind.i64.wrap (k1 + (1 : Int)), r2.2.2.1, r2.2.2.2.1, ()))[Int.toNat i5]?) fun r3 =>
                bif decide ((0 : Int) ≤ i5) then bif Nat.blt (Int.toNat i5) (List.length (List.set (List.set (List.set a0 (Int.toNat i5) (k1, r1.2.1, r1.2.2.1, r1.2.2.2.1, ())) (Int.toNat i5) (r2.1, IntKind.i64.wrap (k1 + (1 : Int)), r2.2.2.1, r2.2.2.2.1, ())) (Int.toNat i5) (r3.1, r3.2.1, IntKind.i64.wrap ((IntKind.i64.wrap (k1 + (1 : Int))) + (1 : Int)), r3.2.2.2.1, ()))) then Option.bind ((List.set (List.set (List.set a0 (Int.toNat i5) (k1, r1.2.1, r1.2.2.1, r1.2.2.2.1, ())) (Int.toNat i5) (r2.1, IntKind.i64.wrap (k1 + (1 : Int)), r2.2.2.1, r2.2.2.2.1, ())) (Int.toNat i5) (r3.1, r3.2.1, IntKind.i64.wrap ((IntKind.i64.wrap (k1 + (1 : Int))) + (1 : Int)), r3.2.2.2.1, ()))[Int.toNat i5]?) fun r4 =>
                    Option.bind (laws_markItemS r4.2.2.2.1 (IntKind.i64.wrap ((IntKind.i64.wrap ((IntKind.i64.wrap (k1 + (1 : Int))) + (1 : Int))) + (1 : Int)))) fun y5 =>
                    Option.bind ((List.set (List.set (List.set a0 (Int.toNat i5) (k1, r1.2.1, r1.2.2.1, r1.2.2.2.1, ())) (Int.toNat i5) (r2.1, IntKind.i64.wrap (k1 + (1 : Int)), r2.2.2.1, r2.2.2.2.1, ())) (Int.toNat i5) (r3.1, r3.2.1, IntKind.i64.wrap ((IntKind.i64.wrap (k1 + (1 : Int))) + (1 : Int)), r3.2.2.2.1, ()))[Int.toNat i5]?) fun r6 =>
                    some (.inl (List.set (List.set (List.set (List.set a0 (Int.toNat i5) (k1, r1.2.1, r1.2.2.1, r1.2.2.2.1, ())) (Int.toNat i5) (r2.1, IntKind.i64.wrap (k1 + (1 : Int)), r2.2.2.1, r2.2.2.2.1, ())) (Int.toNat i5) (r3.1, r3.2.1, IntKind.i64.wrap ((IntKind.i64.wrap (k1 + (1 : Int))) + (1 : Int)), r3.2.2.2.1, ())) (Int.toNat i5) (r6.1, r6.2.1, r6.2.2.1, y5.2.1, ()), y5.1, IntKind.i64.wrap (i5 + (1 : Int)), ()))
                  else none
                else none
              else none
            else none
          else none
        else none
      else none
    else none
  else
    some (.inr (.inl (a0, k1, ())))
noncomputable def laws_markBundleS_r0 (x : H34_0) : Option (Sum H34_0 (Sum E34_0 Q34_0)) := laws_markBundleS_c0 x.1 x.2.1 x.2.2.1
noncomputable def L34 {R : Type} : Loops R := fun id _ st k => bif Nat.beq id 0 then loopAt hp34_0 e34_0 q34_0 laws_markBundleS_r0 st k else none
noncomputable def laws_markBundleS (a0 : List R_iiiLiiisE) (k1 : Int) : Option (Int × (List R_iiiLiiisE) × Unit) :=
  outK (loopV laws_markBundleS_r0 (a0, k1, (0 : Int), ())) (fun y1 =>
    some (y1.2.1, y1.1, ())) (fun y2 =>
    none)
noncomputable def x34 (x : (List R_iiiLiiisE) × Int × Unit) : Option (Int × (List R_iiiLiiisE) × Unit) := laws_markBundleS x.1 x.2.1
noncomputable def sem34 : Sem1 := semOf ps34 rs34 x34
theorem so34 : SemsOk Try.prog (semsOf sl34) := sems_cons k35 (sems_nil)
noncomputable def b34_0 : Code := nthLoop code34 0
theorem t34_r0_eq (x : denR (headRT hp34_0)) : codeK (tabOf tr) (semsOf sl34) D34 L34 b34_0 (headSt hp34_0 x) (roundK 0 hp34_0 e34_0 q34_0) = laws_markBundleS_r0 x := by kernel_rfl
theorem loop34_0 {R : Type} (r : R) (w0 : World) (mu : Mu) (hs : AnShape ps34 mu) : LoopAt Try.prog w0 mu 41 (L34 : Loops R) r 0 b34_0 :=
  loop_auto tr_ok eq_ok mixed_ok so34 (D := D34) hs (by kernel_rfl) (fun _ => (loops_of (l := []) (by kernel_rfl) (List.forall_mem_nil _))) t34_r0_eq (fun _ _ => rfl)
theorem t34_eq (x : denR (headRT (ps34.map some))) : codeK (tabOf tr) (semsOf sl34) D34 L34 code34 (start 41 ps34 x) (finK rs34 ps34) = x34 x := by kernel_rfl
theorem k34 : Known Try.prog 34 sem34 :=
  fn_auto tr_ok eq_ok mixed_ok so34 (D := D34) (code := code34) (n := 41) Try.func34 (by kernel_rfl) (by kernel_rfl) (by kernel_rfl) (fun w0 mu _ hs => (loops_of (l := [(0, b34_0)]) (by kernel_rfl) (List.forall_mem_cons.2 ⟨loop34_0 _ w0 mu hs, (List.forall_mem_nil _)⟩))) t34_eq

/-! ### f93: laws.markEventS -/
noncomputable def code93 : Code := match Try.f93.body with | some c => c | none => .skip
def ps93 : List AP := [.io T_iiLiEiiisLiE .dp, .val false [.int .i64]]
def rs93 : List RP := [{ src := .tmp 4, agg := false, ps := [.int .i64] }]
noncomputable def sl93 : SemL := [(75, (.io, .shr, .shr, sem75)), (107, (.shr, .shr, .shr, sem107))]
def D93 : Draws := fun _ => .nil
def hp93_0 : List (Option AP) := [some (.io T_iiLiEiiisLiE .dp), some (.val false [.int .i64]), none, none, none, some (.val false [.int .i64]), none, none, none, none, none, none, none, none, none, none, none, none, none, none, none, none, none, none, none, none, none, none, none, none, none, none, none, none, none, none, none, none, none, none, none, none, none, none, none, none, none, none, none, none, none, none, none, none, none, none, none, none, none, none, none, none, none, none, none, none, none, none, none, none, none, none, none, none, none, none, none]
def e93_0 : List (Option AP) := [some (.io T_iiLiEiiisLiE .dp), some (.val false [.int .i64]), none, none, none, none, none, none, none, none, none, none, none, none, none, none, none, none, none, none, none, none, none, none, none, none, none, none, none, none, none, none, none, none, none, none, none, none, none, none, none, none, none, none, none, none, none, none, none, none, none, none, none, none, none, none, none, none, none, none, none, none, none, none, none, none, none, none, none, none, none, none, none, none, none, none, none]
def q93_0 : List (Option AP) := [none, none, none, none, none, none, none, none, none, none, none, none, none, none, none, none, none, none, none, none, none, none, none, none, none, none, none, none, none, none, none, none, none, none, none, none, none, none, none, none, none, none, none, none, none, none, none, none, none, none, none, none, none, none, none, none, none, none, none, none, none, none, none, none, none, none, none, none, none, none, none, none, none, none, none, none, none]
abbrev H93_0 : Type := (List R_iiLiEiiisLiE) × Int × Int × Unit
abbrev E93_0 : Type := (List R_iiLiEiiisLiE) × Int × Unit
abbrev Q93_0 : Type := Unit
noncomputable def laws_markEventS_c0 (a0 : List R_iiLiEiiisLiE) (k1 : Int) (i5 : Int) : Option (Sum H93_0 (Sum E93_0 Q93_0)) :=
  bif decide (i5 < ((List.length a0 : Nat) : Int)) then
    bif decide ((0 : Int) ≤ i5) then bif Nat.blt (Int.toNat i5) (List.length a0) then Option.bind ((a0)[Int.toNat i5]?) fun r1 =>
        bif decide ((0 : Int) ≤ i5) then bif Nat.blt (Int.toNat i5) (List.length (List.set a0 (Int.toNat i5) (k1, r1.2.1, r1.2.2.1, r1.2.2.2.1, r1.2.2.2.2.1, r1.2.2.2.2.2.1, r1.2.2.2.2.2.2.1, r1.2.2.2.2.2.2.2.1, ()))) then Option.bind ((List.set a0 (Int.toNat i5) (k1, r1.2.1, r1.2.2.1, r1.2.2.2.1, r1.2.2.2.2.1, r1.2.2.2.2.2.1, r1.2.2.2.2.2.2.1, r1.2.2.2.2.2.2.2.1, ()))[Int.toNat i5]?) fun r2 =>
            bif decide ((0 : Int) ≤ i5) then bif Nat.blt (Int.toNat i5) (List.length (List.set (List.set a0 (Int.toNat i5) (k1, r1.2.1, r1.2.2.1, r1.2.2.2.1, r1.2.2.2.2.1, r1.2.2.2.2.2.1, r1.2.2.2.2.2.2.1, r1.2.2.2.2.2.2.2.1, ())) (Int.toNat i5) (r2.1, IntKind.i64.wrap (k1 + (1 : Int)), r2.2.2.1, r2.2.2.2.1, r2.2.2.2.2.1, r2.2.2.2.2.2.1, r2.2.2.2.2.2.2.1, r2.2.2.2.2.2.2.2.1, ()))) then Option.bind ((List.set (List.set a0 (Int.toNat i5) (k1, r1.2.1, r1.2.2.1, r1.2.2.2.1, r1.2.2.2.2.1, r1.2.2.2.2.2.1, r1.2.2.2.2.2.2.1, r1.2.2.2.2.2.2.2.1, ())) (Int.toNat i5) (r2.1, IntKind.i64.wrap (k1 + (1 : Int)), r2.2.2.1, r2.2.2.2.1, r2.2.2.2.2.1, r2.2.2.2.2.2.1, r2.2.2.2.2.2.2.1, r2.2.2.2.2.2.2.2.1, ()))[Int.toNat i5]?) fun r3 =>
                Option.bind (laws_markIntS r3.2.2.1 (IntKind.i64.wrap ((IntKind.i64.wrap (k1 + (1 : Int))) + (1 : Int)))) fun y4 =>
                Option.bind ((List.set (List.set a0 (Int.toNat i5) (k1, r1.2.1, r1.2.2.1, r1.2.2.2.1, r1.2.2.2.2.1, r1.2.2.2.2.2.1, r1.2.2.2.2.2.2.1, r1.2.2.2.2.2.2.2.1, ())) (Int.toNat i5) (r2.1, IntKind.i64.wrap (k1 + (1 : Int)), r2.2.2.1, r2.2.2.2.1, r2.2.2.2.2.1, r2.2.2.2.2.2.1, r2.2.2.2.2.2.2.1, r2.2.2.2.2.2.2.2.1, ()))[Int.toNat i5]?) fun r5 =>
                bif decide ((0 : Int) ≤ i5) then bif Nat.blt (Int.toNat i5) (List.length (List.set (List.set (List.set a0 (Int.toNat i5) (k1, r1.2.1, r1.2.2.1, r1.2.2.2.1, r1.2.2.2.2.1, r1.2.2.2.2.2.1, r1.2.2.2.2.2.2.1, r1.2.2.2.2.2.2.2.1, ())) (Int.toNat i5) (r2.1, IntKind.i64.wrap (k1 + (1 : Int)), r2.2.2.1, r2.2.2.2.1, r2.2.2.2.2.1, r2.2.2.2.2.2.1, r2.2.2.2.2.2.2.1, r2.2.2.2.2.2.2.2.1, ())) (Int.toNat i5) (r5.1, r5.2.1, y4.2.1, r5.2.2.2.1, r5.2.2.2.2.1, r5.2.2.2.2.2.1, r5.2.2.2.2.2.2.1, r5.2.2.2.2.2.2.2.1, ()))) then Option.bind ((List.set (List.set (List.set a0 (Int.toNat i5) (k1, r1.2.1, r1.2.2.1, r1.2.2.2.1, r1.2.2.2.2.1, r1.2.2.2.2.2.1, r1.2.2.2.2.2.2.1, r1.2.2.2.2.2.2.2.1, ())) (Int.toNat i5) (r2.1, IntKind.i64.wrap (k1 + (1 : Int)), r2.2.2.1, r2.2.2.2.1, r2.2.2.2.2.1, r2.2.2.2.2.2.1, r2.2.2.2.2.2.2.1, r2.2.2.2.2.2.2.2.1, ())) (Int.toNat i5) (r5.1, r5.2.1, y4.2.1, r5.2.2.2.1, r5.2.2.2.2.1, r5.2.2.2.2.2.1, r5.2.2.2.2.2.2.1, r5.2.2.2.2.2.2.2.1, ()))[Int.toNat i5]?) fun r6 =>
                    bif decide ((0 : Int) ≤ i5) then bif Nat.blt (Int.toNat i5) (List.length (List.set (List.set (List.set (List.set a0 (Int.toNat i5) (k1, r1.2.1, r1.2.2.1, r1.2.2.2.1, r1.2.2.2.2.1, r1.2.2.2.2.2.1, r1.2.2.2.2.2.2.1, r1.2.2.2.2.2.2.2.1, ())) (Int.toNat i5) (r2.1, IntKind.i64.wrap (k1 + (1 : Int)), r2.2.2.1, r2.2.2.2.1, r2.2.2.2.2.1, r2.2.2.2.2.2.1, r2.2.2.2.2.2.2.1, r2.2.2.2.2.2.2.2.1, ())) (Int.toNat i5) (r5.1, r5.2.1, y4.2.1, r5.2.2.2.1, r5.2.2.2.2.1, r5.2.2.2.2.2.1, r5.2.2.2.2.2.2.1, r5.2.2.2.2.2.2.2.1, ())) (Int.toNat i5) (r6.1, r6.2.1, r6.2.2.1, y4.1, r6.2.2.2.2.1, r6.2.2.2.2.2.1, r6.2.2.2.2.2.2.1, r6.2.2.2.2.2.2.2.1, ()))) then Option.bind ((List.set (List.set (List.set (List.set a0 (Int.toNat i5) (k1, r1.2.1, r1.2.2.1, r1.2.2.2.1, r1.2.2.2.2.1, r1.2.2.2.2.2.1, r1.2.2.2.2.2.2.1, r1.2.2.2.2.2.2.2.1, ())) (Int.toNat i5) (r2.1, IntKind.i64.wrap (k1 + (1 : Int)), r2.2.2.1, r2.2.2.2.1, r2.2.2.2.2.1, r2.2.2.2.2.2.1, r2.2.2.2.2.2.2.1, r2.2.2.2.2.2.2.2.1, ())) (Int.toNat i5) (r5.1, r5.2.1, y4.2.1, r5.2.2.2.1, r5.2.2.2.2.1, r5.2.2.2.2.2.1, r5.2.2.2.2.2.2.1, r5.2.2.2.2.2.2.2.1, ())) (Int.toNat i5) (r6.1, r6.2.1, r6.2.2.1, y4.1, r6.2.2.2.2.1, r6.2.2.2.2.2.1, r6.2.2.2.2.2.2.1, r6.2.2.2.2.2.2.2.1, ()))[Int.toNat i5]?) fun r7 =>
                        (fun l8 : List (Int × Int × (List (Int × Unit)) × Int × Int × Int × ByteArray × (List (Int × Unit)) × Unit) =>
                        bif decide ((0 : Int) ≤ i5) then bif Nat.blt (Int.toNat i5) (List.length l8) then Option.bind ((l8)[Int.toNat i5]?) fun r9 =>
                            Option.bind (laws_markText (IntKind.i64.wrap ((IntKind.i64.wrap ((IntKind.i64.wrap (y4.1 + (1 : Int))) + (1 : Int))) + (1 : Int)))) fun y10 =>
                            bif decide ((0 : Int) ≤ i5) then bif Nat.blt (Int.toNat i5) (List.length (List.set l8 (Int.toNat i5) (r9.1, r9.2.1, r9.2.2.1, r9.2.2.2.1, r9.2.2.2.2.1, IntKind.i64.wrap ((IntKind.i64.wrap (y4.1 + (1 : Int))) + (1 : Int)), r9.2.2.2.2.2.2.1, r9.2.2.2.2.2.2.2.1, ()))) then Option.bind ((List.set l8 (Int.toNat i5) (r9.1, r9.2.1, r9.2.2.1, r9.2.2.2.1, r9.2.2.2.2.1, IntKind.i64.wrap ((IntKind.i64.wrap (y4.1 + (1 : Int))) + (1 : Int)), r9.2.2.2.2.2.2.1, r9.2.2.2.2.2.2.2.1, ()))[Int.toNat i5]?) fun r11 =>
                                bif decide ((0 : Int) ≤ i5) then bif Nat.blt (Int.toNat i5) (List.length (List.set (List.set l8 (Int.toNat i5) (r9.1, r9.2.1, r9.2.2.1, r9.2.2.2.1, r9.2.2.2.2.1, IntKind.i64.wrap ((IntKind.i64.wrap (y4.1 + (1 : Int))) + (1 : Int)), r9.2.2.2.2.2.2.1, r9.2.2.2.2.2.2.2.1, ())) (Int.toNat i5) (r11.1, r11.2.1, r11.2.2.1, r11.2.2.2.1, r11.2.2.2.2.1, r11.2.2.2.2.2.1, y10.1, r11.2.2.2.2.2.2.2.1, ()))) then Option.bind ((List.set (List.set l8 (Int.toNat i5) (r9.1, r9.2.1, r9.2.2.1, r9.2.2.2.1, r9.2.2.2.2.1, IntKind.i64.wrap ((IntKind.i64.wrap (y4.1 + (1 : Int))) + (1 : Int)), r9.2.2.2.2.2.2.1, r9.2.2.2.2.2.2.2.1, ())) (Int.toNat i5) (r11.1, r11.2.1, r11.2.2.1, r11.2.2.2.1, r11.2.2.2.2.1, r11.2.2.2.2.2.1, y10.1, r11.2.2.2.2.2.2.2.1, ()))[Int.toNat i5]?) fun r12 =>
                                    Option.bind (laws_markIntS r12.2.2.2.2.2.2.2.1 (IntKind.i64.wrap ((IntKind.i64.wrap ((IntKind.i64.wrap ((IntKind.i64.wrap (y4.1 + (1 : Int))) + (1 : Int))) + (1 : Int))) + (1 : Int)))) fun y13 =>
                                    Option.bind ((List.set (List.set l8 (Int.toNat i5) (r9.1, r9.2.1, r9.2.2.1, r9.2.2.2.1, r9.2.2.2.2.1, IntKind.i64.wrap ((IntKind.i64.wrap (y4.1 + (1 : Int))) + (1 : Int)), r9.2.2.2.2.2.2.1, r9.2.2.2.2.2.2.2.1, ())) (Int.toNat i5) (r11.1, r11.2.1, r11.2.2.1, r11.2.2.2.1, r11.2.2.2.2.1, r11.2.2.2.2.2.1, y10.1, r11.2.2.2.2.2.2.2.1, ()))[Int.toNat i5]?) fun r14 =>
                                    some (.inl (List.set (List.set (List.set l8 (Int.toNat i5) (r9.1, r9.2.1, r9.2.2.1, r9.2.2.2.1, r9.2.2.2.2.1, IntKind.i64.wrap ((IntKind.i64.wrap (y4.1 + (1 : Int))) + (1 : Int)), r9.2.2.2.2.2.2.1, r9.2.2.2.2.2.2.2.1, ())) (Int.toNat i5) (r11.1, r11.2.1, r11.2.2.1, r11.2.2.2.1, r11.2.2.2.2.1, r11.2.2.2.2.2.1, y10.1, r11.2.2.2.2.2.2.2.1, ())) (Int.toNat i5) (r14.1, r14.2.1, r14.2.2.1, r14.2.2.2.1, r14.2.2.2.2.1, r14.2.2.2.2.2.1, r14.2.2.2.2.2.2.1, y13.2.1, ()), y13.1, IntKind.i64.wrap (i5 + (1 : Int)), ()))
                                  else none
                                else none
                              else none
                            else none
                          else none
                        else none) (List.set (List.set (List.set (List.set (List.set a0 (Int.toNat i5) (k1, r1.2.1, r1.2.2.1, r1.2.2.2.1, r1.2.2.2.2.1, r1.2.2.2.2.2.1, r1.2.2.2.2.2.2.1, r1.2.2.2.2.2.2.2.1, ())) (Int.toNat i5) (r2.1, IntKind.i64.wrap (k1 + (1 : Int)), r2.2.2.1, r2.2.2.2.1, r2.2.2.2.2.1, r2.2.2.2.2.2.1, r2.2.2.2.2.2.2.1, r2.2.2.2.2.2.2.2.1, ())) (Int.toNat i5) (r5.1, r5.2.1, y4.2.1, r5.2.2.2.1, r5.2.2.2.2.1, r5.2.2.2.2.2.1, r5.2.2.2.2.2.2.1, r5.2.2.2.2.2.2.2.1, ())) (Int.toNat i5) (r6.1, r6.2.1, r6.2.2.1, y4.1, r6.2.2.2.2.1, r6.2.2.2.2.2.1, r6.2.2.2.2.2.2.1, r6.2.2.2.2.2.2.2.1, ())) (Int.toNat i5) (r7.1, r7.2.1, r7.2.2.1, r7.2.2.2.1, IntKind.i64.wrap (y4.1 + (1 : Int)), r7.2.2.2.2.2.1, r7.2.2.2.2.2.2.1, r7.2.2.2.2.2.2.2.1, ()))
                      else none
                    else none
                  else none
                else none
              else none
            else none
          else none
        else none
      else none
    else none
  else
    some (.inr (.inl (a0, k1, ())))
noncomputable def laws_markEventS_r0 (x : H93_0) : Option (Sum H93_0 (Sum E93_0 Q93_0)) := laws_markEventS_c0 x.1 x.2.1 x.2.2.1
noncomputable def L93 {R : Type} : Loops R := fun id _ st k => bif Nat.beq id 0 then loopAt hp93_0 e93_0 q93_0 laws_markEventS_r0 st k else none
noncomputable def laws_markEventS (a0 : List R_iiLiEiiisLiE) (k1 : Int) : Option (Int × (List R_iiLiEiiisLiE) × Unit) :=
  outK (loopV laws_markEventS_r0 (a0, k1, (0 : Int), ())) (fun y1 =>
    some (y1.2.1, y1.1, ())) (fun y2 =>
    none)
noncomputable def x93 (x : (List R_iiLiEiiisLiE) × Int × Unit) : Option (Int × (List R_iiLiEiiisLiE) × Unit) := laws_markEventS x.1 x.2.1
noncomputable def sem93 : Sem1 := semOf ps93 rs93 x93
theorem so93 : SemsOk Try.prog (semsOf sl93) := sems_cons k75 (sems_cons k107 (sems_nil))
noncomputable def b93_0 : Code := nthLoop code93 0
theorem t93_r0_eq (x : denR (headRT hp93_0)) : codeK (tabOf tr) (semsOf sl93) D93 L93 b93_0 (headSt hp93_0 x) (roundK 0 hp93_0 e93_0 q93_0) = laws_markEventS_r0 x := by kernel_rfl
theorem loop93_0 {R : Type} (r : R) (w0 : World) (mu : Mu) (hs : AnShape ps93 mu) : LoopAt Try.prog w0 mu 76 (L93 : Loops R) r 0 b93_0 :=
  loop_auto tr_ok eq_ok mixed_ok so93 (D := D93) hs (by kernel_rfl) (fun _ => (loops_of (l := []) (by kernel_rfl) (List.forall_mem_nil _))) t93_r0_eq (fun _ _ => rfl)
theorem t93_eq (x : denR (headRT (ps93.map some))) : codeK (tabOf tr) (semsOf sl93) D93 L93 code93 (start 76 ps93 x) (finK rs93 ps93) = x93 x := by kernel_rfl
theorem k93 : Known Try.prog 93 sem93 :=
  fn_auto tr_ok eq_ok mixed_ok so93 (D := D93) (code := code93) (n := 76) Try.func93 (by kernel_rfl) (by kernel_rfl) (by kernel_rfl) (fun w0 mu _ hs => (loops_of (l := [(0, b93_0)]) (by kernel_rfl) (List.forall_mem_cons.2 ⟨loop93_0 _ w0 mu hs, (List.forall_mem_nil _)⟩))) t93_eq

/-! ### f50: laws.markDaemon -/
noncomputable def code50 : Code := match Try.f50.body with | some c => c | none => .skip
def ps50 : List AP := [.lend [.int .i64, .bool, .int .i64, .int .i64, .own T_i, .own T_iiis, .own T_i, .own T_s, .int .i64, .int .i64, .int .i64, .int .i64, .int .i64, .int .i64, .int .i64, .int .i64, .int .i64, .own T_i, .int .i64, .int .i64, .int .i64, .own T_i, .own T_iiiLiiisE .dp, .own T_iiLiEiiisLiE .dp], .val false [.int .i64]]
def rs50 : List RP := [{ src := .tmp 4, agg := false, ps := [.int .i64] }]
noncomputable def sl50 : SemL := [(60, (.lend, .shr, .shr, sem60)), (16, (.lend, .shr, .shr, sem16)), (34, (.io, .shr, .shr, sem34)), (93, (.io, .shr, .shr, sem93))]
def D50 : Draws := fun _ => .nil
noncomputable def L50 {R : Type} : Loops R := fun _ _ _ _ => none
noncomputable def laws_markDaemon (a0c0 : Int) (a0c1 : Bool) (a0c2 : Int) (a0c3 : Int) (a0c4 : List (Int × Unit)) (a0c5 : List R_iiis) (a0c6 : List (Int × Unit)) (a0c7 : List (ByteArray × Unit)) (a0c8 : Int) (a0c9 : Int) (a0c10 : Int) (a0c11 : Int) (a0c12 : Int) (a0c13 : Int) (a0c14 : Int) (a0c15 : Int) (a0c16 : Int) (a0c17 : List (Int × Unit)) (a0c18 : Int) (a0c19 : Int) (a0c20 : Int) (a0c21 : List (Int × Unit)) (a0c22 : List R_iiiLiiisE) (a0c23 : List R_iiLiEiiisLiE) (k1 : Int) : Option (Int × (List (Int × Unit)) × (List R_iiis) × (List (Int × Unit)) × (List (ByteArray × Unit)) × (List (Int × Unit)) × (List (Int × Unit)) × (List R_iiiLiiisE) × (List R_iiLiEiiisLiE) × Unit) :=
  Option.bind (laws_markMate a0c2 a0c3 a0c4 a0c5 a0c6 a0c7 a0c8 a0c9 a0c10 a0c11 a0c12 a0c13 a0c14 a0c15 a0c16 a0c17 k1) fun y1 =>
  Option.bind (laws_markRing a0c20 a0c21 y1.1) fun y2 =>
  Option.bind (laws_markBundleS a0c22 y2.1) fun y3 =>
  Option.bind (laws_markEventS a0c23 y3.1) fun y4 =>
  some (y4.1, y1.2.1, y1.2.2.1, y1.2.2.2.1, y1.2.2.2.2.1, y1.2.2.2.2.2.1, y2.2.1, y3.2.1, y4.2.1, ())
noncomputable def x50 (x : Int × Bool × Int × Int × (List (Int × Unit)) × (List R_iiis) × (List (Int × Unit)) × (List (ByteArray × Unit)) × Int × Int × Int × Int × Int × Int × Int × Int × Int × (List (Int × Unit)) × Int × Int × Int × (List (Int × Unit)) × (List R_iiiLiiisE) × (List R_iiLiEiiisLiE) × Int × Unit) : Option (Int × (List (Int × Unit)) × (List R_iiis) × (List (Int × Unit)) × (List (ByteArray × Unit)) × (List (Int × Unit)) × (List (Int × Unit)) × (List R_iiiLiiisE) × (List R_iiLiEiiisLiE) × Unit) := laws_markDaemon x.1 x.2.1 x.2.2.1 x.2.2.2.1 x.2.2.2.2.1 x.2.2.2.2.2.1 x.2.2.2.2.2.2.1 x.2.2.2.2.2.2.2.1 x.2.2.2.2.2.2.2.2.1 x.2.2.2.2.2.2.2.2.2.1 x.2.2.2.2.2.2.2.2.2.2.1 x.2.2.2.2.2.2.2.2.2.2.2.1 x.2.2.2.2.2.2.2.2.2.2.2.2.1 x.2.2.2.2.2.2.2.2.2.2.2.2.2.1 x.2.2.2.2.2.2.2.2.2.2.2.2.2.2.1 x.2.2.2.2.2.2.2.2.2.2.2.2.2.2.2.1 x.2.2.2.2.2.2.2.2.2.2.2.2.2.2.2.2.1 x.2.2.2.2.2.2.2.2.2.2.2.2.2.2.2.2.2.1 x.2.2.2.2.2.2.2.2.2.2.2.2.2.2.2.2.2.2.1 x.2.2.2.2.2.2.2.2.2.2.2.2.2.2.2.2.2.2.2.1 x.2.2.2.2.2.2.2.2.2.2.2.2.2.2.2.2.2.2.2.2.1 x.2.2.2.2.2.2.2.2.2.2.2.2.2.2.2.2.2.2.2.2.2.1 x.2.2.2.2.2.2.2.2.2.2.2.2.2.2.2.2.2.2.2.2.2.2.1 x.2.2.2.2.2.2.2.2.2.2.2.2.2.2.2.2.2.2.2.2.2.2.2.1 x.2.2.2.2.2.2.2.2.2.2.2.2.2.2.2.2.2.2.2.2.2.2.2.2.1
noncomputable def sem50 : Sem1 := semOf ps50 rs50 x50
theorem so50 : SemsOk Try.prog (semsOf sl50) := sems_cons k60 (sems_cons k16 (sems_cons k34 (sems_cons k93 (sems_nil))))
theorem t50_eq (x : denR (headRT (ps50.map some))) : codeK (tabOf tr) (semsOf sl50) D50 L50 code50 (start 22 ps50 x) (finK rs50 ps50) = x50 x := by kernel_rfl
theorem k50 : Known Try.prog 50 sem50 :=
  fn_auto tr_ok eq_ok mixed_ok so50 (D := D50) (code := code50) (n := 22) Try.func50 (by kernel_rfl) (by kernel_rfl) (by kernel_rfl) (fun w0 mu _ hs => (loops_of (l := []) (by kernel_rfl) (List.forall_mem_nil _))) t50_eq

/-! ### f130: laws.heldIntS -/
noncomputable def code130 : Code := match Try.f130.body with | some c => c | none => .skip
def ps130 : List AP := [.val false [.shr T_i], .val false [.int .i64]]
def rs130 : List RP := [{ src := .tmp 4, agg := false, ps := [.int .i64] }]
noncomputable def sl130 : SemL := []
def D130 : Draws := fun _ => .nil
def hp130_0 : List (Option AP) := [some (.val false [.shr T_i]), some (.val false [.int .i64]), none, none, none, some (.val false [.int .i64]), none, none, none, none, none, none, none, none, none, none, none, none, none, none, none, none]
def e130_0 : List (Option AP) := [none, some (.val false [.int .i64]), none, none, none, none, none, none, none, none, none, none, none, none, none, none, none, none, none, none, none, none]
def q130_0 : List (Option AP) := [none, none, none, none, some (.val false [.int .i64]), none, none, none, none, none, none, none, none, none, none, none, none, none, none, none, none, none]
abbrev H130_0 : Type := (List (Int × Unit)) × Int × Int × Unit
abbrev E130_0 : Type := Int × Unit
abbrev Q130_0 : Type := Int × Unit
noncomputable def laws_heldIntS_c0 (a0 : List (Int × Unit)) (k1 : Int) (i5 : Int) : Option (Sum H130_0 (Sum E130_0 Q130_0)) :=
  bif decide (i5 < ((List.length a0 : Nat) : Int)) then
    bif decide ((0 : Int) ≤ i5) then Option.bind ((a0)[Int.toNat i5]?) fun r1 =>
      bif !decide (r1.1 = k1) then
        some (.inr (.inr ((-1 : Int), ())))
      else
        some (.inl (a0, IntKind.i64.wrap (k1 + (1 : Int)), IntKind.i64.wrap (i5 + (1 : Int)), ()))
    else none
  else
    some (.inr (.inl (k1, ())))
noncomputable def laws_heldIntS_r0 (x : H130_0) : Option (Sum H130_0 (Sum E130_0 Q130_0)) := laws_heldIntS_c0 x.1 x.2.1 x.2.2.1
noncomputable def L130 {R : Type} : Loops R := fun id _ st k => bif Nat.beq id 0 then loopAt hp130_0 e130_0 q130_0 laws_heldIntS_r0 st k else none
noncomputable def laws_heldIntS (a0 : List (Int × Unit)) (k1 : Int) : Option (Int × Unit) :=
  outK (loopV laws_heldIntS_r0 (a0, k1, (0 : Int), ())) (fun y1 =>
    some (y1.1, ())) (fun y2 =>
    some (y2.1, ()))
noncomputable def x130 (x : (List (Int × Unit)) × Int × Unit) : Option (Int × Unit) := laws_heldIntS x.1 x.2.1
noncomputable def sem130 : Sem1 := semOf ps130 rs130 x130
theorem so130 : SemsOk Try.prog (semsOf sl130) := sems_nil
noncomputable def b130_0 : Code := nthLoop code130 0
theorem t130_r0_eq (x : denR (headRT hp130_0)) : codeK (tabOf tr) (semsOf sl130) D130 L130 b130_0 (headSt hp130_0 x) (roundK 0 hp130_0 e130_0 q130_0) = laws_heldIntS_r0 x := by kernel_rfl
theorem loop130_0 {R : Type} (r : R) (w0 : World) (mu : Mu) (hs : AnShape ps130 mu) : LoopAt Try.prog w0 mu 21 (L130 : Loops R) r 0 b130_0 :=
  loop_auto tr_ok eq_ok mixed_ok so130 (D := D130) hs (by kernel_rfl) (fun _ => (loops_of (l := []) (by kernel_rfl) (List.forall_mem_nil _))) t130_r0_eq (fun _ _ => rfl)
theorem t130_eq (x : denR (headRT (ps130.map some))) : codeK (tabOf tr) (semsOf sl130) D130 L130 code130 (start 21 ps130 x) (finK rs130 ps130) = x130 x := by kernel_rfl
theorem k130 : Known Try.prog 130 sem130 :=
  fn_auto tr_ok eq_ok mixed_ok so130 (D := D130) (code := code130) (n := 21) Try.func130 (by kernel_rfl) (by kernel_rfl) (by kernel_rfl) (fun w0 mu _ hs => (loops_of (l := [(0, b130_0)]) (by kernel_rfl) (List.forall_mem_cons.2 ⟨loop130_0 _ w0 mu hs, (List.forall_mem_nil _)⟩))) t130_eq

/-! ### f52: laws.heldToken -/
noncomputable def code52 : Code := match Try.f52.body with | some c => c | none => .skip
def ps52 : List AP := [.val true [.int .i64, .int .i64, .int .i64, .int .i64, .int .i64, .shr T_i], .val false [.int .i64]]
def rs52 : List RP := [{ src := .tmp 4, agg := false, ps := [.int .i64] }]
noncomputable def sl52 : SemL := [(130, (.shr, .shr, .shr, sem130))]
def D52 : Draws := fun _ => .nil
noncomputable def L52 {R : Type} : Loops R := fun _ _ _ _ => none
noncomputable def laws_heldToken (a0c0 : Int) (a0c1 : Int) (a0c2 : Int) (a0c3 : Int) (a0c4 : Int) (a0c5 : List (Int × Unit)) (k1 : Int) : Option (Int × Unit) :=
  Option.bind (laws_heldIntS a0c5 k1) fun y1 =>
  bif decide (y1.1 < (0 : Int)) then
    some ((-1 : Int), ())
  else
    some (y1.1, ())
noncomputable def x52 (x : Int × Int × Int × Int × Int × (List (Int × Unit)) × Int × Unit) : Option (Int × Unit) := laws_heldToken x.1 x.2.1 x.2.2.1 x.2.2.2.1 x.2.2.2.2.1 x.2.2.2.2.2.1 x.2.2.2.2.2.2.1
noncomputable def sem52 : Sem1 := semOf ps52 rs52 x52
theorem so52 : SemsOk Try.prog (semsOf sl52) := sems_cons k130 (sems_nil)
theorem t52_eq (x : denR (headRT (ps52.map some))) : codeK (tabOf tr) (semsOf sl52) D52 L52 code52 (start 12 ps52 x) (finK rs52 ps52) = x52 x := by kernel_rfl
theorem k52 : Known Try.prog 52 sem52 :=
  fn_auto tr_ok eq_ok mixed_ok so52 (D := D52) (code := code52) (n := 12) Try.func52 (by kernel_rfl) (by kernel_rfl) (by kernel_rfl) (fun w0 mu _ hs => (loops_of (l := []) (by kernel_rfl) (List.forall_mem_nil _))) t52_eq

/-! ### f8: laws.FnExactFirstOf -/
noncomputable def code8 : Code := match Try.f8.body with | some c => c | none => .skip
def ps8 : List AP := [.val true [.int .i64, .bool, .int .i64, .int .i64, .shr T_i, .shr T_iiis, .shr T_i, .shr T_s, .int .i64, .int .i64, .int .i64, .int .i64, .int .i64, .int .i64, .int .i64, .int .i64, .int .i64, .shr T_i, .int .i64, .int .i64, .int .i64, .shr T_i, .shr T_iiiLiiisE, .shr T_iiLiEiiisLiE]]
def rs8 : List RP := [{ src := .tmp 2, agg := false, ps := [.bool] }]
noncomputable def sl8 : SemL := [(44, (.shr, .shr, .shr, sem44)), (46, (.shr, .shr, .shr, sem46)), (45, (.shr, .shr, .shr, sem45)), (47, (.shr, .shr, .shr, sem47)), (48, (.shr, .shr, .shr, sem48)), (49, (.shr, .shr, .shr, sem49)), (50, (.lend, .shr, .shr, sem50)), (51, (.lend, .shr, .shr, sem51)), (52, (.shr, .shr, .shr, sem52))]
def D8 : Draws := fun id => bif Nat.beq id 10 then .op 0 .take (.op 1 .take (.op 2 .one (.op 3 .one (.op 4 .any (.nil))))) else .nil
noncomputable def L8 {R : Type} : Loops R := fun _ _ _ _ => none
noncomputable def laws_FnExactFirstOf (aD0c0 : Int) (aD0c1 : Bool) (aD0c2 : Int) (aD0c3 : Int) (aD0c4 : List (Int × Unit)) (aD0c5 : List R_iiis) (aD0c6 : List (Int × Unit)) (aD0c7 : List (ByteArray × Unit)) (aD0c8 : Int) (aD0c9 : Int) (aD0c10 : Int) (aD0c11 : Int) (aD0c12 : Int) (aD0c13 : Int) (aD0c14 : Int) (aD0c15 : Int) (aD0c16 : Int) (aD0c17 : List (Int × Unit)) (aD0c18 : Int) (aD0c19 : Int) (aD0c20 : Int) (aD0c21 : List (Int × Unit)) (aD0c22 : List R_iiiLiiisE) (aD0c23 : List R_iiLiEiiisLiE) : Option (Bool × Unit) :=
  Option.bind (laws_szDaemon aD0c0 aD0c1 aD0c2 aD0c3 aD0c4 aD0c5 aD0c6 aD0c7 aD0c8 aD0c9 aD0c10 aD0c11 aD0c12 aD0c13 aD0c14 aD0c15 aD0c16 aD0c17 aD0c18 aD0c19 aD0c20 aD0c21 aD0c22 aD0c23 (1048576 : Int)) fun y1 =>
  bif decide (y1.1 < (0 : Int)) then
    some (true, ())
  else
    Option.bind (laws_toDaemon aD0c0 aD0c1 aD0c2 aD0c3 aD0c4 aD0c5 aD0c6 aD0c7 aD0c8 aD0c9 aD0c10 aD0c11 aD0c12 aD0c13 aD0c14 aD0c15 aD0c16 aD0c17 aD0c18 aD0c19 aD0c20 aD0c21 aD0c22 aD0c23) fun y2 =>
    Option.bind (spec_FirstOf y2.1 y2.2.1 y2.2.2.1 y2.2.2.2.1 y2.2.2.2.2.1 y2.2.2.2.2.2.1 y2.2.2.2.2.2.2.1 y2.2.2.2.2.2.2.2.1 y2.2.2.2.2.2.2.2.2.1 y2.2.2.2.2.2.2.2.2.2.1 y2.2.2.2.2.2.2.2.2.2.2.1 y2.2.2.2.2.2.2.2.2.2.2.2.1 y2.2.2.2.2.2.2.2.2.2.2.2.2.1 y2.2.2.2.2.2.2.2.2.2.2.2.2.2.1 y2.2.2.2.2.2.2.2.2.2.2.2.2.2.2.1 y2.2.2.2.2.2.2.2.2.2.2.2.2.2.2.2.1 y2.2.2.2.2.2.2.2.2.2.2.2.2.2.2.2.2.1 y2.2.2.2.2.2.2.2.2.2.2.2.2.2.2.2.2.2.1 y2.2.2.2.2.2.2.2.2.2.2.2.2.2.2.2.2.2.2.1 y2.2.2.2.2.2.2.2.2.2.2.2.2.2.2.2.2.2.2.2.1 y2.2.2.2.2.2.2.2.2.2.2.2.2.2.2.2.2.2.2.2.2.1 y2.2.2.2.2.2.2.2.2.2.2.2.2.2.2.2.2.2.2.2.2.2.1 y2.2.2.2.2.2.2.2.2.2.2.2.2.2.2.2.2.2.2.2.2.2.2.1 y2.2.2.2.2.2.2.2.2.2.2.2.2.2.2.2.2.2.2.2.2.2.2.2.1) fun y3 =>
    Option.bind (laws_toDaemon aD0c0 aD0c1 aD0c2 aD0c3 aD0c4 aD0c5 aD0c6 aD0c7 aD0c8 aD0c9 aD0c10 aD0c11 aD0c12 aD0c13 aD0c14 aD0c15 aD0c16 aD0c17 aD0c18 aD0c19 aD0c20 aD0c21 aD0c22 aD0c23) fun y4 =>
    Option.bind (impl_FirstOf y4.1 y4.2.1 y4.2.2.1 y4.2.2.2.1 y4.2.2.2.2.1 y4.2.2.2.2.2.1 y4.2.2.2.2.2.2.1 y4.2.2.2.2.2.2.2.1 y4.2.2.2.2.2.2.2.2.1 y4.2.2.2.2.2.2.2.2.2.1 y4.2.2.2.2.2.2.2.2.2.2.1 y4.2.2.2.2.2.2.2.2.2.2.2.1 y4.2.2.2.2.2.2.2.2.2.2.2.2.1 y4.2.2.2.2.2.2.2.2.2.2.2.2.2.1 y4.2.2.2.2.2.2.2.2.2.2.2.2.2.2.1 y4.2.2.2.2.2.2.2.2.2.2.2.2.2.2.2.1 y4.2.2.2.2.2.2.2.2.2.2.2.2.2.2.2.2.1 y4.2.2.2.2.2.2.2.2.2.2.2.2.2.2.2.2.2.1 y4.2.2.2.2.2.2.2.2.2.2.2.2.2.2.2.2.2.2.1 y4.2.2.2.2.2.2.2.2.2.2.2.2.2.2.2.2.2.2.2.1 y4.2.2.2.2.2.2.2.2.2.2.2.2.2.2.2.2.2.2.2.2.1 y4.2.2.2.2.2.2.2.2.2.2.2.2.2.2.2.2.2.2.2.2.2.1 y4.2.2.2.2.2.2.2.2.2.2.2.2.2.2.2.2.2.2.2.2.2.2.1 y4.2.2.2.2.2.2.2.2.2.2.2.2.2.2.2.2.2.2.2.2.2.2.2.1) fun y5 =>
    Option.bind (laws_eqToken y5.1 y5.2.1 y5.2.2.1 y5.2.2.2.1 y5.2.2.2.2.1 y5.2.2.2.2.2.1 y3.1 y3.2.1 y3.2.2.1 y3.2.2.2.1 y3.2.2.2.2.1 y3.2.2.2.2.2.1) fun y6 =>
    bif !y6.1 then
      some (false, ())
    else bif !(y5.2.2.2.2.2.2.1 == y3.2.2.2.2.2.2.1) then
      some (false, ())
    else
      Option.bind (laws_toDaemon aD0c0 aD0c1 aD0c2 aD0c3 aD0c4 aD0c5 aD0c6 aD0c7 aD0c8 aD0c9 aD0c10 aD0c11 aD0c12 aD0c13 aD0c14 aD0c15 aD0c16 aD0c17 aD0c18 aD0c19 aD0c20 aD0c21 aD0c22 aD0c23) fun y7 =>
      Option.bind (laws_eqDaemon y4.1 y4.2.1 y4.2.2.1 y4.2.2.2.1 y4.2.2.2.2.1 y4.2.2.2.2.2.1 y4.2.2.2.2.2.2.1 y4.2.2.2.2.2.2.2.1 y4.2.2.2.2.2.2.2.2.1 y4.2.2.2.2.2.2.2.2.2.1 y4.2.2.2.2.2.2.2.2.2.2.1 y4.2.2.2.2.2.2.2.2.2.2.2.1 y4.2.2.2.2.2.2.2.2.2.2.2.2.1 y4.2.2.2.2.2.2.2.2.2.2.2.2.2.1 y4.2.2.2.2.2.2.2.2.2.2.2.2.2.2.1 y4.2.2.2.2.2.2.2.2.2.2.2.2.2.2.2.1 y4.2.2.2.2.2.2.2.2.2.2.2.2.2.2.2.2.1 y4.2.2.2.2.2.2.2.2.2.2.2.2.2.2.2.2.2.1 y4.2.2.2.2.2.2.2.2.2.2.2.2.2.2.2.2.2.2.1 y4.2.2.2.2.2.2.2.2.2.2.2.2.2.2.2.2.2.2.2.1 y4.2.2.2.2.2.2.2.2.2.2.2.2.2.2.2.2.2.2.2.2.1 y4.2.2.2.2.2.2.2.2.2.2.2.2.2.2.2.2.2.2.2.2.2.1 y4.2.2.2.2.2.2.2.2.2.2.2.2.2.2.2.2.2.2.2.2.2.2.1 y4.2.2.2.2.2.2.2.2.2.2.2.2.2.2.2.2.2.2.2.2.2.2.2.1 y7.1 y7.2.1 y7.2.2.1 y7.2.2.2.1 y7.2.2.2.2.1 y7.2.2.2.2.2.1 y7.2.2.2.2.2.2.1 y7.2.2.2.2.2.2.2.1 y7.2.2.2.2.2.2.2.2.1 y7.2.2.2.2.2.2.2.2.2.1 y7.2.2.2.2.2.2.2.2.2.2.1 y7.2.2.2.2.2.2.2.2.2.2.2.1 y7.2.2.2.2.2.2.2.2.2.2.2.2.1 y7.2.2.2.2.2.2.2.2.2.2.2.2.2.1 y7.2.2.2.2.2.2.2.2.2.2.2.2.2.2.1 y7.2.2.2.2.2.2.2.2.2.2.2.2.2.2.2.1 y7.2.2.2.2.2.2.2.2.2.2.2.2.2.2.2.2.1 y7.2.2.2.2.2.2.2.2.2.2.2.2.2.2.2.2.2.1 y7.2.2.2.2.2.2.2.2.2.2.2.2.2.2.2.2.2.2.1 y7.2.2.2.2.2.2.2.2.2.2.2.2.2.2.2.2.2.2.2.1 y7.2.2.2.2.2.2.2.2.2.2.2.2.2.2.2.2.2.2.2.2.1 y7.2.2.2.2.2.2.2.2.2.2.2.2.2.2.2.2.2.2.2.2.2.1 y7.2.2.2.2.2.2.2.2.2.2.2.2.2.2.2.2.2.2.2.2.2.2.1 y7.2.2.2.2.2.2.2.2.2.2.2.2.2.2.2.2.2.2.2.2.2.2.2.1) fun y8 =>
      bif !y8.1 then
        some (false, ())
      else
        Option.bind (laws_markDaemon y4.1 y4.2.1 y4.2.2.1 y4.2.2.2.1 y4.2.2.2.2.1 y4.2.2.2.2.2.1 y4.2.2.2.2.2.2.1 y4.2.2.2.2.2.2.2.1 y4.2.2.2.2.2.2.2.2.1 y4.2.2.2.2.2.2.2.2.2.1 y4.2.2.2.2.2.2.2.2.2.2.1 y4.2.2.2.2.2.2.2.2.2.2.2.1 y4.2.2.2.2.2.2.2.2.2.2.2.2.1 y4.2.2.2.2.2.2.2.2.2.2.2.2.2.1 y4.2.2.2.2.2.2.2.2.2.2.2.2.2.2.1 y4.2.2.2.2.2.2.2.2.2.2.2.2.2.2.2.1 y4.2.2.2.2.2.2.2.2.2.2.2.2.2.2.2.2.1 y4.2.2.2.2.2.2.2.2.2.2.2.2.2.2.2.2.2.1 y4.2.2.2.2.2.2.2.2.2.2.2.2.2.2.2.2.2.2.1 y4.2.2.2.2.2.2.2.2.2.2.2.2.2.2.2.2.2.2.2.1 y4.2.2.2.2.2.2.2.2.2.2.2.2.2.2.2.2.2.2.2.2.1 y4.2.2.2.2.2.2.2.2.2.2.2.2.2.2.2.2.2.2.2.2.2.1 y4.2.2.2.2.2.2.2.2.2.2.2.2.2.2.2.2.2.2.2.2.2.2.1 y4.2.2.2.2.2.2.2.2.2.2.2.2.2.2.2.2.2.2.2.2.2.2.2.1 (1 : Int)) fun y9 =>
        bif decide (y9.1 < (0 : Int)) then
          some (false, ())
        else
          Option.bind (laws_eqToken y5.1 y5.2.1 y5.2.2.1 y5.2.2.2.1 y5.2.2.2.2.1 y5.2.2.2.2.2.1 y3.1 y3.2.1 y3.2.2.1 y3.2.2.2.1 y3.2.2.2.2.1 y3.2.2.2.2.2.1) fun y10 =>
          bif !y10.1 then
            some (false, ())
          else bif !(y5.2.2.2.2.2.2.1 == y3.2.2.2.2.2.2.1) then
            some (false, ())
          else
            Option.bind (laws_markToken y5.1 y5.2.1 y5.2.2.1 y5.2.2.2.1 y5.2.2.2.2.1 y5.2.2.2.2.2.1 (1 : Int)) fun y11 =>
            Option.bind (laws_heldToken y5.1 y5.2.1 y5.2.2.1 y5.2.2.2.1 y5.2.2.2.2.1 y11.2.1 (1 : Int)) fun y12 =>
            bif decide (y12.1 < (0 : Int)) then
              some (false, ())
            else bif !decide (y12.1 = y11.1) then
              some (false, ())
            else
              Option.bind (laws_toDaemon aD0c0 aD0c1 aD0c2 aD0c3 aD0c4 aD0c5 aD0c6 aD0c7 aD0c8 aD0c9 aD0c10 aD0c11 aD0c12 aD0c13 aD0c14 aD0c15 aD0c16 aD0c17 aD0c18 aD0c19 aD0c20 aD0c21 aD0c22 aD0c23) fun y13 =>
              Option.bind (impl_FirstOf y13.1 y13.2.1 y13.2.2.1 y13.2.2.2.1 y13.2.2.2.2.1 y13.2.2.2.2.2.1 y13.2.2.2.2.2.2.1 y13.2.2.2.2.2.2.2.1 y13.2.2.2.2.2.2.2.2.1 y13.2.2.2.2.2.2.2.2.2.1 y13.2.2.2.2.2.2.2.2.2.2.1 y13.2.2.2.2.2.2.2.2.2.2.2.1 y13.2.2.2.2.2.2.2.2.2.2.2.2.1 y13.2.2.2.2.2.2.2.2.2.2.2.2.2.1 y13.2.2.2.2.2.2.2.2.2.2.2.2.2.2.1 y13.2.2.2.2.2.2.2.2.2.2.2.2.2.2.2.1 y13.2.2.2.2.2.2.2.2.2.2.2.2.2.2.2.2.1 y13.2.2.2.2.2.2.2.2.2.2.2.2.2.2.2.2.2.1 y13.2.2.2.2.2.2.2.2.2.2.2.2.2.2.2.2.2.2.1 y13.2.2.2.2.2.2.2.2.2.2.2.2.2.2.2.2.2.2.2.1 y13.2.2.2.2.2.2.2.2.2.2.2.2.2.2.2.2.2.2.2.2.1 y13.2.2.2.2.2.2.2.2.2.2.2.2.2.2.2.2.2.2.2.2.2.1 y13.2.2.2.2.2.2.2.2.2.2.2.2.2.2.2.2.2.2.2.2.2.2.1 y13.2.2.2.2.2.2.2.2.2.2.2.2.2.2.2.2.2.2.2.2.2.2.2.1) fun y14 =>
              Option.bind (laws_eqToken y14.1 y14.2.1 y14.2.2.1 y14.2.2.2.1 y14.2.2.2.2.1 y14.2.2.2.2.2.1 y3.1 y3.2.1 y3.2.2.1 y3.2.2.2.1 y3.2.2.2.2.1 y3.2.2.2.2.2.1) fun y15 =>
              bif !y15.1 then
                some (false, ())
              else bif !(y14.2.2.2.2.2.2.1 == y3.2.2.2.2.2.2.1) then
                some (false, ())
              else
                Option.bind (laws_heldToken y5.1 y5.2.1 y5.2.2.1 y5.2.2.2.1 y5.2.2.2.2.1 y11.2.1 (1 : Int)) fun y16 =>
                bif decide (y16.1 < (0 : Int)) then
                  some (false, ())
                else bif !decide (y16.1 = y11.1) then
                  some (false, ())
                else
                  some (true, ())
noncomputable def x8 (x : Int × Bool × Int × Int × (List (Int × Unit)) × (List R_iiis) × (List (Int × Unit)) × (List (ByteArray × Unit)) × Int × Int × Int × Int × Int × Int × Int × Int × Int × (List (Int × Unit)) × Int × Int × Int × (List (Int × Unit)) × (List R_iiiLiiisE) × (List R_iiLiEiiisLiE) × Unit) : Option (Bool × Unit) := laws_FnExactFirstOf x.1 x.2.1 x.2.2.1 x.2.2.2.1 x.2.2.2.2.1 x.2.2.2.2.2.1 x.2.2.2.2.2.2.1 x.2.2.2.2.2.2.2.1 x.2.2.2.2.2.2.2.2.1 x.2.2.2.2.2.2.2.2.2.1 x.2.2.2.2.2.2.2.2.2.2.1 x.2.2.2.2.2.2.2.2.2.2.2.1 x.2.2.2.2.2.2.2.2.2.2.2.2.1 x.2.2.2.2.2.2.2.2.2.2.2.2.2.1 x.2.2.2.2.2.2.2.2.2.2.2.2.2.2.1 x.2.2.2.2.2.2.2.2.2.2.2.2.2.2.2.1 x.2.2.2.2.2.2.2.2.2.2.2.2.2.2.2.2.1 x.2.2.2.2.2.2.2.2.2.2.2.2.2.2.2.2.2.1 x.2.2.2.2.2.2.2.2.2.2.2.2.2.2.2.2.2.2.1 x.2.2.2.2.2.2.2.2.2.2.2.2.2.2.2.2.2.2.2.1 x.2.2.2.2.2.2.2.2.2.2.2.2.2.2.2.2.2.2.2.2.1 x.2.2.2.2.2.2.2.2.2.2.2.2.2.2.2.2.2.2.2.2.2.1 x.2.2.2.2.2.2.2.2.2.2.2.2.2.2.2.2.2.2.2.2.2.2.1 x.2.2.2.2.2.2.2.2.2.2.2.2.2.2.2.2.2.2.2.2.2.2.2.1
noncomputable def sem8 : Sem1 := semOf ps8 rs8 x8
theorem so8 : SemsOk Try.prog (semsOf sl8) := sems_cons k44 (sems_cons k46 (sems_cons k45 (sems_cons k47 (sems_cons k48 (sems_cons k49 (sems_cons k50 (sems_cons k51 (sems_cons k52 (sems_nil)))))))))
theorem t8_eq (x : denR (headRT (ps8.map some))) : codeK (tabOf tr) (semsOf sl8) D8 L8 code8 (start 96 ps8 x) (finK rs8 ps8) = x8 x := by kernel_rfl
theorem k8 : Known Try.prog 8 sem8 :=
  fn_auto tr_ok eq_ok mixed_ok so8 (D := D8) (code := code8) (n := 96) Try.func8 (by kernel_rfl) (by kernel_rfl) (by kernel_rfl) (fun w0 mu _ hs => (loops_of (l := []) (by kernel_rfl) (List.forall_mem_nil _))) t8_eq

end Go.TM
