/- What the functions answer, as terms; their contracts. -/
import Derived.Test.YtmljblppihbkdaaGreatAF1
set_option linter.unusedSimpArgs false
set_option linter.unusedVariables false
namespace Go.TM
open Go Go.RowKit Go.Proofs

/-! ### f25: impl.copyDaemon -/
noncomputable def code25 : Code := match Tryz.f25.body with | some c => c | none => .skip
def ps25 : List AP := [.val true [.int .i64, .bool, .int .i64, .int .i64, .shr T_i, .shr T_iiis, .shr T_i, .shr T_s, .int .i64, .int .i64, .int .i64, .int .i64, .int .i64, .int .i64, .int .i64, .int .i64, .int .i64, .shr T_i, .int .i64, .int .i64, .int .i64, .shr T_i, .shr T_iiiLiiisE, .shr T_iiLiEiiisLiE]]
def rs25 : List RP := [{ src := .cell 2, agg := true, ps := [.int .i64, .bool, .int .i64, .int .i64, .own T_i, .own T_iiis, .own T_i, .own T_s, .int .i64, .int .i64, .int .i64, .int .i64, .int .i64, .int .i64, .int .i64, .int .i64, .int .i64, .own T_i, .int .i64, .int .i64, .int .i64, .own T_i, .own T_iiiLiiisE .dp, .own T_iiLiEiiisLiE .dp] }]
noncomputable def sl25 : SemL := [(68, (.shr, .shr, .shr, sem68)), (69, (.shr, .shr, .shr, sem69)), (70, (.shr, .shr, .shr, sem70)), (71, (.shr, .shr, .shr, sem71))]
def D25 : Draws := fun _ => .nil
noncomputable def L25 {R : Type} : Loops R := fun _ _ _ _ => none
noncomputable def impl_copyDaemon (d0c0 : Int) (d0c1 : Bool) (d0c2 : Int) (d0c3 : Int) (d0c4 : List (Int × Unit)) (d0c5 : List R_iiis) (d0c6 : List (Int × Unit)) (d0c7 : List (ByteArray × Unit)) (d0c8 : Int) (d0c9 : Int) (d0c10 : Int) (d0c11 : Int) (d0c12 : Int) (d0c13 : Int) (d0c14 : Int) (d0c15 : Int) (d0c16 : Int) (d0c17 : List (Int × Unit)) (d0c18 : Int) (d0c19 : Int) (d0c20 : Int) (d0c21 : List (Int × Unit)) (d0c22 : List R_iiiLiiisE) (d0c23 : List R_iiLiEiiisLiE) : Option (Int × Bool × Int × Int × (List (Int × Unit)) × (List R_iiis) × (List (Int × Unit)) × (List (ByteArray × Unit)) × Int × Int × Int × Int × Int × Int × Int × Int × Int × (List (Int × Unit)) × Int × Int × Int × (List (Int × Unit)) × (List R_iiiLiiisE) × (List R_iiLiEiiisLiE) × Unit) :=
  Option.bind (impl_copyMate d0c2 d0c3 d0c4 d0c5 d0c6 d0c7 d0c8 d0c9 d0c10 d0c11 d0c12 d0c13 d0c14 d0c15 d0c16 d0c17) fun y1 =>
  Option.bind (impl_copyRing d0c20 d0c21) fun y2 =>
  Option.bind (impl_copyBundles d0c22) fun y3 =>
  Option.bind (impl_copyLog d0c23) fun y4 =>
  some (d0c0, d0c1, y1.1, y1.2.1, y1.2.2.1, y1.2.2.2.1, y1.2.2.2.2.1, y1.2.2.2.2.2.1, y1.2.2.2.2.2.2.1, y1.2.2.2.2.2.2.2.1, y1.2.2.2.2.2.2.2.2.1, y1.2.2.2.2.2.2.2.2.2.1, y1.2.2.2.2.2.2.2.2.2.2.1, y1.2.2.2.2.2.2.2.2.2.2.2.1, y1.2.2.2.2.2.2.2.2.2.2.2.2.1, y1.2.2.2.2.2.2.2.2.2.2.2.2.2.1, y1.2.2.2.2.2.2.2.2.2.2.2.2.2.2.1, y1.2.2.2.2.2.2.2.2.2.2.2.2.2.2.2.1, d0c18, d0c19, y2.1, y2.2.1, y3.1, y4.1, ())
noncomputable def x25 (x : Int × Bool × Int × Int × (List (Int × Unit)) × (List R_iiis) × (List (Int × Unit)) × (List (ByteArray × Unit)) × Int × Int × Int × Int × Int × Int × Int × Int × Int × (List (Int × Unit)) × Int × Int × Int × (List (Int × Unit)) × (List R_iiiLiiisE) × (List R_iiLiEiiisLiE) × Unit) : Option (Int × Bool × Int × Int × (List (Int × Unit)) × (List R_iiis) × (List (Int × Unit)) × (List (ByteArray × Unit)) × Int × Int × Int × Int × Int × Int × Int × Int × Int × (List (Int × Unit)) × Int × Int × Int × (List (Int × Unit)) × (List R_iiiLiiisE) × (List R_iiLiEiiisLiE) × Unit) := impl_copyDaemon x.1 x.2.1 x.2.2.1 x.2.2.2.1 x.2.2.2.2.1 x.2.2.2.2.2.1 x.2.2.2.2.2.2.1 x.2.2.2.2.2.2.2.1 x.2.2.2.2.2.2.2.2.1 x.2.2.2.2.2.2.2.2.2.1 x.2.2.2.2.2.2.2.2.2.2.1 x.2.2.2.2.2.2.2.2.2.2.2.1 x.2.2.2.2.2.2.2.2.2.2.2.2.1 x.2.2.2.2.2.2.2.2.2.2.2.2.2.1 x.2.2.2.2.2.2.2.2.2.2.2.2.2.2.1 x.2.2.2.2.2.2.2.2.2.2.2.2.2.2.2.1 x.2.2.2.2.2.2.2.2.2.2.2.2.2.2.2.2.1 x.2.2.2.2.2.2.2.2.2.2.2.2.2.2.2.2.2.1 x.2.2.2.2.2.2.2.2.2.2.2.2.2.2.2.2.2.2.1 x.2.2.2.2.2.2.2.2.2.2.2.2.2.2.2.2.2.2.2.1 x.2.2.2.2.2.2.2.2.2.2.2.2.2.2.2.2.2.2.2.2.1 x.2.2.2.2.2.2.2.2.2.2.2.2.2.2.2.2.2.2.2.2.2.1 x.2.2.2.2.2.2.2.2.2.2.2.2.2.2.2.2.2.2.2.2.2.2.1 x.2.2.2.2.2.2.2.2.2.2.2.2.2.2.2.2.2.2.2.2.2.2.2.1
noncomputable def sem25 : Sem1 := semOf ps25 rs25 x25
theorem so25 : SemsOk Tryz.prog (semsOf sl25) := sems_cons k68 (sems_cons k69 (sems_cons k70 (sems_cons k71 (sems_nil))))
theorem t25_eq (x : denR (headRT (ps25.map some))) : codeK (tabOf tr) (semsOf sl25) D25 L25 code25 (start 20 ps25 x) (finK rs25 ps25) = x25 x := by kernel_rfl
theorem k25 : Known Tryz.prog 25 sem25 :=
  fn_auto tr_ok eq_ok mixed_ok so25 (D := D25) (code := code25) (n := 20) Tryz.func25 (by kernel_rfl) (by kernel_rfl) (by kernel_rfl) (fun w0 mu _ hs => (loops_of (l := []) (by kernel_rfl) (List.forall_mem_nil _))) t25_eq

/-! ### f8: impl.Wake -/
noncomputable def code8 : Code := match Tryz.f8.body with | some c => c | none => .skip
def ps8 : List AP := [.val true [.int .i64, .bool, .int .i64, .int .i64, .shr T_i, .shr T_iiis, .shr T_i, .shr T_s, .int .i64, .int .i64, .int .i64, .int .i64, .int .i64, .int .i64, .int .i64, .int .i64, .int .i64, .shr T_i, .int .i64, .int .i64, .int .i64, .shr T_i, .shr T_iiiLiiisE, .shr T_iiLiEiiisLiE]]
def rs8 : List RP := [{ src := .cell 2, agg := true, ps := [.int .i64, .bool, .int .i64, .int .i64, .own T_i, .own T_iiis, .own T_i, .own T_s, .int .i64, .int .i64, .int .i64, .int .i64, .int .i64, .int .i64, .int .i64, .int .i64, .int .i64, .own T_i, .int .i64, .int .i64, .int .i64, .own T_i, .own T_iiiLiiisE .dp, .own T_iiLiEiiisLiE .dp] }, { src := .tmp 3, agg := false, ps := [.bool] }]
noncomputable def sl8 : SemL := [(24, (.shr, .shr, .shr, sem24)), (25, (.shr, .shr, .shr, sem25))]
def D8 : Draws := fun _ => .nil
noncomputable def L8 {R : Type} : Loops R := fun _ _ _ _ => none
noncomputable def impl_Wake (d0c0 : Int) (d0c1 : Bool) (d0c2 : Int) (d0c3 : Int) (d0c4 : List (Int × Unit)) (d0c5 : List R_iiis) (d0c6 : List (Int × Unit)) (d0c7 : List (ByteArray × Unit)) (d0c8 : Int) (d0c9 : Int) (d0c10 : Int) (d0c11 : Int) (d0c12 : Int) (d0c13 : Int) (d0c14 : Int) (d0c15 : Int) (d0c16 : Int) (d0c17 : List (Int × Unit)) (d0c18 : Int) (d0c19 : Int) (d0c20 : Int) (d0c21 : List (Int × Unit)) (d0c22 : List R_iiiLiiisE) (d0c23 : List R_iiLiEiiisLiE) : Option (Int × Bool × Int × Int × (List (Int × Unit)) × (List R_iiis) × (List (Int × Unit)) × (List (ByteArray × Unit)) × Int × Int × Int × Int × Int × Int × Int × Int × Int × (List (Int × Unit)) × Int × Int × Int × (List (Int × Unit)) × (List R_iiiLiiisE) × (List R_iiLiEiiisLiE) × Bool × Unit) :=
  bif !d0c1 then
    some ((0 : Int), false, (0 : Int), (0 : Int), [], [], [], [], (0 : Int), (0 : Int), (0 : Int), (0 : Int), (0 : Int), (0 : Int), (0 : Int), (0 : Int), (0 : Int), [], (0 : Int), (0 : Int), (0 : Int), [], [], [], false, ())
  else
    Option.bind (impl_DaemonOk d0c0 d0c1 d0c2 d0c3 d0c4 d0c5 d0c6 d0c7 d0c8 d0c9 d0c10 d0c11 d0c12 d0c13 d0c14 d0c15 d0c16 d0c17 d0c18 d0c19 d0c20 d0c21 d0c22 d0c23) fun y1 =>
    bif !y1.1 then
      some ((0 : Int), false, (0 : Int), (0 : Int), [], [], [], [], (0 : Int), (0 : Int), (0 : Int), (0 : Int), (0 : Int), (0 : Int), (0 : Int), (0 : Int), (0 : Int), [], (0 : Int), (0 : Int), (0 : Int), [], [], [], false, ())
    else
      Option.bind (impl_copyDaemon d0c0 d0c1 d0c2 d0c3 d0c4 d0c5 d0c6 d0c7 d0c8 d0c9 d0c10 d0c11 d0c12 d0c13 d0c14 d0c15 d0c16 d0c17 d0c18 d0c19 d0c20 d0c21 d0c22 d0c23) fun y2 =>
      some (y2.1, false, y2.2.2.1, y2.2.2.2.1, y2.2.2.2.2.1, y2.2.2.2.2.2.1, y2.2.2.2.2.2.2.1, y2.2.2.2.2.2.2.2.1, y2.2.2.2.2.2.2.2.2.1, y2.2.2.2.2.2.2.2.2.2.1, y2.2.2.2.2.2.2.2.2.2.2.1, y2.2.2.2.2.2.2.2.2.2.2.2.1, y2.2.2.2.2.2.2.2.2.2.2.2.2.1, y2.2.2.2.2.2.2.2.2.2.2.2.2.2.1, y2.2.2.2.2.2.2.2.2.2.2.2.2.2.2.1, y2.2.2.2.2.2.2.2.2.2.2.2.2.2.2.2.1, y2.2.2.2.2.2.2.2.2.2.2.2.2.2.2.2.2.1, y2.2.2.2.2.2.2.2.2.2.2.2.2.2.2.2.2.2.1, y2.2.2.2.2.2.2.2.2.2.2.2.2.2.2.2.2.2.2.1, y2.2.2.2.2.2.2.2.2.2.2.2.2.2.2.2.2.2.2.2.1, y2.2.2.2.2.2.2.2.2.2.2.2.2.2.2.2.2.2.2.2.2.1, y2.2.2.2.2.2.2.2.2.2.2.2.2.2.2.2.2.2.2.2.2.2.1, y2.2.2.2.2.2.2.2.2.2.2.2.2.2.2.2.2.2.2.2.2.2.2.1, y2.2.2.2.2.2.2.2.2.2.2.2.2.2.2.2.2.2.2.2.2.2.2.2.1, true, ())
noncomputable def x8 (x : Int × Bool × Int × Int × (List (Int × Unit)) × (List R_iiis) × (List (Int × Unit)) × (List (ByteArray × Unit)) × Int × Int × Int × Int × Int × Int × Int × Int × Int × (List (Int × Unit)) × Int × Int × Int × (List (Int × Unit)) × (List R_iiiLiiisE) × (List R_iiLiEiiisLiE) × Unit) : Option (Int × Bool × Int × Int × (List (Int × Unit)) × (List R_iiis) × (List (Int × Unit)) × (List (ByteArray × Unit)) × Int × Int × Int × Int × Int × Int × Int × Int × Int × (List (Int × Unit)) × Int × Int × Int × (List (Int × Unit)) × (List R_iiiLiiisE) × (List R_iiLiEiiisLiE) × Bool × Unit) := impl_Wake x.1 x.2.1 x.2.2.1 x.2.2.2.1 x.2.2.2.2.1 x.2.2.2.2.2.1 x.2.2.2.2.2.2.1 x.2.2.2.2.2.2.2.1 x.2.2.2.2.2.2.2.2.1 x.2.2.2.2.2.2.2.2.2.1 x.2.2.2.2.2.2.2.2.2.2.1 x.2.2.2.2.2.2.2.2.2.2.2.1 x.2.2.2.2.2.2.2.2.2.2.2.2.1 x.2.2.2.2.2.2.2.2.2.2.2.2.2.1 x.2.2.2.2.2.2.2.2.2.2.2.2.2.2.1 x.2.2.2.2.2.2.2.2.2.2.2.2.2.2.2.1 x.2.2.2.2.2.2.2.2.2.2.2.2.2.2.2.2.1 x.2.2.2.2.2.2.2.2.2.2.2.2.2.2.2.2.2.1 x.2.2.2.2.2.2.2.2.2.2.2.2.2.2.2.2.2.2.1 x.2.2.2.2.2.2.2.2.2.2.2.2.2.2.2.2.2.2.2.1 x.2.2.2.2.2.2.2.2.2.2.2.2.2.2.2.2.2.2.2.2.1 x.2.2.2.2.2.2.2.2.2.2.2.2.2.2.2.2.2.2.2.2.2.1 x.2.2.2.2.2.2.2.2.2.2.2.2.2.2.2.2.2.2.2.2.2.2.1 x.2.2.2.2.2.2.2.2.2.2.2.2.2.2.2.2.2.2.2.2.2.2.2.1
noncomputable def sem8 : Sem1 := semOf ps8 rs8 x8
theorem so8 : SemsOk Tryz.prog (semsOf sl8) := sems_cons k24 (sems_cons k25 (sems_nil))
theorem t8_eq (x : denR (headRT (ps8.map some))) : codeK (tabOf tr) (semsOf sl8) D8 L8 code8 (start 18 ps8 x) (finK rs8 ps8) = x8 x := by kernel_rfl
theorem k8 : Known Tryz.prog 8 sem8 :=
  fn_auto tr_ok eq_ok mixed_ok so8 (D := D8) (code := code8) (n := 18) Tryz.func8 (by kernel_rfl) (by kernel_rfl) (by kernel_rfl) (fun w0 mu _ hs => (loops_of (l := []) (by kernel_rfl) (List.forall_mem_nil _))) t8_eq

/-! ### f73: laws.eqIntS -/
noncomputable def code73 : Code := match Tryz.f73.body with | some c => c | none => .skip
def ps73 : List AP := [.val false [.shr T_i], .val false [.shr T_i]]
def rs73 : List RP := [{ src := .tmp 4, agg := false, ps := [.bool] }]
noncomputable def sl73 : SemL := []
def D73 : Draws := fun id => bif Nat.beq id 6 then .op 0 .any (.op 1 .any (.op 2 .any (.op 3 .take (.op 4 .any (.op 5 .any (.op 6 .any (.op 7 .take (.op 8 .any (.nil))))))))) else .nil
def hp73_0 : List (Option AP) := [some (.val false [.shr T_i]), some (.val false [.shr T_i]), none, none, none, some (.val false [.int .i64]), none, none, none, none, none, none, none, none, none, none, none, none, none, none, none, none, none, none, none, none, none]
def e73_0 : List (Option AP) := [none, none, none, none, none, none, none, none, none, none, none, none, none, none, none, none, none, none, none, none, none, none, none, none, none, none, none]
def q73_0 : List (Option AP) := [none, none, none, none, some (.val false [.bool]), none, none, none, none, none, none, none, none, none, none, none, none, none, none, none, none, none, none, none, none, none, none]
abbrev H73_0 : Type := (List (Int × Unit)) × (List (Int × Unit)) × Int × Unit
abbrev E73_0 : Type := Unit
abbrev Q73_0 : Type := Bool × Unit
noncomputable def laws_eqIntS_c0 (a0 : List (Int × Unit)) (b1 : List (Int × Unit)) (i5 : Int) : Option (Sum H73_0 (Sum E73_0 Q73_0)) :=
  bif decide (i5 < ((List.length a0 : Nat) : Int)) then
    bif decide ((0 : Int) ≤ i5) then Option.bind ((a0)[Int.toNat i5]?) fun r1 =>
      bif decide ((0 : Int) ≤ i5) then Option.bind ((b1)[Int.toNat i5]?) fun r2 =>
        bif !decide (r1.1 = r2.1) then
          some (.inr (.inr (false, ())))
        else
          some (.inl (a0, b1, IntKind.i64.wrap (i5 + (1 : Int)), ()))
      else none
    else none
  else
    some (.inr (.inl (())))
noncomputable def laws_eqIntS_r0 (x : H73_0) : Option (Sum H73_0 (Sum E73_0 Q73_0)) := laws_eqIntS_c0 x.1 x.2.1 x.2.2.1
noncomputable def L73 {R : Type} : Loops R := fun id _ st k => bif Nat.beq id 0 then loopAt hp73_0 e73_0 q73_0 laws_eqIntS_r0 st k else none
noncomputable def laws_eqIntS (a0 : List (Int × Unit)) (b1 : List (Int × Unit)) : Option (Bool × Unit) :=
  bif !decide (((List.length a0 : Nat) : Int) = ((List.length b1 : Nat) : Int)) then
    some (false, ())
  else
    outK (loopV laws_eqIntS_r0 (a0, b1, (0 : Int), ())) (fun y1 =>
      some (true, ())) (fun y2 =>
      some (y2.1, ()))
noncomputable def x73 (x : (List (Int × Unit)) × (List (Int × Unit)) × Unit) : Option (Bool × Unit) := laws_eqIntS x.1 x.2.1
noncomputable def sem73 : Sem1 := semOf ps73 rs73 x73
theorem so73 : SemsOk Tryz.prog (semsOf sl73) := sems_nil
noncomputable def b73_0 : Code := nthLoop code73 0
theorem t73_r0_eq (x : denR (headRT hp73_0)) : codeK (tabOf tr) (semsOf sl73) D73 L73 b73_0 (headSt hp73_0 x) (roundK 0 hp73_0 e73_0 q73_0) = laws_eqIntS_r0 x := by kernel_rfl
theorem loop73_0 {R : Type} (r : R) (w0 : World) (mu : Mu) (hs : AnShape ps73 mu) : LoopAt Tryz.prog w0 mu 26 (L73 : Loops R) r 0 b73_0 :=
  loop_auto tr_ok eq_ok mixed_ok so73 (D := D73) hs (by kernel_rfl) (fun _ => (loops_of (l := []) (by kernel_rfl) (List.forall_mem_nil _))) t73_r0_eq (fun _ _ => rfl)
theorem t73_eq (x : denR (headRT (ps73.map some))) : codeK (tabOf tr) (semsOf sl73) D73 L73 code73 (start 26 ps73 x) (finK rs73 ps73) = x73 x := by kernel_rfl
theorem k73 : Known Tryz.prog 73 sem73 :=
  fn_auto tr_ok eq_ok mixed_ok so73 (D := D73) (code := code73) (n := 26) Tryz.func73 (by kernel_rfl) (by kernel_rfl) (by kernel_rfl) (fun w0 mu _ hs => (loops_of (l := [(0, b73_0)]) (by kernel_rfl) (List.forall_mem_cons.2 ⟨loop73_0 _ w0 mu hs, (List.forall_mem_nil _)⟩))) t73_eq

/-! ### f27: laws.eqRing -/
noncomputable def code27 : Code := match Tryz.f27.body with | some c => c | none => .skip
def ps27 : List AP := [.val true [.int .i64, .shr T_i], .val true [.int .i64, .shr T_i]]
def rs27 : List RP := [{ src := .tmp 4, agg := false, ps := [.bool] }]
noncomputable def sl27 : SemL := [(73, (.shr, .shr, .shr, sem73))]
def D27 : Draws := fun _ => .nil
noncomputable def L27 {R : Type} : Loops R := fun _ _ _ _ => none
noncomputable def laws_eqRing (a0c0 : Int) (a0c1 : List (Int × Unit)) (b1c0 : Int) (b1c1 : List (Int × Unit)) : Option (Bool × Unit) :=
  bif !decide (a0c0 = b1c0) then
    some (false, ())
  else
    Option.bind (laws_eqIntS a0c1 b1c1) fun y1 =>
    bif !y1.1 then
      some (false, ())
    else
      some (true, ())
noncomputable def x27 (x : Int × (List (Int × Unit)) × Int × (List (Int × Unit)) × Unit) : Option (Bool × Unit) := laws_eqRing x.1 x.2.1 x.2.2.1 x.2.2.2.1
noncomputable def sem27 : Sem1 := semOf ps27 rs27 x27
theorem so27 : SemsOk Tryz.prog (semsOf sl27) := sems_cons k73 (sems_nil)
theorem t27_eq (x : denR (headRT (ps27.map some))) : codeK (tabOf tr) (semsOf sl27) D27 L27 code27 (start 16 ps27 x) (finK rs27 ps27) = x27 x := by kernel_rfl
theorem k27 : Known Tryz.prog 27 sem27 :=
  fn_auto tr_ok eq_ok mixed_ok so27 (D := D27) (code := code27) (n := 16) Tryz.func27 (by kernel_rfl) (by kernel_rfl) (by kernel_rfl) (fun w0 mu _ hs => (loops_of (l := []) (by kernel_rfl) (List.forall_mem_nil _))) t27_eq

/-! ### f111: laws.eqItem -/
noncomputable def code111 : Code := match Tryz.f111.body with | some c => c | none => .skip
def ps111 : List AP := [.val true [.int .i64, .int .i64, .int .i64, .str], .val true [.int .i64, .int .i64, .int .i64, .str]]
def rs111 : List RP := [{ src := .tmp 4, agg := false, ps := [.bool] }]
noncomputable def sl111 : SemL := []
def D111 : Draws := fun _ => .nil
noncomputable def L111 {R : Type} : Loops R := fun _ _ _ _ => none
noncomputable def laws_eqItem (a0c0 : Int) (a0c1 : Int) (a0c2 : Int) (a0c3 : ByteArray) (b1c0 : Int) (b1c1 : Int) (b1c2 : Int) (b1c3 : ByteArray) : Option (Bool × Unit) :=
  bif !decide (a0c0 = b1c0) then
    some (false, ())
  else bif !decide (a0c1 = b1c1) then
    some (false, ())
  else bif !decide (a0c2 = b1c2) then
    some (false, ())
  else bif !strEq a0c3 b1c3 then
    some (false, ())
  else
    some (true, ())
noncomputable def x111 (x : Int × Int × Int × ByteArray × Int × Int × Int × ByteArray × Unit) : Option (Bool × Unit) := laws_eqItem x.1 x.2.1 x.2.2.1 x.2.2.2.1 x.2.2.2.2.1 x.2.2.2.2.2.1 x.2.2.2.2.2.2.1 x.2.2.2.2.2.2.2.1
noncomputable def sem111 : Sem1 := semOf ps111 rs111 x111
theorem so111 : SemsOk Tryz.prog (semsOf sl111) := sems_nil
theorem t111_eq (x : denR (headRT (ps111.map some))) : codeK (tabOf tr) (semsOf sl111) D111 L111 code111 (start 25 ps111 x) (finK rs111 ps111) = x111 x := by kernel_rfl
theorem k111 : Known Tryz.prog 111 sem111 :=
  fn_auto tr_ok eq_ok mixed_ok so111 (D := D111) (code := code111) (n := 25) Tryz.func111 (by kernel_rfl) (by kernel_rfl) (by kernel_rfl) (fun w0 mu _ hs => (loops_of (l := []) (by kernel_rfl) (List.forall_mem_nil _))) t111_eq

/-! ### f72: laws.eqItemS -/
noncomputable def code72 : Code := match Tryz.f72.body with | some c => c | none => .skip
def ps72 : List AP := [.val false [.shr T_iiis], .val false [.shr T_iiis]]
def rs72 : List RP := [{ src := .tmp 4, agg := false, ps := [.bool] }]
noncomputable def sl72 : SemL := [(111, (.shr, .shr, .shr, sem111))]
def D72 : Draws := fun id => bif Nat.beq id 6 then .op 0 .any (.op 1 .any (.op 2 .any (.op 3 .take (.op 4 .any (.op 5 .any (.op 6 .any (.op 7 .take (.op 8 .one (.op 9 .any (.nil)))))))))) else .nil
def hp72_0 : List (Option AP) := [some (.val false [.shr T_iiis]), some (.val false [.shr T_iiis]), none, none, none, some (.val false [.int .i64]), none, none, none, none, none, none, none, none, none, none, none, none, none, none, none, none, none, none, none, none, none, none]
def e72_0 : List (Option AP) := [none, none, none, none, none, none, none, none, none, none, none, none, none, none, none, none, none, none, none, none, none, none, none, none, none, none, none, none]
def q72_0 : List (Option AP) := [none, none, none, none, some (.val false [.bool]), none, none, none, none, none, none, none, none, none, none, none, none, none, none, none, none, none, none, none, none, none, none, none]
abbrev H72_0 : Type := (List R_iiis) × (List R_iiis) × Int × Unit
abbrev E72_0 : Type := Unit
abbrev Q72_0 : Type := Bool × Unit
noncomputable def laws_eqItemS_c0 (a0 : List R_iiis) (b1 : List R_iiis) (i5 : Int) : Option (Sum H72_0 (Sum E72_0 Q72_0)) :=
  bif decide (i5 < ((List.length a0 : Nat) : Int)) then
    bif decide ((0 : Int) ≤ i5) then Option.bind ((a0)[Int.toNat i5]?) fun r1 =>
      bif decide ((0 : Int) ≤ i5) then Option.bind ((b1)[Int.toNat i5]?) fun r2 =>
        Option.bind (laws_eqItem r1.1 r1.2.1 r1.2.2.1 r1.2.2.2.1 r2.1 r2.2.1 r2.2.2.1 r2.2.2.2.1) fun y3 =>
        bif !y3.1 then
          some (.inr (.inr (false, ())))
        else
          some (.inl (a0, b1, IntKind.i64.wrap (i5 + (1 : Int)), ()))
      else none
    else none
  else
    some (.inr (.inl (())))
noncomputable def laws_eqItemS_r0 (x : H72_0) : Option (Sum H72_0 (Sum E72_0 Q72_0)) := laws_eqItemS_c0 x.1 x.2.1 x.2.2.1
noncomputable def L72 {R : Type} : Loops R := fun id _ st k => bif Nat.beq id 0 then loopAt hp72_0 e72_0 q72_0 laws_eqItemS_r0 st k else none
noncomputable def laws_eqItemS (a0 : List R_iiis) (b1 : List R_iiis) : Option (Bool × Unit) :=
  bif !decide (((List.length a0 : Nat) : Int) = ((List.length b1 : Nat) : Int)) then
    some (false, ())
  else
    outK (loopV laws_eqItemS_r0 (a0, b1, (0 : Int), ())) (fun y1 =>
      some (true, ())) (fun y2 =>
      some (y2.1, ()))
noncomputable def x72 (x : (List R_iiis) × (List R_iiis) × Unit) : Option (Bool × Unit) := laws_eqItemS x.1 x.2.1
noncomputable def sem72 : Sem1 := semOf ps72 rs72 x72
theorem so72 : SemsOk Tryz.prog (semsOf sl72) := sems_cons k111 (sems_nil)
noncomputable def b72_0 : Code := nthLoop code72 0
theorem t72_r0_eq (x : denR (headRT hp72_0)) : codeK (tabOf tr) (semsOf sl72) D72 L72 b72_0 (headSt hp72_0 x) (roundK 0 hp72_0 e72_0 q72_0) = laws_eqItemS_r0 x := by kernel_rfl
theorem loop72_0 {R : Type} (r : R) (w0 : World) (mu : Mu) (hs : AnShape ps72 mu) : LoopAt Tryz.prog w0 mu 27 (L72 : Loops R) r 0 b72_0 :=
  loop_auto tr_ok eq_ok mixed_ok so72 (D := D72) hs (by kernel_rfl) (fun _ => (loops_of (l := []) (by kernel_rfl) (List.forall_mem_nil _))) t72_r0_eq (fun _ _ => rfl)
theorem t72_eq (x : denR (headRT (ps72.map some))) : codeK (tabOf tr) (semsOf sl72) D72 L72 code72 (start 27 ps72 x) (finK rs72 ps72) = x72 x := by kernel_rfl
theorem k72 : Known Tryz.prog 72 sem72 :=
  fn_auto tr_ok eq_ok mixed_ok so72 (D := D72) (code := code72) (n := 27) Tryz.func72 (by kernel_rfl) (by kernel_rfl) (by kernel_rfl) (fun w0 mu _ hs => (loops_of (l := [(0, b72_0)]) (by kernel_rfl) (List.forall_mem_cons.2 ⟨loop72_0 _ w0 mu hs, (List.forall_mem_nil _)⟩))) t72_eq

/-! ### f74: laws.eqStringS -/
noncomputable def code74 : Code := match Tryz.f74.body with | some c => c | none => .skip
def ps74 : List AP := [.val false [.shr T_s], .val false [.shr T_s]]
def rs74 : List RP := [{ src := .tmp 4, agg := false, ps := [.bool] }]
noncomputable def sl74 : SemL := []
def D74 : Draws := fun id => bif Nat.beq id 6 then .op 0 .any (.op 1 .any (.op 2 .any (.op 3 .take (.op 4 .any (.op 5 .any (.op 6 .any (.op 7 .take (.op 8 .any (.nil))))))))) else .nil
def hp74_0 : List (Option AP) := [some (.val false [.shr T_s]), some (.val false [.shr T_s]), none, none, none, some (.val false [.int .i64]), none, none, none, none, none, none, none, none, none, none, none, none, none, none, none, none, none, none, none, none, none]
def e74_0 : List (Option AP) := [none, none, none, none, none, none, none, none, none, none, none, none, none, none, none, none, none, none, none, none, none, none, none, none, none, none, none]
def q74_0 : List (Option AP) := [none, none, none, none, some (.val false [.bool]), none, none, none, none, none, none, none, none, none, none, none, none, none, none, none, none, none, none, none, none, none, none]
abbrev H74_0 : Type := (List (ByteArray × Unit)) × (List (ByteArray × Unit)) × Int × Unit
abbrev E74_0 : Type := Unit
abbrev Q74_0 : Type := Bool × Unit
noncomputable def laws_eqStringS_c0 (a0 : List (ByteArray × Unit)) (b1 : List (ByteArray × Unit)) (i5 : Int) : Option (Sum H74_0 (Sum E74_0 Q74_0)) :=
  bif decide (i5 < ((List.length a0 : Nat) : Int)) then
    bif decide ((0 : Int) ≤ i5) then Option.bind ((a0)[Int.toNat i5]?) fun r1 =>
      bif decide ((0 : Int) ≤ i5) then Option.bind ((b1)[Int.toNat i5]?) fun r2 =>
        bif !strEq r1.1 r2.1 then
          some (.inr (.inr (false, ())))
        else
          some (.inl (a0, b1, IntKind.i64.wrap (i5 + (1 : Int)), ()))
      else none
    else none
  else
    some (.inr (.inl (())))
noncomputable def laws_eqStringS_r0 (x : H74_0) : Option (Sum H74_0 (Sum E74_0 Q74_0)) := laws_eqStringS_c0 x.1 x.2.1 x.2.2.1
noncomputable def L74 {R : Type} : Loops R := fun id _ st k => bif Nat.beq id 0 then loopAt hp74_0 e74_0 q74_0 laws_eqStringS_r0 st k else none
noncomputable def laws_eqStringS (a0 : List (ByteArray × Unit)) (b1 : List (ByteArray × Unit)) : Option (Bool × Unit) :=
  bif !decide (((List.length a0 : Nat) : Int) = ((List.length b1 : Nat) : Int)) then
    some (false, ())
  else
    outK (loopV laws_eqStringS_r0 (a0, b1, (0 : Int), ())) (fun y1 =>
      some (true, ())) (fun y2 =>
      some (y2.1, ()))
noncomputable def x74 (x : (List (ByteArray × Unit)) × (List (ByteArray × Unit)) × Unit) : Option (Bool × Unit) := laws_eqStringS x.1 x.2.1
noncomputable def sem74 : Sem1 := semOf ps74 rs74 x74
theorem so74 : SemsOk Tryz.prog (semsOf sl74) := sems_nil
noncomputable def b74_0 : Code := nthLoop code74 0
theorem t74_r0_eq (x : denR (headRT hp74_0)) : codeK (tabOf tr) (semsOf sl74) D74 L74 b74_0 (headSt hp74_0 x) (roundK 0 hp74_0 e74_0 q74_0) = laws_eqStringS_r0 x := by kernel_rfl
theorem loop74_0 {R : Type} (r : R) (w0 : World) (mu : Mu) (hs : AnShape ps74 mu) : LoopAt Tryz.prog w0 mu 26 (L74 : Loops R) r 0 b74_0 :=
  loop_auto tr_ok eq_ok mixed_ok so74 (D := D74) hs (by kernel_rfl) (fun _ => (loops_of (l := []) (by kernel_rfl) (List.forall_mem_nil _))) t74_r0_eq (fun _ _ => rfl)
theorem t74_eq (x : denR (headRT (ps74.map some))) : codeK (tabOf tr) (semsOf sl74) D74 L74 code74 (start 26 ps74 x) (finK rs74 ps74) = x74 x := by kernel_rfl
theorem k74 : Known Tryz.prog 74 sem74 :=
  fn_auto tr_ok eq_ok mixed_ok so74 (D := D74) (code := code74) (n := 26) Tryz.func74 (by kernel_rfl) (by kernel_rfl) (by kernel_rfl) (fun w0 mu _ hs => (loops_of (l := [(0, b74_0)]) (by kernel_rfl) (List.forall_mem_cons.2 ⟨loop74_0 _ w0 mu hs, (List.forall_mem_nil _)⟩))) t74_eq

/-! ### f75: laws.eqToken -/
noncomputable def code75 : Code := match Tryz.f75.body with | some c => c | none => .skip
def ps75 : List AP := [.val true [.int .i64, .int .i64, .int .i64, .int .i64, .int .i64, .shr T_i], .val true [.int .i64, .int .i64, .int .i64, .int .i64, .int .i64, .shr T_i]]
def rs75 : List RP := [{ src := .tmp 4, agg := false, ps := [.bool] }]
noncomputable def sl75 : SemL := [(73, (.shr, .shr, .shr, sem73))]
def D75 : Draws := fun _ => .nil
noncomputable def L75 {R : Type} : Loops R := fun _ _ _ _ => none
noncomputable def laws_eqToken (a0c0 : Int) (a0c1 : Int) (a0c2 : Int) (a0c3 : Int) (a0c4 : Int) (a0c5 : List (Int × Unit)) (b1c0 : Int) (b1c1 : Int) (b1c2 : Int) (b1c3 : Int) (b1c4 : Int) (b1c5 : List (Int × Unit)) : Option (Bool × Unit) :=
  bif !decide (a0c0 = b1c0) then
    some (false, ())
  else bif !decide (a0c1 = b1c1) then
    some (false, ())
  else bif !decide (a0c2 = b1c2) then
    some (false, ())
  else bif !decide (a0c3 = b1c3) then
    some (false, ())
  else bif !decide (a0c4 = b1c4) then
    some (false, ())
  else
    Option.bind (laws_eqIntS a0c5 b1c5) fun y1 =>
    bif !y1.1 then
      some (false, ())
    else
      some (true, ())
noncomputable def x75 (x : Int × Int × Int × Int × Int × (List (Int × Unit)) × Int × Int × Int × Int × Int × (List (Int × Unit)) × Unit) : Option (Bool × Unit) := laws_eqToken x.1 x.2.1 x.2.2.1 x.2.2.2.1 x.2.2.2.2.1 x.2.2.2.2.2.1 x.2.2.2.2.2.2.1 x.2.2.2.2.2.2.2.1 x.2.2.2.2.2.2.2.2.1 x.2.2.2.2.2.2.2.2.2.1 x.2.2.2.2.2.2.2.2.2.2.1 x.2.2.2.2.2.2.2.2.2.2.2.1
noncomputable def sem75 : Sem1 := semOf ps75 rs75 x75
theorem so75 : SemsOk Tryz.prog (semsOf sl75) := sems_cons k73 (sems_nil)
theorem t75_eq (x : denR (headRT (ps75.map some))) : codeK (tabOf tr) (semsOf sl75) D75 L75 code75 (start 36 ps75 x) (finK rs75 ps75) = x75 x := by kernel_rfl
theorem k75 : Known Tryz.prog 75 sem75 :=
  fn_auto tr_ok eq_ok mixed_ok so75 (D := D75) (code := code75) (n := 36) Tryz.func75 (by kernel_rfl) (by kernel_rfl) (by kernel_rfl) (fun w0 mu _ hs => (loops_of (l := []) (by kernel_rfl) (List.forall_mem_nil _))) t75_eq

/-! ### f26: laws.eqMate -/
noncomputable def code26 : Code := match Tryz.f26.body with | some c => c | none => .skip
def ps26 : List AP := [.val true [.int .i64, .int .i64, .shr T_i, .shr T_iiis, .shr T_i, .shr T_s, .int .i64, .int .i64, .int .i64, .int .i64, .int .i64, .int .i64, .int .i64, .int .i64, .int .i64, .shr T_i], .val true [.int .i64, .int .i64, .shr T_i, .shr T_iiis, .shr T_i, .shr T_s, .int .i64, .int .i64, .int .i64, .int .i64, .int .i64, .int .i64, .int .i64, .int .i64, .int .i64, .shr T_i]]
def rs26 : List RP := [{ src := .tmp 4, agg := false, ps := [.bool] }]
noncomputable def sl26 : SemL := [(27, (.shr, .shr, .shr, sem27)), (72, (.shr, .shr, .shr, sem72)), (73, (.shr, .shr, .shr, sem73)), (74, (.shr, .shr, .shr, sem74)), (75, (.shr, .shr, .shr, sem75))]
def D26 : Draws := fun _ => .nil
noncomputable def L26 {R : Type} : Loops R := fun _ _ _ _ => none
noncomputable def laws_eqMate (a0c0 : Int) (a0c1 : Int) (a0c2 : List (Int × Unit)) (a0c3 : List R_iiis) (a0c4 : List (Int × Unit)) (a0c5 : List (ByteArray × Unit)) (a0c6 : Int) (a0c7 : Int) (a0c8 : Int) (a0c9 : Int) (a0c10 : Int) (a0c11 : Int) (a0c12 : Int) (a0c13 : Int) (a0c14 : Int) (a0c15 : List (Int × Unit)) (b1c0 : Int) (b1c1 : Int) (b1c2 : List (Int × Unit)) (b1c3 : List R_iiis) (b1c4 : List (Int × Unit)) (b1c5 : List (ByteArray × Unit)) (b1c6 : Int) (b1c7 : Int) (b1c8 : Int) (b1c9 : Int) (b1c10 : Int) (b1c11 : Int) (b1c12 : Int) (b1c13 : Int) (b1c14 : Int) (b1c15 : List (Int × Unit)) : Option (Bool × Unit) :=
  bif !decide (a0c0 = b1c0) then
    some (false, ())
  else
    Option.bind (laws_eqRing a0c1 a0c2 b1c1 b1c2) fun y1 =>
    bif !y1.1 then
      some (false, ())
    else
      Option.bind (laws_eqItemS a0c3 b1c3) fun y2 =>
      bif !y2.1 then
        some (false, ())
      else
        Option.bind (laws_eqIntS a0c4 b1c4) fun y3 =>
        bif !y3.1 then
          some (false, ())
        else
          Option.bind (laws_eqStringS a0c5 b1c5) fun y4 =>
          bif !y4.1 then
            some (false, ())
          else bif !decide (a0c6 = b1c6) then
            some (false, ())
          else bif !decide (a0c7 = b1c7) then
            some (false, ())
          else bif !decide (a0c8 = b1c8) then
            some (false, ())
          else bif !decide (a0c9 = b1c9) then
            some (false, ())
          else
            Option.bind (laws_eqToken a0c10 a0c11 a0c12 a0c13 a0c14 a0c15 b1c10 b1c11 b1c12 b1c13 b1c14 b1c15) fun y5 =>
            bif !y5.1 then
              some (false, ())
            else
              some (true, ())
noncomputable def x26 (x : Int × Int × (List (Int × Unit)) × (List R_iiis) × (List (Int × Unit)) × (List (ByteArray × Unit)) × Int × Int × Int × Int × Int × Int × Int × Int × Int × (List (Int × Unit)) × Int × Int × (List (Int × Unit)) × (List R_iiis) × (List (Int × Unit)) × (List (ByteArray × Unit)) × Int × Int × Int × Int × Int × Int × Int × Int × Int × (List (Int × Unit)) × Unit) : Option (Bool × Unit) := laws_eqMate x.1 x.2.1 x.2.2.1 x.2.2.2.1 x.2.2.2.2.1 x.2.2.2.2.2.1 x.2.2.2.2.2.2.1 x.2.2.2.2.2.2.2.1 x.2.2.2.2.2.2.2.2.1 x.2.2.2.2.2.2.2.2.2.1 x.2.2.2.2.2.2.2.2.2.2.1 x.2.2.2.2.2.2.2.2.2.2.2.1 x.2.2.2.2.2.2.2.2.2.2.2.2.1 x.2.2.2.2.2.2.2.2.2.2.2.2.2.1 x.2.2.2.2.2.2.2.2.2.2.2.2.2.2.1 x.2.2.2.2.2.2.2.2.2.2.2.2.2.2.2.1 x.2.2.2.2.2.2.2.2.2.2.2.2.2.2.2.2.1 x.2.2.2.2.2.2.2.2.2.2.2.2.2.2.2.2.2.1 x.2.2.2.2.2.2.2.2.2.2.2.2.2.2.2.2.2.2.1 x.2.2.2.2.2.2.2.2.2.2.2.2.2.2.2.2.2.2.2.1 x.2.2.2.2.2.2.2.2.2.2.2.2.2.2.2.2.2.2.2.2.1 x.2.2.2.2.2.2.2.2.2.2.2.2.2.2.2.2.2.2.2.2.2.1 x.2.2.2.2.2.2.2.2.2.2.2.2.2.2.2.2.2.2.2.2.2.2.1 x.2.2.2.2.2.2.2.2.2.2.2.2.2.2.2.2.2.2.2.2.2.2.2.1 x.2.2.2.2.2.2.2.2.2.2.2.2.2.2.2.2.2.2.2.2.2.2.2.2.1 x.2.2.2.2.2.2.2.2.2.2.2.2.2.2.2.2.2.2.2.2.2.2.2.2.2.1 x.2.2.2.2.2.2.2.2.2.2.2.2.2.2.2.2.2.2.2.2.2.2.2.2.2.2.1 x.2.2.2.2.2.2.2.2.2.2.2.2.2.2.2.2.2.2.2.2.2.2.2.2.2.2.2.1 x.2.2.2.2.2.2.2.2.2.2.2.2.2.2.2.2.2.2.2.2.2.2.2.2.2.2.2.2.1 x.2.2.2.2.2.2.2.2.2.2.2.2.2.2.2.2.2.2.2.2.2.2.2.2.2.2.2.2.2.1 x.2.2.2.2.2.2.2.2.2.2.2.2.2.2.2.2.2.2.2.2.2.2.2.2.2.2.2.2.2.2.1 x.2.2.2.2.2.2.2.2.2.2.2.2.2.2.2.2.2.2.2.2.2.2.2.2.2.2.2.2.2.2.2.1
noncomputable def sem26 : Sem1 := semOf ps26 rs26 x26
theorem so26 : SemsOk Tryz.prog (semsOf sl26) := sems_cons k27 (sems_cons k72 (sems_cons k73 (sems_cons k74 (sems_cons k75 (sems_nil)))))
theorem t26_eq (x : denR (headRT (ps26.map some))) : codeK (tabOf tr) (semsOf sl26) D26 L26 code26 (start 60 ps26 x) (finK rs26 ps26) = x26 x := by kernel_rfl
theorem k26 : Known Tryz.prog 26 sem26 :=
  fn_auto tr_ok eq_ok mixed_ok so26 (D := D26) (code := code26) (n := 60) Tryz.func26 (by kernel_rfl) (by kernel_rfl) (by kernel_rfl) (fun w0 mu _ hs => (loops_of (l := []) (by kernel_rfl) (List.forall_mem_nil _))) t26_eq

/-! ### f76: laws.eqBundle -/
noncomputable def code76 : Code := match Tryz.f76.body with | some c => c | none => .skip
def ps76 : List AP := [.val true [.int .i64, .int .i64, .int .i64, .shr T_iiis], .val true [.int .i64, .int .i64, .int .i64, .shr T_iiis]]
def rs76 : List RP := [{ src := .tmp 4, agg := false, ps := [.bool] }]
noncomputable def sl76 : SemL := [(72, (.shr, .shr, .shr, sem72))]
def D76 : Draws := fun _ => .nil
noncomputable def L76 {R : Type} : Loops R := fun _ _ _ _ => none
noncomputable def laws_eqBundle (a0c0 : Int) (a0c1 : Int) (a0c2 : Int) (a0c3 : List R_iiis) (b1c0 : Int) (b1c1 : Int) (b1c2 : Int) (b1c3 : List R_iiis) : Option (Bool × Unit) :=
  bif !decide (a0c0 = b1c0) then
    some (false, ())
  else bif !decide (a0c1 = b1c1) then
    some (false, ())
  else bif !decide (a0c2 = b1c2) then
    some (false, ())
  else
    Option.bind (laws_eqItemS a0c3 b1c3) fun y1 =>
    bif !y1.1 then
      some (false, ())
    else
      some (true, ())
noncomputable def x76 (x : Int × Int × Int × (List R_iiis) × Int × Int × Int × (List R_iiis) × Unit) : Option (Bool × Unit) := laws_eqBundle x.1 x.2.1 x.2.2.1 x.2.2.2.1 x.2.2.2.2.1 x.2.2.2.2.2.1 x.2.2.2.2.2.2.1 x.2.2.2.2.2.2.2.1
noncomputable def sem76 : Sem1 := semOf ps76 rs76 x76
theorem so76 : SemsOk Tryz.prog (semsOf sl76) := sems_cons k72 (sems_nil)
theorem t76_eq (x : denR (headRT (ps76.map some))) : codeK (tabOf tr) (semsOf sl76) D76 L76 code76 (start 26 ps76 x) (finK rs76 ps76) = x76 x := by kernel_rfl
theorem k76 : Known Tryz.prog 76 sem76 :=
  fn_auto tr_ok eq_ok mixed_ok so76 (D := D76) (code := code76) (n := 26) Tryz.func76 (by kernel_rfl) (by kernel_rfl) (by kernel_rfl) (fun w0 mu _ hs => (loops_of (l := []) (by kernel_rfl) (List.forall_mem_nil _))) t76_eq

/-! ### f28: laws.eqBundleS -/
noncomputable def code28 : Code := match Tryz.f28.body with | some c => c | none => .skip
def ps28 : List AP := [.val false [.shr T_iiiLiiisE], .val false [.shr T_iiiLiiisE]]
def rs28 : List RP := [{ src := .tmp 4, agg := false, ps := [.bool] }]
noncomputable def sl28 : SemL := [(76, (.shr, .shr, .shr, sem76))]
def D28 : Draws := fun id => bif Nat.beq id 6 then .op 0 .any (.op 1 .any (.op 2 .any (.op 3 .take (.op 4 .any (.op 5 .any (.op 6 .any (.op 7 .take (.op 8 .one (.op 9 .any (.nil)))))))))) else .nil
def hp28_0 : List (Option AP) := [some (.val false [.shr T_iiiLiiisE]), some (.val false [.shr T_iiiLiiisE]), none, none, none, some (.val false [.int .i64]), none, none, none, none, none, none, none, none, none, none, none, none, none, none, none, none, none, none, none, none, none, none]
def e28_0 : List (Option AP) := [none, none, none, none, none, none, none, none, none, none, none, none, none, none, none, none, none, none, none, none, none, none, none, none, none, none, none, none]
def q28_0 : List (Option AP) := [none, none, none, none, some (.val false [.bool]), none, none, none, none, none, none, none, none, none, none, none, none, none, none, none, none, none, none, none, none, none, none, none]
abbrev H28_0 : Type := (List R_iiiLiiisE) × (List R_iiiLiiisE) × Int × Unit
abbrev E28_0 : Type := Unit
abbrev Q28_0 : Type := Bool × Unit
noncomputable def laws_eqBundleS_c0 (a0 : List R_iiiLiiisE) (b1 : List R_iiiLiiisE) (i5 : Int) : Option (Sum H28_0 (Sum E28_0 Q28_0)) :=
  bif decide (i5 < ((List.length a0 : Nat) : Int)) then
    bif decide ((0 : Int) ≤ i5) then Option.bind ((a0)[Int.toNat i5]?) fun r1 =>
      bif decide ((0 : Int) ≤ i5) then Option.bind ((b1)[Int.toNat i5]?) fun r2 =>
        Option.bind (laws_eqBundle r1.1 r1.2.1 r1.2.2.1 r1.2.2.2.1 r2.1 r2.2.1 r2.2.2.1 r2.2.2.2.1) fun y3 =>
        bif !y3.1 then
          some (.inr (.inr (false, ())))
        else
          some (.inl (a0, b1, IntKind.i64.wrap (i5 + (1 : Int)), ()))
      else none
    else none
  else
    some (.inr (.inl (())))
noncomputable def laws_eqBundleS_r0 (x : H28_0) : Option (Sum H28_0 (Sum E28_0 Q28_0)) := laws_eqBundleS_c0 x.1 x.2.1 x.2.2.1
noncomputable def L28 {R : Type} : Loops R := fun id _ st k => bif Nat.beq id 0 then loopAt hp28_0 e28_0 q28_0 laws_eqBundleS_r0 st k else none
noncomputable def laws_eqBundleS (a0 : List R_iiiLiiisE) (b1 : List R_iiiLiiisE) : Option (Bool × Unit) :=
  bif !decide (((List.length a0 : Nat) : Int) = ((List.length b1 : Nat) : Int)) then
    some (false, ())
  else
    outK (loopV laws_eqBundleS_r0 (a0, b1, (0 : Int), ())) (fun y1 =>
      some (true, ())) (fun y2 =>
      some (y2.1, ()))
noncomputable def x28 (x : (List R_iiiLiiisE) × (List R_iiiLiiisE) × Unit) : Option (Bool × Unit) := laws_eqBundleS x.1 x.2.1
noncomputable def sem28 : Sem1 := semOf ps28 rs28 x28
theorem so28 : SemsOk Tryz.prog (semsOf sl28) := sems_cons k76 (sems_nil)
noncomputable def b28_0 : Code := nthLoop code28 0
theorem t28_r0_eq (x : denR (headRT hp28_0)) : codeK (tabOf tr) (semsOf sl28) D28 L28 b28_0 (headSt hp28_0 x) (roundK 0 hp28_0 e28_0 q28_0) = laws_eqBundleS_r0 x := by kernel_rfl
theorem loop28_0 {R : Type} (r : R) (w0 : World) (mu : Mu) (hs : AnShape ps28 mu) : LoopAt Tryz.prog w0 mu 27 (L28 : Loops R) r 0 b28_0 :=
  loop_auto tr_ok eq_ok mixed_ok so28 (D := D28) hs (by kernel_rfl) (fun _ => (loops_of (l := []) (by kernel_rfl) (List.forall_mem_nil _))) t28_r0_eq (fun _ _ => rfl)
theorem t28_eq (x : denR (headRT (ps28.map some))) : codeK (tabOf tr) (semsOf sl28) D28 L28 code28 (start 27 ps28 x) (finK rs28 ps28) = x28 x := by kernel_rfl
theorem k28 : Known Tryz.prog 28 sem28 :=
  fn_auto tr_ok eq_ok mixed_ok so28 (D := D28) (code := code28) (n := 27) Tryz.func28 (by kernel_rfl) (by kernel_rfl) (by kernel_rfl) (fun w0 mu _ hs => (loops_of (l := [(0, b28_0)]) (by kernel_rfl) (List.forall_mem_cons.2 ⟨loop28_0 _ w0 mu hs, (List.forall_mem_nil _)⟩))) t28_eq

/-! ### f77: laws.eqEvent -/
noncomputable def code77 : Code := match Tryz.f77.body with | some c => c | none => .skip
def ps77 : List AP := [.val true [.int .i64, .int .i64, .shr T_i, .int .i64, .int .i64, .int .i64, .str, .shr T_i], .val true [.int .i64, .int .i64, .shr T_i, .int .i64, .int .i64, .int .i64, .str, .shr T_i]]
def rs77 : List RP := [{ src := .tmp 4, agg := false, ps := [.bool] }]
noncomputable def sl77 : SemL := [(27, (.shr, .shr, .shr, sem27)), (111, (.shr, .shr, .shr, sem111)), (73, (.shr, .shr, .shr, sem73))]
def D77 : Draws := fun _ => .nil
noncomputable def L77 {R : Type} : Loops R := fun _ _ _ _ => none
noncomputable def laws_eqEvent (a0c0 : Int) (a0c1 : Int) (a0c2 : List (Int × Unit)) (a0c3 : Int) (a0c4 : Int) (a0c5 : Int) (a0c6 : ByteArray) (a0c7 : List (Int × Unit)) (b1c0 : Int) (b1c1 : Int) (b1c2 : List (Int × Unit)) (b1c3 : Int) (b1c4 : Int) (b1c5 : Int) (b1c6 : ByteArray) (b1c7 : List (Int × Unit)) : Option (Bool × Unit) :=
  bif !decide (a0c0 = b1c0) then
    some (false, ())
  else
    Option.bind (laws_eqRing a0c1 a0c2 b1c1 b1c2) fun y1 =>
    bif !y1.1 then
      some (false, ())
    else
      Option.bind (laws_eqItem a0c3 a0c4 a0c5 a0c6 b1c3 b1c4 b1c5 b1c6) fun y2 =>
      bif !y2.1 then
        some (false, ())
      else
        Option.bind (laws_eqIntS a0c7 b1c7) fun y3 =>
        bif !y3.1 then
          some (false, ())
        else
          some (true, ())
noncomputable def x77 (x : Int × Int × (List (Int × Unit)) × Int × Int × Int × ByteArray × (List (Int × Unit)) × Int × Int × (List (Int × Unit)) × Int × Int × Int × ByteArray × (List (Int × Unit)) × Unit) : Option (Bool × Unit) := laws_eqEvent x.1 x.2.1 x.2.2.1 x.2.2.2.1 x.2.2.2.2.1 x.2.2.2.2.2.1 x.2.2.2.2.2.2.1 x.2.2.2.2.2.2.2.1 x.2.2.2.2.2.2.2.2.1 x.2.2.2.2.2.2.2.2.2.1 x.2.2.2.2.2.2.2.2.2.2.1 x.2.2.2.2.2.2.2.2.2.2.2.1 x.2.2.2.2.2.2.2.2.2.2.2.2.1 x.2.2.2.2.2.2.2.2.2.2.2.2.2.1 x.2.2.2.2.2.2.2.2.2.2.2.2.2.2.1 x.2.2.2.2.2.2.2.2.2.2.2.2.2.2.2.1
noncomputable def sem77 : Sem1 := semOf ps77 rs77 x77
theorem so77 : SemsOk Tryz.prog (semsOf sl77) := sems_cons k27 (sems_cons k111 (sems_cons k73 (sems_nil)))
theorem t77_eq (x : denR (headRT (ps77.map some))) : codeK (tabOf tr) (semsOf sl77) D77 L77 code77 (start 28 ps77 x) (finK rs77 ps77) = x77 x := by kernel_rfl
theorem k77 : Known Tryz.prog 77 sem77 :=
  fn_auto tr_ok eq_ok mixed_ok so77 (D := D77) (code := code77) (n := 28) Tryz.func77 (by kernel_rfl) (by kernel_rfl) (by kernel_rfl) (fun w0 mu _ hs => (loops_of (l := []) (by kernel_rfl) (List.forall_mem_nil _))) t77_eq

/-! ### f29: laws.eqEventS -/
noncomputable def code29 : Code := match Tryz.f29.body with | some c => c | none => .skip
def ps29 : List AP := [.val false [.shr T_iiLiEiiisLiE], .val false [.shr T_iiLiEiiisLiE]]
def rs29 : List RP := [{ src := .tmp 4, agg := false, ps := [.bool] }]
noncomputable def sl29 : SemL := [(77, (.shr, .shr, .shr, sem77))]
def D29 : Draws := fun id => bif Nat.beq id 6 then .op 0 .any (.op 1 .any (.op 2 .any (.op 3 .take (.op 4 .any (.op 5 .any (.op 6 .any (.op 7 .take (.op 8 .one (.op 9 .any (.nil)))))))))) else .nil
def hp29_0 : List (Option AP) := [some (.val false [.shr T_iiLiEiiisLiE]), some (.val false [.shr T_iiLiEiiisLiE]), none, none, none, some (.val false [.int .i64]), none, none, none, none, none, none, none, none, none, none, none, none, none, none, none, none, none, none, none, none, none, none]
def e29_0 : List (Option AP) := [none, none, none, none, none, none, none, none, none, none, none, none, none, none, none, none, none, none, none, none, none, none, none, none, none, none, none, none]
def q29_0 : List (Option AP) := [none, none, none, none, some (.val false [.bool]), none, none, none, none, none, none, none, none, none, none, none, none, none, none, none, none, none, none, none, none, none, none, none]
abbrev H29_0 : Type := (List R_iiLiEiiisLiE) × (List R_iiLiEiiisLiE) × Int × Unit
abbrev E29_0 : Type := Unit
abbrev Q29_0 : Type := Bool × Unit
noncomputable def laws_eqEventS_c0 (a0 : List R_iiLiEiiisLiE) (b1 : List R_iiLiEiiisLiE) (i5 : Int) : Option (Sum H29_0 (Sum E29_0 Q29_0)) :=
  bif decide (i5 < ((List.length a0 : Nat) : Int)) then
    bif decide ((0 : Int) ≤ i5) then Option.bind ((a0)[Int.toNat i5]?) fun r1 =>
      bif decide ((0 : Int) ≤ i5) then Option.bind ((b1)[Int.toNat i5]?) fun r2 =>
        Option.bind (laws_eqEvent r1.1 r1.2.1 r1.2.2.1 r1.2.2.2.1 r1.2.2.2.2.1 r1.2.2.2.2.2.1 r1.2.2.2.2.2.2.1 r1.2.2.2.2.2.2.2.1 r2.1 r2.2.1 r2.2.2.1 r2.2.2.2.1 r2.2.2.2.2.1 r2.2.2.2.2.2.1 r2.2.2.2.2.2.2.1 r2.2.2.2.2.2.2.2.1) fun y3 =>
        bif !y3.1 then
          some (.inr (.inr (false, ())))
        else
          some (.inl (a0, b1, IntKind.i64.wrap (i5 + (1 : Int)), ()))
      else none
    else none
  else
    some (.inr (.inl (())))
noncomputable def laws_eqEventS_r0 (x : H29_0) : Option (Sum H29_0 (Sum E29_0 Q29_0)) := laws_eqEventS_c0 x.1 x.2.1 x.2.2.1
noncomputable def L29 {R : Type} : Loops R := fun id _ st k => bif Nat.beq id 0 then loopAt hp29_0 e29_0 q29_0 laws_eqEventS_r0 st k else none
noncomputable def laws_eqEventS (a0 : List R_iiLiEiiisLiE) (b1 : List R_iiLiEiiisLiE) : Option (Bool × Unit) :=
  bif !decide (((List.length a0 : Nat) : Int) = ((List.length b1 : Nat) : Int)) then
    some (false, ())
  else
    outK (loopV laws_eqEventS_r0 (a0, b1, (0 : Int), ())) (fun y1 =>
      some (true, ())) (fun y2 =>
      some (y2.1, ()))
noncomputable def x29 (x : (List R_iiLiEiiisLiE) × (List R_iiLiEiiisLiE) × Unit) : Option (Bool × Unit) := laws_eqEventS x.1 x.2.1
noncomputable def sem29 : Sem1 := semOf ps29 rs29 x29
theorem so29 : SemsOk Tryz.prog (semsOf sl29) := sems_cons k77 (sems_nil)
noncomputable def b29_0 : Code := nthLoop code29 0
theorem t29_r0_eq (x : denR (headRT hp29_0)) : codeK (tabOf tr) (semsOf sl29) D29 L29 b29_0 (headSt hp29_0 x) (roundK 0 hp29_0 e29_0 q29_0) = laws_eqEventS_r0 x := by kernel_rfl
theorem loop29_0 {R : Type} (r : R) (w0 : World) (mu : Mu) (hs : AnShape ps29 mu) : LoopAt Tryz.prog w0 mu 27 (L29 : Loops R) r 0 b29_0 :=
  loop_auto tr_ok eq_ok mixed_ok so29 (D := D29) hs (by kernel_rfl) (fun _ => (loops_of (l := []) (by kernel_rfl) (List.forall_mem_nil _))) t29_r0_eq (fun _ _ => rfl)
theorem t29_eq (x : denR (headRT (ps29.map some))) : codeK (tabOf tr) (semsOf sl29) D29 L29 code29 (start 27 ps29 x) (finK rs29 ps29) = x29 x := by kernel_rfl
theorem k29 : Known Tryz.prog 29 sem29 :=
  fn_auto tr_ok eq_ok mixed_ok so29 (D := D29) (code := code29) (n := 27) Tryz.func29 (by kernel_rfl) (by kernel_rfl) (by kernel_rfl) (fun w0 mu _ hs => (loops_of (l := [(0, b29_0)]) (by kernel_rfl) (List.forall_mem_cons.2 ⟨loop29_0 _ w0 mu hs, (List.forall_mem_nil _)⟩))) t29_eq

/-! ### f9: laws.eqDaemon -/
noncomputable def code9 : Code := match Tryz.f9.body with | some c => c | none => .skip
def ps9 : List AP := [.val true [.int .i64, .bool, .int .i64, .int .i64, .shr T_i, .shr T_iiis, .shr T_i, .shr T_s, .int .i64, .int .i64, .int .i64, .int .i64, .int .i64, .int .i64, .int .i64, .int .i64, .int .i64, .shr T_i, .int .i64, .int .i64, .int .i64, .shr T_i, .shr T_iiiLiiisE, .shr T_iiLiEiiisLiE], .val true [.int .i64, .bool, .int .i64, .int .i64, .shr T_i, .shr T_iiis, .shr T_i, .shr T_s, .int .i64, .int .i64, .int .i64, .int .i64, .int .i64, .int .i64, .int .i64, .int .i64, .int .i64, .shr T_i, .int .i64, .int .i64, .int .i64, .shr T_i, .shr T_iiiLiiisE, .shr T_iiLiEiiisLiE]]
def rs9 : List RP := [{ src := .tmp 4, agg := false, ps := [.bool] }]
noncomputable def sl9 : SemL := [(26, (.shr, .shr, .shr, sem26)), (27, (.shr, .shr, .shr, sem27)), (28, (.shr, .shr, .shr, sem28)), (29, (.shr, .shr, .shr, sem29))]
def D9 : Draws := fun _ => .nil
noncomputable def L9 {R : Type} : Loops R := fun _ _ _ _ => none
noncomputable def laws_eqDaemon (a0c0 : Int) (a0c1 : Bool) (a0c2 : Int) (a0c3 : Int) (a0c4 : List (Int × Unit)) (a0c5 : List R_iiis) (a0c6 : List (Int × Unit)) (a0c7 : List (ByteArray × Unit)) (a0c8 : Int) (a0c9 : Int) (a0c10 : Int) (a0c11 : Int) (a0c12 : Int) (a0c13 : Int) (a0c14 : Int) (a0c15 : Int) (a0c16 : Int) (a0c17 : List (Int × Unit)) (a0c18 : Int) (a0c19 : Int) (a0c20 : Int) (a0c21 : List (Int × Unit)) (a0c22 : List R_iiiLiiisE) (a0c23 : List R_iiLiEiiisLiE) (b1c0 : Int) (b1c1 : Bool) (b1c2 : Int) (b1c3 : Int) (b1c4 : List (Int × Unit)) (b1c5 : List R_iiis) (b1c6 : List (Int × Unit)) (b1c7 : List (ByteArray × Unit)) (b1c8 : Int) (b1c9 : Int) (b1c10 : Int) (b1c11 : Int) (b1c12 : Int) (b1c13 : Int) (b1c14 : Int) (b1c15 : Int) (b1c16 : Int) (b1c17 : List (Int × Unit)) (b1c18 : Int) (b1c19 : Int) (b1c20 : Int) (b1c21 : List (Int × Unit)) (b1c22 : List R_iiiLiiisE) (b1c23 : List R_iiLiEiiisLiE) : Option (Bool × Unit) :=
  bif !decide (a0c0 = b1c0) then
    some (false, ())
  else bif !(a0c1 == b1c1) then
    some (false, ())
  else
    Option.bind (laws_eqMate a0c2 a0c3 a0c4 a0c5 a0c6 a0c7 a0c8 a0c9 a0c10 a0c11 a0c12 a0c13 a0c14 a0c15 a0c16 a0c17 b1c2 b1c3 b1c4 b1c5 b1c6 b1c7 b1c8 b1c9 b1c10 b1c11 b1c12 b1c13 b1c14 b1c15 b1c16 b1c17) fun y1 =>
    bif !y1.1 then
      some (false, ())
    else bif !decide (a0c18 = b1c18) then
      some (false, ())
    else bif !decide (a0c19 = b1c19) then
      some (false, ())
    else
      Option.bind (laws_eqRing a0c20 a0c21 b1c20 b1c21) fun y2 =>
      bif !y2.1 then
        some (false, ())
      else
        Option.bind (laws_eqBundleS a0c22 b1c22) fun y3 =>
        bif !y3.1 then
          some (false, ())
        else
          Option.bind (laws_eqEventS a0c23 b1c23) fun y4 =>
          bif !y4.1 then
            some (false, ())
          else
            some (true, ())
noncomputable def x9 (x : Int × Bool × Int × Int × (List (Int × Unit)) × (List R_iiis) × (List (Int × Unit)) × (List (ByteArray × Unit)) × Int × Int × Int × Int × Int × Int × Int × Int × Int × (List (Int × Unit)) × Int × Int × Int × (List (Int × Unit)) × (List R_iiiLiiisE) × (List R_iiLiEiiisLiE) × Int × Bool × Int × Int × (List (Int × Unit)) × (List R_iiis) × (List (Int × Unit)) × (List (ByteArray × Unit)) × Int × Int × Int × Int × Int × Int × Int × Int × Int × (List (Int × Unit)) × Int × Int × Int × (List (Int × Unit)) × (List R_iiiLiiisE) × (List R_iiLiEiiisLiE) × Unit) : Option (Bool × Unit) := laws_eqDaemon x.1 x.2.1 x.2.2.1 x.2.2.2.1 x.2.2.2.2.1 x.2.2.2.2.2.1 x.2.2.2.2.2.2.1 x.2.2.2.2.2.2.2.1 x.2.2.2.2.2.2.2.2.1 x.2.2.2.2.2.2.2.2.2.1 x.2.2.2.2.2.2.2.2.2.2.1 x.2.2.2.2.2.2.2.2.2.2.2.1 x.2.2.2.2.2.2.2.2.2.2.2.2.1 x.2.2.2.2.2.2.2.2.2.2.2.2.2.1 x.2.2.2.2.2.2.2.2.2.2.2.2.2.2.1 x.2.2.2.2.2.2.2.2.2.2.2.2.2.2.2.1 x.2.2.2.2.2.2.2.2.2.2.2.2.2.2.2.2.1 x.2.2.2.2.2.2.2.2.2.2.2.2.2.2.2.2.2.1 x.2.2.2.2.2.2.2.2.2.2.2.2.2.2.2.2.2.2.1 x.2.2.2.2.2.2.2.2.2.2.2.2.2.2.2.2.2.2.2.1 x.2.2.2.2.2.2.2.2.2.2.2.2.2.2.2.2.2.2.2.2.1 x.2.2.2.2.2.2.2.2.2.2.2.2.2.2.2.2.2.2.2.2.2.1 x.2.2.2.2.2.2.2.2.2.2.2.2.2.2.2.2.2.2.2.2.2.2.1 x.2.2.2.2.2.2.2.2.2.2.2.2.2.2.2.2.2.2.2.2.2.2.2.1 x.2.2.2.2.2.2.2.2.2.2.2.2.2.2.2.2.2.2.2.2.2.2.2.2.1 x.2.2.2.2.2.2.2.2.2.2.2.2.2.2.2.2.2.2.2.2.2.2.2.2.2.1 x.2.2.2.2.2.2.2.2.2.2.2.2.2.2.2.2.2.2.2.2.2.2.2.2.2.2.1 x.2.2.2.2.2.2.2.2.2.2.2.2.2.2.2.2.2.2.2.2.2.2.2.2.2.2.2.1 x.2.2.2.2.2.2.2.2.2.2.2.2.2.2.2.2.2.2.2.2.2.2.2.2.2.2.2.2.1 x.2.2.2.2.2.2.2.2.2.2.2.2.2.2.2.2.2.2.2.2.2.2.2.2.2.2.2.2.2.1 x.2.2.2.2.2.2.2.2.2.2.2.2.2.2.2.2.2.2.2.2.2.2.2.2.2.2.2.2.2.2.1 x.2.2.2.2.2.2.2.2.2.2.2.2.2.2.2.2.2.2.2.2.2.2.2.2.2.2.2.2.2.2.2.1 x.2.2.2.2.2.2.2.2.2.2.2.2.2.2.2.2.2.2.2.2.2.2.2.2.2.2.2.2.2.2.2.2.1 x.2.2.2.2.2.2.2.2.2.2.2.2.2.2.2.2.2.2.2.2.2.2.2.2.2.2.2.2.2.2.2.2.2.1 x.2.2.2.2.2.2.2.2.2.2.2.2.2.2.2.2.2.2.2.2.2.2.2.2.2.2.2.2.2.2.2.2.2.2.1 x.2.2.2.2.2.2.2.2.2.2.2.2.2.2.2.2.2.2.2.2.2.2.2.2.2.2.2.2.2.2.2.2.2.2.2.1 x.2.2.2.2.2.2.2.2.2.2.2.2.2.2.2.2.2.2.2.2.2.2.2.2.2.2.2.2.2.2.2.2.2.2.2.2.1 x.2.2.2.2.2.2.2.2.2.2.2.2.2.2.2.2.2.2.2.2.2.2.2.2.2.2.2.2.2.2.2.2.2.2.2.2.2.1 x.2.2.2.2.2.2.2.2.2.2.2.2.2.2.2.2.2.2.2.2.2.2.2.2.2.2.2.2.2.2.2.2.2.2.2.2.2.2.1 x.2.2.2.2.2.2.2.2.2.2.2.2.2.2.2.2.2.2.2.2.2.2.2.2.2.2.2.2.2.2.2.2.2.2.2.2.2.2.2.1 x.2.2.2.2.2.2.2.2.2.2.2.2.2.2.2.2.2.2.2.2.2.2.2.2.2.2.2.2.2.2.2.2.2.2.2.2.2.2.2.2.1 x.2.2.2.2.2.2.2.2.2.2.2.2.2.2.2.2.2.2.2.2.2.2.2.2.2.2.2.2.2.2.2.2.2.2.2.2.2.2.2.2.2.1 x.2.2.2.2.2.2.2.2.2.2.2.2.2.2.2.2.2.2.2.2.2.2.2.2.2.2.2.2.2.2.2.2.2.2.2.2.2.2.2.2.2.2.1 x.2.2.2.2.2.2.2.2.2.2.2.2.2.2.2.2.2.2.2.2.2.2.2.2.2.2.2.2.2.2.2.2.2.2.2.2.2.2.2.2.2.2.2.1 x.2.2.2.2.2.2.2.2.2.2.2.2.2.2.2.2.2.2.2.2.2.2.2.2.2.2.2.2.2.2.2.2.2.2.2.2.2.2.2.2.2.2.2.2.1 x.2.2.2.2.2.2.2.2.2.2.2.2.2.2.2.2.2.2.2.2.2.2.2.2.2.2.2.2.2.2.2.2.2.2.2.2.2.2.2.2.2.2.2.2.2.1 x.2.2.2.2.2.2.2.2.2.2.2.2.2.2.2.2.2.2.2.2.2.2.2.2.2.2.2.2.2.2.2.2.2.2.2.2.2.2.2.2.2.2.2.2.2.2.1 x.2.2.2.2.2.2.2.2.2.2.2.2.2.2.2.2.2.2.2.2.2.2.2.2.2.2.2.2.2.2.2.2.2.2.2.2.2.2.2.2.2.2.2.2.2.2.2.1
noncomputable def sem9 : Sem1 := semOf ps9 rs9 x9
theorem so9 : SemsOk Tryz.prog (semsOf sl9) := sems_cons k26 (sems_cons k27 (sems_cons k28 (sems_cons k29 (sems_nil))))
theorem t9_eq (x : denR (headRT (ps9.map some))) : codeK (tabOf tr) (semsOf sl9) D9 L9 code9 (start 49 ps9 x) (finK rs9 ps9) = x9 x := by kernel_rfl
theorem k9 : Known Tryz.prog 9 sem9 :=
  fn_auto tr_ok eq_ok mixed_ok so9 (D := D9) (code := code9) (n := 49) Tryz.func9 (by kernel_rfl) (by kernel_rfl) (by kernel_rfl) (fun w0 mu _ hs => (loops_of (l := []) (by kernel_rfl) (List.forall_mem_nil _))) t9_eq

/-! ### f79: laws.markIntS -/
noncomputable def code79 : Code := match Tryz.f79.body with | some c => c | none => .skip
def ps79 : List AP := [.io T_i, .val false [.int .i64]]
def rs79 : List RP := [{ src := .tmp 4, agg := false, ps := [.int .i64] }]
noncomputable def sl79 : SemL := []
def D79 : Draws := fun _ => .nil
def hp79_0 : List (Option AP) := [some (.io T_i), some (.val false [.int .i64]), none, none, none, some (.val false [.int .i64]), none, none, none, none, none, none, none, none, none, none, none, none, none, none]
def e79_0 : List (Option AP) := [some (.io T_i), some (.val false [.int .i64]), none, none, none, none, none, none, none, none, none, none, none, none, none, none, none, none, none, none]
def q79_0 : List (Option AP) := [none, none, none, none, none, none, none, none, none, none, none, none, none, none, none, none, none, none, none, none]
abbrev H79_0 : Type := (List (Int × Unit)) × Int × Int × Unit
abbrev E79_0 : Type := (List (Int × Unit)) × Int × Unit
abbrev Q79_0 : Type := Unit
noncomputable def laws_markIntS_c0 (a0 : List (Int × Unit)) (k1 : Int) (i5 : Int) : Option (Sum H79_0 (Sum E79_0 Q79_0)) :=
  bif decide (i5 < ((List.length a0 : Nat) : Int)) then
    bif decide ((0 : Int) ≤ i5) then bif Nat.blt (Int.toNat i5) (List.length a0) then Option.bind ((a0)[Int.toNat i5]?) fun r1 =>
        some (.inl (List.set a0 (Int.toNat i5) (k1, ()), IntKind.i64.wrap (k1 + (1 : Int)), IntKind.i64.wrap (i5 + (1 : Int)), ()))
      else none
    else none
  else
    some (.inr (.inl (a0, k1, ())))
noncomputable def laws_markIntS_r0 (x : H79_0) : Option (Sum H79_0 (Sum E79_0 Q79_0)) := laws_markIntS_c0 x.1 x.2.1 x.2.2.1
noncomputable def L79 {R : Type} : Loops R := fun id _ st k => bif Nat.beq id 0 then loopAt hp79_0 e79_0 q79_0 laws_markIntS_r0 st k else none
noncomputable def laws_markIntS (a0 : List (Int × Unit)) (k1 : Int) : Option (Int × (List (Int × Unit)) × Unit) :=
  outK (loopV laws_markIntS_r0 (a0, k1, (0 : Int), ())) (fun y1 =>
    some (y1.2.1, y1.1, ())) (fun y2 =>
    none)
noncomputable def x79 (x : (List (Int × Unit)) × Int × Unit) : Option (Int × (List (Int × Unit)) × Unit) := laws_markIntS x.1 x.2.1
noncomputable def sem79 : Sem1 := semOf ps79 rs79 x79
theorem so79 : SemsOk Tryz.prog (semsOf sl79) := sems_nil
noncomputable def b79_0 : Code := nthLoop code79 0
theorem t79_r0_eq (x : denR (headRT hp79_0)) : codeK (tabOf tr) (semsOf sl79) D79 L79 b79_0 (headSt hp79_0 x) (roundK 0 hp79_0 e79_0 q79_0) = laws_markIntS_r0 x := by kernel_rfl
theorem loop79_0 {R : Type} (r : R) (w0 : World) (mu : Mu) (hs : AnShape ps79 mu) : LoopAt Tryz.prog w0 mu 19 (L79 : Loops R) r 0 b79_0 :=
  loop_auto tr_ok eq_ok mixed_ok so79 (D := D79) hs (by kernel_rfl) (fun _ => (loops_of (l := []) (by kernel_rfl) (List.forall_mem_nil _))) t79_r0_eq (fun _ _ => rfl)
theorem t79_eq (x : denR (headRT (ps79.map some))) : codeK (tabOf tr) (semsOf sl79) D79 L79 code79 (start 19 ps79 x) (finK rs79 ps79) = x79 x := by kernel_rfl
theorem k79 : Known Tryz.prog 79 sem79 :=
  fn_auto tr_ok eq_ok mixed_ok so79 (D := D79) (code := code79) (n := 19) Tryz.func79 (by kernel_rfl) (by kernel_rfl) (by kernel_rfl) (fun w0 mu _ hs => (loops_of (l := [(0, b79_0)]) (by kernel_rfl) (List.forall_mem_cons.2 ⟨loop79_0 _ w0 mu hs, (List.forall_mem_nil _)⟩))) t79_eq

/-! ### f31: laws.markRing -/
noncomputable def code31 : Code := match Tryz.f31.body with | some c => c | none => .skip
def ps31 : List AP := [.lend [.int .i64, .own T_i], .val false [.int .i64]]
def rs31 : List RP := [{ src := .tmp 4, agg := false, ps := [.int .i64] }]
noncomputable def sl31 : SemL := [(79, (.io, .shr, .shr, sem79))]
def D31 : Draws := fun _ => .nil
noncomputable def L31 {R : Type} : Loops R := fun _ _ _ _ => none
noncomputable def laws_markRing (a0c0 : Int) (a0c1 : List (Int × Unit)) (k1 : Int) : Option (Int × (List (Int × Unit)) × Unit) :=
  Option.bind (laws_markIntS a0c1 k1) fun y1 =>
  some (y1.1, y1.2.1, ())
noncomputable def x31 (x : Int × (List (Int × Unit)) × Int × Unit) : Option (Int × (List (Int × Unit)) × Unit) := laws_markRing x.1 x.2.1 x.2.2.1
noncomputable def sem31 : Sem1 := semOf ps31 rs31 x31
theorem so31 : SemsOk Tryz.prog (semsOf sl31) := sems_cons k79 (sems_nil)
theorem t31_eq (x : denR (headRT (ps31.map some))) : codeK (tabOf tr) (semsOf sl31) D31 L31 code31 (start 10 ps31 x) (finK rs31 ps31) = x31 x := by kernel_rfl
theorem k31 : Known Tryz.prog 31 sem31 :=
  fn_auto tr_ok eq_ok mixed_ok so31 (D := D31) (code := code31) (n := 10) Tryz.func31 (by kernel_rfl) (by kernel_rfl) (by kernel_rfl) (fun w0 mu _ hs => (loops_of (l := []) (by kernel_rfl) (List.forall_mem_nil _))) t31_eq

/-! ### f82: laws.markText -/
noncomputable def code82 : Code := match Tryz.f82.body with | some c => c | none => .skip
def ps82 : List AP := [.val false [.int .i64]]
def rs82 : List RP := [{ src := .tmp 2, agg := false, ps := [.str] }]
noncomputable def sl82 : SemL := []
def D82 : Draws := fun _ => .nil
def hp82_0 : List (Option AP) := [some (.val false [.int .i64]), none, none, some (.val false [.str]), none, none, none, none, none, none, none, none, none, none, none, none, none, none, none, none, none]
def e82_0 : List (Option AP) := [none, none, none, some (.val false [.str]), none, none, none, none, none, none, none, none, none, none, none, none, none, none, none, none, none]
def q82_0 : List (Option AP) := [none, none, none, none, none, none, none, none, none, none, none, none, none, none, none, none, none, none, none, none, none]
abbrev H82_0 : Type := Int × ByteArray × Unit
abbrev E82_0 : Type := ByteArray × Unit
abbrev Q82_0 : Type := Unit
noncomputable def laws_markText_c0 (k0 : Int) (out3 : ByteArray) : Option (Sum H82_0 (Sum E82_0 Q82_0)) :=
  bif decide ((0 : Int) < k0) then
    bif Nat.ble ((ByteArray.size (bytesOf [(IntKind.u8.wrap (IntKind.i64.wrap ((48 : Int) + (Int.tmod k0 (10 : Int)))), ())])) + (ByteArray.size out3)) lim then some (.inl (IntKind.i64.wrap (Int.tdiv k0 (10 : Int)), (bytesOf [(IntKind.u8.wrap (IntKind.i64.wrap ((48 : Int) + (Int.tmod k0 (10 : Int)))), ())]) ++ out3, ()))
    else none
  else
    some (.inr (.inl (out3, ())))
noncomputable def laws_markText_r0 (x : H82_0) : Option (Sum H82_0 (Sum E82_0 Q82_0)) := laws_markText_c0 x.1 x.2.1
noncomputable def L82 {R : Type} : Loops R := fun id _ st k => bif Nat.beq id 0 then loopAt hp82_0 e82_0 q82_0 laws_markText_r0 st k else none
noncomputable def laws_markText (k0 : Int) : Option (ByteArray × Unit) :=
  bif decide (k0 ≤ (0 : Int)) then
    some ((ByteArray.mk #[109, 48]), ())
  else
    outK (loopV laws_markText_r0 (k0, (ByteArray.mk #[]), ())) (fun y1 =>
      bif Nat.ble (1 + (ByteArray.size y1.1)) lim then some ((ByteArray.mk #[109]) ++ y1.1, ())
      else none) (fun y2 =>
      none)
noncomputable def x82 (x : Int × Unit) : Option (ByteArray × Unit) := laws_markText x.1
noncomputable def sem82 : Sem1 := semOf ps82 rs82 x82
theorem so82 : SemsOk Tryz.prog (semsOf sl82) := sems_nil
noncomputable def b82_0 : Code := nthLoop code82 0
theorem t82_r0_eq (x : denR (headRT hp82_0)) : codeK (tabOf tr) (semsOf sl82) D82 L82 b82_0 (headSt hp82_0 x) (roundK 0 hp82_0 e82_0 q82_0) = laws_markText_r0 x := by kernel_rfl
theorem loop82_0 {R : Type} (r : R) (w0 : World) (mu : Mu) (hs : AnShape ps82 mu) : LoopAt Tryz.prog w0 mu 20 (L82 : Loops R) r 0 b82_0 :=
  loop_auto tr_ok eq_ok mixed_ok so82 (D := D82) hs (by kernel_rfl) (fun _ => (loops_of (l := []) (by kernel_rfl) (List.forall_mem_nil _))) t82_r0_eq (fun _ _ => rfl)
theorem t82_eq (x : denR (headRT (ps82.map some))) : codeK (tabOf tr) (semsOf sl82) D82 L82 code82 (start 20 ps82 x) (finK rs82 ps82) = x82 x := by kernel_rfl
theorem k82 : Known Tryz.prog 82 sem82 :=
  fn_auto tr_ok eq_ok mixed_ok so82 (D := D82) (code := code82) (n := 20) Tryz.func82 (by kernel_rfl) (by kernel_rfl) (by kernel_rfl) (fun w0 mu _ hs => (loops_of (l := [(0, b82_0)]) (by kernel_rfl) (List.forall_mem_cons.2 ⟨loop82_0 _ w0 mu hs, (List.forall_mem_nil _)⟩))) t82_eq

/-! ### f78: laws.markItemS -/
noncomputable def code78 : Code := match Tryz.f78.body with | some c => c | none => .skip
def ps78 : List AP := [.io T_iiis, .val false [.int .i64]]
def rs78 : List RP := [{ src := .tmp 4, agg := false, ps := [.int .i64] }]
noncomputable def sl78 : SemL := [(82, (.shr, .shr, .shr, sem82))]
def D78 : Draws := fun _ => .nil
def hp78_0 : List (Option AP) := [some (.io T_iiis), some (.val false [.int .i64]), none, none, none, some (.val false [.int .i64]), none, none, none, none, none, none, none, none, none, none, none, none, none, none, none, none, none, none, none, none, none, none, none, none, none, none, none, none, none, none, none, none, none, none, none, none, none]
def e78_0 : List (Option AP) := [some (.io T_iiis), some (.val false [.int .i64]), none, none, none, none, none, none, none, none, none, none, none, none, none, none, none, none, none, none, none, none, none, none, none, none, none, none, none, none, none, none, none, none, none, none, none, none, none, none, none, none, none]
def q78_0 : List (Option AP) := [none, none, none, none, none, none, none, none, none, none, none, none, none, none, none, none, none, none, none, none, none, none, none, none, none, none, none, none, none, none, none, none, none, none, none, none, none, none, none, none, none, none, none]
abbrev H78_0 : Type := (List R_iiis) × Int × Int × Unit
abbrev E78_0 : Type := (List R_iiis) × Int × Unit
abbrev Q78_0 : Type := Unit
noncomputable def laws_markItemS_c0 (a0 : List R_iiis) (k1 : Int) (i5 : Int) : Option (Sum H78_0 (Sum E78_0 Q78_0)) :=
  bif decide (i5 < ((List.length a0 : Nat) : Int)) then
    bif decide ((0 : Int) ≤ i5) then bif Nat.blt (Int.toNat i5) (List.length a0) then Option.bind ((a0)[Int.toNat i5]?) fun r1 =>
        bif decide ((0 : Int) ≤ i5) then bif Nat.blt (Int.toNat i5) (List.length (List.set a0 (Int.toNat i5) (k1, r1.2.1, r1.2.2.1, r1.2.2.2.1, ()))) then Option.bind ((List.set a0 (Int.toNat i5) (k1, r1.2.1, r1.2.2.1, r1.2.2.2.1, ()))[Int.toNat i5]?) fun r2 =>
            bif decide ((0 : Int) ≤ i5) then bif Nat.blt (Int.toNat i5) (List.length (List.set (List.set a0 (Int.toNat i5) (k1, r1.2.1, r1.2.2.1, r1.2.2.2.1, ())) (Int.toNat i5) (r2.1, IntKind.i64.wrap (k1 + (1 : Int)), r2.2.2.1, r2.2.2.2.1, ()))) then Option.bind ((List.set (List.set a0 (Int.toNat i5) (k1, r1.2.1, r1.2.2.1, r1.2.2.2.1, ())) (Int.toNat i5) (r2.1, IntKind.i64.wrap (k1 + (1 : Int)), r2.2.2.1, r2.2.2.2.1, ()))[Int.toNat i5]?) fun r3 =>
                Option.bind (laws_markText (IntKind.i64.wrap ((IntKind.i64.wrap ((IntKind.i64.wrap (k1 + (1 : Int))) + (1 : Int))) + (1 : Int)))) fun y4 =>
                bif decide ((0 : Int) ≤ i5) then bif Nat.blt (Int.toNat i5) (List.length (List.set (List.set (List.set a0 (Int.toNat i5) (k1, r1.2.1, r1.2.2.1, r1.2.2.2.1, ())) (Int.toNat i5) (r2.1, IntKind.i64.wrap (k1 + (1 : Int)), r2.2.2.1, r2.2.2.2.1, ())) (Int.toNat i5) (r3.1, r3.2.1, IntKind.i64.wrap ((IntKind.i64.wrap (k1 + (1 : Int))) + (1 : Int)), r3.2.2.2.1, ()))) then Option.bind ((List.set (List.set (List.set a0 (Int.toNat i5) (k1, r1.2.1, r1.2.2.1, r1.2.2.2.1, ())) (Int.toNat i5) (r2.1, IntKind.i64.wrap (k1 + (1 : Int)), r2.2.2.1, r2.2.2.2.1, ())) (Int.toNat i5) (r3.1, r3.2.1, IntKind.i64.wrap ((IntKind.i64.wrap (k1 + (1 : Int))) + (1 : Int)), r3.2.2.2.1, ()))[Int.toNat i5]?) fun r5 =>
                    some (.inl (List.set (List.set (List.set (List.set a0 (Int.toNat i5) (k1, r1.2.1, r1.2.2.1, r1.2.2.2.1, ())) (Int.toNat i5) (r2.1, IntKind.i64.wrap (k1 + (1 : Int)), r2.2.2.1, r2.2.2.2.1, ())) (Int.toNat i5) (r3.1, r3.2.1, IntKind.i64.wrap ((IntKind.i64.wrap (k1 + (1 : Int))) + (1 : Int)), r3.2.2.2.1, ())) (Int.toNat i5) (r5.1, r5.2.1, r5.2.2.1, y4.1, ()), IntKind.i64.wrap ((IntKind.i64.wrap ((IntKind.i64.wrap ((IntKind.i64.wrap (k1 + (1 : Int))) + (1 : Int))) + (1 : Int))) + (1 : Int)), IntKind.i64.wrap (i5 + (1 : Int)), ()))
                  else none
                else none
              else none
            else none
          else none
        else none
      else none
    else none
  else
    some (.inr (.inl (a0, k1, ())))
noncomputable def laws_markItemS_r0 (x : H78_0) : Option (Sum H78_0 (Sum E78_0 Q78_0)) := laws_markItemS_c0 x.1 x.2.1 x.2.2.1
noncomputable def L78 {R : Type} : Loops R := fun id _ st k => bif Nat.beq id 0 then loopAt hp78_0 e78_0 q78_0 laws_markItemS_r0 st k else none
noncomputable def laws_markItemS (a0 : List R_iiis) (k1 : Int) : Option (Int × (List R_iiis) × Unit) :=
  outK (loopV laws_markItemS_r0 (a0, k1, (0 : Int), ())) (fun y1 =>
    some (y1.2.1, y1.1, ())) (fun y2 =>
    none)
noncomputable def x78 (x : (List R_iiis) × Int × Unit) : Option (Int × (List R_iiis) × Unit) := laws_markItemS x.1 x.2.1
noncomputable def sem78 : Sem1 := semOf ps78 rs78 x78
theorem so78 : SemsOk Tryz.prog (semsOf sl78) := sems_cons k82 (sems_nil)
noncomputable def b78_0 : Code := nthLoop code78 0
theorem t78_r0_eq (x : denR (headRT hp78_0)) : codeK (tabOf tr) (semsOf sl78) D78 L78 b78_0 (headSt hp78_0 x) (roundK 0 hp78_0 e78_0 q78_0) = laws_markItemS_r0 x := by kernel_rfl
theorem loop78_0 {R : Type} (r : R) (w0 : World) (mu : Mu) (hs : AnShape ps78 mu) : LoopAt Tryz.prog w0 mu 42 (L78 : Loops R) r 0 b78_0 :=
  loop_auto tr_ok eq_ok mixed_ok so78 (D := D78) hs (by kernel_rfl) (fun _ => (loops_of (l := []) (by kernel_rfl) (List.forall_mem_nil _))) t78_r0_eq (fun _ _ => rfl)
theorem t78_eq (x : denR (headRT (ps78.map some))) : codeK (tabOf tr) (semsOf sl78) D78 L78 code78 (start 42 ps78 x) (finK rs78 ps78) = x78 x := by kernel_rfl
theorem k78 : Known Tryz.prog 78 sem78 :=
  fn_auto tr_ok eq_ok mixed_ok so78 (D := D78) (code := code78) (n := 42) Tryz.func78 (by kernel_rfl) (by kernel_rfl) (by kernel_rfl) (fun w0 mu _ hs => (loops_of (l := [(0, b78_0)]) (by kernel_rfl) (List.forall_mem_cons.2 ⟨loop78_0 _ w0 mu hs, (List.forall_mem_nil _)⟩))) t78_eq

/-! ### f80: laws.markStringS -/
noncomputable def code80 : Code := match Tryz.f80.body with | some c => c | none => .skip
def ps80 : List AP := [.io T_s, .val false [.int .i64]]
def rs80 : List RP := [{ src := .tmp 4, agg := false, ps := [.int .i64] }]
noncomputable def sl80 : SemL := [(82, (.shr, .shr, .shr, sem82))]
def D80 : Draws := fun _ => .nil
def hp80_0 : List (Option AP) := [some (.io T_s), some (.val false [.int .i64]), none, none, none, some (.val false [.int .i64]), none, none, none, none, none, none, none, none, none, none, none, none, none, none, none]
def e80_0 : List (Option AP) := [some (.io T_s), some (.val false [.int .i64]), none, none, none, none, none, none, none, none, none, none, none, none, none, none, none, none, none, none, none]
def q80_0 : List (Option AP) := [none, none, none, none, none, none, none, none, none, none, none, none, none, none, none, none, none, none, none, none, none]
abbrev H80_0 : Type := (List (ByteArray × Unit)) × Int × Int × Unit
abbrev E80_0 : Type := (List (ByteArray × Unit)) × Int × Unit
abbrev Q80_0 : Type := Unit
noncomputable def laws_markStringS_c0 (a0 : List (ByteArray × Unit)) (k1 : Int) (i5 : Int) : Option (Sum H80_0 (Sum E80_0 Q80_0)) :=
  bif decide (i5 < ((List.length a0 : Nat) : Int)) then
    Option.bind (laws_markText k1) fun y1 =>
    bif decide ((0 : Int) ≤ i5) then bif Nat.blt (Int.toNat i5) (List.length a0) then Option.bind ((a0)[Int.toNat i5]?) fun r2 =>
        some (.inl (List.set a0 (Int.toNat i5) (y1.1, ()), IntKind.i64.wrap (k1 + (1 : Int)), IntKind.i64.wrap (i5 + (1 : Int)), ()))
      else none
    else none
  else
    some (.inr (.inl (a0, k1, ())))
noncomputable def laws_markStringS_r0 (x : H80_0) : Option (Sum H80_0 (Sum E80_0 Q80_0)) := laws_markStringS_c0 x.1 x.2.1 x.2.2.1
noncomputable def L80 {R : Type} : Loops R := fun id _ st k => bif Nat.beq id 0 then loopAt hp80_0 e80_0 q80_0 laws_markStringS_r0 st k else none
noncomputable def laws_markStringS (a0 : List (ByteArray × Unit)) (k1 : Int) : Option (Int × (List (ByteArray × Unit)) × Unit) :=
  outK (loopV laws_markStringS_r0 (a0, k1, (0 : Int), ())) (fun y1 =>
    some (y1.2.1, y1.1, ())) (fun y2 =>
    none)
noncomputable def x80 (x : (List (ByteArray × Unit)) × Int × Unit) : Option (Int × (List (ByteArray × Unit)) × Unit) := laws_markStringS x.1 x.2.1
noncomputable def sem80 : Sem1 := semOf ps80 rs80 x80
theorem so80 : SemsOk Tryz.prog (semsOf sl80) := sems_cons k82 (sems_nil)
noncomputable def b80_0 : Code := nthLoop code80 0
theorem t80_r0_eq (x : denR (headRT hp80_0)) : codeK (tabOf tr) (semsOf sl80) D80 L80 b80_0 (headSt hp80_0 x) (roundK 0 hp80_0 e80_0 q80_0) = laws_markStringS_r0 x := by kernel_rfl
theorem loop80_0 {R : Type} (r : R) (w0 : World) (mu : Mu) (hs : AnShape ps80 mu) : LoopAt Tryz.prog w0 mu 20 (L80 : Loops R) r 0 b80_0 :=
  loop_auto tr_ok eq_ok mixed_ok so80 (D := D80) hs (by kernel_rfl) (fun _ => (loops_of (l := []) (by kernel_rfl) (List.forall_mem_nil _))) t80_r0_eq (fun _ _ => rfl)
theorem t80_eq (x : denR (headRT (ps80.map some))) : codeK (tabOf tr) (semsOf sl80) D80 L80 code80 (start 20 ps80 x) (finK rs80 ps80) = x80 x := by kernel_rfl
theorem k80 : Known Tryz.prog 80 sem80 :=
  fn_auto tr_ok eq_ok mixed_ok so80 (D := D80) (code := code80) (n := 20) Tryz.func80 (by kernel_rfl) (by kernel_rfl) (by kernel_rfl) (fun w0 mu _ hs => (loops_of (l := [(0, b80_0)]) (by kernel_rfl) (List.forall_mem_cons.2 ⟨loop80_0 _ w0 mu hs, (List.forall_mem_nil _)⟩))) t80_eq

/-! ### f81: laws.markToken -/
noncomputable def code81 : Code := match Tryz.f81.body with | some c => c | none => .skip
def ps81 : List AP := [.lend [.int .i64, .int .i64, .int .i64, .int .i64, .int .i64, .own T_i], .val false [.int .i64]]
def rs81 : List RP := [{ src := .tmp 4, agg := false, ps := [.int .i64] }]
noncomputable def sl81 : SemL := [(79, (.io, .shr, .shr, sem79))]
def D81 : Draws := fun _ => .nil
noncomputable def L81 {R : Type} : Loops R := fun _ _ _ _ => none
noncomputable def laws_markToken (a0c0 : Int) (a0c1 : Int) (a0c2 : Int) (a0c3 : Int) (a0c4 : Int) (a0c5 : List (Int × Unit)) (k1 : Int) : Option (Int × (List (Int × Unit)) × Unit) :=
  Option.bind (laws_markIntS a0c5 k1) fun y1 =>
  some (y1.1, y1.2.1, ())
noncomputable def x81 (x : Int × Int × Int × Int × Int × (List (Int × Unit)) × Int × Unit) : Option (Int × (List (Int × Unit)) × Unit) := laws_markToken x.1 x.2.1 x.2.2.1 x.2.2.2.1 x.2.2.2.2.1 x.2.2.2.2.2.1 x.2.2.2.2.2.2.1
noncomputable def sem81 : Sem1 := semOf ps81 rs81 x81
theorem so81 : SemsOk Tryz.prog (semsOf sl81) := sems_cons k79 (sems_nil)
theorem t81_eq (x : denR (headRT (ps81.map some))) : codeK (tabOf tr) (semsOf sl81) D81 L81 code81 (start 10 ps81 x) (finK rs81 ps81) = x81 x := by kernel_rfl
theorem k81 : Known Tryz.prog 81 sem81 :=
  fn_auto tr_ok eq_ok mixed_ok so81 (D := D81) (code := code81) (n := 10) Tryz.func81 (by kernel_rfl) (by kernel_rfl) (by kernel_rfl) (fun w0 mu _ hs => (loops_of (l := []) (by kernel_rfl) (List.forall_mem_nil _))) t81_eq

/-! ### f30: laws.markMate -/
noncomputable def code30 : Code := match Tryz.f30.body with | some c => c | none => .skip
def ps30 : List AP := [.lend [.int .i64, .int .i64, .own T_i, .own T_iiis, .own T_i, .own T_s, .int .i64, .int .i64, .int .i64, .int .i64, .int .i64, .int .i64, .int .i64, .int .i64, .int .i64, .own T_i], .val false [.int .i64]]
def rs30 : List RP := [{ src := .tmp 4, agg := false, ps := [.int .i64] }]
noncomputable def sl30 : SemL := [(31, (.lend, .shr, .shr, sem31)), (78, (.io, .shr, .shr, sem78)), (79, (.io, .shr, .shr, sem79)), (80, (.io, .shr, .shr, sem80)), (81, (.lend, .shr, .shr, sem81))]
def D30 : Draws := fun _ => .nil
noncomputable def L30 {R : Type} : Loops R := fun _ _ _ _ => none
noncomputable def laws_markMate (a0c0 : Int) (a0c1 : Int) (a0c2 : List (Int × Unit)) (a0c3 : List R_iiis) (a0c4 : List (Int × Unit)) (a0c5 : List (ByteArray × Unit)) (a0c6 : Int) (a0c7 : Int) (a0c8 : Int) (a0c9 : Int) (a0c10 : Int) (a0c11 : Int) (a0c12 : Int) (a0c13 : Int) (a0c14 : Int) (a0c15 : List (Int × Unit)) (k1 : Int) : Option (Int × (List (Int × Unit)) × (List R_iiis) × (List (Int × Unit)) × (List (ByteArray × Unit)) × (List (Int × Unit)) × Unit) :=
  Option.bind (laws_markRing a0c1 a0c2 k1) fun y1 =>
  Option.bind (laws_markItemS a0c3 y1.1) fun y2 =>
  Option.bind (laws_markIntS a0c4 y2.1) fun y3 =>
  Option.bind (laws_markStringS a0c5 y3.1) fun y4 =>
  Option.bind (laws_markToken a0c10 a0c11 a0c12 a0c13 a0c14 a0c15 y4.1) fun y5 =>
  some (y5.1, y1.2.1, y2.2.1, y3.2.1, y4.2.1, y5.2.1, ())
noncomputable def x30 (x : Int × Int × (List (Int × Unit)) × (List R_iiis) × (List (Int × Unit)) × (List (ByteArray × Unit)) × Int × Int × Int × Int × Int × Int × Int × Int × Int × (List (Int × Unit)) × Int × Unit) : Option (Int × (List (Int × Unit)) × (List R_iiis) × (List (Int × Unit)) × (List (ByteArray × Unit)) × (List (Int × Unit)) × Unit) := laws_markMate x.1 x.2.1 x.2.2.1 x.2.2.2.1 x.2.2.2.2.1 x.2.2.2.2.2.1 x.2.2.2.2.2.2.1 x.2.2.2.2.2.2.2.1 x.2.2.2.2.2.2.2.2.1 x.2.2.2.2.2.2.2.2.2.1 x.2.2.2.2.2.2.2.2.2.2.1 x.2.2.2.2.2.2.2.2.2.2.2.1 x.2.2.2.2.2.2.2.2.2.2.2.2.1 x.2.2.2.2.2.2.2.2.2.2.2.2.2.1 x.2.2.2.2.2.2.2.2.2.2.2.2.2.2.1 x.2.2.2.2.2.2.2.2.2.2.2.2.2.2.2.1 x.2.2.2.2.2.2.2.2.2.2.2.2.2.2.2.2.1
noncomputable def sem30 : Sem1 := semOf ps30 rs30 x30
theorem so30 : SemsOk Tryz.prog (semsOf sl30) := sems_cons k31 (sems_cons k78 (sems_cons k79 (sems_cons k80 (sems_cons k81 (sems_nil)))))
theorem t30_eq (x : denR (headRT (ps30.map some))) : codeK (tabOf tr) (semsOf sl30) D30 L30 code30 (start 26 ps30 x) (finK rs30 ps30) = x30 x := by kernel_rfl
theorem k30 : Known Tryz.prog 30 sem30 :=
  fn_auto tr_ok eq_ok mixed_ok so30 (D := D30) (code := code30) (n := 26) Tryz.func30 (by kernel_rfl) (by kernel_rfl) (by kernel_rfl) (fun w0 mu _ hs => (loops_of (l := []) (by kernel_rfl) (List.forall_mem_nil _))) t30_eq

/-! ### f32: laws.markBundleS -/
noncomputable def code32 : Code := match Tryz.f32.body with | some c => c | none => .skip
def ps32 : List AP := [.io T_iiiLiiisE .dp, .val false [.int .i64]]
def rs32 : List RP := [{ src := .tmp 4, agg := false, ps := [.int .i64] }]
noncomputable def sl32 : SemL := [(78, (.io, .shr, .shr, sem78))]
def D32 : Draws := fun _ => .nil
def hp32_0 : List (Option AP) := [some (.io T_iiiLiiisE .dp), some (.val false [.int .i64]), none, none, none, some (.val false [.int .i64]), none, none, none, none, none, none, none, none, none, none, none, none, none, none, none, none, none, none, none, none, none, none, none, none, none, none, none, none, none, none, none, none, none, none, none, none]
def e32_0 : List (Option AP) := [some (.io T_iiiLiiisE .dp), some (.val false [.int .i64]), none, none, none, none, none, none, none, none, none, none, none, none, none, none, none, none, none, none, none, none, none, none, none, none, none, none, none, none, none, none, none, none, none, none, none, none, none, none, none, none]
def q32_0 : List (Option AP) := [none, none, none, none, none, none, none, none, none, none, none, none, none, none, none, none, none, none, none, none, none, none, none, none, none, none, none, none, none, none, none, none, none, none, none, none, none, none, none, none, none, none]
abbrev H32_0 : Type := (List R_iiiLiiisE) × Int × Int × Unit
abbrev E32_0 : Type := (List R_iiiLiiisE) × Int × Unit
abbrev Q32_0 : Type := Unit
noncomputable def laws_markBundleS_c0 (a0 : List R_iiiLiiisE) (k1 : Int) (i5 : Int) : Option (Sum H32_0 (Sum E32_0 Q32_0)) :=
  bif decide (i5 < ((List.length a0 : Nat) : Int)) then
    bif decide ((0 : Int) ≤ i5) then bif Nat.blt (Int.toNat i5) (List.length a0) then Option.bind ((a0)[Int.toNat i5]?) fun r1 =>
        bif decide ((0 : Int) ≤ i5) then bif Nat.blt (Int.toNat i5) (List.length (List.set a0 (Int.toNat i5) (k1, r1.2.1, r1.2.2.1, r1.2.2.2.1, ()))) then Option.bind ((List.set a0 (Int.toNat i5) (k1, r1.2.1, r1.2.2.1, r1.2.2.2.1, ()))[Int.toNat i5]?) fun r2 =>
            bif decide ((0 : Int) ≤ i5) then bif Nat.blt (Int.toNat i5) (List.length (List.set (List.set a0 (Int.toNat i5) (k1, r1.2.1, r1.2.2.1, r1.2.2.2.1, ())) (Int.toNat i5) (r2.1, IntKind.i64.wrap (k1 + (1 : Int)), r2.2.2.1, r2.2.2.2.1, ()))) then Option.bind ((List.set (List.set a0 (Int.toNat i5) (k1, r1.2.1, r1.2.2.1, r1.2.2.2.1, ())) (Int.toNat i5) (r2.1, IntKind.i64.wrap (k1 + (1 : Int)), r2.2.2.1, r2.2.2.2.1, ()))[Int.toNat i5]?) fun r3 =>
                bif decide ((0 : Int) ≤ i5) then bif Nat.blt (Int.toNat i5) (List.length (List.set (List.set (List.set a0 (Int.toNat i5) (k1, r1.2.1, r1.2.2.1, r1.2.2.2.1, ())) (Int.toNat i5) (r2.1, IntKind.i64.wrap (k1 + (1 : Int)), r2.2.2.1, r2.2.2.2.1, ())) (Int.toNat i5) (r3.1, r3.2.1, IntKind.i64.wrap ((IntKind.i64.wrap (k1 + (1 : Int))) + (1 : Int)), r3.2.2.2.1, ()))) then Option.bind ((List.set (List.set (List.set a0 (Int.toNat i5) (k1, r1.2.1, r1.2.2.1, r1.2.2.2.1, ())) (Int.toNat i5) (r2.1, IntKind.i64.wrap (k1 + (1 : Int)), r2.2.2.1, r2.2.2.2.1, ())) (Int.toNat i5) (r3.1, r3.2.1, IntKind.i64.wrap ((IntKind.i64.wrap (k1 + (1 : Int))) + (1 : Int)), r3.2.2.2.1, ()))[Int.toNat i5]?) fun r4 =>
                    Option.bind (laws_markItemS r4.2.2.2.1 (IntKind.i64.wrap ((IntKind.i64.wrap ((IntKind.i64.wrap (k1 + (1 : Int))) + (1 : Int))) + (1 : Int)))) fun y5 =>
                    Option.bind ((List.set (List.set (List.set a0 (Int.toNat i5) (k1, r1.2.1, r1.2.2.1, r1.2.2.2.1, ())) (Int.toNat i5) (r2.1, IntKind.i64.wrap (k1 + (1 : Int)), r2.2.2.1, r2.2.2.2.1, ())) (Int.toNat i5) (r3.1, r3.2.1, IntKind.i64.wrap ((IntKind.i64.wrap (k1 + (1 : Int))) + (1 : Int)), r3.2.2.2.1, ()))[Int.toNat i5]?) fun r6 =>
                    some (.inl (List.set (List.set (List.set (List.set a0 (Int.toNat i5) (k1, r1.2.1, r1.2.2.1, r1.2.2.2.1, ())) (Int.toNat i5) (r2.1, IntKind.i64.wrap (k1 + (1 : Int)), r2.2.2.1, r2.2.2.2.1, ())) (Int.toNat i5) (r3.1, r3.2.1, IntKind.i64.wrap ((IntKind.i64.wrap (k1 + (1 : Int))) + (1 : Int)), r3.2.2.2.1, ())) (Int.toNat i5) (r6.1, r6.2.1, r6.2.2.1, y5.2.1, ()), y5.1, IntKind.i64.wrap (i5 + (1 : Int)), ()))
                  else none
                else none
              else none
            else none
          else none
        else none
      else none
    else none
  else
    some (.inr (.inl (a0, k1, ())))
noncomputable def laws_markBundleS_r0 (x : H32_0) : Option (Sum H32_0 (Sum E32_0 Q32_0)) := laws_markBundleS_c0 x.1 x.2.1 x.2.2.1
noncomputable def L32 {R : Type} : Loops R := fun id _ st k => bif Nat.beq id 0 then loopAt hp32_0 e32_0 q32_0 laws_markBundleS_r0 st k else none
noncomputable def laws_markBundleS (a0 : List R_iiiLiiisE) (k1 : Int) : Option (Int × (List R_iiiLiiisE) × Unit) :=
  outK (loopV laws_markBundleS_r0 (a0, k1, (0 : Int), ())) (fun y1 =>
    some (y1.2.1, y1.1, ())) (fun y2 =>
    none)
noncomputable def x32 (x : (List R_iiiLiiisE) × Int × Unit) : Option (Int × (List R_iiiLiiisE) × Unit) := laws_markBundleS x.1 x.2.1
noncomputable def sem32 : Sem1 := semOf ps32 rs32 x32
theorem so32 : SemsOk Tryz.prog (semsOf sl32) := sems_cons k78 (sems_nil)
noncomputable def b32_0 : Code := nthLoop code32 0
theorem t32_r0_eq (x : denR (headRT hp32_0)) : codeK (tabOf tr) (semsOf sl32) D32 L32 b32_0 (headSt hp32_0 x) (roundK 0 hp32_0 e32_0 q32_0) = laws_markBundleS_r0 x := by kernel_rfl
theorem loop32_0 {R : Type} (r : R) (w0 : World) (mu : Mu) (hs : AnShape ps32 mu) : LoopAt Tryz.prog w0 mu 41 (L32 : Loops R) r 0 b32_0 :=
  loop_auto tr_ok eq_ok mixed_ok so32 (D := D32) hs (by kernel_rfl) (fun _ => (loops_of (l := []) (by kernel_rfl) (List.forall_mem_nil _))) t32_r0_eq (fun _ _ => rfl)
theorem t32_eq (x : denR (headRT (ps32.map some))) : codeK (tabOf tr) (semsOf sl32) D32 L32 code32 (start 41 ps32 x) (finK rs32 ps32) = x32 x := by kernel_rfl
theorem k32 : Known Tryz.prog 32 sem32 :=
  fn_auto tr_ok eq_ok mixed_ok so32 (D := D32) (code := code32) (n := 41) Tryz.func32 (by kernel_rfl) (by kernel_rfl) (by kernel_rfl) (fun w0 mu _ hs => (loops_of (l := [(0, b32_0)]) (by kernel_rfl) (List.forall_mem_cons.2 ⟨loop32_0 _ w0 mu hs, (List.forall_mem_nil _)⟩))) t32_eq

/-! ### f33: laws.markEventS -/
noncomputable def code33 : Code := match Tryz.f33.body with | some c => c | none => .skip
def ps33 : List AP := [.io T_iiLiEiiisLiE .dp, .val false [.int .i64]]
def rs33 : List RP := [{ src := .tmp 4, agg := false, ps := [.int .i64] }]
noncomputable def sl33 : SemL := [(79, (.io, .shr, .shr, sem79)), (82, (.shr, .shr, .shr, sem82))]
def D33 : Draws := fun _ => .nil
def hp33_0 : List (Option AP) := [some (.io T_iiLiEiiisLiE .dp), some (.val false [.int .i64]), none, none, none, some (.val false [.int .i64]), none, none, none, none, none, none, none, none, none, none, none, none, none, none, none, none, none, none, none, none, none, none, none, none, none, none, none, none, none, none, none, none, none, none, none, none, none, none, none, none, none, none, none, none, none, none, none, none, none, none, none, none, none, none, none, none, none, none, none, none, none, none, none, none, none, none, none, none, none, none, none]
def e33_0 : List (Option AP) := [some (.io T_iiLiEiiisLiE .dp), some (.val false [.int .i64]), none, none, none, none, none, none, none, none, none, none, none, none, none, none, none, none, none, none, none, none, none, none, none, none, none, none, none, none, none, none, none, none, none, none, none, none, none, none, none, none, none, none, none, none, none, none, none, none, none, none, none, none, none, none, none, none, none, none, none, none, none, none, none, none, none, none, none, none, none, none, none, none, none, none, none]
def q33_0 : List (Option AP) := [none, none, none, none, none, none, none, none, none, none, none, none, none, none, none, none, none, none, none, none, none, none, none, none, none, none, none, none, none, none, none, none, none, none, none, none, none, none, none, none, none, none, none, none, none, none, none, none, none, none, none, none, none, none, none, none, none, none, none, none, none, none, none, none, none, none, none, none, none, none, none, none, none, none, none, none, none]
abbrev H33_0 : Type := (List R_iiLiEiiisLiE) × Int × Int × Unit
abbrev E33_0 : Type := (List R_iiLiEiiisLiE) × Int × Unit
abbrev Q33_0 : Type := Unit
noncomputable def laws_markEventS_c0 (a0 : List R_iiLiEiiisLiE) (k1 : Int) (i5 : Int) : Option (Sum H33_0 (Sum E33_0 Q33_0)) :=
  bif decide (i5 < ((List.length a0 : Nat) : Int)) then
    bif decide ((0 : Int) ≤ i5) then bif Nat.blt (Int.toNat i5) (List.length a0) then Option.bind ((a0)[Int.toNat i5]?) fun r1 =>
        bif decide ((0 : Int) ≤ i5) then bif Nat.blt (Int.toNat i5) (List.length (List.set a0 (Int.toNat i5) (k1, r1.2.1, r1.2.2.1, r1.2.2.2.1, r1.2.2.2.2.1, r1.2.2.2.2.2.1, r1.2.2.2.2.2.2.1, r1.2.2.2.2.2.2.2.1, ()))) then Option.bind ((List.set a0 (Int.toNat i5) (k1, r1.2.1, r1.2.2.1, r1.2.2.2.1, r1.2.2.2.2.1, r1.2.2.2.2.2.1, r1.2.2.2.2.2.2.1, r1.2.2.2.2.2.2.2.1, ()))[Int.toNat i5]?) fun r2 =>
            bif decide ((0 : Int) ≤ i5) then bif Nat.blt (Int.toNat i5) (List.length (List.set (List.set a0 (Int.toNat i5) (k1, r1.2.1, r1.2.2.1, r1.2.2.2.1, r1.2.2.2.2.1, r1.2.2.2.2.2.1, r1.2.2.2.2.2.2.1, r1.2.2.2.2.2.2.2.1, ())) (Int.toNat i5) (r2.1, IntKind.i64.wrap (k1 + (1 : Int)), r2.2.2.1, r2.2.2.2.1, r2.2.2.2.2.1, r2.2.2.2.2.2.1, r2.2.2.2.2.2.2.1, r2.2.2.2.2.2.2.2.1, ()))) then Option.bind ((List.set (List.set a0 (Int.toNat i5) (k1, r1.2.1, r1.2.2.1, r1.2.2.2.1, r1.2.2.2.2.1, r1.2.2.2.2.2.1, r1.2.2.2.2.2.2.1, r1.2.2.2.2.2.2.2.1, ())) (Int.toNat i5) (r2.1, IntKind.i64.wrap (k1 + (1 : Int)), r2.2.2.1, r2.2.2.2.1, r2.2.2.2.2.1, r2.2.2.2.2.2.1, r2.2.2.2.2.2.2.1, r2.2.2.2.2.2.2.2.1, ()))[Int.toNat i5]?) fun r3 =>
                Option.bind (laws_markIntS r3.2.2.1 (IntKind.i64.wrap ((IntKind.i64.wrap (k1 + (1 : Int))) + (1 : Int)))) fun y4 =>
                Option.bind ((List.set (List.set a0 (Int.toNat i5) (k1, r1.2.1, r1.2.2.1, r1.2.2.2.1, r1.2.2.2.2.1, r1.2.2.2.2.2.1, r1.2.2.2.2.2.2.1, r1.2.2.2.2.2.2.2.1, ())) (Int.toNat i5) (r2.1, IntKind.i64.wrap (k1 + (1 : Int)), r2.2.2.1, r2.2.2.2.1, r2.2.2.2.2.1, r2.2.2.2.2.2.1, r2.2.2.2.2.2.2.1, r2.2.2.2.2.2.2.2.1, ()))[Int.toNat i5]?) fun r5 =>
                bif decide ((0 : Int) ≤ i5) then bif Nat.blt (Int.toNat i5) (List.length (List.set (List.set (List.set a0 (Int.toNat i5) (k1, r1.2.1, r1.2.2.1, r1.2.2.2.1, r1.2.2.2.2.1, r1.2.2.2.2.2.1, r1.2.2.2.2.2.2.1, r1.2.2.2.2.2.2.2.1, ())) (Int.toNat i5) (r2.1, IntKind.i64.wrap (k1 + (1 : Int)), r2.2.2.1, r2.2.2.2.1, r2.2.2.2.2.1, r2.2.2.2.2.2.1, r2.2.2.2.2.2.2.1, r2.2.2.2.2.2.2.2.1, ())) (Int.toNat i5) (r5.1, r5.2.1, y4.2.1, r5.2.2.2.1, r5.2.2.2.2.1, r5.2.2.2.2.2.1, r5.2.2.2.2.2.2.1, r5.2.2.2.2.2.2.2.1, ()))) then Option.bind ((List.set (List.set (List.set a0 (Int.toNat i5) (k1, r1.2.1, r1.2.2.1, r1.2.2.2.1, r1.2.2.2.2.1, r1.2.2.2.2.2.1, r1.2.2.2.2.2.2.1, r1.2.2.2.2.2.2.2.1, ())) (Int.toNat i5) (r2.1, IntKind.i64.wrap (k1 + (1 : Int)), r2.2.2.1, r2.2.2.2.1, r2.2.2.2.2.1, r2.2.2.2.2.2.1, r2.2.2.2.2.2.2.1, r2.2.2.2.2.2.2.2.1, ())) (Int.toNat i5) (r5.1, r5.2.1, y4.2.1, r5.2.2.2.1, r5.2.2.2.2.1, r5.2.2.2.2.2.1, r5.2.2.2.2.2.2.1, r5.2.2.2.2.2.2.2.1, ()))[Int.toNat i5]?) fun r6 =>
                    bif decide ((0 : Int) ≤ i5) then bif Nat.blt (Int.toNat i5) (List.length (List.set (List.set (List.set (List.set a0 (Int.toNat i5) (k1, r1.2.1, r1.2.2.1, r1.2.2.2.1, r1.2.2.2.2.1, r1.2.2.2.2.2.1, r1.2.2.2.2.2.2.1, r1.2.2.2.2.2.2.2.1, ())) (Int.toNat i5) (r2.1, IntKind.i64.wrap (k1 + (1 : Int)), r2.2.2.1, r2.2.2.2.1, r2.2.2.2.2.1, r2.2.2.2.2.2.1, r2.2.2.2.2.2.2.1, r2.2.2.2.2.2.2.2.1, ())) (Int.toNat i5) (r5.1, r5.2.1, y4.2.1, r5.2.2.2.1, r5.2.2.2.2.1, r5.2.2.2.2.2.1, r5.2.2.2.2.2.2.1, r5.2.2.2.2.2.2.2.1, ())) (Int.toNat i5) (r6.1, r6.2.1, r6.2.2.1, y4.1, r6.2.2.2.2.1, r6.2.2.2.2.2.1, r6.2.2.2.2.2.2.1, r6.2.2.2.2.2.2.2.1, ()))) then Option.bind ((List.set (List.set (List.set (List.set a0 (Int.toNat i5) (k1, r1.2.1, r1.2.2.1, r1.2.2.2.1, r1.2.2.2.2.1, r1.2.2.2.2.2.1, r1.2.2.2.2.2.2.1, r1.2.2.2.2.2.2.2.1, ())) (Int.toNat i5) (r2.1, IntKind.i64.wrap (k1 + (1 : Int)), r2.2.2.1, r2.2.2.2.1, r2.2.2.2.2.1, r2.2.2.2.2.2.1, r2.2.2.2.2.2.2.1, r2.2.2.2.2.2.2.2.1, ())) (Int.toNat i5) (r5.1, r5.2.1, y4.2.1, r5.2.2.2.1, r5.2.2.2.2.1, r5.2.2.2.2.2.1, r5.2.2.2.2.2.2.1, r5.2.2.2.2.2.2.2.1, ())) (Int.toNat i5) (r6.1, r6.2.1, r6.2.2.1, y4.1, r6.2.2.2.2.1, r6.2.2.2.2.2.1, r6.2.2.2.2.2.2.1, r6.2.2.2.2.2.2.2.1, ()))[Int.toNat i5]?) fun r7 =>
                        (fun l8 : List (Int × Int × (List (Int × Unit)) × Int × Int × Int × ByteArray × (List (Int × Unit)) × Unit) =>
                        bif decide ((0 : Int) ≤ i5) then bif Nat.blt (Int.toNat i5) (List.length l8) then Option.bind ((l8)[Int.toNat i5]?) fun r9 =>
                            Option.bind (laws_markText (IntKind.i64.wrap ((IntKind.i64.wrap ((IntKind.i64.wrap (y4.1 + (1 : Int))) + (1 : Int))) + (1 : Int)))) fun y10 =>
                            bif decide ((0 : Int) ≤ i5) then bif Nat.blt (Int.toNat i5) (List.length (List.set l8 (Int.toNat i5) (r9.1, r9.2.1, r9.2.2.1, r9.2.2.2.1, r9.2.2.2.2.1, IntKind.i64.wrap ((IntKind.i64.wrap (y4.1 + (1 : Int))) + (1 : Int)), r9.2.2.2.2.2.2.1, r9.2.2.2.2.2.2.2.1, ()))) then Option.bind ((List.set l8 (Int.toNat i5) (r9.1, r9.2.1, r9.2.2.1, r9.2.2.2.1, r9.2.2.2.2.1, IntKind.i64.wrap ((IntKind.i64.wrap (y4.1 + (1 : Int))) + (1 : Int)), r9.2.2.2.2.2.2.1, r9.2.2.2.2.2.2.2.1, ()))[Int.toNat i5]?) fun r11 =>
                                bif decide ((0 : Int) ≤ i5) then bif Nat.blt (Int.toNat i5) (List.length (List.set (List.set l8 (Int.toNat i5) (r9.1, r9.2.1, r9.2.2.1, r9.2.2.2.1, r9.2.2.2.2.1, IntKind.i64.wrap ((IntKind.i64.wrap (y4.1 + (1 : Int))) + (1 : Int)), r9.2.2.2.2.2.2.1, r9.2.2.2.2.2.2.2.1, ())) (Int.toNat i5) (r11.1, r11.2.1, r11.2.2.1, r11.2.2.2.1, r11.2.2.2.2.1, r11.2.2.2.2.2.1, y10.1, r11.2.2.2.2.2.2.2.1, ()))) then Option.bind ((List.set (List.set l8 (Int.toNat i5) (r9.1, r9.2.1, r9.2.2.1, r9.2.2.2.1, r9.2.2.2.2.1, IntKind.i64.wrap ((IntKind.i64.wrap (y4.1 + (1 : Int))) + (1 : Int)), r9.2.2.2.2.2.2.1, r9.2.2.2.2.2.2.2.1, ())) (Int.toNat i5) (r11.1, r11.2.1, r11.2.2.1, r11.2.2.2.1, r11.2.2.2.2.1, r11.2.2.2.2.2.1, y10.1, r11.2.2.2.2.2.2.2.1, ()))[Int.toNat i5]?) fun r12 =>
                                    Option.bind (laws_markIntS r12.2.2.2.2.2.2.2.1 (IntKind.i64.wrap ((IntKind.i64.wrap ((IntKind.i64.wrap ((IntKind.i64.wrap (y4.1 + (1 : Int))) + (1 : Int))) + (1 : Int))) + (1 : Int)))) fun y13 =>
                                    Option.bind ((List.set (List.set l8 (Int.toNat i5) (r9.1, r9.2.1, r9.2.2.1, r9.2.2.2.1, r9.2.2.2.2.1, IntKind.i64.wrap ((IntKind.i64.wrap (y4.1 + (1 : Int))) + (1 : Int)), r9.2.2.2.2.2.2.1, r9.2.2.2.2.2.2.2.1, ())) (Int.toNat i5) (r11.1, r11.2.1, r11.2.2.1, r11.2.2.2.1, r11.2.2.2.2.1, r11.2.2.2.2.2.1, y10.1, r11.2.2.2.2.2.2.2.1, ()))[Int.toNat i5]?) fun r14 =>
                                    some (.inl (List.set (List.set (List.set l8 (Int.toNat i5) (r9.1, r9.2.1, r9.2.2.1, r9.2.2.2.1, r9.2.2.2.2.1, IntKind.i64.wrap ((IntKind.i64.wrap (y4.1 + (1 : Int))) + (1 : Int)), r9.2.2.2.2.2.2.1, r9.2.2.2.2.2.2.2.1, ())) (Int.toNat i5) (r11.1, r11.2.1, r11.2.2.1, r11.2.2.2.1, r11.2.2.2.2.1, r11.2.2.2.2.2.1, y10.1, r11.2.2.2.2.2.2.2.1, ())) (Int.toNat i5) (r14.1, r14.2.1, r14.2.2.1, r14.2.2.2.1, r14.2.2.2.2.1, r14.2.2.2.2.2.1, r14.2.2.2.2.2.2.1, y13.2.1, ()), y13.1, IntKind.i64.wrap (i5 + (1 : Int)), ()))
                                  else none
                                else none
                              else none
                            else none
                          else none
                        else none) (List.set (List.set (List.set (List.set (List.set a0 (Int.toNat i5) (k1, r1.2.1, r1.2.2.1, r1.2.2.2.1, r1.2.2.2.2.1, r1.2.2.2.2.2.1, r1.2.2.2.2.2.2.1, r1.2.2.2.2.2.2.2.1, ())) (Int.toNat i5) (r2.1, IntKind.i64.wrap (k1 + (1 : Int)), r2.2.2.1, r2.2.2.2.1, r2.2.2.2.2.1, r2.2.2.2.2.2.1, r2.2.2.2.2.2.2.1, r2.2.2.2.2.2.2.2.1, ())) (Int.toNat i5) (r5.1, r5.2.1, y4.2.1, r5.2.2.2.1, r5.2.2.2.2.1, r5.2.2.2.2.2.1, r5.2.2.2.2.2.2.1, r5.2.2.2.2.2.2.2.1, ())) (Int.toNat i5) (r6.1, r6.2.1, r6.2.2.1, y4.1, r6.2.2.2.2.1, r6.2.2.2.2.2.1, r6.2.2.2.2.2.2.1, r6.2.2.2.2.2.2.2.1, ())) (Int.toNat i5) (r7.1, r7.2.1, r7.2.2.1, r7.2.2.2.1, IntKind.i64.wrap (y4.1 + (1 : Int)), r7.2.2.2.2.2.1, r7.2.2.2.2.2.2.1, r7.2.2.2.2.2.2.2.1, ()))
                      else none
                    else none
                  else none
                else none
              else none
            else none
          else none
        else none
      else none
    else none
  else
    some (.inr (.inl (a0, k1, ())))
noncomputable def laws_markEventS_r0 (x : H33_0) : Option (Sum H33_0 (Sum E33_0 Q33_0)) := laws_markEventS_c0 x.1 x.2.1 x.2.2.1
noncomputable def L33 {R : Type} : Loops R := fun id _ st k => bif Nat.beq id 0 then loopAt hp33_0 e33_0 q33_0 laws_markEventS_r0 st k else none
noncomputable def laws_markEventS (a0 : List R_iiLiEiiisLiE) (k1 : Int) : Option (Int × (List R_iiLiEiiisLiE) × Unit) :=
  outK (loopV laws_markEventS_r0 (a0, k1, (0 : Int), ())) (fun y1 =>
    some (y1.2.1, y1.1, ())) (fun y2 =>
    none)
noncomputable def x33 (x : (List R_iiLiEiiisLiE) × Int × Unit) : Option (Int × (List R_iiLiEiiisLiE) × Unit) := laws_markEventS x.1 x.2.1
noncomputable def sem33 : Sem1 := semOf ps33 rs33 x33
theorem so33 : SemsOk Tryz.prog (semsOf sl33) := sems_cons k79 (sems_cons k82 (sems_nil))
noncomputable def b33_0 : Code := nthLoop code33 0
theorem t33_r0_eq (x : denR (headRT hp33_0)) : codeK (tabOf tr) (semsOf sl33) D33 L33 b33_0 (headSt hp33_0 x) (roundK 0 hp33_0 e33_0 q33_0) = laws_markEventS_r0 x := by kernel_rfl
theorem loop33_0 {R : Type} (r : R) (w0 : World) (mu : Mu) (hs : AnShape ps33 mu) : LoopAt Tryz.prog w0 mu 76 (L33 : Loops R) r 0 b33_0 :=
  loop_auto tr_ok eq_ok mixed_ok so33 (D := D33) hs (by kernel_rfl) (fun _ => (loops_of (l := []) (by kernel_rfl) (List.forall_mem_nil _))) t33_r0_eq (fun _ _ => rfl)
theorem t33_eq (x : denR (headRT (ps33.map some))) : codeK (tabOf tr) (semsOf sl33) D33 L33 code33 (start 76 ps33 x) (finK rs33 ps33) = x33 x := by kernel_rfl
theorem k33 : Known Tryz.prog 33 sem33 :=
  fn_auto tr_ok eq_ok mixed_ok so33 (D := D33) (code := code33) (n := 76) Tryz.func33 (by kernel_rfl) (by kernel_rfl) (by kernel_rfl) (fun w0 mu _ hs => (loops_of (l := [(0, b33_0)]) (by kernel_rfl) (List.forall_mem_cons.2 ⟨loop33_0 _ w0 mu hs, (List.forall_mem_nil _)⟩))) t33_eq

/-! ### f10: laws.markDaemon -/
noncomputable def code10 : Code := match Tryz.f10.body with | some c => c | none => .skip
def ps10 : List AP := [.lend [.int .i64, .bool, .int .i64, .int .i64, .own T_i, .own T_iiis, .own T_i, .own T_s, .int .i64, .int .i64, .int .i64, .int .i64, .int .i64, .int .i64, .int .i64, .int .i64, .int .i64, .own T_i, .int .i64, .int .i64, .int .i64, .own T_i, .own T_iiiLiiisE .dp, .own T_iiLiEiiisLiE .dp], .val false [.int .i64]]
def rs10 : List RP := [{ src := .tmp 4, agg := false, ps := [.int .i64] }]
noncomputable def sl10 : SemL := [(30, (.lend, .shr, .shr, sem30)), (31, (.lend, .shr, .shr, sem31)), (32, (.io, .shr, .shr, sem32)), (33, (.io, .shr, .shr, sem33))]
def D10 : Draws := fun _ => .nil
noncomputable def L10 {R : Type} : Loops R := fun _ _ _ _ => none
noncomputable def laws_markDaemon (a0c0 : Int) (a0c1 : Bool) (a0c2 : Int) (a0c3 : Int) (a0c4 : List (Int × Unit)) (a0c5 : List R_iiis) (a0c6 : List (Int × Unit)) (a0c7 : List (ByteArray × Unit)) (a0c8 : Int) (a0c9 : Int) (a0c10 : Int) (a0c11 : Int) (a0c12 : Int) (a0c13 : Int) (a0c14 : Int) (a0c15 : Int) (a0c16 : Int) (a0c17 : List (Int × Unit)) (a0c18 : Int) (a0c19 : Int) (a0c20 : Int) (a0c21 : List (Int × Unit)) (a0c22 : List R_iiiLiiisE) (a0c23 : List R_iiLiEiiisLiE) (k1 : Int) : Option (Int × (List (Int × Unit)) × (List R_iiis) × (List (Int × Unit)) × (List (ByteArray × Unit)) × (List (Int × Unit)) × (List (Int × Unit)) × (List R_iiiLiiisE) × (List R_iiLiEiiisLiE) × Unit) :=
  Option.bind (laws_markMate a0c2 a0c3 a0c4 a0c5 a0c6 a0c7 a0c8 a0c9 a0c10 a0c11 a0c12 a0c13 a0c14 a0c15 a0c16 a0c17 k1) fun y1 =>
  Option.bind (laws_markRing a0c20 a0c21 y1.1) fun y2 =>
  Option.bind (laws_markBundleS a0c22 y2.1) fun y3 =>
  Option.bind (laws_markEventS a0c23 y3.1) fun y4 =>
  some (y4.1, y1.2.1, y1.2.2.1, y1.2.2.2.1, y1.2.2.2.2.1, y1.2.2.2.2.2.1, y2.2.1, y3.2.1, y4.2.1, ())
noncomputable def x10 (x : Int × Bool × Int × Int × (List (Int × Unit)) × (List R_iiis) × (List (Int × Unit)) × (List (ByteArray × Unit)) × Int × Int × Int × Int × Int × Int × Int × Int × Int × (List (Int × Unit)) × Int × Int × Int × (List (Int × Unit)) × (List R_iiiLiiisE) × (List R_iiLiEiiisLiE) × Int × Unit) : Option (Int × (List (Int × Unit)) × (List R_iiis) × (List (Int × Unit)) × (List (ByteArray × Unit)) × (List (Int × Unit)) × (List (Int × Unit)) × (List R_iiiLiiisE) × (List R_iiLiEiiisLiE) × Unit) := laws_markDaemon x.1 x.2.1 x.2.2.1 x.2.2.2.1 x.2.2.2.2.1 x.2.2.2.2.2.1 x.2.2.2.2.2.2.1 x.2.2.2.2.2.2.2.1 x.2.2.2.2.2.2.2.2.1 x.2.2.2.2.2.2.2.2.2.1 x.2.2.2.2.2.2.2.2.2.2.1 x.2.2.2.2.2.2.2.2.2.2.2.1 x.2.2.2.2.2.2.2.2.2.2.2.2.1 x.2.2.2.2.2.2.2.2.2.2.2.2.2.1 x.2.2.2.2.2.2.2.2.2.2.2.2.2.2.1 x.2.2.2.2.2.2.2.2.2.2.2.2.2.2.2.1 x.2.2.2.2.2.2.2.2.2.2.2.2.2.2.2.2.1 x.2.2.2.2.2.2.2.2.2.2.2.2.2.2.2.2.2.1 x.2.2.2.2.2.2.2.2.2.2.2.2.2.2.2.2.2.2.1 x.2.2.2.2.2.2.2.2.2.2.2.2.2.2.2.2.2.2.2.1 x.2.2.2.2.2.2.2.2.2.2.2.2.2.2.2.2.2.2.2.2.1 x.2.2.2.2.2.2.2.2.2.2.2.2.2.2.2.2.2.2.2.2.2.1 x.2.2.2.2.2.2.2.2.2.2.2.2.2.2.2.2.2.2.2.2.2.2.1 x.2.2.2.2.2.2.2.2.2.2.2.2.2.2.2.2.2.2.2.2.2.2.2.1 x.2.2.2.2.2.2.2.2.2.2.2.2.2.2.2.2.2.2.2.2.2.2.2.2.1
noncomputable def sem10 : Sem1 := semOf ps10 rs10 x10
theorem so10 : SemsOk Tryz.prog (semsOf sl10) := sems_cons k30 (sems_cons k31 (sems_cons k32 (sems_cons k33 (sems_nil))))
theorem t10_eq (x : denR (headRT (ps10.map some))) : codeK (tabOf tr) (semsOf sl10) D10 L10 code10 (start 22 ps10 x) (finK rs10 ps10) = x10 x := by kernel_rfl
theorem k10 : Known Tryz.prog 10 sem10 :=
  fn_auto tr_ok eq_ok mixed_ok so10 (D := D10) (code := code10) (n := 22) Tryz.func10 (by kernel_rfl) (by kernel_rfl) (by kernel_rfl) (fun w0 mu _ hs => (loops_of (l := []) (by kernel_rfl) (List.forall_mem_nil _))) t10_eq

/-! ### f84: laws.heldIntS -/
noncomputable def code84 : Code := match Tryz.f84.body with | some c => c | none => .skip
def ps84 : List AP := [.val false [.shr T_i], .val false [.int .i64]]
def rs84 : List RP := [{ src := .tmp 4, agg := false, ps := [.int .i64] }]
noncomputable def sl84 : SemL := []
def D84 : Draws := fun _ => .nil
def hp84_0 : List (Option AP) := [some (.val false [.shr T_i]), some (.val false [.int .i64]), none, none, none, some (.val false [.int .i64]), none, none, none, none, none, none, none, none, none, none, none, none, none, none, none, none]
def e84_0 : List (Option AP) := [none, some (.val false [.int .i64]), none, none, none, none, none, none, none, none, none, none, none, none, none, none, none, none, none, none, none, none]
def q84_0 : List (Option AP) := [none, none, none, none, some (.val false [.int .i64]), none, none, none, none, none, none, none, none, none, none, none, none, none, none, none, none, none]
abbrev H84_0 : Type := (List (Int × Unit)) × Int × Int × Unit
abbrev E84_0 : Type := Int × Unit
abbrev Q84_0 : Type := Int × Unit
noncomputable def laws_heldIntS_c0 (a0 : List (Int × Unit)) (k1 : Int) (i5 : Int) : Option (Sum H84_0 (Sum E84_0 Q84_0)) :=
  bif decide (i5 < ((List.length a0 : Nat) : Int)) then
    bif decide ((0 : Int) ≤ i5) then Option.bind ((a0)[Int.toNat i5]?) fun r1 =>
      bif !decide (r1.1 = k1) then
        some (.inr (.inr ((-1 : Int), ())))
      else
        some (.inl (a0, IntKind.i64.wrap (k1 + (1 : Int)), IntKind.i64.wrap (i5 + (1 : Int)), ()))
    else none
  else
    some (.inr (.inl (k1, ())))
noncomputable def laws_heldIntS_r0 (x : H84_0) : Option (Sum H84_0 (Sum E84_0 Q84_0)) := laws_heldIntS_c0 x.1 x.2.1 x.2.2.1
noncomputable def L84 {R : Type} : Loops R := fun id _ st k => bif Nat.beq id 0 then loopAt hp84_0 e84_0 q84_0 laws_heldIntS_r0 st k else none
noncomputable def laws_heldIntS (a0 : List (Int × Unit)) (k1 : Int) : Option (Int × Unit) :=
  outK (loopV laws_heldIntS_r0 (a0, k1, (0 : Int), ())) (fun y1 =>
    some (y1.1, ())) (fun y2 =>
    some (y2.1, ()))
noncomputable def x84 (x : (List (Int × Unit)) × Int × Unit) : Option (Int × Unit) := laws_heldIntS x.1 x.2.1
noncomputable def sem84 : Sem1 := semOf ps84 rs84 x84
theorem so84 : SemsOk Tryz.prog (semsOf sl84) := sems_nil
noncomputable def b84_0 : Code := nthLoop code84 0
theorem t84_r0_eq (x : denR (headRT hp84_0)) : codeK (tabOf tr) (semsOf sl84) D84 L84 b84_0 (headSt hp84_0 x) (roundK 0 hp84_0 e84_0 q84_0) = laws_heldIntS_r0 x := by kernel_rfl
theorem loop84_0 {R : Type} (r : R) (w0 : World) (mu : Mu) (hs : AnShape ps84 mu) : LoopAt Tryz.prog w0 mu 21 (L84 : Loops R) r 0 b84_0 :=
  loop_auto tr_ok eq_ok mixed_ok so84 (D := D84) hs (by kernel_rfl) (fun _ => (loops_of (l := []) (by kernel_rfl) (List.forall_mem_nil _))) t84_r0_eq (fun _ _ => rfl)
theorem t84_eq (x : denR (headRT (ps84.map some))) : codeK (tabOf tr) (semsOf sl84) D84 L84 code84 (start 21 ps84 x) (finK rs84 ps84) = x84 x := by kernel_rfl
theorem k84 : Known Tryz.prog 84 sem84 :=
  fn_auto tr_ok eq_ok mixed_ok so84 (D := D84) (code := code84) (n := 21) Tryz.func84 (by kernel_rfl) (by kernel_rfl) (by kernel_rfl) (fun w0 mu _ hs => (loops_of (l := [(0, b84_0)]) (by kernel_rfl) (List.forall_mem_cons.2 ⟨loop84_0 _ w0 mu hs, (List.forall_mem_nil _)⟩))) t84_eq

/-! ### f35: laws.heldRing -/
noncomputable def code35 : Code := match Tryz.f35.body with | some c => c | none => .skip
def ps35 : List AP := [.val true [.int .i64, .shr T_i], .val false [.int .i64]]
def rs35 : List RP := [{ src := .tmp 4, agg := false, ps := [.int .i64] }]
noncomputable def sl35 : SemL := [(84, (.shr, .shr, .shr, sem84))]
def D35 : Draws := fun _ => .nil
noncomputable def L35 {R : Type} : Loops R := fun _ _ _ _ => none
noncomputable def laws_heldRing (a0c0 : Int) (a0c1 : List (Int × Unit)) (k1 : Int) : Option (Int × Unit) :=
  Option.bind (laws_heldIntS a0c1 k1) fun y1 =>
  bif decide (y1.1 < (0 : Int)) then
    some ((-1 : Int), ())
  else
    some (y1.1, ())
noncomputable def x35 (x : Int × (List (Int × Unit)) × Int × Unit) : Option (Int × Unit) := laws_heldRing x.1 x.2.1 x.2.2.1
noncomputable def sem35 : Sem1 := semOf ps35 rs35 x35
theorem so35 : SemsOk Tryz.prog (semsOf sl35) := sems_cons k84 (sems_nil)
theorem t35_eq (x : denR (headRT (ps35.map some))) : codeK (tabOf tr) (semsOf sl35) D35 L35 code35 (start 12 ps35 x) (finK rs35 ps35) = x35 x := by kernel_rfl
theorem k35 : Known Tryz.prog 35 sem35 :=
  fn_auto tr_ok eq_ok mixed_ok so35 (D := D35) (code := code35) (n := 12) Tryz.func35 (by kernel_rfl) (by kernel_rfl) (by kernel_rfl) (fun w0 mu _ hs => (loops_of (l := []) (by kernel_rfl) (List.forall_mem_nil _))) t35_eq

/-! ### f83: laws.heldItemS -/
noncomputable def code83 : Code := match Tryz.f83.body with | some c => c | none => .skip
def ps83 : List AP := [.val false [.shr T_iiis], .val false [.int .i64]]
def rs83 : List RP := [{ src := .tmp 4, agg := false, ps := [.int .i64] }]
noncomputable def sl83 : SemL := [(82, (.shr, .shr, .shr, sem82))]
def D83 : Draws := fun id => bif Nat.beq id 13 then .op 0 .any (.op 1 .any (.op 2 .any (.op 3 .any (.op 4 .take (.op 5 .any (.op 6 .one (.op 7 .any (.nil)))))))) else .nil
def hp83_0 : List (Option AP) := [some (.val false [.shr T_iiis]), some (.val false [.int .i64]), none, none, none, some (.val false [.int .i64]), none, none, none, none, none, none, none, none, none, none, none, none, none, none, none, none, none, none, none, none, none, none, none, none, none, none, none, none, none, none, none, none, none, none, none, none, none, none, none, none, none, none, none, none, none]
def e83_0 : List (Option AP) := [none, some (.val false [.int .i64]), none, none, none, none, none, none, none, none, none, none, none, none, none, none, none, none, none, none, none, none, none, none, none, none, none, none, none, none, none, none, none, none, none, none, none, none, none, none, none, none, none, none, none, none, none, none, none, none, none]
def q83_0 : List (Option AP) := [none, none, none, none, some (.val false [.int .i64]), none, none, none, none, none, none, none, none, none, none, none, none, none, none, none, none, none, none, none, none, none, none, none, none, none, none, none, none, none, none, none, none, none, none, none, none, none, none, none, none, none, none, none, none, none, none]
abbrev H83_0 : Type := (List R_iiis) × Int × Int × Unit
abbrev E83_0 : Type := Int × Unit
abbrev Q83_0 : Type := Int × Unit
noncomputable def laws_heldItemS_c0 (a0 : List R_iiis) (k1 : Int) (i5 : Int) : Option (Sum H83_0 (Sum E83_0 Q83_0)) :=
  bif decide (i5 < ((List.length a0 : Nat) : Int)) then
    bif decide ((0 : Int) ≤ i5) then Option.bind ((a0)[Int.toNat i5]?) fun r1 =>
      bif !decide (r1.1 = k1) then
        some (.inr (.inr ((-1 : Int), ())))
      else bif decide ((0 : Int) ≤ i5) then Option.bind ((a0)[Int.toNat i5]?) fun r2 =>
        bif !decide (r2.2.1 = IntKind.i64.wrap (k1 + (1 : Int))) then
          some (.inr (.inr ((-1 : Int), ())))
        else bif decide ((0 : Int) ≤ i5) then Option.bind ((a0)[Int.toNat i5]?) fun r3 =>
          bif !decide (r3.2.2.1 = IntKind.i64.wrap ((IntKind.i64.wrap (k1 + (1 : Int))) + (1 : Int))) then
            some (.inr (.inr ((-1 : Int), ())))
          else bif decide ((0 : Int) ≤ i5) then Option.bind ((a0)[Int.toNat i5]?) fun r4 =>
            Option.bind (laws_markText (IntKind.i64.wrap ((IntKind.i64.wrap ((IntKind.i64.wrap (k1 + (1 : Int))) + (1 : Int))) + (1 : Int)))) fun y5 =>
            bif !strEq r4.2.2.2.1 y5.1 then
              some (.inr (.inr ((-1 : Int), ())))
            else
              some (.inl (a0, IntKind.i64.wrap ((IntKind.i64.wrap ((IntKind.i64.wrap ((IntKind.i64.wrap (k1 + (1 : Int))) + (1 : Int))) + (1 : Int))) + (1 : Int)), IntKind.i64.wrap (i5 + (1 : Int)), ()))
          else none
        else none
      else none
    else none
  else
    some (.inr (.inl (k1, ())))
noncomputable def laws_heldItemS_r0 (x : H83_0) : Option (Sum H83_0 (Sum E83_0 Q83_0)) := laws_heldItemS_c0 x.1 x.2.1 x.2.2.1
noncomputable def L83 {R : Type} : Loops R := fun id _ st k => bif Nat.beq id 0 then loopAt hp83_0 e83_0 q83_0 laws_heldItemS_r0 st k else none
noncomputable def laws_heldItemS (a0 : List R_iiis) (k1 : Int) : Option (Int × Unit) :=
  outK (loopV laws_heldItemS_r0 (a0, k1, (0 : Int), ())) (fun y1 =>
    some (y1.1, ())) (fun y2 =>
    some (y2.1, ()))
noncomputable def x83 (x : (List R_iiis) × Int × Unit) : Option (Int × Unit) := laws_heldItemS x.1 x.2.1
noncomputable def sem83 : Sem1 := semOf ps83 rs83 x83
theorem so83 : SemsOk Tryz.prog (semsOf sl83) := sems_cons k82 (sems_nil)
noncomputable def b83_0 : Code := nthLoop code83 0
theorem t83_r0_eq (x : denR (headRT hp83_0)) : codeK (tabOf tr) (semsOf sl83) D83 L83 b83_0 (headSt hp83_0 x) (roundK 0 hp83_0 e83_0 q83_0) = laws_heldItemS_r0 x := by kernel_rfl
theorem loop83_0 {R : Type} (r : R) (w0 : World) (mu : Mu) (hs : AnShape ps83 mu) : LoopAt Tryz.prog w0 mu 50 (L83 : Loops R) r 0 b83_0 :=
  loop_auto tr_ok eq_ok mixed_ok so83 (D := D83) hs (by kernel_rfl) (fun _ => (loops_of (l := []) (by kernel_rfl) (List.forall_mem_nil _))) t83_r0_eq (fun _ _ => rfl)
theorem t83_eq (x : denR (headRT (ps83.map some))) : codeK (tabOf tr) (semsOf sl83) D83 L83 code83 (start 50 ps83 x) (finK rs83 ps83) = x83 x := by kernel_rfl
theorem k83 : Known Tryz.prog 83 sem83 :=
  fn_auto tr_ok eq_ok mixed_ok so83 (D := D83) (code := code83) (n := 50) Tryz.func83 (by kernel_rfl) (by kernel_rfl) (by kernel_rfl) (fun w0 mu _ hs => (loops_of (l := [(0, b83_0)]) (by kernel_rfl) (List.forall_mem_cons.2 ⟨loop83_0 _ w0 mu hs, (List.forall_mem_nil _)⟩))) t83_eq

/-! ### f85: laws.heldStringS -/
noncomputable def code85 : Code := match Tryz.f85.body with | some c => c | none => .skip
def ps85 : List AP := [.val false [.shr T_s], .val false [.int .i64]]
def rs85 : List RP := [{ src := .tmp 4, agg := false, ps := [.int .i64] }]
noncomputable def sl85 : SemL := [(82, (.shr, .shr, .shr, sem82))]
def D85 : Draws := fun id => bif Nat.beq id 4 then .op 0 .any (.op 1 .any (.op 2 .any (.op 3 .take (.op 4 .any (.op 5 .one (.op 6 .any (.nil))))))) else .nil
def hp85_0 : List (Option AP) := [some (.val false [.shr T_s]), some (.val false [.int .i64]), none, none, none, some (.val false [.int .i64]), none, none, none, none, none, none, none, none, none, none, none, none, none, none, none, none, none]
def e85_0 : List (Option AP) := [none, some (.val false [.int .i64]), none, none, none, none, none, none, none, none, none, none, none, none, none, none, none, none, none, none, none, none, none]
def q85_0 : List (Option AP) := [none, none, none, none, some (.val false [.int .i64]), none, none, none, none, none, none, none, none, none, none, none, none, none, none, none, none, none, none]
abbrev H85_0 : Type := (List (ByteArray × Unit)) × Int × Int × Unit
abbrev E85_0 : Type := Int × Unit
abbrev Q85_0 : Type := Int × Unit
noncomputable def laws_heldStringS_c0 (a0 : List (ByteArray × Unit)) (k1 : Int) (i5 : Int) : Option (Sum H85_0 (Sum E85_0 Q85_0)) :=
  bif decide (i5 < ((List.length a0 : Nat) : Int)) then
    bif decide ((0 : Int) ≤ i5) then Option.bind ((a0)[Int.toNat i5]?) fun r1 =>
      Option.bind (laws_markText k1) fun y2 =>
      bif !strEq r1.1 y2.1 then
        some (.inr (.inr ((-1 : Int), ())))
      else
        some (.inl (a0, IntKind.i64.wrap (k1 + (1 : Int)), IntKind.i64.wrap (i5 + (1 : Int)), ()))
    else none
  else
    some (.inr (.inl (k1, ())))
noncomputable def laws_heldStringS_r0 (x : H85_0) : Option (Sum H85_0 (Sum E85_0 Q85_0)) := laws_heldStringS_c0 x.1 x.2.1 x.2.2.1
noncomputable def L85 {R : Type} : Loops R := fun id _ st k => bif Nat.beq id 0 then loopAt hp85_0 e85_0 q85_0 laws_heldStringS_r0 st k else none
noncomputable def laws_heldStringS (a0 : List (ByteArray × Unit)) (k1 : Int) : Option (Int × Unit) :=
  outK (loopV laws_heldStringS_r0 (a0, k1, (0 : Int), ())) (fun y1 =>
    some (y1.1, ())) (fun y2 =>
    some (y2.1, ()))
noncomputable def x85 (x : (List (ByteArray × Unit)) × Int × Unit) : Option (Int × Unit) := laws_heldStringS x.1 x.2.1
noncomputable def sem85 : Sem1 := semOf ps85 rs85 x85
theorem so85 : SemsOk Tryz.prog (semsOf sl85) := sems_cons k82 (sems_nil)
noncomputable def b85_0 : Code := nthLoop code85 0
theorem t85_r0_eq (x : denR (headRT hp85_0)) : codeK (tabOf tr) (semsOf sl85) D85 L85 b85_0 (headSt hp85_0 x) (roundK 0 hp85_0 e85_0 q85_0) = laws_heldStringS_r0 x := by kernel_rfl
theorem loop85_0 {R : Type} (r : R) (w0 : World) (mu : Mu) (hs : AnShape ps85 mu) : LoopAt Tryz.prog w0 mu 22 (L85 : Loops R) r 0 b85_0 :=
  loop_auto tr_ok eq_ok mixed_ok so85 (D := D85) hs (by kernel_rfl) (fun _ => (loops_of (l := []) (by kernel_rfl) (List.forall_mem_nil _))) t85_r0_eq (fun _ _ => rfl)
theorem t85_eq (x : denR (headRT (ps85.map some))) : codeK (tabOf tr) (semsOf sl85) D85 L85 code85 (start 22 ps85 x) (finK rs85 ps85) = x85 x := by kernel_rfl
theorem k85 : Known Tryz.prog 85 sem85 :=
  fn_auto tr_ok eq_ok mixed_ok so85 (D := D85) (code := code85) (n := 22) Tryz.func85 (by kernel_rfl) (by kernel_rfl) (by kernel_rfl) (fun w0 mu _ hs => (loops_of (l := [(0, b85_0)]) (by kernel_rfl) (List.forall_mem_cons.2 ⟨loop85_0 _ w0 mu hs, (List.forall_mem_nil _)⟩))) t85_eq

/-! ### f86: laws.heldToken -/
noncomputable def code86 : Code := match Tryz.f86.body with | some c => c | none => .skip
def ps86 : List AP := [.val true [.int .i64, .int .i64, .int .i64, .int .i64, .int .i64, .shr T_i], .val false [.int .i64]]
def rs86 : List RP := [{ src := .tmp 4, agg := false, ps := [.int .i64] }]
noncomputable def sl86 : SemL := [(84, (.shr, .shr, .shr, sem84))]
def D86 : Draws := fun _ => .nil
noncomputable def L86 {R : Type} : Loops R := fun _ _ _ _ => none
noncomputable def laws_heldToken (a0c0 : Int) (a0c1 : Int) (a0c2 : Int) (a0c3 : Int) (a0c4 : Int) (a0c5 : List (Int × Unit)) (k1 : Int) : Option (Int × Unit) :=
  Option.bind (laws_heldIntS a0c5 k1) fun y1 =>
  bif decide (y1.1 < (0 : Int)) then
    some ((-1 : Int), ())
  else
    some (y1.1, ())
noncomputable def x86 (x : Int × Int × Int × Int × Int × (List (Int × Unit)) × Int × Unit) : Option (Int × Unit) := laws_heldToken x.1 x.2.1 x.2.2.1 x.2.2.2.1 x.2.2.2.2.1 x.2.2.2.2.2.1 x.2.2.2.2.2.2.1
noncomputable def sem86 : Sem1 := semOf ps86 rs86 x86
theorem so86 : SemsOk Tryz.prog (semsOf sl86) := sems_cons k84 (sems_nil)
theorem t86_eq (x : denR (headRT (ps86.map some))) : codeK (tabOf tr) (semsOf sl86) D86 L86 code86 (start 12 ps86 x) (finK rs86 ps86) = x86 x := by kernel_rfl
theorem k86 : Known Tryz.prog 86 sem86 :=
  fn_auto tr_ok eq_ok mixed_ok so86 (D := D86) (code := code86) (n := 12) Tryz.func86 (by kernel_rfl) (by kernel_rfl) (by kernel_rfl) (fun w0 mu _ hs => (loops_of (l := []) (by kernel_rfl) (List.forall_mem_nil _))) t86_eq

/-! ### f34: laws.heldMate -/
noncomputable def code34 : Code := match Tryz.f34.body with | some c => c | none => .skip
def ps34 : List AP := [.val true [.int .i64, .int .i64, .shr T_i, .shr T_iiis, .shr T_i, .shr T_s, .int .i64, .int .i64, .int .i64, .int .i64, .int .i64, .int .i64, .int .i64, .int .i64, .int .i64, .shr T_i], .val false [.int .i64]]
def rs34 : List RP := [{ src := .tmp 4, agg := false, ps := [.int .i64] }]
noncomputable def sl34 : SemL := [(35, (.shr, .shr, .shr, sem35)), (83, (.shr, .shr, .shr, sem83)), (84, (.shr, .shr, .shr, sem84)), (85, (.shr, .shr, .shr, sem85)), (86, (.shr, .shr, .shr, sem86))]
def D34 : Draws := fun _ => .nil
noncomputable def L34 {R : Type} : Loops R := fun _ _ _ _ => none
noncomputable def laws_heldMate (a0c0 : Int) (a0c1 : Int) (a0c2 : List (Int × Unit)) (a0c3 : List R_iiis) (a0c4 : List (Int × Unit)) (a0c5 : List (ByteArray × Unit)) (a0c6 : Int) (a0c7 : Int) (a0c8 : Int) (a0c9 : Int) (a0c10 : Int) (a0c11 : Int) (a0c12 : Int) (a0c13 : Int) (a0c14 : Int) (a0c15 : List (Int × Unit)) (k1 : Int) : Option (Int × Unit) :=
  Option.bind (laws_heldRing a0c1 a0c2 k1) fun y1 =>
  bif decide (y1.1 < (0 : Int)) then
    some ((-1 : Int), ())
  else
    Option.bind (laws_heldItemS a0c3 y1.1) fun y2 =>
    bif decide (y2.1 < (0 : Int)) then
      some ((-1 : Int), ())
    else
      Option.bind (laws_heldIntS a0c4 y2.1) fun y3 =>
      bif decide (y3.1 < (0 : Int)) then
        some ((-1 : Int), ())
      else
        Option.bind (laws_heldStringS a0c5 y3.1) fun y4 =>
        bif decide (y4.1 < (0 : Int)) then
          some ((-1 : Int), ())
        else
          Option.bind (laws_heldToken a0c10 a0c11 a0c12 a0c13 a0c14 a0c15 y4.1) fun y5 =>
          bif decide (y5.1 < (0 : Int)) then
            some ((-1 : Int), ())
          else
            some (y5.1, ())
noncomputable def x34 (x : Int × Int × (List (Int × Unit)) × (List R_iiis) × (List (Int × Unit)) × (List (ByteArray × Unit)) × Int × Int × Int × Int × Int × Int × Int × Int × Int × (List (Int × Unit)) × Int × Unit) : Option (Int × Unit) := laws_heldMate x.1 x.2.1 x.2.2.1 x.2.2.2.1 x.2.2.2.2.1 x.2.2.2.2.2.1 x.2.2.2.2.2.2.1 x.2.2.2.2.2.2.2.1 x.2.2.2.2.2.2.2.2.1 x.2.2.2.2.2.2.2.2.2.1 x.2.2.2.2.2.2.2.2.2.2.1 x.2.2.2.2.2.2.2.2.2.2.2.1 x.2.2.2.2.2.2.2.2.2.2.2.2.1 x.2.2.2.2.2.2.2.2.2.2.2.2.2.1 x.2.2.2.2.2.2.2.2.2.2.2.2.2.2.1 x.2.2.2.2.2.2.2.2.2.2.2.2.2.2.2.1 x.2.2.2.2.2.2.2.2.2.2.2.2.2.2.2.2.1
noncomputable def sem34 : Sem1 := semOf ps34 rs34 x34
theorem so34 : SemsOk Tryz.prog (semsOf sl34) := sems_cons k35 (sems_cons k83 (sems_cons k84 (sems_cons k85 (sems_cons k86 (sems_nil)))))
theorem t34_eq (x : denR (headRT (ps34.map some))) : codeK (tabOf tr) (semsOf sl34) D34 L34 code34 (start 36 ps34 x) (finK rs34 ps34) = x34 x := by kernel_rfl
theorem k34 : Known Tryz.prog 34 sem34 :=
  fn_auto tr_ok eq_ok mixed_ok so34 (D := D34) (code := code34) (n := 36) Tryz.func34 (by kernel_rfl) (by kernel_rfl) (by kernel_rfl) (fun w0 mu _ hs => (loops_of (l := []) (by kernel_rfl) (List.forall_mem_nil _))) t34_eq

/-! ### f36: laws.heldBundleS -/
noncomputable def code36 : Code := match Tryz.f36.body with | some c => c | none => .skip
def ps36 : List AP := [.val false [.shr T_iiiLiiisE], .val false [.int .i64]]
def rs36 : List RP := [{ src := .tmp 4, agg := false, ps := [.int .i64] }]
noncomputable def sl36 : SemL := [(83, (.shr, .shr, .shr, sem83))]
def D36 : Draws := fun _ => .nil
def hp36_0 : List (Option AP) := [some (.val false [.shr T_iiiLiiisE]), some (.val false [.int .i64]), none, none, none, some (.val false [.int .i64]), none, none, none, none, none, none, none, none, none, none, none, none, none, none, none, none, none, none, none, none, none, none, none, none, none, none, none, none, none, none, none, none, none, none, none, none, none, none, none, none, none, none, none, none]
def e36_0 : List (Option AP) := [none, some (.val false [.int .i64]), none, none, none, none, none, none, none, none, none, none, none, none, none, none, none, none, none, none, none, none, none, none, none, none, none, none, none, none, none, none, none, none, none, none, none, none, none, none, none, none, none, none, none, none, none, none, none, none]
def q36_0 : List (Option AP) := [none, none, none, none, some (.val false [.int .i64]), none, none, none, none, none, none, none, none, none, none, none, none, none, none, none, none, none, none, none, none, none, none, none, none, none, none, none, none, none, none, none, none, none, none, none, none, none, none, none, none, none, none, none, none, none]
abbrev H36_0 : Type := (List R_iiiLiiisE) × Int × Int × Unit
abbrev E36_0 : Type := Int × Unit
abbrev Q36_0 : Type := Int × Unit
noncomputable def laws_heldBundleS_c0 (a0 : List R_iiiLiiisE) (k1 : Int) (i5 : Int) : Option (Sum H36_0 (Sum E36_0 Q36_0)) :=
  bif decide (i5 < ((List.length a0 : Nat) : Int)) then
    bif decide ((0 : Int) ≤ i5) then Option.bind ((a0)[Int.toNat i5]?) fun r1 =>
      bif !decide (r1.1 = k1) then
        some (.inr (.inr ((-1 : Int), ())))
      else bif decide ((0 : Int) ≤ i5) then Option.bind ((a0)[Int.toNat i5]?) fun r2 =>
        bif !decide (r2.2.1 = IntKind.i64.wrap (k1 + (1 : Int))) then
          some (.inr (.inr ((-1 : Int), ())))
        else bif decide ((0 : Int) ≤ i5) then Option.bind ((a0)[Int.toNat i5]?) fun r3 =>
          bif !decide (r3.2.2.1 = IntKind.i64.wrap ((IntKind.i64.wrap (k1 + (1 : Int))) + (1 : Int))) then
            some (.inr (.inr ((-1 : Int), ())))
          else bif decide ((0 : Int) ≤ i5) then Option.bind ((a0)[Int.toNat i5]?) fun r4 =>
            Option.bind (laws_heldItemS r4.2.2.2.1 (IntKind.i64.wrap ((IntKind.i64.wrap ((IntKind.i64.wrap (k1 + (1 : Int))) + (1 : Int))) + (1 : Int)))) fun y5 =>
            bif decide (y5.1 < (0 : Int)) then
              some (.inr (.inr ((-1 : Int), ())))
            else
              some (.inl (a0, y5.1, IntKind.i64.wrap (i5 + (1 : Int)), ()))
          else none
        else none
      else none
    else none
  else
    some (.inr (.inl (k1, ())))
noncomputable def laws_heldBundleS_r0 (x : H36_0) : Option (Sum H36_0 (Sum E36_0 Q36_0)) := laws_heldBundleS_c0 x.1 x.2.1 x.2.2.1
noncomputable def L36 {R : Type} : Loops R := fun id _ st k => bif Nat.beq id 0 then loopAt hp36_0 e36_0 q36_0 laws_heldBundleS_r0 st k else none
noncomputable def laws_heldBundleS (a0 : List R_iiiLiiisE) (k1 : Int) : Option (Int × Unit) :=
  outK (loopV laws_heldBundleS_r0 (a0, k1, (0 : Int), ())) (fun y1 =>
    some (y1.1, ())) (fun y2 =>
    some (y2.1, ()))
noncomputable def x36 (x : (List R_iiiLiiisE) × Int × Unit) : Option (Int × Unit) := laws_heldBundleS x.1 x.2.1
noncomputable def sem36 : Sem1 := semOf ps36 rs36 x36
theorem so36 : SemsOk Tryz.prog (semsOf sl36) := sems_cons k83 (sems_nil)
noncomputable def b36_0 : Code := nthLoop code36 0
theorem t36_r0_eq (x : denR (headRT hp36_0)) : codeK (tabOf tr) (semsOf sl36) D36 L36 b36_0 (headSt hp36_0 x) (roundK 0 hp36_0 e36_0 q36_0) = laws_heldBundleS_r0 x := by kernel_rfl
theorem loop36_0 {R : Type} (r : R) (w0 : World) (mu : Mu) (hs : AnShape ps36 mu) : LoopAt Tryz.prog w0 mu 49 (L36 : Loops R) r 0 b36_0 :=
  loop_auto tr_ok eq_ok mixed_ok so36 (D := D36) hs (by kernel_rfl) (fun _ => (loops_of (l := []) (by kernel_rfl) (List.forall_mem_nil _))) t36_r0_eq (fun _ _ => rfl)
theorem t36_eq (x : denR (headRT (ps36.map some))) : codeK (tabOf tr) (semsOf sl36) D36 L36 code36 (start 49 ps36 x) (finK rs36 ps36) = x36 x := by kernel_rfl
theorem k36 : Known Tryz.prog 36 sem36 :=
  fn_auto tr_ok eq_ok mixed_ok so36 (D := D36) (code := code36) (n := 49) Tryz.func36 (by kernel_rfl) (by kernel_rfl) (by kernel_rfl) (fun w0 mu _ hs => (loops_of (l := [(0, b36_0)]) (by kernel_rfl) (List.forall_mem_cons.2 ⟨loop36_0 _ w0 mu hs, (List.forall_mem_nil _)⟩))) t36_eq

/-! ### f37: laws.heldEventS -/
noncomputable def code37 : Code := match Tryz.f37.body with | some c => c | none => .skip
def ps37 : List AP := [.val false [.shr T_iiLiEiiisLiE], .val false [.int .i64]]
def rs37 : List RP := [{ src := .tmp 4, agg := false, ps := [.int .i64] }]
noncomputable def sl37 : SemL := [(84, (.shr, .shr, .shr, sem84)), (82, (.shr, .shr, .shr, sem82))]
def D37 : Draws := fun id => bif Nat.beq id 22 then .op 0 .any (.op 1 .any (.op 2 .any (.op 3 .any (.op 4 .any (.op 5 .take (.op 6 .any (.op 7 .one (.op 8 .any (.nil))))))))) else .nil
def hp37_0 : List (Option AP) := [some (.val false [.shr T_iiLiEiiisLiE]), some (.val false [.int .i64]), none, none, none, some (.val false [.int .i64]), none, none, none, none, none, none, none, none, none, none, none, none, none, none, none, none, none, none, none, none, none, none, none, none, none, none, none, none, none, none, none, none, none, none, none, none, none, none, none, none, none, none, none, none, none, none, none, none, none, none, none, none, none, none, none, none, none, none, none, none, none, none, none, none, none, none, none, none, none, none, none, none, none, none, none, none, none, none, none, none, none, none, none, none, none, none, none]
def e37_0 : List (Option AP) := [none, some (.val false [.int .i64]), none, none, none, none, none, none, none, none, none, none, none, none, none, none, none, none, none, none, none, none, none, none, none, none, none, none, none, none, none, none, none, none, none, none, none, none, none, none, none, none, none, none, none, none, none, none, none, none, none, none, none, none, none, none, none, none, none, none, none, none, none, none, none, none, none, none, none, none, none, none, none, none, none, none, none, none, none, none, none, none, none, none, none, none, none, none, none, none, none, none, none]
def q37_0 : List (Option AP) := [none, none, none, none, some (.val false [.int .i64]), none, none, none, none, none, none, none, none, none, none, none, none, none, none, none, none, none, none, none, none, none, none, none, none, none, none, none, none, none, none, none, none, none, none, none, none, none, none, none, none, none, none, none, none, none, none, none, none, none, none, none, none, none, none, none, none, none, none, none, none, none, none, none, none, none, none, none, none, none, none, none, none, none, none, none, none, none, none, none, none, none, none, none, none, none, none, none, none]
abbrev H37_0 : Type := (List R_iiLiEiiisLiE) × Int × Int × Unit
abbrev E37_0 : Type := Int × Unit
abbrev Q37_0 : Type := Int × Unit
noncomputable def laws_heldEventS_c0 (a0 : List R_iiLiEiiisLiE) (k1 : Int) (i5 : Int) : Option (Sum H37_0 (Sum E37_0 Q37_0)) :=
  bif decide (i5 < ((List.length a0 : Nat) : Int)) then
    bif decide ((0 : Int) ≤ i5) then Option.bind ((a0)[Int.toNat i5]?) fun r1 =>
      bif !decide (r1.1 = k1) then
        some (.inr (.inr ((-1 : Int), ())))
      else bif decide ((0 : Int) ≤ i5) then Option.bind ((a0)[Int.toNat i5]?) fun r2 =>
        bif !decide (r2.2.1 = IntKind.i64.wrap (k1 + (1 : Int))) then
          some (.inr (.inr ((-1 : Int), ())))
        else bif decide ((0 : Int) ≤ i5) then Option.bind ((a0)[Int.toNat i5]?) fun r3 =>
          Option.bind (laws_heldIntS r3.2.2.1 (IntKind.i64.wrap ((IntKind.i64.wrap (k1 + (1 : Int))) + (1 : Int)))) fun y4 =>
          bif decide (y4.1 < (0 : Int)) then
            some (.inr (.inr ((-1 : Int), ())))
          else bif decide ((0 : Int) ≤ i5) then Option.bind ((a0)[Int.toNat i5]?) fun r5 =>
            bif !decide (r5.2.2.2.1 = y4.1) then
              some (.inr (.inr ((-1 : Int), ())))
            else bif decide ((0 : Int) ≤ i5) then Option.bind ((a0)[Int.toNat i5]?) fun r6 =>
              bif !decide (r6.2.2.2.2.1 = IntKind.i64.wrap (y4.1 + (1 : Int))) then
                some (.inr (.inr ((-1 : Int), ())))
              else bif decide ((0 : Int) ≤ i5) then Option.bind ((a0)[Int.toNat i5]?) fun r7 =>
                bif !decide (r7.2.2.2.2.2.1 = IntKind.i64.wrap ((IntKind.i64.wrap (y4.1 + (1 : Int))) + (1 : Int))) then
                  some (.inr (.inr ((-1 : Int), ())))
                else bif decide ((0 : Int) ≤ i5) then Option.bind ((a0)[Int.toNat i5]?) fun r8 =>
                  Option.bind (laws_markText (IntKind.i64.wrap ((IntKind.i64.wrap ((IntKind.i64.wrap (y4.1 + (1 : Int))) + (1 : Int))) + (1 : Int)))) fun y9 =>
                  bif !strEq r8.2.2.2.2.2.2.1 y9.1 then
                    some (.inr (.inr ((-1 : Int), ())))
                  else bif decide ((0 : Int) ≤ i5) then Option.bind ((a0)[Int.toNat i5]?) fun r10 =>
                    Option.bind (laws_heldIntS r10.2.2.2.2.2.2.2.1 (IntKind.i64.wrap ((IntKind.i64.wrap ((IntKind.i64.wrap ((IntKind.i64.wrap (y4.1 + (1 : Int))) + (1 : Int))) + (1 : Int))) + (1 : Int)))) fun y11 =>
                    bif decide (y11.1 < (0 : Int)) then
                      some (.inr (.inr ((-1 : Int), ())))
                    else
                      some (.inl (a0, y11.1, IntKind.i64.wrap (i5 + (1 : Int)), ()))
                  else none
                else none
              else none
            else none
          else none
        else none
      else none
    else none
  else
    some (.inr (.inl (k1, ())))
noncomputable def laws_heldEventS_r0 (x : H37_0) : Option (Sum H37_0 (Sum E37_0 Q37_0)) := laws_heldEventS_c0 x.1 x.2.1 x.2.2.1
noncomputable def L37 {R : Type} : Loops R := fun id _ st k => bif Nat.beq id 0 then loopAt hp37_0 e37_0 q37_0 laws_heldEventS_r0 st k else none
noncomputable def laws_heldEventS (a0 : List R_iiLiEiiisLiE) (k1 : Int) : Option (Int × Unit) :=
  outK (loopV laws_heldEventS_r0 (a0, k1, (0 : Int), ())) (fun y1 =>
    some (y1.1, ())) (fun y2 =>
    some (y2.1, ()))
noncomputable def x37 (x : (List R_iiLiEiiisLiE) × Int × Unit) : Option (Int × Unit) := laws_heldEventS x.1 x.2.1
noncomputable def sem37 : Sem1 := semOf ps37 rs37 x37
theorem so37 : SemsOk Tryz.prog (semsOf sl37) := sems_cons k84 (sems_cons k82 (sems_nil))
noncomputable def b37_0 : Code := nthLoop code37 0
theorem t37_r0_eq (x : denR (headRT hp37_0)) : codeK (tabOf tr) (semsOf sl37) D37 L37 b37_0 (headSt hp37_0 x) (roundK 0 hp37_0 e37_0 q37_0) = laws_heldEventS_r0 x := by kernel_rfl
theorem loop37_0 {R : Type} (r : R) (w0 : World) (mu : Mu) (hs : AnShape ps37 mu) : LoopAt Tryz.prog w0 mu 92 (L37 : Loops R) r 0 b37_0 :=
  loop_auto tr_ok eq_ok mixed_ok so37 (D := D37) hs (by kernel_rfl) (fun _ => (loops_of (l := []) (by kernel_rfl) (List.forall_mem_nil _))) t37_r0_eq (fun _ _ => rfl)
theorem t37_eq (x : denR (headRT (ps37.map some))) : codeK (tabOf tr) (semsOf sl37) D37 L37 code37 (start 92 ps37 x) (finK rs37 ps37) = x37 x := by kernel_rfl
theorem k37 : Known Tryz.prog 37 sem37 :=
  fn_auto tr_ok eq_ok mixed_ok so37 (D := D37) (code := code37) (n := 92) Tryz.func37 (by kernel_rfl) (by kernel_rfl) (by kernel_rfl) (fun w0 mu _ hs => (loops_of (l := [(0, b37_0)]) (by kernel_rfl) (List.forall_mem_cons.2 ⟨loop37_0 _ w0 mu hs, (List.forall_mem_nil _)⟩))) t37_eq

/-! ### f11: laws.heldDaemon -/
noncomputable def code11 : Code := match Tryz.f11.body with | some c => c | none => .skip
def ps11 : List AP := [.val true [.int .i64, .bool, .int .i64, .int .i64, .shr T_i, .shr T_iiis, .shr T_i, .shr T_s, .int .i64, .int .i64, .int .i64, .int .i64, .int .i64, .int .i64, .int .i64, .int .i64, .int .i64, .shr T_i, .int .i64, .int .i64, .int .i64, .shr T_i, .shr T_iiiLiiisE, .shr T_iiLiEiiisLiE], .val false [.int .i64]]
def rs11 : List RP := [{ src := .tmp 4, agg := false, ps := [.int .i64] }]
noncomputable def sl11 : SemL := [(34, (.shr, .shr, .shr, sem34)), (35, (.shr, .shr, .shr, sem35)), (36, (.shr, .shr, .shr, sem36)), (37, (.shr, .shr, .shr, sem37))]
def D11 : Draws := fun _ => .nil
noncomputable def L11 {R : Type} : Loops R := fun _ _ _ _ => none
noncomputable def laws_heldDaemon (a0c0 : Int) (a0c1 : Bool) (a0c2 : Int) (a0c3 : Int) (a0c4 : List (Int × Unit)) (a0c5 : List R_iiis) (a0c6 : List (Int × Unit)) (a0c7 : List (ByteArray × Unit)) (a0c8 : Int) (a0c9 : Int) (a0c10 : Int) (a0c11 : Int) (a0c12 : Int) (a0c13 : Int) (a0c14 : Int) (a0c15 : Int) (a0c16 : Int) (a0c17 : List (Int × Unit)) (a0c18 : Int) (a0c19 : Int) (a0c20 : Int) (a0c21 : List (Int × Unit)) (a0c22 : List R_iiiLiiisE) (a0c23 : List R_iiLiEiiisLiE) (k1 : Int) : Option (Int × Unit) :=
  Option.bind (laws_heldMate a0c2 a0c3 a0c4 a0c5 a0c6 a0c7 a0c8 a0c9 a0c10 a0c11 a0c12 a0c13 a0c14 a0c15 a0c16 a0c17 k1) fun y1 =>
  bif decide (y1.1 < (0 : Int)) then
    some ((-1 : Int), ())
  else
    Option.bind (laws_heldRing a0c20 a0c21 y1.1) fun y2 =>
    bif decide (y2.1 < (0 : Int)) then
      some ((-1 : Int), ())
    else
      Option.bind (laws_heldBundleS a0c22 y2.1) fun y3 =>
      bif decide (y3.1 < (0 : Int)) then
        some ((-1 : Int), ())
      else
        Option.bind (laws_heldEventS a0c23 y3.1) fun y4 =>
        bif decide (y4.1 < (0 : Int)) then
          some ((-1 : Int), ())
        else
          some (y4.1, ())
noncomputable def x11 (x : Int × Bool × Int × Int × (List (Int × Unit)) × (List R_iiis) × (List (Int × Unit)) × (List (ByteArray × Unit)) × Int × Int × Int × Int × Int × Int × Int × Int × Int × (List (Int × Unit)) × Int × Int × Int × (List (Int × Unit)) × (List R_iiiLiiisE) × (List R_iiLiEiiisLiE) × Int × Unit) : Option (Int × Unit) := laws_heldDaemon x.1 x.2.1 x.2.2.1 x.2.2.2.1 x.2.2.2.2.1 x.2.2.2.2.2.1 x.2.2.2.2.2.2.1 x.2.2.2.2.2.2.2.1 x.2.2.2.2.2.2.2.2.1 x.2.2.2.2.2.2.2.2.2.1 x.2.2.2.2.2.2.2.2.2.2.1 x.2.2.2.2.2.2.2.2.2.2.2.1 x.2.2.2.2.2.2.2.2.2.2.2.2.1 x.2.2.2.2.2.2.2.2.2.2.2.2.2.1 x.2.2.2.2.2.2.2.2.2.2.2.2.2.2.1 x.2.2.2.2.2.2.2.2.2.2.2.2.2.2.2.1 x.2.2.2.2.2.2.2.2.2.2.2.2.2.2.2.2.1 x.2.2.2.2.2.2.2.2.2.2.2.2.2.2.2.2.2.1 x.2.2.2.2.2.2.2.2.2.2.2.2.2.2.2.2.2.2.1 x.2.2.2.2.2.2.2.2.2.2.2.2.2.2.2.2.2.2.2.1 x.2.2.2.2.2.2.2.2.2.2.2.2.2.2.2.2.2.2.2.2.1 x.2.2.2.2.2.2.2.2.2.2.2.2.2.2.2.2.2.2.2.2.2.1 x.2.2.2.2.2.2.2.2.2.2.2.2.2.2.2.2.2.2.2.2.2.2.1 x.2.2.2.2.2.2.2.2.2.2.2.2.2.2.2.2.2.2.2.2.2.2.2.1 x.2.2.2.2.2.2.2.2.2.2.2.2.2.2.2.2.2.2.2.2.2.2.2.2.1
noncomputable def sem11 : Sem1 := semOf ps11 rs11 x11
theorem so11 : SemsOk Tryz.prog (semsOf sl11) := sems_cons k34 (sems_cons k35 (sems_cons k36 (sems_cons k37 (sems_nil))))
theorem t11_eq (x : denR (headRT (ps11.map some))) : codeK (tabOf tr) (semsOf sl11) D11 L11 code11 (start 30 ps11 x) (finK rs11 ps11) = x11 x := by kernel_rfl
theorem k11 : Known Tryz.prog 11 sem11 :=
  fn_auto tr_ok eq_ok mixed_ok so11 (D := D11) (code := code11) (n := 30) Tryz.func11 (by kernel_rfl) (by kernel_rfl) (by kernel_rfl) (fun w0 mu _ hs => (loops_of (l := []) (by kernel_rfl) (List.forall_mem_nil _))) t11_eq

/-! ### f3: laws.FnExactWake -/
noncomputable def code3 : Code := match Tryz.f3.body with | some c => c | none => .skip
def ps3 : List AP := [.val true [.int .i64, .bool, .int .i64, .int .i64, .shr T_i, .shr T_iiis, .shr T_i, .shr T_s, .int .i64, .int .i64, .int .i64, .int .i64, .int .i64, .int .i64, .int .i64, .int .i64, .int .i64, .shr T_i, .int .i64, .int .i64, .int .i64, .shr T_i, .shr T_iiiLiiisE, .shr T_iiLiEiiisLiE]]
def rs3 : List RP := [{ src := .tmp 2, agg := false, ps := [.bool] }]
noncomputable def sl3 : SemL := [(5, (.shr, .shr, .shr, sem5)), (7, (.shr, .shr, .shr, sem7)), (6, (.shr, .shr, .shr, sem6)), (8, (.shr, .shr, .shr, sem8)), (9, (.shr, .shr, .shr, sem9)), (10, (.lend, .shr, .shr, sem10)), (11, (.shr, .shr, .shr, sem11))]
def D3 : Draws := fun id => bif Nat.beq id 10 then .op 0 .take (.op 1 .take (.op 2 .one (.op 3 .one (.op 4 .any (.nil))))) else .nil
noncomputable def L3 {R : Type} : Loops R := fun _ _ _ _ => none
noncomputable def laws_FnExactWake (aD0c0 : Int) (aD0c1 : Bool) (aD0c2 : Int) (aD0c3 : Int) (aD0c4 : List (Int × Unit)) (aD0c5 : List R_iiis) (aD0c6 : List (Int × Unit)) (aD0c7 : List (ByteArray × Unit)) (aD0c8 : Int) (aD0c9 : Int) (aD0c10 : Int) (aD0c11 : Int) (aD0c12 : Int) (aD0c13 : Int) (aD0c14 : Int) (aD0c15 : Int) (aD0c16 : Int) (aD0c17 : List (Int × Unit)) (aD0c18 : Int) (aD0c19 : Int) (aD0c20 : Int) (aD0c21 : List (Int × Unit)) (aD0c22 : List R_iiiLiiisE) (aD0c23 : List R_iiLiEiiisLiE) : Option (Bool × Unit) :=
  Option.bind (laws_szDaemon aD0c0 aD0c1 aD0c2 aD0c3 aD0c4 aD0c5 aD0c6 aD0c7 aD0c8 aD0c9 aD0c10 aD0c11 aD0c12 aD0c13 aD0c14 aD0c15 aD0c16 aD0c17 aD0c18 aD0c19 aD0c20 aD0c21 aD0c22 aD0c23 (1048576 : Int)) fun y1 =>
  bif decide (y1.1 < (0 : Int)) then
    some (true, ())
  else
    Option.bind (laws_toDaemon aD0c0 aD0c1 aD0c2 aD0c3 aD0c4 aD0c5 aD0c6 aD0c7 aD0c8 aD0c9 aD0c10 aD0c11 aD0c12 aD0c13 aD0c14 aD0c15 aD0c16 aD0c17 aD0c18 aD0c19 aD0c20 aD0c21 aD0c22 aD0c23) fun y2 =>
    Option.bind (spec_Wake y2.1 y2.2.1 y2.2.2.1 y2.2.2.2.1 y2.2.2.2.2.1 y2.2.2.2.2.2.1 y2.2.2.2.2.2.2.1 y2.2.2.2.2.2.2.2.1 y2.2.2.2.2.2.2.2.2.1 y2.2.2.2.2.2.2.2.2.2.1 y2.2.2.2.2.2.2.2.2.2.2.1 y2.2.2.2.2.2.2.2.2.2.2.2.1 y2.2.2.2.2.2.2.2.2.2.2.2.2.1 y2.2.2.2.2.2.2.2.2.2.2.2.2.2.1 y2.2.2.2.2.2.2.2.2.2.2.2.2.2.2.1 y2.2.2.2.2.2.2.2.2.2.2.2.2.2.2.2.1 y2.2.2.2.2.2.2.2.2.2.2.2.2.2.2.2.2.1 y2.2.2.2.2.2.2.2.2.2.2.2.2.2.2.2.2.2.1 y2.2.2.2.2.2.2.2.2.2.2.2.2.2.2.2.2.2.2.1 y2.2.2.2.2.2.2.2.2.2.2.2.2.2.2.2.2.2.2.2.1 y2.2.2.2.2.2.2.2.2.2.2.2.2.2.2.2.2.2.2.2.2.1 y2.2.2.2.2.2.2.2.2.2.2.2.2.2.2.2.2.2.2.2.2.2.1 y2.2.2.2.2.2.2.2.2.2.2.2.2.2.2.2.2.2.2.2.2.2.2.1 y2.2.2.2.2.2.2.2.2.2.2.2.2.2.2.2.2.2.2.2.2.2.2.2.1) fun y3 =>
    Option.bind (laws_toDaemon aD0c0 aD0c1 aD0c2 aD0c3 aD0c4 aD0c5 aD0c6 aD0c7 aD0c8 aD0c9 aD0c10 aD0c11 aD0c12 aD0c13 aD0c14 aD0c15 aD0c16 aD0c17 aD0c18 aD0c19 aD0c20 aD0c21 aD0c22 aD0c23) fun y4 =>
    Option.bind (impl_Wake y4.1 y4.2.1 y4.2.2.1 y4.2.2.2.1 y4.2.2.2.2.1 y4.2.2.2.2.2.1 y4.2.2.2.2.2.2.1 y4.2.2.2.2.2.2.2.1 y4.2.2.2.2.2.2.2.2.1 y4.2.2.2.2.2.2.2.2.2.1 y4.2.2.2.2.2.2.2.2.2.2.1 y4.2.2.2.2.2.2.2.2.2.2.2.1 y4.2.2.2.2.2.2.2.2.2.2.2.2.1 y4.2.2.2.2.2.2.2.2.2.2.2.2.2.1 y4.2.2.2.2.2.2.2.2.2.2.2.2.2.2.1 y4.2.2.2.2.2.2.2.2.2.2.2.2.2.2.2.1 y4.2.2.2.2.2.2.2.2.2.2.2.2.2.2.2.2.1 y4.2.2.2.2.2.2.2.2.2.2.2.2.2.2.2.2.2.1 y4.2.2.2.2.2.2.2.2.2.2.2.2.2.2.2.2.2.2.1 y4.2.2.2.2.2.2.2.2.2.2.2.2.2.2.2.2.2.2.2.1 y4.2.2.2.2.2.2.2.2.2.2.2.2.2.2.2.2.2.2.2.2.1 y4.2.2.2.2.2.2.2.2.2.2.2.2.2.2.2.2.2.2.2.2.2.1 y4.2.2.2.2.2.2.2.2.2.2.2.2.2.2.2.2.2.2.2.2.2.2.1 y4.2.2.2.2.2.2.2.2.2.2.2.2.2.2.2.2.2.2.2.2.2.2.2.1) fun y5 =>
    Option.bind (laws_eqDaemon y5.1 y5.2.1 y5.2.2.1 y5.2.2.2.1 y5.2.2.2.2.1 y5.2.2.2.2.2.1 y5.2.2.2.2.2.2.1 y5.2.2.2.2.2.2.2.1 y5.2.2.2.2.2.2.2.2.1 y5.2.2.2.2.2.2.2.2.2.1 y5.2.2.2.2.2.2.2.2.2.2.1 y5.2.2.2.2.2.2.2.2.2.2.2.1 y5.2.2.2.2.2.2.2.2.2.2.2.2.1 y5.2.2.2.2.2.2.2.2.2.2.2.2.2.1 y5.2.2.2.2.2.2.2.2.2.2.2.2.2.2.1 y5.2.2.2.2.2.2.2.2.2.2.2.2.2.2.2.1 y5.2.2.2.2.2.2.2.2.2.2.2.2.2.2.2.2.1 y5.2.2.2.2.2.2.2.2.2.2.2.2.2.2.2.2.2.1 y5.2.2.2.2.2.2.2.2.2.2.2.2.2.2.2.2.2.2.1 y5.2.2.2.2.2.2.2.2.2.2.2.2.2.2.2.2.2.2.2.1 y5.2.2.2.2.2.2.2.2.2.2.2.2.2.2.2.2.2.2.2.2.1 y5.2.2.2.2.2.2.2.2.2.2.2.2.2.2.2.2.2.2.2.2.2.1 y5.2.2.2.2.2.2.2.2.2.2.2.2.2.2.2.2.2.2.2.2.2.2.1 y5.2.2.2.2.2.2.2.2.2.2.2.2.2.2.2.2.2.2.2.2.2.2.2.1 y3.1 y3.2.1 y3.2.2.1 y3.2.2.2.1 y3.2.2.2.2.1 y3.2.2.2.2.2.1 y3.2.2.2.2.2.2.1 y3.2.2.2.2.2.2.2.1 y3.2.2.2.2.2.2.2.2.1 y3.2.2.2.2.2.2.2.2.2.1 y3.2.2.2.2.2.2.2.2.2.2.1 y3.2.2.2.2.2.2.2.2.2.2.2.1 y3.2.2.2.2.2.2.2.2.2.2.2.2.1 y3.2.2.2.2.2.2.2.2.2.2.2.2.2.1 y3.2.2.2.2.2.2.2.2.2.2.2.2.2.2.1 y3.2.2.2.2.2.2.2.2.2.2.2.2.2.2.2.1 y3.2.2.2.2.2.2.2.2.2.2.2.2.2.2.2.2.1 y3.2.2.2.2.2.2.2.2.2.2.2.2.2.2.2.2.2.1 y3.2.2.2.2.2.2.2.2.2.2.2.2.2.2.2.2.2.2.1 y3.2.2.2.2.2.2.2.2.2.2.2.2.2.2.2.2.2.2.2.1 y3.2.2.2.2.2.2.2.2.2.2.2.2.2.2.2.2.2.2.2.2.1 y3.2.2.2.2.2.2.2.2.2.2.2.2.2.2.2.2.2.2.2.2.2.1 y3.2.2.2.2.2.2.2.2.2.2.2.2.2.2.2.2.2.2.2.2.2.2.1 y3.2.2.2.2.2.2.2.2.2.2.2.2.2.2.2.2.2.2.2.2.2.2.2.1) fun y6 =>
    bif !y6.1 then
      some (false, ())
    else bif !(y5.2.2.2.2.2.2.2.2.2.2.2.2.2.2.2.2.2.2.2.2.2.2.2.2.1 == y3.2.2.2.2.2.2.2.2.2.2.2.2.2.2.2.2.2.2.2.2.2.2.2.2.1) then
      some (false, ())
    else
      Option.bind (laws_toDaemon aD0c0 aD0c1 aD0c2 aD0c3 aD0c4 aD0c5 aD0c6 aD0c7 aD0c8 aD0c9 aD0c10 aD0c11 aD0c12 aD0c13 aD0c14 aD0c15 aD0c16 aD0c17 aD0c18 aD0c19 aD0c20 aD0c21 aD0c22 aD0c23) fun y7 =>
      Option.bind (laws_eqDaemon y4.1 y4.2.1 y4.2.2.1 y4.2.2.2.1 y4.2.2.2.2.1 y4.2.2.2.2.2.1 y4.2.2.2.2.2.2.1 y4.2.2.2.2.2.2.2.1 y4.2.2.2.2.2.2.2.2.1 y4.2.2.2.2.2.2.2.2.2.1 y4.2.2.2.2.2.2.2.2.2.2.1 y4.2.2.2.2.2.2.2.2.2.2.2.1 y4.2.2.2.2.2.2.2.2.2.2.2.2.1 y4.2.2.2.2.2.2.2.2.2.2.2.2.2.1 y4.2.2.2.2.2.2.2.2.2.2.2.2.2.2.1 y4.2.2.2.2.2.2.2.2.2.2.2.2.2.2.2.1 y4.2.2.2.2.2.2.2.2.2.2.2.2.2.2.2.2.1 y4.2.2.2.2.2.2.2.2.2.2.2.2.2.2.2.2.2.1 y4.2.2.2.2.2.2.2.2.2.2.2.2.2.2.2.2.2.2.1 y4.2.2.2.2.2.2.2.2.2.2.2.2.2.2.2.2.2.2.2.1 y4.2.2.2.2.2.2.2.2.2.2.2.2.2.2.2.2.2.2.2.2.1 y4.2.2.2.2.2.2.2.2.2.2.2.2.2.2.2.2.2.2.2.2.2.1 y4.2.2.2.2.2.2.2.2.2.2.2.2.2.2.2.2.2.2.2.2.2.2.1 y4.2.2.2.2.2.2.2.2.2.2.2.2.2.2.2.2.2.2.2.2.2.2.2.1 y7.1 y7.2.1 y7.2.2.1 y7.2.2.2.1 y7.2.2.2.2.1 y7.2.2.2.2.2.1 y7.2.2.2.2.2.2.1 y7.2.2.2.2.2.2.2.1 y7.2.2.2.2.2.2.2.2.1 y7.2.2.2.2.2.2.2.2.2.1 y7.2.2.2.2.2.2.2.2.2.2.1 y7.2.2.2.2.2.2.2.2.2.2.2.1 y7.2.2.2.2.2.2.2.2.2.2.2.2.1 y7.2.2.2.2.2.2.2.2.2.2.2.2.2.1 y7.2.2.2.2.2.2.2.2.2.2.2.2.2.2.1 y7.2.2.2.2.2.2.2.2.2.2.2.2.2.2.2.1 y7.2.2.2.2.2.2.2.2.2.2.2.2.2.2.2.2.1 y7.2.2.2.2.2.2.2.2.2.2.2.2.2.2.2.2.2.1 y7.2.2.2.2.2.2.2.2.2.2.2.2.2.2.2.2.2.2.1 y7.2.2.2.2.2.2.2.2.2.2.2.2.2.2.2.2.2.2.2.1 y7.2.2.2.2.2.2.2.2.2.2.2.2.2.2.2.2.2.2.2.2.1 y7.2.2.2.2.2.2.2.2.2.2.2.2.2.2.2.2.2.2.2.2.2.1 y7.2.2.2.2.2.2.2.2.2.2.2.2.2.2.2.2.2.2.2.2.2.2.1 y7.2.2.2.2.2.2.2.2.2.2.2.2.2.2.2.2.2.2.2.2.2.2.2.1) fun y8 =>
      bif !y8.1 then
        some (false, ())
      else
        Option.bind (laws_markDaemon y4.1 y4.2.1 y4.2.2.1 y4.2.2.2.1 y4.2.2.2.2.1 y4.2.2.2.2.2.1 y4.2.2.2.2.2.2.1 y4.2.2.2.2.2.2.2.1 y4.2.2.2.2.2.2.2.2.1 y4.2.2.2.2.2.2.2.2.2.1 y4.2.2.2.2.2.2.2.2.2.2.1 y4.2.2.2.2.2.2.2.2.2.2.2.1 y4.2.2.2.2.2.2.2.2.2.2.2.2.1 y4.2.2.2.2.2.2.2.2.2.2.2.2.2.1 y4.2.2.2.2.2.2.2.2.2.2.2.2.2.2.1 y4.2.2.2.2.2.2.2.2.2.2.2.2.2.2.2.1 y4.2.2.2.2.2.2.2.2.2.2.2.2.2.2.2.2.1 y4.2.2.2.2.2.2.2.2.2.2.2.2.2.2.2.2.2.1 y4.2.2.2.2.2.2.2.2.2.2.2.2.2.2.2.2.2.2.1 y4.2.2.2.2.2.2.2.2.2.2.2.2.2.2.2.2.2.2.2.1 y4.2.2.2.2.2.2.2.2.2.2.2.2.2.2.2.2.2.2.2.2.1 y4.2.2.2.2.2.2.2.2.2.2.2.2.2.2.2.2.2.2.2.2.2.1 y4.2.2.2.2.2.2.2.2.2.2.2.2.2.2.2.2.2.2.2.2.2.2.1 y4.2.2.2.2.2.2.2.2.2.2.2.2.2.2.2.2.2.2.2.2.2.2.2.1 (1 : Int)) fun y9 =>
        bif decide (y9.1 < (0 : Int)) then
          some (false, ())
        else
          Option.bind (laws_eqDaemon y5.1 y5.2.1 y5.2.2.1 y5.2.2.2.1 y5.2.2.2.2.1 y5.2.2.2.2.2.1 y5.2.2.2.2.2.2.1 y5.2.2.2.2.2.2.2.1 y5.2.2.2.2.2.2.2.2.1 y5.2.2.2.2.2.2.2.2.2.1 y5.2.2.2.2.2.2.2.2.2.2.1 y5.2.2.2.2.2.2.2.2.2.2.2.1 y5.2.2.2.2.2.2.2.2.2.2.2.2.1 y5.2.2.2.2.2.2.2.2.2.2.2.2.2.1 y5.2.2.2.2.2.2.2.2.2.2.2.2.2.2.1 y5.2.2.2.2.2.2.2.2.2.2.2.2.2.2.2.1 y5.2.2.2.2.2.2.2.2.2.2.2.2.2.2.2.2.1 y5.2.2.2.2.2.2.2.2.2.2.2.2.2.2.2.2.2.1 y5.2.2.2.2.2.2.2.2.2.2.2.2.2.2.2.2.2.2.1 y5.2.2.2.2.2.2.2.2.2.2.2.2.2.2.2.2.2.2.2.1 y5.2.2.2.2.2.2.2.2.2.2.2.2.2.2.2.2.2.2.2.2.1 y5.2.2.2.2.2.2.2.2.2.2.2.2.2.2.2.2.2.2.2.2.2.1 y5.2.2.2.2.2.2.2.2.2.2.2.2.2.2.2.2.2.2.2.2.2.2.1 y5.2.2.2.2.2.2.2.2.2.2.2.2.2.2.2.2.2.2.2.2.2.2.2.1 y3.1 y3.2.1 y3.2.2.1 y3.2.2.2.1 y3.2.2.2.2.1 y3.2.2.2.2.2.1 y3.2.2.2.2.2.2.1 y3.2.2.2.2.2.2.2.1 y3.2.2.2.2.2.2.2.2.1 y3.2.2.2.2.2.2.2.2.2.1 y3.2.2.2.2.2.2.2.2.2.2.1 y3.2.2.2.2.2.2.2.2.2.2.2.1 y3.2.2.2.2.2.2.2.2.2.2.2.2.1 y3.2.2.2.2.2.2.2.2.2.2.2.2.2.1 y3.2.2.2.2.2.2.2.2.2.2.2.2.2.2.1 y3.2.2.2.2.2.2.2.2.2.2.2.2.2.2.2.1 y3.2.2.2.2.2.2.2.2.2.2.2.2.2.2.2.2.1 y3.2.2.2.2.2.2.2.2.2.2.2.2.2.2.2.2.2.1 y3.2.2.2.2.2.2.2.2.2.2.2.2.2.2.2.2.2.2.1 y3.2.2.2.2.2.2.2.2.2.2.2.2.2.2.2.2.2.2.2.1 y3.2.2.2.2.2.2.2.2.2.2.2.2.2.2.2.2.2.2.2.2.1 y3.2.2.2.2.2.2.2.2.2.2.2.2.2.2.2.2.2.2.2.2.2.1 y3.2.2.2.2.2.2.2.2.2.2.2.2.2.2.2.2.2.2.2.2.2.2.1 y3.2.2.2.2.2.2.2.2.2.2.2.2.2.2.2.2.2.2.2.2.2.2.2.1) fun y10 =>
          bif !y10.1 then
            some (false, ())
          else bif !(y5.2.2.2.2.2.2.2.2.2.2.2.2.2.2.2.2.2.2.2.2.2.2.2.2.1 == y3.2.2.2.2.2.2.2.2.2.2.2.2.2.2.2.2.2.2.2.2.2.2.2.2.1) then
            some (false, ())
          else
            Option.bind (laws_markDaemon y5.1 y5.2.1 y5.2.2.1 y5.2.2.2.1 y5.2.2.2.2.1 y5.2.2.2.2.2.1 y5.2.2.2.2.2.2.1 y5.2.2.2.2.2.2.2.1 y5.2.2.2.2.2.2.2.2.1 y5.2.2.2.2.2.2.2.2.2.1 y5.2.2.2.2.2.2.2.2.2.2.1 y5.2.2.2.2.2.2.2.2.2.2.2.1 y5.2.2.2.2.2.2.2.2.2.2.2.2.1 y5.2.2.2.2.2.2.2.2.2.2.2.2.2.1 y5.2.2.2.2.2.2.2.2.2.2.2.2.2.2.1 y5.2.2.2.2.2.2.2.2.2.2.2.2.2.2.2.1 y5.2.2.2.2.2.2.2.2.2.2.2.2.2.2.2.2.1 y5.2.2.2.2.2.2.2.2.2.2.2.2.2.2.2.2.2.1 y5.2.2.2.2.2.2.2.2.2.2.2.2.2.2.2.2.2.2.1 y5.2.2.2.2.2.2.2.2.2.2.2.2.2.2.2.2.2.2.2.1 y5.2.2.2.2.2.2.2.2.2.2.2.2.2.2.2.2.2.2.2.2.1 y5.2.2.2.2.2.2.2.2.2.2.2.2.2.2.2.2.2.2.2.2.2.1 y5.2.2.2.2.2.2.2.2.2.2.2.2.2.2.2.2.2.2.2.2.2.2.1 y5.2.2.2.2.2.2.2.2.2.2.2.2.2.2.2.2.2.2.2.2.2.2.2.1 (1 : Int)) fun y11 =>
            Option.bind (laws_heldDaemon y5.1 y5.2.1 y5.2.2.1 y5.2.2.2.1 y11.2.1 y11.2.2.1 y11.2.2.2.1 y11.2.2.2.2.1 y5.2.2.2.2.2.2.2.2.1 y5.2.2.2.2.2.2.2.2.2.1 y5.2.2.2.2.2.2.2.2.2.2.1 y5.2.2.2.2.2.2.2.2.2.2.2.1 y5.2.2.2.2.2.2.2.2.2.2.2.2.1 y5.2.2.2.2.2.2.2.2.2.2.2.2.2.1 y5.2.2.2.2.2.2.2.2.2.2.2.2.2.2.1 y5.2.2.2.2.2.2.2.2.2.2.2.2.2.2.2.1 y5.2.2.2.2.2.2.2.2.2.2.2.2.2.2.2.2.1 y11.2.2.2.2.2.1 y5.2.2.2.2.2.2.2.2.2.2.2.2.2.2.2.2.2.2.1 y5.2.2.2.2.2.2.2.2.2.2.2.2.2.2.2.2.2.2.2.1 y5.2.2.2.2.2.2.2.2.2.2.2.2.2.2.2.2.2.2.2.2.1 y11.2.2.2.2.2.2.1 y11.2.2.2.2.2.2.2.1 y11.2.2.2.2.2.2.2.2.1 (1 : Int)) fun y12 =>
            bif decide (y12.1 < (0 : Int)) then
              some (false, ())
            else bif !decide (y12.1 = y11.1) then
              some (false, ())
            else
              Option.bind (laws_toDaemon aD0c0 aD0c1 aD0c2 aD0c3 aD0c4 aD0c5 aD0c6 aD0c7 aD0c8 aD0c9 aD0c10 aD0c11 aD0c12 aD0c13 aD0c14 aD0c15 aD0c16 aD0c17 aD0c18 aD0c19 aD0c20 aD0c21 aD0c22 aD0c23) fun y13 =>
              Option.bind (impl_Wake y13.1 y13.2.1 y13.2.2.1 y13.2.2.2.1 y13.2.2.2.2.1 y13.2.2.2.2.2.1 y13.2.2.2.2.2.2.1 y13.2.2.2.2.2.2.2.1 y13.2.2.2.2.2.2.2.2.1 y13.2.2.2.2.2.2.2.2.2.1 y13.2.2.2.2.2.2.2.2.2.2.1 y13.2.2.2.2.2.2.2.2.2.2.2.1 y13.2.2.2.2.2.2.2.2.2.2.2.2.1 y13.2.2.2.2.2.2.2.2.2.2.2.2.2.1 y13.2.2.2.2.2.2.2.2.2.2.2.2.2.2.1 y13.2.2.2.2.2.2.2.2.2.2.2.2.2.2.2.1 y13.2.2.2.2.2.2.2.2.2.2.2.2.2.2.2.2.1 y13.2.2.2.2.2.2.2.2.2.2.2.2.2.2.2.2.2.1 y13.2.2.2.2.2.2.2.2.2.2.2.2.2.2.2.2.2.2.1 y13.2.2.2.2.2.2.2.2.2.2.2.2.2.2.2.2.2.2.2.1 y13.2.2.2.2.2.2.2.2.2.2.2.2.2.2.2.2.2.2.2.2.1 y13.2.2.2.2.2.2.2.2.2.2.2.2.2.2.2.2.2.2.2.2.2.1 y13.2.2.2.2.2.2.2.2.2.2.2.2.2.2.2.2.2.2.2.2.2.2.1 y13.2.2.2.2.2.2.2.2.2.2.2.2.2.2.2.2.2.2.2.2.2.2.2.1) fun y14 =>
              Option.bind (laws_eqDaemon y14.1 y14.2.1 y14.2.2.1 y14.2.2.2.1 y14.2.2.2.2.1 y14.2.2.2.2.2.1 y14.2.2.2.2.2.2.1 y14.2.2.2.2.2.2.2.1 y14.2.2.2.2.2.2.2.2.1 y14.2.2.2.2.2.2.2.2.2.1 y14.2.2.2.2.2.2.2.2.2.2.1 y14.2.2.2.2.2.2.2.2.2.2.2.1 y14.2.2.2.2.2.2.2.2.2.2.2.2.1 y14.2.2.2.2.2.2.2.2.2.2.2.2.2.1 y14.2.2.2.2.2.2.2.2.2.2.2.2.2.2.1 y14.2.2.2.2.2.2.2.2.2.2.2.2.2.2.2.1 y14.2.2.2.2.2.2.2.2.2.2.2.2.2.2.2.2.1 y14.2.2.2.2.2.2.2.2.2.2.2.2.2.2.2.2.2.1 y14.2.2.2.2.2.2.2.2.2.2.2.2.2.2.2.2.2.2.1 y14.2.2.2.2.2.2.2.2.2.2.2.2.2.2.2.2.2.2.2.1 y14.2.2.2.2.2.2.2.2.2.2.2.2.2.2.2.2.2.2.2.2.1 y14.2.2.2.2.2.2.2.2.2.2.2.2.2.2.2.2.2.2.2.2.2.1 y14.2.2.2.2.2.2.2.2.2.2.2.2.2.2.2.2.2.2.2.2.2.2.1 y14.2.2.2.2.2.2.2.2.2.2.2.2.2.2.2.2.2.2.2.2.2.2.2.1 y3.1 y3.2.1 y3.2.2.1 y3.2.2.2.1 y3.2.2.2.2.1 y3.2.2.2.2.2.1 y3.2.2.2.2.2.2.1 y3.2.2.2.2.2.2.2.1 y3.2.2.2.2.2.2.2.2.1 y3.2.2.2.2.2.2.2.2.2.1 y3.2.2.2.2.2.2.2.2.2.2.1 y3.2.2.2.2.2.2.2.2.2.2.2.1 y3.2.2.2.2.2.2.2.2.2.2.2.2.1 y3.2.2.2.2.2.2.2.2.2.2.2.2.2.1 y3.2.2.2.2.2.2.2.2.2.2.2.2.2.2.1 y3.2.2.2.2.2.2.2.2.2.2.2.2.2.2.2.1 y3.2.2.2.2.2.2.2.2.2.2.2.2.2.2.2.2.1 y3.2.2.2.2.2.2.2.2.2.2.2.2.2.2.2.2.2.1 y3.2.2.2.2.2.2.2.2.2.2.2.2.2.2.2.2.2.2.1 y3.2.2.2.2.2.2.2.2.2.2.2.2.2.2.2.2.2.2.2.1 y3.2.2.2.2.2.2.2.2.2.2.2.2.2.2.2.2.2.2.2.2.1 y3.2.2.2.2.2.2.2.2.2.2.2.2.2.2.2.2.2.2.2.2.2.1 y3.2.2.2.2.2.2.2.2.2.2.2.2.2.2.2.2.2.2.2.2.2.2.1 y3.2.2.2.2.2.2.2.2.2.2.2.2.2.2.2.2.2.2.2.2.2.2.2.1) fun y15 =>
              bif !y15.1 then
                some (false, ())
              else bif !(y14.2.2.2.2.2.2.2.2.2.2.2.2.2.2.2.2.2.2.2.2.2.2.2.2.1 == y3.2.2.2.2.2.2.2.2.2.2.2.2.2.2.2.2.2.2.2.2.2.2.2.2.1) then
                some (false, ())
              else
                Option.bind (laws_heldDaemon y5.1 y5.2.1 y5.2.2.1 y5.2.2.2.1 y11.2.1 y11.2.2.1 y11.2.2.2.1 y11.2.2.2.2.1 y5.2.2.2.2.2.2.2.2.1 y5.2.2.2.2.2.2.2.2.2.1 y5.2.2.2.2.2.2.2.2.2.2.1 y5.2.2.2.2.2.2.2.2.2.2.2.1 y5.2.2.2.2.2.2.2.2.2.2.2.2.1 y5.2.2.2.2.2.2.2.2.2.2.2.2.2.1 y5.2.2.2.2.2.2.2.2.2.2.2.2.2.2.1 y5.2.2.2.2.2.2.2.2.2.2.2.2.2.2.2.1 y5.2.2.2.2.2.2.2.2.2.2.2.2.2.2.2.2.1 y11.2.2.2.2.2.1 y5.2.2.2.2.2.2.2.2.2.2.2.2.2.2.2.2.2.2.1 y5.2.2.2.2.2.2.2.2.2.2.2.2.2.2.2.2.2.2.2.1 y5.2.2.2.2.2.2.2.2.2.2.2.2.2.2.2.2.2.2.2.2.1 y11.2.2.2.2.2.2.1 y11.2.2.2.2.2.2.2.1 y11.2.2.2.2.2.2.2.2.1 (1 : Int)) fun y16 =>
                bif decide (y16.1 < (0 : Int)) then
                  some (false, ())
                else bif !decide (y16.1 = y11.1) then
                  some (false, ())
                else
                  some (true, ())
noncomputable def x3 (x : Int × Bool × Int × Int × (List (Int × Unit)) × (List R_iiis) × (List (Int × Unit)) × (List (ByteArray × Unit)) × Int × Int × Int × Int × Int × Int × Int × Int × Int × (List (Int × Unit)) × Int × Int × Int × (List (Int × Unit)) × (List R_iiiLiiisE) × (List R_iiLiEiiisLiE) × Unit) : Option (Bool × Unit) := laws_FnExactWake x.1 x.2.1 x.2.2.1 x.2.2.2.1 x.2.2.2.2.1 x.2.2.2.2.2.1 x.2.2.2.2.2.2.1 x.2.2.2.2.2.2.2.1 x.2.2.2.2.2.2.2.2.1 x.2.2.2.2.2.2.2.2.2.1 x.2.2.2.2.2.2.2.2.2.2.1 x.2.2.2.2.2.2.2.2.2.2.2.1 x.2.2.2.2.2.2.2.2.2.2.2.2.1 x.2.2.2.2.2.2.2.2.2.2.2.2.2.1 x.2.2.2.2.2.2.2.2.2.2.2.2.2.2.1 x.2.2.2.2.2.2.2.2.2.2.2.2.2.2.2.1 x.2.2.2.2.2.2.2.2.2.2.2.2.2.2.2.2.1 x.2.2.2.2.2.2.2.2.2.2.2.2.2.2.2.2.2.1 x.2.2.2.2.2.2.2.2.2.2.2.2.2.2.2.2.2.2.1 x.2.2.2.2.2.2.2.2.2.2.2.2.2.2.2.2.2.2.2.1 x.2.2.2.2.2.2.2.2.2.2.2.2.2.2.2.2.2.2.2.2.1 x.2.2.2.2.2.2.2.2.2.2.2.2.2.2.2.2.2.2.2.2.2.1 x.2.2.2.2.2.2.2.2.2.2.2.2.2.2.2.2.2.2.2.2.2.2.1 x.2.2.2.2.2.2.2.2.2.2.2.2.2.2.2.2.2.2.2.2.2.2.2.1
noncomputable def sem3 : Sem1 := semOf ps3 rs3 x3
theorem so3 : SemsOk Tryz.prog (semsOf sl3) := sems_cons k5 (sems_cons k7 (sems_cons k6 (sems_cons k8 (sems_cons k9 (sems_cons k10 (sems_cons k11 (sems_nil)))))))
theorem t3_eq (x : denR (headRT (ps3.map some))) : codeK (tabOf tr) (semsOf sl3) D3 L3 code3 (start 96 ps3 x) (finK rs3 ps3) = x3 x := by kernel_rfl
theorem k3 : Known Tryz.prog 3 sem3 :=
  fn_auto tr_ok eq_ok mixed_ok so3 (D := D3) (code := code3) (n := 96) Tryz.func3 (by kernel_rfl) (by kernel_rfl) (by kernel_rfl) (fun w0 mu _ hs => (loops_of (l := []) (by kernel_rfl) (List.forall_mem_nil _))) t3_eq

end Go.TM
