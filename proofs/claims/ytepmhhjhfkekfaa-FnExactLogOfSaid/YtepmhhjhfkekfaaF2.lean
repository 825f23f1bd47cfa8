/- What the functions answer, as terms; their contracts. -/
import Derived.Test.YtepmhhjhfkekfaaF1
set_option linter.unusedSimpArgs false
set_option linter.unusedVariables false
namespace Go.TM
open Go Go.RowKit Go.Proofs

/-! ### f53: laws.heldMate -/
noncomputable def code53 : Code := match Try.f53.body with | some c => c | none => .skip
def ps53 : List AP := [.val true [.int .i64, .int .i64, .shr T_i, .shr T_iiis, .shr T_i, .shr T_s, .int .i64, .int .i64, .int .i64, .int .i64, .int .i64, .int .i64, .int .i64, .int .i64, .int .i64, .shr T_i], .val false [.int .i64]]
def rs53 : List RP := [{ src := .tmp 4, agg := false, ps := [.int .i64] }]
noncomputable def sl53 : SemL := [(54, (.shr, .shr, .shr, sem54)), (89, (.shr, .shr, .shr, sem89)), (18, (.shr, .shr, .shr, sem18)), (90, (.shr, .shr, .shr, sem90)), (91, (.shr, .shr, .shr, sem91))]
def D53 : Draws := fun _ => .nil
noncomputable def L53 {R : Type} : Loops R := fun _ _ _ _ => none
noncomputable def laws_heldMate (a0c0 : Int) (a0c1 : Int) (a0c2 : List (Int × Unit)) (a0c3 : List R_iiis) (a0c4 : List (Int × Unit)) (a0c5 : List (ByteArray × Unit)) (a0c6 : Int) (a0c7 : Int) (a0c8 : Int) (a0c9 : Int) (a0c10 : Int) (a0c11 : Int) (a0c12 : Int) (a0c13 : Int) (a0c14 : Int) (a0c15 : List (Int × Unit)) (k1 : Int) : Option (Int × Unit) :=
  Option.bind (laws_heldRing a0c1 a0c2 k1) fun y1 =>
  bif decide (y1.1 < (0 : Int)) then
    some ((-1 : Int), ())
  else
    Option.bind (laws_heldItemS a0c3 y1.1) fun y2 =>
    bif decide (y2.1 < (0 : Int)) then
      some ((-1 : Int), ())
    else
      Option.bind (laws_heldIntS a0c4 y2.1) fun y3 =>
      bif decide (y3.1 < (0 : Int)) then
        some ((-1 : Int), ())
      else
        Option.bind (laws_heldStringS a0c5 y3.1) fun y4 =>
        bif decide (y4.1 < (0 : Int)) then
          some ((-1 : Int), ())
        else
          Option.bind (laws_heldToken a0c10 a0c11 a0c12 a0c13 a0c14 a0c15 y4.1) fun y5 =>
          bif decide (y5.1 < (0 : Int)) then
            some ((-1 : Int), ())
          else
            some (y5.1, ())
noncomputable def x53 (x : Int × Int × (List (Int × Unit)) × (List R_iiis) × (List (Int × Unit)) × (List (ByteArray × Unit)) × Int × Int × Int × Int × Int × Int × Int × Int × Int × (List (Int × Unit)) × Int × Unit) : Option (Int × Unit) := laws_heldMate x.1 x.2.1 x.2.2.1 x.2.2.2.1 x.2.2.2.2.1 x.2.2.2.2.2.1 x.2.2.2.2.2.2.1 x.2.2.2.2.2.2.2.1 x.2.2.2.2.2.2.2.2.1 x.2.2.2.2.2.2.2.2.2.1 x.2.2.2.2.2.2.2.2.2.2.1 x.2.2.2.2.2.2.2.2.2.2.2.1 x.2.2.2.2.2.2.2.2.2.2.2.2.1 x.2.2.2.2.2.2.2.2.2.2.2.2.2.1 x.2.2.2.2.2.2.2.2.2.2.2.2.2.2.1 x.2.2.2.2.2.2.2.2.2.2.2.2.2.2.2.1 x.2.2.2.2.2.2.2.2.2.2.2.2.2.2.2.2.1
noncomputable def sem53 : Sem1 := semOf ps53 rs53 x53
theorem so53 : SemsOk Try.prog (semsOf sl53) := sems_cons k54 (sems_cons k89 (sems_cons k18 (sems_cons k90 (sems_cons k91 (sems_nil)))))
theorem t53_eq (x : denR (headRT (ps53.map some))) : codeK (tabOf tr) (semsOf sl53) D53 L53 code53 (start 36 ps53 x) (finK rs53 ps53) = x53 x := by kernel_rfl
theorem k53 : Known Try.prog 53 sem53 :=
  fn_auto tr_ok eq_ok mixed_ok so53 (D := D53) (code := code53) (n := 36) Try.func53 (by kernel_rfl) (by kernel_rfl) (by kernel_rfl) (fun w0 mu _ hs => (loops_of (l := []) (by kernel_rfl) (List.forall_mem_nil _))) t53_eq

/-! ### f55: laws.heldBundleS -/
noncomputable def code55 : Code := match Try.f55.body with | some c => c | none => .skip
def ps55 : List AP := [.val false [.shr T_iiiLiiisE], .val false [.int .i64]]
def rs55 : List RP := [{ src := .tmp 4, agg := false, ps := [.int .i64] }]
noncomputable def sl55 : SemL := [(89, (.shr, .shr, .shr, sem89))]
def D55 : Draws := fun _ => .nil
def hp55_0 : List (Option AP) := [some (.val false [.shr T_iiiLiiisE]), some (.val false [.int .i64]), none, none, none, some (.val false [.int .i64]), none, none, none, none, none, none, none, none, none, none, none, none, none, none, none, none, none, none, none, none, none, none, none, none, none, none, none, none, none, none, none, none, none, none, none, none, none, none, none, none, none, none, none, none]
def e55_0 : List (Option AP) := [none, some (.val false [.int .i64]), none, none, none, none, none, none, none, none, none, none, none, none, none, none, none, none, none, none, none, none, none, none, none, none, none, none, none, none, none, none, none, none, none, none, none, none, none, none, none, none, none, none, none, none, none, none, none, none]
def q55_0 : List (Option AP) := [none, none, none, none, some (.val false [.int .i64]), none, none, none, none, none, none, none, none, none, none, none, none, none, none, none, none, none, none, none, none, none, none, none, none, none, none, none, none, none, none, none, none, none, none, none, none, none, none, none, none, none, none, none, none, none]
abbrev H55_0 : Type := (List R_iiiLiiisE) × Int × Int × Unit
abbrev E55_0 : Type := Int × Unit
abbrev Q55_0 : Type := Int × Unit
noncomputable def laws_heldBundleS_c0 (a0 : List R_iiiLiiisE) (k1 : Int) (i5 : Int) : Option (Sum H55_0 (Sum E55_0 Q55_0)) :=
  bif decide (i5 < ((List.length a0 : Nat) : Int)) then
    bif decide ((0 : Int) ≤ i5) then Option.bind ((a0)[Int.toNat i5]?) fun r1 =>
      bif !decide (r1.1 = k1) then
        some (.inr (.inr ((-1 : Int), ())))
      else bif decide ((0 : Int) ≤ i5) then Option.bind ((a0)[Int.toNat i5]?) fun r2 =>
        bif !decide (r2.2.1 = IntKind.i64.wrap (k1 + (1 : Int))) then
          some (.inr (.inr ((-1 : Int), ())))
        else bif decide ((0 : Int) ≤ i5) then Option.bind ((a0)[Int.toNat i5]?) fun r3 =>
          bif !decide (r3.2.2.1 = IntKind.i64.wrap ((IntKind.i64.wrap (k1 + (1 : Int))) + (1 : Int))) then
            some (.inr (.inr ((-1 : Int), ())))
          else bif decide ((0 : Int) ≤ i5) then Option.bind ((a0)[Int.toNat i5]?) fun r4 =>
            Option.bind (laws_heldItemS r4.2.2.2.1 (IntKind.i64.wrap ((IntKind.i64.wrap ((IntKind.i64.wrap (k1 + (1 : Int))) + (1 : Int))) + (1 : Int)))) fun y5 =>
            bif decide (y5.1 < (0 : Int)) then
              some (.inr (.inr ((-1 : Int), ())))
            else
              some (.inl (a0, y5.1, IntKind.i64.wrap (i5 + (1 : Int)), ()))
          else none
        else none
      else none
    else none
  else
    some (.inr (.inl (k1, ())))
noncomputable def laws_heldBundleS_r0 (x : H55_0) : Option (Sum H55_0 (Sum E55_0 Q55_0)) := laws_heldBundleS_c0 x.1 x.2.1 x.2.2.1
noncomputable def L55 {R : Type} : Loops R := fun id _ st k => bif Nat.beq id 0 then loopAt hp55_0 e55_0 q55_0 laws_heldBundleS_r0 st k else none
noncomputable def laws_heldBundleS (a0 : List R_iiiLiiisE) (k1 : Int) : Option (Int × Unit) :=
  outK (loopV laws_heldBundleS_r0 (a0, k1, (0 : Int), ())) (fun y1 =>
    some (y1.1, ())) (fun y2 =>
    some (y2.1, ()))
noncomputable def x55 (x : (List R_iiiLiiisE) × Int × Unit) : Option (Int × Unit) := laws_heldBundleS x.1 x.2.1
noncomputable def sem55 : Sem1 := semOf ps55 rs55 x55
theorem so55 : SemsOk Try.prog (semsOf sl55) := sems_cons k89 (sems_nil)
noncomputable def b55_0 : Code := nthLoop code55 0
theorem t55_r0_eq (x : denR (headRT hp55_0)) : codeK (tabOf tr) (semsOf sl55) D55 L55 b55_0 (headSt hp55_0 x) (roundK 0 hp55_0 e55_0 q55_0) = laws_heldBundleS_r0 x := by kernel_rfl
theorem loop55_0 {R : Type} (r : R) (w0 : World) (mu : Mu) (hs : AnShape ps55 mu) : LoopAt Try.prog w0 mu 49 (L55 : Loops R) r 0 b55_0 :=
  loop_auto tr_ok eq_ok mixed_ok so55 (D := D55) hs (by kernel_rfl) (fun _ => (loops_of (l := []) (by kernel_rfl) (List.forall_mem_nil _))) t55_r0_eq (fun _ _ => rfl)
theorem t55_eq (x : denR (headRT (ps55.map some))) : codeK (tabOf tr) (semsOf sl55) D55 L55 code55 (start 49 ps55 x) (finK rs55 ps55) = x55 x := by kernel_rfl
theorem k55 : Known Try.prog 55 sem55 :=
  fn_auto tr_ok eq_ok mixed_ok so55 (D := D55) (code := code55) (n := 49) Try.func55 (by kernel_rfl) (by kernel_rfl) (by kernel_rfl) (fun w0 mu _ hs => (loops_of (l := [(0, b55_0)]) (by kernel_rfl) (List.forall_mem_cons.2 ⟨loop55_0 _ w0 mu hs, (List.forall_mem_nil _)⟩))) t55_eq

/-! ### f34: laws.heldEventS -/
noncomputable def code34 : Code := match Try.f34.body with | some c => c | none => .skip
def ps34 : List AP := [.val false [.shr T_iiLiEiiisLiE], .val false [.int .i64]]
def rs34 : List RP := [{ src := .tmp 4, agg := false, ps := [.int .i64] }]
noncomputable def sl34 : SemL := [(18, (.shr, .shr, .shr, sem18)), (71, (.shr, .shr, .shr, sem71))]
def D34 : Draws := fun id => bif Nat.beq id 22 then .op 0 .any (.op 1 .any (.op 2 .any (.op 3 .any (.op 4 .any (.op 5 .take (.op 6 .any (.op 7 .one (.op 8 .any (.nil))))))))) else .nil
def hp34_0 : List (Option AP) := [some (.val false [.shr T_iiLiEiiisLiE]), some (.val false [.int .i64]), none, none, none, some (.val false [.int .i64]), none, none, none, none, none, none, none, none, none, none, none, none, none, none, none, none, none, none, none, none, none, none, none, none, none, none, none, none, none, none, none, none, none, none, none, none, none, none, none, none, none, none, none, none, none, none, none, none, none, none, none, none, none, none, none, none, none, none, none, none, none, none, none, none, none, none, none, none, none, none, none, none, none, none, none, none, none, none, none, none, none, none, none, none, none, none, none]
def e34_0 : List (Option AP) := [none, some (.val false [.int .i64]), none, none, none, none, none, none, none, none, none, none, none, none, none, none, none, none, none, none, none, none, none, none, none, none, none, none, none, none, none, none, none, none, none, none, none, none, none, none, none, none, none, none, none, none, none, none, none, none, none, none, none, none, none, none, none, none, none, none, none, none, none, none, none, none, none, none, none, none, none, none, none, none, none, none, none, none, none, none, none, none, none, none, none, none, none, none, none, none, none, none, none]
def q34_0 : List (Option AP) := [none, none, none, none, some (.val false [.int .i64]), none, none, none, none, none, none, none, none, none, none, none, none, none, none, none, none, none, none, none, none, none, none, none, none, none, none, none, none, none, none, none, none, none, none, none, none, none, none, none, none, none, none, none, none, none, none, none, none, none, none, none, none, none, none, none, none, none, none, none, none, none, none, none, none, none, none, none, none, none, none, none, none, none, none, none, none, none, none, none, none, none, none, none, none, none, none, none, none]
abbrev H34_0 : Type := (List R_iiLiEiiisLiE) × Int × Int × Unit
abbrev E34_0 : Type := Int × Unit
abbrev Q34_0 : Type := Int × Unit
noncomputable def laws_heldEventS_c0 (a0 : List R_iiLiEiiisLiE) (k1 : Int) (i5 : Int) : Option (Sum H34_0 (Sum E34_0 Q34_0)) :=
  bif decide (i5 < ((List.length a0 : Nat) : Int)) then
    bif decide ((0 : Int) ≤ i5) then Option.bind ((a0)[Int.toNat i5]?) fun r1 =>
      bif !decide (r1.1 = k1) then
        some (.inr (.inr ((-1 : Int), ())))
      else bif decide ((0 : Int) ≤ i5) then Option.bind ((a0)[Int.toNat i5]?) fun r2 =>
        bif !decide (r2.2.1 = IntKind.i64.wrap (k1 + (1 : Int))) then
          some (.inr (.inr ((-1 : Int), ())))
        else bif decide ((0 : Int) ≤ i5) then Option.bind ((a0)[Int.toNat i5]?) fun r3 =>
          Option.bind (laws_heldIntS r3.2.2.1 (IntKind.i64.wrap ((IntKind.i64.wrap (k1 + (1 : Int))) + (1 : Int)))) fun y4 =>
          bif decide (y4.1 < (0 : Int)) then
            some (.inr (.inr ((-1 : Int), ())))
          else bif decide ((0 : Int) ≤ i5) then Option.bind ((a0)[Int.toNat i5]?) fun r5 =>
            bif !decide (r5.2.2.2.1 = y4.1) then
              some (.inr (.inr ((-1 : Int), ())))
            else bif decide ((0 : Int) ≤ i5) then Option.bind ((a0)[Int.toNat i5]?) fun r6 =>
              bif !decide (r6.2.2.2.2.1 = IntKind.i64.wrap (y4.1 + (1 : Int))) then
                some (.inr (.inr ((-1 : Int), ())))
              else bif decide ((0 : Int) ≤ i5) then Option.bind ((a0)[Int.toNat i5]?) fun r7 =>
                bif !decide (r7.2.2.2.2.2.1 = IntKind.i64.wrap ((IntKind.i64.wrap (y4.1 + (1 : Int))) + (1 : Int))) then
                  some (.inr (.inr ((-1 : Int), ())))
                else bif decide ((0 : Int) ≤ i5) then Option.bind ((a0)[Int.toNat i5]?) fun r8 =>
                  Option.bind (laws_markText (IntKind.i64.wrap ((IntKind.i64.wrap ((IntKind.i64.wrap (y4.1 + (1 : Int))) + (1 : Int))) + (1 : Int)))) fun y9 =>
                  bif !strEq r8.2.2.2.2.2.2.1 y9.1 then
                    some (.inr (.inr ((-1 : Int), ())))
                  else bif decide ((0 : Int) ≤ i5) then Option.bind ((a0)[Int.toNat i5]?) fun r10 =>
                    Option.bind (laws_heldIntS r10.2.2.2.2.2.2.2.1 (IntKind.i64.wrap ((IntKind.i64.wrap ((IntKind.i64.wrap ((IntKind.i64.wrap (y4.1 + (1 : Int))) + (1 : Int))) + (1 : Int))) + (1 : Int)))) fun y11 =>
                    bif decide (y11.1 < (0 : Int)) then
                      some (.inr (.inr ((-1 : Int), ())))
                    else
                      some (.inl (a0, y11.1, IntKind.i64.wrap (i5 + (1 : Int)), ()))
                  else none
                else none
              else none
            else none
          else none
        else none
      else none
    else none
  else
    some (.inr (.inl (k1, ())))
noncomputable def laws_heldEventS_r0 (x : H34_0) : Option (Sum H34_0 (Sum E34_0 Q34_0)) := laws_heldEventS_c0 x.1 x.2.1 x.2.2.1
noncomputable def L34 {R : Type} : Loops R := fun id _ st k => bif Nat.beq id 0 then loopAt hp34_0 e34_0 q34_0 laws_heldEventS_r0 st k else none
noncomputable def laws_heldEventS (a0 : List R_iiLiEiiisLiE) (k1 : Int) : Option (Int × Unit) :=
  outK (loopV laws_heldEventS_r0 (a0, k1, (0 : Int), ())) (fun y1 =>
    some (y1.1, ())) (fun y2 =>
    some (y2.1, ()))
noncomputable def x34 (x : (List R_iiLiEiiisLiE) × Int × Unit) : Option (Int × Unit) := laws_heldEventS x.1 x.2.1
noncomputable def sem34 : Sem1 := semOf ps34 rs34 x34
theorem so34 : SemsOk Try.prog (semsOf sl34) := sems_cons k18 (sems_cons k71 (sems_nil))
noncomputable def b34_0 : Code := nthLoop code34 0
theorem t34_r0_eq (x : denR (headRT hp34_0)) : codeK (tabOf tr) (semsOf sl34) D34 L34 b34_0 (headSt hp34_0 x) (roundK 0 hp34_0 e34_0 q34_0) = laws_heldEventS_r0 x := by kernel_rfl
theorem loop34_0 {R : Type} (r : R) (w0 : World) (mu : Mu) (hs : AnShape ps34 mu) : LoopAt Try.prog w0 mu 92 (L34 : Loops R) r 0 b34_0 :=
  loop_auto tr_ok eq_ok mixed_ok so34 (D := D34) hs (by kernel_rfl) (fun _ => (loops_of (l := []) (by kernel_rfl) (List.forall_mem_nil _))) t34_r0_eq (fun _ _ => rfl)
theorem t34_eq (x : denR (headRT (ps34.map some))) : codeK (tabOf tr) (semsOf sl34) D34 L34 code34 (start 92 ps34 x) (finK rs34 ps34) = x34 x := by kernel_rfl
theorem k34 : Known Try.prog 34 sem34 :=
  fn_auto tr_ok eq_ok mixed_ok so34 (D := D34) (code := code34) (n := 92) Try.func34 (by kernel_rfl) (by kernel_rfl) (by kernel_rfl) (fun w0 mu _ hs => (loops_of (l := [(0, b34_0)]) (by kernel_rfl) (List.forall_mem_cons.2 ⟨loop34_0 _ w0 mu hs, (List.forall_mem_nil _)⟩))) t34_eq

/-! ### f25: laws.heldDaemon -/
noncomputable def code25 : Code := match Try.f25.body with | some c => c | none => .skip
def ps25 : List AP := [.val true [.int .i64, .bool, .int .i64, .int .i64, .shr T_i, .shr T_iiis, .shr T_i, .shr T_s, .int .i64, .int .i64, .int .i64, .int .i64, .int .i64, .int .i64, .int .i64, .int .i64, .int .i64, .shr T_i, .int .i64, .int .i64, .int .i64, .shr T_i, .shr T_iiiLiiisE, .shr T_iiLiEiiisLiE], .val false [.int .i64]]
def rs25 : List RP := [{ src := .tmp 4, agg := false, ps := [.int .i64] }]
noncomputable def sl25 : SemL := [(53, (.shr, .shr, .shr, sem53)), (54, (.shr, .shr, .shr, sem54)), (55, (.shr, .shr, .shr, sem55)), (34, (.shr, .shr, .shr, sem34))]
def D25 : Draws := fun _ => .nil
noncomputable def L25 {R : Type} : Loops R := fun _ _ _ _ => none
noncomputable def laws_heldDaemon (a0c0 : Int) (a0c1 : Bool) (a0c2 : Int) (a0c3 : Int) (a0c4 : List (Int × Unit)) (a0c5 : List R_iiis) (a0c6 : List (Int × Unit)) (a0c7 : List (ByteArray × Unit)) (a0c8 : Int) (a0c9 : Int) (a0c10 : Int) (a0c11 : Int) (a0c12 : Int) (a0c13 : Int) (a0c14 : Int) (a0c15 : Int) (a0c16 : Int) (a0c17 : List (Int × Unit)) (a0c18 : Int) (a0c19 : Int) (a0c20 : Int) (a0c21 : List (Int × Unit)) (a0c22 : List R_iiiLiiisE) (a0c23 : List R_iiLiEiiisLiE) (k1 : Int) : Option (Int × Unit) :=
  Option.bind (laws_heldMate a0c2 a0c3 a0c4 a0c5 a0c6 a0c7 a0c8 a0c9 a0c10 a0c11 a0c12 a0c13 a0c14 a0c15 a0c16 a0c17 k1) fun y1 =>
  bif decide (y1.1 < (0 : Int)) then
    some ((-1 : Int), ())
  else
    Option.bind (laws_heldRing a0c20 a0c21 y1.1) fun y2 =>
    bif decide (y2.1 < (0 : Int)) then
      some ((-1 : Int), ())
    else
      Option.bind (laws_heldBundleS a0c22 y2.1) fun y3 =>
      bif decide (y3.1 < (0 : Int)) then
        some ((-1 : Int), ())
      else
        Option.bind (laws_heldEventS a0c23 y3.1) fun y4 =>
        bif decide (y4.1 < (0 : Int)) then
          some ((-1 : Int), ())
        else
          some (y4.1, ())
noncomputable def x25 (x : Int × Bool × Int × Int × (List (Int × Unit)) × (List R_iiis) × (List (Int × Unit)) × (List (ByteArray × Unit)) × Int × Int × Int × Int × Int × Int × Int × Int × Int × (List (Int × Unit)) × Int × Int × Int × (List (Int × Unit)) × (List R_iiiLiiisE) × (List R_iiLiEiiisLiE) × Int × Unit) : Option (Int × Unit) := laws_heldDaemon x.1 x.2.1 x.2.2.1 x.2.2.2.1 x.2.2.2.2.1 x.2.2.2.2.2.1 x.2.2.2.2.2.2.1 x.2.2.2.2.2.2.2.1 x.2.2.2.2.2.2.2.2.1 x.2.2.2.2.2.2.2.2.2.1 x.2.2.2.2.2.2.2.2.2.2.1 x.2.2.2.2.2.2.2.2.2.2.2.1 x.2.2.2.2.2.2.2.2.2.2.2.2.1 x.2.2.2.2.2.2.2.2.2.2.2.2.2.1 x.2.2.2.2.2.2.2.2.2.2.2.2.2.2.1 x.2.2.2.2.2.2.2.2.2.2.2.2.2.2.2.1 x.2.2.2.2.2.2.2.2.2.2.2.2.2.2.2.2.1 x.2.2.2.2.2.2.2.2.2.2.2.2.2.2.2.2.2.1 x.2.2.2.2.2.2.2.2.2.2.2.2.2.2.2.2.2.2.1 x.2.2.2.2.2.2.2.2.2.2.2.2.2.2.2.2.2.2.2.1 x.2.2.2.2.2.2.2.2.2.2.2.2.2.2.2.2.2.2.2.2.1 x.2.2.2.2.2.2.2.2.2.2.2.2.2.2.2.2.2.2.2.2.2.1 x.2.2.2.2.2.2.2.2.2.2.2.2.2.2.2.2.2.2.2.2.2.2.1 x.2.2.2.2.2.2.2.2.2.2.2.2.2.2.2.2.2.2.2.2.2.2.2.1 x.2.2.2.2.2.2.2.2.2.2.2.2.2.2.2.2.2.2.2.2.2.2.2.2.1
noncomputable def sem25 : Sem1 := semOf ps25 rs25 x25
theorem so25 : SemsOk Try.prog (semsOf sl25) := sems_cons k53 (sems_cons k54 (sems_cons k55 (sems_cons k34 (sems_nil))))
theorem t25_eq (x : denR (headRT (ps25.map some))) : codeK (tabOf tr) (semsOf sl25) D25 L25 code25 (start 30 ps25 x) (finK rs25 ps25) = x25 x := by kernel_rfl
theorem k25 : Known Try.prog 25 sem25 :=
  fn_auto tr_ok eq_ok mixed_ok so25 (D := D25) (code := code25) (n := 30) Try.func25 (by kernel_rfl) (by kernel_rfl) (by kernel_rfl) (fun w0 mu _ hs => (loops_of (l := []) (by kernel_rfl) (List.forall_mem_nil _))) t25_eq

/-! ### f4: laws.FnExactCrash -/
noncomputable def code4 : Code := match Try.f4.body with | some c => c | none => .skip
def ps4 : List AP := [.val true [.int .i64, .bool, .int .i64, .int .i64, .shr T_i, .shr T_iiis, .shr T_i, .shr T_s, .int .i64, .int .i64, .int .i64, .int .i64, .int .i64, .int .i64, .int .i64, .int .i64, .int .i64, .shr T_i, .int .i64, .int .i64, .int .i64, .shr T_i, .shr T_iiiLiiisE, .shr T_iiLiEiiisLiE]]
def rs4 : List RP := [{ src := .tmp 2, agg := false, ps := [.bool] }]
noncomputable def sl4 : SemL := [(19, (.shr, .shr, .shr, sem19)), (21, (.shr, .shr, .shr, sem21)), (20, (.shr, .shr, .shr, sem20)), (22, (.shr, .shr, .shr, sem22)), (23, (.shr, .shr, .shr, sem23)), (24, (.lend, .shr, .shr, sem24)), (25, (.shr, .shr, .shr, sem25))]
def D4 : Draws := fun id => bif Nat.beq id 10 then .op 0 .take (.op 1 .take (.op 2 .one (.op 3 .one (.op 4 .any (.nil))))) else .nil
noncomputable def L4 {R : Type} : Loops R := fun _ _ _ _ => none
noncomputable def laws_FnExactCrash (aD0c0 : Int) (aD0c1 : Bool) (aD0c2 : Int) (aD0c3 : Int) (aD0c4 : List (Int × Unit)) (aD0c5 : List R_iiis) (aD0c6 : List (Int × Unit)) (aD0c7 : List (ByteArray × Unit)) (aD0c8 : Int) (aD0c9 : Int) (aD0c10 : Int) (aD0c11 : Int) (aD0c12 : Int) (aD0c13 : Int) (aD0c14 : Int) (aD0c15 : Int) (aD0c16 : Int) (aD0c17 : List (Int × Unit)) (aD0c18 : Int) (aD0c19 : Int) (aD0c20 : Int) (aD0c21 : List (Int × Unit)) (aD0c22 : List R_iiiLiiisE) (aD0c23 : List R_iiLiEiiisLiE) : Option (Bool × Unit) :=
  Option.bind (laws_szDaemon aD0c0 aD0c1 aD0c2 aD0c3 aD0c4 aD0c5 aD0c6 aD0c7 aD0c8 aD0c9 aD0c10 aD0c11 aD0c12 aD0c13 aD0c14 aD0c15 aD0c16 aD0c17 aD0c18 aD0c19 aD0c20 aD0c21 aD0c22 aD0c23 (1048576 : Int)) fun y1 =>
  bif decide (y1.1 < (0 : Int)) then
    some (true, ())
  else
    Option.bind (laws_toDaemon aD0c0 aD0c1 aD0c2 aD0c3 aD0c4 aD0c5 aD0c6 aD0c7 aD0c8 aD0c9 aD0c10 aD0c11 aD0c12 aD0c13 aD0c14 aD0c15 aD0c16 aD0c17 aD0c18 aD0c19 aD0c20 aD0c21 aD0c22 aD0c23) fun y2 =>
    Option.bind (spec_Crash y2.1 y2.2.1 y2.2.2.1 y2.2.2.2.1 y2.2.2.2.2.1 y2.2.2.2.2.2.1 y2.2.2.2.2.2.2.1 y2.2.2.2.2.2.2.2.1 y2.2.2.2.2.2.2.2.2.1 y2.2.2.2.2.2.2.2.2.2.1 y2.2.2.2.2.2.2.2.2.2.2.1 y2.2.2.2.2.2.2.2.2.2.2.2.1 y2.2.2.2.2.2.2.2.2.2.2.2.2.1 y2.2.2.2.2.2.2.2.2.2.2.2.2.2.1 y2.2.2.2.2.2.2.2.2.2.2.2.2.2.2.1 y2.2.2.2.2.2.2.2.2.2.2.2.2.2.2.2.1 y2.2.2.2.2.2.2.2.2.2.2.2.2.2.2.2.2.1 y2.2.2.2.2.2.2.2.2.2.2.2.2.2.2.2.2.2.1 y2.2.2.2.2.2.2.2.2.2.2.2.2.2.2.2.2.2.2.1 y2.2.2.2.2.2.2.2.2.2.2.2.2.2.2.2.2.2.2.2.1 y2.2.2.2.2.2.2.2.2.2.2.2.2.2.2.2.2.2.2.2.2.1 y2.2.2.2.2.2.2.2.2.2.2.2.2.2.2.2.2.2.2.2.2.2.1 y2.2.2.2.2.2.2.2.2.2.2.2.2.2.2.2.2.2.2.2.2.2.2.1 y2.2.2.2.2.2.2.2.2.2.2.2.2.2.2.2.2.2.2.2.2.2.2.2.1) fun y3 =>
    Option.bind (laws_toDaemon aD0c0 aD0c1 aD0c2 aD0c3 aD0c4 aD0c5 aD0c6 aD0c7 aD0c8 aD0c9 aD0c10 aD0c11 aD0c12 aD0c13 aD0c14 aD0c15 aD0c16 aD0c17 aD0c18 aD0c19 aD0c20 aD0c21 aD0c22 aD0c23) fun y4 =>
    Option.bind (impl_Crash y4.1 y4.2.1 y4.2.2.1 y4.2.2.2.1 y4.2.2.2.2.1 y4.2.2.2.2.2.1 y4.2.2.2.2.2.2.1 y4.2.2.2.2.2.2.2.1 y4.2.2.2.2.2.2.2.2.1 y4.2.2.2.2.2.2.2.2.2.1 y4.2.2.2.2.2.2.2.2.2.2.1 y4.2.2.2.2.2.2.2.2.2.2.2.1 y4.2.2.2.2.2.2.2.2.2.2.2.2.1 y4.2.2.2.2.2.2.2.2.2.2.2.2.2.1 y4.2.2.2.2.2.2.2.2.2.2.2.2.2.2.1 y4.2.2.2.2.2.2.2.2.2.2.2.2.2.2.2.1 y4.2.2.2.2.2.2.2.2.2.2.2.2.2.2.2.2.1 y4.2.2.2.2.2.2.2.2.2.2.2.2.2.2.2.2.2.1 y4.2.2.2.2.2.2.2.2.2.2.2.2.2.2.2.2.2.2.1 y4.2.2.2.2.2.2.2.2.2.2.2.2.2.2.2.2.2.2.2.1 y4.2.2.2.2.2.2.2.2.2.2.2.2.2.2.2.2.2.2.2.2.1 y4.2.2.2.2.2.2.2.2.2.2.2.2.2.2.2.2.2.2.2.2.2.1 y4.2.2.2.2.2.2.2.2.2.2.2.2.2.2.2.2.2.2.2.2.2.2.1 y4.2.2.2.2.2.2.2.2.2.2.2.2.2.2.2.2.2.2.2.2.2.2.2.1) fun y5 =>
    Option.bind (laws_eqDaemon y5.1 y5.2.1 y5.2.2.1 y5.2.2.2.1 y5.2.2.2.2.1 y5.2.2.2.2.2.1 y5.2.2.2.2.2.2.1 y5.2.2.2.2.2.2.2.1 y5.2.2.2.2.2.2.2.2.1 y5.2.2.2.2.2.2.2.2.2.1 y5.2.2.2.2.2.2.2.2.2.2.1 y5.2.2.2.2.2.2.2.2.2.2.2.1 y5.2.2.2.2.2.2.2.2.2.2.2.2.1 y5.2.2.2.2.2.2.2.2.2.2.2.2.2.1 y5.2.2.2.2.2.2.2.2.2.2.2.2.2.2.1 y5.2.2.2.2.2.2.2.2.2.2.2.2.2.2.2.1 y5.2.2.2.2.2.2.2.2.2.2.2.2.2.2.2.2.1 y5.2.2.2.2.2.2.2.2.2.2.2.2.2.2.2.2.2.1 y5.2.2.2.2.2.2.2.2.2.2.2.2.2.2.2.2.2.2.1 y5.2.2.2.2.2.2.2.2.2.2.2.2.2.2.2.2.2.2.2.1 y5.2.2.2.2.2.2.2.2.2.2.2.2.2.2.2.2.2.2.2.2.1 y5.2.2.2.2.2.2.2.2.2.2.2.2.2.2.2.2.2.2.2.2.2.1 y5.2.2.2.2.2.2.2.2.2.2.2.2.2.2.2.2.2.2.2.2.2.2.1 y5.2.2.2.2.2.2.2.2.2.2.2.2.2.2.2.2.2.2.2.2.2.2.2.1 y3.1 y3.2.1 y3.2.2.1 y3.2.2.2.1 y3.2.2.2.2.1 y3.2.2.2.2.2.1 y3.2.2.2.2.2.2.1 y3.2.2.2.2.2.2.2.1 y3.2.2.2.2.2.2.2.2.1 y3.2.2.2.2.2.2.2.2.2.1 y3.2.2.2.2.2.2.2.2.2.2.1 y3.2.2.2.2.2.2.2.2.2.2.2.1 y3.2.2.2.2.2.2.2.2.2.2.2.2.1 y3.2.2.2.2.2.2.2.2.2.2.2.2.2.1 y3.2.2.2.2.2.2.2.2.2.2.2.2.2.2.1 y3.2.2.2.2.2.2.2.2.2.2.2.2.2.2.2.1 y3.2.2.2.2.2.2.2.2.2.2.2.2.2.2.2.2.1 y3.2.2.2.2.2.2.2.2.2.2.2.2.2.2.2.2.2.1 y3.2.2.2.2.2.2.2.2.2.2.2.2.2.2.2.2.2.2.1 y3.2.2.2.2.2.2.2.2.2.2.2.2.2.2.2.2.2.2.2.1 y3.2.2.2.2.2.2.2.2.2.2.2.2.2.2.2.2.2.2.2.2.1 y3.2.2.2.2.2.2.2.2.2.2.2.2.2.2.2.2.2.2.2.2.2.1 y3.2.2.2.2.2.2.2.2.2.2.2.2.2.2.2.2.2.2.2.2.2.2.1 y3.2.2.2.2.2.2.2.2.2.2.2.2.2.2.2.2.2.2.2.2.2.2.2.1) fun y6 =>
    bif !y6.1 then
      some (false, ())
    else
      Option.bind (laws_toDaemon aD0c0 aD0c1 aD0c2 aD0c3 aD0c4 aD0c5 aD0c6 aD0c7 aD0c8 aD0c9 aD0c10 aD0c11 aD0c12 aD0c13 aD0c14 aD0c15 aD0c16 aD0c17 aD0c18 aD0c19 aD0c20 aD0c21 aD0c22 aD0c23) fun y7 =>
      Option.bind (laws_eqDaemon y4.1 y4.2.1 y4.2.2.1 y4.2.2.2.1 y4.2.2.2.2.1 y4.2.2.2.2.2.1 y4.2.2.2.2.2.2.1 y4.2.2.2.2.2.2.2.1 y4.2.2.2.2.2.2.2.2.1 y4.2.2.2.2.2.2.2.2.2.1 y4.2.2.2.2.2.2.2.2.2.2.1 y4.2.2.2.2.2.2.2.2.2.2.2.1 y4.2.2.2.2.2.2.2.2.2.2.2.2.1 y4.2.2.2.2.2.2.2.2.2.2.2.2.2.1 y4.2.2.2.2.2.2.2.2.2.2.2.2.2.2.1 y4.2.2.2.2.2.2.2.2.2.2.2.2.2.2.2.1 y4.2.2.2.2.2.2.2.2.2.2.2.2.2.2.2.2.1 y4.2.2.2.2.2.2.2.2.2.2.2.2.2.2.2.2.2.1 y4.2.2.2.2.2.2.2.2.2.2.2.2.2.2.2.2.2.2.1 y4.2.2.2.2.2.2.2.2.2.2.2.2.2.2.2.2.2.2.2.1 y4.2.2.2.2.2.2.2.2.2.2.2.2.2.2.2.2.2.2.2.2.1 y4.2.2.2.2.2.2.2.2.2.2.2.2.2.2.2.2.2.2.2.2.2.1 y4.2.2.2.2.2.2.2.2.2.2.2.2.2.2.2.2.2.2.2.2.2.2.1 y4.2.2.2.2.2.2.2.2.2.2.2.2.2.2.2.2.2.2.2.2.2.2.2.1 y7.1 y7.2.1 y7.2.2.1 y7.2.2.2.1 y7.2.2.2.2.1 y7.2.2.2.2.2.1 y7.2.2.2.2.2.2.1 y7.2.2.2.2.2.2.2.1 y7.2.2.2.2.2.2.2.2.1 y7.2.2.2.2.2.2.2.2.2.1 y7.2.2.2.2.2.2.2.2.2.2.1 y7.2.2.2.2.2.2.2.2.2.2.2.1 y7.2.2.2.2.2.2.2.2.2.2.2.2.1 y7.2.2.2.2.2.2.2.2.2.2.2.2.2.1 y7.2.2.2.2.2.2.2.2.2.2.2.2.2.2.1 y7.2.2.2.2.2.2.2.2.2.2.2.2.2.2.2.1 y7.2.2.2.2.2.2.2.2.2.2.2.2.2.2.2.2.1 y7.2.2.2.2.2.2.2.2.2.2.2.2.2.2.2.2.2.1 y7.2.2.2.2.2.2.2.2.2.2.2.2.2.2.2.2.2.2.1 y7.2.2.2.2.2.2.2.2.2.2.2.2.2.2.2.2.2.2.2.1 y7.2.2.2.2.2.2.2.2.2.2.2.2.2.2.2.2.2.2.2.2.1 y7.2.2.2.2.2.2.2.2.2.2.2.2.2.2.2.2.2.2.2.2.2.1 y7.2.2.2.2.2.2.2.2.2.2.2.2.2.2.2.2.2.2.2.2.2.2.1 y7.2.2.2.2.2.2.2.2.2.2.2.2.2.2.2.2.2.2.2.2.2.2.2.1) fun y8 =>
      bif !y8.1 then
        some (false, ())
      else
        Option.bind (laws_markDaemon y4.1 y4.2.1 y4.2.2.1 y4.2.2.2.1 y4.2.2.2.2.1 y4.2.2.2.2.2.1 y4.2.2.2.2.2.2.1 y4.2.2.2.2.2.2.2.1 y4.2.2.2.2.2.2.2.2.1 y4.2.2.2.2.2.2.2.2.2.1 y4.2.2.2.2.2.2.2.2.2.2.1 y4.2.2.2.2.2.2.2.2.2.2.2.1 y4.2.2.2.2.2.2.2.2.2.2.2.2.1 y4.2.2.2.2.2.2.2.2.2.2.2.2.2.1 y4.2.2.2.2.2.2.2.2.2.2.2.2.2.2.1 y4.2.2.2.2.2.2.2.2.2.2.2.2.2.2.2.1 y4.2.2.2.2.2.2.2.2.2.2.2.2.2.2.2.2.1 y4.2.2.2.2.2.2.2.2.2.2.2.2.2.2.2.2.2.1 y4.2.2.2.2.2.2.2.2.2.2.2.2.2.2.2.2.2.2.1 y4.2.2.2.2.2.2.2.2.2.2.2.2.2.2.2.2.2.2.2.1 y4.2.2.2.2.2.2.2.2.2.2.2.2.2.2.2.2.2.2.2.2.1 y4.2.2.2.2.2.2.2.2.2.2.2.2.2.2.2.2.2.2.2.2.2.1 y4.2.2.2.2.2.2.2.2.2.2.2.2.2.2.2.2.2.2.2.2.2.2.1 y4.2.2.2.2.2.2.2.2.2.2.2.2.2.2.2.2.2.2.2.2.2.2.2.1 (1 : Int)) fun y9 =>
        bif decide (y9.1 < (0 : Int)) then
          some (false, ())
        else
          Option.bind (laws_eqDaemon y5.1 y5.2.1 y5.2.2.1 y5.2.2.2.1 y5.2.2.2.2.1 y5.2.2.2.2.2.1 y5.2.2.2.2.2.2.1 y5.2.2.2.2.2.2.2.1 y5.2.2.2.2.2.2.2.2.1 y5.2.2.2.2.2.2.2.2.2.1 y5.2.2.2.2.2.2.2.2.2.2.1 y5.2.2.2.2.2.2.2.2.2.2.2.1 y5.2.2.2.2.2.2.2.2.2.2.2.2.1 y5.2.2.2.2.2.2.2.2.2.2.2.2.2.1 y5.2.2.2.2.2.2.2.2.2.2.2.2.2.2.1 y5.2.2.2.2.2.2.2.2.2.2.2.2.2.2.2.1 y5.2.2.2.2.2.2.2.2.2.2.2.2.2.2.2.2.1 y5.2.2.2.2.2.2.2.2.2.2.2.2.2.2.2.2.2.1 y5.2.2.2.2.2.2.2.2.2.2.2.2.2.2.2.2.2.2.1 y5.2.2.2.2.2.2.2.2.2.2.2.2.2.2.2.2.2.2.2.1 y5.2.2.2.2.2.2.2.2.2.2.2.2.2.2.2.2.2.2.2.2.1 y5.2.2.2.2.2.2.2.2.2.2.2.2.2.2.2.2.2.2.2.2.2.1 y5.2.2.2.2.2.2.2.2.2.2.2.2.2.2.2.2.2.2.2.2.2.2.1 y5.2.2.2.2.2.2.2.2.2.2.2.2.2.2.2.2.2.2.2.2.2.2.2.1 y3.1 y3.2.1 y3.2.2.1 y3.2.2.2.1 y3.2.2.2.2.1 y3.2.2.2.2.2.1 y3.2.2.2.2.2.2.1 y3.2.2.2.2.2.2.2.1 y3.2.2.2.2.2.2.2.2.1 y3.2.2.2.2.2.2.2.2.2.1 y3.2.2.2.2.2.2.2.2.2.2.1 y3.2.2.2.2.2.2.2.2.2.2.2.1 y3.2.2.2.2.2.2.2.2.2.2.2.2.1 y3.2.2.2.2.2.2.2.2.2.2.2.2.2.1 y3.2.2.2.2.2.2.2.2.2.2.2.2.2.2.1 y3.2.2.2.2.2.2.2.2.2.2.2.2.2.2.2.1 y3.2.2.2.2.2.2.2.2.2.2.2.2.2.2.2.2.1 y3.2.2.2.2.2.2.2.2.2.2.2.2.2.2.2.2.2.1 y3.2.2.2.2.2.2.2.2.2.2.2.2.2.2.2.2.2.2.1 y3.2.2.2.2.2.2.2.2.2.2.2.2.2.2.2.2.2.2.2.1 y3.2.2.2.2.2.2.2.2.2.2.2.2.2.2.2.2.2.2.2.2.1 y3.2.2.2.2.2.2.2.2.2.2.2.2.2.2.2.2.2.2.2.2.2.1 y3.2.2.2.2.2.2.2.2.2.2.2.2.2.2.2.2.2.2.2.2.2.2.1 y3.2.2.2.2.2.2.2.2.2.2.2.2.2.2.2.2.2.2.2.2.2.2.2.1) fun y10 =>
          bif !y10.1 then
            some (false, ())
          else
            Option.bind (laws_markDaemon y5.1 y5.2.1 y5.2.2.1 y5.2.2.2.1 y5.2.2.2.2.1 y5.2.2.2.2.2.1 y5.2.2.2.2.2.2.1 y5.2.2.2.2.2.2.2.1 y5.2.2.2.2.2.2.2.2.1 y5.2.2.2.2.2.2.2.2.2.1 y5.2.2.2.2.2.2.2.2.2.2.1 y5.2.2.2.2.2.2.2.2.2.2.2.1 y5.2.2.2.2.2.2.2.2.2.2.2.2.1 y5.2.2.2.2.2.2.2.2.2.2.2.2.2.1 y5.2.2.2.2.2.2.2.2.2.2.2.2.2.2.1 y5.2.2.2.2.2.2.2.2.2.2.2.2.2.2.2.1 y5.2.2.2.2.2.2.2.2.2.2.2.2.2.2.2.2.1 y5.2.2.2.2.2.2.2.2.2.2.2.2.2.2.2.2.2.1 y5.2.2.2.2.2.2.2.2.2.2.2.2.2.2.2.2.2.2.1 y5.2.2.2.2.2.2.2.2.2.2.2.2.2.2.2.2.2.2.2.1 y5.2.2.2.2.2.2.2.2.2.2.2.2.2.2.2.2.2.2.2.2.1 y5.2.2.2.2.2.2.2.2.2.2.2.2.2.2.2.2.2.2.2.2.2.1 y5.2.2.2.2.2.2.2.2.2.2.2.2.2.2.2.2.2.2.2.2.2.2.1 y5.2.2.2.2.2.2.2.2.2.2.2.2.2.2.2.2.2.2.2.2.2.2.2.1 (1 : Int)) fun y11 =>
            Option.bind (laws_heldDaemon y5.1 y5.2.1 y5.2.2.1 y5.2.2.2.1 y11.2.1 y11.2.2.1 y11.2.2.2.1 y11.2.2.2.2.1 y5.2.2.2.2.2.2.2.2.1 y5.2.2.2.2.2.2.2.2.2.1 y5.2.2.2.2.2.2.2.2.2.2.1 y5.2.2.2.2.2.2.2.2.2.2.2.1 y5.2.2.2.2.2.2.2.2.2.2.2.2.1 y5.2.2.2.2.2.2.2.2.2.2.2.2.2.1 y5.2.2.2.2.2.2.2.2.2.2.2.2.2.2.1 y5.2.2.2.2.2.2.2.2.2.2.2.2.2.2.2.1 y5.2.2.2.2.2.2.2.2.2.2.2.2.2.2.2.2.1 y11.2.2.2.2.2.1 y5.2.2.2.2.2.2.2.2.2.2.2.2.2.2.2.2.2.2.1 y5.2.2.2.2.2.2.2.2.2.2.2.2.2.2.2.2.2.2.2.1 y5.2.2.2.2.2.2.2.2.2.2.2.2.2.2.2.2.2.2.2.2.1 y11.2.2.2.2.2.2.1 y11.2.2.2.2.2.2.2.1 y11.2.2.2.2.2.2.2.2.1 (1 : Int)) fun y12 =>
            bif decide (y12.1 < (0 : Int)) then
              some (false, ())
            else bif !decide (y12.1 = y11.1) then
              some (false, ())
            else
              Option.bind (laws_toDaemon aD0c0 aD0c1 aD0c2 aD0c3 aD0c4 aD0c5 aD0c6 aD0c7 aD0c8 aD0c9 aD0c10 aD0c11 aD0c12 aD0c13 aD0c14 aD0c15 aD0c16 aD0c17 aD0c18 aD0c19 aD0c20 aD0c21 aD0c22 aD0c23) fun y13 =>
              Option.bind (impl_Crash y13.1 y13.2.1 y13.2.2.1 y13.2.2.2.1 y13.2.2.2.2.1 y13.2.2.2.2.2.1 y13.2.2.2.2.2.2.1 y13.2.2.2.2.2.2.2.1 y13.2.2.2.2.2.2.2.2.1 y13.2.2.2.2.2.2.2.2.2.1 y13.2.2.2.2.2.2.2.2.2.2.1 y13.2.2.2.2.2.2.2.2.2.2.2.1 y13.2.2.2.2.2.2.2.2.2.2.2.2.1 y13.2.2.2.2.2.2.2.2.2.2.2.2.2.1 y13.2.2.2.2.2.2.2.2.2.2.2.2.2.2.1 y13.2.2.2.2.2.2.2.2.2.2.2.2.2.2.2.1 y13.2.2.2.2.2.2.2.2.2.2.2.2.2.2.2.2.1 y13.2.2.2.2.2.2.2.2.2.2.2.2.2.2.2.2.2.1 y13.2.2.2.2.2.2.2.2.2.2.2.2.2.2.2.2.2.2.1 y13.2.2.2.2.2.2.2.2.2.2.2.2.2.2.2.2.2.2.2.1 y13.2.2.2.2.2.2.2.2.2.2.2.2.2.2.2.2.2.2.2.2.1 y13.2.2.2.2.2.2.2.2.2.2.2.2.2.2.2.2.2.2.2.2.2.1 y13.2.2.2.2.2.2.2.2.2.2.2.2.2.2.2.2.2.2.2.2.2.2.1 y13.2.2.2.2.2.2.2.2.2.2.2.2.2.2.2.2.2.2.2.2.2.2.2.1) fun y14 =>
              Option.bind (laws_eqDaemon y14.1 y14.2.1 y14.2.2.1 y14.2.2.2.1 y14.2.2.2.2.1 y14.2.2.2.2.2.1 y14.2.2.2.2.2.2.1 y14.2.2.2.2.2.2.2.1 y14.2.2.2.2.2.2.2.2.1 y14.2.2.2.2.2.2.2.2.2.1 y14.2.2.2.2.2.2.2.2.2.2.1 y14.2.2.2.2.2.2.2.2.2.2.2.1 y14.2.2.2.2.2.2.2.2.2.2.2.2.1 y14.2.2.2.2.2.2.2.2.2.2.2.2.2.1 y14.2.2.2.2.2.2.2.2.2.2.2.2.2.2.1 y14.2.2.2.2.2.2.2.2.2.2.2.2.2.2.2.1 y14.2.2.2.2.2.2.2.2.2.2.2.2.2.2.2.2.1 y14.2.2.2.2.2.2.2.2.2.2.2.2.2.2.2.2.2.1 y14.2.2.2.2.2.2.2.2.2.2.2.2.2.2.2.2.2.2.1 y14.2.2.2.2.2.2.2.2.2.2.2.2.2.2.2.2.2.2.2.1 y14.2.2.2.2.2.2.2.2.2.2.2.2.2.2.2.2.2.2.2.2.1 y14.2.2.2.2.2.2.2.2.2.2.2.2.2.2.2.2.2.2.2.2.2.1 y14.2.2.2.2.2.2.2.2.2.2.2.2.2.2.2.2.2.2.2.2.2.2.1 y14.2.2.2.2.2.2.2.2.2.2.2.2.2.2.2.2.2.2.2.2.2.2.2.1 y3.1 y3.2.1 y3.2.2.1 y3.2.2.2.1 y3.2.2.2.2.1 y3.2.2.2.2.2.1 y3.2.2.2.2.2.2.1 y3.2.2.2.2.2.2.2.1 y3.2.2.2.2.2.2.2.2.1 y3.2.2.2.2.2.2.2.2.2.1 y3.2.2.2.2.2.2.2.2.2.2.1 y3.2.2.2.2.2.2.2.2.2.2.2.1 y3.2.2.2.2.2.2.2.2.2.2.2.2.1 y3.2.2.2.2.2.2.2.2.2.2.2.2.2.1 y3.2.2.2.2.2.2.2.2.2.2.2.2.2.2.1 y3.2.2.2.2.2.2.2.2.2.2.2.2.2.2.2.1 y3.2.2.2.2.2.2.2.2.2.2.2.2.2.2.2.2.1 y3.2.2.2.2.2.2.2.2.2.2.2.2.2.2.2.2.2.1 y3.2.2.2.2.2.2.2.2.2.2.2.2.2.2.2.2.2.2.1 y3.2.2.2.2.2.2.2.2.2.2.2.2.2.2.2.2.2.2.2.1 y3.2.2.2.2.2.2.2.2.2.2.2.2.2.2.2.2.2.2.2.2.1 y3.2.2.2.2.2.2.2.2.2.2.2.2.2.2.2.2.2.2.2.2.2.1 y3.2.2.2.2.2.2.2.2.2.2.2.2.2.2.2.2.2.2.2.2.2.2.1 y3.2.2.2.2.2.2.2.2.2.2.2.2.2.2.2.2.2.2.2.2.2.2.2.1) fun y15 =>
              bif !y15.1 then
                some (false, ())
              else
                Option.bind (laws_heldDaemon y5.1 y5.2.1 y5.2.2.1 y5.2.2.2.1 y11.2.1 y11.2.2.1 y11.2.2.2.1 y11.2.2.2.2.1 y5.2.2.2.2.2.2.2.2.1 y5.2.2.2.2.2.2.2.2.2.1 y5.2.2.2.2.2.2.2.2.2.2.1 y5.2.2.2.2.2.2.2.2.2.2.2.1 y5.2.2.2.2.2.2.2.2.2.2.2.2.1 y5.2.2.2.2.2.2.2.2.2.2.2.2.2.1 y5.2.2.2.2.2.2.2.2.2.2.2.2.2.2.1 y5.2.2.2.2.2.2.2.2.2.2.2.2.2.2.2.1 y5.2.2.2.2.2.2.2.2.2.2.2.2.2.2.2.2.1 y11.2.2.2.2.2.1 y5.2.2.2.2.2.2.2.2.2.2.2.2.2.2.2.2.2.2.1 y5.2.2.2.2.2.2.2.2.2.2.2.2.2.2.2.2.2.2.2.1 y5.2.2.2.2.2.2.2.2.2.2.2.2.2.2.2.2.2.2.2.2.1 y11.2.2.2.2.2.2.1 y11.2.2.2.2.2.2.2.1 y11.2.2.2.2.2.2.2.2.1 (1 : Int)) fun y16 =>
                bif decide (y16.1 < (0 : Int)) then
                  some (false, ())
                else bif !decide (y16.1 = y11.1) then
                  some (false, ())
                else
                  some (true, ())
noncomputable def x4 (x : Int × Bool × Int × Int × (List (Int × Unit)) × (List R_iiis) × (List (Int × Unit)) × (List (ByteArray × Unit)) × Int × Int × Int × Int × Int × Int × Int × Int × Int × (List (Int × Unit)) × Int × Int × Int × (List (Int × Unit)) × (List R_iiiLiiisE) × (List R_iiLiEiiisLiE) × Unit) : Option (Bool × Unit) := laws_FnExactCrash x.1 x.2.1 x.2.2.1 x.2.2.2.1 x.2.2.2.2.1 x.2.2.2.2.2.1 x.2.2.2.2.2.2.1 x.2.2.2.2.2.2.2.1 x.2.2.2.2.2.2.2.2.1 x.2.2.2.2.2.2.2.2.2.1 x.2.2.2.2.2.2.2.2.2.2.1 x.2.2.2.2.2.2.2.2.2.2.2.1 x.2.2.2.2.2.2.2.2.2.2.2.2.1 x.2.2.2.2.2.2.2.2.2.2.2.2.2.1 x.2.2.2.2.2.2.2.2.2.2.2.2.2.2.1 x.2.2.2.2.2.2.2.2.2.2.2.2.2.2.2.1 x.2.2.2.2.2.2.2.2.2.2.2.2.2.2.2.2.1 x.2.2.2.2.2.2.2.2.2.2.2.2.2.2.2.2.2.1 x.2.2.2.2.2.2.2.2.2.2.2.2.2.2.2.2.2.2.1 x.2.2.2.2.2.2.2.2.2.2.2.2.2.2.2.2.2.2.2.1 x.2.2.2.2.2.2.2.2.2.2.2.2.2.2.2.2.2.2.2.2.1 x.2.2.2.2.2.2.2.2.2.2.2.2.2.2.2.2.2.2.2.2.2.1 x.2.2.2.2.2.2.2.2.2.2.2.2.2.2.2.2.2.2.2.2.2.2.1 x.2.2.2.2.2.2.2.2.2.2.2.2.2.2.2.2.2.2.2.2.2.2.2.1
noncomputable def sem4 : Sem1 := semOf ps4 rs4 x4
theorem so4 : SemsOk Try.prog (semsOf sl4) := sems_cons k19 (sems_cons k21 (sems_cons k20 (sems_cons k22 (sems_cons k23 (sems_cons k24 (sems_cons k25 (sems_nil)))))))
theorem t4_eq (x : denR (headRT (ps4.map some))) : codeK (tabOf tr) (semsOf sl4) D4 L4 code4 (start 69 ps4 x) (finK rs4 ps4) = x4 x := by kernel_rfl
theorem k4 : Known Try.prog 4 sem4 :=
  fn_auto tr_ok eq_ok mixed_ok so4 (D := D4) (code := code4) (n := 69) Try.func4 (by kernel_rfl) (by kernel_rfl) (by kernel_rfl) (fun w0 mu _ hs => (loops_of (l := []) (by kernel_rfl) (List.forall_mem_nil _))) t4_eq

/-! ### f56: laws.szRingS -/
noncomputable def code56 : Code := match Try.f56.body with | some c => c | none => .skip
def ps56 : List AP := [.val false [.shr T_iLiE], .val false [.int .i64]]
def rs56 : List RP := [{ src := .tmp 4, agg := false, ps := [.int .i64] }]
noncomputable def sl56 : SemL := [(6, (.shr, .shr, .shr, sem6))]
def D56 : Draws := fun _ => .nil
def hp56_0 : List (Option AP) := [some (.val false [.shr T_iLiE]), some (.val false [.int .i64]), none, none, none, some (.val false [.int .i64]), none, none, none, none, none, none, none, none, none, none, none, none, none, none, none, none, none, none, none, none, none, none]
def e56_0 : List (Option AP) := [none, some (.val false [.int .i64]), none, none, none, none, none, none, none, none, none, none, none, none, none, none, none, none, none, none, none, none, none, none, none, none, none, none]
def q56_0 : List (Option AP) := [none, none, none, none, some (.val false [.int .i64]), none, none, none, none, none, none, none, none, none, none, none, none, none, none, none, none, none, none, none, none, none, none, none]
abbrev H56_0 : Type := (List R_iLiE) × Int × Int × Unit
abbrev E56_0 : Type := Int × Unit
abbrev Q56_0 : Type := Int × Unit
noncomputable def laws_szRingS_c0 (a0 : List R_iLiE) (left1 : Int) (i5 : Int) : Option (Sum H56_0 (Sum E56_0 Q56_0)) :=
  bif decide (i5 < ((List.length a0 : Nat) : Int)) then
    bif decide ((0 : Int) ≤ i5) then Option.bind ((a0)[Int.toNat i5]?) fun r1 =>
      Option.bind (laws_szRing r1.1 r1.2.1 left1) fun y2 =>
      bif decide (y2.1 < (0 : Int)) then
        some (.inr (.inr ((-1 : Int), ())))
      else
        some (.inl (a0, y2.1, IntKind.i64.wrap (i5 + (1 : Int)), ()))
    else none
  else
    some (.inr (.inl (left1, ())))
noncomputable def laws_szRingS_r0 (x : H56_0) : Option (Sum H56_0 (Sum E56_0 Q56_0)) := laws_szRingS_c0 x.1 x.2.1 x.2.2.1
noncomputable def L56 {R : Type} : Loops R := fun id _ st k => bif Nat.beq id 0 then loopAt hp56_0 e56_0 q56_0 laws_szRingS_r0 st k else none
noncomputable def laws_szRingS (a0 : List R_iLiE) (left1 : Int) : Option (Int × Unit) :=
  bif decide (IntKind.i64.wrap (left1 - ((List.length a0 : Nat) : Int)) < (0 : Int)) then
    some ((-1 : Int), ())
  else
    outK (loopV laws_szRingS_r0 (a0, IntKind.i64.wrap (left1 - ((List.length a0 : Nat) : Int)), (0 : Int), ())) (fun y1 =>
      some (y1.1, ())) (fun y2 =>
      some (y2.1, ()))
noncomputable def x56 (x : (List R_iLiE) × Int × Unit) : Option (Int × Unit) := laws_szRingS x.1 x.2.1
noncomputable def sem56 : Sem1 := semOf ps56 rs56 x56
theorem so56 : SemsOk Try.prog (semsOf sl56) := sems_cons k6 (sems_nil)
noncomputable def b56_0 : Code := nthLoop code56 0
theorem t56_r0_eq (x : denR (headRT hp56_0)) : codeK (tabOf tr) (semsOf sl56) D56 L56 b56_0 (headSt hp56_0 x) (roundK 0 hp56_0 e56_0 q56_0) = laws_szRingS_r0 x := by kernel_rfl
theorem loop56_0 {R : Type} (r : R) (w0 : World) (mu : Mu) (hs : AnShape ps56 mu) : LoopAt Try.prog w0 mu 27 (L56 : Loops R) r 0 b56_0 :=
  loop_auto tr_ok eq_ok mixed_ok so56 (D := D56) hs (by kernel_rfl) (fun _ => (loops_of (l := []) (by kernel_rfl) (List.forall_mem_nil _))) t56_r0_eq (fun _ _ => rfl)
theorem t56_eq (x : denR (headRT (ps56.map some))) : codeK (tabOf tr) (semsOf sl56) D56 L56 code56 (start 27 ps56 x) (finK rs56 ps56) = x56 x := by kernel_rfl
theorem k56 : Known Try.prog 56 sem56 :=
  fn_auto tr_ok eq_ok mixed_ok so56 (D := D56) (code := code56) (n := 27) Try.func56 (by kernel_rfl) (by kernel_rfl) (by kernel_rfl) (fun w0 mu _ hs => (loops_of (l := [(0, b56_0)]) (by kernel_rfl) (List.forall_mem_cons.2 ⟨loop56_0 _ w0 mu hs, (List.forall_mem_nil _)⟩))) t56_eq

/-! ### f57: laws.szDaemonS -/
noncomputable def code57 : Code := match Try.f57.body with | some c => c | none => .skip
def ps57 : List AP := [.val false [.shr T_ibiiLiELiiisELiELsEiiiiiiiiiLiEiiiLiELiiiLiiisEELiiLiEiiisLiEE], .val false [.int .i64]]
def rs57 : List RP := [{ src := .tmp 4, agg := false, ps := [.int .i64] }]
noncomputable def sl57 : SemL := [(19, (.shr, .shr, .shr, sem19))]
def D57 : Draws := fun _ => .nil
def hp57_0 : List (Option AP) := [some (.val false [.shr T_ibiiLiELiiisELiELsEiiiiiiiiiLiEiiiLiELiiiLiiisEELiiLiEiiisLiEE]), some (.val false [.int .i64]), none, none, none, some (.val false [.int .i64]), none, none, none, none, none, none, none, none, none, none, none, none, none, none, none, none, none, none, none, none, none, none]
def e57_0 : List (Option AP) := [none, some (.val false [.int .i64]), none, none, none, none, none, none, none, none, none, none, none, none, none, none, none, none, none, none, none, none, none, none, none, none, none, none]
def q57_0 : List (Option AP) := [none, none, none, none, some (.val false [.int .i64]), none, none, none, none, none, none, none, none, none, none, none, none, none, none, none, none, none, none, none, none, none, none, none]
abbrev H57_0 : Type := (List R_ibiiLiELiiisELiELsEiiiiiiiiiLiEiiiLiELiiiLiiisEELiiLiEiiisLiEE) × Int × Int × Unit
abbrev E57_0 : Type := Int × Unit
abbrev Q57_0 : Type := Int × Unit
noncomputable def laws_szDaemonS_c0 (a0 : List R_ibiiLiELiiisELiELsEiiiiiiiiiLiEiiiLiELiiiLiiisEELiiLiEiiisLiEE) (left1 : Int) (i5 : Int) : Option (Sum H57_0 (Sum E57_0 Q57_0)) :=
  bif decide (i5 < ((List.length a0 : Nat) : Int)) then
    bif decide ((0 : Int) ≤ i5) then Option.bind ((a0)[Int.toNat i5]?) fun r1 =>
      Option.bind (laws_szDaemon r1.1 r1.2.1 r1.2.2.1 r1.2.2.2.1 r1.2.2.2.2.1 r1.2.2.2.2.2.1 r1.2.2.2.2.2.2.1 r1.2.2.2.2.2.2.2.1 r1.2.2.2.2.2.2.2.2.1 r1.2.2.2.2.2.2.2.2.2.1 r1.2.2.2.2.2.2.2.2.2.2.1 r1.2.2.2.2.2.2.2.2.2.2.2.1 r1.2.2.2.2.2.2.2.2.2.2.2.2.1 r1.2.2.2.2.2.2.2.2.2.2.2.2.2.1 r1.2.2.2.2.2.2.2.2.2.2.2.2.2.2.1 r1.2.2.2.2.2.2.2.2.2.2.2.2.2.2.2.1 r1.2.2.2.2.2.2.2.2.2.2.2.2.2.2.2.2.1 r1.2.2.2.2.2.2.2.2.2.2.2.2.2.2.2.2.2.1 r1.2.2.2.2.2.2.2.2.2.2.2.2.2.2.2.2.2.2.1 r1.2.2.2.2.2.2.2.2.2.2.2.2.2.2.2.2.2.2.2.1 r1.2.2.2.2.2.2.2.2.2.2.2.2.2.2.2.2.2.2.2.2.1 r1.2.2.2.2.2.2.2.2.2.2.2.2.2.2.2.2.2.2.2.2.2.1 r1.2.2.2.2.2.2.2.2.2.2.2.2.2.2.2.2.2.2.2.2.2.2.1 r1.2.2.2.2.2.2.2.2.2.2.2.2.2.2.2.2.2.2.2.2.2.2.2.1 left1) fun y2 =>
      bif decide (y2.1 < (0 : Int)) then
        some (.inr (.inr ((-1 : Int), ())))
      else
        some (.inl (a0, y2.1, IntKind.i64.wrap (i5 + (1 : Int)), ()))
    else none
  else
    some (.inr (.inl (left1, ())))
noncomputable def laws_szDaemonS_r0 (x : H57_0) : Option (Sum H57_0 (Sum E57_0 Q57_0)) := laws_szDaemonS_c0 x.1 x.2.1 x.2.2.1
noncomputable def L57 {R : Type} : Loops R := fun id _ st k => bif Nat.beq id 0 then loopAt hp57_0 e57_0 q57_0 laws_szDaemonS_r0 st k else none
noncomputable def laws_szDaemonS (a0 : List R_ibiiLiELiiisELiELsEiiiiiiiiiLiEiiiLiELiiiLiiisEELiiLiEiiisLiEE) (left1 : Int) : Option (Int × Unit) :=
  bif decide (IntKind.i64.wrap (left1 - ((List.length a0 : Nat) : Int)) < (0 : Int)) then
    some ((-1 : Int), ())
  else
    outK (loopV laws_szDaemonS_r0 (a0, IntKind.i64.wrap (left1 - ((List.length a0 : Nat) : Int)), (0 : Int), ())) (fun y1 =>
      some (y1.1, ())) (fun y2 =>
      some (y2.1, ()))
noncomputable def x57 (x : (List R_ibiiLiELiiisELiELsEiiiiiiiiiLiEiiiLiELiiiLiiisEELiiLiEiiisLiEE) × Int × Unit) : Option (Int × Unit) := laws_szDaemonS x.1 x.2.1
noncomputable def sem57 : Sem1 := semOf ps57 rs57 x57
theorem so57 : SemsOk Try.prog (semsOf sl57) := sems_cons k19 (sems_nil)
noncomputable def b57_0 : Code := nthLoop code57 0
theorem t57_r0_eq (x : denR (headRT hp57_0)) : codeK (tabOf tr) (semsOf sl57) D57 L57 b57_0 (headSt hp57_0 x) (roundK 0 hp57_0 e57_0 q57_0) = laws_szDaemonS_r0 x := by kernel_rfl
theorem loop57_0 {R : Type} (r : R) (w0 : World) (mu : Mu) (hs : AnShape ps57 mu) : LoopAt Try.prog w0 mu 27 (L57 : Loops R) r 0 b57_0 :=
  loop_auto tr_ok eq_ok mixed_ok so57 (D := D57) hs (by kernel_rfl) (fun _ => (loops_of (l := []) (by kernel_rfl) (List.forall_mem_nil _))) t57_r0_eq (fun _ _ => rfl)
theorem t57_eq (x : denR (headRT (ps57.map some))) : codeK (tabOf tr) (semsOf sl57) D57 L57 code57 (start 27 ps57 x) (finK rs57 ps57) = x57 x := by kernel_rfl
theorem k57 : Known Try.prog 57 sem57 :=
  fn_auto tr_ok eq_ok mixed_ok so57 (D := D57) (code := code57) (n := 27) Try.func57 (by kernel_rfl) (by kernel_rfl) (by kernel_rfl) (fun w0 mu _ hs => (loops_of (l := [(0, b57_0)]) (by kernel_rfl) (List.forall_mem_cons.2 ⟨loop57_0 _ w0 mu hs, (List.forall_mem_nil _)⟩))) t57_eq

/-! ### f92: laws.szLetter -/
noncomputable def code92 : Code := match Try.f92.body with | some c => c | none => .skip
def ps92 : List AP := [.val true [.int .i64, .int .i64, .int .i64, .int .i64, .int .i64, .int .i64, .str, .int .i64, .int .i64, .int .i64, .int .i64, .int .i64, .shr T_i, .int .i64, .int .i64, .int .i64, .shr T_iiis], .val false [.int .i64]]
def rs92 : List RP := [{ src := .tmp 4, agg := false, ps := [.int .i64] }]
noncomputable def sl92 : SemL := [(96, (.shr, .shr, .shr, sem96)), (79, (.shr, .shr, .shr, sem79)), (36, (.shr, .shr, .shr, sem36))]
def D92 : Draws := fun _ => .nil
noncomputable def L92 {R : Type} : Loops R := fun _ _ _ _ => none
noncomputable def laws_szLetter (a0c0 : Int) (a0c1 : Int) (a0c2 : Int) (a0c3 : Int) (a0c4 : Int) (a0c5 : Int) (a0c6 : ByteArray) (a0c7 : Int) (a0c8 : Int) (a0c9 : Int) (a0c10 : Int) (a0c11 : Int) (a0c12 : List (Int × Unit)) (a0c13 : Int) (a0c14 : Int) (a0c15 : Int) (a0c16 : List R_iiis) (left1 : Int) : Option (Int × Unit) :=
  Option.bind (laws_szItem a0c3 a0c4 a0c5 a0c6 left1) fun y1 =>
  bif decide (y1.1 < (0 : Int)) then
    some ((-1 : Int), ())
  else
    Option.bind (laws_szToken a0c7 a0c8 a0c9 a0c10 a0c11 a0c12 y1.1) fun y2 =>
    bif decide (y2.1 < (0 : Int)) then
      some ((-1 : Int), ())
    else
      Option.bind (laws_szBundle a0c13 a0c14 a0c15 a0c16 y2.1) fun y3 =>
      bif decide (y3.1 < (0 : Int)) then
        some ((-1 : Int), ())
      else
        some (y3.1, ())
noncomputable def x92 (x : Int × Int × Int × Int × Int × Int × ByteArray × Int × Int × Int × Int × Int × (List (Int × Unit)) × Int × Int × Int × (List R_iiis) × Int × Unit) : Option (Int × Unit) := laws_szLetter x.1 x.2.1 x.2.2.1 x.2.2.2.1 x.2.2.2.2.1 x.2.2.2.2.2.1 x.2.2.2.2.2.2.1 x.2.2.2.2.2.2.2.1 x.2.2.2.2.2.2.2.2.1 x.2.2.2.2.2.2.2.2.2.1 x.2.2.2.2.2.2.2.2.2.2.1 x.2.2.2.2.2.2.2.2.2.2.2.1 x.2.2.2.2.2.2.2.2.2.2.2.2.1 x.2.2.2.2.2.2.2.2.2.2.2.2.2.1 x.2.2.2.2.2.2.2.2.2.2.2.2.2.2.1 x.2.2.2.2.2.2.2.2.2.2.2.2.2.2.2.1 x.2.2.2.2.2.2.2.2.2.2.2.2.2.2.2.2.1 x.2.2.2.2.2.2.2.2.2.2.2.2.2.2.2.2.2.1
noncomputable def sem92 : Sem1 := semOf ps92 rs92 x92
theorem so92 : SemsOk Try.prog (semsOf sl92) := sems_cons k96 (sems_cons k79 (sems_cons k36 (sems_nil)))
theorem t92_eq (x : denR (headRT (ps92.map some))) : codeK (tabOf tr) (semsOf sl92) D92 L92 code92 (start 24 ps92 x) (finK rs92 ps92) = x92 x := by kernel_rfl
theorem k92 : Known Try.prog 92 sem92 :=
  fn_auto tr_ok eq_ok mixed_ok so92 (D := D92) (code := code92) (n := 24) Try.func92 (by kernel_rfl) (by kernel_rfl) (by kernel_rfl) (fun w0 mu _ hs => (loops_of (l := []) (by kernel_rfl) (List.forall_mem_nil _))) t92_eq

/-! ### f58: laws.szLetterS -/
noncomputable def code58 : Code := match Try.f58.body with | some c => c | none => .skip
def ps58 : List AP := [.val false [.shr T_iiiiiisiiiiiLiEiiiLiiisE], .val false [.int .i64]]
def rs58 : List RP := [{ src := .tmp 4, agg := false, ps := [.int .i64] }]
noncomputable def sl58 : SemL := [(92, (.shr, .shr, .shr, sem92))]
def D58 : Draws := fun _ => .nil
def hp58_0 : List (Option AP) := [some (.val false [.shr T_iiiiiisiiiiiLiEiiiLiiisE]), some (.val false [.int .i64]), none, none, none, some (.val false [.int .i64]), none, none, none, none, none, none, none, none, none, none, none, none, none, none, none, none, none, none, none, none, none, none]
def e58_0 : List (Option AP) := [none, some (.val false [.int .i64]), none, none, none, none, none, none, none, none, none, none, none, none, none, none, none, none, none, none, none, none, none, none, none, none, none, none]
def q58_0 : List (Option AP) := [none, none, none, none, some (.val false [.int .i64]), none, none, none, none, none, none, none, none, none, none, none, none, none, none, none, none, none, none, none, none, none, none, none]
abbrev H58_0 : Type := (List R_iiiiiisiiiiiLiEiiiLiiisE) × Int × Int × Unit
abbrev E58_0 : Type := Int × Unit
abbrev Q58_0 : Type := Int × Unit
noncomputable def laws_szLetterS_c0 (a0 : List R_iiiiiisiiiiiLiEiiiLiiisE) (left1 : Int) (i5 : Int) : Option (Sum H58_0 (Sum E58_0 Q58_0)) :=
  bif decide (i5 < ((List.length a0 : Nat) : Int)) then
    bif decide ((0 : Int) ≤ i5) then Option.bind ((a0)[Int.toNat i5]?) fun r1 =>
      Option.bind (laws_szLetter r1.1 r1.2.1 r1.2.2.1 r1.2.2.2.1 r1.2.2.2.2.1 r1.2.2.2.2.2.1 r1.2.2.2.2.2.2.1 r1.2.2.2.2.2.2.2.1 r1.2.2.2.2.2.2.2.2.1 r1.2.2.2.2.2.2.2.2.2.1 r1.2.2.2.2.2.2.2.2.2.2.1 r1.2.2.2.2.2.2.2.2.2.2.2.1 r1.2.2.2.2.2.2.2.2.2.2.2.2.1 r1.2.2.2.2.2.2.2.2.2.2.2.2.2.1 r1.2.2.2.2.2.2.2.2.2.2.2.2.2.2.1 r1.2.2.2.2.2.2.2.2.2.2.2.2.2.2.2.1 r1.2.2.2.2.2.2.2.2.2.2.2.2.2.2.2.2.1 left1) fun y2 =>
      bif decide (y2.1 < (0 : Int)) then
        some (.inr (.inr ((-1 : Int), ())))
      else
        some (.inl (a0, y2.1, IntKind.i64.wrap (i5 + (1 : Int)), ()))
    else none
  else
    some (.inr (.inl (left1, ())))
noncomputable def laws_szLetterS_r0 (x : H58_0) : Option (Sum H58_0 (Sum E58_0 Q58_0)) := laws_szLetterS_c0 x.1 x.2.1 x.2.2.1
noncomputable def L58 {R : Type} : Loops R := fun id _ st k => bif Nat.beq id 0 then loopAt hp58_0 e58_0 q58_0 laws_szLetterS_r0 st k else none
noncomputable def laws_szLetterS (a0 : List R_iiiiiisiiiiiLiEiiiLiiisE) (left1 : Int) : Option (Int × Unit) :=
  bif decide (IntKind.i64.wrap (left1 - ((List.length a0 : Nat) : Int)) < (0 : Int)) then
    some ((-1 : Int), ())
  else
    outK (loopV laws_szLetterS_r0 (a0, IntKind.i64.wrap (left1 - ((List.length a0 : Nat) : Int)), (0 : Int), ())) (fun y1 =>
      some (y1.1, ())) (fun y2 =>
      some (y2.1, ()))
noncomputable def x58 (x : (List R_iiiiiisiiiiiLiEiiiLiiisE) × Int × Unit) : Option (Int × Unit) := laws_szLetterS x.1 x.2.1
noncomputable def sem58 : Sem1 := semOf ps58 rs58 x58
theorem so58 : SemsOk Try.prog (semsOf sl58) := sems_cons k92 (sems_nil)
noncomputable def b58_0 : Code := nthLoop code58 0
theorem t58_r0_eq (x : denR (headRT hp58_0)) : codeK (tabOf tr) (semsOf sl58) D58 L58 b58_0 (headSt hp58_0 x) (roundK 0 hp58_0 e58_0 q58_0) = laws_szLetterS_r0 x := by kernel_rfl
theorem loop58_0 {R : Type} (r : R) (w0 : World) (mu : Mu) (hs : AnShape ps58 mu) : LoopAt Try.prog w0 mu 27 (L58 : Loops R) r 0 b58_0 :=
  loop_auto tr_ok eq_ok mixed_ok so58 (D := D58) hs (by kernel_rfl) (fun _ => (loops_of (l := []) (by kernel_rfl) (List.forall_mem_nil _))) t58_r0_eq (fun _ _ => rfl)
theorem t58_eq (x : denR (headRT (ps58.map some))) : codeK (tabOf tr) (semsOf sl58) D58 L58 code58 (start 27 ps58 x) (finK rs58 ps58) = x58 x := by kernel_rfl
theorem k58 : Known Try.prog 58 sem58 :=
  fn_auto tr_ok eq_ok mixed_ok so58 (D := D58) (code := code58) (n := 27) Try.func58 (by kernel_rfl) (by kernel_rfl) (by kernel_rfl) (fun w0 mu _ hs => (loops_of (l := [(0, b58_0)]) (by kernel_rfl) (List.forall_mem_cons.2 ⟨loop58_0 _ w0 mu hs, (List.forall_mem_nil _)⟩))) t58_eq

/-! ### f26: laws.szWorld -/
noncomputable def code26 : Code := match Try.f26.body with | some c => c | none => .skip
def ps26 : List AP := [.val true [.shr T_iLiE, .shr T_ibiiLiELiiisELiELsEiiiiiiiiiLiEiiiLiELiiiLiiisEELiiLiEiiisLiEE, .shr T_iiiiiisiiiiiLiEiiiLiiisE, .shr T_iiLiEiiisLiE], .val false [.int .i64]]
def rs26 : List RP := [{ src := .tmp 4, agg := false, ps := [.int .i64] }]
noncomputable def sl26 : SemL := [(56, (.shr, .shr, .shr, sem56)), (57, (.shr, .shr, .shr, sem57)), (58, (.shr, .shr, .shr, sem58)), (46, (.shr, .shr, .shr, sem46))]
def D26 : Draws := fun _ => .nil
noncomputable def L26 {R : Type} : Loops R := fun _ _ _ _ => none
noncomputable def laws_szWorld (a0c0 : List R_iLiE) (a0c1 : List R_ibiiLiELiiisELiELsEiiiiiiiiiLiEiiiLiELiiiLiiisEELiiLiEiiisLiEE) (a0c2 : List R_iiiiiisiiiiiLiEiiiLiiisE) (a0c3 : List R_iiLiEiiisLiE) (left1 : Int) : Option (Int × Unit) :=
  Option.bind (laws_szRingS a0c0 left1) fun y1 =>
  bif decide (y1.1 < (0 : Int)) then
    some ((-1 : Int), ())
  else
    Option.bind (laws_szDaemonS a0c1 y1.1) fun y2 =>
    bif decide (y2.1 < (0 : Int)) then
      some ((-1 : Int), ())
    else
      Option.bind (laws_szLetterS a0c2 y2.1) fun y3 =>
      bif decide (y3.1 < (0 : Int)) then
        some ((-1 : Int), ())
      else
        Option.bind (laws_szEventS a0c3 y3.1) fun y4 =>
        bif decide (y4.1 < (0 : Int)) then
          some ((-1 : Int), ())
        else
          some (y4.1, ())
noncomputable def x26 (x : (List R_iLiE) × (List R_ibiiLiELiiisELiELsEiiiiiiiiiLiEiiiLiELiiiLiiisEELiiLiEiiisLiEE) × (List R_iiiiiisiiiiiLiEiiiLiiisE) × (List R_iiLiEiiisLiE) × Int × Unit) : Option (Int × Unit) := laws_szWorld x.1 x.2.1 x.2.2.1 x.2.2.2.1 x.2.2.2.2.1
noncomputable def sem26 : Sem1 := semOf ps26 rs26 x26
theorem so26 : SemsOk Try.prog (semsOf sl26) := sems_cons k56 (sems_cons k57 (sems_cons k58 (sems_cons k46 (sems_nil))))
theorem t26_eq (x : denR (headRT (ps26.map some))) : codeK (tabOf tr) (semsOf sl26) D26 L26 code26 (start 30 ps26 x) (finK rs26 ps26) = x26 x := by kernel_rfl
theorem k26 : Known Try.prog 26 sem26 :=
  fn_auto tr_ok eq_ok mixed_ok so26 (D := D26) (code := code26) (n := 30) Try.func26 (by kernel_rfl) (by kernel_rfl) (by kernel_rfl) (fun w0 mu _ hs => (loops_of (l := []) (by kernel_rfl) (List.forall_mem_nil _))) t26_eq

/-! ### f60: laws.toRingS -/
noncomputable def code60 : Code := match Try.f60.body with | some c => c | none => .skip
def ps60 : List AP := [.val false [.shr T_iLiE]]
def rs60 : List RP := [{ src := .tmp 2, agg := false, ps := [.own T_iLiE .dp] }]
noncomputable def sl60 : SemL := [(9, (.shr, .shr, .shr, sem9))]
def D60 : Draws := fun _ => .nil
def hp60_0 : List (Option AP) := [some (.val false [.shr T_iLiE]), none, none, some (.val false [.own T_iLiE .dp]), some (.val false [.int .i64]), none, none, none, none, none, none, none, none, none, none, none, none, none, none, none, none, none, none, none]
def e60_0 : List (Option AP) := [none, none, none, some (.val false [.own T_iLiE .dp]), none, none, none, none, none, none, none, none, none, none, none, none, none, none, none, none, none, none, none, none]
def q60_0 : List (Option AP) := [none, none, none, none, none, none, none, none, none, none, none, none, none, none, none, none, none, none, none, none, none, none, none, none]
abbrev H60_0 : Type := (List R_iLiE) × (List R_iLiE) × Int × Unit
abbrev E60_0 : Type := (List R_iLiE) × Unit
abbrev Q60_0 : Type := Unit
noncomputable def laws_toRingS_c0 (a0 : List R_iLiE) (out3 : List R_iLiE) (i4 : Int) : Option (Sum H60_0 (Sum E60_0 Q60_0)) :=
  bif decide (i4 < ((List.length a0 : Nat) : Int)) then
    bif decide ((0 : Int) ≤ i4) then Option.bind ((a0)[Int.toNat i4]?) fun r1 =>
      Option.bind (laws_toRing r1.1 r1.2.1) fun y2 =>
      bif decide ((0 : Int) ≤ i4) then bif Nat.blt (Int.toNat i4) (List.length out3) then Option.bind ((out3)[Int.toNat i4]?) fun _ =>
          some (.inl (a0, List.set out3 (Int.toNat i4) (y2.1, y2.2.1, ()), IntKind.i64.wrap (i4 + (1 : Int)), ()))
        else none
      else none
    else none
  else
    some (.inr (.inl (out3, ())))
noncomputable def laws_toRingS_r0 (x : H60_0) : Option (Sum H60_0 (Sum E60_0 Q60_0)) := laws_toRingS_c0 x.1 x.2.1 x.2.2.1
noncomputable def L60 {R : Type} : Loops R := fun id _ st k => bif Nat.beq id 0 then loopAt hp60_0 e60_0 q60_0 laws_toRingS_r0 st k else none
noncomputable def laws_toRingS (a0 : List R_iLiE) : Option ((List R_iLiE) × Unit) :=
  bif decide (((List.length a0 : Nat) : Int) = ((List.length a0 : Nat) : Int)) then bif decide ((0 : Int) ≤ ((List.length a0 : Nat) : Int)) then bif Nat.ble ((Int.toNat ((List.length a0 : Nat) : Int)) * 32) lim then outK (loopV laws_toRingS_r0 (a0, List.replicate (Int.toNat ((List.length a0 : Nat) : Int)) ((0 : Int), [], ()), (0 : Int), ())) (fun y1 =>
          some (y1.1, ())) (fun y2 =>
          none)
      else none
    else none
  else none
noncomputable def x60 (x : (List R_iLiE) × Unit) : Option ((List R_iLiE) × Unit) := laws_toRingS x.1
noncomputable def sem60 : Sem1 := semOf ps60 rs60 x60
theorem so60 : SemsOk Try.prog (semsOf sl60) := sems_cons k9 (sems_nil)
noncomputable def b60_0 : Code := nthLoop code60 0
theorem t60_r0_eq (x : denR (headRT hp60_0)) : codeK (tabOf tr) (semsOf sl60) D60 L60 b60_0 (headSt hp60_0 x) (roundK 0 hp60_0 e60_0 q60_0) = laws_toRingS_r0 x := by kernel_rfl
theorem loop60_0 {R : Type} (r : R) (w0 : World) (mu : Mu) (hs : AnShape ps60 mu) : LoopAt Try.prog w0 mu 23 (L60 : Loops R) r 0 b60_0 :=
  loop_auto tr_ok eq_ok mixed_ok so60 (D := D60) hs (by kernel_rfl) (fun _ => (loops_of (l := []) (by kernel_rfl) (List.forall_mem_nil _))) t60_r0_eq (fun _ _ => rfl)
theorem t60_eq (x : denR (headRT (ps60.map some))) : codeK (tabOf tr) (semsOf sl60) D60 L60 code60 (start 23 ps60 x) (finK rs60 ps60) = x60 x := by kernel_rfl
theorem k60 : Known Try.prog 60 sem60 :=
  fn_auto tr_ok eq_ok mixed_ok so60 (D := D60) (code := code60) (n := 23) Try.func60 (by kernel_rfl) (by kernel_rfl) (by kernel_rfl) (fun w0 mu _ hs => (loops_of (l := [(0, b60_0)]) (by kernel_rfl) (List.forall_mem_cons.2 ⟨loop60_0 _ w0 mu hs, (List.forall_mem_nil _)⟩))) t60_eq

/-! ### f61: laws.toDaemonS -/
noncomputable def code61 : Code := match Try.f61.body with | some c => c | none => .skip
def ps61 : List AP := [.val false [.shr T_ibiiLiELiiisELiELsEiiiiiiiiiLiEiiiLiELiiiLiiisEELiiLiEiiisLiEE]]
def rs61 : List RP := [{ src := .tmp 2, agg := false, ps := [.own T_ibiiLiELiiisELiELsEiiiiiiiiiLiEiiiLiELiiiLiiisEELiiLiEiiisLiEE .dp] }]
noncomputable def sl61 : SemL := [(21, (.shr, .shr, .shr, sem21))]
def D61 : Draws := fun _ => .nil
def hp61_0 : List (Option AP) := [some (.val false [.shr T_ibiiLiELiiisELiELsEiiiiiiiiiLiEiiiLiELiiiLiiisEELiiLiEiiisLiEE]), none, none, some (.val false [.own T_ibiiLiELiiisELiELsEiiiiiiiiiLiEiiiLiELiiiLiiisEELiiLiEiiisLiEE .dp]), some (.val false [.int .i64]), none, none, none, none, none, none, none, none, none, none, none, none, none, none, none, none, none, none, none]
def e61_0 : List (Option AP) := [none, none, none, some (.val false [.own T_ibiiLiELiiisELiELsEiiiiiiiiiLiEiiiLiELiiiLiiisEELiiLiEiiisLiEE .dp]), none, none, none, none, none, none, none, none, none, none, none, none, none, none, none, none, none, none, none, none]
def q61_0 : List (Option AP) := [none, none, none, none, none, none, none, none, none, none, none, none, none, none, none, none, none, none, none, none, none, none, none, none]
abbrev H61_0 : Type := (List R_ibiiLiELiiisELiELsEiiiiiiiiiLiEiiiLiELiiiLiiisEELiiLiEiiisLiEE) × (List R_ibiiLiELiiisELiELsEiiiiiiiiiLiEiiiLiELiiiLiiisEELiiLiEiiisLiEE) × Int × Unit
abbrev E61_0 : Type := (List R_ibiiLiELiiisELiELsEiiiiiiiiiLiEiiiLiELiiiLiiisEELiiLiEiiisLiEE) × Unit
abbrev Q61_0 : Type := Unit
noncomputable def laws_toDaemonS_c0 (a0 : List R_ibiiLiELiiisELiELsEiiiiiiiiiLiEiiiLiELiiiLiiisEELiiLiEiiisLiEE) (out3 : List R_ibiiLiELiiisELiELsEiiiiiiiiiLiEiiiLiELiiiLiiisEELiiLiEiiisLiEE) (i4 : Int) : Option (Sum H61_0 (Sum E61_0 Q61_0)) :=
  bif decide (i4 < ((List.length a0 : Nat) : Int)) then
    bif decide ((0 : Int) ≤ i4) then Option.bind ((a0)[Int.toNat i4]?) fun r1 =>
      Option.bind (laws_toDaemon r1.1 r1.2.1 r1.2.2.1 r1.2.2.2.1 r1.2.2.2.2.1 r1.2.2.2.2.2.1 r1.2.2.2.2.2.2.1 r1.2.2.2.2.2.2.2.1 r1.2.2.2.2.2.2.2.2.1 r1.2.2.2.2.2.2.2.2.2.1 r1.2.2.2.2.2.2.2.2.2.2.1 r1.2.2.2.2.2.2.2.2.2.2.2.1 r1.2.2.2.2.2.2.2.2.2.2.2.2.1 r1.2.2.2.2.2.2.2.2.2.2.2.2.2.1 r1.2.2.2.2.2.2.2.2.2.2.2.2.2.2.1 r1.2.2.2.2.2.2.2.2.2.2.2.2.2.2.2.1 r1.2.2.2.2.2.2.2.2.2.2.2.2.2.2.2.2.1 r1.2.2.2.2.2.2.2.2.2.2.2.2.2.2.2.2.2.1 r1.2.2.2.2.2.2.2.2.2.2.2.2.2.2.2.2.2.2.1 r1.2.2.2.2.2.2.2.2.2.2.2.2.2.2.2.2.2.2.2.1 r1.2.2.2.2.2.2.2.2.2.2.2.2.2.2.2.2.2.2.2.2.1 r1.2.2.2.2.2.2.2.2.2.2.2.2.2.2.2.2.2.2.2.2.2.1 r1.2.2.2.2.2.2.2.2.2.2.2.2.2.2.2.2.2.2.2.2.2.2.1 r1.2.2.2.2.2.2.2.2.2.2.2.2.2.2.2.2.2.2.2.2.2.2.2.1) fun y2 =>
      bif decide ((0 : Int) ≤ i4) then bif Nat.blt (Int.toNat i4) (List.length out3) then Option.bind ((out3)[Int.toNat i4]?) fun _ =>
          some (.inl (a0, List.set out3 (Int.toNat i4) (y2.1, y2.2.1, y2.2.2.1, y2.2.2.2.1, y2.2.2.2.2.1, y2.2.2.2.2.2.1, y2.2.2.2.2.2.2.1, y2.2.2.2.2.2.2.2.1, y2.2.2.2.2.2.2.2.2.1, y2.2.2.2.2.2.2.2.2.2.1, y2.2.2.2.2.2.2.2.2.2.2.1, y2.2.2.2.2.2.2.2.2.2.2.2.1, y2.2.2.2.2.2.2.2.2.2.2.2.2.1, y2.2.2.2.2.2.2.2.2.2.2.2.2.2.1, y2.2.2.2.2.2.2.2.2.2.2.2.2.2.2.1, y2.2.2.2.2.2.2.2.2.2.2.2.2.2.2.2.1, y2.2.2.2.2.2.2.2.2.2.2.2.2.2.2.2.2.1, y2.2.2.2.2.2.2.2.2.2.2.2.2.2.2.2.2.2.1, y2.2.2.2.2.2.2.2.2.2.2.2.2.2.2.2.2.2.2.1, y2.2.2.2.2.2.2.2.2.2.2.2.2.2.2.2.2.2.2.2.1, y2.2.2.2.2.2.2.2.2.2.2.2.2.2.2.2.2.2.2.2.2.1, y2.2.2.2.2.2.2.2.2.2.2.2.2.2.2.2.2.2.2.2.2.2.1, y2.2.2.2.2.2.2.2.2.2.2.2.2.2.2.2.2.2.2.2.2.2.2.1, y2.2.2.2.2.2.2.2.2.2.2.2.2.2.2.2.2.2.2.2.2.2.2.2.1, ()), IntKind.i64.wrap (i4 + (1 : Int)), ()))
        else none
      else none
    else none
  else
    some (.inr (.inl (out3, ())))
noncomputable def laws_toDaemonS_r0 (x : H61_0) : Option (Sum H61_0 (Sum E61_0 Q61_0)) := laws_toDaemonS_c0 x.1 x.2.1 x.2.2.1
noncomputable def L61 {R : Type} : Loops R := fun id _ st k => bif Nat.beq id 0 then loopAt hp61_0 e61_0 q61_0 laws_toDaemonS_r0 st k else none
noncomputable def laws_toDaemonS (a0 : List R_ibiiLiELiiisELiELsEiiiiiiiiiLiEiiiLiELiiiLiiisEELiiLiEiiisLiEE) : Option ((List R_ibiiLiELiiisELiELsEiiiiiiiiiLiEiiiLiELiiiLiiisEELiiLiEiiisLiEE) × Unit) :=
  bif decide (((List.length a0 : Nat) : Int) = ((List.length a0 : Nat) : Int)) then bif decide ((0 : Int) ≤ ((List.length a0 : Nat) : Int)) then bif Nat.ble ((Int.toNat ((List.length a0 : Nat) : Int)) * 320) lim then outK (loopV laws_toDaemonS_r0 (a0, List.replicate (Int.toNat ((List.length a0 : Nat) : Int)) ((0 : Int), false, (0 : Int), (0 : Int), [], [], [], [], (0 : Int), (0 : Int), (0 : Int), (0 : Int), (0 : Int), (0 : Int), (0 : Int), (0 : Int), (0 : Int), [], (0 : Int), (0 : Int), (0 : Int), [], [], [], ()), (0 : Int), ())) (fun y1 =>
          some (y1.1, ())) (fun y2 =>
          none)
      else none
    else none
  else none
noncomputable def x61 (x : (List R_ibiiLiELiiisELiELsEiiiiiiiiiLiEiiiLiELiiiLiiisEELiiLiEiiisLiEE) × Unit) : Option ((List R_ibiiLiELiiisELiELsEiiiiiiiiiLiEiiiLiELiiiLiiisEELiiLiEiiisLiEE) × Unit) := laws_toDaemonS x.1
noncomputable def sem61 : Sem1 := semOf ps61 rs61 x61
theorem so61 : SemsOk Try.prog (semsOf sl61) := sems_cons k21 (sems_nil)
noncomputable def b61_0 : Code := nthLoop code61 0
theorem t61_r0_eq (x : denR (headRT hp61_0)) : codeK (tabOf tr) (semsOf sl61) D61 L61 b61_0 (headSt hp61_0 x) (roundK 0 hp61_0 e61_0 q61_0) = laws_toDaemonS_r0 x := by kernel_rfl
theorem loop61_0 {R : Type} (r : R) (w0 : World) (mu : Mu) (hs : AnShape ps61 mu) : LoopAt Try.prog w0 mu 23 (L61 : Loops R) r 0 b61_0 :=
  loop_auto tr_ok eq_ok mixed_ok so61 (D := D61) hs (by kernel_rfl) (fun _ => (loops_of (l := []) (by kernel_rfl) (List.forall_mem_nil _))) t61_r0_eq (fun _ _ => rfl)
theorem t61_eq (x : denR (headRT (ps61.map some))) : codeK (tabOf tr) (semsOf sl61) D61 L61 code61 (start 23 ps61 x) (finK rs61 ps61) = x61 x := by kernel_rfl
theorem k61 : Known Try.prog 61 sem61 :=
  fn_auto tr_ok eq_ok mixed_ok so61 (D := D61) (code := code61) (n := 23) Try.func61 (by kernel_rfl) (by kernel_rfl) (by kernel_rfl) (fun w0 mu _ hs => (loops_of (l := [(0, b61_0)]) (by kernel_rfl) (List.forall_mem_cons.2 ⟨loop61_0 _ w0 mu hs, (List.forall_mem_nil _)⟩))) t61_eq

/-! ### f93: laws.toLetter -/
noncomputable def code93 : Code := match Try.f93.body with | some c => c | none => .skip
def ps93 : List AP := [.val true [.int .i64, .int .i64, .int .i64, .int .i64, .int .i64, .int .i64, .str, .int .i64, .int .i64, .int .i64, .int .i64, .int .i64, .shr T_i, .int .i64, .int .i64, .int .i64, .shr T_iiis]]
def rs93 : List RP := [{ src := .cell 2, agg := true, ps := [.int .i64, .int .i64, .int .i64, .int .i64, .int .i64, .int .i64, .str, .int .i64, .int .i64, .int .i64, .int .i64, .int .i64, .own T_i, .int .i64, .int .i64, .int .i64, .own T_iiis] }]
noncomputable def sl93 : SemL := [(98, (.shr, .shr, .shr, sem98)), (82, (.shr, .shr, .shr, sem82)), (40, (.shr, .shr, .shr, sem40))]
def D93 : Draws := fun _ => .nil
noncomputable def L93 {R : Type} : Loops R := fun _ _ _ _ => none
noncomputable def laws_toLetter (a0c0 : Int) (a0c1 : Int) (a0c2 : Int) (a0c3 : Int) (a0c4 : Int) (a0c5 : Int) (a0c6 : ByteArray) (a0c7 : Int) (a0c8 : Int) (a0c9 : Int) (a0c10 : Int) (a0c11 : Int) (a0c12 : List (Int × Unit)) (a0c13 : Int) (a0c14 : Int) (a0c15 : Int) (a0c16 : List R_iiis) : Option (Int × Int × Int × Int × Int × Int × ByteArray × Int × Int × Int × Int × Int × (List (Int × Unit)) × Int × Int × Int × (List R_iiis) × Unit) :=
  Option.bind (laws_toItem a0c3 a0c4 a0c5 a0c6) fun y1 =>
  Option.bind (laws_toToken a0c7 a0c8 a0c9 a0c10 a0c11 a0c12) fun y2 =>
  Option.bind (laws_toBundle a0c13 a0c14 a0c15 a0c16) fun y3 =>
  some (a0c0, a0c1, a0c2, y1.1, y1.2.1, y1.2.2.1, y1.2.2.2.1, y2.1, y2.2.1, y2.2.2.1, y2.2.2.2.1, y2.2.2.2.2.1, y2.2.2.2.2.2.1, y3.1, y3.2.1, y3.2.2.1, y3.2.2.2.1, ())
noncomputable def x93 (x : Int × Int × Int × Int × Int × Int × ByteArray × Int × Int × Int × Int × Int × (List (Int × Unit)) × Int × Int × Int × (List R_iiis) × Unit) : Option (Int × Int × Int × Int × Int × Int × ByteArray × Int × Int × Int × Int × Int × (List (Int × Unit)) × Int × Int × Int × (List R_iiis) × Unit) := laws_toLetter x.1 x.2.1 x.2.2.1 x.2.2.2.1 x.2.2.2.2.1 x.2.2.2.2.2.1 x.2.2.2.2.2.2.1 x.2.2.2.2.2.2.2.1 x.2.2.2.2.2.2.2.2.1 x.2.2.2.2.2.2.2.2.2.1 x.2.2.2.2.2.2.2.2.2.2.1 x.2.2.2.2.2.2.2.2.2.2.2.1 x.2.2.2.2.2.2.2.2.2.2.2.2.1 x.2.2.2.2.2.2.2.2.2.2.2.2.2.1 x.2.2.2.2.2.2.2.2.2.2.2.2.2.2.1 x.2.2.2.2.2.2.2.2.2.2.2.2.2.2.2.1 x.2.2.2.2.2.2.2.2.2.2.2.2.2.2.2.2.1
noncomputable def sem93 : Sem1 := semOf ps93 rs93 x93
theorem so93 : SemsOk Try.prog (semsOf sl93) := sems_cons k98 (sems_cons k82 (sems_cons k40 (sems_nil)))
theorem t93_eq (x : denR (headRT (ps93.map some))) : codeK (tabOf tr) (semsOf sl93) D93 L93 code93 (start 26 ps93 x) (finK rs93 ps93) = x93 x := by kernel_rfl
theorem k93 : Known Try.prog 93 sem93 :=
  fn_auto tr_ok eq_ok mixed_ok so93 (D := D93) (code := code93) (n := 26) Try.func93 (by kernel_rfl) (by kernel_rfl) (by kernel_rfl) (fun w0 mu _ hs => (loops_of (l := []) (by kernel_rfl) (List.forall_mem_nil _))) t93_eq

/-! ### f62: laws.toLetterS -/
noncomputable def code62 : Code := match Try.f62.body with | some c => c | none => .skip
def ps62 : List AP := [.val false [.shr T_iiiiiisiiiiiLiEiiiLiiisE]]
def rs62 : List RP := [{ src := .tmp 2, agg := false, ps := [.own T_iiiiiisiiiiiLiEiiiLiiisE .dp] }]
noncomputable def sl62 : SemL := [(93, (.shr, .shr, .shr, sem93))]
def D62 : Draws := fun _ => .nil
def hp62_0 : List (Option AP) := [some (.val false [.shr T_iiiiiisiiiiiLiEiiiLiiisE]), none, none, some (.val false [.own T_iiiiiisiiiiiLiEiiiLiiisE .dp]), some (.val false [.int .i64]), none, none, none, none, none, none, none, none, none, none, none, none, none, none, none, none, none, none, none]
def e62_0 : List (Option AP) := [none, none, none, some (.val false [.own T_iiiiiisiiiiiLiEiiiLiiisE .dp]), none, none, none, none, none, none, none, none, none, none, none, none, none, none, none, none, none, none, none, none]
def q62_0 : List (Option AP) := [none, none, none, none, none, none, none, none, none, none, none, none, none, none, none, none, none, none, none, none, none, none, none, none]
abbrev H62_0 : Type := (List R_iiiiiisiiiiiLiEiiiLiiisE) × (List R_iiiiiisiiiiiLiEiiiLiiisE) × Int × Unit
abbrev E62_0 : Type := (List R_iiiiiisiiiiiLiEiiiLiiisE) × Unit
abbrev Q62_0 : Type := Unit
noncomputable def laws_toLetterS_c0 (a0 : List R_iiiiiisiiiiiLiEiiiLiiisE) (out3 : List R_iiiiiisiiiiiLiEiiiLiiisE) (i4 : Int) : Option (Sum H62_0 (Sum E62_0 Q62_0)) :=
  bif decide (i4 < ((List.length a0 : Nat) : Int)) then
    bif decide ((0 : Int) ≤ i4) then Option.bind ((a0)[Int.toNat i4]?) fun r1 =>
      Option.bind (laws_toLetter r1.1 r1.2.1 r1.2.2.1 r1.2.2.2.1 r1.2.2.2.2.1 r1.2.2.2.2.2.1 r1.2.2.2.2.2.2.1 r1.2.2.2.2.2.2.2.1 r1.2.2.2.2.2.2.2.2.1 r1.2.2.2.2.2.2.2.2.2.1 r1.2.2.2.2.2.2.2.2.2.2.1 r1.2.2.2.2.2.2.2.2.2.2.2.1 r1.2.2.2.2.2.2.2.2.2.2.2.2.1 r1.2.2.2.2.2.2.2.2.2.2.2.2.2.1 r1.2.2.2.2.2.2.2.2.2.2.2.2.2.2.1 r1.2.2.2.2.2.2.2.2.2.2.2.2.2.2.2.1 r1.2.2.2.2.2.2.2.2.2.2.2.2.2.2.2.2.1) fun y2 =>
      bif decide ((0 : Int) ≤ i4) then bif Nat.blt (Int.toNat i4) (List.length out3) then Option.bind ((out3)[Int.toNat i4]?) fun _ =>
          some (.inl (a0, List.set out3 (Int.toNat i4) (y2.1, y2.2.1, y2.2.2.1, y2.2.2.2.1, y2.2.2.2.2.1, y2.2.2.2.2.2.1, y2.2.2.2.2.2.2.1, y2.2.2.2.2.2.2.2.1, y2.2.2.2.2.2.2.2.2.1, y2.2.2.2.2.2.2.2.2.2.1, y2.2.2.2.2.2.2.2.2.2.2.1, y2.2.2.2.2.2.2.2.2.2.2.2.1, y2.2.2.2.2.2.2.2.2.2.2.2.2.1, y2.2.2.2.2.2.2.2.2.2.2.2.2.2.1, y2.2.2.2.2.2.2.2.2.2.2.2.2.2.2.1, y2.2.2.2.2.2.2.2.2.2.2.2.2.2.2.2.1, y2.2.2.2.2.2.2.2.2.2.2.2.2.2.2.2.2.1, ()), IntKind.i64.wrap (i4 + (1 : Int)), ()))
        else none
      else none
    else none
  else
    some (.inr (.inl (out3, ())))
noncomputable def laws_toLetterS_r0 (x : H62_0) : Option (Sum H62_0 (Sum E62_0 Q62_0)) := laws_toLetterS_c0 x.1 x.2.1 x.2.2.1
noncomputable def L62 {R : Type} : Loops R := fun id _ st k => bif Nat.beq id 0 then loopAt hp62_0 e62_0 q62_0 laws_toLetterS_r0 st k else none
noncomputable def laws_toLetterS (a0 : List R_iiiiiisiiiiiLiEiiiLiiisE) : Option ((List R_iiiiiisiiiiiLiEiiiLiiisE) × Unit) :=
  bif decide (((List.length a0 : Nat) : Int) = ((List.length a0 : Nat) : Int)) then bif decide ((0 : Int) ≤ ((List.length a0 : Nat) : Int)) then bif Nat.ble ((Int.toNat ((List.length a0 : Nat) : Int)) * 176) lim then outK (loopV laws_toLetterS_r0 (a0, List.replicate (Int.toNat ((List.length a0 : Nat) : Int)) ((0 : Int), (0 : Int), (0 : Int), (0 : Int), (0 : Int), (0 : Int), ByteArray.empty, (0 : Int), (0 : Int), (0 : Int), (0 : Int), (0 : Int), [], (0 : Int), (0 : Int), (0 : Int), [], ()), (0 : Int), ())) (fun y1 =>
          some (y1.1, ())) (fun y2 =>
          none)
      else none
    else none
  else none
noncomputable def x62 (x : (List R_iiiiiisiiiiiLiEiiiLiiisE) × Unit) : Option ((List R_iiiiiisiiiiiLiEiiiLiiisE) × Unit) := laws_toLetterS x.1
noncomputable def sem62 : Sem1 := semOf ps62 rs62 x62
theorem so62 : SemsOk Try.prog (semsOf sl62) := sems_cons k93 (sems_nil)
noncomputable def b62_0 : Code := nthLoop code62 0
theorem t62_r0_eq (x : denR (headRT hp62_0)) : codeK (tabOf tr) (semsOf sl62) D62 L62 b62_0 (headSt hp62_0 x) (roundK 0 hp62_0 e62_0 q62_0) = laws_toLetterS_r0 x := by kernel_rfl
theorem loop62_0 {R : Type} (r : R) (w0 : World) (mu : Mu) (hs : AnShape ps62 mu) : LoopAt Try.prog w0 mu 23 (L62 : Loops R) r 0 b62_0 :=
  loop_auto tr_ok eq_ok mixed_ok so62 (D := D62) hs (by kernel_rfl) (fun _ => (loops_of (l := []) (by kernel_rfl) (List.forall_mem_nil _))) t62_r0_eq (fun _ _ => rfl)
theorem t62_eq (x : denR (headRT (ps62.map some))) : codeK (tabOf tr) (semsOf sl62) D62 L62 code62 (start 23 ps62 x) (finK rs62 ps62) = x62 x := by kernel_rfl
theorem k62 : Known Try.prog 62 sem62 :=
  fn_auto tr_ok eq_ok mixed_ok so62 (D := D62) (code := code62) (n := 23) Try.func62 (by kernel_rfl) (by kernel_rfl) (by kernel_rfl) (fun w0 mu _ hs => (loops_of (l := [(0, b62_0)]) (by kernel_rfl) (List.forall_mem_cons.2 ⟨loop62_0 _ w0 mu hs, (List.forall_mem_nil _)⟩))) t62_eq

/-! ### f28: laws.toWorld -/
noncomputable def code28 : Code := match Try.f28.body with | some c => c | none => .skip
def ps28 : List AP := [.val true [.shr T_iLiE, .shr T_ibiiLiELiiisELiELsEiiiiiiiiiLiEiiiLiELiiiLiiisEELiiLiEiiisLiEE, .shr T_iiiiiisiiiiiLiEiiiLiiisE, .shr T_iiLiEiiisLiE]]
def rs28 : List RP := [{ src := .cell 2, agg := true, ps := [.own T_iLiE .dp, .own T_ibiiLiELiiisELiELsEiiiiiiiiiLiEiiiLiELiiiLiiisEELiiLiEiiisLiEE .dp, .own T_iiiiiisiiiiiLiEiiiLiiisE .dp, .own T_iiLiEiiisLiE .dp] }]
noncomputable def sl28 : SemL := [(60, (.shr, .shr, .shr, sem60)), (61, (.shr, .shr, .shr, sem61)), (62, (.shr, .shr, .shr, sem62)), (49, (.shr, .shr, .shr, sem49))]
def D28 : Draws := fun _ => .nil
noncomputable def L28 {R : Type} : Loops R := fun _ _ _ _ => none
noncomputable def laws_toWorld (a0c0 : List R_iLiE) (a0c1 : List R_ibiiLiELiiisELiELsEiiiiiiiiiLiEiiiLiELiiiLiiisEELiiLiEiiisLiEE) (a0c2 : List R_iiiiiisiiiiiLiEiiiLiiisE) (a0c3 : List R_iiLiEiiisLiE) : Option ((List R_iLiE) × (List R_ibiiLiELiiisELiELsEiiiiiiiiiLiEiiiLiELiiiLiiisEELiiLiEiiisLiEE) × (List R_iiiiiisiiiiiLiEiiiLiiisE) × (List R_iiLiEiiisLiE) × Unit) :=
  Option.bind (laws_toRingS a0c0) fun y1 =>
  Option.bind (laws_toDaemonS a0c1) fun y2 =>
  Option.bind (laws_toLetterS a0c2) fun y3 =>
  Option.bind (laws_toEventS a0c3) fun y4 =>
  some (y1.1, y2.1, y3.1, y4.1, ())
noncomputable def x28 (x : (List R_iLiE) × (List R_ibiiLiELiiisELiELsEiiiiiiiiiLiEiiiLiELiiiLiiisEELiiLiEiiisLiEE) × (List R_iiiiiisiiiiiLiEiiiLiiisE) × (List R_iiLiEiiisLiE) × Unit) : Option ((List R_iLiE) × (List R_ibiiLiELiiisELiELsEiiiiiiiiiLiEiiiLiELiiiLiiisEELiiLiEiiisLiEE) × (List R_iiiiiisiiiiiLiEiiiLiiisE) × (List R_iiLiEiiisLiE) × Unit) := laws_toWorld x.1 x.2.1 x.2.2.1 x.2.2.2.1
noncomputable def sem28 : Sem1 := semOf ps28 rs28 x28
theorem so28 : SemsOk Try.prog (semsOf sl28) := sems_cons k60 (sems_cons k61 (sems_cons k62 (sems_cons k49 (sems_nil))))
theorem t28_eq (x : denR (headRT (ps28.map some))) : codeK (tabOf tr) (semsOf sl28) D28 L28 code28 (start 21 ps28 x) (finK rs28 ps28) = x28 x := by kernel_rfl
theorem k28 : Known Try.prog 28 sem28 :=
  fn_auto tr_ok eq_ok mixed_ok so28 (D := D28) (code := code28) (n := 21) Try.func28 (by kernel_rfl) (by kernel_rfl) (by kernel_rfl) (fun w0 mu _ hs => (loops_of (l := []) (by kernel_rfl) (List.forall_mem_nil _))) t28_eq

/-! ### f27: spec.LogOf -/
noncomputable def code27 : Code := match Try.f27.body with | some c => c | none => .skip
def ps27 : List AP := [.val true [.shr T_iLiE, .shr T_ibiiLiELiiisELiELsEiiiiiiiiiLiEiiiLiELiiiLiiisEELiiLiEiiisLiEE, .shr T_iiiiiisiiiiiLiEiiiLiiisE, .shr T_iiLiEiiisLiE], .val false [.int .i64]]
def rs27 : List RP := [{ src := .tmp 4, agg := false, ps := [.own T_iiLiEiiisLiE .dp] }]
noncomputable def sl27 : SemL := [(59, (.shr, .shr, .shr, sem59)), (47, (.shr, .shr, .shr, sem47))]
def D27 : Draws := fun _ => .nil
noncomputable def L27 {R : Type} : Loops R := fun _ _ _ _ => none
noncomputable def spec_LogOf (w0c0 : List R_iLiE) (w0c1 : List R_ibiiLiELiiisELiELsEiiiiiiiiiLiEiiiLiELiiiLiiisEELiiLiEiiisLiEE) (w0c2 : List R_iiiiiisiiiiiLiEiiiLiiisE) (w0c3 : List R_iiLiEiiisLiE) (id1 : Int) : Option ((List R_iiLiEiiisLiE) × Unit) :=
  Option.bind (spec_l01In id1 (1 : Int) ((List.length w0c1 : Nat) : Int)) fun y1 =>
  bif !y1.1 then
    some ([], ())
  else bif decide ((0 : Int) ≤ IntKind.i64.wrap (id1 - (1 : Int))) then Option.bind ((w0c1)[Int.toNat (IntKind.i64.wrap (id1 - (1 : Int)))]?) fun r2 =>
    Option.bind (spec_l14CopyEvents r2.2.2.2.2.2.2.2.2.2.2.2.2.2.2.2.2.2.2.2.2.2.2.2.1) fun y3 =>
    some (y3.1, ())
  else none
noncomputable def x27 (x : (List R_iLiE) × (List R_ibiiLiELiiisELiELsEiiiiiiiiiLiEiiiLiELiiiLiiisEELiiLiEiiisLiEE) × (List R_iiiiiisiiiiiLiEiiiLiiisE) × (List R_iiLiEiiisLiE) × Int × Unit) : Option ((List R_iiLiEiiisLiE) × Unit) := spec_LogOf x.1 x.2.1 x.2.2.1 x.2.2.2.1 x.2.2.2.2.1
noncomputable def sem27 : Sem1 := semOf ps27 rs27 x27
theorem so27 : SemsOk Try.prog (semsOf sl27) := sems_cons k59 (sems_cons k47 (sems_nil))
theorem t27_eq (x : denR (headRT (ps27.map some))) : codeK (tabOf tr) (semsOf sl27) D27 L27 code27 (start 20 ps27 x) (finK rs27 ps27) = x27 x := by kernel_rfl
theorem k27 : Known Try.prog 27 sem27 :=
  fn_auto tr_ok eq_ok mixed_ok so27 (D := D27) (code := code27) (n := 20) Try.func27 (by kernel_rfl) (by kernel_rfl) (by kernel_rfl) (fun w0 mu _ hs => (loops_of (l := []) (by kernel_rfl) (List.forall_mem_nil _))) t27_eq

/-! ### f29: impl.LogOf -/
noncomputable def code29 : Code := match Try.f29.body with | some c => c | none => .skip
def ps29 : List AP := [.val true [.shr T_iLiE, .shr T_ibiiLiELiiisELiELsEiiiiiiiiiLiEiiiLiELiiiLiiisEELiiLiEiiisLiEE, .shr T_iiiiiisiiiiiLiEiiiLiiisE, .shr T_iiLiEiiisLiE], .val false [.int .i64]]
def rs29 : List RP := [{ src := .tmp 4, agg := false, ps := [.own T_iiLiEiiisLiE .dp] }]
noncomputable def sl29 : SemL := [(63, (.shr, .shr, .shr, sem63)), (50, (.shr, .shr, .shr, sem50))]
def D29 : Draws := fun _ => .nil
noncomputable def L29 {R : Type} : Loops R := fun _ _ _ _ => none
noncomputable def impl_LogOf (w0c0 : List R_iLiE) (w0c1 : List R_ibiiLiELiiisELiELsEiiiiiiiiiLiEiiiLiELiiiLiiisEELiiLiEiiisLiEE) (w0c2 : List R_iiiiiisiiiiiLiEiiiLiiisE) (w0c3 : List R_iiLiEiiisLiE) (id1 : Int) : Option ((List R_iiLiEiiisLiE) × Unit) :=
  Option.bind (impl_inRange id1 (1 : Int) ((List.length w0c1 : Nat) : Int)) fun y1 =>
  bif !y1.1 then
    some ([], ())
  else bif decide ((0 : Int) ≤ IntKind.i64.wrap (id1 - (1 : Int))) then Option.bind ((w0c1)[Int.toNat (IntKind.i64.wrap (id1 - (1 : Int)))]?) fun r2 =>
    Option.bind (impl_copyLog r2.2.2.2.2.2.2.2.2.2.2.2.2.2.2.2.2.2.2.2.2.2.2.2.1) fun y3 =>
    some (y3.1, ())
  else none
noncomputable def x29 (x : (List R_iLiE) × (List R_ibiiLiELiiisELiELsEiiiiiiiiiLiEiiiLiELiiiLiiisEELiiLiEiiisLiEE) × (List R_iiiiiisiiiiiLiEiiiLiiisE) × (List R_iiLiEiiisLiE) × Int × Unit) : Option ((List R_iiLiEiiisLiE) × Unit) := impl_LogOf x.1 x.2.1 x.2.2.1 x.2.2.2.1 x.2.2.2.2.1
noncomputable def sem29 : Sem1 := semOf ps29 rs29 x29
theorem so29 : SemsOk Try.prog (semsOf sl29) := sems_cons k63 (sems_cons k50 (sems_nil))
theorem t29_eq (x : denR (headRT (ps29.map some))) : codeK (tabOf tr) (semsOf sl29) D29 L29 code29 (start 19 ps29 x) (finK rs29 ps29) = x29 x := by kernel_rfl
theorem k29 : Known Try.prog 29 sem29 :=
  fn_auto tr_ok eq_ok mixed_ok so29 (D := D29) (code := code29) (n := 19) Try.func29 (by kernel_rfl) (by kernel_rfl) (by kernel_rfl) (fun w0 mu _ hs => (loops_of (l := []) (by kernel_rfl) (List.forall_mem_nil _))) t29_eq

/-! ### f65: laws.eqRingS -/
noncomputable def code65 : Code := match Try.f65.body with | some c => c | none => .skip
def ps65 : List AP := [.val false [.shr T_iLiE], .val false [.shr T_iLiE]]
def rs65 : List RP := [{ src := .tmp 4, agg := false, ps := [.bool] }]
noncomputable def sl65 : SemL := [(13, (.shr, .shr, .shr, sem13))]
def D65 : Draws := fun id => bif Nat.beq id 6 then .op 0 .any (.op 1 .any (.op 2 .any (.op 3 .take (.op 4 .any (.op 5 .any (.op 6 .any (.op 7 .take (.op 8 .one (.op 9 .any (.nil)))))))))) else .nil
def hp65_0 : List (Option AP) := [some (.val false [.shr T_iLiE]), some (.val false [.shr T_iLiE]), none, none, none, some (.val false [.int .i64]), none, none, none, none, none, none, none, none, none, none, none, none, none, none, none, none, none, none, none, none, none, none]
def e65_0 : List (Option AP) := [none, none, none, none, none, none, none, none, none, none, none, none, none, none, none, none, none, none, none, none, none, none, none, none, none, none, none, none]
def q65_0 : List (Option AP) := [none, none, none, none, some (.val false [.bool]), none, none, none, none, none, none, none, none, none, none, none, none, none, none, none, none, none, none, none, none, none, none, none]
abbrev H65_0 : Type := (List R_iLiE) × (List R_iLiE) × Int × Unit
abbrev E65_0 : Type := Unit
abbrev Q65_0 : Type := Bool × Unit
noncomputable def laws_eqRingS_c0 (a0 : List R_iLiE) (b1 : List R_iLiE) (i5 : Int) : Option (Sum H65_0 (Sum E65_0 Q65_0)) :=
  bif decide (i5 < ((List.length a0 : Nat) : Int)) then
    bif decide ((0 : Int) ≤ i5) then Option.bind ((a0)[Int.toNat i5]?) fun r1 =>
      bif decide ((0 : Int) ≤ i5) then Option.bind ((b1)[Int.toNat i5]?) fun r2 =>
        Option.bind (laws_eqRing r1.1 r1.2.1 r2.1 r2.2.1) fun y3 =>
        bif !y3.1 then
          some (.inr (.inr (false, ())))
        else
          some (.inl (a0, b1, IntKind.i64.wrap (i5 + (1 : Int)), ()))
      else none
    else none
  else
    some (.inr (.inl (())))
noncomputable def laws_eqRingS_r0 (x : H65_0) : Option (Sum H65_0 (Sum E65_0 Q65_0)) := laws_eqRingS_c0 x.1 x.2.1 x.2.2.1
noncomputable def L65 {R : Type} : Loops R := fun id _ st k => bif Nat.beq id 0 then loopAt hp65_0 e65_0 q65_0 laws_eqRingS_r0 st k else none
noncomputable def laws_eqRingS (a0 : List R_iLiE) (b1 : List R_iLiE) : Option (Bool × Unit) :=
  bif !decide (((List.length a0 : Nat) : Int) = ((List.length b1 : Nat) : Int)) then
    some (false, ())
  else
    outK (loopV laws_eqRingS_r0 (a0, b1, (0 : Int), ())) (fun y1 =>
      some (true, ())) (fun y2 =>
      some (y2.1, ()))
noncomputable def x65 (x : (List R_iLiE) × (List R_iLiE) × Unit) : Option (Bool × Unit) := laws_eqRingS x.1 x.2.1
noncomputable def sem65 : Sem1 := semOf ps65 rs65 x65
theorem so65 : SemsOk Try.prog (semsOf sl65) := sems_cons k13 (sems_nil)
noncomputable def b65_0 : Code := nthLoop code65 0
theorem t65_r0_eq (x : denR (headRT hp65_0)) : codeK (tabOf tr) (semsOf sl65) D65 L65 b65_0 (headSt hp65_0 x) (roundK 0 hp65_0 e65_0 q65_0) = laws_eqRingS_r0 x := by kernel_rfl
theorem loop65_0 {R : Type} (r : R) (w0 : World) (mu : Mu) (hs : AnShape ps65 mu) : LoopAt Try.prog w0 mu 27 (L65 : Loops R) r 0 b65_0 :=
  loop_auto tr_ok eq_ok mixed_ok so65 (D := D65) hs (by kernel_rfl) (fun _ => (loops_of (l := []) (by kernel_rfl) (List.forall_mem_nil _))) t65_r0_eq (fun _ _ => rfl)
theorem t65_eq (x : denR (headRT (ps65.map some))) : codeK (tabOf tr) (semsOf sl65) D65 L65 code65 (start 27 ps65 x) (finK rs65 ps65) = x65 x := by kernel_rfl
theorem k65 : Known Try.prog 65 sem65 :=
  fn_auto tr_ok eq_ok mixed_ok so65 (D := D65) (code := code65) (n := 27) Try.func65 (by kernel_rfl) (by kernel_rfl) (by kernel_rfl) (fun w0 mu _ hs => (loops_of (l := [(0, b65_0)]) (by kernel_rfl) (List.forall_mem_cons.2 ⟨loop65_0 _ w0 mu hs, (List.forall_mem_nil _)⟩))) t65_eq

/-! ### f66: laws.eqDaemonS -/
noncomputable def code66 : Code := match Try.f66.body with | some c => c | none => .skip
def ps66 : List AP := [.val false [.shr T_ibiiLiELiiisELiELsEiiiiiiiiiLiEiiiLiELiiiLiiisEELiiLiEiiisLiEE], .val false [.shr T_ibiiLiELiiisELiELsEiiiiiiiiiLiEiiiLiELiiiLiiisEELiiLiEiiisLiEE]]
def rs66 : List RP := [{ src := .tmp 4, agg := false, ps := [.bool] }]
noncomputable def sl66 : SemL := [(23, (.shr, .shr, .shr, sem23))]
def D66 : Draws := fun id => bif Nat.beq id 6 then .op 0 .any (.op 1 .any (.op 2 .any (.op 3 .take (.op 4 .any (.op 5 .any (.op 6 .any (.op 7 .take (.op 8 .one (.op 9 .any (.nil)))))))))) else .nil
def hp66_0 : List (Option AP) := [some (.val false [.shr T_ibiiLiELiiisELiELsEiiiiiiiiiLiEiiiLiELiiiLiiisEELiiLiEiiisLiEE]), some (.val false [.shr T_ibiiLiELiiisELiELsEiiiiiiiiiLiEiiiLiELiiiLiiisEELiiLiEiiisLiEE]), none, none, none, some (.val false [.int .i64]), none, none, none, none, none, none, none, none, none, none, none, none, none, none, none, none, none, none, none, none, none, none]
def e66_0 : List (Option AP) := [none, none, none, none, none, none, none, none, none, none, none, none, none, none, none, none, none, none, none, none, none, none, none, none, none, none, none, none]
def q66_0 : List (Option AP) := [none, none, none, none, some (.val false [.bool]), none, none, none, none, none, none, none, none, none, none, none, none, none, none, none, none, none, none, none, none, none, none, none]
abbrev H66_0 : Type := (List R_ibiiLiELiiisELiELsEiiiiiiiiiLiEiiiLiELiiiLiiisEELiiLiEiiisLiEE) × (List R_ibiiLiELiiisELiELsEiiiiiiiiiLiEiiiLiELiiiLiiisEELiiLiEiiisLiEE) × Int × Unit
abbrev E66_0 : Type := Unit
abbrev Q66_0 : Type := Bool × Unit
noncomputable def laws_eqDaemonS_c0 (a0 : List R_ibiiLiELiiisELiELsEiiiiiiiiiLiEiiiLiELiiiLiiisEELiiLiEiiisLiEE) (b1 : List R_ibiiLiELiiisELiELsEiiiiiiiiiLiEiiiLiELiiiLiiisEELiiLiEiiisLiEE) (i5 : Int) : Option (Sum H66_0 (Sum E66_0 Q66_0)) :=
  bif decide (i5 < ((List.length a0 : Nat) : Int)) then
    bif decide ((0 : Int) ≤ i5) then Option.bind ((a0)[Int.toNat i5]?) fun r1 =>
      bif decide ((0 : Int) ≤ i5) then Option.bind ((b1)[Int.toNat i5]?) fun r2 =>
        Option.bind (laws_eqDaemon r1.1 r1.2.1 r1.2.2.1 r1.2.2.2.1 r1.2.2.2.2.1 r1.2.2.2.2.2.1 r1.2.2.2.2.2.2.1 r1.2.2.2.2.2.2.2.1 r1.2.2.2.2.2.2.2.2.1 r1.2.2.2.2.2.2.2.2.2.1 r1.2.2.2.2.2.2.2.2.2.2.1 r1.2.2.2.2.2.2.2.2.2.2.2.1 r1.2.2.2.2.2.2.2.2.2.2.2.2.1 r1.2.2.2.2.2.2.2.2.2.2.2.2.2.1 r1.2.2.2.2.2.2.2.2.2.2.2.2.2.2.1 r1.2.2.2.2.2.2.2.2.2.2.2.2.2.2.2.1 r1.2.2.2.2.2.2.2.2.2.2.2.2.2.2.2.2.1 r1.2.2.2.2.2.2.2.2.2.2.2.2.2.2.2.2.2.1 r1.2.2.2.2.2.2.2.2.2.2.2.2.2.2.2.2.2.2.1 r1.2.2.2.2.2.2.2.2.2.2.2.2.2.2.2.2.2.2.2.1 r1.2.2.2.2.2.2.2.2.2.2.2.2.2.2.2.2.2.2.2.2.1 r1.2.2.2.2.2.2.2.2.2.2.2.2.2.2.2.2.2.2.2.2.2.1 r1.2.2.2.2.2.2.2.2.2.2.2.2.2.2.2.2.2.2.2.2.2.2.1 r1.2.2.2.2.2.2.2.2.2.2.2.2.2.2.2.2.2.2.2.2.2.2.2.1 r2.1 r2.2.1 r2.2.2.1 r2.2.2.2.1 r2.2.2.2.2.1 r2.2.2.2.2.2.1 r2.2.2.2.2.2.2.1 r2.2.2.2.2.2.2.2.1 r2.2.2.2.2.2.2.2.2.1 r2.2.2.2.2.2.2.2.2.2.1 r2.2.2.2.2.2.2.2.2.2.2.1 r2.2.2.2.2.2.2.2.2.2.2.2.1 r2.2.2.2.2.2.2.2.2.2.2.2.2.1 r2.2.2.2.2.2.2.2.2.2.2.2.2.2.1 r2.2.2.2.2.2.2.2.2.2.2.2.2.2.2.1 r2.2.2.2.2.2.2.2.2.2.2.2.2.2.2.2.1 r2.2.2.2.2.2.2.2.2.2.2.2.2.2.2.2.2.1 r2.2.2.2.2.2.2.2.2.2.2.2.2.2.2.2.2.2.1 r2.2.2.2.2.2.2.2.2.2.2.2.2.2.2.2.2.2.2.1 r2.2.2.2.2.2.2.2.2.2.2.2.2.2.2.2.2.2.2.2.1 r2.2.2.2.2.2.2.2.2.2.2.2.2.2.2.2.2.2.2.2.2.1 r2.2.2.2.2.2.2.2.2.2.2.2.2.2.2.2.2.2.2.2.2.2.1 r2.2.2.2.2.2.2.2.2.2.2.2.2.2.2.2.2.2.2.2.2.2.2.1 r2.2.2.2.2.2.2.2.2.2.2.2.2.2.2.2.2.2.2.2.2.2.2.2.1) fun y3 =>
        bif !y3.1 then
          some (.inr (.inr (false, ())))
        else
          some (.inl (a0, b1, IntKind.i64.wrap (i5 + (1 : Int)), ()))
      else none
    else none
  else
    some (.inr (.inl (())))
noncomputable def laws_eqDaemonS_r0 (x : H66_0) : Option (Sum H66_0 (Sum E66_0 Q66_0)) := laws_eqDaemonS_c0 x.1 x.2.1 x.2.2.1
noncomputable def L66 {R : Type} : Loops R := fun id _ st k => bif Nat.beq id 0 then loopAt hp66_0 e66_0 q66_0 laws_eqDaemonS_r0 st k else none
noncomputable def laws_eqDaemonS (a0 : List R_ibiiLiELiiisELiELsEiiiiiiiiiLiEiiiLiELiiiLiiisEELiiLiEiiisLiEE) (b1 : List R_ibiiLiELiiisELiELsEiiiiiiiiiLiEiiiLiELiiiLiiisEELiiLiEiiisLiEE) : Option (Bool × Unit) :=
  bif !decide (((List.length a0 : Nat) : Int) = ((List.length b1 : Nat) : Int)) then
    some (false, ())
  else
    outK (loopV laws_eqDaemonS_r0 (a0, b1, (0 : Int), ())) (fun y1 =>
      some (true, ())) (fun y2 =>
      some (y2.1, ()))
noncomputable def x66 (x : (List R_ibiiLiELiiisELiELsEiiiiiiiiiLiEiiiLiELiiiLiiisEELiiLiEiiisLiEE) × (List R_ibiiLiELiiisELiELsEiiiiiiiiiLiEiiiLiELiiiLiiisEELiiLiEiiisLiEE) × Unit) : Option (Bool × Unit) := laws_eqDaemonS x.1 x.2.1
noncomputable def sem66 : Sem1 := semOf ps66 rs66 x66
theorem so66 : SemsOk Try.prog (semsOf sl66) := sems_cons k23 (sems_nil)
noncomputable def b66_0 : Code := nthLoop code66 0
theorem t66_r0_eq (x : denR (headRT hp66_0)) : codeK (tabOf tr) (semsOf sl66) D66 L66 b66_0 (headSt hp66_0 x) (roundK 0 hp66_0 e66_0 q66_0) = laws_eqDaemonS_r0 x := by kernel_rfl
theorem loop66_0 {R : Type} (r : R) (w0 : World) (mu : Mu) (hs : AnShape ps66 mu) : LoopAt Try.prog w0 mu 27 (L66 : Loops R) r 0 b66_0 :=
  loop_auto tr_ok eq_ok mixed_ok so66 (D := D66) hs (by kernel_rfl) (fun _ => (loops_of (l := []) (by kernel_rfl) (List.forall_mem_nil _))) t66_r0_eq (fun _ _ => rfl)
theorem t66_eq (x : denR (headRT (ps66.map some))) : codeK (tabOf tr) (semsOf sl66) D66 L66 code66 (start 27 ps66 x) (finK rs66 ps66) = x66 x := by kernel_rfl
theorem k66 : Known Try.prog 66 sem66 :=
  fn_auto tr_ok eq_ok mixed_ok so66 (D := D66) (code := code66) (n := 27) Try.func66 (by kernel_rfl) (by kernel_rfl) (by kernel_rfl) (fun w0 mu _ hs => (loops_of (l := [(0, b66_0)]) (by kernel_rfl) (List.forall_mem_cons.2 ⟨loop66_0 _ w0 mu hs, (List.forall_mem_nil _)⟩))) t66_eq

/-! ### f95: laws.eqLetter -/
noncomputable def code95 : Code := match Try.f95.body with | some c => c | none => .skip
def ps95 : List AP := [.val true [.int .i64, .int .i64, .int .i64, .int .i64, .int .i64, .int .i64, .str, .int .i64, .int .i64, .int .i64, .int .i64, .int .i64, .shr T_i, .int .i64, .int .i64, .int .i64, .shr T_iiis], .val true [.int .i64, .int .i64, .int .i64, .int .i64, .int .i64, .int .i64, .str, .int .i64, .int .i64, .int .i64, .int .i64, .int .i64, .shr T_i, .int .i64, .int .i64, .int .i64, .shr T_iiis]]
def rs95 : List RP := [{ src := .tmp 4, agg := false, ps := [.bool] }]
noncomputable def sl95 : SemL := [(94, (.shr, .shr, .shr, sem94)), (86, (.shr, .shr, .shr, sem86)), (43, (.shr, .shr, .shr, sem43))]
def D95 : Draws := fun _ => .nil
noncomputable def L95 {R : Type} : Loops R := fun _ _ _ _ => none
noncomputable def laws_eqLetter (a0c0 : Int) (a0c1 : Int) (a0c2 : Int) (a0c3 : Int) (a0c4 : Int) (a0c5 : Int) (a0c6 : ByteArray) (a0c7 : Int) (a0c8 : Int) (a0c9 : Int) (a0c10 : Int) (a0c11 : Int) (a0c12 : List (Int × Unit)) (a0c13 : Int) (a0c14 : Int) (a0c15 : Int) (a0c16 : List R_iiis) (b1c0 : Int) (b1c1 : Int) (b1c2 : Int) (b1c3 : Int) (b1c4 : Int) (b1c5 : Int) (b1c6 : ByteArray) (b1c7 : Int) (b1c8 : Int) (b1c9 : Int) (b1c10 : Int) (b1c11 : Int) (b1c12 : List (Int × Unit)) (b1c13 : Int) (b1c14 : Int) (b1c15 : Int) (b1c16 : List R_iiis) : Option (Bool × Unit) :=
  bif !decide (a0c0 = b1c0) then
    some (false, ())
  else bif !decide (a0c1 = b1c1) then
    some (false, ())
  else bif !decide (a0c2 = b1c2) then
    some (false, ())
  else
    Option.bind (laws_eqItem a0c3 a0c4 a0c5 a0c6 b1c3 b1c4 b1c5 b1c6) fun y1 =>
    bif !y1.1 then
      some (false, ())
    else
      Option.bind (laws_eqToken a0c7 a0c8 a0c9 a0c10 a0c11 a0c12 b1c7 b1c8 b1c9 b1c10 b1c11 b1c12) fun y2 =>
      bif !y2.1 then
        some (false, ())
      else
        Option.bind (laws_eqBundle a0c13 a0c14 a0c15 a0c16 b1c13 b1c14 b1c15 b1c16) fun y3 =>
        bif !y3.1 then
          some (false, ())
        else
          some (true, ())
noncomputable def x95 (x : Int × Int × Int × Int × Int × Int × ByteArray × Int × Int × Int × Int × Int × (List (Int × Unit)) × Int × Int × Int × (List R_iiis) × Int × Int × Int × Int × Int × Int × ByteArray × Int × Int × Int × Int × Int × (List (Int × Unit)) × Int × Int × Int × (List R_iiis) × Unit) : Option (Bool × Unit) := laws_eqLetter x.1 x.2.1 x.2.2.1 x.2.2.2.1 x.2.2.2.2.1 x.2.2.2.2.2.1 x.2.2.2.2.2.2.1 x.2.2.2.2.2.2.2.1 x.2.2.2.2.2.2.2.2.1 x.2.2.2.2.2.2.2.2.2.1 x.2.2.2.2.2.2.2.2.2.2.1 x.2.2.2.2.2.2.2.2.2.2.2.1 x.2.2.2.2.2.2.2.2.2.2.2.2.1 x.2.2.2.2.2.2.2.2.2.2.2.2.2.1 x.2.2.2.2.2.2.2.2.2.2.2.2.2.2.1 x.2.2.2.2.2.2.2.2.2.2.2.2.2.2.2.1 x.2.2.2.2.2.2.2.2.2.2.2.2.2.2.2.2.1 x.2.2.2.2.2.2.2.2.2.2.2.2.2.2.2.2.2.1 x.2.2.2.2.2.2.2.2.2.2.2.2.2.2.2.2.2.2.1 x.2.2.2.2.2.2.2.2.2.2.2.2.2.2.2.2.2.2.2.1 x.2.2.2.2.2.2.2.2.2.2.2.2.2.2.2.2.2.2.2.2.1 x.2.2.2.2.2.2.2.2.2.2.2.2.2.2.2.2.2.2.2.2.2.1 x.2.2.2.2.2.2.2.2.2.2.2.2.2.2.2.2.2.2.2.2.2.2.1 x.2.2.2.2.2.2.2.2.2.2.2.2.2.2.2.2.2.2.2.2.2.2.2.1 x.2.2.2.2.2.2.2.2.2.2.2.2.2.2.2.2.2.2.2.2.2.2.2.2.1 x.2.2.2.2.2.2.2.2.2.2.2.2.2.2.2.2.2.2.2.2.2.2.2.2.2.1 x.2.2.2.2.2.2.2.2.2.2.2.2.2.2.2.2.2.2.2.2.2.2.2.2.2.2.1 x.2.2.2.2.2.2.2.2.2.2.2.2.2.2.2.2.2.2.2.2.2.2.2.2.2.2.2.1 x.2.2.2.2.2.2.2.2.2.2.2.2.2.2.2.2.2.2.2.2.2.2.2.2.2.2.2.2.1 x.2.2.2.2.2.2.2.2.2.2.2.2.2.2.2.2.2.2.2.2.2.2.2.2.2.2.2.2.2.1 x.2.2.2.2.2.2.2.2.2.2.2.2.2.2.2.2.2.2.2.2.2.2.2.2.2.2.2.2.2.2.1 x.2.2.2.2.2.2.2.2.2.2.2.2.2.2.2.2.2.2.2.2.2.2.2.2.2.2.2.2.2.2.2.1 x.2.2.2.2.2.2.2.2.2.2.2.2.2.2.2.2.2.2.2.2.2.2.2.2.2.2.2.2.2.2.2.2.1 x.2.2.2.2.2.2.2.2.2.2.2.2.2.2.2.2.2.2.2.2.2.2.2.2.2.2.2.2.2.2.2.2.2.1
noncomputable def sem95 : Sem1 := semOf ps95 rs95 x95
theorem so95 : SemsOk Try.prog (semsOf sl95) := sems_cons k94 (sems_cons k86 (sems_cons k43 (sems_nil)))
theorem t95_eq (x : denR (headRT (ps95.map some))) : codeK (tabOf tr) (semsOf sl95) D95 L95 code95 (start 38 ps95 x) (finK rs95 ps95) = x95 x := by kernel_rfl
theorem k95 : Known Try.prog 95 sem95 :=
  fn_auto tr_ok eq_ok mixed_ok so95 (D := D95) (code := code95) (n := 38) Try.func95 (by kernel_rfl) (by kernel_rfl) (by kernel_rfl) (fun w0 mu _ hs => (loops_of (l := []) (by kernel_rfl) (List.forall_mem_nil _))) t95_eq

/-! ### f67: laws.eqLetterS -/
noncomputable def code67 : Code := match Try.f67.body with | some c => c | none => .skip
def ps67 : List AP := [.val false [.shr T_iiiiiisiiiiiLiEiiiLiiisE], .val false [.shr T_iiiiiisiiiiiLiEiiiLiiisE]]
def rs67 : List RP := [{ src := .tmp 4, agg := false, ps := [.bool] }]
noncomputable def sl67 : SemL := [(95, (.shr, .shr, .shr, sem95))]
def D67 : Draws := fun id => bif Nat.beq id 6 then .op 0 .any (.op 1 .any (.op 2 .any (.op 3 .take (.op 4 .any (.op 5 .any (.op 6 .any (.op 7 .take (.op 8 .one (.op 9 .any (.nil)))))))))) else .nil
def hp67_0 : List (Option AP) := [some (.val false [.shr T_iiiiiisiiiiiLiEiiiLiiisE]), some (.val false [.shr T_iiiiiisiiiiiLiEiiiLiiisE]), none, none, none, some (.val false [.int .i64]), none, none, none, none, none, none, none, none, none, none, none, none, none, none, none, none, none, none, none, none, none, none]
def e67_0 : List (Option AP) := [none, none, none, none, none, none, none, none, none, none, none, none, none, none, none, none, none, none, none, none, none, none, none, none, none, none, none, none]
def q67_0 : List (Option AP) := [none, none, none, none, some (.val false [.bool]), none, none, none, none, none, none, none, none, none, none, none, none, none, none, none, none, none, none, none, none, none, none, none]
abbrev H67_0 : Type := (List R_iiiiiisiiiiiLiEiiiLiiisE) × (List R_iiiiiisiiiiiLiEiiiLiiisE) × Int × Unit
abbrev E67_0 : Type := Unit
abbrev Q67_0 : Type := Bool × Unit
noncomputable def laws_eqLetterS_c0 (a0 : List R_iiiiiisiiiiiLiEiiiLiiisE) (b1 : List R_iiiiiisiiiiiLiEiiiLiiisE) (i5 : Int) : Option (Sum H67_0 (Sum E67_0 Q67_0)) :=
  bif decide (i5 < ((List.length a0 : Nat) : Int)) then
    bif decide ((0 : Int) ≤ i5) then Option.bind ((a0)[Int.toNat i5]?) fun r1 =>
      bif decide ((0 : Int) ≤ i5) then Option.bind ((b1)[Int.toNat i5]?) fun r2 =>
        Option.bind (laws_eqLetter r1.1 r1.2.1 r1.2.2.1 r1.2.2.2.1 r1.2.2.2.2.1 r1.2.2.2.2.2.1 r1.2.2.2.2.2.2.1 r1.2.2.2.2.2.2.2.1 r1.2.2.2.2.2.2.2.2.1 r1.2.2.2.2.2.2.2.2.2.1 r1.2.2.2.2.2.2.2.2.2.2.1 r1.2.2.2.2.2.2.2.2.2.2.2.1 r1.2.2.2.2.2.2.2.2.2.2.2.2.1 r1.2.2.2.2.2.2.2.2.2.2.2.2.2.1 r1.2.2.2.2.2.2.2.2.2.2.2.2.2.2.1 r1.2.2.2.2.2.2.2.2.2.2.2.2.2.2.2.1 r1.2.2.2.2.2.2.2.2.2.2.2.2.2.2.2.2.1 r2.1 r2.2.1 r2.2.2.1 r2.2.2.2.1 r2.2.2.2.2.1 r2.2.2.2.2.2.1 r2.2.2.2.2.2.2.1 r2.2.2.2.2.2.2.2.1 r2.2.2.2.2.2.2.2.2.1 r2.2.2.2.2.2.2.2.2.2.1 r2.2.2.2.2.2.2.2.2.2.2.1 r2.2.2.2.2.2.2.2.2.2.2.2.1 r2.2.2.2.2.2.2.2.2.2.2.2.2.1 r2.2.2.2.2.2.2.2.2.2.2.2.2.2.1 r2.2.2.2.2.2.2.2.2.2.2.2.2.2.2.1 r2.2.2.2.2.2.2.2.2.2.2.2.2.2.2.2.1 r2.2.2.2.2.2.2.2.2.2.2.2.2.2.2.2.2.1) fun y3 =>
        bif !y3.1 then
          some (.inr (.inr (false, ())))
        else
          some (.inl (a0, b1, IntKind.i64.wrap (i5 + (1 : Int)), ()))
      else none
    else none
  else
    some (.inr (.inl (())))
noncomputable def laws_eqLetterS_r0 (x : H67_0) : Option (Sum H67_0 (Sum E67_0 Q67_0)) := laws_eqLetterS_c0 x.1 x.2.1 x.2.2.1
noncomputable def L67 {R : Type} : Loops R := fun id _ st k => bif Nat.beq id 0 then loopAt hp67_0 e67_0 q67_0 laws_eqLetterS_r0 st k else none
noncomputable def laws_eqLetterS (a0 : List R_iiiiiisiiiiiLiEiiiLiiisE) (b1 : List R_iiiiiisiiiiiLiEiiiLiiisE) : Option (Bool × Unit) :=
  bif !decide (((List.length a0 : Nat) : Int) = ((List.length b1 : Nat) : Int)) then
    some (false, ())
  else
    outK (loopV laws_eqLetterS_r0 (a0, b1, (0 : Int), ())) (fun y1 =>
      some (true, ())) (fun y2 =>
      some (y2.1, ()))
noncomputable def x67 (x : (List R_iiiiiisiiiiiLiEiiiLiiisE) × (List R_iiiiiisiiiiiLiEiiiLiiisE) × Unit) : Option (Bool × Unit) := laws_eqLetterS x.1 x.2.1
noncomputable def sem67 : Sem1 := semOf ps67 rs67 x67
theorem so67 : SemsOk Try.prog (semsOf sl67) := sems_cons k95 (sems_nil)
noncomputable def b67_0 : Code := nthLoop code67 0
theorem t67_r0_eq (x : denR (headRT hp67_0)) : codeK (tabOf tr) (semsOf sl67) D67 L67 b67_0 (headSt hp67_0 x) (roundK 0 hp67_0 e67_0 q67_0) = laws_eqLetterS_r0 x := by kernel_rfl
theorem loop67_0 {R : Type} (r : R) (w0 : World) (mu : Mu) (hs : AnShape ps67 mu) : LoopAt Try.prog w0 mu 27 (L67 : Loops R) r 0 b67_0 :=
  loop_auto tr_ok eq_ok mixed_ok so67 (D := D67) hs (by kernel_rfl) (fun _ => (loops_of (l := []) (by kernel_rfl) (List.forall_mem_nil _))) t67_r0_eq (fun _ _ => rfl)
theorem t67_eq (x : denR (headRT (ps67.map some))) : codeK (tabOf tr) (semsOf sl67) D67 L67 code67 (start 27 ps67 x) (finK rs67 ps67) = x67 x := by kernel_rfl
theorem k67 : Known Try.prog 67 sem67 :=
  fn_auto tr_ok eq_ok mixed_ok so67 (D := D67) (code := code67) (n := 27) Try.func67 (by kernel_rfl) (by kernel_rfl) (by kernel_rfl) (fun w0 mu _ hs => (loops_of (l := [(0, b67_0)]) (by kernel_rfl) (List.forall_mem_cons.2 ⟨loop67_0 _ w0 mu hs, (List.forall_mem_nil _)⟩))) t67_eq

/-! ### f31: laws.eqWorld -/
noncomputable def code31 : Code := match Try.f31.body with | some c => c | none => .skip
def ps31 : List AP := [.val true [.shr T_iLiE, .shr T_ibiiLiELiiisELiELsEiiiiiiiiiLiEiiiLiELiiiLiiisEELiiLiEiiisLiEE, .shr T_iiiiiisiiiiiLiEiiiLiiisE, .shr T_iiLiEiiisLiE], .val true [.shr T_iLiE, .shr T_ibiiLiELiiisELiELsEiiiiiiiiiLiEiiiLiELiiiLiiisEELiiLiEiiisLiEE, .shr T_iiiiiisiiiiiLiEiiiLiiisE, .shr T_iiLiEiiisLiE]]
def rs31 : List RP := [{ src := .tmp 4, agg := false, ps := [.bool] }]
noncomputable def sl31 : SemL := [(65, (.shr, .shr, .shr, sem65)), (66, (.shr, .shr, .shr, sem66)), (67, (.shr, .shr, .shr, sem67)), (30, (.shr, .shr, .shr, sem30))]
def D31 : Draws := fun _ => .nil
noncomputable def L31 {R : Type} : Loops R := fun _ _ _ _ => none
noncomputable def laws_eqWorld (a0c0 : List R_iLiE) (a0c1 : List R_ibiiLiELiiisELiELsEiiiiiiiiiLiEiiiLiELiiiLiiisEELiiLiEiiisLiEE) (a0c2 : List R_iiiiiisiiiiiLiEiiiLiiisE) (a0c3 : List R_iiLiEiiisLiE) (b1c0 : List R_iLiE) (b1c1 : List R_ibiiLiELiiisELiELsEiiiiiiiiiLiEiiiLiELiiiLiiisEELiiLiEiiisLiEE) (b1c2 : List R_iiiiiisiiiiiLiEiiiLiiisE) (b1c3 : List R_iiLiEiiisLiE) : Option (Bool × Unit) :=
  Option.bind (laws_eqRingS a0c0 b1c0) fun y1 =>
  bif !y1.1 then
    some (false, ())
  else
    Option.bind (laws_eqDaemonS a0c1 b1c1) fun y2 =>
    bif !y2.1 then
      some (false, ())
    else
      Option.bind (laws_eqLetterS a0c2 b1c2) fun y3 =>
      bif !y3.1 then
        some (false, ())
      else
        Option.bind (laws_eqEventS a0c3 b1c3) fun y4 =>
        bif !y4.1 then
          some (false, ())
        else
          some (true, ())
noncomputable def x31 (x : (List R_iLiE) × (List R_ibiiLiELiiisELiELsEiiiiiiiiiLiEiiiLiELiiiLiiisEELiiLiEiiisLiEE) × (List R_iiiiiisiiiiiLiEiiiLiiisE) × (List R_iiLiEiiisLiE) × (List R_iLiE) × (List R_ibiiLiELiiisELiELsEiiiiiiiiiLiEiiiLiELiiiLiiisEELiiLiEiiisLiEE) × (List R_iiiiiisiiiiiLiEiiiLiiisE) × (List R_iiLiEiiisLiE) × Unit) : Option (Bool × Unit) := laws_eqWorld x.1 x.2.1 x.2.2.1 x.2.2.2.1 x.2.2.2.2.1 x.2.2.2.2.2.1 x.2.2.2.2.2.2.1 x.2.2.2.2.2.2.2.1
noncomputable def sem31 : Sem1 := semOf ps31 rs31 x31
theorem so31 : SemsOk Try.prog (semsOf sl31) := sems_cons k65 (sems_cons k66 (sems_cons k67 (sems_cons k30 (sems_nil))))
theorem t31_eq (x : denR (headRT (ps31.map some))) : codeK (tabOf tr) (semsOf sl31) D31 L31 code31 (start 29 ps31 x) (finK rs31 ps31) = x31 x := by kernel_rfl
theorem k31 : Known Try.prog 31 sem31 :=
  fn_auto tr_ok eq_ok mixed_ok so31 (D := D31) (code := code31) (n := 29) Try.func31 (by kernel_rfl) (by kernel_rfl) (by kernel_rfl) (fun w0 mu _ hs => (loops_of (l := []) (by kernel_rfl) (List.forall_mem_nil _))) t31_eq

/-! ### f68: laws.markRingS -/
noncomputable def code68 : Code := match Try.f68.body with | some c => c | none => .skip
def ps68 : List AP := [.io T_iLiE .dp, .val false [.int .i64]]
def rs68 : List RP := [{ src := .tmp 4, agg := false, ps := [.int .i64] }]
noncomputable def sl68 : SemL := [(17, (.io, .shr, .shr, sem17))]
def D68 : Draws := fun _ => .nil
def hp68_0 : List (Option AP) := [some (.io T_iLiE .dp), some (.val false [.int .i64]), none, none, none, some (.val false [.int .i64]), none, none, none, none, none, none, none, none, none, none, none, none, none, none, none, none, none, none, none, none, none, none]
def e68_0 : List (Option AP) := [some (.io T_iLiE .dp), some (.val false [.int .i64]), none, none, none, none, none, none, none, none, none, none, none, none, none, none, none, none, none, none, none, none, none, none, none, none, none, none]
def q68_0 : List (Option AP) := [none, none, none, none, none, none, none, none, none, none, none, none, none, none, none, none, none, none, none, none, none, none, none, none, none, none, none, none]
abbrev H68_0 : Type := (List R_iLiE) × Int × Int × Unit
abbrev E68_0 : Type := (List R_iLiE) × Int × Unit
abbrev Q68_0 : Type := Unit
noncomputable def laws_markRingS_c0 (a0 : List R_iLiE) (k1 : Int) (i5 : Int) : Option (Sum H68_0 (Sum E68_0 Q68_0)) :=
  bif decide (i5 < ((List.length a0 : Nat) : Int)) then
    bif decide ((0 : Int) ≤ i5) then bif Nat.blt (Int.toNat i5) (List.length a0) then Option.bind ((a0)[Int.toNat i5]?) fun r1 =>
        bif decide ((0 : Int) ≤ i5) then bif Nat.blt (Int.toNat i5) (List.length (List.set a0 (Int.toNat i5) (k1, r1.2.1, ()))) then Option.bind ((List.set a0 (Int.toNat i5) (k1, r1.2.1, ()))[Int.toNat i5]?) fun r2 =>
            Option.bind (laws_markIntS r2.2.1 (IntKind.i64.wrap (k1 + (1 : Int)))) fun y3 =>
            Option.bind ((List.set a0 (Int.toNat i5) (k1, r1.2.1, ()))[Int.toNat i5]?) fun r4 =>
            some (.inl (List.set (List.set a0 (Int.toNat i5) (k1, r1.2.1, ())) (Int.toNat i5) (r4.1, y3.2.1, ()), y3.1, IntKind.i64.wrap (i5 + (1 : Int)), ()))
          else none
        else none
      else none
    else none
  else
    some (.inr (.inl (a0, k1, ())))
noncomputable def laws_markRingS_r0 (x : H68_0) : Option (Sum H68_0 (Sum E68_0 Q68_0)) := laws_markRingS_c0 x.1 x.2.1 x.2.2.1
noncomputable def L68 {R : Type} : Loops R := fun id _ st k => bif Nat.beq id 0 then loopAt hp68_0 e68_0 q68_0 laws_markRingS_r0 st k else none
noncomputable def laws_markRingS (a0 : List R_iLiE) (k1 : Int) : Option (Int × (List R_iLiE) × Unit) :=
  outK (loopV laws_markRingS_r0 (a0, k1, (0 : Int), ())) (fun y1 =>
    some (y1.2.1, y1.1, ())) (fun y2 =>
    none)
noncomputable def x68 (x : (List R_iLiE) × Int × Unit) : Option (Int × (List R_iLiE) × Unit) := laws_markRingS x.1 x.2.1
noncomputable def sem68 : Sem1 := semOf ps68 rs68 x68
theorem so68 : SemsOk Try.prog (semsOf sl68) := sems_cons k17 (sems_nil)
noncomputable def b68_0 : Code := nthLoop code68 0
theorem t68_r0_eq (x : denR (headRT hp68_0)) : codeK (tabOf tr) (semsOf sl68) D68 L68 b68_0 (headSt hp68_0 x) (roundK 0 hp68_0 e68_0 q68_0) = laws_markRingS_r0 x := by kernel_rfl
theorem loop68_0 {R : Type} (r : R) (w0 : World) (mu : Mu) (hs : AnShape ps68 mu) : LoopAt Try.prog w0 mu 27 (L68 : Loops R) r 0 b68_0 :=
  loop_auto tr_ok eq_ok mixed_ok so68 (D := D68) hs (by kernel_rfl) (fun _ => (loops_of (l := []) (by kernel_rfl) (List.forall_mem_nil _))) t68_r0_eq (fun _ _ => rfl)
theorem t68_eq (x : denR (headRT (ps68.map some))) : codeK (tabOf tr) (semsOf sl68) D68 L68 code68 (start 27 ps68 x) (finK rs68 ps68) = x68 x := by kernel_rfl
theorem k68 : Known Try.prog 68 sem68 :=
  fn_auto tr_ok eq_ok mixed_ok so68 (D := D68) (code := code68) (n := 27) Try.func68 (by kernel_rfl) (by kernel_rfl) (by kernel_rfl) (fun w0 mu _ hs => (loops_of (l := [(0, b68_0)]) (by kernel_rfl) (List.forall_mem_cons.2 ⟨loop68_0 _ w0 mu hs, (List.forall_mem_nil _)⟩))) t68_eq

/-! ### f69: laws.markDaemonS -/
noncomputable def code69 : Code := match Try.f69.body with | some c => c | none => .skip
def ps69 : List AP := [.io T_ibiiLiELiiisELiELsEiiiiiiiiiLiEiiiLiELiiiLiiisEELiiLiEiiisLiEE .dp, .val false [.int .i64]]
def rs69 : List RP := [{ src := .tmp 4, agg := false, ps := [.int .i64] }]
noncomputable def sl69 : SemL := [(17, (.io, .shr, .shr, sem17)), (44, (.io, .shr, .shr, sem44)), (87, (.io, .shr, .shr, sem87)), (16, (.io, .shr, .shr, sem16)), (33, (.io, .shr, .shr, sem33))]
def D69 : Draws := fun _ => .nil
def hp69_0 : List (Option AP) := [some (.io T_ibiiLiELiiisELiELsEiiiiiiiiiLiEiiiLiELiiiLiiisEELiiLiEiiisLiEE .dp), some (.val false [.int .i64]), none, none, none, some (.val false [.int .i64]), none, none, none, none, none, none, none, none, none, none, none, none, none, none, none, none, none, none, none, none, none, none, none, none, none, none, none, none, none, none, none, none, none, none, none, none, none, none, none, none, none, none, none, none, none, none, none, none, none, none, none, none, none, none, none, none, none, none, none, none, none, none, none, none, none, none, none, none, none, none, none, none, none, none, none, none, none, none, none, none, none, none, none, none, none, none, none, none, none, none, none, none, none, none, none, none, none, none, none, none, none, none, none, none, none, none, none, none, none, none, none, none, none, none, none, none, none, none, none, none, none, none, none, none, none, none, none, none, none, none, none, none, none, none, none, none, none, none, none, none, none, none, none, none, none, none, none, none, none, none, none, none, none, none, none, none, none, none, none, none, none, none, none, none, none, none, none, none, none, none, none, none, none, none, none, none, none, none, none, none, none, none, none, none, none, none, none, none, none, none, none, none, none, none, none, none, none, none, none, none, none, none, none, none]
def e69_0 : List (Option AP) := [some (.io T_ibiiLiELiiisELiELsEiiiiiiiiiLiEiiiLiELiiiLiiisEELiiLiEiiisLiEE .dp), some (.val false [.int .i64]), none, none, none, none, none, none, none, none, none, none, none, none, none, none, none, none, none, none, none, none, none, none, none, none, none, none, none, none, none, none, none, none, none, none, none, none, none, none, none, none, none, none, none, none, none, none, none, none, none, none, none, none, none, none, none, none, none, none, none, none, none, none, none, none, none, none, none, none, none, none, none, none, none, none, none, none, none, none, none, none, none, none, none, none, none, none, none, none, none, none, none, none, none, none, none, none, none, none, none, none, none, none, none, none, none, none, none, none, none, none, none, none, none, none, none, none, none, none, none, none, none, none, none, none, none, none, none, none, none, none, none, none, none, none, none, none, none, none, none, none, none, none, none, none, none, none, none, none, none, none, none, none, none, none, none, none, none, none, none, none, none, none, none, none, none, none, none, none, none, none, none, none, none, none, none, none, none, none, none, none, none, none, none, none, none, none, none, none, none, none, none, none, none, none, none, none, none, none, none, none, none, none, none, none, none, none, none, none]
def q69_0 : List (Option AP) := [none, none, none, none, none, none, none, none, none, none, none, none, none, none, none, none, none, none, none, none, none, none, none, none, none, none, none, none, none, none, none, none, none, none, none, none, none, none, none, none, none, none, none, none, none, none, none, none, none, none, none, none, none, none, none, none, none, none, none, none, none, none, none, none, none, none, none, none, none, none, none, none, none, none, none, none, none, none, none, none, none, none, none, none, none, none, none, none, none, none, none, none, none, none, none, none, none, none, none, none, none, none, none, none, none, none, none, none, none, none, none, none, none, none, none, none, none, none, none, none, none, none, none, none, none, none, none, none, none, none, none, none, none, none, none, none, none, none, none, none, none, none, none, none, none, none, none, none, none, none, none, none, none, none, none, none, none, none, none, none, none, none, none, none, none, none, none, none, none, none, none, none, none, none, none, none, none, none, none, none, none, none, none, none, none, none, none, none, none, none, none, none, none, none, none, none, none, none, none, none, none, none, none, none, none, none, none, none, none, none]
abbrev H69_0 : Type := (List R_ibiiLiELiiisELiELsEiiiiiiiiiLiEiiiLiELiiiLiiisEELiiLiEiiisLiEE) × Int × Int × Unit
abbrev E69_0 : Type := (List R_ibiiLiELiiisELiELsEiiiiiiiiiLiEiiiLiELiiiLiiisEELiiLiEiiisLiEE) × Int × Unit
abbrev Q69_0 : Type := Unit
noncomputable def laws_markDaemonS_c0 (a0 : List R_ibiiLiELiiisELiELsEiiiiiiiiiLiEiiiLiELiiiLiiisEELiiLiEiiisLiEE) (k1 : Int) (i5 : Int) : Option (Sum H69_0 (Sum E69_0 Q69_0)) :=
  bif decide (i5 < ((List.length a0 : Nat) : Int)) then
    bif decide ((0 : Int) ≤ i5) then bif Nat.blt (Int.toNat i5) (List.length a0) then Option.bind ((a0)[Int.toNat i5]?) fun r1 =>
        (fun l2 : List (Int × Bool × Int × Int × (List (Int × Unit)) × (List R_iiis) × (List (Int × Unit)) × (List (ByteArray × Unit)) × Int × Int × Int × Int × Int × Int × Int × Int × Int × (List (Int × Unit)) × Int × Int × Int × (List (Int × Unit)) × (List R_iiiLiiisE) × (List R_iiLiEiiisLiE) × Unit) =>
        bif decide ((0 : Int) ≤ i5) then bif Nat.blt (Int.toNat i5) (List.length l2) then Option.bind ((l2)[Int.toNat i5]?) fun r3 =>
            (fun l4 : List (Int × Bool × Int × Int × (List (Int × Unit)) × (List R_iiis) × (List (Int × Unit)) × (List (ByteArray × Unit)) × Int × Int × Int × Int × Int × Int × Int × Int × Int × (List (Int × Unit)) × Int × Int × Int × (List (Int × Unit)) × (List R_iiiLiiisE) × (List R_iiLiEiiisLiE) × Unit) =>
            bif decide ((0 : Int) ≤ i5) then bif Nat.blt (Int.toNat i5) (List.length l4) then Option.bind ((l4)[Int.toNat i5]?) fun r5 =>
                (fun l6 : List (Int × Bool × Int × Int × (List (Int × Unit)) × (List R_iiis) × (List (Int × Unit)) × (List (ByteArray × Unit)) × Int × Int × Int × Int × Int × Int × Int × Int × Int × (List (Int × Unit)) × Int × Int × Int × (List (Int × Unit)) × (List R_iiiLiiisE) × (List R_iiLiEiiisLiE) × Unit) =>
                bif decide ((0 : Int) ≤ i5) then bif Nat.blt (Int.toNat i5) (List.length l6) then Option.bind ((l6)[Int.toNat i5]?) fun r7 =>
                    (fun l8 : List (Int × Bool × Int × Int × (List (Int × Unit)) × (List R_iiis) × (List (Int × Unit)) × (List (ByteArray × Unit)) × Int × Int × Int × Int × Int × Int × Int × Int × Int × (List (Int × Unit)) × Int × Int × Int × (List (Int × Unit)) × (List R_iiiLiiisE) × (List R_iiLiEiiisLiE) × Unit) =>
                    bif decide ((0 : Int) ≤ i5) then bif Nat.blt (Int.toNat i5) (List.length l8) then Option.bind ((l8)[Int.toNat i5]?) fun r9 =>
                        Option.bind (laws_markIntS r9.2.2.2.2.1 (IntKind.i64.wrap ((IntKind.i64.wrap ((IntKind.i64.wrap ((IntKind.i64.wrap (k1 + (1 : Int))) + (1 : Int))) + (1 : Int))) + (1 : Int)))) fun y10 =>
                        Option.bind ((l8)[Int.toNat i5]?) fun r11 =>
                        (fun l12 : List (Int × Bool × Int × Int × (List (Int × Unit)) × (List R_iiis) × (List (Int × Unit)) × (List (ByteArray × Unit)) × Int × Int × Int × Int × Int × Int × Int × Int × Int × (List (Int × Unit)) × Int × Int × Int × (List (Int × Unit)) × (List R_iiiLiiisE) × (List R_iiLiEiiisLiE) × Unit) =>
                        bif decide ((0 : Int) ≤ i5) then bif Nat.blt (Int.toNat i5) (List.length l12) then Option.bind ((l12)[Int.toNat i5]?) fun r13 =>
                            Option.bind (laws_markItemS r13.2.2.2.2.2.1 y10.1) fun y14 =>
                            Option.bind ((l12)[Int.toNat i5]?) fun r15 =>
                            (fun l16 : List (Int × Bool × Int × Int × (List (Int × Unit)) × (List R_iiis) × (List (Int × Unit)) × (List (ByteArray × Unit)) × Int × Int × Int × Int × Int × Int × Int × Int × Int × (List (Int × Unit)) × Int × Int × Int × (List (Int × Unit)) × (List R_iiiLiiisE) × (List R_iiLiEiiisLiE) × Unit) =>
                            bif decide ((0 : Int) ≤ i5) then bif Nat.blt (Int.toNat i5) (List.length l16) then Option.bind ((l16)[Int.toNat i5]?) fun r17 =>
                                Option.bind (laws_markIntS r17.2.2.2.2.2.2.1 y14.1) fun y18 =>
                                Option.bind ((l16)[Int.toNat i5]?) fun r19 =>
                                (fun l20 : List (Int × Bool × Int × Int × (List (Int × Unit)) × (List R_iiis) × (List (Int × Unit)) × (List (ByteArray × Unit)) × Int × Int × Int × Int × Int × Int × Int × Int × Int × (List (Int × Unit)) × Int × Int × Int × (List (Int × Unit)) × (List R_iiiLiiisE) × (List R_iiLiEiiisLiE) × Unit) =>
                                bif decide ((0 : Int) ≤ i5) then bif Nat.blt (Int.toNat i5) (List.length l20) then Option.bind ((l20)[Int.toNat i5]?) fun r21 =>
                                    Option.bind (laws_markStringS r21.2.2.2.2.2.2.2.1 y18.1) fun y22 =>
                                    Option.bind ((l20)[Int.toNat i5]?) fun r23 =>
                                    (fun l24 : List (Int × Bool × Int × Int × (List (Int × Unit)) × (List R_iiis) × (List (Int × Unit)) × (List (ByteArray × Unit)) × Int × Int × Int × Int × Int × Int × Int × Int × Int × (List (Int × Unit)) × Int × Int × Int × (List (Int × Unit)) × (List R_iiiLiiisE) × (List R_iiLiEiiisLiE) × Unit) =>
                                    bif decide ((0 : Int) ≤ i5) then bif Nat.blt (Int.toNat i5) (List.length l24) then Option.bind ((l24)[Int.toNat i5]?) fun r25 =>
                                        (fun l26 : List (Int × Bool × Int × Int × (List (Int × Unit)) × (List R_iiis) × (List (Int × Unit)) × (List (ByteArray × Unit)) × Int × Int × Int × Int × Int × Int × Int × Int × Int × (List (Int × Unit)) × Int × Int × Int × (List (Int × Unit)) × (List R_iiiLiiisE) × (List R_iiLiEiiisLiE) × Unit) =>
                                        bif decide ((0 : Int) ≤ i5) then bif Nat.blt (Int.toNat i5) (List.length l26) then Option.bind ((l26)[Int.toNat i5]?) fun r27 =>
                                            (fun l28 : List (Int × Bool × Int × Int × (List (Int × Unit)) × (List R_iiis) × (List (Int × Unit)) × (List (ByteArray × Unit)) × Int × Int × Int × Int × Int × Int × Int × Int × Int × (List (Int × Unit)) × Int × Int × Int × (List (Int × Unit)) × (List R_iiiLiiisE) × (List R_iiLiEiiisLiE) × Unit) =>
                                            bif decide ((0 : Int) ≤ i5) then bif Nat.blt (Int.toNat i5) (List.length l28) then Option.bind ((l28)[Int.toNat i5]?) fun r29 =>
                                                (fun l30 : List (Int × Bool × Int × Int × (List (Int × Unit)) × (List R_iiis) × (List (Int × Unit)) × (List (ByteArray × Unit)) × Int × Int × Int × Int × Int × Int × Int × Int × Int × (List (Int × Unit)) × Int × Int × Int × (List (Int × Unit)) × (List R_iiiLiiisE) × (List R_iiLiEiiisLiE) × Unit) =>
                                                bif decide ((0 : Int) ≤ i5) then bif Nat.blt (Int.toNat i5) (List.length l30) then Option.bind ((l30)[Int.toNat i5]?) fun r31 =>
                                                    (fun l32 : List (Int × Bool × Int × Int × (List (Int × Unit)) × (List R_iiis) × (List (Int × Unit)) × (List (ByteArray × Unit)) × Int × Int × Int × Int × Int × Int × Int × Int × Int × (List (Int × Unit)) × Int × Int × Int × (List (Int × Unit)) × (List R_iiiLiiisE) × (List R_iiLiEiiisLiE) × Unit) =>
                                                    bif decide ((0 : Int) ≤ i5) then bif Nat.blt (Int.toNat i5) (List.length l32) then Option.bind ((l32)[Int.toNat i5]?) fun r33 =>
                                                        (fun l34 : List (Int × Bool × Int × Int × (List (Int × Unit)) × (List R_iiis) × (List (Int × Unit)) × (List (ByteArray × Unit)) × Int × Int × Int × Int × Int × Int × Int × Int × Int × (List (Int × Unit)) × Int × Int × Int × (List (Int × Unit)) × (List R_iiiLiiisE) × (List R_iiLiEiiisLiE) × Unit) =>
                                                        bif decide ((0 : Int) ≤ i5) then bif Nat.blt (Int.toNat i5) (List.length l34) then Option.bind ((l34)[Int.toNat i5]?) fun r35 =>
                                                            (fun l36 : List (Int × Bool × Int × Int × (List (Int × Unit)) × (List R_iiis) × (List (Int × Unit)) × (List (ByteArray × Unit)) × Int × Int × Int × Int × Int × Int × Int × Int × Int × (List (Int × Unit)) × Int × Int × Int × (List (Int × Unit)) × (List R_iiiLiiisE) × (List R_iiLiEiiisLiE) × Unit) =>
                                                            bif decide ((0 : Int) ≤ i5) then bif Nat.blt (Int.toNat i5) (List.length l36) then Option.bind ((l36)[Int.toNat i5]?) fun r37 =>
                                                                (fun l38 : List (Int × Bool × Int × Int × (List (Int × Unit)) × (List R_iiis) × (List (Int × Unit)) × (List (ByteArray × Unit)) × Int × Int × Int × Int × Int × Int × Int × Int × Int × (List (Int × Unit)) × Int × Int × Int × (List (Int × Unit)) × (List R_iiiLiiisE) × (List R_iiLiEiiisLiE) × Unit) =>
                                                                bif decide ((0 : Int) ≤ i5) then bif Nat.blt (Int.toNat i5) (List.length l38) then Option.bind ((l38)[Int.toNat i5]?) fun r39 =>
                                                                    (fun l40 : List (Int × Bool × Int × Int × (List (Int × Unit)) × (List R_iiis) × (List (Int × Unit)) × (List (ByteArray × Unit)) × Int × Int × Int × Int × Int × Int × Int × Int × Int × (List (Int × Unit)) × Int × Int × Int × (List (Int × Unit)) × (List R_iiiLiiisE) × (List R_iiLiEiiisLiE) × Unit) =>
                                                                    bif decide ((0 : Int) ≤ i5) then bif Nat.blt (Int.toNat i5) (List.length l40) then Option.bind ((l40)[Int.toNat i5]?) fun r41 =>
                                                                        (fun l42 : List (Int × Bool × Int × Int × (List (Int × Unit)) × (List R_iiis) × (List (Int × Unit)) × (List (ByteArray × Unit)) × Int × Int × Int × Int × Int × Int × Int × Int × Int × (List (Int × Unit)) × Int × Int × Int × (List (Int × Unit)) × (List R_iiiLiiisE) × (List R_iiLiEiiisLiE) × Unit) =>
                                                                        bif decide ((0 : Int) ≤ i5) then bif Nat.blt (Int.toNat i5) (List.length l42) then Option.bind ((l42)[Int.toNat i5]?) fun r43 =>
                                                                            Option.bind (laws_markIntS r43.2.2.2.2.2.2.2.2.2.2.2.2.2.2.2.2.2.1 (IntKind.i64.wrap ((IntKind.i64.wrap ((IntKind.i64.wrap ((IntKind.i64.wrap ((IntKind.i64.wrap ((IntKind.i64.wrap ((IntKind.i64.wrap ((IntKind.i64.wrap ((IntKind.i64.wrap (y22.1 + (1 : Int))) + (1 : Int))) + (1 : Int))) + (1 : Int))) + (1 : Int))) + (1 : Int))) + (1 : Int))) + (1 : Int))) + (1 : Int)))) fun y44 =>
                                                                            Option.bind ((l42)[Int.toNat i5]?) fun r45 =>
                                                                            (fun l46 : List (Int × Bool × Int × Int × (List (Int × Unit)) × (List R_iiis) × (List (Int × Unit)) × (List (ByteArray × Unit)) × Int × Int × Int × Int × Int × Int × Int × Int × Int × (List (Int × Unit)) × Int × Int × Int × (List (Int × Unit)) × (List R_iiiLiiisE) × (List R_iiLiEiiisLiE) × Unit) =>
                                                                            bif decide ((0 : Int) ≤ i5) then bif Nat.blt (Int.toNat i5) (List.length l46) then Option.bind ((l46)[Int.toNat i5]?) fun r47 =>
                                                                                (fun l48 : List (Int × Bool × Int × Int × (List (Int × Unit)) × (List R_iiis) × (List (Int × Unit)) × (List (ByteArray × Unit)) × Int × Int × Int × Int × Int × Int × Int × Int × Int × (List (Int × Unit)) × Int × Int × Int × (List (Int × Unit)) × (List R_iiiLiiisE) × (List R_iiLiEiiisLiE) × Unit) =>
                                                                                bif decide ((0 : Int) ≤ i5) then bif Nat.blt (Int.toNat i5) (List.length l48) then Option.bind ((l48)[Int.toNat i5]?) fun r49 =>
                                                                                    (fun l50 : List (Int × Bool × Int × Int × (List (Int × Unit)) × (List R_iiis) × (List (Int × Unit)) × (List (ByteArray × Unit)) × Int × Int × Int × Int × Int × Int × Int × Int × Int × (List (Int × Unit)) × Int × Int × Int × (List (Int × Unit)) × (List R_iiiLiiisE) × (List R_iiLiEiiisLiE) × Unit) =>
                                                                                    bif decide ((0 : Int) ≤ i5) then bif Nat.blt (Int.toNat i5) (List.length l50) then Option.bind ((l50)[Int.toNat i5]?) fun r51 =>
                                                                                        (fun l52 : List (Int × Bool × Int × Int × (List (Int × Unit)) × (List R_iiis) × (List (Int × Unit)) × (List (ByteArray × Unit)) × Int × Int × Int × Int × Int × Int × Int × Int × Int × (List (Int × Unit)) × Int × Int × Int × (List (Int × Unit)) × (List R_iiiLiiisE) × (List R_iiLiEiiisLiE) × Unit) =>
                                                                                        bif decide ((0 : Int) ≤ i5) then bif Nat.blt (Int.toNat i5) (List.length l52) then Option.bind ((l52)[Int.toNat i5]?) fun r53 =>
                                                                                            Option.bind (laws_markIntS r53.2.2.2.2.2.2.2.2.2.2.2.2.2.2.2.2.2.2.2.2.2.1 (IntKind.i64.wrap ((IntKind.i64.wrap ((IntKind.i64.wrap (y44.1 + (1 : Int))) + (1 : Int))) + (1 : Int)))) fun y54 =>
                                                                                            Option.bind ((l52)[Int.toNat i5]?) fun r55 =>
                                                                                            (fun l56 : List (Int × Bool × Int × Int × (List (Int × Unit)) × (List R_iiis) × (List (Int × Unit)) × (List (ByteArray × Unit)) × Int × Int × Int × Int × Int × Int × Int × Int × Int × (List (Int × Unit)) × Int × Int × Int × (List (Int × Unit)) × (List R_iiiLiiisE) × (List R_iiLiEiiisLiE) × Unit) =>
                                                                                            bif decide ((0 : Int) ≤ i5) then bif Nat.blt (Int.toNat i5) (List.length l56) then Option.bind ((l56)[Int.toNat i5]?) fun r57 =>
                                                                                                Option.bind (laws_markBundleS r57.2.2.2.2.2.2.2.2.2.2.2.2.2.2.2.2.2.2.2.2.2.2.1 y54.1) fun y58 =>
                                                                                                Option.bind ((l56)[Int.toNat i5]?) fun r59 =>
                                                                                                (fun l60 : List (Int × Bool × Int × Int × (List (Int × Unit)) × (List R_iiis) × (List (Int × Unit)) × (List (ByteArray × Unit)) × Int × Int × Int × Int × Int × Int × Int × Int × Int × (List (Int × Unit)) × Int × Int × Int × (List (Int × Unit)) × (List R_iiiLiiisE) × (List R_iiLiEiiisLiE) × Unit) =>
                                                                                                bif decide ((0 : Int) ≤ i5) then bif Nat.blt (Int.toNat i5) (List.length l60) then Option.bind ((l60)[Int.toNat i5]?) fun r61 =>
                                                                                                    Option.bind (laws_markEventS r61.2.2.2.2.2.2.2.2.2.2.2.2.2.2.2.2.2.2.2.2.2.2.2.1 y58.1) fun y62 =>
                                                                                                    Option.bind ((l60)[Int.toNat i5]?) fun r63 =>
                                                                                                    (fun l64 : List (Int × Bool × Int × Int × (List (Int × Unit)) × (List R_iiis) × (List (Int × Unit)) × (List (ByteArray × Unit)) × Int × Int × Int × Int × Int × Int × Int × Int × Int × (List (Int × Unit)) × Int × Int × Int × (List (Int × Unit)) × (List R_iiiLiiisE) × (List R_iiLiEiiisLiE) × Unit) =>
                                                                                                    some (.inl (l64, y62.1, IntKind.i64.wrap (i5 + (1 : Int)), ()))) (List.set l60 (Int.toNat i5) (r63.1, r63.2.1, r63.2.2.1, r63.2.2.2.1, r63.2.2.2.2.1, r63.2.2.2.2.2.1, r63.2.2.2.2.2.2.1, r63.2.2.2.2.2.2.2.1, r63.2.2.2.2.2.2.2.2.1, r63.2.2.2.2.2.2.2.2.2.1, r63.2.2.2.2.2.2.2.2.2.2.1, r63.2.2.2.2.2.2.2.2.2.2.2.1, r63.2.2.2.2.2.2.2.2.2.2.2.2.1, r63.2.2.2.2.2.2.2.2.2.2.2.2.2.1, r63.2.2.2.2.2.2.2.2.2.2.2.2.2.2.1, r63.2.2.2.2.2.2.2.2.2.2.2.2.2.2.2.1, r63.2.2.2.2.2.2.2.2.2.2.2.2.2.2.2.2.1, r63.2.2.2.2.2.2.2.2.2.2.2.2.2.2.2.2.2.1, r63.2.2.2.2.2.2.2.2.2.2.2.2.2.2.2.2.2.2.1, r63.2.2.2.2.2.2.2.2.2.2.2.2.2.2.2.2.2.2.2.1, r63.2.2.2.2.2.2.2.2.2.2.2.2.2.2.2.2.2.2.2.2.1, r63.2.2.2.2.2.2.2.2.2.2.2.2.2.2.2.2.2.2.2.2.2.1, r63.2.2.2.2.2.2.2.2.2.2.2.2.2.2.2.2.2.2.2.2.2.2.1, y62.2.1, ()))
                                                                                                  else none
                                                                                                else none) (List.set l56 (Int.toNat i5) (r59.1, r59.2.1, r59.2.2.1, r59.2.2.2.1, r59.2.2.2.2.1, r59.2.2.2.2.2.1, r59.2.2.2.2.2.2.1, r59.2.2.2.2.2.2.2.1, r59.2.2.2.2.2.2.2.2.1, r59.2.2.2.2.2.2.2.2.2.1, r59.2.2.2.2.2.2.2.2.2.2.1, r59.2.2.2.2.2.2.2.2.2.2.2.1, r59.2.2.2.2.2.2.2.2.2.2.2.2.1, r59.2.2.2.2.2.2.2.2.2.2.2.2.2.1, r59.2.2.2.2.2.2.2.2.2.2.2.2.2.2.1, r59.2.2.2.2.2.2.2.2.2.2.2.2.2.2.2.1, r59.2.2.2.2.2.2.2.2.2.2.2.2.2.2.2.2.1, r59.2.2.2.2.2.2.2.2.2.2.2.2.2.2.2.2.2.1, r59.2.2.2.2.2.2.2.2.2.2.2.2.2.2.2.2.2.2.1, r59.2.2.2.2.2.2.2.2.2.2.2.2.2.2.2.2.2.2.2.1, r59.2.2.2.2.2.2.2.2.2.2.2.2.2.2.2.2.2.2.2.2.1, r59.2.2.2.2.2.2.2.2.2.2.2.2.2.2.2.2.2.2.2.2.2.1, y58.2.1, r59.2.2.2.2.2.2.2.2.2.2.2.2.2.2.2.2.2.2.2.2.2.2.2.1, ()))
                                                                                              else none
                                                                                            else none) (List.set l52 (Int.toNat i5) (r55.1, r55.2.1, r55.2.2.1, r55.2.2.2.1, r55.2.2.2.2.1, r55.2.2.2.2.2.1, r55.2.2.2.2.2.2.1, r55.2.2.2.2.2.2.2.1, r55.2.2.2.2.2.2.2.2.1, r55.2.2.2.2.2.2.2.2.2.1, r55.2.2.2.2.2.2.2.2.2.2.1, r55.2.2.2.2.2.2.2.2.2.2.2.1, r55.2.2.2.2.2.2.2.2.2.2.2.2.1, r55.2.2.2.2.2.2.2.2.2.2.2.2.2.1, r55.2.2.2.2.2.2.2.2.2.2.2.2.2.2.1, r55.2.2.2.2.2.2.2.2.2.2.2.2.2.2.2.1, r55.2.2.2.2.2.2.2.2.2.2.2.2.2.2.2.2.1, r55.2.2.2.2.2.2.2.2.2.2.2.2.2.2.2.2.2.1, r55.2.2.2.2.2.2.2.2.2.2.2.2.2.2.2.2.2.2.1, r55.2.2.2.2.2.2.2.2.2.2.2.2.2.2.2.2.2.2.2.1, r55.2.2.2.2.2.2.2.2.2.2.2.2.2.2.2.2.2.2.2.2.1, y54.2.1, r55.2.2.2.2.2.2.2.2.2.2.2.2.2.2.2.2.2.2.2.2.2.2.1, r55.2.2.2.2.2.2.2.2.2.2.2.2.2.2.2.2.2.2.2.2.2.2.2.1, ()))
                                                                                          else none
                                                                                        else none) (List.set l50 (Int.toNat i5) (r51.1, r51.2.1, r51.2.2.1, r51.2.2.2.1, r51.2.2.2.2.1, r51.2.2.2.2.2.1, r51.2.2.2.2.2.2.1, r51.2.2.2.2.2.2.2.1, r51.2.2.2.2.2.2.2.2.1, r51.2.2.2.2.2.2.2.2.2.1, r51.2.2.2.2.2.2.2.2.2.2.1, r51.2.2.2.2.2.2.2.2.2.2.2.1, r51.2.2.2.2.2.2.2.2.2.2.2.2.1, r51.2.2.2.2.2.2.2.2.2.2.2.2.2.1, r51.2.2.2.2.2.2.2.2.2.2.2.2.2.2.1, r51.2.2.2.2.2.2.2.2.2.2.2.2.2.2.2.1, r51.2.2.2.2.2.2.2.2.2.2.2.2.2.2.2.2.1, r51.2.2.2.2.2.2.2.2.2.2.2.2.2.2.2.2.2.1, r51.2.2.2.2.2.2.2.2.2.2.2.2.2.2.2.2.2.2.1, r51.2.2.2.2.2.2.2.2.2.2.2.2.2.2.2.2.2.2.2.1, IntKind.i64.wrap ((IntKind.i64.wrap (y44.1 + (1 : Int))) + (1 : Int)), r51.2.2.2.2.2.2.2.2.2.2.2.2.2.2.2.2.2.2.2.2.2.1, r51.2.2.2.2.2.2.2.2.2.2.2.2.2.2.2.2.2.2.2.2.2.2.1, r51.2.2.2.2.2.2.2.2.2.2.2.2.2.2.2.2.2.2.2.2.2.2.2.1, ()))
                                                                                      else none
                                                                                    else none) (List.set l48 (Int.toNat i5) (r49.1, r49.2.1, r49.2.2.1, r49.2.2.2.1, r49.2.2.2.2.1, r49.2.2.2.2.2.1, r49.2.2.2.2.2.2.1, r49.2.2.2.2.2.2.2.1, r49.2.2.2.2.2.2.2.2.1, r49.2.2.2.2.2.2.2.2.2.1, r49.2.2.2.2.2.2.2.2.2.2.1, r49.2.2.2.2.2.2.2.2.2.2.2.1, r49.2.2.2.2.2.2.2.2.2.2.2.2.1, r49.2.2.2.2.2.2.2.2.2.2.2.2.2.1, r49.2.2.2.2.2.2.2.2.2.2.2.2.2.2.1, r49.2.2.2.2.2.2.2.2.2.2.2.2.2.2.2.1, r49.2.2.2.2.2.2.2.2.2.2.2.2.2.2.2.2.1, r49.2.2.2.2.2.2.2.2.2.2.2.2.2.2.2.2.2.1, r49.2.2.2.2.2.2.2.2.2.2.2.2.2.2.2.2.2.2.1, IntKind.i64.wrap (y44.1 + (1 : Int)), r49.2.2.2.2.2.2.2.2.2.2.2.2.2.2.2.2.2.2.2.2.1, r49.2.2.2.2.2.2.2.2.2.2.2.2.2.2.2.2.2.2.2.2.2.1, r49.2.2.2.2.2.2.2.2.2.2.2.2.2.2.2.2.2.2.2.2.2.2.1, r49.2.2.2.2.2.2.2.2.2.2.2.2.2.2.2.2.2.2.2.2.2.2.2.1, ()))
                                                                                  else none
                                                                                else none) (List.set l46 (Int.toNat i5) (r47.1, r47.2.1, r47.2.2.1, r47.2.2.2.1, r47.2.2.2.2.1, r47.2.2.2.2.2.1, r47.2.2.2.2.2.2.1, r47.2.2.2.2.2.2.2.1, r47.2.2.2.2.2.2.2.2.1, r47.2.2.2.2.2.2.2.2.2.1, r47.2.2.2.2.2.2.2.2.2.2.1, r47.2.2.2.2.2.2.2.2.2.2.2.1, r47.2.2.2.2.2.2.2.2.2.2.2.2.1, r47.2.2.2.2.2.2.2.2.2.2.2.2.2.1, r47.2.2.2.2.2.2.2.2.2.2.2.2.2.2.1, r47.2.2.2.2.2.2.2.2.2.2.2.2.2.2.2.1, r47.2.2.2.2.2.2.2.2.2.2.2.2.2.2.2.2.1, r47.2.2.2.2.2.2.2.2.2.2.2.2.2.2.2.2.2.1, y44.1, r47.2.2.2.2.2.2.2.2.2.2.2.2.2.2.2.2.2.2.2.1, r47.2.2.2.2.2.2.2.2.2.2.2.2.2.2.2.2.2.2.2.2.1, r47.2.2.2.2.2.2.2.2.2.2.2.2.2.2.2.2.2.2.2.2.2.1, r47.2.2.2.2.2.2.2.2.2.2.2.2.2.2.2.2.2.2.2.2.2.2.1, r47.2.2.2.2.2.2.2.2.2.2.2.2.2.2.2.2.2.2.2.2.2.2.2.1, ()))
                                                                              else none
                                                                            else none) (List.set l42 (Int.toNat i5) (r45.1, r45.2.1, r45.2.2.1, r45.2.2.2.1, r45.2.2.2.2.1, r45.2.2.2.2.2.1, r45.2.2.2.2.2.2.1, r45.2.2.2.2.2.2.2.1, r45.2.2.2.2.2.2.2.2.1, r45.2.2.2.2.2.2.2.2.2.1, r45.2.2.2.2.2.2.2.2.2.2.1, r45.2.2.2.2.2.2.2.2.2.2.2.1, r45.2.2.2.2.2.2.2.2.2.2.2.2.1, r45.2.2.2.2.2.2.2.2.2.2.2.2.2.1, r45.2.2.2.2.2.2.2.2.2.2.2.2.2.2.1, r45.2.2.2.2.2.2.2.2.2.2.2.2.2.2.2.1, r45.2.2.2.2.2.2.2.2.2.2.2.2.2.2.2.2.1, y44.2.1, r45.2.2.2.2.2.2.2.2.2.2.2.2.2.2.2.2.2.2.1, r45.2.2.2.2.2.2.2.2.2.2.2.2.2.2.2.2.2.2.2.1, r45.2.2.2.2.2.2.2.2.2.2.2.2.2.2.2.2.2.2.2.2.1, r45.2.2.2.2.2.2.2.2.2.2.2.2.2.2.2.2.2.2.2.2.2.1, r45.2.2.2.2.2.2.2.2.2.2.2.2.2.2.2.2.2.2.2.2.2.2.1, r45.2.2.2.2.2.2.2.2.2.2.2.2.2.2.2.2.2.2.2.2.2.2.2.1, ()))
                                                                          else none
                                                                        else none) (List.set l40 (Int.toNat i5) (r41.1, r41.2.1, r41.2.2.1, r41.2.2.2.1, r41.2.2.2.2.1, r41.2.2.2.2.2.1, r41.2.2.2.2.2.2.1, r41.2.2.2.2.2.2.2.1, r41.2.2.2.2.2.2.2.2.1, r41.2.2.2.2.2.2.2.2.2.1, r41.2.2.2.2.2.2.2.2.2.2.1, r41.2.2.2.2.2.2.2.2.2.2.2.1, r41.2.2.2.2.2.2.2.2.2.2.2.2.1, r41.2.2.2.2.2.2.2.2.2.2.2.2.2.1, r41.2.2.2.2.2.2.2.2.2.2.2.2.2.2.1, r41.2.2.2.2.2.2.2.2.2.2.2.2.2.2.2.1, IntKind.i64.wrap ((IntKind.i64.wrap ((IntKind.i64.wrap ((IntKind.i64.wrap ((IntKind.i64.wrap ((IntKind.i64.wrap ((IntKind.i64.wrap ((IntKind.i64.wrap (y22.1 + (1 : Int))) + (1 : Int))) + (1 : Int))) + (1 : Int))) + (1 : Int))) + (1 : Int))) + (1 : Int))) + (1 : Int)), r41.2.2.2.2.2.2.2.2.2.2.2.2.2.2.2.2.2.1, r41.2.2.2.2.2.2.2.2.2.2.2.2.2.2.2.2.2.2.1, r41.2.2.2.2.2.2.2.2.2.2.2.2.2.2.2.2.2.2.2.1, r41.2.2.2.2.2.2.2.2.2.2.2.2.2.2.2.2.2.2.2.2.1, r41.2.2.2.2.2.2.2.2.2.2.2.2.2.2.2.2.2.2.2.2.2.1, r41.2.2.2.2.2.2.2.2.2.2.2.2.2.2.2.2.2.2.2.2.2.2.1, r41.2.2.2.2.2.2.2.2.2.2.2.2.2.2.2.2.2.2.2.2.2.2.2.1, ()))
                                                                      else none
                                                                    else none) (List.set l38 (Int.toNat i5) (r39.1, r39.2.1, r39.2.2.1, r39.2.2.2.1, r39.2.2.2.2.1, r39.2.2.2.2.2.1, r39.2.2.2.2.2.2.1, r39.2.2.2.2.2.2.2.1, r39.2.2.2.2.2.2.2.2.1, r39.2.2.2.2.2.2.2.2.2.1, r39.2.2.2.2.2.2.2.2.2.2.1, r39.2.2.2.2.2.2.2.2.2.2.2.1, r39.2.2.2.2.2.2.2.2.2.2.2.2.1, r39.2.2.2.2.2.2.2.2.2.2.2.2.2.1, r39.2.2.2.2.2.2.2.2.2.2.2.2.2.2.1, IntKind.i64.wrap ((IntKind.i64.wrap ((IntKind.i64.wrap ((IntKind.i64.wrap ((IntKind.i64.wrap ((IntKind.i64.wrap ((IntKind.i64.wrap (y22.1 + (1 : Int))) + (1 : Int))) + (1 : Int))) + (1 : Int))) + (1 : Int))) + (1 : Int))) + (1 : Int)), r39.2.2.2.2.2.2.2.2.2.2.2.2.2.2.2.2.1, r39.2.2.2.2.2.2.2.2.2.2.2.2.2.2.2.2.2.1, r39.2.2.2.2.2.2.2.2.2.2.2.2.2.2.2.2.2.2.1, r39.2.2.2.2.2.2.2.2.2.2.2.2.2.2.2.2.2.2.2.1, r39.2.2.2.2.2.2.2.2.2.2.2.2.2.2.2.2.2.2.2.2.1, r39.2.2.2.2.2.2.2.2.2.2.2.2.2.2.2.2.2.2.2.2.2.1, r39.2.2.2.2.2.2.2.2.2.2.2.2.2.2.2.2.2.2.2.2.2.2.1, r39.2.2.2.2.2.2.2.2.2.2.2.2.2.2.2.2.2.2.2.2.2.2.2.1, ()))
                                                                  else none
                                                                else none) (List.set l36 (Int.toNat i5) (r37.1, r37.2.1, r37.2.2.1, r37.2.2.2.1, r37.2.2.2.2.1, r37.2.2.2.2.2.1, r37.2.2.2.2.2.2.1, r37.2.2.2.2.2.2.2.1, r37.2.2.2.2.2.2.2.2.1, r37.2.2.2.2.2.2.2.2.2.1, r37.2.2.2.2.2.2.2.2.2.2.1, r37.2.2.2.2.2.2.2.2.2.2.2.1, r37.2.2.2.2.2.2.2.2.2.2.2.2.1, r37.2.2.2.2.2.2.2.2.2.2.2.2.2.1, IntKind.i64.wrap ((IntKind.i64.wrap ((IntKind.i64.wrap ((IntKind.i64.wrap ((IntKind.i64.wrap ((IntKind.i64.wrap (y22.1 + (1 : Int))) + (1 : Int))) + (1 : Int))) + (1 : Int))) + (1 : Int))) + (1 : Int)), r37.2.2.2.2.2.2.2.2.2.2.2.2.2.2.2.1, r37.2.2.2.2.2.2.2.2.2.2.2.2.2.2.2.2.1, r37.2.2.2.2.2.2.2.2.2.2.2.2.2.2.2.2.2.1, r37.2.2.2.2.2.2.2.2.2.2.2.2.2.2.2.2.2.2.1, r37.2.2.2.2.2.2.2.2.2.2.2.2.2.2.2.2.2.2.2.1, r37.2.2.2.2.2.2.2.2.2.2.2.2.2.2.2.2.2.2.2.2.1, r37.2.2.2.2.2.2.2.2.2.2.2.2.2.2.2.2.2.2.2.2.2.1, r37.2.2.2.2.2.2.2.2.2.2.2.2.2.2.2.2.2.2.2.2.2.2.1, r37.2.2.2.2.2.2.2.2.2.2.2.2.2.2.2.2.2.2.2.2.2.2.2.1, ()))
                                                              else none
                                                            else none) (List.set l34 (Int.toNat i5) (r35.1, r35.2.1, r35.2.2.1, r35.2.2.2.1, r35.2.2.2.2.1, r35.2.2.2.2.2.1, r35.2.2.2.2.2.2.1, r35.2.2.2.2.2.2.2.1, r35.2.2.2.2.2.2.2.2.1, r35.2.2.2.2.2.2.2.2.2.1, r35.2.2.2.2.2.2.2.2.2.2.1, r35.2.2.2.2.2.2.2.2.2.2.2.1, r35.2.2.2.2.2.2.2.2.2.2.2.2.1, IntKind.i64.wrap ((IntKind.i64.wrap ((IntKind.i64.wrap ((IntKind.i64.wrap ((IntKind.i64.wrap (y22.1 + (1 : Int))) + (1 : Int))) + (1 : Int))) + (1 : Int))) + (1 : Int)), r35.2.2.2.2.2.2.2.2.2.2.2.2.2.2.1, r35.2.2.2.2.2.2.2.2.2.2.2.2.2.2.2.1, r35.2.2.2.2.2.2.2.2.2.2.2.2.2.2.2.2.1, r35.2.2.2.2.2.2.2.2.2.2.2.2.2.2.2.2.2.1, r35.2.2.2.2.2.2.2.2.2.2.2.2.2.2.2.2.2.2.1, r35.2.2.2.2.2.2.2.2.2.2.2.2.2.2.2.2.2.2.2.1, r35.2.2.2.2.2.2.2.2.2.2.2.2.2.2.2.2.2.2.2.2.1, r35.2.2.2.2.2.2.2.2.2.2.2.2.2.2.2.2.2.2.2.2.2.1, r35.2.2.2.2.2.2.2.2.2.2.2.2.2.2.2.2.2.2.2.2.2.2.1, r35.2.2.2.2.2.2.2.2.2.2.2.2.2.2.2.2.2.2.2.2.2.2.2.1, ()))
                                                          else none
                                                        else none) (List.set l32 (Int.toNat i5) (r33.1, r33.2.1, r33.2.2.1, r33.2.2.2.1, r33.2.2.2.2.1, r33.2.2.2.2.2.1, r33.2.2.2.2.2.2.1, r33.2.2.2.2.2.2.2.1, r33.2.2.2.2.2.2.2.2.1, r33.2.2.2.2.2.2.2.2.2.1, r33.2.2.2.2.2.2.2.2.2.2.1, r33.2.2.2.2.2.2.2.2.2.2.2.1, IntKind.i64.wrap ((IntKind.i64.wrap ((IntKind.i64.wrap ((IntKind.i64.wrap (y22.1 + (1 : Int))) + (1 : Int))) + (1 : Int))) + (1 : Int)), r33.2.2.2.2.2.2.2.2.2.2.2.2.2.1, r33.2.2.2.2.2.2.2.2.2.2.2.2.2.2.1, r33.2.2.2.2.2.2.2.2.2.2.2.2.2.2.2.1, r33.2.2.2.2.2.2.2.2.2.2.2.2.2.2.2.2.1, r33.2.2.2.2.2.2.2.2.2.2.2.2.2.2.2.2.2.1, r33.2.2.2.2.2.2.2.2.2.2.2.2.2.2.2.2.2.2.1, r33.2.2.2.2.2.2.2.2.2.2.2.2.2.2.2.2.2.2.2.1, r33.2.2.2.2.2.2.2.2.2.2.2.2.2.2.2.2.2.2.2.2.1, r33.2.2.2.2.2.2.2.2.2.2.2.2.2.2.2.2.2.2.2.2.2.1, r33.2.2.2.2.2.2.2.2.2.2.2.2.2.2.2.2.2.2.2.2.2.2.1, r33.2.2.2.2.2.2.2.2.2.2.2.2.2.2.2.2.2.2.2.2.2.2.2.1, ()))
                                                      else none
                                                    else none) (List.set l30 (Int.toNat i5) (r31.1, r31.2.1, r31.2.2.1, r31.2.2.2.1, r31.2.2.2.2.1, r31.2.2.2.2.2.1, r31.2.2.2.2.2.2.1, r31.2.2.2.2.2.2.2.1, r31.2.2.2.2.2.2.2.2.1, r31.2.2.2.2.2.2.2.2.2.1, r31.2.2.2.2.2.2.2.2.2.2.1, IntKind.i64.wrap ((IntKind.i64.wrap ((IntKind.i64.wrap (y22.1 + (1 : Int))) + (1 : Int))) + (1 : Int)), r31.2.2.2.2.2.2.2.2.2.2.2.2.1, r31.2.2.2.2.2.2.2.2.2.2.2.2.2.1, r31.2.2.2.2.2.2.2.2.2.2.2.2.2.2.1, r31.2.2.2.2.2.2.2.2.2.2.2.2.2.2.2.1, r31.2.2.2.2.2.2.2.2.2.2.2.2.2.2.2.2.1, r31.2.2.2.2.2.2.2.2.2.2.2.2.2.2.2.2.2.1, r31.2.2.2.2.2.2.2.2.2.2.2.2.2.2.2.2.2.2.1, r31.2.2.2.2.2.2.2.2.2.2.2.2.2.2.2.2.2.2.2.1, r31.2.2.2.2.2.2.2.2.2.2.2.2.2.2.2.2.2.2.2.2.1, r31.2.2.2.2.2.2.2.2.2.2.2.2.2.2.2.2.2.2.2.2.2.1, r31.2.2.2.2.2.2.2.2.2.2.2.2.2.2.2.2.2.2.2.2.2.2.1, r31.2.2.2.2.2.2.2.2.2.2.2.2.2.2.2.2.2.2.2.2.2.2.2.1, ()))
                                                  else none
                                                else none) (List.set l28 (Int.toNat i5) (r29.1, r29.2.1, r29.2.2.1, r29.2.2.2.1, r29.2.2.2.2.1, r29.2.2.2.2.2.1, r29.2.2.2.2.2.2.1, r29.2.2.2.2.2.2.2.1, r29.2.2.2.2.2.2.2.2.1, r29.2.2.2.2.2.2.2.2.2.1, IntKind.i64.wrap ((IntKind.i64.wrap (y22.1 + (1 : Int))) + (1 : Int)), r29.2.2.2.2.2.2.2.2.2.2.2.1, r29.2.2.2.2.2.2.2.2.2.2.2.2.1, r29.2.2.2.2.2.2.2.2.2.2.2.2.2.1, r29.2.2.2.2.2.2.2.2.2.2.2.2.2.2.1, r29.2.2.2.2.2.2.2.2.2.2.2.2.2.2.2.1, r29.2.2.2.2.2.2.2.2.2.2.2.2.2.2.2.2.1, r29.2.2.2.2.2.2.2.2.2.2.2.2.2.2.2.2.2.1, r29.2.2.2.2.2.2.2.2.2.2.2.2.2.2.2.2.2.2.1, r29.2.2.2.2.2.2.2.2.2.2.2.2.2.2.2.2.2.2.2.1, r29.2.2.2.2.2.2.2.2.2.2.2.2.2.2.2.2.2.2.2.2.1, r29.2.2.2.2.2.2.2.2.2.2.2.2.2.2.2.2.2.2.2.2.2.1, r29.2.2.2.2.2.2.2.2.2.2.2.2.2.2.2.2.2.2.2.2.2.2.1, r29.2.2.2.2.2.2.2.2.2.2.2.2.2.2.2.2.2.2.2.2.2.2.2.1, ()))
                                              else none
                                            else none) (List.set l26 (Int.toNat i5) (r27.1, r27.2.1, r27.2.2.1, r27.2.2.2.1, r27.2.2.2.2.1, r27.2.2.2.2.2.1, r27.2.2.2.2.2.2.1, r27.2.2.2.2.2.2.2.1, r27.2.2.2.2.2.2.2.2.1, IntKind.i64.wrap (y22.1 + (1 : Int)), r27.2.2.2.2.2.2.2.2.2.2.1, r27.2.2.2.2.2.2.2.2.2.2.2.1, r27.2.2.2.2.2.2.2.2.2.2.2.2.1, r27.2.2.2.2.2.2.2.2.2.2.2.2.2.1, r27.2.2.2.2.2.2.2.2.2.2.2.2.2.2.1, r27.2.2.2.2.2.2.2.2.2.2.2.2.2.2.2.1, r27.2.2.2.2.2.2.2.2.2.2.2.2.2.2.2.2.1, r27.2.2.2.2.2.2.2.2.2.2.2.2.2.2.2.2.2.1, r27.2.2.2.2.2.2.2.2.2.2.2.2.2.2.2.2.2.2.1, r27.2.2.2.2.2.2.2.2.2.2.2.2.2.2.2.2.2.2.2.1, r27.2.2.2.2.2.2.2.2.2.2.2.2.2.2.2.2.2.2.2.2.1, r27.2.2.2.2.2.2.2.2.2.2.2.2.2.2.2.2.2.2.2.2.2.1, r27.2.2.2.2.2.2.2.2.2.2.2.2.2.2.2.2.2.2.2.2.2.2.1, r27.2.2.2.2.2.2.2.2.2.2.2.2.2.2.2.2.2.2.2.2.2.2.2.1, ()))
                                          else none
                                        else none) (List.set l24 (Int.toNat i5) (r25.1, r25.2.1, r25.2.2.1, r25.2.2.2.1, r25.2.2.2.2.1, r25.2.2.2.2.2.1, r25.2.2.2.2.2.2.1, r25.2.2.2.2.2.2.2.1, y22.1, r25.2.2.2.2.2.2.2.2.2.1, r25.2.2.2.2.2.2.2.2.2.2.1, r25.2.2.2.2.2.2.2.2.2.2.2.1, r25.2.2.2.2.2.2.2.2.2.2.2.2.1, r25.2.2.2.2.2.2.2.2.2.2.2.2.2.1, r25.2.2.2.2.2.2.2.2.2.2.2.2.2.2.1, r25.2.2.2.2.2.2.2.2.2.2.2.2.2.2.2.1, r25.2.2.2.2.2.2.2.2.2.2.2.2.2.2.2.2.1, r25.2.2.2.2.2.2.2.2.2.2.2.2.2.2.2.2.2.1, r25.2.2.2.2.2.2.2.2.2.2.2.2.2.2.2.2.2.2.1, r25.2.2.2.2.2.2.2.2.2.2.2.2.2.2.2.2.2.2.2.1, r25.2.2.2.2.2.2.2.2.2.2.2.2.2.2.2.2.2.2.2.2.1, r25.2.2.2.2.2.2.2.2.2.2.2.2.2.2.2.2.2.2.2.2.2.1, r25.2.2.2.2.2.2.2.2.2.2.2.2.2.2.2.2.2.2.2.2.2.2.1, r25.2.2.2.2.2.2.2.2.2.2.2.2.2.2.2.2.2.2.2.2.2.2.2.1, ()))
                                      else none
                                    else none) (List.set l20 (Int.toNat i5) (r23.1, r23.2.1, r23.2.2.1, r23.2.2.2.1, r23.2.2.2.2.1, r23.2.2.2.2.2.1, r23.2.2.2.2.2.2.1, y22.2.1, r23.2.2.2.2.2.2.2.2.1, r23.2.2.2.2.2.2.2.2.2.1, r23.2.2.2.2.2.2.2.2.2.2.1, r23.2.2.2.2.2.2.2.2.2.2.2.1, r23.2.2.2.2.2.2.2.2.2.2.2.2.1, r23.2.2.2.2.2.2.2.2.2.2.2.2.2.1, r23.2.2.2.2.2.2.2.2.2.2.2.2.2.2.1, r23.2.2.2.2.2.2.2.2.2.2.2.2.2.2.2.1, r23.2.2.2.2.2.2.2.2.2.2.2.2.2.2.2.2.1, r23.2.2.2.2.2.2.2.2.2.2.2.2.2.2.2.2.2.1, r23.2.2.2.2.2.2.2.2.2.2.2.2.2.2.2.2.2.2.1, r23.2.2.2.2.2.2.2.2.2.2.2.2.2.2.2.2.2.2.2.1, r23.2.2.2.2.2.2.2.2.2.2.2.2.2.2.2.2.2.2.2.2.1, r23.2.2.2.2.2.2.2.2.2.2.2.2.2.2.2.2.2.2.2.2.2.1, r23.2.2.2.2.2.2.2.2.2.2.2.2.2.2.2.2.2.2.2.2.2.2.1, r23.2.2.2.2.2.2.2.2.2.2.2.2.2.2.2.2.2.2.2.2.2.2.2.1, ()))
                                  else none
                                else none) (List.set l16 (Int.toNat i5) (r19.1, r19.2.1, r19.2.2.1, r19.2.2.2.1, r19.2.2.2.2.1, r19.2.2.2.2.2.1, y18.2.1, r19.2.2.2.2.2.2.2.1, r19.2.2.2.2.2.2.2.2.1, r19.2.2.2.2.2.2.2.2.2.1, r19.2.2.2.2.2.2.2.2.2.2.1, r19.2.2.2.2.2.2.2.2.2.2.2.1, r19.2.2.2.2.2.2.2.2.2.2.2.2.1, r19.2.2.2.2.2.2.2.2.2.2.2.2.2.1, r19.2.2.2.2.2.2.2.2.2.2.2.2.2.2.1, r19.2.2.2.2.2.2.2.2.2.2.2.2.2.2.2.1, r19.2.2.2.2.2.2.2.2.2.2.2.2.2.2.2.2.1, r19.2.2.2.2.2.2.2.2.2.2.2.2.2.2.2.2.2.1, r19.2.2.2.2.2.2.2.2.2.2.2.2.2.2.2.2.2.2.1, r19.2.2.2.2.2.2.2.2.2.2.2.2.2.2.2.2.2.2.2.1, r19.2.2.2.2.2.2.2.2.2.2.2.2.2.2.2.2.2.2.2.2.1, r19.2.2.2.2.2.2.2.2.2.2.2.2.2.2.2.2.2.2.2.2.2.1, r19.2.2.2.2.2.2.2.2.2.2.2.2.2.2.2.2.2.2.2.2.2.2.1, r19.2.2.2.2.2.2.2.2.2.2.2.2.2.2.2.2.2.2.2.2.2.2.2.1, ()))
                              else none
                            else none) (List.set l12 (Int.toNat i5) (r15.1, r15.2.1, r15.2.2.1, r15.2.2.2.1, r15.2.2.2.2.1, y14.2.1, r15.2.2.2.2.2.2.1, r15.2.2.2.2.2.2.2.1, r15.2.2.2.2.2.2.2.2.1, r15.2.2.2.2.2.2.2.2.2.1, r15.2.2.2.2.2.2.2.2.2.2.1, r15.2.2.2.2.2.2.2.2.2.2.2.1, r15.2.2.2.2.2.2.2.2.2.2.2.2.1, r15.2.2.2.2.2.2.2.2.2.2.2.2.2.1, r15.2.2.2.2.2.2.2.2.2.2.2.2.2.2.1, r15.2.2.2.2.2.2.2.2.2.2.2.2.2.2.2.1, r15.2.2.2.2.2.2.2.2.2.2.2.2.2.2.2.2.1, r15.2.2.2.2.2.2.2.2.2.2.2.2.2.2.2.2.2.1, r15.2.2.2.2.2.2.2.2.2.2.2.2.2.2.2.2.2.2.1, r15.2.2.2.2.2.2.2.2.2.2.2.2.2.2.2.2.2.2.2.1, r15.2.2.2.2.2.2.2.2.2.2.2.2.2.2.2.2.2.2.2.2.1, r15.2.2.2.2.2.2.2.2.2.2.2.2.2.2.2.2.2.2.2.2.2.1, r15.2.2.2.2.2.2.2.2.2.2.2.2.2.2.2.2.2.2.2.2.2.2.1, r15.2.2.2.2.2.2.2.2.2.2.2.2.2.2.2.2.2.2.2.2.2.2.2.1, ()))
                          else none
                        else none) (List.set l8 (Int.toNat i5) (r11.1, r11.2.1, r11.2.2.1, r11.2.2.2.1, y10.2.1, r11.2.2.2.2.2.1, r11.2.2.2.2.2.2.1, r11.2.2.2.2.2.2.2.1, r11.2.2.2.2.2.2.2.2.1, r11.2.2.2.2.2.2.2.2.2.1, r11.2.2.2.2.2.2.2.2.2.2.1, r11.2.2.2.2.2.2.2.2.2.2.2.1, r11.2.2.2.2.2.2.2.2.2.2.2.2.1, r11.2.2.2.2.2.2.2.2.2.2.2.2.2.1, r11.2.2.2.2.2.2.2.2.2.2.2.2.2.2.1, r11.2.2.2.2.2.2.2.2.2.2.2.2.2.2.2.1, r11.2.2.2.2.2.2.2.2.2.2.2.2.2.2.2.2.1, r11.2.2.2.2.2.2.2.2.2.2.2.2.2.2.2.2.2.1, r11.2.2.2.2.2.2.2.2.2.2.2.2.2.2.2.2.2.2.1, r11.2.2.2.2.2.2.2.2.2.2.2.2.2.2.2.2.2.2.2.1, r11.2.2.2.2.2.2.2.2.2.2.2.2.2.2.2.2.2.2.2.2.1, r11.2.2.2.2.2.2.2.2.2.2.2.2.2.2.2.2.2.2.2.2.2.1, r11.2.2.2.2.2.2.2.2.2.2.2.2.2.2.2.2.2.2.2.2.2.2.1, r11.2.2.2.2.2.2.2.2.2.2.2.2.2.2.2.2.2.2.2.2.2.2.2.1, ()))
                      else none
                    else none) (List.set l6 (Int.toNat i5) (r7.1, r7.2.1, r7.2.2.1, IntKind.i64.wrap ((IntKind.i64.wrap ((IntKind.i64.wrap (k1 + (1 : Int))) + (1 : Int))) + (1 : Int)), r7.2.2.2.2.1, r7.2.2.2.2.2.1, r7.2.2.2.2.2.2.1, r7.2.2.2.2.2.2.2.1, r7.2.2.2.2.2.2.2.2.1, r7.2.2.2.2.2.2.2.2.2.1, r7.2.2.2.2.2.2.2.2.2.2.1, r7.2.2.2.2.2.2.2.2.2.2.2.1, r7.2.2.2.2.2.2.2.2.2.2.2.2.1, r7.2.2.2.2.2.2.2.2.2.2.2.2.2.1, r7.2.2.2.2.2.2.2.2.2.2.2.2.2.2.1, r7.2.2.2.2.2.2.2.2.2.2.2.2.2.2.2.1, r7.2.2.2.2.2.2.2.2.2.2.2.2.2.2.2.2.1, r7.2.2.2.2.2.2.2.2.2.2.2.2.2.2.2.2.2.1, r7.2.2.2.2.2.2.2.2.2.2.2.2.2.2.2.2.2.2.1, r7.2.2.2.2.2.2.2.2.2.2.2.2.2.2.2.2.2.2.2.1, r7.2.2.2.2.2.2.2.2.2.2.2.2.2.2.2.2.2.2.2.2.1, r7.2.2.2.2.2.2.2.2.2.2.2.2.2.2.2.2.2.2.2.2.2.1, r7.2.2.2.2.2.2.2.2.2.2.2.2.2.2.2.2.2.2.2.2.2.2.1, r7.2.2.2.2.2.2.2.2.2.2.2.2.2.2.2.2.2.2.2.2.2.2.2.1, ()))
                  else none
                else none) (List.set l4 (Int.toNat i5) (r5.1, r5.2.1, IntKind.i64.wrap ((IntKind.i64.wrap (k1 + (1 : Int))) + (1 : Int)), r5.2.2.2.1, r5.2.2.2.2.1, r5.2.2.2.2.2.1, r5.2.2.2.2.2.2.1, r5.2.2.2.2.2.2.2.1, r5.2.2.2.2.2.2.2.2.1, r5.2.2.2.2.2.2.2.2.2.1, r5.2.2.2.2.2.2.2.2.2.2.1, r5.2.2.2.2.2.2.2.2.2.2.2.1, r5.2.2.2.2.2.2.2.2.2.2.2.2.1, r5.2.2.2.2.2.2.2.2.2.2.2.2.2.1, r5.2.2.2.2.2.2.2.2.2.2.2.2.2.2.1, r5.2.2.2.2.2.2.2.2.2.2.2.2.2.2.2.1, r5.2.2.2.2.2.2.2.2.2.2.2.2.2.2.2.2.1, r5.2.2.2.2.2.2.2.2.2.2.2.2.2.2.2.2.2.1, r5.2.2.2.2.2.2.2.2.2.2.2.2.2.2.2.2.2.2.1, r5.2.2.2.2.2.2.2.2.2.2.2.2.2.2.2.2.2.2.2.1, r5.2.2.2.2.2.2.2.2.2.2.2.2.2.2.2.2.2.2.2.2.1, r5.2.2.2.2.2.2.2.2.2.2.2.2.2.2.2.2.2.2.2.2.2.1, r5.2.2.2.2.2.2.2.2.2.2.2.2.2.2.2.2.2.2.2.2.2.2.1, r5.2.2.2.2.2.2.2.2.2.2.2.2.2.2.2.2.2.2.2.2.2.2.2.1, ()))
              else none
            else none) (List.set l2 (Int.toNat i5) (r3.1, decide (Int.tmod (IntKind.i64.wrap (k1 + (1 : Int))) (3 : Int) = (0 : Int)), r3.2.2.1, r3.2.2.2.1, r3.2.2.2.2.1, r3.2.2.2.2.2.1, r3.2.2.2.2.2.2.1, r3.2.2.2.2.2.2.2.1, r3.2.2.2.2.2.2.2.2.1, r3.2.2.2.2.2.2.2.2.2.1, r3.2.2.2.2.2.2.2.2.2.2.1, r3.2.2.2.2.2.2.2.2.2.2.2.1, r3.2.2.2.2.2.2.2.2.2.2.2.2.1, r3.2.2.2.2.2.2.2.2.2.2.2.2.2.1, r3.2.2.2.2.2.2.2.2.2.2.2.2.2.2.1, r3.2.2.2.2.2.2.2.2.2.2.2.2.2.2.2.1, r3.2.2.2.2.2.2.2.2.2.2.2.2.2.2.2.2.1, r3.2.2.2.2.2.2.2.2.2.2.2.2.2.2.2.2.2.1, r3.2.2.2.2.2.2.2.2.2.2.2.2.2.2.2.2.2.2.1, r3.2.2.2.2.2.2.2.2.2.2.2.2.2.2.2.2.2.2.2.1, r3.2.2.2.2.2.2.2.2.2.2.2.2.2.2.2.2.2.2.2.2.1, r3.2.2.2.2.2.2.2.2.2.2.2.2.2.2.2.2.2.2.2.2.2.1, r3.2.2.2.2.2.2.2.2.2.2.2.2.2.2.2.2.2.2.2.2.2.2.1, r3.2.2.2.2.2.2.2.2.2.2.2.2.2.2.2.2.2.2.2.2.2.2.2.1, ()))
          else none
        else none) (List.set a0 (Int.toNat i5) (k1, r1.2.1, r1.2.2.1, r1.2.2.2.1, r1.2.2.2.2.1, r1.2.2.2.2.2.1, r1.2.2.2.2.2.2.1, r1.2.2.2.2.2.2.2.1, r1.2.2.2.2.2.2.2.2.1, r1.2.2.2.2.2.2.2.2.2.1, r1.2.2.2.2.2.2.2.2.2.2.1, r1.2.2.2.2.2.2.2.2.2.2.2.1, r1.2.2.2.2.2.2.2.2.2.2.2.2.1, r1.2.2.2.2.2.2.2.2.2.2.2.2.2.1, r1.2.2.2.2.2.2.2.2.2.2.2.2.2.2.1, r1.2.2.2.2.2.2.2.2.2.2.2.2.2.2.2.1, r1.2.2.2.2.2.2.2.2.2.2.2.2.2.2.2.2.1, r1.2.2.2.2.2.2.2.2.2.2.2.2.2.2.2.2.2.1, r1.2.2.2.2.2.2.2.2.2.2.2.2.2.2.2.2.2.2.1, r1.2.2.2.2.2.2.2.2.2.2.2.2.2.2.2.2.2.2.2.1, r1.2.2.2.2.2.2.2.2.2.2.2.2.2.2.2.2.2.2.2.2.1, r1.2.2.2.2.2.2.2.2.2.2.2.2.2.2.2.2.2.2.2.2.2.1, r1.2.2.2.2.2.2.2.2.2.2.2.2.2.2.2.2.2.2.2.2.2.2.1, r1.2.2.2.2.2.2.2.2.2.2.2.2.2.2.2.2.2.2.2.2.2.2.2.1, ()))
      else none
    else none
  else
    some (.inr (.inl (a0, k1, ())))
noncomputable def laws_markDaemonS_r0 (x : H69_0) : Option (Sum H69_0 (Sum E69_0 Q69_0)) := laws_markDaemonS_c0 x.1 x.2.1 x.2.2.1
noncomputable def L69 {R : Type} : Loops R := fun id _ st k => bif Nat.beq id 0 then loopAt hp69_0 e69_0 q69_0 laws_markDaemonS_r0 st k else none
noncomputable def laws_markDaemonS (a0 : List R_ibiiLiELiiisELiELsEiiiiiiiiiLiEiiiLiELiiiLiiisEELiiLiEiiisLiEE) (k1 : Int) : Option (Int × (List R_ibiiLiELiiisELiELsEiiiiiiiiiLiEiiiLiELiiiLiiisEELiiLiEiiisLiEE) × Unit) :=
  outK (loopV laws_markDaemonS_r0 (a0, k1, (0 : Int), ())) (fun y1 =>
    some (y1.2.1, y1.1, ())) (fun y2 =>
    none)
noncomputable def x69 (x : (List R_ibiiLiELiiisELiELsEiiiiiiiiiLiEiiiLiELiiiLiiisEELiiLiEiiisLiEE) × Int × Unit) : Option (Int × (List R_ibiiLiELiiisELiELsEiiiiiiiiiLiEiiiLiELiiiLiiisEELiiLiEiiisLiEE) × Unit) := laws_markDaemonS x.1 x.2.1
noncomputable def sem69 : Sem1 := semOf ps69 rs69 x69
theorem so69 : SemsOk Try.prog (semsOf sl69) := sems_cons k17 (sems_cons k44 (sems_cons k87 (sems_cons k16 (sems_cons k33 (sems_nil)))))
noncomputable def b69_0 : Code := nthLoop code69 0
theorem t69_r0_eq (x : denR (headRT hp69_0)) : codeK (tabOf tr) (semsOf sl69) D69 L69 b69_0 (headSt hp69_0 x) (roundK 0 hp69_0 e69_0 q69_0) = laws_markDaemonS_r0 x := by kernel_rfl
theorem loop69_0 {R : Type} (r : R) (w0 : World) (mu : Mu) (hs : AnShape ps69 mu) : LoopAt Try.prog w0 mu 209 (L69 : Loops R) r 0 b69_0 :=
  loop_auto tr_ok eq_ok mixed_ok so69 (D := D69) hs (by kernel_rfl) (fun _ => (loops_of (l := []) (by kernel_rfl) (List.forall_mem_nil _))) t69_r0_eq (fun _ _ => rfl)
theorem t69_eq (x : denR (headRT (ps69.map some))) : codeK (tabOf tr) (semsOf sl69) D69 L69 code69 (start 209 ps69 x) (finK rs69 ps69) = x69 x := by kernel_rfl
theorem k69 : Known Try.prog 69 sem69 :=
  fn_auto tr_ok eq_ok mixed_ok so69 (D := D69) (code := code69) (n := 209) Try.func69 (by kernel_rfl) (by kernel_rfl) (by kernel_rfl) (fun w0 mu _ hs => (loops_of (l := [(0, b69_0)]) (by kernel_rfl) (List.forall_mem_cons.2 ⟨loop69_0 _ w0 mu hs, (List.forall_mem_nil _)⟩))) t69_eq

/-! ### f70: laws.markLetterS -/
noncomputable def code70 : Code := match Try.f70.body with | some c => c | none => .skip
def ps70 : List AP := [.io T_iiiiiisiiiiiLiEiiiLiiisE .dp, .val false [.int .i64]]
def rs70 : List RP := [{ src := .tmp 4, agg := false, ps := [.int .i64] }]
noncomputable def sl70 : SemL := [(71, (.shr, .shr, .shr, sem71)), (17, (.io, .shr, .shr, sem17)), (44, (.io, .shr, .shr, sem44))]
def D70 : Draws := fun _ => .nil
def hp70_0 : List (Option AP) := [some (.io T_iiiiiisiiiiiLiEiiiLiiisE .dp), some (.val false [.int .i64]), none, none, none, some (.val false [.int .i64]), none, none, none, none, none, none, none, none, none, none, none, none, none, none, none, none, none, none, none, none, none, none, none, none, none, none, none, none, none, none, none, none, none, none, none, none, none, none, none, none, none, none, none, none, none, none, none, none, none, none, none, none, none, none, none, none, none, none, none, none, none, none, none, none, none, none, none, none, none, none, none, none, none, none, none, none, none, none, none, none, none, none, none, none, none, none, none, none, none, none, none, none, none, none, none, none, none, none, none, none, none, none, none, none, none, none, none, none, none, none, none, none, none, none, none, none, none, none, none, none, none, none, none, none, none, none, none, none, none, none, none, none, none, none, none, none, none, none, none, none, none, none]
def e70_0 : List (Option AP) := [some (.io T_iiiiiisiiiiiLiEiiiLiiisE .dp), some (.val false [.int .i64]), none, none, none, none, none, none, none, none, none, none, none, none, none, none, none, none, none, none, none, none, none, none, none, none, none, none, none, none, none, none, none, none, none, none, none, none, none, none, none, none, none, none, none, none, none, none, none, none, none, none, none, none, none, none, none, none, none, none, none, none, none, none, none, none, none, none, none, none, none, none, none, none, none, none, none, none, none, none, none, none, none, none, none, none, none, none, none, none, none, none, none, none, none, none, none, none, none, none, none, none, none, none, none, none, none, none, none, none, none, none, none, none, none, none, none, none, none, none, none, none, none, none, none, none, none, none, none, none, none, none, none, none, none, none, none, none, none, none, none, none, none, none, none, none, none, none]
def q70_0 : List (Option AP) := [none, none, none, none, none, none, none, none, none, none, none, none, none, none, none, none, none, none, none, none, none, none, none, none, none, none, none, none, none, none, none, none, none, none, none, none, none, none, none, none, none, none, none, none, none, none, none, none, none, none, none, none, none, none, none, none, none, none, none, none, none, none, none, none, none, none, none, none, none, none, none, none, none, none, none, none, none, none, none, none, none, none, none, none, none, none, none, none, none, none, none, none, none, none, none, none, none, none, none, none, none, none, none, none, none, none, none, none, none, none, none, none, none, none, none, none, none, none, none, none, none, none, none, none, none, none, none, none, none, none, none, none, none, none, none, none, none, none, none, none, none, none, none, none, none, none, none, none]
abbrev H70_0 : Type := (List R_iiiiiisiiiiiLiEiiiLiiisE) × Int × Int × Unit
abbrev E70_0 : Type := (List R_iiiiiisiiiiiLiEiiiLiiisE) × Int × Unit
abbrev Q70_0 : Type := Unit
noncomputable def laws_markLetterS_c0 (a0 : List R_iiiiiisiiiiiLiEiiiLiiisE) (k1 : Int) (i5 : Int) : Option (Sum H70_0 (Sum E70_0 Q70_0)) :=
  bif decide (i5 < ((List.length a0 : Nat) : Int)) then
    bif decide ((0 : Int) ≤ i5) then bif Nat.blt (Int.toNat i5) (List.length a0) then Option.bind ((a0)[Int.toNat i5]?) fun r1 =>
        bif decide ((0 : Int) ≤ i5) then bif Nat.blt (Int.toNat i5) (List.length (List.set a0 (Int.toNat i5) (k1, r1.2.1, r1.2.2.1, r1.2.2.2.1, r1.2.2.2.2.1, r1.2.2.2.2.2.1, r1.2.2.2.2.2.2.1, r1.2.2.2.2.2.2.2.1, r1.2.2.2.2.2.2.2.2.1, r1.2.2.2.2.2.2.2.2.2.1, r1.2.2.2.2.2.2.2.2.2.2.1, r1.2.2.2.2.2.2.2.2.2.2.2.1, r1.2.2.2.2.2.2.2.2.2.2.2.2.1, r1.2.2.2.2.2.2.2.2.2.2.2.2.2.1, r1.2.2.2.2.2.2.2.2.2.2.2.2.2.2.1, r1.2.2.2.2.2.2.2.2.2.2.2.2.2.2.2.1, r1.2.2.2.2.2.2.2.2.2.2.2.2.2.2.2.2.1, ()))) then Option.bind ((List.set a0 (Int.toNat i5) (k1, r1.2.1, r1.2.2.1, r1.2.2.2.1, r1.2.2.2.2.1, r1.2.2.2.2.2.1, r1.2.2.2.2.2.2.1, r1.2.2.2.2.2.2.2.1, r1.2.2.2.2.2.2.2.2.1, r1.2.2.2.2.2.2.2.2.2.1, r1.2.2.2.2.2.2.2.2.2.2.1, r1.2.2.2.2.2.2.2.2.2.2.2.1, r1.2.2.2.2.2.2.2.2.2.2.2.2.1, r1.2.2.2.2.2.2.2.2.2.2.2.2.2.1, r1.2.2.2.2.2.2.2.2.2.2.2.2.2.2.1, r1.2.2.2.2.2.2.2.2.2.2.2.2.2.2.2.1, r1.2.2.2.2.2.2.2.2.2.2.2.2.2.2.2.2.1, ()))[Int.toNat i5]?) fun r2 =>
            (fun l3 : List (Int × Int × Int × Int × Int × Int × ByteArray × Int × Int × Int × Int × Int × (List (Int × Unit)) × Int × Int × Int × (List R_iiis) × Unit) =>
            bif decide ((0 : Int) ≤ i5) then bif Nat.blt (Int.toNat i5) (List.length l3) then Option.bind ((l3)[Int.toNat i5]?) fun r4 =>
                bif decide ((0 : Int) ≤ i5) then bif Nat.blt (Int.toNat i5) (List.length (List.set l3 (Int.toNat i5) (r4.1, r4.2.1, IntKind.i64.wrap ((IntKind.i64.wrap (k1 + (1 : Int))) + (1 : Int)), r4.2.2.2.1, r4.2.2.2.2.1, r4.2.2.2.2.2.1, r4.2.2.2.2.2.2.1, r4.2.2.2.2.2.2.2.1, r4.2.2.2.2.2.2.2.2.1, r4.2.2.2.2.2.2.2.2.2.1, r4.2.2.2.2.2.2.2.2.2.2.1, r4.2.2.2.2.2.2.2.2.2.2.2.1, r4.2.2.2.2.2.2.2.2.2.2.2.2.1, r4.2.2.2.2.2.2.2.2.2.2.2.2.2.1, r4.2.2.2.2.2.2.2.2.2.2.2.2.2.2.1, r4.2.2.2.2.2.2.2.2.2.2.2.2.2.2.2.1, r4.2.2.2.2.2.2.2.2.2.2.2.2.2.2.2.2.1, ()))) then Option.bind ((List.set l3 (Int.toNat i5) (r4.1, r4.2.1, IntKind.i64.wrap ((IntKind.i64.wrap (k1 + (1 : Int))) + (1 : Int)), r4.2.2.2.1, r4.2.2.2.2.1, r4.2.2.2.2.2.1, r4.2.2.2.2.2.2.1, r4.2.2.2.2.2.2.2.1, r4.2.2.2.2.2.2.2.2.1, r4.2.2.2.2.2.2.2.2.2.1, r4.2.2.2.2.2.2.2.2.2.2.1, r4.2.2.2.2.2.2.2.2.2.2.2.1, r4.2.2.2.2.2.2.2.2.2.2.2.2.1, r4.2.2.2.2.2.2.2.2.2.2.2.2.2.1, r4.2.2.2.2.2.2.2.2.2.2.2.2.2.2.1, r4.2.2.2.2.2.2.2.2.2.2.2.2.2.2.2.1, r4.2.2.2.2.2.2.2.2.2.2.2.2.2.2.2.2.1, ()))[Int.toNat i5]?) fun r5 =>
                    (fun l6 : List (Int × Int × Int × Int × Int × Int × ByteArray × Int × Int × Int × Int × Int × (List (Int × Unit)) × Int × Int × Int × (List R_iiis) × Unit) =>
                    bif decide ((0 : Int) ≤ i5) then bif Nat.blt (Int.toNat i5) (List.length l6) then Option.bind ((l6)[Int.toNat i5]?) fun r7 =>
                        bif decide ((0 : Int) ≤ i5) then bif Nat.blt (Int.toNat i5) (List.length (List.set l6 (Int.toNat i5) (r7.1, r7.2.1, r7.2.2.1, r7.2.2.2.1, IntKind.i64.wrap ((IntKind.i64.wrap ((IntKind.i64.wrap ((IntKind.i64.wrap (k1 + (1 : Int))) + (1 : Int))) + (1 : Int))) + (1 : Int)), r7.2.2.2.2.2.1, r7.2.2.2.2.2.2.1, r7.2.2.2.2.2.2.2.1, r7.2.2.2.2.2.2.2.2.1, r7.2.2.2.2.2.2.2.2.2.1, r7.2.2.2.2.2.2.2.2.2.2.1, r7.2.2.2.2.2.2.2.2.2.2.2.1, r7.2.2.2.2.2.2.2.2.2.2.2.2.1, r7.2.2.2.2.2.2.2.2.2.2.2.2.2.1, r7.2.2.2.2.2.2.2.2.2.2.2.2.2.2.1, r7.2.2.2.2.2.2.2.2.2.2.2.2.2.2.2.1, r7.2.2.2.2.2.2.2.2.2.2.2.2.2.2.2.2.1, ()))) then Option.bind ((List.set l6 (Int.toNat i5) (r7.1, r7.2.1, r7.2.2.1, r7.2.2.2.1, IntKind.i64.wrap ((IntKind.i64.wrap ((IntKind.i64.wrap ((IntKind.i64.wrap (k1 + (1 : Int))) + (1 : Int))) + (1 : Int))) + (1 : Int)), r7.2.2.2.2.2.1, r7.2.2.2.2.2.2.1, r7.2.2.2.2.2.2.2.1, r7.2.2.2.2.2.2.2.2.1, r7.2.2.2.2.2.2.2.2.2.1, r7.2.2.2.2.2.2.2.2.2.2.1, r7.2.2.2.2.2.2.2.2.2.2.2.1, r7.2.2.2.2.2.2.2.2.2.2.2.2.1, r7.2.2.2.2.2.2.2.2.2.2.2.2.2.1, r7.2.2.2.2.2.2.2.2.2.2.2.2.2.2.1, r7.2.2.2.2.2.2.2.2.2.2.2.2.2.2.2.1, r7.2.2.2.2.2.2.2.2.2.2.2.2.2.2.2.2.1, ()))[Int.toNat i5]?) fun r8 =>
                            (fun l9 : List (Int × Int × Int × Int × Int × Int × ByteArray × Int × Int × Int × Int × Int × (List (Int × Unit)) × Int × Int × Int × (List R_iiis) × Unit) =>
                            Option.bind (laws_markText (IntKind.i64.wrap ((IntKind.i64.wrap ((IntKind.i64.wrap ((IntKind.i64.wrap ((IntKind.i64.wrap ((IntKind.i64.wrap (k1 + (1 : Int))) + (1 : Int))) + (1 : Int))) + (1 : Int))) + (1 : Int))) + (1 : Int)))) fun y10 =>
                            bif decide ((0 : Int) ≤ i5) then bif Nat.blt (Int.toNat i5) (List.length l9) then Option.bind ((l9)[Int.toNat i5]?) fun r11 =>
                                bif decide ((0 : Int) ≤ i5) then bif Nat.blt (Int.toNat i5) (List.length (List.set l9 (Int.toNat i5) (r11.1, r11.2.1, r11.2.2.1, r11.2.2.2.1, r11.2.2.2.2.1, r11.2.2.2.2.2.1, y10.1, r11.2.2.2.2.2.2.2.1, r11.2.2.2.2.2.2.2.2.1, r11.2.2.2.2.2.2.2.2.2.1, r11.2.2.2.2.2.2.2.2.2.2.1, r11.2.2.2.2.2.2.2.2.2.2.2.1, r11.2.2.2.2.2.2.2.2.2.2.2.2.1, r11.2.2.2.2.2.2.2.2.2.2.2.2.2.1, r11.2.2.2.2.2.2.2.2.2.2.2.2.2.2.1, r11.2.2.2.2.2.2.2.2.2.2.2.2.2.2.2.1, r11.2.2.2.2.2.2.2.2.2.2.2.2.2.2.2.2.1, ()))) then Option.bind ((List.set l9 (Int.toNat i5) (r11.1, r11.2.1, r11.2.2.1, r11.2.2.2.1, r11.2.2.2.2.1, r11.2.2.2.2.2.1, y10.1, r11.2.2.2.2.2.2.2.1, r11.2.2.2.2.2.2.2.2.1, r11.2.2.2.2.2.2.2.2.2.1, r11.2.2.2.2.2.2.2.2.2.2.1, r11.2.2.2.2.2.2.2.2.2.2.2.1, r11.2.2.2.2.2.2.2.2.2.2.2.2.1, r11.2.2.2.2.2.2.2.2.2.2.2.2.2.1, r11.2.2.2.2.2.2.2.2.2.2.2.2.2.2.1, r11.2.2.2.2.2.2.2.2.2.2.2.2.2.2.2.1, r11.2.2.2.2.2.2.2.2.2.2.2.2.2.2.2.2.1, ()))[Int.toNat i5]?) fun r12 =>
                                    (fun l13 : List (Int × Int × Int × Int × Int × Int × ByteArray × Int × Int × Int × Int × Int × (List (Int × Unit)) × Int × Int × Int × (List R_iiis) × Unit) =>
                                    bif decide ((0 : Int) ≤ i5) then bif Nat.blt (Int.toNat i5) (List.length l13) then Option.bind ((l13)[Int.toNat i5]?) fun r14 =>
                                        (fun l15 : List (Int × Int × Int × Int × Int × Int × ByteArray × Int × Int × Int × Int × Int × (List (Int × Unit)) × Int × Int × Int × (List R_iiis) × Unit) =>
                                        bif decide ((0 : Int) ≤ i5) then bif Nat.blt (Int.toNat i5) (List.length l15) then Option.bind ((l15)[Int.toNat i5]?) fun r16 =>
                                            (fun l17 : List (Int × Int × Int × Int × Int × Int × ByteArray × Int × Int × Int × Int × Int × (List (Int × Unit)) × Int × Int × Int × (List R_iiis) × Unit) =>
                                            bif decide ((0 : Int) ≤ i5) then bif Nat.blt (Int.toNat i5) (List.length l17) then Option.bind ((l17)[Int.toNat i5]?) fun r18 =>
                                                (fun l19 : List (Int × Int × Int × Int × Int × Int × ByteArray × Int × Int × Int × Int × Int × (List (Int × Unit)) × Int × Int × Int × (List R_iiis) × Unit) =>
                                                bif decide ((0 : Int) ≤ i5) then bif Nat.blt (Int.toNat i5) (List.length l19) then Option.bind ((l19)[Int.toNat i5]?) fun r20 =>
                                                    (fun l21 : List (Int × Int × Int × Int × Int × Int × ByteArray × Int × Int × Int × Int × Int × (List (Int × Unit)) × Int × Int × Int × (List R_iiis) × Unit) =>
                                                    bif decide ((0 : Int) ≤ i5) then bif Nat.blt (Int.toNat i5) (List.length l21) then Option.bind ((l21)[Int.toNat i5]?) fun r22 =>
                                                        Option.bind (laws_markIntS r22.2.2.2.2.2.2.2.2.2.2.2.2.1 (IntKind.i64.wrap ((IntKind.i64.wrap ((IntKind.i64.wrap ((IntKind.i64.wrap ((IntKind.i64.wrap ((IntKind.i64.wrap ((IntKind.i64.wrap ((IntKind.i64.wrap ((IntKind.i64.wrap ((IntKind.i64.wrap ((IntKind.i64.wrap ((IntKind.i64.wrap (k1 + (1 : Int))) + (1 : Int))) + (1 : Int))) + (1 : Int))) + (1 : Int))) + (1 : Int))) + (1 : Int))) + (1 : Int))) + (1 : Int))) + (1 : Int))) + (1 : Int))) + (1 : Int)))) fun y23 =>
                                                        Option.bind ((l21)[Int.toNat i5]?) fun r24 =>
                                                        bif decide ((0 : Int) ≤ i5) then bif Nat.blt (Int.toNat i5) (List.length (List.set l21 (Int.toNat i5) (r24.1, r24.2.1, r24.2.2.1, r24.2.2.2.1, r24.2.2.2.2.1, r24.2.2.2.2.2.1, r24.2.2.2.2.2.2.1, r24.2.2.2.2.2.2.2.1, r24.2.2.2.2.2.2.2.2.1, r24.2.2.2.2.2.2.2.2.2.1, r24.2.2.2.2.2.2.2.2.2.2.1, r24.2.2.2.2.2.2.2.2.2.2.2.1, y23.2.1, r24.2.2.2.2.2.2.2.2.2.2.2.2.2.1, r24.2.2.2.2.2.2.2.2.2.2.2.2.2.2.1, r24.2.2.2.2.2.2.2.2.2.2.2.2.2.2.2.1, r24.2.2.2.2.2.2.2.2.2.2.2.2.2.2.2.2.1, ()))) then Option.bind ((List.set l21 (Int.toNat i5) (r24.1, r24.2.1, r24.2.2.1, r24.2.2.2.1, r24.2.2.2.2.1, r24.2.2.2.2.2.1, r24.2.2.2.2.2.2.1, r24.2.2.2.2.2.2.2.1, r24.2.2.2.2.2.2.2.2.1, r24.2.2.2.2.2.2.2.2.2.1, r24.2.2.2.2.2.2.2.2.2.2.1, r24.2.2.2.2.2.2.2.2.2.2.2.1, y23.2.1, r24.2.2.2.2.2.2.2.2.2.2.2.2.2.1, r24.2.2.2.2.2.2.2.2.2.2.2.2.2.2.1, r24.2.2.2.2.2.2.2.2.2.2.2.2.2.2.2.1, r24.2.2.2.2.2.2.2.2.2.2.2.2.2.2.2.2.1, ()))[Int.toNat i5]?) fun r25 =>
                                                            (fun l26 : List (Int × Int × Int × Int × Int × Int × ByteArray × Int × Int × Int × Int × Int × (List (Int × Unit)) × Int × Int × Int × (List R_iiis) × Unit) =>
                                                            bif decide ((0 : Int) ≤ i5) then bif Nat.blt (Int.toNat i5) (List.length l26) then Option.bind ((l26)[Int.toNat i5]?) fun r27 =>
                                                                bif decide ((0 : Int) ≤ i5) then bif Nat.blt (Int.toNat i5) (List.length (List.set l26 (Int.toNat i5) (r27.1, r27.2.1, r27.2.2.1, r27.2.2.2.1, r27.2.2.2.2.1, r27.2.2.2.2.2.1, r27.2.2.2.2.2.2.1, r27.2.2.2.2.2.2.2.1, r27.2.2.2.2.2.2.2.2.1, r27.2.2.2.2.2.2.2.2.2.1, r27.2.2.2.2.2.2.2.2.2.2.1, r27.2.2.2.2.2.2.2.2.2.2.2.1, r27.2.2.2.2.2.2.2.2.2.2.2.2.1, r27.2.2.2.2.2.2.2.2.2.2.2.2.2.1, IntKind.i64.wrap (y23.1 + (1 : Int)), r27.2.2.2.2.2.2.2.2.2.2.2.2.2.2.2.1, r27.2.2.2.2.2.2.2.2.2.2.2.2.2.2.2.2.1, ()))) then Option.bind ((List.set l26 (Int.toNat i5) (r27.1, r27.2.1, r27.2.2.1, r27.2.2.2.1, r27.2.2.2.2.1, r27.2.2.2.2.2.1, r27.2.2.2.2.2.2.1, r27.2.2.2.2.2.2.2.1, r27.2.2.2.2.2.2.2.2.1, r27.2.2.2.2.2.2.2.2.2.1, r27.2.2.2.2.2.2.2.2.2.2.1, r27.2.2.2.2.2.2.2.2.2.2.2.1, r27.2.2.2.2.2.2.2.2.2.2.2.2.1, r27.2.2.2.2.2.2.2.2.2.2.2.2.2.1, IntKind.i64.wrap (y23.1 + (1 : Int)), r27.2.2.2.2.2.2.2.2.2.2.2.2.2.2.2.1, r27.2.2.2.2.2.2.2.2.2.2.2.2.2.2.2.2.1, ()))[Int.toNat i5]?) fun r28 =>
                                                                    (fun l29 : List (Int × Int × Int × Int × Int × Int × ByteArray × Int × Int × Int × Int × Int × (List (Int × Unit)) × Int × Int × Int × (List R_iiis) × Unit) =>
                                                                    bif decide ((0 : Int) ≤ i5) then bif Nat.blt (Int.toNat i5) (List.length l29) then Option.bind ((l29)[Int.toNat i5]?) fun r30 =>
                                                                        Option.bind (laws_markItemS r30.2.2.2.2.2.2.2.2.2.2.2.2.2.2.2.2.1 (IntKind.i64.wrap ((IntKind.i64.wrap ((IntKind.i64.wrap (y23.1 + (1 : Int))) + (1 : Int))) + (1 : Int)))) fun y31 =>
                                                                        Option.bind ((l29)[Int.toNat i5]?) fun r32 =>
                                                                        some (.inl (List.set l29 (Int.toNat i5) (r32.1, r32.2.1, r32.2.2.1, r32.2.2.2.1, r32.2.2.2.2.1, r32.2.2.2.2.2.1, r32.2.2.2.2.2.2.1, r32.2.2.2.2.2.2.2.1, r32.2.2.2.2.2.2.2.2.1, r32.2.2.2.2.2.2.2.2.2.1, r32.2.2.2.2.2.2.2.2.2.2.1, r32.2.2.2.2.2.2.2.2.2.2.2.1, r32.2.2.2.2.2.2.2.2.2.2.2.2.1, r32.2.2.2.2.2.2.2.2.2.2.2.2.2.1, r32.2.2.2.2.2.2.2.2.2.2.2.2.2.2.1, r32.2.2.2.2.2.2.2.2.2.2.2.2.2.2.2.1, y31.2.1, ()), y31.1, IntKind.i64.wrap (i5 + (1 : Int)), ()))
                                                                      else none
                                                                    else none) (List.set (List.set l26 (Int.toNat i5) (r27.1, r27.2.1, r27.2.2.1, r27.2.2.2.1, r27.2.2.2.2.1, r27.2.2.2.2.2.1, r27.2.2.2.2.2.2.1, r27.2.2.2.2.2.2.2.1, r27.2.2.2.2.2.2.2.2.1, r27.2.2.2.2.2.2.2.2.2.1, r27.2.2.2.2.2.2.2.2.2.2.1, r27.2.2.2.2.2.2.2.2.2.2.2.1, r27.2.2.2.2.2.2.2.2.2.2.2.2.1, r27.2.2.2.2.2.2.2.2.2.2.2.2.2.1, IntKind.i64.wrap (y23.1 + (1 : Int)), r27.2.2.2.2.2.2.2.2.2.2.2.2.2.2.2.1, r27.2.2.2.2.2.2.2.2.2.2.2.2.2.2.2.2.1, ())) (Int.toNat i5) (r28.1, r28.2.1, r28.2.2.1, r28.2.2.2.1, r28.2.2.2.2.1, r28.2.2.2.2.2.1, r28.2.2.2.2.2.2.1, r28.2.2.2.2.2.2.2.1, r28.2.2.2.2.2.2.2.2.1, r28.2.2.2.2.2.2.2.2.2.1, r28.2.2.2.2.2.2.2.2.2.2.1, r28.2.2.2.2.2.2.2.2.2.2.2.1, r28.2.2.2.2.2.2.2.2.2.2.2.2.1, r28.2.2.2.2.2.2.2.2.2.2.2.2.2.1, r28.2.2.2.2.2.2.2.2.2.2.2.2.2.2.1, IntKind.i64.wrap ((IntKind.i64.wrap (y23.1 + (1 : Int))) + (1 : Int)), r28.2.2.2.2.2.2.2.2.2.2.2.2.2.2.2.2.1, ()))
                                                                  else none
                                                                else none
                                                              else none
                                                            else none) (List.set (List.set l21 (Int.toNat i5) (r24.1, r24.2.1, r24.2.2.1, r24.2.2.2.1, r24.2.2.2.2.1, r24.2.2.2.2.2.1, r24.2.2.2.2.2.2.1, r24.2.2.2.2.2.2.2.1, r24.2.2.2.2.2.2.2.2.1, r24.2.2.2.2.2.2.2.2.2.1, r24.2.2.2.2.2.2.2.2.2.2.1, r24.2.2.2.2.2.2.2.2.2.2.2.1, y23.2.1, r24.2.2.2.2.2.2.2.2.2.2.2.2.2.1, r24.2.2.2.2.2.2.2.2.2.2.2.2.2.2.1, r24.2.2.2.2.2.2.2.2.2.2.2.2.2.2.2.1, r24.2.2.2.2.2.2.2.2.2.2.2.2.2.2.2.2.1, ())) (Int.toNat i5) (r25.1, r25.2.1, r25.2.2.1, r25.2.2.2.1, r25.2.2.2.2.1, r25.2.2.2.2.2.1, r25.2.2.2.2.2.2.1, r25.2.2.2.2.2.2.2.1, r25.2.2.2.2.2.2.2.2.1, r25.2.2.2.2.2.2.2.2.2.1, r25.2.2.2.2.2.2.2.2.2.2.1, r25.2.2.2.2.2.2.2.2.2.2.2.1, r25.2.2.2.2.2.2.2.2.2.2.2.2.1, y23.1, r25.2.2.2.2.2.2.2.2.2.2.2.2.2.2.1, r25.2.2.2.2.2.2.2.2.2.2.2.2.2.2.2.1, r25.2.2.2.2.2.2.2.2.2.2.2.2.2.2.2.2.1, ()))
                                                          else none
                                                        else none
                                                      else none
                                                    else none) (List.set l19 (Int.toNat i5) (r20.1, r20.2.1, r20.2.2.1, r20.2.2.2.1, r20.2.2.2.2.1, r20.2.2.2.2.2.1, r20.2.2.2.2.2.2.1, r20.2.2.2.2.2.2.2.1, r20.2.2.2.2.2.2.2.2.1, r20.2.2.2.2.2.2.2.2.2.1, r20.2.2.2.2.2.2.2.2.2.2.1, IntKind.i64.wrap ((IntKind.i64.wrap ((IntKind.i64.wrap ((IntKind.i64.wrap ((IntKind.i64.wrap ((IntKind.i64.wrap ((IntKind.i64.wrap ((IntKind.i64.wrap ((IntKind.i64.wrap ((IntKind.i64.wrap ((IntKind.i64.wrap (k1 + (1 : Int))) + (1 : Int))) + (1 : Int))) + (1 : Int))) + (1 : Int))) + (1 : Int))) + (1 : Int))) + (1 : Int))) + (1 : Int))) + (1 : Int))) + (1 : Int)), r20.2.2.2.2.2.2.2.2.2.2.2.2.1, r20.2.2.2.2.2.2.2.2.2.2.2.2.2.1, r20.2.2.2.2.2.2.2.2.2.2.2.2.2.2.1, r20.2.2.2.2.2.2.2.2.2.2.2.2.2.2.2.1, r20.2.2.2.2.2.2.2.2.2.2.2.2.2.2.2.2.1, ()))
                                                  else none
                                                else none) (List.set l17 (Int.toNat i5) (r18.1, r18.2.1, r18.2.2.1, r18.2.2.2.1, r18.2.2.2.2.1, r18.2.2.2.2.2.1, r18.2.2.2.2.2.2.1, r18.2.2.2.2.2.2.2.1, r18.2.2.2.2.2.2.2.2.1, r18.2.2.2.2.2.2.2.2.2.1, IntKind.i64.wrap ((IntKind.i64.wrap ((IntKind.i64.wrap ((IntKind.i64.wrap ((IntKind.i64.wrap ((IntKind.i64.wrap ((IntKind.i64.wrap ((IntKind.i64.wrap ((IntKind.i64.wrap ((IntKind.i64.wrap (k1 + (1 : Int))) + (1 : Int))) + (1 : Int))) + (1 : Int))) + (1 : Int))) + (1 : Int))) + (1 : Int))) + (1 : Int))) + (1 : Int))) + (1 : Int)), r18.2.2.2.2.2.2.2.2.2.2.2.1, r18.2.2.2.2.2.2.2.2.2.2.2.2.1, r18.2.2.2.2.2.2.2.2.2.2.2.2.2.1, r18.2.2.2.2.2.2.2.2.2.2.2.2.2.2.1, r18.2.2.2.2.2.2.2.2.2.2.2.2.2.2.2.1, r18.2.2.2.2.2.2.2.2.2.2.2.2.2.2.2.2.1, ()))
                                              else none
                                            else none) (List.set l15 (Int.toNat i5) (r16.1, r16.2.1, r16.2.2.1, r16.2.2.2.1, r16.2.2.2.2.1, r16.2.2.2.2.2.1, r16.2.2.2.2.2.2.1, r16.2.2.2.2.2.2.2.1, r16.2.2.2.2.2.2.2.2.1, IntKind.i64.wrap ((IntKind.i64.wrap ((IntKind.i64.wrap ((IntKind.i64.wrap ((IntKind.i64.wrap ((IntKind.i64.wrap ((IntKind.i64.wrap ((IntKind.i64.wrap ((IntKind.i64.wrap (k1 + (1 : Int))) + (1 : Int))) + (1 : Int))) + (1 : Int))) + (1 : Int))) + (1 : Int))) + (1 : Int))) + (1 : Int))) + (1 : Int)), r16.2.2.2.2.2.2.2.2.2.2.1, r16.2.2.2.2.2.2.2.2.2.2.2.1, r16.2.2.2.2.2.2.2.2.2.2.2.2.1, r16.2.2.2.2.2.2.2.2.2.2.2.2.2.1, r16.2.2.2.2.2.2.2.2.2.2.2.2.2.2.1, r16.2.2.2.2.2.2.2.2.2.2.2.2.2.2.2.1, r16.2.2.2.2.2.2.2.2.2.2.2.2.2.2.2.2.1, ()))
                                          else none
                                        else none) (List.set l13 (Int.toNat i5) (r14.1, r14.2.1, r14.2.2.1, r14.2.2.2.1, r14.2.2.2.2.1, r14.2.2.2.2.2.1, r14.2.2.2.2.2.2.1, r14.2.2.2.2.2.2.2.1, IntKind.i64.wrap ((IntKind.i64.wrap ((IntKind.i64.wrap ((IntKind.i64.wrap ((IntKind.i64.wrap ((IntKind.i64.wrap ((IntKind.i64.wrap ((IntKind.i64.wrap (k1 + (1 : Int))) + (1 : Int))) + (1 : Int))) + (1 : Int))) + (1 : Int))) + (1 : Int))) + (1 : Int))) + (1 : Int)), r14.2.2.2.2.2.2.2.2.2.1, r14.2.2.2.2.2.2.2.2.2.2.1, r14.2.2.2.2.2.2.2.2.2.2.2.1, r14.2.2.2.2.2.2.2.2.2.2.2.2.1, r14.2.2.2.2.2.2.2.2.2.2.2.2.2.1, r14.2.2.2.2.2.2.2.2.2.2.2.2.2.2.1, r14.2.2.2.2.2.2.2.2.2.2.2.2.2.2.2.1, r14.2.2.2.2.2.2.2.2.2.2.2.2.2.2.2.2.1, ()))
                                      else none
                                    else none) (List.set (List.set l9 (Int.toNat i5) (r11.1, r11.2.1, r11.2.2.1, r11.2.2.2.1, r11.2.2.2.2.1, r11.2.2.2.2.2.1, y10.1, r11.2.2.2.2.2.2.2.1, r11.2.2.2.2.2.2.2.2.1, r11.2.2.2.2.2.2.2.2.2.1, r11.2.2.2.2.2.2.2.2.2.2.1, r11.2.2.2.2.2.2.2.2.2.2.2.1, r11.2.2.2.2.2.2.2.2.2.2.2.2.1, r11.2.2.2.2.2.2.2.2.2.2.2.2.2.1, r11.2.2.2.2.2.2.2.2.2.2.2.2.2.2.1, r11.2.2.2.2.2.2.2.2.2.2.2.2.2.2.2.1, r11.2.2.2.2.2.2.2.2.2.2.2.2.2.2.2.2.1, ())) (Int.toNat i5) (r12.1, r12.2.1, r12.2.2.1, r12.2.2.2.1, r12.2.2.2.2.1, r12.2.2.2.2.2.1, r12.2.2.2.2.2.2.1, IntKind.i64.wrap ((IntKind.i64.wrap ((IntKind.i64.wrap ((IntKind.i64.wrap ((IntKind.i64.wrap ((IntKind.i64.wrap ((IntKind.i64.wrap (k1 + (1 : Int))) + (1 : Int))) + (1 : Int))) + (1 : Int))) + (1 : Int))) + (1 : Int))) + (1 : Int)), r12.2.2.2.2.2.2.2.2.1, r12.2.2.2.2.2.2.2.2.2.1, r12.2.2.2.2.2.2.2.2.2.2.1, r12.2.2.2.2.2.2.2.2.2.2.2.1, r12.2.2.2.2.2.2.2.2.2.2.2.2.1, r12.2.2.2.2.2.2.2.2.2.2.2.2.2.1, r12.2.2.2.2.2.2.2.2.2.2.2.2.2.2.1, r12.2.2.2.2.2.2.2.2.2.2.2.2.2.2.2.1, r12.2.2.2.2.2.2.2.2.2.2.2.2.2.2.2.2.1, ()))
                                  else none
                                else none
                              else none
                            else none) (List.set (List.set l6 (Int.toNat i5) (r7.1, r7.2.1, r7.2.2.1, r7.2.2.2.1, IntKind.i64.wrap ((IntKind.i64.wrap ((IntKind.i64.wrap ((IntKind.i64.wrap (k1 + (1 : Int))) + (1 : Int))) + (1 : Int))) + (1 : Int)), r7.2.2.2.2.2.1, r7.2.2.2.2.2.2.1, r7.2.2.2.2.2.2.2.1, r7.2.2.2.2.2.2.2.2.1, r7.2.2.2.2.2.2.2.2.2.1, r7.2.2.2.2.2.2.2.2.2.2.1, r7.2.2.2.2.2.2.2.2.2.2.2.1, r7.2.2.2.2.2.2.2.2.2.2.2.2.1, r7.2.2.2.2.2.2.2.2.2.2.2.2.2.1, r7.2.2.2.2.2.2.2.2.2.2.2.2.2.2.1, r7.2.2.2.2.2.2.2.2.2.2.2.2.2.2.2.1, r7.2.2.2.2.2.2.2.2.2.2.2.2.2.2.2.2.1, ())) (Int.toNat i5) (r8.1, r8.2.1, r8.2.2.1, r8.2.2.2.1, r8.2.2.2.2.1, IntKind.i64.wrap ((IntKind.i64.wrap ((IntKind.i64.wrap ((IntKind.i64.wrap ((IntKind.i64.wrap (k1 + (1 : Int))) + (1 : Int))) + (1 : Int))) + (1 : Int))) + (1 : Int)), r8.2.2.2.2.2.2.1, r8.2.2.2.2.2.2.2.1, r8.2.2.2.2.2.2.2.2.1, r8.2.2.2.2.2.2.2.2.2.1, r8.2.2.2.2.2.2.2.2.2.2.1, r8.2.2.2.2.2.2.2.2.2.2.2.1, r8.2.2.2.2.2.2.2.2.2.2.2.2.1, r8.2.2.2.2.2.2.2.2.2.2.2.2.2.1, r8.2.2.2.2.2.2.2.2.2.2.2.2.2.2.1, r8.2.2.2.2.2.2.2.2.2.2.2.2.2.2.2.1, r8.2.2.2.2.2.2.2.2.2.2.2.2.2.2.2.2.1, ()))
                          else none
                        else none
                      else none
                    else none) (List.set (List.set l3 (Int.toNat i5) (r4.1, r4.2.1, IntKind.i64.wrap ((IntKind.i64.wrap (k1 + (1 : Int))) + (1 : Int)), r4.2.2.2.1, r4.2.2.2.2.1, r4.2.2.2.2.2.1, r4.2.2.2.2.2.2.1, r4.2.2.2.2.2.2.2.1, r4.2.2.2.2.2.2.2.2.1, r4.2.2.2.2.2.2.2.2.2.1, r4.2.2.2.2.2.2.2.2.2.2.1, r4.2.2.2.2.2.2.2.2.2.2.2.1, r4.2.2.2.2.2.2.2.2.2.2.2.2.1, r4.2.2.2.2.2.2.2.2.2.2.2.2.2.1, r4.2.2.2.2.2.2.2.2.2.2.2.2.2.2.1, r4.2.2.2.2.2.2.2.2.2.2.2.2.2.2.2.1, r4.2.2.2.2.2.2.2.2.2.2.2.2.2.2.2.2.1, ())) (Int.toNat i5) (r5.1, r5.2.1, r5.2.2.1, IntKind.i64.wrap ((IntKind.i64.wrap ((IntKind.i64.wrap (k1 + (1 : Int))) + (1 : Int))) + (1 : Int)), r5.2.2.2.2.1, r5.2.2.2.2.2.1, r5.2.2.2.2.2.2.1, r5.2.2.2.2.2.2.2.1, r5.2.2.2.2.2.2.2.2.1, r5.2.2.2.2.2.2.2.2.2.1, r5.2.2.2.2.2.2.2.2.2.2.1, r5.2.2.2.2.2.2.2.2.2.2.2.1, r5.2.2.2.2.2.2.2.2.2.2.2.2.1, r5.2.2.2.2.2.2.2.2.2.2.2.2.2.1, r5.2.2.2.2.2.2.2.2.2.2.2.2.2.2.1, r5.2.2.2.2.2.2.2.2.2.2.2.2.2.2.2.1, r5.2.2.2.2.2.2.2.2.2.2.2.2.2.2.2.2.1, ()))
                  else none
                else none
              else none
            else none) (List.set (List.set a0 (Int.toNat i5) (k1, r1.2.1, r1.2.2.1, r1.2.2.2.1, r1.2.2.2.2.1, r1.2.2.2.2.2.1, r1.2.2.2.2.2.2.1, r1.2.2.2.2.2.2.2.1, r1.2.2.2.2.2.2.2.2.1, r1.2.2.2.2.2.2.2.2.2.1, r1.2.2.2.2.2.2.2.2.2.2.1, r1.2.2.2.2.2.2.2.2.2.2.2.1, r1.2.2.2.2.2.2.2.2.2.2.2.2.1, r1.2.2.2.2.2.2.2.2.2.2.2.2.2.1, r1.2.2.2.2.2.2.2.2.2.2.2.2.2.2.1, r1.2.2.2.2.2.2.2.2.2.2.2.2.2.2.2.1, r1.2.2.2.2.2.2.2.2.2.2.2.2.2.2.2.2.1, ())) (Int.toNat i5) (r2.1, IntKind.i64.wrap (k1 + (1 : Int)), r2.2.2.1, r2.2.2.2.1, r2.2.2.2.2.1, r2.2.2.2.2.2.1, r2.2.2.2.2.2.2.1, r2.2.2.2.2.2.2.2.1, r2.2.2.2.2.2.2.2.2.1, r2.2.2.2.2.2.2.2.2.2.1, r2.2.2.2.2.2.2.2.2.2.2.1, r2.2.2.2.2.2.2.2.2.2.2.2.1, r2.2.2.2.2.2.2.2.2.2.2.2.2.1, r2.2.2.2.2.2.2.2.2.2.2.2.2.2.1, r2.2.2.2.2.2.2.2.2.2.2.2.2.2.2.1, r2.2.2.2.2.2.2.2.2.2.2.2.2.2.2.2.1, r2.2.2.2.2.2.2.2.2.2.2.2.2.2.2.2.2.1, ()))
          else none
        else none
      else none
    else none
  else
    some (.inr (.inl (a0, k1, ())))
noncomputable def laws_markLetterS_r0 (x : H70_0) : Option (Sum H70_0 (Sum E70_0 Q70_0)) := laws_markLetterS_c0 x.1 x.2.1 x.2.2.1
noncomputable def L70 {R : Type} : Loops R := fun id _ st k => bif Nat.beq id 0 then loopAt hp70_0 e70_0 q70_0 laws_markLetterS_r0 st k else none
noncomputable def laws_markLetterS (a0 : List R_iiiiiisiiiiiLiEiiiLiiisE) (k1 : Int) : Option (Int × (List R_iiiiiisiiiiiLiEiiiLiiisE) × Unit) :=
  outK (loopV laws_markLetterS_r0 (a0, k1, (0 : Int), ())) (fun y1 =>
    some (y1.2.1, y1.1, ())) (fun y2 =>
    none)
noncomputable def x70 (x : (List R_iiiiiisiiiiiLiEiiiLiiisE) × Int × Unit) : Option (Int × (List R_iiiiiisiiiiiLiEiiiLiiisE) × Unit) := laws_markLetterS x.1 x.2.1
noncomputable def sem70 : Sem1 := semOf ps70 rs70 x70
theorem so70 : SemsOk Try.prog (semsOf sl70) := sems_cons k71 (sems_cons k17 (sems_cons k44 (sems_nil)))
noncomputable def b70_0 : Code := nthLoop code70 0
theorem t70_r0_eq (x : denR (headRT hp70_0)) : codeK (tabOf tr) (semsOf sl70) D70 L70 b70_0 (headSt hp70_0 x) (roundK 0 hp70_0 e70_0 q70_0) = laws_markLetterS_r0 x := by kernel_rfl
theorem loop70_0 {R : Type} (r : R) (w0 : World) (mu : Mu) (hs : AnShape ps70 mu) : LoopAt Try.prog w0 mu 147 (L70 : Loops R) r 0 b70_0 :=
  loop_auto tr_ok eq_ok mixed_ok so70 (D := D70) hs (by kernel_rfl) (fun _ => (loops_of (l := []) (by kernel_rfl) (List.forall_mem_nil _))) t70_r0_eq (fun _ _ => rfl)
theorem t70_eq (x : denR (headRT (ps70.map some))) : codeK (tabOf tr) (semsOf sl70) D70 L70 code70 (start 147 ps70 x) (finK rs70 ps70) = x70 x := by kernel_rfl
theorem k70 : Known Try.prog 70 sem70 :=
  fn_auto tr_ok eq_ok mixed_ok so70 (D := D70) (code := code70) (n := 147) Try.func70 (by kernel_rfl) (by kernel_rfl) (by kernel_rfl) (fun w0 mu _ hs => (loops_of (l := [(0, b70_0)]) (by kernel_rfl) (List.forall_mem_cons.2 ⟨loop70_0 _ w0 mu hs, (List.forall_mem_nil _)⟩))) t70_eq

/-! ### f32: laws.markWorld -/
noncomputable def code32 : Code := match Try.f32.body with | some c => c | none => .skip
def ps32 : List AP := [.lend [.own T_iLiE .dp, .own T_ibiiLiELiiisELiELsEiiiiiiiiiLiEiiiLiELiiiLiiisEELiiLiEiiisLiEE .dp, .own T_iiiiiisiiiiiLiEiiiLiiisE .dp, .own T_iiLiEiiisLiE .dp], .val false [.int .i64]]
def rs32 : List RP := [{ src := .tmp 4, agg := false, ps := [.int .i64] }]
noncomputable def sl32 : SemL := [(68, (.io, .shr, .shr, sem68)), (69, (.io, .shr, .shr, sem69)), (70, (.io, .shr, .shr, sem70)), (33, (.io, .shr, .shr, sem33))]
def D32 : Draws := fun _ => .nil
noncomputable def L32 {R : Type} : Loops R := fun _ _ _ _ => none
noncomputable def laws_markWorld (a0c0 : List R_iLiE) (a0c1 : List R_ibiiLiELiiisELiELsEiiiiiiiiiLiEiiiLiELiiiLiiisEELiiLiEiiisLiEE) (a0c2 : List R_iiiiiisiiiiiLiEiiiLiiisE) (a0c3 : List R_iiLiEiiisLiE) (k1 : Int) : Option (Int × (List R_iLiE) × (List R_ibiiLiELiiisELiELsEiiiiiiiiiLiEiiiLiELiiiLiiisEELiiLiEiiisLiEE) × (List R_iiiiiisiiiiiLiEiiiLiiisE) × (List R_iiLiEiiisLiE) × Unit) :=
  Option.bind (laws_markRingS a0c0 k1) fun y1 =>
  Option.bind (laws_markDaemonS a0c1 y1.1) fun y2 =>
  Option.bind (laws_markLetterS a0c2 y2.1) fun y3 =>
  Option.bind (laws_markEventS a0c3 y3.1) fun y4 =>
  some (y4.1, y1.2.1, y2.2.1, y3.2.1, y4.2.1, ())
noncomputable def x32 (x : (List R_iLiE) × (List R_ibiiLiELiiisELiELsEiiiiiiiiiLiEiiiLiELiiiLiiisEELiiLiEiiisLiEE) × (List R_iiiiiisiiiiiLiEiiiLiiisE) × (List R_iiLiEiiisLiE) × Int × Unit) : Option (Int × (List R_iLiE) × (List R_ibiiLiELiiisELiELsEiiiiiiiiiLiEiiiLiELiiiLiiisEELiiLiEiiisLiEE) × (List R_iiiiiisiiiiiLiEiiiLiiisE) × (List R_iiLiEiiisLiE) × Unit) := laws_markWorld x.1 x.2.1 x.2.2.1 x.2.2.2.1 x.2.2.2.2.1
noncomputable def sem32 : Sem1 := semOf ps32 rs32 x32
theorem so32 : SemsOk Try.prog (semsOf sl32) := sems_cons k68 (sems_cons k69 (sems_cons k70 (sems_cons k33 (sems_nil))))
theorem t32_eq (x : denR (headRT (ps32.map some))) : codeK (tabOf tr) (semsOf sl32) D32 L32 code32 (start 22 ps32 x) (finK rs32 ps32) = x32 x := by kernel_rfl
theorem k32 : Known Try.prog 32 sem32 :=
  fn_auto tr_ok eq_ok mixed_ok so32 (D := D32) (code := code32) (n := 22) Try.func32 (by kernel_rfl) (by kernel_rfl) (by kernel_rfl) (fun w0 mu _ hs => (loops_of (l := []) (by kernel_rfl) (List.forall_mem_nil _))) t32_eq

/-! ### f5: laws.FnExactLogOf -/
noncomputable def code5 : Code := match Try.f5.body with | some c => c | none => .skip
def ps5 : List AP := [.val true [.shr T_iLiE, .shr T_ibiiLiELiiisELiELsEiiiiiiiiiLiEiiiLiELiiiLiiisEELiiLiEiiisLiEE, .shr T_iiiiiisiiiiiLiEiiiLiiisE, .shr T_iiLiEiiisLiE], .val false [.int .i64]]
def rs5 : List RP := [{ src := .tmp 4, agg := false, ps := [.bool] }]
noncomputable def sl5 : SemL := [(26, (.shr, .shr, .shr, sem26)), (28, (.shr, .shr, .shr, sem28)), (27, (.shr, .shr, .shr, sem27)), (29, (.shr, .shr, .shr, sem29)), (30, (.shr, .shr, .shr, sem30)), (31, (.shr, .shr, .shr, sem31)), (32, (.lend, .shr, .shr, sem32)), (33, (.io, .shr, .shr, sem33)), (34, (.shr, .shr, .shr, sem34))]
def D5 : Draws := fun id => bif Nat.beq id 10 then .op 0 .take (.op 1 .take (.op 2 .one (.op 3 .one (.op 4 .any (.nil))))) else .nil
noncomputable def L5 {R : Type} : Loops R := fun _ _ _ _ => none
noncomputable def laws_FnExactLogOf (aW0c0 : List R_iLiE) (aW0c1 : List R_ibiiLiELiiisELiELsEiiiiiiiiiLiEiiiLiELiiiLiiisEELiiLiEiiisLiEE) (aW0c2 : List R_iiiiiisiiiiiLiEiiiLiiisE) (aW0c3 : List R_iiLiEiiisLiE) (aId1 : Int) : Option (Bool × Unit) :=
  Option.bind (laws_szWorld aW0c0 aW0c1 aW0c2 aW0c3 (1048576 : Int)) fun y1 =>
  bif decide (y1.1 < (0 : Int)) then
    some (true, ())
  else
    Option.bind (laws_toWorld aW0c0 aW0c1 aW0c2 aW0c3) fun y2 =>
    Option.bind (spec_LogOf y2.1 y2.2.1 y2.2.2.1 y2.2.2.2.1 aId1) fun y3 =>
    Option.bind (laws_toWorld aW0c0 aW0c1 aW0c2 aW0c3) fun y4 =>
    Option.bind (impl_LogOf y4.1 y4.2.1 y4.2.2.1 y4.2.2.2.1 aId1) fun y5 =>
    Option.bind (laws_eqEventS y5.1 y3.1) fun y6 =>
    bif !y6.1 then
      some (false, ())
    else
      Option.bind (laws_toWorld aW0c0 aW0c1 aW0c2 aW0c3) fun y7 =>
      Option.bind (laws_eqWorld y4.1 y4.2.1 y4.2.2.1 y4.2.2.2.1 y7.1 y7.2.1 y7.2.2.1 y7.2.2.2.1) fun y8 =>
      bif !y8.1 then
        some (false, ())
      else
        Option.bind (laws_markWorld y4.1 y4.2.1 y4.2.2.1 y4.2.2.2.1 (1 : Int)) fun y9 =>
        bif decide (y9.1 < (0 : Int)) then
          some (false, ())
        else
          Option.bind (laws_eqEventS y5.1 y3.1) fun y10 =>
          bif !y10.1 then
            some (false, ())
          else
            Option.bind (laws_markEventS y5.1 (1 : Int)) fun y11 =>
            Option.bind (laws_heldEventS y11.2.1 (1 : Int)) fun y12 =>
            bif decide (y12.1 < (0 : Int)) then
              some (false, ())
            else bif !decide (y12.1 = y11.1) then
              some (false, ())
            else
              Option.bind (laws_toWorld aW0c0 aW0c1 aW0c2 aW0c3) fun y13 =>
              Option.bind (impl_LogOf y13.1 y13.2.1 y13.2.2.1 y13.2.2.2.1 aId1) fun y14 =>
              Option.bind (laws_eqEventS y14.1 y3.1) fun y15 =>
              bif !y15.1 then
                some (false, ())
              else
                Option.bind (laws_heldEventS y11.2.1 (1 : Int)) fun y16 =>
                bif decide (y16.1 < (0 : Int)) then
                  some (false, ())
                else bif !decide (y16.1 = y11.1) then
                  some (false, ())
                else
                  some (true, ())
noncomputable def x5 (x : (List R_iLiE) × (List R_ibiiLiELiiisELiELsEiiiiiiiiiLiEiiiLiELiiiLiiisEELiiLiEiiisLiEE) × (List R_iiiiiisiiiiiLiEiiiLiiisE) × (List R_iiLiEiiisLiE) × Int × Unit) : Option (Bool × Unit) := laws_FnExactLogOf x.1 x.2.1 x.2.2.1 x.2.2.2.1 x.2.2.2.2.1
noncomputable def sem5 : Sem1 := semOf ps5 rs5 x5
theorem so5 : SemsOk Try.prog (semsOf sl5) := sems_cons k26 (sems_cons k28 (sems_cons k27 (sems_cons k29 (sems_cons k30 (sems_cons k31 (sems_cons k32 (sems_cons k33 (sems_cons k34 (sems_nil)))))))))
theorem t5_eq (x : denR (headRT (ps5.map some))) : codeK (tabOf tr) (semsOf sl5) D5 L5 code5 (start 74 ps5 x) (finK rs5 ps5) = x5 x := by kernel_rfl
theorem k5 : Known Try.prog 5 sem5 :=
  fn_auto tr_ok eq_ok mixed_ok so5 (D := D5) (code := code5) (n := 74) Try.func5 (by kernel_rfl) (by kernel_rfl) (by kernel_rfl) (fun w0 mu _ hs => (loops_of (l := []) (by kernel_rfl) (List.forall_mem_nil _))) t5_eq

end Go.TM
