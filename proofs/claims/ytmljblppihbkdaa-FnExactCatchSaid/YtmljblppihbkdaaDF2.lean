/- What the functions answer, as terms; their contracts. -/
import Derived.Test.YtmljblppihbkdaaDF1
set_option linter.unusedSimpArgs false
set_option linter.unusedVariables false
namespace Go.TM
open Go Go.RowKit Go.Proofs

/-! ### f36: laws.heldItemS -/
noncomputable def code36 : Code := match Try.f36.body with | some c => c | none => .skip
def ps36 : List AP := [.val false [.shr T_iiis], .val false [.int .i64]]
def rs36 : List RP := [{ src := .tmp 4, agg := false, ps := [.int .i64] }]
noncomputable def sl36 : SemL := [(107, (.shr, .shr, .shr, sem107))]
def D36 : Draws := fun id => bif Nat.beq id 13 then .op 0 .any (.op 1 .any (.op 2 .any (.op 3 .any (.op 4 .take (.op 5 .any (.op 6 .one (.op 7 .any (.nil)))))))) else .nil
def hp36_0 : List (Option AP) := [some (.val false [.shr T_iiis]), some (.val false [.int .i64]), none, none, none, some (.val false [.int .i64]), none, none, none, none, none, none, none, none, none, none, none, none, none, none, none, none, none, none, none, none, none, none, none, none, none, none, none, none, none, none, none, none, none, none, none, none, none, none, none, none, none, none, none, none, none]
def e36_0 : List (Option AP) := [none, some (.val false [.int .i64]), none, none, none, none, none, none, none, none, none, none, none, none, none, none, none, none, none, none, none, none, none, none, none, none, none, none, none, none, none, none, none, none, none, none, none, none, none, none, none, none, none, none, none, none, none, none, none, none, none]
def q36_0 : List (Option AP) := [none, none, none, none, some (.val false [.int .i64]), none, none, none, none, none, none, none, none, none, none, none, none, none, none, none, none, none, none, none, none, none, none, none, none, none, none, none, none, none, none, none, none, none, none, none, none, none, none, none, none, none, none, none, none, none, none]
abbrev H36_0 : Type := (List R_iiis) × Int × Int × Unit
abbrev E36_0 : Type := Int × Unit
abbrev Q36_0 : Type := Int × Unit
noncomputable def laws_heldItemS_c0 (a0 : List R_iiis) (k1 : Int) (i5 : Int) : Option (Sum H36_0 (Sum E36_0 Q36_0)) :=
  bif decide (i5 < ((List.length a0 : Nat) : Int)) then
    bif decide ((0 : Int) ≤ i5) then Option.bind ((a0)[Int.toNat i5]?) fun r1 =>
      bif !decide (r1.1 = k1) then
        some (.inr (.inr ((-1 : Int), ())))
      else bif decide ((0 : Int) ≤ i5) then Option.bind ((a0)[Int.toNat i5]?) fun r2 =>
        bif !decide (r2.2.1 = IntKind.i64.wrap (k1 + (1 : Int))) then
          some (.inr (.inr ((-1 : Int), ())))
        else bif decide ((0 : Int) ≤ i5) then Option.bind ((a0)[Int.toNat i5]?) fun r3 =>
          bif !decide (r3.2.2.1 = IntKind.i64.wrap ((IntKind.i64.wrap (k1 + (1 : Int))) + (1 : Int))) then
            some (.inr (.inr ((-1 : Int), ())))
          else bif decide ((0 : Int) ≤ i5) then Option.bind ((a0)[Int.toNat i5]?) fun r4 =>
            Option.bind (laws_markText (IntKind.i64.wrap ((IntKind.i64.wrap ((IntKind.i64.wrap (k1 + (1 : Int))) + (1 : Int))) + (1 : Int)))) fun y5 =>
            bif !strEq r4.2.2.2.1 y5.1 then
              some (.inr (.inr ((-1 : Int), ())))
            else
              some (.inl (a0, IntKind.i64.wrap ((IntKind.i64.wrap ((IntKind.i64.wrap ((IntKind.i64.wrap (k1 + (1 : Int))) + (1 : Int))) + (1 : Int))) + (1 : Int)), IntKind.i64.wrap (i5 + (1 : Int)), ()))
          else none
        else none
      else none
    else none
  else
    some (.inr (.inl (k1, ())))
noncomputable def laws_heldItemS_r0 (x : H36_0) : Option (Sum H36_0 (Sum E36_0 Q36_0)) := laws_heldItemS_c0 x.1 x.2.1 x.2.2.1
noncomputable def L36 {R : Type} : Loops R := fun id _ st k => bif Nat.beq id 0 then loopAt hp36_0 e36_0 q36_0 laws_heldItemS_r0 st k else none
noncomputable def laws_heldItemS (a0 : List R_iiis) (k1 : Int) : Option (Int × Unit) :=
  outK (loopV laws_heldItemS_r0 (a0, k1, (0 : Int), ())) (fun y1 =>
    some (y1.1, ())) (fun y2 =>
    some (y2.1, ()))
noncomputable def x36 (x : (List R_iiis) × Int × Unit) : Option (Int × Unit) := laws_heldItemS x.1 x.2.1
noncomputable def sem36 : Sem1 := semOf ps36 rs36 x36
theorem so36 : SemsOk Try.prog (semsOf sl36) := sems_cons k107 (sems_nil)
noncomputable def b36_0 : Code := nthLoop code36 0
theorem t36_r0_eq (x : denR (headRT hp36_0)) : codeK (tabOf tr) (semsOf sl36) D36 L36 b36_0 (headSt hp36_0 x) (roundK 0 hp36_0 e36_0 q36_0) = laws_heldItemS_r0 x := by kernel_rfl
theorem loop36_0 {R : Type} (r : R) (w0 : World) (mu : Mu) (hs : AnShape ps36 mu) : LoopAt Try.prog w0 mu 50 (L36 : Loops R) r 0 b36_0 :=
  loop_auto tr_ok eq_ok mixed_ok so36 (D := D36) hs (by kernel_rfl) (fun _ => (loops_of (l := []) (by kernel_rfl) (List.forall_mem_nil _))) t36_r0_eq (fun _ _ => rfl)
theorem t36_eq (x : denR (headRT (ps36.map some))) : codeK (tabOf tr) (semsOf sl36) D36 L36 code36 (start 50 ps36 x) (finK rs36 ps36) = x36 x := by kernel_rfl
theorem k36 : Known Try.prog 36 sem36 :=
  fn_auto tr_ok eq_ok mixed_ok so36 (D := D36) (code := code36) (n := 50) Try.func36 (by kernel_rfl) (by kernel_rfl) (by kernel_rfl) (fun w0 mu _ hs => (loops_of (l := [(0, b36_0)]) (by kernel_rfl) (List.forall_mem_cons.2 ⟨loop36_0 _ w0 mu hs, (List.forall_mem_nil _)⟩))) t36_eq

/-! ### f143: laws.heldStringS -/
noncomputable def code143 : Code := match Try.f143.body with | some c => c | none => .skip
def ps143 : List AP := [.val false [.shr T_s], .val false [.int .i64]]
def rs143 : List RP := [{ src := .tmp 4, agg := false, ps := [.int .i64] }]
noncomputable def sl143 : SemL := [(107, (.shr, .shr, .shr, sem107))]
def D143 : Draws := fun id => bif Nat.beq id 4 then .op 0 .any (.op 1 .any (.op 2 .any (.op 3 .take (.op 4 .any (.op 5 .one (.op 6 .any (.nil))))))) else .nil
def hp143_0 : List (Option AP) := [some (.val false [.shr T_s]), some (.val false [.int .i64]), none, none, none, some (.val false [.int .i64]), none, none, none, none, none, none, none, none, none, none, none, none, none, none, none, none, none]
def e143_0 : List (Option AP) := [none, some (.val false [.int .i64]), none, none, none, none, none, none, none, none, none, none, none, none, none, none, none, none, none, none, none, none, none]
def q143_0 : List (Option AP) := [none, none, none, none, some (.val false [.int .i64]), none, none, none, none, none, none, none, none, none, none, none, none, none, none, none, none, none, none]
abbrev H143_0 : Type := (List (ByteArray × Unit)) × Int × Int × Unit
abbrev E143_0 : Type := Int × Unit
abbrev Q143_0 : Type := Int × Unit
noncomputable def laws_heldStringS_c0 (a0 : List (ByteArray × Unit)) (k1 : Int) (i5 : Int) : Option (Sum H143_0 (Sum E143_0 Q143_0)) :=
  bif decide (i5 < ((List.length a0 : Nat) : Int)) then
    bif decide ((0 : Int) ≤ i5) then Option.bind ((a0)[Int.toNat i5]?) fun r1 =>
      Option.bind (laws_markText k1) fun y2 =>
      bif !strEq r1.1 y2.1 then
        some (.inr (.inr ((-1 : Int), ())))
      else
        some (.inl (a0, IntKind.i64.wrap (k1 + (1 : Int)), IntKind.i64.wrap (i5 + (1 : Int)), ()))
    else none
  else
    some (.inr (.inl (k1, ())))
noncomputable def laws_heldStringS_r0 (x : H143_0) : Option (Sum H143_0 (Sum E143_0 Q143_0)) := laws_heldStringS_c0 x.1 x.2.1 x.2.2.1
noncomputable def L143 {R : Type} : Loops R := fun id _ st k => bif Nat.beq id 0 then loopAt hp143_0 e143_0 q143_0 laws_heldStringS_r0 st k else none
noncomputable def laws_heldStringS (a0 : List (ByteArray × Unit)) (k1 : Int) : Option (Int × Unit) :=
  outK (loopV laws_heldStringS_r0 (a0, k1, (0 : Int), ())) (fun y1 =>
    some (y1.1, ())) (fun y2 =>
    some (y2.1, ()))
noncomputable def x143 (x : (List (ByteArray × Unit)) × Int × Unit) : Option (Int × Unit) := laws_heldStringS x.1 x.2.1
noncomputable def sem143 : Sem1 := semOf ps143 rs143 x143
theorem so143 : SemsOk Try.prog (semsOf sl143) := sems_cons k107 (sems_nil)
noncomputable def b143_0 : Code := nthLoop code143 0
theorem t143_r0_eq (x : denR (headRT hp143_0)) : codeK (tabOf tr) (semsOf sl143) D143 L143 b143_0 (headSt hp143_0 x) (roundK 0 hp143_0 e143_0 q143_0) = laws_heldStringS_r0 x := by kernel_rfl
theorem loop143_0 {R : Type} (r : R) (w0 : World) (mu : Mu) (hs : AnShape ps143 mu) : LoopAt Try.prog w0 mu 22 (L143 : Loops R) r 0 b143_0 :=
  loop_auto tr_ok eq_ok mixed_ok so143 (D := D143) hs (by kernel_rfl) (fun _ => (loops_of (l := []) (by kernel_rfl) (List.forall_mem_nil _))) t143_r0_eq (fun _ _ => rfl)
theorem t143_eq (x : denR (headRT (ps143.map some))) : codeK (tabOf tr) (semsOf sl143) D143 L143 code143 (start 22 ps143 x) (finK rs143 ps143) = x143 x := by kernel_rfl
theorem k143 : Known Try.prog 143 sem143 :=
  fn_auto tr_ok eq_ok mixed_ok so143 (D := D143) (code := code143) (n := 22) Try.func143 (by kernel_rfl) (by kernel_rfl) (by kernel_rfl) (fun w0 mu _ hs => (loops_of (l := [(0, b143_0)]) (by kernel_rfl) (List.forall_mem_cons.2 ⟨loop143_0 _ w0 mu hs, (List.forall_mem_nil _)⟩))) t143_eq

/-! ### f52: laws.heldToken -/
noncomputable def code52 : Code := match Try.f52.body with | some c => c | none => .skip
def ps52 : List AP := [.val true [.int .i64, .int .i64, .int .i64, .int .i64, .int .i64, .shr T_i], .val false [.int .i64]]
def rs52 : List RP := [{ src := .tmp 4, agg := false, ps := [.int .i64] }]
noncomputable def sl52 : SemL := [(130, (.shr, .shr, .shr, sem130))]
def D52 : Draws := fun _ => .nil
noncomputable def L52 {R : Type} : Loops R := fun _ _ _ _ => none
noncomputable def laws_heldToken (a0c0 : Int) (a0c1 : Int) (a0c2 : Int) (a0c3 : Int) (a0c4 : Int) (a0c5 : List (Int × Unit)) (k1 : Int) : Option (Int × Unit) :=
  Option.bind (laws_heldIntS a0c5 k1) fun y1 =>
  bif decide (y1.1 < (0 : Int)) then
    some ((-1 : Int), ())
  else
    some (y1.1, ())
noncomputable def x52 (x : Int × Int × Int × Int × Int × (List (Int × Unit)) × Int × Unit) : Option (Int × Unit) := laws_heldToken x.1 x.2.1 x.2.2.1 x.2.2.2.1 x.2.2.2.2.1 x.2.2.2.2.2.1 x.2.2.2.2.2.2.1
noncomputable def sem52 : Sem1 := semOf ps52 rs52 x52
theorem so52 : SemsOk Try.prog (semsOf sl52) := sems_cons k130 (sems_nil)
theorem t52_eq (x : denR (headRT (ps52.map some))) : codeK (tabOf tr) (semsOf sl52) D52 L52 code52 (start 12 ps52 x) (finK rs52 ps52) = x52 x := by kernel_rfl
theorem k52 : Known Try.prog 52 sem52 :=
  fn_auto tr_ok eq_ok mixed_ok so52 (D := D52) (code := code52) (n := 12) Try.func52 (by kernel_rfl) (by kernel_rfl) (by kernel_rfl) (fun w0 mu _ hs => (loops_of (l := []) (by kernel_rfl) (List.forall_mem_nil _))) t52_eq

/-! ### f61: laws.heldMate -/
noncomputable def code61 : Code := match Try.f61.body with | some c => c | none => .skip
def ps61 : List AP := [.val true [.int .i64, .int .i64, .shr T_i, .shr T_iiis, .shr T_i, .shr T_s, .int .i64, .int .i64, .int .i64, .int .i64, .int .i64, .int .i64, .int .i64, .int .i64, .int .i64, .shr T_i], .val false [.int .i64]]
def rs61 : List RP := [{ src := .tmp 4, agg := false, ps := [.int .i64] }]
noncomputable def sl61 : SemL := [(79, (.shr, .shr, .shr, sem79)), (36, (.shr, .shr, .shr, sem36)), (130, (.shr, .shr, .shr, sem130)), (143, (.shr, .shr, .shr, sem143)), (52, (.shr, .shr, .shr, sem52))]
def D61 : Draws := fun _ => .nil
noncomputable def L61 {R : Type} : Loops R := fun _ _ _ _ => none
noncomputable def laws_heldMate (a0c0 : Int) (a0c1 : Int) (a0c2 : List (Int × Unit)) (a0c3 : List R_iiis) (a0c4 : List (Int × Unit)) (a0c5 : List (ByteArray × Unit)) (a0c6 : Int) (a0c7 : Int) (a0c8 : Int) (a0c9 : Int) (a0c10 : Int) (a0c11 : Int) (a0c12 : Int) (a0c13 : Int) (a0c14 : Int) (a0c15 : List (Int × Unit)) (k1 : Int) : Option (Int × Unit) :=
  Option.bind (laws_heldRing a0c1 a0c2 k1) fun y1 =>
  bif decide (y1.1 < (0 : Int)) then
    some ((-1 : Int), ())
  else
    Option.bind (laws_heldItemS a0c3 y1.1) fun y2 =>
    bif decide (y2.1 < (0 : Int)) then
      some ((-1 : Int), ())
    else
      Option.bind (laws_heldIntS a0c4 y2.1) fun y3 =>
      bif decide (y3.1 < (0 : Int)) then
        some ((-1 : Int), ())
      else
        Option.bind (laws_heldStringS a0c5 y3.1) fun y4 =>
        bif decide (y4.1 < (0 : Int)) then
          some ((-1 : Int), ())
        else
          Option.bind (laws_heldToken a0c10 a0c11 a0c12 a0c13 a0c14 a0c15 y4.1) fun y5 =>
          bif decide (y5.1 < (0 : Int)) then
            some ((-1 : Int), ())
          else
            some (y5.1, ())
noncomputable def x61 (x : Int × Int × (List (Int × Unit)) × (List R_iiis) × (List (Int × Unit)) × (List (ByteArray × Unit)) × Int × Int × Int × Int × Int × Int × Int × Int × Int × (List (Int × Unit)) × Int × Unit) : Option (Int × Unit) := laws_heldMate x.1 x.2.1 x.2.2.1 x.2.2.2.1 x.2.2.2.2.1 x.2.2.2.2.2.1 x.2.2.2.2.2.2.1 x.2.2.2.2.2.2.2.1 x.2.2.2.2.2.2.2.2.1 x.2.2.2.2.2.2.2.2.2.1 x.2.2.2.2.2.2.2.2.2.2.1 x.2.2.2.2.2.2.2.2.2.2.2.1 x.2.2.2.2.2.2.2.2.2.2.2.2.1 x.2.2.2.2.2.2.2.2.2.2.2.2.2.1 x.2.2.2.2.2.2.2.2.2.2.2.2.2.2.1 x.2.2.2.2.2.2.2.2.2.2.2.2.2.2.2.1 x.2.2.2.2.2.2.2.2.2.2.2.2.2.2.2.2.1
noncomputable def sem61 : Sem1 := semOf ps61 rs61 x61
theorem so61 : SemsOk Try.prog (semsOf sl61) := sems_cons k79 (sems_cons k36 (sems_cons k130 (sems_cons k143 (sems_cons k52 (sems_nil)))))
theorem t61_eq (x : denR (headRT (ps61.map some))) : codeK (tabOf tr) (semsOf sl61) D61 L61 code61 (start 36 ps61 x) (finK rs61 ps61) = x61 x := by kernel_rfl
theorem k61 : Known Try.prog 61 sem61 :=
  fn_auto tr_ok eq_ok mixed_ok so61 (D := D61) (code := code61) (n := 36) Try.func61 (by kernel_rfl) (by kernel_rfl) (by kernel_rfl) (fun w0 mu _ hs => (loops_of (l := []) (by kernel_rfl) (List.forall_mem_nil _))) t61_eq

/-! ### f9: laws.FnExactCatch -/
noncomputable def code9 : Code := match Try.f9.body with | some c => c | none => .skip
def ps9 : List AP := [.val true [.int .i64, .int .i64, .shr T_i, .shr T_iiis, .shr T_i, .shr T_s, .int .i64, .int .i64, .int .i64, .int .i64, .int .i64, .int .i64, .int .i64, .int .i64, .int .i64, .shr T_i], .val true [.int .i64, .int .i64, .int .i64, .str]]
def rs9 : List RP := [{ src := .tmp 4, agg := false, ps := [.bool] }]
noncomputable def sl9 : SemL := [(53, (.shr, .shr, .shr, sem53)), (54, (.shr, .shr, .shr, sem54)), (56, (.shr, .shr, .shr, sem56)), (57, (.shr, .shr, .shr, sem57)), (55, (.shr, .shr, .shr, sem55)), (58, (.shr, .shr, .shr, sem58)), (59, (.shr, .shr, .shr, sem59)), (60, (.lend, .shr, .shr, sem60)), (61, (.shr, .shr, .shr, sem61))]
def D9 : Draws := fun id => bif Nat.beq id 8 then .op 0 .take (.op 2 .take (.alt (.op 1 .one (.alt (.op 3 .one (.alt (.op 4 .one (.op 5 .one (.op 6 .last (.nil)))) (.op 5 .one (.op 4 .one (.op 6 .last (.nil)))))) (.op 5 .one (.op 3 .one (.op 4 .one (.op 6 .last (.nil))))))) (.op 5 .one (.op 1 .one (.op 3 .one (.op 4 .one (.op 6 .last (.nil)))))))) else bif Nat.beq id 10 then .op 0 .take (.op 1 .take (.alt (.op 2 .one (.alt (.op 3 .one (.op 4 .one (.op 5 .last (.nil)))) (.op 4 .one (.op 3 .one (.op 5 .last (.nil)))))) (.op 4 .one (.op 2 .one (.op 3 .one (.op 5 .last (.nil))))))) else bif Nat.beq id 13 then .op 0 .take (.op 1 .take (.op 2 .one (.op 3 .one (.op 4 .any (.nil))))) else bif Nat.beq id 27 then .op 0 .take (.op 2 .take (.alt (.op 1 .one (.alt (.op 3 .one (.alt (.op 4 .one (.op 5 .one (.op 6 .last (.nil)))) (.op 5 .one (.op 4 .one (.op 6 .last (.nil)))))) (.op 5 .one (.op 3 .one (.op 4 .one (.op 6 .last (.nil))))))) (.op 5 .one (.op 1 .one (.op 3 .one (.op 4 .one (.op 6 .last (.nil)))))))) else .nil
noncomputable def L9 {R : Type} : Loops R := fun _ _ _ _ => none
noncomputable def laws_FnExactCatch (aM0c0 : Int) (aM0c1 : Int) (aM0c2 : List (Int × Unit)) (aM0c3 : List R_iiis) (aM0c4 : List (Int × Unit)) (aM0c5 : List (ByteArray × Unit)) (aM0c6 : Int) (aM0c7 : Int) (aM0c8 : Int) (aM0c9 : Int) (aM0c10 : Int) (aM0c11 : Int) (aM0c12 : Int) (aM0c13 : Int) (aM0c14 : Int) (aM0c15 : List (Int × Unit)) (aX1c0 : Int) (aX1c1 : Int) (aX1c2 : Int) (aX1c3 : ByteArray) : Option (Bool × Unit) :=
  Option.bind (laws_szMate aM0c0 aM0c1 aM0c2 aM0c3 aM0c4 aM0c5 aM0c6 aM0c7 aM0c8 aM0c9 aM0c10 aM0c11 aM0c12 aM0c13 aM0c14 aM0c15 (1048576 : Int)) fun y1 =>
  bif decide (y1.1 < (0 : Int)) then
    some (true, ())
  else
    Option.bind (laws_szItem aX1c0 aX1c1 aX1c2 aX1c3 y1.1) fun y2 =>
    bif decide (y2.1 < (0 : Int)) then
      some (true, ())
    else
      Option.bind (laws_toMate aM0c0 aM0c1 aM0c2 aM0c3 aM0c4 aM0c5 aM0c6 aM0c7 aM0c8 aM0c9 aM0c10 aM0c11 aM0c12 aM0c13 aM0c14 aM0c15) fun y2o1 =>
      Option.bind (laws_toItem aX1c0 aX1c1 aX1c2 aX1c3) fun y2o3 =>
      Option.bind (spec_Catch y2o1.1 y2o1.2.1 y2o1.2.2.1 y2o1.2.2.2.1 y2o1.2.2.2.2.1 y2o1.2.2.2.2.2.1 y2o1.2.2.2.2.2.2.1 y2o1.2.2.2.2.2.2.2.1 y2o1.2.2.2.2.2.2.2.2.1 y2o1.2.2.2.2.2.2.2.2.2.1 y2o1.2.2.2.2.2.2.2.2.2.2.1 y2o1.2.2.2.2.2.2.2.2.2.2.2.1 y2o1.2.2.2.2.2.2.2.2.2.2.2.2.1 y2o1.2.2.2.2.2.2.2.2.2.2.2.2.2.1 y2o1.2.2.2.2.2.2.2.2.2.2.2.2.2.2.1 y2o1.2.2.2.2.2.2.2.2.2.2.2.2.2.2.2.1 y2o3.1 y2o3.2.1 y2o3.2.2.1 y2o3.2.2.2.1) fun y2o4 =>
      Option.bind (laws_toMate aM0c0 aM0c1 aM0c2 aM0c3 aM0c4 aM0c5 aM0c6 aM0c7 aM0c8 aM0c9 aM0c10 aM0c11 aM0c12 aM0c13 aM0c14 aM0c15) fun y4 =>
      Option.bind (laws_toItem aX1c0 aX1c1 aX1c2 aX1c3) fun y4o2 =>
      Option.bind (impl_Catch y4.1 y4.2.1 y4.2.2.1 y4.2.2.2.1 y4.2.2.2.2.1 y4.2.2.2.2.2.1 y4.2.2.2.2.2.2.1 y4.2.2.2.2.2.2.2.1 y4.2.2.2.2.2.2.2.2.1 y4.2.2.2.2.2.2.2.2.2.1 y4.2.2.2.2.2.2.2.2.2.2.1 y4.2.2.2.2.2.2.2.2.2.2.2.1 y4.2.2.2.2.2.2.2.2.2.2.2.2.1 y4.2.2.2.2.2.2.2.2.2.2.2.2.2.1 y4.2.2.2.2.2.2.2.2.2.2.2.2.2.2.1 y4.2.2.2.2.2.2.2.2.2.2.2.2.2.2.2.1 y4o2.1 y4o2.2.1 y4o2.2.2.1 y4o2.2.2.2.1) fun y4o3 =>
      Option.bind (laws_eqMate y4o3.1 y4o3.2.1 y4o3.2.2.1 y4o3.2.2.2.1 y4o3.2.2.2.2.1 y4o3.2.2.2.2.2.1 y4o3.2.2.2.2.2.2.1 y4o3.2.2.2.2.2.2.2.1 y4o3.2.2.2.2.2.2.2.2.1 y4o3.2.2.2.2.2.2.2.2.2.1 y4o3.2.2.2.2.2.2.2.2.2.2.1 y4o3.2.2.2.2.2.2.2.2.2.2.2.1 y4o3.2.2.2.2.2.2.2.2.2.2.2.2.1 y4o3.2.2.2.2.2.2.2.2.2.2.2.2.2.1 y4o3.2.2.2.2.2.2.2.2.2.2.2.2.2.2.1 y4o3.2.2.2.2.2.2.2.2.2.2.2.2.2.2.2.1 y2o4.1 y2o4.2.1 y2o4.2.2.1 y2o4.2.2.2.1 y2o4.2.2.2.2.1 y2o4.2.2.2.2.2.1 y2o4.2.2.2.2.2.2.1 y2o4.2.2.2.2.2.2.2.1 y2o4.2.2.2.2.2.2.2.2.1 y2o4.2.2.2.2.2.2.2.2.2.1 y2o4.2.2.2.2.2.2.2.2.2.2.1 y2o4.2.2.2.2.2.2.2.2.2.2.2.1 y2o4.2.2.2.2.2.2.2.2.2.2.2.2.1 y2o4.2.2.2.2.2.2.2.2.2.2.2.2.2.1 y2o4.2.2.2.2.2.2.2.2.2.2.2.2.2.2.1 y2o4.2.2.2.2.2.2.2.2.2.2.2.2.2.2.2.1) fun y6 =>
      bif !y6.1 then
        some (false, ())
      else
        Option.bind (laws_toMate aM0c0 aM0c1 aM0c2 aM0c3 aM0c4 aM0c5 aM0c6 aM0c7 aM0c8 aM0c9 aM0c10 aM0c11 aM0c12 aM0c13 aM0c14 aM0c15) fun y7 =>
        Option.bind (laws_eqMate y4.1 y4.2.1 y4.2.2.1 y4.2.2.2.1 y4.2.2.2.2.1 y4.2.2.2.2.2.1 y4.2.2.2.2.2.2.1 y4.2.2.2.2.2.2.2.1 y4.2.2.2.2.2.2.2.2.1 y4.2.2.2.2.2.2.2.2.2.1 y4.2.2.2.2.2.2.2.2.2.2.1 y4.2.2.2.2.2.2.2.2.2.2.2.1 y4.2.2.2.2.2.2.2.2.2.2.2.2.1 y4.2.2.2.2.2.2.2.2.2.2.2.2.2.1 y4.2.2.2.2.2.2.2.2.2.2.2.2.2.2.1 y4.2.2.2.2.2.2.2.2.2.2.2.2.2.2.2.1 y7.1 y7.2.1 y7.2.2.1 y7.2.2.2.1 y7.2.2.2.2.1 y7.2.2.2.2.2.1 y7.2.2.2.2.2.2.1 y7.2.2.2.2.2.2.2.1 y7.2.2.2.2.2.2.2.2.1 y7.2.2.2.2.2.2.2.2.2.1 y7.2.2.2.2.2.2.2.2.2.2.1 y7.2.2.2.2.2.2.2.2.2.2.2.1 y7.2.2.2.2.2.2.2.2.2.2.2.2.1 y7.2.2.2.2.2.2.2.2.2.2.2.2.2.1 y7.2.2.2.2.2.2.2.2.2.2.2.2.2.2.1 y7.2.2.2.2.2.2.2.2.2.2.2.2.2.2.2.1) fun y8 =>
        bif !y8.1 then
          some (false, ())
        else
          Option.bind (laws_markMate y4.1 y4.2.1 y4.2.2.1 y4.2.2.2.1 y4.2.2.2.2.1 y4.2.2.2.2.2.1 y4.2.2.2.2.2.2.1 y4.2.2.2.2.2.2.2.1 y4.2.2.2.2.2.2.2.2.1 y4.2.2.2.2.2.2.2.2.2.1 y4.2.2.2.2.2.2.2.2.2.2.1 y4.2.2.2.2.2.2.2.2.2.2.2.1 y4.2.2.2.2.2.2.2.2.2.2.2.2.1 y4.2.2.2.2.2.2.2.2.2.2.2.2.2.1 y4.2.2.2.2.2.2.2.2.2.2.2.2.2.2.1 y4.2.2.2.2.2.2.2.2.2.2.2.2.2.2.2.1 (1 : Int)) fun y9 =>
          bif decide (y9.1 < (0 : Int)) then
            some (false, ())
          else
            Option.bind (laws_eqMate y4o3.1 y4o3.2.1 y4o3.2.2.1 y4o3.2.2.2.1 y4o3.2.2.2.2.1 y4o3.2.2.2.2.2.1 y4o3.2.2.2.2.2.2.1 y4o3.2.2.2.2.2.2.2.1 y4o3.2.2.2.2.2.2.2.2.1 y4o3.2.2.2.2.2.2.2.2.2.1 y4o3.2.2.2.2.2.2.2.2.2.2.1 y4o3.2.2.2.2.2.2.2.2.2.2.2.1 y4o3.2.2.2.2.2.2.2.2.2.2.2.2.1 y4o3.2.2.2.2.2.2.2.2.2.2.2.2.2.1 y4o3.2.2.2.2.2.2.2.2.2.2.2.2.2.2.1 y4o3.2.2.2.2.2.2.2.2.2.2.2.2.2.2.2.1 y2o4.1 y2o4.2.1 y2o4.2.2.1 y2o4.2.2.2.1 y2o4.2.2.2.2.1 y2o4.2.2.2.2.2.1 y2o4.2.2.2.2.2.2.1 y2o4.2.2.2.2.2.2.2.1 y2o4.2.2.2.2.2.2.2.2.1 y2o4.2.2.2.2.2.2.2.2.2.1 y2o4.2.2.2.2.2.2.2.2.2.2.1 y2o4.2.2.2.2.2.2.2.2.2.2.2.1 y2o4.2.2.2.2.2.2.2.2.2.2.2.2.1 y2o4.2.2.2.2.2.2.2.2.2.2.2.2.2.1 y2o4.2.2.2.2.2.2.2.2.2.2.2.2.2.2.1 y2o4.2.2.2.2.2.2.2.2.2.2.2.2.2.2.2.1) fun y10 =>
            bif !y10.1 then
              some (false, ())
            else
              Option.bind (laws_markMate y4o3.1 y4o3.2.1 y4o3.2.2.1 y4o3.2.2.2.1 y4o3.2.2.2.2.1 y4o3.2.2.2.2.2.1 y4o3.2.2.2.2.2.2.1 y4o3.2.2.2.2.2.2.2.1 y4o3.2.2.2.2.2.2.2.2.1 y4o3.2.2.2.2.2.2.2.2.2.1 y4o3.2.2.2.2.2.2.2.2.2.2.1 y4o3.2.2.2.2.2.2.2.2.2.2.2.1 y4o3.2.2.2.2.2.2.2.2.2.2.2.2.1 y4o3.2.2.2.2.2.2.2.2.2.2.2.2.2.1 y4o3.2.2.2.2.2.2.2.2.2.2.2.2.2.2.1 y4o3.2.2.2.2.2.2.2.2.2.2.2.2.2.2.2.1 (1 : Int)) fun y11 =>
              Option.bind (laws_heldMate y4o3.1 y4o3.2.1 y11.2.1 y11.2.2.1 y11.2.2.2.1 y11.2.2.2.2.1 y4o3.2.2.2.2.2.2.1 y4o3.2.2.2.2.2.2.2.1 y4o3.2.2.2.2.2.2.2.2.1 y4o3.2.2.2.2.2.2.2.2.2.1 y4o3.2.2.2.2.2.2.2.2.2.2.1 y4o3.2.2.2.2.2.2.2.2.2.2.2.1 y4o3.2.2.2.2.2.2.2.2.2.2.2.2.1 y4o3.2.2.2.2.2.2.2.2.2.2.2.2.2.1 y4o3.2.2.2.2.2.2.2.2.2.2.2.2.2.2.1 y11.2.2.2.2.2.1 (1 : Int)) fun y12 =>
              bif decide (y12.1 < (0 : Int)) then
                some (false, ())
              else bif !decide (y12.1 = y11.1) then
                some (false, ())
              else
                Option.bind (laws_toMate aM0c0 aM0c1 aM0c2 aM0c3 aM0c4 aM0c5 aM0c6 aM0c7 aM0c8 aM0c9 aM0c10 aM0c11 aM0c12 aM0c13 aM0c14 aM0c15) fun y12o1 =>
                Option.bind (laws_toItem aX1c0 aX1c1 aX1c2 aX1c3) fun y12o3 =>
                Option.bind (impl_Catch y12o1.1 y12o1.2.1 y12o1.2.2.1 y12o1.2.2.2.1 y12o1.2.2.2.2.1 y12o1.2.2.2.2.2.1 y12o1.2.2.2.2.2.2.1 y12o1.2.2.2.2.2.2.2.1 y12o1.2.2.2.2.2.2.2.2.1 y12o1.2.2.2.2.2.2.2.2.2.1 y12o1.2.2.2.2.2.2.2.2.2.2.1 y12o1.2.2.2.2.2.2.2.2.2.2.2.1 y12o1.2.2.2.2.2.2.2.2.2.2.2.2.1 y12o1.2.2.2.2.2.2.2.2.2.2.2.2.2.1 y12o1.2.2.2.2.2.2.2.2.2.2.2.2.2.2.1 y12o1.2.2.2.2.2.2.2.2.2.2.2.2.2.2.2.1 y12o3.1 y12o3.2.1 y12o3.2.2.1 y12o3.2.2.2.1) fun y12o4 =>
                Option.bind (laws_eqMate y12o4.1 y12o4.2.1 y12o4.2.2.1 y12o4.2.2.2.1 y12o4.2.2.2.2.1 y12o4.2.2.2.2.2.1 y12o4.2.2.2.2.2.2.1 y12o4.2.2.2.2.2.2.2.1 y12o4.2.2.2.2.2.2.2.2.1 y12o4.2.2.2.2.2.2.2.2.2.1 y12o4.2.2.2.2.2.2.2.2.2.2.1 y12o4.2.2.2.2.2.2.2.2.2.2.2.1 y12o4.2.2.2.2.2.2.2.2.2.2.2.2.1 y12o4.2.2.2.2.2.2.2.2.2.2.2.2.2.1 y12o4.2.2.2.2.2.2.2.2.2.2.2.2.2.2.1 y12o4.2.2.2.2.2.2.2.2.2.2.2.2.2.2.2.1 y2o4.1 y2o4.2.1 y2o4.2.2.1 y2o4.2.2.2.1 y2o4.2.2.2.2.1 y2o4.2.2.2.2.2.1 y2o4.2.2.2.2.2.2.1 y2o4.2.2.2.2.2.2.2.1 y2o4.2.2.2.2.2.2.2.2.1 y2o4.2.2.2.2.2.2.2.2.2.1 y2o4.2.2.2.2.2.2.2.2.2.2.1 y2o4.2.2.2.2.2.2.2.2.2.2.2.1 y2o4.2.2.2.2.2.2.2.2.2.2.2.2.1 y2o4.2.2.2.2.2.2.2.2.2.2.2.2.2.1 y2o4.2.2.2.2.2.2.2.2.2.2.2.2.2.2.1 y2o4.2.2.2.2.2.2.2.2.2.2.2.2.2.2.2.1) fun y14 =>
                bif !y14.1 then
                  some (false, ())
                else
                  Option.bind (laws_heldMate y4o3.1 y4o3.2.1 y11.2.1 y11.2.2.1 y11.2.2.2.1 y11.2.2.2.2.1 y4o3.2.2.2.2.2.2.1 y4o3.2.2.2.2.2.2.2.1 y4o3.2.2.2.2.2.2.2.2.1 y4o3.2.2.2.2.2.2.2.2.2.1 y4o3.2.2.2.2.2.2.2.2.2.2.1 y4o3.2.2.2.2.2.2.2.2.2.2.2.1 y4o3.2.2.2.2.2.2.2.2.2.2.2.2.1 y4o3.2.2.2.2.2.2.2.2.2.2.2.2.2.1 y4o3.2.2.2.2.2.2.2.2.2.2.2.2.2.2.1 y11.2.2.2.2.2.1 (1 : Int)) fun y15 =>
                  bif decide (y15.1 < (0 : Int)) then
                    some (false, ())
                  else bif !decide (y15.1 = y11.1) then
                    some (false, ())
                  else
                    some (true, ())
noncomputable def laws_FnExactCatch_o (aM0c0 : Int) (aM0c1 : Int) (aM0c2 : List (Int × Unit)) (aM0c3 : List R_iiis) (aM0c4 : List (Int × Unit)) (aM0c5 : List (ByteArray × Unit)) (aM0c6 : Int) (aM0c7 : Int) (aM0c8 : Int) (aM0c9 : Int) (aM0c10 : Int) (aM0c11 : Int) (aM0c12 : Int) (aM0c13 : Int) (aM0c14 : Int) (aM0c15 : List (Int × Unit)) (aX1c0 : Int) (aX1c1 : Int) (aX1c2 : Int) (aX1c3 : ByteArray) : Option (Bool × Unit) :=
  Option.bind (laws_szMate aM0c0 aM0c1 aM0c2 aM0c3 aM0c4 aM0c5 aM0c6 aM0c7 aM0c8 aM0c9 aM0c10 aM0c11 aM0c12 aM0c13 aM0c14 aM0c15 (1048576 : Int)) fun y1 =>
  bif decide (y1.1 < (0 : Int)) then
    some (true, ())
  else
    Option.bind (laws_szItem aX1c0 aX1c1 aX1c2 aX1c3 y1.1) fun y2 =>
    bif decide (y2.1 < (0 : Int)) then
      some (true, ())
    else
      (fun K4 : (Int × Int × (List (Int × Unit)) × (List R_iiis) × (List (Int × Unit)) × (List (ByteArray × Unit)) × Int × Int × Int × Int × Int × Int × Int × Int × Int × (List (Int × Unit)) × Unit) → (Int × Int × Int × ByteArray × Unit) → (Int × Int × (List (Int × Unit)) × (List R_iiis) × (List (Int × Unit)) × (List (ByteArray × Unit)) × Int × Int × Int × Int × Int × Int × Int × Int × Int × (List (Int × Unit)) × Unit) → Option (Bool × Unit) => both (Option.bind (laws_toMate aM0c0 aM0c1 aM0c2 aM0c3 aM0c4 aM0c5 aM0c6 aM0c7 aM0c8 aM0c9 aM0c10 aM0c11 aM0c12 aM0c13 aM0c14 aM0c15) fun y2o1 =>
          both (Option.bind (laws_toItem aX1c0 aX1c1 aX1c2 aX1c3) fun y2o3 =>
            both (Option.bind (spec_Catch y2o1.1 y2o1.2.1 y2o1.2.2.1 y2o1.2.2.2.1 y2o1.2.2.2.2.1 y2o1.2.2.2.2.2.1 y2o1.2.2.2.2.2.2.1 y2o1.2.2.2.2.2.2.2.1 y2o1.2.2.2.2.2.2.2.2.1 y2o1.2.2.2.2.2.2.2.2.2.1 y2o1.2.2.2.2.2.2.2.2.2.2.1 y2o1.2.2.2.2.2.2.2.2.2.2.2.1 y2o1.2.2.2.2.2.2.2.2.2.2.2.2.1 y2o1.2.2.2.2.2.2.2.2.2.2.2.2.2.1 y2o1.2.2.2.2.2.2.2.2.2.2.2.2.2.2.1 y2o1.2.2.2.2.2.2.2.2.2.2.2.2.2.2.2.1 y2o3.1 y2o3.2.1 y2o3.2.2.1 y2o3.2.2.2.1) fun y2o4 =>
              K4 y2o1 y2o3 y2o4) (Option.bind (spec_Catch y2o1.1 y2o1.2.1 y2o1.2.2.1 y2o1.2.2.2.1 y2o1.2.2.2.2.1 y2o1.2.2.2.2.2.1 y2o1.2.2.2.2.2.2.1 y2o1.2.2.2.2.2.2.2.1 y2o1.2.2.2.2.2.2.2.2.1 y2o1.2.2.2.2.2.2.2.2.2.1 y2o1.2.2.2.2.2.2.2.2.2.2.1 y2o1.2.2.2.2.2.2.2.2.2.2.2.1 y2o1.2.2.2.2.2.2.2.2.2.2.2.2.1 y2o1.2.2.2.2.2.2.2.2.2.2.2.2.2.1 y2o1.2.2.2.2.2.2.2.2.2.2.2.2.2.2.1 y2o1.2.2.2.2.2.2.2.2.2.2.2.2.2.2.2.1 y2o3.1 y2o3.2.1 y2o3.2.2.1 y2o3.2.2.2.1) fun y2o4 =>
              K4 y2o1 y2o3 y2o4)) (Option.bind (laws_toItem aX1c0 aX1c1 aX1c2 aX1c3) fun y2o3 =>
            Option.bind (spec_Catch y2o1.1 y2o1.2.1 y2o1.2.2.1 y2o1.2.2.2.1 y2o1.2.2.2.2.1 y2o1.2.2.2.2.2.1 y2o1.2.2.2.2.2.2.1 y2o1.2.2.2.2.2.2.2.1 y2o1.2.2.2.2.2.2.2.2.1 y2o1.2.2.2.2.2.2.2.2.2.1 y2o1.2.2.2.2.2.2.2.2.2.2.1 y2o1.2.2.2.2.2.2.2.2.2.2.2.1 y2o1.2.2.2.2.2.2.2.2.2.2.2.2.1 y2o1.2.2.2.2.2.2.2.2.2.2.2.2.2.1 y2o1.2.2.2.2.2.2.2.2.2.2.2.2.2.2.1 y2o1.2.2.2.2.2.2.2.2.2.2.2.2.2.2.2.1 y2o3.1 y2o3.2.1 y2o3.2.2.1 y2o3.2.2.2.1) fun y2o4 =>
            K4 y2o1 y2o3 y2o4)) (Option.bind (laws_toMate aM0c0 aM0c1 aM0c2 aM0c3 aM0c4 aM0c5 aM0c6 aM0c7 aM0c8 aM0c9 aM0c10 aM0c11 aM0c12 aM0c13 aM0c14 aM0c15) fun y2o1 =>
          Option.bind (laws_toItem aX1c0 aX1c1 aX1c2 aX1c3) fun y2o3 =>
          Option.bind (spec_Catch y2o1.1 y2o1.2.1 y2o1.2.2.1 y2o1.2.2.2.1 y2o1.2.2.2.2.1 y2o1.2.2.2.2.2.1 y2o1.2.2.2.2.2.2.1 y2o1.2.2.2.2.2.2.2.1 y2o1.2.2.2.2.2.2.2.2.1 y2o1.2.2.2.2.2.2.2.2.2.1 y2o1.2.2.2.2.2.2.2.2.2.2.1 y2o1.2.2.2.2.2.2.2.2.2.2.2.1 y2o1.2.2.2.2.2.2.2.2.2.2.2.2.1 y2o1.2.2.2.2.2.2.2.2.2.2.2.2.2.1 y2o1.2.2.2.2.2.2.2.2.2.2.2.2.2.2.1 y2o1.2.2.2.2.2.2.2.2.2.2.2.2.2.2.2.1 y2o3.1 y2o3.2.1 y2o3.2.2.1 y2o3.2.2.2.1) fun y2o4 =>
          K4 y2o1 y2o3 y2o4)) (fun y2o1 y2o3 y2o4 =>
      Option.bind (laws_toMate aM0c0 aM0c1 aM0c2 aM0c3 aM0c4 aM0c5 aM0c6 aM0c7 aM0c8 aM0c9 aM0c10 aM0c11 aM0c12 aM0c13 aM0c14 aM0c15) fun y4 =>
        (fun K5 : (Int × Int × Int × ByteArray × Unit) → (Int × Int × (List (Int × Unit)) × (List R_iiis) × (List (Int × Unit)) × (List (ByteArray × Unit)) × Int × Int × Int × Int × Int × Int × Int × Int × Int × (List (Int × Unit)) × Unit) → Option (Bool × Unit) => both (Option.bind (laws_toItem aX1c0 aX1c1 aX1c2 aX1c3) fun y4o2 =>
            both (Option.bind (impl_Catch y4.1 y4.2.1 y4.2.2.1 y4.2.2.2.1 y4.2.2.2.2.1 y4.2.2.2.2.2.1 y4.2.2.2.2.2.2.1 y4.2.2.2.2.2.2.2.1 y4.2.2.2.2.2.2.2.2.1 y4.2.2.2.2.2.2.2.2.2.1 y4.2.2.2.2.2.2.2.2.2.2.1 y4.2.2.2.2.2.2.2.2.2.2.2.1 y4.2.2.2.2.2.2.2.2.2.2.2.2.1 y4.2.2.2.2.2.2.2.2.2.2.2.2.2.1 y4.2.2.2.2.2.2.2.2.2.2.2.2.2.2.1 y4.2.2.2.2.2.2.2.2.2.2.2.2.2.2.2.1 y4o2.1 y4o2.2.1 y4o2.2.2.1 y4o2.2.2.2.1) fun y4o3 =>
              K5 y4o2 y4o3) (Option.bind (impl_Catch y4.1 y4.2.1 y4.2.2.1 y4.2.2.2.1 y4.2.2.2.2.1 y4.2.2.2.2.2.1 y4.2.2.2.2.2.2.1 y4.2.2.2.2.2.2.2.1 y4.2.2.2.2.2.2.2.2.1 y4.2.2.2.2.2.2.2.2.2.1 y4.2.2.2.2.2.2.2.2.2.2.1 y4.2.2.2.2.2.2.2.2.2.2.2.1 y4.2.2.2.2.2.2.2.2.2.2.2.2.1 y4.2.2.2.2.2.2.2.2.2.2.2.2.2.1 y4.2.2.2.2.2.2.2.2.2.2.2.2.2.2.1 y4.2.2.2.2.2.2.2.2.2.2.2.2.2.2.2.1 y4o2.1 y4o2.2.1 y4o2.2.2.1 y4o2.2.2.2.1) fun y4o3 =>
              K5 y4o2 y4o3)) (Option.bind (laws_toItem aX1c0 aX1c1 aX1c2 aX1c3) fun y4o2 =>
            Option.bind (impl_Catch y4.1 y4.2.1 y4.2.2.1 y4.2.2.2.1 y4.2.2.2.2.1 y4.2.2.2.2.2.1 y4.2.2.2.2.2.2.1 y4.2.2.2.2.2.2.2.1 y4.2.2.2.2.2.2.2.2.1 y4.2.2.2.2.2.2.2.2.2.1 y4.2.2.2.2.2.2.2.2.2.2.1 y4.2.2.2.2.2.2.2.2.2.2.2.1 y4.2.2.2.2.2.2.2.2.2.2.2.2.1 y4.2.2.2.2.2.2.2.2.2.2.2.2.2.1 y4.2.2.2.2.2.2.2.2.2.2.2.2.2.2.1 y4.2.2.2.2.2.2.2.2.2.2.2.2.2.2.2.1 y4o2.1 y4o2.2.1 y4o2.2.2.1 y4o2.2.2.2.1) fun y4o3 =>
            K5 y4o2 y4o3)) (fun y4o2 y4o3 =>
        Option.bind (laws_eqMate y4o3.1 y4o3.2.1 y4o3.2.2.1 y4o3.2.2.2.1 y4o3.2.2.2.2.1 y4o3.2.2.2.2.2.1 y4o3.2.2.2.2.2.2.1 y4o3.2.2.2.2.2.2.2.1 y4o3.2.2.2.2.2.2.2.2.1 y4o3.2.2.2.2.2.2.2.2.2.1 y4o3.2.2.2.2.2.2.2.2.2.2.1 y4o3.2.2.2.2.2.2.2.2.2.2.2.1 y4o3.2.2.2.2.2.2.2.2.2.2.2.2.1 y4o3.2.2.2.2.2.2.2.2.2.2.2.2.2.1 y4o3.2.2.2.2.2.2.2.2.2.2.2.2.2.2.1 y4o3.2.2.2.2.2.2.2.2.2.2.2.2.2.2.2.1 y2o4.1 y2o4.2.1 y2o4.2.2.1 y2o4.2.2.2.1 y2o4.2.2.2.2.1 y2o4.2.2.2.2.2.1 y2o4.2.2.2.2.2.2.1 y2o4.2.2.2.2.2.2.2.1 y2o4.2.2.2.2.2.2.2.2.1 y2o4.2.2.2.2.2.2.2.2.2.1 y2o4.2.2.2.2.2.2.2.2.2.2.1 y2o4.2.2.2.2.2.2.2.2.2.2.2.1 y2o4.2.2.2.2.2.2.2.2.2.2.2.2.1 y2o4.2.2.2.2.2.2.2.2.2.2.2.2.2.1 y2o4.2.2.2.2.2.2.2.2.2.2.2.2.2.2.1 y2o4.2.2.2.2.2.2.2.2.2.2.2.2.2.2.2.1) fun y6 =>
          bif !y6.1 then
            some (false, ())
          else
            Option.bind (laws_toMate aM0c0 aM0c1 aM0c2 aM0c3 aM0c4 aM0c5 aM0c6 aM0c7 aM0c8 aM0c9 aM0c10 aM0c11 aM0c12 aM0c13 aM0c14 aM0c15) fun y7 =>
            Option.bind (laws_eqMate y4.1 y4.2.1 y4.2.2.1 y4.2.2.2.1 y4.2.2.2.2.1 y4.2.2.2.2.2.1 y4.2.2.2.2.2.2.1 y4.2.2.2.2.2.2.2.1 y4.2.2.2.2.2.2.2.2.1 y4.2.2.2.2.2.2.2.2.2.1 y4.2.2.2.2.2.2.2.2.2.2.1 y4.2.2.2.2.2.2.2.2.2.2.2.1 y4.2.2.2.2.2.2.2.2.2.2.2.2.1 y4.2.2.2.2.2.2.2.2.2.2.2.2.2.1 y4.2.2.2.2.2.2.2.2.2.2.2.2.2.2.1 y4.2.2.2.2.2.2.2.2.2.2.2.2.2.2.2.1 y7.1 y7.2.1 y7.2.2.1 y7.2.2.2.1 y7.2.2.2.2.1 y7.2.2.2.2.2.1 y7.2.2.2.2.2.2.1 y7.2.2.2.2.2.2.2.1 y7.2.2.2.2.2.2.2.2.1 y7.2.2.2.2.2.2.2.2.2.1 y7.2.2.2.2.2.2.2.2.2.2.1 y7.2.2.2.2.2.2.2.2.2.2.2.1 y7.2.2.2.2.2.2.2.2.2.2.2.2.1 y7.2.2.2.2.2.2.2.2.2.2.2.2.2.1 y7.2.2.2.2.2.2.2.2.2.2.2.2.2.2.1 y7.2.2.2.2.2.2.2.2.2.2.2.2.2.2.2.1) fun y8 =>
            bif !y8.1 then
              some (false, ())
            else
              Option.bind (laws_markMate y4.1 y4.2.1 y4.2.2.1 y4.2.2.2.1 y4.2.2.2.2.1 y4.2.2.2.2.2.1 y4.2.2.2.2.2.2.1 y4.2.2.2.2.2.2.2.1 y4.2.2.2.2.2.2.2.2.1 y4.2.2.2.2.2.2.2.2.2.1 y4.2.2.2.2.2.2.2.2.2.2.1 y4.2.2.2.2.2.2.2.2.2.2.2.1 y4.2.2.2.2.2.2.2.2.2.2.2.2.1 y4.2.2.2.2.2.2.2.2.2.2.2.2.2.1 y4.2.2.2.2.2.2.2.2.2.2.2.2.2.2.1 y4.2.2.2.2.2.2.2.2.2.2.2.2.2.2.2.1 (1 : Int)) fun y9 =>
              bif decide (y9.1 < (0 : Int)) then
                some (false, ())
              else
                Option.bind (laws_eqMate y4o3.1 y4o3.2.1 y4o3.2.2.1 y4o3.2.2.2.1 y4o3.2.2.2.2.1 y4o3.2.2.2.2.2.1 y4o3.2.2.2.2.2.2.1 y4o3.2.2.2.2.2.2.2.1 y4o3.2.2.2.2.2.2.2.2.1 y4o3.2.2.2.2.2.2.2.2.2.1 y4o3.2.2.2.2.2.2.2.2.2.2.1 y4o3.2.2.2.2.2.2.2.2.2.2.2.1 y4o3.2.2.2.2.2.2.2.2.2.2.2.2.1 y4o3.2.2.2.2.2.2.2.2.2.2.2.2.2.1 y4o3.2.2.2.2.2.2.2.2.2.2.2.2.2.2.1 y4o3.2.2.2.2.2.2.2.2.2.2.2.2.2.2.2.1 y2o4.1 y2o4.2.1 y2o4.2.2.1 y2o4.2.2.2.1 y2o4.2.2.2.2.1 y2o4.2.2.2.2.2.1 y2o4.2.2.2.2.2.2.1 y2o4.2.2.2.2.2.2.2.1 y2o4.2.2.2.2.2.2.2.2.1 y2o4.2.2.2.2.2.2.2.2.2.1 y2o4.2.2.2.2.2.2.2.2.2.2.1 y2o4.2.2.2.2.2.2.2.2.2.2.2.1 y2o4.2.2.2.2.2.2.2.2.2.2.2.2.1 y2o4.2.2.2.2.2.2.2.2.2.2.2.2.2.1 y2o4.2.2.2.2.2.2.2.2.2.2.2.2.2.2.1 y2o4.2.2.2.2.2.2.2.2.2.2.2.2.2.2.2.1) fun y10 =>
                bif !y10.1 then
                  some (false, ())
                else
                  Option.bind (laws_markMate y4o3.1 y4o3.2.1 y4o3.2.2.1 y4o3.2.2.2.1 y4o3.2.2.2.2.1 y4o3.2.2.2.2.2.1 y4o3.2.2.2.2.2.2.1 y4o3.2.2.2.2.2.2.2.1 y4o3.2.2.2.2.2.2.2.2.1 y4o3.2.2.2.2.2.2.2.2.2.1 y4o3.2.2.2.2.2.2.2.2.2.2.1 y4o3.2.2.2.2.2.2.2.2.2.2.2.1 y4o3.2.2.2.2.2.2.2.2.2.2.2.2.1 y4o3.2.2.2.2.2.2.2.2.2.2.2.2.2.1 y4o3.2.2.2.2.2.2.2.2.2.2.2.2.2.2.1 y4o3.2.2.2.2.2.2.2.2.2.2.2.2.2.2.2.1 (1 : Int)) fun y11 =>
                  Option.bind (laws_heldMate y4o3.1 y4o3.2.1 y11.2.1 y11.2.2.1 y11.2.2.2.1 y11.2.2.2.2.1 y4o3.2.2.2.2.2.2.1 y4o3.2.2.2.2.2.2.2.1 y4o3.2.2.2.2.2.2.2.2.1 y4o3.2.2.2.2.2.2.2.2.2.1 y4o3.2.2.2.2.2.2.2.2.2.2.1 y4o3.2.2.2.2.2.2.2.2.2.2.2.1 y4o3.2.2.2.2.2.2.2.2.2.2.2.2.1 y4o3.2.2.2.2.2.2.2.2.2.2.2.2.2.1 y4o3.2.2.2.2.2.2.2.2.2.2.2.2.2.2.1 y11.2.2.2.2.2.1 (1 : Int)) fun y12 =>
                  bif decide (y12.1 < (0 : Int)) then
                    some (false, ())
                  else bif !decide (y12.1 = y11.1) then
                    some (false, ())
                  else
                    (fun K6 : (Int × Int × (List (Int × Unit)) × (List R_iiis) × (List (Int × Unit)) × (List (ByteArray × Unit)) × Int × Int × Int × Int × Int × Int × Int × Int × Int × (List (Int × Unit)) × Unit) → (Int × Int × Int × ByteArray × Unit) → (Int × Int × (List (Int × Unit)) × (List R_iiis) × (List (Int × Unit)) × (List (ByteArray × Unit)) × Int × Int × Int × Int × Int × Int × Int × Int × Int × (List (Int × Unit)) × Unit) → Option (Bool × Unit) => both (Option.bind (laws_toMate aM0c0 aM0c1 aM0c2 aM0c3 aM0c4 aM0c5 aM0c6 aM0c7 aM0c8 aM0c9 aM0c10 aM0c11 aM0c12 aM0c13 aM0c14 aM0c15) fun y12o1 =>
                        both (Option.bind (laws_toItem aX1c0 aX1c1 aX1c2 aX1c3) fun y12o3 =>
                          both (Option.bind (impl_Catch y12o1.1 y12o1.2.1 y12o1.2.2.1 y12o1.2.2.2.1 y12o1.2.2.2.2.1 y12o1.2.2.2.2.2.1 y12o1.2.2.2.2.2.2.1 y12o1.2.2.2.2.2.2.2.1 y12o1.2.2.2.2.2.2.2.2.1 y12o1.2.2.2.2.2.2.2.2.2.1 y12o1.2.2.2.2.2.2.2.2.2.2.1 y12o1.2.2.2.2.2.2.2.2.2.2.2.1 y12o1.2.2.2.2.2.2.2.2.2.2.2.2.1 y12o1.2.2.2.2.2.2.2.2.2.2.2.2.2.1 y12o1.2.2.2.2.2.2.2.2.2.2.2.2.2.2.1 y12o1.2.2.2.2.2.2.2.2.2.2.2.2.2.2.2.1 y12o3.1 y12o3.2.1 y12o3.2.2.1 y12o3.2.2.2.1) fun y12o4 =>
                            K6 y12o1 y12o3 y12o4) (Option.bind (impl_Catch y12o1.1 y12o1.2.1 y12o1.2.2.1 y12o1.2.2.2.1 y12o1.2.2.2.2.1 y12o1.2.2.2.2.2.1 y12o1.2.2.2.2.2.2.1 y12o1.2.2.2.2.2.2.2.1 y12o1.2.2.2.2.2.2.2.2.1 y12o1.2.2.2.2.2.2.2.2.2.1 y12o1.2.2.2.2.2.2.2.2.2.2.1 y12o1.2.2.2.2.2.2.2.2.2.2.2.1 y12o1.2.2.2.2.2.2.2.2.2.2.2.2.1 y12o1.2.2.2.2.2.2.2.2.2.2.2.2.2.1 y12o1.2.2.2.2.2.2.2.2.2.2.2.2.2.2.1 y12o1.2.2.2.2.2.2.2.2.2.2.2.2.2.2.2.1 y12o3.1 y12o3.2.1 y12o3.2.2.1 y12o3.2.2.2.1) fun y12o4 =>
                            K6 y12o1 y12o3 y12o4)) (Option.bind (laws_toItem aX1c0 aX1c1 aX1c2 aX1c3) fun y12o3 =>
                          Option.bind (impl_Catch y12o1.1 y12o1.2.1 y12o1.2.2.1 y12o1.2.2.2.1 y12o1.2.2.2.2.1 y12o1.2.2.2.2.2.1 y12o1.2.2.2.2.2.2.1 y12o1.2.2.2.2.2.2.2.1 y12o1.2.2.2.2.2.2.2.2.1 y12o1.2.2.2.2.2.2.2.2.2.1 y12o1.2.2.2.2.2.2.2.2.2.2.1 y12o1.2.2.2.2.2.2.2.2.2.2.2.1 y12o1.2.2.2.2.2.2.2.2.2.2.2.2.1 y12o1.2.2.2.2.2.2.2.2.2.2.2.2.2.1 y12o1.2.2.2.2.2.2.2.2.2.2.2.2.2.2.1 y12o1.2.2.2.2.2.2.2.2.2.2.2.2.2.2.2.1 y12o3.1 y12o3.2.1 y12o3.2.2.1 y12o3.2.2.2.1) fun y12o4 =>
                          K6 y12o1 y12o3 y12o4)) (Option.bind (laws_toMate aM0c0 aM0c1 aM0c2 aM0c3 aM0c4 aM0c5 aM0c6 aM0c7 aM0c8 aM0c9 aM0c10 aM0c11 aM0c12 aM0c13 aM0c14 aM0c15) fun y12o1 =>
                        Option.bind (laws_toItem aX1c0 aX1c1 aX1c2 aX1c3) fun y12o3 =>
                        Option.bind (impl_Catch y12o1.1 y12o1.2.1 y12o1.2.2.1 y12o1.2.2.2.1 y12o1.2.2.2.2.1 y12o1.2.2.2.2.2.1 y12o1.2.2.2.2.2.2.1 y12o1.2.2.2.2.2.2.2.1 y12o1.2.2.2.2.2.2.2.2.1 y12o1.2.2.2.2.2.2.2.2.2.1 y12o1.2.2.2.2.2.2.2.2.2.2.1 y12o1.2.2.2.2.2.2.2.2.2.2.2.1 y12o1.2.2.2.2.2.2.2.2.2.2.2.2.1 y12o1.2.2.2.2.2.2.2.2.2.2.2.2.2.1 y12o1.2.2.2.2.2.2.2.2.2.2.2.2.2.2.1 y12o1.2.2.2.2.2.2.2.2.2.2.2.2.2.2.2.1 y12o3.1 y12o3.2.1 y12o3.2.2.1 y12o3.2.2.2.1) fun y12o4 =>
                        K6 y12o1 y12o3 y12o4)) (fun y12o1 y12o3 y12o4 =>
                    Option.bind (laws_eqMate y12o4.1 y12o4.2.1 y12o4.2.2.1 y12o4.2.2.2.1 y12o4.2.2.2.2.1 y12o4.2.2.2.2.2.1 y12o4.2.2.2.2.2.2.1 y12o4.2.2.2.2.2.2.2.1 y12o4.2.2.2.2.2.2.2.2.1 y12o4.2.2.2.2.2.2.2.2.2.1 y12o4.2.2.2.2.2.2.2.2.2.2.1 y12o4.2.2.2.2.2.2.2.2.2.2.2.1 y12o4.2.2.2.2.2.2.2.2.2.2.2.2.1 y12o4.2.2.2.2.2.2.2.2.2.2.2.2.2.1 y12o4.2.2.2.2.2.2.2.2.2.2.2.2.2.2.1 y12o4.2.2.2.2.2.2.2.2.2.2.2.2.2.2.2.1 y2o4.1 y2o4.2.1 y2o4.2.2.1 y2o4.2.2.2.1 y2o4.2.2.2.2.1 y2o4.2.2.2.2.2.1 y2o4.2.2.2.2.2.2.1 y2o4.2.2.2.2.2.2.2.1 y2o4.2.2.2.2.2.2.2.2.1 y2o4.2.2.2.2.2.2.2.2.2.1 y2o4.2.2.2.2.2.2.2.2.2.2.1 y2o4.2.2.2.2.2.2.2.2.2.2.2.1 y2o4.2.2.2.2.2.2.2.2.2.2.2.2.1 y2o4.2.2.2.2.2.2.2.2.2.2.2.2.2.1 y2o4.2.2.2.2.2.2.2.2.2.2.2.2.2.2.1 y2o4.2.2.2.2.2.2.2.2.2.2.2.2.2.2.2.1) fun y14 =>
                      bif !y14.1 then
                        some (false, ())
                      else
                        Option.bind (laws_heldMate y4o3.1 y4o3.2.1 y11.2.1 y11.2.2.1 y11.2.2.2.1 y11.2.2.2.2.1 y4o3.2.2.2.2.2.2.1 y4o3.2.2.2.2.2.2.2.1 y4o3.2.2.2.2.2.2.2.2.1 y4o3.2.2.2.2.2.2.2.2.2.1 y4o3.2.2.2.2.2.2.2.2.2.2.1 y4o3.2.2.2.2.2.2.2.2.2.2.2.1 y4o3.2.2.2.2.2.2.2.2.2.2.2.2.1 y4o3.2.2.2.2.2.2.2.2.2.2.2.2.2.1 y4o3.2.2.2.2.2.2.2.2.2.2.2.2.2.2.1 y11.2.2.2.2.2.1 (1 : Int)) fun y15 =>
                        bif decide (y15.1 < (0 : Int)) then
                          some (false, ())
                        else bif !decide (y15.1 = y11.1) then
                          some (false, ())
                        else
                          some (true, ()))))
theorem laws_FnExactCatch_o_eq (aM0c0 : Int) (aM0c1 : Int) (aM0c2 : List (Int × Unit)) (aM0c3 : List R_iiis) (aM0c4 : List (Int × Unit)) (aM0c5 : List (ByteArray × Unit)) (aM0c6 : Int) (aM0c7 : Int) (aM0c8 : Int) (aM0c9 : Int) (aM0c10 : Int) (aM0c11 : Int) (aM0c12 : Int) (aM0c13 : Int) (aM0c14 : Int) (aM0c15 : List (Int × Unit)) (aX1c0 : Int) (aX1c1 : Int) (aX1c2 : Int) (aX1c3 : ByteArray) : laws_FnExactCatch_o aM0c0 aM0c1 aM0c2 aM0c3 aM0c4 aM0c5 aM0c6 aM0c7 aM0c8 aM0c9 aM0c10 aM0c11 aM0c12 aM0c13 aM0c14 aM0c15 aX1c0 aX1c1 aX1c2 aX1c3 = laws_FnExactCatch aM0c0 aM0c1 aM0c2 aM0c3 aM0c4 aM0c5 aM0c6 aM0c7 aM0c8 aM0c9 aM0c10 aM0c11 aM0c12 aM0c13 aM0c14 aM0c15 aX1c0 aX1c1 aX1c2 aX1c3 := by
  simp only [laws_FnExactCatch_o, laws_FnExactCatch, both_self]
noncomputable def x9 (x : Int × Int × (List (Int × Unit)) × (List R_iiis) × (List (Int × Unit)) × (List (ByteArray × Unit)) × Int × Int × Int × Int × Int × Int × Int × Int × Int × (List (Int × Unit)) × Int × Int × Int × ByteArray × Unit) : Option (Bool × Unit) := laws_FnExactCatch x.1 x.2.1 x.2.2.1 x.2.2.2.1 x.2.2.2.2.1 x.2.2.2.2.2.1 x.2.2.2.2.2.2.1 x.2.2.2.2.2.2.2.1 x.2.2.2.2.2.2.2.2.1 x.2.2.2.2.2.2.2.2.2.1 x.2.2.2.2.2.2.2.2.2.2.1 x.2.2.2.2.2.2.2.2.2.2.2.1 x.2.2.2.2.2.2.2.2.2.2.2.2.1 x.2.2.2.2.2.2.2.2.2.2.2.2.2.1 x.2.2.2.2.2.2.2.2.2.2.2.2.2.2.1 x.2.2.2.2.2.2.2.2.2.2.2.2.2.2.2.1 x.2.2.2.2.2.2.2.2.2.2.2.2.2.2.2.2.1 x.2.2.2.2.2.2.2.2.2.2.2.2.2.2.2.2.2.1 x.2.2.2.2.2.2.2.2.2.2.2.2.2.2.2.2.2.2.1 x.2.2.2.2.2.2.2.2.2.2.2.2.2.2.2.2.2.2.2.1
noncomputable def sem9 : Sem1 := semOf ps9 rs9 x9
theorem so9 : SemsOk Try.prog (semsOf sl9) := sems_cons k53 (sems_cons k54 (sems_cons k56 (sems_cons k57 (sems_cons k55 (sems_cons k58 (sems_cons k59 (sems_cons k60 (sems_cons k61 (sems_nil)))))))))
theorem t9_eq (x : denR (headRT (ps9.map some))) : codeK (tabOf tr) (semsOf sl9) D9 L9 code9 (start 82 ps9 x) (finK rs9 ps9) = x9 x := (show _ = laws_FnExactCatch_o x.1 x.2.1 x.2.2.1 x.2.2.2.1 x.2.2.2.2.1 x.2.2.2.2.2.1 x.2.2.2.2.2.2.1 x.2.2.2.2.2.2.2.1 x.2.2.2.2.2.2.2.2.1 x.2.2.2.2.2.2.2.2.2.1 x.2.2.2.2.2.2.2.2.2.2.1 x.2.2.2.2.2.2.2.2.2.2.2.1 x.2.2.2.2.2.2.2.2.2.2.2.2.1 x.2.2.2.2.2.2.2.2.2.2.2.2.2.1 x.2.2.2.2.2.2.2.2.2.2.2.2.2.2.1 x.2.2.2.2.2.2.2.2.2.2.2.2.2.2.2.1 x.2.2.2.2.2.2.2.2.2.2.2.2.2.2.2.2.1 x.2.2.2.2.2.2.2.2.2.2.2.2.2.2.2.2.2.1 x.2.2.2.2.2.2.2.2.2.2.2.2.2.2.2.2.2.2.1 x.2.2.2.2.2.2.2.2.2.2.2.2.2.2.2.2.2.2.2.1 from by kernel_rfl).trans (laws_FnExactCatch_o_eq x.1 x.2.1 x.2.2.1 x.2.2.2.1 x.2.2.2.2.1 x.2.2.2.2.2.1 x.2.2.2.2.2.2.1 x.2.2.2.2.2.2.2.1 x.2.2.2.2.2.2.2.2.1 x.2.2.2.2.2.2.2.2.2.1 x.2.2.2.2.2.2.2.2.2.2.1 x.2.2.2.2.2.2.2.2.2.2.2.1 x.2.2.2.2.2.2.2.2.2.2.2.2.1 x.2.2.2.2.2.2.2.2.2.2.2.2.2.1 x.2.2.2.2.2.2.2.2.2.2.2.2.2.2.1 x.2.2.2.2.2.2.2.2.2.2.2.2.2.2.2.1 x.2.2.2.2.2.2.2.2.2.2.2.2.2.2.2.2.1 x.2.2.2.2.2.2.2.2.2.2.2.2.2.2.2.2.2.1 x.2.2.2.2.2.2.2.2.2.2.2.2.2.2.2.2.2.2.1 x.2.2.2.2.2.2.2.2.2.2.2.2.2.2.2.2.2.2.2.1)
theorem k9 : Known Try.prog 9 sem9 :=
  fn_auto tr_ok eq_ok mixed_ok so9 (D := D9) (code := code9) (n := 82) Try.func9 (by kernel_rfl) (by kernel_rfl) (by kernel_rfl) (fun w0 mu _ hs => (loops_of (l := []) (by kernel_rfl) (List.forall_mem_nil _))) t9_eq

end Go.TM
