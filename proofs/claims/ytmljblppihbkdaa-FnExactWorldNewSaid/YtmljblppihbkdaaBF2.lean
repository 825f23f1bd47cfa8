/- What the functions answer, as terms; their contracts. -/
import Derived.Test.YtmljblppihbkdaaBF1
set_option linter.unusedSimpArgs false
set_option linter.unusedVariables false
namespace Go.TM
open Go Go.RowKit Go.Proofs

/-! ### f94: laws.heldRingS -/
noncomputable def code94 : Code := match Try.f94.body with | some c => c | none => .skip
def ps94 : List AP := [.val false [.shr T_iLiE], .val false [.int .i64]]
def rs94 : List RP := [{ src := .tmp 4, agg := false, ps := [.int .i64] }]
noncomputable def sl94 : SemL := [(130, (.shr, .shr, .shr, sem130))]
def D94 : Draws := fun _ => .nil
def hp94_0 : List (Option AP) := [some (.val false [.shr T_iLiE]), some (.val false [.int .i64]), none, none, none, some (.val false [.int .i64]), none, none, none, none, none, none, none, none, none, none, none, none, none, none, none, none, none, none, none, none, none, none, none, none, none, none]
def e94_0 : List (Option AP) := [none, some (.val false [.int .i64]), none, none, none, none, none, none, none, none, none, none, none, none, none, none, none, none, none, none, none, none, none, none, none, none, none, none, none, none, none, none]
def q94_0 : List (Option AP) := [none, none, none, none, some (.val false [.int .i64]), none, none, none, none, none, none, none, none, none, none, none, none, none, none, none, none, none, none, none, none, none, none, none, none, none, none, none]
abbrev H94_0 : Type := (List R_iLiE) × Int × Int × Unit
abbrev E94_0 : Type := Int × Unit
abbrev Q94_0 : Type := Int × Unit
noncomputable def laws_heldRingS_c0 (a0 : List R_iLiE) (k1 : Int) (i5 : Int) : Option (Sum H94_0 (Sum E94_0 Q94_0)) :=
  bif decide (i5 < ((List.length a0 : Nat) : Int)) then
    bif decide ((0 : Int) ≤ i5) then Option.bind ((a0)[Int.toNat i5]?) fun r1 =>
      bif !decide (r1.1 = k1) then
        some (.inr (.inr ((-1 : Int), ())))
      else bif decide ((0 : Int) ≤ i5) then Option.bind ((a0)[Int.toNat i5]?) fun r2 =>
        Option.bind (laws_heldIntS r2.2.1 (IntKind.i64.wrap (k1 + (1 : Int)))) fun y3 =>
        bif decide (y3.1 < (0 : Int)) then
          some (.inr (.inr ((-1 : Int), ())))
        else
          some (.inl (a0, y3.1, IntKind.i64.wrap (i5 + (1 : Int)), ()))
      else none
    else none
  else
    some (.inr (.inl (k1, ())))
noncomputable def laws_heldRingS_r0 (x : H94_0) : Option (Sum H94_0 (Sum E94_0 Q94_0)) := laws_heldRingS_c0 x.1 x.2.1 x.2.2.1
noncomputable def L94 {R : Type} : Loops R := fun id _ st k => bif Nat.beq id 0 then loopAt hp94_0 e94_0 q94_0 laws_heldRingS_r0 st k else none
noncomputable def laws_heldRingS (a0 : List R_iLiE) (k1 : Int) : Option (Int × Unit) :=
  outK (loopV laws_heldRingS_r0 (a0, k1, (0 : Int), ())) (fun y1 =>
    some (y1.1, ())) (fun y2 =>
    some (y2.1, ()))
noncomputable def x94 (x : (List R_iLiE) × Int × Unit) : Option (Int × Unit) := laws_heldRingS x.1 x.2.1
noncomputable def sem94 : Sem1 := semOf ps94 rs94 x94
theorem so94 : SemsOk Try.prog (semsOf sl94) := sems_cons k130 (sems_nil)
noncomputable def b94_0 : Code := nthLoop code94 0
theorem t94_r0_eq (x : denR (headRT hp94_0)) : codeK (tabOf tr) (semsOf sl94) D94 L94 b94_0 (headSt hp94_0 x) (roundK 0 hp94_0 e94_0 q94_0) = laws_heldRingS_r0 x := by kernel_rfl
theorem loop94_0 {R : Type} (r : R) (w0 : World) (mu : Mu) (hs : AnShape ps94 mu) : LoopAt Try.prog w0 mu 31 (L94 : Loops R) r 0 b94_0 :=
  loop_auto tr_ok eq_ok mixed_ok so94 (D := D94) hs (by kernel_rfl) (fun _ => (loops_of (l := []) (by kernel_rfl) (List.forall_mem_nil _))) t94_r0_eq (fun _ _ => rfl)
theorem t94_eq (x : denR (headRT (ps94.map some))) : codeK (tabOf tr) (semsOf sl94) D94 L94 code94 (start 31 ps94 x) (finK rs94 ps94) = x94 x := by kernel_rfl
theorem k94 : Known Try.prog 94 sem94 :=
  fn_auto tr_ok eq_ok mixed_ok so94 (D := D94) (code := code94) (n := 31) Try.func94 (by kernel_rfl) (by kernel_rfl) (by kernel_rfl) (fun w0 mu _ hs => (loops_of (l := [(0, b94_0)]) (by kernel_rfl) (List.forall_mem_cons.2 ⟨loop94_0 _ w0 mu hs, (List.forall_mem_nil _)⟩))) t94_eq

/-! ### f36: laws.heldItemS -/
noncomputable def code36 : Code := match Try.f36.body with | some c => c | none => .skip
def ps36 : List AP := [.val false [.shr T_iiis], .val false [.int .i64]]
def rs36 : List RP := [{ src := .tmp 4, agg := false, ps := [.int .i64] }]
noncomputable def sl36 : SemL := [(107, (.shr, .shr, .shr, sem107))]
def D36 : Draws := fun id => bif Nat.beq id 13 then .op 0 .any (.op 1 .any (.op 2 .any (.op 3 .any (.op 4 .take (.op 5 .any (.op 6 .one (.op 7 .any (.nil)))))))) else .nil
def hp36_0 : List (Option AP) := [some (.val false [.shr T_iiis]), some (.val false [.int .i64]), none, none, none, some (.val false [.int .i64]), none, none, none, none, none, none, none, none, none, none, none, none, none, none, none, none, none, none, none, none, none, none, none, none, none, none, none, none, none, none, none, none, none, none, none, none, none, none, none, none, none, none, none, none, none]
def e36_0 : List (Option AP) := [none, some (.val false [.int .i64]), none, none, none, none, none, none, none, none, none, none, none, none, none, none, none, none, none, none, none, none, none, none, none, none, none, none, none, none, none, none, none, none, none, none, none, none, none, none, none, none, none, none, none, none, none, none, none, none, none]
def q36_0 : List (Option AP) := [none, none, none, none, some (.val false [.int .i64]), none, none, none, none, none, none, none, none, none, none, none, none, none, none, none, none, none, none, none, none, none, none, none, none, none, none, none, none, none, none, none, none, none, none, none, none, none, none, none, none, none, none, none, none, none, none]
abbrev H36_0 : Type := (List R_iiis) × Int × Int × Unit
abbrev E36_0 : Type := Int × Unit
abbrev Q36_0 : Type := Int × Unit
noncomputable def laws_heldItemS_c0 (a0 : List R_iiis) (k1 : Int) (i5 : Int) : Option (Sum H36_0 (Sum E36_0 Q36_0)) :=
  bif decide (i5 < ((List.length a0 : Nat) : Int)) then
    bif decide ((0 : Int) ≤ i5) then Option.bind ((a0)[Int.toNat i5]?) fun r1 =>
      bif !decide (r1.1 = k1) then
        some (.inr (.inr ((-1 : Int), ())))
      else bif decide ((0 : Int) ≤ i5) then Option.bind ((a0)[Int.toNat i5]?) fun r2 =>
        bif !decide (r2.2.1 = IntKind.i64.wrap (k1 + (1 : Int))) then
          some (.inr (.inr ((-1 : Int), ())))
        else bif decide ((0 : Int) ≤ i5) then Option.bind ((a0)[Int.toNat i5]?) fun r3 =>
          bif !decide (r3.2.2.1 = IntKind.i64.wrap ((IntKind.i64.wrap (k1 + (1 : Int))) + (1 : Int))) then
            some (.inr (.inr ((-1 : Int), ())))
          else bif decide ((0 : Int) ≤ i5) then Option.bind ((a0)[Int.toNat i5]?) fun r4 =>
            Option.bind (laws_markText (IntKind.i64.wrap ((IntKind.i64.wrap ((IntKind.i64.wrap (k1 + (1 : Int))) + (1 : Int))) + (1 : Int)))) fun y5 =>
            bif !strEq r4.2.2.2.1 y5.1 then
              some (.inr (.inr ((-1 : Int), ())))
            else
              some (.inl (a0, IntKind.i64.wrap ((IntKind.i64.wrap ((IntKind.i64.wrap ((IntKind.i64.wrap (k1 + (1 : Int))) + (1 : Int))) + (1 : Int))) + (1 : Int)), IntKind.i64.wrap (i5 + (1 : Int)), ()))
          else none
        else none
      else none
    else none
  else
    some (.inr (.inl (k1, ())))
noncomputable def laws_heldItemS_r0 (x : H36_0) : Option (Sum H36_0 (Sum E36_0 Q36_0)) := laws_heldItemS_c0 x.1 x.2.1 x.2.2.1
noncomputable def L36 {R : Type} : Loops R := fun id _ st k => bif Nat.beq id 0 then loopAt hp36_0 e36_0 q36_0 laws_heldItemS_r0 st k else none
noncomputable def laws_heldItemS (a0 : List R_iiis) (k1 : Int) : Option (Int × Unit) :=
  outK (loopV laws_heldItemS_r0 (a0, k1, (0 : Int), ())) (fun y1 =>
    some (y1.1, ())) (fun y2 =>
    some (y2.1, ()))
noncomputable def x36 (x : (List R_iiis) × Int × Unit) : Option (Int × Unit) := laws_heldItemS x.1 x.2.1
noncomputable def sem36 : Sem1 := semOf ps36 rs36 x36
theorem so36 : SemsOk Try.prog (semsOf sl36) := sems_cons k107 (sems_nil)
noncomputable def b36_0 : Code := nthLoop code36 0
theorem t36_r0_eq (x : denR (headRT hp36_0)) : codeK (tabOf tr) (semsOf sl36) D36 L36 b36_0 (headSt hp36_0 x) (roundK 0 hp36_0 e36_0 q36_0) = laws_heldItemS_r0 x := by kernel_rfl
theorem loop36_0 {R : Type} (r : R) (w0 : World) (mu : Mu) (hs : AnShape ps36 mu) : LoopAt Try.prog w0 mu 50 (L36 : Loops R) r 0 b36_0 :=
  loop_auto tr_ok eq_ok mixed_ok so36 (D := D36) hs (by kernel_rfl) (fun _ => (loops_of (l := []) (by kernel_rfl) (List.forall_mem_nil _))) t36_r0_eq (fun _ _ => rfl)
theorem t36_eq (x : denR (headRT (ps36.map some))) : codeK (tabOf tr) (semsOf sl36) D36 L36 code36 (start 50 ps36 x) (finK rs36 ps36) = x36 x := by kernel_rfl
theorem k36 : Known Try.prog 36 sem36 :=
  fn_auto tr_ok eq_ok mixed_ok so36 (D := D36) (code := code36) (n := 50) Try.func36 (by kernel_rfl) (by kernel_rfl) (by kernel_rfl) (fun w0 mu _ hs => (loops_of (l := [(0, b36_0)]) (by kernel_rfl) (List.forall_mem_cons.2 ⟨loop36_0 _ w0 mu hs, (List.forall_mem_nil _)⟩))) t36_eq

/-! ### f143: laws.heldStringS -/
noncomputable def code143 : Code := match Try.f143.body with | some c => c | none => .skip
def ps143 : List AP := [.val false [.shr T_s], .val false [.int .i64]]
def rs143 : List RP := [{ src := .tmp 4, agg := false, ps := [.int .i64] }]
noncomputable def sl143 : SemL := [(107, (.shr, .shr, .shr, sem107))]
def D143 : Draws := fun id => bif Nat.beq id 4 then .op 0 .any (.op 1 .any (.op 2 .any (.op 3 .take (.op 4 .any (.op 5 .one (.op 6 .any (.nil))))))) else .nil
def hp143_0 : List (Option AP) := [some (.val false [.shr T_s]), some (.val false [.int .i64]), none, none, none, some (.val false [.int .i64]), none, none, none, none, none, none, none, none, none, none, none, none, none, none, none, none, none]
def e143_0 : List (Option AP) := [none, some (.val false [.int .i64]), none, none, none, none, none, none, none, none, none, none, none, none, none, none, none, none, none, none, none, none, none]
def q143_0 : List (Option AP) := [none, none, none, none, some (.val false [.int .i64]), none, none, none, none, none, none, none, none, none, none, none, none, none, none, none, none, none, none]
abbrev H143_0 : Type := (List (ByteArray × Unit)) × Int × Int × Unit
abbrev E143_0 : Type := Int × Unit
abbrev Q143_0 : Type := Int × Unit
noncomputable def laws_heldStringS_c0 (a0 : List (ByteArray × Unit)) (k1 : Int) (i5 : Int) : Option (Sum H143_0 (Sum E143_0 Q143_0)) :=
  bif decide (i5 < ((List.length a0 : Nat) : Int)) then
    bif decide ((0 : Int) ≤ i5) then Option.bind ((a0)[Int.toNat i5]?) fun r1 =>
      Option.bind (laws_markText k1) fun y2 =>
      bif !strEq r1.1 y2.1 then
        some (.inr (.inr ((-1 : Int), ())))
      else
        some (.inl (a0, IntKind.i64.wrap (k1 + (1 : Int)), IntKind.i64.wrap (i5 + (1 : Int)), ()))
    else none
  else
    some (.inr (.inl (k1, ())))
noncomputable def laws_heldStringS_r0 (x : H143_0) : Option (Sum H143_0 (Sum E143_0 Q143_0)) := laws_heldStringS_c0 x.1 x.2.1 x.2.2.1
noncomputable def L143 {R : Type} : Loops R := fun id _ st k => bif Nat.beq id 0 then loopAt hp143_0 e143_0 q143_0 laws_heldStringS_r0 st k else none
noncomputable def laws_heldStringS (a0 : List (ByteArray × Unit)) (k1 : Int) : Option (Int × Unit) :=
  outK (loopV laws_heldStringS_r0 (a0, k1, (0 : Int), ())) (fun y1 =>
    some (y1.1, ())) (fun y2 =>
    some (y2.1, ()))
noncomputable def x143 (x : (List (ByteArray × Unit)) × Int × Unit) : Option (Int × Unit) := laws_heldStringS x.1 x.2.1
noncomputable def sem143 : Sem1 := semOf ps143 rs143 x143
theorem so143 : SemsOk Try.prog (semsOf sl143) := sems_cons k107 (sems_nil)
noncomputable def b143_0 : Code := nthLoop code143 0
theorem t143_r0_eq (x : denR (headRT hp143_0)) : codeK (tabOf tr) (semsOf sl143) D143 L143 b143_0 (headSt hp143_0 x) (roundK 0 hp143_0 e143_0 q143_0) = laws_heldStringS_r0 x := by kernel_rfl
theorem loop143_0 {R : Type} (r : R) (w0 : World) (mu : Mu) (hs : AnShape ps143 mu) : LoopAt Try.prog w0 mu 22 (L143 : Loops R) r 0 b143_0 :=
  loop_auto tr_ok eq_ok mixed_ok so143 (D := D143) hs (by kernel_rfl) (fun _ => (loops_of (l := []) (by kernel_rfl) (List.forall_mem_nil _))) t143_r0_eq (fun _ _ => rfl)
theorem t143_eq (x : denR (headRT (ps143.map some))) : codeK (tabOf tr) (semsOf sl143) D143 L143 code143 (start 22 ps143 x) (finK rs143 ps143) = x143 x := by kernel_rfl
theorem k143 : Known Try.prog 143 sem143 :=
  fn_auto tr_ok eq_ok mixed_ok so143 (D := D143) (code := code143) (n := 22) Try.func143 (by kernel_rfl) (by kernel_rfl) (by kernel_rfl) (fun w0 mu _ hs => (loops_of (l := [(0, b143_0)]) (by kernel_rfl) (List.forall_mem_cons.2 ⟨loop143_0 _ w0 mu hs, (List.forall_mem_nil _)⟩))) t143_eq

/-! ### f154: laws.heldBundleS -/
noncomputable def code154 : Code := match Try.f154.body with | some c => c | none => .skip
def ps154 : List AP := [.val false [.shr T_iiiLiiisE], .val false [.int .i64]]
def rs154 : List RP := [{ src := .tmp 4, agg := false, ps := [.int .i64] }]
noncomputable def sl154 : SemL := [(36, (.shr, .shr, .shr, sem36))]
def D154 : Draws := fun _ => .nil
def hp154_0 : List (Option AP) := [some (.val false [.shr T_iiiLiiisE]), some (.val false [.int .i64]), none, none, none, some (.val false [.int .i64]), none, none, none, none, none, none, none, none, none, none, none, none, none, none, none, none, none, none, none, none, none, none, none, none, none, none, none, none, none, none, none, none, none, none, none, none, none, none, none, none, none, none, none, none]
def e154_0 : List (Option AP) := [none, some (.val false [.int .i64]), none, none, none, none, none, none, none, none, none, none, none, none, none, none, none, none, none, none, none, none, none, none, none, none, none, none, none, none, none, none, none, none, none, none, none, none, none, none, none, none, none, none, none, none, none, none, none, none]
def q154_0 : List (Option AP) := [none, none, none, none, some (.val false [.int .i64]), none, none, none, none, none, none, none, none, none, none, none, none, none, none, none, none, none, none, none, none, none, none, none, none, none, none, none, none, none, none, none, none, none, none, none, none, none, none, none, none, none, none, none, none, none]
abbrev H154_0 : Type := (List R_iiiLiiisE) × Int × Int × Unit
abbrev E154_0 : Type := Int × Unit
abbrev Q154_0 : Type := Int × Unit
noncomputable def laws_heldBundleS_c0 (a0 : List R_iiiLiiisE) (k1 : Int) (i5 : Int) : Option (Sum H154_0 (Sum E154_0 Q154_0)) :=
  bif decide (i5 < ((List.length a0 : Nat) : Int)) then
    bif decide ((0 : Int) ≤ i5) then Option.bind ((a0)[Int.toNat i5]?) fun r1 =>
      bif !decide (r1.1 = k1) then
        some (.inr (.inr ((-1 : Int), ())))
      else bif decide ((0 : Int) ≤ i5) then Option.bind ((a0)[Int.toNat i5]?) fun r2 =>
        bif !decide (r2.2.1 = IntKind.i64.wrap (k1 + (1 : Int))) then
          some (.inr (.inr ((-1 : Int), ())))
        else bif decide ((0 : Int) ≤ i5) then Option.bind ((a0)[Int.toNat i5]?) fun r3 =>
          bif !decide (r3.2.2.1 = IntKind.i64.wrap ((IntKind.i64.wrap (k1 + (1 : Int))) + (1 : Int))) then
            some (.inr (.inr ((-1 : Int), ())))
          else bif decide ((0 : Int) ≤ i5) then Option.bind ((a0)[Int.toNat i5]?) fun r4 =>
            Option.bind (laws_heldItemS r4.2.2.2.1 (IntKind.i64.wrap ((IntKind.i64.wrap ((IntKind.i64.wrap (k1 + (1 : Int))) + (1 : Int))) + (1 : Int)))) fun y5 =>
            bif decide (y5.1 < (0 : Int)) then
              some (.inr (.inr ((-1 : Int), ())))
            else
              some (.inl (a0, y5.1, IntKind.i64.wrap (i5 + (1 : Int)), ()))
          else none
        else none
      else none
    else none
  else
    some (.inr (.inl (k1, ())))
noncomputable def laws_heldBundleS_r0 (x : H154_0) : Option (Sum H154_0 (Sum E154_0 Q154_0)) := laws_heldBundleS_c0 x.1 x.2.1 x.2.2.1
noncomputable def L154 {R : Type} : Loops R := fun id _ st k => bif Nat.beq id 0 then loopAt hp154_0 e154_0 q154_0 laws_heldBundleS_r0 st k else none
noncomputable def laws_heldBundleS (a0 : List R_iiiLiiisE) (k1 : Int) : Option (Int × Unit) :=
  outK (loopV laws_heldBundleS_r0 (a0, k1, (0 : Int), ())) (fun y1 =>
    some (y1.1, ())) (fun y2 =>
    some (y2.1, ()))
noncomputable def x154 (x : (List R_iiiLiiisE) × Int × Unit) : Option (Int × Unit) := laws_heldBundleS x.1 x.2.1
noncomputable def sem154 : Sem1 := semOf ps154 rs154 x154
theorem so154 : SemsOk Try.prog (semsOf sl154) := sems_cons k36 (sems_nil)
noncomputable def b154_0 : Code := nthLoop code154 0
theorem t154_r0_eq (x : denR (headRT hp154_0)) : codeK (tabOf tr) (semsOf sl154) D154 L154 b154_0 (headSt hp154_0 x) (roundK 0 hp154_0 e154_0 q154_0) = laws_heldBundleS_r0 x := by kernel_rfl
theorem loop154_0 {R : Type} (r : R) (w0 : World) (mu : Mu) (hs : AnShape ps154 mu) : LoopAt Try.prog w0 mu 49 (L154 : Loops R) r 0 b154_0 :=
  loop_auto tr_ok eq_ok mixed_ok so154 (D := D154) hs (by kernel_rfl) (fun _ => (loops_of (l := []) (by kernel_rfl) (List.forall_mem_nil _))) t154_r0_eq (fun _ _ => rfl)
theorem t154_eq (x : denR (headRT (ps154.map some))) : codeK (tabOf tr) (semsOf sl154) D154 L154 code154 (start 49 ps154 x) (finK rs154 ps154) = x154 x := by kernel_rfl
theorem k154 : Known Try.prog 154 sem154 :=
  fn_auto tr_ok eq_ok mixed_ok so154 (D := D154) (code := code154) (n := 49) Try.func154 (by kernel_rfl) (by kernel_rfl) (by kernel_rfl) (fun w0 mu _ hs => (loops_of (l := [(0, b154_0)]) (by kernel_rfl) (List.forall_mem_cons.2 ⟨loop154_0 _ w0 mu hs, (List.forall_mem_nil _)⟩))) t154_eq

/-! ### f97: laws.heldEventS -/
noncomputable def code97 : Code := match Try.f97.body with | some c => c | none => .skip
def ps97 : List AP := [.val false [.shr T_iiLiEiiisLiE], .val false [.int .i64]]
def rs97 : List RP := [{ src := .tmp 4, agg := false, ps := [.int .i64] }]
noncomputable def sl97 : SemL := [(130, (.shr, .shr, .shr, sem130)), (107, (.shr, .shr, .shr, sem107))]
def D97 : Draws := fun id => bif Nat.beq id 22 then .op 0 .any (.op 1 .any (.op 2 .any (.op 3 .any (.op 4 .any (.op 5 .take (.op 6 .any (.op 7 .one (.op 8 .any (.nil))))))))) else .nil
def hp97_0 : List (Option AP) := [some (.val false [.shr T_iiLiEiiisLiE]), some (.val false [.int .i64]), none, none, none, some (.val false [.int .i64]), none, none, none, none, none, none, none, none, none, none, none, none, none, none, none, none, none, none, none, none, none, none, none, none, none, none, none, none, none, none, none, none, none, none, none, none, none, none, none, none, none, none, none, none, none, none, none, none, none, none, none, none, none, none, none, none, none, none, none, none, none, none, none, none, none, none, none, none, none, none, none, none, none, none, none, none, none, none, none, none, none, none, none, none, none, none, none]
def e97_0 : List (Option AP) := [none, some (.val false [.int .i64]), none, none, none, none, none, none, none, none, none, none, none, none, none, none, none, none, none, none, none, none, none, none, none, none, none, none, none, none, none, none, none, none, none, none, none, none, none, none, none, none, none, none, none, none, none, none, none, none, none, none, none, none, none, none, none, none, none, none, none, none, none, none, none, none, none, none, none, none, none, none, none, none, none, none, none, none, none, none, none, none, none, none, none, none, none, none, none, none, none, none, none]
def q97_0 : List (Option AP) := [none, none, none, none, some (.val false [.int .i64]), none, none, none, none, none, none, none, none, none, none, none, none, none, none, none, none, none, none, none, none, none, none, none, none, none, none, none, none, none, none, none, none, none, none, none, none, none, none, none, none, none, none, none, none, none, none, none, none, none, none, none, none, none, none, none, none, none, none, none, none, none, none, none, none, none, none, none, none, none, none, none, none, none, none, none, none, none, none, none, none, none, none, none, none, none, none, none, none]
abbrev H97_0 : Type := (List R_iiLiEiiisLiE) × Int × Int × Unit
abbrev E97_0 : Type := Int × Unit
abbrev Q97_0 : Type := Int × Unit
noncomputable def laws_heldEventS_c0 (a0 : List R_iiLiEiiisLiE) (k1 : Int) (i5 : Int) : Option (Sum H97_0 (Sum E97_0 Q97_0)) :=
  bif decide (i5 < ((List.length a0 : Nat) : Int)) then
    bif decide ((0 : Int) ≤ i5) then Option.bind ((a0)[Int.toNat i5]?) fun r1 =>
      bif !decide (r1.1 = k1) then
        some (.inr (.inr ((-1 : Int), ())))
      else bif decide ((0 : Int) ≤ i5) then Option.bind ((a0)[Int.toNat i5]?) fun r2 =>
        bif !decide (r2.2.1 = IntKind.i64.wrap (k1 + (1 : Int))) then
          some (.inr (.inr ((-1 : Int), ())))
        else bif decide ((0 : Int) ≤ i5) then Option.bind ((a0)[Int.toNat i5]?) fun r3 =>
          Option.bind (laws_heldIntS r3.2.2.1 (IntKind.i64.wrap ((IntKind.i64.wrap (k1 + (1 : Int))) + (1 : Int)))) fun y4 =>
          bif decide (y4.1 < (0 : Int)) then
            some (.inr (.inr ((-1 : Int), ())))
          else bif decide ((0 : Int) ≤ i5) then Option.bind ((a0)[Int.toNat i5]?) fun r5 =>
            bif !decide (r5.2.2.2.1 = y4.1) then
              some (.inr (.inr ((-1 : Int), ())))
            else bif decide ((0 : Int) ≤ i5) then Option.bind ((a0)[Int.toNat i5]?) fun r6 =>
              bif !decide (r6.2.2.2.2.1 = IntKind.i64.wrap (y4.1 + (1 : Int))) then
                some (.inr (.inr ((-1 : Int), ())))
              else bif decide ((0 : Int) ≤ i5) then Option.bind ((a0)[Int.toNat i5]?) fun r7 =>
                bif !decide (r7.2.2.2.2.2.1 = IntKind.i64.wrap ((IntKind.i64.wrap (y4.1 + (1 : Int))) + (1 : Int))) then
                  some (.inr (.inr ((-1 : Int), ())))
                else bif decide ((0 : Int) ≤ i5) then Option.bind ((a0)[Int.toNat i5]?) fun r8 =>
                  Option.bind (laws_markText (IntKind.i64.wrap ((IntKind.i64.wrap ((IntKind.i64.wrap (y4.1 + (1 : Int))) + (1 : Int))) + (1 : Int)))) fun y9 =>
                  bif !strEq r8.2.2.2.2.2.2.1 y9.1 then
                    some (.inr (.inr ((-1 : Int), ())))
                  else bif decide ((0 : Int) ≤ i5) then Option.bind ((a0)[Int.toNat i5]?) fun r10 =>
                    Option.bind (laws_heldIntS r10.2.2.2.2.2.2.2.1 (IntKind.i64.wrap ((IntKind.i64.wrap ((IntKind.i64.wrap ((IntKind.i64.wrap (y4.1 + (1 : Int))) + (1 : Int))) + (1 : Int))) + (1 : Int)))) fun y11 =>
                    bif decide (y11.1 < (0 : Int)) then
                      some (.inr (.inr ((-1 : Int), ())))
                    else
                      some (.inl (a0, y11.1, IntKind.i64.wrap (i5 + (1 : Int)), ()))
                  else none
                else none
              else none
            else none
          else none
        else none
      else none
    else none
  else
    some (.inr (.inl (k1, ())))
noncomputable def laws_heldEventS_r0 (x : H97_0) : Option (Sum H97_0 (Sum E97_0 Q97_0)) := laws_heldEventS_c0 x.1 x.2.1 x.2.2.1
noncomputable def L97 {R : Type} : Loops R := fun id _ st k => bif Nat.beq id 0 then loopAt hp97_0 e97_0 q97_0 laws_heldEventS_r0 st k else none
noncomputable def laws_heldEventS (a0 : List R_iiLiEiiisLiE) (k1 : Int) : Option (Int × Unit) :=
  outK (loopV laws_heldEventS_r0 (a0, k1, (0 : Int), ())) (fun y1 =>
    some (y1.1, ())) (fun y2 =>
    some (y2.1, ()))
noncomputable def x97 (x : (List R_iiLiEiiisLiE) × Int × Unit) : Option (Int × Unit) := laws_heldEventS x.1 x.2.1
noncomputable def sem97 : Sem1 := semOf ps97 rs97 x97
theorem so97 : SemsOk Try.prog (semsOf sl97) := sems_cons k130 (sems_cons k107 (sems_nil))
noncomputable def b97_0 : Code := nthLoop code97 0
theorem t97_r0_eq (x : denR (headRT hp97_0)) : codeK (tabOf tr) (semsOf sl97) D97 L97 b97_0 (headSt hp97_0 x) (roundK 0 hp97_0 e97_0 q97_0) = laws_heldEventS_r0 x := by kernel_rfl
theorem loop97_0 {R : Type} (r : R) (w0 : World) (mu : Mu) (hs : AnShape ps97 mu) : LoopAt Try.prog w0 mu 92 (L97 : Loops R) r 0 b97_0 :=
  loop_auto tr_ok eq_ok mixed_ok so97 (D := D97) hs (by kernel_rfl) (fun _ => (loops_of (l := []) (by kernel_rfl) (List.forall_mem_nil _))) t97_r0_eq (fun _ _ => rfl)
theorem t97_eq (x : denR (headRT (ps97.map some))) : codeK (tabOf tr) (semsOf sl97) D97 L97 code97 (start 92 ps97 x) (finK rs97 ps97) = x97 x := by kernel_rfl
theorem k97 : Known Try.prog 97 sem97 :=
  fn_auto tr_ok eq_ok mixed_ok so97 (D := D97) (code := code97) (n := 92) Try.func97 (by kernel_rfl) (by kernel_rfl) (by kernel_rfl) (fun w0 mu _ hs => (loops_of (l := [(0, b97_0)]) (by kernel_rfl) (List.forall_mem_cons.2 ⟨loop97_0 _ w0 mu hs, (List.forall_mem_nil _)⟩))) t97_eq

/-! ### f95: laws.heldDaemonS -/
noncomputable def code95 : Code := match Try.f95.body with | some c => c | none => .skip
def ps95 : List AP := [.val false [.shr T_ibiiLiELiiisELiELsEiiiiiiiiiLiEiiiLiELiiiLiiisEELiiLiEiiisLiEE], .val false [.int .i64]]
def rs95 : List RP := [{ src := .tmp 4, agg := false, ps := [.int .i64] }]
noncomputable def sl95 : SemL := [(130, (.shr, .shr, .shr, sem130)), (36, (.shr, .shr, .shr, sem36)), (143, (.shr, .shr, .shr, sem143)), (154, (.shr, .shr, .shr, sem154)), (97, (.shr, .shr, .shr, sem97))]
def D95 : Draws := fun _ => .nil
def hp95_0 : List (Option AP) := [some (.val false [.shr T_ibiiLiELiiisELiELsEiiiiiiiiiLiEiiiLiELiiiLiiisEELiiLiEiiisLiEE]), some (.val false [.int .i64]), none, none, none, some (.val false [.int .i64]), none, none, none, none, none, none, none, none, none, none, none, none, none, none, none, none, none, none, none, none, none, none, none, none, none, none, none, none, none, none, none, none, none, none, none, none, none, none, none, none, none, none, none, none, none, none, none, none, none, none, none, none, none, none, none, none, none, none, none, none, none, none, none, none, none, none, none, none, none, none, none, none, none, none, none, none, none, none, none, none, none, none, none, none, none, none, none, none, none, none, none, none, none, none, none, none, none, none, none, none, none, none, none, none, none, none, none, none, none, none, none, none, none, none, none, none, none, none, none, none, none, none, none, none, none, none, none, none, none, none, none, none, none, none, none, none, none, none, none, none, none, none, none, none, none, none, none, none, none, none, none, none, none, none, none, none, none, none, none, none, none, none, none, none, none, none, none, none, none, none, none, none, none, none, none, none, none, none, none, none, none, none, none, none, none, none, none, none, none, none, none, none, none, none, none, none, none, none, none, none, none, none, none, none, none, none, none, none, none, none, none, none, none, none, none, none, none, none, none, none, none, none, none, none, none, none, none, none, none, none, none, none, none, none, none, none, none, none, none, none, none, none, none, none, none, none, none, none, none, none, none, none]
def e95_0 : List (Option AP) := [none, some (.val false [.int .i64]), none, none, none, none, none, none, none, none, none, none, none, none, none, none, none, none, none, none, none, none, none, none, none, none, none, none, none, none, none, none, none, none, none, none, none, none, none, none, none, none, none, none, none, none, none, none, none, none, none, none, none, none, none, none, none, none, none, none, none, none, none, none, none, none, none, none, none, none, none, none, none, none, none, none, none, none, none, none, none, none, none, none, none, none, none, none, none, none, none, none, none, none, none, none, none, none, none, none, none, none, none, none, none, none, none, none, none, none, none, none, none, none, none, none, none, none, none, none, none, none, none, none, none, none, none, none, none, none, none, none, none, none, none, none, none, none, none, none, none, none, none, none, none, none, none, none, none, none, none, none, none, none, none, none, none, none, none, none, none, none, none, none, none, none, none, none, none, none, none, none, none, none, none, none, none, none, none, none, none, none, none, none, none, none, none, none, none, none, none, none, none, none, none, none, none, none, none, none, none, none, none, none, none, none, none, none, none, none, none, none, none, none, none, none, none, none, none, none, none, none, none, none, none, none, none, none, none, none, none, none, none, none, none, none, none, none, none, none, none, none, none, none, none, none, none, none, none, none, none, none, none, none, none, none, none, none]
def q95_0 : List (Option AP) := [none, none, none, none, some (.val false [.int .i64]), none, none, none, none, none, none, none, none, none, none, none, none, none, none, none, none, none, none, none, none, none, none, none, none, none, none, none, none, none, none, none, none, none, none, none, none, none, none, none, none, none, none, none, none, none, none, none, none, none, none, none, none, none, none, none, none, none, none, none, none, none, none, none, none, none, none, none, none, none, none, none, none, none, none, none, none, none, none, none, none, none, none, none, none, none, none, none, none, none, none, none, none, none, none, none, none, none, none, none, none, none, none, none, none, none, none, none, none, none, none, none, none, none, none, none, none, none, none, none, none, none, none, none, none, none, none, none, none, none, none, none, none, none, none, none, none, none, none, none, none, none, none, none, none, none, none, none, none, none, none, none, none, none, none, none, none, none, none, none, none, none, none, none, none, none, none, none, none, none, none, none, none, none, none, none, none, none, none, none, none, none, none, none, none, none, none, none, none, none, none, none, none, none, none, none, none, none, none, none, none, none, none, none, none, none, none, none, none, none, none, none, none, none, none, none, none, none, none, none, none, none, none, none, none, none, none, none, none, none, none, none, none, none, none, none, none, none, none, none, none, none, none, none, none, none, none, none, none, none, none, none, none, none]
abbrev H95_0 : Type := (List R_ibiiLiELiiisELiELsEiiiiiiiiiLiEiiiLiELiiiLiiisEELiiLiEiiisLiEE) × Int × Int × Unit
abbrev E95_0 : Type := Int × Unit
abbrev Q95_0 : Type := Int × Unit
noncomputable def laws_heldDaemonS_c0 (a0 : List R_ibiiLiELiiisELiELsEiiiiiiiiiLiEiiiLiELiiiLiiisEELiiLiEiiisLiEE) (k1 : Int) (i5 : Int) : Option (Sum H95_0 (Sum E95_0 Q95_0)) :=
  bif decide (i5 < ((List.length a0 : Nat) : Int)) then
    bif decide ((0 : Int) ≤ i5) then Option.bind ((a0)[Int.toNat i5]?) fun r1 =>
      bif !decide (r1.1 = k1) then
        some (.inr (.inr ((-1 : Int), ())))
      else bif decide ((0 : Int) ≤ i5) then Option.bind ((a0)[Int.toNat i5]?) fun r2 =>
        bif !(r2.2.1 == (decide (Int.tmod (IntKind.i64.wrap (k1 + (1 : Int))) (3 : Int) = (0 : Int)))) then
          some (.inr (.inr ((-1 : Int), ())))
        else bif decide ((0 : Int) ≤ i5) then Option.bind ((a0)[Int.toNat i5]?) fun r3 =>
          bif !decide (r3.2.2.1 = IntKind.i64.wrap ((IntKind.i64.wrap (k1 + (1 : Int))) + (1 : Int))) then
            some (.inr (.inr ((-1 : Int), ())))
          else bif decide ((0 : Int) ≤ i5) then Option.bind ((a0)[Int.toNat i5]?) fun r4 =>
            bif !decide (r4.2.2.2.1 = IntKind.i64.wrap ((IntKind.i64.wrap ((IntKind.i64.wrap (k1 + (1 : Int))) + (1 : Int))) + (1 : Int))) then
              some (.inr (.inr ((-1 : Int), ())))
            else bif decide ((0 : Int) ≤ i5) then Option.bind ((a0)[Int.toNat i5]?) fun r5 =>
              Option.bind (laws_heldIntS r5.2.2.2.2.1 (IntKind.i64.wrap ((IntKind.i64.wrap ((IntKind.i64.wrap ((IntKind.i64.wrap (k1 + (1 : Int))) + (1 : Int))) + (1 : Int))) + (1 : Int)))) fun y6 =>
              bif decide (y6.1 < (0 : Int)) then
                some (.inr (.inr ((-1 : Int), ())))
              else bif decide ((0 : Int) ≤ i5) then Option.bind ((a0)[Int.toNat i5]?) fun r7 =>
                Option.bind (laws_heldItemS r7.2.2.2.2.2.1 y6.1) fun y8 =>
                bif decide (y8.1 < (0 : Int)) then
                  some (.inr (.inr ((-1 : Int), ())))
                else bif decide ((0 : Int) ≤ i5) then Option.bind ((a0)[Int.toNat i5]?) fun r9 =>
                  Option.bind (laws_heldIntS r9.2.2.2.2.2.2.1 y8.1) fun y10 =>
                  bif decide (y10.1 < (0 : Int)) then
                    some (.inr (.inr ((-1 : Int), ())))
                  else bif decide ((0 : Int) ≤ i5) then Option.bind ((a0)[Int.toNat i5]?) fun r11 =>
                    Option.bind (laws_heldStringS r11.2.2.2.2.2.2.2.1 y10.1) fun y12 =>
                    bif decide (y12.1 < (0 : Int)) then
                      some (.inr (.inr ((-1 : Int), ())))
                    else bif decide ((0 : Int) ≤ i5) then Option.bind ((a0)[Int.toNat i5]?) fun r13 =>
                      bif !decide (r13.2.2.2.2.2.2.2.2.1 = y12.1) then
                        some (.inr (.inr ((-1 : Int), ())))
                      else bif decide ((0 : Int) ≤ i5) then Option.bind ((a0)[Int.toNat i5]?) fun r14 =>
                        bif !decide (r14.2.2.2.2.2.2.2.2.2.1 = IntKind.i64.wrap (y12.1 + (1 : Int))) then
                          some (.inr (.inr ((-1 : Int), ())))
                        else bif decide ((0 : Int) ≤ i5) then Option.bind ((a0)[Int.toNat i5]?) fun r15 =>
                          bif !decide (r15.2.2.2.2.2.2.2.2.2.2.1 = IntKind.i64.wrap ((IntKind.i64.wrap (y12.1 + (1 : Int))) + (1 : Int))) then
                            some (.inr (.inr ((-1 : Int), ())))
                          else bif decide ((0 : Int) ≤ i5) then Option.bind ((a0)[Int.toNat i5]?) fun r16 =>
                            bif !decide (r16.2.2.2.2.2.2.2.2.2.2.2.1 = IntKind.i64.wrap ((IntKind.i64.wrap ((IntKind.i64.wrap (y12.1 + (1 : Int))) + (1 : Int))) + (1 : Int))) then
                              some (.inr (.inr ((-1 : Int), ())))
                            else bif decide ((0 : Int) ≤ i5) then Option.bind ((a0)[Int.toNat i5]?) fun r17 =>
                              bif !decide (r17.2.2.2.2.2.2.2.2.2.2.2.2.1 = IntKind.i64.wrap ((IntKind.i64.wrap ((IntKind.i64.wrap ((IntKind.i64.wrap (y12.1 + (1 : Int))) + (1 : Int))) + (1 : Int))) + (1 : Int))) then
                                some (.inr (.inr ((-1 : Int), ())))
                              else bif decide ((0 : Int) ≤ i5) then Option.bind ((a0)[Int.toNat i5]?) fun r18 =>
                                bif !decide (r18.2.2.2.2.2.2.2.2.2.2.2.2.2.1 = IntKind.i64.wrap ((IntKind.i64.wrap ((IntKind.i64.wrap ((IntKind.i64.wrap ((IntKind.i64.wrap (y12.1 + (1 : Int))) + (1 : Int))) + (1 : Int))) + (1 : Int))) + (1 : Int))) then
                                  some (.inr (.inr ((-1 : Int), ())))
                                else bif decide ((0 : Int) ≤ i5) then Option.bind ((a0)[Int.toNat i5]?) fun r19 =>
                                  bif !decide (r19.2.2.2.2.2.2.2.2.2.2.2.2.2.2.1 = IntKind.i64.wrap ((IntKind.i64.wrap ((IntKind.i64.wrap ((IntKind.i64.wrap ((IntKind.i64.wrap ((IntKind.i64.wrap (y12.1 + (1 : Int))) + (1 : Int))) + (1 : Int))) + (1 : Int))) + (1 : Int))) + (1 : Int))) then
                                    some (.inr (.inr ((-1 : Int), ())))
                                  else bif decide ((0 : Int) ≤ i5) then Option.bind ((a0)[Int.toNat i5]?) fun r20 =>
                                    bif !decide (r20.2.2.2.2.2.2.2.2.2.2.2.2.2.2.2.1 = IntKind.i64.wrap ((IntKind.i64.wrap ((IntKind.i64.wrap ((IntKind.i64.wrap ((IntKind.i64.wrap ((IntKind.i64.wrap ((IntKind.i64.wrap (y12.1 + (1 : Int))) + (1 : Int))) + (1 : Int))) + (1 : Int))) + (1 : Int))) + (1 : Int))) + (1 : Int))) then
                                      some (.inr (.inr ((-1 : Int), ())))
                                    else bif decide ((0 : Int) ≤ i5) then Option.bind ((a0)[Int.toNat i5]?) fun r21 =>
                                      bif !decide (r21.2.2.2.2.2.2.2.2.2.2.2.2.2.2.2.2.1 = IntKind.i64.wrap ((IntKind.i64.wrap ((IntKind.i64.wrap ((IntKind.i64.wrap ((IntKind.i64.wrap ((IntKind.i64.wrap ((IntKind.i64.wrap ((IntKind.i64.wrap (y12.1 + (1 : Int))) + (1 : Int))) + (1 : Int))) + (1 : Int))) + (1 : Int))) + (1 : Int))) + (1 : Int))) + (1 : Int))) then
                                        some (.inr (.inr ((-1 : Int), ())))
                                      else bif decide ((0 : Int) ≤ i5) then Option.bind ((a0)[Int.toNat i5]?) fun r22 =>
                                        Option.bind (laws_heldIntS r22.2.2.2.2.2.2.2.2.2.2.2.2.2.2.2.2.2.1 (IntKind.i64.wrap ((IntKind.i64.wrap ((IntKind.i64.wrap ((IntKind.i64.wrap ((IntKind.i64.wrap ((IntKind.i64.wrap ((IntKind.i64.wrap ((IntKind.i64.wrap ((IntKind.i64.wrap (y12.1 + (1 : Int))) + (1 : Int))) + (1 : Int))) + (1 : Int))) + (1 : Int))) + (1 : Int))) + (1 : Int))) + (1 : Int))) + (1 : Int)))) fun y23 =>
                                        bif decide (y23.1 < (0 : Int)) then
                                          some (.inr (.inr ((-1 : Int), ())))
                                        else bif decide ((0 : Int) ≤ i5) then Option.bind ((a0)[Int.toNat i5]?) fun r24 =>
                                          bif !decide (r24.2.2.2.2.2.2.2.2.2.2.2.2.2.2.2.2.2.2.1 = y23.1) then
                                            some (.inr (.inr ((-1 : Int), ())))
                                          else bif decide ((0 : Int) ≤ i5) then Option.bind ((a0)[Int.toNat i5]?) fun r25 =>
                                            bif !decide (r25.2.2.2.2.2.2.2.2.2.2.2.2.2.2.2.2.2.2.2.1 = IntKind.i64.wrap (y23.1 + (1 : Int))) then
                                              some (.inr (.inr ((-1 : Int), ())))
                                            else bif decide ((0 : Int) ≤ i5) then Option.bind ((a0)[Int.toNat i5]?) fun r26 =>
                                              bif !decide (r26.2.2.2.2.2.2.2.2.2.2.2.2.2.2.2.2.2.2.2.2.1 = IntKind.i64.wrap ((IntKind.i64.wrap (y23.1 + (1 : Int))) + (1 : Int))) then
                                                some (.inr (.inr ((-1 : Int), ())))
                                              else bif decide ((0 : Int) ≤ i5) then Option.bind ((a0)[Int.toNat i5]?) fun r27 =>
                                                Option.bind (laws_heldIntS r27.2.2.2.2.2.2.2.2.2.2.2.2.2.2.2.2.2.2.2.2.2.1 (IntKind.i64.wrap ((IntKind.i64.wrap ((IntKind.i64.wrap (y23.1 + (1 : Int))) + (1 : Int))) + (1 : Int)))) fun y28 =>
                                                bif decide (y28.1 < (0 : Int)) then
                                                  some (.inr (.inr ((-1 : Int), ())))
                                                else bif decide ((0 : Int) ≤ i5) then Option.bind ((a0)[Int.toNat i5]?) fun r29 =>
                                                  Option.bind (laws_heldBundleS r29.2.2.2.2.2.2.2.2.2.2.2.2.2.2.2.2.2.2.2.2.2.2.1 y28.1) fun y30 =>
                                                  bif decide (y30.1 < (0 : Int)) then
                                                    some (.inr (.inr ((-1 : Int), ())))
                                                  else bif decide ((0 : Int) ≤ i5) then Option.bind ((a0)[Int.toNat i5]?) fun r31 =>
                                                    Option.bind (laws_heldEventS r31.2.2.2.2.2.2.2.2.2.2.2.2.2.2.2.2.2.2.2.2.2.2.2.1 y30.1) fun y32 =>
                                                    bif decide (y32.1 < (0 : Int)) then
                                                      some (.inr (.inr ((-1 : Int), ())))
                                                    else
                                                      some (.inl (a0, y32.1, IntKind.i64.wrap (i5 + (1 : Int)), ()))
                                                  else none
                                                else none
                                              else none
                                            else none
                                          else none
                                        else none
                                      else none
                                    else none
                                  else none
                                else none
                              else none
                            else none
                          else none
                        else none
                      else none
                    else none
                  else none
                else none
              else none
            else none
          else none
        else none
      else none
    else none
  else
    some (.inr (.inl (k1, ())))
noncomputable def laws_heldDaemonS_r0 (x : H95_0) : Option (Sum H95_0 (Sum E95_0 Q95_0)) := laws_heldDaemonS_c0 x.1 x.2.1 x.2.2.1
noncomputable def L95 {R : Type} : Loops R := fun id _ st k => bif Nat.beq id 0 then loopAt hp95_0 e95_0 q95_0 laws_heldDaemonS_r0 st k else none
noncomputable def laws_heldDaemonS (a0 : List R_ibiiLiELiiisELiELsEiiiiiiiiiLiEiiiLiELiiiLiiisEELiiLiEiiisLiEE) (k1 : Int) : Option (Int × Unit) :=
  outK (loopV laws_heldDaemonS_r0 (a0, k1, (0 : Int), ())) (fun y1 =>
    some (y1.1, ())) (fun y2 =>
    some (y2.1, ()))
noncomputable def x95 (x : (List R_ibiiLiELiiisELiELsEiiiiiiiiiLiEiiiLiELiiiLiiisEELiiLiEiiisLiEE) × Int × Unit) : Option (Int × Unit) := laws_heldDaemonS x.1 x.2.1
noncomputable def sem95 : Sem1 := semOf ps95 rs95 x95
theorem so95 : SemsOk Try.prog (semsOf sl95) := sems_cons k130 (sems_cons k36 (sems_cons k143 (sems_cons k154 (sems_cons k97 (sems_nil)))))
noncomputable def b95_0 : Code := nthLoop code95 0
theorem t95_r0_eq (x : denR (headRT hp95_0)) : codeK (tabOf tr) (semsOf sl95) D95 L95 b95_0 (headSt hp95_0 x) (roundK 0 hp95_0 e95_0 q95_0) = laws_heldDaemonS_r0 x := by kernel_rfl
theorem loop95_0 {R : Type} (r : R) (w0 : World) (mu : Mu) (hs : AnShape ps95 mu) : LoopAt Try.prog w0 mu 257 (L95 : Loops R) r 0 b95_0 :=
  loop_auto tr_ok eq_ok mixed_ok so95 (D := D95) hs (by kernel_rfl) (fun _ => (loops_of (l := []) (by kernel_rfl) (List.forall_mem_nil _))) t95_r0_eq (fun _ _ => rfl)
theorem t95_eq (x : denR (headRT (ps95.map some))) : codeK (tabOf tr) (semsOf sl95) D95 L95 code95 (start 257 ps95 x) (finK rs95 ps95) = x95 x := by kernel_rfl
theorem k95 : Known Try.prog 95 sem95 :=
  fn_auto tr_ok eq_ok mixed_ok so95 (D := D95) (code := code95) (n := 257) Try.func95 (by kernel_rfl) (by kernel_rfl) (by kernel_rfl) (fun w0 mu _ hs => (loops_of (l := [(0, b95_0)]) (by kernel_rfl) (List.forall_mem_cons.2 ⟨loop95_0 _ w0 mu hs, (List.forall_mem_nil _)⟩))) t95_eq

/-! ### f96: laws.heldLetterS -/
noncomputable def code96 : Code := match Try.f96.body with | some c => c | none => .skip
def ps96 : List AP := [.val false [.shr T_iiiiiisiiiiiLiEiiiLiiisE], .val false [.int .i64]]
def rs96 : List RP := [{ src := .tmp 4, agg := false, ps := [.int .i64] }]
noncomputable def sl96 : SemL := [(107, (.shr, .shr, .shr, sem107)), (130, (.shr, .shr, .shr, sem130)), (36, (.shr, .shr, .shr, sem36))]
def D96 : Draws := fun id => bif Nat.beq id 22 then .op 0 .any (.op 1 .any (.op 2 .any (.op 3 .any (.op 4 .any (.op 5 .take (.op 6 .any (.op 7 .one (.op 8 .any (.nil))))))))) else .nil
def hp96_0 : List (Option AP) := [some (.val false [.shr T_iiiiiisiiiiiLiEiiiLiiisE]), some (.val false [.int .i64]), none, none, none, some (.val false [.int .i64]), none, none, none, none, none, none, none, none, none, none, none, none, none, none, none, none, none, none, none, none, none, none, none, none, none, none, none, none, none, none, none, none, none, none, none, none, none, none, none, none, none, none, none, none, none, none, none, none, none, none, none, none, none, none, none, none, none, none, none, none, none, none, none, none, none, none, none, none, none, none, none, none, none, none, none, none, none, none, none, none, none, none, none, none, none, none, none, none, none, none, none, none, none, none, none, none, none, none, none, none, none, none, none, none, none, none, none, none, none, none, none, none, none, none, none, none, none, none, none, none, none, none, none, none, none, none, none, none, none, none, none, none, none, none, none, none, none, none, none, none, none, none, none, none, none, none, none, none, none, none, none, none, none, none, none, none, none, none, none, none, none, none, none, none, none, none, none, none, none, none, none, none, none, none, none, none]
def e96_0 : List (Option AP) := [none, some (.val false [.int .i64]), none, none, none, none, none, none, none, none, none, none, none, none, none, none, none, none, none, none, none, none, none, none, none, none, none, none, none, none, none, none, none, none, none, none, none, none, none, none, none, none, none, none, none, none, none, none, none, none, none, none, none, none, none, none, none, none, none, none, none, none, none, none, none, none, none, none, none, none, none, none, none, none, none, none, none, none, none, none, none, none, none, none, none, none, none, none, none, none, none, none, none, none, none, none, none, none, none, none, none, none, none, none, none, none, none, none, none, none, none, none, none, none, none, none, none, none, none, none, none, none, none, none, none, none, none, none, none, none, none, none, none, none, none, none, none, none, none, none, none, none, none, none, none, none, none, none, none, none, none, none, none, none, none, none, none, none, none, none, none, none, none, none, none, none, none, none, none, none, none, none, none, none, none, none, none, none, none, none, none, none]
def q96_0 : List (Option AP) := [none, none, none, none, some (.val false [.int .i64]), none, none, none, none, none, none, none, none, none, none, none, none, none, none, none, none, none, none, none, none, none, none, none, none, none, none, none, none, none, none, none, none, none, none, none, none, none, none, none, none, none, none, none, none, none, none, none, none, none, none, none, none, none, none, none, none, none, none, none, none, none, none, none, none, none, none, none, none, none, none, none, none, none, none, none, none, none, none, none, none, none, none, none, none, none, none, none, none, none, none, none, none, none, none, none, none, none, none, none, none, none, none, none, none, none, none, none, none, none, none, none, none, none, none, none, none, none, none, none, none, none, none, none, none, none, none, none, none, none, none, none, none, none, none, none, none, none, none, none, none, none, none, none, none, none, none, none, none, none, none, none, none, none, none, none, none, none, none, none, none, none, none, none, none, none, none, none, none, none, none, none, none, none, none, none, none, none]
abbrev H96_0 : Type := (List R_iiiiiisiiiiiLiEiiiLiiisE) × Int × Int × Unit
abbrev E96_0 : Type := Int × Unit
abbrev Q96_0 : Type := Int × Unit
noncomputable def laws_heldLetterS_c0 (a0 : List R_iiiiiisiiiiiLiEiiiLiiisE) (k1 : Int) (i5 : Int) : Option (Sum H96_0 (Sum E96_0 Q96_0)) :=
  bif decide (i5 < ((List.length a0 : Nat) : Int)) then
    bif decide ((0 : Int) ≤ i5) then Option.bind ((a0)[Int.toNat i5]?) fun r1 =>
      bif !decide (r1.1 = k1) then
        some (.inr (.inr ((-1 : Int), ())))
      else bif decide ((0 : Int) ≤ i5) then Option.bind ((a0)[Int.toNat i5]?) fun r2 =>
        bif !decide (r2.2.1 = IntKind.i64.wrap (k1 + (1 : Int))) then
          some (.inr (.inr ((-1 : Int), ())))
        else bif decide ((0 : Int) ≤ i5) then Option.bind ((a0)[Int.toNat i5]?) fun r3 =>
          bif !decide (r3.2.2.1 = IntKind.i64.wrap ((IntKind.i64.wrap (k1 + (1 : Int))) + (1 : Int))) then
            some (.inr (.inr ((-1 : Int), ())))
          else bif decide ((0 : Int) ≤ i5) then Option.bind ((a0)[Int.toNat i5]?) fun r4 =>
            bif !decide (r4.2.2.2.1 = IntKind.i64.wrap ((IntKind.i64.wrap ((IntKind.i64.wrap (k1 + (1 : Int))) + (1 : Int))) + (1 : Int))) then
              some (.inr (.inr ((-1 : Int), ())))
            else bif decide ((0 : Int) ≤ i5) then Option.bind ((a0)[Int.toNat i5]?) fun r5 =>
              bif !decide (r5.2.2.2.2.1 = IntKind.i64.wrap ((IntKind.i64.wrap ((IntKind.i64.wrap ((IntKind.i64.wrap (k1 + (1 : Int))) + (1 : Int))) + (1 : Int))) + (1 : Int))) then
                some (.inr (.inr ((-1 : Int), ())))
              else bif decide ((0 : Int) ≤ i5) then Option.bind ((a0)[Int.toNat i5]?) fun r6 =>
                bif !decide (r6.2.2.2.2.2.1 = IntKind.i64.wrap ((IntKind.i64.wrap ((IntKind.i64.wrap ((IntKind.i64.wrap ((IntKind.i64.wrap (k1 + (1 : Int))) + (1 : Int))) + (1 : Int))) + (1 : Int))) + (1 : Int))) then
                  some (.inr (.inr ((-1 : Int), ())))
                else bif decide ((0 : Int) ≤ i5) then Option.bind ((a0)[Int.toNat i5]?) fun r7 =>
                  Option.bind (laws_markText (IntKind.i64.wrap ((IntKind.i64.wrap ((IntKind.i64.wrap ((IntKind.i64.wrap ((IntKind.i64.wrap ((IntKind.i64.wrap (k1 + (1 : Int))) + (1 : Int))) + (1 : Int))) + (1 : Int))) + (1 : Int))) + (1 : Int)))) fun y8 =>
                  bif !strEq r7.2.2.2.2.2.2.1 y8.1 then
                    some (.inr (.inr ((-1 : Int), ())))
                  else bif decide ((0 : Int) ≤ i5) then Option.bind ((a0)[Int.toNat i5]?) fun r9 =>
                    bif !decide (r9.2.2.2.2.2.2.2.1 = IntKind.i64.wrap ((IntKind.i64.wrap ((IntKind.i64.wrap ((IntKind.i64.wrap ((IntKind.i64.wrap ((IntKind.i64.wrap ((IntKind.i64.wrap (k1 + (1 : Int))) + (1 : Int))) + (1 : Int))) + (1 : Int))) + (1 : Int))) + (1 : Int))) + (1 : Int))) then
                      some (.inr (.inr ((-1 : Int), ())))
                    else bif decide ((0 : Int) ≤ i5) then Option.bind ((a0)[Int.toNat i5]?) fun r10 =>
                      bif !decide (r10.2.2.2.2.2.2.2.2.1 = IntKind.i64.wrap ((IntKind.i64.wrap ((IntKind.i64.wrap ((IntKind.i64.wrap ((IntKind.i64.wrap ((IntKind.i64.wrap ((IntKind.i64.wrap ((IntKind.i64.wrap (k1 + (1 : Int))) + (1 : Int))) + (1 : Int))) + (1 : Int))) + (1 : Int))) + (1 : Int))) + (1 : Int))) + (1 : Int))) then
                        some (.inr (.inr ((-1 : Int), ())))
                      else bif decide ((0 : Int) ≤ i5) then Option.bind ((a0)[Int.toNat i5]?) fun r11 =>
                        bif !decide (r11.2.2.2.2.2.2.2.2.2.1 = IntKind.i64.wrap ((IntKind.i64.wrap ((IntKind.i64.wrap ((IntKind.i64.wrap ((IntKind.i64.wrap ((IntKind.i64.wrap ((IntKind.i64.wrap ((IntKind.i64.wrap ((IntKind.i64.wrap (k1 + (1 : Int))) + (1 : Int))) + (1 : Int))) + (1 : Int))) + (1 : Int))) + (1 : Int))) + (1 : Int))) + (1 : Int))) + (1 : Int))) then
                          some (.inr (.inr ((-1 : Int), ())))
                        else bif decide ((0 : Int) ≤ i5) then Option.bind ((a0)[Int.toNat i5]?) fun r12 =>
                          bif !decide (r12.2.2.2.2.2.2.2.2.2.2.1 = IntKind.i64.wrap ((IntKind.i64.wrap ((IntKind.i64.wrap ((IntKind.i64.wrap ((IntKind.i64.wrap ((IntKind.i64.wrap ((IntKind.i64.wrap ((IntKind.i64.wrap ((IntKind.i64.wrap ((IntKind.i64.wrap (k1 + (1 : Int))) + (1 : Int))) + (1 : Int))) + (1 : Int))) + (1 : Int))) + (1 : Int))) + (1 : Int))) + (1 : Int))) + (1 : Int))) + (1 : Int))) then
                            some (.inr (.inr ((-1 : Int), ())))
                          else bif decide ((0 : Int) ≤ i5) then Option.bind ((a0)[Int.toNat i5]?) fun r13 =>
                            bif !decide (r13.2.2.2.2.2.2.2.2.2.2.2.1 = IntKind.i64.wrap ((IntKind.i64.wrap ((IntKind.i64.wrap ((IntKind.i64.wrap ((IntKind.i64.wrap ((IntKind.i64.wrap ((IntKind.i64.wrap ((IntKind.i64.wrap ((IntKind.i64.wrap ((IntKind.i64.wrap ((IntKind.i64.wrap (k1 + (1 : Int))) + (1 : Int))) + (1 : Int))) + (1 : Int))) + (1 : Int))) + (1 : Int))) + (1 : Int))) + (1 : Int))) + (1 : Int))) + (1 : Int))) + (1 : Int))) then
                              some (.inr (.inr ((-1 : Int), ())))
                            else bif decide ((0 : Int) ≤ i5) then Option.bind ((a0)[Int.toNat i5]?) fun r14 =>
                              Option.bind (laws_heldIntS r14.2.2.2.2.2.2.2.2.2.2.2.2.1 (IntKind.i64.wrap ((IntKind.i64.wrap ((IntKind.i64.wrap ((IntKind.i64.wrap ((IntKind.i64.wrap ((IntKind.i64.wrap ((IntKind.i64.wrap ((IntKind.i64.wrap ((IntKind.i64.wrap ((IntKind.i64.wrap ((IntKind.i64.wrap ((IntKind.i64.wrap (k1 + (1 : Int))) + (1 : Int))) + (1 : Int))) + (1 : Int))) + (1 : Int))) + (1 : Int))) + (1 : Int))) + (1 : Int))) + (1 : Int))) + (1 : Int))) + (1 : Int))) + (1 : Int)))) fun y15 =>
                              bif decide (y15.1 < (0 : Int)) then
                                some (.inr (.inr ((-1 : Int), ())))
                              else bif decide ((0 : Int) ≤ i5) then Option.bind ((a0)[Int.toNat i5]?) fun r16 =>
                                bif !decide (r16.2.2.2.2.2.2.2.2.2.2.2.2.2.1 = y15.1) then
                                  some (.inr (.inr ((-1 : Int), ())))
                                else bif decide ((0 : Int) ≤ i5) then Option.bind ((a0)[Int.toNat i5]?) fun r17 =>
                                  bif !decide (r17.2.2.2.2.2.2.2.2.2.2.2.2.2.2.1 = IntKind.i64.wrap (y15.1 + (1 : Int))) then
                                    some (.inr (.inr ((-1 : Int), ())))
                                  else bif decide ((0 : Int) ≤ i5) then Option.bind ((a0)[Int.toNat i5]?) fun r18 =>
                                    bif !decide (r18.2.2.2.2.2.2.2.2.2.2.2.2.2.2.2.1 = IntKind.i64.wrap ((IntKind.i64.wrap (y15.1 + (1 : Int))) + (1 : Int))) then
                                      some (.inr (.inr ((-1 : Int), ())))
                                    else bif decide ((0 : Int) ≤ i5) then Option.bind ((a0)[Int.toNat i5]?) fun r19 =>
                                      Option.bind (laws_heldItemS r19.2.2.2.2.2.2.2.2.2.2.2.2.2.2.2.2.1 (IntKind.i64.wrap ((IntKind.i64.wrap ((IntKind.i64.wrap (y15.1 + (1 : Int))) + (1 : Int))) + (1 : Int)))) fun y20 =>
                                      bif decide (y20.1 < (0 : Int)) then
                                        some (.inr (.inr ((-1 : Int), ())))
                                      else
                                        some (.inl (a0, y20.1, IntKind.i64.wrap (i5 + (1 : Int)), ()))
                                    else none
                                  else none
                                else none
                              else none
                            else none
                          else none
                        else none
                      else none
                    else none
                  else none
                else none
              else none
            else none
          else none
        else none
      else none
    else none
  else
    some (.inr (.inl (k1, ())))
noncomputable def laws_heldLetterS_r0 (x : H96_0) : Option (Sum H96_0 (Sum E96_0 Q96_0)) := laws_heldLetterS_c0 x.1 x.2.1 x.2.2.1
noncomputable def L96 {R : Type} : Loops R := fun id _ st k => bif Nat.beq id 0 then loopAt hp96_0 e96_0 q96_0 laws_heldLetterS_r0 st k else none
noncomputable def laws_heldLetterS (a0 : List R_iiiiiisiiiiiLiEiiiLiiisE) (k1 : Int) : Option (Int × Unit) :=
  outK (loopV laws_heldLetterS_r0 (a0, k1, (0 : Int), ())) (fun y1 =>
    some (y1.1, ())) (fun y2 =>
    some (y2.1, ()))
noncomputable def x96 (x : (List R_iiiiiisiiiiiLiEiiiLiiisE) × Int × Unit) : Option (Int × Unit) := laws_heldLetterS x.1 x.2.1
noncomputable def sem96 : Sem1 := semOf ps96 rs96 x96
theorem so96 : SemsOk Try.prog (semsOf sl96) := sems_cons k107 (sems_cons k130 (sems_cons k36 (sems_nil)))
noncomputable def b96_0 : Code := nthLoop code96 0
theorem t96_r0_eq (x : denR (headRT hp96_0)) : codeK (tabOf tr) (semsOf sl96) D96 L96 b96_0 (headSt hp96_0 x) (roundK 0 hp96_0 e96_0 q96_0) = laws_heldLetterS_r0 x := by kernel_rfl
theorem loop96_0 {R : Type} (r : R) (w0 : World) (mu : Mu) (hs : AnShape ps96 mu) : LoopAt Try.prog w0 mu 181 (L96 : Loops R) r 0 b96_0 :=
  loop_auto tr_ok eq_ok mixed_ok so96 (D := D96) hs (by kernel_rfl) (fun _ => (loops_of (l := []) (by kernel_rfl) (List.forall_mem_nil _))) t96_r0_eq (fun _ _ => rfl)
theorem t96_eq (x : denR (headRT (ps96.map some))) : codeK (tabOf tr) (semsOf sl96) D96 L96 code96 (start 181 ps96 x) (finK rs96 ps96) = x96 x := by kernel_rfl
theorem k96 : Known Try.prog 96 sem96 :=
  fn_auto tr_ok eq_ok mixed_ok so96 (D := D96) (code := code96) (n := 181) Try.func96 (by kernel_rfl) (by kernel_rfl) (by kernel_rfl) (fun w0 mu _ hs => (loops_of (l := [(0, b96_0)]) (by kernel_rfl) (List.forall_mem_cons.2 ⟨loop96_0 _ w0 mu hs, (List.forall_mem_nil _)⟩))) t96_eq

/-! ### f27: laws.heldWorld -/
noncomputable def code27 : Code := match Try.f27.body with | some c => c | none => .skip
def ps27 : List AP := [.val true [.shr T_iLiE, .shr T_ibiiLiELiiisELiELsEiiiiiiiiiLiEiiiLiELiiiLiiisEELiiLiEiiisLiEE, .shr T_iiiiiisiiiiiLiEiiiLiiisE, .shr T_iiLiEiiisLiE], .val false [.int .i64]]
def rs27 : List RP := [{ src := .tmp 4, agg := false, ps := [.int .i64] }]
noncomputable def sl27 : SemL := [(94, (.shr, .shr, .shr, sem94)), (95, (.shr, .shr, .shr, sem95)), (96, (.shr, .shr, .shr, sem96)), (97, (.shr, .shr, .shr, sem97))]
def D27 : Draws := fun _ => .nil
noncomputable def L27 {R : Type} : Loops R := fun _ _ _ _ => none
noncomputable def laws_heldWorld (a0c0 : List R_iLiE) (a0c1 : List R_ibiiLiELiiisELiELsEiiiiiiiiiLiEiiiLiELiiiLiiisEELiiLiEiiisLiEE) (a0c2 : List R_iiiiiisiiiiiLiEiiiLiiisE) (a0c3 : List R_iiLiEiiisLiE) (k1 : Int) : Option (Int × Unit) :=
  Option.bind (laws_heldRingS a0c0 k1) fun y1 =>
  bif decide (y1.1 < (0 : Int)) then
    some ((-1 : Int), ())
  else
    Option.bind (laws_heldDaemonS a0c1 y1.1) fun y2 =>
    bif decide (y2.1 < (0 : Int)) then
      some ((-1 : Int), ())
    else
      Option.bind (laws_heldLetterS a0c2 y2.1) fun y3 =>
      bif decide (y3.1 < (0 : Int)) then
        some ((-1 : Int), ())
      else
        Option.bind (laws_heldEventS a0c3 y3.1) fun y4 =>
        bif decide (y4.1 < (0 : Int)) then
          some ((-1 : Int), ())
        else
          some (y4.1, ())
noncomputable def x27 (x : (List R_iLiE) × (List R_ibiiLiELiiisELiELsEiiiiiiiiiLiEiiiLiELiiiLiiisEELiiLiEiiisLiEE) × (List R_iiiiiisiiiiiLiEiiiLiiisE) × (List R_iiLiEiiisLiE) × Int × Unit) : Option (Int × Unit) := laws_heldWorld x.1 x.2.1 x.2.2.1 x.2.2.2.1 x.2.2.2.2.1
noncomputable def sem27 : Sem1 := semOf ps27 rs27 x27
theorem so27 : SemsOk Try.prog (semsOf sl27) := sems_cons k94 (sems_cons k95 (sems_cons k96 (sems_cons k97 (sems_nil))))
theorem t27_eq (x : denR (headRT (ps27.map some))) : codeK (tabOf tr) (semsOf sl27) D27 L27 code27 (start 30 ps27 x) (finK rs27 ps27) = x27 x := by kernel_rfl
theorem k27 : Known Try.prog 27 sem27 :=
  fn_auto tr_ok eq_ok mixed_ok so27 (D := D27) (code := code27) (n := 30) Try.func27 (by kernel_rfl) (by kernel_rfl) (by kernel_rfl) (fun w0 mu _ hs => (loops_of (l := []) (by kernel_rfl) (List.forall_mem_nil _))) t27_eq

/-! ### f4: laws.FnExactWorldNew -/
noncomputable def code4 : Code := match Try.f4.body with | some c => c | none => .skip
def ps4 : List AP := [.val false [.shr T_iLiE]]
def rs4 : List RP := [{ src := .tmp 2, agg := false, ps := [.bool] }]
noncomputable def sl4 : SemL := [(19, (.shr, .shr, .shr, sem19)), (21, (.shr, .shr, .shr, sem21)), (20, (.shr, .shr, .shr, sem20)), (22, (.shr, .shr, .shr, sem22)), (23, (.shr, .shr, .shr, sem23)), (24, (.shr, .shr, .shr, sem24)), (25, (.io, .shr, .shr, sem25)), (26, (.lend, .shr, .shr, sem26)), (27, (.shr, .shr, .shr, sem27))]
def D4 : Draws := fun _ => .nil
noncomputable def L4 {R : Type} : Loops R := fun _ _ _ _ => none
noncomputable def laws_FnExactWorldNew (aRings0 : List R_iLiE) : Option (Bool × Unit) :=
  Option.bind (laws_szRingS aRings0 (1048576 : Int)) fun y1 =>
  bif decide (y1.1 < (0 : Int)) then
    some (true, ())
  else
    Option.bind (laws_toRingS aRings0) fun y2 =>
    Option.bind (spec_WorldNew y2.1) fun y3 =>
    Option.bind (laws_toRingS aRings0) fun y4 =>
    Option.bind (impl_WorldNew y4.1) fun y5 =>
    Option.bind (laws_eqWorld y5.1 y5.2.1 y5.2.2.1 y5.2.2.2.1 y3.1 y3.2.1 y3.2.2.1 y3.2.2.2.1) fun y6 =>
    bif !y6.1 then
      some (false, ())
    else bif !(y5.2.2.2.2.1 == y3.2.2.2.2.1) then
      some (false, ())
    else
      Option.bind (laws_toRingS aRings0) fun y7 =>
      Option.bind (laws_eqRingS y4.1 y7.1) fun y8 =>
      bif !y8.1 then
        some (false, ())
      else
        Option.bind (laws_markRingS y4.1 (1 : Int)) fun y9 =>
        bif decide (y9.1 < (0 : Int)) then
          some (false, ())
        else
          Option.bind (laws_eqWorld y5.1 y5.2.1 y5.2.2.1 y5.2.2.2.1 y3.1 y3.2.1 y3.2.2.1 y3.2.2.2.1) fun y10 =>
          bif !y10.1 then
            some (false, ())
          else bif !(y5.2.2.2.2.1 == y3.2.2.2.2.1) then
            some (false, ())
          else
            Option.bind (laws_markWorld y5.1 y5.2.1 y5.2.2.1 y5.2.2.2.1 (1 : Int)) fun y11 =>
            Option.bind (laws_heldWorld y11.2.1 y11.2.2.1 y11.2.2.2.1 y11.2.2.2.2.1 (1 : Int)) fun y12 =>
            bif decide (y12.1 < (0 : Int)) then
              some (false, ())
            else bif !decide (y12.1 = y11.1) then
              some (false, ())
            else
              Option.bind (laws_toRingS aRings0) fun y13 =>
              Option.bind (impl_WorldNew y13.1) fun y14 =>
              Option.bind (laws_eqWorld y14.1 y14.2.1 y14.2.2.1 y14.2.2.2.1 y3.1 y3.2.1 y3.2.2.1 y3.2.2.2.1) fun y15 =>
              bif !y15.1 then
                some (false, ())
              else bif !(y14.2.2.2.2.1 == y3.2.2.2.2.1) then
                some (false, ())
              else
                Option.bind (laws_heldWorld y11.2.1 y11.2.2.1 y11.2.2.2.1 y11.2.2.2.2.1 (1 : Int)) fun y16 =>
                bif decide (y16.1 < (0 : Int)) then
                  some (false, ())
                else bif !decide (y16.1 = y11.1) then
                  some (false, ())
                else
                  some (true, ())
noncomputable def x4 (x : (List R_iLiE) × Unit) : Option (Bool × Unit) := laws_FnExactWorldNew x.1
noncomputable def sem4 : Sem1 := semOf ps4 rs4 x4
theorem so4 : SemsOk Try.prog (semsOf sl4) := sems_cons k19 (sems_cons k21 (sems_cons k20 (sems_cons k22 (sems_cons k23 (sems_cons k24 (sems_cons k25 (sems_cons k26 (sems_cons k27 (sems_nil)))))))))
theorem t4_eq (x : denR (headRT (ps4.map some))) : codeK (tabOf tr) (semsOf sl4) D4 L4 code4 (start 96 ps4 x) (finK rs4 ps4) = x4 x := by kernel_rfl
theorem k4 : Known Try.prog 4 sem4 :=
  fn_auto tr_ok eq_ok mixed_ok so4 (D := D4) (code := code4) (n := 96) Try.func4 (by kernel_rfl) (by kernel_rfl) (by kernel_rfl) (fun w0 mu _ hs => (loops_of (l := []) (by kernel_rfl) (List.forall_mem_nil _))) t4_eq

end Go.TM
