/- What the functions answer, as terms; their contracts. -/
import Derived.Test.YtmljblppihbkdaaDBase
set_option linter.unusedSimpArgs false
set_option linter.unusedVariables false
namespace Go.TM
open Go Go.RowKit Go.Proofs

/-! ### f62: laws.szIntS -/
noncomputable def code62 : Code := match Try.f62.body with | some c => c | none => .skip
def ps62 : List AP := [.val false [.shr T_i], .val false [.int .i64]]
def rs62 : List RP := [{ src := .tmp 4, agg := false, ps := [.int .i64] }]
noncomputable def sl62 : SemL := []
def D62 : Draws := fun _ => .nil
noncomputable def L62 {R : Type} : Loops R := fun _ _ _ _ => none
noncomputable def laws_szIntS (a0 : List (Int × Unit)) (left1 : Int) : Option (Int × Unit) :=
  bif decide (IntKind.i64.wrap (left1 - ((List.length a0 : Nat) : Int)) < (0 : Int)) then
    some ((-1 : Int), ())
  else
    some (IntKind.i64.wrap (left1 - ((List.length a0 : Nat) : Int)), ())
noncomputable def x62 (x : (List (Int × Unit)) × Int × Unit) : Option (Int × Unit) := laws_szIntS x.1 x.2.1
noncomputable def sem62 : Sem1 := semOf ps62 rs62 x62
theorem so62 : SemsOk Try.prog (semsOf sl62) := sems_nil
theorem t62_eq (x : denR (headRT (ps62.map some))) : codeK (tabOf tr) (semsOf sl62) D62 L62 code62 (start 12 ps62 x) (finK rs62 ps62) = x62 x := by kernel_rfl
theorem k62 : Known Try.prog 62 sem62 :=
  fn_auto tr_ok eq_ok mixed_ok so62 (D := D62) (code := code62) (n := 12) Try.func62 (by kernel_rfl) (by kernel_rfl) (by kernel_rfl) (fun w0 mu _ hs => (loops_of (l := []) (by kernel_rfl) (List.forall_mem_nil _))) t62_eq

/-! ### f10: laws.szRing -/
noncomputable def code10 : Code := match Try.f10.body with | some c => c | none => .skip
def ps10 : List AP := [.val true [.int .i64, .shr T_i], .val false [.int .i64]]
def rs10 : List RP := [{ src := .tmp 4, agg := false, ps := [.int .i64] }]
noncomputable def sl10 : SemL := [(62, (.shr, .shr, .shr, sem62))]
def D10 : Draws := fun _ => .nil
noncomputable def L10 {R : Type} : Loops R := fun _ _ _ _ => none
noncomputable def laws_szRing (a0c0 : Int) (a0c1 : List (Int × Unit)) (left1 : Int) : Option (Int × Unit) :=
  Option.bind (laws_szIntS a0c1 left1) fun y1 =>
  bif decide (y1.1 < (0 : Int)) then
    some ((-1 : Int), ())
  else
    some (y1.1, ())
noncomputable def x10 (x : Int × (List (Int × Unit)) × Int × Unit) : Option (Int × Unit) := laws_szRing x.1 x.2.1 x.2.2.1
noncomputable def sem10 : Sem1 := semOf ps10 rs10 x10
theorem so10 : SemsOk Try.prog (semsOf sl10) := sems_cons k62 (sems_nil)
theorem t10_eq (x : denR (headRT (ps10.map some))) : codeK (tabOf tr) (semsOf sl10) D10 L10 code10 (start 12 ps10 x) (finK rs10 ps10) = x10 x := by kernel_rfl
theorem k10 : Known Try.prog 10 sem10 :=
  fn_auto tr_ok eq_ok mixed_ok so10 (D := D10) (code := code10) (n := 12) Try.func10 (by kernel_rfl) (by kernel_rfl) (by kernel_rfl) (fun w0 mu _ hs => (loops_of (l := []) (by kernel_rfl) (List.forall_mem_nil _))) t10_eq

/-! ### f54: laws.szItem -/
noncomputable def code54 : Code := match Try.f54.body with | some c => c | none => .skip
def ps54 : List AP := [.val true [.int .i64, .int .i64, .int .i64, .str], .val false [.int .i64]]
def rs54 : List RP := [{ src := .tmp 4, agg := false, ps := [.int .i64] }]
noncomputable def sl54 : SemL := []
def D54 : Draws := fun _ => .nil
noncomputable def L54 {R : Type} : Loops R := fun _ _ _ _ => none
noncomputable def laws_szItem (a0c0 : Int) (a0c1 : Int) (a0c2 : Int) (a0c3 : ByteArray) (left1 : Int) : Option (Int × Unit) :=
  bif decide (IntKind.i64.wrap (left1 - ((ByteArray.size a0c3 : Nat) : Int)) < (0 : Int)) then
    some ((-1 : Int), ())
  else
    some (IntKind.i64.wrap (left1 - ((ByteArray.size a0c3 : Nat) : Int)), ())
noncomputable def x54 (x : Int × Int × Int × ByteArray × Int × Unit) : Option (Int × Unit) := laws_szItem x.1 x.2.1 x.2.2.1 x.2.2.2.1 x.2.2.2.2.1
noncomputable def sem54 : Sem1 := semOf ps54 rs54 x54
theorem so54 : SemsOk Try.prog (semsOf sl54) := sems_nil
theorem t54_eq (x : denR (headRT (ps54.map some))) : codeK (tabOf tr) (semsOf sl54) D54 L54 code54 (start 13 ps54 x) (finK rs54 ps54) = x54 x := by kernel_rfl
theorem k54 : Known Try.prog 54 sem54 :=
  fn_auto tr_ok eq_ok mixed_ok so54 (D := D54) (code := code54) (n := 13) Try.func54 (by kernel_rfl) (by kernel_rfl) (by kernel_rfl) (fun w0 mu _ hs => (loops_of (l := []) (by kernel_rfl) (List.forall_mem_nil _))) t54_eq

/-! ### f111: laws.szItemS -/
noncomputable def code111 : Code := match Try.f111.body with | some c => c | none => .skip
def ps111 : List AP := [.val false [.shr T_iiis], .val false [.int .i64]]
def rs111 : List RP := [{ src := .tmp 4, agg := false, ps := [.int .i64] }]
noncomputable def sl111 : SemL := [(54, (.shr, .shr, .shr, sem54))]
def D111 : Draws := fun _ => .nil
def hp111_0 : List (Option AP) := [some (.val false [.shr T_iiis]), some (.val false [.int .i64]), none, none, none, some (.val false [.int .i64]), none, none, none, none, none, none, none, none, none, none, none, none, none, none, none, none, none, none, none, none, none, none]
def e111_0 : List (Option AP) := [none, some (.val false [.int .i64]), none, none, none, none, none, none, none, none, none, none, none, none, none, none, none, none, none, none, none, none, none, none, none, none, none, none]
def q111_0 : List (Option AP) := [none, none, none, none, some (.val false [.int .i64]), none, none, none, none, none, none, none, none, none, none, none, none, none, none, none, none, none, none, none, none, none, none, none]
abbrev H111_0 : Type := (List R_iiis) × Int × Int × Unit
abbrev E111_0 : Type := Int × Unit
abbrev Q111_0 : Type := Int × Unit
noncomputable def laws_szItemS_c0 (a0 : List R_iiis) (left1 : Int) (i5 : Int) : Option (Sum H111_0 (Sum E111_0 Q111_0)) :=
  bif decide (i5 < ((List.length a0 : Nat) : Int)) then
    bif decide ((0 : Int) ≤ i5) then Option.bind ((a0)[Int.toNat i5]?) fun r1 =>
      Option.bind (laws_szItem r1.1 r1.2.1 r1.2.2.1 r1.2.2.2.1 left1) fun y2 =>
      bif decide (y2.1 < (0 : Int)) then
        some (.inr (.inr ((-1 : Int), ())))
      else
        some (.inl (a0, y2.1, IntKind.i64.wrap (i5 + (1 : Int)), ()))
    else none
  else
    some (.inr (.inl (left1, ())))
noncomputable def laws_szItemS_r0 (x : H111_0) : Option (Sum H111_0 (Sum E111_0 Q111_0)) := laws_szItemS_c0 x.1 x.2.1 x.2.2.1
noncomputable def L111 {R : Type} : Loops R := fun id _ st k => bif Nat.beq id 0 then loopAt hp111_0 e111_0 q111_0 laws_szItemS_r0 st k else none
noncomputable def laws_szItemS (a0 : List R_iiis) (left1 : Int) : Option (Int × Unit) :=
  bif decide (IntKind.i64.wrap (left1 - ((List.length a0 : Nat) : Int)) < (0 : Int)) then
    some ((-1 : Int), ())
  else
    outK (loopV laws_szItemS_r0 (a0, IntKind.i64.wrap (left1 - ((List.length a0 : Nat) : Int)), (0 : Int), ())) (fun y1 =>
      some (y1.1, ())) (fun y2 =>
      some (y2.1, ()))
noncomputable def x111 (x : (List R_iiis) × Int × Unit) : Option (Int × Unit) := laws_szItemS x.1 x.2.1
noncomputable def sem111 : Sem1 := semOf ps111 rs111 x111
theorem so111 : SemsOk Try.prog (semsOf sl111) := sems_cons k54 (sems_nil)
noncomputable def b111_0 : Code := nthLoop code111 0
theorem t111_r0_eq (x : denR (headRT hp111_0)) : codeK (tabOf tr) (semsOf sl111) D111 L111 b111_0 (headSt hp111_0 x) (roundK 0 hp111_0 e111_0 q111_0) = laws_szItemS_r0 x := by kernel_rfl
theorem loop111_0 {R : Type} (r : R) (w0 : World) (mu : Mu) (hs : AnShape ps111 mu) : LoopAt Try.prog w0 mu 27 (L111 : Loops R) r 0 b111_0 :=
  loop_auto tr_ok eq_ok mixed_ok so111 (D := D111) hs (by kernel_rfl) (fun _ => (loops_of (l := []) (by kernel_rfl) (List.forall_mem_nil _))) t111_r0_eq (fun _ _ => rfl)
theorem t111_eq (x : denR (headRT (ps111.map some))) : codeK (tabOf tr) (semsOf sl111) D111 L111 code111 (start 27 ps111 x) (finK rs111 ps111) = x111 x := by kernel_rfl
theorem k111 : Known Try.prog 111 sem111 :=
  fn_auto tr_ok eq_ok mixed_ok so111 (D := D111) (code := code111) (n := 27) Try.func111 (by kernel_rfl) (by kernel_rfl) (by kernel_rfl) (fun w0 mu _ hs => (loops_of (l := [(0, b111_0)]) (by kernel_rfl) (List.forall_mem_cons.2 ⟨loop111_0 _ w0 mu hs, (List.forall_mem_nil _)⟩))) t111_eq

/-! ### f131: laws.szStringS -/
noncomputable def code131 : Code := match Try.f131.body with | some c => c | none => .skip
def ps131 : List AP := [.val false [.shr T_s], .val false [.int .i64]]
def rs131 : List RP := [{ src := .tmp 4, agg := false, ps := [.int .i64] }]
noncomputable def sl131 : SemL := []
def D131 : Draws := fun _ => .nil
def hp131_0 : List (Option AP) := [some (.val false [.shr T_s]), some (.val false [.int .i64]), none, none, none, some (.val false [.int .i64]), none, none, none, none, none, none, none, none, none, none, none, none, none, none, none, none, none, none, none, none, none, none, none]
def e131_0 : List (Option AP) := [none, some (.val false [.int .i64]), none, none, none, none, none, none, none, none, none, none, none, none, none, none, none, none, none, none, none, none, none, none, none, none, none, none, none]
def q131_0 : List (Option AP) := [none, none, none, none, some (.val false [.int .i64]), none, none, none, none, none, none, none, none, none, none, none, none, none, none, none, none, none, none, none, none, none, none, none, none]
abbrev H131_0 : Type := (List (ByteArray × Unit)) × Int × Int × Unit
abbrev E131_0 : Type := Int × Unit
abbrev Q131_0 : Type := Int × Unit
noncomputable def laws_szStringS_c0 (a0 : List (ByteArray × Unit)) (left1 : Int) (i5 : Int) : Option (Sum H131_0 (Sum E131_0 Q131_0)) :=
  bif decide (i5 < ((List.length a0 : Nat) : Int)) then
    bif decide ((0 : Int) ≤ i5) then Option.bind ((a0)[Int.toNat i5]?) fun r1 =>
      bif decide (IntKind.i64.wrap (left1 - ((ByteArray.size r1.1 : Nat) : Int)) < (0 : Int)) then
        some (.inr (.inr ((-1 : Int), ())))
      else
        some (.inl (a0, IntKind.i64.wrap (left1 - ((ByteArray.size r1.1 : Nat) : Int)), IntKind.i64.wrap (i5 + (1 : Int)), ()))
    else none
  else
    some (.inr (.inl (left1, ())))
noncomputable def laws_szStringS_r0 (x : H131_0) : Option (Sum H131_0 (Sum E131_0 Q131_0)) := laws_szStringS_c0 x.1 x.2.1 x.2.2.1
noncomputable def L131 {R : Type} : Loops R := fun id _ st k => bif Nat.beq id 0 then loopAt hp131_0 e131_0 q131_0 laws_szStringS_r0 st k else none
noncomputable def laws_szStringS (a0 : List (ByteArray × Unit)) (left1 : Int) : Option (Int × Unit) :=
  bif decide (IntKind.i64.wrap (left1 - ((List.length a0 : Nat) : Int)) < (0 : Int)) then
    some ((-1 : Int), ())
  else
    outK (loopV laws_szStringS_r0 (a0, IntKind.i64.wrap (left1 - ((List.length a0 : Nat) : Int)), (0 : Int), ())) (fun y1 =>
      some (y1.1, ())) (fun y2 =>
      some (y2.1, ()))
noncomputable def x131 (x : (List (ByteArray × Unit)) × Int × Unit) : Option (Int × Unit) := laws_szStringS x.1 x.2.1
noncomputable def sem131 : Sem1 := semOf ps131 rs131 x131
theorem so131 : SemsOk Try.prog (semsOf sl131) := sems_nil
noncomputable def b131_0 : Code := nthLoop code131 0
theorem t131_r0_eq (x : denR (headRT hp131_0)) : codeK (tabOf tr) (semsOf sl131) D131 L131 b131_0 (headSt hp131_0 x) (roundK 0 hp131_0 e131_0 q131_0) = laws_szStringS_r0 x := by kernel_rfl
theorem loop131_0 {R : Type} (r : R) (w0 : World) (mu : Mu) (hs : AnShape ps131 mu) : LoopAt Try.prog w0 mu 28 (L131 : Loops R) r 0 b131_0 :=
  loop_auto tr_ok eq_ok mixed_ok so131 (D := D131) hs (by kernel_rfl) (fun _ => (loops_of (l := []) (by kernel_rfl) (List.forall_mem_nil _))) t131_r0_eq (fun _ _ => rfl)
theorem t131_eq (x : denR (headRT (ps131.map some))) : codeK (tabOf tr) (semsOf sl131) D131 L131 code131 (start 28 ps131 x) (finK rs131 ps131) = x131 x := by kernel_rfl
theorem k131 : Known Try.prog 131 sem131 :=
  fn_auto tr_ok eq_ok mixed_ok so131 (D := D131) (code := code131) (n := 28) Try.func131 (by kernel_rfl) (by kernel_rfl) (by kernel_rfl) (fun w0 mu _ hs => (loops_of (l := [(0, b131_0)]) (by kernel_rfl) (List.forall_mem_cons.2 ⟨loop131_0 _ w0 mu hs, (List.forall_mem_nil _)⟩))) t131_eq

/-! ### f132: laws.szToken -/
noncomputable def code132 : Code := match Try.f132.body with | some c => c | none => .skip
def ps132 : List AP := [.val true [.int .i64, .int .i64, .int .i64, .int .i64, .int .i64, .shr T_i], .val false [.int .i64]]
def rs132 : List RP := [{ src := .tmp 4, agg := false, ps := [.int .i64] }]
noncomputable def sl132 : SemL := [(62, (.shr, .shr, .shr, sem62))]
def D132 : Draws := fun _ => .nil
noncomputable def L132 {R : Type} : Loops R := fun _ _ _ _ => none
noncomputable def laws_szToken (a0c0 : Int) (a0c1 : Int) (a0c2 : Int) (a0c3 : Int) (a0c4 : Int) (a0c5 : List (Int × Unit)) (left1 : Int) : Option (Int × Unit) :=
  Option.bind (laws_szIntS a0c5 left1) fun y1 =>
  bif decide (y1.1 < (0 : Int)) then
    some ((-1 : Int), ())
  else
    some (y1.1, ())
noncomputable def x132 (x : Int × Int × Int × Int × Int × (List (Int × Unit)) × Int × Unit) : Option (Int × Unit) := laws_szToken x.1 x.2.1 x.2.2.1 x.2.2.2.1 x.2.2.2.2.1 x.2.2.2.2.2.1 x.2.2.2.2.2.2.1
noncomputable def sem132 : Sem1 := semOf ps132 rs132 x132
theorem so132 : SemsOk Try.prog (semsOf sl132) := sems_cons k62 (sems_nil)
theorem t132_eq (x : denR (headRT (ps132.map some))) : codeK (tabOf tr) (semsOf sl132) D132 L132 code132 (start 12 ps132 x) (finK rs132 ps132) = x132 x := by kernel_rfl
theorem k132 : Known Try.prog 132 sem132 :=
  fn_auto tr_ok eq_ok mixed_ok so132 (D := D132) (code := code132) (n := 12) Try.func132 (by kernel_rfl) (by kernel_rfl) (by kernel_rfl) (fun w0 mu _ hs => (loops_of (l := []) (by kernel_rfl) (List.forall_mem_nil _))) t132_eq

/-! ### f53: laws.szMate -/
noncomputable def code53 : Code := match Try.f53.body with | some c => c | none => .skip
def ps53 : List AP := [.val true [.int .i64, .int .i64, .shr T_i, .shr T_iiis, .shr T_i, .shr T_s, .int .i64, .int .i64, .int .i64, .int .i64, .int .i64, .int .i64, .int .i64, .int .i64, .int .i64, .shr T_i], .val false [.int .i64]]
def rs53 : List RP := [{ src := .tmp 4, agg := false, ps := [.int .i64] }]
noncomputable def sl53 : SemL := [(10, (.shr, .shr, .shr, sem10)), (111, (.shr, .shr, .shr, sem111)), (62, (.shr, .shr, .shr, sem62)), (131, (.shr, .shr, .shr, sem131)), (132, (.shr, .shr, .shr, sem132))]
def D53 : Draws := fun _ => .nil
noncomputable def L53 {R : Type} : Loops R := fun _ _ _ _ => none
noncomputable def laws_szMate (a0c0 : Int) (a0c1 : Int) (a0c2 : List (Int × Unit)) (a0c3 : List R_iiis) (a0c4 : List (Int × Unit)) (a0c5 : List (ByteArray × Unit)) (a0c6 : Int) (a0c7 : Int) (a0c8 : Int) (a0c9 : Int) (a0c10 : Int) (a0c11 : Int) (a0c12 : Int) (a0c13 : Int) (a0c14 : Int) (a0c15 : List (Int × Unit)) (left1 : Int) : Option (Int × Unit) :=
  Option.bind (laws_szRing a0c1 a0c2 left1) fun y1 =>
  bif decide (y1.1 < (0 : Int)) then
    some ((-1 : Int), ())
  else
    Option.bind (laws_szItemS a0c3 y1.1) fun y2 =>
    bif decide (y2.1 < (0 : Int)) then
      some ((-1 : Int), ())
    else
      Option.bind (laws_szIntS a0c4 y2.1) fun y3 =>
      bif decide (y3.1 < (0 : Int)) then
        some ((-1 : Int), ())
      else
        Option.bind (laws_szStringS a0c5 y3.1) fun y4 =>
        bif decide (y4.1 < (0 : Int)) then
          some ((-1 : Int), ())
        else
          Option.bind (laws_szToken a0c10 a0c11 a0c12 a0c13 a0c14 a0c15 y4.1) fun y5 =>
          bif decide (y5.1 < (0 : Int)) then
            some ((-1 : Int), ())
          else
            some (y5.1, ())
noncomputable def x53 (x : Int × Int × (List (Int × Unit)) × (List R_iiis) × (List (Int × Unit)) × (List (ByteArray × Unit)) × Int × Int × Int × Int × Int × Int × Int × Int × Int × (List (Int × Unit)) × Int × Unit) : Option (Int × Unit) := laws_szMate x.1 x.2.1 x.2.2.1 x.2.2.2.1 x.2.2.2.2.1 x.2.2.2.2.2.1 x.2.2.2.2.2.2.1 x.2.2.2.2.2.2.2.1 x.2.2.2.2.2.2.2.2.1 x.2.2.2.2.2.2.2.2.2.1 x.2.2.2.2.2.2.2.2.2.2.1 x.2.2.2.2.2.2.2.2.2.2.2.1 x.2.2.2.2.2.2.2.2.2.2.2.2.1 x.2.2.2.2.2.2.2.2.2.2.2.2.2.1 x.2.2.2.2.2.2.2.2.2.2.2.2.2.2.1 x.2.2.2.2.2.2.2.2.2.2.2.2.2.2.2.1 x.2.2.2.2.2.2.2.2.2.2.2.2.2.2.2.2.1
noncomputable def sem53 : Sem1 := semOf ps53 rs53 x53
theorem so53 : SemsOk Try.prog (semsOf sl53) := sems_cons k10 (sems_cons k111 (sems_cons k62 (sems_cons k131 (sems_cons k132 (sems_nil)))))
theorem t53_eq (x : denR (headRT (ps53.map some))) : codeK (tabOf tr) (semsOf sl53) D53 L53 code53 (start 36 ps53 x) (finK rs53 ps53) = x53 x := by kernel_rfl
theorem k53 : Known Try.prog 53 sem53 :=
  fn_auto tr_ok eq_ok mixed_ok so53 (D := D53) (code := code53) (n := 36) Try.func53 (by kernel_rfl) (by kernel_rfl) (by kernel_rfl) (fun w0 mu _ hs => (loops_of (l := []) (by kernel_rfl) (List.forall_mem_nil _))) t53_eq

/-! ### f66: laws.toIntS -/
noncomputable def code66 : Code := match Try.f66.body with | some c => c | none => .skip
def ps66 : List AP := [.val false [.shr T_i]]
def rs66 : List RP := [{ src := .tmp 2, agg := false, ps := [.own T_i] }]
noncomputable def sl66 : SemL := []
def D66 : Draws := fun _ => .nil
def hp66_0 : List (Option AP) := [some (.val false [.shr T_i]), none, none, some (.val false [.own T_i]), some (.val false [.int .i64]), none, none, none, none, none, none, none, none, none, none, none, none, none, none, none, none, none, none]
def e66_0 : List (Option AP) := [none, none, none, some (.val false [.own T_i]), none, none, none, none, none, none, none, none, none, none, none, none, none, none, none, none, none, none, none]
def q66_0 : List (Option AP) := [none, none, none, none, none, none, none, none, none, none, none, none, none, none, none, none, none, none, none, none, none, none, none]
abbrev H66_0 : Type := (List (Int × Unit)) × (List (Int × Unit)) × Int × Unit
abbrev E66_0 : Type := (List (Int × Unit)) × Unit
abbrev Q66_0 : Type := Unit
noncomputable def laws_toIntS_c0 (a0 : List (Int × Unit)) (out3 : List (Int × Unit)) (i4 : Int) : Option (Sum H66_0 (Sum E66_0 Q66_0)) :=
  bif decide (i4 < ((List.length a0 : Nat) : Int)) then
    bif decide ((0 : Int) ≤ i4) then Option.bind ((a0)[Int.toNat i4]?) fun r1 =>
      bif decide ((0 : Int) ≤ i4) then bif Nat.blt (Int.toNat i4) (List.length out3) then Option.bind ((out3)[Int.toNat i4]?) fun r2 =>
          some (.inl (a0, List.set out3 (Int.toNat i4) (r1.1, ()), IntKind.i64.wrap (i4 + (1 : Int)), ()))
        else none
      else none
    else none
  else
    some (.inr (.inl (out3, ())))
noncomputable def laws_toIntS_r0 (x : H66_0) : Option (Sum H66_0 (Sum E66_0 Q66_0)) := laws_toIntS_c0 x.1 x.2.1 x.2.2.1
noncomputable def L66 {R : Type} : Loops R := fun id _ st k => bif Nat.beq id 0 then loopAt hp66_0 e66_0 q66_0 laws_toIntS_r0 st k else none
noncomputable def laws_toIntS (a0 : List (Int × Unit)) : Option ((List (Int × Unit)) × Unit) :=
  bif decide (((List.length a0 : Nat) : Int) = ((List.length a0 : Nat) : Int)) then bif decide ((0 : Int) ≤ ((List.length a0 : Nat) : Int)) then bif Nat.ble ((Int.toNat ((List.length a0 : Nat) : Int)) * 8) lim then outK (loopV laws_toIntS_r0 (a0, List.replicate (Int.toNat ((List.length a0 : Nat) : Int)) ((0 : Int), ()), (0 : Int), ())) (fun y1 =>
          some (y1.1, ())) (fun y2 =>
          none)
      else none
    else none
  else none
noncomputable def x66 (x : (List (Int × Unit)) × Unit) : Option ((List (Int × Unit)) × Unit) := laws_toIntS x.1
noncomputable def sem66 : Sem1 := semOf ps66 rs66 x66
theorem so66 : SemsOk Try.prog (semsOf sl66) := sems_nil
noncomputable def b66_0 : Code := nthLoop code66 0
theorem t66_r0_eq (x : denR (headRT hp66_0)) : codeK (tabOf tr) (semsOf sl66) D66 L66 b66_0 (headSt hp66_0 x) (roundK 0 hp66_0 e66_0 q66_0) = laws_toIntS_r0 x := by kernel_rfl
theorem loop66_0 {R : Type} (r : R) (w0 : World) (mu : Mu) (hs : AnShape ps66 mu) : LoopAt Try.prog w0 mu 22 (L66 : Loops R) r 0 b66_0 :=
  loop_auto tr_ok eq_ok mixed_ok so66 (D := D66) hs (by kernel_rfl) (fun _ => (loops_of (l := []) (by kernel_rfl) (List.forall_mem_nil _))) t66_r0_eq (fun _ _ => rfl)
theorem t66_eq (x : denR (headRT (ps66.map some))) : codeK (tabOf tr) (semsOf sl66) D66 L66 code66 (start 22 ps66 x) (finK rs66 ps66) = x66 x := by kernel_rfl
theorem k66 : Known Try.prog 66 sem66 :=
  fn_auto tr_ok eq_ok mixed_ok so66 (D := D66) (code := code66) (n := 22) Try.func66 (by kernel_rfl) (by kernel_rfl) (by kernel_rfl) (fun w0 mu _ hs => (loops_of (l := [(0, b66_0)]) (by kernel_rfl) (List.forall_mem_cons.2 ⟨loop66_0 _ w0 mu hs, (List.forall_mem_nil _)⟩))) t66_eq

/-! ### f12: laws.toRing -/
noncomputable def code12 : Code := match Try.f12.body with | some c => c | none => .skip
def ps12 : List AP := [.val true [.int .i64, .shr T_i]]
def rs12 : List RP := [{ src := .cell 2, agg := true, ps := [.int .i64, .own T_i] }]
noncomputable def sl12 : SemL := [(66, (.shr, .shr, .shr, sem66))]
def D12 : Draws := fun _ => .nil
noncomputable def L12 {R : Type} : Loops R := fun _ _ _ _ => none
noncomputable def laws_toRing (a0c0 : Int) (a0c1 : List (Int × Unit)) : Option (Int × (List (Int × Unit)) × Unit) :=
  Option.bind (laws_toIntS a0c1) fun y1 =>
  some (a0c0, y1.1, ())
noncomputable def x12 (x : Int × (List (Int × Unit)) × Unit) : Option (Int × (List (Int × Unit)) × Unit) := laws_toRing x.1 x.2.1
noncomputable def sem12 : Sem1 := semOf ps12 rs12 x12
theorem so12 : SemsOk Try.prog (semsOf sl12) := sems_cons k66 (sems_nil)
theorem t12_eq (x : denR (headRT (ps12.map some))) : codeK (tabOf tr) (semsOf sl12) D12 L12 code12 (start 12 ps12 x) (finK rs12 ps12) = x12 x := by kernel_rfl
theorem k12 : Known Try.prog 12 sem12 :=
  fn_auto tr_ok eq_ok mixed_ok so12 (D := D12) (code := code12) (n := 12) Try.func12 (by kernel_rfl) (by kernel_rfl) (by kernel_rfl) (fun w0 mu _ hs => (loops_of (l := []) (by kernel_rfl) (List.forall_mem_nil _))) t12_eq

/-! ### f57: laws.toItem -/
noncomputable def code57 : Code := match Try.f57.body with | some c => c | none => .skip
def ps57 : List AP := [.val true [.int .i64, .int .i64, .int .i64, .str]]
def rs57 : List RP := [{ src := .cell 2, agg := true, ps := [.int .i64, .int .i64, .int .i64, .str] }]
noncomputable def sl57 : SemL := []
def D57 : Draws := fun _ => .nil
noncomputable def L57 {R : Type} : Loops R := fun _ _ _ _ => none
noncomputable def laws_toItem (a0c0 : Int) (a0c1 : Int) (a0c2 : Int) (a0c3 : ByteArray) : Option (Int × Int × Int × ByteArray × Unit) :=
  some (a0c0, a0c1, a0c2, a0c3, ())
noncomputable def x57 (x : Int × Int × Int × ByteArray × Unit) : Option (Int × Int × Int × ByteArray × Unit) := laws_toItem x.1 x.2.1 x.2.2.1 x.2.2.2.1
noncomputable def sem57 : Sem1 := semOf ps57 rs57 x57
theorem so57 : SemsOk Try.prog (semsOf sl57) := sems_nil
theorem t57_eq (x : denR (headRT (ps57.map some))) : codeK (tabOf tr) (semsOf sl57) D57 L57 code57 (start 17 ps57 x) (finK rs57 ps57) = x57 x := by kernel_rfl
theorem k57 : Known Try.prog 57 sem57 :=
  fn_auto tr_ok eq_ok mixed_ok so57 (D := D57) (code := code57) (n := 17) Try.func57 (by kernel_rfl) (by kernel_rfl) (by kernel_rfl) (fun w0 mu _ hs => (loops_of (l := []) (by kernel_rfl) (List.forall_mem_nil _))) t57_eq

/-! ### f118: laws.toItemS -/
noncomputable def code118 : Code := match Try.f118.body with | some c => c | none => .skip
def ps118 : List AP := [.val false [.shr T_iiis]]
def rs118 : List RP := [{ src := .tmp 2, agg := false, ps := [.own T_iiis] }]
noncomputable def sl118 : SemL := [(57, (.shr, .shr, .shr, sem57))]
def D118 : Draws := fun _ => .nil
def hp118_0 : List (Option AP) := [some (.val false [.shr T_iiis]), none, none, some (.val false [.own T_iiis]), some (.val false [.int .i64]), none, none, none, none, none, none, none, none, none, none, none, none, none, none, none, none, none, none, none]
def e118_0 : List (Option AP) := [none, none, none, some (.val false [.own T_iiis]), none, none, none, none, none, none, none, none, none, none, none, none, none, none, none, none, none, none, none, none]
def q118_0 : List (Option AP) := [none, none, none, none, none, none, none, none, none, none, none, none, none, none, none, none, none, none, none, none, none, none, none, none]
abbrev H118_0 : Type := (List R_iiis) × (List R_iiis) × Int × Unit
abbrev E118_0 : Type := (List R_iiis) × Unit
abbrev Q118_0 : Type := Unit
noncomputable def laws_toItemS_c0 (a0 : List R_iiis) (out3 : List R_iiis) (i4 : Int) : Option (Sum H118_0 (Sum E118_0 Q118_0)) :=
  bif decide (i4 < ((List.length a0 : Nat) : Int)) then
    bif decide ((0 : Int) ≤ i4) then Option.bind ((a0)[Int.toNat i4]?) fun r1 =>
      Option.bind (laws_toItem r1.1 r1.2.1 r1.2.2.1 r1.2.2.2.1) fun y2 =>
      bif decide ((0 : Int) ≤ i4) then bif Nat.blt (Int.toNat i4) (List.length out3) then Option.bind ((out3)[Int.toNat i4]?) fun r3 =>
          some (.inl (a0, List.set out3 (Int.toNat i4) (y2.1, y2.2.1, y2.2.2.1, y2.2.2.2.1, ()), IntKind.i64.wrap (i4 + (1 : Int)), ()))
        else none
      else none
    else none
  else
    some (.inr (.inl (out3, ())))
noncomputable def laws_toItemS_r0 (x : H118_0) : Option (Sum H118_0 (Sum E118_0 Q118_0)) := laws_toItemS_c0 x.1 x.2.1 x.2.2.1
noncomputable def L118 {R : Type} : Loops R := fun id _ st k => bif Nat.beq id 0 then loopAt hp118_0 e118_0 q118_0 laws_toItemS_r0 st k else none
noncomputable def laws_toItemS (a0 : List R_iiis) : Option ((List R_iiis) × Unit) :=
  bif decide (((List.length a0 : Nat) : Int) = ((List.length a0 : Nat) : Int)) then bif decide ((0 : Int) ≤ ((List.length a0 : Nat) : Int)) then bif Nat.ble ((Int.toNat ((List.length a0 : Nat) : Int)) * 40) lim then outK (loopV laws_toItemS_r0 (a0, List.replicate (Int.toNat ((List.length a0 : Nat) : Int)) ((0 : Int), (0 : Int), (0 : Int), ByteArray.empty, ()), (0 : Int), ())) (fun y1 =>
          some (y1.1, ())) (fun y2 =>
          none)
      else none
    else none
  else none
noncomputable def x118 (x : (List R_iiis) × Unit) : Option ((List R_iiis) × Unit) := laws_toItemS x.1
noncomputable def sem118 : Sem1 := semOf ps118 rs118 x118
theorem so118 : SemsOk Try.prog (semsOf sl118) := sems_cons k57 (sems_nil)
noncomputable def b118_0 : Code := nthLoop code118 0
theorem t118_r0_eq (x : denR (headRT hp118_0)) : codeK (tabOf tr) (semsOf sl118) D118 L118 b118_0 (headSt hp118_0 x) (roundK 0 hp118_0 e118_0 q118_0) = laws_toItemS_r0 x := by kernel_rfl
theorem loop118_0 {R : Type} (r : R) (w0 : World) (mu : Mu) (hs : AnShape ps118 mu) : LoopAt Try.prog w0 mu 23 (L118 : Loops R) r 0 b118_0 :=
  loop_auto tr_ok eq_ok mixed_ok so118 (D := D118) hs (by kernel_rfl) (fun _ => (loops_of (l := []) (by kernel_rfl) (List.forall_mem_nil _))) t118_r0_eq (fun _ _ => rfl)
theorem t118_eq (x : denR (headRT (ps118.map some))) : codeK (tabOf tr) (semsOf sl118) D118 L118 code118 (start 23 ps118 x) (finK rs118 ps118) = x118 x := by kernel_rfl
theorem k118 : Known Try.prog 118 sem118 :=
  fn_auto tr_ok eq_ok mixed_ok so118 (D := D118) (code := code118) (n := 23) Try.func118 (by kernel_rfl) (by kernel_rfl) (by kernel_rfl) (fun w0 mu _ hs => (loops_of (l := [(0, b118_0)]) (by kernel_rfl) (List.forall_mem_cons.2 ⟨loop118_0 _ w0 mu hs, (List.forall_mem_nil _)⟩))) t118_eq

/-! ### f136: laws.toStringS -/
noncomputable def code136 : Code := match Try.f136.body with | some c => c | none => .skip
def ps136 : List AP := [.val false [.shr T_s]]
def rs136 : List RP := [{ src := .tmp 2, agg := false, ps := [.own T_s] }]
noncomputable def sl136 : SemL := []
def D136 : Draws := fun _ => .nil
def hp136_0 : List (Option AP) := [some (.val false [.shr T_s]), none, none, some (.val false [.own T_s]), some (.val false [.int .i64]), none, none, none, none, none, none, none, none, none, none, none, none, none, none, none, none, none, none]
def e136_0 : List (Option AP) := [none, none, none, some (.val false [.own T_s]), none, none, none, none, none, none, none, none, none, none, none, none, none, none, none, none, none, none, none]
def q136_0 : List (Option AP) := [none, none, none, none, none, none, none, none, none, none, none, none, none, none, none, none, none, none, none, none, none, none, none]
abbrev H136_0 : Type := (List (ByteArray × Unit)) × (List (ByteArray × Unit)) × Int × Unit
abbrev E136_0 : Type := (List (ByteArray × Unit)) × Unit
abbrev Q136_0 : Type := Unit
noncomputable def laws_toStringS_c0 (a0 : List (ByteArray × Unit)) (out3 : List (ByteArray × Unit)) (i4 : Int) : Option (Sum H136_0 (Sum E136_0 Q136_0)) :=
  bif decide (i4 < ((List.length a0 : Nat) : Int)) then
    bif decide ((0 : Int) ≤ i4) then Option.bind ((a0)[Int.toNat i4]?) fun r1 =>
      bif decide ((0 : Int) ≤ i4) then bif Nat.blt (Int.toNat i4) (List.length out3) then Option.bind ((out3)[Int.toNat i4]?) fun r2 =>
          some (.inl (a0, List.set out3 (Int.toNat i4) (r1.1, ()), IntKind.i64.wrap (i4 + (1 : Int)), ()))
        else none
      else none
    else none
  else
    some (.inr (.inl (out3, ())))
noncomputable def laws_toStringS_r0 (x : H136_0) : Option (Sum H136_0 (Sum E136_0 Q136_0)) := laws_toStringS_c0 x.1 x.2.1 x.2.2.1
noncomputable def L136 {R : Type} : Loops R := fun id _ st k => bif Nat.beq id 0 then loopAt hp136_0 e136_0 q136_0 laws_toStringS_r0 st k else none
noncomputable def laws_toStringS (a0 : List (ByteArray × Unit)) : Option ((List (ByteArray × Unit)) × Unit) :=
  bif decide (((List.length a0 : Nat) : Int) = ((List.length a0 : Nat) : Int)) then bif decide ((0 : Int) ≤ ((List.length a0 : Nat) : Int)) then bif Nat.ble ((Int.toNat ((List.length a0 : Nat) : Int)) * 16) lim then outK (loopV laws_toStringS_r0 (a0, List.replicate (Int.toNat ((List.length a0 : Nat) : Int)) (ByteArray.empty, ()), (0 : Int), ())) (fun y1 =>
          some (y1.1, ())) (fun y2 =>
          none)
      else none
    else none
  else none
noncomputable def x136 (x : (List (ByteArray × Unit)) × Unit) : Option ((List (ByteArray × Unit)) × Unit) := laws_toStringS x.1
noncomputable def sem136 : Sem1 := semOf ps136 rs136 x136
theorem so136 : SemsOk Try.prog (semsOf sl136) := sems_nil
noncomputable def b136_0 : Code := nthLoop code136 0
theorem t136_r0_eq (x : denR (headRT hp136_0)) : codeK (tabOf tr) (semsOf sl136) D136 L136 b136_0 (headSt hp136_0 x) (roundK 0 hp136_0 e136_0 q136_0) = laws_toStringS_r0 x := by kernel_rfl
theorem loop136_0 {R : Type} (r : R) (w0 : World) (mu : Mu) (hs : AnShape ps136 mu) : LoopAt Try.prog w0 mu 22 (L136 : Loops R) r 0 b136_0 :=
  loop_auto tr_ok eq_ok mixed_ok so136 (D := D136) hs (by kernel_rfl) (fun _ => (loops_of (l := []) (by kernel_rfl) (List.forall_mem_nil _))) t136_r0_eq (fun _ _ => rfl)
theorem t136_eq (x : denR (headRT (ps136.map some))) : codeK (tabOf tr) (semsOf sl136) D136 L136 code136 (start 22 ps136 x) (finK rs136 ps136) = x136 x := by kernel_rfl
theorem k136 : Known Try.prog 136 sem136 :=
  fn_auto tr_ok eq_ok mixed_ok so136 (D := D136) (code := code136) (n := 22) Try.func136 (by kernel_rfl) (by kernel_rfl) (by kernel_rfl) (fun w0 mu _ hs => (loops_of (l := [(0, b136_0)]) (by kernel_rfl) (List.forall_mem_cons.2 ⟨loop136_0 _ w0 mu hs, (List.forall_mem_nil _)⟩))) t136_eq

/-! ### f137: laws.toToken -/
noncomputable def code137 : Code := match Try.f137.body with | some c => c | none => .skip
def ps137 : List AP := [.val true [.int .i64, .int .i64, .int .i64, .int .i64, .int .i64, .shr T_i]]
def rs137 : List RP := [{ src := .cell 2, agg := true, ps := [.int .i64, .int .i64, .int .i64, .int .i64, .int .i64, .own T_i] }]
noncomputable def sl137 : SemL := [(66, (.shr, .shr, .shr, sem66))]
def D137 : Draws := fun _ => .nil
noncomputable def L137 {R : Type} : Loops R := fun _ _ _ _ => none
noncomputable def laws_toToken (a0c0 : Int) (a0c1 : Int) (a0c2 : Int) (a0c3 : Int) (a0c4 : Int) (a0c5 : List (Int × Unit)) : Option (Int × Int × Int × Int × Int × (List (Int × Unit)) × Unit) :=
  Option.bind (laws_toIntS a0c5) fun y1 =>
  some (a0c0, a0c1, a0c2, a0c3, a0c4, y1.1, ())
noncomputable def x137 (x : Int × Int × Int × Int × Int × (List (Int × Unit)) × Unit) : Option (Int × Int × Int × Int × Int × (List (Int × Unit)) × Unit) := laws_toToken x.1 x.2.1 x.2.2.1 x.2.2.2.1 x.2.2.2.2.1 x.2.2.2.2.2.1
noncomputable def sem137 : Sem1 := semOf ps137 rs137 x137
theorem so137 : SemsOk Try.prog (semsOf sl137) := sems_cons k66 (sems_nil)
theorem t137_eq (x : denR (headRT (ps137.map some))) : codeK (tabOf tr) (semsOf sl137) D137 L137 code137 (start 24 ps137 x) (finK rs137 ps137) = x137 x := by kernel_rfl
theorem k137 : Known Try.prog 137 sem137 :=
  fn_auto tr_ok eq_ok mixed_ok so137 (D := D137) (code := code137) (n := 24) Try.func137 (by kernel_rfl) (by kernel_rfl) (by kernel_rfl) (fun w0 mu _ hs => (loops_of (l := []) (by kernel_rfl) (List.forall_mem_nil _))) t137_eq

/-! ### f56: laws.toMate -/
noncomputable def code56 : Code := match Try.f56.body with | some c => c | none => .skip
def ps56 : List AP := [.val true [.int .i64, .int .i64, .shr T_i, .shr T_iiis, .shr T_i, .shr T_s, .int .i64, .int .i64, .int .i64, .int .i64, .int .i64, .int .i64, .int .i64, .int .i64, .int .i64, .shr T_i]]
def rs56 : List RP := [{ src := .cell 2, agg := true, ps := [.int .i64, .int .i64, .own T_i, .own T_iiis, .own T_i, .own T_s, .int .i64, .int .i64, .int .i64, .int .i64, .int .i64, .int .i64, .int .i64, .int .i64, .int .i64, .own T_i] }]
noncomputable def sl56 : SemL := [(12, (.shr, .shr, .shr, sem12)), (118, (.shr, .shr, .shr, sem118)), (66, (.shr, .shr, .shr, sem66)), (136, (.shr, .shr, .shr, sem136)), (137, (.shr, .shr, .shr, sem137))]
def D56 : Draws := fun _ => .nil
noncomputable def L56 {R : Type} : Loops R := fun _ _ _ _ => none
noncomputable def laws_toMate (a0c0 : Int) (a0c1 : Int) (a0c2 : List (Int × Unit)) (a0c3 : List R_iiis) (a0c4 : List (Int × Unit)) (a0c5 : List (ByteArray × Unit)) (a0c6 : Int) (a0c7 : Int) (a0c8 : Int) (a0c9 : Int) (a0c10 : Int) (a0c11 : Int) (a0c12 : Int) (a0c13 : Int) (a0c14 : Int) (a0c15 : List (Int × Unit)) : Option (Int × Int × (List (Int × Unit)) × (List R_iiis) × (List (Int × Unit)) × (List (ByteArray × Unit)) × Int × Int × Int × Int × Int × Int × Int × Int × Int × (List (Int × Unit)) × Unit) :=
  Option.bind (laws_toRing a0c1 a0c2) fun y1 =>
  Option.bind (laws_toItemS a0c3) fun y2 =>
  Option.bind (laws_toIntS a0c4) fun y3 =>
  Option.bind (laws_toStringS a0c5) fun y4 =>
  Option.bind (laws_toToken a0c10 a0c11 a0c12 a0c13 a0c14 a0c15) fun y5 =>
  some (a0c0, y1.1, y1.2.1, y2.1, y3.1, y4.1, a0c6, a0c7, a0c8, a0c9, y5.1, y5.2.1, y5.2.2.1, y5.2.2.2.1, y5.2.2.2.2.1, y5.2.2.2.2.2.1, ())
noncomputable def x56 (x : Int × Int × (List (Int × Unit)) × (List R_iiis) × (List (Int × Unit)) × (List (ByteArray × Unit)) × Int × Int × Int × Int × Int × Int × Int × Int × Int × (List (Int × Unit)) × Unit) : Option (Int × Int × (List (Int × Unit)) × (List R_iiis) × (List (Int × Unit)) × (List (ByteArray × Unit)) × Int × Int × Int × Int × Int × Int × Int × Int × Int × (List (Int × Unit)) × Unit) := laws_toMate x.1 x.2.1 x.2.2.1 x.2.2.2.1 x.2.2.2.2.1 x.2.2.2.2.2.1 x.2.2.2.2.2.2.1 x.2.2.2.2.2.2.2.1 x.2.2.2.2.2.2.2.2.1 x.2.2.2.2.2.2.2.2.2.1 x.2.2.2.2.2.2.2.2.2.2.1 x.2.2.2.2.2.2.2.2.2.2.2.1 x.2.2.2.2.2.2.2.2.2.2.2.2.1 x.2.2.2.2.2.2.2.2.2.2.2.2.2.1 x.2.2.2.2.2.2.2.2.2.2.2.2.2.2.1 x.2.2.2.2.2.2.2.2.2.2.2.2.2.2.2.1
noncomputable def sem56 : Sem1 := semOf ps56 rs56 x56
theorem so56 : SemsOk Try.prog (semsOf sl56) := sems_cons k12 (sems_cons k118 (sems_cons k66 (sems_cons k136 (sems_cons k137 (sems_nil)))))
theorem t56_eq (x : denR (headRT (ps56.map some))) : codeK (tabOf tr) (semsOf sl56) D56 L56 code56 (start 40 ps56 x) (finK rs56 ps56) = x56 x := by kernel_rfl
theorem k56 : Known Try.prog 56 sem56 :=
  fn_auto tr_ok eq_ok mixed_ok so56 (D := D56) (code := code56) (n := 40) Try.func56 (by kernel_rfl) (by kernel_rfl) (by kernel_rfl) (fun w0 mu _ hs => (loops_of (l := []) (by kernel_rfl) (List.forall_mem_nil _))) t56_eq

/-! ### f173: spec.l05CopyToken -/
noncomputable def code173 : Code := match Try.f173.body with | some c => c | none => .skip
def ps173 : List AP := [.val true [.int .i64, .int .i64, .int .i64, .int .i64, .int .i64, .shr T_i]]
def rs173 : List RP := [{ src := .cell 2, agg := true, ps := [.int .i64, .int .i64, .int .i64, .int .i64, .int .i64, .own T_i] }]
noncomputable def sl173 : SemL := []
def D173 : Draws := fun _ => .nil
noncomputable def L173 {R : Type} : Loops R := fun _ _ _ _ => none
noncomputable def spec_l05CopyToken (t0c0 : Int) (t0c1 : Int) (t0c2 : Int) (t0c3 : Int) (t0c4 : Int) (t0c5 : List (Int × Unit)) : Option (Int × Int × Int × Int × Int × (List (Int × Unit)) × Unit) :=
  bif Nat.ble ((0 + (List.length t0c5)) * 8) lim then some (t0c0, t0c1, t0c2, t0c3, t0c4, [] ++ t0c5, ())
  else none
noncomputable def x173 (x : Int × Int × Int × Int × Int × (List (Int × Unit)) × Unit) : Option (Int × Int × Int × Int × Int × (List (Int × Unit)) × Unit) := spec_l05CopyToken x.1 x.2.1 x.2.2.1 x.2.2.2.1 x.2.2.2.2.1 x.2.2.2.2.2.1
noncomputable def sem173 : Sem1 := semOf ps173 rs173 x173
theorem so173 : SemsOk Try.prog (semsOf sl173) := sems_nil
theorem t173_eq (x : denR (headRT (ps173.map some))) : codeK (tabOf tr) (semsOf sl173) D173 L173 code173 (start 9 ps173 x) (finK rs173 ps173) = x173 x := by kernel_rfl
theorem k173 : Known Try.prog 173 sem173 :=
  fn_auto tr_ok eq_ok mixed_ok so173 (D := D173) (code := code173) (n := 9) Try.func173 (by kernel_rfl) (by kernel_rfl) (by kernel_rfl) (fun w0 mu _ hs => (loops_of (l := []) (by kernel_rfl) (List.forall_mem_nil _))) t173_eq

/-! ### f133: spec.l10Copy -/
noncomputable def code133 : Code := match Try.f133.body with | some c => c | none => .skip
def ps133 : List AP := [.val true [.int .i64, .int .i64, .shr T_i, .shr T_iiis, .shr T_i, .shr T_s, .int .i64, .int .i64, .int .i64, .int .i64, .int .i64, .int .i64, .int .i64, .int .i64, .int .i64, .shr T_i]]
def rs133 : List RP := [{ src := .cell 2, agg := true, ps := [.int .i64, .int .i64, .own T_i, .own T_iiis, .own T_i, .own T_s, .int .i64, .int .i64, .int .i64, .int .i64, .int .i64, .int .i64, .int .i64, .int .i64, .int .i64, .own T_i] }]
noncomputable def sl133 : SemL := [(173, (.shr, .shr, .shr, sem173))]
def D133 : Draws := fun _ => .nil
noncomputable def L133 {R : Type} : Loops R := fun _ _ _ _ => none
noncomputable def spec_l10Copy (m0c0 : Int) (m0c1 : Int) (m0c2 : List (Int × Unit)) (m0c3 : List R_iiis) (m0c4 : List (Int × Unit)) (m0c5 : List (ByteArray × Unit)) (m0c6 : Int) (m0c7 : Int) (m0c8 : Int) (m0c9 : Int) (m0c10 : Int) (m0c11 : Int) (m0c12 : Int) (m0c13 : Int) (m0c14 : Int) (m0c15 : List (Int × Unit)) : Option (Int × Int × (List (Int × Unit)) × (List R_iiis) × (List (Int × Unit)) × (List (ByteArray × Unit)) × Int × Int × Int × Int × Int × Int × Int × Int × Int × (List (Int × Unit)) × Unit) :=
  bif Nat.ble ((0 + (List.length m0c2)) * 8) lim then bif Nat.ble ((0 + (List.length m0c3)) * 40) lim then bif Nat.ble ((0 + (List.length m0c4)) * 8) lim then bif Nat.ble ((0 + (List.length m0c5)) * 16) lim then Option.bind (spec_l05CopyToken m0c10 m0c11 m0c12 m0c13 m0c14 m0c15) fun y1 =>
          some (m0c0, m0c1, [] ++ m0c2, [] ++ m0c3, [] ++ m0c4, [] ++ m0c5, m0c6, m0c7, m0c8, m0c9, y1.1, y1.2.1, y1.2.2.1, y1.2.2.2.1, y1.2.2.2.2.1, y1.2.2.2.2.2.1, ())
        else none
      else none
    else none
  else none
noncomputable def x133 (x : Int × Int × (List (Int × Unit)) × (List R_iiis) × (List (Int × Unit)) × (List (ByteArray × Unit)) × Int × Int × Int × Int × Int × Int × Int × Int × Int × (List (Int × Unit)) × Unit) : Option (Int × Int × (List (Int × Unit)) × (List R_iiis) × (List (Int × Unit)) × (List (ByteArray × Unit)) × Int × Int × Int × Int × Int × Int × Int × Int × Int × (List (Int × Unit)) × Unit) := spec_l10Copy x.1 x.2.1 x.2.2.1 x.2.2.2.1 x.2.2.2.2.1 x.2.2.2.2.2.1 x.2.2.2.2.2.2.1 x.2.2.2.2.2.2.2.1 x.2.2.2.2.2.2.2.2.1 x.2.2.2.2.2.2.2.2.2.1 x.2.2.2.2.2.2.2.2.2.2.1 x.2.2.2.2.2.2.2.2.2.2.2.1 x.2.2.2.2.2.2.2.2.2.2.2.2.1 x.2.2.2.2.2.2.2.2.2.2.2.2.2.1 x.2.2.2.2.2.2.2.2.2.2.2.2.2.2.1 x.2.2.2.2.2.2.2.2.2.2.2.2.2.2.2.1
noncomputable def sem133 : Sem1 := semOf ps133 rs133 x133
theorem so133 : SemsOk Try.prog (semsOf sl133) := sems_cons k173 (sems_nil)
theorem t133_eq (x : denR (headRT (ps133.map some))) : codeK (tabOf tr) (semsOf sl133) D133 L133 code133 (start 30 ps133 x) (finK rs133 ps133) = x133 x := by kernel_rfl
theorem k133 : Known Try.prog 133 sem133 :=
  fn_auto tr_ok eq_ok mixed_ok so133 (D := D133) (code := code133) (n := 30) Try.func133 (by kernel_rfl) (by kernel_rfl) (by kernel_rfl) (fun w0 mu _ hs => (loops_of (l := []) (by kernel_rfl) (List.forall_mem_nil _))) t133_eq

/-! ### f144: spec.l01In -/
noncomputable def code144 : Code := match Try.f144.body with | some c => c | none => .skip
def ps144 : List AP := [.val false [.int .i64], .val false [.int .i64], .val false [.int .i64]]
def rs144 : List RP := [{ src := .tmp 6, agg := false, ps := [.bool] }]
noncomputable def sl144 : SemL := []
def D144 : Draws := fun _ => .nil
noncomputable def L144 {R : Type} : Loops R := fun _ _ _ _ => none
noncomputable def spec_l01In (x0 : Int) (least1 : Int) (most2 : Int) : Option (Bool × Unit) :=
  bif decide (least1 ≤ x0) then
    some (decide (x0 ≤ most2), ())
  else
    some (false, ())
noncomputable def x144 (x : Int × Int × Int × Unit) : Option (Bool × Unit) := spec_l01In x.1 x.2.1 x.2.2.1
noncomputable def sem144 : Sem1 := semOf ps144 rs144 x144
theorem so144 : SemsOk Try.prog (semsOf sl144) := sems_nil
theorem t144_eq (x : denR (headRT (ps144.map some))) : codeK (tabOf tr) (semsOf sl144) D144 L144 code144 (start 15 ps144 x) (finK rs144 ps144) = x144 x := by kernel_rfl
theorem k144 : Known Try.prog 144 sem144 :=
  fn_auto tr_ok eq_ok mixed_ok so144 (D := D144) (code := code144) (n := 15) Try.func144 (by kernel_rfl) (by kernel_rfl) (by kernel_rfl) (fun w0 mu _ hs => (loops_of (l := []) (by kernel_rfl) (List.forall_mem_nil _))) t144_eq

/-! ### f63: spec.RingOk -/
noncomputable def code63 : Code := match Try.f63.body with | some c => c | none => .skip
def ps63 : List AP := [.val true [.int .i64, .shr T_i]]
def rs63 : List RP := [{ src := .tmp 2, agg := false, ps := [.bool] }]
noncomputable def sl63 : SemL := [(144, (.shr, .shr, .shr, sem144))]
def D63 : Draws := fun id => bif Nat.beq id 6 then .op 0 .any (.op 1 .take (.op 2 .any (.op 3 .any (.op 4 .take (.op 5 .one (.op 6 .any (.op 7 .any (.op 8 .any (.op 9 .any (.op 10 .any (.op 11 .any (.op 12 .take (.op 13 .any (.op 14 .any (.op 15 .any (.op 16 .take (.op 17 .any (.op 18 .take (.op 19 .any (.op 20 .any (.op 21 .take (.op 22 .any (.op 23 .any (.op 24 .any (.nil))))))))))))))))))))))))) else .nil
def hp63_0 : List (Option AP) := [none, some (.box false [.int .i64, .shr T_i]), none, some (.val false [.int .i64]), none, none, none, none, none, none, none, none, none, none, none, none, none, none, none, none, none, none, none, none, none, none, none, none, none, none, none, none, none, none, none, none, none, none, none, none, none, none, none, none, none, none, none, none]
def e63_0 : List (Option AP) := [none, none, none, none, none, none, none, none, none, none, none, none, none, none, none, none, none, none, none, none, none, none, none, none, none, none, none, none, none, none, none, none, none, none, none, none, none, none, none, none, none, none, none, none, none, none, none, none]
def q63_0 : List (Option AP) := [none, none, some (.val false [.bool]), none, none, none, none, none, none, none, none, none, none, none, none, none, none, none, none, none, none, none, none, none, none, none, none, none, none, none, none, none, none, none, none, none, none, none, none, none, none, none, none, none, none, none, none, none]
abbrev H63_0 : Type := Int × (List (Int × Unit)) × Int × Unit
abbrev E63_0 : Type := Unit
abbrev Q63_0 : Type := Bool × Unit
noncomputable def spec_RingOk_c0 (r1c0 : Int) (r1c1 : List (Int × Unit)) (i3 : Int) : Option (Sum H63_0 (Sum E63_0 Q63_0)) :=
  bif decide (i3 < ((List.length r1c1 : Nat) : Int)) then
    bif decide ((0 : Int) ≤ i3) then Option.bind ((r1c1)[Int.toNat i3]?) fun r3 =>
      Option.bind (spec_l01In r3.1 (1 : Int) (5 : Int)) fun y4 =>
      bif !y4.1 then
        some (.inr (.inr (false, ())))
      else bif decide ((0 : Int) < i3) then
        bif decide ((0 : Int) ≤ IntKind.i64.wrap (i3 - (1 : Int))) then Option.bind ((r1c1)[Int.toNat (IntKind.i64.wrap (i3 - (1 : Int)))]?) fun r5 =>
          bif decide ((0 : Int) ≤ i3) then Option.bind ((r1c1)[Int.toNat i3]?) fun r6 =>
            bif decide (r6.1 ≤ r5.1) then
              some (.inr (.inr (false, ())))
            else
              some (.inl (r1c0, r1c1, IntKind.i64.wrap (i3 + (1 : Int)), ()))
          else none
        else none
      else
        some (.inl (r1c0, r1c1, IntKind.i64.wrap (i3 + (1 : Int)), ()))
    else none
  else
    some (.inr (.inl (())))
noncomputable def spec_RingOk_r0 (x : H63_0) : Option (Sum H63_0 (Sum E63_0 Q63_0)) := spec_RingOk_c0 x.1 x.2.1 x.2.2.1
noncomputable def L63 {R : Type} : Loops R := fun id _ st k => bif Nat.beq id 0 then loopAt hp63_0 e63_0 q63_0 spec_RingOk_r0 st k else none
noncomputable def spec_RingOk (r0c0 : Int) (r0c1 : List (Int × Unit)) : Option (Bool × Unit) :=
  Option.bind (spec_l01In r0c0 (1 : Int) (9 : Int)) fun y1 =>
  bif !y1.1 then
    some (false, ())
  else
    Option.bind (spec_l01In ((List.length r0c1 : Nat) : Int) (1 : Int) (5 : Int)) fun y2 =>
    bif !y2.1 then
      some (false, ())
    else
      outK (loopV spec_RingOk_r0 (r0c0, r0c1, (0 : Int), ())) (fun y3 =>
        some (true, ())) (fun y4 =>
        some (y4.1, ()))
noncomputable def x63 (x : Int × (List (Int × Unit)) × Unit) : Option (Bool × Unit) := spec_RingOk x.1 x.2.1
noncomputable def sem63 : Sem1 := semOf ps63 rs63 x63
theorem so63 : SemsOk Try.prog (semsOf sl63) := sems_cons k144 (sems_nil)
noncomputable def b63_0 : Code := nthLoop code63 0
theorem t63_r0_eq (x : denR (headRT hp63_0)) : codeK (tabOf tr) (semsOf sl63) D63 L63 b63_0 (headSt hp63_0 x) (roundK 0 hp63_0 e63_0 q63_0) = spec_RingOk_r0 x := by kernel_rfl
theorem loop63_0 {R : Type} (r : R) (w0 : World) (mu : Mu) (hs : AnShape ps63 mu) : LoopAt Try.prog w0 mu 47 (L63 : Loops R) r 0 b63_0 :=
  loop_auto tr_ok eq_ok mixed_ok so63 (D := D63) hs (by kernel_rfl) (fun _ => (loops_of (l := []) (by kernel_rfl) (List.forall_mem_nil _))) t63_r0_eq (fun _ _ => rfl)
theorem t63_eq (x : denR (headRT (ps63.map some))) : codeK (tabOf tr) (semsOf sl63) D63 L63 code63 (start 47 ps63 x) (finK rs63 ps63) = x63 x := by kernel_rfl
theorem k63 : Known Try.prog 63 sem63 :=
  fn_auto tr_ok eq_ok mixed_ok so63 (D := D63) (code := code63) (n := 47) Try.func63 (by kernel_rfl) (by kernel_rfl) (by kernel_rfl) (fun w0 mu _ hs => (loops_of (l := [(0, b63_0)]) (by kernel_rfl) (List.forall_mem_cons.2 ⟨loop63_0 _ w0 mu hs, (List.forall_mem_nil _)⟩))) t63_eq

/-! ### f145: spec.l05In -/
noncomputable def code145 : Code := match Try.f145.body with | some c => c | none => .skip
def ps145 : List AP := [.val false [.shr T_i], .val false [.int .i64]]
def rs145 : List RP := [{ src := .tmp 4, agg := false, ps := [.bool] }]
noncomputable def sl145 : SemL := []
def D145 : Draws := fun _ => .nil
def hp145_0 : List (Option AP) := [some (.val false [.shr T_i]), some (.val false [.int .i64]), none, none, none, some (.val false [.int .i64]), none, none, none, none, none, none, none, none, none, none, none, none, none]
def e145_0 : List (Option AP) := [none, none, none, none, none, none, none, none, none, none, none, none, none, none, none, none, none, none, none]
def q145_0 : List (Option AP) := [none, none, none, none, some (.val false [.bool]), none, none, none, none, none, none, none, none, none, none, none, none, none, none]
abbrev H145_0 : Type := (List (Int × Unit)) × Int × Int × Unit
abbrev E145_0 : Type := Unit
abbrev Q145_0 : Type := Bool × Unit
noncomputable def spec_l05In_c0 (list0 : List (Int × Unit)) (x1 : Int) (i5 : Int) : Option (Sum H145_0 (Sum E145_0 Q145_0)) :=
  bif decide (i5 < ((List.length list0 : Nat) : Int)) then
    bif decide ((0 : Int) ≤ i5) then Option.bind ((list0)[Int.toNat i5]?) fun r1 =>
      bif decide (r1.1 = x1) then
        some (.inr (.inr (true, ())))
      else
        some (.inl (list0, x1, IntKind.i64.wrap (i5 + (1 : Int)), ()))
    else none
  else
    some (.inr (.inl (())))
noncomputable def spec_l05In_r0 (x : H145_0) : Option (Sum H145_0 (Sum E145_0 Q145_0)) := spec_l05In_c0 x.1 x.2.1 x.2.2.1
noncomputable def L145 {R : Type} : Loops R := fun id _ st k => bif Nat.beq id 0 then loopAt hp145_0 e145_0 q145_0 spec_l05In_r0 st k else none
noncomputable def spec_l05In (list0 : List (Int × Unit)) (x1 : Int) : Option (Bool × Unit) :=
  outK (loopV spec_l05In_r0 (list0, x1, (0 : Int), ())) (fun y1 =>
    some (false, ())) (fun y2 =>
    some (y2.1, ()))
noncomputable def x145 (x : (List (Int × Unit)) × Int × Unit) : Option (Bool × Unit) := spec_l05In x.1 x.2.1
noncomputable def sem145 : Sem1 := semOf ps145 rs145 x145
theorem so145 : SemsOk Try.prog (semsOf sl145) := sems_nil
noncomputable def b145_0 : Code := nthLoop code145 0
theorem t145_r0_eq (x : denR (headRT hp145_0)) : codeK (tabOf tr) (semsOf sl145) D145 L145 b145_0 (headSt hp145_0 x) (roundK 0 hp145_0 e145_0 q145_0) = spec_l05In_r0 x := by kernel_rfl
theorem loop145_0 {R : Type} (r : R) (w0 : World) (mu : Mu) (hs : AnShape ps145 mu) : LoopAt Try.prog w0 mu 18 (L145 : Loops R) r 0 b145_0 :=
  loop_auto tr_ok eq_ok mixed_ok so145 (D := D145) hs (by kernel_rfl) (fun _ => (loops_of (l := []) (by kernel_rfl) (List.forall_mem_nil _))) t145_r0_eq (fun _ _ => rfl)
theorem t145_eq (x : denR (headRT (ps145.map some))) : codeK (tabOf tr) (semsOf sl145) D145 L145 code145 (start 18 ps145 x) (finK rs145 ps145) = x145 x := by kernel_rfl
theorem k145 : Known Try.prog 145 sem145 :=
  fn_auto tr_ok eq_ok mixed_ok so145 (D := D145) (code := code145) (n := 18) Try.func145 (by kernel_rfl) (by kernel_rfl) (by kernel_rfl) (fun w0 mu _ hs => (loops_of (l := [(0, b145_0)]) (by kernel_rfl) (List.forall_mem_cons.2 ⟨loop145_0 _ w0 mu hs, (List.forall_mem_nil _)⟩))) t145_eq

/-! ### f161: spec.ItemOk -/
noncomputable def code161 : Code := match Try.f161.body with | some c => c | none => .skip
def ps161 : List AP := [.val true [.int .i64, .int .i64, .int .i64, .str]]
def rs161 : List RP := [{ src := .tmp 2, agg := false, ps := [.bool] }]
noncomputable def sl161 : SemL := [(144, (.shr, .shr, .shr, sem144))]
def D161 : Draws := fun _ => .nil
noncomputable def L161 {R : Type} : Loops R := fun _ _ _ _ => none
noncomputable def spec_ItemOk (m0c0 : Int) (m0c1 : Int) (m0c2 : Int) (m0c3 : ByteArray) : Option (Bool × Unit) :=
  Option.bind (spec_l01In m0c0 (1 : Int) (60 : Int)) fun y1 =>
  bif y1.1 then
    Option.bind (spec_l01In m0c1 (1 : Int) (5 : Int)) fun y2 =>
    bif y2.1 then
      Option.bind (spec_l01In m0c2 (1 : Int) (2 : Int)) fun y3 =>
      bif y3.1 then
        some (decide (((ByteArray.size m0c3 : Nat) : Int) ≤ (60 : Int)), ())
      else
        some (false, ())
    else
      some (false, ())
  else
    some (false, ())
noncomputable def x161 (x : Int × Int × Int × ByteArray × Unit) : Option (Bool × Unit) := spec_ItemOk x.1 x.2.1 x.2.2.1 x.2.2.2.1
noncomputable def sem161 : Sem1 := semOf ps161 rs161 x161
theorem so161 : SemsOk Try.prog (semsOf sl161) := sems_cons k144 (sems_nil)
theorem t161_eq (x : denR (headRT (ps161.map some))) : codeK (tabOf tr) (semsOf sl161) D161 L161 code161 (start 22 ps161 x) (finK rs161 ps161) = x161 x := by kernel_rfl
theorem k161 : Known Try.prog 161 sem161 :=
  fn_auto tr_ok eq_ok mixed_ok so161 (D := D161) (code := code161) (n := 22) Try.func161 (by kernel_rfl) (by kernel_rfl) (by kernel_rfl) (fun w0 mu _ hs => (loops_of (l := []) (by kernel_rfl) (List.forall_mem_nil _))) t161_eq

/-! ### f156: spec.ItemsOk -/
noncomputable def code156 : Code := match Try.f156.body with | some c => c | none => .skip
def ps156 : List AP := [.val false [.shr T_iiis]]
def rs156 : List RP := [{ src := .tmp 2, agg := false, ps := [.bool] }]
noncomputable def sl156 : SemL := [(161, (.shr, .shr, .shr, sem161))]
def D156 : Draws := fun id => bif Nat.beq id 4 then .op 0 .any (.op 1 .any (.op 2 .any (.op 3 .take (.op 4 .one (.op 5 .any (.op 6 .any (.op 7 .any (.op 8 .any (.op 9 .any (.op 10 .any (.op 11 .any (.op 12 .any (.op 13 .any (.op 14 .any (.op 15 .take (.op 16 .any (.op 17 .any (.op 18 .any (.op 19 .any (.op 20 .take (.op 21 .any (.op 22 .any (.op 23 .any (.nil)))))))))))))))))))))))) else .nil
def hp156_0 : List (Option AP) := [some (.val false [.shr T_iiis]), none, none, some (.val false [.int .i64]), none, none, none, none, none, none, none, none, none, none, none, none, none, none, none, none, none, none, none, none, none, none, none, none, none, none, none, none, none, none, none]
def e156_0 : List (Option AP) := [none, none, none, none, none, none, none, none, none, none, none, none, none, none, none, none, none, none, none, none, none, none, none, none, none, none, none, none, none, none, none, none, none, none, none]
def q156_0 : List (Option AP) := [none, none, some (.val false [.bool]), none, none, none, none, none, none, none, none, none, none, none, none, none, none, none, none, none, none, none, none, none, none, none, none, none, none, none, none, none, none, none, none]
abbrev H156_0 : Type := (List R_iiis) × Int × Unit
abbrev E156_0 : Type := Unit
abbrev Q156_0 : Type := Bool × Unit
noncomputable def spec_ItemsOk_c0 (list0 : List R_iiis) (i3 : Int) : Option (Sum H156_0 (Sum E156_0 Q156_0)) :=
  bif decide (i3 < ((List.length list0 : Nat) : Int)) then
    bif decide ((0 : Int) ≤ i3) then Option.bind ((list0)[Int.toNat i3]?) fun r1 =>
      Option.bind (spec_ItemOk r1.1 r1.2.1 r1.2.2.1 r1.2.2.2.1) fun y2 =>
      bif !y2.1 then
        some (.inr (.inr (false, ())))
      else bif decide ((0 : Int) < i3) then
        bif decide ((0 : Int) ≤ IntKind.i64.wrap (i3 - (1 : Int))) then Option.bind ((list0)[Int.toNat (IntKind.i64.wrap (i3 - (1 : Int)))]?) fun r3 =>
          bif decide ((0 : Int) ≤ i3) then Option.bind ((list0)[Int.toNat i3]?) fun r4 =>
            bif decide (r4.1 ≤ r3.1) then
              some (.inr (.inr (false, ())))
            else
              some (.inl (list0, IntKind.i64.wrap (i3 + (1 : Int)), ()))
          else none
        else none
      else
        some (.inl (list0, IntKind.i64.wrap (i3 + (1 : Int)), ()))
    else none
  else
    some (.inr (.inl (())))
noncomputable def spec_ItemsOk_r0 (x : H156_0) : Option (Sum H156_0 (Sum E156_0 Q156_0)) := spec_ItemsOk_c0 x.1 x.2.1
noncomputable def L156 {R : Type} : Loops R := fun id _ st k => bif Nat.beq id 0 then loopAt hp156_0 e156_0 q156_0 spec_ItemsOk_r0 st k else none
noncomputable def spec_ItemsOk (list0 : List R_iiis) : Option (Bool × Unit) :=
  outK (loopV spec_ItemsOk_r0 (list0, (0 : Int), ())) (fun y1 =>
    some (true, ())) (fun y2 =>
    some (y2.1, ()))
noncomputable def x156 (x : (List R_iiis) × Unit) : Option (Bool × Unit) := spec_ItemsOk x.1
noncomputable def sem156 : Sem1 := semOf ps156 rs156 x156
theorem so156 : SemsOk Try.prog (semsOf sl156) := sems_cons k161 (sems_nil)
noncomputable def b156_0 : Code := nthLoop code156 0
theorem t156_r0_eq (x : denR (headRT hp156_0)) : codeK (tabOf tr) (semsOf sl156) D156 L156 b156_0 (headSt hp156_0 x) (roundK 0 hp156_0 e156_0 q156_0) = spec_ItemsOk_r0 x := by kernel_rfl
theorem loop156_0 {R : Type} (r : R) (w0 : World) (mu : Mu) (hs : AnShape ps156 mu) : LoopAt Try.prog w0 mu 34 (L156 : Loops R) r 0 b156_0 :=
  loop_auto tr_ok eq_ok mixed_ok so156 (D := D156) hs (by kernel_rfl) (fun _ => (loops_of (l := []) (by kernel_rfl) (List.forall_mem_nil _))) t156_r0_eq (fun _ _ => rfl)
theorem t156_eq (x : denR (headRT (ps156.map some))) : codeK (tabOf tr) (semsOf sl156) D156 L156 code156 (start 34 ps156 x) (finK rs156 ps156) = x156 x := by kernel_rfl
theorem k156 : Known Try.prog 156 sem156 :=
  fn_auto tr_ok eq_ok mixed_ok so156 (D := D156) (code := code156) (n := 34) Try.func156 (by kernel_rfl) (by kernel_rfl) (by kernel_rfl) (fun w0 mu _ hs => (loops_of (l := [(0, b156_0)]) (by kernel_rfl) (List.forall_mem_cons.2 ⟨loop156_0 _ w0 mu hs, (List.forall_mem_nil _)⟩))) t156_eq

/-! ### f174: spec.l10Texts -/
noncomputable def code174 : Code := match Try.f174.body with | some c => c | none => .skip
def ps174 : List AP := [.val false [.shr T_i], .val false [.shr T_s]]
def rs174 : List RP := [{ src := .tmp 4, agg := false, ps := [.bool] }]
noncomputable def sl174 : SemL := [(144, (.shr, .shr, .shr, sem144))]
def D174 : Draws := fun _ => .nil
def hp174_0 : List (Option AP) := [some (.val false [.shr T_i]), some (.val false [.shr T_s]), none, none, none, some (.val false [.int .i64]), none, none, none, none, none, none, none, none, none, none, none, none, none, none, none, none, none, none, none, none, none, none, none, none, none, none, none, none, none, none, none, none, none, none, none, none, none]
def e174_0 : List (Option AP) := [some (.val false [.shr T_i]), some (.val false [.shr T_s]), none, none, none, none, none, none, none, none, none, none, none, none, none, none, none, none, none, none, none, none, none, none, none, none, none, none, none, none, none, none, none, none, none, none, none, none, none, none, none, none, none]
def q174_0 : List (Option AP) := [none, none, none, none, some (.val false [.bool]), none, none, none, none, none, none, none, none, none, none, none, none, none, none, none, none, none, none, none, none, none, none, none, none, none, none, none, none, none, none, none, none, none, none, none, none, none, none]
abbrev H174_0 : Type := (List (Int × Unit)) × (List (ByteArray × Unit)) × Int × Unit
abbrev E174_0 : Type := (List (Int × Unit)) × (List (ByteArray × Unit)) × Unit
abbrev Q174_0 : Type := Bool × Unit
noncomputable def spec_l10Texts_c0 (level0 : List (Int × Unit)) (texts1 : List (ByteArray × Unit)) (i5 : Int) : Option (Sum H174_0 (Sum E174_0 Q174_0)) :=
  bif decide (i5 < ((List.length texts1 : Nat) : Int)) then
    bif decide (i5 < ((List.length level0 : Nat) : Int)) then
      bif decide ((0 : Int) ≤ i5) then Option.bind ((level0)[Int.toNat i5]?) fun r1 =>
        Option.bind (spec_l01In r1.1 (1 : Int) (2 : Int)) fun y2 =>
        bif !y2.1 then
          some (.inr (.inr (false, ())))
        else bif decide ((0 : Int) ≤ i5) then Option.bind ((texts1)[Int.toNat i5]?) fun r3 =>
          bif decide ((60 : Int) < ((ByteArray.size r3.1 : Nat) : Int)) then
            some (.inr (.inr (false, ())))
          else
            some (.inl (level0, texts1, IntKind.i64.wrap (i5 + (1 : Int)), ()))
        else none
      else none
    else
      some (.inr (.inl (level0, texts1, ())))
  else
    some (.inr (.inl (level0, texts1, ())))
noncomputable def spec_l10Texts_r0 (x : H174_0) : Option (Sum H174_0 (Sum E174_0 Q174_0)) := spec_l10Texts_c0 x.1 x.2.1 x.2.2.1
noncomputable def L174 {R : Type} : Loops R := fun id _ st k => bif Nat.beq id 0 then loopAt hp174_0 e174_0 q174_0 spec_l10Texts_r0 st k else none
noncomputable def spec_l10Texts (level0 : List (Int × Unit)) (texts1 : List (ByteArray × Unit)) : Option (Bool × Unit) :=
  outK (loopV spec_l10Texts_r0 (level0, texts1, (0 : Int), ())) (fun y1 =>
    bif decide (((List.length y1.2.1 : Nat) : Int) ≤ (20 : Int)) then
      some (decide (((List.length y1.1 : Nat) : Int) = ((List.length y1.2.1 : Nat) : Int)), ())
    else
      some (false, ())) (fun y2 =>
    some (y2.1, ()))
noncomputable def x174 (x : (List (Int × Unit)) × (List (ByteArray × Unit)) × Unit) : Option (Bool × Unit) := spec_l10Texts x.1 x.2.1
noncomputable def sem174 : Sem1 := semOf ps174 rs174 x174
theorem so174 : SemsOk Try.prog (semsOf sl174) := sems_cons k144 (sems_nil)
noncomputable def b174_0 : Code := nthLoop code174 0
theorem t174_r0_eq (x : denR (headRT hp174_0)) : codeK (tabOf tr) (semsOf sl174) D174 L174 b174_0 (headSt hp174_0 x) (roundK 0 hp174_0 e174_0 q174_0) = spec_l10Texts_r0 x := by kernel_rfl
theorem loop174_0 {R : Type} (r : R) (w0 : World) (mu : Mu) (hs : AnShape ps174 mu) : LoopAt Try.prog w0 mu 42 (L174 : Loops R) r 0 b174_0 :=
  loop_auto tr_ok eq_ok mixed_ok so174 (D := D174) hs (by kernel_rfl) (fun _ => (loops_of (l := []) (by kernel_rfl) (List.forall_mem_nil _))) t174_r0_eq (fun _ _ => rfl)
theorem t174_eq (x : denR (headRT (ps174.map some))) : codeK (tabOf tr) (semsOf sl174) D174 L174 code174 (start 42 ps174 x) (finK rs174 ps174) = x174 x := by kernel_rfl
theorem k174 : Known Try.prog 174 sem174 :=
  fn_auto tr_ok eq_ok mixed_ok so174 (D := D174) (code := code174) (n := 42) Try.func174 (by kernel_rfl) (by kernel_rfl) (by kernel_rfl) (fun w0 mu _ hs => (loops_of (l := [(0, b174_0)]) (by kernel_rfl) (List.forall_mem_cons.2 ⟨loop174_0 _ w0 mu hs, (List.forall_mem_nil _)⟩))) t174_eq

/-! ### f186: spec.ItemAt -/
noncomputable def code186 : Code := match Try.f186.body with | some c => c | none => .skip
def ps186 : List AP := [.val false [.shr T_iiis], .val false [.int .i64]]
def rs186 : List RP := [{ src := .cell 4, agg := true, ps := [.int .i64, .int .i64, .int .i64, .str] }, { src := .tmp 5, agg := false, ps := [.bool] }]
noncomputable def sl186 : SemL := []
def D186 : Draws := fun _ => .nil
def hp186_0 : List (Option AP) := [some (.val false [.shr T_iiis]), some (.val false [.int .i64]), none, none, some (.box false [.int .i64, .int .i64, .int .i64, .str]), none, some (.val false [.int .i64]), none, none, none, none, none, none, none, none, none, none, none, none, none, none, none, none, none, none, none]
def e186_0 : List (Option AP) := [none, none, none, none, some (.box false [.int .i64, .int .i64, .int .i64, .str]), none, none, none, none, none, none, none, none, none, none, none, none, none, none, none, none, none, none, none, none, none]
def q186_0 : List (Option AP) := [none, none, none, none, some (.box false [.int .i64, .int .i64, .int .i64, .str]), some (.val false [.bool]), none, none, none, none, none, none, none, none, none, none, none, none, none, none, none, none, none, none, none, none]
abbrev H186_0 : Type := (List R_iiis) × Int × Int × Int × Int × ByteArray × Int × Unit
abbrev E186_0 : Type := Int × Int × Int × ByteArray × Unit
abbrev Q186_0 : Type := Int × Int × Int × ByteArray × Bool × Unit
noncomputable def spec_ItemAt_c0 (list0 : List R_iiis) (seq1 : Int) (t4c0 : Int) (t4c1 : Int) (t4c2 : Int) (t4c3 : ByteArray) (i6 : Int) : Option (Sum H186_0 (Sum E186_0 Q186_0)) :=
  bif decide (i6 < ((List.length list0 : Nat) : Int)) then
    bif decide ((0 : Int) ≤ i6) then Option.bind ((list0)[Int.toNat i6]?) fun r1 =>
      bif decide (r1.1 = seq1) then
        bif decide ((0 : Int) ≤ i6) then Option.bind ((list0)[Int.toNat i6]?) fun r2 =>
          some (.inr (.inr (r2.1, r2.2.1, r2.2.2.1, r2.2.2.2.1, true, ())))
        else none
      else
        some (.inl (list0, seq1, t4c0, t4c1, t4c2, t4c3, IntKind.i64.wrap (i6 + (1 : Int)), ()))
    else none
  else
    some (.inr (.inl (t4c0, t4c1, t4c2, t4c3, ())))
noncomputable def spec_ItemAt_r0 (x : H186_0) : Option (Sum H186_0 (Sum E186_0 Q186_0)) := spec_ItemAt_c0 x.1 x.2.1 x.2.2.1 x.2.2.2.1 x.2.2.2.2.1 x.2.2.2.2.2.1 x.2.2.2.2.2.2.1
noncomputable def L186 {R : Type} : Loops R := fun id _ st k => bif Nat.beq id 0 then loopAt hp186_0 e186_0 q186_0 spec_ItemAt_r0 st k else none
noncomputable def spec_ItemAt (list0 : List R_iiis) (seq1 : Int) : Option (Int × Int × Int × ByteArray × Bool × Unit) :=
  outK (loopV spec_ItemAt_r0 (list0, seq1, (0 : Int), (0 : Int), (0 : Int), ByteArray.empty, (0 : Int), ())) (fun y1 =>
    some ((0 : Int), (0 : Int), (0 : Int), ByteArray.empty, false, ())) (fun y2 =>
    some (y2.1, y2.2.1, y2.2.2.1, y2.2.2.2.1, y2.2.2.2.2.1, ()))
noncomputable def x186 (x : (List R_iiis) × Int × Unit) : Option (Int × Int × Int × ByteArray × Bool × Unit) := spec_ItemAt x.1 x.2.1
noncomputable def sem186 : Sem1 := semOf ps186 rs186 x186
theorem so186 : SemsOk Try.prog (semsOf sl186) := sems_nil
noncomputable def b186_0 : Code := nthLoop code186 0
theorem t186_r0_eq (x : denR (headRT hp186_0)) : codeK (tabOf tr) (semsOf sl186) D186 L186 b186_0 (headSt hp186_0 x) (roundK 0 hp186_0 e186_0 q186_0) = spec_ItemAt_r0 x := by kernel_rfl
theorem loop186_0 {R : Type} (r : R) (w0 : World) (mu : Mu) (hs : AnShape ps186 mu) : LoopAt Try.prog w0 mu 25 (L186 : Loops R) r 0 b186_0 :=
  loop_auto tr_ok eq_ok mixed_ok so186 (D := D186) hs (by kernel_rfl) (fun _ => (loops_of (l := []) (by kernel_rfl) (List.forall_mem_nil _))) t186_r0_eq (fun _ _ => rfl)
theorem t186_eq (x : denR (headRT (ps186.map some))) : codeK (tabOf tr) (semsOf sl186) D186 L186 code186 (start 25 ps186 x) (finK rs186 ps186) = x186 x := by kernel_rfl
theorem k186 : Known Try.prog 186 sem186 :=
  fn_auto tr_ok eq_ok mixed_ok so186 (D := D186) (code := code186) (n := 25) Try.func186 (by kernel_rfl) (by kernel_rfl) (by kernel_rfl) (fun w0 mu _ hs => (loops_of (l := [(0, b186_0)]) (by kernel_rfl) (List.forall_mem_cons.2 ⟨loop186_0 _ w0 mu hs, (List.forall_mem_nil _)⟩))) t186_eq

/-! ### f155: spec.AruOf -/
noncomputable def code155 : Code := match Try.f155.body with | some c => c | none => .skip
def ps155 : List AP := [.val false [.shr T_iiis]]
def rs155 : List RP := [{ src := .tmp 2, agg := false, ps := [.int .i64] }]
noncomputable def sl155 : SemL := [(186, (.shr, .shr, .shr, sem186))]
def D155 : Draws := fun _ => .nil
def hp155_0 : List (Option AP) := [some (.val false [.shr T_iiis]), none, none, some (.val false [.int .i64]), some (.val false [.int .i64]), none, none, none, none, none, none, none, none, none, none, none, none, none, none, none, none, none, none, none, none, none, none]
def e155_0 : List (Option AP) := [none, none, none, some (.val false [.int .i64]), none, none, none, none, none, none, none, none, none, none, none, none, none, none, none, none, none, none, none, none, none, none, none]
def q155_0 : List (Option AP) := [none, none, some (.val false [.int .i64]), none, none, none, none, none, none, none, none, none, none, none, none, none, none, none, none, none, none, none, none, none, none, none, none]
abbrev H155_0 : Type := (List R_iiis) × Int × Int × Unit
abbrev E155_0 : Type := Int × Unit
abbrev Q155_0 : Type := Int × Unit
noncomputable def spec_AruOf_c0 (list0 : List R_iiis) (n3 : Int) (i4 : Int) : Option (Sum H155_0 (Sum E155_0 Q155_0)) :=
  bif decide (i4 < ((List.length list0 : Nat) : Int)) then
    Option.bind (spec_ItemAt list0 (IntKind.i64.wrap (n3 + (1 : Int)))) fun y1 =>
    bif !y1.2.2.2.2.1 then
      some (.inr (.inr (n3, ())))
    else
      some (.inl (list0, IntKind.i64.wrap (n3 + (1 : Int)), IntKind.i64.wrap (i4 + (1 : Int)), ()))
  else
    some (.inr (.inl (n3, ())))
noncomputable def spec_AruOf_r0 (x : H155_0) : Option (Sum H155_0 (Sum E155_0 Q155_0)) := spec_AruOf_c0 x.1 x.2.1 x.2.2.1
noncomputable def L155 {R : Type} : Loops R := fun id _ st k => bif Nat.beq id 0 then loopAt hp155_0 e155_0 q155_0 spec_AruOf_r0 st k else none
noncomputable def spec_AruOf (list0 : List R_iiis) : Option (Int × Unit) :=
  outK (loopV spec_AruOf_r0 (list0, (0 : Int), (0 : Int), ())) (fun y1 =>
    some (y1.1, ())) (fun y2 =>
    some (y2.1, ()))
noncomputable def x155 (x : (List R_iiis) × Unit) : Option (Int × Unit) := spec_AruOf x.1
noncomputable def sem155 : Sem1 := semOf ps155 rs155 x155
theorem so155 : SemsOk Try.prog (semsOf sl155) := sems_cons k186 (sems_nil)
noncomputable def b155_0 : Code := nthLoop code155 0
theorem t155_r0_eq (x : denR (headRT hp155_0)) : codeK (tabOf tr) (semsOf sl155) D155 L155 b155_0 (headSt hp155_0 x) (roundK 0 hp155_0 e155_0 q155_0) = spec_AruOf_r0 x := by kernel_rfl
theorem loop155_0 {R : Type} (r : R) (w0 : World) (mu : Mu) (hs : AnShape ps155 mu) : LoopAt Try.prog w0 mu 26 (L155 : Loops R) r 0 b155_0 :=
  loop_auto tr_ok eq_ok mixed_ok so155 (D := D155) hs (by kernel_rfl) (fun _ => (loops_of (l := []) (by kernel_rfl) (List.forall_mem_nil _))) t155_r0_eq (fun _ _ => rfl)
theorem t155_eq (x : denR (headRT (ps155.map some))) : codeK (tabOf tr) (semsOf sl155) D155 L155 code155 (start 26 ps155 x) (finK rs155 ps155) = x155 x := by kernel_rfl
theorem k155 : Known Try.prog 155 sem155 :=
  fn_auto tr_ok eq_ok mixed_ok so155 (D := D155) (code := code155) (n := 26) Try.func155 (by kernel_rfl) (by kernel_rfl) (by kernel_rfl) (fun w0 mu _ hs => (loops_of (l := [(0, b155_0)]) (by kernel_rfl) (List.forall_mem_cons.2 ⟨loop155_0 _ w0 mu hs, (List.forall_mem_nil _)⟩))) t155_eq

/-! ### f197: spec.l05SameInts -/
noncomputable def code197 : Code := match Try.f197.body with | some c => c | none => .skip
def ps197 : List AP := [.val false [.shr T_i], .val false [.shr T_i]]
def rs197 : List RP := [{ src := .tmp 4, agg := false, ps := [.bool] }]
noncomputable def sl197 : SemL := []
def D197 : Draws := fun id => bif Nat.beq id 6 then .op 0 .any (.op 1 .any (.op 2 .any (.op 3 .take (.op 4 .any (.op 5 .any (.op 6 .any (.op 7 .take (.op 8 .any (.nil))))))))) else .nil
def hp197_0 : List (Option AP) := [some (.val false [.shr T_i]), some (.val false [.shr T_i]), none, none, none, some (.val false [.int .i64]), none, none, none, none, none, none, none, none, none, none, none, none, none, none, none, none, none, none, none, none, none]
def e197_0 : List (Option AP) := [none, none, none, none, none, none, none, none, none, none, none, none, none, none, none, none, none, none, none, none, none, none, none, none, none, none, none]
def q197_0 : List (Option AP) := [none, none, none, none, some (.val false [.bool]), none, none, none, none, none, none, none, none, none, none, none, none, none, none, none, none, none, none, none, none, none, none]
abbrev H197_0 : Type := (List (Int × Unit)) × (List (Int × Unit)) × Int × Unit
abbrev E197_0 : Type := Unit
abbrev Q197_0 : Type := Bool × Unit
noncomputable def spec_l05SameInts_c0 (a0 : List (Int × Unit)) (b1 : List (Int × Unit)) (i5 : Int) : Option (Sum H197_0 (Sum E197_0 Q197_0)) :=
  bif decide (i5 < ((List.length a0 : Nat) : Int)) then
    bif decide ((0 : Int) ≤ i5) then Option.bind ((a0)[Int.toNat i5]?) fun r1 =>
      bif decide ((0 : Int) ≤ i5) then Option.bind ((b1)[Int.toNat i5]?) fun r2 =>
        bif !decide (r1.1 = r2.1) then
          some (.inr (.inr (false, ())))
        else
          some (.inl (a0, b1, IntKind.i64.wrap (i5 + (1 : Int)), ()))
      else none
    else none
  else
    some (.inr (.inl (())))
noncomputable def spec_l05SameInts_r0 (x : H197_0) : Option (Sum H197_0 (Sum E197_0 Q197_0)) := spec_l05SameInts_c0 x.1 x.2.1 x.2.2.1
noncomputable def L197 {R : Type} : Loops R := fun id _ st k => bif Nat.beq id 0 then loopAt hp197_0 e197_0 q197_0 spec_l05SameInts_r0 st k else none
noncomputable def spec_l05SameInts (a0 : List (Int × Unit)) (b1 : List (Int × Unit)) : Option (Bool × Unit) :=
  bif !decide (((List.length a0 : Nat) : Int) = ((List.length b1 : Nat) : Int)) then
    some (false, ())
  else
    outK (loopV spec_l05SameInts_r0 (a0, b1, (0 : Int), ())) (fun y1 =>
      some (true, ())) (fun y2 =>
      some (y2.1, ()))
noncomputable def x197 (x : (List (Int × Unit)) × (List (Int × Unit)) × Unit) : Option (Bool × Unit) := spec_l05SameInts x.1 x.2.1
noncomputable def sem197 : Sem1 := semOf ps197 rs197 x197
theorem so197 : SemsOk Try.prog (semsOf sl197) := sems_nil
noncomputable def b197_0 : Code := nthLoop code197 0
theorem t197_r0_eq (x : denR (headRT hp197_0)) : codeK (tabOf tr) (semsOf sl197) D197 L197 b197_0 (headSt hp197_0 x) (roundK 0 hp197_0 e197_0 q197_0) = spec_l05SameInts_r0 x := by kernel_rfl
theorem loop197_0 {R : Type} (r : R) (w0 : World) (mu : Mu) (hs : AnShape ps197 mu) : LoopAt Try.prog w0 mu 26 (L197 : Loops R) r 0 b197_0 :=
  loop_auto tr_ok eq_ok mixed_ok so197 (D := D197) hs (by kernel_rfl) (fun _ => (loops_of (l := []) (by kernel_rfl) (List.forall_mem_nil _))) t197_r0_eq (fun _ _ => rfl)
theorem t197_eq (x : denR (headRT (ps197.map some))) : codeK (tabOf tr) (semsOf sl197) D197 L197 code197 (start 26 ps197 x) (finK rs197 ps197) = x197 x := by kernel_rfl
theorem k197 : Known Try.prog 197 sem197 :=
  fn_auto tr_ok eq_ok mixed_ok so197 (D := D197) (code := code197) (n := 26) Try.func197 (by kernel_rfl) (by kernel_rfl) (by kernel_rfl) (fun w0 mu _ hs => (loops_of (l := [(0, b197_0)]) (by kernel_rfl) (List.forall_mem_cons.2 ⟨loop197_0 _ w0 mu hs, (List.forall_mem_nil _)⟩))) t197_eq

/-! ### f193: spec.l05SameToken -/
noncomputable def code193 : Code := match Try.f193.body with | some c => c | none => .skip
def ps193 : List AP := [.val true [.int .i64, .int .i64, .int .i64, .int .i64, .int .i64, .shr T_i], .val true [.int .i64, .int .i64, .int .i64, .int .i64, .int .i64, .shr T_i]]
def rs193 : List RP := [{ src := .tmp 4, agg := false, ps := [.bool] }]
noncomputable def sl193 : SemL := [(197, (.shr, .shr, .shr, sem197))]
def D193 : Draws := fun _ => .nil
noncomputable def L193 {R : Type} : Loops R := fun _ _ _ _ => none
noncomputable def spec_l05SameToken (a0c0 : Int) (a0c1 : Int) (a0c2 : Int) (a0c3 : Int) (a0c4 : Int) (a0c5 : List (Int × Unit)) (b1c0 : Int) (b1c1 : Int) (b1c2 : Int) (b1c3 : Int) (b1c4 : Int) (b1c5 : List (Int × Unit)) : Option (Bool × Unit) :=
  bif decide (a0c0 = b1c0) then
    bif decide (a0c1 = b1c1) then
      bif decide (a0c2 = b1c2) then
        bif decide (a0c3 = b1c3) then
          bif decide (a0c4 = b1c4) then
            Option.bind (spec_l05SameInts a0c5 b1c5) fun y1 =>
            some (y1.1, ())
          else
            some (false, ())
        else
          some (false, ())
      else
        some (false, ())
    else
      some (false, ())
  else
    some (false, ())
noncomputable def x193 (x : Int × Int × Int × Int × Int × (List (Int × Unit)) × Int × Int × Int × Int × Int × (List (Int × Unit)) × Unit) : Option (Bool × Unit) := spec_l05SameToken x.1 x.2.1 x.2.2.1 x.2.2.2.1 x.2.2.2.2.1 x.2.2.2.2.2.1 x.2.2.2.2.2.2.1 x.2.2.2.2.2.2.2.1 x.2.2.2.2.2.2.2.2.1 x.2.2.2.2.2.2.2.2.2.1 x.2.2.2.2.2.2.2.2.2.2.1 x.2.2.2.2.2.2.2.2.2.2.2.1
noncomputable def sem193 : Sem1 := semOf ps193 rs193 x193
theorem so193 : SemsOk Try.prog (semsOf sl193) := sems_cons k197 (sems_nil)
theorem t193_eq (x : denR (headRT (ps193.map some))) : codeK (tabOf tr) (semsOf sl193) D193 L193 code193 (start 45 ps193 x) (finK rs193 ps193) = x193 x := by kernel_rfl
theorem k193 : Known Try.prog 193 sem193 :=
  fn_auto tr_ok eq_ok mixed_ok so193 (D := D193) (code := code193) (n := 45) Try.func193 (by kernel_rfl) (by kernel_rfl) (by kernel_rfl) (fun w0 mu _ hs => (loops_of (l := []) (by kernel_rfl) (List.forall_mem_nil _))) t193_eq

/-! ### f175: spec.l10Blank -/
noncomputable def code175 : Code := match Try.f175.body with | some c => c | none => .skip
def ps175 : List AP := [.val true [.int .i64, .int .i64, .int .i64, .int .i64, .int .i64, .shr T_i]]
def rs175 : List RP := [{ src := .tmp 2, agg := false, ps := [.bool] }]
noncomputable def sl175 : SemL := [(193, (.shr, .shr, .shr, sem193))]
def D175 : Draws := fun _ => .nil
noncomputable def L175 {R : Type} : Loops R := fun _ _ _ _ => none
noncomputable def spec_l10Blank (t0c0 : Int) (t0c1 : Int) (t0c2 : Int) (t0c3 : Int) (t0c4 : Int) (t0c5 : List (Int × Unit)) : Option (Bool × Unit) :=
  Option.bind (spec_l05SameToken t0c0 t0c1 t0c2 t0c3 t0c4 t0c5 (0 : Int) (0 : Int) (0 : Int) (0 : Int) (0 : Int) []) fun y1 =>
  some (y1.1, ())
noncomputable def x175 (x : Int × Int × Int × Int × Int × (List (Int × Unit)) × Unit) : Option (Bool × Unit) := spec_l10Blank x.1 x.2.1 x.2.2.1 x.2.2.2.1 x.2.2.2.2.1 x.2.2.2.2.2.1
noncomputable def sem175 : Sem1 := semOf ps175 rs175 x175
theorem so175 : SemsOk Try.prog (semsOf sl175) := sems_cons k193 (sems_nil)
theorem t175_eq (x : denR (headRT (ps175.map some))) : codeK (tabOf tr) (semsOf sl175) D175 L175 code175 (start 6 ps175 x) (finK rs175 ps175) = x175 x := by kernel_rfl
theorem k175 : Known Try.prog 175 sem175 :=
  fn_auto tr_ok eq_ok mixed_ok so175 (D := D175) (code := code175) (n := 6) Try.func175 (by kernel_rfl) (by kernel_rfl) (by kernel_rfl) (fun w0 mu _ hs => (loops_of (l := []) (by kernel_rfl) (List.forall_mem_nil _))) t175_eq

/-! ### f176: spec.TokenOk -/
noncomputable def code176 : Code := match Try.f176.body with | some c => c | none => .skip
def ps176 : List AP := [.val true [.int .i64, .int .i64, .int .i64, .int .i64, .int .i64, .shr T_i]]
def rs176 : List RP := [{ src := .tmp 2, agg := false, ps := [.bool] }]
noncomputable def sl176 : SemL := [(144, (.shr, .shr, .shr, sem144))]
def D176 : Draws := fun id => bif Nat.beq id 6 then .op 0 .any (.op 1 .take (.op 2 .any (.op 3 .any (.op 4 .take (.op 5 .any (.op 6 .take (.op 7 .one (.op 8 .any (.op 9 .any (.op 10 .any (.op 11 .any (.op 12 .any (.op 13 .any (.op 14 .take (.op 15 .any (.op 16 .any (.op 17 .any (.op 18 .take (.op 19 .any (.op 20 .take (.op 21 .any (.op 22 .any (.op 23 .take (.op 24 .any (.op 25 .any (.op 26 .any (.nil))))))))))))))))))))))))))) else .nil
def hp176_0 : List (Option AP) := [none, some (.box false [.int .i64, .int .i64, .int .i64, .int .i64, .int .i64, .shr T_i]), none, some (.val false [.int .i64]), none, none, none, none, none, none, none, none, none, none, none, none, none, none, none, none, none, none, none, none, none, none, none, none, none, none, none, none, none, none, none, none, none, none, none, none, none, none, none, none, none, none, none, none, none, none, none, none, none, none, none, none, none, none, none, none, none, none, none, none, none, none, none, none, none, none, none, none, none, none, none]
def e176_0 : List (Option AP) := [none, none, none, none, none, none, none, none, none, none, none, none, none, none, none, none, none, none, none, none, none, none, none, none, none, none, none, none, none, none, none, none, none, none, none, none, none, none, none, none, none, none, none, none, none, none, none, none, none, none, none, none, none, none, none, none, none, none, none, none, none, none, none, none, none, none, none, none, none, none, none, none, none, none, none]
def q176_0 : List (Option AP) := [none, none, some (.val false [.bool]), none, none, none, none, none, none, none, none, none, none, none, none, none, none, none, none, none, none, none, none, none, none, none, none, none, none, none, none, none, none, none, none, none, none, none, none, none, none, none, none, none, none, none, none, none, none, none, none, none, none, none, none, none, none, none, none, none, none, none, none, none, none, none, none, none, none, none, none, none, none, none, none]
abbrev H176_0 : Type := Int × Int × Int × Int × Int × (List (Int × Unit)) × Int × Unit
abbrev E176_0 : Type := Unit
abbrev Q176_0 : Type := Bool × Unit
noncomputable def spec_TokenOk_c0 (t1c0 : Int) (t1c1 : Int) (t1c2 : Int) (t1c3 : Int) (t1c4 : Int) (t1c5 : List (Int × Unit)) (i3 : Int) : Option (Sum H176_0 (Sum E176_0 Q176_0)) :=
  bif decide (i3 < ((List.length t1c5 : Nat) : Int)) then
    bif decide ((0 : Int) ≤ i3) then Option.bind ((t1c5)[Int.toNat i3]?) fun r6 =>
      Option.bind (spec_l01In r6.1 (1 : Int) t1c2) fun y7 =>
      bif !y7.1 then
        some (.inr (.inr (false, ())))
      else bif decide ((0 : Int) < i3) then
        bif decide ((0 : Int) ≤ IntKind.i64.wrap (i3 - (1 : Int))) then Option.bind ((t1c5)[Int.toNat (IntKind.i64.wrap (i3 - (1 : Int)))]?) fun r8 =>
          bif decide ((0 : Int) ≤ i3) then Option.bind ((t1c5)[Int.toNat i3]?) fun r9 =>
            bif decide (r9.1 ≤ r8.1) then
              some (.inr (.inr (false, ())))
            else
              some (.inl (t1c0, t1c1, t1c2, t1c3, t1c4, t1c5, IntKind.i64.wrap (i3 + (1 : Int)), ()))
          else none
        else none
      else
        some (.inl (t1c0, t1c1, t1c2, t1c3, t1c4, t1c5, IntKind.i64.wrap (i3 + (1 : Int)), ()))
    else none
  else
    some (.inr (.inl (())))
noncomputable def spec_TokenOk_r0 (x : H176_0) : Option (Sum H176_0 (Sum E176_0 Q176_0)) := spec_TokenOk_c0 x.1 x.2.1 x.2.2.1 x.2.2.2.1 x.2.2.2.2.1 x.2.2.2.2.2.1 x.2.2.2.2.2.2.1
noncomputable def L176 {R : Type} : Loops R := fun id _ st k => bif Nat.beq id 0 then loopAt hp176_0 e176_0 q176_0 spec_TokenOk_r0 st k else none
noncomputable def spec_TokenOk (t0c0 : Int) (t0c1 : Int) (t0c2 : Int) (t0c3 : Int) (t0c4 : Int) (t0c5 : List (Int × Unit)) : Option (Bool × Unit) :=
  Option.bind (spec_l01In t0c0 (1 : Int) (9 : Int)) fun y1 =>
  bif !y1.1 then
    some (false, ())
  else
    Option.bind (spec_l01In t0c1 (1 : Int) (1000000000 : Int)) fun y2 =>
    bif !y2.1 then
      some (false, ())
    else
      Option.bind (spec_l01In t0c2 (0 : Int) (60 : Int)) fun y3 =>
      bif !y3.1 then
        some (false, ())
      else
        Option.bind (spec_l01In t0c3 (0 : Int) t0c2) fun y4 =>
        bif !y4.1 then
          some (false, ())
        else
          Option.bind (spec_l01In t0c4 (0 : Int) (5 : Int)) fun y5 =>
          bif !y5.1 then
            some (false, ())
          else bif decide ((20 : Int) < ((List.length t0c5 : Nat) : Int)) then
            some (false, ())
          else
            outK (loopV spec_TokenOk_r0 (t0c0, t0c1, t0c2, t0c3, t0c4, t0c5, (0 : Int), ())) (fun y6 =>
              some (true, ())) (fun y7 =>
              some (y7.1, ()))
noncomputable def x176 (x : Int × Int × Int × Int × Int × (List (Int × Unit)) × Unit) : Option (Bool × Unit) := spec_TokenOk x.1 x.2.1 x.2.2.1 x.2.2.2.1 x.2.2.2.2.1 x.2.2.2.2.2.1
noncomputable def sem176 : Sem1 := semOf ps176 rs176 x176
theorem so176 : SemsOk Try.prog (semsOf sl176) := sems_cons k144 (sems_nil)
noncomputable def b176_0 : Code := nthLoop code176 0
theorem t176_r0_eq (x : denR (headRT hp176_0)) : codeK (tabOf tr) (semsOf sl176) D176 L176 b176_0 (headSt hp176_0 x) (roundK 0 hp176_0 e176_0 q176_0) = spec_TokenOk_r0 x := by kernel_rfl
theorem loop176_0 {R : Type} (r : R) (w0 : World) (mu : Mu) (hs : AnShape ps176 mu) : LoopAt Try.prog w0 mu 74 (L176 : Loops R) r 0 b176_0 :=
  loop_auto tr_ok eq_ok mixed_ok so176 (D := D176) hs (by kernel_rfl) (fun _ => (loops_of (l := []) (by kernel_rfl) (List.forall_mem_nil _))) t176_r0_eq (fun _ _ => rfl)
theorem t176_eq (x : denR (headRT (ps176.map some))) : codeK (tabOf tr) (semsOf sl176) D176 L176 code176 (start 74 ps176 x) (finK rs176 ps176) = x176 x := by kernel_rfl
theorem k176 : Known Try.prog 176 sem176 :=
  fn_auto tr_ok eq_ok mixed_ok so176 (D := D176) (code := code176) (n := 74) Try.func176 (by kernel_rfl) (by kernel_rfl) (by kernel_rfl) (fun w0 mu _ hs => (loops_of (l := [(0, b176_0)]) (by kernel_rfl) (List.forall_mem_cons.2 ⟨loop176_0 _ w0 mu hs, (List.forall_mem_nil _)⟩))) t176_eq

/-! ### f134: spec.MateOk -/
noncomputable def code134 : Code := match Try.f134.body with | some c => c | none => .skip
def ps134 : List AP := [.val true [.int .i64, .int .i64, .shr T_i, .shr T_iiis, .shr T_i, .shr T_s, .int .i64, .int .i64, .int .i64, .int .i64, .int .i64, .int .i64, .int .i64, .int .i64, .int .i64, .shr T_i]]
def rs134 : List RP := [{ src := .tmp 2, agg := false, ps := [.bool] }]
noncomputable def sl134 : SemL := [(63, (.shr, .shr, .shr, sem63)), (145, (.shr, .shr, .shr, sem145)), (156, (.shr, .shr, .shr, sem156)), (174, (.shr, .shr, .shr, sem174)), (144, (.shr, .shr, .shr, sem144)), (155, (.shr, .shr, .shr, sem155)), (175, (.shr, .shr, .shr, sem175)), (176, (.shr, .shr, .shr, sem176))]
def D134 : Draws := fun _ => .nil
noncomputable def L134 {R : Type} : Loops R := fun _ _ _ _ => none
noncomputable def spec_MateOk (m0c0 : Int) (m0c1 : Int) (m0c2 : List (Int × Unit)) (m0c3 : List R_iiis) (m0c4 : List (Int × Unit)) (m0c5 : List (ByteArray × Unit)) (m0c6 : Int) (m0c7 : Int) (m0c8 : Int) (m0c9 : Int) (m0c10 : Int) (m0c11 : Int) (m0c12 : Int) (m0c13 : Int) (m0c14 : Int) (m0c15 : List (Int × Unit)) : Option (Bool × Unit) :=
  Option.bind (spec_RingOk m0c1 m0c2) fun y1 =>
  bif !y1.1 then
    some (false, ())
  else
    Option.bind (spec_l05In m0c2 m0c0) fun y2 =>
    bif !y2.1 then
      some (false, ())
    else
      Option.bind (spec_ItemsOk m0c3) fun y3 =>
      bif !y3.1 then
        some (false, ())
      else
        Option.bind (spec_l10Texts m0c4 m0c5) fun y4 =>
        bif !y4.1 then
          some (false, ())
        else
          Option.bind (spec_l01In m0c6 (0 : Int) (1000000000 : Int)) fun y5 =>
          bif !y5.1 then
            some (false, ())
          else
            Option.bind (spec_l01In m0c7 (0 : Int) (60 : Int)) fun y6 =>
            bif !y6.1 then
              some (false, ())
            else
              Option.bind (spec_AruOf m0c3) fun y7 =>
              Option.bind (spec_l01In m0c8 (0 : Int) y7.1) fun y8 =>
              bif y8.1 then
                Option.bind (spec_l01In m0c9 (0 : Int) y7.1) fun y9 =>
                bif y9.1 then
                  Option.bind (spec_l10Blank m0c10 m0c11 m0c12 m0c13 m0c14 m0c15) fun y10 =>
                  bif y10.1 then
                    some (true, ())
                  else
                    Option.bind (spec_TokenOk m0c10 m0c11 m0c12 m0c13 m0c14 m0c15) fun y11 =>
                    some (y11.1, ())
                else
                  some (false, ())
              else
                some (false, ())
noncomputable def x134 (x : Int × Int × (List (Int × Unit)) × (List R_iiis) × (List (Int × Unit)) × (List (ByteArray × Unit)) × Int × Int × Int × Int × Int × Int × Int × Int × Int × (List (Int × Unit)) × Unit) : Option (Bool × Unit) := spec_MateOk x.1 x.2.1 x.2.2.1 x.2.2.2.1 x.2.2.2.2.1 x.2.2.2.2.2.1 x.2.2.2.2.2.2.1 x.2.2.2.2.2.2.2.1 x.2.2.2.2.2.2.2.2.1 x.2.2.2.2.2.2.2.2.2.1 x.2.2.2.2.2.2.2.2.2.2.1 x.2.2.2.2.2.2.2.2.2.2.2.1 x.2.2.2.2.2.2.2.2.2.2.2.2.1 x.2.2.2.2.2.2.2.2.2.2.2.2.2.1 x.2.2.2.2.2.2.2.2.2.2.2.2.2.2.1 x.2.2.2.2.2.2.2.2.2.2.2.2.2.2.2.1
noncomputable def sem134 : Sem1 := semOf ps134 rs134 x134
theorem so134 : SemsOk Try.prog (semsOf sl134) := sems_cons k63 (sems_cons k145 (sems_cons k156 (sems_cons k174 (sems_cons k144 (sems_cons k155 (sems_cons k175 (sems_cons k176 (sems_nil))))))))
theorem t134_eq (x : denR (headRT (ps134.map some))) : codeK (tabOf tr) (semsOf sl134) D134 L134 code134 (start 66 ps134 x) (finK rs134 ps134) = x134 x := by kernel_rfl
theorem k134 : Known Try.prog 134 sem134 :=
  fn_auto tr_ok eq_ok mixed_ok so134 (D := D134) (code := code134) (n := 66) Try.func134 (by kernel_rfl) (by kernel_rfl) (by kernel_rfl) (fun w0 mu _ hs => (loops_of (l := []) (by kernel_rfl) (List.forall_mem_nil _))) t134_eq

/-! ### f135: spec.PutItem -/
noncomputable def code135 : Code := match Try.f135.body with | some c => c | none => .skip
def ps135 : List AP := [.val false [.shr T_iiis], .val true [.int .i64, .int .i64, .int .i64, .str]]
def rs135 : List RP := [{ src := .tmp 4, agg := false, ps := [.own T_iiis] }]
noncomputable def sl135 : SemL := [(156, (.shr, .shr, .shr, sem156)), (161, (.shr, .shr, .shr, sem161))]
def D135 : Draws := fun id => bif Nat.beq id 8 then .op 0 .any (.op 1 .any (.op 2 .any (.op 3 .any (.op 4 .take (.op 5 .any (.op 6 .take (.op 7 .any (.nil)))))))) else bif Nat.beq id 10 then .op 0 .any (.op 1 .any (.op 2 .any (.op 3 .any (.op 4 .take (.op 5 .any (.op 6 .take (.op 7 .any (.nil)))))))) else bif Nat.beq id 16 then .op 0 .any (.op 1 .any (.op 2 .any (.op 3 .any (.op 4 .take (.op 5 .any (.op 6 .take (.op 7 .any (.nil)))))))) else .nil
def hp135_0 : List (Option AP) := [some (.val false [.shr T_iiis]), none, none, some (.box false [.int .i64, .int .i64, .int .i64, .str]), none, some (.val false [.own T_iiis]), some (.val false [.own T_iiis]), some (.val false [.int .i64]), none, none, none, none, none, none, none, none, none, none, none, none, none, none, none, none, none, none, none, none, none, none, none, none, none, none, none, none, none, none, none, none, none, none, none, none, none, none, none, none, none, none, none, none, none, none, none, none, none, none, none, none, none, none, none, none, none, none, none, none, none, none, none, none, none, none, none, none, none, none, none]
def e135_0 : List (Option AP) := [some (.val false [.shr T_iiis]), none, none, some (.box false [.int .i64, .int .i64, .int .i64, .str]), none, none, some (.val false [.own T_iiis]), none, none, none, none, none, none, none, none, none, none, none, none, none, none, none, none, none, none, none, none, none, none, none, none, none, none, none, none, none, none, none, none, none, none, none, none, none, none, none, none, none, none, none, none, none, none, none, none, none, none, none, none, none, none, none, none, none, none, none, none, none, none, none, none, none, none, none, none, none, none, none, none]
def q135_0 : List (Option AP) := [none, none, none, none, some (.val false [.own T_iiis]), none, none, none, none, none, none, none, none, none, none, none, none, none, none, none, none, none, none, none, none, none, none, none, none, none, none, none, none, none, none, none, none, none, none, none, none, none, none, none, none, none, none, none, none, none, none, none, none, none, none, none, none, none, none, none, none, none, none, none, none, none, none, none, none, none, none, none, none, none, none, none, none, none, none]
abbrev H135_0 : Type := (List R_iiis) × Int × Int × Int × ByteArray × (List R_iiis) × (List R_iiis) × Int × Unit
abbrev E135_0 : Type := (List R_iiis) × Int × Int × Int × ByteArray × (List R_iiis) × Unit
abbrev Q135_0 : Type := (List R_iiis) × Unit
noncomputable def spec_PutItem_c0 (list0 : List R_iiis) (m3c0 : Int) (m3c1 : Int) (m3c2 : Int) (m3c3 : ByteArray) (same5 : List R_iiis) (out6 : List R_iiis) (i7 : Int) : Option (Sum H135_0 (Sum E135_0 Q135_0)) :=
  bif decide (i7 < ((List.length list0 : Nat) : Int)) then
    bif decide ((0 : Int) ≤ i7) then Option.bind ((list0)[Int.toNat i7]?) fun r3 =>
      bif decide (r3.1 = m3c0) then
        some (.inr (.inr (same5, ())))
      else bif decide ((0 : Int) ≤ i7) then Option.bind ((list0)[Int.toNat i7]?) fun r4 =>
        bif decide (r4.1 < m3c0) then
          bif decide ((0 : Int) ≤ i7) then Option.bind ((list0)[Int.toNat i7]?) fun r5 =>
            bif Nat.ble (((List.length out6) + 1) * 40) lim then some (.inl (list0, m3c0, m3c1, m3c2, m3c3, same5, out6 ++ [(r5.1, r5.2.1, r5.2.2.1, r5.2.2.2.1, ())], IntKind.i64.wrap (i7 + (1 : Int)), ()))
            else none
          else none
        else
          some (.inl (list0, m3c0, m3c1, m3c2, m3c3, same5, out6, IntKind.i64.wrap (i7 + (1 : Int)), ()))
      else none
    else none
  else
    some (.inr (.inl (list0, m3c0, m3c1, m3c2, m3c3, out6, ())))
noncomputable def spec_PutItem_r0 (x : H135_0) : Option (Sum H135_0 (Sum E135_0 Q135_0)) := spec_PutItem_c0 x.1 x.2.1 x.2.2.1 x.2.2.2.1 x.2.2.2.2.1 x.2.2.2.2.2.1 x.2.2.2.2.2.2.1 x.2.2.2.2.2.2.2.1
def hp135_2 : List (Option AP) := [some (.val false [.shr T_iiis]), none, none, some (.box false [.int .i64, .int .i64, .int .i64, .str]), none, none, some (.val false [.own T_iiis]), none, some (.val false [.int .i64]), none, none, none, none, none, none, none, none, none, none, none, none, none, none, none, none, none, none, none, none, none, none, none, none, none, none, none, none, none, none, none, none, none, none, none, none, none, none, none, none, none, none, none, none, none, none, none, none, none, none, none, none, none, none, none, none, none, none, none, none, none, none, none, none, none, none, none, none, none, none]
def e135_2 : List (Option AP) := [none, none, none, none, none, none, some (.val false [.own T_iiis]), none, none, none, none, none, none, none, none, none, none, none, none, none, none, none, none, none, none, none, none, none, none, none, none, none, none, none, none, none, none, none, none, none, none, none, none, none, none, none, none, none, none, none, none, none, none, none, none, none, none, none, none, none, none, none, none, none, none, none, none, none, none, none, none, none, none, none, none, none, none, none, none]
def q135_2 : List (Option AP) := [none, none, none, none, none, none, none, none, none, none, none, none, none, none, none, none, none, none, none, none, none, none, none, none, none, none, none, none, none, none, none, none, none, none, none, none, none, none, none, none, none, none, none, none, none, none, none, none, none, none, none, none, none, none, none, none, none, none, none, none, none, none, none, none, none, none, none, none, none, none, none, none, none, none, none, none, none, none, none]
abbrev H135_2 : Type := (List R_iiis) × Int × Int × Int × ByteArray × (List R_iiis) × Int × Unit
abbrev E135_2 : Type := (List R_iiis) × Unit
abbrev Q135_2 : Type := Unit
noncomputable def spec_PutItem_c2 (list0 : List R_iiis) (m3c0 : Int) (m3c1 : Int) (m3c2 : Int) (m3c3 : ByteArray) (out6 : List R_iiis) (i8 : Int) : Option (Sum H135_2 (Sum E135_2 Q135_2)) :=
  bif decide (i8 < ((List.length list0 : Nat) : Int)) then
    bif decide ((0 : Int) ≤ i8) then Option.bind ((list0)[Int.toNat i8]?) fun r8 =>
      bif decide (m3c0 < r8.1) then
        bif decide ((0 : Int) ≤ i8) then Option.bind ((list0)[Int.toNat i8]?) fun r9 =>
          bif Nat.ble (((List.length out6) + 1) * 40) lim then some (.inl (list0, m3c0, m3c1, m3c2, m3c3, out6 ++ [(r9.1, r9.2.1, r9.2.2.1, r9.2.2.2.1, ())], IntKind.i64.wrap (i8 + (1 : Int)), ()))
          else none
        else none
      else
        some (.inl (list0, m3c0, m3c1, m3c2, m3c3, out6, IntKind.i64.wrap (i8 + (1 : Int)), ()))
    else none
  else
    some (.inr (.inl (out6, ())))
noncomputable def spec_PutItem_r2 (x : H135_2) : Option (Sum H135_2 (Sum E135_2 Q135_2)) := spec_PutItem_c2 x.1 x.2.1 x.2.2.1 x.2.2.2.1 x.2.2.2.2.1 x.2.2.2.2.2.1 x.2.2.2.2.2.2.1
noncomputable def L135 {R : Type} : Loops R := fun id _ st k => bif Nat.beq id 0 then loopAt hp135_0 e135_0 q135_0 spec_PutItem_r0 st k else bif Nat.beq id 2 then loopAt hp135_2 e135_2 q135_2 spec_PutItem_r2 st k else none
noncomputable def spec_PutItem (list0 : List R_iiis) (m1c0 : Int) (m1c1 : Int) (m1c2 : Int) (m1c3 : ByteArray) : Option ((List R_iiis) × Unit) :=
  bif Nat.ble ((0 + (List.length list0)) * 40) lim then Option.bind (spec_ItemsOk list0) fun y1 =>
    bif !y1.1 then
      some ([] ++ list0, ())
    else
      Option.bind (spec_ItemOk m1c0 m1c1 m1c2 m1c3) fun y2 =>
      bif !y2.1 then
        some ([] ++ list0, ())
      else
        outK (loopV spec_PutItem_r0 (list0, m1c0, m1c1, m1c2, m1c3, [] ++ list0, [], (0 : Int), ())) (fun y3 =>
          bif Nat.ble (((List.length y3.2.2.2.2.2.1) + 1) * 40) lim then outK (loopV spec_PutItem_r2 (y3.1, y3.2.1, y3.2.2.1, y3.2.2.2.1, y3.2.2.2.2.1, y3.2.2.2.2.2.1 ++ [(y3.2.1, y3.2.2.1, y3.2.2.2.1, y3.2.2.2.2.1, ())], (0 : Int), ())) (fun y5 =>
              some (y5.1, ())) (fun y6 =>
              none)
          else none) (fun y4 =>
          some (y4.1, ()))
  else none
noncomputable def x135 (x : (List R_iiis) × Int × Int × Int × ByteArray × Unit) : Option ((List R_iiis) × Unit) := spec_PutItem x.1 x.2.1 x.2.2.1 x.2.2.2.1 x.2.2.2.2.1
noncomputable def sem135 : Sem1 := semOf ps135 rs135 x135
theorem so135 : SemsOk Try.prog (semsOf sl135) := sems_cons k156 (sems_cons k161 (sems_nil))
noncomputable def b135_2 : Code := nthLoop code135 1
noncomputable def b135_0 : Code := nthLoop code135 0
theorem t135_r0_eq (x : denR (headRT hp135_0)) : codeK (tabOf tr) (semsOf sl135) D135 L135 b135_0 (headSt hp135_0 x) (roundK 0 hp135_0 e135_0 q135_0) = spec_PutItem_r0 x := by kernel_rfl
theorem loop135_0 {R : Type} (r : R) (w0 : World) (mu : Mu) (hs : AnShape ps135 mu) : LoopAt Try.prog w0 mu 78 (L135 : Loops R) r 0 b135_0 :=
  loop_auto tr_ok eq_ok mixed_ok so135 (D := D135) hs (by kernel_rfl) (fun _ => (loops_of (l := []) (by kernel_rfl) (List.forall_mem_nil _))) t135_r0_eq (fun _ _ => rfl)
theorem t135_r2_eq (x : denR (headRT hp135_2)) : codeK (tabOf tr) (semsOf sl135) D135 L135 b135_2 (headSt hp135_2 x) (roundK 2 hp135_2 e135_2 q135_2) = spec_PutItem_r2 x := by kernel_rfl
theorem loop135_2 {R : Type} (r : R) (w0 : World) (mu : Mu) (hs : AnShape ps135 mu) : LoopAt Try.prog w0 mu 78 (L135 : Loops R) r 2 b135_2 :=
  loop_auto tr_ok eq_ok mixed_ok so135 (D := D135) hs (by kernel_rfl) (fun _ => (loops_of (l := []) (by kernel_rfl) (List.forall_mem_nil _))) t135_r2_eq (fun _ _ => rfl)
theorem t135_eq (x : denR (headRT (ps135.map some))) : codeK (tabOf tr) (semsOf sl135) D135 L135 code135 (start 78 ps135 x) (finK rs135 ps135) = x135 x := by kernel_rfl
theorem k135 : Known Try.prog 135 sem135 :=
  fn_auto tr_ok eq_ok mixed_ok so135 (D := D135) (code := code135) (n := 78) Try.func135 (by kernel_rfl) (by kernel_rfl) (by kernel_rfl) (fun w0 mu _ hs => (loops_of (l := [(0, b135_0), (2, b135_2)]) (by kernel_rfl) (List.forall_mem_cons.2 ⟨loop135_0 _ w0 mu hs, (List.forall_mem_cons.2 ⟨loop135_2 _ w0 mu hs, (List.forall_mem_nil _)⟩)⟩))) t135_eq

/-! ### f55: spec.Catch -/
noncomputable def code55 : Code := match Try.f55.body with | some c => c | none => .skip
def ps55 : List AP := [.val true [.int .i64, .int .i64, .shr T_i, .shr T_iiis, .shr T_i, .shr T_s, .int .i64, .int .i64, .int .i64, .int .i64, .int .i64, .int .i64, .int .i64, .int .i64, .int .i64, .shr T_i], .val true [.int .i64, .int .i64, .int .i64, .str]]
def rs55 : List RP := [{ src := .cell 4, agg := true, ps := [.int .i64, .int .i64, .own T_i, .own T_iiis, .own T_i, .own T_s, .int .i64, .int .i64, .int .i64, .int .i64, .int .i64, .int .i64, .int .i64, .int .i64, .int .i64, .own T_i] }]
noncomputable def sl55 : SemL := [(133, (.shr, .shr, .shr, sem133)), (134, (.shr, .shr, .shr, sem134)), (135, (.shr, .shr, .shr, sem135))]
def D55 : Draws := fun _ => .nil
noncomputable def L55 {R : Type} : Loops R := fun _ _ _ _ => none
noncomputable def spec_Catch (m0c0 : Int) (m0c1 : Int) (m0c2 : List (Int × Unit)) (m0c3 : List R_iiis) (m0c4 : List (Int × Unit)) (m0c5 : List (ByteArray × Unit)) (m0c6 : Int) (m0c7 : Int) (m0c8 : Int) (m0c9 : Int) (m0c10 : Int) (m0c11 : Int) (m0c12 : Int) (m0c13 : Int) (m0c14 : Int) (m0c15 : List (Int × Unit)) (x1c0 : Int) (x1c1 : Int) (x1c2 : Int) (x1c3 : ByteArray) : Option (Int × Int × (List (Int × Unit)) × (List R_iiis) × (List (Int × Unit)) × (List (ByteArray × Unit)) × Int × Int × Int × Int × Int × Int × Int × Int × Int × (List (Int × Unit)) × Unit) :=
  Option.bind (spec_l10Copy m0c0 m0c1 m0c2 m0c3 m0c4 m0c5 m0c6 m0c7 m0c8 m0c9 m0c10 m0c11 m0c12 m0c13 m0c14 m0c15) fun y1 =>
  Option.bind (spec_MateOk m0c0 m0c1 m0c2 m0c3 m0c4 m0c5 m0c6 m0c7 m0c8 m0c9 m0c10 m0c11 m0c12 m0c13 m0c14 m0c15) fun y2 =>
  bif y2.1 then
    Option.bind (spec_PutItem y1.2.2.2.1 x1c0 x1c1 x1c2 x1c3) fun y3 =>
    some (y1.1, y1.2.1, y1.2.2.1, y3.1, y1.2.2.2.2.1, y1.2.2.2.2.2.1, y1.2.2.2.2.2.2.1, y1.2.2.2.2.2.2.2.1, y1.2.2.2.2.2.2.2.2.1, y1.2.2.2.2.2.2.2.2.2.1, y1.2.2.2.2.2.2.2.2.2.2.1, y1.2.2.2.2.2.2.2.2.2.2.2.1, y1.2.2.2.2.2.2.2.2.2.2.2.2.1, y1.2.2.2.2.2.2.2.2.2.2.2.2.2.1, y1.2.2.2.2.2.2.2.2.2.2.2.2.2.2.1, y1.2.2.2.2.2.2.2.2.2.2.2.2.2.2.2.1, ())
  else
    some (y1.1, y1.2.1, y1.2.2.1, y1.2.2.2.1, y1.2.2.2.2.1, y1.2.2.2.2.2.1, y1.2.2.2.2.2.2.1, y1.2.2.2.2.2.2.2.1, y1.2.2.2.2.2.2.2.2.1, y1.2.2.2.2.2.2.2.2.2.1, y1.2.2.2.2.2.2.2.2.2.2.1, y1.2.2.2.2.2.2.2.2.2.2.2.1, y1.2.2.2.2.2.2.2.2.2.2.2.2.1, y1.2.2.2.2.2.2.2.2.2.2.2.2.2.1, y1.2.2.2.2.2.2.2.2.2.2.2.2.2.2.1, y1.2.2.2.2.2.2.2.2.2.2.2.2.2.2.2.1, ())
noncomputable def x55 (x : Int × Int × (List (Int × Unit)) × (List R_iiis) × (List (Int × Unit)) × (List (ByteArray × Unit)) × Int × Int × Int × Int × Int × Int × Int × Int × Int × (List (Int × Unit)) × Int × Int × Int × ByteArray × Unit) : Option (Int × Int × (List (Int × Unit)) × (List R_iiis) × (List (Int × Unit)) × (List (ByteArray × Unit)) × Int × Int × Int × Int × Int × Int × Int × Int × Int × (List (Int × Unit)) × Unit) := spec_Catch x.1 x.2.1 x.2.2.1 x.2.2.2.1 x.2.2.2.2.1 x.2.2.2.2.2.1 x.2.2.2.2.2.2.1 x.2.2.2.2.2.2.2.1 x.2.2.2.2.2.2.2.2.1 x.2.2.2.2.2.2.2.2.2.1 x.2.2.2.2.2.2.2.2.2.2.1 x.2.2.2.2.2.2.2.2.2.2.2.1 x.2.2.2.2.2.2.2.2.2.2.2.2.1 x.2.2.2.2.2.2.2.2.2.2.2.2.2.1 x.2.2.2.2.2.2.2.2.2.2.2.2.2.2.1 x.2.2.2.2.2.2.2.2.2.2.2.2.2.2.2.1 x.2.2.2.2.2.2.2.2.2.2.2.2.2.2.2.2.1 x.2.2.2.2.2.2.2.2.2.2.2.2.2.2.2.2.2.1 x.2.2.2.2.2.2.2.2.2.2.2.2.2.2.2.2.2.2.1 x.2.2.2.2.2.2.2.2.2.2.2.2.2.2.2.2.2.2.2.1
noncomputable def sem55 : Sem1 := semOf ps55 rs55 x55
theorem so55 : SemsOk Try.prog (semsOf sl55) := sems_cons k133 (sems_cons k134 (sems_cons k135 (sems_nil)))
theorem t55_eq (x : denR (headRT (ps55.map some))) : codeK (tabOf tr) (semsOf sl55) D55 L55 code55 (start 16 ps55 x) (finK rs55 ps55) = x55 x := by kernel_rfl
theorem k55 : Known Try.prog 55 sem55 :=
  fn_auto tr_ok eq_ok mixed_ok so55 (D := D55) (code := code55) (n := 16) Try.func55 (by kernel_rfl) (by kernel_rfl) (by kernel_rfl) (fun w0 mu _ hs => (loops_of (l := []) (by kernel_rfl) (List.forall_mem_nil _))) t55_eq

/-! ### f148: slices.Clone[[]int,int] -/
noncomputable def code148 : Code := match Try.f148.body with | some c => c | none => .skip
def ps148 : List AP := [.val false [.shr T_i]]
def rs148 : List RP := [{ src := .tmp 2, agg := false, ps := [.own T_i] }]
noncomputable def sl148 : SemL := []
def D148 : Draws := fun _ => .nil
noncomputable def L148 {R : Type} : Loops R := fun _ _ _ _ => none
noncomputable def slices_Clone_int (s0 : List (Int × Unit)) : Option ((List (Int × Unit)) × Unit) :=
  bif Nat.ble ((0 + (List.length s0)) * 8) lim then some ([] ++ s0, ())
  else none
noncomputable def x148 (x : (List (Int × Unit)) × Unit) : Option ((List (Int × Unit)) × Unit) := slices_Clone_int x.1
noncomputable def sem148 : Sem1 := semOf ps148 rs148 x148
theorem so148 : SemsOk Try.prog (semsOf sl148) := sems_nil
theorem t148_nn (x : denR (headRT (ps148.map some))) : codeK (tabOf tr) (semsOf sl148) D148 L148 code148 (startNn 8 (T_i) x.1 ps148 x) (finK rs148 ps148) = x148 x := by kernel_rfl
theorem t148_nil (z : Unit) : codeK (tabOf tr) (semsOf sl148) D148 L148 code148 (startNil 8 ps148 (([] : List (denR (T_i))), z)) (finK rs148 ps148) = x148 (([] : List (denR (T_i))), z) := by kernel_rfl
theorem k148 : Known Try.prog 148 sem148 :=
  fn_auto_nil tr_ok eq_ok mixed_ok so148 (D := D148) (code := code148) (n := 8) Try.func148 (by kernel_rfl) (by kernel_rfl) (by kernel_rfl) (fun w0 mu _ hs => (loops_of (l := []) (by kernel_rfl) (List.forall_mem_nil _))) t148_nil t148_nn

/-! ### f68: impl.copyRing -/
noncomputable def code68 : Code := match Try.f68.body with | some c => c | none => .skip
def ps68 : List AP := [.val true [.int .i64, .shr T_i]]
def rs68 : List RP := [{ src := .cell 2, agg := true, ps := [.int .i64, .own T_i] }]
noncomputable def sl68 : SemL := [(148, (.shr, .shr, .shr, sem148))]
def D68 : Draws := fun id => bif Nat.beq id 1 then .op 0 .any (.op 1 .take (.op 2 .any (.op 3 .take (.op 4 .one (.op 5 .any (.op 6 .last (.nil))))))) else .nil
noncomputable def L68 {R : Type} : Loops R := fun _ _ _ _ => none
noncomputable def impl_copyRing (r0c0 : Int) (r0c1 : List (Int × Unit)) : Option (Int × (List (Int × Unit)) × Unit) :=
  Option.bind (slices_Clone_int r0c1) fun y1 =>
  some (r0c0, y1.1, ())
noncomputable def x68 (x : Int × (List (Int × Unit)) × Unit) : Option (Int × (List (Int × Unit)) × Unit) := impl_copyRing x.1 x.2.1
noncomputable def sem68 : Sem1 := semOf ps68 rs68 x68
theorem so68 : SemsOk Try.prog (semsOf sl68) := sems_cons k148 (sems_nil)
theorem t68_eq (x : denR (headRT (ps68.map some))) : codeK (tabOf tr) (semsOf sl68) D68 L68 code68 (start 9 ps68 x) (finK rs68 ps68) = x68 x := by kernel_rfl
theorem k68 : Known Try.prog 68 sem68 :=
  fn_auto tr_ok eq_ok mixed_ok so68 (D := D68) (code := code68) (n := 9) Try.func68 (by kernel_rfl) (by kernel_rfl) (by kernel_rfl) (fun w0 mu _ hs => (loops_of (l := []) (by kernel_rfl) (List.forall_mem_nil _))) t68_eq

/-! ### f177: impl.Item] -/
noncomputable def code177 : Code := match Try.f177.body with | some c => c | none => .skip
def ps177 : List AP := [.val false [.shr T_iiis]]
def rs177 : List RP := [{ src := .tmp 2, agg := false, ps := [.own T_iiis] }]
noncomputable def sl177 : SemL := []
def D177 : Draws := fun _ => .nil
noncomputable def L177 {R : Type} : Loops R := fun _ _ _ _ => none
noncomputable def slices_Clone_impl_Item (s0 : List R_iiis) : Option ((List R_iiis) × Unit) :=
  bif Nat.ble ((0 + (List.length s0)) * 40) lim then some ([] ++ s0, ())
  else none
noncomputable def x177 (x : (List R_iiis) × Unit) : Option ((List R_iiis) × Unit) := slices_Clone_impl_Item x.1
noncomputable def sem177 : Sem1 := semOf ps177 rs177 x177
theorem so177 : SemsOk Try.prog (semsOf sl177) := sems_nil
theorem t177_nn (x : denR (headRT (ps177.map some))) : codeK (tabOf tr) (semsOf sl177) D177 L177 code177 (startNn 8 (T_iiis) x.1 ps177 x) (finK rs177 ps177) = x177 x := by kernel_rfl
theorem t177_nil (z : Unit) : codeK (tabOf tr) (semsOf sl177) D177 L177 code177 (startNil 8 ps177 (([] : List (denR (T_iiis))), z)) (finK rs177 ps177) = x177 (([] : List (denR (T_iiis))), z) := by kernel_rfl
theorem k177 : Known Try.prog 177 sem177 :=
  fn_auto_nil tr_ok eq_ok mixed_ok so177 (D := D177) (code := code177) (n := 8) Try.func177 (by kernel_rfl) (by kernel_rfl) (by kernel_rfl) (fun w0 mu _ hs => (loops_of (l := []) (by kernel_rfl) (List.forall_mem_nil _))) t177_nil t177_nn

/-! ### f178: slices.Clone[[]string,string] -/
noncomputable def code178 : Code := match Try.f178.body with | some c => c | none => .skip
def ps178 : List AP := [.val false [.shr T_s]]
def rs178 : List RP := [{ src := .tmp 2, agg := false, ps := [.own T_s] }]
noncomputable def sl178 : SemL := []
def D178 : Draws := fun _ => .nil
noncomputable def L178 {R : Type} : Loops R := fun _ _ _ _ => none
noncomputable def slices_Clone_string (s0 : List (ByteArray × Unit)) : Option ((List (ByteArray × Unit)) × Unit) :=
  bif Nat.ble ((0 + (List.length s0)) * 16) lim then some ([] ++ s0, ())
  else none
noncomputable def x178 (x : (List (ByteArray × Unit)) × Unit) : Option ((List (ByteArray × Unit)) × Unit) := slices_Clone_string x.1
noncomputable def sem178 : Sem1 := semOf ps178 rs178 x178
theorem so178 : SemsOk Try.prog (semsOf sl178) := sems_nil
theorem t178_nn (x : denR (headRT (ps178.map some))) : codeK (tabOf tr) (semsOf sl178) D178 L178 code178 (startNn 8 (T_s) x.1 ps178 x) (finK rs178 ps178) = x178 x := by kernel_rfl
theorem t178_nil (z : Unit) : codeK (tabOf tr) (semsOf sl178) D178 L178 code178 (startNil 8 ps178 (([] : List (denR (T_s))), z)) (finK rs178 ps178) = x178 (([] : List (denR (T_s))), z) := by kernel_rfl
theorem k178 : Known Try.prog 178 sem178 :=
  fn_auto_nil tr_ok eq_ok mixed_ok so178 (D := D178) (code := code178) (n := 8) Try.func178 (by kernel_rfl) (by kernel_rfl) (by kernel_rfl) (fun w0 mu _ hs => (loops_of (l := []) (by kernel_rfl) (List.forall_mem_nil _))) t178_nil t178_nn

/-! ### f179: impl.copyToken -/
noncomputable def code179 : Code := match Try.f179.body with | some c => c | none => .skip
def ps179 : List AP := [.val true [.int .i64, .int .i64, .int .i64, .int .i64, .int .i64, .shr T_i]]
def rs179 : List RP := [{ src := .cell 2, agg := true, ps := [.int .i64, .int .i64, .int .i64, .int .i64, .int .i64, .own T_i] }]
noncomputable def sl179 : SemL := [(148, (.shr, .shr, .shr, sem148))]
def D179 : Draws := fun _ => .nil
noncomputable def L179 {R : Type} : Loops R := fun _ _ _ _ => none
noncomputable def impl_copyToken (t0c0 : Int) (t0c1 : Int) (t0c2 : Int) (t0c3 : Int) (t0c4 : Int) (t0c5 : List (Int × Unit)) : Option (Int × Int × Int × Int × Int × (List (Int × Unit)) × Unit) :=
  Option.bind (slices_Clone_int t0c5) fun y1 =>
  some (t0c0, t0c1, t0c2, t0c3, t0c4, y1.1, ())
noncomputable def x179 (x : Int × Int × Int × Int × Int × (List (Int × Unit)) × Unit) : Option (Int × Int × Int × Int × Int × (List (Int × Unit)) × Unit) := impl_copyToken x.1 x.2.1 x.2.2.1 x.2.2.2.1 x.2.2.2.2.1 x.2.2.2.2.2.1
noncomputable def sem179 : Sem1 := semOf ps179 rs179 x179
theorem so179 : SemsOk Try.prog (semsOf sl179) := sems_cons k148 (sems_nil)
theorem t179_eq (x : denR (headRT (ps179.map some))) : codeK (tabOf tr) (semsOf sl179) D179 L179 code179 (start 8 ps179 x) (finK rs179 ps179) = x179 x := by kernel_rfl
theorem k179 : Known Try.prog 179 sem179 :=
  fn_auto tr_ok eq_ok mixed_ok so179 (D := D179) (code := code179) (n := 8) Try.func179 (by kernel_rfl) (by kernel_rfl) (by kernel_rfl) (fun w0 mu _ hs => (loops_of (l := []) (by kernel_rfl) (List.forall_mem_nil _))) t179_eq

/-! ### f138: impl.copyMate -/
noncomputable def code138 : Code := match Try.f138.body with | some c => c | none => .skip
def ps138 : List AP := [.val true [.int .i64, .int .i64, .shr T_i, .shr T_iiis, .shr T_i, .shr T_s, .int .i64, .int .i64, .int .i64, .int .i64, .int .i64, .int .i64, .int .i64, .int .i64, .int .i64, .shr T_i]]
def rs138 : List RP := [{ src := .cell 2, agg := true, ps := [.int .i64, .int .i64, .own T_i, .own T_iiis, .own T_i, .own T_s, .int .i64, .int .i64, .int .i64, .int .i64, .int .i64, .int .i64, .int .i64, .int .i64, .int .i64, .own T_i] }]
noncomputable def sl138 : SemL := [(68, (.shr, .shr, .shr, sem68)), (177, (.shr, .shr, .shr, sem177)), (148, (.shr, .shr, .shr, sem148)), (178, (.shr, .shr, .shr, sem178)), (179, (.shr, .shr, .shr, sem179))]
def D138 : Draws := fun _ => .nil
noncomputable def L138 {R : Type} : Loops R := fun _ _ _ _ => none
noncomputable def impl_copyMate (m0c0 : Int) (m0c1 : Int) (m0c2 : List (Int × Unit)) (m0c3 : List R_iiis) (m0c4 : List (Int × Unit)) (m0c5 : List (ByteArray × Unit)) (m0c6 : Int) (m0c7 : Int) (m0c8 : Int) (m0c9 : Int) (m0c10 : Int) (m0c11 : Int) (m0c12 : Int) (m0c13 : Int) (m0c14 : Int) (m0c15 : List (Int × Unit)) : Option (Int × Int × (List (Int × Unit)) × (List R_iiis) × (List (Int × Unit)) × (List (ByteArray × Unit)) × Int × Int × Int × Int × Int × Int × Int × Int × Int × (List (Int × Unit)) × Unit) :=
  Option.bind (impl_copyRing m0c1 m0c2) fun y1 =>
  Option.bind (slices_Clone_impl_Item m0c3) fun y2 =>
  Option.bind (slices_Clone_int m0c4) fun y3 =>
  Option.bind (slices_Clone_string m0c5) fun y4 =>
  Option.bind (impl_copyToken m0c10 m0c11 m0c12 m0c13 m0c14 m0c15) fun y5 =>
  some (m0c0, y1.1, y1.2.1, y2.1, y3.1, y4.1, m0c6, m0c7, m0c8, m0c9, y5.1, y5.2.1, y5.2.2.1, y5.2.2.2.1, y5.2.2.2.2.1, y5.2.2.2.2.2.1, ())
noncomputable def x138 (x : Int × Int × (List (Int × Unit)) × (List R_iiis) × (List (Int × Unit)) × (List (ByteArray × Unit)) × Int × Int × Int × Int × Int × Int × Int × Int × Int × (List (Int × Unit)) × Unit) : Option (Int × Int × (List (Int × Unit)) × (List R_iiis) × (List (Int × Unit)) × (List (ByteArray × Unit)) × Int × Int × Int × Int × Int × Int × Int × Int × Int × (List (Int × Unit)) × Unit) := impl_copyMate x.1 x.2.1 x.2.2.1 x.2.2.2.1 x.2.2.2.2.1 x.2.2.2.2.2.1 x.2.2.2.2.2.2.1 x.2.2.2.2.2.2.2.1 x.2.2.2.2.2.2.2.2.1 x.2.2.2.2.2.2.2.2.2.1 x.2.2.2.2.2.2.2.2.2.2.1 x.2.2.2.2.2.2.2.2.2.2.2.1 x.2.2.2.2.2.2.2.2.2.2.2.2.1 x.2.2.2.2.2.2.2.2.2.2.2.2.2.1 x.2.2.2.2.2.2.2.2.2.2.2.2.2.2.1 x.2.2.2.2.2.2.2.2.2.2.2.2.2.2.2.1
noncomputable def sem138 : Sem1 := semOf ps138 rs138 x138
theorem so138 : SemsOk Try.prog (semsOf sl138) := sems_cons k68 (sems_cons k177 (sems_cons k148 (sems_cons k178 (sems_cons k179 (sems_nil)))))
theorem t138_eq (x : denR (headRT (ps138.map some))) : codeK (tabOf tr) (semsOf sl138) D138 L138 code138 (start 24 ps138 x) (finK rs138 ps138) = x138 x := by kernel_rfl
theorem k138 : Known Try.prog 138 sem138 :=
  fn_auto tr_ok eq_ok mixed_ok so138 (D := D138) (code := code138) (n := 24) Try.func138 (by kernel_rfl) (by kernel_rfl) (by kernel_rfl) (fun w0 mu _ hs => (loops_of (l := []) (by kernel_rfl) (List.forall_mem_nil _))) t138_eq

/-! ### f185: slices.Index[[]int,int] -/
noncomputable def code185 : Code := match Try.f185.body with | some c => c | none => .skip
def ps185 : List AP := [.val false [.shr T_i], .val false [.int .i64]]
def rs185 : List RP := [{ src := .tmp 4, agg := false, ps := [.int .i64] }]
noncomputable def sl185 : SemL := []
def D185 : Draws := fun _ => .nil
def hp185_0 : List (Option AP) := [some (.val false [.shr T_i]), some (.val false [.int .i64]), none, none, none, none, none, some (.val false [.int .i64]), some (.val false [.int .i64]), none, none, none, none, none, none, none, none, none, none, none]
def e185_0 : List (Option AP) := [none, none, none, none, none, none, none, none, none, none, none, none, none, none, none, none, none, none, none, none]
def q185_0 : List (Option AP) := [none, none, none, none, some (.val false [.int .i64]), none, none, none, none, none, none, none, none, none, none, none, none, none, none, none]
abbrev H185_0 : Type := (List (Int × Unit)) × Int × Int × Int × Unit
abbrev E185_0 : Type := Unit
abbrev Q185_0 : Type := Int × Unit
noncomputable def slices_Index_int_c0 (s0 : List (Int × Unit)) (v1 : Int) (t7 : Int) (t8 : Int) : Option (Sum H185_0 (Sum E185_0 Q185_0)) :=
  bif decide (t8 < t7) then
    bif decide ((0 : Int) ≤ t8) then Option.bind ((s0)[Int.toNat t8]?) fun r1 =>
      bif decide (v1 = r1.1) then
        some (.inr (.inr (t8, ())))
      else
        some (.inl (s0, v1, t7, IntKind.i64.wrap (t8 + (1 : Int)), ()))
    else none
  else
    some (.inr (.inl (())))
noncomputable def slices_Index_int_r0 (x : H185_0) : Option (Sum H185_0 (Sum E185_0 Q185_0)) := slices_Index_int_c0 x.1 x.2.1 x.2.2.1 x.2.2.2.1
noncomputable def L185 {R : Type} : Loops R := fun id _ st k => bif Nat.beq id 0 then loopAt hp185_0 e185_0 q185_0 slices_Index_int_r0 st k else none
noncomputable def slices_Index_int (s0 : List (Int × Unit)) (v1 : Int) : Option (Int × Unit) :=
  outK (loopV slices_Index_int_r0 (s0, v1, ((List.length s0 : Nat) : Int), (0 : Int), ())) (fun y1 =>
    some ((-1 : Int), ())) (fun y2 =>
    some (y2.1, ()))
noncomputable def x185 (x : (List (Int × Unit)) × Int × Unit) : Option (Int × Unit) := slices_Index_int x.1 x.2.1
noncomputable def sem185 : Sem1 := semOf ps185 rs185 x185
theorem so185 : SemsOk Try.prog (semsOf sl185) := sems_nil
noncomputable def b185_0 : Code := nthLoop code185 0
theorem t185_r0_eq (x : denR (headRT hp185_0)) : codeK (tabOf tr) (semsOf sl185) D185 L185 b185_0 (headSt hp185_0 x) (roundK 0 hp185_0 e185_0 q185_0) = slices_Index_int_r0 x := by kernel_rfl
theorem loop185_0 {R : Type} (r : R) (w0 : World) (mu : Mu) (hs : AnShape ps185 mu) : LoopAt Try.prog w0 mu 19 (L185 : Loops R) r 0 b185_0 :=
  loop_auto tr_ok eq_ok mixed_ok so185 (D := D185) hs (by kernel_rfl) (fun _ => (loops_of (l := []) (by kernel_rfl) (List.forall_mem_nil _))) t185_r0_eq (fun _ _ => rfl)
theorem t185_eq (x : denR (headRT (ps185.map some))) : codeK (tabOf tr) (semsOf sl185) D185 L185 code185 (start 19 ps185 x) (finK rs185 ps185) = x185 x := by kernel_rfl
theorem k185 : Known Try.prog 185 sem185 :=
  fn_auto tr_ok eq_ok mixed_ok so185 (D := D185) (code := code185) (n := 19) Try.func185 (by kernel_rfl) (by kernel_rfl) (by kernel_rfl) (fun w0 mu _ hs => (loops_of (l := [(0, b185_0)]) (by kernel_rfl) (List.forall_mem_cons.2 ⟨loop185_0 _ w0 mu hs, (List.forall_mem_nil _)⟩))) t185_eq

/-! ### f149: slices.Contains[[]int,int] -/
noncomputable def code149 : Code := match Try.f149.body with | some c => c | none => .skip
def ps149 : List AP := [.val false [.shr T_i], .val false [.int .i64]]
def rs149 : List RP := [{ src := .tmp 4, agg := false, ps := [.bool] }]
noncomputable def sl149 : SemL := [(185, (.shr, .shr, .shr, sem185))]
def D149 : Draws := fun _ => .nil
noncomputable def L149 {R : Type} : Loops R := fun _ _ _ _ => none
noncomputable def slices_Contains_int (s0 : List (Int × Unit)) (v1 : Int) : Option (Bool × Unit) :=
  Option.bind (slices_Index_int s0 v1) fun y1 =>
  some (decide ((0 : Int) ≤ y1.1), ())
noncomputable def x149 (x : (List (Int × Unit)) × Int × Unit) : Option (Bool × Unit) := slices_Contains_int x.1 x.2.1
noncomputable def sem149 : Sem1 := semOf ps149 rs149 x149
theorem so149 : SemsOk Try.prog (semsOf sl149) := sems_cons k185 (sems_nil)
theorem t149_eq (x : denR (headRT (ps149.map some))) : codeK (tabOf tr) (semsOf sl149) D149 L149 code149 (start 9 ps149 x) (finK rs149 ps149) = x149 x := by kernel_rfl
theorem k149 : Known Try.prog 149 sem149 :=
  fn_auto tr_ok eq_ok mixed_ok so149 (D := D149) (code := code149) (n := 9) Try.func149 (by kernel_rfl) (by kernel_rfl) (by kernel_rfl) (fun w0 mu _ hs => (loops_of (l := []) (by kernel_rfl) (List.forall_mem_nil _))) t149_eq

/-! ### f146: impl.inRange -/
noncomputable def code146 : Code := match Try.f146.body with | some c => c | none => .skip
def ps146 : List AP := [.val false [.int .i64], .val false [.int .i64], .val false [.int .i64]]
def rs146 : List RP := [{ src := .tmp 6, agg := false, ps := [.bool] }]
noncomputable def sl146 : SemL := []
def D146 : Draws := fun _ => .nil
noncomputable def L146 {R : Type} : Loops R := fun _ _ _ _ => none
noncomputable def impl_inRange (n0 : Int) (least1 : Int) (most2 : Int) : Option (Bool × Unit) :=
  bif decide (least1 ≤ n0) then
    some (decide (n0 ≤ most2), ())
  else
    some (false, ())
noncomputable def x146 (x : Int × Int × Int × Unit) : Option (Bool × Unit) := impl_inRange x.1 x.2.1 x.2.2.1
noncomputable def sem146 : Sem1 := semOf ps146 rs146 x146
theorem so146 : SemsOk Try.prog (semsOf sl146) := sems_nil
theorem t146_eq (x : denR (headRT (ps146.map some))) : codeK (tabOf tr) (semsOf sl146) D146 L146 code146 (start 15 ps146 x) (finK rs146 ps146) = x146 x := by kernel_rfl
theorem k146 : Known Try.prog 146 sem146 :=
  fn_auto tr_ok eq_ok mixed_ok so146 (D := D146) (code := code146) (n := 15) Try.func146 (by kernel_rfl) (by kernel_rfl) (by kernel_rfl) (fun w0 mu _ hs => (loops_of (l := []) (by kernel_rfl) (List.forall_mem_nil _))) t146_eq

/-! ### f147: impl.isDaemon -/
noncomputable def code147 : Code := match Try.f147.body with | some c => c | none => .skip
def ps147 : List AP := [.val false [.int .i64]]
def rs147 : List RP := [{ src := .tmp 2, agg := false, ps := [.bool] }]
noncomputable def sl147 : SemL := [(146, (.shr, .shr, .shr, sem146))]
def D147 : Draws := fun _ => .nil
noncomputable def L147 {R : Type} : Loops R := fun _ _ _ _ => none
noncomputable def impl_isDaemon (n0 : Int) : Option (Bool × Unit) :=
  Option.bind (impl_inRange n0 (1 : Int) (5 : Int)) fun y1 =>
  some (y1.1, ())
noncomputable def x147 (x : Int × Unit) : Option (Bool × Unit) := impl_isDaemon x.1
noncomputable def sem147 : Sem1 := semOf ps147 rs147 x147
theorem so147 : SemsOk Try.prog (semsOf sl147) := sems_cons k146 (sems_nil)
theorem t147_eq (x : denR (headRT (ps147.map some))) : codeK (tabOf tr) (semsOf sl147) D147 L147 code147 (start 5 ps147 x) (finK rs147 ps147) = x147 x := by kernel_rfl
theorem k147 : Known Try.prog 147 sem147 :=
  fn_auto tr_ok eq_ok mixed_ok so147 (D := D147) (code := code147) (n := 5) Try.func147 (by kernel_rfl) (by kernel_rfl) (by kernel_rfl) (fun w0 mu _ hs => (loops_of (l := []) (by kernel_rfl) (List.forall_mem_nil _))) t147_eq

/-! ### f67: impl.RingOk -/
noncomputable def code67 : Code := match Try.f67.body with | some c => c | none => .skip
def ps67 : List AP := [.val true [.int .i64, .shr T_i]]
def rs67 : List RP := [{ src := .tmp 2, agg := false, ps := [.bool] }]
noncomputable def sl67 : SemL := [(146, (.shr, .shr, .shr, sem146)), (147, (.shr, .shr, .shr, sem147))]
def D67 : Draws := fun _ => .nil
def hp67_0 : List (Option AP) := [none, some (.box false [.int .i64, .shr T_i]), none, none, none, none, none, none, none, none, none, none, none, none, none, none, none, some (.val false [.shr T_i]), some (.val false [.int .i64]), some (.val false [.int .i64]), none, none, none, none, none, none, none, none, none, none, none, none, none, none, none, none, none, none, none, none, none, none, none]
def e67_0 : List (Option AP) := [none, none, none, none, none, none, none, none, none, none, none, none, none, none, none, none, none, none, none, none, none, none, none, none, none, none, none, none, none, none, none, none, none, none, none, none, none, none, none, none, none, none, none]
def q67_0 : List (Option AP) := [none, none, some (.val false [.bool]), none, none, none, none, none, none, none, none, none, none, none, none, none, none, none, none, none, none, none, none, none, none, none, none, none, none, none, none, none, none, none, none, none, none, none, none, none, none, none, none]
abbrev H67_0 : Type := Int × (List (Int × Unit)) × (List (Int × Unit)) × Int × Int × Unit
abbrev E67_0 : Type := Unit
abbrev Q67_0 : Type := Bool × Unit
noncomputable def impl_RingOk_c0 (r1c0 : Int) (r1c1 : List (Int × Unit)) (t17 : List (Int × Unit)) (t18 : Int) (t19 : Int) : Option (Sum H67_0 (Sum E67_0 Q67_0)) :=
  bif decide (t19 < t18) then
    bif decide ((0 : Int) ≤ t19) then Option.bind ((t17)[Int.toNat t19]?) fun r3 =>
      Option.bind (impl_isDaemon r3.1) fun y4 =>
      bif !y4.1 then
        some (.inr (.inr (false, ())))
      else bif decide ((0 : Int) < t19) then
        bif decide ((0 : Int) ≤ IntKind.i64.wrap (t19 - (1 : Int))) then Option.bind ((r1c1)[Int.toNat (IntKind.i64.wrap (t19 - (1 : Int)))]?) fun r5 =>
          bif decide (r3.1 ≤ r5.1) then
            some (.inr (.inr (false, ())))
          else
            some (.inl (r1c0, r1c1, t17, t18, IntKind.i64.wrap (t19 + (1 : Int)), ()))
        else none
      else
        some (.inl (r1c0, r1c1, t17, t18, IntKind.i64.wrap (t19 + (1 : Int)), ()))
    else none
  else
    some (.inr (.inl (())))
noncomputable def impl_RingOk_r0 (x : H67_0) : Option (Sum H67_0 (Sum E67_0 Q67_0)) := impl_RingOk_c0 x.1 x.2.1 x.2.2.1 x.2.2.2.1 x.2.2.2.2.1
noncomputable def L67 {R : Type} : Loops R := fun id _ st k => bif Nat.beq id 0 then loopAt hp67_0 e67_0 q67_0 impl_RingOk_r0 st k else none
noncomputable def impl_RingOk (r0c0 : Int) (r0c1 : List (Int × Unit)) : Option (Bool × Unit) :=
  Option.bind (impl_inRange r0c0 (1 : Int) (9 : Int)) fun y1 =>
  bif !y1.1 then
    some (false, ())
  else
    Option.bind (impl_inRange ((List.length r0c1 : Nat) : Int) (1 : Int) (5 : Int)) fun y2 =>
    bif !y2.1 then
      some (false, ())
    else
      outK (loopV impl_RingOk_r0 (r0c0, r0c1, r0c1, ((List.length r0c1 : Nat) : Int), (0 : Int), ())) (fun y3 =>
        some (true, ())) (fun y4 =>
        some (y4.1, ()))
noncomputable def x67 (x : Int × (List (Int × Unit)) × Unit) : Option (Bool × Unit) := impl_RingOk x.1 x.2.1
noncomputable def sem67 : Sem1 := semOf ps67 rs67 x67
theorem so67 : SemsOk Try.prog (semsOf sl67) := sems_cons k146 (sems_cons k147 (sems_nil))
noncomputable def b67_0 : Code := nthLoop code67 0
theorem t67_r0_eq (x : denR (headRT hp67_0)) : codeK (tabOf tr) (semsOf sl67) D67 L67 b67_0 (headSt hp67_0 x) (roundK 0 hp67_0 e67_0 q67_0) = impl_RingOk_r0 x := by kernel_rfl
theorem loop67_0 {R : Type} (r : R) (w0 : World) (mu : Mu) (hs : AnShape ps67 mu) : LoopAt Try.prog w0 mu 42 (L67 : Loops R) r 0 b67_0 :=
  loop_auto tr_ok eq_ok mixed_ok so67 (D := D67) hs (by kernel_rfl) (fun _ => (loops_of (l := []) (by kernel_rfl) (List.forall_mem_nil _))) t67_r0_eq (fun _ _ => rfl)
theorem t67_eq (x : denR (headRT (ps67.map some))) : codeK (tabOf tr) (semsOf sl67) D67 L67 code67 (start 42 ps67 x) (finK rs67 ps67) = x67 x := by kernel_rfl
theorem k67 : Known Try.prog 67 sem67 :=
  fn_auto tr_ok eq_ok mixed_ok so67 (D := D67) (code := code67) (n := 42) Try.func67 (by kernel_rfl) (by kernel_rfl) (by kernel_rfl) (fun w0 mu _ hs => (loops_of (l := [(0, b67_0)]) (by kernel_rfl) (List.forall_mem_cons.2 ⟨loop67_0 _ w0 mu hs, (List.forall_mem_nil _)⟩))) t67_eq

/-! ### f181: impl.isLevel -/
noncomputable def code181 : Code := match Try.f181.body with | some c => c | none => .skip
def ps181 : List AP := [.val false [.int .i64]]
def rs181 : List RP := [{ src := .tmp 2, agg := false, ps := [.bool] }]
noncomputable def sl181 : SemL := []
def D181 : Draws := fun _ => .nil
noncomputable def L181 {R : Type} : Loops R := fun _ _ _ _ => none
noncomputable def impl_isLevel (n0 : Int) : Option (Bool × Unit) :=
  bif decide (n0 = (1 : Int)) then
    some (true, ())
  else
    some (decide (n0 = (2 : Int)), ())
noncomputable def x181 (x : Int × Unit) : Option (Bool × Unit) := impl_isLevel x.1
noncomputable def sem181 : Sem1 := semOf ps181 rs181 x181
theorem so181 : SemsOk Try.prog (semsOf sl181) := sems_nil
theorem t181_eq (x : denR (headRT (ps181.map some))) : codeK (tabOf tr) (semsOf sl181) D181 L181 code181 (start 9 ps181 x) (finK rs181 ps181) = x181 x := by kernel_rfl
theorem k181 : Known Try.prog 181 sem181 :=
  fn_auto tr_ok eq_ok mixed_ok so181 (D := D181) (code := code181) (n := 9) Try.func181 (by kernel_rfl) (by kernel_rfl) (by kernel_rfl) (fun w0 mu _ hs => (loops_of (l := []) (by kernel_rfl) (List.forall_mem_nil _))) t181_eq

/-! ### f184: impl.ItemOk -/
noncomputable def code184 : Code := match Try.f184.body with | some c => c | none => .skip
def ps184 : List AP := [.val true [.int .i64, .int .i64, .int .i64, .str]]
def rs184 : List RP := [{ src := .tmp 2, agg := false, ps := [.bool] }]
noncomputable def sl184 : SemL := [(146, (.shr, .shr, .shr, sem146)), (147, (.shr, .shr, .shr, sem147)), (181, (.shr, .shr, .shr, sem181))]
def D184 : Draws := fun _ => .nil
noncomputable def L184 {R : Type} : Loops R := fun _ _ _ _ => none
noncomputable def impl_ItemOk (m0c0 : Int) (m0c1 : Int) (m0c2 : Int) (m0c3 : ByteArray) : Option (Bool × Unit) :=
  Option.bind (impl_inRange m0c0 (1 : Int) (60 : Int)) fun y1 =>
  bif y1.1 then
    Option.bind (impl_isDaemon m0c1) fun y2 =>
    bif y2.1 then
      Option.bind (impl_isLevel m0c2) fun y3 =>
      bif y3.1 then
        some (decide (((ByteArray.size m0c3 : Nat) : Int) ≤ (60 : Int)), ())
      else
        some (false, ())
    else
      some (false, ())
  else
    some (false, ())
noncomputable def x184 (x : Int × Int × Int × ByteArray × Unit) : Option (Bool × Unit) := impl_ItemOk x.1 x.2.1 x.2.2.1 x.2.2.2.1
noncomputable def sem184 : Sem1 := semOf ps184 rs184 x184
theorem so184 : SemsOk Try.prog (semsOf sl184) := sems_cons k146 (sems_cons k147 (sems_cons k181 (sems_nil)))
theorem t184_eq (x : denR (headRT (ps184.map some))) : codeK (tabOf tr) (semsOf sl184) D184 L184 code184 (start 22 ps184 x) (finK rs184 ps184) = x184 x := by kernel_rfl
theorem k184 : Known Try.prog 184 sem184 :=
  fn_auto tr_ok eq_ok mixed_ok so184 (D := D184) (code := code184) (n := 22) Try.func184 (by kernel_rfl) (by kernel_rfl) (by kernel_rfl) (fun w0 mu _ hs => (loops_of (l := []) (by kernel_rfl) (List.forall_mem_nil _))) t184_eq

/-! ### f158: impl.ItemsOk -/
noncomputable def code158 : Code := match Try.f158.body with | some c => c | none => .skip
def ps158 : List AP := [.val false [.shr T_iiis]]
def rs158 : List RP := [{ src := .tmp 2, agg := false, ps := [.bool] }]
noncomputable def sl158 : SemL := [(184, (.shr, .shr, .shr, sem184))]
def D158 : Draws := fun id => bif Nat.beq id 4 then .op 0 .take (.op 1 .one (.op 2 .any (.op 3 .any (.op 4 .any (.op 5 .any (.op 6 .any (.op 7 .any (.op 8 .take (.op 9 .any (.op 10 .any (.op 11 .any (.op 12 .any (.op 13 .any (.op 14 .take (.op 15 .any (.op 16 .any (.op 17 .any (.nil)))))))))))))))))) else .nil
def hp158_0 : List (Option AP) := [some (.val false [.shr T_iiis]), none, none, none, none, some (.val false [.shr T_iiis]), some (.val false [.int .i64]), some (.val false [.int .i64]), none, none, none, none, none, none, none, none, none, none, none, none, none, none, none, none, none, none, none, none, none, none, none, none]
def e158_0 : List (Option AP) := [none, none, none, none, none, none, none, none, none, none, none, none, none, none, none, none, none, none, none, none, none, none, none, none, none, none, none, none, none, none, none, none]
def q158_0 : List (Option AP) := [none, none, some (.val false [.bool]), none, none, none, none, none, none, none, none, none, none, none, none, none, none, none, none, none, none, none, none, none, none, none, none, none, none, none, none, none]
abbrev H158_0 : Type := (List R_iiis) × (List R_iiis) × Int × Int × Unit
abbrev E158_0 : Type := Unit
abbrev Q158_0 : Type := Bool × Unit
noncomputable def impl_ItemsOk_c0 (list0 : List R_iiis) (t5 : List R_iiis) (t6 : Int) (t7 : Int) : Option (Sum H158_0 (Sum E158_0 Q158_0)) :=
  bif decide (t7 < t6) then
    bif decide ((0 : Int) ≤ t7) then Option.bind ((t5)[Int.toNat t7]?) fun r1 =>
      Option.bind (impl_ItemOk r1.1 r1.2.1 r1.2.2.1 r1.2.2.2.1) fun y2 =>
      bif !y2.1 then
        some (.inr (.inr (false, ())))
      else bif decide ((0 : Int) < t7) then
        bif decide ((0 : Int) ≤ IntKind.i64.wrap (t7 - (1 : Int))) then Option.bind ((list0)[Int.toNat (IntKind.i64.wrap (t7 - (1 : Int)))]?) fun r3 =>
          bif decide (r1.1 ≤ r3.1) then
            some (.inr (.inr (false, ())))
          else
            some (.inl (list0, t5, t6, IntKind.i64.wrap (t7 + (1 : Int)), ()))
        else none
      else
        some (.inl (list0, t5, t6, IntKind.i64.wrap (t7 + (1 : Int)), ()))
    else none
  else
    some (.inr (.inl (())))
noncomputable def impl_ItemsOk_r0 (x : H158_0) : Option (Sum H158_0 (Sum E158_0 Q158_0)) := impl_ItemsOk_c0 x.1 x.2.1 x.2.2.1 x.2.2.2.1
noncomputable def L158 {R : Type} : Loops R := fun id _ st k => bif Nat.beq id 0 then loopAt hp158_0 e158_0 q158_0 impl_ItemsOk_r0 st k else none
noncomputable def impl_ItemsOk (list0 : List R_iiis) : Option (Bool × Unit) :=
  outK (loopV impl_ItemsOk_r0 (list0, list0, ((List.length list0 : Nat) : Int), (0 : Int), ())) (fun y1 =>
    some (true, ())) (fun y2 =>
    some (y2.1, ()))
noncomputable def x158 (x : (List R_iiis) × Unit) : Option (Bool × Unit) := impl_ItemsOk x.1
noncomputable def sem158 : Sem1 := semOf ps158 rs158 x158
theorem so158 : SemsOk Try.prog (semsOf sl158) := sems_cons k184 (sems_nil)
noncomputable def b158_0 : Code := nthLoop code158 0
theorem t158_r0_eq (x : denR (headRT hp158_0)) : codeK (tabOf tr) (semsOf sl158) D158 L158 b158_0 (headSt hp158_0 x) (roundK 0 hp158_0 e158_0 q158_0) = impl_ItemsOk_r0 x := by kernel_rfl
theorem loop158_0 {R : Type} (r : R) (w0 : World) (mu : Mu) (hs : AnShape ps158 mu) : LoopAt Try.prog w0 mu 31 (L158 : Loops R) r 0 b158_0 :=
  loop_auto tr_ok eq_ok mixed_ok so158 (D := D158) hs (by kernel_rfl) (fun _ => (loops_of (l := []) (by kernel_rfl) (List.forall_mem_nil _))) t158_r0_eq (fun _ _ => rfl)
theorem t158_eq (x : denR (headRT (ps158.map some))) : codeK (tabOf tr) (semsOf sl158) D158 L158 code158 (start 31 ps158 x) (finK rs158 ps158) = x158 x := by kernel_rfl
theorem k158 : Known Try.prog 158 sem158 :=
  fn_auto tr_ok eq_ok mixed_ok so158 (D := D158) (code := code158) (n := 31) Try.func158 (by kernel_rfl) (by kernel_rfl) (by kernel_rfl) (fun w0 mu _ hs => (loops_of (l := [(0, b158_0)]) (by kernel_rfl) (List.forall_mem_cons.2 ⟨loop158_0 _ w0 mu hs, (List.forall_mem_nil _)⟩))) t158_eq

/-! ### f180: impl.areShort -/
noncomputable def code180 : Code := match Try.f180.body with | some c => c | none => .skip
def ps180 : List AP := [.val false [.shr T_s]]
def rs180 : List RP := [{ src := .tmp 2, agg := false, ps := [.bool] }]
noncomputable def sl180 : SemL := []
def D180 : Draws := fun _ => .nil
def hp180_0 : List (Option AP) := [none, none, none, none, none, some (.val false [.shr T_s]), some (.val false [.int .i64]), some (.val false [.int .i64]), none, none, none, none, none, none, none, none]
def e180_0 : List (Option AP) := [none, none, none, none, none, none, none, none, none, none, none, none, none, none, none, none]
def q180_0 : List (Option AP) := [none, none, some (.val false [.bool]), none, none, none, none, none, none, none, none, none, none, none, none, none]
abbrev H180_0 : Type := (List (ByteArray × Unit)) × Int × Int × Unit
abbrev E180_0 : Type := Unit
abbrev Q180_0 : Type := Bool × Unit
noncomputable def impl_areShort_c0 (t5 : List (ByteArray × Unit)) (t6 : Int) (t7 : Int) : Option (Sum H180_0 (Sum E180_0 Q180_0)) :=
  bif decide (t7 < t6) then
    bif decide ((0 : Int) ≤ t7) then Option.bind ((t5)[Int.toNat t7]?) fun r1 =>
      bif decide ((60 : Int) < ((ByteArray.size r1.1 : Nat) : Int)) then
        some (.inr (.inr (false, ())))
      else
        some (.inl (t5, t6, IntKind.i64.wrap (t7 + (1 : Int)), ()))
    else none
  else
    some (.inr (.inl (())))
noncomputable def impl_areShort_r0 (x : H180_0) : Option (Sum H180_0 (Sum E180_0 Q180_0)) := impl_areShort_c0 x.1 x.2.1 x.2.2.1
noncomputable def L180 {R : Type} : Loops R := fun id _ st k => bif Nat.beq id 0 then loopAt hp180_0 e180_0 q180_0 impl_areShort_r0 st k else none
noncomputable def impl_areShort (list0 : List (ByteArray × Unit)) : Option (Bool × Unit) :=
  outK (loopV impl_areShort_r0 (list0, ((List.length list0 : Nat) : Int), (0 : Int), ())) (fun y1 =>
    some (true, ())) (fun y2 =>
    some (y2.1, ()))
noncomputable def x180 (x : (List (ByteArray × Unit)) × Unit) : Option (Bool × Unit) := impl_areShort x.1
noncomputable def sem180 : Sem1 := semOf ps180 rs180 x180
theorem so180 : SemsOk Try.prog (semsOf sl180) := sems_nil
noncomputable def b180_0 : Code := nthLoop code180 0
theorem t180_r0_eq (x : denR (headRT hp180_0)) : codeK (tabOf tr) (semsOf sl180) D180 L180 b180_0 (headSt hp180_0 x) (roundK 0 hp180_0 e180_0 q180_0) = impl_areShort_r0 x := by kernel_rfl
theorem loop180_0 {R : Type} (r : R) (w0 : World) (mu : Mu) (hs : AnShape ps180 mu) : LoopAt Try.prog w0 mu 15 (L180 : Loops R) r 0 b180_0 :=
  loop_auto tr_ok eq_ok mixed_ok so180 (D := D180) hs (by kernel_rfl) (fun _ => (loops_of (l := []) (by kernel_rfl) (List.forall_mem_nil _))) t180_r0_eq (fun _ _ => rfl)
theorem t180_eq (x : denR (headRT (ps180.map some))) : codeK (tabOf tr) (semsOf sl180) D180 L180 code180 (start 15 ps180 x) (finK rs180 ps180) = x180 x := by kernel_rfl
theorem k180 : Known Try.prog 180 sem180 :=
  fn_auto tr_ok eq_ok mixed_ok so180 (D := D180) (code := code180) (n := 15) Try.func180 (by kernel_rfl) (by kernel_rfl) (by kernel_rfl) (fun w0 mu _ hs => (loops_of (l := [(0, b180_0)]) (by kernel_rfl) (List.forall_mem_cons.2 ⟨loop180_0 _ w0 mu hs, (List.forall_mem_nil _)⟩))) t180_eq

/-! ### f187: impl.ItemAt -/
noncomputable def code187 : Code := match Try.f187.body with | some c => c | none => .skip
def ps187 : List AP := [.val false [.shr T_iiis], .val false [.int .i64]]
def rs187 : List RP := [{ src := .cell 4, agg := true, ps := [.int .i64, .int .i64, .int .i64, .str] }, { src := .tmp 5, agg := false, ps := [.bool] }]
noncomputable def sl187 : SemL := []
def D187 : Draws := fun _ => .nil
def hp187_0 : List (Option AP) := [none, some (.val false [.int .i64]), none, none, some (.box false [.int .i64, .int .i64, .int .i64, .str]), none, none, none, some (.val false [.shr T_iiis]), some (.val false [.int .i64]), some (.val false [.int .i64]), none, none, none, none, none, none, none, none, none, none, none]
def e187_0 : List (Option AP) := [none, none, none, none, some (.box false [.int .i64, .int .i64, .int .i64, .str]), none, none, none, none, none, none, none, none, none, none, none, none, none, none, none, none, none]
def q187_0 : List (Option AP) := [none, none, none, none, some (.box false [.int .i64, .int .i64, .int .i64, .str]), some (.val false [.bool]), none, none, none, none, none, none, none, none, none, none, none, none, none, none, none, none]
abbrev H187_0 : Type := Int × Int × Int × Int × ByteArray × (List R_iiis) × Int × Int × Unit
abbrev E187_0 : Type := Int × Int × Int × ByteArray × Unit
abbrev Q187_0 : Type := Int × Int × Int × ByteArray × Bool × Unit
noncomputable def impl_ItemAt_c0 (seq1 : Int) (t4c0 : Int) (t4c1 : Int) (t4c2 : Int) (t4c3 : ByteArray) (t8 : List R_iiis) (t9 : Int) (t10 : Int) : Option (Sum H187_0 (Sum E187_0 Q187_0)) :=
  bif decide (t10 < t9) then
    bif decide ((0 : Int) ≤ t10) then Option.bind ((t8)[Int.toNat t10]?) fun r1 =>
      bif decide (r1.1 = seq1) then
        some (.inr (.inr (r1.1, r1.2.1, r1.2.2.1, r1.2.2.2.1, true, ())))
      else
        some (.inl (seq1, t4c0, t4c1, t4c2, t4c3, t8, t9, IntKind.i64.wrap (t10 + (1 : Int)), ()))
    else none
  else
    some (.inr (.inl (t4c0, t4c1, t4c2, t4c3, ())))
noncomputable def impl_ItemAt_r0 (x : H187_0) : Option (Sum H187_0 (Sum E187_0 Q187_0)) := impl_ItemAt_c0 x.1 x.2.1 x.2.2.1 x.2.2.2.1 x.2.2.2.2.1 x.2.2.2.2.2.1 x.2.2.2.2.2.2.1 x.2.2.2.2.2.2.2.1
noncomputable def L187 {R : Type} : Loops R := fun id _ st k => bif Nat.beq id 0 then loopAt hp187_0 e187_0 q187_0 impl_ItemAt_r0 st k else none
noncomputable def impl_ItemAt (list0 : List R_iiis) (seq1 : Int) : Option (Int × Int × Int × ByteArray × Bool × Unit) :=
  outK (loopV impl_ItemAt_r0 (seq1, (0 : Int), (0 : Int), (0 : Int), ByteArray.empty, list0, ((List.length list0 : Nat) : Int), (0 : Int), ())) (fun y1 =>
    some ((0 : Int), (0 : Int), (0 : Int), ByteArray.empty, false, ())) (fun y2 =>
    some (y2.1, y2.2.1, y2.2.2.1, y2.2.2.2.1, y2.2.2.2.2.1, ()))
noncomputable def x187 (x : (List R_iiis) × Int × Unit) : Option (Int × Int × Int × ByteArray × Bool × Unit) := impl_ItemAt x.1 x.2.1
noncomputable def sem187 : Sem1 := semOf ps187 rs187 x187
theorem so187 : SemsOk Try.prog (semsOf sl187) := sems_nil
noncomputable def b187_0 : Code := nthLoop code187 0
theorem t187_r0_eq (x : denR (headRT hp187_0)) : codeK (tabOf tr) (semsOf sl187) D187 L187 b187_0 (headSt hp187_0 x) (roundK 0 hp187_0 e187_0 q187_0) = impl_ItemAt_r0 x := by kernel_rfl
theorem loop187_0 {R : Type} (r : R) (w0 : World) (mu : Mu) (hs : AnShape ps187 mu) : LoopAt Try.prog w0 mu 21 (L187 : Loops R) r 0 b187_0 :=
  loop_auto tr_ok eq_ok mixed_ok so187 (D := D187) hs (by kernel_rfl) (fun _ => (loops_of (l := []) (by kernel_rfl) (List.forall_mem_nil _))) t187_r0_eq (fun _ _ => rfl)
theorem t187_eq (x : denR (headRT (ps187.map some))) : codeK (tabOf tr) (semsOf sl187) D187 L187 code187 (start 21 ps187 x) (finK rs187 ps187) = x187 x := by kernel_rfl
theorem k187 : Known Try.prog 187 sem187 :=
  fn_auto tr_ok eq_ok mixed_ok so187 (D := D187) (code := code187) (n := 21) Try.func187 (by kernel_rfl) (by kernel_rfl) (by kernel_rfl) (fun w0 mu _ hs => (loops_of (l := [(0, b187_0)]) (by kernel_rfl) (List.forall_mem_cons.2 ⟨loop187_0 _ w0 mu hs, (List.forall_mem_nil _)⟩))) t187_eq

/-! ### f157: impl.AruOf -/
noncomputable def code157 : Code := match Try.f157.body with | some c => c | none => .skip
def ps157 : List AP := [.val false [.shr T_iiis]]
def rs157 : List RP := [{ src := .tmp 2, agg := false, ps := [.int .i64] }]
noncomputable def sl157 : SemL := [(187, (.shr, .shr, .shr, sem187))]
def D157 : Draws := fun _ => .nil
def hp157_0 : List (Option AP) := [some (.val false [.shr T_iiis]), none, none, some (.val false [.int .i64]), none, none, none, none, none, none, none, none, none, none, none, none, none, none, none]
def e157_0 : List (Option AP) := [none, none, none, none, none, none, none, none, none, none, none, none, none, none, none, none, none, none, none]
def q157_0 : List (Option AP) := [none, none, some (.val false [.int .i64]), none, none, none, none, none, none, none, none, none, none, none, none, none, none, none, none]
abbrev H157_0 : Type := (List R_iiis) × Int × Unit
abbrev E157_0 : Type := Unit
abbrev Q157_0 : Type := Int × Unit
noncomputable def impl_AruOf_c0 (list0 : List R_iiis) (aru3 : Int) : Option (Sum H157_0 (Sum E157_0 Q157_0)) :=
  Option.bind (impl_ItemAt list0 (IntKind.i64.wrap (aru3 + (1 : Int)))) fun y1 =>
  bif !y1.2.2.2.2.1 then
    some (.inr (.inr (aru3, ())))
  else
    some (.inl (list0, IntKind.i64.wrap (aru3 + (1 : Int)), ()))
noncomputable def impl_AruOf_r0 (x : H157_0) : Option (Sum H157_0 (Sum E157_0 Q157_0)) := impl_AruOf_c0 x.1 x.2.1
noncomputable def L157 {R : Type} : Loops R := fun id _ st k => bif Nat.beq id 0 then loopAt hp157_0 e157_0 q157_0 impl_AruOf_r0 st k else none
noncomputable def impl_AruOf (list0 : List R_iiis) : Option (Int × Unit) :=
  outK (loopV impl_AruOf_r0 (list0, (0 : Int), ())) (fun y1 =>
    none) (fun y2 =>
    some (y2.1, ()))
noncomputable def x157 (x : (List R_iiis) × Unit) : Option (Int × Unit) := impl_AruOf x.1
noncomputable def sem157 : Sem1 := semOf ps157 rs157 x157
theorem so157 : SemsOk Try.prog (semsOf sl157) := sems_cons k187 (sems_nil)
noncomputable def b157_0 : Code := nthLoop code157 0
theorem t157_r0_eq (x : denR (headRT hp157_0)) : codeK (tabOf tr) (semsOf sl157) D157 L157 b157_0 (headSt hp157_0 x) (roundK 0 hp157_0 e157_0 q157_0) = impl_AruOf_r0 x := by kernel_rfl
theorem loop157_0 {R : Type} (r : R) (w0 : World) (mu : Mu) (hs : AnShape ps157 mu) : LoopAt Try.prog w0 mu 18 (L157 : Loops R) r 0 b157_0 :=
  loop_auto tr_ok eq_ok mixed_ok so157 (D := D157) hs (by kernel_rfl) (fun _ => (loops_of (l := []) (by kernel_rfl) (List.forall_mem_nil _))) t157_r0_eq (fun _ _ => rfl)
theorem t157_eq (x : denR (headRT (ps157.map some))) : codeK (tabOf tr) (semsOf sl157) D157 L157 code157 (start 18 ps157 x) (finK rs157 ps157) = x157 x := by kernel_rfl
theorem k157 : Known Try.prog 157 sem157 :=
  fn_auto tr_ok eq_ok mixed_ok so157 (D := D157) (code := code157) (n := 18) Try.func157 (by kernel_rfl) (by kernel_rfl) (by kernel_rfl) (fun w0 mu _ hs => (loops_of (l := [(0, b157_0)]) (by kernel_rfl) (List.forall_mem_cons.2 ⟨loop157_0 _ w0 mu hs, (List.forall_mem_nil _)⟩))) t157_eq

/-! ### f182: impl.Token).isZero -/
noncomputable def code182 : Code := match Try.f182.body with | some c => c | none => .skip
def ps182 : List AP := [.val true [.int .i64, .int .i64, .int .i64, .int .i64, .int .i64, .shr T_i]]
def rs182 : List RP := [{ src := .tmp 2, agg := false, ps := [.bool] }]
noncomputable def sl182 : SemL := []
def D182 : Draws := fun _ => .nil
noncomputable def L182 {R : Type} : Loops R := fun _ _ _ _ => none
noncomputable def impl_Token_isZero (t0c0 : Int) (t0c1 : Int) (t0c2 : Int) (t0c3 : Int) (t0c4 : Int) (t0c5 : List (Int × Unit)) : Option (Bool × Unit) :=
  bif decide (t0c0 = (0 : Int)) then
    bif decide (t0c1 = (0 : Int)) then
      bif decide (t0c2 = (0 : Int)) then
        bif decide (t0c3 = (0 : Int)) then
          bif decide (t0c4 = (0 : Int)) then
            some (decide (((List.length t0c5 : Nat) : Int) = (0 : Int)), ())
          else
            some (false, ())
        else
          some (false, ())
      else
        some (false, ())
    else
      some (false, ())
  else
    some (false, ())
noncomputable def x182 (x : Int × Int × Int × Int × Int × (List (Int × Unit)) × Unit) : Option (Bool × Unit) := impl_Token_isZero x.1 x.2.1 x.2.2.1 x.2.2.2.1 x.2.2.2.2.1 x.2.2.2.2.2.1
noncomputable def sem182 : Sem1 := semOf ps182 rs182 x182
theorem so182 : SemsOk Try.prog (semsOf sl182) := sems_nil
theorem t182_eq (x : denR (headRT (ps182.map some))) : codeK (tabOf tr) (semsOf sl182) D182 L182 code182 (start 32 ps182 x) (finK rs182 ps182) = x182 x := by kernel_rfl
theorem k182 : Known Try.prog 182 sem182 :=
  fn_auto tr_ok eq_ok mixed_ok so182 (D := D182) (code := code182) (n := 32) Try.func182 (by kernel_rfl) (by kernel_rfl) (by kernel_rfl) (fun w0 mu _ hs => (loops_of (l := []) (by kernel_rfl) (List.forall_mem_nil _))) t182_eq

/-! ### f183: impl.TokenOk -/
noncomputable def code183 : Code := match Try.f183.body with | some c => c | none => .skip
def ps183 : List AP := [.val true [.int .i64, .int .i64, .int .i64, .int .i64, .int .i64, .shr T_i]]
def rs183 : List RP := [{ src := .tmp 2, agg := false, ps := [.bool] }]
noncomputable def sl183 : SemL := [(146, (.shr, .shr, .shr, sem146))]
def D183 : Draws := fun _ => .nil
def hp183_0 : List (Option AP) := [none, some (.box false [.int .i64, .int .i64, .int .i64, .int .i64, .int .i64, .shr T_i]), none, none, none, none, none, none, none, none, none, none, none, none, none, none, none, none, none, none, none, none, some (.val false [.shr T_i]), some (.val false [.int .i64]), some (.val false [.int .i64]), none, none, none, none, none, none, none, none, none, none, none, none, none, none, none, none, none, none, none, none, none, none, none, none, none, none, none, none, none, none, none, none, none, none, none, none, none, none, none, none, none]
def e183_0 : List (Option AP) := [none, some (.box false [.int .i64, .int .i64, .int .i64, .int .i64, .int .i64, .shr T_i]), none, none, none, none, none, none, none, none, none, none, none, none, none, none, none, none, none, none, none, none, none, none, none, none, none, none, none, none, none, none, none, none, none, none, none, none, none, none, none, none, none, none, none, none, none, none, none, none, none, none, none, none, none, none, none, none, none, none, none, none, none, none, none, none]
def q183_0 : List (Option AP) := [none, none, some (.val false [.bool]), none, none, none, none, none, none, none, none, none, none, none, none, none, none, none, none, none, none, none, none, none, none, none, none, none, none, none, none, none, none, none, none, none, none, none, none, none, none, none, none, none, none, none, none, none, none, none, none, none, none, none, none, none, none, none, none, none, none, none, none, none, none, none]
abbrev H183_0 : Type := Int × Int × Int × Int × Int × (List (Int × Unit)) × (List (Int × Unit)) × Int × Int × Unit
abbrev E183_0 : Type := Int × Int × Int × Int × Int × (List (Int × Unit)) × Unit
abbrev Q183_0 : Type := Bool × Unit
noncomputable def impl_TokenOk_c0 (t1c0 : Int) (t1c1 : Int) (t1c2 : Int) (t1c3 : Int) (t1c4 : Int) (t1c5 : List (Int × Unit)) (t22 : List (Int × Unit)) (t23 : Int) (t24 : Int) : Option (Sum H183_0 (Sum E183_0 Q183_0)) :=
  bif decide (t24 < t23) then
    bif decide ((0 : Int) ≤ t24) then Option.bind ((t22)[Int.toNat t24]?) fun r4 =>
      Option.bind (impl_inRange r4.1 (1 : Int) t1c2) fun y5 =>
      bif !y5.1 then
        some (.inr (.inr (false, ())))
      else bif decide ((0 : Int) < t24) then
        bif decide ((0 : Int) ≤ IntKind.i64.wrap (t24 - (1 : Int))) then Option.bind ((t1c5)[Int.toNat (IntKind.i64.wrap (t24 - (1 : Int)))]?) fun r6 =>
          bif decide (r4.1 ≤ r6.1) then
            some (.inr (.inr (false, ())))
          else
            some (.inl (t1c0, t1c1, t1c2, t1c3, t1c4, t1c5, t22, t23, IntKind.i64.wrap (t24 + (1 : Int)), ()))
        else none
      else
        some (.inl (t1c0, t1c1, t1c2, t1c3, t1c4, t1c5, t22, t23, IntKind.i64.wrap (t24 + (1 : Int)), ()))
    else none
  else
    some (.inr (.inl (t1c0, t1c1, t1c2, t1c3, t1c4, t1c5, ())))
noncomputable def impl_TokenOk_r0 (x : H183_0) : Option (Sum H183_0 (Sum E183_0 Q183_0)) := impl_TokenOk_c0 x.1 x.2.1 x.2.2.1 x.2.2.2.1 x.2.2.2.2.1 x.2.2.2.2.2.1 x.2.2.2.2.2.2.1 x.2.2.2.2.2.2.2.1 x.2.2.2.2.2.2.2.2.1
noncomputable def L183 {R : Type} : Loops R := fun id _ st k => bif Nat.beq id 0 then loopAt hp183_0 e183_0 q183_0 impl_TokenOk_r0 st k else none
noncomputable def impl_TokenOk (t0c0 : Int) (t0c1 : Int) (t0c2 : Int) (t0c3 : Int) (t0c4 : Int) (t0c5 : List (Int × Unit)) : Option (Bool × Unit) :=
  Option.bind (impl_inRange t0c0 (1 : Int) (9 : Int)) fun y1 =>
  bif !y1.1 then
    some (false, ())
  else
    Option.bind (impl_inRange t0c1 (1 : Int) (1000000000 : Int)) fun y2 =>
    bif !y2.1 then
      some (false, ())
    else
      Option.bind (impl_inRange t0c2 (0 : Int) (60 : Int)) fun y3 =>
      bif !y3.1 then
        some (false, ())
      else
        outK (loopV impl_TokenOk_r0 (t0c0, t0c1, t0c2, t0c3, t0c4, t0c5, t0c5, ((List.length t0c5 : Nat) : Int), (0 : Int), ())) (fun y4 =>
          Option.bind (impl_inRange y4.2.2.2.1 (0 : Int) y4.2.2.1) fun y6 =>
          bif y6.1 then
            Option.bind (impl_inRange y4.2.2.2.2.1 (0 : Int) (5 : Int)) fun y7 =>
            bif y7.1 then
              some (decide (((List.length y4.2.2.2.2.2.1 : Nat) : Int) ≤ (20 : Int)), ())
            else
              some (false, ())
          else
            some (false, ())) (fun y5 =>
          some (y5.1, ()))
noncomputable def x183 (x : Int × Int × Int × Int × Int × (List (Int × Unit)) × Unit) : Option (Bool × Unit) := impl_TokenOk x.1 x.2.1 x.2.2.1 x.2.2.2.1 x.2.2.2.2.1 x.2.2.2.2.2.1
noncomputable def sem183 : Sem1 := semOf ps183 rs183 x183
theorem so183 : SemsOk Try.prog (semsOf sl183) := sems_cons k146 (sems_nil)
noncomputable def b183_0 : Code := nthLoop code183 0
theorem t183_r0_eq (x : denR (headRT hp183_0)) : codeK (tabOf tr) (semsOf sl183) D183 L183 b183_0 (headSt hp183_0 x) (roundK 0 hp183_0 e183_0 q183_0) = impl_TokenOk_r0 x := by kernel_rfl
theorem loop183_0 {R : Type} (r : R) (w0 : World) (mu : Mu) (hs : AnShape ps183 mu) : LoopAt Try.prog w0 mu 65 (L183 : Loops R) r 0 b183_0 :=
  loop_auto tr_ok eq_ok mixed_ok so183 (D := D183) hs (by kernel_rfl) (fun _ => (loops_of (l := []) (by kernel_rfl) (List.forall_mem_nil _))) t183_r0_eq (fun _ _ => rfl)
theorem t183_eq (x : denR (headRT (ps183.map some))) : codeK (tabOf tr) (semsOf sl183) D183 L183 code183 (start 65 ps183 x) (finK rs183 ps183) = x183 x := by kernel_rfl
theorem k183 : Known Try.prog 183 sem183 :=
  fn_auto tr_ok eq_ok mixed_ok so183 (D := D183) (code := code183) (n := 65) Try.func183 (by kernel_rfl) (by kernel_rfl) (by kernel_rfl) (fun w0 mu _ hs => (loops_of (l := [(0, b183_0)]) (by kernel_rfl) (List.forall_mem_cons.2 ⟨loop183_0 _ w0 mu hs, (List.forall_mem_nil _)⟩))) t183_eq

/-! ### f139: impl.MateOk -/
noncomputable def code139 : Code := match Try.f139.body with | some c => c | none => .skip
def ps139 : List AP := [.val true [.int .i64, .int .i64, .shr T_i, .shr T_iiis, .shr T_i, .shr T_s, .int .i64, .int .i64, .int .i64, .int .i64, .int .i64, .int .i64, .int .i64, .int .i64, .int .i64, .shr T_i]]
def rs139 : List RP := [{ src := .tmp 2, agg := false, ps := [.bool] }]
noncomputable def sl139 : SemL := [(149, (.shr, .shr, .shr, sem149)), (67, (.shr, .shr, .shr, sem67)), (158, (.shr, .shr, .shr, sem158)), (180, (.shr, .shr, .shr, sem180)), (181, (.shr, .shr, .shr, sem181)), (157, (.shr, .shr, .shr, sem157)), (146, (.shr, .shr, .shr, sem146)), (182, (.shr, .shr, .shr, sem182)), (183, (.shr, .shr, .shr, sem183))]
def D139 : Draws := fun _ => .nil
def hp139_0 : List (Option AP) := [none, some (.box false [.int .i64, .int .i64, .shr T_i, .shr T_iiis, .shr T_i, .shr T_s, .int .i64, .int .i64, .int .i64, .int .i64, .int .i64, .int .i64, .int .i64, .int .i64, .int .i64, .shr T_i]), none, none, none, none, none, none, none, none, none, none, none, none, none, none, none, none, none, none, none, none, none, none, none, none, none, none, none, none, none, none, none, none, none, none, none, none, none, none, none, none, none, none, none, some (.val false [.shr T_i]), some (.val false [.int .i64]), some (.val false [.int .i64]), none, none, none, none, none, none, none, none, none, none, none, none, none, none, none, none, none, none, none, none, none, none, none, none, none, none, none, none, none, none, none, none, none, none, none, none, none, none, none, none, none, none, none]
def e139_0 : List (Option AP) := [none, some (.box false [.int .i64, .int .i64, .shr T_i, .shr T_iiis, .shr T_i, .shr T_s, .int .i64, .int .i64, .int .i64, .int .i64, .int .i64, .int .i64, .int .i64, .int .i64, .int .i64, .shr T_i]), none, none, none, none, none, none, none, none, none, none, none, none, none, none, none, none, none, none, none, none, none, none, none, none, none, none, none, none, none, none, none, none, none, none, none, none, none, none, none, none, none, none, none, none, none, none, none, none, none, none, none, none, none, none, none, none, none, none, none, none, none, none, none, none, none, none, none, none, none, none, none, none, none, none, none, none, none, none, none, none, none, none, none, none, none, none, none, none, none]
def q139_0 : List (Option AP) := [none, none, some (.val false [.bool]), none, none, none, none, none, none, none, none, none, none, none, none, none, none, none, none, none, none, none, none, none, none, none, none, none, none, none, none, none, none, none, none, none, none, none, none, none, none, none, none, none, none, none, none, none, none, none, none, none, none, none, none, none, none, none, none, none, none, none, none, none, none, none, none, none, none, none, none, none, none, none, none, none, none, none, none, none, none, none, none, none, none, none, none, none, none, none, none]
abbrev H139_0 : Type := Int × Int × (List (Int × Unit)) × (List R_iiis) × (List (Int × Unit)) × (List (ByteArray × Unit)) × Int × Int × Int × Int × Int × Int × Int × Int × Int × (List (Int × Unit)) × (List (Int × Unit)) × Int × Int × Unit
abbrev E139_0 : Type := Int × Int × (List (Int × Unit)) × (List R_iiis) × (List (Int × Unit)) × (List (ByteArray × Unit)) × Int × Int × Int × Int × Int × Int × Int × Int × Int × (List (Int × Unit)) × Unit
abbrev Q139_0 : Type := Bool × Unit
noncomputable def impl_MateOk_c0 (m1c0 : Int) (m1c1 : Int) (m1c2 : List (Int × Unit)) (m1c3 : List R_iiis) (m1c4 : List (Int × Unit)) (m1c5 : List (ByteArray × Unit)) (m1c6 : Int) (m1c7 : Int) (m1c8 : Int) (m1c9 : Int) (m1c10 : Int) (m1c11 : Int) (m1c12 : Int) (m1c13 : Int) (m1c14 : Int) (m1c15 : List (Int × Unit)) (t45 : List (Int × Unit)) (t46 : Int) (t47 : Int) : Option (Sum H139_0 (Sum E139_0 Q139_0)) :=
  bif decide (t47 < t46) then
    bif decide ((0 : Int) ≤ t47) then Option.bind ((t45)[Int.toNat t47]?) fun r5 =>
      Option.bind (impl_isLevel r5.1) fun y6 =>
      bif !y6.1 then
        some (.inr (.inr (false, ())))
      else
        some (.inl (m1c0, m1c1, m1c2, m1c3, m1c4, m1c5, m1c6, m1c7, m1c8, m1c9, m1c10, m1c11, m1c12, m1c13, m1c14, m1c15, t45, t46, IntKind.i64.wrap (t47 + (1 : Int)), ()))
    else none
  else
    some (.inr (.inl (m1c0, m1c1, m1c2, m1c3, m1c4, m1c5, m1c6, m1c7, m1c8, m1c9, m1c10, m1c11, m1c12, m1c13, m1c14, m1c15, ())))
noncomputable def impl_MateOk_r0 (x : H139_0) : Option (Sum H139_0 (Sum E139_0 Q139_0)) := impl_MateOk_c0 x.1 x.2.1 x.2.2.1 x.2.2.2.1 x.2.2.2.2.1 x.2.2.2.2.2.1 x.2.2.2.2.2.2.1 x.2.2.2.2.2.2.2.1 x.2.2.2.2.2.2.2.2.1 x.2.2.2.2.2.2.2.2.2.1 x.2.2.2.2.2.2.2.2.2.2.1 x.2.2.2.2.2.2.2.2.2.2.2.1 x.2.2.2.2.2.2.2.2.2.2.2.2.1 x.2.2.2.2.2.2.2.2.2.2.2.2.2.1 x.2.2.2.2.2.2.2.2.2.2.2.2.2.2.1 x.2.2.2.2.2.2.2.2.2.2.2.2.2.2.2.1 x.2.2.2.2.2.2.2.2.2.2.2.2.2.2.2.2.1 x.2.2.2.2.2.2.2.2.2.2.2.2.2.2.2.2.2.1 x.2.2.2.2.2.2.2.2.2.2.2.2.2.2.2.2.2.2.1
noncomputable def L139 {R : Type} : Loops R := fun id _ st k => bif Nat.beq id 0 then loopAt hp139_0 e139_0 q139_0 impl_MateOk_r0 st k else none
noncomputable def impl_MateOk (m0c0 : Int) (m0c1 : Int) (m0c2 : List (Int × Unit)) (m0c3 : List R_iiis) (m0c4 : List (Int × Unit)) (m0c5 : List (ByteArray × Unit)) (m0c6 : Int) (m0c7 : Int) (m0c8 : Int) (m0c9 : Int) (m0c10 : Int) (m0c11 : Int) (m0c12 : Int) (m0c13 : Int) (m0c14 : Int) (m0c15 : List (Int × Unit)) : Option (Bool × Unit) :=
  Option.bind (slices_Contains_int m0c2 m0c0) fun y1 =>
  bif !y1.1 then
    some (false, ())
  else
    Option.bind (impl_RingOk m0c1 m0c2) fun y2 =>
    bif !y2.1 then
      some (false, ())
    else
      Option.bind (impl_ItemsOk m0c3) fun y3 =>
      bif !y3.1 then
        some (false, ())
      else bif decide ((20 : Int) < ((List.length m0c5 : Nat) : Int)) then
        some (false, ())
      else
        Option.bind (impl_areShort m0c5) fun y4 =>
        bif !y4.1 then
          some (false, ())
        else bif !decide (((List.length m0c4 : Nat) : Int) = ((List.length m0c5 : Nat) : Int)) then
          some (false, ())
        else
          outK (loopV impl_MateOk_r0 (m0c0, m0c1, m0c2, m0c3, m0c4, m0c5, m0c6, m0c7, m0c8, m0c9, m0c10, m0c11, m0c12, m0c13, m0c14, m0c15, m0c4, ((List.length m0c4 : Nat) : Int), (0 : Int), ())) (fun y5 =>
            Option.bind (impl_AruOf y5.2.2.2.1) fun y7 =>
            Option.bind (impl_inRange y5.2.2.2.2.2.2.1 (0 : Int) (1000000000 : Int)) fun y8 =>
            bif !y8.1 then
              some (false, ())
            else
              Option.bind (impl_inRange y5.2.2.2.2.2.2.2.1 (0 : Int) (60 : Int)) fun y9 =>
              bif !y9.1 then
                some (false, ())
              else
                Option.bind (impl_inRange y5.2.2.2.2.2.2.2.2.1 (0 : Int) y7.1) fun y10 =>
                bif !y10.1 then
                  some (false, ())
                else
                  Option.bind (impl_inRange y5.2.2.2.2.2.2.2.2.2.1 (0 : Int) y7.1) fun y11 =>
                  bif !y11.1 then
                    some (false, ())
                  else
                    Option.bind (impl_Token_isZero y5.2.2.2.2.2.2.2.2.2.2.1 y5.2.2.2.2.2.2.2.2.2.2.2.1 y5.2.2.2.2.2.2.2.2.2.2.2.2.1 y5.2.2.2.2.2.2.2.2.2.2.2.2.2.1 y5.2.2.2.2.2.2.2.2.2.2.2.2.2.2.1 y5.2.2.2.2.2.2.2.2.2.2.2.2.2.2.2.1) fun y12 =>
                    bif y12.1 then
                      some (true, ())
                    else
                      Option.bind (impl_TokenOk y5.2.2.2.2.2.2.2.2.2.2.1 y5.2.2.2.2.2.2.2.2.2.2.2.1 y5.2.2.2.2.2.2.2.2.2.2.2.2.1 y5.2.2.2.2.2.2.2.2.2.2.2.2.2.1 y5.2.2.2.2.2.2.2.2.2.2.2.2.2.2.1 y5.2.2.2.2.2.2.2.2.2.2.2.2.2.2.2.1) fun y13 =>
                      some (y13.1, ())) (fun y6 =>
            some (y6.1, ()))
noncomputable def x139 (x : Int × Int × (List (Int × Unit)) × (List R_iiis) × (List (Int × Unit)) × (List (ByteArray × Unit)) × Int × Int × Int × Int × Int × Int × Int × Int × Int × (List (Int × Unit)) × Unit) : Option (Bool × Unit) := impl_MateOk x.1 x.2.1 x.2.2.1 x.2.2.2.1 x.2.2.2.2.1 x.2.2.2.2.2.1 x.2.2.2.2.2.2.1 x.2.2.2.2.2.2.2.1 x.2.2.2.2.2.2.2.2.1 x.2.2.2.2.2.2.2.2.2.1 x.2.2.2.2.2.2.2.2.2.2.1 x.2.2.2.2.2.2.2.2.2.2.2.1 x.2.2.2.2.2.2.2.2.2.2.2.2.1 x.2.2.2.2.2.2.2.2.2.2.2.2.2.1 x.2.2.2.2.2.2.2.2.2.2.2.2.2.2.1 x.2.2.2.2.2.2.2.2.2.2.2.2.2.2.2.1
noncomputable def sem139 : Sem1 := semOf ps139 rs139 x139
theorem so139 : SemsOk Try.prog (semsOf sl139) := sems_cons k149 (sems_cons k67 (sems_cons k158 (sems_cons k180 (sems_cons k181 (sems_cons k157 (sems_cons k146 (sems_cons k182 (sems_cons k183 (sems_nil)))))))))
noncomputable def b139_0 : Code := nthLoop code139 0
theorem t139_r0_eq (x : denR (headRT hp139_0)) : codeK (tabOf tr) (semsOf sl139) D139 L139 b139_0 (headSt hp139_0 x) (roundK 0 hp139_0 e139_0 q139_0) = impl_MateOk_r0 x := by kernel_rfl
theorem loop139_0 {R : Type} (r : R) (w0 : World) (mu : Mu) (hs : AnShape ps139 mu) : LoopAt Try.prog w0 mu 90 (L139 : Loops R) r 0 b139_0 :=
  loop_auto tr_ok eq_ok mixed_ok so139 (D := D139) hs (by kernel_rfl) (fun _ => (loops_of (l := []) (by kernel_rfl) (List.forall_mem_nil _))) t139_r0_eq (fun _ _ => rfl)
theorem t139_eq (x : denR (headRT (ps139.map some))) : codeK (tabOf tr) (semsOf sl139) D139 L139 code139 (start 90 ps139 x) (finK rs139 ps139) = x139 x := by kernel_rfl
theorem k139 : Known Try.prog 139 sem139 :=
  fn_auto tr_ok eq_ok mixed_ok so139 (D := D139) (code := code139) (n := 90) Try.func139 (by kernel_rfl) (by kernel_rfl) (by kernel_rfl) (fun w0 mu _ hs => (loops_of (l := [(0, b139_0)]) (by kernel_rfl) (List.forall_mem_cons.2 ⟨loop139_0 _ w0 mu hs, (List.forall_mem_nil _)⟩))) t139_eq

/-! ### f188: slices.Insert[[]loop.example/g00183/impl.Item,loop.example/g00183/impl.Item], of the library -/
set_option maxHeartbeats 4000000 in
set_option maxRecDepth 100000 in
theorem ins_shift (b off n c i vb voff vc : Nat) (cs vs : List Value) (w : World) (hi : i < n) (hroom : n + 1 ≤ c) (hn63 : n ≤ 140737488355328) (hvb : vb ≠ b)
    (hcl : cs.length = n * 4) (hvl : vs.length = 4)
    (hcs : ∀ j v, cs[j]? = some v → w.cell? ⟨b, off + j, none⟩ = some v) (hsp : ∀ j, j < (n + 1) * 4 → (w.cell? ⟨b, off + j, none⟩).isSome = true) (hfz : ∀ j, j < (n + 1) * 4 → w.frozen? ⟨b, off + j, none⟩ = false)
    (hvs : ∀ j v, vs[j]? = some v → w.cell? ⟨vb, voff + j, none⟩ = some v) (h1c : ∀ v ∈ cs, v.oneCell' = true) (h1v : ∀ v ∈ vs, v.oneCell' = true)
    (tA tB : TypeId) (kA kB : Nat) (hsa : w.shape? vb = some (tA, kA)) (hsb : w.shape? b = some (tB, kB)) (hkB : kB ≠ 0) (hfa : w.frozen? ⟨vb, voff, none⟩ = false) (hfe : w.frozen? ⟨vb, kA, none⟩ = false) :
    Calls Try.prog 188 #[.slice (some ⟨b, off, none⟩) n c, .int .i64 i, .slice (some ⟨vb, voff, none⟩) 1 vc] w fun e w' =>
      e = .returned (.slice (some ⟨b, off, none⟩) (n + 1) c) ∧ w' = (w.drew.setCells b (off + (i + 1) * 4) (cs.drop (i * 4))).setCells b (off + i * 4) vs := by
  have mixed : Try.prog.follows .mixedOrders = true := by kernel_rfl
  have hz2 : ¬ ((i : Int) = (n : Int)) := by omega
  have hsz : (Try.prog.info? 108).map (·.size) = some 4 := by kernel_rfl
  have hov : ∀ lb cb, (callFunc 194 #[.slice (some ⟨vb, voff, none⟩) 1 vc, .slice (some ⟨b, off + (i + 1) * 4, none⟩) lb cb]).run Try.prog w = .ok (.value (.bool false)) w := fun lb cb => by
    rw [run_callFunc_extern Try.func194 (by kernel_rfl) (by kernel_rfl) (by kernel_rfl) (e := Extern.SlicesOverlaps.overlaps #[30, 30] #[4]) (by kernel_rfl),
      Lib.run_overlaps_apart w 30 4 108 Try.underlying30 4 Try.sizeOf108 ⟨vb, voff, none⟩ ⟨b, off + (i + 1) * 4, none⟩ 1 vc lb cb hvb tA tB kA kB hsa hsb hkB hfa hfe]
    rfl
  have hdl : (cs.drop (i * 4)).length = (n - i) * 4 := by rw [List.length_drop, hcl]; omega
  have hw1 : IntKind.i64.wrap ((i : Int) + (1 : Int)) = (i : Int) + (1 : Int) := by rw [IntKind.wrap_i64]; omega
  have hb1 : (0 : Int) ≤ (i : Int) + (1 : Int) := by omega
  have hin : i ≤ n := by omega
  have htn : ((i : Int) + (1 : Int)).toNat = i + 1 := by omega
  have hb2 : ¬ (c = i + 1) := by omega
  have hb3 : (i : Int) ≤ (n : Int) + (1 : Int) := by omega
  have hb4 : ¬ (c = i) := by omega
  have hcp1 : ∀ ty dc sc, (Builtin.copy_ #[30, 30] ty #[.slice (some ⟨b, off + (i + 1) * 4, none⟩) (n - i) dc, .slice (some ⟨b, off + i * 4, none⟩) (n + 1 - i) sc]).run Try.prog w.drew = .ok (goInt (Nat.min (n + 1 - i) (n - i))) (w.drew.setCells b (off + (i + 1) * 4) (cs.drop (i * 4))) := fun ty dc sc =>
    run_copy_wide w.drew _ _ ty 108 4 b (off + (i + 1) * 4) (n - i) dc ⟨b, off + i * 4, none⟩ (n + 1 - i) sc (cs.drop (i * 4)) Try.underlying30 hsz (by rw [hdl]; simp only [Nat.min_def]; split <;> omega)
      (fun j v hj => by rw [Addr.add_lit, Nat.add_assoc]; exact hcs (i * 4 + j) v (by rwa [List.getElem?_drop] at hj))
      (fun j hj => by rw [Nat.add_assoc]; exact hsp _ (by omega)) (fun j hj => by rw [Nat.add_assoc]; exact hfz _ (by omega)) (fun v hv => h1c v (List.mem_of_mem_drop hv))
  obtain ⟨W1, hW1⟩ : ∃ W1, W1 = w.drew.setCells b (off + (i + 1) * 4) (cs.drop (i * 4)) := ⟨_, rfl⟩
  have hsp1 : ∀ k, k < (n + 1) * 4 → (W1.cell? ⟨b, off + k, none⟩).isSome = true := fun k hk => by
    rw [hW1]
    exact isSome_setCells b _ _ _ (fun j hj => by rw [Nat.add_assoc]; exact hsp _ (by omega)) _ (hsp k hk)
  have hcp2 : ∀ (W : World), (∀ x, W.cell? x = W1.cell? x) → (∀ x, W.frozen? x = W1.frozen? x) → ∀ ty dc, (Builtin.copy_ #[30, 30] ty #[.slice (some ⟨b, off + i * 4, none⟩) (n + 1 - i) dc, .slice (some ⟨vb, voff, none⟩) 1 vc]).run Try.prog W = .ok (goInt (Nat.min 1 (n + 1 - i))) (W.setCells b (off + i * 4) vs) := fun W hWc hWf ty dc =>
    run_copy_wide W _ _ ty 108 4 b (off + i * 4) (n + 1 - i) dc ⟨vb, voff, none⟩ 1 vc vs Try.underlying30 hsz (by rw [hvl]; simp only [Nat.min_def]; split <;> omega)
      (fun j v hj => by
        rw [Addr.add_lit, hWc, hW1, World.cell?_setCells_out b _ _ _ _ (fun h _ => absurd h hvb)]
        exact hvs j v hj)
      (fun j hj => by rw [hWc, Nat.add_assoc]; exact hsp1 _ (by omega)) (fun j hj => by rw [hWf, hW1, World.frozen?_setCells, Nat.add_assoc]; exact hfz _ (by omega)) h1v
  rw [← hW1] at hcp1
  go_enter Try.func188, Try.ntmps188
  go_wp2_with (simp only [hov])
  go_region_law_o (refine step_copy_runI rfl _ _ 30 30 rfl _ _ (by simp [Act.eval, Act.put]) (by simp [Act.eval, Act.put]) (hcp1 _ _ _) ?_)
  go_wp2_with (at_builtin; refine wpList_copy_runI _ rfl _ _ 30 30 rfl _ _ rfl rfl (hcp2 _ (fun _ => rfl) (fun _ => rfl) _ _) ?_)
  go_ret
  first | exact ⟨rfl, rfl⟩ | exact ⟨rfl, by rw [hW1]⟩

set_option maxHeartbeats 4000000 in
set_option maxRecDepth 100000 in
theorem ins_grow (b off n c i vb voff vc : Nat) (cs vs : List Value) (w : World) (hi : i < n) (hnc : n ≤ c) (hroom : c < n + 1) (hbig : (n + 1) * 40 ≤ 140737488355328)
    (hcl : cs.length = n * 4) (hvl : vs.length = 4)
    (hcs : ∀ j v, cs[j]? = some v → w.cell? ⟨b, off + j, none⟩ = some v)
    (hvs : ∀ j v, vs[j]? = some v → w.cell? ⟨vb, voff + j, none⟩ = some v) (h1c : ∀ v ∈ cs, v.oneCell' = true) (h1v : ∀ v ∈ vs, v.oneCell' = true) :
    ∃ (ROW : Array Value) (G : Nat), n + 1 ≤ G ∧ ROW.size = G * 4 ∧ (∀ (j : Nat) (v : Value), (cs.take (i * 4))[j]? = some v → ROW[j]? = some v) ∧
    Calls Try.prog 188 #[.slice (some ⟨b, off, none⟩) n c, .int .i64 i, .slice (some ⟨vb, voff, none⟩) 1 vc] w fun e w' =>
      e = .returned (.slice (some ⟨w.heap.size, 0, none⟩) (n + 1) G) ∧
      w' = (((w.alloc (.cells ROW 108)).drew.setCells w.heap.size (i * 4) vs).drew).setCells w.heap.size ((i + 1) * 4) (cs.drop (i * 4)) := by
  have mixed : Try.prog.follows .mixedOrders = true := by kernel_rfl
  obtain ⟨i0, hi0, hz0, hzs, hzb⟩ : ∃ i0, Try.prog.info? 108 = some i0 ∧ i0.zero = some (Value.agg #[Value.int .i64 0, Value.int .i64 0, Value.int .i64 0, Value.string ⟨#[]⟩]) ∧ i0.size = 4 ∧ i0.bytes = 40 := ⟨_, rfl, by kernel_rfl, by kernel_rfl, by kernel_rfl⟩
  have hz2 : ¬ ((i : Int) = (n : Int)) := by omega
  have hz3 : (c : Int) < (n : Int) + (1 : Int) := by omega
  have hsz : (Try.prog.info? 108).map (·.size) = some 4 := by rw [hi0]; simp [hzs]
  have hbw : b < w.heap.size := block_lt_of_cell (hcs 0 _ (List.getElem?_eq_getElem (by omega)))
  have hvw : vb < w.heap.size := block_lt_of_cell (hvs 0 _ (List.getElem?_eq_getElem (by omega)))
  have hkk : (n : Int) + (1 : Int) - (i : Int) = ((n + 1 - i : Nat) : Int) := by omega
  have hik : i + (n + 1 - i) = n + 1 := by omega
  have hold : (Builtin.firstCells i0.size i (.slice (some ⟨b, off, none⟩) i c)).run Try.prog w.drew = .ok (cs.take (i * 4)).toArray w.drew := by
    rw [hzs]
    exact run_firstCells_some w.drew 4 i ⟨b, off, none⟩ i c (cs.take (i * 4)) (by rw [List.length_take]; omega) (fun j v hj => by
      rw [Addr.add_lit]
      rw [List.getElem?_take] at hj
      split at hj
      · exact hcs j v hj
      · cases hj)
  have hrz : ∀ ty, (Builtin.append_ #[30, 3] ty #[.slice (some ⟨b, off, none⟩) i c, .int .i64 ((n : Int) + (1 : Int) - (i : Int))]).run Try.prog w =
      .ok (.slice (some ⟨w.heap.size, 0, none⟩) (n + 1) (grownCap w (n + 1) c 108)) (w.drew.alloc (.cells ((cs.take (i * 4)).toArray ++ Builtin.zeroCells (Value.agg #[Value.int .i64 0, Value.int .i64 0, Value.int .i64 0, Value.string ⟨#[]⟩]).cells (n + 1 - i) ++ Builtin.zeroCells (Value.agg #[Value.int .i64 0, Value.int .i64 0, Value.int .i64 0, Value.string ⟨#[]⟩]).cells (grownCap w (n + 1) c 108 - (n + 1))) 108)) := fun ty => by
    have h := Lib.run_append_grow_zeros w 30 3 ty 108 i0 _ .i64 .i64 Try.underlying30 Try.underlying3 hi0 hz0 (some ⟨b, off, none⟩) i c (cs.take (i * 4)) hold (n + 1 - i) (by omega) (by omega) (by omega) (by omega) (by rw [hzb]; omega) (by rw [hzb, hik]; exact growslice_fits hroom hbig)
    rw [hik] at h
    rw [hkk]
    exact h
  obtain ⟨G, hG⟩ : ∃ G, G = grownCap w (n + 1) c 108 := ⟨_, rfl⟩
  obtain ⟨ROW, hROW⟩ : ∃ ROW : Array Value, ROW = (cs.take (i * 4)).toArray ++ Builtin.zeroCells (Value.agg #[Value.int .i64 0, Value.int .i64 0, Value.int .i64 0, Value.string ⟨#[]⟩]).cells (n + 1 - i) ++ Builtin.zeroCells (Value.agg #[Value.int .i64 0, Value.int .i64 0, Value.int .i64 0, Value.string ⟨#[]⟩]).cells (G - (n + 1)) := ⟨_, rfl⟩
  rw [← hG] at hrz
  rw [← hROW] at hrz
  have hGn : n + 1 ≤ G := by rw [hG]; exact grownCap_ge w _ _ _
  have hRs : ROW.size = G * 4 := by
    rw [hROW]
    simp [Builtin.zeroCells, Value.cells]
    omega
  have hRl : (n + 1) * 4 ≤ ROW.size := by omega
  have hRt : ∀ (j : Nat) (v : Value), (cs.take (i * 4))[j]? = some v → ROW[j]? = some v := fun j v hj => by
    have hlt : j < (cs.take (i * 4)).length := (List.getElem?_eq_some_iff.1 hj).1
    rw [hROW, Array.append_assoc, Array.getElem?_append_left (by simpa using hlt)]
    simpa using hj
  refine ⟨ROW, G, hGn, hRs, hRt, ?_⟩
  obtain ⟨W1, hW1⟩ : ∃ W1, W1 = w.drew.alloc (.cells ROW 108) := ⟨_, rfl⟩
  rw [← hW1] at hrz
  have hN : ∀ j, j < (n + 1) * 4 → (W1.cell? ⟨w.heap.size, j, none⟩).isSome = true := fun j hj => by
    rw [hW1, World.cell?_alloc_at (w := w.drew) ROW _ w.heap.size j rfl, Array.getElem?_eq_getElem (by omega)]; rfl
  have hNf : ∀ j, W1.frozen? ⟨w.heap.size, j, none⟩ = false := fun j => by rw [hW1]; exact World.frozen?_alloc_at (w := w.drew) ROW _ w.heap.size j rfl
  have hOb : ∀ j v, w.cell? ⟨b, j, none⟩ = some v → W1.cell? ⟨b, j, none⟩ = some v := fun j v h => by rw [hW1, World.cell?_alloc_past (w := w.drew) _ b j hbw]; exact h
  have hOv : ∀ j v, w.cell? ⟨vb, j, none⟩ = some v → W1.cell? ⟨vb, j, none⟩ = some v := fun j v h => by rw [hW1, World.cell?_alloc_past (w := w.drew) _ vb j hvw]; exact h
  have hcpA : ∀ (W : World), (∀ x, W.cell? x = W1.cell? x) → (∀ x, W.frozen? x = W1.frozen? x) → ∀ ty dc, (Builtin.copy_ #[30, 30] ty #[.slice (some ⟨w.heap.size, i * 4, none⟩) (n + 1 - i) dc, .slice (some ⟨vb, voff, none⟩) 1 vc]).run Try.prog W = .ok (goInt (Nat.min 1 (n + 1 - i))) (W.setCells w.heap.size (i * 4) vs) := fun W hWc hWf ty dc =>
    run_copy_wide W _ _ ty 108 4 w.heap.size (i * 4) (n + 1 - i) dc ⟨vb, voff, none⟩ 1 vc vs Try.underlying30 hsz (by rw [hvl]; simp only [Nat.min_def]; split <;> omega)
      (fun j v hj => by rw [Addr.add_lit, hWc]; exact hOv _ v (hvs j v hj))
      (fun j hj => by rw [hWc]; exact hN _ (by omega)) (fun j hj => by rw [hWf]; exact hNf _) h1v
  have hG63 : G ≤ 9223372036854775807 := by
    have := grownCap_le_maxLen w (n + 1) c 108 (by unfold maxLen; omega)
    rw [← hG] at this
    unfold maxLen at this
    omega
  have hGi : ¬ (G = i) := by omega
  have hGim : ¬ (G = i + 1) := by omega
  have hci : ¬ (c = i) := by omega
  have hbN : b ≠ w.heap.size := by omega
  have hdl : (cs.drop (i * 4)).length = (n - i) * 4 := by rw [List.length_drop, hcl]; omega
  have hcpB : ∀ (W : World), (∀ x, W.cell? x = (W1.setCells w.heap.size (i * 4) vs).cell? x) → (∀ x, W.frozen? x = (W1.setCells w.heap.size (i * 4) vs).frozen? x) → ∀ ty dc sc, (Builtin.copy_ #[30, 30] ty #[.slice (some ⟨w.heap.size, (i + 1) * 4, none⟩) (n - i) dc, .slice (some ⟨b, off + i * 4, none⟩) (n - i) sc]).run Try.prog W = .ok (goInt (Nat.min (n - i) (n - i))) (W.setCells w.heap.size ((i + 1) * 4) (cs.drop (i * 4))) := fun W hWc hWf ty dc sc =>
    run_copy_wide W _ _ ty 108 4 w.heap.size ((i + 1) * 4) (n - i) dc ⟨b, off + i * 4, none⟩ (n - i) sc (cs.drop (i * 4)) Try.underlying30 hsz (by rw [hdl]; simp only [Nat.min_def]; split <;> omega)
      (fun j v hj => by
        rw [Addr.add_lit, hWc, World.cell?_setCells_out _ _ _ _ _ (fun h _ => absurd h hbN), Nat.add_assoc]
        exact hOb _ v (hcs (i * 4 + j) v (by rwa [List.getElem?_drop] at hj)))
      (fun j hj => by rw [hWc]; exact isSome_setCells _ _ _ _ (fun t ht => hN _ (by omega)) _ (hN _ (by omega)))
      (fun j hj => by rw [hWf, World.frozen?_setCells]; exact hNf _) (fun v hv => h1c v (List.mem_of_mem_drop hv))
  subst hW1
  have hE1 : ∀ x, ((w.alloc (.cells ROW 108)).drew).cell? x = (w.drew.alloc (.cells ROW 108)).cell? x := fun x => rfl
  have hE2 : ∀ x, ((w.alloc (.cells ROW 108)).drew).frozen? x = (w.drew.alloc (.cells ROW 108)).frozen? x := fun x => rfl
  have hF1 : ∀ x, (((w.alloc (.cells ROW 108)).drew.setCells w.heap.size (i * 4) vs).drew).cell? x = ((w.drew.alloc (.cells ROW 108)).setCells w.heap.size (i * 4) vs).cell? x := fun x => rfl
  have hF2 : ∀ x, (((w.alloc (.cells ROW 108)).drew.setCells w.heap.size (i * 4) vs).drew).frozen? x = ((w.drew.alloc (.cells ROW 108)).setCells w.heap.size (i * 4) vs).frozen? x := fun x => rfl
  have hw1 : IntKind.i64.wrap ((i : Int) + (1 : Int)) = (i : Int) + (1 : Int) := by rw [IntKind.wrap_i64]; omega
  have hb1 : (0 : Int) ≤ (i : Int) + (1 : Int) := by omega
  have hin : i ≤ n := by omega
  have htn : ((i : Int) + (1 : Int)).toNat = i + 1 := by omega
  have hb3 : (i : Int) ≤ (n : Int) := by omega
  clear hkk hik hold hROW hG hRl hi0 hz0 hzs hzb hRt
  go_enter Try.func188, Try.ntmps188
  go_wp2_with (first
    | (at_builtin; refine Lib.wpList_append_run _ rfl _ _ _ _ rfl _ _ rfl rfl _ _ (hrz _) ?_)
    | (at_builtin; refine wpList_copy_runI _ rfl _ _ 30 30 rfl _ _ rfl rfl (hcpA _ hE1 hE2 _ _) ?_)
    | (at_builtin; refine wpList_copy_runI _ rfl _ _ 30 30 rfl _ _ rfl rfl (hcpB _ (fun _ => rfl) (fun _ => rfl) _ _ _) ?_))
  go_region_law_o (refine step_copy_runI rfl _ _ 30 30 rfl (.slice (some ⟨w.heap.size, (i + 1) * 4, none⟩) (n - i) (G - (i + 1))) (.slice (some ⟨b, off + i * 4, none⟩) (n - i) (c - i)) (by simp [Act.eval, Act.put]) (by simp [Act.eval, Act.put]) (hcpB _ hF1 hF2 3 (G - (i + 1)) (c - i)) ?_)
  go_wp2
  go_ret
  exact ⟨rfl, rfl⟩

set_option maxHeartbeats 4000000 in
set_option maxRecDepth 100000 in
theorem ins_end (base : Option Addr) (n c vb voff vc : Nat) (w w' : World) (v : Value) (hnc : n ≤ c) (hnil : base = none → n = 0 ∧ c = 0)
    (hrun : (Builtin.append_ #[30, 30] 30 #[.slice base n c, .slice (some ⟨vb, voff, none⟩) 1 vc]).run Try.prog w = .ok v w') :
    Calls Try.prog 188 #[.slice base n c, .int .i64 n, .slice (some ⟨vb, voff, none⟩) 1 vc] w fun e w'' => e = .returned v ∧ w'' = w' := by
  have mixed : Try.prog.follows .mixedOrders = true := by kernel_rfl
  go_enter Try.func188, Try.ntmps188
  cases base with
  | none =>
    obtain ⟨h0, h1⟩ := hnil rfl
    subst h0 h1
    go_wp2_with (at_builtin; refine Lib.wpList_append_run _ rfl _ _ _ _ rfl _ _ rfl rfl _ _ hrun ?_)
    go_ret
    exact ⟨rfl, rfl⟩
  | some a =>
    obtain ⟨ab, ao, asp⟩ := a
    go_wp2_with (at_builtin; refine Lib.wpList_append_run _ rfl _ _ _ _ rfl _ _ rfl rfl _ _ hrun ?_)
    all_goals (go_ret; exact ⟨rfl, rfl⟩)

def insT (s : List R_iiis) (i : Int) (v : List R_iiis) : Option ((List R_iiis) × Unit) :=
  bif decide (0 ≤ i) && (decide (i ≤ ((List.length s : Nat) : Int)) && (Nat.beq v.length 1 && Nat.ble ((s.length + 1) * 40) lim)) then some (s.take i.toNat ++ (v ++ s.drop i.toNat), ()) else none

theorem insert_answer {T : Tab} (hT : TabOk Try.prog T) (hE : T.elem 30 = some (T_iiis, 40)) {c : Cz} {w : World} {mu : Mu} (hH : Handed c w mu) {s x : List (denR T_iiis)} {i : Nat} {v0 v2 : Value} {l0 l2 : Loc}
    (h0 : OwnAt c w (.pend 0 0) l0 { r := T_iiis, own := true, xs := s } v0) (h2 : OwnAt c w (.pend 2 0) l2 { r := T_iiis, own := true, xs := x } v2) (hi : i ≤ s.length) (hx : x.length = 1) (hb : (s.length + 1) * 40 ≤ lim) :
    Calls Try.prog 188 #[v0, .int .i64 i, v2] w fun e w' => ∃ v, e = .returned v ∧ ∃ c', Bas w mu c' w' ∧ HoldL c' w' .pres 0 [.own { r := T_iiis, own := true, xs := s.take i ++ (x ++ s.drop i) }] [v] := by
  obtain ⟨q1, q2, _, q4⟩ := h2
  have hlim : (s.length + 1) * 40 ≤ 140737488355328 := by unfold lim at hb; omega
  cases l2 with
  | nil =>
    have q4 : x = [] := q4
    rw [q4] at hx; simp at hx
  | «at» vb voff vcap =>
  obtain ⟨g1, g2, ⟨vcur, vty, g3, g4⟩, g5⟩ := q4
  obtain ⟨va, vc, rfl, k1, k2, k3⟩ := q2
  have k1 : x.length ≤ vc := k1
  have ha := k3 (by omega)
  have ha : va = ⟨vb, voff, none⟩ := ha.trans (by rw [Nat.zero_mul]; rfl)
  subst ha
  have hx' : ({ r := T_iiis, own := true, xs := x } : Arr).xs.length = 1 := hx
  rw [hx']
  obtain ⟨vs, hvr, hvs⟩ := rows_of_rep vb voff x ((RowsOk.sh rfl).1 g5)
  have hvl : vs.length = 4 := by
    have := RowsVs.length vs x hvs
    rw [hx] at this
    exact this
  have h1v := RowsVs.ones vs x hvs
  have hvm : mu.m vb := (hH.m vb).2 ⟨_, g1, rfl⟩
  obtain ⟨p1, p2, _, p4⟩ := h0
  have hwid : RT.width T_iiis = 4 := rfl
  by_cases hin : i = s.length
  · -- at the end
    subst hin
    have hnew : s.take s.length ++ (x ++ s.drop s.length) = s ++ x := by rw [List.take_length, List.drop_length, List.append_nil]
    rw [hnew]
    have fin : ∀ (base : Option Addr) (n cc : Nat) (us : List Value) (xb : Option Nat), v0 = .slice base n cc → n = s.length → n ≤ cc → (base = none → n = 0 ∧ cc = 0) → (∀ b, xb = some b → mu.m b) → RowsVs w c.ok T_iiis us s →
        ((xb = none ∧ v0 = .slice none 0 0 ∧ s.length = 0) ∨ ∃ b off lo cap n ad cur te, xb = some b ∧ v0 = .slice (some ad) s.length n ∧ s.length ≤ n ∧ lo + n ≤ cap ∧ (n ≠ 0 → ad = ⟨b, off + lo * T_iiis.width, none⟩) ∧
          w.heap[b]? = some (.cells cur te (0, 0)) ∧ off + cap * T_iiis.width ≤ cur.size ∧ w.rangeAt b (off + lo * T_iiis.width) us) →
        Calls Try.prog 188 #[v0, .int .i64 s.length, .slice (some ⟨vb, voff, none⟩) 1 vc] w fun e w' => ∃ v, e = .returned v ∧ ∃ c', Bas w mu c' w' ∧ HoldL c' w' .pres 0 [.own { r := T_iiis, own := true, xs := s ++ x }] [v] := by
      intro base n cc us xb e0 en hncc hnil hxb hus hx0
      obtain ⟨v, w', hrun, hos, hres⟩ := append_raw (P := Try.prog) hT (t := 30) (ty := 30) hE (nx := s.length) (ny := 1) (vx := us) (vy := vs) (uy := .slice (some ⟨vb, voff, none⟩) 1 vc) hb (RowsVs.length us s hus) (by rw [hvl, hwid]) h1v
        (.inr ⟨by omega, _, _, rfl, fun j v hj => by rw [Addr.add_mid]; exact hvr j v hj⟩) hx0
      subst en
      rw [e0] at hrun ⊢
      have hcall := ins_end base _ cc vb voff vc w w' v hncc hnil hrun
      refine hcall.mono fun e w'' ⟨he, hw⟩ => ?_
      subst he; subst hw
      refine ⟨v, rfl, ?_⟩
      rcases hres with ⟨_, e2, _, _⟩ | ⟨B, o, cp, cur, te, v1, v2, hle, hg, hsz, hr, hoth, hB⟩
      · cases e2
      · exact own_answer hH (hB.imp id (hxb B)) hoth hos v1 (by rw [List.length_append, hx]; exact v2) (by rw [List.length_append, hx]; exact hle) hg hsz hr (RowsVs.append us vs s x hus hvs)
    cases l0 with
    | nil =>
      have p4 : s = [] := p4
      obtain ⟨rfl, _⟩ := p2
      subst p4
      exact fin none 0 0 [] none rfl rfl (by omega) (fun _ => ⟨rfl, rfl⟩) (fun b h => by cases h) rfl (.inl ⟨rfl, rfl, rfl⟩)
    | «at» b off cap =>
      obtain ⟨f1, f2, ⟨cur, te, f3, f4⟩, f5⟩ := p4
      obtain ⟨a, cc, rfl, m1, m2, m3⟩ := p2
      obtain ⟨us, hur, hus⟩ := rows_of_rep b off s ((RowsOk.sh rfl).1 f5)
      have m1 : s.length ≤ cc := m1
      have m2 : cc ≤ cap := by omega
      exact fin (some a) s.length cc us (some b) rfl rfl m1 (fun h => by cases h) (fun b' h => by cases h; exact (hH.m b).2 ⟨_, f1, rfl⟩) hus (.inr ⟨b, off, 0, cap, cc, a, cur, te, rfl, rfl, m1, by omega, m3, f3, f4, by rw [Nat.zero_mul, Nat.add_zero]; exact hur⟩)
  · -- in the middle
    have hlt : i < s.length := by omega
    cases l0 with
    | nil =>
      have p4 : s = [] := p4
      rw [p4] at hlt; simp at hlt
    | «at» b off cap =>
      obtain ⟨f1, f2, ⟨cur, te, f3, f4⟩, f5⟩ := p4
      obtain ⟨a, cc, rfl, m1, m2, m3⟩ := p2
      have m1 : s.length ≤ cc := m1
      have m2 : cc ≤ cap := by omega
      have ha := m3 (by omega)
      have ha : a = ⟨b, off, none⟩ := ha.trans (by rw [Nat.zero_mul]; rfl)
      subst ha
      obtain ⟨us, hur, hus⟩ := rows_of_rep b off s ((RowsOk.sh rfl).1 f5)
      have hul : us.length = s.length * 4 := RowsVs.length us s hus
      have h1u := RowsVs.ones us s hus
      have hbm : mu.m b := (hH.m b).2 ⟨_, f1, rfl⟩
      have hne : vb ≠ b := by
        rintro rfl
        rw [f1] at g1
        cases g1
      have f4 : off + cap * 4 ≤ cur.size := f4
      have g4 : voff + vcap * 4 ≤ vcur.size := g4
      obtain ⟨ct, cd⟩ := RowsVs.cut i us s hus
      have hrows : RowsVs w c.ok T_iiis (us.take (i * 4) ++ (vs ++ us.drop (i * 4))) (s.take i ++ (x ++ s.drop i)) := RowsVs.append _ _ _ _ ct (RowsVs.append _ _ _ _ hvs cd)
      have hlen : (s.take i ++ (x ++ s.drop i)).length = s.length + 1 := by
        rw [List.length_append, List.length_append, List.length_take, List.length_drop, hx]; omega
      have htl : (us.take (i * 4)).length = i * 4 := by rw [List.length_take, hul]; omega
      have hdl : (us.drop (i * 4)).length = (s.length - i) * 4 := by rw [List.length_drop, hul]; omega
      have hsl : ({ r := T_iiis, own := true, xs := s } : Arr).xs.length = s.length := rfl
      rw [hsl]
      -- what stands in the end
      have fin : ∀ (X : World) (B o : Nat), (∀ j v, (us.take (i * 4))[j]? = some v → X.cell? ⟨B, o + j, none⟩ = some v) → (∀ j v, vs[j]? = some v → X.cell? ⟨B, o + i * 4 + j, none⟩ = some v) →
          (∀ j v, (us.drop (i * 4))[j]? = some v → X.cell? ⟨B, o + (i + 1) * 4 + j, none⟩ = some v) → X.rangeAt B o (us.take (i * 4) ++ (vs ++ us.drop (i * 4))) := by
        intro X B o e1 e2 e3 q v hq
        rw [List.getElem?_append] at hq
        by_cases q1 : q < (us.take (i * 4)).length
        · rw [if_pos q1] at hq; exact e1 q v hq
        · rw [if_neg q1, htl, List.getElem?_append] at hq
          rw [htl] at q1
          by_cases q2 : q - i * 4 < vs.length
          · rw [if_pos q2] at hq
            have := e2 _ v hq
            rwa [show o + i * 4 + (q - i * 4) = o + q by omega] at this
          · rw [if_neg q2, hvl] at hq
            rw [hvl] at q2
            have := e3 _ v hq
            rwa [show o + (i + 1) * 4 + (q - i * 4 - 4) = o + q by omega] at this
      have cellb : ∀ k, k < cap * 4 → (w.cell? ⟨b, off + k, none⟩).isSome = true := fun k hk => by
        rw [cell_of_row w b _ cur te (0, 0) f3, Array.getElem?_eq_getElem (by omega)]; rfl
      have hxl : x.length = 1 := hx
      by_cases hroom : s.length + 1 ≤ cc
      · have hcall := ins_shift b off s.length cc i vb voff vc us vs w hlt hroom (by omega) hne hul hvl (fun j v hj => hur j v hj) (fun j hj => cellb j (by omega)) (fun j hj => by unfold World.frozen?; simp [f3])
          (fun j v hj => hvr j v hj) h1u h1v vty te vcur.size cur.size (by unfold World.shape?; simp [g3]) (by unfold World.shape?; simp [f3]) (by omega) (by unfold World.frozen?; simp [g3]) (by unfold World.frozen?; simp [g3])
        refine hcall.mono fun e w' ⟨he, hw⟩ => ?_
        subst he; subst hw
        refine ⟨_, rfl, ?_⟩
        obtain ⟨c1, h1, s1⟩ := heap_setCells (us.drop (i * 4)) (off + (i + 1) * 4) (w := w.drew) f3
        obtain ⟨c2, h2, s2⟩ := heap_setCells vs (off + i * 4) h1
        obtain ⟨t1, t2, t3⟩ := cells_two w.drew b (off + (i + 1) * 4) (us.drop (i * 4)) (off + i * 4) vs (fun j hj => by rw [Nat.add_assoc]; exact cellb _ (by omega)) (fun j hj => by rw [Nat.add_assoc]; exact cellb _ (by omega)) (.inr (by omega))
        have hk1 := kept_setCells (b := b) (us.drop (i * 4)) (off + (i + 1) * 4) w.drew
        have hk2 := kept_setCells (b := b) vs (off + i * 4) (w.drew.setCells b (off + (i + 1) * 4) (us.drop (i * 4)))
        have hsz1 : (w.drew.setCells b (off + (i + 1) * 4) (us.drop (i * 4))).heap.size = w.heap.size := hk1.2.2.2
        refine own_answer (B := b) (o := off) (cp := cc) (vs := us.take (i * 4) ++ (vs ++ us.drop (i * 4))) hH (.inr hbm) (fun k hk hkb => ?_) ⟨hk2.1.trans hk1.1, hk2.2.1.trans hk1.2.1, hk2.2.2.1.trans hk1.2.2.1, by rw [hk2.2.2.2, hsz1]; exact Nat.le_refl _⟩ rfl
          (by rw [hlen]; exact ⟨_, cc, rfl, hroom, by omega, fun _ => by rw [Nat.zero_mul]; rfl⟩) (by rw [hlen]; exact hroom) h2 (by rw [s2, s1]; show off + cc * 4 ≤ cur.size; omega)
          (fin _ _ _ (fun j v hj => ?_) t2 t1) hrows
        · rw [World.heap_setCells_other _ _ _ _ (by rw [hsz1]; exact hk) hkb, World.heap_setCells_other w.drew _ _ _ hk hkb]; rfl
        · have hjl : j < i * 4 := by rw [← htl]; exact (List.getElem?_eq_some_iff.1 hj).1
          rw [t3 _ (.inl (by omega)) (.inl (by omega))]
          rw [List.getElem?_take, if_pos hjl] at hj
          exact hur j v hj
      · obtain ⟨ROW, G, r1, r2, r3, hcall⟩ := ins_grow b off s.length cc i vb voff vc us vs w hlt m1 (by omega) hlim hul hvl (fun j v hj => hur j v hj) (fun j v hj => hvr j v hj) h1u h1v
        refine hcall.mono fun e w' ⟨he, hw⟩ => ?_
        rw [drew_setCells] at hw
        subst he; subst hw
        refine ⟨_, rfl, ?_⟩
        have hnew := heap_alloc_new w (.cells ROW 108 (0, 0))
        have cellN : ∀ k, k < G * 4 → ((w.alloc (.cells ROW 108)).drew.drew.cell? ⟨w.heap.size, k, none⟩) = ROW[k]? := fun k hk => cell_of_row _ _ _ ROW 108 (0, 0) hnew
        obtain ⟨c1, h1, s1⟩ := heap_setCells vs (i * 4) (w := (w.alloc (.cells ROW 108)).drew.drew) hnew
        obtain ⟨c2, h2, s2⟩ := heap_setCells (us.drop (i * 4)) ((i + 1) * 4) h1
        obtain ⟨t1, t2, t3⟩ := cells_two (w.alloc (.cells ROW 108)).drew.drew w.heap.size (i * 4) vs ((i + 1) * 4) (us.drop (i * 4)) (fun j hj => by rw [cellN _ (by omega), Array.getElem?_eq_getElem (by omega)]; rfl) (fun j hj => by rw [cellN _ (by omega), Array.getElem?_eq_getElem (by omega)]; rfl) (.inl (by omega))
        have hk1 := kept_setCells (b := w.heap.size) vs (i * 4) (w.alloc (.cells ROW 108)).drew.drew
        have hk2 := kept_setCells (b := w.heap.size) (us.drop (i * 4)) ((i + 1) * 4) ((w.alloc (.cells ROW 108)).drew.drew.setCells w.heap.size (i * 4) vs)
        have hsa : (w.alloc (.cells ROW 108)).drew.drew.heap.size = w.heap.size + 1 := Array.size_push ..
        have hsz1 : ((w.alloc (.cells ROW 108)).drew.drew.setCells w.heap.size (i * 4) vs).heap.size = w.heap.size + 1 := hk1.2.2.2.trans hsa
        refine own_answer (B := w.heap.size) (o := 0) (cp := G) (vs := us.take (i * 4) ++ (vs ++ us.drop (i * 4))) hH (.inl (Nat.le_refl _)) (fun k hk hkb => ?_) ⟨hk2.1.trans hk1.1, hk2.2.1.trans hk1.2.1, hk2.2.2.1.trans hk1.2.2.1, by rw [hk2.2.2.2, hsz1]; omega⟩ rfl
          (by rw [hlen]; exact ⟨_, G, rfl, r1, by omega, fun _ => by rw [Nat.zero_mul]⟩) (by rw [hlen]; exact r1) h2 (by rw [s2, s1, r2]; show 0 + G * 4 ≤ G * 4; omega)
          (fin _ _ _ (fun j v hj => ?_) (fun j v hj => by rw [Nat.zero_add]; exact t1 j v hj) (fun j v hj => by rw [Nat.zero_add]; exact t2 j v hj)) hrows
        · rw [World.heap_setCells_other _ _ _ _ (by rw [hsz1]; omega) hkb, World.heap_setCells_other (w.alloc (.cells ROW 108)).drew.drew _ _ _ (by rw [hsa]; omega) hkb]
          show (w.alloc _).heap[k]? = w.heap[k]?
          first | exact heap_alloc_old w _ k hk | exact heap_alloc_old w _ hk
        · have hjl : j < i * 4 := by rw [← htl]; exact (List.getElem?_eq_some_iff.1 hj).1
          rw [Nat.zero_add, t3 j (.inl hjl) (.inl (by omega)), cellN _ (by omega)]
          exact r3 j v hj

theorem insert_held {T : Tab} (hT : TabOk Try.prog T) (hE : T.elem 30 = some (T_iiis, 40)) {c : Cz} {w : World} {mu : Mu} (hH : Handed c w mu) {s x : List (denR T_iiis)} {i : Int} {v0 v2 : Value} {l0 l2 : Loc} {y : (List R_iiis) × Unit}
    (h0 : OwnAt c w (.pend 0 0) l0 { r := T_iiis, own := true, xs := s } v0) (h2 : OwnAt c w (.pend 2 0) l2 { r := T_iiis, own := true, xs := x } v2) (ht : insT s i x = some y) :
    Calls Try.prog 188 #[v0, .int .i64 i, v2] w fun e w' => ∃ v, e = .returned v ∧ ∃ c', Bas w mu c' w' ∧ HoldL c' w' .pres 0 [.own { r := T_iiis, own := true, xs := y.1 }] [v] := by
  unfold insT at ht
  obtain ⟨hc, ht2⟩ := bif_some ht
  injection ht2 with ht2
  subst ht2
  simp only [Bool.and_eq_true, decide_eq_true_eq] at hc
  obtain ⟨c1, c2, c3, c4⟩ := hc
  have hi : ((i.toNat : Nat) : Int) = i := Int.toNat_of_nonneg c1
  have hi2 : i.toNat ≤ s.length := Int.ofNat_le.1 (by rw [hi]; exact c2)
  have := insert_answer hT hE hH (s := s) (x := x) (i := i.toNat) h0 h2 hi2 (Nat.eq_of_beq_eq_true c3) (Nat.le_of_ble_eq_true c4)
  rw [hi] at this
  exact this

theorem insert_known {T : Tab} (hT : TabOk Try.prog T) (hE : T.elem 30 = some (T_iiis, 40)) : Known Try.prog 188 (semOf [.val false [.own T_iiis], .val false [.int .i64], .val false [.own T_iiis]] [{ src := .tmp 0, agg := false, ps := [.own T_iiis] }] (fun x => insT x.1 x.2.1 x.2.2.1)) := by
  refine known_vals rfl rfl ⟨_, Try.func188, rfl, rfl⟩ (fun c w mu args x y hH hn hold ht => ?_)
  obtain ⟨s, i, v, u⟩ := x
  have hn : 3 = args.size := hn
  obtain ⟨v0, e0, h0⟩ := hold 0 _ rfl
  obtain ⟨v1, e1, h1⟩ := hold 1 _ rfl
  obtain ⟨v2, e2, h2⟩ := hold 2 _ rfl
  have ha : args = #[v0, v1, v2] := by
    apply Array.toList_inj.1
    have hl : args.toList.length = 3 := by rw [Array.length_toList]; exact hn.symm
    match hq : args.toList, hl with
    | [a, b, d], _ =>
      rw [hq] at e0 e1 e2
      simp only [List.getElem?_cons_zero, List.getElem?_cons_succ, Option.some.injEq] at e0 e1 e2
      rw [e0, e1, e2]
  subst ha
  obtain ⟨z0, l0, hz0, ⟨lc0, o0⟩, _⟩ := h0
  injection hz0 with hz0 _; subst hz0
  obtain ⟨l1, hz1, _⟩ := h1
  injection hz1 with hz1 _; subst hz1
  obtain ⟨z2, l2, hz2, ⟨lc2, o2⟩, _⟩ := h2
  injection hz2 with hz2 _; subst hz2
  exact insert_held hT hE hH o0 o2 ht

noncomputable def sem188 : Sem1 := semOf [.val false [.own T_iiis], .val false [.int .i64], .val false [.own T_iiis]] [{ src := .tmp 0, agg := false, ps := [.own T_iiis] }] (fun x => insT x.1 x.2.1 x.2.2.1)
theorem k188 : Known Try.prog 188 sem188 := insert_known (tab_ok tr_ok) (by kernel_rfl)

/-! ### f159: impl.putItem -/
noncomputable def code159 : Code := match Try.f159.body with | some c => c | none => .skip
def ps159 : List AP := [.val false [.own T_iiis], .val true [.int .i64, .int .i64, .int .i64, .str]]
def rs159 : List RP := [{ src := .tmp 4, agg := false, ps := [.own T_iiis] }]
noncomputable def sl159 : SemL := [(188, (.own, .shr, .own, sem188))]
def D159 : Draws := fun id => bif Nat.beq id 2 then .op 0 .any (.op 1 .any (.op 2 .any (.op 3 .any (.op 4 .any (.op 5 .any (.op 6 .any (.op 7 .any (.op 8 .any (.op 9 .take (.op 10 .any (.op 11 .take (.op 12 .any (.op 13 .any (.nil)))))))))))))) else bif Nat.beq id 4 then .op 0 .any (.op 1 .any (.op 2 .any (.op 3 .any (.op 4 .any (.op 5 .any (.op 6 .any (.op 7 .any (.op 8 .any (.op 9 .take (.op 10 .any (.op 11 .take (.op 12 .any (.op 13 .any (.nil)))))))))))))) else .nil
def hp159_0 : List (Option AP) := [some (.val false [.own T_iiis]), none, none, some (.box false [.int .i64, .int .i64, .int .i64, .str]), none, some (.val false [.int .i64]), none, none, none, none, none, none, none, none, none, none, none, none, none, none, none, none, none, none, none, none, none, none, none, none, none, none, none, none, none, none, none, none, none, none, none, none, none]
def e159_0 : List (Option AP) := [some (.val false [.own T_iiis]), none, none, some (.box false [.int .i64, .int .i64, .int .i64, .str]), none, some (.val false [.int .i64]), none, none, none, none, none, none, none, none, none, none, none, none, none, none, none, none, none, none, none, none, none, none, none, none, none, none, none, none, none, none, none, none, none, none, none, none, none]
def q159_0 : List (Option AP) := [none, none, none, none, none, none, none, none, none, none, none, none, none, none, none, none, none, none, none, none, none, none, none, none, none, none, none, none, none, none, none, none, none, none, none, none, none, none, none, none, none, none, none]
abbrev H159_0 : Type := (List R_iiis) × Int × Int × Int × ByteArray × Int × Unit
abbrev E159_0 : Type := (List R_iiis) × Int × Int × Int × ByteArray × Int × Unit
abbrev Q159_0 : Type := Unit
noncomputable def impl_putItem_c0 (list0 : List R_iiis) (m3c0 : Int) (m3c1 : Int) (m3c2 : Int) (m3c3 : ByteArray) (at_5 : Int) : Option (Sum H159_0 (Sum E159_0 Q159_0)) :=
  bif decide (at_5 < ((List.length list0 : Nat) : Int)) then
    bif decide ((0 : Int) ≤ at_5) then bif Nat.blt (Int.toNat at_5) (List.length list0) then Option.bind ((list0)[Int.toNat at_5]?) fun r1 =>
        bif decide (r1.1 < m3c0) then
          some (.inl (list0, m3c0, m3c1, m3c2, m3c3, IntKind.i64.wrap (at_5 + (1 : Int)), ()))
        else
          some (.inr (.inl (list0, m3c0, m3c1, m3c2, m3c3, at_5, ())))
      else none
    else none
  else
    some (.inr (.inl (list0, m3c0, m3c1, m3c2, m3c3, at_5, ())))
noncomputable def impl_putItem_r0 (x : H159_0) : Option (Sum H159_0 (Sum E159_0 Q159_0)) := impl_putItem_c0 x.1 x.2.1 x.2.2.1 x.2.2.2.1 x.2.2.2.2.1 x.2.2.2.2.2.1
noncomputable def L159 {R : Type} : Loops R := fun id _ st k => bif Nat.beq id 0 then loopAt hp159_0 e159_0 q159_0 impl_putItem_r0 st k else none
noncomputable def impl_putItem (list0 : List R_iiis) (m1c0 : Int) (m1c1 : Int) (m1c2 : Int) (m1c3 : ByteArray) : Option ((List R_iiis) × Unit) :=
  outK (loopV impl_putItem_r0 (list0, m1c0, m1c1, m1c2, m1c3, (0 : Int), ())) (fun y1 =>
    bif decide (y1.2.2.2.2.2.1 < ((List.length y1.1 : Nat) : Int)) then
      bif decide ((0 : Int) ≤ y1.2.2.2.2.2.1) then bif Nat.blt (Int.toNat y1.2.2.2.2.2.1) (List.length y1.1) then Option.bind ((y1.1)[Int.toNat y1.2.2.2.2.2.1]?) fun r3 =>
          bif decide (r3.1 = y1.2.1) then
            some (y1.1, ())
          else
            Option.bind (insT y1.1 y1.2.2.2.2.2.1 [(y1.2.1, y1.2.2.1, y1.2.2.2.1, y1.2.2.2.2.1, ())]) fun y4 =>
            some (y4.1, ())
        else none
      else none
    else
      Option.bind (insT y1.1 y1.2.2.2.2.2.1 [(y1.2.1, y1.2.2.1, y1.2.2.2.1, y1.2.2.2.2.1, ())]) fun y5 =>
      some (y5.1, ())) (fun y2 =>
    none)
noncomputable def x159 (x : (List R_iiis) × Int × Int × Int × ByteArray × Unit) : Option ((List R_iiis) × Unit) := impl_putItem x.1 x.2.1 x.2.2.1 x.2.2.2.1 x.2.2.2.2.1
noncomputable def sem159 : Sem1 := semOf ps159 rs159 x159
theorem so159 : SemsOk Try.prog (semsOf sl159) := sems_cons k188 (sems_nil)
noncomputable def b159_0 : Code := nthLoop code159 0
theorem t159_r0_eq (x : denR (headRT hp159_0)) : codeK (tabOf tr) (semsOf sl159) D159 L159 b159_0 (headSt hp159_0 x) (roundK 0 hp159_0 e159_0 q159_0) = impl_putItem_r0 x := by kernel_rfl
theorem loop159_0 {R : Type} (r : R) (w0 : World) (mu : Mu) (hs : AnShape ps159 mu) : LoopAt Try.prog w0 mu 42 (L159 : Loops R) r 0 b159_0 :=
  loop_auto tr_ok eq_ok mixed_ok so159 (D := D159) hs (by kernel_rfl) (fun _ => (loops_of (l := []) (by kernel_rfl) (List.forall_mem_nil _))) t159_r0_eq (fun _ _ => rfl)
theorem t159_eq (x : denR (headRT (ps159.map some))) : codeK (tabOf tr) (semsOf sl159) D159 L159 code159 (start 42 ps159 x) (finK rs159 ps159) = x159 x := by kernel_rfl
theorem k159 : Known Try.prog 159 sem159 :=
  fn_auto tr_ok eq_ok mixed_ok so159 (D := D159) (code := code159) (n := 42) Try.func159 (by kernel_rfl) (by kernel_rfl) (by kernel_rfl) (fun w0 mu _ hs => (loops_of (l := [(0, b159_0)]) (by kernel_rfl) (List.forall_mem_cons.2 ⟨loop159_0 _ w0 mu hs, (List.forall_mem_nil _)⟩))) t159_eq

/-! ### f140: impl.PutItem -/
noncomputable def code140 : Code := match Try.f140.body with | some c => c | none => .skip
def ps140 : List AP := [.val false [.shr T_iiis], .val true [.int .i64, .int .i64, .int .i64, .str]]
def rs140 : List RP := [{ src := .tmp 4, agg := false, ps := [.own T_iiis] }]
noncomputable def sl140 : SemL := [(177, (.shr, .shr, .shr, sem177)), (184, (.shr, .shr, .shr, sem184)), (158, (.shr, .shr, .shr, sem158)), (159, (.own, .shr, .shr, sem159))]
def D140 : Draws := fun _ => .nil
noncomputable def L140 {R : Type} : Loops R := fun _ _ _ _ => none
noncomputable def impl_PutItem (list0 : List R_iiis) (m1c0 : Int) (m1c1 : Int) (m1c2 : Int) (m1c3 : ByteArray) : Option ((List R_iiis) × Unit) :=
  Option.bind (slices_Clone_impl_Item list0) fun y1 =>
  Option.bind (impl_ItemOk m1c0 m1c1 m1c2 m1c3) fun y2 =>
  bif !y2.1 then
    some (y1.1, ())
  else
    Option.bind (impl_ItemsOk list0) fun y3 =>
    bif !y3.1 then
      some (y1.1, ())
    else
      Option.bind (impl_putItem y1.1 m1c0 m1c1 m1c2 m1c3) fun y4 =>
      some (y4.1, ())
noncomputable def x140 (x : (List R_iiis) × Int × Int × Int × ByteArray × Unit) : Option ((List R_iiis) × Unit) := impl_PutItem x.1 x.2.1 x.2.2.1 x.2.2.2.1 x.2.2.2.2.1
noncomputable def sem140 : Sem1 := semOf ps140 rs140 x140
theorem so140 : SemsOk Try.prog (semsOf sl140) := sems_cons k177 (sems_cons k184 (sems_cons k158 (sems_cons k159 (sems_nil))))
theorem t140_eq (x : denR (headRT (ps140.map some))) : codeK (tabOf tr) (semsOf sl140) D140 L140 code140 (start 20 ps140 x) (finK rs140 ps140) = x140 x := by kernel_rfl
theorem k140 : Known Try.prog 140 sem140 :=
  fn_auto tr_ok eq_ok mixed_ok so140 (D := D140) (code := code140) (n := 20) Try.func140 (by kernel_rfl) (by kernel_rfl) (by kernel_rfl) (fun w0 mu _ hs => (loops_of (l := []) (by kernel_rfl) (List.forall_mem_nil _))) t140_eq

/-! ### f58: impl.Catch -/
noncomputable def code58 : Code := match Try.f58.body with | some c => c | none => .skip
def ps58 : List AP := [.val true [.int .i64, .int .i64, .shr T_i, .shr T_iiis, .shr T_i, .shr T_s, .int .i64, .int .i64, .int .i64, .int .i64, .int .i64, .int .i64, .int .i64, .int .i64, .int .i64, .shr T_i], .val true [.int .i64, .int .i64, .int .i64, .str]]
def rs58 : List RP := [{ src := .cell 4, agg := true, ps := [.int .i64, .int .i64, .own T_i, .own T_iiis, .own T_i, .own T_s, .int .i64, .int .i64, .int .i64, .int .i64, .int .i64, .int .i64, .int .i64, .int .i64, .int .i64, .own T_i] }]
noncomputable def sl58 : SemL := [(138, (.shr, .shr, .shr, sem138)), (139, (.shr, .shr, .shr, sem139)), (140, (.shr, .shr, .shr, sem140))]
def D58 : Draws := fun _ => .nil
noncomputable def L58 {R : Type} : Loops R := fun _ _ _ _ => none
noncomputable def impl_Catch (m0c0 : Int) (m0c1 : Int) (m0c2 : List (Int × Unit)) (m0c3 : List R_iiis) (m0c4 : List (Int × Unit)) (m0c5 : List (ByteArray × Unit)) (m0c6 : Int) (m0c7 : Int) (m0c8 : Int) (m0c9 : Int) (m0c10 : Int) (m0c11 : Int) (m0c12 : Int) (m0c13 : Int) (m0c14 : Int) (m0c15 : List (Int × Unit)) (x1c0 : Int) (x1c1 : Int) (x1c2 : Int) (x1c3 : ByteArray) : Option (Int × Int × (List (Int × Unit)) × (List R_iiis) × (List (Int × Unit)) × (List (ByteArray × Unit)) × Int × Int × Int × Int × Int × Int × Int × Int × Int × (List (Int × Unit)) × Unit) :=
  Option.bind (impl_copyMate m0c0 m0c1 m0c2 m0c3 m0c4 m0c5 m0c6 m0c7 m0c8 m0c9 m0c10 m0c11 m0c12 m0c13 m0c14 m0c15) fun y1 =>
  Option.bind (impl_MateOk m0c0 m0c1 m0c2 m0c3 m0c4 m0c5 m0c6 m0c7 m0c8 m0c9 m0c10 m0c11 m0c12 m0c13 m0c14 m0c15) fun y2 =>
  bif y2.1 then
    Option.bind (impl_PutItem y1.2.2.2.1 x1c0 x1c1 x1c2 x1c3) fun y3 =>
    some (y1.1, y1.2.1, y1.2.2.1, y3.1, y1.2.2.2.2.1, y1.2.2.2.2.2.1, y1.2.2.2.2.2.2.1, y1.2.2.2.2.2.2.2.1, y1.2.2.2.2.2.2.2.2.1, y1.2.2.2.2.2.2.2.2.2.1, y1.2.2.2.2.2.2.2.2.2.2.1, y1.2.2.2.2.2.2.2.2.2.2.2.1, y1.2.2.2.2.2.2.2.2.2.2.2.2.1, y1.2.2.2.2.2.2.2.2.2.2.2.2.2.1, y1.2.2.2.2.2.2.2.2.2.2.2.2.2.2.1, y1.2.2.2.2.2.2.2.2.2.2.2.2.2.2.2.1, ())
  else
    some (y1.1, y1.2.1, y1.2.2.1, y1.2.2.2.1, y1.2.2.2.2.1, y1.2.2.2.2.2.1, y1.2.2.2.2.2.2.1, y1.2.2.2.2.2.2.2.1, y1.2.2.2.2.2.2.2.2.1, y1.2.2.2.2.2.2.2.2.2.1, y1.2.2.2.2.2.2.2.2.2.2.1, y1.2.2.2.2.2.2.2.2.2.2.2.1, y1.2.2.2.2.2.2.2.2.2.2.2.2.1, y1.2.2.2.2.2.2.2.2.2.2.2.2.2.1, y1.2.2.2.2.2.2.2.2.2.2.2.2.2.2.1, y1.2.2.2.2.2.2.2.2.2.2.2.2.2.2.2.1, ())
noncomputable def x58 (x : Int × Int × (List (Int × Unit)) × (List R_iiis) × (List (Int × Unit)) × (List (ByteArray × Unit)) × Int × Int × Int × Int × Int × Int × Int × Int × Int × (List (Int × Unit)) × Int × Int × Int × ByteArray × Unit) : Option (Int × Int × (List (Int × Unit)) × (List R_iiis) × (List (Int × Unit)) × (List (ByteArray × Unit)) × Int × Int × Int × Int × Int × Int × Int × Int × Int × (List (Int × Unit)) × Unit) := impl_Catch x.1 x.2.1 x.2.2.1 x.2.2.2.1 x.2.2.2.2.1 x.2.2.2.2.2.1 x.2.2.2.2.2.2.1 x.2.2.2.2.2.2.2.1 x.2.2.2.2.2.2.2.2.1 x.2.2.2.2.2.2.2.2.2.1 x.2.2.2.2.2.2.2.2.2.2.1 x.2.2.2.2.2.2.2.2.2.2.2.1 x.2.2.2.2.2.2.2.2.2.2.2.2.1 x.2.2.2.2.2.2.2.2.2.2.2.2.2.1 x.2.2.2.2.2.2.2.2.2.2.2.2.2.2.1 x.2.2.2.2.2.2.2.2.2.2.2.2.2.2.2.1 x.2.2.2.2.2.2.2.2.2.2.2.2.2.2.2.2.1 x.2.2.2.2.2.2.2.2.2.2.2.2.2.2.2.2.2.1 x.2.2.2.2.2.2.2.2.2.2.2.2.2.2.2.2.2.2.1 x.2.2.2.2.2.2.2.2.2.2.2.2.2.2.2.2.2.2.2.1
noncomputable def sem58 : Sem1 := semOf ps58 rs58 x58
theorem so58 : SemsOk Try.prog (semsOf sl58) := sems_cons k138 (sems_cons k139 (sems_cons k140 (sems_nil)))
theorem t58_eq (x : denR (headRT (ps58.map some))) : codeK (tabOf tr) (semsOf sl58) D58 L58 code58 (start 16 ps58 x) (finK rs58 ps58) = x58 x := by kernel_rfl
theorem k58 : Known Try.prog 58 sem58 :=
  fn_auto tr_ok eq_ok mixed_ok so58 (D := D58) (code := code58) (n := 16) Try.func58 (by kernel_rfl) (by kernel_rfl) (by kernel_rfl) (fun w0 mu _ hs => (loops_of (l := []) (by kernel_rfl) (List.forall_mem_nil _))) t58_eq

/-! ### f74: laws.eqIntS -/
noncomputable def code74 : Code := match Try.f74.body with | some c => c | none => .skip
def ps74 : List AP := [.val false [.shr T_i], .val false [.shr T_i]]
def rs74 : List RP := [{ src := .tmp 4, agg := false, ps := [.bool] }]
noncomputable def sl74 : SemL := []
def D74 : Draws := fun id => bif Nat.beq id 6 then .op 0 .any (.op 1 .any (.op 2 .any (.op 3 .take (.op 4 .any (.op 5 .any (.op 6 .any (.op 7 .take (.op 8 .any (.nil))))))))) else .nil
def hp74_0 : List (Option AP) := [some (.val false [.shr T_i]), some (.val false [.shr T_i]), none, none, none, some (.val false [.int .i64]), none, none, none, none, none, none, none, none, none, none, none, none, none, none, none, none, none, none, none, none, none]
def e74_0 : List (Option AP) := [none, none, none, none, none, none, none, none, none, none, none, none, none, none, none, none, none, none, none, none, none, none, none, none, none, none, none]
def q74_0 : List (Option AP) := [none, none, none, none, some (.val false [.bool]), none, none, none, none, none, none, none, none, none, none, none, none, none, none, none, none, none, none, none, none, none, none]
abbrev H74_0 : Type := (List (Int × Unit)) × (List (Int × Unit)) × Int × Unit
abbrev E74_0 : Type := Unit
abbrev Q74_0 : Type := Bool × Unit
noncomputable def laws_eqIntS_c0 (a0 : List (Int × Unit)) (b1 : List (Int × Unit)) (i5 : Int) : Option (Sum H74_0 (Sum E74_0 Q74_0)) :=
  bif decide (i5 < ((List.length a0 : Nat) : Int)) then
    bif decide ((0 : Int) ≤ i5) then Option.bind ((a0)[Int.toNat i5]?) fun r1 =>
      bif decide ((0 : Int) ≤ i5) then Option.bind ((b1)[Int.toNat i5]?) fun r2 =>
        bif !decide (r1.1 = r2.1) then
          some (.inr (.inr (false, ())))
        else
          some (.inl (a0, b1, IntKind.i64.wrap (i5 + (1 : Int)), ()))
      else none
    else none
  else
    some (.inr (.inl (())))
noncomputable def laws_eqIntS_r0 (x : H74_0) : Option (Sum H74_0 (Sum E74_0 Q74_0)) := laws_eqIntS_c0 x.1 x.2.1 x.2.2.1
noncomputable def L74 {R : Type} : Loops R := fun id _ st k => bif Nat.beq id 0 then loopAt hp74_0 e74_0 q74_0 laws_eqIntS_r0 st k else none
noncomputable def laws_eqIntS (a0 : List (Int × Unit)) (b1 : List (Int × Unit)) : Option (Bool × Unit) :=
  bif !decide (((List.length a0 : Nat) : Int) = ((List.length b1 : Nat) : Int)) then
    some (false, ())
  else
    outK (loopV laws_eqIntS_r0 (a0, b1, (0 : Int), ())) (fun y1 =>
      some (true, ())) (fun y2 =>
      some (y2.1, ()))
noncomputable def x74 (x : (List (Int × Unit)) × (List (Int × Unit)) × Unit) : Option (Bool × Unit) := laws_eqIntS x.1 x.2.1
noncomputable def sem74 : Sem1 := semOf ps74 rs74 x74
theorem so74 : SemsOk Try.prog (semsOf sl74) := sems_nil
noncomputable def b74_0 : Code := nthLoop code74 0
theorem t74_r0_eq (x : denR (headRT hp74_0)) : codeK (tabOf tr) (semsOf sl74) D74 L74 b74_0 (headSt hp74_0 x) (roundK 0 hp74_0 e74_0 q74_0) = laws_eqIntS_r0 x := by kernel_rfl
theorem loop74_0 {R : Type} (r : R) (w0 : World) (mu : Mu) (hs : AnShape ps74 mu) : LoopAt Try.prog w0 mu 26 (L74 : Loops R) r 0 b74_0 :=
  loop_auto tr_ok eq_ok mixed_ok so74 (D := D74) hs (by kernel_rfl) (fun _ => (loops_of (l := []) (by kernel_rfl) (List.forall_mem_nil _))) t74_r0_eq (fun _ _ => rfl)
theorem t74_eq (x : denR (headRT (ps74.map some))) : codeK (tabOf tr) (semsOf sl74) D74 L74 code74 (start 26 ps74 x) (finK rs74 ps74) = x74 x := by kernel_rfl
theorem k74 : Known Try.prog 74 sem74 :=
  fn_auto tr_ok eq_ok mixed_ok so74 (D := D74) (code := code74) (n := 26) Try.func74 (by kernel_rfl) (by kernel_rfl) (by kernel_rfl) (fun w0 mu _ hs => (loops_of (l := [(0, b74_0)]) (by kernel_rfl) (List.forall_mem_cons.2 ⟨loop74_0 _ w0 mu hs, (List.forall_mem_nil _)⟩))) t74_eq

/-! ### f15: laws.eqRing -/
noncomputable def code15 : Code := match Try.f15.body with | some c => c | none => .skip
def ps15 : List AP := [.val true [.int .i64, .shr T_i], .val true [.int .i64, .shr T_i]]
def rs15 : List RP := [{ src := .tmp 4, agg := false, ps := [.bool] }]
noncomputable def sl15 : SemL := [(74, (.shr, .shr, .shr, sem74))]
def D15 : Draws := fun _ => .nil
noncomputable def L15 {R : Type} : Loops R := fun _ _ _ _ => none
noncomputable def laws_eqRing (a0c0 : Int) (a0c1 : List (Int × Unit)) (b1c0 : Int) (b1c1 : List (Int × Unit)) : Option (Bool × Unit) :=
  bif !decide (a0c0 = b1c0) then
    some (false, ())
  else
    Option.bind (laws_eqIntS a0c1 b1c1) fun y1 =>
    bif !y1.1 then
      some (false, ())
    else
      some (true, ())
noncomputable def x15 (x : Int × (List (Int × Unit)) × Int × (List (Int × Unit)) × Unit) : Option (Bool × Unit) := laws_eqRing x.1 x.2.1 x.2.2.1 x.2.2.2.1
noncomputable def sem15 : Sem1 := semOf ps15 rs15 x15
theorem so15 : SemsOk Try.prog (semsOf sl15) := sems_cons k74 (sems_nil)
theorem t15_eq (x : denR (headRT (ps15.map some))) : codeK (tabOf tr) (semsOf sl15) D15 L15 code15 (start 16 ps15 x) (finK rs15 ps15) = x15 x := by kernel_rfl
theorem k15 : Known Try.prog 15 sem15 :=
  fn_auto tr_ok eq_ok mixed_ok so15 (D := D15) (code := code15) (n := 16) Try.func15 (by kernel_rfl) (by kernel_rfl) (by kernel_rfl) (fun w0 mu _ hs => (loops_of (l := []) (by kernel_rfl) (List.forall_mem_nil _))) t15_eq

/-! ### f106: laws.eqItem -/
noncomputable def code106 : Code := match Try.f106.body with | some c => c | none => .skip
def ps106 : List AP := [.val true [.int .i64, .int .i64, .int .i64, .str], .val true [.int .i64, .int .i64, .int .i64, .str]]
def rs106 : List RP := [{ src := .tmp 4, agg := false, ps := [.bool] }]
noncomputable def sl106 : SemL := []
def D106 : Draws := fun _ => .nil
noncomputable def L106 {R : Type} : Loops R := fun _ _ _ _ => none
noncomputable def laws_eqItem (a0c0 : Int) (a0c1 : Int) (a0c2 : Int) (a0c3 : ByteArray) (b1c0 : Int) (b1c1 : Int) (b1c2 : Int) (b1c3 : ByteArray) : Option (Bool × Unit) :=
  bif !decide (a0c0 = b1c0) then
    some (false, ())
  else bif !decide (a0c1 = b1c1) then
    some (false, ())
  else bif !decide (a0c2 = b1c2) then
    some (false, ())
  else bif !strEq a0c3 b1c3 then
    some (false, ())
  else
    some (true, ())
noncomputable def x106 (x : Int × Int × Int × ByteArray × Int × Int × Int × ByteArray × Unit) : Option (Bool × Unit) := laws_eqItem x.1 x.2.1 x.2.2.1 x.2.2.2.1 x.2.2.2.2.1 x.2.2.2.2.2.1 x.2.2.2.2.2.2.1 x.2.2.2.2.2.2.2.1
noncomputable def sem106 : Sem1 := semOf ps106 rs106 x106
theorem so106 : SemsOk Try.prog (semsOf sl106) := sems_nil
theorem t106_eq (x : denR (headRT (ps106.map some))) : codeK (tabOf tr) (semsOf sl106) D106 L106 code106 (start 25 ps106 x) (finK rs106 ps106) = x106 x := by kernel_rfl
theorem k106 : Known Try.prog 106 sem106 :=
  fn_auto tr_ok eq_ok mixed_ok so106 (D := D106) (code := code106) (n := 25) Try.func106 (by kernel_rfl) (by kernel_rfl) (by kernel_rfl) (fun w0 mu _ hs => (loops_of (l := []) (by kernel_rfl) (List.forall_mem_nil _))) t106_eq

/-! ### f32: laws.eqItemS -/
noncomputable def code32 : Code := match Try.f32.body with | some c => c | none => .skip
def ps32 : List AP := [.val false [.shr T_iiis], .val false [.shr T_iiis]]
def rs32 : List RP := [{ src := .tmp 4, agg := false, ps := [.bool] }]
noncomputable def sl32 : SemL := [(106, (.shr, .shr, .shr, sem106))]
def D32 : Draws := fun id => bif Nat.beq id 6 then .op 0 .any (.op 1 .any (.op 2 .any (.op 3 .take (.op 4 .any (.op 5 .any (.op 6 .any (.op 7 .take (.op 8 .one (.op 9 .any (.nil)))))))))) else .nil
def hp32_0 : List (Option AP) := [some (.val false [.shr T_iiis]), some (.val false [.shr T_iiis]), none, none, none, some (.val false [.int .i64]), none, none, none, none, none, none, none, none, none, none, none, none, none, none, none, none, none, none, none, none, none, none]
def e32_0 : List (Option AP) := [none, none, none, none, none, none, none, none, none, none, none, none, none, none, none, none, none, none, none, none, none, none, none, none, none, none, none, none]
def q32_0 : List (Option AP) := [none, none, none, none, some (.val false [.bool]), none, none, none, none, none, none, none, none, none, none, none, none, none, none, none, none, none, none, none, none, none, none, none]
abbrev H32_0 : Type := (List R_iiis) × (List R_iiis) × Int × Unit
abbrev E32_0 : Type := Unit
abbrev Q32_0 : Type := Bool × Unit
noncomputable def laws_eqItemS_c0 (a0 : List R_iiis) (b1 : List R_iiis) (i5 : Int) : Option (Sum H32_0 (Sum E32_0 Q32_0)) :=
  bif decide (i5 < ((List.length a0 : Nat) : Int)) then
    bif decide ((0 : Int) ≤ i5) then Option.bind ((a0)[Int.toNat i5]?) fun r1 =>
      bif decide ((0 : Int) ≤ i5) then Option.bind ((b1)[Int.toNat i5]?) fun r2 =>
        Option.bind (laws_eqItem r1.1 r1.2.1 r1.2.2.1 r1.2.2.2.1 r2.1 r2.2.1 r2.2.2.1 r2.2.2.2.1) fun y3 =>
        bif !y3.1 then
          some (.inr (.inr (false, ())))
        else
          some (.inl (a0, b1, IntKind.i64.wrap (i5 + (1 : Int)), ()))
      else none
    else none
  else
    some (.inr (.inl (())))
noncomputable def laws_eqItemS_r0 (x : H32_0) : Option (Sum H32_0 (Sum E32_0 Q32_0)) := laws_eqItemS_c0 x.1 x.2.1 x.2.2.1
noncomputable def L32 {R : Type} : Loops R := fun id _ st k => bif Nat.beq id 0 then loopAt hp32_0 e32_0 q32_0 laws_eqItemS_r0 st k else none
noncomputable def laws_eqItemS (a0 : List R_iiis) (b1 : List R_iiis) : Option (Bool × Unit) :=
  bif !decide (((List.length a0 : Nat) : Int) = ((List.length b1 : Nat) : Int)) then
    some (false, ())
  else
    outK (loopV laws_eqItemS_r0 (a0, b1, (0 : Int), ())) (fun y1 =>
      some (true, ())) (fun y2 =>
      some (y2.1, ()))
noncomputable def x32 (x : (List R_iiis) × (List R_iiis) × Unit) : Option (Bool × Unit) := laws_eqItemS x.1 x.2.1
noncomputable def sem32 : Sem1 := semOf ps32 rs32 x32
theorem so32 : SemsOk Try.prog (semsOf sl32) := sems_cons k106 (sems_nil)
noncomputable def b32_0 : Code := nthLoop code32 0
theorem t32_r0_eq (x : denR (headRT hp32_0)) : codeK (tabOf tr) (semsOf sl32) D32 L32 b32_0 (headSt hp32_0 x) (roundK 0 hp32_0 e32_0 q32_0) = laws_eqItemS_r0 x := by kernel_rfl
theorem loop32_0 {R : Type} (r : R) (w0 : World) (mu : Mu) (hs : AnShape ps32 mu) : LoopAt Try.prog w0 mu 27 (L32 : Loops R) r 0 b32_0 :=
  loop_auto tr_ok eq_ok mixed_ok so32 (D := D32) hs (by kernel_rfl) (fun _ => (loops_of (l := []) (by kernel_rfl) (List.forall_mem_nil _))) t32_r0_eq (fun _ _ => rfl)
theorem t32_eq (x : denR (headRT (ps32.map some))) : codeK (tabOf tr) (semsOf sl32) D32 L32 code32 (start 27 ps32 x) (finK rs32 ps32) = x32 x := by kernel_rfl
theorem k32 : Known Try.prog 32 sem32 :=
  fn_auto tr_ok eq_ok mixed_ok so32 (D := D32) (code := code32) (n := 27) Try.func32 (by kernel_rfl) (by kernel_rfl) (by kernel_rfl) (fun w0 mu _ hs => (loops_of (l := [(0, b32_0)]) (by kernel_rfl) (List.forall_mem_cons.2 ⟨loop32_0 _ w0 mu hs, (List.forall_mem_nil _)⟩))) t32_eq

/-! ### f141: laws.eqStringS -/
noncomputable def code141 : Code := match Try.f141.body with | some c => c | none => .skip
def ps141 : List AP := [.val false [.shr T_s], .val false [.shr T_s]]
def rs141 : List RP := [{ src := .tmp 4, agg := false, ps := [.bool] }]
noncomputable def sl141 : SemL := []
def D141 : Draws := fun id => bif Nat.beq id 6 then .op 0 .any (.op 1 .any (.op 2 .any (.op 3 .take (.op 4 .any (.op 5 .any (.op 6 .any (.op 7 .take (.op 8 .any (.nil))))))))) else .nil
def hp141_0 : List (Option AP) := [some (.val false [.shr T_s]), some (.val false [.shr T_s]), none, none, none, some (.val false [.int .i64]), none, none, none, none, none, none, none, none, none, none, none, none, none, none, none, none, none, none, none, none, none]
def e141_0 : List (Option AP) := [none, none, none, none, none, none, none, none, none, none, none, none, none, none, none, none, none, none, none, none, none, none, none, none, none, none, none]
def q141_0 : List (Option AP) := [none, none, none, none, some (.val false [.bool]), none, none, none, none, none, none, none, none, none, none, none, none, none, none, none, none, none, none, none, none, none, none]
abbrev H141_0 : Type := (List (ByteArray × Unit)) × (List (ByteArray × Unit)) × Int × Unit
abbrev E141_0 : Type := Unit
abbrev Q141_0 : Type := Bool × Unit
noncomputable def laws_eqStringS_c0 (a0 : List (ByteArray × Unit)) (b1 : List (ByteArray × Unit)) (i5 : Int) : Option (Sum H141_0 (Sum E141_0 Q141_0)) :=
  bif decide (i5 < ((List.length a0 : Nat) : Int)) then
    bif decide ((0 : Int) ≤ i5) then Option.bind ((a0)[Int.toNat i5]?) fun r1 =>
      bif decide ((0 : Int) ≤ i5) then Option.bind ((b1)[Int.toNat i5]?) fun r2 =>
        bif !strEq r1.1 r2.1 then
          some (.inr (.inr (false, ())))
        else
          some (.inl (a0, b1, IntKind.i64.wrap (i5 + (1 : Int)), ()))
      else none
    else none
  else
    some (.inr (.inl (())))
noncomputable def laws_eqStringS_r0 (x : H141_0) : Option (Sum H141_0 (Sum E141_0 Q141_0)) := laws_eqStringS_c0 x.1 x.2.1 x.2.2.1
noncomputable def L141 {R : Type} : Loops R := fun id _ st k => bif Nat.beq id 0 then loopAt hp141_0 e141_0 q141_0 laws_eqStringS_r0 st k else none
noncomputable def laws_eqStringS (a0 : List (ByteArray × Unit)) (b1 : List (ByteArray × Unit)) : Option (Bool × Unit) :=
  bif !decide (((List.length a0 : Nat) : Int) = ((List.length b1 : Nat) : Int)) then
    some (false, ())
  else
    outK (loopV laws_eqStringS_r0 (a0, b1, (0 : Int), ())) (fun y1 =>
      some (true, ())) (fun y2 =>
      some (y2.1, ()))
noncomputable def x141 (x : (List (ByteArray × Unit)) × (List (ByteArray × Unit)) × Unit) : Option (Bool × Unit) := laws_eqStringS x.1 x.2.1
noncomputable def sem141 : Sem1 := semOf ps141 rs141 x141
theorem so141 : SemsOk Try.prog (semsOf sl141) := sems_nil
noncomputable def b141_0 : Code := nthLoop code141 0
theorem t141_r0_eq (x : denR (headRT hp141_0)) : codeK (tabOf tr) (semsOf sl141) D141 L141 b141_0 (headSt hp141_0 x) (roundK 0 hp141_0 e141_0 q141_0) = laws_eqStringS_r0 x := by kernel_rfl
theorem loop141_0 {R : Type} (r : R) (w0 : World) (mu : Mu) (hs : AnShape ps141 mu) : LoopAt Try.prog w0 mu 26 (L141 : Loops R) r 0 b141_0 :=
  loop_auto tr_ok eq_ok mixed_ok so141 (D := D141) hs (by kernel_rfl) (fun _ => (loops_of (l := []) (by kernel_rfl) (List.forall_mem_nil _))) t141_r0_eq (fun _ _ => rfl)
theorem t141_eq (x : denR (headRT (ps141.map some))) : codeK (tabOf tr) (semsOf sl141) D141 L141 code141 (start 26 ps141 x) (finK rs141 ps141) = x141 x := by kernel_rfl
theorem k141 : Known Try.prog 141 sem141 :=
  fn_auto tr_ok eq_ok mixed_ok so141 (D := D141) (code := code141) (n := 26) Try.func141 (by kernel_rfl) (by kernel_rfl) (by kernel_rfl) (fun w0 mu _ hs => (loops_of (l := [(0, b141_0)]) (by kernel_rfl) (List.forall_mem_cons.2 ⟨loop141_0 _ w0 mu hs, (List.forall_mem_nil _)⟩))) t141_eq

/-! ### f48: laws.eqToken -/
noncomputable def code48 : Code := match Try.f48.body with | some c => c | none => .skip
def ps48 : List AP := [.val true [.int .i64, .int .i64, .int .i64, .int .i64, .int .i64, .shr T_i], .val true [.int .i64, .int .i64, .int .i64, .int .i64, .int .i64, .shr T_i]]
def rs48 : List RP := [{ src := .tmp 4, agg := false, ps := [.bool] }]
noncomputable def sl48 : SemL := [(74, (.shr, .shr, .shr, sem74))]
def D48 : Draws := fun _ => .nil
noncomputable def L48 {R : Type} : Loops R := fun _ _ _ _ => none
noncomputable def laws_eqToken (a0c0 : Int) (a0c1 : Int) (a0c2 : Int) (a0c3 : Int) (a0c4 : Int) (a0c5 : List (Int × Unit)) (b1c0 : Int) (b1c1 : Int) (b1c2 : Int) (b1c3 : Int) (b1c4 : Int) (b1c5 : List (Int × Unit)) : Option (Bool × Unit) :=
  bif !decide (a0c0 = b1c0) then
    some (false, ())
  else bif !decide (a0c1 = b1c1) then
    some (false, ())
  else bif !decide (a0c2 = b1c2) then
    some (false, ())
  else bif !decide (a0c3 = b1c3) then
    some (false, ())
  else bif !decide (a0c4 = b1c4) then
    some (false, ())
  else
    Option.bind (laws_eqIntS a0c5 b1c5) fun y1 =>
    bif !y1.1 then
      some (false, ())
    else
      some (true, ())
noncomputable def x48 (x : Int × Int × Int × Int × Int × (List (Int × Unit)) × Int × Int × Int × Int × Int × (List (Int × Unit)) × Unit) : Option (Bool × Unit) := laws_eqToken x.1 x.2.1 x.2.2.1 x.2.2.2.1 x.2.2.2.2.1 x.2.2.2.2.2.1 x.2.2.2.2.2.2.1 x.2.2.2.2.2.2.2.1 x.2.2.2.2.2.2.2.2.1 x.2.2.2.2.2.2.2.2.2.1 x.2.2.2.2.2.2.2.2.2.2.1 x.2.2.2.2.2.2.2.2.2.2.2.1
noncomputable def sem48 : Sem1 := semOf ps48 rs48 x48
theorem so48 : SemsOk Try.prog (semsOf sl48) := sems_cons k74 (sems_nil)
theorem t48_eq (x : denR (headRT (ps48.map some))) : codeK (tabOf tr) (semsOf sl48) D48 L48 code48 (start 36 ps48 x) (finK rs48 ps48) = x48 x := by kernel_rfl
theorem k48 : Known Try.prog 48 sem48 :=
  fn_auto tr_ok eq_ok mixed_ok so48 (D := D48) (code := code48) (n := 36) Try.func48 (by kernel_rfl) (by kernel_rfl) (by kernel_rfl) (fun w0 mu _ hs => (loops_of (l := []) (by kernel_rfl) (List.forall_mem_nil _))) t48_eq

/-! ### f59: laws.eqMate -/
noncomputable def code59 : Code := match Try.f59.body with | some c => c | none => .skip
def ps59 : List AP := [.val true [.int .i64, .int .i64, .shr T_i, .shr T_iiis, .shr T_i, .shr T_s, .int .i64, .int .i64, .int .i64, .int .i64, .int .i64, .int .i64, .int .i64, .int .i64, .int .i64, .shr T_i], .val true [.int .i64, .int .i64, .shr T_i, .shr T_iiis, .shr T_i, .shr T_s, .int .i64, .int .i64, .int .i64, .int .i64, .int .i64, .int .i64, .int .i64, .int .i64, .int .i64, .shr T_i]]
def rs59 : List RP := [{ src := .tmp 4, agg := false, ps := [.bool] }]
noncomputable def sl59 : SemL := [(15, (.shr, .shr, .shr, sem15)), (32, (.shr, .shr, .shr, sem32)), (74, (.shr, .shr, .shr, sem74)), (141, (.shr, .shr, .shr, sem141)), (48, (.shr, .shr, .shr, sem48))]
def D59 : Draws := fun _ => .nil
noncomputable def L59 {R : Type} : Loops R := fun _ _ _ _ => none
noncomputable def laws_eqMate (a0c0 : Int) (a0c1 : Int) (a0c2 : List (Int × Unit)) (a0c3 : List R_iiis) (a0c4 : List (Int × Unit)) (a0c5 : List (ByteArray × Unit)) (a0c6 : Int) (a0c7 : Int) (a0c8 : Int) (a0c9 : Int) (a0c10 : Int) (a0c11 : Int) (a0c12 : Int) (a0c13 : Int) (a0c14 : Int) (a0c15 : List (Int × Unit)) (b1c0 : Int) (b1c1 : Int) (b1c2 : List (Int × Unit)) (b1c3 : List R_iiis) (b1c4 : List (Int × Unit)) (b1c5 : List (ByteArray × Unit)) (b1c6 : Int) (b1c7 : Int) (b1c8 : Int) (b1c9 : Int) (b1c10 : Int) (b1c11 : Int) (b1c12 : Int) (b1c13 : Int) (b1c14 : Int) (b1c15 : List (Int × Unit)) : Option (Bool × Unit) :=
  bif !decide (a0c0 = b1c0) then
    some (false, ())
  else
    Option.bind (laws_eqRing a0c1 a0c2 b1c1 b1c2) fun y1 =>
    bif !y1.1 then
      some (false, ())
    else
      Option.bind (laws_eqItemS a0c3 b1c3) fun y2 =>
      bif !y2.1 then
        some (false, ())
      else
        Option.bind (laws_eqIntS a0c4 b1c4) fun y3 =>
        bif !y3.1 then
          some (false, ())
        else
          Option.bind (laws_eqStringS a0c5 b1c5) fun y4 =>
          bif !y4.1 then
            some (false, ())
          else bif !decide (a0c6 = b1c6) then
            some (false, ())
          else bif !decide (a0c7 = b1c7) then
            some (false, ())
          else bif !decide (a0c8 = b1c8) then
            some (false, ())
          else bif !decide (a0c9 = b1c9) then
            some (false, ())
          else
            Option.bind (laws_eqToken a0c10 a0c11 a0c12 a0c13 a0c14 a0c15 b1c10 b1c11 b1c12 b1c13 b1c14 b1c15) fun y5 =>
            bif !y5.1 then
              some (false, ())
            else
              some (true, ())
noncomputable def x59 (x : Int × Int × (List (Int × Unit)) × (List R_iiis) × (List (Int × Unit)) × (List (ByteArray × Unit)) × Int × Int × Int × Int × Int × Int × Int × Int × Int × (List (Int × Unit)) × Int × Int × (List (Int × Unit)) × (List R_iiis) × (List (Int × Unit)) × (List (ByteArray × Unit)) × Int × Int × Int × Int × Int × Int × Int × Int × Int × (List (Int × Unit)) × Unit) : Option (Bool × Unit) := laws_eqMate x.1 x.2.1 x.2.2.1 x.2.2.2.1 x.2.2.2.2.1 x.2.2.2.2.2.1 x.2.2.2.2.2.2.1 x.2.2.2.2.2.2.2.1 x.2.2.2.2.2.2.2.2.1 x.2.2.2.2.2.2.2.2.2.1 x.2.2.2.2.2.2.2.2.2.2.1 x.2.2.2.2.2.2.2.2.2.2.2.1 x.2.2.2.2.2.2.2.2.2.2.2.2.1 x.2.2.2.2.2.2.2.2.2.2.2.2.2.1 x.2.2.2.2.2.2.2.2.2.2.2.2.2.2.1 x.2.2.2.2.2.2.2.2.2.2.2.2.2.2.2.1 x.2.2.2.2.2.2.2.2.2.2.2.2.2.2.2.2.1 x.2.2.2.2.2.2.2.2.2.2.2.2.2.2.2.2.2.1 x.2.2.2.2.2.2.2.2.2.2.2.2.2.2.2.2.2.2.1 x.2.2.2.2.2.2.2.2.2.2.2.2.2.2.2.2.2.2.2.1 x.2.2.2.2.2.2.2.2.2.2.2.2.2.2.2.2.2.2.2.2.1 x.2.2.2.2.2.2.2.2.2.2.2.2.2.2.2.2.2.2.2.2.2.1 x.2.2.2.2.2.2.2.2.2.2.2.2.2.2.2.2.2.2.2.2.2.2.1 x.2.2.2.2.2.2.2.2.2.2.2.2.2.2.2.2.2.2.2.2.2.2.2.1 x.2.2.2.2.2.2.2.2.2.2.2.2.2.2.2.2.2.2.2.2.2.2.2.2.1 x.2.2.2.2.2.2.2.2.2.2.2.2.2.2.2.2.2.2.2.2.2.2.2.2.2.1 x.2.2.2.2.2.2.2.2.2.2.2.2.2.2.2.2.2.2.2.2.2.2.2.2.2.2.1 x.2.2.2.2.2.2.2.2.2.2.2.2.2.2.2.2.2.2.2.2.2.2.2.2.2.2.2.1 x.2.2.2.2.2.2.2.2.2.2.2.2.2.2.2.2.2.2.2.2.2.2.2.2.2.2.2.2.1 x.2.2.2.2.2.2.2.2.2.2.2.2.2.2.2.2.2.2.2.2.2.2.2.2.2.2.2.2.2.1 x.2.2.2.2.2.2.2.2.2.2.2.2.2.2.2.2.2.2.2.2.2.2.2.2.2.2.2.2.2.2.1 x.2.2.2.2.2.2.2.2.2.2.2.2.2.2.2.2.2.2.2.2.2.2.2.2.2.2.2.2.2.2.2.1
noncomputable def sem59 : Sem1 := semOf ps59 rs59 x59
theorem so59 : SemsOk Try.prog (semsOf sl59) := sems_cons k15 (sems_cons k32 (sems_cons k74 (sems_cons k141 (sems_cons k48 (sems_nil)))))
theorem t59_eq (x : denR (headRT (ps59.map some))) : codeK (tabOf tr) (semsOf sl59) D59 L59 code59 (start 60 ps59 x) (finK rs59 ps59) = x59 x := by kernel_rfl
theorem k59 : Known Try.prog 59 sem59 :=
  fn_auto tr_ok eq_ok mixed_ok so59 (D := D59) (code := code59) (n := 60) Try.func59 (by kernel_rfl) (by kernel_rfl) (by kernel_rfl) (fun w0 mu _ hs => (loops_of (l := []) (by kernel_rfl) (List.forall_mem_nil _))) t59_eq

/-! ### f75: laws.markIntS -/
noncomputable def code75 : Code := match Try.f75.body with | some c => c | none => .skip
def ps75 : List AP := [.io T_i, .val false [.int .i64]]
def rs75 : List RP := [{ src := .tmp 4, agg := false, ps := [.int .i64] }]
noncomputable def sl75 : SemL := []
def D75 : Draws := fun _ => .nil
def hp75_0 : List (Option AP) := [some (.io T_i), some (.val false [.int .i64]), none, none, none, some (.val false [.int .i64]), none, none, none, none, none, none, none, none, none, none, none, none, none, none]
def e75_0 : List (Option AP) := [some (.io T_i), some (.val false [.int .i64]), none, none, none, none, none, none, none, none, none, none, none, none, none, none, none, none, none, none]
def q75_0 : List (Option AP) := [none, none, none, none, none, none, none, none, none, none, none, none, none, none, none, none, none, none, none, none]
abbrev H75_0 : Type := (List (Int × Unit)) × Int × Int × Unit
abbrev E75_0 : Type := (List (Int × Unit)) × Int × Unit
abbrev Q75_0 : Type := Unit
noncomputable def laws_markIntS_c0 (a0 : List (Int × Unit)) (k1 : Int) (i5 : Int) : Option (Sum H75_0 (Sum E75_0 Q75_0)) :=
  bif decide (i5 < ((List.length a0 : Nat) : Int)) then
    bif decide ((0 : Int) ≤ i5) then bif Nat.blt (Int.toNat i5) (List.length a0) then Option.bind ((a0)[Int.toNat i5]?) fun r1 =>
        some (.inl (List.set a0 (Int.toNat i5) (k1, ()), IntKind.i64.wrap (k1 + (1 : Int)), IntKind.i64.wrap (i5 + (1 : Int)), ()))
      else none
    else none
  else
    some (.inr (.inl (a0, k1, ())))
noncomputable def laws_markIntS_r0 (x : H75_0) : Option (Sum H75_0 (Sum E75_0 Q75_0)) := laws_markIntS_c0 x.1 x.2.1 x.2.2.1
noncomputable def L75 {R : Type} : Loops R := fun id _ st k => bif Nat.beq id 0 then loopAt hp75_0 e75_0 q75_0 laws_markIntS_r0 st k else none
noncomputable def laws_markIntS (a0 : List (Int × Unit)) (k1 : Int) : Option (Int × (List (Int × Unit)) × Unit) :=
  outK (loopV laws_markIntS_r0 (a0, k1, (0 : Int), ())) (fun y1 =>
    some (y1.2.1, y1.1, ())) (fun y2 =>
    none)
noncomputable def x75 (x : (List (Int × Unit)) × Int × Unit) : Option (Int × (List (Int × Unit)) × Unit) := laws_markIntS x.1 x.2.1
noncomputable def sem75 : Sem1 := semOf ps75 rs75 x75
theorem so75 : SemsOk Try.prog (semsOf sl75) := sems_nil
noncomputable def b75_0 : Code := nthLoop code75 0
theorem t75_r0_eq (x : denR (headRT hp75_0)) : codeK (tabOf tr) (semsOf sl75) D75 L75 b75_0 (headSt hp75_0 x) (roundK 0 hp75_0 e75_0 q75_0) = laws_markIntS_r0 x := by kernel_rfl
theorem loop75_0 {R : Type} (r : R) (w0 : World) (mu : Mu) (hs : AnShape ps75 mu) : LoopAt Try.prog w0 mu 19 (L75 : Loops R) r 0 b75_0 :=
  loop_auto tr_ok eq_ok mixed_ok so75 (D := D75) hs (by kernel_rfl) (fun _ => (loops_of (l := []) (by kernel_rfl) (List.forall_mem_nil _))) t75_r0_eq (fun _ _ => rfl)
theorem t75_eq (x : denR (headRT (ps75.map some))) : codeK (tabOf tr) (semsOf sl75) D75 L75 code75 (start 19 ps75 x) (finK rs75 ps75) = x75 x := by kernel_rfl
theorem k75 : Known Try.prog 75 sem75 :=
  fn_auto tr_ok eq_ok mixed_ok so75 (D := D75) (code := code75) (n := 19) Try.func75 (by kernel_rfl) (by kernel_rfl) (by kernel_rfl) (fun w0 mu _ hs => (loops_of (l := [(0, b75_0)]) (by kernel_rfl) (List.forall_mem_cons.2 ⟨loop75_0 _ w0 mu hs, (List.forall_mem_nil _)⟩))) t75_eq

/-! ### f16: laws.markRing -/
noncomputable def code16 : Code := match Try.f16.body with | some c => c | none => .skip
def ps16 : List AP := [.lend [.int .i64, .own T_i], .val false [.int .i64]]
def rs16 : List RP := [{ src := .tmp 4, agg := false, ps := [.int .i64] }]
noncomputable def sl16 : SemL := [(75, (.io, .shr, .shr, sem75))]
def D16 : Draws := fun _ => .nil
noncomputable def L16 {R : Type} : Loops R := fun _ _ _ _ => none
noncomputable def laws_markRing (a0c0 : Int) (a0c1 : List (Int × Unit)) (k1 : Int) : Option (Int × (List (Int × Unit)) × Unit) :=
  Option.bind (laws_markIntS a0c1 k1) fun y1 =>
  some (y1.1, y1.2.1, ())
noncomputable def x16 (x : Int × (List (Int × Unit)) × Int × Unit) : Option (Int × (List (Int × Unit)) × Unit) := laws_markRing x.1 x.2.1 x.2.2.1
noncomputable def sem16 : Sem1 := semOf ps16 rs16 x16
theorem so16 : SemsOk Try.prog (semsOf sl16) := sems_cons k75 (sems_nil)
theorem t16_eq (x : denR (headRT (ps16.map some))) : codeK (tabOf tr) (semsOf sl16) D16 L16 code16 (start 10 ps16 x) (finK rs16 ps16) = x16 x := by kernel_rfl
theorem k16 : Known Try.prog 16 sem16 :=
  fn_auto tr_ok eq_ok mixed_ok so16 (D := D16) (code := code16) (n := 10) Try.func16 (by kernel_rfl) (by kernel_rfl) (by kernel_rfl) (fun w0 mu _ hs => (loops_of (l := []) (by kernel_rfl) (List.forall_mem_nil _))) t16_eq

/-! ### f107: laws.markText -/
noncomputable def code107 : Code := match Try.f107.body with | some c => c | none => .skip
def ps107 : List AP := [.val false [.int .i64]]
def rs107 : List RP := [{ src := .tmp 2, agg := false, ps := [.str] }]
noncomputable def sl107 : SemL := []
def D107 : Draws := fun _ => .nil
def hp107_0 : List (Option AP) := [some (.val false [.int .i64]), none, none, some (.val false [.str]), none, none, none, none, none, none, none, none, none, none, none, none, none, none, none, none, none]
def e107_0 : List (Option AP) := [none, none, none, some (.val false [.str]), none, none, none, none, none, none, none, none, none, none, none, none, none, none, none, none, none]
def q107_0 : List (Option AP) := [none, none, none, none, none, none, none, none, none, none, none, none, none, none, none, none, none, none, none, none, none]
abbrev H107_0 : Type := Int × ByteArray × Unit
abbrev E107_0 : Type := ByteArray × Unit
abbrev Q107_0 : Type := Unit
noncomputable def laws_markText_c0 (k0 : Int) (out3 : ByteArray) : Option (Sum H107_0 (Sum E107_0 Q107_0)) :=
  bif decide ((0 : Int) < k0) then
    bif Nat.ble ((ByteArray.size (bytesOf [(IntKind.u8.wrap (IntKind.i64.wrap ((48 : Int) + (Int.tmod k0 (10 : Int)))), ())])) + (ByteArray.size out3)) lim then some (.inl (IntKind.i64.wrap (Int.tdiv k0 (10 : Int)), (bytesOf [(IntKind.u8.wrap (IntKind.i64.wrap ((48 : Int) + (Int.tmod k0 (10 : Int)))), ())]) ++ out3, ()))
    else none
  else
    some (.inr (.inl (out3, ())))
noncomputable def laws_markText_r0 (x : H107_0) : Option (Sum H107_0 (Sum E107_0 Q107_0)) := laws_markText_c0 x.1 x.2.1
noncomputable def L107 {R : Type} : Loops R := fun id _ st k => bif Nat.beq id 0 then loopAt hp107_0 e107_0 q107_0 laws_markText_r0 st k else none
noncomputable def laws_markText (k0 : Int) : Option (ByteArray × Unit) :=
  bif decide (k0 ≤ (0 : Int)) then
    some ((ByteArray.mk #[109, 48]), ())
  else
    outK (loopV laws_markText_r0 (k0, (ByteArray.mk #[]), ())) (fun y1 =>
      bif Nat.ble (1 + (ByteArray.size y1.1)) lim then some ((ByteArray.mk #[109]) ++ y1.1, ())
      else none) (fun y2 =>
      none)
noncomputable def x107 (x : Int × Unit) : Option (ByteArray × Unit) := laws_markText x.1
noncomputable def sem107 : Sem1 := semOf ps107 rs107 x107
theorem so107 : SemsOk Try.prog (semsOf sl107) := sems_nil
noncomputable def b107_0 : Code := nthLoop code107 0
theorem t107_r0_eq (x : denR (headRT hp107_0)) : codeK (tabOf tr) (semsOf sl107) D107 L107 b107_0 (headSt hp107_0 x) (roundK 0 hp107_0 e107_0 q107_0) = laws_markText_r0 x := by kernel_rfl
theorem loop107_0 {R : Type} (r : R) (w0 : World) (mu : Mu) (hs : AnShape ps107 mu) : LoopAt Try.prog w0 mu 20 (L107 : Loops R) r 0 b107_0 :=
  loop_auto tr_ok eq_ok mixed_ok so107 (D := D107) hs (by kernel_rfl) (fun _ => (loops_of (l := []) (by kernel_rfl) (List.forall_mem_nil _))) t107_r0_eq (fun _ _ => rfl)
theorem t107_eq (x : denR (headRT (ps107.map some))) : codeK (tabOf tr) (semsOf sl107) D107 L107 code107 (start 20 ps107 x) (finK rs107 ps107) = x107 x := by kernel_rfl
theorem k107 : Known Try.prog 107 sem107 :=
  fn_auto tr_ok eq_ok mixed_ok so107 (D := D107) (code := code107) (n := 20) Try.func107 (by kernel_rfl) (by kernel_rfl) (by kernel_rfl) (fun w0 mu _ hs => (loops_of (l := [(0, b107_0)]) (by kernel_rfl) (List.forall_mem_cons.2 ⟨loop107_0 _ w0 mu hs, (List.forall_mem_nil _)⟩))) t107_eq

/-! ### f35: laws.markItemS -/
noncomputable def code35 : Code := match Try.f35.body with | some c => c | none => .skip
def ps35 : List AP := [.io T_iiis, .val false [.int .i64]]
def rs35 : List RP := [{ src := .tmp 4, agg := false, ps := [.int .i64] }]
noncomputable def sl35 : SemL := [(107, (.shr, .shr, .shr, sem107))]
def D35 : Draws := fun _ => .nil
def hp35_0 : List (Option AP) := [some (.io T_iiis), some (.val false [.int .i64]), none, none, none, some (.val false [.int .i64]), none, none, none, none, none, none, none, none, none, none, none, none, none, none, none, none, none, none, none, none, none, none, none, none, none, none, none, none, none, none, none, none, none, none, none, none, none]
def e35_0 : List (Option AP) := [some (.io T_iiis), some (.val false [.int .i64]), none, none, none, none, none, none, none, none, none, none, none, none, none, none, none, none, none, none, none, none, none, none, none, none, none, none, none, none, none, none, none, none, none, none, none, none, none, none, none, none, none]
def q35_0 : List (Option AP) := [none, none, none, none, none, none, none, none, none, none, none, none, none, none, none, none, none, none, none, none, none, none, none, none, none, none, none, none, none, none, none, none, none, none, none, none, none, none, none, none, none, none, none]
abbrev H35_0 : Type := (List R_iiis) × Int × Int × Unit
abbrev E35_0 : Type := (List R_iiis) × Int × Unit
abbrev Q35_0 : Type := Unit
noncomputable def laws_markItemS_c0 (a0 : List R_iiis) (k1 : Int) (i5 : Int) : Option (Sum H35_0 (Sum E35_0 Q35_0)) :=
  bif decide (i5 < ((List.length a0 : Nat) : Int)) then
    bif decide ((0 : Int) ≤ i5) then bif Nat.blt (Int.toNat i5) (List.length a0) then Option.bind ((a0)[Int.toNat i5]?) fun r1 =>
        bif decide ((0 : Int) ≤ i5) then bif Nat.blt (Int.toNat i5) (List.length (List.set a0 (Int.toNat i5) (k1, r1.2.1, r1.2.2.1, r1.2.2.2.1, ()))) then Option.bind ((List.set a0 (Int.toNat i5) (k1, r1.2.1, r1.2.2.1, r1.2.2.2.1, ()))[Int.toNat i5]?) fun r2 =>
            bif decide ((0 : Int) ≤ i5) then bif Nat.blt (Int.toNat i5) (List.length (List.set (List.set a0 (Int.toNat i5) (k1, r1.2.1, r1.2.2.1, r1.2.2.2.1, ())) (Int.toNat i5) (r2.1, IntKind.i64.wrap (k1 + (1 : Int)), r2.2.2.1, r2.2.2.2.1, ()))) then Option.bind ((List.set (List.set a0 (Int.toNat i5) (k1, r1.2.1, r1.2.2.1, r1.2.2.2.1, ())) (Int.toNat i5) (r2.1, IntKind.i64.wrap (k1 + (1 : Int)), r2.2.2.1, r2.2.2.2.1, ()))[Int.toNat i5]?) fun r3 =>
                Option.bind (laws_markText (IntKind.i64.wrap ((IntKind.i64.wrap ((IntKind.i64.wrap (k1 + (1 : Int))) + (1 : Int))) + (1 : Int)))) fun y4 =>
                bif decide ((0 : Int) ≤ i5) then bif Nat.blt (Int.toNat i5) (List.length (List.set (List.set (List.set a0 (Int.toNat i5) (k1, r1.2.1, r1.2.2.1, r1.2.2.2.1, ())) (Int.toNat i5) (r2.1, IntKind.i64.wrap (k1 + (1 : Int)), r2.2.2.1, r2.2.2.2.1, ())) (Int.toNat i5) (r3.1, r3.2.1, IntKind.i64.wrap ((IntKind.i64.wrap (k1 + (1 : Int))) + (1 : Int)), r3.2.2.2.1, ()))) then Option.bind ((List.set (List.set (List.set a0 (Int.toNat i5) (k1, r1.2.1, r1.2.2.1, r1.2.2.2.1, ())) (Int.toNat i5) (r2.1, IntKind.i64.wrap (k1 + (1 : Int)), r2.2.2.1, r2.2.2.2.1, ())) (Int.toNat i5) (r3.1, r3.2.1, IntKind.i64.wrap ((IntKind.i64.wrap (k1 + (1 : Int))) + (1 : Int)), r3.2.2.2.1, ()))[Int.toNat i5]?) fun r5 =>
                    some (.inl (List.set (List.set (List.set (List.set a0 (Int.toNat i5) (k1, r1.2.1, r1.2.2.1, r1.2.2.2.1, ())) (Int.toNat i5) (r2.1, IntKind.i64.wrap (k1 + (1 : Int)), r2.2.2.1, r2.2.2.2.1, ())) (Int.toNat i5) (r3.1, r3.2.1, IntKind.i64.wrap ((IntKind.i64.wrap (k1 + (1 : Int))) + (1 : Int)), r3.2.2.2.1, ())) (Int.toNat i5) (r5.1, r5.2.1, r5.2.2.1, y4.1, ()), IntKind.i64.wrap ((IntKind.i64.wrap ((IntKind.i64.wrap ((IntKind.i64.wrap (k1 + (1 : Int))) + (1 : Int))) + (1 : Int))) + (1 : Int)), IntKind.i64.wrap (i5 + (1 : Int)), ()))
                  else none
                else none
              else none
            else none
          else none
        else none
      else none
    else none
  else
    some (.inr (.inl (a0, k1, ())))
noncomputable def laws_markItemS_r0 (x : H35_0) : Option (Sum H35_0 (Sum E35_0 Q35_0)) := laws_markItemS_c0 x.1 x.2.1 x.2.2.1
noncomputable def L35 {R : Type} : Loops R := fun id _ st k => bif Nat.beq id 0 then loopAt hp35_0 e35_0 q35_0 laws_markItemS_r0 st k else none
noncomputable def laws_markItemS (a0 : List R_iiis) (k1 : Int) : Option (Int × (List R_iiis) × Unit) :=
  outK (loopV laws_markItemS_r0 (a0, k1, (0 : Int), ())) (fun y1 =>
    some (y1.2.1, y1.1, ())) (fun y2 =>
    none)
noncomputable def x35 (x : (List R_iiis) × Int × Unit) : Option (Int × (List R_iiis) × Unit) := laws_markItemS x.1 x.2.1
noncomputable def sem35 : Sem1 := semOf ps35 rs35 x35
theorem so35 : SemsOk Try.prog (semsOf sl35) := sems_cons k107 (sems_nil)
noncomputable def b35_0 : Code := nthLoop code35 0
theorem t35_r0_eq (x : denR (headRT hp35_0)) : codeK (tabOf tr) (semsOf sl35) D35 L35 b35_0 (headSt hp35_0 x) (roundK 0 hp35_0 e35_0 q35_0) = laws_markItemS_r0 x := by kernel_rfl
theorem loop35_0 {R : Type} (r : R) (w0 : World) (mu : Mu) (hs : AnShape ps35 mu) : LoopAt Try.prog w0 mu 42 (L35 : Loops R) r 0 b35_0 :=
  loop_auto tr_ok eq_ok mixed_ok so35 (D := D35) hs (by kernel_rfl) (fun _ => (loops_of (l := []) (by kernel_rfl) (List.forall_mem_nil _))) t35_r0_eq (fun _ _ => rfl)
theorem t35_eq (x : denR (headRT (ps35.map some))) : codeK (tabOf tr) (semsOf sl35) D35 L35 code35 (start 42 ps35 x) (finK rs35 ps35) = x35 x := by kernel_rfl
theorem k35 : Known Try.prog 35 sem35 :=
  fn_auto tr_ok eq_ok mixed_ok so35 (D := D35) (code := code35) (n := 42) Try.func35 (by kernel_rfl) (by kernel_rfl) (by kernel_rfl) (fun w0 mu _ hs => (loops_of (l := [(0, b35_0)]) (by kernel_rfl) (List.forall_mem_cons.2 ⟨loop35_0 _ w0 mu hs, (List.forall_mem_nil _)⟩))) t35_eq

/-! ### f142: laws.markStringS -/
noncomputable def code142 : Code := match Try.f142.body with | some c => c | none => .skip
def ps142 : List AP := [.io T_s, .val false [.int .i64]]
def rs142 : List RP := [{ src := .tmp 4, agg := false, ps := [.int .i64] }]
noncomputable def sl142 : SemL := [(107, (.shr, .shr, .shr, sem107))]
def D142 : Draws := fun _ => .nil
def hp142_0 : List (Option AP) := [some (.io T_s), some (.val false [.int .i64]), none, none, none, some (.val false [.int .i64]), none, none, none, none, none, none, none, none, none, none, none, none, none, none, none]
def e142_0 : List (Option AP) := [some (.io T_s), some (.val false [.int .i64]), none, none, none, none, none, none, none, none, none, none, none, none, none, none, none, none, none, none, none]
def q142_0 : List (Option AP) := [none, none, none, none, none, none, none, none, none, none, none, none, none, none, none, none, none, none, none, none, none]
abbrev H142_0 : Type := (List (ByteArray × Unit)) × Int × Int × Unit
abbrev E142_0 : Type := (List (ByteArray × Unit)) × Int × Unit
abbrev Q142_0 : Type := Unit
noncomputable def laws_markStringS_c0 (a0 : List (ByteArray × Unit)) (k1 : Int) (i5 : Int) : Option (Sum H142_0 (Sum E142_0 Q142_0)) :=
  bif decide (i5 < ((List.length a0 : Nat) : Int)) then
    Option.bind (laws_markText k1) fun y1 =>
    bif decide ((0 : Int) ≤ i5) then bif Nat.blt (Int.toNat i5) (List.length a0) then Option.bind ((a0)[Int.toNat i5]?) fun r2 =>
        some (.inl (List.set a0 (Int.toNat i5) (y1.1, ()), IntKind.i64.wrap (k1 + (1 : Int)), IntKind.i64.wrap (i5 + (1 : Int)), ()))
      else none
    else none
  else
    some (.inr (.inl (a0, k1, ())))
noncomputable def laws_markStringS_r0 (x : H142_0) : Option (Sum H142_0 (Sum E142_0 Q142_0)) := laws_markStringS_c0 x.1 x.2.1 x.2.2.1
noncomputable def L142 {R : Type} : Loops R := fun id _ st k => bif Nat.beq id 0 then loopAt hp142_0 e142_0 q142_0 laws_markStringS_r0 st k else none
noncomputable def laws_markStringS (a0 : List (ByteArray × Unit)) (k1 : Int) : Option (Int × (List (ByteArray × Unit)) × Unit) :=
  outK (loopV laws_markStringS_r0 (a0, k1, (0 : Int), ())) (fun y1 =>
    some (y1.2.1, y1.1, ())) (fun y2 =>
    none)
noncomputable def x142 (x : (List (ByteArray × Unit)) × Int × Unit) : Option (Int × (List (ByteArray × Unit)) × Unit) := laws_markStringS x.1 x.2.1
noncomputable def sem142 : Sem1 := semOf ps142 rs142 x142
theorem so142 : SemsOk Try.prog (semsOf sl142) := sems_cons k107 (sems_nil)
noncomputable def b142_0 : Code := nthLoop code142 0
theorem t142_r0_eq (x : denR (headRT hp142_0)) : codeK (tabOf tr) (semsOf sl142) D142 L142 b142_0 (headSt hp142_0 x) (roundK 0 hp142_0 e142_0 q142_0) = laws_markStringS_r0 x := by kernel_rfl
theorem loop142_0 {R : Type} (r : R) (w0 : World) (mu : Mu) (hs : AnShape ps142 mu) : LoopAt Try.prog w0 mu 20 (L142 : Loops R) r 0 b142_0 :=
  loop_auto tr_ok eq_ok mixed_ok so142 (D := D142) hs (by kernel_rfl) (fun _ => (loops_of (l := []) (by kernel_rfl) (List.forall_mem_nil _))) t142_r0_eq (fun _ _ => rfl)
theorem t142_eq (x : denR (headRT (ps142.map some))) : codeK (tabOf tr) (semsOf sl142) D142 L142 code142 (start 20 ps142 x) (finK rs142 ps142) = x142 x := by kernel_rfl
theorem k142 : Known Try.prog 142 sem142 :=
  fn_auto tr_ok eq_ok mixed_ok so142 (D := D142) (code := code142) (n := 20) Try.func142 (by kernel_rfl) (by kernel_rfl) (by kernel_rfl) (fun w0 mu _ hs => (loops_of (l := [(0, b142_0)]) (by kernel_rfl) (List.forall_mem_cons.2 ⟨loop142_0 _ w0 mu hs, (List.forall_mem_nil _)⟩))) t142_eq

/-! ### f51: laws.markToken -/
noncomputable def code51 : Code := match Try.f51.body with | some c => c | none => .skip
def ps51 : List AP := [.lend [.int .i64, .int .i64, .int .i64, .int .i64, .int .i64, .own T_i], .val false [.int .i64]]
def rs51 : List RP := [{ src := .tmp 4, agg := false, ps := [.int .i64] }]
noncomputable def sl51 : SemL := [(75, (.io, .shr, .shr, sem75))]
def D51 : Draws := fun _ => .nil
noncomputable def L51 {R : Type} : Loops R := fun _ _ _ _ => none
noncomputable def laws_markToken (a0c0 : Int) (a0c1 : Int) (a0c2 : Int) (a0c3 : Int) (a0c4 : Int) (a0c5 : List (Int × Unit)) (k1 : Int) : Option (Int × (List (Int × Unit)) × Unit) :=
  Option.bind (laws_markIntS a0c5 k1) fun y1 =>
  some (y1.1, y1.2.1, ())
noncomputable def x51 (x : Int × Int × Int × Int × Int × (List (Int × Unit)) × Int × Unit) : Option (Int × (List (Int × Unit)) × Unit) := laws_markToken x.1 x.2.1 x.2.2.1 x.2.2.2.1 x.2.2.2.2.1 x.2.2.2.2.2.1 x.2.2.2.2.2.2.1
noncomputable def sem51 : Sem1 := semOf ps51 rs51 x51
theorem so51 : SemsOk Try.prog (semsOf sl51) := sems_cons k75 (sems_nil)
theorem t51_eq (x : denR (headRT (ps51.map some))) : codeK (tabOf tr) (semsOf sl51) D51 L51 code51 (start 10 ps51 x) (finK rs51 ps51) = x51 x := by kernel_rfl
theorem k51 : Known Try.prog 51 sem51 :=
  fn_auto tr_ok eq_ok mixed_ok so51 (D := D51) (code := code51) (n := 10) Try.func51 (by kernel_rfl) (by kernel_rfl) (by kernel_rfl) (fun w0 mu _ hs => (loops_of (l := []) (by kernel_rfl) (List.forall_mem_nil _))) t51_eq

/-! ### f60: laws.markMate -/
noncomputable def code60 : Code := match Try.f60.body with | some c => c | none => .skip
def ps60 : List AP := [.lend [.int .i64, .int .i64, .own T_i, .own T_iiis, .own T_i, .own T_s, .int .i64, .int .i64, .int .i64, .int .i64, .int .i64, .int .i64, .int .i64, .int .i64, .int .i64, .own T_i], .val false [.int .i64]]
def rs60 : List RP := [{ src := .tmp 4, agg := false, ps := [.int .i64] }]
noncomputable def sl60 : SemL := [(16, (.lend, .shr, .shr, sem16)), (35, (.io, .shr, .shr, sem35)), (75, (.io, .shr, .shr, sem75)), (142, (.io, .shr, .shr, sem142)), (51, (.lend, .shr, .shr, sem51))]
def D60 : Draws := fun _ => .nil
noncomputable def L60 {R : Type} : Loops R := fun _ _ _ _ => none
noncomputable def laws_markMate (a0c0 : Int) (a0c1 : Int) (a0c2 : List (Int × Unit)) (a0c3 : List R_iiis) (a0c4 : List (Int × Unit)) (a0c5 : List (ByteArray × Unit)) (a0c6 : Int) (a0c7 : Int) (a0c8 : Int) (a0c9 : Int) (a0c10 : Int) (a0c11 : Int) (a0c12 : Int) (a0c13 : Int) (a0c14 : Int) (a0c15 : List (Int × Unit)) (k1 : Int) : Option (Int × (List (Int × Unit)) × (List R_iiis) × (List (Int × Unit)) × (List (ByteArray × Unit)) × (List (Int × Unit)) × Unit) :=
  Option.bind (laws_markRing a0c1 a0c2 k1) fun y1 =>
  Option.bind (laws_markItemS a0c3 y1.1) fun y2 =>
  Option.bind (laws_markIntS a0c4 y2.1) fun y3 =>
  Option.bind (laws_markStringS a0c5 y3.1) fun y4 =>
  Option.bind (laws_markToken a0c10 a0c11 a0c12 a0c13 a0c14 a0c15 y4.1) fun y5 =>
  some (y5.1, y1.2.1, y2.2.1, y3.2.1, y4.2.1, y5.2.1, ())
noncomputable def x60 (x : Int × Int × (List (Int × Unit)) × (List R_iiis) × (List (Int × Unit)) × (List (ByteArray × Unit)) × Int × Int × Int × Int × Int × Int × Int × Int × Int × (List (Int × Unit)) × Int × Unit) : Option (Int × (List (Int × Unit)) × (List R_iiis) × (List (Int × Unit)) × (List (ByteArray × Unit)) × (List (Int × Unit)) × Unit) := laws_markMate x.1 x.2.1 x.2.2.1 x.2.2.2.1 x.2.2.2.2.1 x.2.2.2.2.2.1 x.2.2.2.2.2.2.1 x.2.2.2.2.2.2.2.1 x.2.2.2.2.2.2.2.2.1 x.2.2.2.2.2.2.2.2.2.1 x.2.2.2.2.2.2.2.2.2.2.1 x.2.2.2.2.2.2.2.2.2.2.2.1 x.2.2.2.2.2.2.2.2.2.2.2.2.1 x.2.2.2.2.2.2.2.2.2.2.2.2.2.1 x.2.2.2.2.2.2.2.2.2.2.2.2.2.2.1 x.2.2.2.2.2.2.2.2.2.2.2.2.2.2.2.1 x.2.2.2.2.2.2.2.2.2.2.2.2.2.2.2.2.1
noncomputable def sem60 : Sem1 := semOf ps60 rs60 x60
theorem so60 : SemsOk Try.prog (semsOf sl60) := sems_cons k16 (sems_cons k35 (sems_cons k75 (sems_cons k142 (sems_cons k51 (sems_nil)))))
theorem t60_eq (x : denR (headRT (ps60.map some))) : codeK (tabOf tr) (semsOf sl60) D60 L60 code60 (start 26 ps60 x) (finK rs60 ps60) = x60 x := by kernel_rfl
theorem k60 : Known Try.prog 60 sem60 :=
  fn_auto tr_ok eq_ok mixed_ok so60 (D := D60) (code := code60) (n := 26) Try.func60 (by kernel_rfl) (by kernel_rfl) (by kernel_rfl) (fun w0 mu _ hs => (loops_of (l := []) (by kernel_rfl) (List.forall_mem_nil _))) t60_eq

/-! ### f130: laws.heldIntS -/
noncomputable def code130 : Code := match Try.f130.body with | some c => c | none => .skip
def ps130 : List AP := [.val false [.shr T_i], .val false [.int .i64]]
def rs130 : List RP := [{ src := .tmp 4, agg := false, ps := [.int .i64] }]
noncomputable def sl130 : SemL := []
def D130 : Draws := fun _ => .nil
def hp130_0 : List (Option AP) := [some (.val false [.shr T_i]), some (.val false [.int .i64]), none, none, none, some (.val false [.int .i64]), none, none, none, none, none, none, none, none, none, none, none, none, none, none, none, none]
def e130_0 : List (Option AP) := [none, some (.val false [.int .i64]), none, none, none, none, none, none, none, none, none, none, none, none, none, none, none, none, none, none, none, none]
def q130_0 : List (Option AP) := [none, none, none, none, some (.val false [.int .i64]), none, none, none, none, none, none, none, none, none, none, none, none, none, none, none, none, none]
abbrev H130_0 : Type := (List (Int × Unit)) × Int × Int × Unit
abbrev E130_0 : Type := Int × Unit
abbrev Q130_0 : Type := Int × Unit
noncomputable def laws_heldIntS_c0 (a0 : List (Int × Unit)) (k1 : Int) (i5 : Int) : Option (Sum H130_0 (Sum E130_0 Q130_0)) :=
  bif decide (i5 < ((List.length a0 : Nat) : Int)) then
    bif decide ((0 : Int) ≤ i5) then Option.bind ((a0)[Int.toNat i5]?) fun r1 =>
      bif !decide (r1.1 = k1) then
        some (.inr (.inr ((-1 : Int), ())))
      else
        some (.inl (a0, IntKind.i64.wrap (k1 + (1 : Int)), IntKind.i64.wrap (i5 + (1 : Int)), ()))
    else none
  else
    some (.inr (.inl (k1, ())))
noncomputable def laws_heldIntS_r0 (x : H130_0) : Option (Sum H130_0 (Sum E130_0 Q130_0)) := laws_heldIntS_c0 x.1 x.2.1 x.2.2.1
noncomputable def L130 {R : Type} : Loops R := fun id _ st k => bif Nat.beq id 0 then loopAt hp130_0 e130_0 q130_0 laws_heldIntS_r0 st k else none
noncomputable def laws_heldIntS (a0 : List (Int × Unit)) (k1 : Int) : Option (Int × Unit) :=
  outK (loopV laws_heldIntS_r0 (a0, k1, (0 : Int), ())) (fun y1 =>
    some (y1.1, ())) (fun y2 =>
    some (y2.1, ()))
noncomputable def x130 (x : (List (Int × Unit)) × Int × Unit) : Option (Int × Unit) := laws_heldIntS x.1 x.2.1
noncomputable def sem130 : Sem1 := semOf ps130 rs130 x130
theorem so130 : SemsOk Try.prog (semsOf sl130) := sems_nil
noncomputable def b130_0 : Code := nthLoop code130 0
theorem t130_r0_eq (x : denR (headRT hp130_0)) : codeK (tabOf tr) (semsOf sl130) D130 L130 b130_0 (headSt hp130_0 x) (roundK 0 hp130_0 e130_0 q130_0) = laws_heldIntS_r0 x := by kernel_rfl
theorem loop130_0 {R : Type} (r : R) (w0 : World) (mu : Mu) (hs : AnShape ps130 mu) : LoopAt Try.prog w0 mu 21 (L130 : Loops R) r 0 b130_0 :=
  loop_auto tr_ok eq_ok mixed_ok so130 (D := D130) hs (by kernel_rfl) (fun _ => (loops_of (l := []) (by kernel_rfl) (List.forall_mem_nil _))) t130_r0_eq (fun _ _ => rfl)
theorem t130_eq (x : denR (headRT (ps130.map some))) : codeK (tabOf tr) (semsOf sl130) D130 L130 code130 (start 21 ps130 x) (finK rs130 ps130) = x130 x := by kernel_rfl
theorem k130 : Known Try.prog 130 sem130 :=
  fn_auto tr_ok eq_ok mixed_ok so130 (D := D130) (code := code130) (n := 21) Try.func130 (by kernel_rfl) (by kernel_rfl) (by kernel_rfl) (fun w0 mu _ hs => (loops_of (l := [(0, b130_0)]) (by kernel_rfl) (List.forall_mem_cons.2 ⟨loop130_0 _ w0 mu hs, (List.forall_mem_nil _)⟩))) t130_eq

/-! ### f79: laws.heldRing -/
noncomputable def code79 : Code := match Try.f79.body with | some c => c | none => .skip
def ps79 : List AP := [.val true [.int .i64, .shr T_i], .val false [.int .i64]]
def rs79 : List RP := [{ src := .tmp 4, agg := false, ps := [.int .i64] }]
noncomputable def sl79 : SemL := [(130, (.shr, .shr, .shr, sem130))]
def D79 : Draws := fun _ => .nil
noncomputable def L79 {R : Type} : Loops R := fun _ _ _ _ => none
noncomputable def laws_heldRing (a0c0 : Int) (a0c1 : List (Int × Unit)) (k1 : Int) : Option (Int × Unit) :=
  Option.bind (laws_heldIntS a0c1 k1) fun y1 =>
  bif decide (y1.1 < (0 : Int)) then
    some ((-1 : Int), ())
  else
    some (y1.1, ())
noncomputable def x79 (x : Int × (List (Int × Unit)) × Int × Unit) : Option (Int × Unit) := laws_heldRing x.1 x.2.1 x.2.2.1
noncomputable def sem79 : Sem1 := semOf ps79 rs79 x79
theorem so79 : SemsOk Try.prog (semsOf sl79) := sems_cons k130 (sems_nil)
theorem t79_eq (x : denR (headRT (ps79.map some))) : codeK (tabOf tr) (semsOf sl79) D79 L79 code79 (start 12 ps79 x) (finK rs79 ps79) = x79 x := by kernel_rfl
theorem k79 : Known Try.prog 79 sem79 :=
  fn_auto tr_ok eq_ok mixed_ok so79 (D := D79) (code := code79) (n := 12) Try.func79 (by kernel_rfl) (by kernel_rfl) (by kernel_rfl) (fun w0 mu _ hs => (loops_of (l := []) (by kernel_rfl) (List.forall_mem_nil _))) t79_eq

end Go.TM
