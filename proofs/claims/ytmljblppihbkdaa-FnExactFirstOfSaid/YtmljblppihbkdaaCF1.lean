/- What the functions answer, as terms; their contracts. -/
import Derived.Test.YtmljblppihbkdaaCBase
set_option linter.unusedSimpArgs false
set_option linter.unusedVariables false
namespace Go.TM
open Go Go.RowKit Go.Proofs

/-! ### f62: laws.szIntS -/
noncomputable def code62 : Code := match Try.f62.body with | some c => c | none => .skip
def ps62 : List AP := [.val false [.shr T_i], .val false [.int .i64]]
def rs62 : List RP := [{ src := .tmp 4, agg := false, ps := [.int .i64] }]
noncomputable def sl62 : SemL := []
def D62 : Draws := fun _ => .nil
noncomputable def L62 {R : Type} : Loops R := fun _ _ _ _ => none
noncomputable def laws_szIntS (a0 : List (Int × Unit)) (left1 : Int) : Option (Int × Unit) :=
  bif decide (IntKind.i64.wrap (left1 - ((List.length a0 : Nat) : Int)) < (0 : Int)) then
    some ((-1 : Int), ())
  else
    some (IntKind.i64.wrap (left1 - ((List.length a0 : Nat) : Int)), ())
noncomputable def x62 (x : (List (Int × Unit)) × Int × Unit) : Option (Int × Unit) := laws_szIntS x.1 x.2.1
noncomputable def sem62 : Sem1 := semOf ps62 rs62 x62
theorem so62 : SemsOk Try.prog (semsOf sl62) := sems_nil
theorem t62_eq (x : denR (headRT (ps62.map some))) : codeK (tabOf tr) (semsOf sl62) D62 L62 code62 (start 12 ps62 x) (finK rs62 ps62) = x62 x := by kernel_rfl
theorem k62 : Known Try.prog 62 sem62 :=
  fn_auto tr_ok eq_ok mixed_ok so62 (D := D62) (code := code62) (n := 12) Try.func62 (by kernel_rfl) (by kernel_rfl) (by kernel_rfl) (fun w0 mu _ hs => (loops_of (l := []) (by kernel_rfl) (List.forall_mem_nil _))) t62_eq

/-! ### f10: laws.szRing -/
noncomputable def code10 : Code := match Try.f10.body with | some c => c | none => .skip
def ps10 : List AP := [.val true [.int .i64, .shr T_i], .val false [.int .i64]]
def rs10 : List RP := [{ src := .tmp 4, agg := false, ps := [.int .i64] }]
noncomputable def sl10 : SemL := [(62, (.shr, .shr, .shr, sem62))]
def D10 : Draws := fun _ => .nil
noncomputable def L10 {R : Type} : Loops R := fun _ _ _ _ => none
noncomputable def laws_szRing (a0c0 : Int) (a0c1 : List (Int × Unit)) (left1 : Int) : Option (Int × Unit) :=
  Option.bind (laws_szIntS a0c1 left1) fun y1 =>
  bif decide (y1.1 < (0 : Int)) then
    some ((-1 : Int), ())
  else
    some (y1.1, ())
noncomputable def x10 (x : Int × (List (Int × Unit)) × Int × Unit) : Option (Int × Unit) := laws_szRing x.1 x.2.1 x.2.2.1
noncomputable def sem10 : Sem1 := semOf ps10 rs10 x10
theorem so10 : SemsOk Try.prog (semsOf sl10) := sems_cons k62 (sems_nil)
theorem t10_eq (x : denR (headRT (ps10.map some))) : codeK (tabOf tr) (semsOf sl10) D10 L10 code10 (start 12 ps10 x) (finK rs10 ps10) = x10 x := by kernel_rfl
theorem k10 : Known Try.prog 10 sem10 :=
  fn_auto tr_ok eq_ok mixed_ok so10 (D := D10) (code := code10) (n := 12) Try.func10 (by kernel_rfl) (by kernel_rfl) (by kernel_rfl) (fun w0 mu _ hs => (loops_of (l := []) (by kernel_rfl) (List.forall_mem_nil _))) t10_eq

/-! ### f54: laws.szItem -/
noncomputable def code54 : Code := match Try.f54.body with | some c => c | none => .skip
def ps54 : List AP := [.val true [.int .i64, .int .i64, .int .i64, .str], .val false [.int .i64]]
def rs54 : List RP := [{ src := .tmp 4, agg := false, ps := [.int .i64] }]
noncomputable def sl54 : SemL := []
def D54 : Draws := fun _ => .nil
noncomputable def L54 {R : Type} : Loops R := fun _ _ _ _ => none
noncomputable def laws_szItem (a0c0 : Int) (a0c1 : Int) (a0c2 : Int) (a0c3 : ByteArray) (left1 : Int) : Option (Int × Unit) :=
  bif decide (IntKind.i64.wrap (left1 - ((ByteArray.size a0c3 : Nat) : Int)) < (0 : Int)) then
    some ((-1 : Int), ())
  else
    some (IntKind.i64.wrap (left1 - ((ByteArray.size a0c3 : Nat) : Int)), ())
noncomputable def x54 (x : Int × Int × Int × ByteArray × Int × Unit) : Option (Int × Unit) := laws_szItem x.1 x.2.1 x.2.2.1 x.2.2.2.1 x.2.2.2.2.1
noncomputable def sem54 : Sem1 := semOf ps54 rs54 x54
theorem so54 : SemsOk Try.prog (semsOf sl54) := sems_nil
theorem t54_eq (x : denR (headRT (ps54.map some))) : codeK (tabOf tr) (semsOf sl54) D54 L54 code54 (start 13 ps54 x) (finK rs54 ps54) = x54 x := by kernel_rfl
theorem k54 : Known Try.prog 54 sem54 :=
  fn_auto tr_ok eq_ok mixed_ok so54 (D := D54) (code := code54) (n := 13) Try.func54 (by kernel_rfl) (by kernel_rfl) (by kernel_rfl) (fun w0 mu _ hs => (loops_of (l := []) (by kernel_rfl) (List.forall_mem_nil _))) t54_eq

/-! ### f111: laws.szItemS -/
noncomputable def code111 : Code := match Try.f111.body with | some c => c | none => .skip
def ps111 : List AP := [.val false [.shr T_iiis], .val false [.int .i64]]
def rs111 : List RP := [{ src := .tmp 4, agg := false, ps := [.int .i64] }]
noncomputable def sl111 : SemL := [(54, (.shr, .shr, .shr, sem54))]
def D111 : Draws := fun _ => .nil
def hp111_0 : List (Option AP) := [some (.val false [.shr T_iiis]), some (.val false [.int .i64]), none, none, none, some (.val false [.int .i64]), none, none, none, none, none, none, none, none, none, none, none, none, none, none, none, none, none, none, none, none, none, none]
def e111_0 : List (Option AP) := [none, some (.val false [.int .i64]), none, none, none, none, none, none, none, none, none, none, none, none, none, none, none, none, none, none, none, none, none, none, none, none, none, none]
def q111_0 : List (Option AP) := [none, none, none, none, some (.val false [.int .i64]), none, none, none, none, none, none, none, none, none, none, none, none, none, none, none, none, none, none, none, none, none, none, none]
abbrev H111_0 : Type := (List R_iiis) × Int × Int × Unit
abbrev E111_0 : Type := Int × Unit
abbrev Q111_0 : Type := Int × Unit
noncomputable def laws_szItemS_c0 (a0 : List R_iiis) (left1 : Int) (i5 : Int) : Option (Sum H111_0 (Sum E111_0 Q111_0)) :=
  bif decide (i5 < ((List.length a0 : Nat) : Int)) then
    bif decide ((0 : Int) ≤ i5) then Option.bind ((a0)[Int.toNat i5]?) fun r1 =>
      Option.bind (laws_szItem r1.1 r1.2.1 r1.2.2.1 r1.2.2.2.1 left1) fun y2 =>
      bif decide (y2.1 < (0 : Int)) then
        some (.inr (.inr ((-1 : Int), ())))
      else
        some (.inl (a0, y2.1, IntKind.i64.wrap (i5 + (1 : Int)), ()))
    else none
  else
    some (.inr (.inl (left1, ())))
noncomputable def laws_szItemS_r0 (x : H111_0) : Option (Sum H111_0 (Sum E111_0 Q111_0)) := laws_szItemS_c0 x.1 x.2.1 x.2.2.1
noncomputable def L111 {R : Type} : Loops R := fun id _ st k => bif Nat.beq id 0 then loopAt hp111_0 e111_0 q111_0 laws_szItemS_r0 st k else none
noncomputable def laws_szItemS (a0 : List R_iiis) (left1 : Int) : Option (Int × Unit) :=
  bif decide (IntKind.i64.wrap (left1 - ((List.length a0 : Nat) : Int)) < (0 : Int)) then
    some ((-1 : Int), ())
  else
    outK (loopV laws_szItemS_r0 (a0, IntKind.i64.wrap (left1 - ((List.length a0 : Nat) : Int)), (0 : Int), ())) (fun y1 =>
      some (y1.1, ())) (fun y2 =>
      some (y2.1, ()))
noncomputable def x111 (x : (List R_iiis) × Int × Unit) : Option (Int × Unit) := laws_szItemS x.1 x.2.1
noncomputable def sem111 : Sem1 := semOf ps111 rs111 x111
theorem so111 : SemsOk Try.prog (semsOf sl111) := sems_cons k54 (sems_nil)
noncomputable def b111_0 : Code := nthLoop code111 0
theorem t111_r0_eq (x : denR (headRT hp111_0)) : codeK (tabOf tr) (semsOf sl111) D111 L111 b111_0 (headSt hp111_0 x) (roundK 0 hp111_0 e111_0 q111_0) = laws_szItemS_r0 x := by kernel_rfl
theorem loop111_0 {R : Type} (r : R) (w0 : World) (mu : Mu) (hs : AnShape ps111 mu) : LoopAt Try.prog w0 mu 27 (L111 : Loops R) r 0 b111_0 :=
  loop_auto tr_ok eq_ok mixed_ok so111 (D := D111) hs (by kernel_rfl) (fun _ => (loops_of (l := []) (by kernel_rfl) (List.forall_mem_nil _))) t111_r0_eq (fun _ _ => rfl)
theorem t111_eq (x : denR (headRT (ps111.map some))) : codeK (tabOf tr) (semsOf sl111) D111 L111 code111 (start 27 ps111 x) (finK rs111 ps111) = x111 x := by kernel_rfl
theorem k111 : Known Try.prog 111 sem111 :=
  fn_auto tr_ok eq_ok mixed_ok so111 (D := D111) (code := code111) (n := 27) Try.func111 (by kernel_rfl) (by kernel_rfl) (by kernel_rfl) (fun w0 mu _ hs => (loops_of (l := [(0, b111_0)]) (by kernel_rfl) (List.forall_mem_cons.2 ⟨loop111_0 _ w0 mu hs, (List.forall_mem_nil _)⟩))) t111_eq

/-! ### f131: laws.szStringS -/
noncomputable def code131 : Code := match Try.f131.body with | some c => c | none => .skip
def ps131 : List AP := [.val false [.shr T_s], .val false [.int .i64]]
def rs131 : List RP := [{ src := .tmp 4, agg := false, ps := [.int .i64] }]
noncomputable def sl131 : SemL := []
def D131 : Draws := fun _ => .nil
def hp131_0 : List (Option AP) := [some (.val false [.shr T_s]), some (.val false [.int .i64]), none, none, none, some (.val false [.int .i64]), none, none, none, none, none, none, none, none, none, none, none, none, none, none, none, none, none, none, none, none, none, none, none]
def e131_0 : List (Option AP) := [none, some (.val false [.int .i64]), none, none, none, none, none, none, none, none, none, none, none, none, none, none, none, none, none, none, none, none, none, none, none, none, none, none, none]
def q131_0 : List (Option AP) := [none, none, none, none, some (.val false [.int .i64]), none, none, none, none, none, none, none, none, none, none, none, none, none, none, none, none, none, none, none, none, none, none, none, none]
abbrev H131_0 : Type := (List (ByteArray × Unit)) × Int × Int × Unit
abbrev E131_0 : Type := Int × Unit
abbrev Q131_0 : Type := Int × Unit
noncomputable def laws_szStringS_c0 (a0 : List (ByteArray × Unit)) (left1 : Int) (i5 : Int) : Option (Sum H131_0 (Sum E131_0 Q131_0)) :=
  bif decide (i5 < ((List.length a0 : Nat) : Int)) then
    bif decide ((0 : Int) ≤ i5) then Option.bind ((a0)[Int.toNat i5]?) fun r1 =>
      bif decide (IntKind.i64.wrap (left1 - ((ByteArray.size r1.1 : Nat) : Int)) < (0 : Int)) then
        some (.inr (.inr ((-1 : Int), ())))
      else
        some (.inl (a0, IntKind.i64.wrap (left1 - ((ByteArray.size r1.1 : Nat) : Int)), IntKind.i64.wrap (i5 + (1 : Int)), ()))
    else none
  else
    some (.inr (.inl (left1, ())))
noncomputable def laws_szStringS_r0 (x : H131_0) : Option (Sum H131_0 (Sum E131_0 Q131_0)) := laws_szStringS_c0 x.1 x.2.1 x.2.2.1
noncomputable def L131 {R : Type} : Loops R := fun id _ st k => bif Nat.beq id 0 then loopAt hp131_0 e131_0 q131_0 laws_szStringS_r0 st k else none
noncomputable def laws_szStringS (a0 : List (ByteArray × Unit)) (left1 : Int) : Option (Int × Unit) :=
  bif decide (IntKind.i64.wrap (left1 - ((List.length a0 : Nat) : Int)) < (0 : Int)) then
    some ((-1 : Int), ())
  else
    outK (loopV laws_szStringS_r0 (a0, IntKind.i64.wrap (left1 - ((List.length a0 : Nat) : Int)), (0 : Int), ())) (fun y1 =>
      some (y1.1, ())) (fun y2 =>
      some (y2.1, ()))
noncomputable def x131 (x : (List (ByteArray × Unit)) × Int × Unit) : Option (Int × Unit) := laws_szStringS x.1 x.2.1
noncomputable def sem131 : Sem1 := semOf ps131 rs131 x131
theorem so131 : SemsOk Try.prog (semsOf sl131) := sems_nil
noncomputable def b131_0 : Code := nthLoop code131 0
theorem t131_r0_eq (x : denR (headRT hp131_0)) : codeK (tabOf tr) (semsOf sl131) D131 L131 b131_0 (headSt hp131_0 x) (roundK 0 hp131_0 e131_0 q131_0) = laws_szStringS_r0 x := by kernel_rfl
theorem loop131_0 {R : Type} (r : R) (w0 : World) (mu : Mu) (hs : AnShape ps131 mu) : LoopAt Try.prog w0 mu 28 (L131 : Loops R) r 0 b131_0 :=
  loop_auto tr_ok eq_ok mixed_ok so131 (D := D131) hs (by kernel_rfl) (fun _ => (loops_of (l := []) (by kernel_rfl) (List.forall_mem_nil _))) t131_r0_eq (fun _ _ => rfl)
theorem t131_eq (x : denR (headRT (ps131.map some))) : codeK (tabOf tr) (semsOf sl131) D131 L131 code131 (start 28 ps131 x) (finK rs131 ps131) = x131 x := by kernel_rfl
theorem k131 : Known Try.prog 131 sem131 :=
  fn_auto tr_ok eq_ok mixed_ok so131 (D := D131) (code := code131) (n := 28) Try.func131 (by kernel_rfl) (by kernel_rfl) (by kernel_rfl) (fun w0 mu _ hs => (loops_of (l := [(0, b131_0)]) (by kernel_rfl) (List.forall_mem_cons.2 ⟨loop131_0 _ w0 mu hs, (List.forall_mem_nil _)⟩))) t131_eq

/-! ### f132: laws.szToken -/
noncomputable def code132 : Code := match Try.f132.body with | some c => c | none => .skip
def ps132 : List AP := [.val true [.int .i64, .int .i64, .int .i64, .int .i64, .int .i64, .shr T_i], .val false [.int .i64]]
def rs132 : List RP := [{ src := .tmp 4, agg := false, ps := [.int .i64] }]
noncomputable def sl132 : SemL := [(62, (.shr, .shr, .shr, sem62))]
def D132 : Draws := fun _ => .nil
noncomputable def L132 {R : Type} : Loops R := fun _ _ _ _ => none
noncomputable def laws_szToken (a0c0 : Int) (a0c1 : Int) (a0c2 : Int) (a0c3 : Int) (a0c4 : Int) (a0c5 : List (Int × Unit)) (left1 : Int) : Option (Int × Unit) :=
  Option.bind (laws_szIntS a0c5 left1) fun y1 =>
  bif decide (y1.1 < (0 : Int)) then
    some ((-1 : Int), ())
  else
    some (y1.1, ())
noncomputable def x132 (x : Int × Int × Int × Int × Int × (List (Int × Unit)) × Int × Unit) : Option (Int × Unit) := laws_szToken x.1 x.2.1 x.2.2.1 x.2.2.2.1 x.2.2.2.2.1 x.2.2.2.2.2.1 x.2.2.2.2.2.2.1
noncomputable def sem132 : Sem1 := semOf ps132 rs132 x132
theorem so132 : SemsOk Try.prog (semsOf sl132) := sems_cons k62 (sems_nil)
theorem t132_eq (x : denR (headRT (ps132.map some))) : codeK (tabOf tr) (semsOf sl132) D132 L132 code132 (start 12 ps132 x) (finK rs132 ps132) = x132 x := by kernel_rfl
theorem k132 : Known Try.prog 132 sem132 :=
  fn_auto tr_ok eq_ok mixed_ok so132 (D := D132) (code := code132) (n := 12) Try.func132 (by kernel_rfl) (by kernel_rfl) (by kernel_rfl) (fun w0 mu _ hs => (loops_of (l := []) (by kernel_rfl) (List.forall_mem_nil _))) t132_eq

/-! ### f53: laws.szMate -/
noncomputable def code53 : Code := match Try.f53.body with | some c => c | none => .skip
def ps53 : List AP := [.val true [.int .i64, .int .i64, .shr T_i, .shr T_iiis, .shr T_i, .shr T_s, .int .i64, .int .i64, .int .i64, .int .i64, .int .i64, .int .i64, .int .i64, .int .i64, .int .i64, .shr T_i], .val false [.int .i64]]
def rs53 : List RP := [{ src := .tmp 4, agg := false, ps := [.int .i64] }]
noncomputable def sl53 : SemL := [(10, (.shr, .shr, .shr, sem10)), (111, (.shr, .shr, .shr, sem111)), (62, (.shr, .shr, .shr, sem62)), (131, (.shr, .shr, .shr, sem131)), (132, (.shr, .shr, .shr, sem132))]
def D53 : Draws := fun _ => .nil
noncomputable def L53 {R : Type} : Loops R := fun _ _ _ _ => none
noncomputable def laws_szMate (a0c0 : Int) (a0c1 : Int) (a0c2 : List (Int × Unit)) (a0c3 : List R_iiis) (a0c4 : List (Int × Unit)) (a0c5 : List (ByteArray × Unit)) (a0c6 : Int) (a0c7 : Int) (a0c8 : Int) (a0c9 : Int) (a0c10 : Int) (a0c11 : Int) (a0c12 : Int) (a0c13 : Int) (a0c14 : Int) (a0c15 : List (Int × Unit)) (left1 : Int) : Option (Int × Unit) :=
  Option.bind (laws_szRing a0c1 a0c2 left1) fun y1 =>
  bif decide (y1.1 < (0 : Int)) then
    some ((-1 : Int), ())
  else
    Option.bind (laws_szItemS a0c3 y1.1) fun y2 =>
    bif decide (y2.1 < (0 : Int)) then
      some ((-1 : Int), ())
    else
      Option.bind (laws_szIntS a0c4 y2.1) fun y3 =>
      bif decide (y3.1 < (0 : Int)) then
        some ((-1 : Int), ())
      else
        Option.bind (laws_szStringS a0c5 y3.1) fun y4 =>
        bif decide (y4.1 < (0 : Int)) then
          some ((-1 : Int), ())
        else
          Option.bind (laws_szToken a0c10 a0c11 a0c12 a0c13 a0c14 a0c15 y4.1) fun y5 =>
          bif decide (y5.1 < (0 : Int)) then
            some ((-1 : Int), ())
          else
            some (y5.1, ())
noncomputable def x53 (x : Int × Int × (List (Int × Unit)) × (List R_iiis) × (List (Int × Unit)) × (List (ByteArray × Unit)) × Int × Int × Int × Int × Int × Int × Int × Int × Int × (List (Int × Unit)) × Int × Unit) : Option (Int × Unit) := laws_szMate x.1 x.2.1 x.2.2.1 x.2.2.2.1 x.2.2.2.2.1 x.2.2.2.2.2.1 x.2.2.2.2.2.2.1 x.2.2.2.2.2.2.2.1 x.2.2.2.2.2.2.2.2.1 x.2.2.2.2.2.2.2.2.2.1 x.2.2.2.2.2.2.2.2.2.2.1 x.2.2.2.2.2.2.2.2.2.2.2.1 x.2.2.2.2.2.2.2.2.2.2.2.2.1 x.2.2.2.2.2.2.2.2.2.2.2.2.2.1 x.2.2.2.2.2.2.2.2.2.2.2.2.2.2.1 x.2.2.2.2.2.2.2.2.2.2.2.2.2.2.2.1 x.2.2.2.2.2.2.2.2.2.2.2.2.2.2.2.2.1
noncomputable def sem53 : Sem1 := semOf ps53 rs53 x53
theorem so53 : SemsOk Try.prog (semsOf sl53) := sems_cons k10 (sems_cons k111 (sems_cons k62 (sems_cons k131 (sems_cons k132 (sems_nil)))))
theorem t53_eq (x : denR (headRT (ps53.map some))) : codeK (tabOf tr) (semsOf sl53) D53 L53 code53 (start 36 ps53 x) (finK rs53 ps53) = x53 x := by kernel_rfl
theorem k53 : Known Try.prog 53 sem53 :=
  fn_auto tr_ok eq_ok mixed_ok so53 (D := D53) (code := code53) (n := 36) Try.func53 (by kernel_rfl) (by kernel_rfl) (by kernel_rfl) (fun w0 mu _ hs => (loops_of (l := []) (by kernel_rfl) (List.forall_mem_nil _))) t53_eq

/-! ### f39: laws.szBundle -/
noncomputable def code39 : Code := match Try.f39.body with | some c => c | none => .skip
def ps39 : List AP := [.val true [.int .i64, .int .i64, .int .i64, .shr T_iiis], .val false [.int .i64]]
def rs39 : List RP := [{ src := .tmp 4, agg := false, ps := [.int .i64] }]
noncomputable def sl39 : SemL := [(111, (.shr, .shr, .shr, sem111))]
def D39 : Draws := fun _ => .nil
noncomputable def L39 {R : Type} : Loops R := fun _ _ _ _ => none
noncomputable def laws_szBundle (a0c0 : Int) (a0c1 : Int) (a0c2 : Int) (a0c3 : List R_iiis) (left1 : Int) : Option (Int × Unit) :=
  Option.bind (laws_szItemS a0c3 left1) fun y1 =>
  bif decide (y1.1 < (0 : Int)) then
    some ((-1 : Int), ())
  else
    some (y1.1, ())
noncomputable def x39 (x : Int × Int × Int × (List R_iiis) × Int × Unit) : Option (Int × Unit) := laws_szBundle x.1 x.2.1 x.2.2.1 x.2.2.2.1 x.2.2.2.2.1
noncomputable def sem39 : Sem1 := semOf ps39 rs39 x39
theorem so39 : SemsOk Try.prog (semsOf sl39) := sems_cons k111 (sems_nil)
theorem t39_eq (x : denR (headRT (ps39.map some))) : codeK (tabOf tr) (semsOf sl39) D39 L39 code39 (start 12 ps39 x) (finK rs39 ps39) = x39 x := by kernel_rfl
theorem k39 : Known Try.prog 39 sem39 :=
  fn_auto tr_ok eq_ok mixed_ok so39 (D := D39) (code := code39) (n := 12) Try.func39 (by kernel_rfl) (by kernel_rfl) (by kernel_rfl) (fun w0 mu _ hs => (loops_of (l := []) (by kernel_rfl) (List.forall_mem_nil _))) t39_eq

/-! ### f28: laws.szBundleS -/
noncomputable def code28 : Code := match Try.f28.body with | some c => c | none => .skip
def ps28 : List AP := [.val false [.shr T_iiiLiiisE], .val false [.int .i64]]
def rs28 : List RP := [{ src := .tmp 4, agg := false, ps := [.int .i64] }]
noncomputable def sl28 : SemL := [(39, (.shr, .shr, .shr, sem39))]
def D28 : Draws := fun _ => .nil
def hp28_0 : List (Option AP) := [some (.val false [.shr T_iiiLiiisE]), some (.val false [.int .i64]), none, none, none, some (.val false [.int .i64]), none, none, none, none, none, none, none, none, none, none, none, none, none, none, none, none, none, none, none, none, none, none]
def e28_0 : List (Option AP) := [none, some (.val false [.int .i64]), none, none, none, none, none, none, none, none, none, none, none, none, none, none, none, none, none, none, none, none, none, none, none, none, none, none]
def q28_0 : List (Option AP) := [none, none, none, none, some (.val false [.int .i64]), none, none, none, none, none, none, none, none, none, none, none, none, none, none, none, none, none, none, none, none, none, none, none]
abbrev H28_0 : Type := (List R_iiiLiiisE) × Int × Int × Unit
abbrev E28_0 : Type := Int × Unit
abbrev Q28_0 : Type := Int × Unit
noncomputable def laws_szBundleS_c0 (a0 : List R_iiiLiiisE) (left1 : Int) (i5 : Int) : Option (Sum H28_0 (Sum E28_0 Q28_0)) :=
  bif decide (i5 < ((List.length a0 : Nat) : Int)) then
    bif decide ((0 : Int) ≤ i5) then Option.bind ((a0)[Int.toNat i5]?) fun r1 =>
      Option.bind (laws_szBundle r1.1 r1.2.1 r1.2.2.1 r1.2.2.2.1 left1) fun y2 =>
      bif decide (y2.1 < (0 : Int)) then
        some (.inr (.inr ((-1 : Int), ())))
      else
        some (.inl (a0, y2.1, IntKind.i64.wrap (i5 + (1 : Int)), ()))
    else none
  else
    some (.inr (.inl (left1, ())))
noncomputable def laws_szBundleS_r0 (x : H28_0) : Option (Sum H28_0 (Sum E28_0 Q28_0)) := laws_szBundleS_c0 x.1 x.2.1 x.2.2.1
noncomputable def L28 {R : Type} : Loops R := fun id _ st k => bif Nat.beq id 0 then loopAt hp28_0 e28_0 q28_0 laws_szBundleS_r0 st k else none
noncomputable def laws_szBundleS (a0 : List R_iiiLiiisE) (left1 : Int) : Option (Int × Unit) :=
  bif decide (IntKind.i64.wrap (left1 - ((List.length a0 : Nat) : Int)) < (0 : Int)) then
    some ((-1 : Int), ())
  else
    outK (loopV laws_szBundleS_r0 (a0, IntKind.i64.wrap (left1 - ((List.length a0 : Nat) : Int)), (0 : Int), ())) (fun y1 =>
      some (y1.1, ())) (fun y2 =>
      some (y2.1, ()))
noncomputable def x28 (x : (List R_iiiLiiisE) × Int × Unit) : Option (Int × Unit) := laws_szBundleS x.1 x.2.1
noncomputable def sem28 : Sem1 := semOf ps28 rs28 x28
theorem so28 : SemsOk Try.prog (semsOf sl28) := sems_cons k39 (sems_nil)
noncomputable def b28_0 : Code := nthLoop code28 0
theorem t28_r0_eq (x : denR (headRT hp28_0)) : codeK (tabOf tr) (semsOf sl28) D28 L28 b28_0 (headSt hp28_0 x) (roundK 0 hp28_0 e28_0 q28_0) = laws_szBundleS_r0 x := by kernel_rfl
theorem loop28_0 {R : Type} (r : R) (w0 : World) (mu : Mu) (hs : AnShape ps28 mu) : LoopAt Try.prog w0 mu 27 (L28 : Loops R) r 0 b28_0 :=
  loop_auto tr_ok eq_ok mixed_ok so28 (D := D28) hs (by kernel_rfl) (fun _ => (loops_of (l := []) (by kernel_rfl) (List.forall_mem_nil _))) t28_r0_eq (fun _ _ => rfl)
theorem t28_eq (x : denR (headRT (ps28.map some))) : codeK (tabOf tr) (semsOf sl28) D28 L28 code28 (start 27 ps28 x) (finK rs28 ps28) = x28 x := by kernel_rfl
theorem k28 : Known Try.prog 28 sem28 :=
  fn_auto tr_ok eq_ok mixed_ok so28 (D := D28) (code := code28) (n := 27) Try.func28 (by kernel_rfl) (by kernel_rfl) (by kernel_rfl) (fun w0 mu _ hs => (loops_of (l := [(0, b28_0)]) (by kernel_rfl) (List.forall_mem_cons.2 ⟨loop28_0 _ w0 mu hs, (List.forall_mem_nil _)⟩))) t28_eq

/-! ### f166: laws.szEvent -/
noncomputable def code166 : Code := match Try.f166.body with | some c => c | none => .skip
def ps166 : List AP := [.val true [.int .i64, .int .i64, .shr T_i, .int .i64, .int .i64, .int .i64, .str, .shr T_i], .val false [.int .i64]]
def rs166 : List RP := [{ src := .tmp 4, agg := false, ps := [.int .i64] }]
noncomputable def sl166 : SemL := [(10, (.shr, .shr, .shr, sem10)), (54, (.shr, .shr, .shr, sem54)), (62, (.shr, .shr, .shr, sem62))]
def D166 : Draws := fun _ => .nil
noncomputable def L166 {R : Type} : Loops R := fun _ _ _ _ => none
noncomputable def laws_szEvent (a0c0 : Int) (a0c1 : Int) (a0c2 : List (Int × Unit)) (a0c3 : Int) (a0c4 : Int) (a0c5 : Int) (a0c6 : ByteArray) (a0c7 : List (Int × Unit)) (left1 : Int) : Option (Int × Unit) :=
  Option.bind (laws_szRing a0c1 a0c2 left1) fun y1 =>
  bif decide (y1.1 < (0 : Int)) then
    some ((-1 : Int), ())
  else
    Option.bind (laws_szItem a0c3 a0c4 a0c5 a0c6 y1.1) fun y2 =>
    bif decide (y2.1 < (0 : Int)) then
      some ((-1 : Int), ())
    else
      Option.bind (laws_szIntS a0c7 y2.1) fun y3 =>
      bif decide (y3.1 < (0 : Int)) then
        some ((-1 : Int), ())
      else
        some (y3.1, ())
noncomputable def x166 (x : Int × Int × (List (Int × Unit)) × Int × Int × Int × ByteArray × (List (Int × Unit)) × Int × Unit) : Option (Int × Unit) := laws_szEvent x.1 x.2.1 x.2.2.1 x.2.2.2.1 x.2.2.2.2.1 x.2.2.2.2.2.1 x.2.2.2.2.2.2.1 x.2.2.2.2.2.2.2.1 x.2.2.2.2.2.2.2.2.1
noncomputable def sem166 : Sem1 := semOf ps166 rs166 x166
theorem so166 : SemsOk Try.prog (semsOf sl166) := sems_cons k10 (sems_cons k54 (sems_cons k62 (sems_nil)))
theorem t166_eq (x : denR (headRT (ps166.map some))) : codeK (tabOf tr) (semsOf sl166) D166 L166 code166 (start 24 ps166 x) (finK rs166 ps166) = x166 x := by kernel_rfl
theorem k166 : Known Try.prog 166 sem166 :=
  fn_auto tr_ok eq_ok mixed_ok so166 (D := D166) (code := code166) (n := 24) Try.func166 (by kernel_rfl) (by kernel_rfl) (by kernel_rfl) (fun w0 mu _ hs => (loops_of (l := []) (by kernel_rfl) (List.forall_mem_nil _))) t166_eq

/-! ### f126: laws.szEventS -/
noncomputable def code126 : Code := match Try.f126.body with | some c => c | none => .skip
def ps126 : List AP := [.val false [.shr T_iiLiEiiisLiE], .val false [.int .i64]]
def rs126 : List RP := [{ src := .tmp 4, agg := false, ps := [.int .i64] }]
noncomputable def sl126 : SemL := [(166, (.shr, .shr, .shr, sem166))]
def D126 : Draws := fun _ => .nil
def hp126_0 : List (Option AP) := [some (.val false [.shr T_iiLiEiiisLiE]), some (.val false [.int .i64]), none, none, none, some (.val false [.int .i64]), none, none, none, none, none, none, none, none, none, none, none, none, none, none, none, none, none, none, none, none, none, none]
def e126_0 : List (Option AP) := [none, some (.val false [.int .i64]), none, none, none, none, none, none, none, none, none, none, none, none, none, none, none, none, none, none, none, none, none, none, none, none, none, none]
def q126_0 : List (Option AP) := [none, none, none, none, some (.val false [.int .i64]), none, none, none, none, none, none, none, none, none, none, none, none, none, none, none, none, none, none, none, none, none, none, none]
abbrev H126_0 : Type := (List R_iiLiEiiisLiE) × Int × Int × Unit
abbrev E126_0 : Type := Int × Unit
abbrev Q126_0 : Type := Int × Unit
noncomputable def laws_szEventS_c0 (a0 : List R_iiLiEiiisLiE) (left1 : Int) (i5 : Int) : Option (Sum H126_0 (Sum E126_0 Q126_0)) :=
  bif decide (i5 < ((List.length a0 : Nat) : Int)) then
    bif decide ((0 : Int) ≤ i5) then Option.bind ((a0)[Int.toNat i5]?) fun r1 =>
      Option.bind (laws_szEvent r1.1 r1.2.1 r1.2.2.1 r1.2.2.2.1 r1.2.2.2.2.1 r1.2.2.2.2.2.1 r1.2.2.2.2.2.2.1 r1.2.2.2.2.2.2.2.1 left1) fun y2 =>
      bif decide (y2.1 < (0 : Int)) then
        some (.inr (.inr ((-1 : Int), ())))
      else
        some (.inl (a0, y2.1, IntKind.i64.wrap (i5 + (1 : Int)), ()))
    else none
  else
    some (.inr (.inl (left1, ())))
noncomputable def laws_szEventS_r0 (x : H126_0) : Option (Sum H126_0 (Sum E126_0 Q126_0)) := laws_szEventS_c0 x.1 x.2.1 x.2.2.1
noncomputable def L126 {R : Type} : Loops R := fun id _ st k => bif Nat.beq id 0 then loopAt hp126_0 e126_0 q126_0 laws_szEventS_r0 st k else none
noncomputable def laws_szEventS (a0 : List R_iiLiEiiisLiE) (left1 : Int) : Option (Int × Unit) :=
  bif decide (IntKind.i64.wrap (left1 - ((List.length a0 : Nat) : Int)) < (0 : Int)) then
    some ((-1 : Int), ())
  else
    outK (loopV laws_szEventS_r0 (a0, IntKind.i64.wrap (left1 - ((List.length a0 : Nat) : Int)), (0 : Int), ())) (fun y1 =>
      some (y1.1, ())) (fun y2 =>
      some (y2.1, ()))
noncomputable def x126 (x : (List R_iiLiEiiisLiE) × Int × Unit) : Option (Int × Unit) := laws_szEventS x.1 x.2.1
noncomputable def sem126 : Sem1 := semOf ps126 rs126 x126
theorem so126 : SemsOk Try.prog (semsOf sl126) := sems_cons k166 (sems_nil)
noncomputable def b126_0 : Code := nthLoop code126 0
theorem t126_r0_eq (x : denR (headRT hp126_0)) : codeK (tabOf tr) (semsOf sl126) D126 L126 b126_0 (headSt hp126_0 x) (roundK 0 hp126_0 e126_0 q126_0) = laws_szEventS_r0 x := by kernel_rfl
theorem loop126_0 {R : Type} (r : R) (w0 : World) (mu : Mu) (hs : AnShape ps126 mu) : LoopAt Try.prog w0 mu 27 (L126 : Loops R) r 0 b126_0 :=
  loop_auto tr_ok eq_ok mixed_ok so126 (D := D126) hs (by kernel_rfl) (fun _ => (loops_of (l := []) (by kernel_rfl) (List.forall_mem_nil _))) t126_r0_eq (fun _ _ => rfl)
theorem t126_eq (x : denR (headRT (ps126.map some))) : codeK (tabOf tr) (semsOf sl126) D126 L126 code126 (start 27 ps126 x) (finK rs126 ps126) = x126 x := by kernel_rfl
theorem k126 : Known Try.prog 126 sem126 :=
  fn_auto tr_ok eq_ok mixed_ok so126 (D := D126) (code := code126) (n := 27) Try.func126 (by kernel_rfl) (by kernel_rfl) (by kernel_rfl) (fun w0 mu _ hs => (loops_of (l := [(0, b126_0)]) (by kernel_rfl) (List.forall_mem_cons.2 ⟨loop126_0 _ w0 mu hs, (List.forall_mem_nil _)⟩))) t126_eq

/-! ### f44: laws.szDaemon -/
noncomputable def code44 : Code := match Try.f44.body with | some c => c | none => .skip
def ps44 : List AP := [.val true [.int .i64, .bool, .int .i64, .int .i64, .shr T_i, .shr T_iiis, .shr T_i, .shr T_s, .int .i64, .int .i64, .int .i64, .int .i64, .int .i64, .int .i64, .int .i64, .int .i64, .int .i64, .shr T_i, .int .i64, .int .i64, .int .i64, .shr T_i, .shr T_iiiLiiisE, .shr T_iiLiEiiisLiE], .val false [.int .i64]]
def rs44 : List RP := [{ src := .tmp 4, agg := false, ps := [.int .i64] }]
noncomputable def sl44 : SemL := [(53, (.shr, .shr, .shr, sem53)), (10, (.shr, .shr, .shr, sem10)), (28, (.shr, .shr, .shr, sem28)), (126, (.shr, .shr, .shr, sem126))]
def D44 : Draws := fun _ => .nil
noncomputable def L44 {R : Type} : Loops R := fun _ _ _ _ => none
noncomputable def laws_szDaemon (a0c0 : Int) (a0c1 : Bool) (a0c2 : Int) (a0c3 : Int) (a0c4 : List (Int × Unit)) (a0c5 : List R_iiis) (a0c6 : List (Int × Unit)) (a0c7 : List (ByteArray × Unit)) (a0c8 : Int) (a0c9 : Int) (a0c10 : Int) (a0c11 : Int) (a0c12 : Int) (a0c13 : Int) (a0c14 : Int) (a0c15 : Int) (a0c16 : Int) (a0c17 : List (Int × Unit)) (a0c18 : Int) (a0c19 : Int) (a0c20 : Int) (a0c21 : List (Int × Unit)) (a0c22 : List R_iiiLiiisE) (a0c23 : List R_iiLiEiiisLiE) (left1 : Int) : Option (Int × Unit) :=
  Option.bind (laws_szMate a0c2 a0c3 a0c4 a0c5 a0c6 a0c7 a0c8 a0c9 a0c10 a0c11 a0c12 a0c13 a0c14 a0c15 a0c16 a0c17 left1) fun y1 =>
  bif decide (y1.1 < (0 : Int)) then
    some ((-1 : Int), ())
  else
    Option.bind (laws_szRing a0c20 a0c21 y1.1) fun y2 =>
    bif decide (y2.1 < (0 : Int)) then
      some ((-1 : Int), ())
    else
      Option.bind (laws_szBundleS a0c22 y2.1) fun y3 =>
      bif decide (y3.1 < (0 : Int)) then
        some ((-1 : Int), ())
      else
        Option.bind (laws_szEventS a0c23 y3.1) fun y4 =>
        bif decide (y4.1 < (0 : Int)) then
          some ((-1 : Int), ())
        else
          some (y4.1, ())
noncomputable def x44 (x : Int × Bool × Int × Int × (List (Int × Unit)) × (List R_iiis) × (List (Int × Unit)) × (List (ByteArray × Unit)) × Int × Int × Int × Int × Int × Int × Int × Int × Int × (List (Int × Unit)) × Int × Int × Int × (List (Int × Unit)) × (List R_iiiLiiisE) × (List R_iiLiEiiisLiE) × Int × Unit) : Option (Int × Unit) := laws_szDaemon x.1 x.2.1 x.2.2.1 x.2.2.2.1 x.2.2.2.2.1 x.2.2.2.2.2.1 x.2.2.2.2.2.2.1 x.2.2.2.2.2.2.2.1 x.2.2.2.2.2.2.2.2.1 x.2.2.2.2.2.2.2.2.2.1 x.2.2.2.2.2.2.2.2.2.2.1 x.2.2.2.2.2.2.2.2.2.2.2.1 x.2.2.2.2.2.2.2.2.2.2.2.2.1 x.2.2.2.2.2.2.2.2.2.2.2.2.2.1 x.2.2.2.2.2.2.2.2.2.2.2.2.2.2.1 x.2.2.2.2.2.2.2.2.2.2.2.2.2.2.2.1 x.2.2.2.2.2.2.2.2.2.2.2.2.2.2.2.2.1 x.2.2.2.2.2.2.2.2.2.2.2.2.2.2.2.2.2.1 x.2.2.2.2.2.2.2.2.2.2.2.2.2.2.2.2.2.2.1 x.2.2.2.2.2.2.2.2.2.2.2.2.2.2.2.2.2.2.2.1 x.2.2.2.2.2.2.2.2.2.2.2.2.2.2.2.2.2.2.2.2.1 x.2.2.2.2.2.2.2.2.2.2.2.2.2.2.2.2.2.2.2.2.2.1 x.2.2.2.2.2.2.2.2.2.2.2.2.2.2.2.2.2.2.2.2.2.2.1 x.2.2.2.2.2.2.2.2.2.2.2.2.2.2.2.2.2.2.2.2.2.2.2.1 x.2.2.2.2.2.2.2.2.2.2.2.2.2.2.2.2.2.2.2.2.2.2.2.2.1
noncomputable def sem44 : Sem1 := semOf ps44 rs44 x44
theorem so44 : SemsOk Try.prog (semsOf sl44) := sems_cons k53 (sems_cons k10 (sems_cons k28 (sems_cons k126 (sems_nil))))
theorem t44_eq (x : denR (headRT (ps44.map some))) : codeK (tabOf tr) (semsOf sl44) D44 L44 code44 (start 30 ps44 x) (finK rs44 ps44) = x44 x := by kernel_rfl
theorem k44 : Known Try.prog 44 sem44 :=
  fn_auto tr_ok eq_ok mixed_ok so44 (D := D44) (code := code44) (n := 30) Try.func44 (by kernel_rfl) (by kernel_rfl) (by kernel_rfl) (fun w0 mu _ hs => (loops_of (l := []) (by kernel_rfl) (List.forall_mem_nil _))) t44_eq

/-! ### f66: laws.toIntS -/
noncomputable def code66 : Code := match Try.f66.body with | some c => c | none => .skip
def ps66 : List AP := [.val false [.shr T_i]]
def rs66 : List RP := [{ src := .tmp 2, agg := false, ps := [.own T_i] }]
noncomputable def sl66 : SemL := []
def D66 : Draws := fun _ => .nil
def hp66_0 : List (Option AP) := [some (.val false [.shr T_i]), none, none, some (.val false [.own T_i]), some (.val false [.int .i64]), none, none, none, none, none, none, none, none, none, none, none, none, none, none, none, none, none, none]
def e66_0 : List (Option AP) := [none, none, none, some (.val false [.own T_i]), none, none, none, none, none, none, none, none, none, none, none, none, none, none, none, none, none, none, none]
def q66_0 : List (Option AP) := [none, none, none, none, none, none, none, none, none, none, none, none, none, none, none, none, none, none, none, none, none, none, none]
abbrev H66_0 : Type := (List (Int × Unit)) × (List (Int × Unit)) × Int × Unit
abbrev E66_0 : Type := (List (Int × Unit)) × Unit
abbrev Q66_0 : Type := Unit
noncomputable def laws_toIntS_c0 (a0 : List (Int × Unit)) (out3 : List (Int × Unit)) (i4 : Int) : Option (Sum H66_0 (Sum E66_0 Q66_0)) :=
  bif decide (i4 < ((List.length a0 : Nat) : Int)) then
    bif decide ((0 : Int) ≤ i4) then Option.bind ((a0)[Int.toNat i4]?) fun r1 =>
      bif decide ((0 : Int) ≤ i4) then bif Nat.blt (Int.toNat i4) (List.length out3) then Option.bind ((out3)[Int.toNat i4]?) fun r2 =>
          some (.inl (a0, List.set out3 (Int.toNat i4) (r1.1, ()), IntKind.i64.wrap (i4 + (1 : Int)), ()))
        else none
      else none
    else none
  else
    some (.inr (.inl (out3, ())))
noncomputable def laws_toIntS_r0 (x : H66_0) : Option (Sum H66_0 (Sum E66_0 Q66_0)) := laws_toIntS_c0 x.1 x.2.1 x.2.2.1
noncomputable def L66 {R : Type} : Loops R := fun id _ st k => bif Nat.beq id 0 then loopAt hp66_0 e66_0 q66_0 laws_toIntS_r0 st k else none
noncomputable def laws_toIntS (a0 : List (Int × Unit)) : Option ((List (Int × Unit)) × Unit) :=
  bif decide (((List.length a0 : Nat) : Int) = ((List.length a0 : Nat) : Int)) then bif decide ((0 : Int) ≤ ((List.length a0 : Nat) : Int)) then bif Nat.ble ((Int.toNat ((List.length a0 : Nat) : Int)) * 8) lim then outK (loopV laws_toIntS_r0 (a0, List.replicate (Int.toNat ((List.length a0 : Nat) : Int)) ((0 : Int), ()), (0 : Int), ())) (fun y1 =>
          some (y1.1, ())) (fun y2 =>
          none)
      else none
    else none
  else none
noncomputable def x66 (x : (List (Int × Unit)) × Unit) : Option ((List (Int × Unit)) × Unit) := laws_toIntS x.1
noncomputable def sem66 : Sem1 := semOf ps66 rs66 x66
theorem so66 : SemsOk Try.prog (semsOf sl66) := sems_nil
noncomputable def b66_0 : Code := nthLoop code66 0
theorem t66_r0_eq (x : denR (headRT hp66_0)) : codeK (tabOf tr) (semsOf sl66) D66 L66 b66_0 (headSt hp66_0 x) (roundK 0 hp66_0 e66_0 q66_0) = laws_toIntS_r0 x := by kernel_rfl
theorem loop66_0 {R : Type} (r : R) (w0 : World) (mu : Mu) (hs : AnShape ps66 mu) : LoopAt Try.prog w0 mu 22 (L66 : Loops R) r 0 b66_0 :=
  loop_auto tr_ok eq_ok mixed_ok so66 (D := D66) hs (by kernel_rfl) (fun _ => (loops_of (l := []) (by kernel_rfl) (List.forall_mem_nil _))) t66_r0_eq (fun _ _ => rfl)
theorem t66_eq (x : denR (headRT (ps66.map some))) : codeK (tabOf tr) (semsOf sl66) D66 L66 code66 (start 22 ps66 x) (finK rs66 ps66) = x66 x := by kernel_rfl
theorem k66 : Known Try.prog 66 sem66 :=
  fn_auto tr_ok eq_ok mixed_ok so66 (D := D66) (code := code66) (n := 22) Try.func66 (by kernel_rfl) (by kernel_rfl) (by kernel_rfl) (fun w0 mu _ hs => (loops_of (l := [(0, b66_0)]) (by kernel_rfl) (List.forall_mem_cons.2 ⟨loop66_0 _ w0 mu hs, (List.forall_mem_nil _)⟩))) t66_eq

/-! ### f12: laws.toRing -/
noncomputable def code12 : Code := match Try.f12.body with | some c => c | none => .skip
def ps12 : List AP := [.val true [.int .i64, .shr T_i]]
def rs12 : List RP := [{ src := .cell 2, agg := true, ps := [.int .i64, .own T_i] }]
noncomputable def sl12 : SemL := [(66, (.shr, .shr, .shr, sem66))]
def D12 : Draws := fun _ => .nil
noncomputable def L12 {R : Type} : Loops R := fun _ _ _ _ => none
noncomputable def laws_toRing (a0c0 : Int) (a0c1 : List (Int × Unit)) : Option (Int × (List (Int × Unit)) × Unit) :=
  Option.bind (laws_toIntS a0c1) fun y1 =>
  some (a0c0, y1.1, ())
noncomputable def x12 (x : Int × (List (Int × Unit)) × Unit) : Option (Int × (List (Int × Unit)) × Unit) := laws_toRing x.1 x.2.1
noncomputable def sem12 : Sem1 := semOf ps12 rs12 x12
theorem so12 : SemsOk Try.prog (semsOf sl12) := sems_cons k66 (sems_nil)
theorem t12_eq (x : denR (headRT (ps12.map some))) : codeK (tabOf tr) (semsOf sl12) D12 L12 code12 (start 12 ps12 x) (finK rs12 ps12) = x12 x := by kernel_rfl
theorem k12 : Known Try.prog 12 sem12 :=
  fn_auto tr_ok eq_ok mixed_ok so12 (D := D12) (code := code12) (n := 12) Try.func12 (by kernel_rfl) (by kernel_rfl) (by kernel_rfl) (fun w0 mu _ hs => (loops_of (l := []) (by kernel_rfl) (List.forall_mem_nil _))) t12_eq

/-! ### f57: laws.toItem -/
noncomputable def code57 : Code := match Try.f57.body with | some c => c | none => .skip
def ps57 : List AP := [.val true [.int .i64, .int .i64, .int .i64, .str]]
def rs57 : List RP := [{ src := .cell 2, agg := true, ps := [.int .i64, .int .i64, .int .i64, .str] }]
noncomputable def sl57 : SemL := []
def D57 : Draws := fun _ => .nil
noncomputable def L57 {R : Type} : Loops R := fun _ _ _ _ => none
noncomputable def laws_toItem (a0c0 : Int) (a0c1 : Int) (a0c2 : Int) (a0c3 : ByteArray) : Option (Int × Int × Int × ByteArray × Unit) :=
  some (a0c0, a0c1, a0c2, a0c3, ())
noncomputable def x57 (x : Int × Int × Int × ByteArray × Unit) : Option (Int × Int × Int × ByteArray × Unit) := laws_toItem x.1 x.2.1 x.2.2.1 x.2.2.2.1
noncomputable def sem57 : Sem1 := semOf ps57 rs57 x57
theorem so57 : SemsOk Try.prog (semsOf sl57) := sems_nil
theorem t57_eq (x : denR (headRT (ps57.map some))) : codeK (tabOf tr) (semsOf sl57) D57 L57 code57 (start 17 ps57 x) (finK rs57 ps57) = x57 x := by kernel_rfl
theorem k57 : Known Try.prog 57 sem57 :=
  fn_auto tr_ok eq_ok mixed_ok so57 (D := D57) (code := code57) (n := 17) Try.func57 (by kernel_rfl) (by kernel_rfl) (by kernel_rfl) (fun w0 mu _ hs => (loops_of (l := []) (by kernel_rfl) (List.forall_mem_nil _))) t57_eq

/-! ### f118: laws.toItemS -/
noncomputable def code118 : Code := match Try.f118.body with | some c => c | none => .skip
def ps118 : List AP := [.val false [.shr T_iiis]]
def rs118 : List RP := [{ src := .tmp 2, agg := false, ps := [.own T_iiis] }]
noncomputable def sl118 : SemL := [(57, (.shr, .shr, .shr, sem57))]
def D118 : Draws := fun _ => .nil
def hp118_0 : List (Option AP) := [some (.val false [.shr T_iiis]), none, none, some (.val false [.own T_iiis]), some (.val false [.int .i64]), none, none, none, none, none, none, none, none, none, none, none, none, none, none, none, none, none, none, none]
def e118_0 : List (Option AP) := [none, none, none, some (.val false [.own T_iiis]), none, none, none, none, none, none, none, none, none, none, none, none, none, none, none, none, none, none, none, none]
def q118_0 : List (Option AP) := [none, none, none, none, none, none, none, none, none, none, none, none, none, none, none, none, none, none, none, none, none, none, none, none]
abbrev H118_0 : Type := (List R_iiis) × (List R_iiis) × Int × Unit
abbrev E118_0 : Type := (List R_iiis) × Unit
abbrev Q118_0 : Type := Unit
noncomputable def laws_toItemS_c0 (a0 : List R_iiis) (out3 : List R_iiis) (i4 : Int) : Option (Sum H118_0 (Sum E118_0 Q118_0)) :=
  bif decide (i4 < ((List.length a0 : Nat) : Int)) then
    bif decide ((0 : Int) ≤ i4) then Option.bind ((a0)[Int.toNat i4]?) fun r1 =>
      Option.bind (laws_toItem r1.1 r1.2.1 r1.2.2.1 r1.2.2.2.1) fun y2 =>
      bif decide ((0 : Int) ≤ i4) then bif Nat.blt (Int.toNat i4) (List.length out3) then Option.bind ((out3)[Int.toNat i4]?) fun r3 =>
          some (.inl (a0, List.set out3 (Int.toNat i4) (y2.1, y2.2.1, y2.2.2.1, y2.2.2.2.1, ()), IntKind.i64.wrap (i4 + (1 : Int)), ()))
        else none
      else none
    else none
  else
    some (.inr (.inl (out3, ())))
noncomputable def laws_toItemS_r0 (x : H118_0) : Option (Sum H118_0 (Sum E118_0 Q118_0)) := laws_toItemS_c0 x.1 x.2.1 x.2.2.1
noncomputable def L118 {R : Type} : Loops R := fun id _ st k => bif Nat.beq id 0 then loopAt hp118_0 e118_0 q118_0 laws_toItemS_r0 st k else none
noncomputable def laws_toItemS (a0 : List R_iiis) : Option ((List R_iiis) × Unit) :=
  bif decide (((List.length a0 : Nat) : Int) = ((List.length a0 : Nat) : Int)) then bif decide ((0 : Int) ≤ ((List.length a0 : Nat) : Int)) then bif Nat.ble ((Int.toNat ((List.length a0 : Nat) : Int)) * 40) lim then outK (loopV laws_toItemS_r0 (a0, List.replicate (Int.toNat ((List.length a0 : Nat) : Int)) ((0 : Int), (0 : Int), (0 : Int), ByteArray.empty, ()), (0 : Int), ())) (fun y1 =>
          some (y1.1, ())) (fun y2 =>
          none)
      else none
    else none
  else none
noncomputable def x118 (x : (List R_iiis) × Unit) : Option ((List R_iiis) × Unit) := laws_toItemS x.1
noncomputable def sem118 : Sem1 := semOf ps118 rs118 x118
theorem so118 : SemsOk Try.prog (semsOf sl118) := sems_cons k57 (sems_nil)
noncomputable def b118_0 : Code := nthLoop code118 0
theorem t118_r0_eq (x : denR (headRT hp118_0)) : codeK (tabOf tr) (semsOf sl118) D118 L118 b118_0 (headSt hp118_0 x) (roundK 0 hp118_0 e118_0 q118_0) = laws_toItemS_r0 x := by kernel_rfl
theorem loop118_0 {R : Type} (r : R) (w0 : World) (mu : Mu) (hs : AnShape ps118 mu) : LoopAt Try.prog w0 mu 23 (L118 : Loops R) r 0 b118_0 :=
  loop_auto tr_ok eq_ok mixed_ok so118 (D := D118) hs (by kernel_rfl) (fun _ => (loops_of (l := []) (by kernel_rfl) (List.forall_mem_nil _))) t118_r0_eq (fun _ _ => rfl)
theorem t118_eq (x : denR (headRT (ps118.map some))) : codeK (tabOf tr) (semsOf sl118) D118 L118 code118 (start 23 ps118 x) (finK rs118 ps118) = x118 x := by kernel_rfl
theorem k118 : Known Try.prog 118 sem118 :=
  fn_auto tr_ok eq_ok mixed_ok so118 (D := D118) (code := code118) (n := 23) Try.func118 (by kernel_rfl) (by kernel_rfl) (by kernel_rfl) (fun w0 mu _ hs => (loops_of (l := [(0, b118_0)]) (by kernel_rfl) (List.forall_mem_cons.2 ⟨loop118_0 _ w0 mu hs, (List.forall_mem_nil _)⟩))) t118_eq

/-! ### f136: laws.toStringS -/
noncomputable def code136 : Code := match Try.f136.body with | some c => c | none => .skip
def ps136 : List AP := [.val false [.shr T_s]]
def rs136 : List RP := [{ src := .tmp 2, agg := false, ps := [.own T_s] }]
noncomputable def sl136 : SemL := []
def D136 : Draws := fun _ => .nil
def hp136_0 : List (Option AP) := [some (.val false [.shr T_s]), none, none, some (.val false [.own T_s]), some (.val false [.int .i64]), none, none, none, none, none, none, none, none, none, none, none, none, none, none, none, none, none, none]
def e136_0 : List (Option AP) := [none, none, none, some (.val false [.own T_s]), none, none, none, none, none, none, none, none, none, none, none, none, none, none, none, none, none, none, none]
def q136_0 : List (Option AP) := [none, none, none, none, none, none, none, none, none, none, none, none, none, none, none, none, none, none, none, none, none, none, none]
abbrev H136_0 : Type := (List (ByteArray × Unit)) × (List (ByteArray × Unit)) × Int × Unit
abbrev E136_0 : Type := (List (ByteArray × Unit)) × Unit
abbrev Q136_0 : Type := Unit
noncomputable def laws_toStringS_c0 (a0 : List (ByteArray × Unit)) (out3 : List (ByteArray × Unit)) (i4 : Int) : Option (Sum H136_0 (Sum E136_0 Q136_0)) :=
  bif decide (i4 < ((List.length a0 : Nat) : Int)) then
    bif decide ((0 : Int) ≤ i4) then Option.bind ((a0)[Int.toNat i4]?) fun r1 =>
      bif decide ((0 : Int) ≤ i4) then bif Nat.blt (Int.toNat i4) (List.length out3) then Option.bind ((out3)[Int.toNat i4]?) fun r2 =>
          some (.inl (a0, List.set out3 (Int.toNat i4) (r1.1, ()), IntKind.i64.wrap (i4 + (1 : Int)), ()))
        else none
      else none
    else none
  else
    some (.inr (.inl (out3, ())))
noncomputable def laws_toStringS_r0 (x : H136_0) : Option (Sum H136_0 (Sum E136_0 Q136_0)) := laws_toStringS_c0 x.1 x.2.1 x.2.2.1
noncomputable def L136 {R : Type} : Loops R := fun id _ st k => bif Nat.beq id 0 then loopAt hp136_0 e136_0 q136_0 laws_toStringS_r0 st k else none
noncomputable def laws_toStringS (a0 : List (ByteArray × Unit)) : Option ((List (ByteArray × Unit)) × Unit) :=
  bif decide (((List.length a0 : Nat) : Int) = ((List.length a0 : Nat) : Int)) then bif decide ((0 : Int) ≤ ((List.length a0 : Nat) : Int)) then bif Nat.ble ((Int.toNat ((List.length a0 : Nat) : Int)) * 16) lim then outK (loopV laws_toStringS_r0 (a0, List.replicate (Int.toNat ((List.length a0 : Nat) : Int)) (ByteArray.empty, ()), (0 : Int), ())) (fun y1 =>
          some (y1.1, ())) (fun y2 =>
          none)
      else none
    else none
  else none
noncomputable def x136 (x : (List (ByteArray × Unit)) × Unit) : Option ((List (ByteArray × Unit)) × Unit) := laws_toStringS x.1
noncomputable def sem136 : Sem1 := semOf ps136 rs136 x136
theorem so136 : SemsOk Try.prog (semsOf sl136) := sems_nil
noncomputable def b136_0 : Code := nthLoop code136 0
theorem t136_r0_eq (x : denR (headRT hp136_0)) : codeK (tabOf tr) (semsOf sl136) D136 L136 b136_0 (headSt hp136_0 x) (roundK 0 hp136_0 e136_0 q136_0) = laws_toStringS_r0 x := by kernel_rfl
theorem loop136_0 {R : Type} (r : R) (w0 : World) (mu : Mu) (hs : AnShape ps136 mu) : LoopAt Try.prog w0 mu 22 (L136 : Loops R) r 0 b136_0 :=
  loop_auto tr_ok eq_ok mixed_ok so136 (D := D136) hs (by kernel_rfl) (fun _ => (loops_of (l := []) (by kernel_rfl) (List.forall_mem_nil _))) t136_r0_eq (fun _ _ => rfl)
theorem t136_eq (x : denR (headRT (ps136.map some))) : codeK (tabOf tr) (semsOf sl136) D136 L136 code136 (start 22 ps136 x) (finK rs136 ps136) = x136 x := by kernel_rfl
theorem k136 : Known Try.prog 136 sem136 :=
  fn_auto tr_ok eq_ok mixed_ok so136 (D := D136) (code := code136) (n := 22) Try.func136 (by kernel_rfl) (by kernel_rfl) (by kernel_rfl) (fun w0 mu _ hs => (loops_of (l := [(0, b136_0)]) (by kernel_rfl) (List.forall_mem_cons.2 ⟨loop136_0 _ w0 mu hs, (List.forall_mem_nil _)⟩))) t136_eq

/-! ### f137: laws.toToken -/
noncomputable def code137 : Code := match Try.f137.body with | some c => c | none => .skip
def ps137 : List AP := [.val true [.int .i64, .int .i64, .int .i64, .int .i64, .int .i64, .shr T_i]]
def rs137 : List RP := [{ src := .cell 2, agg := true, ps := [.int .i64, .int .i64, .int .i64, .int .i64, .int .i64, .own T_i] }]
noncomputable def sl137 : SemL := [(66, (.shr, .shr, .shr, sem66))]
def D137 : Draws := fun _ => .nil
noncomputable def L137 {R : Type} : Loops R := fun _ _ _ _ => none
noncomputable def laws_toToken (a0c0 : Int) (a0c1 : Int) (a0c2 : Int) (a0c3 : Int) (a0c4 : Int) (a0c5 : List (Int × Unit)) : Option (Int × Int × Int × Int × Int × (List (Int × Unit)) × Unit) :=
  Option.bind (laws_toIntS a0c5) fun y1 =>
  some (a0c0, a0c1, a0c2, a0c3, a0c4, y1.1, ())
noncomputable def x137 (x : Int × Int × Int × Int × Int × (List (Int × Unit)) × Unit) : Option (Int × Int × Int × Int × Int × (List (Int × Unit)) × Unit) := laws_toToken x.1 x.2.1 x.2.2.1 x.2.2.2.1 x.2.2.2.2.1 x.2.2.2.2.2.1
noncomputable def sem137 : Sem1 := semOf ps137 rs137 x137
theorem so137 : SemsOk Try.prog (semsOf sl137) := sems_cons k66 (sems_nil)
theorem t137_eq (x : denR (headRT (ps137.map some))) : codeK (tabOf tr) (semsOf sl137) D137 L137 code137 (start 24 ps137 x) (finK rs137 ps137) = x137 x := by kernel_rfl
theorem k137 : Known Try.prog 137 sem137 :=
  fn_auto tr_ok eq_ok mixed_ok so137 (D := D137) (code := code137) (n := 24) Try.func137 (by kernel_rfl) (by kernel_rfl) (by kernel_rfl) (fun w0 mu _ hs => (loops_of (l := []) (by kernel_rfl) (List.forall_mem_nil _))) t137_eq

/-! ### f56: laws.toMate -/
noncomputable def code56 : Code := match Try.f56.body with | some c => c | none => .skip
def ps56 : List AP := [.val true [.int .i64, .int .i64, .shr T_i, .shr T_iiis, .shr T_i, .shr T_s, .int .i64, .int .i64, .int .i64, .int .i64, .int .i64, .int .i64, .int .i64, .int .i64, .int .i64, .shr T_i]]
def rs56 : List RP := [{ src := .cell 2, agg := true, ps := [.int .i64, .int .i64, .own T_i, .own T_iiis, .own T_i, .own T_s, .int .i64, .int .i64, .int .i64, .int .i64, .int .i64, .int .i64, .int .i64, .int .i64, .int .i64, .own T_i] }]
noncomputable def sl56 : SemL := [(12, (.shr, .shr, .shr, sem12)), (118, (.shr, .shr, .shr, sem118)), (66, (.shr, .shr, .shr, sem66)), (136, (.shr, .shr, .shr, sem136)), (137, (.shr, .shr, .shr, sem137))]
def D56 : Draws := fun _ => .nil
noncomputable def L56 {R : Type} : Loops R := fun _ _ _ _ => none
noncomputable def laws_toMate (a0c0 : Int) (a0c1 : Int) (a0c2 : List (Int × Unit)) (a0c3 : List R_iiis) (a0c4 : List (Int × Unit)) (a0c5 : List (ByteArray × Unit)) (a0c6 : Int) (a0c7 : Int) (a0c8 : Int) (a0c9 : Int) (a0c10 : Int) (a0c11 : Int) (a0c12 : Int) (a0c13 : Int) (a0c14 : Int) (a0c15 : List (Int × Unit)) : Option (Int × Int × (List (Int × Unit)) × (List R_iiis) × (List (Int × Unit)) × (List (ByteArray × Unit)) × Int × Int × Int × Int × Int × Int × Int × Int × Int × (List (Int × Unit)) × Unit) :=
  Option.bind (laws_toRing a0c1 a0c2) fun y1 =>
  Option.bind (laws_toItemS a0c3) fun y2 =>
  Option.bind (laws_toIntS a0c4) fun y3 =>
  Option.bind (laws_toStringS a0c5) fun y4 =>
  Option.bind (laws_toToken a0c10 a0c11 a0c12 a0c13 a0c14 a0c15) fun y5 =>
  some (a0c0, y1.1, y1.2.1, y2.1, y3.1, y4.1, a0c6, a0c7, a0c8, a0c9, y5.1, y5.2.1, y5.2.2.1, y5.2.2.2.1, y5.2.2.2.2.1, y5.2.2.2.2.2.1, ())
noncomputable def x56 (x : Int × Int × (List (Int × Unit)) × (List R_iiis) × (List (Int × Unit)) × (List (ByteArray × Unit)) × Int × Int × Int × Int × Int × Int × Int × Int × Int × (List (Int × Unit)) × Unit) : Option (Int × Int × (List (Int × Unit)) × (List R_iiis) × (List (Int × Unit)) × (List (ByteArray × Unit)) × Int × Int × Int × Int × Int × Int × Int × Int × Int × (List (Int × Unit)) × Unit) := laws_toMate x.1 x.2.1 x.2.2.1 x.2.2.2.1 x.2.2.2.2.1 x.2.2.2.2.2.1 x.2.2.2.2.2.2.1 x.2.2.2.2.2.2.2.1 x.2.2.2.2.2.2.2.2.1 x.2.2.2.2.2.2.2.2.2.1 x.2.2.2.2.2.2.2.2.2.2.1 x.2.2.2.2.2.2.2.2.2.2.2.1 x.2.2.2.2.2.2.2.2.2.2.2.2.1 x.2.2.2.2.2.2.2.2.2.2.2.2.2.1 x.2.2.2.2.2.2.2.2.2.2.2.2.2.2.1 x.2.2.2.2.2.2.2.2.2.2.2.2.2.2.2.1
noncomputable def sem56 : Sem1 := semOf ps56 rs56 x56
theorem so56 : SemsOk Try.prog (semsOf sl56) := sems_cons k12 (sems_cons k118 (sems_cons k66 (sems_cons k136 (sems_cons k137 (sems_nil)))))
theorem t56_eq (x : denR (headRT (ps56.map some))) : codeK (tabOf tr) (semsOf sl56) D56 L56 code56 (start 40 ps56 x) (finK rs56 ps56) = x56 x := by kernel_rfl
theorem k56 : Known Try.prog 56 sem56 :=
  fn_auto tr_ok eq_ok mixed_ok so56 (D := D56) (code := code56) (n := 40) Try.func56 (by kernel_rfl) (by kernel_rfl) (by kernel_rfl) (fun w0 mu _ hs => (loops_of (l := []) (by kernel_rfl) (List.forall_mem_nil _))) t56_eq

/-! ### f41: laws.toBundle -/
noncomputable def code41 : Code := match Try.f41.body with | some c => c | none => .skip
def ps41 : List AP := [.val true [.int .i64, .int .i64, .int .i64, .shr T_iiis]]
def rs41 : List RP := [{ src := .cell 2, agg := true, ps := [.int .i64, .int .i64, .int .i64, .own T_iiis] }]
noncomputable def sl41 : SemL := [(118, (.shr, .shr, .shr, sem118))]
def D41 : Draws := fun _ => .nil
noncomputable def L41 {R : Type} : Loops R := fun _ _ _ _ => none
noncomputable def laws_toBundle (a0c0 : Int) (a0c1 : Int) (a0c2 : Int) (a0c3 : List R_iiis) : Option (Int × Int × Int × (List R_iiis) × Unit) :=
  Option.bind (laws_toItemS a0c3) fun y1 =>
  some (a0c0, a0c1, a0c2, y1.1, ())
noncomputable def x41 (x : Int × Int × Int × (List R_iiis) × Unit) : Option (Int × Int × Int × (List R_iiis) × Unit) := laws_toBundle x.1 x.2.1 x.2.2.1 x.2.2.2.1
noncomputable def sem41 : Sem1 := semOf ps41 rs41 x41
theorem so41 : SemsOk Try.prog (semsOf sl41) := sems_cons k118 (sems_nil)
theorem t41_eq (x : denR (headRT (ps41.map some))) : codeK (tabOf tr) (semsOf sl41) D41 L41 code41 (start 18 ps41 x) (finK rs41 ps41) = x41 x := by kernel_rfl
theorem k41 : Known Try.prog 41 sem41 :=
  fn_auto tr_ok eq_ok mixed_ok so41 (D := D41) (code := code41) (n := 18) Try.func41 (by kernel_rfl) (by kernel_rfl) (by kernel_rfl) (fun w0 mu _ hs => (loops_of (l := []) (by kernel_rfl) (List.forall_mem_nil _))) t41_eq

/-! ### f30: laws.toBundleS -/
noncomputable def code30 : Code := match Try.f30.body with | some c => c | none => .skip
def ps30 : List AP := [.val false [.shr T_iiiLiiisE]]
def rs30 : List RP := [{ src := .tmp 2, agg := false, ps := [.own T_iiiLiiisE .dp] }]
noncomputable def sl30 : SemL := [(41, (.shr, .shr, .shr, sem41))]
def D30 : Draws := fun _ => .nil
def hp30_0 : List (Option AP) := [some (.val false [.shr T_iiiLiiisE]), none, none, some (.val false [.own T_iiiLiiisE .dp]), some (.val false [.int .i64]), none, none, none, none, none, none, none, none, none, none, none, none, none, none, none, none, none, none, none]
def e30_0 : List (Option AP) := [none, none, none, some (.val false [.own T_iiiLiiisE .dp]), none, none, none, none, none, none, none, none, none, none, none, none, none, none, none, none, none, none, none, none]
def q30_0 : List (Option AP) := [none, none, none, none, none, none, none, none, none, none, none, none, none, none, none, none, none, none, none, none, none, none, none, none]
abbrev H30_0 : Type := (List R_iiiLiiisE) × (List R_iiiLiiisE) × Int × Unit
abbrev E30_0 : Type := (List R_iiiLiiisE) × Unit
abbrev Q30_0 : Type := Unit
noncomputable def laws_toBundleS_c0 (a0 : List R_iiiLiiisE) (out3 : List R_iiiLiiisE) (i4 : Int) : Option (Sum H30_0 (Sum E30_0 Q30_0)) :=
  bif decide (i4 < ((List.length a0 : Nat) : Int)) then
    bif decide ((0 : Int) ≤ i4) then Option.bind ((a0)[Int.toNat i4]?) fun r1 =>
      Option.bind (laws_toBundle r1.1 r1.2.1 r1.2.2.1 r1.2.2.2.1) fun y2 =>
      bif decide ((0 : Int) ≤ i4) then bif Nat.blt (Int.toNat i4) (List.length out3) then Option.bind ((out3)[Int.toNat i4]?) fun _ =>
          some (.inl (a0, List.set out3 (Int.toNat i4) (y2.1, y2.2.1, y2.2.2.1, y2.2.2.2.1, ()), IntKind.i64.wrap (i4 + (1 : Int)), ()))
        else none
      else none
    else none
  else
    some (.inr (.inl (out3, ())))
noncomputable def laws_toBundleS_r0 (x : H30_0) : Option (Sum H30_0 (Sum E30_0 Q30_0)) := laws_toBundleS_c0 x.1 x.2.1 x.2.2.1
noncomputable def L30 {R : Type} : Loops R := fun id _ st k => bif Nat.beq id 0 then loopAt hp30_0 e30_0 q30_0 laws_toBundleS_r0 st k else none
noncomputable def laws_toBundleS (a0 : List R_iiiLiiisE) : Option ((List R_iiiLiiisE) × Unit) :=
  bif decide (((List.length a0 : Nat) : Int) = ((List.length a0 : Nat) : Int)) then bif decide ((0 : Int) ≤ ((List.length a0 : Nat) : Int)) then bif Nat.ble ((Int.toNat ((List.length a0 : Nat) : Int)) * 48) lim then outK (loopV laws_toBundleS_r0 (a0, List.replicate (Int.toNat ((List.length a0 : Nat) : Int)) ((0 : Int), (0 : Int), (0 : Int), [], ()), (0 : Int), ())) (fun y1 =>
          some (y1.1, ())) (fun y2 =>
          none)
      else none
    else none
  else none
noncomputable def x30 (x : (List R_iiiLiiisE) × Unit) : Option ((List R_iiiLiiisE) × Unit) := laws_toBundleS x.1
noncomputable def sem30 : Sem1 := semOf ps30 rs30 x30
theorem so30 : SemsOk Try.prog (semsOf sl30) := sems_cons k41 (sems_nil)
noncomputable def b30_0 : Code := nthLoop code30 0
theorem t30_r0_eq (x : denR (headRT hp30_0)) : codeK (tabOf tr) (semsOf sl30) D30 L30 b30_0 (headSt hp30_0 x) (roundK 0 hp30_0 e30_0 q30_0) = laws_toBundleS_r0 x := by kernel_rfl
theorem loop30_0 {R : Type} (r : R) (w0 : World) (mu : Mu) (hs : AnShape ps30 mu) : LoopAt Try.prog w0 mu 23 (L30 : Loops R) r 0 b30_0 :=
  loop_auto tr_ok eq_ok mixed_ok so30 (D := D30) hs (by kernel_rfl) (fun _ => (loops_of (l := []) (by kernel_rfl) (List.forall_mem_nil _))) t30_r0_eq (fun _ _ => rfl)
theorem t30_eq (x : denR (headRT (ps30.map some))) : codeK (tabOf tr) (semsOf sl30) D30 L30 code30 (start 23 ps30 x) (finK rs30 ps30) = x30 x := by kernel_rfl
theorem k30 : Known Try.prog 30 sem30 :=
  fn_auto tr_ok eq_ok mixed_ok so30 (D := D30) (code := code30) (n := 23) Try.func30 (by kernel_rfl) (by kernel_rfl) (by kernel_rfl) (fun w0 mu _ hs => (loops_of (l := [(0, b30_0)]) (by kernel_rfl) (List.forall_mem_cons.2 ⟨loop30_0 _ w0 mu hs, (List.forall_mem_nil _)⟩))) t30_eq

/-! ### f169: laws.toEvent -/
noncomputable def code169 : Code := match Try.f169.body with | some c => c | none => .skip
def ps169 : List AP := [.val true [.int .i64, .int .i64, .shr T_i, .int .i64, .int .i64, .int .i64, .str, .shr T_i]]
def rs169 : List RP := [{ src := .cell 2, agg := true, ps := [.int .i64, .int .i64, .own T_i, .int .i64, .int .i64, .int .i64, .str, .own T_i] }]
noncomputable def sl169 : SemL := [(12, (.shr, .shr, .shr, sem12)), (57, (.shr, .shr, .shr, sem57)), (66, (.shr, .shr, .shr, sem66))]
def D169 : Draws := fun _ => .nil
noncomputable def L169 {R : Type} : Loops R := fun _ _ _ _ => none
noncomputable def laws_toEvent (a0c0 : Int) (a0c1 : Int) (a0c2 : List (Int × Unit)) (a0c3 : Int) (a0c4 : Int) (a0c5 : Int) (a0c6 : ByteArray) (a0c7 : List (Int × Unit)) : Option (Int × Int × (List (Int × Unit)) × Int × Int × Int × ByteArray × (List (Int × Unit)) × Unit) :=
  Option.bind (laws_toRing a0c1 a0c2) fun y1 =>
  Option.bind (laws_toItem a0c3 a0c4 a0c5 a0c6) fun y2 =>
  Option.bind (laws_toIntS a0c7) fun y3 =>
  some (a0c0, y1.1, y1.2.1, y2.1, y2.2.1, y2.2.2.1, y2.2.2.2.1, y3.1, ())
noncomputable def x169 (x : Int × Int × (List (Int × Unit)) × Int × Int × Int × ByteArray × (List (Int × Unit)) × Unit) : Option (Int × Int × (List (Int × Unit)) × Int × Int × Int × ByteArray × (List (Int × Unit)) × Unit) := laws_toEvent x.1 x.2.1 x.2.2.1 x.2.2.2.1 x.2.2.2.2.1 x.2.2.2.2.2.1 x.2.2.2.2.2.2.1 x.2.2.2.2.2.2.2.1
noncomputable def sem169 : Sem1 := semOf ps169 rs169 x169
theorem so169 : SemsOk Try.prog (semsOf sl169) := sems_cons k12 (sems_cons k57 (sems_cons k66 (sems_nil)))
theorem t169_eq (x : denR (headRT (ps169.map some))) : codeK (tabOf tr) (semsOf sl169) D169 L169 code169 (start 20 ps169 x) (finK rs169 ps169) = x169 x := by kernel_rfl
theorem k169 : Known Try.prog 169 sem169 :=
  fn_auto tr_ok eq_ok mixed_ok so169 (D := D169) (code := code169) (n := 20) Try.func169 (by kernel_rfl) (by kernel_rfl) (by kernel_rfl) (fun w0 mu _ hs => (loops_of (l := []) (by kernel_rfl) (List.forall_mem_nil _))) t169_eq

/-! ### f128: laws.toEventS -/
noncomputable def code128 : Code := match Try.f128.body with | some c => c | none => .skip
def ps128 : List AP := [.val false [.shr T_iiLiEiiisLiE]]
def rs128 : List RP := [{ src := .tmp 2, agg := false, ps := [.own T_iiLiEiiisLiE .dp] }]
noncomputable def sl128 : SemL := [(169, (.shr, .shr, .shr, sem169))]
def D128 : Draws := fun _ => .nil
def hp128_0 : List (Option AP) := [some (.val false [.shr T_iiLiEiiisLiE]), none, none, some (.val false [.own T_iiLiEiiisLiE .dp]), some (.val false [.int .i64]), none, none, none, none, none, none, none, none, none, none, none, none, none, none, none, none, none, none, none]
def e128_0 : List (Option AP) := [none, none, none, some (.val false [.own T_iiLiEiiisLiE .dp]), none, none, none, none, none, none, none, none, none, none, none, none, none, none, none, none, none, none, none, none]
def q128_0 : List (Option AP) := [none, none, none, none, none, none, none, none, none, none, none, none, none, none, none, none, none, none, none, none, none, none, none, none]
abbrev H128_0 : Type := (List R_iiLiEiiisLiE) × (List R_iiLiEiiisLiE) × Int × Unit
abbrev E128_0 : Type := (List R_iiLiEiiisLiE) × Unit
abbrev Q128_0 : Type := Unit
noncomputable def laws_toEventS_c0 (a0 : List R_iiLiEiiisLiE) (out3 : List R_iiLiEiiisLiE) (i4 : Int) : Option (Sum H128_0 (Sum E128_0 Q128_0)) :=
  bif decide (i4 < ((List.length a0 : Nat) : Int)) then
    bif decide ((0 : Int) ≤ i4) then Option.bind ((a0)[Int.toNat i4]?) fun r1 =>
      Option.bind (laws_toEvent r1.1 r1.2.1 r1.2.2.1 r1.2.2.2.1 r1.2.2.2.2.1 r1.2.2.2.2.2.1 r1.2.2.2.2.2.2.1 r1.2.2.2.2.2.2.2.1) fun y2 =>
      bif decide ((0 : Int) ≤ i4) then bif Nat.blt (Int.toNat i4) (List.length out3) then Option.bind ((out3)[Int.toNat i4]?) fun _ =>
          some (.inl (a0, List.set out3 (Int.toNat i4) (y2.1, y2.2.1, y2.2.2.1, y2.2.2.2.1, y2.2.2.2.2.1, y2.2.2.2.2.2.1, y2.2.2.2.2.2.2.1, y2.2.2.2.2.2.2.2.1, ()), IntKind.i64.wrap (i4 + (1 : Int)), ()))
        else none
      else none
    else none
  else
    some (.inr (.inl (out3, ())))
noncomputable def laws_toEventS_r0 (x : H128_0) : Option (Sum H128_0 (Sum E128_0 Q128_0)) := laws_toEventS_c0 x.1 x.2.1 x.2.2.1
noncomputable def L128 {R : Type} : Loops R := fun id _ st k => bif Nat.beq id 0 then loopAt hp128_0 e128_0 q128_0 laws_toEventS_r0 st k else none
noncomputable def laws_toEventS (a0 : List R_iiLiEiiisLiE) : Option ((List R_iiLiEiiisLiE) × Unit) :=
  bif decide (((List.length a0 : Nat) : Int) = ((List.length a0 : Nat) : Int)) then bif decide ((0 : Int) ≤ ((List.length a0 : Nat) : Int)) then bif Nat.ble ((Int.toNat ((List.length a0 : Nat) : Int)) * 104) lim then outK (loopV laws_toEventS_r0 (a0, List.replicate (Int.toNat ((List.length a0 : Nat) : Int)) ((0 : Int), (0 : Int), [], (0 : Int), (0 : Int), (0 : Int), ByteArray.empty, [], ()), (0 : Int), ())) (fun y1 =>
          some (y1.1, ())) (fun y2 =>
          none)
      else none
    else none
  else none
noncomputable def x128 (x : (List R_iiLiEiiisLiE) × Unit) : Option ((List R_iiLiEiiisLiE) × Unit) := laws_toEventS x.1
noncomputable def sem128 : Sem1 := semOf ps128 rs128 x128
theorem so128 : SemsOk Try.prog (semsOf sl128) := sems_cons k169 (sems_nil)
noncomputable def b128_0 : Code := nthLoop code128 0
theorem t128_r0_eq (x : denR (headRT hp128_0)) : codeK (tabOf tr) (semsOf sl128) D128 L128 b128_0 (headSt hp128_0 x) (roundK 0 hp128_0 e128_0 q128_0) = laws_toEventS_r0 x := by kernel_rfl
theorem loop128_0 {R : Type} (r : R) (w0 : World) (mu : Mu) (hs : AnShape ps128 mu) : LoopAt Try.prog w0 mu 23 (L128 : Loops R) r 0 b128_0 :=
  loop_auto tr_ok eq_ok mixed_ok so128 (D := D128) hs (by kernel_rfl) (fun _ => (loops_of (l := []) (by kernel_rfl) (List.forall_mem_nil _))) t128_r0_eq (fun _ _ => rfl)
theorem t128_eq (x : denR (headRT (ps128.map some))) : codeK (tabOf tr) (semsOf sl128) D128 L128 code128 (start 23 ps128 x) (finK rs128 ps128) = x128 x := by kernel_rfl
theorem k128 : Known Try.prog 128 sem128 :=
  fn_auto tr_ok eq_ok mixed_ok so128 (D := D128) (code := code128) (n := 23) Try.func128 (by kernel_rfl) (by kernel_rfl) (by kernel_rfl) (fun w0 mu _ hs => (loops_of (l := [(0, b128_0)]) (by kernel_rfl) (List.forall_mem_cons.2 ⟨loop128_0 _ w0 mu hs, (List.forall_mem_nil _)⟩))) t128_eq

/-! ### f46: laws.toDaemon -/
noncomputable def code46 : Code := match Try.f46.body with | some c => c | none => .skip
def ps46 : List AP := [.val true [.int .i64, .bool, .int .i64, .int .i64, .shr T_i, .shr T_iiis, .shr T_i, .shr T_s, .int .i64, .int .i64, .int .i64, .int .i64, .int .i64, .int .i64, .int .i64, .int .i64, .int .i64, .shr T_i, .int .i64, .int .i64, .int .i64, .shr T_i, .shr T_iiiLiiisE, .shr T_iiLiEiiisLiE]]
def rs46 : List RP := [{ src := .cell 2, agg := true, ps := [.int .i64, .bool, .int .i64, .int .i64, .own T_i, .own T_iiis, .own T_i, .own T_s, .int .i64, .int .i64, .int .i64, .int .i64, .int .i64, .int .i64, .int .i64, .int .i64, .int .i64, .own T_i, .int .i64, .int .i64, .int .i64, .own T_i, .own T_iiiLiiisE .dp, .own T_iiLiEiiisLiE .dp] }]
noncomputable def sl46 : SemL := [(56, (.shr, .shr, .shr, sem56)), (12, (.shr, .shr, .shr, sem12)), (30, (.shr, .shr, .shr, sem30)), (128, (.shr, .shr, .shr, sem128))]
def D46 : Draws := fun _ => .nil
noncomputable def L46 {R : Type} : Loops R := fun _ _ _ _ => none
noncomputable def laws_toDaemon (a0c0 : Int) (a0c1 : Bool) (a0c2 : Int) (a0c3 : Int) (a0c4 : List (Int × Unit)) (a0c5 : List R_iiis) (a0c6 : List (Int × Unit)) (a0c7 : List (ByteArray × Unit)) (a0c8 : Int) (a0c9 : Int) (a0c10 : Int) (a0c11 : Int) (a0c12 : Int) (a0c13 : Int) (a0c14 : Int) (a0c15 : Int) (a0c16 : Int) (a0c17 : List (Int × Unit)) (a0c18 : Int) (a0c19 : Int) (a0c20 : Int) (a0c21 : List (Int × Unit)) (a0c22 : List R_iiiLiiisE) (a0c23 : List R_iiLiEiiisLiE) : Option (Int × Bool × Int × Int × (List (Int × Unit)) × (List R_iiis) × (List (Int × Unit)) × (List (ByteArray × Unit)) × Int × Int × Int × Int × Int × Int × Int × Int × Int × (List (Int × Unit)) × Int × Int × Int × (List (Int × Unit)) × (List R_iiiLiiisE) × (List R_iiLiEiiisLiE) × Unit) :=
  Option.bind (laws_toMate a0c2 a0c3 a0c4 a0c5 a0c6 a0c7 a0c8 a0c9 a0c10 a0c11 a0c12 a0c13 a0c14 a0c15 a0c16 a0c17) fun y1 =>
  Option.bind (laws_toRing a0c20 a0c21) fun y2 =>
  Option.bind (laws_toBundleS a0c22) fun y3 =>
  Option.bind (laws_toEventS a0c23) fun y4 =>
  some (a0c0, a0c1, y1.1, y1.2.1, y1.2.2.1, y1.2.2.2.1, y1.2.2.2.2.1, y1.2.2.2.2.2.1, y1.2.2.2.2.2.2.1, y1.2.2.2.2.2.2.2.1, y1.2.2.2.2.2.2.2.2.1, y1.2.2.2.2.2.2.2.2.2.1, y1.2.2.2.2.2.2.2.2.2.2.1, y1.2.2.2.2.2.2.2.2.2.2.2.1, y1.2.2.2.2.2.2.2.2.2.2.2.2.1, y1.2.2.2.2.2.2.2.2.2.2.2.2.2.1, y1.2.2.2.2.2.2.2.2.2.2.2.2.2.2.1, y1.2.2.2.2.2.2.2.2.2.2.2.2.2.2.2.1, a0c18, a0c19, y2.1, y2.2.1, y3.1, y4.1, ())
noncomputable def x46 (x : Int × Bool × Int × Int × (List (Int × Unit)) × (List R_iiis) × (List (Int × Unit)) × (List (ByteArray × Unit)) × Int × Int × Int × Int × Int × Int × Int × Int × Int × (List (Int × Unit)) × Int × Int × Int × (List (Int × Unit)) × (List R_iiiLiiisE) × (List R_iiLiEiiisLiE) × Unit) : Option (Int × Bool × Int × Int × (List (Int × Unit)) × (List R_iiis) × (List (Int × Unit)) × (List (ByteArray × Unit)) × Int × Int × Int × Int × Int × Int × Int × Int × Int × (List (Int × Unit)) × Int × Int × Int × (List (Int × Unit)) × (List R_iiiLiiisE) × (List R_iiLiEiiisLiE) × Unit) := laws_toDaemon x.1 x.2.1 x.2.2.1 x.2.2.2.1 x.2.2.2.2.1 x.2.2.2.2.2.1 x.2.2.2.2.2.2.1 x.2.2.2.2.2.2.2.1 x.2.2.2.2.2.2.2.2.1 x.2.2.2.2.2.2.2.2.2.1 x.2.2.2.2.2.2.2.2.2.2.1 x.2.2.2.2.2.2.2.2.2.2.2.1 x.2.2.2.2.2.2.2.2.2.2.2.2.1 x.2.2.2.2.2.2.2.2.2.2.2.2.2.1 x.2.2.2.2.2.2.2.2.2.2.2.2.2.2.1 x.2.2.2.2.2.2.2.2.2.2.2.2.2.2.2.1 x.2.2.2.2.2.2.2.2.2.2.2.2.2.2.2.2.1 x.2.2.2.2.2.2.2.2.2.2.2.2.2.2.2.2.2.1 x.2.2.2.2.2.2.2.2.2.2.2.2.2.2.2.2.2.2.1 x.2.2.2.2.2.2.2.2.2.2.2.2.2.2.2.2.2.2.2.1 x.2.2.2.2.2.2.2.2.2.2.2.2.2.2.2.2.2.2.2.2.1 x.2.2.2.2.2.2.2.2.2.2.2.2.2.2.2.2.2.2.2.2.2.1 x.2.2.2.2.2.2.2.2.2.2.2.2.2.2.2.2.2.2.2.2.2.2.1 x.2.2.2.2.2.2.2.2.2.2.2.2.2.2.2.2.2.2.2.2.2.2.2.1
noncomputable def sem46 : Sem1 := semOf ps46 rs46 x46
theorem so46 : SemsOk Try.prog (semsOf sl46) := sems_cons k56 (sems_cons k12 (sems_cons k30 (sems_cons k128 (sems_nil))))
theorem t46_eq (x : denR (headRT (ps46.map some))) : codeK (tabOf tr) (semsOf sl46) D46 L46 code46 (start 33 ps46 x) (finK rs46 ps46) = x46 x := by kernel_rfl
theorem k46 : Known Try.prog 46 sem46 :=
  fn_auto tr_ok eq_ok mixed_ok so46 (D := D46) (code := code46) (n := 33) Try.func46 (by kernel_rfl) (by kernel_rfl) (by kernel_rfl) (fun w0 mu _ hs => (loops_of (l := []) (by kernel_rfl) (List.forall_mem_nil _))) t46_eq

/-! ### f144: spec.l01In -/
noncomputable def code144 : Code := match Try.f144.body with | some c => c | none => .skip
def ps144 : List AP := [.val false [.int .i64], .val false [.int .i64], .val false [.int .i64]]
def rs144 : List RP := [{ src := .tmp 6, agg := false, ps := [.bool] }]
noncomputable def sl144 : SemL := []
def D144 : Draws := fun _ => .nil
noncomputable def L144 {R : Type} : Loops R := fun _ _ _ _ => none
noncomputable def spec_l01In (x0 : Int) (least1 : Int) (most2 : Int) : Option (Bool × Unit) :=
  bif decide (least1 ≤ x0) then
    some (decide (x0 ≤ most2), ())
  else
    some (false, ())
noncomputable def x144 (x : Int × Int × Int × Unit) : Option (Bool × Unit) := spec_l01In x.1 x.2.1 x.2.2.1
noncomputable def sem144 : Sem1 := semOf ps144 rs144 x144
theorem so144 : SemsOk Try.prog (semsOf sl144) := sems_nil
theorem t144_eq (x : denR (headRT (ps144.map some))) : codeK (tabOf tr) (semsOf sl144) D144 L144 code144 (start 15 ps144 x) (finK rs144 ps144) = x144 x := by kernel_rfl
theorem k144 : Known Try.prog 144 sem144 :=
  fn_auto tr_ok eq_ok mixed_ok so144 (D := D144) (code := code144) (n := 15) Try.func144 (by kernel_rfl) (by kernel_rfl) (by kernel_rfl) (fun w0 mu _ hs => (loops_of (l := []) (by kernel_rfl) (List.forall_mem_nil _))) t144_eq

/-! ### f168: spec.l14NoRing -/
noncomputable def code168 : Code := match Try.f168.body with | some c => c | none => .skip
def ps168 : List AP := [.val true [.int .i64, .shr T_i]]
def rs168 : List RP := [{ src := .tmp 2, agg := false, ps := [.bool] }]
noncomputable def sl168 : SemL := []
def D168 : Draws := fun _ => .nil
noncomputable def L168 {R : Type} : Loops R := fun _ _ _ _ => none
noncomputable def spec_l14NoRing (r0c0 : Int) (r0c1 : List (Int × Unit)) : Option (Bool × Unit) :=
  bif decide (r0c0 = (0 : Int)) then
    some (decide (((List.length r0c1 : Nat) : Int) = (0 : Int)), ())
  else
    some (false, ())
noncomputable def x168 (x : Int × (List (Int × Unit)) × Unit) : Option (Bool × Unit) := spec_l14NoRing x.1 x.2.1
noncomputable def sem168 : Sem1 := semOf ps168 rs168 x168
theorem so168 : SemsOk Try.prog (semsOf sl168) := sems_nil
theorem t168_eq (x : denR (headRT (ps168.map some))) : codeK (tabOf tr) (semsOf sl168) D168 L168 code168 (start 12 ps168 x) (finK rs168 ps168) = x168 x := by kernel_rfl
theorem k168 : Known Try.prog 168 sem168 :=
  fn_auto tr_ok eq_ok mixed_ok so168 (D := D168) (code := code168) (n := 12) Try.func168 (by kernel_rfl) (by kernel_rfl) (by kernel_rfl) (fun w0 mu _ hs => (loops_of (l := []) (by kernel_rfl) (List.forall_mem_nil _))) t168_eq

/-! ### f197: spec.l05SameInts -/
noncomputable def code197 : Code := match Try.f197.body with | some c => c | none => .skip
def ps197 : List AP := [.val false [.shr T_i], .val false [.shr T_i]]
def rs197 : List RP := [{ src := .tmp 4, agg := false, ps := [.bool] }]
noncomputable def sl197 : SemL := []
def D197 : Draws := fun id => bif Nat.beq id 6 then .op 0 .any (.op 1 .any (.op 2 .any (.op 3 .take (.op 4 .any (.op 5 .any (.op 6 .any (.op 7 .take (.op 8 .any (.nil))))))))) else .nil
def hp197_0 : List (Option AP) := [some (.val false [.shr T_i]), some (.val false [.shr T_i]), none, none, none, some (.val false [.int .i64]), none, none, none, none, none, none, none, none, none, none, none, none, none, none, none, none, none, none, none, none, none]
def e197_0 : List (Option AP) := [none, none, none, none, none, none, none, none, none, none, none, none, none, none, none, none, none, none, none, none, none, none, none, none, none, none, none]
def q197_0 : List (Option AP) := [none, none, none, none, some (.val false [.bool]), none, none, none, none, none, none, none, none, none, none, none, none, none, none, none, none, none, none, none, none, none, none]
abbrev H197_0 : Type := (List (Int × Unit)) × (List (Int × Unit)) × Int × Unit
abbrev E197_0 : Type := Unit
abbrev Q197_0 : Type := Bool × Unit
noncomputable def spec_l05SameInts_c0 (a0 : List (Int × Unit)) (b1 : List (Int × Unit)) (i5 : Int) : Option (Sum H197_0 (Sum E197_0 Q197_0)) :=
  bif decide (i5 < ((List.length a0 : Nat) : Int)) then
    bif decide ((0 : Int) ≤ i5) then Option.bind ((a0)[Int.toNat i5]?) fun r1 =>
      bif decide ((0 : Int) ≤ i5) then Option.bind ((b1)[Int.toNat i5]?) fun r2 =>
        bif !decide (r1.1 = r2.1) then
          some (.inr (.inr (false, ())))
        else
          some (.inl (a0, b1, IntKind.i64.wrap (i5 + (1 : Int)), ()))
      else none
    else none
  else
    some (.inr (.inl (())))
noncomputable def spec_l05SameInts_r0 (x : H197_0) : Option (Sum H197_0 (Sum E197_0 Q197_0)) := spec_l05SameInts_c0 x.1 x.2.1 x.2.2.1
noncomputable def L197 {R : Type} : Loops R := fun id _ st k => bif Nat.beq id 0 then loopAt hp197_0 e197_0 q197_0 spec_l05SameInts_r0 st k else none
noncomputable def spec_l05SameInts (a0 : List (Int × Unit)) (b1 : List (Int × Unit)) : Option (Bool × Unit) :=
  bif !decide (((List.length a0 : Nat) : Int) = ((List.length b1 : Nat) : Int)) then
    some (false, ())
  else
    outK (loopV spec_l05SameInts_r0 (a0, b1, (0 : Int), ())) (fun y1 =>
      some (true, ())) (fun y2 =>
      some (y2.1, ()))
noncomputable def x197 (x : (List (Int × Unit)) × (List (Int × Unit)) × Unit) : Option (Bool × Unit) := spec_l05SameInts x.1 x.2.1
noncomputable def sem197 : Sem1 := semOf ps197 rs197 x197
theorem so197 : SemsOk Try.prog (semsOf sl197) := sems_nil
noncomputable def b197_0 : Code := nthLoop code197 0
theorem t197_r0_eq (x : denR (headRT hp197_0)) : codeK (tabOf tr) (semsOf sl197) D197 L197 b197_0 (headSt hp197_0 x) (roundK 0 hp197_0 e197_0 q197_0) = spec_l05SameInts_r0 x := by kernel_rfl
theorem loop197_0 {R : Type} (r : R) (w0 : World) (mu : Mu) (hs : AnShape ps197 mu) : LoopAt Try.prog w0 mu 26 (L197 : Loops R) r 0 b197_0 :=
  loop_auto tr_ok eq_ok mixed_ok so197 (D := D197) hs (by kernel_rfl) (fun _ => (loops_of (l := []) (by kernel_rfl) (List.forall_mem_nil _))) t197_r0_eq (fun _ _ => rfl)
theorem t197_eq (x : denR (headRT (ps197.map some))) : codeK (tabOf tr) (semsOf sl197) D197 L197 code197 (start 26 ps197 x) (finK rs197 ps197) = x197 x := by kernel_rfl
theorem k197 : Known Try.prog 197 sem197 :=
  fn_auto tr_ok eq_ok mixed_ok so197 (D := D197) (code := code197) (n := 26) Try.func197 (by kernel_rfl) (by kernel_rfl) (by kernel_rfl) (fun w0 mu _ hs => (loops_of (l := [(0, b197_0)]) (by kernel_rfl) (List.forall_mem_cons.2 ⟨loop197_0 _ w0 mu hs, (List.forall_mem_nil _)⟩))) t197_eq

/-! ### f193: spec.l05SameToken -/
noncomputable def code193 : Code := match Try.f193.body with | some c => c | none => .skip
def ps193 : List AP := [.val true [.int .i64, .int .i64, .int .i64, .int .i64, .int .i64, .shr T_i], .val true [.int .i64, .int .i64, .int .i64, .int .i64, .int .i64, .shr T_i]]
def rs193 : List RP := [{ src := .tmp 4, agg := false, ps := [.bool] }]
noncomputable def sl193 : SemL := [(197, (.shr, .shr, .shr, sem197))]
def D193 : Draws := fun _ => .nil
noncomputable def L193 {R : Type} : Loops R := fun _ _ _ _ => none
noncomputable def spec_l05SameToken (a0c0 : Int) (a0c1 : Int) (a0c2 : Int) (a0c3 : Int) (a0c4 : Int) (a0c5 : List (Int × Unit)) (b1c0 : Int) (b1c1 : Int) (b1c2 : Int) (b1c3 : Int) (b1c4 : Int) (b1c5 : List (Int × Unit)) : Option (Bool × Unit) :=
  bif decide (a0c0 = b1c0) then
    bif decide (a0c1 = b1c1) then
      bif decide (a0c2 = b1c2) then
        bif decide (a0c3 = b1c3) then
          bif decide (a0c4 = b1c4) then
            Option.bind (spec_l05SameInts a0c5 b1c5) fun y1 =>
            some (y1.1, ())
          else
            some (false, ())
        else
          some (false, ())
      else
        some (false, ())
    else
      some (false, ())
  else
    some (false, ())
noncomputable def x193 (x : Int × Int × Int × Int × Int × (List (Int × Unit)) × Int × Int × Int × Int × Int × (List (Int × Unit)) × Unit) : Option (Bool × Unit) := spec_l05SameToken x.1 x.2.1 x.2.2.1 x.2.2.2.1 x.2.2.2.2.1 x.2.2.2.2.2.1 x.2.2.2.2.2.2.1 x.2.2.2.2.2.2.2.1 x.2.2.2.2.2.2.2.2.1 x.2.2.2.2.2.2.2.2.2.1 x.2.2.2.2.2.2.2.2.2.2.1 x.2.2.2.2.2.2.2.2.2.2.2.1
noncomputable def sem193 : Sem1 := semOf ps193 rs193 x193
theorem so193 : SemsOk Try.prog (semsOf sl193) := sems_cons k197 (sems_nil)
theorem t193_eq (x : denR (headRT (ps193.map some))) : codeK (tabOf tr) (semsOf sl193) D193 L193 code193 (start 45 ps193 x) (finK rs193 ps193) = x193 x := by kernel_rfl
theorem k193 : Known Try.prog 193 sem193 :=
  fn_auto tr_ok eq_ok mixed_ok so193 (D := D193) (code := code193) (n := 45) Try.func193 (by kernel_rfl) (by kernel_rfl) (by kernel_rfl) (fun w0 mu _ hs => (loops_of (l := []) (by kernel_rfl) (List.forall_mem_nil _))) t193_eq

/-! ### f175: spec.l10Blank -/
noncomputable def code175 : Code := match Try.f175.body with | some c => c | none => .skip
def ps175 : List AP := [.val true [.int .i64, .int .i64, .int .i64, .int .i64, .int .i64, .shr T_i]]
def rs175 : List RP := [{ src := .tmp 2, agg := false, ps := [.bool] }]
noncomputable def sl175 : SemL := [(193, (.shr, .shr, .shr, sem193))]
def D175 : Draws := fun _ => .nil
noncomputable def L175 {R : Type} : Loops R := fun _ _ _ _ => none
noncomputable def spec_l10Blank (t0c0 : Int) (t0c1 : Int) (t0c2 : Int) (t0c3 : Int) (t0c4 : Int) (t0c5 : List (Int × Unit)) : Option (Bool × Unit) :=
  Option.bind (spec_l05SameToken t0c0 t0c1 t0c2 t0c3 t0c4 t0c5 (0 : Int) (0 : Int) (0 : Int) (0 : Int) (0 : Int) []) fun y1 =>
  some (y1.1, ())
noncomputable def x175 (x : Int × Int × Int × Int × Int × (List (Int × Unit)) × Unit) : Option (Bool × Unit) := spec_l10Blank x.1 x.2.1 x.2.2.1 x.2.2.2.1 x.2.2.2.2.1 x.2.2.2.2.2.1
noncomputable def sem175 : Sem1 := semOf ps175 rs175 x175
theorem so175 : SemsOk Try.prog (semsOf sl175) := sems_cons k193 (sems_nil)
theorem t175_eq (x : denR (headRT (ps175.map some))) : codeK (tabOf tr) (semsOf sl175) D175 L175 code175 (start 6 ps175 x) (finK rs175 ps175) = x175 x := by kernel_rfl
theorem k175 : Known Try.prog 175 sem175 :=
  fn_auto tr_ok eq_ok mixed_ok so175 (D := D175) (code := code175) (n := 6) Try.func175 (by kernel_rfl) (by kernel_rfl) (by kernel_rfl) (fun w0 mu _ hs => (loops_of (l := []) (by kernel_rfl) (List.forall_mem_nil _))) t175_eq

/-! ### f192: spec.l14NoMate -/
noncomputable def code192 : Code := match Try.f192.body with | some c => c | none => .skip
def ps192 : List AP := [.val true [.int .i64, .int .i64, .shr T_i, .shr T_iiis, .shr T_i, .shr T_s, .int .i64, .int .i64, .int .i64, .int .i64, .int .i64, .int .i64, .int .i64, .int .i64, .int .i64, .shr T_i]]
def rs192 : List RP := [{ src := .tmp 2, agg := false, ps := [.bool] }]
noncomputable def sl192 : SemL := [(168, (.shr, .shr, .shr, sem168)), (175, (.shr, .shr, .shr, sem175))]
def D192 : Draws := fun _ => .nil
noncomputable def L192 {R : Type} : Loops R := fun _ _ _ _ => none
noncomputable def spec_l14NoMate (m0c0 : Int) (m0c1 : Int) (m0c2 : List (Int × Unit)) (m0c3 : List R_iiis) (m0c4 : List (Int × Unit)) (m0c5 : List (ByteArray × Unit)) (m0c6 : Int) (m0c7 : Int) (m0c8 : Int) (m0c9 : Int) (m0c10 : Int) (m0c11 : Int) (m0c12 : Int) (m0c13 : Int) (m0c14 : Int) (m0c15 : List (Int × Unit)) : Option (Bool × Unit) :=
  bif decide (m0c0 = (0 : Int)) then
    Option.bind (spec_l14NoRing m0c1 m0c2) fun y1 =>
    bif y1.1 then
      bif decide (((List.length m0c3 : Nat) : Int) = (0 : Int)) then
        bif decide (((List.length m0c4 : Nat) : Int) = (0 : Int)) then
          bif decide (((List.length m0c5 : Nat) : Int) = (0 : Int)) then
            bif decide (m0c6 = (0 : Int)) then
              bif decide (m0c7 = (0 : Int)) then
                bif decide (m0c8 = (0 : Int)) then
                  bif decide (m0c9 = (0 : Int)) then
                    Option.bind (spec_l10Blank m0c10 m0c11 m0c12 m0c13 m0c14 m0c15) fun y2 =>
                    some (y2.1, ())
                  else
                    some (false, ())
                else
                  some (false, ())
              else
                some (false, ())
            else
              some (false, ())
          else
            some (false, ())
        else
          some (false, ())
      else
        some (false, ())
    else
      some (false, ())
  else
    some (false, ())
noncomputable def x192 (x : Int × Int × (List (Int × Unit)) × (List R_iiis) × (List (Int × Unit)) × (List (ByteArray × Unit)) × Int × Int × Int × Int × Int × Int × Int × Int × Int × (List (Int × Unit)) × Unit) : Option (Bool × Unit) := spec_l14NoMate x.1 x.2.1 x.2.2.1 x.2.2.2.1 x.2.2.2.2.1 x.2.2.2.2.2.1 x.2.2.2.2.2.2.1 x.2.2.2.2.2.2.2.1 x.2.2.2.2.2.2.2.2.1 x.2.2.2.2.2.2.2.2.2.1 x.2.2.2.2.2.2.2.2.2.2.1 x.2.2.2.2.2.2.2.2.2.2.2.1 x.2.2.2.2.2.2.2.2.2.2.2.2.1 x.2.2.2.2.2.2.2.2.2.2.2.2.2.1 x.2.2.2.2.2.2.2.2.2.2.2.2.2.2.1 x.2.2.2.2.2.2.2.2.2.2.2.2.2.2.2.1
noncomputable def sem192 : Sem1 := semOf ps192 rs192 x192
theorem so192 : SemsOk Try.prog (semsOf sl192) := sems_cons k168 (sems_cons k175 (sems_nil))
theorem t192_eq (x : denR (headRT (ps192.map some))) : codeK (tabOf tr) (semsOf sl192) D192 L192 code192 (start 54 ps192 x) (finK rs192 ps192) = x192 x := by kernel_rfl
theorem k192 : Known Try.prog 192 sem192 :=
  fn_auto tr_ok eq_ok mixed_ok so192 (D := D192) (code := code192) (n := 54) Try.func192 (by kernel_rfl) (by kernel_rfl) (by kernel_rfl) (fun w0 mu _ hs => (loops_of (l := []) (by kernel_rfl) (List.forall_mem_nil _))) t192_eq

/-! ### f63: spec.RingOk -/
noncomputable def code63 : Code := match Try.f63.body with | some c => c | none => .skip
def ps63 : List AP := [.val true [.int .i64, .shr T_i]]
def rs63 : List RP := [{ src := .tmp 2, agg := false, ps := [.bool] }]
noncomputable def sl63 : SemL := [(144, (.shr, .shr, .shr, sem144))]
def D63 : Draws := fun id => bif Nat.beq id 6 then .op 0 .any (.op 1 .take (.op 2 .any (.op 3 .any (.op 4 .take (.op 5 .one (.op 6 .any (.op 7 .any (.op 8 .any (.op 9 .any (.op 10 .any (.op 11 .any (.op 12 .take (.op 13 .any (.op 14 .any (.op 15 .any (.op 16 .take (.op 17 .any (.op 18 .take (.op 19 .any (.op 20 .any (.op 21 .take (.op 22 .any (.op 23 .any (.op 24 .any (.nil))))))))))))))))))))))))) else .nil
def hp63_0 : List (Option AP) := [none, some (.box false [.int .i64, .shr T_i]), none, some (.val false [.int .i64]), none, none, none, none, none, none, none, none, none, none, none, none, none, none, none, none, none, none, none, none, none, none, none, none, none, none, none, none, none, none, none, none, none, none, none, none, none, none, none, none, none, none, none, none]
def e63_0 : List (Option AP) := [none, none, none, none, none, none, none, none, none, none, none, none, none, none, none, none, none, none, none, none, none, none, none, none, none, none, none, none, none, none, none, none, none, none, none, none, none, none, none, none, none, none, none, none, none, none, none, none]
def q63_0 : List (Option AP) := [none, none, some (.val false [.bool]), none, none, none, none, none, none, none, none, none, none, none, none, none, none, none, none, none, none, none, none, none, none, none, none, none, none, none, none, none, none, none, none, none, none, none, none, none, none, none, none, none, none, none, none, none]
abbrev H63_0 : Type := Int × (List (Int × Unit)) × Int × Unit
abbrev E63_0 : Type := Unit
abbrev Q63_0 : Type := Bool × Unit
noncomputable def spec_RingOk_c0 (r1c0 : Int) (r1c1 : List (Int × Unit)) (i3 : Int) : Option (Sum H63_0 (Sum E63_0 Q63_0)) :=
  bif decide (i3 < ((List.length r1c1 : Nat) : Int)) then
    bif decide ((0 : Int) ≤ i3) then Option.bind ((r1c1)[Int.toNat i3]?) fun r3 =>
      Option.bind (spec_l01In r3.1 (1 : Int) (5 : Int)) fun y4 =>
      bif !y4.1 then
        some (.inr (.inr (false, ())))
      else bif decide ((0 : Int) < i3) then
        bif decide ((0 : Int) ≤ IntKind.i64.wrap (i3 - (1 : Int))) then Option.bind ((r1c1)[Int.toNat (IntKind.i64.wrap (i3 - (1 : Int)))]?) fun r5 =>
          bif decide ((0 : Int) ≤ i3) then Option.bind ((r1c1)[Int.toNat i3]?) fun r6 =>
            bif decide (r6.1 ≤ r5.1) then
              some (.inr (.inr (false, ())))
            else
              some (.inl (r1c0, r1c1, IntKind.i64.wrap (i3 + (1 : Int)), ()))
          else none
        else none
      else
        some (.inl (r1c0, r1c1, IntKind.i64.wrap (i3 + (1 : Int)), ()))
    else none
  else
    some (.inr (.inl (())))
noncomputable def spec_RingOk_r0 (x : H63_0) : Option (Sum H63_0 (Sum E63_0 Q63_0)) := spec_RingOk_c0 x.1 x.2.1 x.2.2.1
noncomputable def L63 {R : Type} : Loops R := fun id _ st k => bif Nat.beq id 0 then loopAt hp63_0 e63_0 q63_0 spec_RingOk_r0 st k else none
noncomputable def spec_RingOk (r0c0 : Int) (r0c1 : List (Int × Unit)) : Option (Bool × Unit) :=
  Option.bind (spec_l01In r0c0 (1 : Int) (9 : Int)) fun y1 =>
  bif !y1.1 then
    some (false, ())
  else
    Option.bind (spec_l01In ((List.length r0c1 : Nat) : Int) (1 : Int) (5 : Int)) fun y2 =>
    bif !y2.1 then
      some (false, ())
    else
      outK (loopV spec_RingOk_r0 (r0c0, r0c1, (0 : Int), ())) (fun y3 =>
        some (true, ())) (fun y4 =>
        some (y4.1, ()))
noncomputable def x63 (x : Int × (List (Int × Unit)) × Unit) : Option (Bool × Unit) := spec_RingOk x.1 x.2.1
noncomputable def sem63 : Sem1 := semOf ps63 rs63 x63
theorem so63 : SemsOk Try.prog (semsOf sl63) := sems_cons k144 (sems_nil)
noncomputable def b63_0 : Code := nthLoop code63 0
theorem t63_r0_eq (x : denR (headRT hp63_0)) : codeK (tabOf tr) (semsOf sl63) D63 L63 b63_0 (headSt hp63_0 x) (roundK 0 hp63_0 e63_0 q63_0) = spec_RingOk_r0 x := by kernel_rfl
theorem loop63_0 {R : Type} (r : R) (w0 : World) (mu : Mu) (hs : AnShape ps63 mu) : LoopAt Try.prog w0 mu 47 (L63 : Loops R) r 0 b63_0 :=
  loop_auto tr_ok eq_ok mixed_ok so63 (D := D63) hs (by kernel_rfl) (fun _ => (loops_of (l := []) (by kernel_rfl) (List.forall_mem_nil _))) t63_r0_eq (fun _ _ => rfl)
theorem t63_eq (x : denR (headRT (ps63.map some))) : codeK (tabOf tr) (semsOf sl63) D63 L63 code63 (start 47 ps63 x) (finK rs63 ps63) = x63 x := by kernel_rfl
theorem k63 : Known Try.prog 63 sem63 :=
  fn_auto tr_ok eq_ok mixed_ok so63 (D := D63) (code := code63) (n := 47) Try.func63 (by kernel_rfl) (by kernel_rfl) (by kernel_rfl) (fun w0 mu _ hs => (loops_of (l := [(0, b63_0)]) (by kernel_rfl) (List.forall_mem_cons.2 ⟨loop63_0 _ w0 mu hs, (List.forall_mem_nil _)⟩))) t63_eq

/-! ### f145: spec.l05In -/
noncomputable def code145 : Code := match Try.f145.body with | some c => c | none => .skip
def ps145 : List AP := [.val false [.shr T_i], .val false [.int .i64]]
def rs145 : List RP := [{ src := .tmp 4, agg := false, ps := [.bool] }]
noncomputable def sl145 : SemL := []
def D145 : Draws := fun _ => .nil
def hp145_0 : List (Option AP) := [some (.val false [.shr T_i]), some (.val false [.int .i64]), none, none, none, some (.val false [.int .i64]), none, none, none, none, none, none, none, none, none, none, none, none, none]
def e145_0 : List (Option AP) := [none, none, none, none, none, none, none, none, none, none, none, none, none, none, none, none, none, none, none]
def q145_0 : List (Option AP) := [none, none, none, none, some (.val false [.bool]), none, none, none, none, none, none, none, none, none, none, none, none, none, none]
abbrev H145_0 : Type := (List (Int × Unit)) × Int × Int × Unit
abbrev E145_0 : Type := Unit
abbrev Q145_0 : Type := Bool × Unit
noncomputable def spec_l05In_c0 (list0 : List (Int × Unit)) (x1 : Int) (i5 : Int) : Option (Sum H145_0 (Sum E145_0 Q145_0)) :=
  bif decide (i5 < ((List.length list0 : Nat) : Int)) then
    bif decide ((0 : Int) ≤ i5) then Option.bind ((list0)[Int.toNat i5]?) fun r1 =>
      bif decide (r1.1 = x1) then
        some (.inr (.inr (true, ())))
      else
        some (.inl (list0, x1, IntKind.i64.wrap (i5 + (1 : Int)), ()))
    else none
  else
    some (.inr (.inl (())))
noncomputable def spec_l05In_r0 (x : H145_0) : Option (Sum H145_0 (Sum E145_0 Q145_0)) := spec_l05In_c0 x.1 x.2.1 x.2.2.1
noncomputable def L145 {R : Type} : Loops R := fun id _ st k => bif Nat.beq id 0 then loopAt hp145_0 e145_0 q145_0 spec_l05In_r0 st k else none
noncomputable def spec_l05In (list0 : List (Int × Unit)) (x1 : Int) : Option (Bool × Unit) :=
  outK (loopV spec_l05In_r0 (list0, x1, (0 : Int), ())) (fun y1 =>
    some (false, ())) (fun y2 =>
    some (y2.1, ()))
noncomputable def x145 (x : (List (Int × Unit)) × Int × Unit) : Option (Bool × Unit) := spec_l05In x.1 x.2.1
noncomputable def sem145 : Sem1 := semOf ps145 rs145 x145
theorem so145 : SemsOk Try.prog (semsOf sl145) := sems_nil
noncomputable def b145_0 : Code := nthLoop code145 0
theorem t145_r0_eq (x : denR (headRT hp145_0)) : codeK (tabOf tr) (semsOf sl145) D145 L145 b145_0 (headSt hp145_0 x) (roundK 0 hp145_0 e145_0 q145_0) = spec_l05In_r0 x := by kernel_rfl
theorem loop145_0 {R : Type} (r : R) (w0 : World) (mu : Mu) (hs : AnShape ps145 mu) : LoopAt Try.prog w0 mu 18 (L145 : Loops R) r 0 b145_0 :=
  loop_auto tr_ok eq_ok mixed_ok so145 (D := D145) hs (by kernel_rfl) (fun _ => (loops_of (l := []) (by kernel_rfl) (List.forall_mem_nil _))) t145_r0_eq (fun _ _ => rfl)
theorem t145_eq (x : denR (headRT (ps145.map some))) : codeK (tabOf tr) (semsOf sl145) D145 L145 code145 (start 18 ps145 x) (finK rs145 ps145) = x145 x := by kernel_rfl
theorem k145 : Known Try.prog 145 sem145 :=
  fn_auto tr_ok eq_ok mixed_ok so145 (D := D145) (code := code145) (n := 18) Try.func145 (by kernel_rfl) (by kernel_rfl) (by kernel_rfl) (fun w0 mu _ hs => (loops_of (l := [(0, b145_0)]) (by kernel_rfl) (List.forall_mem_cons.2 ⟨loop145_0 _ w0 mu hs, (List.forall_mem_nil _)⟩))) t145_eq

/-! ### f161: spec.ItemOk -/
noncomputable def code161 : Code := match Try.f161.body with | some c => c | none => .skip
def ps161 : List AP := [.val true [.int .i64, .int .i64, .int .i64, .str]]
def rs161 : List RP := [{ src := .tmp 2, agg := false, ps := [.bool] }]
noncomputable def sl161 : SemL := [(144, (.shr, .shr, .shr, sem144))]
def D161 : Draws := fun _ => .nil
noncomputable def L161 {R : Type} : Loops R := fun _ _ _ _ => none
noncomputable def spec_ItemOk (m0c0 : Int) (m0c1 : Int) (m0c2 : Int) (m0c3 : ByteArray) : Option (Bool × Unit) :=
  Option.bind (spec_l01In m0c0 (1 : Int) (60 : Int)) fun y1 =>
  bif y1.1 then
    Option.bind (spec_l01In m0c1 (1 : Int) (5 : Int)) fun y2 =>
    bif y2.1 then
      Option.bind (spec_l01In m0c2 (1 : Int) (2 : Int)) fun y3 =>
      bif y3.1 then
        some (decide (((ByteArray.size m0c3 : Nat) : Int) ≤ (60 : Int)), ())
      else
        some (false, ())
    else
      some (false, ())
  else
    some (false, ())
noncomputable def x161 (x : Int × Int × Int × ByteArray × Unit) : Option (Bool × Unit) := spec_ItemOk x.1 x.2.1 x.2.2.1 x.2.2.2.1
noncomputable def sem161 : Sem1 := semOf ps161 rs161 x161
theorem so161 : SemsOk Try.prog (semsOf sl161) := sems_cons k144 (sems_nil)
theorem t161_eq (x : denR (headRT (ps161.map some))) : codeK (tabOf tr) (semsOf sl161) D161 L161 code161 (start 22 ps161 x) (finK rs161 ps161) = x161 x := by kernel_rfl
theorem k161 : Known Try.prog 161 sem161 :=
  fn_auto tr_ok eq_ok mixed_ok so161 (D := D161) (code := code161) (n := 22) Try.func161 (by kernel_rfl) (by kernel_rfl) (by kernel_rfl) (fun w0 mu _ hs => (loops_of (l := []) (by kernel_rfl) (List.forall_mem_nil _))) t161_eq

/-! ### f156: spec.ItemsOk -/
noncomputable def code156 : Code := match Try.f156.body with | some c => c | none => .skip
def ps156 : List AP := [.val false [.shr T_iiis]]
def rs156 : List RP := [{ src := .tmp 2, agg := false, ps := [.bool] }]
noncomputable def sl156 : SemL := [(161, (.shr, .shr, .shr, sem161))]
def D156 : Draws := fun id => bif Nat.beq id 4 then .op 0 .any (.op 1 .any (.op 2 .any (.op 3 .take (.op 4 .one (.op 5 .any (.op 6 .any (.op 7 .any (.op 8 .any (.op 9 .any (.op 10 .any (.op 11 .any (.op 12 .any (.op 13 .any (.op 14 .any (.op 15 .take (.op 16 .any (.op 17 .any (.op 18 .any (.op 19 .any (.op 20 .take (.op 21 .any (.op 22 .any (.op 23 .any (.nil)))))))))))))))))))))))) else .nil
def hp156_0 : List (Option AP) := [some (.val false [.shr T_iiis]), none, none, some (.val false [.int .i64]), none, none, none, none, none, none, none, none, none, none, none, none, none, none, none, none, none, none, none, none, none, none, none, none, none, none, none, none, none, none, none]
def e156_0 : List (Option AP) := [none, none, none, none, none, none, none, none, none, none, none, none, none, none, none, none, none, none, none, none, none, none, none, none, none, none, none, none, none, none, none, none, none, none, none]
def q156_0 : List (Option AP) := [none, none, some (.val false [.bool]), none, none, none, none, none, none, none, none, none, none, none, none, none, none, none, none, none, none, none, none, none, none, none, none, none, none, none, none, none, none, none, none]
abbrev H156_0 : Type := (List R_iiis) × Int × Unit
abbrev E156_0 : Type := Unit
abbrev Q156_0 : Type := Bool × Unit
noncomputable def spec_ItemsOk_c0 (list0 : List R_iiis) (i3 : Int) : Option (Sum H156_0 (Sum E156_0 Q156_0)) :=
  bif decide (i3 < ((List.length list0 : Nat) : Int)) then
    bif decide ((0 : Int) ≤ i3) then Option.bind ((list0)[Int.toNat i3]?) fun r1 =>
      Option.bind (spec_ItemOk r1.1 r1.2.1 r1.2.2.1 r1.2.2.2.1) fun y2 =>
      bif !y2.1 then
        some (.inr (.inr (false, ())))
      else bif decide ((0 : Int) < i3) then
        bif decide ((0 : Int) ≤ IntKind.i64.wrap (i3 - (1 : Int))) then Option.bind ((list0)[Int.toNat (IntKind.i64.wrap (i3 - (1 : Int)))]?) fun r3 =>
          bif decide ((0 : Int) ≤ i3) then Option.bind ((list0)[Int.toNat i3]?) fun r4 =>
            bif decide (r4.1 ≤ r3.1) then
              some (.inr (.inr (false, ())))
            else
              some (.inl (list0, IntKind.i64.wrap (i3 + (1 : Int)), ()))
          else none
        else none
      else
        some (.inl (list0, IntKind.i64.wrap (i3 + (1 : Int)), ()))
    else none
  else
    some (.inr (.inl (())))
noncomputable def spec_ItemsOk_r0 (x : H156_0) : Option (Sum H156_0 (Sum E156_0 Q156_0)) := spec_ItemsOk_c0 x.1 x.2.1
noncomputable def L156 {R : Type} : Loops R := fun id _ st k => bif Nat.beq id 0 then loopAt hp156_0 e156_0 q156_0 spec_ItemsOk_r0 st k else none
noncomputable def spec_ItemsOk (list0 : List R_iiis) : Option (Bool × Unit) :=
  outK (loopV spec_ItemsOk_r0 (list0, (0 : Int), ())) (fun y1 =>
    some (true, ())) (fun y2 =>
    some (y2.1, ()))
noncomputable def x156 (x : (List R_iiis) × Unit) : Option (Bool × Unit) := spec_ItemsOk x.1
noncomputable def sem156 : Sem1 := semOf ps156 rs156 x156
theorem so156 : SemsOk Try.prog (semsOf sl156) := sems_cons k161 (sems_nil)
noncomputable def b156_0 : Code := nthLoop code156 0
theorem t156_r0_eq (x : denR (headRT hp156_0)) : codeK (tabOf tr) (semsOf sl156) D156 L156 b156_0 (headSt hp156_0 x) (roundK 0 hp156_0 e156_0 q156_0) = spec_ItemsOk_r0 x := by kernel_rfl
theorem loop156_0 {R : Type} (r : R) (w0 : World) (mu : Mu) (hs : AnShape ps156 mu) : LoopAt Try.prog w0 mu 34 (L156 : Loops R) r 0 b156_0 :=
  loop_auto tr_ok eq_ok mixed_ok so156 (D := D156) hs (by kernel_rfl) (fun _ => (loops_of (l := []) (by kernel_rfl) (List.forall_mem_nil _))) t156_r0_eq (fun _ _ => rfl)
theorem t156_eq (x : denR (headRT (ps156.map some))) : codeK (tabOf tr) (semsOf sl156) D156 L156 code156 (start 34 ps156 x) (finK rs156 ps156) = x156 x := by kernel_rfl
theorem k156 : Known Try.prog 156 sem156 :=
  fn_auto tr_ok eq_ok mixed_ok so156 (D := D156) (code := code156) (n := 34) Try.func156 (by kernel_rfl) (by kernel_rfl) (by kernel_rfl) (fun w0 mu _ hs => (loops_of (l := [(0, b156_0)]) (by kernel_rfl) (List.forall_mem_cons.2 ⟨loop156_0 _ w0 mu hs, (List.forall_mem_nil _)⟩))) t156_eq

/-! ### f174: spec.l10Texts -/
noncomputable def code174 : Code := match Try.f174.body with | some c => c | none => .skip
def ps174 : List AP := [.val false [.shr T_i], .val false [.shr T_s]]
def rs174 : List RP := [{ src := .tmp 4, agg := false, ps := [.bool] }]
noncomputable def sl174 : SemL := [(144, (.shr, .shr, .shr, sem144))]
def D174 : Draws := fun _ => .nil
def hp174_0 : List (Option AP) := [some (.val false [.shr T_i]), some (.val false [.shr T_s]), none, none, none, some (.val false [.int .i64]), none, none, none, none, none, none, none, none, none, none, none, none, none, none, none, none, none, none, none, none, none, none, none, none, none, none, none, none, none, none, none, none, none, none, none, none, none]
def e174_0 : List (Option AP) := [some (.val false [.shr T_i]), some (.val false [.shr T_s]), none, none, none, none, none, none, none, none, none, none, none, none, none, none, none, none, none, none, none, none, none, none, none, none, none, none, none, none, none, none, none, none, none, none, none, none, none, none, none, none, none]
def q174_0 : List (Option AP) := [none, none, none, none, some (.val false [.bool]), none, none, none, none, none, none, none, none, none, none, none, none, none, none, none, none, none, none, none, none, none, none, none, none, none, none, none, none, none, none, none, none, none, none, none, none, none, none]
abbrev H174_0 : Type := (List (Int × Unit)) × (List (ByteArray × Unit)) × Int × Unit
abbrev E174_0 : Type := (List (Int × Unit)) × (List (ByteArray × Unit)) × Unit
abbrev Q174_0 : Type := Bool × Unit
noncomputable def spec_l10Texts_c0 (level0 : List (Int × Unit)) (texts1 : List (ByteArray × Unit)) (i5 : Int) : Option (Sum H174_0 (Sum E174_0 Q174_0)) :=
  bif decide (i5 < ((List.length texts1 : Nat) : Int)) then
    bif decide (i5 < ((List.length level0 : Nat) : Int)) then
      bif decide ((0 : Int) ≤ i5) then Option.bind ((level0)[Int.toNat i5]?) fun r1 =>
        Option.bind (spec_l01In r1.1 (1 : Int) (2 : Int)) fun y2 =>
        bif !y2.1 then
          some (.inr (.inr (false, ())))
        else bif decide ((0 : Int) ≤ i5) then Option.bind ((texts1)[Int.toNat i5]?) fun r3 =>
          bif decide ((60 : Int) < ((ByteArray.size r3.1 : Nat) : Int)) then
            some (.inr (.inr (false, ())))
          else
            some (.inl (level0, texts1, IntKind.i64.wrap (i5 + (1 : Int)), ()))
        else none
      else none
    else
      some (.inr (.inl (level0, texts1, ())))
  else
    some (.inr (.inl (level0, texts1, ())))
noncomputable def spec_l10Texts_r0 (x : H174_0) : Option (Sum H174_0 (Sum E174_0 Q174_0)) := spec_l10Texts_c0 x.1 x.2.1 x.2.2.1
noncomputable def L174 {R : Type} : Loops R := fun id _ st k => bif Nat.beq id 0 then loopAt hp174_0 e174_0 q174_0 spec_l10Texts_r0 st k else none
noncomputable def spec_l10Texts (level0 : List (Int × Unit)) (texts1 : List (ByteArray × Unit)) : Option (Bool × Unit) :=
  outK (loopV spec_l10Texts_r0 (level0, texts1, (0 : Int), ())) (fun y1 =>
    bif decide (((List.length y1.2.1 : Nat) : Int) ≤ (20 : Int)) then
      some (decide (((List.length y1.1 : Nat) : Int) = ((List.length y1.2.1 : Nat) : Int)), ())
    else
      some (false, ())) (fun y2 =>
    some (y2.1, ()))
noncomputable def x174 (x : (List (Int × Unit)) × (List (ByteArray × Unit)) × Unit) : Option (Bool × Unit) := spec_l10Texts x.1 x.2.1
noncomputable def sem174 : Sem1 := semOf ps174 rs174 x174
theorem so174 : SemsOk Try.prog (semsOf sl174) := sems_cons k144 (sems_nil)
noncomputable def b174_0 : Code := nthLoop code174 0
theorem t174_r0_eq (x : denR (headRT hp174_0)) : codeK (tabOf tr) (semsOf sl174) D174 L174 b174_0 (headSt hp174_0 x) (roundK 0 hp174_0 e174_0 q174_0) = spec_l10Texts_r0 x := by kernel_rfl
theorem loop174_0 {R : Type} (r : R) (w0 : World) (mu : Mu) (hs : AnShape ps174 mu) : LoopAt Try.prog w0 mu 42 (L174 : Loops R) r 0 b174_0 :=
  loop_auto tr_ok eq_ok mixed_ok so174 (D := D174) hs (by kernel_rfl) (fun _ => (loops_of (l := []) (by kernel_rfl) (List.forall_mem_nil _))) t174_r0_eq (fun _ _ => rfl)
theorem t174_eq (x : denR (headRT (ps174.map some))) : codeK (tabOf tr) (semsOf sl174) D174 L174 code174 (start 42 ps174 x) (finK rs174 ps174) = x174 x := by kernel_rfl
theorem k174 : Known Try.prog 174 sem174 :=
  fn_auto tr_ok eq_ok mixed_ok so174 (D := D174) (code := code174) (n := 42) Try.func174 (by kernel_rfl) (by kernel_rfl) (by kernel_rfl) (fun w0 mu _ hs => (loops_of (l := [(0, b174_0)]) (by kernel_rfl) (List.forall_mem_cons.2 ⟨loop174_0 _ w0 mu hs, (List.forall_mem_nil _)⟩))) t174_eq

/-! ### f186: spec.ItemAt -/
noncomputable def code186 : Code := match Try.f186.body with | some c => c | none => .skip
def ps186 : List AP := [.val false [.shr T_iiis], .val false [.int .i64]]
def rs186 : List RP := [{ src := .cell 4, agg := true, ps := [.int .i64, .int .i64, .int .i64, .str] }, { src := .tmp 5, agg := false, ps := [.bool] }]
noncomputable def sl186 : SemL := []
def D186 : Draws := fun _ => .nil
def hp186_0 : List (Option AP) := [some (.val false [.shr T_iiis]), some (.val false [.int .i64]), none, none, some (.box false [.int .i64, .int .i64, .int .i64, .str]), none, some (.val false [.int .i64]), none, none, none, none, none, none, none, none, none, none, none, none, none, none, none, none, none, none, none]
def e186_0 : List (Option AP) := [none, none, none, none, some (.box false [.int .i64, .int .i64, .int .i64, .str]), none, none, none, none, none, none, none, none, none, none, none, none, none, none, none, none, none, none, none, none, none]
def q186_0 : List (Option AP) := [none, none, none, none, some (.box false [.int .i64, .int .i64, .int .i64, .str]), some (.val false [.bool]), none, none, none, none, none, none, none, none, none, none, none, none, none, none, none, none, none, none, none, none]
abbrev H186_0 : Type := (List R_iiis) × Int × Int × Int × Int × ByteArray × Int × Unit
abbrev E186_0 : Type := Int × Int × Int × ByteArray × Unit
abbrev Q186_0 : Type := Int × Int × Int × ByteArray × Bool × Unit
noncomputable def spec_ItemAt_c0 (list0 : List R_iiis) (seq1 : Int) (t4c0 : Int) (t4c1 : Int) (t4c2 : Int) (t4c3 : ByteArray) (i6 : Int) : Option (Sum H186_0 (Sum E186_0 Q186_0)) :=
  bif decide (i6 < ((List.length list0 : Nat) : Int)) then
    bif decide ((0 : Int) ≤ i6) then Option.bind ((list0)[Int.toNat i6]?) fun r1 =>
      bif decide (r1.1 = seq1) then
        bif decide ((0 : Int) ≤ i6) then Option.bind ((list0)[Int.toNat i6]?) fun r2 =>
          some (.inr (.inr (r2.1, r2.2.1, r2.2.2.1, r2.2.2.2.1, true, ())))
        else none
      else
        some (.inl (list0, seq1, t4c0, t4c1, t4c2, t4c3, IntKind.i64.wrap (i6 + (1 : Int)), ()))
    else none
  else
    some (.inr (.inl (t4c0, t4c1, t4c2, t4c3, ())))
noncomputable def spec_ItemAt_r0 (x : H186_0) : Option (Sum H186_0 (Sum E186_0 Q186_0)) := spec_ItemAt_c0 x.1 x.2.1 x.2.2.1 x.2.2.2.1 x.2.2.2.2.1 x.2.2.2.2.2.1 x.2.2.2.2.2.2.1
noncomputable def L186 {R : Type} : Loops R := fun id _ st k => bif Nat.beq id 0 then loopAt hp186_0 e186_0 q186_0 spec_ItemAt_r0 st k else none
noncomputable def spec_ItemAt (list0 : List R_iiis) (seq1 : Int) : Option (Int × Int × Int × ByteArray × Bool × Unit) :=
  outK (loopV spec_ItemAt_r0 (list0, seq1, (0 : Int), (0 : Int), (0 : Int), ByteArray.empty, (0 : Int), ())) (fun y1 =>
    some ((0 : Int), (0 : Int), (0 : Int), ByteArray.empty, false, ())) (fun y2 =>
    some (y2.1, y2.2.1, y2.2.2.1, y2.2.2.2.1, y2.2.2.2.2.1, ()))
noncomputable def x186 (x : (List R_iiis) × Int × Unit) : Option (Int × Int × Int × ByteArray × Bool × Unit) := spec_ItemAt x.1 x.2.1
noncomputable def sem186 : Sem1 := semOf ps186 rs186 x186
theorem so186 : SemsOk Try.prog (semsOf sl186) := sems_nil
noncomputable def b186_0 : Code := nthLoop code186 0
theorem t186_r0_eq (x : denR (headRT hp186_0)) : codeK (tabOf tr) (semsOf sl186) D186 L186 b186_0 (headSt hp186_0 x) (roundK 0 hp186_0 e186_0 q186_0) = spec_ItemAt_r0 x := by kernel_rfl
theorem loop186_0 {R : Type} (r : R) (w0 : World) (mu : Mu) (hs : AnShape ps186 mu) : LoopAt Try.prog w0 mu 25 (L186 : Loops R) r 0 b186_0 :=
  loop_auto tr_ok eq_ok mixed_ok so186 (D := D186) hs (by kernel_rfl) (fun _ => (loops_of (l := []) (by kernel_rfl) (List.forall_mem_nil _))) t186_r0_eq (fun _ _ => rfl)
theorem t186_eq (x : denR (headRT (ps186.map some))) : codeK (tabOf tr) (semsOf sl186) D186 L186 code186 (start 25 ps186 x) (finK rs186 ps186) = x186 x := by kernel_rfl
theorem k186 : Known Try.prog 186 sem186 :=
  fn_auto tr_ok eq_ok mixed_ok so186 (D := D186) (code := code186) (n := 25) Try.func186 (by kernel_rfl) (by kernel_rfl) (by kernel_rfl) (fun w0 mu _ hs => (loops_of (l := [(0, b186_0)]) (by kernel_rfl) (List.forall_mem_cons.2 ⟨loop186_0 _ w0 mu hs, (List.forall_mem_nil _)⟩))) t186_eq

/-! ### f155: spec.AruOf -/
noncomputable def code155 : Code := match Try.f155.body with | some c => c | none => .skip
def ps155 : List AP := [.val false [.shr T_iiis]]
def rs155 : List RP := [{ src := .tmp 2, agg := false, ps := [.int .i64] }]
noncomputable def sl155 : SemL := [(186, (.shr, .shr, .shr, sem186))]
def D155 : Draws := fun _ => .nil
def hp155_0 : List (Option AP) := [some (.val false [.shr T_iiis]), none, none, some (.val false [.int .i64]), some (.val false [.int .i64]), none, none, none, none, none, none, none, none, none, none, none, none, none, none, none, none, none, none, none, none, none, none]
def e155_0 : List (Option AP) := [none, none, none, some (.val false [.int .i64]), none, none, none, none, none, none, none, none, none, none, none, none, none, none, none, none, none, none, none, none, none, none, none]
def q155_0 : List (Option AP) := [none, none, some (.val false [.int .i64]), none, none, none, none, none, none, none, none, none, none, none, none, none, none, none, none, none, none, none, none, none, none, none, none]
abbrev H155_0 : Type := (List R_iiis) × Int × Int × Unit
abbrev E155_0 : Type := Int × Unit
abbrev Q155_0 : Type := Int × Unit
noncomputable def spec_AruOf_c0 (list0 : List R_iiis) (n3 : Int) (i4 : Int) : Option (Sum H155_0 (Sum E155_0 Q155_0)) :=
  bif decide (i4 < ((List.length list0 : Nat) : Int)) then
    Option.bind (spec_ItemAt list0 (IntKind.i64.wrap (n3 + (1 : Int)))) fun y1 =>
    bif !y1.2.2.2.2.1 then
      some (.inr (.inr (n3, ())))
    else
      some (.inl (list0, IntKind.i64.wrap (n3 + (1 : Int)), IntKind.i64.wrap (i4 + (1 : Int)), ()))
  else
    some (.inr (.inl (n3, ())))
noncomputable def spec_AruOf_r0 (x : H155_0) : Option (Sum H155_0 (Sum E155_0 Q155_0)) := spec_AruOf_c0 x.1 x.2.1 x.2.2.1
noncomputable def L155 {R : Type} : Loops R := fun id _ st k => bif Nat.beq id 0 then loopAt hp155_0 e155_0 q155_0 spec_AruOf_r0 st k else none
noncomputable def spec_AruOf (list0 : List R_iiis) : Option (Int × Unit) :=
  outK (loopV spec_AruOf_r0 (list0, (0 : Int), (0 : Int), ())) (fun y1 =>
    some (y1.1, ())) (fun y2 =>
    some (y2.1, ()))
noncomputable def x155 (x : (List R_iiis) × Unit) : Option (Int × Unit) := spec_AruOf x.1
noncomputable def sem155 : Sem1 := semOf ps155 rs155 x155
theorem so155 : SemsOk Try.prog (semsOf sl155) := sems_cons k186 (sems_nil)
noncomputable def b155_0 : Code := nthLoop code155 0
theorem t155_r0_eq (x : denR (headRT hp155_0)) : codeK (tabOf tr) (semsOf sl155) D155 L155 b155_0 (headSt hp155_0 x) (roundK 0 hp155_0 e155_0 q155_0) = spec_AruOf_r0 x := by kernel_rfl
theorem loop155_0 {R : Type} (r : R) (w0 : World) (mu : Mu) (hs : AnShape ps155 mu) : LoopAt Try.prog w0 mu 26 (L155 : Loops R) r 0 b155_0 :=
  loop_auto tr_ok eq_ok mixed_ok so155 (D := D155) hs (by kernel_rfl) (fun _ => (loops_of (l := []) (by kernel_rfl) (List.forall_mem_nil _))) t155_r0_eq (fun _ _ => rfl)
theorem t155_eq (x : denR (headRT (ps155.map some))) : codeK (tabOf tr) (semsOf sl155) D155 L155 code155 (start 26 ps155 x) (finK rs155 ps155) = x155 x := by kernel_rfl
theorem k155 : Known Try.prog 155 sem155 :=
  fn_auto tr_ok eq_ok mixed_ok so155 (D := D155) (code := code155) (n := 26) Try.func155 (by kernel_rfl) (by kernel_rfl) (by kernel_rfl) (fun w0 mu _ hs => (loops_of (l := [(0, b155_0)]) (by kernel_rfl) (List.forall_mem_cons.2 ⟨loop155_0 _ w0 mu hs, (List.forall_mem_nil _)⟩))) t155_eq

/-! ### f176: spec.TokenOk -/
noncomputable def code176 : Code := match Try.f176.body with | some c => c | none => .skip
def ps176 : List AP := [.val true [.int .i64, .int .i64, .int .i64, .int .i64, .int .i64, .shr T_i]]
def rs176 : List RP := [{ src := .tmp 2, agg := false, ps := [.bool] }]
noncomputable def sl176 : SemL := [(144, (.shr, .shr, .shr, sem144))]
def D176 : Draws := fun id => bif Nat.beq id 6 then .op 0 .any (.op 1 .take (.op 2 .any (.op 3 .any (.op 4 .take (.op 5 .any (.op 6 .take (.op 7 .one (.op 8 .any (.op 9 .any (.op 10 .any (.op 11 .any (.op 12 .any (.op 13 .any (.op 14 .take (.op 15 .any (.op 16 .any (.op 17 .any (.op 18 .take (.op 19 .any (.op 20 .take (.op 21 .any (.op 22 .any (.op 23 .take (.op 24 .any (.op 25 .any (.op 26 .any (.nil))))))))))))))))))))))))))) else .nil
def hp176_0 : List (Option AP) := [none, some (.box false [.int .i64, .int .i64, .int .i64, .int .i64, .int .i64, .shr T_i]), none, some (.val false [.int .i64]), none, none, none, none, none, none, none, none, none, none, none, none, none, none, none, none, none, none, none, none, none, none, none, none, none, none, none, none, none, none, none, none, none, none, none, none, none, none, none, none, none, none, none, none, none, none, none, none, none, none, none, none, none, none, none, none, none, none, none, none, none, none, none, none, none, none, none, none, none, none, none]
def e176_0 : List (Option AP) := [none, none, none, none, none, none, none, none, none, none, none, none, none, none, none, none, none, none, none, none, none, none, none, none, none, none, none, none, none, none, none, none, none, none, none, none, none, none, none, none, none, none, none, none, none, none, none, none, none, none, none, none, none, none, none, none, none, none, none, none, none, none, none, none, none, none, none, none, none, none, none, none, none, none, none]
def q176_0 : List (Option AP) := [none, none, some (.val false [.bool]), none, none, none, none, none, none, none, none, none, none, none, none, none, none, none, none, none, none, none, none, none, none, none, none, none, none, none, none, none, none, none, none, none, none, none, none, none, none, none, none, none, none, none, none, none, none, none, none, none, none, none, none, none, none, none, none, none, none, none, none, none, none, none, none, none, none, none, none, none, none, none, none]
abbrev H176_0 : Type := Int × Int × Int × Int × Int × (List (Int × Unit)) × Int × Unit
abbrev E176_0 : Type := Unit
abbrev Q176_0 : Type := Bool × Unit
noncomputable def spec_TokenOk_c0 (t1c0 : Int) (t1c1 : Int) (t1c2 : Int) (t1c3 : Int) (t1c4 : Int) (t1c5 : List (Int × Unit)) (i3 : Int) : Option (Sum H176_0 (Sum E176_0 Q176_0)) :=
  bif decide (i3 < ((List.length t1c5 : Nat) : Int)) then
    bif decide ((0 : Int) ≤ i3) then Option.bind ((t1c5)[Int.toNat i3]?) fun r6 =>
      Option.bind (spec_l01In r6.1 (1 : Int) t1c2) fun y7 =>
      bif !y7.1 then
        some (.inr (.inr (false, ())))
      else bif decide ((0 : Int) < i3) then
        bif decide ((0 : Int) ≤ IntKind.i64.wrap (i3 - (1 : Int))) then Option.bind ((t1c5)[Int.toNat (IntKind.i64.wrap (i3 - (1 : Int)))]?) fun r8 =>
          bif decide ((0 : Int) ≤ i3) then Option.bind ((t1c5)[Int.toNat i3]?) fun r9 =>
            bif decide (r9.1 ≤ r8.1) then
              some (.inr (.inr (false, ())))
            else
              some (.inl (t1c0, t1c1, t1c2, t1c3, t1c4, t1c5, IntKind.i64.wrap (i3 + (1 : Int)), ()))
          else none
        else none
      else
        some (.inl (t1c0, t1c1, t1c2, t1c3, t1c4, t1c5, IntKind.i64.wrap (i3 + (1 : Int)), ()))
    else none
  else
    some (.inr (.inl (())))
noncomputable def spec_TokenOk_r0 (x : H176_0) : Option (Sum H176_0 (Sum E176_0 Q176_0)) := spec_TokenOk_c0 x.1 x.2.1 x.2.2.1 x.2.2.2.1 x.2.2.2.2.1 x.2.2.2.2.2.1 x.2.2.2.2.2.2.1
noncomputable def L176 {R : Type} : Loops R := fun id _ st k => bif Nat.beq id 0 then loopAt hp176_0 e176_0 q176_0 spec_TokenOk_r0 st k else none
noncomputable def spec_TokenOk (t0c0 : Int) (t0c1 : Int) (t0c2 : Int) (t0c3 : Int) (t0c4 : Int) (t0c5 : List (Int × Unit)) : Option (Bool × Unit) :=
  Option.bind (spec_l01In t0c0 (1 : Int) (9 : Int)) fun y1 =>
  bif !y1.1 then
    some (false, ())
  else
    Option.bind (spec_l01In t0c1 (1 : Int) (1000000000 : Int)) fun y2 =>
    bif !y2.1 then
      some (false, ())
    else
      Option.bind (spec_l01In t0c2 (0 : Int) (60 : Int)) fun y3 =>
      bif !y3.1 then
        some (false, ())
      else
        Option.bind (spec_l01In t0c3 (0 : Int) t0c2) fun y4 =>
        bif !y4.1 then
          some (false, ())
        else
          Option.bind (spec_l01In t0c4 (0 : Int) (5 : Int)) fun y5 =>
          bif !y5.1 then
            some (false, ())
          else bif decide ((20 : Int) < ((List.length t0c5 : Nat) : Int)) then
            some (false, ())
          else
            outK (loopV spec_TokenOk_r0 (t0c0, t0c1, t0c2, t0c3, t0c4, t0c5, (0 : Int), ())) (fun y6 =>
              some (true, ())) (fun y7 =>
              some (y7.1, ()))
noncomputable def x176 (x : Int × Int × Int × Int × Int × (List (Int × Unit)) × Unit) : Option (Bool × Unit) := spec_TokenOk x.1 x.2.1 x.2.2.1 x.2.2.2.1 x.2.2.2.2.1 x.2.2.2.2.2.1
noncomputable def sem176 : Sem1 := semOf ps176 rs176 x176
theorem so176 : SemsOk Try.prog (semsOf sl176) := sems_cons k144 (sems_nil)
noncomputable def b176_0 : Code := nthLoop code176 0
theorem t176_r0_eq (x : denR (headRT hp176_0)) : codeK (tabOf tr) (semsOf sl176) D176 L176 b176_0 (headSt hp176_0 x) (roundK 0 hp176_0 e176_0 q176_0) = spec_TokenOk_r0 x := by kernel_rfl
theorem loop176_0 {R : Type} (r : R) (w0 : World) (mu : Mu) (hs : AnShape ps176 mu) : LoopAt Try.prog w0 mu 74 (L176 : Loops R) r 0 b176_0 :=
  loop_auto tr_ok eq_ok mixed_ok so176 (D := D176) hs (by kernel_rfl) (fun _ => (loops_of (l := []) (by kernel_rfl) (List.forall_mem_nil _))) t176_r0_eq (fun _ _ => rfl)
theorem t176_eq (x : denR (headRT (ps176.map some))) : codeK (tabOf tr) (semsOf sl176) D176 L176 code176 (start 74 ps176 x) (finK rs176 ps176) = x176 x := by kernel_rfl
theorem k176 : Known Try.prog 176 sem176 :=
  fn_auto tr_ok eq_ok mixed_ok so176 (D := D176) (code := code176) (n := 74) Try.func176 (by kernel_rfl) (by kernel_rfl) (by kernel_rfl) (fun w0 mu _ hs => (loops_of (l := [(0, b176_0)]) (by kernel_rfl) (List.forall_mem_cons.2 ⟨loop176_0 _ w0 mu hs, (List.forall_mem_nil _)⟩))) t176_eq

/-! ### f134: spec.MateOk -/
noncomputable def code134 : Code := match Try.f134.body with | some c => c | none => .skip
def ps134 : List AP := [.val true [.int .i64, .int .i64, .shr T_i, .shr T_iiis, .shr T_i, .shr T_s, .int .i64, .int .i64, .int .i64, .int .i64, .int .i64, .int .i64, .int .i64, .int .i64, .int .i64, .shr T_i]]
def rs134 : List RP := [{ src := .tmp 2, agg := false, ps := [.bool] }]
noncomputable def sl134 : SemL := [(63, (.shr, .shr, .shr, sem63)), (145, (.shr, .shr, .shr, sem145)), (156, (.shr, .shr, .shr, sem156)), (174, (.shr, .shr, .shr, sem174)), (144, (.shr, .shr, .shr, sem144)), (155, (.shr, .shr, .shr, sem155)), (175, (.shr, .shr, .shr, sem175)), (176, (.shr, .shr, .shr, sem176))]
def D134 : Draws := fun _ => .nil
noncomputable def L134 {R : Type} : Loops R := fun _ _ _ _ => none
noncomputable def spec_MateOk (m0c0 : Int) (m0c1 : Int) (m0c2 : List (Int × Unit)) (m0c3 : List R_iiis) (m0c4 : List (Int × Unit)) (m0c5 : List (ByteArray × Unit)) (m0c6 : Int) (m0c7 : Int) (m0c8 : Int) (m0c9 : Int) (m0c10 : Int) (m0c11 : Int) (m0c12 : Int) (m0c13 : Int) (m0c14 : Int) (m0c15 : List (Int × Unit)) : Option (Bool × Unit) :=
  Option.bind (spec_RingOk m0c1 m0c2) fun y1 =>
  bif !y1.1 then
    some (false, ())
  else
    Option.bind (spec_l05In m0c2 m0c0) fun y2 =>
    bif !y2.1 then
      some (false, ())
    else
      Option.bind (spec_ItemsOk m0c3) fun y3 =>
      bif !y3.1 then
        some (false, ())
      else
        Option.bind (spec_l10Texts m0c4 m0c5) fun y4 =>
        bif !y4.1 then
          some (false, ())
        else
          Option.bind (spec_l01In m0c6 (0 : Int) (1000000000 : Int)) fun y5 =>
          bif !y5.1 then
            some (false, ())
          else
            Option.bind (spec_l01In m0c7 (0 : Int) (60 : Int)) fun y6 =>
            bif !y6.1 then
              some (false, ())
            else
              Option.bind (spec_AruOf m0c3) fun y7 =>
              Option.bind (spec_l01In m0c8 (0 : Int) y7.1) fun y8 =>
              bif y8.1 then
                Option.bind (spec_l01In m0c9 (0 : Int) y7.1) fun y9 =>
                bif y9.1 then
                  Option.bind (spec_l10Blank m0c10 m0c11 m0c12 m0c13 m0c14 m0c15) fun y10 =>
                  bif y10.1 then
                    some (true, ())
                  else
                    Option.bind (spec_TokenOk m0c10 m0c11 m0c12 m0c13 m0c14 m0c15) fun y11 =>
                    some (y11.1, ())
                else
                  some (false, ())
              else
                some (false, ())
noncomputable def x134 (x : Int × Int × (List (Int × Unit)) × (List R_iiis) × (List (Int × Unit)) × (List (ByteArray × Unit)) × Int × Int × Int × Int × Int × Int × Int × Int × Int × (List (Int × Unit)) × Unit) : Option (Bool × Unit) := spec_MateOk x.1 x.2.1 x.2.2.1 x.2.2.2.1 x.2.2.2.2.1 x.2.2.2.2.2.1 x.2.2.2.2.2.2.1 x.2.2.2.2.2.2.2.1 x.2.2.2.2.2.2.2.2.1 x.2.2.2.2.2.2.2.2.2.1 x.2.2.2.2.2.2.2.2.2.2.1 x.2.2.2.2.2.2.2.2.2.2.2.1 x.2.2.2.2.2.2.2.2.2.2.2.2.1 x.2.2.2.2.2.2.2.2.2.2.2.2.2.1 x.2.2.2.2.2.2.2.2.2.2.2.2.2.2.1 x.2.2.2.2.2.2.2.2.2.2.2.2.2.2.2.1
noncomputable def sem134 : Sem1 := semOf ps134 rs134 x134
theorem so134 : SemsOk Try.prog (semsOf sl134) := sems_cons k63 (sems_cons k145 (sems_cons k156 (sems_cons k174 (sems_cons k144 (sems_cons k155 (sems_cons k175 (sems_cons k176 (sems_nil))))))))
theorem t134_eq (x : denR (headRT (ps134.map some))) : codeK (tabOf tr) (semsOf sl134) D134 L134 code134 (start 66 ps134 x) (finK rs134 ps134) = x134 x := by kernel_rfl
theorem k134 : Known Try.prog 134 sem134 :=
  fn_auto tr_ok eq_ok mixed_ok so134 (D := D134) (code := code134) (n := 66) Try.func134 (by kernel_rfl) (by kernel_rfl) (by kernel_rfl) (fun w0 mu _ hs => (loops_of (l := []) (by kernel_rfl) (List.forall_mem_nil _))) t134_eq

/-! ### f112: spec.BundleOk -/
noncomputable def code112 : Code := match Try.f112.body with | some c => c | none => .skip
def ps112 : List AP := [.val true [.int .i64, .int .i64, .int .i64, .shr T_iiis]]
def rs112 : List RP := [{ src := .tmp 2, agg := false, ps := [.bool] }]
noncomputable def sl112 : SemL := [(144, (.shr, .shr, .shr, sem144)), (156, (.shr, .shr, .shr, sem156))]
def D112 : Draws := fun _ => .nil
noncomputable def L112 {R : Type} : Loops R := fun _ _ _ _ => none
noncomputable def spec_BundleOk (b0c0 : Int) (b0c1 : Int) (b0c2 : Int) (b0c3 : List R_iiis) : Option (Bool × Unit) :=
  Option.bind (spec_l01In b0c0 (1 : Int) (5 : Int)) fun y1 =>
  bif y1.1 then
    Option.bind (spec_l01In b0c1 (1 : Int) (9 : Int)) fun y2 =>
    bif y2.1 then
      Option.bind (spec_l01In b0c2 (0 : Int) (IntKind.i64.wrap (b0c1 - (1 : Int)))) fun y3 =>
      bif y3.1 then
        Option.bind (spec_ItemsOk b0c3) fun y4 =>
        bif y4.1 then
          bif decide ((0 : Int) < b0c2) then
            some (true, ())
          else
            some (decide (((List.length b0c3 : Nat) : Int) = (0 : Int)), ())
        else
          some (false, ())
      else
        some (false, ())
    else
      some (false, ())
  else
    some (false, ())
noncomputable def x112 (x : Int × Int × Int × (List R_iiis) × Unit) : Option (Bool × Unit) := spec_BundleOk x.1 x.2.1 x.2.2.1 x.2.2.2.1
noncomputable def sem112 : Sem1 := semOf ps112 rs112 x112
theorem so112 : SemsOk Try.prog (semsOf sl112) := sems_cons k144 (sems_cons k156 (sems_nil))
theorem t112_eq (x : denR (headRT (ps112.map some))) : codeK (tabOf tr) (semsOf sl112) D112 L112 code112 (start 35 ps112 x) (finK rs112 ps112) = x112 x := by kernel_rfl
theorem k112 : Known Try.prog 112 sem112 :=
  fn_auto tr_ok eq_ok mixed_ok so112 (D := D112) (code := code112) (n := 35) Try.func112 (by kernel_rfl) (by kernel_rfl) (by kernel_rfl) (fun w0 mu _ hs => (loops_of (l := []) (by kernel_rfl) (List.forall_mem_nil _))) t112_eq

/-! ### f167: spec.DaemonOk -/
noncomputable def code167 : Code := match Try.f167.body with | some c => c | none => .skip
def ps167 : List AP := [.val true [.int .i64, .bool, .int .i64, .int .i64, .shr T_i, .shr T_iiis, .shr T_i, .shr T_s, .int .i64, .int .i64, .int .i64, .int .i64, .int .i64, .int .i64, .int .i64, .int .i64, .int .i64, .shr T_i, .int .i64, .int .i64, .int .i64, .shr T_i, .shr T_iiiLiiisE, .shr T_iiLiEiiisLiE]]
def rs167 : List RP := [{ src := .tmp 2, agg := false, ps := [.bool] }]
noncomputable def sl167 : SemL := [(144, (.shr, .shr, .shr, sem144)), (192, (.shr, .shr, .shr, sem192)), (168, (.shr, .shr, .shr, sem168)), (134, (.shr, .shr, .shr, sem134)), (63, (.shr, .shr, .shr, sem63)), (145, (.shr, .shr, .shr, sem145)), (112, (.shr, .shr, .shr, sem112))]
def D167 : Draws := fun id => bif Nat.beq id 14 then .op 0 .any (.op 1 .take (.op 2 .any (.op 3 .any (.op 4 .take (.op 5 .one (.op 6 .any (.op 7 .any (.op 8 .any (.op 9 .take (.op 10 .any (.op 11 .any (.op 12 .any (.op 13 .take (.op 14 .any (.op 15 .any (.op 16 .take (.op 17 .any (.op 18 .any (.nil))))))))))))))))))) else .nil
def hp167_0 : List (Option AP) := [none, some (.box false [.int .i64, .bool, .int .i64, .int .i64, .shr T_i, .shr T_iiis, .shr T_i, .shr T_s, .int .i64, .int .i64, .int .i64, .int .i64, .int .i64, .int .i64, .int .i64, .int .i64, .int .i64, .shr T_i, .int .i64, .int .i64, .int .i64, .shr T_i, .shr T_iiiLiiisE, .shr T_iiLiEiiisLiE]), none, some (.val false [.int .i64]), none, none, none, none, none, none, none, none, none, none, none, none, none, none, none, none, none, none, none, none, none, none, none, none, none, none, none, none, none, none, none, none, none, none, none, none, none, none, none, none, none, none, none, none, none, none, none, none, none, none, none, none, none, none, none, none, none, none, none, none, none, none, none, none, none, none, none, none, none, none, none, none, none, none, none, none, none, none, none, none, none, none, none, none, none, none, none, none, none, none, none, none, none, none, none, none, none, none, none, none, none, none, none, none, none, none, none, none, none, none, none, none, none, none, none, none, none, none, none, none, none, none, none, none]
def e167_0 : List (Option AP) := [none, none, none, none, none, none, none, none, none, none, none, none, none, none, none, none, none, none, none, none, none, none, none, none, none, none, none, none, none, none, none, none, none, none, none, none, none, none, none, none, none, none, none, none, none, none, none, none, none, none, none, none, none, none, none, none, none, none, none, none, none, none, none, none, none, none, none, none, none, none, none, none, none, none, none, none, none, none, none, none, none, none, none, none, none, none, none, none, none, none, none, none, none, none, none, none, none, none, none, none, none, none, none, none, none, none, none, none, none, none, none, none, none, none, none, none, none, none, none, none, none, none, none, none, none, none, none, none]
def q167_0 : List (Option AP) := [none, none, some (.val false [.bool]), none, none, none, none, none, none, none, none, none, none, none, none, none, none, none, none, none, none, none, none, none, none, none, none, none, none, none, none, none, none, none, none, none, none, none, none, none, none, none, none, none, none, none, none, none, none, none, none, none, none, none, none, none, none, none, none, none, none, none, none, none, none, none, none, none, none, none, none, none, none, none, none, none, none, none, none, none, none, none, none, none, none, none, none, none, none, none, none, none, none, none, none, none, none, none, none, none, none, none, none, none, none, none, none, none, none, none, none, none, none, none, none, none, none, none, none, none, none, none, none, none, none, none, none, none]
abbrev H167_0 : Type := Int × Bool × Int × Int × (List (Int × Unit)) × (List R_iiis) × (List (Int × Unit)) × (List (ByteArray × Unit)) × Int × Int × Int × Int × Int × Int × Int × Int × Int × (List (Int × Unit)) × Int × Int × Int × (List (Int × Unit)) × (List R_iiiLiiisE) × (List R_iiLiEiiisLiE) × Int × Unit
abbrev E167_0 : Type := Unit
abbrev Q167_0 : Type := Bool × Unit
noncomputable def spec_DaemonOk_c0 (d1c0 : Int) (d1c1 : Bool) (d1c2 : Int) (d1c3 : Int) (d1c4 : List (Int × Unit)) (d1c5 : List R_iiis) (d1c6 : List (Int × Unit)) (d1c7 : List (ByteArray × Unit)) (d1c8 : Int) (d1c9 : Int) (d1c10 : Int) (d1c11 : Int) (d1c12 : Int) (d1c13 : Int) (d1c14 : Int) (d1c15 : Int) (d1c16 : Int) (d1c17 : List (Int × Unit)) (d1c18 : Int) (d1c19 : Int) (d1c20 : Int) (d1c21 : List (Int × Unit)) (d1c22 : List R_iiiLiiisE) (d1c23 : List R_iiLiEiiisLiE) (i3 : Int) : Option (Sum H167_0 (Sum E167_0 Q167_0)) :=
  bif decide (i3 < ((List.length d1c22 : Nat) : Int)) then
    bif decide ((0 : Int) ≤ i3) then Option.bind ((d1c22)[Int.toNat i3]?) fun r11 =>
      Option.bind (spec_BundleOk r11.1 r11.2.1 r11.2.2.1 r11.2.2.2.1) fun y12 =>
      bif !y12.1 then
        some (.inr (.inr (false, ())))
      else bif decide ((0 : Int) ≤ i3) then Option.bind ((d1c22)[Int.toNat i3]?) fun r13 =>
        bif !decide (r13.2.1 = d1c20) then
          some (.inr (.inr (false, ())))
        else
          some (.inl (d1c0, d1c1, d1c2, d1c3, d1c4, d1c5, d1c6, d1c7, d1c8, d1c9, d1c10, d1c11, d1c12, d1c13, d1c14, d1c15, d1c16, d1c17, d1c18, d1c19, d1c20, d1c21, d1c22, d1c23, IntKind.i64.wrap (i3 + (1 : Int)), ()))
      else none
    else none
  else
    some (.inr (.inl (())))
noncomputable def spec_DaemonOk_r0 (x : H167_0) : Option (Sum H167_0 (Sum E167_0 Q167_0)) := spec_DaemonOk_c0 x.1 x.2.1 x.2.2.1 x.2.2.2.1 x.2.2.2.2.1 x.2.2.2.2.2.1 x.2.2.2.2.2.2.1 x.2.2.2.2.2.2.2.1 x.2.2.2.2.2.2.2.2.1 x.2.2.2.2.2.2.2.2.2.1 x.2.2.2.2.2.2.2.2.2.2.1 x.2.2.2.2.2.2.2.2.2.2.2.1 x.2.2.2.2.2.2.2.2.2.2.2.2.1 x.2.2.2.2.2.2.2.2.2.2.2.2.2.1 x.2.2.2.2.2.2.2.2.2.2.2.2.2.2.1 x.2.2.2.2.2.2.2.2.2.2.2.2.2.2.2.1 x.2.2.2.2.2.2.2.2.2.2.2.2.2.2.2.2.1 x.2.2.2.2.2.2.2.2.2.2.2.2.2.2.2.2.2.1 x.2.2.2.2.2.2.2.2.2.2.2.2.2.2.2.2.2.2.1 x.2.2.2.2.2.2.2.2.2.2.2.2.2.2.2.2.2.2.2.1 x.2.2.2.2.2.2.2.2.2.2.2.2.2.2.2.2.2.2.2.2.1 x.2.2.2.2.2.2.2.2.2.2.2.2.2.2.2.2.2.2.2.2.2.1 x.2.2.2.2.2.2.2.2.2.2.2.2.2.2.2.2.2.2.2.2.2.2.1 x.2.2.2.2.2.2.2.2.2.2.2.2.2.2.2.2.2.2.2.2.2.2.2.1 x.2.2.2.2.2.2.2.2.2.2.2.2.2.2.2.2.2.2.2.2.2.2.2.2.1
noncomputable def L167 {R : Type} : Loops R := fun id _ st k => bif Nat.beq id 0 then loopAt hp167_0 e167_0 q167_0 spec_DaemonOk_r0 st k else none
noncomputable def spec_DaemonOk (d0c0 : Int) (d0c1 : Bool) (d0c2 : Int) (d0c3 : Int) (d0c4 : List (Int × Unit)) (d0c5 : List R_iiis) (d0c6 : List (Int × Unit)) (d0c7 : List (ByteArray × Unit)) (d0c8 : Int) (d0c9 : Int) (d0c10 : Int) (d0c11 : Int) (d0c12 : Int) (d0c13 : Int) (d0c14 : Int) (d0c15 : Int) (d0c16 : Int) (d0c17 : List (Int × Unit)) (d0c18 : Int) (d0c19 : Int) (d0c20 : Int) (d0c21 : List (Int × Unit)) (d0c22 : List R_iiiLiiisE) (d0c23 : List R_iiLiEiiisLiE) : Option (Bool × Unit) :=
  Option.bind (spec_l01In d0c0 (1 : Int) (5 : Int)) fun y1 =>
  bif !y1.1 then
    some (false, ())
  else
    Option.bind (spec_l01In d0c18 (0 : Int) (9 : Int)) fun y2 =>
    bif !y2.1 then
      some (false, ())
    else bif d0c1 then
      Option.bind (spec_l14NoMate d0c2 d0c3 d0c4 d0c5 d0c6 d0c7 d0c8 d0c9 d0c10 d0c11 d0c12 d0c13 d0c14 d0c15 d0c16 d0c17) fun y3 =>
      bif y3.1 then
        bif decide (d0c19 = (0 : Int)) then
          Option.bind (spec_l14NoRing d0c20 d0c21) fun y4 =>
          bif y4.1 then
            some (decide (((List.length d0c22 : Nat) : Int) = (0 : Int)), ())
          else
            some (false, ())
        else
          some (false, ())
      else
        some (false, ())
    else
      Option.bind (spec_l14NoMate d0c2 d0c3 d0c4 d0c5 d0c6 d0c7 d0c8 d0c9 d0c10 d0c11 d0c12 d0c13 d0c14 d0c15 d0c16 d0c17) fun y5 =>
      bif !y5.1 then
        Option.bind (spec_MateOk d0c2 d0c3 d0c4 d0c5 d0c6 d0c7 d0c8 d0c9 d0c10 d0c11 d0c12 d0c13 d0c14 d0c15 d0c16 d0c17) fun y6 =>
        bif !y6.1 then
          some (false, ())
        else bif !decide (d0c2 = d0c0) then
          some (false, ())
        else bif !decide (d0c19 = d0c3) then
          some (false, ())
        else bif decide (d0c18 < d0c19) then
          some (false, ())
        else
          Option.bind (spec_l14NoRing d0c20 d0c21) fun y7 =>
          bif y7.1 then
            some (decide (((List.length d0c22 : Nat) : Int) = (0 : Int)), ())
          else
            Option.bind (spec_RingOk d0c20 d0c21) fun y8 =>
            bif !y8.1 then
              some (false, ())
            else
              Option.bind (spec_l05In d0c21 d0c0) fun y9 =>
              bif !y9.1 then
                some (false, ())
              else
                Option.bind (spec_l01In d0c20 (IntKind.i64.wrap (d0c19 + (1 : Int))) d0c18) fun y10 =>
                bif !y10.1 then
                  some (false, ())
                else
                  outK (loopV spec_DaemonOk_r0 (d0c0, d0c1, d0c2, d0c3, d0c4, d0c5, d0c6, d0c7, d0c8, d0c9, d0c10, d0c11, d0c12, d0c13, d0c14, d0c15, d0c16, d0c17, d0c18, d0c19, d0c20, d0c21, d0c22, d0c23, (0 : Int), ())) (fun y11 =>
                    some (true, ())) (fun y12 =>
                    some (y12.1, ()))
      else bif !decide (d0c19 = d0c3) then
        some (false, ())
      else bif decide (d0c18 < d0c19) then
        some (false, ())
      else
        Option.bind (spec_l14NoRing d0c20 d0c21) fun y13 =>
        bif y13.1 then
          some (decide (((List.length d0c22 : Nat) : Int) = (0 : Int)), ())
        else
          Option.bind (spec_RingOk d0c20 d0c21) fun y14 =>
          bif !y14.1 then
            some (false, ())
          else
            Option.bind (spec_l05In d0c21 d0c0) fun y15 =>
            bif !y15.1 then
              some (false, ())
            else
              Option.bind (spec_l01In d0c20 (IntKind.i64.wrap (d0c19 + (1 : Int))) d0c18) fun y16 =>
              bif !y16.1 then
                some (false, ())
              else
                outK (loopV spec_DaemonOk_r0 (d0c0, d0c1, d0c2, d0c3, d0c4, d0c5, d0c6, d0c7, d0c8, d0c9, d0c10, d0c11, d0c12, d0c13, d0c14, d0c15, d0c16, d0c17, d0c18, d0c19, d0c20, d0c21, d0c22, d0c23, (0 : Int), ())) (fun y17 =>
                  some (true, ())) (fun y18 =>
                  some (y18.1, ()))
noncomputable def x167 (x : Int × Bool × Int × Int × (List (Int × Unit)) × (List R_iiis) × (List (Int × Unit)) × (List (ByteArray × Unit)) × Int × Int × Int × Int × Int × Int × Int × Int × Int × (List (Int × Unit)) × Int × Int × Int × (List (Int × Unit)) × (List R_iiiLiiisE) × (List R_iiLiEiiisLiE) × Unit) : Option (Bool × Unit) := spec_DaemonOk x.1 x.2.1 x.2.2.1 x.2.2.2.1 x.2.2.2.2.1 x.2.2.2.2.2.1 x.2.2.2.2.2.2.1 x.2.2.2.2.2.2.2.1 x.2.2.2.2.2.2.2.2.1 x.2.2.2.2.2.2.2.2.2.1 x.2.2.2.2.2.2.2.2.2.2.1 x.2.2.2.2.2.2.2.2.2.2.2.1 x.2.2.2.2.2.2.2.2.2.2.2.2.1 x.2.2.2.2.2.2.2.2.2.2.2.2.2.1 x.2.2.2.2.2.2.2.2.2.2.2.2.2.2.1 x.2.2.2.2.2.2.2.2.2.2.2.2.2.2.2.1 x.2.2.2.2.2.2.2.2.2.2.2.2.2.2.2.2.1 x.2.2.2.2.2.2.2.2.2.2.2.2.2.2.2.2.2.1 x.2.2.2.2.2.2.2.2.2.2.2.2.2.2.2.2.2.2.1 x.2.2.2.2.2.2.2.2.2.2.2.2.2.2.2.2.2.2.2.1 x.2.2.2.2.2.2.2.2.2.2.2.2.2.2.2.2.2.2.2.2.1 x.2.2.2.2.2.2.2.2.2.2.2.2.2.2.2.2.2.2.2.2.2.1 x.2.2.2.2.2.2.2.2.2.2.2.2.2.2.2.2.2.2.2.2.2.2.1 x.2.2.2.2.2.2.2.2.2.2.2.2.2.2.2.2.2.2.2.2.2.2.2.1
noncomputable def sem167 : Sem1 := semOf ps167 rs167 x167
theorem so167 : SemsOk Try.prog (semsOf sl167) := sems_cons k144 (sems_cons k192 (sems_cons k168 (sems_cons k134 (sems_cons k63 (sems_cons k145 (sems_cons k112 (sems_nil)))))))
noncomputable def b167_0 : Code := nthLoop code167 0
theorem t167_r0_eq (x : denR (headRT hp167_0)) : codeK (tabOf tr) (semsOf sl167) D167 L167 b167_0 (headSt hp167_0 x) (roundK 0 hp167_0 e167_0 q167_0) = spec_DaemonOk_r0 x := by kernel_rfl
theorem loop167_0 {R : Type} (r : R) (w0 : World) (mu : Mu) (hs : AnShape ps167 mu) : LoopAt Try.prog w0 mu 127 (L167 : Loops R) r 0 b167_0 :=
  loop_auto tr_ok eq_ok mixed_ok so167 (D := D167) hs (by kernel_rfl) (fun _ => (loops_of (l := []) (by kernel_rfl) (List.forall_mem_nil _))) t167_r0_eq (fun _ _ => rfl)
theorem t167_eq (x : denR (headRT (ps167.map some))) : codeK (tabOf tr) (semsOf sl167) D167 L167 code167 (start 127 ps167 x) (finK rs167 ps167) = x167 x := by kernel_rfl
theorem k167 : Known Try.prog 167 sem167 :=
  fn_auto tr_ok eq_ok mixed_ok so167 (D := D167) (code := code167) (n := 127) Try.func167 (by kernel_rfl) (by kernel_rfl) (by kernel_rfl) (fun w0 mu _ hs => (loops_of (l := [(0, b167_0)]) (by kernel_rfl) (List.forall_mem_cons.2 ⟨loop167_0 _ w0 mu hs, (List.forall_mem_nil _)⟩))) t167_eq

/-! ### f127: spec.l14InRing -/
noncomputable def code127 : Code := match Try.f127.body with | some c => c | none => .skip
def ps127 : List AP := [.val true [.int .i64, .bool, .int .i64, .int .i64, .shr T_i, .shr T_iiis, .shr T_i, .shr T_s, .int .i64, .int .i64, .int .i64, .int .i64, .int .i64, .int .i64, .int .i64, .int .i64, .int .i64, .shr T_i, .int .i64, .int .i64, .int .i64, .shr T_i, .shr T_iiiLiiisE, .shr T_iiLiEiiisLiE]]
def rs127 : List RP := [{ src := .tmp 2, agg := false, ps := [.bool] }]
noncomputable def sl127 : SemL := [(167, (.shr, .shr, .shr, sem167)), (168, (.shr, .shr, .shr, sem168))]
def D127 : Draws := fun _ => .nil
noncomputable def L127 {R : Type} : Loops R := fun _ _ _ _ => none
noncomputable def spec_l14InRing (d0c0 : Int) (d0c1 : Bool) (d0c2 : Int) (d0c3 : Int) (d0c4 : List (Int × Unit)) (d0c5 : List R_iiis) (d0c6 : List (Int × Unit)) (d0c7 : List (ByteArray × Unit)) (d0c8 : Int) (d0c9 : Int) (d0c10 : Int) (d0c11 : Int) (d0c12 : Int) (d0c13 : Int) (d0c14 : Int) (d0c15 : Int) (d0c16 : Int) (d0c17 : List (Int × Unit)) (d0c18 : Int) (d0c19 : Int) (d0c20 : Int) (d0c21 : List (Int × Unit)) (d0c22 : List R_iiiLiiisE) (d0c23 : List R_iiLiEiiisLiE) : Option (Bool × Unit) :=
  Option.bind (spec_DaemonOk d0c0 d0c1 d0c2 d0c3 d0c4 d0c5 d0c6 d0c7 d0c8 d0c9 d0c10 d0c11 d0c12 d0c13 d0c14 d0c15 d0c16 d0c17 d0c18 d0c19 d0c20 d0c21 d0c22 d0c23) fun y1 =>
  bif y1.1 then
    bif !d0c1 then
      bif decide ((0 : Int) < d0c19) then
        Option.bind (spec_l14NoRing d0c20 d0c21) fun y2 =>
        some (y2.1, ())
      else
        some (false, ())
    else
      some (false, ())
  else
    some (false, ())
noncomputable def x127 (x : Int × Bool × Int × Int × (List (Int × Unit)) × (List R_iiis) × (List (Int × Unit)) × (List (ByteArray × Unit)) × Int × Int × Int × Int × Int × Int × Int × Int × Int × (List (Int × Unit)) × Int × Int × Int × (List (Int × Unit)) × (List R_iiiLiiisE) × (List R_iiLiEiiisLiE) × Unit) : Option (Bool × Unit) := spec_l14InRing x.1 x.2.1 x.2.2.1 x.2.2.2.1 x.2.2.2.2.1 x.2.2.2.2.2.1 x.2.2.2.2.2.2.1 x.2.2.2.2.2.2.2.1 x.2.2.2.2.2.2.2.2.1 x.2.2.2.2.2.2.2.2.2.1 x.2.2.2.2.2.2.2.2.2.2.1 x.2.2.2.2.2.2.2.2.2.2.2.1 x.2.2.2.2.2.2.2.2.2.2.2.2.1 x.2.2.2.2.2.2.2.2.2.2.2.2.2.1 x.2.2.2.2.2.2.2.2.2.2.2.2.2.2.1 x.2.2.2.2.2.2.2.2.2.2.2.2.2.2.2.1 x.2.2.2.2.2.2.2.2.2.2.2.2.2.2.2.2.1 x.2.2.2.2.2.2.2.2.2.2.2.2.2.2.2.2.2.1 x.2.2.2.2.2.2.2.2.2.2.2.2.2.2.2.2.2.2.1 x.2.2.2.2.2.2.2.2.2.2.2.2.2.2.2.2.2.2.2.1 x.2.2.2.2.2.2.2.2.2.2.2.2.2.2.2.2.2.2.2.2.1 x.2.2.2.2.2.2.2.2.2.2.2.2.2.2.2.2.2.2.2.2.2.1 x.2.2.2.2.2.2.2.2.2.2.2.2.2.2.2.2.2.2.2.2.2.2.1 x.2.2.2.2.2.2.2.2.2.2.2.2.2.2.2.2.2.2.2.2.2.2.2.1
noncomputable def sem127 : Sem1 := semOf ps127 rs127 x127
theorem so127 : SemsOk Try.prog (semsOf sl127) := sems_cons k167 (sems_cons k168 (sems_nil))
theorem t127_eq (x : denR (headRT (ps127.map some))) : codeK (tabOf tr) (semsOf sl127) D127 L127 code127 (start 20 ps127 x) (finK rs127 ps127) = x127 x := by kernel_rfl
theorem k127 : Known Try.prog 127 sem127 :=
  fn_auto tr_ok eq_ok mixed_ok so127 (D := D127) (code := code127) (n := 20) Try.func127 (by kernel_rfl) (by kernel_rfl) (by kernel_rfl) (fun w0 mu _ hs => (loops_of (l := []) (by kernel_rfl) (List.forall_mem_nil _))) t127_eq

/-! ### f65: spec.FirstToken -/
noncomputable def code65 : Code := match Try.f65.body with | some c => c | none => .skip
def ps65 : List AP := [.val true [.int .i64, .shr T_i]]
def rs65 : List RP := [{ src := .cell 2, agg := true, ps := [.int .i64, .int .i64, .int .i64, .int .i64, .int .i64, .own T_i] }]
noncomputable def sl65 : SemL := [(63, (.shr, .shr, .shr, sem63))]
def D65 : Draws := fun _ => .nil
noncomputable def L65 {R : Type} : Loops R := fun _ _ _ _ => none
noncomputable def spec_FirstToken (r0c0 : Int) (r0c1 : List (Int × Unit)) : Option (Int × Int × Int × Int × Int × (List (Int × Unit)) × Unit) :=
  Option.bind (spec_RingOk r0c0 r0c1) fun y1 =>
  bif !y1.1 then
    some ((0 : Int), (0 : Int), (0 : Int), (0 : Int), (0 : Int), [], ())
  else
    some (r0c0, (1 : Int), (0 : Int), (0 : Int), (0 : Int), [], ())
noncomputable def x65 (x : Int × (List (Int × Unit)) × Unit) : Option (Int × Int × Int × Int × Int × (List (Int × Unit)) × Unit) := spec_FirstToken x.1 x.2.1
noncomputable def sem65 : Sem1 := semOf ps65 rs65 x65
theorem so65 : SemsOk Try.prog (semsOf sl65) := sems_cons k63 (sems_nil)
theorem t65_eq (x : denR (headRT (ps65.map some))) : codeK (tabOf tr) (semsOf sl65) D65 L65 code65 (start 10 ps65 x) (finK rs65 ps65) = x65 x := by kernel_rfl
theorem k65 : Known Try.prog 65 sem65 :=
  fn_auto tr_ok eq_ok mixed_ok so65 (D := D65) (code := code65) (n := 10) Try.func65 (by kernel_rfl) (by kernel_rfl) (by kernel_rfl) (fun w0 mu _ hs => (loops_of (l := []) (by kernel_rfl) (List.forall_mem_nil _))) t65_eq

/-! ### f45: spec.FirstOf -/
noncomputable def code45 : Code := match Try.f45.body with | some c => c | none => .skip
def ps45 : List AP := [.val true [.int .i64, .bool, .int .i64, .int .i64, .shr T_i, .shr T_iiis, .shr T_i, .shr T_s, .int .i64, .int .i64, .int .i64, .int .i64, .int .i64, .int .i64, .int .i64, .int .i64, .int .i64, .shr T_i, .int .i64, .int .i64, .int .i64, .shr T_i, .shr T_iiiLiiisE, .shr T_iiLiEiiisLiE]]
def rs45 : List RP := [{ src := .cell 2, agg := true, ps := [.int .i64, .int .i64, .int .i64, .int .i64, .int .i64, .own T_i] }, { src := .tmp 3, agg := false, ps := [.bool] }]
noncomputable def sl45 : SemL := [(127, (.shr, .shr, .shr, sem127)), (65, (.shr, .shr, .shr, sem65))]
def D45 : Draws := fun id => bif Nat.beq id 1 then .op 0 .take (.op 1 .one (.op 2 .any (.op 3 .any (.op 4 .any (.op 5 .any (.op 6 .any (.op 7 .take (.op 8 .any (.op 9 .take (.op 10 .any (.op 11 .take (.op 12 .any (.op 13 .any (.op 14 .any (.op 15 .any (.op 16 .any (.op 17 .take (.op 18 .any (.op 19 .any (.nil)))))))))))))))))))) else .nil
noncomputable def L45 {R : Type} : Loops R := fun _ _ _ _ => none
noncomputable def spec_FirstOf (d0c0 : Int) (d0c1 : Bool) (d0c2 : Int) (d0c3 : Int) (d0c4 : List (Int × Unit)) (d0c5 : List R_iiis) (d0c6 : List (Int × Unit)) (d0c7 : List (ByteArray × Unit)) (d0c8 : Int) (d0c9 : Int) (d0c10 : Int) (d0c11 : Int) (d0c12 : Int) (d0c13 : Int) (d0c14 : Int) (d0c15 : Int) (d0c16 : Int) (d0c17 : List (Int × Unit)) (d0c18 : Int) (d0c19 : Int) (d0c20 : Int) (d0c21 : List (Int × Unit)) (d0c22 : List R_iiiLiiisE) (d0c23 : List R_iiLiEiiisLiE) : Option (Int × Int × Int × Int × Int × (List (Int × Unit)) × Bool × Unit) :=
  Option.bind (spec_l14InRing d0c0 d0c1 d0c2 d0c3 d0c4 d0c5 d0c6 d0c7 d0c8 d0c9 d0c10 d0c11 d0c12 d0c13 d0c14 d0c15 d0c16 d0c17 d0c18 d0c19 d0c20 d0c21 d0c22 d0c23) fun y1 =>
  bif !y1.1 then
    some ((0 : Int), (0 : Int), (0 : Int), (0 : Int), (0 : Int), [], false, ())
  else
    Option.bind ((d0c4)[0]?) fun r2 =>
    bif !decide (r2.1 = d0c0) then
      some ((0 : Int), (0 : Int), (0 : Int), (0 : Int), (0 : Int), [], false, ())
    else bif !decide (d0c8 = (0 : Int)) then
      some ((0 : Int), (0 : Int), (0 : Int), (0 : Int), (0 : Int), [], false, ())
    else
      Option.bind (spec_FirstToken d0c3 d0c4) fun y3 =>
      some (y3.1, y3.2.1, y3.2.2.1, y3.2.2.2.1, y3.2.2.2.2.1, y3.2.2.2.2.2.1, true, ())
noncomputable def x45 (x : Int × Bool × Int × Int × (List (Int × Unit)) × (List R_iiis) × (List (Int × Unit)) × (List (ByteArray × Unit)) × Int × Int × Int × Int × Int × Int × Int × Int × Int × (List (Int × Unit)) × Int × Int × Int × (List (Int × Unit)) × (List R_iiiLiiisE) × (List R_iiLiEiiisLiE) × Unit) : Option (Int × Int × Int × Int × Int × (List (Int × Unit)) × Bool × Unit) := spec_FirstOf x.1 x.2.1 x.2.2.1 x.2.2.2.1 x.2.2.2.2.1 x.2.2.2.2.2.1 x.2.2.2.2.2.2.1 x.2.2.2.2.2.2.2.1 x.2.2.2.2.2.2.2.2.1 x.2.2.2.2.2.2.2.2.2.1 x.2.2.2.2.2.2.2.2.2.2.1 x.2.2.2.2.2.2.2.2.2.2.2.1 x.2.2.2.2.2.2.2.2.2.2.2.2.1 x.2.2.2.2.2.2.2.2.2.2.2.2.2.1 x.2.2.2.2.2.2.2.2.2.2.2.2.2.2.1 x.2.2.2.2.2.2.2.2.2.2.2.2.2.2.2.1 x.2.2.2.2.2.2.2.2.2.2.2.2.2.2.2.2.1 x.2.2.2.2.2.2.2.2.2.2.2.2.2.2.2.2.2.1 x.2.2.2.2.2.2.2.2.2.2.2.2.2.2.2.2.2.2.1 x.2.2.2.2.2.2.2.2.2.2.2.2.2.2.2.2.2.2.2.1 x.2.2.2.2.2.2.2.2.2.2.2.2.2.2.2.2.2.2.2.2.1 x.2.2.2.2.2.2.2.2.2.2.2.2.2.2.2.2.2.2.2.2.2.1 x.2.2.2.2.2.2.2.2.2.2.2.2.2.2.2.2.2.2.2.2.2.2.1 x.2.2.2.2.2.2.2.2.2.2.2.2.2.2.2.2.2.2.2.2.2.2.2.1
noncomputable def sem45 : Sem1 := semOf ps45 rs45 x45
theorem so45 : SemsOk Try.prog (semsOf sl45) := sems_cons k127 (sems_cons k65 (sems_nil))
theorem t45_eq (x : denR (headRT (ps45.map some))) : codeK (tabOf tr) (semsOf sl45) D45 L45 code45 (start 29 ps45 x) (finK rs45 ps45) = x45 x := by kernel_rfl
theorem k45 : Known Try.prog 45 sem45 :=
  fn_auto tr_ok eq_ok mixed_ok so45 (D := D45) (code := code45) (n := 29) Try.func45 (by kernel_rfl) (by kernel_rfl) (by kernel_rfl) (fun w0 mu _ hs => (loops_of (l := []) (by kernel_rfl) (List.forall_mem_nil _))) t45_eq

/-! ### f146: impl.inRange -/
noncomputable def code146 : Code := match Try.f146.body with | some c => c | none => .skip
def ps146 : List AP := [.val false [.int .i64], .val false [.int .i64], .val false [.int .i64]]
def rs146 : List RP := [{ src := .tmp 6, agg := false, ps := [.bool] }]
noncomputable def sl146 : SemL := []
def D146 : Draws := fun _ => .nil
noncomputable def L146 {R : Type} : Loops R := fun _ _ _ _ => none
noncomputable def impl_inRange (n0 : Int) (least1 : Int) (most2 : Int) : Option (Bool × Unit) :=
  bif decide (least1 ≤ n0) then
    some (decide (n0 ≤ most2), ())
  else
    some (false, ())
noncomputable def x146 (x : Int × Int × Int × Unit) : Option (Bool × Unit) := impl_inRange x.1 x.2.1 x.2.2.1
noncomputable def sem146 : Sem1 := semOf ps146 rs146 x146
theorem so146 : SemsOk Try.prog (semsOf sl146) := sems_nil
theorem t146_eq (x : denR (headRT (ps146.map some))) : codeK (tabOf tr) (semsOf sl146) D146 L146 code146 (start 15 ps146 x) (finK rs146 ps146) = x146 x := by kernel_rfl
theorem k146 : Known Try.prog 146 sem146 :=
  fn_auto tr_ok eq_ok mixed_ok so146 (D := D146) (code := code146) (n := 15) Try.func146 (by kernel_rfl) (by kernel_rfl) (by kernel_rfl) (fun w0 mu _ hs => (loops_of (l := []) (by kernel_rfl) (List.forall_mem_nil _))) t146_eq

/-! ### f147: impl.isDaemon -/
noncomputable def code147 : Code := match Try.f147.body with | some c => c | none => .skip
def ps147 : List AP := [.val false [.int .i64]]
def rs147 : List RP := [{ src := .tmp 2, agg := false, ps := [.bool] }]
noncomputable def sl147 : SemL := [(146, (.shr, .shr, .shr, sem146))]
def D147 : Draws := fun _ => .nil
noncomputable def L147 {R : Type} : Loops R := fun _ _ _ _ => none
noncomputable def impl_isDaemon (n0 : Int) : Option (Bool × Unit) :=
  Option.bind (impl_inRange n0 (1 : Int) (5 : Int)) fun y1 =>
  some (y1.1, ())
noncomputable def x147 (x : Int × Unit) : Option (Bool × Unit) := impl_isDaemon x.1
noncomputable def sem147 : Sem1 := semOf ps147 rs147 x147
theorem so147 : SemsOk Try.prog (semsOf sl147) := sems_cons k146 (sems_nil)
theorem t147_eq (x : denR (headRT (ps147.map some))) : codeK (tabOf tr) (semsOf sl147) D147 L147 code147 (start 5 ps147 x) (finK rs147 ps147) = x147 x := by kernel_rfl
theorem k147 : Known Try.prog 147 sem147 :=
  fn_auto tr_ok eq_ok mixed_ok so147 (D := D147) (code := code147) (n := 5) Try.func147 (by kernel_rfl) (by kernel_rfl) (by kernel_rfl) (fun w0 mu _ hs => (loops_of (l := []) (by kernel_rfl) (List.forall_mem_nil _))) t147_eq

/-! ### f171: impl.Ring).isNone -/
noncomputable def code171 : Code := match Try.f171.body with | some c => c | none => .skip
def ps171 : List AP := [.val true [.int .i64, .shr T_i]]
def rs171 : List RP := [{ src := .tmp 2, agg := false, ps := [.bool] }]
noncomputable def sl171 : SemL := []
def D171 : Draws := fun _ => .nil
noncomputable def L171 {R : Type} : Loops R := fun _ _ _ _ => none
noncomputable def impl_Ring_isNone (r0c0 : Int) (r0c1 : List (Int × Unit)) : Option (Bool × Unit) :=
  bif decide (r0c0 = (0 : Int)) then
    some (decide (((List.length r0c1 : Nat) : Int) = (0 : Int)), ())
  else
    some (false, ())
noncomputable def x171 (x : Int × (List (Int × Unit)) × Unit) : Option (Bool × Unit) := impl_Ring_isNone x.1 x.2.1
noncomputable def sem171 : Sem1 := semOf ps171 rs171 x171
theorem so171 : SemsOk Try.prog (semsOf sl171) := sems_nil
theorem t171_eq (x : denR (headRT (ps171.map some))) : codeK (tabOf tr) (semsOf sl171) D171 L171 code171 (start 12 ps171 x) (finK rs171 ps171) = x171 x := by kernel_rfl
theorem k171 : Known Try.prog 171 sem171 :=
  fn_auto tr_ok eq_ok mixed_ok so171 (D := D171) (code := code171) (n := 12) Try.func171 (by kernel_rfl) (by kernel_rfl) (by kernel_rfl) (fun w0 mu _ hs => (loops_of (l := []) (by kernel_rfl) (List.forall_mem_nil _))) t171_eq

/-! ### f182: impl.Token).isZero -/
noncomputable def code182 : Code := match Try.f182.body with | some c => c | none => .skip
def ps182 : List AP := [.val true [.int .i64, .int .i64, .int .i64, .int .i64, .int .i64, .shr T_i]]
def rs182 : List RP := [{ src := .tmp 2, agg := false, ps := [.bool] }]
noncomputable def sl182 : SemL := []
def D182 : Draws := fun _ => .nil
noncomputable def L182 {R : Type} : Loops R := fun _ _ _ _ => none
noncomputable def impl_Token_isZero (t0c0 : Int) (t0c1 : Int) (t0c2 : Int) (t0c3 : Int) (t0c4 : Int) (t0c5 : List (Int × Unit)) : Option (Bool × Unit) :=
  bif decide (t0c0 = (0 : Int)) then
    bif decide (t0c1 = (0 : Int)) then
      bif decide (t0c2 = (0 : Int)) then
        bif decide (t0c3 = (0 : Int)) then
          bif decide (t0c4 = (0 : Int)) then
            some (decide (((List.length t0c5 : Nat) : Int) = (0 : Int)), ())
          else
            some (false, ())
        else
          some (false, ())
      else
        some (false, ())
    else
      some (false, ())
  else
    some (false, ())
noncomputable def x182 (x : Int × Int × Int × Int × Int × (List (Int × Unit)) × Unit) : Option (Bool × Unit) := impl_Token_isZero x.1 x.2.1 x.2.2.1 x.2.2.2.1 x.2.2.2.2.1 x.2.2.2.2.2.1
noncomputable def sem182 : Sem1 := semOf ps182 rs182 x182
theorem so182 : SemsOk Try.prog (semsOf sl182) := sems_nil
theorem t182_eq (x : denR (headRT (ps182.map some))) : codeK (tabOf tr) (semsOf sl182) D182 L182 code182 (start 32 ps182 x) (finK rs182 ps182) = x182 x := by kernel_rfl
theorem k182 : Known Try.prog 182 sem182 :=
  fn_auto tr_ok eq_ok mixed_ok so182 (D := D182) (code := code182) (n := 32) Try.func182 (by kernel_rfl) (by kernel_rfl) (by kernel_rfl) (fun w0 mu _ hs => (loops_of (l := []) (by kernel_rfl) (List.forall_mem_nil _))) t182_eq

/-! ### f170: impl.Mate).isNone -/
noncomputable def code170 : Code := match Try.f170.body with | some c => c | none => .skip
def ps170 : List AP := [.val true [.int .i64, .int .i64, .shr T_i, .shr T_iiis, .shr T_i, .shr T_s, .int .i64, .int .i64, .int .i64, .int .i64, .int .i64, .int .i64, .int .i64, .int .i64, .int .i64, .shr T_i]]
def rs170 : List RP := [{ src := .tmp 2, agg := false, ps := [.bool] }]
noncomputable def sl170 : SemL := [(171, (.shr, .shr, .shr, sem171)), (182, (.shr, .shr, .shr, sem182))]
def D170 : Draws := fun _ => .nil
noncomputable def L170 {R : Type} : Loops R := fun _ _ _ _ => none
noncomputable def impl_Mate_isNone (m0c0 : Int) (m0c1 : Int) (m0c2 : List (Int × Unit)) (m0c3 : List R_iiis) (m0c4 : List (Int × Unit)) (m0c5 : List (ByteArray × Unit)) (m0c6 : Int) (m0c7 : Int) (m0c8 : Int) (m0c9 : Int) (m0c10 : Int) (m0c11 : Int) (m0c12 : Int) (m0c13 : Int) (m0c14 : Int) (m0c15 : List (Int × Unit)) : Option (Bool × Unit) :=
  bif !decide (m0c0 = (0 : Int)) then
    some (false, ())
  else
    Option.bind (impl_Ring_isNone m0c1 m0c2) fun y1 =>
    bif !y1.1 then
      some (false, ())
    else bif !decide (m0c6 = (0 : Int)) then
      some (false, ())
    else bif !decide (m0c7 = (0 : Int)) then
      some (false, ())
    else bif !decide (m0c8 = (0 : Int)) then
      some (false, ())
    else bif !decide (m0c9 = (0 : Int)) then
      some (false, ())
    else bif decide (((List.length m0c3 : Nat) : Int) = (0 : Int)) then
      bif decide (((List.length m0c4 : Nat) : Int) = (0 : Int)) then
        bif decide (((List.length m0c5 : Nat) : Int) = (0 : Int)) then
          Option.bind (impl_Token_isZero m0c10 m0c11 m0c12 m0c13 m0c14 m0c15) fun y2 =>
          some (y2.1, ())
        else
          some (false, ())
      else
        some (false, ())
    else
      some (false, ())
noncomputable def x170 (x : Int × Int × (List (Int × Unit)) × (List R_iiis) × (List (Int × Unit)) × (List (ByteArray × Unit)) × Int × Int × Int × Int × Int × Int × Int × Int × Int × (List (Int × Unit)) × Unit) : Option (Bool × Unit) := impl_Mate_isNone x.1 x.2.1 x.2.2.1 x.2.2.2.1 x.2.2.2.2.1 x.2.2.2.2.2.1 x.2.2.2.2.2.2.1 x.2.2.2.2.2.2.2.1 x.2.2.2.2.2.2.2.2.1 x.2.2.2.2.2.2.2.2.2.1 x.2.2.2.2.2.2.2.2.2.2.1 x.2.2.2.2.2.2.2.2.2.2.2.1 x.2.2.2.2.2.2.2.2.2.2.2.2.1 x.2.2.2.2.2.2.2.2.2.2.2.2.2.1 x.2.2.2.2.2.2.2.2.2.2.2.2.2.2.1 x.2.2.2.2.2.2.2.2.2.2.2.2.2.2.2.1
noncomputable def sem170 : Sem1 := semOf ps170 rs170 x170
theorem so170 : SemsOk Try.prog (semsOf sl170) := sems_cons k171 (sems_cons k182 (sems_nil))
theorem t170_eq (x : denR (headRT (ps170.map some))) : codeK (tabOf tr) (semsOf sl170) D170 L170 code170 (start 53 ps170 x) (finK rs170 ps170) = x170 x := by kernel_rfl
theorem k170 : Known Try.prog 170 sem170 :=
  fn_auto tr_ok eq_ok mixed_ok so170 (D := D170) (code := code170) (n := 53) Try.func170 (by kernel_rfl) (by kernel_rfl) (by kernel_rfl) (fun w0 mu _ hs => (loops_of (l := []) (by kernel_rfl) (List.forall_mem_nil _))) t170_eq

/-! ### f185: slices.Index[[]int,int] -/
noncomputable def code185 : Code := match Try.f185.body with | some c => c | none => .skip
def ps185 : List AP := [.val false [.shr T_i], .val false [.int .i64]]
def rs185 : List RP := [{ src := .tmp 4, agg := false, ps := [.int .i64] }]
noncomputable def sl185 : SemL := []
def D185 : Draws := fun _ => .nil
def hp185_0 : List (Option AP) := [some (.val false [.shr T_i]), some (.val false [.int .i64]), none, none, none, none, none, some (.val false [.int .i64]), some (.val false [.int .i64]), none, none, none, none, none, none, none, none, none, none, none]
def e185_0 : List (Option AP) := [none, none, none, none, none, none, none, none, none, none, none, none, none, none, none, none, none, none, none, none]
def q185_0 : List (Option AP) := [none, none, none, none, some (.val false [.int .i64]), none, none, none, none, none, none, none, none, none, none, none, none, none, none, none]
abbrev H185_0 : Type := (List (Int × Unit)) × Int × Int × Int × Unit
abbrev E185_0 : Type := Unit
abbrev Q185_0 : Type := Int × Unit
noncomputable def slices_Index_int_c0 (s0 : List (Int × Unit)) (v1 : Int) (t7 : Int) (t8 : Int) : Option (Sum H185_0 (Sum E185_0 Q185_0)) :=
  bif decide (t8 < t7) then
    bif decide ((0 : Int) ≤ t8) then Option.bind ((s0)[Int.toNat t8]?) fun r1 =>
      bif decide (v1 = r1.1) then
        some (.inr (.inr (t8, ())))
      else
        some (.inl (s0, v1, t7, IntKind.i64.wrap (t8 + (1 : Int)), ()))
    else none
  else
    some (.inr (.inl (())))
noncomputable def slices_Index_int_r0 (x : H185_0) : Option (Sum H185_0 (Sum E185_0 Q185_0)) := slices_Index_int_c0 x.1 x.2.1 x.2.2.1 x.2.2.2.1
noncomputable def L185 {R : Type} : Loops R := fun id _ st k => bif Nat.beq id 0 then loopAt hp185_0 e185_0 q185_0 slices_Index_int_r0 st k else none
noncomputable def slices_Index_int (s0 : List (Int × Unit)) (v1 : Int) : Option (Int × Unit) :=
  outK (loopV slices_Index_int_r0 (s0, v1, ((List.length s0 : Nat) : Int), (0 : Int), ())) (fun y1 =>
    some ((-1 : Int), ())) (fun y2 =>
    some (y2.1, ()))
noncomputable def x185 (x : (List (Int × Unit)) × Int × Unit) : Option (Int × Unit) := slices_Index_int x.1 x.2.1
noncomputable def sem185 : Sem1 := semOf ps185 rs185 x185
theorem so185 : SemsOk Try.prog (semsOf sl185) := sems_nil
noncomputable def b185_0 : Code := nthLoop code185 0
theorem t185_r0_eq (x : denR (headRT hp185_0)) : codeK (tabOf tr) (semsOf sl185) D185 L185 b185_0 (headSt hp185_0 x) (roundK 0 hp185_0 e185_0 q185_0) = slices_Index_int_r0 x := by kernel_rfl
theorem loop185_0 {R : Type} (r : R) (w0 : World) (mu : Mu) (hs : AnShape ps185 mu) : LoopAt Try.prog w0 mu 19 (L185 : Loops R) r 0 b185_0 :=
  loop_auto tr_ok eq_ok mixed_ok so185 (D := D185) hs (by kernel_rfl) (fun _ => (loops_of (l := []) (by kernel_rfl) (List.forall_mem_nil _))) t185_r0_eq (fun _ _ => rfl)
theorem t185_eq (x : denR (headRT (ps185.map some))) : codeK (tabOf tr) (semsOf sl185) D185 L185 code185 (start 19 ps185 x) (finK rs185 ps185) = x185 x := by kernel_rfl
theorem k185 : Known Try.prog 185 sem185 :=
  fn_auto tr_ok eq_ok mixed_ok so185 (D := D185) (code := code185) (n := 19) Try.func185 (by kernel_rfl) (by kernel_rfl) (by kernel_rfl) (fun w0 mu _ hs => (loops_of (l := [(0, b185_0)]) (by kernel_rfl) (List.forall_mem_cons.2 ⟨loop185_0 _ w0 mu hs, (List.forall_mem_nil _)⟩))) t185_eq

/-! ### f149: slices.Contains[[]int,int] -/
noncomputable def code149 : Code := match Try.f149.body with | some c => c | none => .skip
def ps149 : List AP := [.val false [.shr T_i], .val false [.int .i64]]
def rs149 : List RP := [{ src := .tmp 4, agg := false, ps := [.bool] }]
noncomputable def sl149 : SemL := [(185, (.shr, .shr, .shr, sem185))]
def D149 : Draws := fun _ => .nil
noncomputable def L149 {R : Type} : Loops R := fun _ _ _ _ => none
noncomputable def slices_Contains_int (s0 : List (Int × Unit)) (v1 : Int) : Option (Bool × Unit) :=
  Option.bind (slices_Index_int s0 v1) fun y1 =>
  some (decide ((0 : Int) ≤ y1.1), ())
noncomputable def x149 (x : (List (Int × Unit)) × Int × Unit) : Option (Bool × Unit) := slices_Contains_int x.1 x.2.1
noncomputable def sem149 : Sem1 := semOf ps149 rs149 x149
theorem so149 : SemsOk Try.prog (semsOf sl149) := sems_cons k185 (sems_nil)
theorem t149_eq (x : denR (headRT (ps149.map some))) : codeK (tabOf tr) (semsOf sl149) D149 L149 code149 (start 9 ps149 x) (finK rs149 ps149) = x149 x := by kernel_rfl
theorem k149 : Known Try.prog 149 sem149 :=
  fn_auto tr_ok eq_ok mixed_ok so149 (D := D149) (code := code149) (n := 9) Try.func149 (by kernel_rfl) (by kernel_rfl) (by kernel_rfl) (fun w0 mu _ hs => (loops_of (l := []) (by kernel_rfl) (List.forall_mem_nil _))) t149_eq

/-! ### f67: impl.RingOk -/
noncomputable def code67 : Code := match Try.f67.body with | some c => c | none => .skip
def ps67 : List AP := [.val true [.int .i64, .shr T_i]]
def rs67 : List RP := [{ src := .tmp 2, agg := false, ps := [.bool] }]
noncomputable def sl67 : SemL := [(146, (.shr, .shr, .shr, sem146)), (147, (.shr, .shr, .shr, sem147))]
def D67 : Draws := fun _ => .nil
def hp67_0 : List (Option AP) := [none, some (.box false [.int .i64, .shr T_i]), none, none, none, none, none, none, none, none, none, none, none, none, none, none, none, some (.val false [.shr T_i]), some (.val false [.int .i64]), some (.val false [.int .i64]), none, none, none, none, none, none, none, none, none, none, none, none, none, none, none, none, none, none, none, none, none, none, none]
def e67_0 : List (Option AP) := [none, none, none, none, none, none, none, none, none, none, none, none, none, none, none, none, none, none, none, none, none, none, none, none, none, none, none, none, none, none, none, none, none, none, none, none, none, none, none, none, none, none, none]
def q67_0 : List (Option AP) := [none, none, some (.val false [.bool]), none, none, none, none, none, none, none, none, none, none, none, none, none, none, none, none, none, none, none, none, none, none, none, none, none, none, none, none, none, none, none, none, none, none, none, none, none, none, none, none]
abbrev H67_0 : Type := Int × (List (Int × Unit)) × (List (Int × Unit)) × Int × Int × Unit
abbrev E67_0 : Type := Unit
abbrev Q67_0 : Type := Bool × Unit
noncomputable def impl_RingOk_c0 (r1c0 : Int) (r1c1 : List (Int × Unit)) (t17 : List (Int × Unit)) (t18 : Int) (t19 : Int) : Option (Sum H67_0 (Sum E67_0 Q67_0)) :=
  bif decide (t19 < t18) then
    bif decide ((0 : Int) ≤ t19) then Option.bind ((t17)[Int.toNat t19]?) fun r3 =>
      Option.bind (impl_isDaemon r3.1) fun y4 =>
      bif !y4.1 then
        some (.inr (.inr (false, ())))
      else bif decide ((0 : Int) < t19) then
        bif decide ((0 : Int) ≤ IntKind.i64.wrap (t19 - (1 : Int))) then Option.bind ((r1c1)[Int.toNat (IntKind.i64.wrap (t19 - (1 : Int)))]?) fun r5 =>
          bif decide (r3.1 ≤ r5.1) then
            some (.inr (.inr (false, ())))
          else
            some (.inl (r1c0, r1c1, t17, t18, IntKind.i64.wrap (t19 + (1 : Int)), ()))
        else none
      else
        some (.inl (r1c0, r1c1, t17, t18, IntKind.i64.wrap (t19 + (1 : Int)), ()))
    else none
  else
    some (.inr (.inl (())))
noncomputable def impl_RingOk_r0 (x : H67_0) : Option (Sum H67_0 (Sum E67_0 Q67_0)) := impl_RingOk_c0 x.1 x.2.1 x.2.2.1 x.2.2.2.1 x.2.2.2.2.1
noncomputable def L67 {R : Type} : Loops R := fun id _ st k => bif Nat.beq id 0 then loopAt hp67_0 e67_0 q67_0 impl_RingOk_r0 st k else none
noncomputable def impl_RingOk (r0c0 : Int) (r0c1 : List (Int × Unit)) : Option (Bool × Unit) :=
  Option.bind (impl_inRange r0c0 (1 : Int) (9 : Int)) fun y1 =>
  bif !y1.1 then
    some (false, ())
  else
    Option.bind (impl_inRange ((List.length r0c1 : Nat) : Int) (1 : Int) (5 : Int)) fun y2 =>
    bif !y2.1 then
      some (false, ())
    else
      outK (loopV impl_RingOk_r0 (r0c0, r0c1, r0c1, ((List.length r0c1 : Nat) : Int), (0 : Int), ())) (fun y3 =>
        some (true, ())) (fun y4 =>
        some (y4.1, ()))
noncomputable def x67 (x : Int × (List (Int × Unit)) × Unit) : Option (Bool × Unit) := impl_RingOk x.1 x.2.1
noncomputable def sem67 : Sem1 := semOf ps67 rs67 x67
theorem so67 : SemsOk Try.prog (semsOf sl67) := sems_cons k146 (sems_cons k147 (sems_nil))
noncomputable def b67_0 : Code := nthLoop code67 0
theorem t67_r0_eq (x : denR (headRT hp67_0)) : codeK (tabOf tr) (semsOf sl67) D67 L67 b67_0 (headSt hp67_0 x) (roundK 0 hp67_0 e67_0 q67_0) = impl_RingOk_r0 x := by kernel_rfl
theorem loop67_0 {R : Type} (r : R) (w0 : World) (mu : Mu) (hs : AnShape ps67 mu) : LoopAt Try.prog w0 mu 42 (L67 : Loops R) r 0 b67_0 :=
  loop_auto tr_ok eq_ok mixed_ok so67 (D := D67) hs (by kernel_rfl) (fun _ => (loops_of (l := []) (by kernel_rfl) (List.forall_mem_nil _))) t67_r0_eq (fun _ _ => rfl)
theorem t67_eq (x : denR (headRT (ps67.map some))) : codeK (tabOf tr) (semsOf sl67) D67 L67 code67 (start 42 ps67 x) (finK rs67 ps67) = x67 x := by kernel_rfl
theorem k67 : Known Try.prog 67 sem67 :=
  fn_auto tr_ok eq_ok mixed_ok so67 (D := D67) (code := code67) (n := 42) Try.func67 (by kernel_rfl) (by kernel_rfl) (by kernel_rfl) (fun w0 mu _ hs => (loops_of (l := [(0, b67_0)]) (by kernel_rfl) (List.forall_mem_cons.2 ⟨loop67_0 _ w0 mu hs, (List.forall_mem_nil _)⟩))) t67_eq

/-! ### f181: impl.isLevel -/
noncomputable def code181 : Code := match Try.f181.body with | some c => c | none => .skip
def ps181 : List AP := [.val false [.int .i64]]
def rs181 : List RP := [{ src := .tmp 2, agg := false, ps := [.bool] }]
noncomputable def sl181 : SemL := []
def D181 : Draws := fun _ => .nil
noncomputable def L181 {R : Type} : Loops R := fun _ _ _ _ => none
noncomputable def impl_isLevel (n0 : Int) : Option (Bool × Unit) :=
  bif decide (n0 = (1 : Int)) then
    some (true, ())
  else
    some (decide (n0 = (2 : Int)), ())
noncomputable def x181 (x : Int × Unit) : Option (Bool × Unit) := impl_isLevel x.1
noncomputable def sem181 : Sem1 := semOf ps181 rs181 x181
theorem so181 : SemsOk Try.prog (semsOf sl181) := sems_nil
theorem t181_eq (x : denR (headRT (ps181.map some))) : codeK (tabOf tr) (semsOf sl181) D181 L181 code181 (start 9 ps181 x) (finK rs181 ps181) = x181 x := by kernel_rfl
theorem k181 : Known Try.prog 181 sem181 :=
  fn_auto tr_ok eq_ok mixed_ok so181 (D := D181) (code := code181) (n := 9) Try.func181 (by kernel_rfl) (by kernel_rfl) (by kernel_rfl) (fun w0 mu _ hs => (loops_of (l := []) (by kernel_rfl) (List.forall_mem_nil _))) t181_eq

/-! ### f184: impl.ItemOk -/
noncomputable def code184 : Code := match Try.f184.body with | some c => c | none => .skip
def ps184 : List AP := [.val true [.int .i64, .int .i64, .int .i64, .str]]
def rs184 : List RP := [{ src := .tmp 2, agg := false, ps := [.bool] }]
noncomputable def sl184 : SemL := [(146, (.shr, .shr, .shr, sem146)), (147, (.shr, .shr, .shr, sem147)), (181, (.shr, .shr, .shr, sem181))]
def D184 : Draws := fun _ => .nil
noncomputable def L184 {R : Type} : Loops R := fun _ _ _ _ => none
noncomputable def impl_ItemOk (m0c0 : Int) (m0c1 : Int) (m0c2 : Int) (m0c3 : ByteArray) : Option (Bool × Unit) :=
  Option.bind (impl_inRange m0c0 (1 : Int) (60 : Int)) fun y1 =>
  bif y1.1 then
    Option.bind (impl_isDaemon m0c1) fun y2 =>
    bif y2.1 then
      Option.bind (impl_isLevel m0c2) fun y3 =>
      bif y3.1 then
        some (decide (((ByteArray.size m0c3 : Nat) : Int) ≤ (60 : Int)), ())
      else
        some (false, ())
    else
      some (false, ())
  else
    some (false, ())
noncomputable def x184 (x : Int × Int × Int × ByteArray × Unit) : Option (Bool × Unit) := impl_ItemOk x.1 x.2.1 x.2.2.1 x.2.2.2.1
noncomputable def sem184 : Sem1 := semOf ps184 rs184 x184
theorem so184 : SemsOk Try.prog (semsOf sl184) := sems_cons k146 (sems_cons k147 (sems_cons k181 (sems_nil)))
theorem t184_eq (x : denR (headRT (ps184.map some))) : codeK (tabOf tr) (semsOf sl184) D184 L184 code184 (start 22 ps184 x) (finK rs184 ps184) = x184 x := by kernel_rfl
theorem k184 : Known Try.prog 184 sem184 :=
  fn_auto tr_ok eq_ok mixed_ok so184 (D := D184) (code := code184) (n := 22) Try.func184 (by kernel_rfl) (by kernel_rfl) (by kernel_rfl) (fun w0 mu _ hs => (loops_of (l := []) (by kernel_rfl) (List.forall_mem_nil _))) t184_eq

/-! ### f158: impl.ItemsOk -/
noncomputable def code158 : Code := match Try.f158.body with | some c => c | none => .skip
def ps158 : List AP := [.val false [.shr T_iiis]]
def rs158 : List RP := [{ src := .tmp 2, agg := false, ps := [.bool] }]
noncomputable def sl158 : SemL := [(184, (.shr, .shr, .shr, sem184))]
def D158 : Draws := fun id => bif Nat.beq id 4 then .op 0 .take (.op 1 .one (.op 2 .any (.op 3 .any (.op 4 .any (.op 5 .any (.op 6 .any (.op 7 .any (.op 8 .take (.op 9 .any (.op 10 .any (.op 11 .any (.op 12 .any (.op 13 .any (.op 14 .take (.op 15 .any (.op 16 .any (.op 17 .any (.nil)))))))))))))))))) else .nil
def hp158_0 : List (Option AP) := [some (.val false [.shr T_iiis]), none, none, none, none, some (.val false [.shr T_iiis]), some (.val false [.int .i64]), some (.val false [.int .i64]), none, none, none, none, none, none, none, none, none, none, none, none, none, none, none, none, none, none, none, none, none, none, none, none]
def e158_0 : List (Option AP) := [none, none, none, none, none, none, none, none, none, none, none, none, none, none, none, none, none, none, none, none, none, none, none, none, none, none, none, none, none, none, none, none]
def q158_0 : List (Option AP) := [none, none, some (.val false [.bool]), none, none, none, none, none, none, none, none, none, none, none, none, none, none, none, none, none, none, none, none, none, none, none, none, none, none, none, none, none]
abbrev H158_0 : Type := (List R_iiis) × (List R_iiis) × Int × Int × Unit
abbrev E158_0 : Type := Unit
abbrev Q158_0 : Type := Bool × Unit
noncomputable def impl_ItemsOk_c0 (list0 : List R_iiis) (t5 : List R_iiis) (t6 : Int) (t7 : Int) : Option (Sum H158_0 (Sum E158_0 Q158_0)) :=
  bif decide (t7 < t6) then
    bif decide ((0 : Int) ≤ t7) then Option.bind ((t5)[Int.toNat t7]?) fun r1 =>
      Option.bind (impl_ItemOk r1.1 r1.2.1 r1.2.2.1 r1.2.2.2.1) fun y2 =>
      bif !y2.1 then
        some (.inr (.inr (false, ())))
      else bif decide ((0 : Int) < t7) then
        bif decide ((0 : Int) ≤ IntKind.i64.wrap (t7 - (1 : Int))) then Option.bind ((list0)[Int.toNat (IntKind.i64.wrap (t7 - (1 : Int)))]?) fun r3 =>
          bif decide (r1.1 ≤ r3.1) then
            some (.inr (.inr (false, ())))
          else
            some (.inl (list0, t5, t6, IntKind.i64.wrap (t7 + (1 : Int)), ()))
        else none
      else
        some (.inl (list0, t5, t6, IntKind.i64.wrap (t7 + (1 : Int)), ()))
    else none
  else
    some (.inr (.inl (())))
noncomputable def impl_ItemsOk_r0 (x : H158_0) : Option (Sum H158_0 (Sum E158_0 Q158_0)) := impl_ItemsOk_c0 x.1 x.2.1 x.2.2.1 x.2.2.2.1
noncomputable def L158 {R : Type} : Loops R := fun id _ st k => bif Nat.beq id 0 then loopAt hp158_0 e158_0 q158_0 impl_ItemsOk_r0 st k else none
noncomputable def impl_ItemsOk (list0 : List R_iiis) : Option (Bool × Unit) :=
  outK (loopV impl_ItemsOk_r0 (list0, list0, ((List.length list0 : Nat) : Int), (0 : Int), ())) (fun y1 =>
    some (true, ())) (fun y2 =>
    some (y2.1, ()))
noncomputable def x158 (x : (List R_iiis) × Unit) : Option (Bool × Unit) := impl_ItemsOk x.1
noncomputable def sem158 : Sem1 := semOf ps158 rs158 x158
theorem so158 : SemsOk Try.prog (semsOf sl158) := sems_cons k184 (sems_nil)
noncomputable def b158_0 : Code := nthLoop code158 0
theorem t158_r0_eq (x : denR (headRT hp158_0)) : codeK (tabOf tr) (semsOf sl158) D158 L158 b158_0 (headSt hp158_0 x) (roundK 0 hp158_0 e158_0 q158_0) = impl_ItemsOk_r0 x := by kernel_rfl
theorem loop158_0 {R : Type} (r : R) (w0 : World) (mu : Mu) (hs : AnShape ps158 mu) : LoopAt Try.prog w0 mu 31 (L158 : Loops R) r 0 b158_0 :=
  loop_auto tr_ok eq_ok mixed_ok so158 (D := D158) hs (by kernel_rfl) (fun _ => (loops_of (l := []) (by kernel_rfl) (List.forall_mem_nil _))) t158_r0_eq (fun _ _ => rfl)
theorem t158_eq (x : denR (headRT (ps158.map some))) : codeK (tabOf tr) (semsOf sl158) D158 L158 code158 (start 31 ps158 x) (finK rs158 ps158) = x158 x := by kernel_rfl
theorem k158 : Known Try.prog 158 sem158 :=
  fn_auto tr_ok eq_ok mixed_ok so158 (D := D158) (code := code158) (n := 31) Try.func158 (by kernel_rfl) (by kernel_rfl) (by kernel_rfl) (fun w0 mu _ hs => (loops_of (l := [(0, b158_0)]) (by kernel_rfl) (List.forall_mem_cons.2 ⟨loop158_0 _ w0 mu hs, (List.forall_mem_nil _)⟩))) t158_eq

/-! ### f180: impl.areShort -/
noncomputable def code180 : Code := match Try.f180.body with | some c => c | none => .skip
def ps180 : List AP := [.val false [.shr T_s]]
def rs180 : List RP := [{ src := .tmp 2, agg := false, ps := [.bool] }]
noncomputable def sl180 : SemL := []
def D180 : Draws := fun _ => .nil
def hp180_0 : List (Option AP) := [none, none, none, none, none, some (.val false [.shr T_s]), some (.val false [.int .i64]), some (.val false [.int .i64]), none, none, none, none, none, none, none, none]
def e180_0 : List (Option AP) := [none, none, none, none, none, none, none, none, none, none, none, none, none, none, none, none]
def q180_0 : List (Option AP) := [none, none, some (.val false [.bool]), none, none, none, none, none, none, none, none, none, none, none, none, none]
abbrev H180_0 : Type := (List (ByteArray × Unit)) × Int × Int × Unit
abbrev E180_0 : Type := Unit
abbrev Q180_0 : Type := Bool × Unit
noncomputable def impl_areShort_c0 (t5 : List (ByteArray × Unit)) (t6 : Int) (t7 : Int) : Option (Sum H180_0 (Sum E180_0 Q180_0)) :=
  bif decide (t7 < t6) then
    bif decide ((0 : Int) ≤ t7) then Option.bind ((t5)[Int.toNat t7]?) fun r1 =>
      bif decide ((60 : Int) < ((ByteArray.size r1.1 : Nat) : Int)) then
        some (.inr (.inr (false, ())))
      else
        some (.inl (t5, t6, IntKind.i64.wrap (t7 + (1 : Int)), ()))
    else none
  else
    some (.inr (.inl (())))
noncomputable def impl_areShort_r0 (x : H180_0) : Option (Sum H180_0 (Sum E180_0 Q180_0)) := impl_areShort_c0 x.1 x.2.1 x.2.2.1
noncomputable def L180 {R : Type} : Loops R := fun id _ st k => bif Nat.beq id 0 then loopAt hp180_0 e180_0 q180_0 impl_areShort_r0 st k else none
noncomputable def impl_areShort (list0 : List (ByteArray × Unit)) : Option (Bool × Unit) :=
  outK (loopV impl_areShort_r0 (list0, ((List.length list0 : Nat) : Int), (0 : Int), ())) (fun y1 =>
    some (true, ())) (fun y2 =>
    some (y2.1, ()))
noncomputable def x180 (x : (List (ByteArray × Unit)) × Unit) : Option (Bool × Unit) := impl_areShort x.1
noncomputable def sem180 : Sem1 := semOf ps180 rs180 x180
theorem so180 : SemsOk Try.prog (semsOf sl180) := sems_nil
noncomputable def b180_0 : Code := nthLoop code180 0
theorem t180_r0_eq (x : denR (headRT hp180_0)) : codeK (tabOf tr) (semsOf sl180) D180 L180 b180_0 (headSt hp180_0 x) (roundK 0 hp180_0 e180_0 q180_0) = impl_areShort_r0 x := by kernel_rfl
theorem loop180_0 {R : Type} (r : R) (w0 : World) (mu : Mu) (hs : AnShape ps180 mu) : LoopAt Try.prog w0 mu 15 (L180 : Loops R) r 0 b180_0 :=
  loop_auto tr_ok eq_ok mixed_ok so180 (D := D180) hs (by kernel_rfl) (fun _ => (loops_of (l := []) (by kernel_rfl) (List.forall_mem_nil _))) t180_r0_eq (fun _ _ => rfl)
theorem t180_eq (x : denR (headRT (ps180.map some))) : codeK (tabOf tr) (semsOf sl180) D180 L180 code180 (start 15 ps180 x) (finK rs180 ps180) = x180 x := by kernel_rfl
theorem k180 : Known Try.prog 180 sem180 :=
  fn_auto tr_ok eq_ok mixed_ok so180 (D := D180) (code := code180) (n := 15) Try.func180 (by kernel_rfl) (by kernel_rfl) (by kernel_rfl) (fun w0 mu _ hs => (loops_of (l := [(0, b180_0)]) (by kernel_rfl) (List.forall_mem_cons.2 ⟨loop180_0 _ w0 mu hs, (List.forall_mem_nil _)⟩))) t180_eq

/-! ### f187: impl.ItemAt -/
noncomputable def code187 : Code := match Try.f187.body with | some c => c | none => .skip
def ps187 : List AP := [.val false [.shr T_iiis], .val false [.int .i64]]
def rs187 : List RP := [{ src := .cell 4, agg := true, ps := [.int .i64, .int .i64, .int .i64, .str] }, { src := .tmp 5, agg := false, ps := [.bool] }]
noncomputable def sl187 : SemL := []
def D187 : Draws := fun _ => .nil
def hp187_0 : List (Option AP) := [none, some (.val false [.int .i64]), none, none, some (.box false [.int .i64, .int .i64, .int .i64, .str]), none, none, none, some (.val false [.shr T_iiis]), some (.val false [.int .i64]), some (.val false [.int .i64]), none, none, none, none, none, none, none, none, none, none, none]
def e187_0 : List (Option AP) := [none, none, none, none, some (.box false [.int .i64, .int .i64, .int .i64, .str]), none, none, none, none, none, none, none, none, none, none, none, none, none, none, none, none, none]
def q187_0 : List (Option AP) := [none, none, none, none, some (.box false [.int .i64, .int .i64, .int .i64, .str]), some (.val false [.bool]), none, none, none, none, none, none, none, none, none, none, none, none, none, none, none, none]
abbrev H187_0 : Type := Int × Int × Int × Int × ByteArray × (List R_iiis) × Int × Int × Unit
abbrev E187_0 : Type := Int × Int × Int × ByteArray × Unit
abbrev Q187_0 : Type := Int × Int × Int × ByteArray × Bool × Unit
noncomputable def impl_ItemAt_c0 (seq1 : Int) (t4c0 : Int) (t4c1 : Int) (t4c2 : Int) (t4c3 : ByteArray) (t8 : List R_iiis) (t9 : Int) (t10 : Int) : Option (Sum H187_0 (Sum E187_0 Q187_0)) :=
  bif decide (t10 < t9) then
    bif decide ((0 : Int) ≤ t10) then Option.bind ((t8)[Int.toNat t10]?) fun r1 =>
      bif decide (r1.1 = seq1) then
        some (.inr (.inr (r1.1, r1.2.1, r1.2.2.1, r1.2.2.2.1, true, ())))
      else
        some (.inl (seq1, t4c0, t4c1, t4c2, t4c3, t8, t9, IntKind.i64.wrap (t10 + (1 : Int)), ()))
    else none
  else
    some (.inr (.inl (t4c0, t4c1, t4c2, t4c3, ())))
noncomputable def impl_ItemAt_r0 (x : H187_0) : Option (Sum H187_0 (Sum E187_0 Q187_0)) := impl_ItemAt_c0 x.1 x.2.1 x.2.2.1 x.2.2.2.1 x.2.2.2.2.1 x.2.2.2.2.2.1 x.2.2.2.2.2.2.1 x.2.2.2.2.2.2.2.1
noncomputable def L187 {R : Type} : Loops R := fun id _ st k => bif Nat.beq id 0 then loopAt hp187_0 e187_0 q187_0 impl_ItemAt_r0 st k else none
noncomputable def impl_ItemAt (list0 : List R_iiis) (seq1 : Int) : Option (Int × Int × Int × ByteArray × Bool × Unit) :=
  outK (loopV impl_ItemAt_r0 (seq1, (0 : Int), (0 : Int), (0 : Int), ByteArray.empty, list0, ((List.length list0 : Nat) : Int), (0 : Int), ())) (fun y1 =>
    some ((0 : Int), (0 : Int), (0 : Int), ByteArray.empty, false, ())) (fun y2 =>
    some (y2.1, y2.2.1, y2.2.2.1, y2.2.2.2.1, y2.2.2.2.2.1, ()))
noncomputable def x187 (x : (List R_iiis) × Int × Unit) : Option (Int × Int × Int × ByteArray × Bool × Unit) := impl_ItemAt x.1 x.2.1
noncomputable def sem187 : Sem1 := semOf ps187 rs187 x187
theorem so187 : SemsOk Try.prog (semsOf sl187) := sems_nil
noncomputable def b187_0 : Code := nthLoop code187 0
theorem t187_r0_eq (x : denR (headRT hp187_0)) : codeK (tabOf tr) (semsOf sl187) D187 L187 b187_0 (headSt hp187_0 x) (roundK 0 hp187_0 e187_0 q187_0) = impl_ItemAt_r0 x := by kernel_rfl
theorem loop187_0 {R : Type} (r : R) (w0 : World) (mu : Mu) (hs : AnShape ps187 mu) : LoopAt Try.prog w0 mu 21 (L187 : Loops R) r 0 b187_0 :=
  loop_auto tr_ok eq_ok mixed_ok so187 (D := D187) hs (by kernel_rfl) (fun _ => (loops_of (l := []) (by kernel_rfl) (List.forall_mem_nil _))) t187_r0_eq (fun _ _ => rfl)
theorem t187_eq (x : denR (headRT (ps187.map some))) : codeK (tabOf tr) (semsOf sl187) D187 L187 code187 (start 21 ps187 x) (finK rs187 ps187) = x187 x := by kernel_rfl
theorem k187 : Known Try.prog 187 sem187 :=
  fn_auto tr_ok eq_ok mixed_ok so187 (D := D187) (code := code187) (n := 21) Try.func187 (by kernel_rfl) (by kernel_rfl) (by kernel_rfl) (fun w0 mu _ hs => (loops_of (l := [(0, b187_0)]) (by kernel_rfl) (List.forall_mem_cons.2 ⟨loop187_0 _ w0 mu hs, (List.forall_mem_nil _)⟩))) t187_eq

/-! ### f157: impl.AruOf -/
noncomputable def code157 : Code := match Try.f157.body with | some c => c | none => .skip
def ps157 : List AP := [.val false [.shr T_iiis]]
def rs157 : List RP := [{ src := .tmp 2, agg := false, ps := [.int .i64] }]
noncomputable def sl157 : SemL := [(187, (.shr, .shr, .shr, sem187))]
def D157 : Draws := fun _ => .nil
def hp157_0 : List (Option AP) := [some (.val false [.shr T_iiis]), none, none, some (.val false [.int .i64]), none, none, none, none, none, none, none, none, none, none, none, none, none, none, none]
def e157_0 : List (Option AP) := [none, none, none, none, none, none, none, none, none, none, none, none, none, none, none, none, none, none, none]
def q157_0 : List (Option AP) := [none, none, some (.val false [.int .i64]), none, none, none, none, none, none, none, none, none, none, none, none, none, none, none, none]
abbrev H157_0 : Type := (List R_iiis) × Int × Unit
abbrev E157_0 : Type := Unit
abbrev Q157_0 : Type := Int × Unit
noncomputable def impl_AruOf_c0 (list0 : List R_iiis) (aru3 : Int) : Option (Sum H157_0 (Sum E157_0 Q157_0)) :=
  Option.bind (impl_ItemAt list0 (IntKind.i64.wrap (aru3 + (1 : Int)))) fun y1 =>
  bif !y1.2.2.2.2.1 then
    some (.inr (.inr (aru3, ())))
  else
    some (.inl (list0, IntKind.i64.wrap (aru3 + (1 : Int)), ()))
noncomputable def impl_AruOf_r0 (x : H157_0) : Option (Sum H157_0 (Sum E157_0 Q157_0)) := impl_AruOf_c0 x.1 x.2.1
noncomputable def L157 {R : Type} : Loops R := fun id _ st k => bif Nat.beq id 0 then loopAt hp157_0 e157_0 q157_0 impl_AruOf_r0 st k else none
noncomputable def impl_AruOf (list0 : List R_iiis) : Option (Int × Unit) :=
  outK (loopV impl_AruOf_r0 (list0, (0 : Int), ())) (fun y1 =>
    none) (fun y2 =>
    some (y2.1, ()))
noncomputable def x157 (x : (List R_iiis) × Unit) : Option (Int × Unit) := impl_AruOf x.1
noncomputable def sem157 : Sem1 := semOf ps157 rs157 x157
theorem so157 : SemsOk Try.prog (semsOf sl157) := sems_cons k187 (sems_nil)
noncomputable def b157_0 : Code := nthLoop code157 0
theorem t157_r0_eq (x : denR (headRT hp157_0)) : codeK (tabOf tr) (semsOf sl157) D157 L157 b157_0 (headSt hp157_0 x) (roundK 0 hp157_0 e157_0 q157_0) = impl_AruOf_r0 x := by kernel_rfl
theorem loop157_0 {R : Type} (r : R) (w0 : World) (mu : Mu) (hs : AnShape ps157 mu) : LoopAt Try.prog w0 mu 18 (L157 : Loops R) r 0 b157_0 :=
  loop_auto tr_ok eq_ok mixed_ok so157 (D := D157) hs (by kernel_rfl) (fun _ => (loops_of (l := []) (by kernel_rfl) (List.forall_mem_nil _))) t157_r0_eq (fun _ _ => rfl)
theorem t157_eq (x : denR (headRT (ps157.map some))) : codeK (tabOf tr) (semsOf sl157) D157 L157 code157 (start 18 ps157 x) (finK rs157 ps157) = x157 x := by kernel_rfl
theorem k157 : Known Try.prog 157 sem157 :=
  fn_auto tr_ok eq_ok mixed_ok so157 (D := D157) (code := code157) (n := 18) Try.func157 (by kernel_rfl) (by kernel_rfl) (by kernel_rfl) (fun w0 mu _ hs => (loops_of (l := [(0, b157_0)]) (by kernel_rfl) (List.forall_mem_cons.2 ⟨loop157_0 _ w0 mu hs, (List.forall_mem_nil _)⟩))) t157_eq

/-! ### f183: impl.TokenOk -/
noncomputable def code183 : Code := match Try.f183.body with | some c => c | none => .skip
def ps183 : List AP := [.val true [.int .i64, .int .i64, .int .i64, .int .i64, .int .i64, .shr T_i]]
def rs183 : List RP := [{ src := .tmp 2, agg := false, ps := [.bool] }]
noncomputable def sl183 : SemL := [(146, (.shr, .shr, .shr, sem146))]
def D183 : Draws := fun _ => .nil
def hp183_0 : List (Option AP) := [none, some (.box false [.int .i64, .int .i64, .int .i64, .int .i64, .int .i64, .shr T_i]), none, none, none, none, none, none, none, none, none, none, none, none, none, none, none, none, none, none, none, none, some (.val false [.shr T_i]), some (.val false [.int .i64]), some (.val false [.int .i64]), none, none, none, none, none, none, none, none, none, none, none, none, none, none, none, none, none, none, none, none, none, none, none, none, none, none, none, none, none, none, none, none, none, none, none, none, none, none, none, none, none]
def e183_0 : List (Option AP) := [none, some (.box false [.int .i64, .int .i64, .int .i64, .int .i64, .int .i64, .shr T_i]), none, none, none, none, none, none, none, none, none, none, none, none, none, none, none, none, none, none, none, none, none, none, none, none, none, none, none, none, none, none, none, none, none, none, none, none, none, none, none, none, none, none, none, none, none, none, none, none, none, none, none, none, none, none, none, none, none, none, none, none, none, none, none, none]
def q183_0 : List (Option AP) := [none, none, some (.val false [.bool]), none, none, none, none, none, none, none, none, none, none, none, none, none, none, none, none, none, none, none, none, none, none, none, none, none, none, none, none, none, none, none, none, none, none, none, none, none, none, none, none, none, none, none, none, none, none, none, none, none, none, none, none, none, none, none, none, none, none, none, none, none, none, none]
abbrev H183_0 : Type := Int × Int × Int × Int × Int × (List (Int × Unit)) × (List (Int × Unit)) × Int × Int × Unit
abbrev E183_0 : Type := Int × Int × Int × Int × Int × (List (Int × Unit)) × Unit
abbrev Q183_0 : Type := Bool × Unit
noncomputable def impl_TokenOk_c0 (t1c0 : Int) (t1c1 : Int) (t1c2 : Int) (t1c3 : Int) (t1c4 : Int) (t1c5 : List (Int × Unit)) (t22 : List (Int × Unit)) (t23 : Int) (t24 : Int) : Option (Sum H183_0 (Sum E183_0 Q183_0)) :=
  bif decide (t24 < t23) then
    bif decide ((0 : Int) ≤ t24) then Option.bind ((t22)[Int.toNat t24]?) fun r4 =>
      Option.bind (impl_inRange r4.1 (1 : Int) t1c2) fun y5 =>
      bif !y5.1 then
        some (.inr (.inr (false, ())))
      else bif decide ((0 : Int) < t24) then
        bif decide ((0 : Int) ≤ IntKind.i64.wrap (t24 - (1 : Int))) then Option.bind ((t1c5)[Int.toNat (IntKind.i64.wrap (t24 - (1 : Int)))]?) fun r6 =>
          bif decide (r4.1 ≤ r6.1) then
            some (.inr (.inr (false, ())))
          else
            some (.inl (t1c0, t1c1, t1c2, t1c3, t1c4, t1c5, t22, t23, IntKind.i64.wrap (t24 + (1 : Int)), ()))
        else none
      else
        some (.inl (t1c0, t1c1, t1c2, t1c3, t1c4, t1c5, t22, t23, IntKind.i64.wrap (t24 + (1 : Int)), ()))
    else none
  else
    some (.inr (.inl (t1c0, t1c1, t1c2, t1c3, t1c4, t1c5, ())))
noncomputable def impl_TokenOk_r0 (x : H183_0) : Option (Sum H183_0 (Sum E183_0 Q183_0)) := impl_TokenOk_c0 x.1 x.2.1 x.2.2.1 x.2.2.2.1 x.2.2.2.2.1 x.2.2.2.2.2.1 x.2.2.2.2.2.2.1 x.2.2.2.2.2.2.2.1 x.2.2.2.2.2.2.2.2.1
noncomputable def L183 {R : Type} : Loops R := fun id _ st k => bif Nat.beq id 0 then loopAt hp183_0 e183_0 q183_0 impl_TokenOk_r0 st k else none
noncomputable def impl_TokenOk (t0c0 : Int) (t0c1 : Int) (t0c2 : Int) (t0c3 : Int) (t0c4 : Int) (t0c5 : List (Int × Unit)) : Option (Bool × Unit) :=
  Option.bind (impl_inRange t0c0 (1 : Int) (9 : Int)) fun y1 =>
  bif !y1.1 then
    some (false, ())
  else
    Option.bind (impl_inRange t0c1 (1 : Int) (1000000000 : Int)) fun y2 =>
    bif !y2.1 then
      some (false, ())
    else
      Option.bind (impl_inRange t0c2 (0 : Int) (60 : Int)) fun y3 =>
      bif !y3.1 then
        some (false, ())
      else
        outK (loopV impl_TokenOk_r0 (t0c0, t0c1, t0c2, t0c3, t0c4, t0c5, t0c5, ((List.length t0c5 : Nat) : Int), (0 : Int), ())) (fun y4 =>
          Option.bind (impl_inRange y4.2.2.2.1 (0 : Int) y4.2.2.1) fun y6 =>
          bif y6.1 then
            Option.bind (impl_inRange y4.2.2.2.2.1 (0 : Int) (5 : Int)) fun y7 =>
            bif y7.1 then
              some (decide (((List.length y4.2.2.2.2.2.1 : Nat) : Int) ≤ (20 : Int)), ())
            else
              some (false, ())
          else
            some (false, ())) (fun y5 =>
          some (y5.1, ()))
noncomputable def x183 (x : Int × Int × Int × Int × Int × (List (Int × Unit)) × Unit) : Option (Bool × Unit) := impl_TokenOk x.1 x.2.1 x.2.2.1 x.2.2.2.1 x.2.2.2.2.1 x.2.2.2.2.2.1
noncomputable def sem183 : Sem1 := semOf ps183 rs183 x183
theorem so183 : SemsOk Try.prog (semsOf sl183) := sems_cons k146 (sems_nil)
noncomputable def b183_0 : Code := nthLoop code183 0
theorem t183_r0_eq (x : denR (headRT hp183_0)) : codeK (tabOf tr) (semsOf sl183) D183 L183 b183_0 (headSt hp183_0 x) (roundK 0 hp183_0 e183_0 q183_0) = impl_TokenOk_r0 x := by kernel_rfl
theorem loop183_0 {R : Type} (r : R) (w0 : World) (mu : Mu) (hs : AnShape ps183 mu) : LoopAt Try.prog w0 mu 65 (L183 : Loops R) r 0 b183_0 :=
  loop_auto tr_ok eq_ok mixed_ok so183 (D := D183) hs (by kernel_rfl) (fun _ => (loops_of (l := []) (by kernel_rfl) (List.forall_mem_nil _))) t183_r0_eq (fun _ _ => rfl)
theorem t183_eq (x : denR (headRT (ps183.map some))) : codeK (tabOf tr) (semsOf sl183) D183 L183 code183 (start 65 ps183 x) (finK rs183 ps183) = x183 x := by kernel_rfl
theorem k183 : Known Try.prog 183 sem183 :=
  fn_auto tr_ok eq_ok mixed_ok so183 (D := D183) (code := code183) (n := 65) Try.func183 (by kernel_rfl) (by kernel_rfl) (by kernel_rfl) (fun w0 mu _ hs => (loops_of (l := [(0, b183_0)]) (by kernel_rfl) (List.forall_mem_cons.2 ⟨loop183_0 _ w0 mu hs, (List.forall_mem_nil _)⟩))) t183_eq

/-! ### f139: impl.MateOk -/
noncomputable def code139 : Code := match Try.f139.body with | some c => c | none => .skip
def ps139 : List AP := [.val true [.int .i64, .int .i64, .shr T_i, .shr T_iiis, .shr T_i, .shr T_s, .int .i64, .int .i64, .int .i64, .int .i64, .int .i64, .int .i64, .int .i64, .int .i64, .int .i64, .shr T_i]]
def rs139 : List RP := [{ src := .tmp 2, agg := false, ps := [.bool] }]
noncomputable def sl139 : SemL := [(149, (.shr, .shr, .shr, sem149)), (67, (.shr, .shr, .shr, sem67)), (158, (.shr, .shr, .shr, sem158)), (180, (.shr, .shr, .shr, sem180)), (181, (.shr, .shr, .shr, sem181)), (157, (.shr, .shr, .shr, sem157)), (146, (.shr, .shr, .shr, sem146)), (182, (.shr, .shr, .shr, sem182)), (183, (.shr, .shr, .shr, sem183))]
def D139 : Draws := fun _ => .nil
def hp139_0 : List (Option AP) := [none, some (.box false [.int .i64, .int .i64, .shr T_i, .shr T_iiis, .shr T_i, .shr T_s, .int .i64, .int .i64, .int .i64, .int .i64, .int .i64, .int .i64, .int .i64, .int .i64, .int .i64, .shr T_i]), none, none, none, none, none, none, none, none, none, none, none, none, none, none, none, none, none, none, none, none, none, none, none, none, none, none, none, none, none, none, none, none, none, none, none, none, none, none, none, none, none, none, none, some (.val false [.shr T_i]), some (.val false [.int .i64]), some (.val false [.int .i64]), none, none, none, none, none, none, none, none, none, none, none, none, none, none, none, none, none, none, none, none, none, none, none, none, none, none, none, none, none, none, none, none, none, none, none, none, none, none, none, none, none, none, none]
def e139_0 : List (Option AP) := [none, some (.box false [.int .i64, .int .i64, .shr T_i, .shr T_iiis, .shr T_i, .shr T_s, .int .i64, .int .i64, .int .i64, .int .i64, .int .i64, .int .i64, .int .i64, .int .i64, .int .i64, .shr T_i]), none, none, none, none, none, none, none, none, none, none, none, none, none, none, none, none, none, none, none, none, none, none, none, none, none, none, none, none, none, none, none, none, none, none, none, none, none, none, none, none, none, none, none, none, none, none, none, none, none, none, none, none, none, none, none, none, none, none, none, none, none, none, none, none, none, none, none, none, none, none, none, none, none, none, none, none, none, none, none, none, none, none, none, none, none, none, none, none, none]
def q139_0 : List (Option AP) := [none, none, some (.val false [.bool]), none, none, none, none, none, none, none, none, none, none, none, none, none, none, none, none, none, none, none, none, none, none, none, none, none, none, none, none, none, none, none, none, none, none, none, none, none, none, none, none, none, none, none, none, none, none, none, none, none, none, none, none, none, none, none, none, none, none, none, none, none, none, none, none, none, none, none, none, none, none, none, none, none, none, none, none, none, none, none, none, none, none, none, none, none, none, none, none]
abbrev H139_0 : Type := Int × Int × (List (Int × Unit)) × (List R_iiis) × (List (Int × Unit)) × (List (ByteArray × Unit)) × Int × Int × Int × Int × Int × Int × Int × Int × Int × (List (Int × Unit)) × (List (Int × Unit)) × Int × Int × Unit
abbrev E139_0 : Type := Int × Int × (List (Int × Unit)) × (List R_iiis) × (List (Int × Unit)) × (List (ByteArray × Unit)) × Int × Int × Int × Int × Int × Int × Int × Int × Int × (List (Int × Unit)) × Unit
abbrev Q139_0 : Type := Bool × Unit
noncomputable def impl_MateOk_c0 (m1c0 : Int) (m1c1 : Int) (m1c2 : List (Int × Unit)) (m1c3 : List R_iiis) (m1c4 : List (Int × Unit)) (m1c5 : List (ByteArray × Unit)) (m1c6 : Int) (m1c7 : Int) (m1c8 : Int) (m1c9 : Int) (m1c10 : Int) (m1c11 : Int) (m1c12 : Int) (m1c13 : Int) (m1c14 : Int) (m1c15 : List (Int × Unit)) (t45 : List (Int × Unit)) (t46 : Int) (t47 : Int) : Option (Sum H139_0 (Sum E139_0 Q139_0)) :=
  bif decide (t47 < t46) then
    bif decide ((0 : Int) ≤ t47) then Option.bind ((t45)[Int.toNat t47]?) fun r5 =>
      Option.bind (impl_isLevel r5.1) fun y6 =>
      bif !y6.1 then
        some (.inr (.inr (false, ())))
      else
        some (.inl (m1c0, m1c1, m1c2, m1c3, m1c4, m1c5, m1c6, m1c7, m1c8, m1c9, m1c10, m1c11, m1c12, m1c13, m1c14, m1c15, t45, t46, IntKind.i64.wrap (t47 + (1 : Int)), ()))
    else none
  else
    some (.inr (.inl (m1c0, m1c1, m1c2, m1c3, m1c4, m1c5, m1c6, m1c7, m1c8, m1c9, m1c10, m1c11, m1c12, m1c13, m1c14, m1c15, ())))
noncomputable def impl_MateOk_r0 (x : H139_0) : Option (Sum H139_0 (Sum E139_0 Q139_0)) := impl_MateOk_c0 x.1 x.2.1 x.2.2.1 x.2.2.2.1 x.2.2.2.2.1 x.2.2.2.2.2.1 x.2.2.2.2.2.2.1 x.2.2.2.2.2.2.2.1 x.2.2.2.2.2.2.2.2.1 x.2.2.2.2.2.2.2.2.2.1 x.2.2.2.2.2.2.2.2.2.2.1 x.2.2.2.2.2.2.2.2.2.2.2.1 x.2.2.2.2.2.2.2.2.2.2.2.2.1 x.2.2.2.2.2.2.2.2.2.2.2.2.2.1 x.2.2.2.2.2.2.2.2.2.2.2.2.2.2.1 x.2.2.2.2.2.2.2.2.2.2.2.2.2.2.2.1 x.2.2.2.2.2.2.2.2.2.2.2.2.2.2.2.2.1 x.2.2.2.2.2.2.2.2.2.2.2.2.2.2.2.2.2.1 x.2.2.2.2.2.2.2.2.2.2.2.2.2.2.2.2.2.2.1
noncomputable def L139 {R : Type} : Loops R := fun id _ st k => bif Nat.beq id 0 then loopAt hp139_0 e139_0 q139_0 impl_MateOk_r0 st k else none
noncomputable def impl_MateOk (m0c0 : Int) (m0c1 : Int) (m0c2 : List (Int × Unit)) (m0c3 : List R_iiis) (m0c4 : List (Int × Unit)) (m0c5 : List (ByteArray × Unit)) (m0c6 : Int) (m0c7 : Int) (m0c8 : Int) (m0c9 : Int) (m0c10 : Int) (m0c11 : Int) (m0c12 : Int) (m0c13 : Int) (m0c14 : Int) (m0c15 : List (Int × Unit)) : Option (Bool × Unit) :=
  Option.bind (slices_Contains_int m0c2 m0c0) fun y1 =>
  bif !y1.1 then
    some (false, ())
  else
    Option.bind (impl_RingOk m0c1 m0c2) fun y2 =>
    bif !y2.1 then
      some (false, ())
    else
      Option.bind (impl_ItemsOk m0c3) fun y3 =>
      bif !y3.1 then
        some (false, ())
      else bif decide ((20 : Int) < ((List.length m0c5 : Nat) : Int)) then
        some (false, ())
      else
        Option.bind (impl_areShort m0c5) fun y4 =>
        bif !y4.1 then
          some (false, ())
        else bif !decide (((List.length m0c4 : Nat) : Int) = ((List.length m0c5 : Nat) : Int)) then
          some (false, ())
        else
          outK (loopV impl_MateOk_r0 (m0c0, m0c1, m0c2, m0c3, m0c4, m0c5, m0c6, m0c7, m0c8, m0c9, m0c10, m0c11, m0c12, m0c13, m0c14, m0c15, m0c4, ((List.length m0c4 : Nat) : Int), (0 : Int), ())) (fun y5 =>
            Option.bind (impl_AruOf y5.2.2.2.1) fun y7 =>
            Option.bind (impl_inRange y5.2.2.2.2.2.2.1 (0 : Int) (1000000000 : Int)) fun y8 =>
            bif !y8.1 then
              some (false, ())
            else
              Option.bind (impl_inRange y5.2.2.2.2.2.2.2.1 (0 : Int) (60 : Int)) fun y9 =>
              bif !y9.1 then
                some (false, ())
              else
                Option.bind (impl_inRange y5.2.2.2.2.2.2.2.2.1 (0 : Int) y7.1) fun y10 =>
                bif !y10.1 then
                  some (false, ())
                else
                  Option.bind (impl_inRange y5.2.2.2.2.2.2.2.2.2.1 (0 : Int) y7.1) fun y11 =>
                  bif !y11.1 then
                    some (false, ())
                  else
                    Option.bind (impl_Token_isZero y5.2.2.2.2.2.2.2.2.2.2.1 y5.2.2.2.2.2.2.2.2.2.2.2.1 y5.2.2.2.2.2.2.2.2.2.2.2.2.1 y5.2.2.2.2.2.2.2.2.2.2.2.2.2.1 y5.2.2.2.2.2.2.2.2.2.2.2.2.2.2.1 y5.2.2.2.2.2.2.2.2.2.2.2.2.2.2.2.1) fun y12 =>
                    bif y12.1 then
                      some (true, ())
                    else
                      Option.bind (impl_TokenOk y5.2.2.2.2.2.2.2.2.2.2.1 y5.2.2.2.2.2.2.2.2.2.2.2.1 y5.2.2.2.2.2.2.2.2.2.2.2.2.1 y5.2.2.2.2.2.2.2.2.2.2.2.2.2.1 y5.2.2.2.2.2.2.2.2.2.2.2.2.2.2.1 y5.2.2.2.2.2.2.2.2.2.2.2.2.2.2.2.1) fun y13 =>
                      some (y13.1, ())) (fun y6 =>
            some (y6.1, ()))
noncomputable def x139 (x : Int × Int × (List (Int × Unit)) × (List R_iiis) × (List (Int × Unit)) × (List (ByteArray × Unit)) × Int × Int × Int × Int × Int × Int × Int × Int × Int × (List (Int × Unit)) × Unit) : Option (Bool × Unit) := impl_MateOk x.1 x.2.1 x.2.2.1 x.2.2.2.1 x.2.2.2.2.1 x.2.2.2.2.2.1 x.2.2.2.2.2.2.1 x.2.2.2.2.2.2.2.1 x.2.2.2.2.2.2.2.2.1 x.2.2.2.2.2.2.2.2.2.1 x.2.2.2.2.2.2.2.2.2.2.1 x.2.2.2.2.2.2.2.2.2.2.2.1 x.2.2.2.2.2.2.2.2.2.2.2.2.1 x.2.2.2.2.2.2.2.2.2.2.2.2.2.1 x.2.2.2.2.2.2.2.2.2.2.2.2.2.2.1 x.2.2.2.2.2.2.2.2.2.2.2.2.2.2.2.1
noncomputable def sem139 : Sem1 := semOf ps139 rs139 x139
theorem so139 : SemsOk Try.prog (semsOf sl139) := sems_cons k149 (sems_cons k67 (sems_cons k158 (sems_cons k180 (sems_cons k181 (sems_cons k157 (sems_cons k146 (sems_cons k182 (sems_cons k183 (sems_nil)))))))))
noncomputable def b139_0 : Code := nthLoop code139 0
theorem t139_r0_eq (x : denR (headRT hp139_0)) : codeK (tabOf tr) (semsOf sl139) D139 L139 b139_0 (headSt hp139_0 x) (roundK 0 hp139_0 e139_0 q139_0) = impl_MateOk_r0 x := by kernel_rfl
theorem loop139_0 {R : Type} (r : R) (w0 : World) (mu : Mu) (hs : AnShape ps139 mu) : LoopAt Try.prog w0 mu 90 (L139 : Loops R) r 0 b139_0 :=
  loop_auto tr_ok eq_ok mixed_ok so139 (D := D139) hs (by kernel_rfl) (fun _ => (loops_of (l := []) (by kernel_rfl) (List.forall_mem_nil _))) t139_r0_eq (fun _ _ => rfl)
theorem t139_eq (x : denR (headRT (ps139.map some))) : codeK (tabOf tr) (semsOf sl139) D139 L139 code139 (start 90 ps139 x) (finK rs139 ps139) = x139 x := by kernel_rfl
theorem k139 : Known Try.prog 139 sem139 :=
  fn_auto tr_ok eq_ok mixed_ok so139 (D := D139) (code := code139) (n := 90) Try.func139 (by kernel_rfl) (by kernel_rfl) (by kernel_rfl) (fun w0 mu _ hs => (loops_of (l := [(0, b139_0)]) (by kernel_rfl) (List.forall_mem_cons.2 ⟨loop139_0 _ w0 mu hs, (List.forall_mem_nil _)⟩))) t139_eq

/-! ### f110: impl.BundleOk -/
noncomputable def code110 : Code := match Try.f110.body with | some c => c | none => .skip
def ps110 : List AP := [.val true [.int .i64, .int .i64, .int .i64, .shr T_iiis]]
def rs110 : List RP := [{ src := .tmp 2, agg := false, ps := [.bool] }]
noncomputable def sl110 : SemL := [(147, (.shr, .shr, .shr, sem147)), (146, (.shr, .shr, .shr, sem146)), (158, (.shr, .shr, .shr, sem158))]
def D110 : Draws := fun _ => .nil
noncomputable def L110 {R : Type} : Loops R := fun _ _ _ _ => none
noncomputable def impl_BundleOk (b0c0 : Int) (b0c1 : Int) (b0c2 : Int) (b0c3 : List R_iiis) : Option (Bool × Unit) :=
  Option.bind (impl_isDaemon b0c0) fun y1 =>
  bif !y1.1 then
    some (false, ())
  else
    Option.bind (impl_inRange b0c1 (1 : Int) (9 : Int)) fun y2 =>
    bif !y2.1 then
      some (false, ())
    else
      Option.bind (impl_inRange b0c2 (0 : Int) (IntKind.i64.wrap (b0c1 - (1 : Int)))) fun y3 =>
      bif !y3.1 then
        some (false, ())
      else
        Option.bind (impl_ItemsOk b0c3) fun y4 =>
        bif y4.1 then
          bif decide ((0 : Int) < b0c2) then
            some (true, ())
          else
            some (decide (((List.length b0c3 : Nat) : Int) = (0 : Int)), ())
        else
          some (false, ())
noncomputable def x110 (x : Int × Int × Int × (List R_iiis) × Unit) : Option (Bool × Unit) := impl_BundleOk x.1 x.2.1 x.2.2.1 x.2.2.2.1
noncomputable def sem110 : Sem1 := semOf ps110 rs110 x110
theorem so110 : SemsOk Try.prog (semsOf sl110) := sems_cons k147 (sems_cons k146 (sems_cons k158 (sems_nil)))
theorem t110_eq (x : denR (headRT (ps110.map some))) : codeK (tabOf tr) (semsOf sl110) D110 L110 code110 (start 36 ps110 x) (finK rs110 ps110) = x110 x := by kernel_rfl
theorem k110 : Known Try.prog 110 sem110 :=
  fn_auto tr_ok eq_ok mixed_ok so110 (D := D110) (code := code110) (n := 36) Try.func110 (by kernel_rfl) (by kernel_rfl) (by kernel_rfl) (fun w0 mu _ hs => (loops_of (l := []) (by kernel_rfl) (List.forall_mem_nil _))) t110_eq

/-! ### f172: impl.Daemon).joiningOk -/
noncomputable def code172 : Code := match Try.f172.body with | some c => c | none => .skip
def ps172 : List AP := [.box true [.int .i64, .bool, .int .i64, .int .i64, .shr T_i, .shr T_iiis, .shr T_i, .shr T_s, .int .i64, .int .i64, .int .i64, .int .i64, .int .i64, .int .i64, .int .i64, .int .i64, .int .i64, .shr T_i, .int .i64, .int .i64, .int .i64, .shr T_i, .shr T_iiiLiiisE, .shr T_iiLiEiiisLiE]]
def rs172 : List RP := [{ src := .tmp 2, agg := false, ps := [.bool] }]
noncomputable def sl172 : SemL := [(171, (.shr, .shr, .shr, sem171)), (67, (.shr, .shr, .shr, sem67)), (149, (.shr, .shr, .shr, sem149)), (146, (.shr, .shr, .shr, sem146)), (110, (.shr, .shr, .shr, sem110))]
def D172 : Draws := fun id => bif Nat.beq id 3 then .op 0 .any (.op 1 .any (.op 2 .any (.op 3 .take (.op 4 .one (.op 5 .any (.op 6 .any (.op 7 .any (.op 8 .any (.op 9 .any (.op 10 .any (.op 11 .take (.op 12 .any (.op 13 .any (.op 14 .any (.op 15 .take (.op 16 .one (.op 17 .any (.op 18 .any (.op 19 .any (.op 20 .any (.op 21 .any (.op 22 .any (.op 23 .any (.op 24 .take (.op 25 .any (.op 26 .any (.op 27 .any (.op 28 .take (.op 29 .any (.op 30 .any (.op 31 .any (.op 32 .any (.op 33 .take (.op 34 .one (.op 35 .any (.op 36 .any (.nil))))))))))))))))))))))))))))))))))))) else bif Nat.beq id 8 then .op 0 .take (.op 1 .one (.op 2 .any (.op 3 .any (.op 4 .any (.op 5 .take (.op 6 .any (.op 7 .any (.op 8 .any (.op 9 .any (.op 10 .take (.op 11 .any (.op 12 .any (.nil))))))))))))) else .nil
def hp172_0 : List (Option AP) := [some (.box true [.int .i64, .bool, .int .i64, .int .i64, .shr T_i, .shr T_iiis, .shr T_i, .shr T_s, .int .i64, .int .i64, .int .i64, .int .i64, .int .i64, .int .i64, .int .i64, .int .i64, .int .i64, .shr T_i, .int .i64, .int .i64, .int .i64, .shr T_i, .shr T_iiiLiiisE, .shr T_iiLiEiiisLiE]), none, none, none, none, none, none, none, none, none, none, none, none, none, none, none, none, none, none, none, none, none, none, none, none, none, none, none, none, none, none, none, none, none, none, none, none, none, none, none, none, none, none, none, none, none, none, none, none, none, none, none, none, none, none, none, some (.val false [.shr T_iiiLiiisE]), some (.val false [.int .i64]), some (.val false [.int .i64]), none, none, none, none, none, none, none, none, none, none, none, none, none, none, none, none, none, none]
def e172_0 : List (Option AP) := [some (.box true [.int .i64, .bool, .int .i64, .int .i64, .shr T_i, .shr T_iiis, .shr T_i, .shr T_s, .int .i64, .int .i64, .int .i64, .int .i64, .int .i64, .int .i64, .int .i64, .int .i64, .int .i64, .shr T_i, .int .i64, .int .i64, .int .i64, .shr T_i, .shr T_iiiLiiisE, .shr T_iiLiEiiisLiE]), none, none, none, none, none, none, none, none, none, none, none, none, none, none, none, none, none, none, none, none, none, none, none, none, none, none, none, none, none, none, none, none, none, none, none, none, none, none, none, none, none, none, none, none, none, none, none, none, none, none, none, none, none, none, none, none, none, none, none, none, none, none, none, none, none, none, none, none, none, none, none, none, none, none, none, none]
def q172_0 : List (Option AP) := [some (.box true [.int .i64, .bool, .int .i64, .int .i64, .shr T_i, .shr T_iiis, .shr T_i, .shr T_s, .int .i64, .int .i64, .int .i64, .int .i64, .int .i64, .int .i64, .int .i64, .int .i64, .int .i64, .shr T_i, .int .i64, .int .i64, .int .i64, .shr T_i, .shr T_iiiLiiisE, .shr T_iiLiEiiisLiE]), none, some (.val false [.bool]), none, none, none, none, none, none, none, none, none, none, none, none, none, none, none, none, none, none, none, none, none, none, none, none, none, none, none, none, none, none, none, none, none, none, none, none, none, none, none, none, none, none, none, none, none, none, none, none, none, none, none, none, none, none, none, none, none, none, none, none, none, none, none, none, none, none, none, none, none, none, none, none, none, none]
abbrev H172_0 : Type := Int × Bool × Int × Int × (List (Int × Unit)) × (List R_iiis) × (List (Int × Unit)) × (List (ByteArray × Unit)) × Int × Int × Int × Int × Int × Int × Int × Int × Int × (List (Int × Unit)) × Int × Int × Int × (List (Int × Unit)) × (List R_iiiLiiisE) × (List R_iiLiEiiisLiE) × (List R_iiiLiiisE) × Int × Int × Unit
abbrev E172_0 : Type := Int × Bool × Int × Int × (List (Int × Unit)) × (List R_iiis) × (List (Int × Unit)) × (List (ByteArray × Unit)) × Int × Int × Int × Int × Int × Int × Int × Int × Int × (List (Int × Unit)) × Int × Int × Int × (List (Int × Unit)) × (List R_iiiLiiisE) × (List R_iiLiEiiisLiE) × Unit
abbrev Q172_0 : Type := Int × Bool × Int × Int × (List (Int × Unit)) × (List R_iiis) × (List (Int × Unit)) × (List (ByteArray × Unit)) × Int × Int × Int × Int × Int × Int × Int × Int × Int × (List (Int × Unit)) × Int × Int × Int × (List (Int × Unit)) × (List R_iiiLiiisE) × (List R_iiLiEiiisLiE) × Bool × Unit
noncomputable def impl_Daemon_joiningOk_c0 (d0c0 : Int) (d0c1 : Bool) (d0c2 : Int) (d0c3 : Int) (d0c4 : List (Int × Unit)) (d0c5 : List R_iiis) (d0c6 : List (Int × Unit)) (d0c7 : List (ByteArray × Unit)) (d0c8 : Int) (d0c9 : Int) (d0c10 : Int) (d0c11 : Int) (d0c12 : Int) (d0c13 : Int) (d0c14 : Int) (d0c15 : Int) (d0c16 : Int) (d0c17 : List (Int × Unit)) (d0c18 : Int) (d0c19 : Int) (d0c20 : Int) (d0c21 : List (Int × Unit)) (d0c22 : List R_iiiLiiisE) (d0c23 : List R_iiLiEiiisLiE) (t56 : List R_iiiLiiisE) (t57 : Int) (t58 : Int) : Option (Sum H172_0 (Sum E172_0 Q172_0)) :=
  bif decide (t58 < t57) then
    bif decide ((0 : Int) ≤ t58) then Option.bind ((t56)[Int.toNat t58]?) fun r5 =>
      Option.bind (impl_BundleOk r5.1 r5.2.1 r5.2.2.1 r5.2.2.2.1) fun y6 =>
      bif !y6.1 then
        some (.inr (.inr (d0c0, d0c1, d0c2, d0c3, d0c4, d0c5, d0c6, d0c7, d0c8, d0c9, d0c10, d0c11, d0c12, d0c13, d0c14, d0c15, d0c16, d0c17, d0c18, d0c19, d0c20, d0c21, d0c22, d0c23, false, ())))
      else bif !decide (r5.2.1 = d0c20) then
        some (.inr (.inr (d0c0, d0c1, d0c2, d0c3, d0c4, d0c5, d0c6, d0c7, d0c8, d0c9, d0c10, d0c11, d0c12, d0c13, d0c14, d0c15, d0c16, d0c17, d0c18, d0c19, d0c20, d0c21, d0c22, d0c23, false, ())))
      else
        some (.inl (d0c0, d0c1, d0c2, d0c3, d0c4, d0c5, d0c6, d0c7, d0c8, d0c9, d0c10, d0c11, d0c12, d0c13, d0c14, d0c15, d0c16, d0c17, d0c18, d0c19, d0c20, d0c21, d0c22, d0c23, t56, t57, IntKind.i64.wrap (t58 + (1 : Int)), ()))
    else none
  else
    some (.inr (.inl (d0c0, d0c1, d0c2, d0c3, d0c4, d0c5, d0c6, d0c7, d0c8, d0c9, d0c10, d0c11, d0c12, d0c13, d0c14, d0c15, d0c16, d0c17, d0c18, d0c19, d0c20, d0c21, d0c22, d0c23, ())))
noncomputable def impl_Daemon_joiningOk_r0 (x : H172_0) : Option (Sum H172_0 (Sum E172_0 Q172_0)) := impl_Daemon_joiningOk_c0 x.1 x.2.1 x.2.2.1 x.2.2.2.1 x.2.2.2.2.1 x.2.2.2.2.2.1 x.2.2.2.2.2.2.1 x.2.2.2.2.2.2.2.1 x.2.2.2.2.2.2.2.2.1 x.2.2.2.2.2.2.2.2.2.1 x.2.2.2.2.2.2.2.2.2.2.1 x.2.2.2.2.2.2.2.2.2.2.2.1 x.2.2.2.2.2.2.2.2.2.2.2.2.1 x.2.2.2.2.2.2.2.2.2.2.2.2.2.1 x.2.2.2.2.2.2.2.2.2.2.2.2.2.2.1 x.2.2.2.2.2.2.2.2.2.2.2.2.2.2.2.1 x.2.2.2.2.2.2.2.2.2.2.2.2.2.2.2.2.1 x.2.2.2.2.2.2.2.2.2.2.2.2.2.2.2.2.2.1 x.2.2.2.2.2.2.2.2.2.2.2.2.2.2.2.2.2.2.1 x.2.2.2.2.2.2.2.2.2.2.2.2.2.2.2.2.2.2.2.1 x.2.2.2.2.2.2.2.2.2.2.2.2.2.2.2.2.2.2.2.2.1 x.2.2.2.2.2.2.2.2.2.2.2.2.2.2.2.2.2.2.2.2.2.1 x.2.2.2.2.2.2.2.2.2.2.2.2.2.2.2.2.2.2.2.2.2.2.1 x.2.2.2.2.2.2.2.2.2.2.2.2.2.2.2.2.2.2.2.2.2.2.2.1 x.2.2.2.2.2.2.2.2.2.2.2.2.2.2.2.2.2.2.2.2.2.2.2.2.1 x.2.2.2.2.2.2.2.2.2.2.2.2.2.2.2.2.2.2.2.2.2.2.2.2.2.1 x.2.2.2.2.2.2.2.2.2.2.2.2.2.2.2.2.2.2.2.2.2.2.2.2.2.2.1
noncomputable def L172 {R : Type} : Loops R := fun id _ st k => bif Nat.beq id 0 then loopAt hp172_0 e172_0 q172_0 impl_Daemon_joiningOk_r0 st k else none
noncomputable def impl_Daemon_joiningOk (d0c0 : Int) (d0c1 : Bool) (d0c2 : Int) (d0c3 : Int) (d0c4 : List (Int × Unit)) (d0c5 : List R_iiis) (d0c6 : List (Int × Unit)) (d0c7 : List (ByteArray × Unit)) (d0c8 : Int) (d0c9 : Int) (d0c10 : Int) (d0c11 : Int) (d0c12 : Int) (d0c13 : Int) (d0c14 : Int) (d0c15 : Int) (d0c16 : Int) (d0c17 : List (Int × Unit)) (d0c18 : Int) (d0c19 : Int) (d0c20 : Int) (d0c21 : List (Int × Unit)) (d0c22 : List R_iiiLiiisE) (d0c23 : List R_iiLiEiiisLiE) : Option (Bool × Int × Bool × Int × Int × (List (Int × Unit)) × (List R_iiis) × (List (Int × Unit)) × (List (ByteArray × Unit)) × Int × Int × Int × Int × Int × Int × Int × Int × Int × (List (Int × Unit)) × Int × Int × Int × (List (Int × Unit)) × (List R_iiiLiiisE) × (List R_iiLiEiiisLiE) × Unit) :=
  Option.bind (impl_Ring_isNone d0c20 d0c21) fun y1 =>
  bif y1.1 then
    some (decide (((List.length d0c22 : Nat) : Int) = (0 : Int)), d0c0, d0c1, d0c2, d0c3, d0c4, d0c5, d0c6, d0c7, d0c8, d0c9, d0c10, d0c11, d0c12, d0c13, d0c14, d0c15, d0c16, d0c17, d0c18, d0c19, d0c20, d0c21, d0c22, d0c23, ())
  else
    Option.bind (impl_RingOk d0c20 d0c21) fun y2 =>
    bif !y2.1 then
      some (false, d0c0, d0c1, d0c2, d0c3, d0c4, d0c5, d0c6, d0c7, d0c8, d0c9, d0c10, d0c11, d0c12, d0c13, d0c14, d0c15, d0c16, d0c17, d0c18, d0c19, d0c20, d0c21, d0c22, d0c23, ())
    else
      Option.bind (slices_Contains_int d0c21 d0c0) fun y3 =>
      bif !y3.1 then
        some (false, d0c0, d0c1, d0c2, d0c3, d0c4, d0c5, d0c6, d0c7, d0c8, d0c9, d0c10, d0c11, d0c12, d0c13, d0c14, d0c15, d0c16, d0c17, d0c18, d0c19, d0c20, d0c21, d0c22, d0c23, ())
      else
        Option.bind (impl_inRange d0c20 (IntKind.i64.wrap (d0c19 + (1 : Int))) d0c18) fun y4 =>
        bif !y4.1 then
          some (false, d0c0, d0c1, d0c2, d0c3, d0c4, d0c5, d0c6, d0c7, d0c8, d0c9, d0c10, d0c11, d0c12, d0c13, d0c14, d0c15, d0c16, d0c17, d0c18, d0c19, d0c20, d0c21, d0c22, d0c23, ())
        else
          outK (loopV impl_Daemon_joiningOk_r0 (d0c0, d0c1, d0c2, d0c3, d0c4, d0c5, d0c6, d0c7, d0c8, d0c9, d0c10, d0c11, d0c12, d0c13, d0c14, d0c15, d0c16, d0c17, d0c18, d0c19, d0c20, d0c21, d0c22, d0c23, d0c22, ((List.length d0c22 : Nat) : Int), (0 : Int), ())) (fun y5 =>
            some (true, y5.1, y5.2.1, y5.2.2.1, y5.2.2.2.1, y5.2.2.2.2.1, y5.2.2.2.2.2.1, y5.2.2.2.2.2.2.1, y5.2.2.2.2.2.2.2.1, y5.2.2.2.2.2.2.2.2.1, y5.2.2.2.2.2.2.2.2.2.1, y5.2.2.2.2.2.2.2.2.2.2.1, y5.2.2.2.2.2.2.2.2.2.2.2.1, y5.2.2.2.2.2.2.2.2.2.2.2.2.1, y5.2.2.2.2.2.2.2.2.2.2.2.2.2.1, y5.2.2.2.2.2.2.2.2.2.2.2.2.2.2.1, y5.2.2.2.2.2.2.2.2.2.2.2.2.2.2.2.1, y5.2.2.2.2.2.2.2.2.2.2.2.2.2.2.2.2.1, y5.2.2.2.2.2.2.2.2.2.2.2.2.2.2.2.2.2.1, y5.2.2.2.2.2.2.2.2.2.2.2.2.2.2.2.2.2.2.1, y5.2.2.2.2.2.2.2.2.2.2.2.2.2.2.2.2.2.2.2.1, y5.2.2.2.2.2.2.2.2.2.2.2.2.2.2.2.2.2.2.2.2.1, y5.2.2.2.2.2.2.2.2.2.2.2.2.2.2.2.2.2.2.2.2.2.1, y5.2.2.2.2.2.2.2.2.2.2.2.2.2.2.2.2.2.2.2.2.2.2.1, y5.2.2.2.2.2.2.2.2.2.2.2.2.2.2.2.2.2.2.2.2.2.2.2.1, ())) (fun y6 =>
            some (y6.2.2.2.2.2.2.2.2.2.2.2.2.2.2.2.2.2.2.2.2.2.2.2.2.1, y6.1, y6.2.1, y6.2.2.1, y6.2.2.2.1, y6.2.2.2.2.1, y6.2.2.2.2.2.1, y6.2.2.2.2.2.2.1, y6.2.2.2.2.2.2.2.1, y6.2.2.2.2.2.2.2.2.1, y6.2.2.2.2.2.2.2.2.2.1, y6.2.2.2.2.2.2.2.2.2.2.1, y6.2.2.2.2.2.2.2.2.2.2.2.1, y6.2.2.2.2.2.2.2.2.2.2.2.2.1, y6.2.2.2.2.2.2.2.2.2.2.2.2.2.1, y6.2.2.2.2.2.2.2.2.2.2.2.2.2.2.1, y6.2.2.2.2.2.2.2.2.2.2.2.2.2.2.2.1, y6.2.2.2.2.2.2.2.2.2.2.2.2.2.2.2.2.1, y6.2.2.2.2.2.2.2.2.2.2.2.2.2.2.2.2.2.1, y6.2.2.2.2.2.2.2.2.2.2.2.2.2.2.2.2.2.2.1, y6.2.2.2.2.2.2.2.2.2.2.2.2.2.2.2.2.2.2.2.1, y6.2.2.2.2.2.2.2.2.2.2.2.2.2.2.2.2.2.2.2.2.1, y6.2.2.2.2.2.2.2.2.2.2.2.2.2.2.2.2.2.2.2.2.2.1, y6.2.2.2.2.2.2.2.2.2.2.2.2.2.2.2.2.2.2.2.2.2.2.1, y6.2.2.2.2.2.2.2.2.2.2.2.2.2.2.2.2.2.2.2.2.2.2.2.1, ()))
noncomputable def x172 (x : Int × Bool × Int × Int × (List (Int × Unit)) × (List R_iiis) × (List (Int × Unit)) × (List (ByteArray × Unit)) × Int × Int × Int × Int × Int × Int × Int × Int × Int × (List (Int × Unit)) × Int × Int × Int × (List (Int × Unit)) × (List R_iiiLiiisE) × (List R_iiLiEiiisLiE) × Unit) : Option (Bool × Int × Bool × Int × Int × (List (Int × Unit)) × (List R_iiis) × (List (Int × Unit)) × (List (ByteArray × Unit)) × Int × Int × Int × Int × Int × Int × Int × Int × Int × (List (Int × Unit)) × Int × Int × Int × (List (Int × Unit)) × (List R_iiiLiiisE) × (List R_iiLiEiiisLiE) × Unit) := impl_Daemon_joiningOk x.1 x.2.1 x.2.2.1 x.2.2.2.1 x.2.2.2.2.1 x.2.2.2.2.2.1 x.2.2.2.2.2.2.1 x.2.2.2.2.2.2.2.1 x.2.2.2.2.2.2.2.2.1 x.2.2.2.2.2.2.2.2.2.1 x.2.2.2.2.2.2.2.2.2.2.1 x.2.2.2.2.2.2.2.2.2.2.2.1 x.2.2.2.2.2.2.2.2.2.2.2.2.1 x.2.2.2.2.2.2.2.2.2.2.2.2.2.1 x.2.2.2.2.2.2.2.2.2.2.2.2.2.2.1 x.2.2.2.2.2.2.2.2.2.2.2.2.2.2.2.1 x.2.2.2.2.2.2.2.2.2.2.2.2.2.2.2.2.1 x.2.2.2.2.2.2.2.2.2.2.2.2.2.2.2.2.2.1 x.2.2.2.2.2.2.2.2.2.2.2.2.2.2.2.2.2.2.1 x.2.2.2.2.2.2.2.2.2.2.2.2.2.2.2.2.2.2.2.1 x.2.2.2.2.2.2.2.2.2.2.2.2.2.2.2.2.2.2.2.2.1 x.2.2.2.2.2.2.2.2.2.2.2.2.2.2.2.2.2.2.2.2.2.1 x.2.2.2.2.2.2.2.2.2.2.2.2.2.2.2.2.2.2.2.2.2.2.1 x.2.2.2.2.2.2.2.2.2.2.2.2.2.2.2.2.2.2.2.2.2.2.2.1
noncomputable def sem172 : Sem1 := semOf ps172 rs172 x172
theorem so172 : SemsOk Try.prog (semsOf sl172) := sems_cons k171 (sems_cons k67 (sems_cons k149 (sems_cons k146 (sems_cons k110 (sems_nil)))))
noncomputable def b172_0 : Code := nthLoop code172 0
theorem t172_r0_eq (x : denR (headRT hp172_0)) : codeK (tabOf tr) (semsOf sl172) D172 L172 b172_0 (headSt hp172_0 x) (roundK 0 hp172_0 e172_0 q172_0) = impl_Daemon_joiningOk_r0 x := by kernel_rfl
theorem loop172_0 {R : Type} (r : R) (w0 : World) (mu : Mu) (hs : AnShape ps172 mu) : LoopAt Try.prog w0 mu 76 (L172 : Loops R) r 0 b172_0 :=
  loop_auto tr_ok eq_ok mixed_ok so172 (D := D172) hs (by kernel_rfl) (fun _ => (loops_of (l := []) (by kernel_rfl) (List.forall_mem_nil _))) t172_r0_eq (fun _ _ => rfl)
theorem t172_eq (x : denR (headRT (ps172.map some))) : codeK (tabOf tr) (semsOf sl172) D172 L172 code172 (start 76 ps172 x) (finK rs172 ps172) = x172 x := by kernel_rfl
theorem k172 : Known Try.prog 172 sem172 :=
  fn_auto tr_ok eq_ok mixed_ok so172 (D := D172) (code := code172) (n := 76) Try.func172 (by kernel_rfl) (by kernel_rfl) (by kernel_rfl) (fun w0 mu _ hs => (loops_of (l := [(0, b172_0)]) (by kernel_rfl) (List.forall_mem_cons.2 ⟨loop172_0 _ w0 mu hs, (List.forall_mem_nil _)⟩))) t172_eq

/-! ### f129: impl.DaemonOk -/
noncomputable def code129 : Code := match Try.f129.body with | some c => c | none => .skip
def ps129 : List AP := [.val true [.int .i64, .bool, .int .i64, .int .i64, .shr T_i, .shr T_iiis, .shr T_i, .shr T_s, .int .i64, .int .i64, .int .i64, .int .i64, .int .i64, .int .i64, .int .i64, .int .i64, .int .i64, .shr T_i, .int .i64, .int .i64, .int .i64, .shr T_i, .shr T_iiiLiiisE, .shr T_iiLiEiiisLiE]]
def rs129 : List RP := [{ src := .tmp 2, agg := false, ps := [.bool] }]
noncomputable def sl129 : SemL := [(147, (.shr, .shr, .shr, sem147)), (146, (.shr, .shr, .shr, sem146)), (170, (.shr, .shr, .shr, sem170)), (171, (.shr, .shr, .shr, sem171)), (139, (.shr, .shr, .shr, sem139)), (172, (.own, .shr, .shr, sem172))]
def D129 : Draws := fun _ => .nil
noncomputable def L129 {R : Type} : Loops R := fun _ _ _ _ => none
noncomputable def impl_DaemonOk (d0c0 : Int) (d0c1 : Bool) (d0c2 : Int) (d0c3 : Int) (d0c4 : List (Int × Unit)) (d0c5 : List R_iiis) (d0c6 : List (Int × Unit)) (d0c7 : List (ByteArray × Unit)) (d0c8 : Int) (d0c9 : Int) (d0c10 : Int) (d0c11 : Int) (d0c12 : Int) (d0c13 : Int) (d0c14 : Int) (d0c15 : Int) (d0c16 : Int) (d0c17 : List (Int × Unit)) (d0c18 : Int) (d0c19 : Int) (d0c20 : Int) (d0c21 : List (Int × Unit)) (d0c22 : List R_iiiLiiisE) (d0c23 : List R_iiLiEiiisLiE) : Option (Bool × Unit) :=
  Option.bind (impl_isDaemon d0c0) fun y1 =>
  bif !y1.1 then
    some (false, ())
  else
    Option.bind (impl_inRange d0c18 (0 : Int) (9 : Int)) fun y2 =>
    bif !y2.1 then
      some (false, ())
    else bif d0c1 then
      Option.bind (impl_Mate_isNone d0c2 d0c3 d0c4 d0c5 d0c6 d0c7 d0c8 d0c9 d0c10 d0c11 d0c12 d0c13 d0c14 d0c15 d0c16 d0c17) fun y3 =>
      bif !y3.1 then
        some (false, ())
      else bif !decide (d0c19 = (0 : Int)) then
        some (false, ())
      else
        Option.bind (impl_Ring_isNone d0c20 d0c21) fun y4 =>
        bif !y4.1 then
          some (false, ())
        else bif decide ((0 : Int) < ((List.length d0c22 : Nat) : Int)) then
          some (false, ())
        else
          Option.bind (impl_Mate_isNone d0c2 d0c3 d0c4 d0c5 d0c6 d0c7 d0c8 d0c9 d0c10 d0c11 d0c12 d0c13 d0c14 d0c15 d0c16 d0c17) fun y5 =>
          bif !y5.1 then
            bif !decide (d0c2 = d0c0) then
              some (false, ())
            else
              Option.bind (impl_MateOk d0c2 d0c3 d0c4 d0c5 d0c6 d0c7 d0c8 d0c9 d0c10 d0c11 d0c12 d0c13 d0c14 d0c15 d0c16 d0c17) fun y6 =>
              bif !y6.1 then
                some (false, ())
              else bif decide (d0c19 = d0c3) then
                bif decide (d0c19 ≤ d0c18) then
                  Option.bind (impl_Daemon_joiningOk d0c0 d0c1 d0c2 d0c3 d0c4 d0c5 d0c6 d0c7 d0c8 d0c9 d0c10 d0c11 d0c12 d0c13 d0c14 d0c15 d0c16 d0c17 d0c18 d0c19 d0c20 d0c21 d0c22 d0c23) fun y7 =>
                  some (y7.1, ())
                else
                  some (false, ())
              else
                some (false, ())
          else bif decide (d0c19 = d0c3) then
            bif decide (d0c19 ≤ d0c18) then
              Option.bind (impl_Daemon_joiningOk d0c0 d0c1 d0c2 d0c3 d0c4 d0c5 d0c6 d0c7 d0c8 d0c9 d0c10 d0c11 d0c12 d0c13 d0c14 d0c15 d0c16 d0c17 d0c18 d0c19 d0c20 d0c21 d0c22 d0c23) fun y8 =>
              some (y8.1, ())
            else
              some (false, ())
          else
            some (false, ())
    else
      Option.bind (impl_Mate_isNone d0c2 d0c3 d0c4 d0c5 d0c6 d0c7 d0c8 d0c9 d0c10 d0c11 d0c12 d0c13 d0c14 d0c15 d0c16 d0c17) fun y9 =>
      bif !y9.1 then
        bif !decide (d0c2 = d0c0) then
          some (false, ())
        else
          Option.bind (impl_MateOk d0c2 d0c3 d0c4 d0c5 d0c6 d0c7 d0c8 d0c9 d0c10 d0c11 d0c12 d0c13 d0c14 d0c15 d0c16 d0c17) fun y10 =>
          bif !y10.1 then
            some (false, ())
          else bif decide (d0c19 = d0c3) then
            bif decide (d0c19 ≤ d0c18) then
              Option.bind (impl_Daemon_joiningOk d0c0 d0c1 d0c2 d0c3 d0c4 d0c5 d0c6 d0c7 d0c8 d0c9 d0c10 d0c11 d0c12 d0c13 d0c14 d0c15 d0c16 d0c17 d0c18 d0c19 d0c20 d0c21 d0c22 d0c23) fun y11 =>
              some (y11.1, ())
            else
              some (false, ())
          else
            some (false, ())
      else bif decide (d0c19 = d0c3) then
        bif decide (d0c19 ≤ d0c18) then
          Option.bind (impl_Daemon_joiningOk d0c0 d0c1 d0c2 d0c3 d0c4 d0c5 d0c6 d0c7 d0c8 d0c9 d0c10 d0c11 d0c12 d0c13 d0c14 d0c15 d0c16 d0c17 d0c18 d0c19 d0c20 d0c21 d0c22 d0c23) fun y12 =>
          some (y12.1, ())
        else
          some (false, ())
      else
        some (false, ())
noncomputable def x129 (x : Int × Bool × Int × Int × (List (Int × Unit)) × (List R_iiis) × (List (Int × Unit)) × (List (ByteArray × Unit)) × Int × Int × Int × Int × Int × Int × Int × Int × Int × (List (Int × Unit)) × Int × Int × Int × (List (Int × Unit)) × (List R_iiiLiiisE) × (List R_iiLiEiiisLiE) × Unit) : Option (Bool × Unit) := impl_DaemonOk x.1 x.2.1 x.2.2.1 x.2.2.2.1 x.2.2.2.2.1 x.2.2.2.2.2.1 x.2.2.2.2.2.2.1 x.2.2.2.2.2.2.2.1 x.2.2.2.2.2.2.2.2.1 x.2.2.2.2.2.2.2.2.2.1 x.2.2.2.2.2.2.2.2.2.2.1 x.2.2.2.2.2.2.2.2.2.2.2.1 x.2.2.2.2.2.2.2.2.2.2.2.2.1 x.2.2.2.2.2.2.2.2.2.2.2.2.2.1 x.2.2.2.2.2.2.2.2.2.2.2.2.2.2.1 x.2.2.2.2.2.2.2.2.2.2.2.2.2.2.2.1 x.2.2.2.2.2.2.2.2.2.2.2.2.2.2.2.2.1 x.2.2.2.2.2.2.2.2.2.2.2.2.2.2.2.2.2.1 x.2.2.2.2.2.2.2.2.2.2.2.2.2.2.2.2.2.2.1 x.2.2.2.2.2.2.2.2.2.2.2.2.2.2.2.2.2.2.2.1 x.2.2.2.2.2.2.2.2.2.2.2.2.2.2.2.2.2.2.2.2.1 x.2.2.2.2.2.2.2.2.2.2.2.2.2.2.2.2.2.2.2.2.2.1 x.2.2.2.2.2.2.2.2.2.2.2.2.2.2.2.2.2.2.2.2.2.2.1 x.2.2.2.2.2.2.2.2.2.2.2.2.2.2.2.2.2.2.2.2.2.2.2.1
noncomputable def sem129 : Sem1 := semOf ps129 rs129 x129
theorem so129 : SemsOk Try.prog (semsOf sl129) := sems_cons k147 (sems_cons k146 (sems_cons k170 (sems_cons k171 (sems_cons k139 (sems_cons k172 (sems_nil))))))
theorem t129_eq (x : denR (headRT (ps129.map some))) : codeK (tabOf tr) (semsOf sl129) D129 L129 code129 (start 73 ps129 x) (finK rs129 ps129) = x129 x := by kernel_rfl
theorem k129 : Known Try.prog 129 sem129 :=
  fn_auto tr_ok eq_ok mixed_ok so129 (D := D129) (code := code129) (n := 73) Try.func129 (by kernel_rfl) (by kernel_rfl) (by kernel_rfl) (fun w0 mu _ hs => (loops_of (l := []) (by kernel_rfl) (List.forall_mem_nil _))) t129_eq

/-! ### f70: impl.FirstToken -/
noncomputable def code70 : Code := match Try.f70.body with | some c => c | none => .skip
def ps70 : List AP := [.val true [.int .i64, .shr T_i]]
def rs70 : List RP := [{ src := .cell 2, agg := true, ps := [.int .i64, .int .i64, .int .i64, .int .i64, .int .i64, .own T_i] }]
noncomputable def sl70 : SemL := [(67, (.shr, .shr, .shr, sem67))]
def D70 : Draws := fun _ => .nil
noncomputable def L70 {R : Type} : Loops R := fun _ _ _ _ => none
noncomputable def impl_FirstToken (r0c0 : Int) (r0c1 : List (Int × Unit)) : Option (Int × Int × Int × Int × Int × (List (Int × Unit)) × Unit) :=
  Option.bind (impl_RingOk r0c0 r0c1) fun y1 =>
  bif !y1.1 then
    some ((0 : Int), (0 : Int), (0 : Int), (0 : Int), (0 : Int), [], ())
  else
    some (r0c0, (1 : Int), (0 : Int), (0 : Int), (0 : Int), [], ())
noncomputable def x70 (x : Int × (List (Int × Unit)) × Unit) : Option (Int × Int × Int × Int × Int × (List (Int × Unit)) × Unit) := impl_FirstToken x.1 x.2.1
noncomputable def sem70 : Sem1 := semOf ps70 rs70 x70
theorem so70 : SemsOk Try.prog (semsOf sl70) := sems_cons k67 (sems_nil)
theorem t70_eq (x : denR (headRT (ps70.map some))) : codeK (tabOf tr) (semsOf sl70) D70 L70 code70 (start 10 ps70 x) (finK rs70 ps70) = x70 x := by kernel_rfl
theorem k70 : Known Try.prog 70 sem70 :=
  fn_auto tr_ok eq_ok mixed_ok so70 (D := D70) (code := code70) (n := 10) Try.func70 (by kernel_rfl) (by kernel_rfl) (by kernel_rfl) (fun w0 mu _ hs => (loops_of (l := []) (by kernel_rfl) (List.forall_mem_nil _))) t70_eq

/-! ### f47: impl.FirstOf -/
noncomputable def code47 : Code := match Try.f47.body with | some c => c | none => .skip
def ps47 : List AP := [.val true [.int .i64, .bool, .int .i64, .int .i64, .shr T_i, .shr T_iiis, .shr T_i, .shr T_s, .int .i64, .int .i64, .int .i64, .int .i64, .int .i64, .int .i64, .int .i64, .int .i64, .int .i64, .shr T_i, .int .i64, .int .i64, .int .i64, .shr T_i, .shr T_iiiLiiisE, .shr T_iiLiEiiisLiE]]
def rs47 : List RP := [{ src := .cell 2, agg := true, ps := [.int .i64, .int .i64, .int .i64, .int .i64, .int .i64, .own T_i] }, { src := .tmp 3, agg := false, ps := [.bool] }]
noncomputable def sl47 : SemL := [(129, (.shr, .shr, .shr, sem129)), (70, (.shr, .shr, .shr, sem70))]
def D47 : Draws := fun id => bif Nat.beq id 3 then .op 0 .any (.op 1 .any (.op 2 .any (.op 3 .take (.op 4 .any (.op 5 .any (.op 6 .any (.op 7 .any (.op 8 .any (.op 9 .any (.op 10 .take (.op 11 .any (.op 12 .take (.op 13 .any (.op 14 .take (.op 15 .any (.op 16 .any (.nil))))))))))))))))) else .nil
noncomputable def L47 {R : Type} : Loops R := fun _ _ _ _ => none
noncomputable def impl_FirstOf (d0c0 : Int) (d0c1 : Bool) (d0c2 : Int) (d0c3 : Int) (d0c4 : List (Int × Unit)) (d0c5 : List R_iiis) (d0c6 : List (Int × Unit)) (d0c7 : List (ByteArray × Unit)) (d0c8 : Int) (d0c9 : Int) (d0c10 : Int) (d0c11 : Int) (d0c12 : Int) (d0c13 : Int) (d0c14 : Int) (d0c15 : Int) (d0c16 : Int) (d0c17 : List (Int × Unit)) (d0c18 : Int) (d0c19 : Int) (d0c20 : Int) (d0c21 : List (Int × Unit)) (d0c22 : List R_iiiLiiisE) (d0c23 : List R_iiLiEiiisLiE) : Option (Int × Int × Int × Int × Int × (List (Int × Unit)) × Bool × Unit) :=
  bif d0c1 then
    some ((0 : Int), (0 : Int), (0 : Int), (0 : Int), (0 : Int), [], false, ())
  else bif decide (d0c19 ≤ (0 : Int)) then
    some ((0 : Int), (0 : Int), (0 : Int), (0 : Int), (0 : Int), [], false, ())
  else bif !decide (d0c20 = (0 : Int)) then
    some ((0 : Int), (0 : Int), (0 : Int), (0 : Int), (0 : Int), [], false, ())
  else bif !decide (d0c8 = (0 : Int)) then
    some ((0 : Int), (0 : Int), (0 : Int), (0 : Int), (0 : Int), [], false, ())
  else
    Option.bind (impl_DaemonOk d0c0 d0c1 d0c2 d0c3 d0c4 d0c5 d0c6 d0c7 d0c8 d0c9 d0c10 d0c11 d0c12 d0c13 d0c14 d0c15 d0c16 d0c17 d0c18 d0c19 d0c20 d0c21 d0c22 d0c23) fun y1 =>
    bif !y1.1 then
      some ((0 : Int), (0 : Int), (0 : Int), (0 : Int), (0 : Int), [], false, ())
    else bif decide (((List.length d0c4 : Nat) : Int) = (0 : Int)) then
      some ((0 : Int), (0 : Int), (0 : Int), (0 : Int), (0 : Int), [], false, ())
    else
      Option.bind ((d0c4)[0]?) fun r2 =>
      bif !decide (r2.1 = d0c0) then
        some ((0 : Int), (0 : Int), (0 : Int), (0 : Int), (0 : Int), [], false, ())
      else
        Option.bind (impl_FirstToken d0c3 d0c4) fun y3 =>
        some (y3.1, y3.2.1, y3.2.2.1, y3.2.2.2.1, y3.2.2.2.2.1, y3.2.2.2.2.2.1, true, ())
noncomputable def x47 (x : Int × Bool × Int × Int × (List (Int × Unit)) × (List R_iiis) × (List (Int × Unit)) × (List (ByteArray × Unit)) × Int × Int × Int × Int × Int × Int × Int × Int × Int × (List (Int × Unit)) × Int × Int × Int × (List (Int × Unit)) × (List R_iiiLiiisE) × (List R_iiLiEiiisLiE) × Unit) : Option (Int × Int × Int × Int × Int × (List (Int × Unit)) × Bool × Unit) := impl_FirstOf x.1 x.2.1 x.2.2.1 x.2.2.2.1 x.2.2.2.2.1 x.2.2.2.2.2.1 x.2.2.2.2.2.2.1 x.2.2.2.2.2.2.2.1 x.2.2.2.2.2.2.2.2.1 x.2.2.2.2.2.2.2.2.2.1 x.2.2.2.2.2.2.2.2.2.2.1 x.2.2.2.2.2.2.2.2.2.2.2.1 x.2.2.2.2.2.2.2.2.2.2.2.2.1 x.2.2.2.2.2.2.2.2.2.2.2.2.2.1 x.2.2.2.2.2.2.2.2.2.2.2.2.2.2.1 x.2.2.2.2.2.2.2.2.2.2.2.2.2.2.2.1 x.2.2.2.2.2.2.2.2.2.2.2.2.2.2.2.2.1 x.2.2.2.2.2.2.2.2.2.2.2.2.2.2.2.2.2.1 x.2.2.2.2.2.2.2.2.2.2.2.2.2.2.2.2.2.2.1 x.2.2.2.2.2.2.2.2.2.2.2.2.2.2.2.2.2.2.2.1 x.2.2.2.2.2.2.2.2.2.2.2.2.2.2.2.2.2.2.2.2.1 x.2.2.2.2.2.2.2.2.2.2.2.2.2.2.2.2.2.2.2.2.2.1 x.2.2.2.2.2.2.2.2.2.2.2.2.2.2.2.2.2.2.2.2.2.2.1 x.2.2.2.2.2.2.2.2.2.2.2.2.2.2.2.2.2.2.2.2.2.2.2.1
noncomputable def sem47 : Sem1 := semOf ps47 rs47 x47
theorem so47 : SemsOk Try.prog (semsOf sl47) := sems_cons k129 (sems_cons k70 (sems_nil))
theorem t47_eq (x : denR (headRT (ps47.map some))) : codeK (tabOf tr) (semsOf sl47) D47 L47 code47 (start 51 ps47 x) (finK rs47 ps47) = x47 x := by kernel_rfl
theorem k47 : Known Try.prog 47 sem47 :=
  fn_auto tr_ok eq_ok mixed_ok so47 (D := D47) (code := code47) (n := 51) Try.func47 (by kernel_rfl) (by kernel_rfl) (by kernel_rfl) (fun w0 mu _ hs => (loops_of (l := []) (by kernel_rfl) (List.forall_mem_nil _))) t47_eq

/-! ### f74: laws.eqIntS -/
noncomputable def code74 : Code := match Try.f74.body with | some c => c | none => .skip
def ps74 : List AP := [.val false [.shr T_i], .val false [.shr T_i]]
def rs74 : List RP := [{ src := .tmp 4, agg := false, ps := [.bool] }]
noncomputable def sl74 : SemL := []
def D74 : Draws := fun id => bif Nat.beq id 6 then .op 0 .any (.op 1 .any (.op 2 .any (.op 3 .take (.op 4 .any (.op 5 .any (.op 6 .any (.op 7 .take (.op 8 .any (.nil))))))))) else .nil
def hp74_0 : List (Option AP) := [some (.val false [.shr T_i]), some (.val false [.shr T_i]), none, none, none, some (.val false [.int .i64]), none, none, none, none, none, none, none, none, none, none, none, none, none, none, none, none, none, none, none, none, none]
def e74_0 : List (Option AP) := [none, none, none, none, none, none, none, none, none, none, none, none, none, none, none, none, none, none, none, none, none, none, none, none, none, none, none]
def q74_0 : List (Option AP) := [none, none, none, none, some (.val false [.bool]), none, none, none, none, none, none, none, none, none, none, none, none, none, none, none, none, none, none, none, none, none, none]
abbrev H74_0 : Type := (List (Int × Unit)) × (List (Int × Unit)) × Int × Unit
abbrev E74_0 : Type := Unit
abbrev Q74_0 : Type := Bool × Unit
noncomputable def laws_eqIntS_c0 (a0 : List (Int × Unit)) (b1 : List (Int × Unit)) (i5 : Int) : Option (Sum H74_0 (Sum E74_0 Q74_0)) :=
  bif decide (i5 < ((List.length a0 : Nat) : Int)) then
    bif decide ((0 : Int) ≤ i5) then Option.bind ((a0)[Int.toNat i5]?) fun r1 =>
      bif decide ((0 : Int) ≤ i5) then Option.bind ((b1)[Int.toNat i5]?) fun r2 =>
        bif !decide (r1.1 = r2.1) then
          some (.inr (.inr (false, ())))
        else
          some (.inl (a0, b1, IntKind.i64.wrap (i5 + (1 : Int)), ()))
      else none
    else none
  else
    some (.inr (.inl (())))
noncomputable def laws_eqIntS_r0 (x : H74_0) : Option (Sum H74_0 (Sum E74_0 Q74_0)) := laws_eqIntS_c0 x.1 x.2.1 x.2.2.1
noncomputable def L74 {R : Type} : Loops R := fun id _ st k => bif Nat.beq id 0 then loopAt hp74_0 e74_0 q74_0 laws_eqIntS_r0 st k else none
noncomputable def laws_eqIntS (a0 : List (Int × Unit)) (b1 : List (Int × Unit)) : Option (Bool × Unit) :=
  bif !decide (((List.length a0 : Nat) : Int) = ((List.length b1 : Nat) : Int)) then
    some (false, ())
  else
    outK (loopV laws_eqIntS_r0 (a0, b1, (0 : Int), ())) (fun y1 =>
      some (true, ())) (fun y2 =>
      some (y2.1, ()))
noncomputable def x74 (x : (List (Int × Unit)) × (List (Int × Unit)) × Unit) : Option (Bool × Unit) := laws_eqIntS x.1 x.2.1
noncomputable def sem74 : Sem1 := semOf ps74 rs74 x74
theorem so74 : SemsOk Try.prog (semsOf sl74) := sems_nil
noncomputable def b74_0 : Code := nthLoop code74 0
theorem t74_r0_eq (x : denR (headRT hp74_0)) : codeK (tabOf tr) (semsOf sl74) D74 L74 b74_0 (headSt hp74_0 x) (roundK 0 hp74_0 e74_0 q74_0) = laws_eqIntS_r0 x := by kernel_rfl
theorem loop74_0 {R : Type} (r : R) (w0 : World) (mu : Mu) (hs : AnShape ps74 mu) : LoopAt Try.prog w0 mu 26 (L74 : Loops R) r 0 b74_0 :=
  loop_auto tr_ok eq_ok mixed_ok so74 (D := D74) hs (by kernel_rfl) (fun _ => (loops_of (l := []) (by kernel_rfl) (List.forall_mem_nil _))) t74_r0_eq (fun _ _ => rfl)
theorem t74_eq (x : denR (headRT (ps74.map some))) : codeK (tabOf tr) (semsOf sl74) D74 L74 code74 (start 26 ps74 x) (finK rs74 ps74) = x74 x := by kernel_rfl
theorem k74 : Known Try.prog 74 sem74 :=
  fn_auto tr_ok eq_ok mixed_ok so74 (D := D74) (code := code74) (n := 26) Try.func74 (by kernel_rfl) (by kernel_rfl) (by kernel_rfl) (fun w0 mu _ hs => (loops_of (l := [(0, b74_0)]) (by kernel_rfl) (List.forall_mem_cons.2 ⟨loop74_0 _ w0 mu hs, (List.forall_mem_nil _)⟩))) t74_eq

/-! ### f48: laws.eqToken -/
noncomputable def code48 : Code := match Try.f48.body with | some c => c | none => .skip
def ps48 : List AP := [.val true [.int .i64, .int .i64, .int .i64, .int .i64, .int .i64, .shr T_i], .val true [.int .i64, .int .i64, .int .i64, .int .i64, .int .i64, .shr T_i]]
def rs48 : List RP := [{ src := .tmp 4, agg := false, ps := [.bool] }]
noncomputable def sl48 : SemL := [(74, (.shr, .shr, .shr, sem74))]
def D48 : Draws := fun _ => .nil
noncomputable def L48 {R : Type} : Loops R := fun _ _ _ _ => none
noncomputable def laws_eqToken (a0c0 : Int) (a0c1 : Int) (a0c2 : Int) (a0c3 : Int) (a0c4 : Int) (a0c5 : List (Int × Unit)) (b1c0 : Int) (b1c1 : Int) (b1c2 : Int) (b1c3 : Int) (b1c4 : Int) (b1c5 : List (Int × Unit)) : Option (Bool × Unit) :=
  bif !decide (a0c0 = b1c0) then
    some (false, ())
  else bif !decide (a0c1 = b1c1) then
    some (false, ())
  else bif !decide (a0c2 = b1c2) then
    some (false, ())
  else bif !decide (a0c3 = b1c3) then
    some (false, ())
  else bif !decide (a0c4 = b1c4) then
    some (false, ())
  else
    Option.bind (laws_eqIntS a0c5 b1c5) fun y1 =>
    bif !y1.1 then
      some (false, ())
    else
      some (true, ())
noncomputable def x48 (x : Int × Int × Int × Int × Int × (List (Int × Unit)) × Int × Int × Int × Int × Int × (List (Int × Unit)) × Unit) : Option (Bool × Unit) := laws_eqToken x.1 x.2.1 x.2.2.1 x.2.2.2.1 x.2.2.2.2.1 x.2.2.2.2.2.1 x.2.2.2.2.2.2.1 x.2.2.2.2.2.2.2.1 x.2.2.2.2.2.2.2.2.1 x.2.2.2.2.2.2.2.2.2.1 x.2.2.2.2.2.2.2.2.2.2.1 x.2.2.2.2.2.2.2.2.2.2.2.1
noncomputable def sem48 : Sem1 := semOf ps48 rs48 x48
theorem so48 : SemsOk Try.prog (semsOf sl48) := sems_cons k74 (sems_nil)
theorem t48_eq (x : denR (headRT (ps48.map some))) : codeK (tabOf tr) (semsOf sl48) D48 L48 code48 (start 36 ps48 x) (finK rs48 ps48) = x48 x := by kernel_rfl
theorem k48 : Known Try.prog 48 sem48 :=
  fn_auto tr_ok eq_ok mixed_ok so48 (D := D48) (code := code48) (n := 36) Try.func48 (by kernel_rfl) (by kernel_rfl) (by kernel_rfl) (fun w0 mu _ hs => (loops_of (l := []) (by kernel_rfl) (List.forall_mem_nil _))) t48_eq

/-! ### f15: laws.eqRing -/
noncomputable def code15 : Code := match Try.f15.body with | some c => c | none => .skip
def ps15 : List AP := [.val true [.int .i64, .shr T_i], .val true [.int .i64, .shr T_i]]
def rs15 : List RP := [{ src := .tmp 4, agg := false, ps := [.bool] }]
noncomputable def sl15 : SemL := [(74, (.shr, .shr, .shr, sem74))]
def D15 : Draws := fun _ => .nil
noncomputable def L15 {R : Type} : Loops R := fun _ _ _ _ => none
noncomputable def laws_eqRing (a0c0 : Int) (a0c1 : List (Int × Unit)) (b1c0 : Int) (b1c1 : List (Int × Unit)) : Option (Bool × Unit) :=
  bif !decide (a0c0 = b1c0) then
    some (false, ())
  else
    Option.bind (laws_eqIntS a0c1 b1c1) fun y1 =>
    bif !y1.1 then
      some (false, ())
    else
      some (true, ())
noncomputable def x15 (x : Int × (List (Int × Unit)) × Int × (List (Int × Unit)) × Unit) : Option (Bool × Unit) := laws_eqRing x.1 x.2.1 x.2.2.1 x.2.2.2.1
noncomputable def sem15 : Sem1 := semOf ps15 rs15 x15
theorem so15 : SemsOk Try.prog (semsOf sl15) := sems_cons k74 (sems_nil)
theorem t15_eq (x : denR (headRT (ps15.map some))) : codeK (tabOf tr) (semsOf sl15) D15 L15 code15 (start 16 ps15 x) (finK rs15 ps15) = x15 x := by kernel_rfl
theorem k15 : Known Try.prog 15 sem15 :=
  fn_auto tr_ok eq_ok mixed_ok so15 (D := D15) (code := code15) (n := 16) Try.func15 (by kernel_rfl) (by kernel_rfl) (by kernel_rfl) (fun w0 mu _ hs => (loops_of (l := []) (by kernel_rfl) (List.forall_mem_nil _))) t15_eq

/-! ### f106: laws.eqItem -/
noncomputable def code106 : Code := match Try.f106.body with | some c => c | none => .skip
def ps106 : List AP := [.val true [.int .i64, .int .i64, .int .i64, .str], .val true [.int .i64, .int .i64, .int .i64, .str]]
def rs106 : List RP := [{ src := .tmp 4, agg := false, ps := [.bool] }]
noncomputable def sl106 : SemL := []
def D106 : Draws := fun _ => .nil
noncomputable def L106 {R : Type} : Loops R := fun _ _ _ _ => none
noncomputable def laws_eqItem (a0c0 : Int) (a0c1 : Int) (a0c2 : Int) (a0c3 : ByteArray) (b1c0 : Int) (b1c1 : Int) (b1c2 : Int) (b1c3 : ByteArray) : Option (Bool × Unit) :=
  bif !decide (a0c0 = b1c0) then
    some (false, ())
  else bif !decide (a0c1 = b1c1) then
    some (false, ())
  else bif !decide (a0c2 = b1c2) then
    some (false, ())
  else bif !strEq a0c3 b1c3 then
    some (false, ())
  else
    some (true, ())
noncomputable def x106 (x : Int × Int × Int × ByteArray × Int × Int × Int × ByteArray × Unit) : Option (Bool × Unit) := laws_eqItem x.1 x.2.1 x.2.2.1 x.2.2.2.1 x.2.2.2.2.1 x.2.2.2.2.2.1 x.2.2.2.2.2.2.1 x.2.2.2.2.2.2.2.1
noncomputable def sem106 : Sem1 := semOf ps106 rs106 x106
theorem so106 : SemsOk Try.prog (semsOf sl106) := sems_nil
theorem t106_eq (x : denR (headRT (ps106.map some))) : codeK (tabOf tr) (semsOf sl106) D106 L106 code106 (start 25 ps106 x) (finK rs106 ps106) = x106 x := by kernel_rfl
theorem k106 : Known Try.prog 106 sem106 :=
  fn_auto tr_ok eq_ok mixed_ok so106 (D := D106) (code := code106) (n := 25) Try.func106 (by kernel_rfl) (by kernel_rfl) (by kernel_rfl) (fun w0 mu _ hs => (loops_of (l := []) (by kernel_rfl) (List.forall_mem_nil _))) t106_eq

/-! ### f32: laws.eqItemS -/
noncomputable def code32 : Code := match Try.f32.body with | some c => c | none => .skip
def ps32 : List AP := [.val false [.shr T_iiis], .val false [.shr T_iiis]]
def rs32 : List RP := [{ src := .tmp 4, agg := false, ps := [.bool] }]
noncomputable def sl32 : SemL := [(106, (.shr, .shr, .shr, sem106))]
def D32 : Draws := fun id => bif Nat.beq id 6 then .op 0 .any (.op 1 .any (.op 2 .any (.op 3 .take (.op 4 .any (.op 5 .any (.op 6 .any (.op 7 .take (.op 8 .one (.op 9 .any (.nil)))))))))) else .nil
def hp32_0 : List (Option AP) := [some (.val false [.shr T_iiis]), some (.val false [.shr T_iiis]), none, none, none, some (.val false [.int .i64]), none, none, none, none, none, none, none, none, none, none, none, none, none, none, none, none, none, none, none, none, none, none]
def e32_0 : List (Option AP) := [none, none, none, none, none, none, none, none, none, none, none, none, none, none, none, none, none, none, none, none, none, none, none, none, none, none, none, none]
def q32_0 : List (Option AP) := [none, none, none, none, some (.val false [.bool]), none, none, none, none, none, none, none, none, none, none, none, none, none, none, none, none, none, none, none, none, none, none, none]
abbrev H32_0 : Type := (List R_iiis) × (List R_iiis) × Int × Unit
abbrev E32_0 : Type := Unit
abbrev Q32_0 : Type := Bool × Unit
noncomputable def laws_eqItemS_c0 (a0 : List R_iiis) (b1 : List R_iiis) (i5 : Int) : Option (Sum H32_0 (Sum E32_0 Q32_0)) :=
  bif decide (i5 < ((List.length a0 : Nat) : Int)) then
    bif decide ((0 : Int) ≤ i5) then Option.bind ((a0)[Int.toNat i5]?) fun r1 =>
      bif decide ((0 : Int) ≤ i5) then Option.bind ((b1)[Int.toNat i5]?) fun r2 =>
        Option.bind (laws_eqItem r1.1 r1.2.1 r1.2.2.1 r1.2.2.2.1 r2.1 r2.2.1 r2.2.2.1 r2.2.2.2.1) fun y3 =>
        bif !y3.1 then
          some (.inr (.inr (false, ())))
        else
          some (.inl (a0, b1, IntKind.i64.wrap (i5 + (1 : Int)), ()))
      else none
    else none
  else
    some (.inr (.inl (())))
noncomputable def laws_eqItemS_r0 (x : H32_0) : Option (Sum H32_0 (Sum E32_0 Q32_0)) := laws_eqItemS_c0 x.1 x.2.1 x.2.2.1
noncomputable def L32 {R : Type} : Loops R := fun id _ st k => bif Nat.beq id 0 then loopAt hp32_0 e32_0 q32_0 laws_eqItemS_r0 st k else none
noncomputable def laws_eqItemS (a0 : List R_iiis) (b1 : List R_iiis) : Option (Bool × Unit) :=
  bif !decide (((List.length a0 : Nat) : Int) = ((List.length b1 : Nat) : Int)) then
    some (false, ())
  else
    outK (loopV laws_eqItemS_r0 (a0, b1, (0 : Int), ())) (fun y1 =>
      some (true, ())) (fun y2 =>
      some (y2.1, ()))
noncomputable def x32 (x : (List R_iiis) × (List R_iiis) × Unit) : Option (Bool × Unit) := laws_eqItemS x.1 x.2.1
noncomputable def sem32 : Sem1 := semOf ps32 rs32 x32
theorem so32 : SemsOk Try.prog (semsOf sl32) := sems_cons k106 (sems_nil)
noncomputable def b32_0 : Code := nthLoop code32 0
theorem t32_r0_eq (x : denR (headRT hp32_0)) : codeK (tabOf tr) (semsOf sl32) D32 L32 b32_0 (headSt hp32_0 x) (roundK 0 hp32_0 e32_0 q32_0) = laws_eqItemS_r0 x := by kernel_rfl
theorem loop32_0 {R : Type} (r : R) (w0 : World) (mu : Mu) (hs : AnShape ps32 mu) : LoopAt Try.prog w0 mu 27 (L32 : Loops R) r 0 b32_0 :=
  loop_auto tr_ok eq_ok mixed_ok so32 (D := D32) hs (by kernel_rfl) (fun _ => (loops_of (l := []) (by kernel_rfl) (List.forall_mem_nil _))) t32_r0_eq (fun _ _ => rfl)
theorem t32_eq (x : denR (headRT (ps32.map some))) : codeK (tabOf tr) (semsOf sl32) D32 L32 code32 (start 27 ps32 x) (finK rs32 ps32) = x32 x := by kernel_rfl
theorem k32 : Known Try.prog 32 sem32 :=
  fn_auto tr_ok eq_ok mixed_ok so32 (D := D32) (code := code32) (n := 27) Try.func32 (by kernel_rfl) (by kernel_rfl) (by kernel_rfl) (fun w0 mu _ hs => (loops_of (l := [(0, b32_0)]) (by kernel_rfl) (List.forall_mem_cons.2 ⟨loop32_0 _ w0 mu hs, (List.forall_mem_nil _)⟩))) t32_eq

/-! ### f141: laws.eqStringS -/
noncomputable def code141 : Code := match Try.f141.body with | some c => c | none => .skip
def ps141 : List AP := [.val false [.shr T_s], .val false [.shr T_s]]
def rs141 : List RP := [{ src := .tmp 4, agg := false, ps := [.bool] }]
noncomputable def sl141 : SemL := []
def D141 : Draws := fun id => bif Nat.beq id 6 then .op 0 .any (.op 1 .any (.op 2 .any (.op 3 .take (.op 4 .any (.op 5 .any (.op 6 .any (.op 7 .take (.op 8 .any (.nil))))))))) else .nil
def hp141_0 : List (Option AP) := [some (.val false [.shr T_s]), some (.val false [.shr T_s]), none, none, none, some (.val false [.int .i64]), none, none, none, none, none, none, none, none, none, none, none, none, none, none, none, none, none, none, none, none, none]
def e141_0 : List (Option AP) := [none, none, none, none, none, none, none, none, none, none, none, none, none, none, none, none, none, none, none, none, none, none, none, none, none, none, none]
def q141_0 : List (Option AP) := [none, none, none, none, some (.val false [.bool]), none, none, none, none, none, none, none, none, none, none, none, none, none, none, none, none, none, none, none, none, none, none]
abbrev H141_0 : Type := (List (ByteArray × Unit)) × (List (ByteArray × Unit)) × Int × Unit
abbrev E141_0 : Type := Unit
abbrev Q141_0 : Type := Bool × Unit
noncomputable def laws_eqStringS_c0 (a0 : List (ByteArray × Unit)) (b1 : List (ByteArray × Unit)) (i5 : Int) : Option (Sum H141_0 (Sum E141_0 Q141_0)) :=
  bif decide (i5 < ((List.length a0 : Nat) : Int)) then
    bif decide ((0 : Int) ≤ i5) then Option.bind ((a0)[Int.toNat i5]?) fun r1 =>
      bif decide ((0 : Int) ≤ i5) then Option.bind ((b1)[Int.toNat i5]?) fun r2 =>
        bif !strEq r1.1 r2.1 then
          some (.inr (.inr (false, ())))
        else
          some (.inl (a0, b1, IntKind.i64.wrap (i5 + (1 : Int)), ()))
      else none
    else none
  else
    some (.inr (.inl (())))
noncomputable def laws_eqStringS_r0 (x : H141_0) : Option (Sum H141_0 (Sum E141_0 Q141_0)) := laws_eqStringS_c0 x.1 x.2.1 x.2.2.1
noncomputable def L141 {R : Type} : Loops R := fun id _ st k => bif Nat.beq id 0 then loopAt hp141_0 e141_0 q141_0 laws_eqStringS_r0 st k else none
noncomputable def laws_eqStringS (a0 : List (ByteArray × Unit)) (b1 : List (ByteArray × Unit)) : Option (Bool × Unit) :=
  bif !decide (((List.length a0 : Nat) : Int) = ((List.length b1 : Nat) : Int)) then
    some (false, ())
  else
    outK (loopV laws_eqStringS_r0 (a0, b1, (0 : Int), ())) (fun y1 =>
      some (true, ())) (fun y2 =>
      some (y2.1, ()))
noncomputable def x141 (x : (List (ByteArray × Unit)) × (List (ByteArray × Unit)) × Unit) : Option (Bool × Unit) := laws_eqStringS x.1 x.2.1
noncomputable def sem141 : Sem1 := semOf ps141 rs141 x141
theorem so141 : SemsOk Try.prog (semsOf sl141) := sems_nil
noncomputable def b141_0 : Code := nthLoop code141 0
theorem t141_r0_eq (x : denR (headRT hp141_0)) : codeK (tabOf tr) (semsOf sl141) D141 L141 b141_0 (headSt hp141_0 x) (roundK 0 hp141_0 e141_0 q141_0) = laws_eqStringS_r0 x := by kernel_rfl
theorem loop141_0 {R : Type} (r : R) (w0 : World) (mu : Mu) (hs : AnShape ps141 mu) : LoopAt Try.prog w0 mu 26 (L141 : Loops R) r 0 b141_0 :=
  loop_auto tr_ok eq_ok mixed_ok so141 (D := D141) hs (by kernel_rfl) (fun _ => (loops_of (l := []) (by kernel_rfl) (List.forall_mem_nil _))) t141_r0_eq (fun _ _ => rfl)
theorem t141_eq (x : denR (headRT (ps141.map some))) : codeK (tabOf tr) (semsOf sl141) D141 L141 code141 (start 26 ps141 x) (finK rs141 ps141) = x141 x := by kernel_rfl
theorem k141 : Known Try.prog 141 sem141 :=
  fn_auto tr_ok eq_ok mixed_ok so141 (D := D141) (code := code141) (n := 26) Try.func141 (by kernel_rfl) (by kernel_rfl) (by kernel_rfl) (fun w0 mu _ hs => (loops_of (l := [(0, b141_0)]) (by kernel_rfl) (List.forall_mem_cons.2 ⟨loop141_0 _ w0 mu hs, (List.forall_mem_nil _)⟩))) t141_eq

/-! ### f59: laws.eqMate -/
noncomputable def code59 : Code := match Try.f59.body with | some c => c | none => .skip
def ps59 : List AP := [.val true [.int .i64, .int .i64, .shr T_i, .shr T_iiis, .shr T_i, .shr T_s, .int .i64, .int .i64, .int .i64, .int .i64, .int .i64, .int .i64, .int .i64, .int .i64, .int .i64, .shr T_i], .val true [.int .i64, .int .i64, .shr T_i, .shr T_iiis, .shr T_i, .shr T_s, .int .i64, .int .i64, .int .i64, .int .i64, .int .i64, .int .i64, .int .i64, .int .i64, .int .i64, .shr T_i]]
def rs59 : List RP := [{ src := .tmp 4, agg := false, ps := [.bool] }]
noncomputable def sl59 : SemL := [(15, (.shr, .shr, .shr, sem15)), (32, (.shr, .shr, .shr, sem32)), (74, (.shr, .shr, .shr, sem74)), (141, (.shr, .shr, .shr, sem141)), (48, (.shr, .shr, .shr, sem48))]
def D59 : Draws := fun _ => .nil
noncomputable def L59 {R : Type} : Loops R := fun _ _ _ _ => none
noncomputable def laws_eqMate (a0c0 : Int) (a0c1 : Int) (a0c2 : List (Int × Unit)) (a0c3 : List R_iiis) (a0c4 : List (Int × Unit)) (a0c5 : List (ByteArray × Unit)) (a0c6 : Int) (a0c7 : Int) (a0c8 : Int) (a0c9 : Int) (a0c10 : Int) (a0c11 : Int) (a0c12 : Int) (a0c13 : Int) (a0c14 : Int) (a0c15 : List (Int × Unit)) (b1c0 : Int) (b1c1 : Int) (b1c2 : List (Int × Unit)) (b1c3 : List R_iiis) (b1c4 : List (Int × Unit)) (b1c5 : List (ByteArray × Unit)) (b1c6 : Int) (b1c7 : Int) (b1c8 : Int) (b1c9 : Int) (b1c10 : Int) (b1c11 : Int) (b1c12 : Int) (b1c13 : Int) (b1c14 : Int) (b1c15 : List (Int × Unit)) : Option (Bool × Unit) :=
  bif !decide (a0c0 = b1c0) then
    some (false, ())
  else
    Option.bind (laws_eqRing a0c1 a0c2 b1c1 b1c2) fun y1 =>
    bif !y1.1 then
      some (false, ())
    else
      Option.bind (laws_eqItemS a0c3 b1c3) fun y2 =>
      bif !y2.1 then
        some (false, ())
      else
        Option.bind (laws_eqIntS a0c4 b1c4) fun y3 =>
        bif !y3.1 then
          some (false, ())
        else
          Option.bind (laws_eqStringS a0c5 b1c5) fun y4 =>
          bif !y4.1 then
            some (false, ())
          else bif !decide (a0c6 = b1c6) then
            some (false, ())
          else bif !decide (a0c7 = b1c7) then
            some (false, ())
          else bif !decide (a0c8 = b1c8) then
            some (false, ())
          else bif !decide (a0c9 = b1c9) then
            some (false, ())
          else
            Option.bind (laws_eqToken a0c10 a0c11 a0c12 a0c13 a0c14 a0c15 b1c10 b1c11 b1c12 b1c13 b1c14 b1c15) fun y5 =>
            bif !y5.1 then
              some (false, ())
            else
              some (true, ())
noncomputable def x59 (x : Int × Int × (List (Int × Unit)) × (List R_iiis) × (List (Int × Unit)) × (List (ByteArray × Unit)) × Int × Int × Int × Int × Int × Int × Int × Int × Int × (List (Int × Unit)) × Int × Int × (List (Int × Unit)) × (List R_iiis) × (List (Int × Unit)) × (List (ByteArray × Unit)) × Int × Int × Int × Int × Int × Int × Int × Int × Int × (List (Int × Unit)) × Unit) : Option (Bool × Unit) := laws_eqMate x.1 x.2.1 x.2.2.1 x.2.2.2.1 x.2.2.2.2.1 x.2.2.2.2.2.1 x.2.2.2.2.2.2.1 x.2.2.2.2.2.2.2.1 x.2.2.2.2.2.2.2.2.1 x.2.2.2.2.2.2.2.2.2.1 x.2.2.2.2.2.2.2.2.2.2.1 x.2.2.2.2.2.2.2.2.2.2.2.1 x.2.2.2.2.2.2.2.2.2.2.2.2.1 x.2.2.2.2.2.2.2.2.2.2.2.2.2.1 x.2.2.2.2.2.2.2.2.2.2.2.2.2.2.1 x.2.2.2.2.2.2.2.2.2.2.2.2.2.2.2.1 x.2.2.2.2.2.2.2.2.2.2.2.2.2.2.2.2.1 x.2.2.2.2.2.2.2.2.2.2.2.2.2.2.2.2.2.1 x.2.2.2.2.2.2.2.2.2.2.2.2.2.2.2.2.2.2.1 x.2.2.2.2.2.2.2.2.2.2.2.2.2.2.2.2.2.2.2.1 x.2.2.2.2.2.2.2.2.2.2.2.2.2.2.2.2.2.2.2.2.1 x.2.2.2.2.2.2.2.2.2.2.2.2.2.2.2.2.2.2.2.2.2.1 x.2.2.2.2.2.2.2.2.2.2.2.2.2.2.2.2.2.2.2.2.2.2.1 x.2.2.2.2.2.2.2.2.2.2.2.2.2.2.2.2.2.2.2.2.2.2.2.1 x.2.2.2.2.2.2.2.2.2.2.2.2.2.2.2.2.2.2.2.2.2.2.2.2.1 x.2.2.2.2.2.2.2.2.2.2.2.2.2.2.2.2.2.2.2.2.2.2.2.2.2.1 x.2.2.2.2.2.2.2.2.2.2.2.2.2.2.2.2.2.2.2.2.2.2.2.2.2.2.1 x.2.2.2.2.2.2.2.2.2.2.2.2.2.2.2.2.2.2.2.2.2.2.2.2.2.2.2.1 x.2.2.2.2.2.2.2.2.2.2.2.2.2.2.2.2.2.2.2.2.2.2.2.2.2.2.2.2.1 x.2.2.2.2.2.2.2.2.2.2.2.2.2.2.2.2.2.2.2.2.2.2.2.2.2.2.2.2.2.1 x.2.2.2.2.2.2.2.2.2.2.2.2.2.2.2.2.2.2.2.2.2.2.2.2.2.2.2.2.2.2.1 x.2.2.2.2.2.2.2.2.2.2.2.2.2.2.2.2.2.2.2.2.2.2.2.2.2.2.2.2.2.2.2.1
noncomputable def sem59 : Sem1 := semOf ps59 rs59 x59
theorem so59 : SemsOk Try.prog (semsOf sl59) := sems_cons k15 (sems_cons k32 (sems_cons k74 (sems_cons k141 (sems_cons k48 (sems_nil)))))
theorem t59_eq (x : denR (headRT (ps59.map some))) : codeK (tabOf tr) (semsOf sl59) D59 L59 code59 (start 60 ps59 x) (finK rs59 ps59) = x59 x := by kernel_rfl
theorem k59 : Known Try.prog 59 sem59 :=
  fn_auto tr_ok eq_ok mixed_ok so59 (D := D59) (code := code59) (n := 60) Try.func59 (by kernel_rfl) (by kernel_rfl) (by kernel_rfl) (fun w0 mu _ hs => (loops_of (l := []) (by kernel_rfl) (List.forall_mem_nil _))) t59_eq

/-! ### f43: laws.eqBundle -/
noncomputable def code43 : Code := match Try.f43.body with | some c => c | none => .skip
def ps43 : List AP := [.val true [.int .i64, .int .i64, .int .i64, .shr T_iiis], .val true [.int .i64, .int .i64, .int .i64, .shr T_iiis]]
def rs43 : List RP := [{ src := .tmp 4, agg := false, ps := [.bool] }]
noncomputable def sl43 : SemL := [(32, (.shr, .shr, .shr, sem32))]
def D43 : Draws := fun _ => .nil
noncomputable def L43 {R : Type} : Loops R := fun _ _ _ _ => none
noncomputable def laws_eqBundle (a0c0 : Int) (a0c1 : Int) (a0c2 : Int) (a0c3 : List R_iiis) (b1c0 : Int) (b1c1 : Int) (b1c2 : Int) (b1c3 : List R_iiis) : Option (Bool × Unit) :=
  bif !decide (a0c0 = b1c0) then
    some (false, ())
  else bif !decide (a0c1 = b1c1) then
    some (false, ())
  else bif !decide (a0c2 = b1c2) then
    some (false, ())
  else
    Option.bind (laws_eqItemS a0c3 b1c3) fun y1 =>
    bif !y1.1 then
      some (false, ())
    else
      some (true, ())
noncomputable def x43 (x : Int × Int × Int × (List R_iiis) × Int × Int × Int × (List R_iiis) × Unit) : Option (Bool × Unit) := laws_eqBundle x.1 x.2.1 x.2.2.1 x.2.2.2.1 x.2.2.2.2.1 x.2.2.2.2.2.1 x.2.2.2.2.2.2.1 x.2.2.2.2.2.2.2.1
noncomputable def sem43 : Sem1 := semOf ps43 rs43 x43
theorem so43 : SemsOk Try.prog (semsOf sl43) := sems_cons k32 (sems_nil)
theorem t43_eq (x : denR (headRT (ps43.map some))) : codeK (tabOf tr) (semsOf sl43) D43 L43 code43 (start 26 ps43 x) (finK rs43 ps43) = x43 x := by kernel_rfl
theorem k43 : Known Try.prog 43 sem43 :=
  fn_auto tr_ok eq_ok mixed_ok so43 (D := D43) (code := code43) (n := 26) Try.func43 (by kernel_rfl) (by kernel_rfl) (by kernel_rfl) (fun w0 mu _ hs => (loops_of (l := []) (by kernel_rfl) (List.forall_mem_nil _))) t43_eq

/-! ### f33: laws.eqBundleS -/
noncomputable def code33 : Code := match Try.f33.body with | some c => c | none => .skip
def ps33 : List AP := [.val false [.shr T_iiiLiiisE], .val false [.shr T_iiiLiiisE]]
def rs33 : List RP := [{ src := .tmp 4, agg := false, ps := [.bool] }]
noncomputable def sl33 : SemL := [(43, (.shr, .shr, .shr, sem43))]
def D33 : Draws := fun id => bif Nat.beq id 6 then .op 0 .any (.op 1 .any (.op 2 .any (.op 3 .take (.op 4 .any (.op 5 .any (.op 6 .any (.op 7 .take (.op 8 .one (.op 9 .any (.nil)))))))))) else .nil
def hp33_0 : List (Option AP) := [some (.val false [.shr T_iiiLiiisE]), some (.val false [.shr T_iiiLiiisE]), none, none, none, some (.val false [.int .i64]), none, none, none, none, none, none, none, none, none, none, none, none, none, none, none, none, none, none, none, none, none, none]
def e33_0 : List (Option AP) := [none, none, none, none, none, none, none, none, none, none, none, none, none, none, none, none, none, none, none, none, none, none, none, none, none, none, none, none]
def q33_0 : List (Option AP) := [none, none, none, none, some (.val false [.bool]), none, none, none, none, none, none, none, none, none, none, none, none, none, none, none, none, none, none, none, none, none, none, none]
abbrev H33_0 : Type := (List R_iiiLiiisE) × (List R_iiiLiiisE) × Int × Unit
abbrev E33_0 : Type := Unit
abbrev Q33_0 : Type := Bool × Unit
noncomputable def laws_eqBundleS_c0 (a0 : List R_iiiLiiisE) (b1 : List R_iiiLiiisE) (i5 : Int) : Option (Sum H33_0 (Sum E33_0 Q33_0)) :=
  bif decide (i5 < ((List.length a0 : Nat) : Int)) then
    bif decide ((0 : Int) ≤ i5) then Option.bind ((a0)[Int.toNat i5]?) fun r1 =>
      bif decide ((0 : Int) ≤ i5) then Option.bind ((b1)[Int.toNat i5]?) fun r2 =>
        Option.bind (laws_eqBundle r1.1 r1.2.1 r1.2.2.1 r1.2.2.2.1 r2.1 r2.2.1 r2.2.2.1 r2.2.2.2.1) fun y3 =>
        bif !y3.1 then
          some (.inr (.inr (false, ())))
        else
          some (.inl (a0, b1, IntKind.i64.wrap (i5 + (1 : Int)), ()))
      else none
    else none
  else
    some (.inr (.inl (())))
noncomputable def laws_eqBundleS_r0 (x : H33_0) : Option (Sum H33_0 (Sum E33_0 Q33_0)) := laws_eqBundleS_c0 x.1 x.2.1 x.2.2.1
noncomputable def L33 {R : Type} : Loops R := fun id _ st k => bif Nat.beq id 0 then loopAt hp33_0 e33_0 q33_0 laws_eqBundleS_r0 st k else none
noncomputable def laws_eqBundleS (a0 : List R_iiiLiiisE) (b1 : List R_iiiLiiisE) : Option (Bool × Unit) :=
  bif !decide (((List.length a0 : Nat) : Int) = ((List.length b1 : Nat) : Int)) then
    some (false, ())
  else
    outK (loopV laws_eqBundleS_r0 (a0, b1, (0 : Int), ())) (fun y1 =>
      some (true, ())) (fun y2 =>
      some (y2.1, ()))
noncomputable def x33 (x : (List R_iiiLiiisE) × (List R_iiiLiiisE) × Unit) : Option (Bool × Unit) := laws_eqBundleS x.1 x.2.1
noncomputable def sem33 : Sem1 := semOf ps33 rs33 x33
theorem so33 : SemsOk Try.prog (semsOf sl33) := sems_cons k43 (sems_nil)
noncomputable def b33_0 : Code := nthLoop code33 0
theorem t33_r0_eq (x : denR (headRT hp33_0)) : codeK (tabOf tr) (semsOf sl33) D33 L33 b33_0 (headSt hp33_0 x) (roundK 0 hp33_0 e33_0 q33_0) = laws_eqBundleS_r0 x := by kernel_rfl
theorem loop33_0 {R : Type} (r : R) (w0 : World) (mu : Mu) (hs : AnShape ps33 mu) : LoopAt Try.prog w0 mu 27 (L33 : Loops R) r 0 b33_0 :=
  loop_auto tr_ok eq_ok mixed_ok so33 (D := D33) hs (by kernel_rfl) (fun _ => (loops_of (l := []) (by kernel_rfl) (List.forall_mem_nil _))) t33_r0_eq (fun _ _ => rfl)
theorem t33_eq (x : denR (headRT (ps33.map some))) : codeK (tabOf tr) (semsOf sl33) D33 L33 code33 (start 27 ps33 x) (finK rs33 ps33) = x33 x := by kernel_rfl
theorem k33 : Known Try.prog 33 sem33 :=
  fn_auto tr_ok eq_ok mixed_ok so33 (D := D33) (code := code33) (n := 27) Try.func33 (by kernel_rfl) (by kernel_rfl) (by kernel_rfl) (fun w0 mu _ hs => (loops_of (l := [(0, b33_0)]) (by kernel_rfl) (List.forall_mem_cons.2 ⟨loop33_0 _ w0 mu hs, (List.forall_mem_nil _)⟩))) t33_eq

/-! ### f153: laws.eqEvent -/
noncomputable def code153 : Code := match Try.f153.body with | some c => c | none => .skip
def ps153 : List AP := [.val true [.int .i64, .int .i64, .shr T_i, .int .i64, .int .i64, .int .i64, .str, .shr T_i], .val true [.int .i64, .int .i64, .shr T_i, .int .i64, .int .i64, .int .i64, .str, .shr T_i]]
def rs153 : List RP := [{ src := .tmp 4, agg := false, ps := [.bool] }]
noncomputable def sl153 : SemL := [(15, (.shr, .shr, .shr, sem15)), (106, (.shr, .shr, .shr, sem106)), (74, (.shr, .shr, .shr, sem74))]
def D153 : Draws := fun _ => .nil
noncomputable def L153 {R : Type} : Loops R := fun _ _ _ _ => none
noncomputable def laws_eqEvent (a0c0 : Int) (a0c1 : Int) (a0c2 : List (Int × Unit)) (a0c3 : Int) (a0c4 : Int) (a0c5 : Int) (a0c6 : ByteArray) (a0c7 : List (Int × Unit)) (b1c0 : Int) (b1c1 : Int) (b1c2 : List (Int × Unit)) (b1c3 : Int) (b1c4 : Int) (b1c5 : Int) (b1c6 : ByteArray) (b1c7 : List (Int × Unit)) : Option (Bool × Unit) :=
  bif !decide (a0c0 = b1c0) then
    some (false, ())
  else
    Option.bind (laws_eqRing a0c1 a0c2 b1c1 b1c2) fun y1 =>
    bif !y1.1 then
      some (false, ())
    else
      Option.bind (laws_eqItem a0c3 a0c4 a0c5 a0c6 b1c3 b1c4 b1c5 b1c6) fun y2 =>
      bif !y2.1 then
        some (false, ())
      else
        Option.bind (laws_eqIntS a0c7 b1c7) fun y3 =>
        bif !y3.1 then
          some (false, ())
        else
          some (true, ())
noncomputable def x153 (x : Int × Int × (List (Int × Unit)) × Int × Int × Int × ByteArray × (List (Int × Unit)) × Int × Int × (List (Int × Unit)) × Int × Int × Int × ByteArray × (List (Int × Unit)) × Unit) : Option (Bool × Unit) := laws_eqEvent x.1 x.2.1 x.2.2.1 x.2.2.2.1 x.2.2.2.2.1 x.2.2.2.2.2.1 x.2.2.2.2.2.2.1 x.2.2.2.2.2.2.2.1 x.2.2.2.2.2.2.2.2.1 x.2.2.2.2.2.2.2.2.2.1 x.2.2.2.2.2.2.2.2.2.2.1 x.2.2.2.2.2.2.2.2.2.2.2.1 x.2.2.2.2.2.2.2.2.2.2.2.2.1 x.2.2.2.2.2.2.2.2.2.2.2.2.2.1 x.2.2.2.2.2.2.2.2.2.2.2.2.2.2.1 x.2.2.2.2.2.2.2.2.2.2.2.2.2.2.2.1
noncomputable def sem153 : Sem1 := semOf ps153 rs153 x153
theorem so153 : SemsOk Try.prog (semsOf sl153) := sems_cons k15 (sems_cons k106 (sems_cons k74 (sems_nil)))
theorem t153_eq (x : denR (headRT (ps153.map some))) : codeK (tabOf tr) (semsOf sl153) D153 L153 code153 (start 28 ps153 x) (finK rs153 ps153) = x153 x := by kernel_rfl
theorem k153 : Known Try.prog 153 sem153 :=
  fn_auto tr_ok eq_ok mixed_ok so153 (D := D153) (code := code153) (n := 28) Try.func153 (by kernel_rfl) (by kernel_rfl) (by kernel_rfl) (fun w0 mu _ hs => (loops_of (l := []) (by kernel_rfl) (List.forall_mem_nil _))) t153_eq

end Go.TM
