/- What the functions answer, as terms; their contracts. -/
import Derived.Test.YtmljblppihbkdaaGreatABase
set_option linter.unusedSimpArgs false
set_option linter.unusedVariables false
namespace Go.TM
open Go Go.RowKit Go.Proofs

/-! ### f41: laws.szIntS -/
noncomputable def code41 : Code := match Tryz.f41.body with | some c => c | none => .skip
def ps41 : List AP := [.val false [.shr T_i], .val false [.int .i64]]
def rs41 : List RP := [{ src := .tmp 4, agg := false, ps := [.int .i64] }]
noncomputable def sl41 : SemL := []
def D41 : Draws := fun _ => .nil
noncomputable def L41 {R : Type} : Loops R := fun _ _ _ _ => none
noncomputable def laws_szIntS (a0 : List (Int × Unit)) (left1 : Int) : Option (Int × Unit) :=
  bif decide (IntKind.i64.wrap (left1 - ((List.length a0 : Nat) : Int)) < (0 : Int)) then
    some ((-1 : Int), ())
  else
    some (IntKind.i64.wrap (left1 - ((List.length a0 : Nat) : Int)), ())
noncomputable def x41 (x : (List (Int × Unit)) × Int × Unit) : Option (Int × Unit) := laws_szIntS x.1 x.2.1
noncomputable def sem41 : Sem1 := semOf ps41 rs41 x41
theorem so41 : SemsOk Tryz.prog (semsOf sl41) := sems_nil
theorem t41_eq (x : denR (headRT (ps41.map some))) : codeK (tabOf tr) (semsOf sl41) D41 L41 code41 (start 12 ps41 x) (finK rs41 ps41) = x41 x := by kernel_rfl
theorem k41 : Known Tryz.prog 41 sem41 :=
  fn_auto tr_ok eq_ok mixed_ok so41 (D := D41) (code := code41) (n := 12) Tryz.func41 (by kernel_rfl) (by kernel_rfl) (by kernel_rfl) (fun w0 mu _ hs => (loops_of (l := []) (by kernel_rfl) (List.forall_mem_nil _))) t41_eq

/-! ### f15: laws.szRing -/
noncomputable def code15 : Code := match Tryz.f15.body with | some c => c | none => .skip
def ps15 : List AP := [.val true [.int .i64, .shr T_i], .val false [.int .i64]]
def rs15 : List RP := [{ src := .tmp 4, agg := false, ps := [.int .i64] }]
noncomputable def sl15 : SemL := [(41, (.shr, .shr, .shr, sem41))]
def D15 : Draws := fun _ => .nil
noncomputable def L15 {R : Type} : Loops R := fun _ _ _ _ => none
noncomputable def laws_szRing (a0c0 : Int) (a0c1 : List (Int × Unit)) (left1 : Int) : Option (Int × Unit) :=
  Option.bind (laws_szIntS a0c1 left1) fun y1 =>
  bif decide (y1.1 < (0 : Int)) then
    some ((-1 : Int), ())
  else
    some (y1.1, ())
noncomputable def x15 (x : Int × (List (Int × Unit)) × Int × Unit) : Option (Int × Unit) := laws_szRing x.1 x.2.1 x.2.2.1
noncomputable def sem15 : Sem1 := semOf ps15 rs15 x15
theorem so15 : SemsOk Tryz.prog (semsOf sl15) := sems_cons k41 (sems_nil)
theorem t15_eq (x : denR (headRT (ps15.map some))) : codeK (tabOf tr) (semsOf sl15) D15 L15 code15 (start 12 ps15 x) (finK rs15 ps15) = x15 x := by kernel_rfl
theorem k15 : Known Tryz.prog 15 sem15 :=
  fn_auto tr_ok eq_ok mixed_ok so15 (D := D15) (code := code15) (n := 12) Tryz.func15 (by kernel_rfl) (by kernel_rfl) (by kernel_rfl) (fun w0 mu _ hs => (loops_of (l := []) (by kernel_rfl) (List.forall_mem_nil _))) t15_eq

/-! ### f88: laws.szItem -/
noncomputable def code88 : Code := match Tryz.f88.body with | some c => c | none => .skip
def ps88 : List AP := [.val true [.int .i64, .int .i64, .int .i64, .str], .val false [.int .i64]]
def rs88 : List RP := [{ src := .tmp 4, agg := false, ps := [.int .i64] }]
noncomputable def sl88 : SemL := []
def D88 : Draws := fun _ => .nil
noncomputable def L88 {R : Type} : Loops R := fun _ _ _ _ => none
noncomputable def laws_szItem (a0c0 : Int) (a0c1 : Int) (a0c2 : Int) (a0c3 : ByteArray) (left1 : Int) : Option (Int × Unit) :=
  bif decide (IntKind.i64.wrap (left1 - ((ByteArray.size a0c3 : Nat) : Int)) < (0 : Int)) then
    some ((-1 : Int), ())
  else
    some (IntKind.i64.wrap (left1 - ((ByteArray.size a0c3 : Nat) : Int)), ())
noncomputable def x88 (x : Int × Int × Int × ByteArray × Int × Unit) : Option (Int × Unit) := laws_szItem x.1 x.2.1 x.2.2.1 x.2.2.2.1 x.2.2.2.2.1
noncomputable def sem88 : Sem1 := semOf ps88 rs88 x88
theorem so88 : SemsOk Tryz.prog (semsOf sl88) := sems_nil
theorem t88_eq (x : denR (headRT (ps88.map some))) : codeK (tabOf tr) (semsOf sl88) D88 L88 code88 (start 13 ps88 x) (finK rs88 ps88) = x88 x := by kernel_rfl
theorem k88 : Known Tryz.prog 88 sem88 :=
  fn_auto tr_ok eq_ok mixed_ok so88 (D := D88) (code := code88) (n := 13) Tryz.func88 (by kernel_rfl) (by kernel_rfl) (by kernel_rfl) (fun w0 mu _ hs => (loops_of (l := []) (by kernel_rfl) (List.forall_mem_nil _))) t88_eq

/-! ### f40: laws.szItemS -/
noncomputable def code40 : Code := match Tryz.f40.body with | some c => c | none => .skip
def ps40 : List AP := [.val false [.shr T_iiis], .val false [.int .i64]]
def rs40 : List RP := [{ src := .tmp 4, agg := false, ps := [.int .i64] }]
noncomputable def sl40 : SemL := [(88, (.shr, .shr, .shr, sem88))]
def D40 : Draws := fun _ => .nil
def hp40_0 : List (Option AP) := [some (.val false [.shr T_iiis]), some (.val false [.int .i64]), none, none, none, some (.val false [.int .i64]), none, none, none, none, none, none, none, none, none, none, none, none, none, none, none, none, none, none, none, none, none, none]
def e40_0 : List (Option AP) := [none, some (.val false [.int .i64]), none, none, none, none, none, none, none, none, none, none, none, none, none, none, none, none, none, none, none, none, none, none, none, none, none, none]
def q40_0 : List (Option AP) := [none, none, none, none, some (.val false [.int .i64]), none, none, none, none, none, none, none, none, none, none, none, none, none, none, none, none, none, none, none, none, none, none, none]
abbrev H40_0 : Type := (List R_iiis) × Int × Int × Unit
abbrev E40_0 : Type := Int × Unit
abbrev Q40_0 : Type := Int × Unit
noncomputable def laws_szItemS_c0 (a0 : List R_iiis) (left1 : Int) (i5 : Int) : Option (Sum H40_0 (Sum E40_0 Q40_0)) :=
  bif decide (i5 < ((List.length a0 : Nat) : Int)) then
    bif decide ((0 : Int) ≤ i5) then Option.bind ((a0)[Int.toNat i5]?) fun r1 =>
      Option.bind (laws_szItem r1.1 r1.2.1 r1.2.2.1 r1.2.2.2.1 left1) fun y2 =>
      bif decide (y2.1 < (0 : Int)) then
        some (.inr (.inr ((-1 : Int), ())))
      else
        some (.inl (a0, y2.1, IntKind.i64.wrap (i5 + (1 : Int)), ()))
    else none
  else
    some (.inr (.inl (left1, ())))
noncomputable def laws_szItemS_r0 (x : H40_0) : Option (Sum H40_0 (Sum E40_0 Q40_0)) := laws_szItemS_c0 x.1 x.2.1 x.2.2.1
noncomputable def L40 {R : Type} : Loops R := fun id _ st k => bif Nat.beq id 0 then loopAt hp40_0 e40_0 q40_0 laws_szItemS_r0 st k else none
noncomputable def laws_szItemS (a0 : List R_iiis) (left1 : Int) : Option (Int × Unit) :=
  bif decide (IntKind.i64.wrap (left1 - ((List.length a0 : Nat) : Int)) < (0 : Int)) then
    some ((-1 : Int), ())
  else
    outK (loopV laws_szItemS_r0 (a0, IntKind.i64.wrap (left1 - ((List.length a0 : Nat) : Int)), (0 : Int), ())) (fun y1 =>
      some (y1.1, ())) (fun y2 =>
      some (y2.1, ()))
noncomputable def x40 (x : (List R_iiis) × Int × Unit) : Option (Int × Unit) := laws_szItemS x.1 x.2.1
noncomputable def sem40 : Sem1 := semOf ps40 rs40 x40
theorem so40 : SemsOk Tryz.prog (semsOf sl40) := sems_cons k88 (sems_nil)
noncomputable def b40_0 : Code := nthLoop code40 0
theorem t40_r0_eq (x : denR (headRT hp40_0)) : codeK (tabOf tr) (semsOf sl40) D40 L40 b40_0 (headSt hp40_0 x) (roundK 0 hp40_0 e40_0 q40_0) = laws_szItemS_r0 x := by kernel_rfl
theorem loop40_0 {R : Type} (r : R) (w0 : World) (mu : Mu) (hs : AnShape ps40 mu) : LoopAt Tryz.prog w0 mu 27 (L40 : Loops R) r 0 b40_0 :=
  loop_auto tr_ok eq_ok mixed_ok so40 (D := D40) hs (by kernel_rfl) (fun _ => (loops_of (l := []) (by kernel_rfl) (List.forall_mem_nil _))) t40_r0_eq (fun _ _ => rfl)
theorem t40_eq (x : denR (headRT (ps40.map some))) : codeK (tabOf tr) (semsOf sl40) D40 L40 code40 (start 27 ps40 x) (finK rs40 ps40) = x40 x := by kernel_rfl
theorem k40 : Known Tryz.prog 40 sem40 :=
  fn_auto tr_ok eq_ok mixed_ok so40 (D := D40) (code := code40) (n := 27) Tryz.func40 (by kernel_rfl) (by kernel_rfl) (by kernel_rfl) (fun w0 mu _ hs => (loops_of (l := [(0, b40_0)]) (by kernel_rfl) (List.forall_mem_cons.2 ⟨loop40_0 _ w0 mu hs, (List.forall_mem_nil _)⟩))) t40_eq

/-! ### f42: laws.szStringS -/
noncomputable def code42 : Code := match Tryz.f42.body with | some c => c | none => .skip
def ps42 : List AP := [.val false [.shr T_s], .val false [.int .i64]]
def rs42 : List RP := [{ src := .tmp 4, agg := false, ps := [.int .i64] }]
noncomputable def sl42 : SemL := []
def D42 : Draws := fun _ => .nil
def hp42_0 : List (Option AP) := [some (.val false [.shr T_s]), some (.val false [.int .i64]), none, none, none, some (.val false [.int .i64]), none, none, none, none, none, none, none, none, none, none, none, none, none, none, none, none, none, none, none, none, none, none, none]
def e42_0 : List (Option AP) := [none, some (.val false [.int .i64]), none, none, none, none, none, none, none, none, none, none, none, none, none, none, none, none, none, none, none, none, none, none, none, none, none, none, none]
def q42_0 : List (Option AP) := [none, none, none, none, some (.val false [.int .i64]), none, none, none, none, none, none, none, none, none, none, none, none, none, none, none, none, none, none, none, none, none, none, none, none]
abbrev H42_0 : Type := (List (ByteArray × Unit)) × Int × Int × Unit
abbrev E42_0 : Type := Int × Unit
abbrev Q42_0 : Type := Int × Unit
noncomputable def laws_szStringS_c0 (a0 : List (ByteArray × Unit)) (left1 : Int) (i5 : Int) : Option (Sum H42_0 (Sum E42_0 Q42_0)) :=
  bif decide (i5 < ((List.length a0 : Nat) : Int)) then
    bif decide ((0 : Int) ≤ i5) then Option.bind ((a0)[Int.toNat i5]?) fun r1 =>
      bif decide (IntKind.i64.wrap (left1 - ((ByteArray.size r1.1 : Nat) : Int)) < (0 : Int)) then
        some (.inr (.inr ((-1 : Int), ())))
      else
        some (.inl (a0, IntKind.i64.wrap (left1 - ((ByteArray.size r1.1 : Nat) : Int)), IntKind.i64.wrap (i5 + (1 : Int)), ()))
    else none
  else
    some (.inr (.inl (left1, ())))
noncomputable def laws_szStringS_r0 (x : H42_0) : Option (Sum H42_0 (Sum E42_0 Q42_0)) := laws_szStringS_c0 x.1 x.2.1 x.2.2.1
noncomputable def L42 {R : Type} : Loops R := fun id _ st k => bif Nat.beq id 0 then loopAt hp42_0 e42_0 q42_0 laws_szStringS_r0 st k else none
noncomputable def laws_szStringS (a0 : List (ByteArray × Unit)) (left1 : Int) : Option (Int × Unit) :=
  bif decide (IntKind.i64.wrap (left1 - ((List.length a0 : Nat) : Int)) < (0 : Int)) then
    some ((-1 : Int), ())
  else
    outK (loopV laws_szStringS_r0 (a0, IntKind.i64.wrap (left1 - ((List.length a0 : Nat) : Int)), (0 : Int), ())) (fun y1 =>
      some (y1.1, ())) (fun y2 =>
      some (y2.1, ()))
noncomputable def x42 (x : (List (ByteArray × Unit)) × Int × Unit) : Option (Int × Unit) := laws_szStringS x.1 x.2.1
noncomputable def sem42 : Sem1 := semOf ps42 rs42 x42
theorem so42 : SemsOk Tryz.prog (semsOf sl42) := sems_nil
noncomputable def b42_0 : Code := nthLoop code42 0
theorem t42_r0_eq (x : denR (headRT hp42_0)) : codeK (tabOf tr) (semsOf sl42) D42 L42 b42_0 (headSt hp42_0 x) (roundK 0 hp42_0 e42_0 q42_0) = laws_szStringS_r0 x := by kernel_rfl
theorem loop42_0 {R : Type} (r : R) (w0 : World) (mu : Mu) (hs : AnShape ps42 mu) : LoopAt Tryz.prog w0 mu 28 (L42 : Loops R) r 0 b42_0 :=
  loop_auto tr_ok eq_ok mixed_ok so42 (D := D42) hs (by kernel_rfl) (fun _ => (loops_of (l := []) (by kernel_rfl) (List.forall_mem_nil _))) t42_r0_eq (fun _ _ => rfl)
theorem t42_eq (x : denR (headRT (ps42.map some))) : codeK (tabOf tr) (semsOf sl42) D42 L42 code42 (start 28 ps42 x) (finK rs42 ps42) = x42 x := by kernel_rfl
theorem k42 : Known Tryz.prog 42 sem42 :=
  fn_auto tr_ok eq_ok mixed_ok so42 (D := D42) (code := code42) (n := 28) Tryz.func42 (by kernel_rfl) (by kernel_rfl) (by kernel_rfl) (fun w0 mu _ hs => (loops_of (l := [(0, b42_0)]) (by kernel_rfl) (List.forall_mem_cons.2 ⟨loop42_0 _ w0 mu hs, (List.forall_mem_nil _)⟩))) t42_eq

/-! ### f43: laws.szToken -/
noncomputable def code43 : Code := match Tryz.f43.body with | some c => c | none => .skip
def ps43 : List AP := [.val true [.int .i64, .int .i64, .int .i64, .int .i64, .int .i64, .shr T_i], .val false [.int .i64]]
def rs43 : List RP := [{ src := .tmp 4, agg := false, ps := [.int .i64] }]
noncomputable def sl43 : SemL := [(41, (.shr, .shr, .shr, sem41))]
def D43 : Draws := fun _ => .nil
noncomputable def L43 {R : Type} : Loops R := fun _ _ _ _ => none
noncomputable def laws_szToken (a0c0 : Int) (a0c1 : Int) (a0c2 : Int) (a0c3 : Int) (a0c4 : Int) (a0c5 : List (Int × Unit)) (left1 : Int) : Option (Int × Unit) :=
  Option.bind (laws_szIntS a0c5 left1) fun y1 =>
  bif decide (y1.1 < (0 : Int)) then
    some ((-1 : Int), ())
  else
    some (y1.1, ())
noncomputable def x43 (x : Int × Int × Int × Int × Int × (List (Int × Unit)) × Int × Unit) : Option (Int × Unit) := laws_szToken x.1 x.2.1 x.2.2.1 x.2.2.2.1 x.2.2.2.2.1 x.2.2.2.2.2.1 x.2.2.2.2.2.2.1
noncomputable def sem43 : Sem1 := semOf ps43 rs43 x43
theorem so43 : SemsOk Tryz.prog (semsOf sl43) := sems_cons k41 (sems_nil)
theorem t43_eq (x : denR (headRT (ps43.map some))) : codeK (tabOf tr) (semsOf sl43) D43 L43 code43 (start 12 ps43 x) (finK rs43 ps43) = x43 x := by kernel_rfl
theorem k43 : Known Tryz.prog 43 sem43 :=
  fn_auto tr_ok eq_ok mixed_ok so43 (D := D43) (code := code43) (n := 12) Tryz.func43 (by kernel_rfl) (by kernel_rfl) (by kernel_rfl) (fun w0 mu _ hs => (loops_of (l := []) (by kernel_rfl) (List.forall_mem_nil _))) t43_eq

/-! ### f14: laws.szMate -/
noncomputable def code14 : Code := match Tryz.f14.body with | some c => c | none => .skip
def ps14 : List AP := [.val true [.int .i64, .int .i64, .shr T_i, .shr T_iiis, .shr T_i, .shr T_s, .int .i64, .int .i64, .int .i64, .int .i64, .int .i64, .int .i64, .int .i64, .int .i64, .int .i64, .shr T_i], .val false [.int .i64]]
def rs14 : List RP := [{ src := .tmp 4, agg := false, ps := [.int .i64] }]
noncomputable def sl14 : SemL := [(15, (.shr, .shr, .shr, sem15)), (40, (.shr, .shr, .shr, sem40)), (41, (.shr, .shr, .shr, sem41)), (42, (.shr, .shr, .shr, sem42)), (43, (.shr, .shr, .shr, sem43))]
def D14 : Draws := fun _ => .nil
noncomputable def L14 {R : Type} : Loops R := fun _ _ _ _ => none
noncomputable def laws_szMate (a0c0 : Int) (a0c1 : Int) (a0c2 : List (Int × Unit)) (a0c3 : List R_iiis) (a0c4 : List (Int × Unit)) (a0c5 : List (ByteArray × Unit)) (a0c6 : Int) (a0c7 : Int) (a0c8 : Int) (a0c9 : Int) (a0c10 : Int) (a0c11 : Int) (a0c12 : Int) (a0c13 : Int) (a0c14 : Int) (a0c15 : List (Int × Unit)) (left1 : Int) : Option (Int × Unit) :=
  Option.bind (laws_szRing a0c1 a0c2 left1) fun y1 =>
  bif decide (y1.1 < (0 : Int)) then
    some ((-1 : Int), ())
  else
    Option.bind (laws_szItemS a0c3 y1.1) fun y2 =>
    bif decide (y2.1 < (0 : Int)) then
      some ((-1 : Int), ())
    else
      Option.bind (laws_szIntS a0c4 y2.1) fun y3 =>
      bif decide (y3.1 < (0 : Int)) then
        some ((-1 : Int), ())
      else
        Option.bind (laws_szStringS a0c5 y3.1) fun y4 =>
        bif decide (y4.1 < (0 : Int)) then
          some ((-1 : Int), ())
        else
          Option.bind (laws_szToken a0c10 a0c11 a0c12 a0c13 a0c14 a0c15 y4.1) fun y5 =>
          bif decide (y5.1 < (0 : Int)) then
            some ((-1 : Int), ())
          else
            some (y5.1, ())
noncomputable def x14 (x : Int × Int × (List (Int × Unit)) × (List R_iiis) × (List (Int × Unit)) × (List (ByteArray × Unit)) × Int × Int × Int × Int × Int × Int × Int × Int × Int × (List (Int × Unit)) × Int × Unit) : Option (Int × Unit) := laws_szMate x.1 x.2.1 x.2.2.1 x.2.2.2.1 x.2.2.2.2.1 x.2.2.2.2.2.1 x.2.2.2.2.2.2.1 x.2.2.2.2.2.2.2.1 x.2.2.2.2.2.2.2.2.1 x.2.2.2.2.2.2.2.2.2.1 x.2.2.2.2.2.2.2.2.2.2.1 x.2.2.2.2.2.2.2.2.2.2.2.1 x.2.2.2.2.2.2.2.2.2.2.2.2.1 x.2.2.2.2.2.2.2.2.2.2.2.2.2.1 x.2.2.2.2.2.2.2.2.2.2.2.2.2.2.1 x.2.2.2.2.2.2.2.2.2.2.2.2.2.2.2.1 x.2.2.2.2.2.2.2.2.2.2.2.2.2.2.2.2.1
noncomputable def sem14 : Sem1 := semOf ps14 rs14 x14
theorem so14 : SemsOk Tryz.prog (semsOf sl14) := sems_cons k15 (sems_cons k40 (sems_cons k41 (sems_cons k42 (sems_cons k43 (sems_nil)))))
theorem t14_eq (x : denR (headRT (ps14.map some))) : codeK (tabOf tr) (semsOf sl14) D14 L14 code14 (start 36 ps14 x) (finK rs14 ps14) = x14 x := by kernel_rfl
theorem k14 : Known Tryz.prog 14 sem14 :=
  fn_auto tr_ok eq_ok mixed_ok so14 (D := D14) (code := code14) (n := 36) Tryz.func14 (by kernel_rfl) (by kernel_rfl) (by kernel_rfl) (fun w0 mu _ hs => (loops_of (l := []) (by kernel_rfl) (List.forall_mem_nil _))) t14_eq

/-! ### f44: laws.szBundle -/
noncomputable def code44 : Code := match Tryz.f44.body with | some c => c | none => .skip
def ps44 : List AP := [.val true [.int .i64, .int .i64, .int .i64, .shr T_iiis], .val false [.int .i64]]
def rs44 : List RP := [{ src := .tmp 4, agg := false, ps := [.int .i64] }]
noncomputable def sl44 : SemL := [(40, (.shr, .shr, .shr, sem40))]
def D44 : Draws := fun _ => .nil
noncomputable def L44 {R : Type} : Loops R := fun _ _ _ _ => none
noncomputable def laws_szBundle (a0c0 : Int) (a0c1 : Int) (a0c2 : Int) (a0c3 : List R_iiis) (left1 : Int) : Option (Int × Unit) :=
  Option.bind (laws_szItemS a0c3 left1) fun y1 =>
  bif decide (y1.1 < (0 : Int)) then
    some ((-1 : Int), ())
  else
    some (y1.1, ())
noncomputable def x44 (x : Int × Int × Int × (List R_iiis) × Int × Unit) : Option (Int × Unit) := laws_szBundle x.1 x.2.1 x.2.2.1 x.2.2.2.1 x.2.2.2.2.1
noncomputable def sem44 : Sem1 := semOf ps44 rs44 x44
theorem so44 : SemsOk Tryz.prog (semsOf sl44) := sems_cons k40 (sems_nil)
theorem t44_eq (x : denR (headRT (ps44.map some))) : codeK (tabOf tr) (semsOf sl44) D44 L44 code44 (start 12 ps44 x) (finK rs44 ps44) = x44 x := by kernel_rfl
theorem k44 : Known Tryz.prog 44 sem44 :=
  fn_auto tr_ok eq_ok mixed_ok so44 (D := D44) (code := code44) (n := 12) Tryz.func44 (by kernel_rfl) (by kernel_rfl) (by kernel_rfl) (fun w0 mu _ hs => (loops_of (l := []) (by kernel_rfl) (List.forall_mem_nil _))) t44_eq

/-! ### f16: laws.szBundleS -/
noncomputable def code16 : Code := match Tryz.f16.body with | some c => c | none => .skip
def ps16 : List AP := [.val false [.shr T_iiiLiiisE], .val false [.int .i64]]
def rs16 : List RP := [{ src := .tmp 4, agg := false, ps := [.int .i64] }]
noncomputable def sl16 : SemL := [(44, (.shr, .shr, .shr, sem44))]
def D16 : Draws := fun _ => .nil
def hp16_0 : List (Option AP) := [some (.val false [.shr T_iiiLiiisE]), some (.val false [.int .i64]), none, none, none, some (.val false [.int .i64]), none, none, none, none, none, none, none, none, none, none, none, none, none, none, none, none, none, none, none, none, none, none]
def e16_0 : List (Option AP) := [none, some (.val false [.int .i64]), none, none, none, none, none, none, none, none, none, none, none, none, none, none, none, none, none, none, none, none, none, none, none, none, none, none]
def q16_0 : List (Option AP) := [none, none, none, none, some (.val false [.int .i64]), none, none, none, none, none, none, none, none, none, none, none, none, none, none, none, none, none, none, none, none, none, none, none]
abbrev H16_0 : Type := (List R_iiiLiiisE) × Int × Int × Unit
abbrev E16_0 : Type := Int × Unit
abbrev Q16_0 : Type := Int × Unit
noncomputable def laws_szBundleS_c0 (a0 : List R_iiiLiiisE) (left1 : Int) (i5 : Int) : Option (Sum H16_0 (Sum E16_0 Q16_0)) :=
  bif decide (i5 < ((List.length a0 : Nat) : Int)) then
    bif decide ((0 : Int) ≤ i5) then Option.bind ((a0)[Int.toNat i5]?) fun r1 =>
      Option.bind (laws_szBundle r1.1 r1.2.1 r1.2.2.1 r1.2.2.2.1 left1) fun y2 =>
      bif decide (y2.1 < (0 : Int)) then
        some (.inr (.inr ((-1 : Int), ())))
      else
        some (.inl (a0, y2.1, IntKind.i64.wrap (i5 + (1 : Int)), ()))
    else none
  else
    some (.inr (.inl (left1, ())))
noncomputable def laws_szBundleS_r0 (x : H16_0) : Option (Sum H16_0 (Sum E16_0 Q16_0)) := laws_szBundleS_c0 x.1 x.2.1 x.2.2.1
noncomputable def L16 {R : Type} : Loops R := fun id _ st k => bif Nat.beq id 0 then loopAt hp16_0 e16_0 q16_0 laws_szBundleS_r0 st k else none
noncomputable def laws_szBundleS (a0 : List R_iiiLiiisE) (left1 : Int) : Option (Int × Unit) :=
  bif decide (IntKind.i64.wrap (left1 - ((List.length a0 : Nat) : Int)) < (0 : Int)) then
    some ((-1 : Int), ())
  else
    outK (loopV laws_szBundleS_r0 (a0, IntKind.i64.wrap (left1 - ((List.length a0 : Nat) : Int)), (0 : Int), ())) (fun y1 =>
      some (y1.1, ())) (fun y2 =>
      some (y2.1, ()))
noncomputable def x16 (x : (List R_iiiLiiisE) × Int × Unit) : Option (Int × Unit) := laws_szBundleS x.1 x.2.1
noncomputable def sem16 : Sem1 := semOf ps16 rs16 x16
theorem so16 : SemsOk Tryz.prog (semsOf sl16) := sems_cons k44 (sems_nil)
noncomputable def b16_0 : Code := nthLoop code16 0
theorem t16_r0_eq (x : denR (headRT hp16_0)) : codeK (tabOf tr) (semsOf sl16) D16 L16 b16_0 (headSt hp16_0 x) (roundK 0 hp16_0 e16_0 q16_0) = laws_szBundleS_r0 x := by kernel_rfl
theorem loop16_0 {R : Type} (r : R) (w0 : World) (mu : Mu) (hs : AnShape ps16 mu) : LoopAt Tryz.prog w0 mu 27 (L16 : Loops R) r 0 b16_0 :=
  loop_auto tr_ok eq_ok mixed_ok so16 (D := D16) hs (by kernel_rfl) (fun _ => (loops_of (l := []) (by kernel_rfl) (List.forall_mem_nil _))) t16_r0_eq (fun _ _ => rfl)
theorem t16_eq (x : denR (headRT (ps16.map some))) : codeK (tabOf tr) (semsOf sl16) D16 L16 code16 (start 27 ps16 x) (finK rs16 ps16) = x16 x := by kernel_rfl
theorem k16 : Known Tryz.prog 16 sem16 :=
  fn_auto tr_ok eq_ok mixed_ok so16 (D := D16) (code := code16) (n := 27) Tryz.func16 (by kernel_rfl) (by kernel_rfl) (by kernel_rfl) (fun w0 mu _ hs => (loops_of (l := [(0, b16_0)]) (by kernel_rfl) (List.forall_mem_cons.2 ⟨loop16_0 _ w0 mu hs, (List.forall_mem_nil _)⟩))) t16_eq

/-! ### f45: laws.szEvent -/
noncomputable def code45 : Code := match Tryz.f45.body with | some c => c | none => .skip
def ps45 : List AP := [.val true [.int .i64, .int .i64, .shr T_i, .int .i64, .int .i64, .int .i64, .str, .shr T_i], .val false [.int .i64]]
def rs45 : List RP := [{ src := .tmp 4, agg := false, ps := [.int .i64] }]
noncomputable def sl45 : SemL := [(15, (.shr, .shr, .shr, sem15)), (88, (.shr, .shr, .shr, sem88)), (41, (.shr, .shr, .shr, sem41))]
def D45 : Draws := fun _ => .nil
noncomputable def L45 {R : Type} : Loops R := fun _ _ _ _ => none
noncomputable def laws_szEvent (a0c0 : Int) (a0c1 : Int) (a0c2 : List (Int × Unit)) (a0c3 : Int) (a0c4 : Int) (a0c5 : Int) (a0c6 : ByteArray) (a0c7 : List (Int × Unit)) (left1 : Int) : Option (Int × Unit) :=
  Option.bind (laws_szRing a0c1 a0c2 left1) fun y1 =>
  bif decide (y1.1 < (0 : Int)) then
    some ((-1 : Int), ())
  else
    Option.bind (laws_szItem a0c3 a0c4 a0c5 a0c6 y1.1) fun y2 =>
    bif decide (y2.1 < (0 : Int)) then
      some ((-1 : Int), ())
    else
      Option.bind (laws_szIntS a0c7 y2.1) fun y3 =>
      bif decide (y3.1 < (0 : Int)) then
        some ((-1 : Int), ())
      else
        some (y3.1, ())
noncomputable def x45 (x : Int × Int × (List (Int × Unit)) × Int × Int × Int × ByteArray × (List (Int × Unit)) × Int × Unit) : Option (Int × Unit) := laws_szEvent x.1 x.2.1 x.2.2.1 x.2.2.2.1 x.2.2.2.2.1 x.2.2.2.2.2.1 x.2.2.2.2.2.2.1 x.2.2.2.2.2.2.2.1 x.2.2.2.2.2.2.2.2.1
noncomputable def sem45 : Sem1 := semOf ps45 rs45 x45
theorem so45 : SemsOk Tryz.prog (semsOf sl45) := sems_cons k15 (sems_cons k88 (sems_cons k41 (sems_nil)))
theorem t45_eq (x : denR (headRT (ps45.map some))) : codeK (tabOf tr) (semsOf sl45) D45 L45 code45 (start 24 ps45 x) (finK rs45 ps45) = x45 x := by kernel_rfl
theorem k45 : Known Tryz.prog 45 sem45 :=
  fn_auto tr_ok eq_ok mixed_ok so45 (D := D45) (code := code45) (n := 24) Tryz.func45 (by kernel_rfl) (by kernel_rfl) (by kernel_rfl) (fun w0 mu _ hs => (loops_of (l := []) (by kernel_rfl) (List.forall_mem_nil _))) t45_eq

/-! ### f17: laws.szEventS -/
noncomputable def code17 : Code := match Tryz.f17.body with | some c => c | none => .skip
def ps17 : List AP := [.val false [.shr T_iiLiEiiisLiE], .val false [.int .i64]]
def rs17 : List RP := [{ src := .tmp 4, agg := false, ps := [.int .i64] }]
noncomputable def sl17 : SemL := [(45, (.shr, .shr, .shr, sem45))]
def D17 : Draws := fun _ => .nil
def hp17_0 : List (Option AP) := [some (.val false [.shr T_iiLiEiiisLiE]), some (.val false [.int .i64]), none, none, none, some (.val false [.int .i64]), none, none, none, none, none, none, none, none, none, none, none, none, none, none, none, none, none, none, none, none, none, none]
def e17_0 : List (Option AP) := [none, some (.val false [.int .i64]), none, none, none, none, none, none, none, none, none, none, none, none, none, none, none, none, none, none, none, none, none, none, none, none, none, none]
def q17_0 : List (Option AP) := [none, none, none, none, some (.val false [.int .i64]), none, none, none, none, none, none, none, none, none, none, none, none, none, none, none, none, none, none, none, none, none, none, none]
abbrev H17_0 : Type := (List R_iiLiEiiisLiE) × Int × Int × Unit
abbrev E17_0 : Type := Int × Unit
abbrev Q17_0 : Type := Int × Unit
noncomputable def laws_szEventS_c0 (a0 : List R_iiLiEiiisLiE) (left1 : Int) (i5 : Int) : Option (Sum H17_0 (Sum E17_0 Q17_0)) :=
  bif decide (i5 < ((List.length a0 : Nat) : Int)) then
    bif decide ((0 : Int) ≤ i5) then Option.bind ((a0)[Int.toNat i5]?) fun r1 =>
      Option.bind (laws_szEvent r1.1 r1.2.1 r1.2.2.1 r1.2.2.2.1 r1.2.2.2.2.1 r1.2.2.2.2.2.1 r1.2.2.2.2.2.2.1 r1.2.2.2.2.2.2.2.1 left1) fun y2 =>
      bif decide (y2.1 < (0 : Int)) then
        some (.inr (.inr ((-1 : Int), ())))
      else
        some (.inl (a0, y2.1, IntKind.i64.wrap (i5 + (1 : Int)), ()))
    else none
  else
    some (.inr (.inl (left1, ())))
noncomputable def laws_szEventS_r0 (x : H17_0) : Option (Sum H17_0 (Sum E17_0 Q17_0)) := laws_szEventS_c0 x.1 x.2.1 x.2.2.1
noncomputable def L17 {R : Type} : Loops R := fun id _ st k => bif Nat.beq id 0 then loopAt hp17_0 e17_0 q17_0 laws_szEventS_r0 st k else none
noncomputable def laws_szEventS (a0 : List R_iiLiEiiisLiE) (left1 : Int) : Option (Int × Unit) :=
  bif decide (IntKind.i64.wrap (left1 - ((List.length a0 : Nat) : Int)) < (0 : Int)) then
    some ((-1 : Int), ())
  else
    outK (loopV laws_szEventS_r0 (a0, IntKind.i64.wrap (left1 - ((List.length a0 : Nat) : Int)), (0 : Int), ())) (fun y1 =>
      some (y1.1, ())) (fun y2 =>
      some (y2.1, ()))
noncomputable def x17 (x : (List R_iiLiEiiisLiE) × Int × Unit) : Option (Int × Unit) := laws_szEventS x.1 x.2.1
noncomputable def sem17 : Sem1 := semOf ps17 rs17 x17
theorem so17 : SemsOk Tryz.prog (semsOf sl17) := sems_cons k45 (sems_nil)
noncomputable def b17_0 : Code := nthLoop code17 0
theorem t17_r0_eq (x : denR (headRT hp17_0)) : codeK (tabOf tr) (semsOf sl17) D17 L17 b17_0 (headSt hp17_0 x) (roundK 0 hp17_0 e17_0 q17_0) = laws_szEventS_r0 x := by kernel_rfl
theorem loop17_0 {R : Type} (r : R) (w0 : World) (mu : Mu) (hs : AnShape ps17 mu) : LoopAt Tryz.prog w0 mu 27 (L17 : Loops R) r 0 b17_0 :=
  loop_auto tr_ok eq_ok mixed_ok so17 (D := D17) hs (by kernel_rfl) (fun _ => (loops_of (l := []) (by kernel_rfl) (List.forall_mem_nil _))) t17_r0_eq (fun _ _ => rfl)
theorem t17_eq (x : denR (headRT (ps17.map some))) : codeK (tabOf tr) (semsOf sl17) D17 L17 code17 (start 27 ps17 x) (finK rs17 ps17) = x17 x := by kernel_rfl
theorem k17 : Known Tryz.prog 17 sem17 :=
  fn_auto tr_ok eq_ok mixed_ok so17 (D := D17) (code := code17) (n := 27) Tryz.func17 (by kernel_rfl) (by kernel_rfl) (by kernel_rfl) (fun w0 mu _ hs => (loops_of (l := [(0, b17_0)]) (by kernel_rfl) (List.forall_mem_cons.2 ⟨loop17_0 _ w0 mu hs, (List.forall_mem_nil _)⟩))) t17_eq

/-! ### f5: laws.szDaemon -/
noncomputable def code5 : Code := match Tryz.f5.body with | some c => c | none => .skip
def ps5 : List AP := [.val true [.int .i64, .bool, .int .i64, .int .i64, .shr T_i, .shr T_iiis, .shr T_i, .shr T_s, .int .i64, .int .i64, .int .i64, .int .i64, .int .i64, .int .i64, .int .i64, .int .i64, .int .i64, .shr T_i, .int .i64, .int .i64, .int .i64, .shr T_i, .shr T_iiiLiiisE, .shr T_iiLiEiiisLiE], .val false [.int .i64]]
def rs5 : List RP := [{ src := .tmp 4, agg := false, ps := [.int .i64] }]
noncomputable def sl5 : SemL := [(14, (.shr, .shr, .shr, sem14)), (15, (.shr, .shr, .shr, sem15)), (16, (.shr, .shr, .shr, sem16)), (17, (.shr, .shr, .shr, sem17))]
def D5 : Draws := fun _ => .nil
noncomputable def L5 {R : Type} : Loops R := fun _ _ _ _ => none
noncomputable def laws_szDaemon (a0c0 : Int) (a0c1 : Bool) (a0c2 : Int) (a0c3 : Int) (a0c4 : List (Int × Unit)) (a0c5 : List R_iiis) (a0c6 : List (Int × Unit)) (a0c7 : List (ByteArray × Unit)) (a0c8 : Int) (a0c9 : Int) (a0c10 : Int) (a0c11 : Int) (a0c12 : Int) (a0c13 : Int) (a0c14 : Int) (a0c15 : Int) (a0c16 : Int) (a0c17 : List (Int × Unit)) (a0c18 : Int) (a0c19 : Int) (a0c20 : Int) (a0c21 : List (Int × Unit)) (a0c22 : List R_iiiLiiisE) (a0c23 : List R_iiLiEiiisLiE) (left1 : Int) : Option (Int × Unit) :=
  Option.bind (laws_szMate a0c2 a0c3 a0c4 a0c5 a0c6 a0c7 a0c8 a0c9 a0c10 a0c11 a0c12 a0c13 a0c14 a0c15 a0c16 a0c17 left1) fun y1 =>
  bif decide (y1.1 < (0 : Int)) then
    some ((-1 : Int), ())
  else
    Option.bind (laws_szRing a0c20 a0c21 y1.1) fun y2 =>
    bif decide (y2.1 < (0 : Int)) then
      some ((-1 : Int), ())
    else
      Option.bind (laws_szBundleS a0c22 y2.1) fun y3 =>
      bif decide (y3.1 < (0 : Int)) then
        some ((-1 : Int), ())
      else
        Option.bind (laws_szEventS a0c23 y3.1) fun y4 =>
        bif decide (y4.1 < (0 : Int)) then
          some ((-1 : Int), ())
        else
          some (y4.1, ())
noncomputable def x5 (x : Int × Bool × Int × Int × (List (Int × Unit)) × (List R_iiis) × (List (Int × Unit)) × (List (ByteArray × Unit)) × Int × Int × Int × Int × Int × Int × Int × Int × Int × (List (Int × Unit)) × Int × Int × Int × (List (Int × Unit)) × (List R_iiiLiiisE) × (List R_iiLiEiiisLiE) × Int × Unit) : Option (Int × Unit) := laws_szDaemon x.1 x.2.1 x.2.2.1 x.2.2.2.1 x.2.2.2.2.1 x.2.2.2.2.2.1 x.2.2.2.2.2.2.1 x.2.2.2.2.2.2.2.1 x.2.2.2.2.2.2.2.2.1 x.2.2.2.2.2.2.2.2.2.1 x.2.2.2.2.2.2.2.2.2.2.1 x.2.2.2.2.2.2.2.2.2.2.2.1 x.2.2.2.2.2.2.2.2.2.2.2.2.1 x.2.2.2.2.2.2.2.2.2.2.2.2.2.1 x.2.2.2.2.2.2.2.2.2.2.2.2.2.2.1 x.2.2.2.2.2.2.2.2.2.2.2.2.2.2.2.1 x.2.2.2.2.2.2.2.2.2.2.2.2.2.2.2.2.1 x.2.2.2.2.2.2.2.2.2.2.2.2.2.2.2.2.2.1 x.2.2.2.2.2.2.2.2.2.2.2.2.2.2.2.2.2.2.1 x.2.2.2.2.2.2.2.2.2.2.2.2.2.2.2.2.2.2.2.1 x.2.2.2.2.2.2.2.2.2.2.2.2.2.2.2.2.2.2.2.2.1 x.2.2.2.2.2.2.2.2.2.2.2.2.2.2.2.2.2.2.2.2.2.1 x.2.2.2.2.2.2.2.2.2.2.2.2.2.2.2.2.2.2.2.2.2.2.1 x.2.2.2.2.2.2.2.2.2.2.2.2.2.2.2.2.2.2.2.2.2.2.2.1 x.2.2.2.2.2.2.2.2.2.2.2.2.2.2.2.2.2.2.2.2.2.2.2.2.1
noncomputable def sem5 : Sem1 := semOf ps5 rs5 x5
theorem so5 : SemsOk Tryz.prog (semsOf sl5) := sems_cons k14 (sems_cons k15 (sems_cons k16 (sems_cons k17 (sems_nil))))
theorem t5_eq (x : denR (headRT (ps5.map some))) : codeK (tabOf tr) (semsOf sl5) D5 L5 code5 (start 30 ps5 x) (finK rs5 ps5) = x5 x := by kernel_rfl
theorem k5 : Known Tryz.prog 5 sem5 :=
  fn_auto tr_ok eq_ok mixed_ok so5 (D := D5) (code := code5) (n := 30) Tryz.func5 (by kernel_rfl) (by kernel_rfl) (by kernel_rfl) (fun w0 mu _ hs => (loops_of (l := []) (by kernel_rfl) (List.forall_mem_nil _))) t5_eq

/-! ### f57: laws.toIntS -/
noncomputable def code57 : Code := match Tryz.f57.body with | some c => c | none => .skip
def ps57 : List AP := [.val false [.shr T_i]]
def rs57 : List RP := [{ src := .tmp 2, agg := false, ps := [.own T_i] }]
noncomputable def sl57 : SemL := []
def D57 : Draws := fun _ => .nil
def hp57_0 : List (Option AP) := [some (.val false [.shr T_i]), none, none, some (.val false [.own T_i]), some (.val false [.int .i64]), none, none, none, none, none, none, none, none, none, none, none, none, none, none, none, none, none, none]
def e57_0 : List (Option AP) := [none, none, none, some (.val false [.own T_i]), none, none, none, none, none, none, none, none, none, none, none, none, none, none, none, none, none, none, none]
def q57_0 : List (Option AP) := [none, none, none, none, none, none, none, none, none, none, none, none, none, none, none, none, none, none, none, none, none, none, none]
abbrev H57_0 : Type := (List (Int × Unit)) × (List (Int × Unit)) × Int × Unit
abbrev E57_0 : Type := (List (Int × Unit)) × Unit
abbrev Q57_0 : Type := Unit
noncomputable def laws_toIntS_c0 (a0 : List (Int × Unit)) (out3 : List (Int × Unit)) (i4 : Int) : Option (Sum H57_0 (Sum E57_0 Q57_0)) :=
  bif decide (i4 < ((List.length a0 : Nat) : Int)) then
    bif decide ((0 : Int) ≤ i4) then Option.bind ((a0)[Int.toNat i4]?) fun r1 =>
      bif decide ((0 : Int) ≤ i4) then bif Nat.blt (Int.toNat i4) (List.length out3) then Option.bind ((out3)[Int.toNat i4]?) fun r2 =>
          some (.inl (a0, List.set out3 (Int.toNat i4) (r1.1, ()), IntKind.i64.wrap (i4 + (1 : Int)), ()))
        else none
      else none
    else none
  else
    some (.inr (.inl (out3, ())))
noncomputable def laws_toIntS_r0 (x : H57_0) : Option (Sum H57_0 (Sum E57_0 Q57_0)) := laws_toIntS_c0 x.1 x.2.1 x.2.2.1
noncomputable def L57 {R : Type} : Loops R := fun id _ st k => bif Nat.beq id 0 then loopAt hp57_0 e57_0 q57_0 laws_toIntS_r0 st k else none
noncomputable def laws_toIntS (a0 : List (Int × Unit)) : Option ((List (Int × Unit)) × Unit) :=
  bif decide (((List.length a0 : Nat) : Int) = ((List.length a0 : Nat) : Int)) then bif decide ((0 : Int) ≤ ((List.length a0 : Nat) : Int)) then bif Nat.ble ((Int.toNat ((List.length a0 : Nat) : Int)) * 8) lim then outK (loopV laws_toIntS_r0 (a0, List.replicate (Int.toNat ((List.length a0 : Nat) : Int)) ((0 : Int), ()), (0 : Int), ())) (fun y1 =>
          some (y1.1, ())) (fun y2 =>
          none)
      else none
    else none
  else none
noncomputable def x57 (x : (List (Int × Unit)) × Unit) : Option ((List (Int × Unit)) × Unit) := laws_toIntS x.1
noncomputable def sem57 : Sem1 := semOf ps57 rs57 x57
theorem so57 : SemsOk Tryz.prog (semsOf sl57) := sems_nil
noncomputable def b57_0 : Code := nthLoop code57 0
theorem t57_r0_eq (x : denR (headRT hp57_0)) : codeK (tabOf tr) (semsOf sl57) D57 L57 b57_0 (headSt hp57_0 x) (roundK 0 hp57_0 e57_0 q57_0) = laws_toIntS_r0 x := by kernel_rfl
theorem loop57_0 {R : Type} (r : R) (w0 : World) (mu : Mu) (hs : AnShape ps57 mu) : LoopAt Tryz.prog w0 mu 22 (L57 : Loops R) r 0 b57_0 :=
  loop_auto tr_ok eq_ok mixed_ok so57 (D := D57) hs (by kernel_rfl) (fun _ => (loops_of (l := []) (by kernel_rfl) (List.forall_mem_nil _))) t57_r0_eq (fun _ _ => rfl)
theorem t57_eq (x : denR (headRT (ps57.map some))) : codeK (tabOf tr) (semsOf sl57) D57 L57 code57 (start 22 ps57 x) (finK rs57 ps57) = x57 x := by kernel_rfl
theorem k57 : Known Tryz.prog 57 sem57 :=
  fn_auto tr_ok eq_ok mixed_ok so57 (D := D57) (code := code57) (n := 22) Tryz.func57 (by kernel_rfl) (by kernel_rfl) (by kernel_rfl) (fun w0 mu _ hs => (loops_of (l := [(0, b57_0)]) (by kernel_rfl) (List.forall_mem_cons.2 ⟨loop57_0 _ w0 mu hs, (List.forall_mem_nil _)⟩))) t57_eq

/-! ### f21: laws.toRing -/
noncomputable def code21 : Code := match Tryz.f21.body with | some c => c | none => .skip
def ps21 : List AP := [.val true [.int .i64, .shr T_i]]
def rs21 : List RP := [{ src := .cell 2, agg := true, ps := [.int .i64, .own T_i] }]
noncomputable def sl21 : SemL := [(57, (.shr, .shr, .shr, sem57))]
def D21 : Draws := fun _ => .nil
noncomputable def L21 {R : Type} : Loops R := fun _ _ _ _ => none
noncomputable def laws_toRing (a0c0 : Int) (a0c1 : List (Int × Unit)) : Option (Int × (List (Int × Unit)) × Unit) :=
  Option.bind (laws_toIntS a0c1) fun y1 =>
  some (a0c0, y1.1, ())
noncomputable def x21 (x : Int × (List (Int × Unit)) × Unit) : Option (Int × (List (Int × Unit)) × Unit) := laws_toRing x.1 x.2.1
noncomputable def sem21 : Sem1 := semOf ps21 rs21 x21
theorem so21 : SemsOk Tryz.prog (semsOf sl21) := sems_cons k57 (sems_nil)
theorem t21_eq (x : denR (headRT (ps21.map some))) : codeK (tabOf tr) (semsOf sl21) D21 L21 code21 (start 12 ps21 x) (finK rs21 ps21) = x21 x := by kernel_rfl
theorem k21 : Known Tryz.prog 21 sem21 :=
  fn_auto tr_ok eq_ok mixed_ok so21 (D := D21) (code := code21) (n := 12) Tryz.func21 (by kernel_rfl) (by kernel_rfl) (by kernel_rfl) (fun w0 mu _ hs => (loops_of (l := []) (by kernel_rfl) (List.forall_mem_nil _))) t21_eq

/-! ### f96: laws.toItem -/
noncomputable def code96 : Code := match Tryz.f96.body with | some c => c | none => .skip
def ps96 : List AP := [.val true [.int .i64, .int .i64, .int .i64, .str]]
def rs96 : List RP := [{ src := .cell 2, agg := true, ps := [.int .i64, .int .i64, .int .i64, .str] }]
noncomputable def sl96 : SemL := []
def D96 : Draws := fun _ => .nil
noncomputable def L96 {R : Type} : Loops R := fun _ _ _ _ => none
noncomputable def laws_toItem (a0c0 : Int) (a0c1 : Int) (a0c2 : Int) (a0c3 : ByteArray) : Option (Int × Int × Int × ByteArray × Unit) :=
  some (a0c0, a0c1, a0c2, a0c3, ())
noncomputable def x96 (x : Int × Int × Int × ByteArray × Unit) : Option (Int × Int × Int × ByteArray × Unit) := laws_toItem x.1 x.2.1 x.2.2.1 x.2.2.2.1
noncomputable def sem96 : Sem1 := semOf ps96 rs96 x96
theorem so96 : SemsOk Tryz.prog (semsOf sl96) := sems_nil
theorem t96_eq (x : denR (headRT (ps96.map some))) : codeK (tabOf tr) (semsOf sl96) D96 L96 code96 (start 17 ps96 x) (finK rs96 ps96) = x96 x := by kernel_rfl
theorem k96 : Known Tryz.prog 96 sem96 :=
  fn_auto tr_ok eq_ok mixed_ok so96 (D := D96) (code := code96) (n := 17) Tryz.func96 (by kernel_rfl) (by kernel_rfl) (by kernel_rfl) (fun w0 mu _ hs => (loops_of (l := []) (by kernel_rfl) (List.forall_mem_nil _))) t96_eq

/-! ### f56: laws.toItemS -/
noncomputable def code56 : Code := match Tryz.f56.body with | some c => c | none => .skip
def ps56 : List AP := [.val false [.shr T_iiis]]
def rs56 : List RP := [{ src := .tmp 2, agg := false, ps := [.own T_iiis] }]
noncomputable def sl56 : SemL := [(96, (.shr, .shr, .shr, sem96))]
def D56 : Draws := fun _ => .nil
def hp56_0 : List (Option AP) := [some (.val false [.shr T_iiis]), none, none, some (.val false [.own T_iiis]), some (.val false [.int .i64]), none, none, none, none, none, none, none, none, none, none, none, none, none, none, none, none, none, none, none]
def e56_0 : List (Option AP) := [none, none, none, some (.val false [.own T_iiis]), none, none, none, none, none, none, none, none, none, none, none, none, none, none, none, none, none, none, none, none]
def q56_0 : List (Option AP) := [none, none, none, none, none, none, none, none, none, none, none, none, none, none, none, none, none, none, none, none, none, none, none, none]
abbrev H56_0 : Type := (List R_iiis) × (List R_iiis) × Int × Unit
abbrev E56_0 : Type := (List R_iiis) × Unit
abbrev Q56_0 : Type := Unit
noncomputable def laws_toItemS_c0 (a0 : List R_iiis) (out3 : List R_iiis) (i4 : Int) : Option (Sum H56_0 (Sum E56_0 Q56_0)) :=
  bif decide (i4 < ((List.length a0 : Nat) : Int)) then
    bif decide ((0 : Int) ≤ i4) then Option.bind ((a0)[Int.toNat i4]?) fun r1 =>
      Option.bind (laws_toItem r1.1 r1.2.1 r1.2.2.1 r1.2.2.2.1) fun y2 =>
      bif decide ((0 : Int) ≤ i4) then bif Nat.blt (Int.toNat i4) (List.length out3) then Option.bind ((out3)[Int.toNat i4]?) fun r3 =>
          some (.inl (a0, List.set out3 (Int.toNat i4) (y2.1, y2.2.1, y2.2.2.1, y2.2.2.2.1, ()), IntKind.i64.wrap (i4 + (1 : Int)), ()))
        else none
      else none
    else none
  else
    some (.inr (.inl (out3, ())))
noncomputable def laws_toItemS_r0 (x : H56_0) : Option (Sum H56_0 (Sum E56_0 Q56_0)) := laws_toItemS_c0 x.1 x.2.1 x.2.2.1
noncomputable def L56 {R : Type} : Loops R := fun id _ st k => bif Nat.beq id 0 then loopAt hp56_0 e56_0 q56_0 laws_toItemS_r0 st k else none
noncomputable def laws_toItemS (a0 : List R_iiis) : Option ((List R_iiis) × Unit) :=
  bif decide (((List.length a0 : Nat) : Int) = ((List.length a0 : Nat) : Int)) then bif decide ((0 : Int) ≤ ((List.length a0 : Nat) : Int)) then bif Nat.ble ((Int.toNat ((List.length a0 : Nat) : Int)) * 40) lim then outK (loopV laws_toItemS_r0 (a0, List.replicate (Int.toNat ((List.length a0 : Nat) : Int)) ((0 : Int), (0 : Int), (0 : Int), ByteArray.empty, ()), (0 : Int), ())) (fun y1 =>
          some (y1.1, ())) (fun y2 =>
          none)
      else none
    else none
  else none
noncomputable def x56 (x : (List R_iiis) × Unit) : Option ((List R_iiis) × Unit) := laws_toItemS x.1
noncomputable def sem56 : Sem1 := semOf ps56 rs56 x56
theorem so56 : SemsOk Tryz.prog (semsOf sl56) := sems_cons k96 (sems_nil)
noncomputable def b56_0 : Code := nthLoop code56 0
theorem t56_r0_eq (x : denR (headRT hp56_0)) : codeK (tabOf tr) (semsOf sl56) D56 L56 b56_0 (headSt hp56_0 x) (roundK 0 hp56_0 e56_0 q56_0) = laws_toItemS_r0 x := by kernel_rfl
theorem loop56_0 {R : Type} (r : R) (w0 : World) (mu : Mu) (hs : AnShape ps56 mu) : LoopAt Tryz.prog w0 mu 23 (L56 : Loops R) r 0 b56_0 :=
  loop_auto tr_ok eq_ok mixed_ok so56 (D := D56) hs (by kernel_rfl) (fun _ => (loops_of (l := []) (by kernel_rfl) (List.forall_mem_nil _))) t56_r0_eq (fun _ _ => rfl)
theorem t56_eq (x : denR (headRT (ps56.map some))) : codeK (tabOf tr) (semsOf sl56) D56 L56 code56 (start 23 ps56 x) (finK rs56 ps56) = x56 x := by kernel_rfl
theorem k56 : Known Tryz.prog 56 sem56 :=
  fn_auto tr_ok eq_ok mixed_ok so56 (D := D56) (code := code56) (n := 23) Tryz.func56 (by kernel_rfl) (by kernel_rfl) (by kernel_rfl) (fun w0 mu _ hs => (loops_of (l := [(0, b56_0)]) (by kernel_rfl) (List.forall_mem_cons.2 ⟨loop56_0 _ w0 mu hs, (List.forall_mem_nil _)⟩))) t56_eq

/-! ### f58: laws.toStringS -/
noncomputable def code58 : Code := match Tryz.f58.body with | some c => c | none => .skip
def ps58 : List AP := [.val false [.shr T_s]]
def rs58 : List RP := [{ src := .tmp 2, agg := false, ps := [.own T_s] }]
noncomputable def sl58 : SemL := []
def D58 : Draws := fun _ => .nil
def hp58_0 : List (Option AP) := [some (.val false [.shr T_s]), none, none, some (.val false [.own T_s]), some (.val false [.int .i64]), none, none, none, none, none, none, none, none, none, none, none, none, none, none, none, none, none, none]
def e58_0 : List (Option AP) := [none, none, none, some (.val false [.own T_s]), none, none, none, none, none, none, none, none, none, none, none, none, none, none, none, none, none, none, none]
def q58_0 : List (Option AP) := [none, none, none, none, none, none, none, none, none, none, none, none, none, none, none, none, none, none, none, none, none, none, none]
abbrev H58_0 : Type := (List (ByteArray × Unit)) × (List (ByteArray × Unit)) × Int × Unit
abbrev E58_0 : Type := (List (ByteArray × Unit)) × Unit
abbrev Q58_0 : Type := Unit
noncomputable def laws_toStringS_c0 (a0 : List (ByteArray × Unit)) (out3 : List (ByteArray × Unit)) (i4 : Int) : Option (Sum H58_0 (Sum E58_0 Q58_0)) :=
  bif decide (i4 < ((List.length a0 : Nat) : Int)) then
    bif decide ((0 : Int) ≤ i4) then Option.bind ((a0)[Int.toNat i4]?) fun r1 =>
      bif decide ((0 : Int) ≤ i4) then bif Nat.blt (Int.toNat i4) (List.length out3) then Option.bind ((out3)[Int.toNat i4]?) fun r2 =>
          some (.inl (a0, List.set out3 (Int.toNat i4) (r1.1, ()), IntKind.i64.wrap (i4 + (1 : Int)), ()))
        else none
      else none
    else none
  else
    some (.inr (.inl (out3, ())))
noncomputable def laws_toStringS_r0 (x : H58_0) : Option (Sum H58_0 (Sum E58_0 Q58_0)) := laws_toStringS_c0 x.1 x.2.1 x.2.2.1
noncomputable def L58 {R : Type} : Loops R := fun id _ st k => bif Nat.beq id 0 then loopAt hp58_0 e58_0 q58_0 laws_toStringS_r0 st k else none
noncomputable def laws_toStringS (a0 : List (ByteArray × Unit)) : Option ((List (ByteArray × Unit)) × Unit) :=
  bif decide (((List.length a0 : Nat) : Int) = ((List.length a0 : Nat) : Int)) then bif decide ((0 : Int) ≤ ((List.length a0 : Nat) : Int)) then bif Nat.ble ((Int.toNat ((List.length a0 : Nat) : Int)) * 16) lim then outK (loopV laws_toStringS_r0 (a0, List.replicate (Int.toNat ((List.length a0 : Nat) : Int)) (ByteArray.empty, ()), (0 : Int), ())) (fun y1 =>
          some (y1.1, ())) (fun y2 =>
          none)
      else none
    else none
  else none
noncomputable def x58 (x : (List (ByteArray × Unit)) × Unit) : Option ((List (ByteArray × Unit)) × Unit) := laws_toStringS x.1
noncomputable def sem58 : Sem1 := semOf ps58 rs58 x58
theorem so58 : SemsOk Tryz.prog (semsOf sl58) := sems_nil
noncomputable def b58_0 : Code := nthLoop code58 0
theorem t58_r0_eq (x : denR (headRT hp58_0)) : codeK (tabOf tr) (semsOf sl58) D58 L58 b58_0 (headSt hp58_0 x) (roundK 0 hp58_0 e58_0 q58_0) = laws_toStringS_r0 x := by kernel_rfl
theorem loop58_0 {R : Type} (r : R) (w0 : World) (mu : Mu) (hs : AnShape ps58 mu) : LoopAt Tryz.prog w0 mu 22 (L58 : Loops R) r 0 b58_0 :=
  loop_auto tr_ok eq_ok mixed_ok so58 (D := D58) hs (by kernel_rfl) (fun _ => (loops_of (l := []) (by kernel_rfl) (List.forall_mem_nil _))) t58_r0_eq (fun _ _ => rfl)
theorem t58_eq (x : denR (headRT (ps58.map some))) : codeK (tabOf tr) (semsOf sl58) D58 L58 code58 (start 22 ps58 x) (finK rs58 ps58) = x58 x := by kernel_rfl
theorem k58 : Known Tryz.prog 58 sem58 :=
  fn_auto tr_ok eq_ok mixed_ok so58 (D := D58) (code := code58) (n := 22) Tryz.func58 (by kernel_rfl) (by kernel_rfl) (by kernel_rfl) (fun w0 mu _ hs => (loops_of (l := [(0, b58_0)]) (by kernel_rfl) (List.forall_mem_cons.2 ⟨loop58_0 _ w0 mu hs, (List.forall_mem_nil _)⟩))) t58_eq

/-! ### f59: laws.toToken -/
noncomputable def code59 : Code := match Tryz.f59.body with | some c => c | none => .skip
def ps59 : List AP := [.val true [.int .i64, .int .i64, .int .i64, .int .i64, .int .i64, .shr T_i]]
def rs59 : List RP := [{ src := .cell 2, agg := true, ps := [.int .i64, .int .i64, .int .i64, .int .i64, .int .i64, .own T_i] }]
noncomputable def sl59 : SemL := [(57, (.shr, .shr, .shr, sem57))]
def D59 : Draws := fun _ => .nil
noncomputable def L59 {R : Type} : Loops R := fun _ _ _ _ => none
noncomputable def laws_toToken (a0c0 : Int) (a0c1 : Int) (a0c2 : Int) (a0c3 : Int) (a0c4 : Int) (a0c5 : List (Int × Unit)) : Option (Int × Int × Int × Int × Int × (List (Int × Unit)) × Unit) :=
  Option.bind (laws_toIntS a0c5) fun y1 =>
  some (a0c0, a0c1, a0c2, a0c3, a0c4, y1.1, ())
noncomputable def x59 (x : Int × Int × Int × Int × Int × (List (Int × Unit)) × Unit) : Option (Int × Int × Int × Int × Int × (List (Int × Unit)) × Unit) := laws_toToken x.1 x.2.1 x.2.2.1 x.2.2.2.1 x.2.2.2.2.1 x.2.2.2.2.2.1
noncomputable def sem59 : Sem1 := semOf ps59 rs59 x59
theorem so59 : SemsOk Tryz.prog (semsOf sl59) := sems_cons k57 (sems_nil)
theorem t59_eq (x : denR (headRT (ps59.map some))) : codeK (tabOf tr) (semsOf sl59) D59 L59 code59 (start 24 ps59 x) (finK rs59 ps59) = x59 x := by kernel_rfl
theorem k59 : Known Tryz.prog 59 sem59 :=
  fn_auto tr_ok eq_ok mixed_ok so59 (D := D59) (code := code59) (n := 24) Tryz.func59 (by kernel_rfl) (by kernel_rfl) (by kernel_rfl) (fun w0 mu _ hs => (loops_of (l := []) (by kernel_rfl) (List.forall_mem_nil _))) t59_eq

/-! ### f20: laws.toMate -/
noncomputable def code20 : Code := match Tryz.f20.body with | some c => c | none => .skip
def ps20 : List AP := [.val true [.int .i64, .int .i64, .shr T_i, .shr T_iiis, .shr T_i, .shr T_s, .int .i64, .int .i64, .int .i64, .int .i64, .int .i64, .int .i64, .int .i64, .int .i64, .int .i64, .shr T_i]]
def rs20 : List RP := [{ src := .cell 2, agg := true, ps := [.int .i64, .int .i64, .own T_i, .own T_iiis, .own T_i, .own T_s, .int .i64, .int .i64, .int .i64, .int .i64, .int .i64, .int .i64, .int .i64, .int .i64, .int .i64, .own T_i] }]
noncomputable def sl20 : SemL := [(21, (.shr, .shr, .shr, sem21)), (56, (.shr, .shr, .shr, sem56)), (57, (.shr, .shr, .shr, sem57)), (58, (.shr, .shr, .shr, sem58)), (59, (.shr, .shr, .shr, sem59))]
def D20 : Draws := fun _ => .nil
noncomputable def L20 {R : Type} : Loops R := fun _ _ _ _ => none
noncomputable def laws_toMate (a0c0 : Int) (a0c1 : Int) (a0c2 : List (Int × Unit)) (a0c3 : List R_iiis) (a0c4 : List (Int × Unit)) (a0c5 : List (ByteArray × Unit)) (a0c6 : Int) (a0c7 : Int) (a0c8 : Int) (a0c9 : Int) (a0c10 : Int) (a0c11 : Int) (a0c12 : Int) (a0c13 : Int) (a0c14 : Int) (a0c15 : List (Int × Unit)) : Option (Int × Int × (List (Int × Unit)) × (List R_iiis) × (List (Int × Unit)) × (List (ByteArray × Unit)) × Int × Int × Int × Int × Int × Int × Int × Int × Int × (List (Int × Unit)) × Unit) :=
  Option.bind (laws_toRing a0c1 a0c2) fun y1 =>
  Option.bind (laws_toItemS a0c3) fun y2 =>
  Option.bind (laws_toIntS a0c4) fun y3 =>
  Option.bind (laws_toStringS a0c5) fun y4 =>
  Option.bind (laws_toToken a0c10 a0c11 a0c12 a0c13 a0c14 a0c15) fun y5 =>
  some (a0c0, y1.1, y1.2.1, y2.1, y3.1, y4.1, a0c6, a0c7, a0c8, a0c9, y5.1, y5.2.1, y5.2.2.1, y5.2.2.2.1, y5.2.2.2.2.1, y5.2.2.2.2.2.1, ())
noncomputable def x20 (x : Int × Int × (List (Int × Unit)) × (List R_iiis) × (List (Int × Unit)) × (List (ByteArray × Unit)) × Int × Int × Int × Int × Int × Int × Int × Int × Int × (List (Int × Unit)) × Unit) : Option (Int × Int × (List (Int × Unit)) × (List R_iiis) × (List (Int × Unit)) × (List (ByteArray × Unit)) × Int × Int × Int × Int × Int × Int × Int × Int × Int × (List (Int × Unit)) × Unit) := laws_toMate x.1 x.2.1 x.2.2.1 x.2.2.2.1 x.2.2.2.2.1 x.2.2.2.2.2.1 x.2.2.2.2.2.2.1 x.2.2.2.2.2.2.2.1 x.2.2.2.2.2.2.2.2.1 x.2.2.2.2.2.2.2.2.2.1 x.2.2.2.2.2.2.2.2.2.2.1 x.2.2.2.2.2.2.2.2.2.2.2.1 x.2.2.2.2.2.2.2.2.2.2.2.2.1 x.2.2.2.2.2.2.2.2.2.2.2.2.2.1 x.2.2.2.2.2.2.2.2.2.2.2.2.2.2.1 x.2.2.2.2.2.2.2.2.2.2.2.2.2.2.2.1
noncomputable def sem20 : Sem1 := semOf ps20 rs20 x20
theorem so20 : SemsOk Tryz.prog (semsOf sl20) := sems_cons k21 (sems_cons k56 (sems_cons k57 (sems_cons k58 (sems_cons k59 (sems_nil)))))
theorem t20_eq (x : denR (headRT (ps20.map some))) : codeK (tabOf tr) (semsOf sl20) D20 L20 code20 (start 40 ps20 x) (finK rs20 ps20) = x20 x := by kernel_rfl
theorem k20 : Known Tryz.prog 20 sem20 :=
  fn_auto tr_ok eq_ok mixed_ok so20 (D := D20) (code := code20) (n := 40) Tryz.func20 (by kernel_rfl) (by kernel_rfl) (by kernel_rfl) (fun w0 mu _ hs => (loops_of (l := []) (by kernel_rfl) (List.forall_mem_nil _))) t20_eq

/-! ### f60: laws.toBundle -/
noncomputable def code60 : Code := match Tryz.f60.body with | some c => c | none => .skip
def ps60 : List AP := [.val true [.int .i64, .int .i64, .int .i64, .shr T_iiis]]
def rs60 : List RP := [{ src := .cell 2, agg := true, ps := [.int .i64, .int .i64, .int .i64, .own T_iiis] }]
noncomputable def sl60 : SemL := [(56, (.shr, .shr, .shr, sem56))]
def D60 : Draws := fun _ => .nil
noncomputable def L60 {R : Type} : Loops R := fun _ _ _ _ => none
noncomputable def laws_toBundle (a0c0 : Int) (a0c1 : Int) (a0c2 : Int) (a0c3 : List R_iiis) : Option (Int × Int × Int × (List R_iiis) × Unit) :=
  Option.bind (laws_toItemS a0c3) fun y1 =>
  some (a0c0, a0c1, a0c2, y1.1, ())
noncomputable def x60 (x : Int × Int × Int × (List R_iiis) × Unit) : Option (Int × Int × Int × (List R_iiis) × Unit) := laws_toBundle x.1 x.2.1 x.2.2.1 x.2.2.2.1
noncomputable def sem60 : Sem1 := semOf ps60 rs60 x60
theorem so60 : SemsOk Tryz.prog (semsOf sl60) := sems_cons k56 (sems_nil)
theorem t60_eq (x : denR (headRT (ps60.map some))) : codeK (tabOf tr) (semsOf sl60) D60 L60 code60 (start 18 ps60 x) (finK rs60 ps60) = x60 x := by kernel_rfl
theorem k60 : Known Tryz.prog 60 sem60 :=
  fn_auto tr_ok eq_ok mixed_ok so60 (D := D60) (code := code60) (n := 18) Tryz.func60 (by kernel_rfl) (by kernel_rfl) (by kernel_rfl) (fun w0 mu _ hs => (loops_of (l := []) (by kernel_rfl) (List.forall_mem_nil _))) t60_eq

/-! ### f22: laws.toBundleS -/
noncomputable def code22 : Code := match Tryz.f22.body with | some c => c | none => .skip
def ps22 : List AP := [.val false [.shr T_iiiLiiisE]]
def rs22 : List RP := [{ src := .tmp 2, agg := false, ps := [.own T_iiiLiiisE .dp] }]
noncomputable def sl22 : SemL := [(60, (.shr, .shr, .shr, sem60))]
def D22 : Draws := fun _ => .nil
def hp22_0 : List (Option AP) := [some (.val false [.shr T_iiiLiiisE]), none, none, some (.val false [.own T_iiiLiiisE .dp]), some (.val false [.int .i64]), none, none, none, none, none, none, none, none, none, none, none, none, none, none, none, none, none, none, none]
def e22_0 : List (Option AP) := [none, none, none, some (.val false [.own T_iiiLiiisE .dp]), none, none, none, none, none, none, none, none, none, none, none, none, none, none, none, none, none, none, none, none]
def q22_0 : List (Option AP) := [none, none, none, none, none, none, none, none, none, none, none, none, none, none, none, none, none, none, none, none, none, none, none, none]
abbrev H22_0 : Type := (List R_iiiLiiisE) × (List R_iiiLiiisE) × Int × Unit
abbrev E22_0 : Type := (List R_iiiLiiisE) × Unit
abbrev Q22_0 : Type := Unit
noncomputable def laws_toBundleS_c0 (a0 : List R_iiiLiiisE) (out3 : List R_iiiLiiisE) (i4 : Int) : Option (Sum H22_0 (Sum E22_0 Q22_0)) :=
  bif decide (i4 < ((List.length a0 : Nat) : Int)) then
    bif decide ((0 : Int) ≤ i4) then Option.bind ((a0)[Int.toNat i4]?) fun r1 =>
      Option.bind (laws_toBundle r1.1 r1.2.1 r1.2.2.1 r1.2.2.2.1) fun y2 =>
      bif decide ((0 : Int) ≤ i4) then bif Nat.blt (Int.toNat i4) (List.length out3) then Option.bind ((out3)[Int.toNat i4]?) fun _ =>
          some (.inl (a0, List.set out3 (Int.toNat i4) (y2.1, y2.2.1, y2.2.2.1, y2.2.2.2.1, ()), IntKind.i64.wrap (i4 + (1 : Int)), ()))
        else none
      else none
    else none
  else
    some (.inr (.inl (out3, ())))
noncomputable def laws_toBundleS_r0 (x : H22_0) : Option (Sum H22_0 (Sum E22_0 Q22_0)) := laws_toBundleS_c0 x.1 x.2.1 x.2.2.1
noncomputable def L22 {R : Type} : Loops R := fun id _ st k => bif Nat.beq id 0 then loopAt hp22_0 e22_0 q22_0 laws_toBundleS_r0 st k else none
noncomputable def laws_toBundleS (a0 : List R_iiiLiiisE) : Option ((List R_iiiLiiisE) × Unit) :=
  bif decide (((List.length a0 : Nat) : Int) = ((List.length a0 : Nat) : Int)) then bif decide ((0 : Int) ≤ ((List.length a0 : Nat) : Int)) then bif Nat.ble ((Int.toNat ((List.length a0 : Nat) : Int)) * 48) lim then outK (loopV laws_toBundleS_r0 (a0, List.replicate (Int.toNat ((List.length a0 : Nat) : Int)) ((0 : Int), (0 : Int), (0 : Int), [], ()), (0 : Int), ())) (fun y1 =>
          some (y1.1, ())) (fun y2 =>
          none)
      else none
    else none
  else none
noncomputable def x22 (x : (List R_iiiLiiisE) × Unit) : Option ((List R_iiiLiiisE) × Unit) := laws_toBundleS x.1
noncomputable def sem22 : Sem1 := semOf ps22 rs22 x22
theorem so22 : SemsOk Tryz.prog (semsOf sl22) := sems_cons k60 (sems_nil)
noncomputable def b22_0 : Code := nthLoop code22 0
theorem t22_r0_eq (x : denR (headRT hp22_0)) : codeK (tabOf tr) (semsOf sl22) D22 L22 b22_0 (headSt hp22_0 x) (roundK 0 hp22_0 e22_0 q22_0) = laws_toBundleS_r0 x := by kernel_rfl
theorem loop22_0 {R : Type} (r : R) (w0 : World) (mu : Mu) (hs : AnShape ps22 mu) : LoopAt Tryz.prog w0 mu 23 (L22 : Loops R) r 0 b22_0 :=
  loop_auto tr_ok eq_ok mixed_ok so22 (D := D22) hs (by kernel_rfl) (fun _ => (loops_of (l := []) (by kernel_rfl) (List.forall_mem_nil _))) t22_r0_eq (fun _ _ => rfl)
theorem t22_eq (x : denR (headRT (ps22.map some))) : codeK (tabOf tr) (semsOf sl22) D22 L22 code22 (start 23 ps22 x) (finK rs22 ps22) = x22 x := by kernel_rfl
theorem k22 : Known Tryz.prog 22 sem22 :=
  fn_auto tr_ok eq_ok mixed_ok so22 (D := D22) (code := code22) (n := 23) Tryz.func22 (by kernel_rfl) (by kernel_rfl) (by kernel_rfl) (fun w0 mu _ hs => (loops_of (l := [(0, b22_0)]) (by kernel_rfl) (List.forall_mem_cons.2 ⟨loop22_0 _ w0 mu hs, (List.forall_mem_nil _)⟩))) t22_eq

/-! ### f61: laws.toEvent -/
noncomputable def code61 : Code := match Tryz.f61.body with | some c => c | none => .skip
def ps61 : List AP := [.val true [.int .i64, .int .i64, .shr T_i, .int .i64, .int .i64, .int .i64, .str, .shr T_i]]
def rs61 : List RP := [{ src := .cell 2, agg := true, ps := [.int .i64, .int .i64, .own T_i, .int .i64, .int .i64, .int .i64, .str, .own T_i] }]
noncomputable def sl61 : SemL := [(21, (.shr, .shr, .shr, sem21)), (96, (.shr, .shr, .shr, sem96)), (57, (.shr, .shr, .shr, sem57))]
def D61 : Draws := fun _ => .nil
noncomputable def L61 {R : Type} : Loops R := fun _ _ _ _ => none
noncomputable def laws_toEvent (a0c0 : Int) (a0c1 : Int) (a0c2 : List (Int × Unit)) (a0c3 : Int) (a0c4 : Int) (a0c5 : Int) (a0c6 : ByteArray) (a0c7 : List (Int × Unit)) : Option (Int × Int × (List (Int × Unit)) × Int × Int × Int × ByteArray × (List (Int × Unit)) × Unit) :=
  Option.bind (laws_toRing a0c1 a0c2) fun y1 =>
  Option.bind (laws_toItem a0c3 a0c4 a0c5 a0c6) fun y2 =>
  Option.bind (laws_toIntS a0c7) fun y3 =>
  some (a0c0, y1.1, y1.2.1, y2.1, y2.2.1, y2.2.2.1, y2.2.2.2.1, y3.1, ())
noncomputable def x61 (x : Int × Int × (List (Int × Unit)) × Int × Int × Int × ByteArray × (List (Int × Unit)) × Unit) : Option (Int × Int × (List (Int × Unit)) × Int × Int × Int × ByteArray × (List (Int × Unit)) × Unit) := laws_toEvent x.1 x.2.1 x.2.2.1 x.2.2.2.1 x.2.2.2.2.1 x.2.2.2.2.2.1 x.2.2.2.2.2.2.1 x.2.2.2.2.2.2.2.1
noncomputable def sem61 : Sem1 := semOf ps61 rs61 x61
theorem so61 : SemsOk Tryz.prog (semsOf sl61) := sems_cons k21 (sems_cons k96 (sems_cons k57 (sems_nil)))
theorem t61_eq (x : denR (headRT (ps61.map some))) : codeK (tabOf tr) (semsOf sl61) D61 L61 code61 (start 20 ps61 x) (finK rs61 ps61) = x61 x := by kernel_rfl
theorem k61 : Known Tryz.prog 61 sem61 :=
  fn_auto tr_ok eq_ok mixed_ok so61 (D := D61) (code := code61) (n := 20) Tryz.func61 (by kernel_rfl) (by kernel_rfl) (by kernel_rfl) (fun w0 mu _ hs => (loops_of (l := []) (by kernel_rfl) (List.forall_mem_nil _))) t61_eq

/-! ### f23: laws.toEventS -/
noncomputable def code23 : Code := match Tryz.f23.body with | some c => c | none => .skip
def ps23 : List AP := [.val false [.shr T_iiLiEiiisLiE]]
def rs23 : List RP := [{ src := .tmp 2, agg := false, ps := [.own T_iiLiEiiisLiE .dp] }]
noncomputable def sl23 : SemL := [(61, (.shr, .shr, .shr, sem61))]
def D23 : Draws := fun _ => .nil
def hp23_0 : List (Option AP) := [some (.val false [.shr T_iiLiEiiisLiE]), none, none, some (.val false [.own T_iiLiEiiisLiE .dp]), some (.val false [.int .i64]), none, none, none, none, none, none, none, none, none, none, none, none, none, none, none, none, none, none, none]
def e23_0 : List (Option AP) := [none, none, none, some (.val false [.own T_iiLiEiiisLiE .dp]), none, none, none, none, none, none, none, none, none, none, none, none, none, none, none, none, none, none, none, none]
def q23_0 : List (Option AP) := [none, none, none, none, none, none, none, none, none, none, none, none, none, none, none, none, none, none, none, none, none, none, none, none]
abbrev H23_0 : Type := (List R_iiLiEiiisLiE) × (List R_iiLiEiiisLiE) × Int × Unit
abbrev E23_0 : Type := (List R_iiLiEiiisLiE) × Unit
abbrev Q23_0 : Type := Unit
noncomputable def laws_toEventS_c0 (a0 : List R_iiLiEiiisLiE) (out3 : List R_iiLiEiiisLiE) (i4 : Int) : Option (Sum H23_0 (Sum E23_0 Q23_0)) :=
  bif decide (i4 < ((List.length a0 : Nat) : Int)) then
    bif decide ((0 : Int) ≤ i4) then Option.bind ((a0)[Int.toNat i4]?) fun r1 =>
      Option.bind (laws_toEvent r1.1 r1.2.1 r1.2.2.1 r1.2.2.2.1 r1.2.2.2.2.1 r1.2.2.2.2.2.1 r1.2.2.2.2.2.2.1 r1.2.2.2.2.2.2.2.1) fun y2 =>
      bif decide ((0 : Int) ≤ i4) then bif Nat.blt (Int.toNat i4) (List.length out3) then Option.bind ((out3)[Int.toNat i4]?) fun _ =>
          some (.inl (a0, List.set out3 (Int.toNat i4) (y2.1, y2.2.1, y2.2.2.1, y2.2.2.2.1, y2.2.2.2.2.1, y2.2.2.2.2.2.1, y2.2.2.2.2.2.2.1, y2.2.2.2.2.2.2.2.1, ()), IntKind.i64.wrap (i4 + (1 : Int)), ()))
        else none
      else none
    else none
  else
    some (.inr (.inl (out3, ())))
noncomputable def laws_toEventS_r0 (x : H23_0) : Option (Sum H23_0 (Sum E23_0 Q23_0)) := laws_toEventS_c0 x.1 x.2.1 x.2.2.1
noncomputable def L23 {R : Type} : Loops R := fun id _ st k => bif Nat.beq id 0 then loopAt hp23_0 e23_0 q23_0 laws_toEventS_r0 st k else none
noncomputable def laws_toEventS (a0 : List R_iiLiEiiisLiE) : Option ((List R_iiLiEiiisLiE) × Unit) :=
  bif decide (((List.length a0 : Nat) : Int) = ((List.length a0 : Nat) : Int)) then bif decide ((0 : Int) ≤ ((List.length a0 : Nat) : Int)) then bif Nat.ble ((Int.toNat ((List.length a0 : Nat) : Int)) * 104) lim then outK (loopV laws_toEventS_r0 (a0, List.replicate (Int.toNat ((List.length a0 : Nat) : Int)) ((0 : Int), (0 : Int), [], (0 : Int), (0 : Int), (0 : Int), ByteArray.empty, [], ()), (0 : Int), ())) (fun y1 =>
          some (y1.1, ())) (fun y2 =>
          none)
      else none
    else none
  else none
noncomputable def x23 (x : (List R_iiLiEiiisLiE) × Unit) : Option ((List R_iiLiEiiisLiE) × Unit) := laws_toEventS x.1
noncomputable def sem23 : Sem1 := semOf ps23 rs23 x23
theorem so23 : SemsOk Tryz.prog (semsOf sl23) := sems_cons k61 (sems_nil)
noncomputable def b23_0 : Code := nthLoop code23 0
theorem t23_r0_eq (x : denR (headRT hp23_0)) : codeK (tabOf tr) (semsOf sl23) D23 L23 b23_0 (headSt hp23_0 x) (roundK 0 hp23_0 e23_0 q23_0) = laws_toEventS_r0 x := by kernel_rfl
theorem loop23_0 {R : Type} (r : R) (w0 : World) (mu : Mu) (hs : AnShape ps23 mu) : LoopAt Tryz.prog w0 mu 23 (L23 : Loops R) r 0 b23_0 :=
  loop_auto tr_ok eq_ok mixed_ok so23 (D := D23) hs (by kernel_rfl) (fun _ => (loops_of (l := []) (by kernel_rfl) (List.forall_mem_nil _))) t23_r0_eq (fun _ _ => rfl)
theorem t23_eq (x : denR (headRT (ps23.map some))) : codeK (tabOf tr) (semsOf sl23) D23 L23 code23 (start 23 ps23 x) (finK rs23 ps23) = x23 x := by kernel_rfl
theorem k23 : Known Tryz.prog 23 sem23 :=
  fn_auto tr_ok eq_ok mixed_ok so23 (D := D23) (code := code23) (n := 23) Tryz.func23 (by kernel_rfl) (by kernel_rfl) (by kernel_rfl) (fun w0 mu _ hs => (loops_of (l := [(0, b23_0)]) (by kernel_rfl) (List.forall_mem_cons.2 ⟨loop23_0 _ w0 mu hs, (List.forall_mem_nil _)⟩))) t23_eq

/-! ### f7: laws.toDaemon -/
noncomputable def code7 : Code := match Tryz.f7.body with | some c => c | none => .skip
def ps7 : List AP := [.val true [.int .i64, .bool, .int .i64, .int .i64, .shr T_i, .shr T_iiis, .shr T_i, .shr T_s, .int .i64, .int .i64, .int .i64, .int .i64, .int .i64, .int .i64, .int .i64, .int .i64, .int .i64, .shr T_i, .int .i64, .int .i64, .int .i64, .shr T_i, .shr T_iiiLiiisE, .shr T_iiLiEiiisLiE]]
def rs7 : List RP := [{ src := .cell 2, agg := true, ps := [.int .i64, .bool, .int .i64, .int .i64, .own T_i, .own T_iiis, .own T_i, .own T_s, .int .i64, .int .i64, .int .i64, .int .i64, .int .i64, .int .i64, .int .i64, .int .i64, .int .i64, .own T_i, .int .i64, .int .i64, .int .i64, .own T_i, .own T_iiiLiiisE .dp, .own T_iiLiEiiisLiE .dp] }]
noncomputable def sl7 : SemL := [(20, (.shr, .shr, .shr, sem20)), (21, (.shr, .shr, .shr, sem21)), (22, (.shr, .shr, .shr, sem22)), (23, (.shr, .shr, .shr, sem23))]
def D7 : Draws := fun _ => .nil
noncomputable def L7 {R : Type} : Loops R := fun _ _ _ _ => none
noncomputable def laws_toDaemon (a0c0 : Int) (a0c1 : Bool) (a0c2 : Int) (a0c3 : Int) (a0c4 : List (Int × Unit)) (a0c5 : List R_iiis) (a0c6 : List (Int × Unit)) (a0c7 : List (ByteArray × Unit)) (a0c8 : Int) (a0c9 : Int) (a0c10 : Int) (a0c11 : Int) (a0c12 : Int) (a0c13 : Int) (a0c14 : Int) (a0c15 : Int) (a0c16 : Int) (a0c17 : List (Int × Unit)) (a0c18 : Int) (a0c19 : Int) (a0c20 : Int) (a0c21 : List (Int × Unit)) (a0c22 : List R_iiiLiiisE) (a0c23 : List R_iiLiEiiisLiE) : Option (Int × Bool × Int × Int × (List (Int × Unit)) × (List R_iiis) × (List (Int × Unit)) × (List (ByteArray × Unit)) × Int × Int × Int × Int × Int × Int × Int × Int × Int × (List (Int × Unit)) × Int × Int × Int × (List (Int × Unit)) × (List R_iiiLiiisE) × (List R_iiLiEiiisLiE) × Unit) :=
  Option.bind (laws_toMate a0c2 a0c3 a0c4 a0c5 a0c6 a0c7 a0c8 a0c9 a0c10 a0c11 a0c12 a0c13 a0c14 a0c15 a0c16 a0c17) fun y1 =>
  Option.bind (laws_toRing a0c20 a0c21) fun y2 =>
  Option.bind (laws_toBundleS a0c22) fun y3 =>
  Option.bind (laws_toEventS a0c23) fun y4 =>
  some (a0c0, a0c1, y1.1, y1.2.1, y1.2.2.1, y1.2.2.2.1, y1.2.2.2.2.1, y1.2.2.2.2.2.1, y1.2.2.2.2.2.2.1, y1.2.2.2.2.2.2.2.1, y1.2.2.2.2.2.2.2.2.1, y1.2.2.2.2.2.2.2.2.2.1, y1.2.2.2.2.2.2.2.2.2.2.1, y1.2.2.2.2.2.2.2.2.2.2.2.1, y1.2.2.2.2.2.2.2.2.2.2.2.2.1, y1.2.2.2.2.2.2.2.2.2.2.2.2.2.1, y1.2.2.2.2.2.2.2.2.2.2.2.2.2.2.1, y1.2.2.2.2.2.2.2.2.2.2.2.2.2.2.2.1, a0c18, a0c19, y2.1, y2.2.1, y3.1, y4.1, ())
noncomputable def x7 (x : Int × Bool × Int × Int × (List (Int × Unit)) × (List R_iiis) × (List (Int × Unit)) × (List (ByteArray × Unit)) × Int × Int × Int × Int × Int × Int × Int × Int × Int × (List (Int × Unit)) × Int × Int × Int × (List (Int × Unit)) × (List R_iiiLiiisE) × (List R_iiLiEiiisLiE) × Unit) : Option (Int × Bool × Int × Int × (List (Int × Unit)) × (List R_iiis) × (List (Int × Unit)) × (List (ByteArray × Unit)) × Int × Int × Int × Int × Int × Int × Int × Int × Int × (List (Int × Unit)) × Int × Int × Int × (List (Int × Unit)) × (List R_iiiLiiisE) × (List R_iiLiEiiisLiE) × Unit) := laws_toDaemon x.1 x.2.1 x.2.2.1 x.2.2.2.1 x.2.2.2.2.1 x.2.2.2.2.2.1 x.2.2.2.2.2.2.1 x.2.2.2.2.2.2.2.1 x.2.2.2.2.2.2.2.2.1 x.2.2.2.2.2.2.2.2.2.1 x.2.2.2.2.2.2.2.2.2.2.1 x.2.2.2.2.2.2.2.2.2.2.2.1 x.2.2.2.2.2.2.2.2.2.2.2.2.1 x.2.2.2.2.2.2.2.2.2.2.2.2.2.1 x.2.2.2.2.2.2.2.2.2.2.2.2.2.2.1 x.2.2.2.2.2.2.2.2.2.2.2.2.2.2.2.1 x.2.2.2.2.2.2.2.2.2.2.2.2.2.2.2.2.1 x.2.2.2.2.2.2.2.2.2.2.2.2.2.2.2.2.2.1 x.2.2.2.2.2.2.2.2.2.2.2.2.2.2.2.2.2.2.1 x.2.2.2.2.2.2.2.2.2.2.2.2.2.2.2.2.2.2.2.1 x.2.2.2.2.2.2.2.2.2.2.2.2.2.2.2.2.2.2.2.2.1 x.2.2.2.2.2.2.2.2.2.2.2.2.2.2.2.2.2.2.2.2.2.1 x.2.2.2.2.2.2.2.2.2.2.2.2.2.2.2.2.2.2.2.2.2.2.1 x.2.2.2.2.2.2.2.2.2.2.2.2.2.2.2.2.2.2.2.2.2.2.2.1
noncomputable def sem7 : Sem1 := semOf ps7 rs7 x7
theorem so7 : SemsOk Tryz.prog (semsOf sl7) := sems_cons k20 (sems_cons k21 (sems_cons k22 (sems_cons k23 (sems_nil))))
theorem t7_eq (x : denR (headRT (ps7.map some))) : codeK (tabOf tr) (semsOf sl7) D7 L7 code7 (start 33 ps7 x) (finK rs7 ps7) = x7 x := by kernel_rfl
theorem k7 : Known Tryz.prog 7 sem7 :=
  fn_auto tr_ok eq_ok mixed_ok so7 (D := D7) (code := code7) (n := 33) Tryz.func7 (by kernel_rfl) (by kernel_rfl) (by kernel_rfl) (fun w0 mu _ hs => (loops_of (l := []) (by kernel_rfl) (List.forall_mem_nil _))) t7_eq

/-! ### f46: spec.l01In -/
noncomputable def code46 : Code := match Tryz.f46.body with | some c => c | none => .skip
def ps46 : List AP := [.val false [.int .i64], .val false [.int .i64], .val false [.int .i64]]
def rs46 : List RP := [{ src := .tmp 6, agg := false, ps := [.bool] }]
noncomputable def sl46 : SemL := []
def D46 : Draws := fun _ => .nil
noncomputable def L46 {R : Type} : Loops R := fun _ _ _ _ => none
noncomputable def spec_l01In (x0 : Int) (least1 : Int) (most2 : Int) : Option (Bool × Unit) :=
  bif decide (least1 ≤ x0) then
    some (decide (x0 ≤ most2), ())
  else
    some (false, ())
noncomputable def x46 (x : Int × Int × Int × Unit) : Option (Bool × Unit) := spec_l01In x.1 x.2.1 x.2.2.1
noncomputable def sem46 : Sem1 := semOf ps46 rs46 x46
theorem so46 : SemsOk Tryz.prog (semsOf sl46) := sems_nil
theorem t46_eq (x : denR (headRT (ps46.map some))) : codeK (tabOf tr) (semsOf sl46) D46 L46 code46 (start 15 ps46 x) (finK rs46 ps46) = x46 x := by kernel_rfl
theorem k46 : Known Tryz.prog 46 sem46 :=
  fn_auto tr_ok eq_ok mixed_ok so46 (D := D46) (code := code46) (n := 15) Tryz.func46 (by kernel_rfl) (by kernel_rfl) (by kernel_rfl) (fun w0 mu _ hs => (loops_of (l := []) (by kernel_rfl) (List.forall_mem_nil _))) t46_eq

/-! ### f48: spec.l14NoRing -/
noncomputable def code48 : Code := match Tryz.f48.body with | some c => c | none => .skip
def ps48 : List AP := [.val true [.int .i64, .shr T_i]]
def rs48 : List RP := [{ src := .tmp 2, agg := false, ps := [.bool] }]
noncomputable def sl48 : SemL := []
def D48 : Draws := fun _ => .nil
noncomputable def L48 {R : Type} : Loops R := fun _ _ _ _ => none
noncomputable def spec_l14NoRing (r0c0 : Int) (r0c1 : List (Int × Unit)) : Option (Bool × Unit) :=
  bif decide (r0c0 = (0 : Int)) then
    some (decide (((List.length r0c1 : Nat) : Int) = (0 : Int)), ())
  else
    some (false, ())
noncomputable def x48 (x : Int × (List (Int × Unit)) × Unit) : Option (Bool × Unit) := spec_l14NoRing x.1 x.2.1
noncomputable def sem48 : Sem1 := semOf ps48 rs48 x48
theorem so48 : SemsOk Tryz.prog (semsOf sl48) := sems_nil
theorem t48_eq (x : denR (headRT (ps48.map some))) : codeK (tabOf tr) (semsOf sl48) D48 L48 code48 (start 12 ps48 x) (finK rs48 ps48) = x48 x := by kernel_rfl
theorem k48 : Known Tryz.prog 48 sem48 :=
  fn_auto tr_ok eq_ok mixed_ok so48 (D := D48) (code := code48) (n := 12) Tryz.func48 (by kernel_rfl) (by kernel_rfl) (by kernel_rfl) (fun w0 mu _ hs => (loops_of (l := []) (by kernel_rfl) (List.forall_mem_nil _))) t48_eq

/-! ### f118: spec.l05SameInts -/
noncomputable def code118 : Code := match Tryz.f118.body with | some c => c | none => .skip
def ps118 : List AP := [.val false [.shr T_i], .val false [.shr T_i]]
def rs118 : List RP := [{ src := .tmp 4, agg := false, ps := [.bool] }]
noncomputable def sl118 : SemL := []
def D118 : Draws := fun id => bif Nat.beq id 6 then .op 0 .any (.op 1 .any (.op 2 .any (.op 3 .take (.op 4 .any (.op 5 .any (.op 6 .any (.op 7 .take (.op 8 .any (.nil))))))))) else .nil
def hp118_0 : List (Option AP) := [some (.val false [.shr T_i]), some (.val false [.shr T_i]), none, none, none, some (.val false [.int .i64]), none, none, none, none, none, none, none, none, none, none, none, none, none, none, none, none, none, none, none, none, none]
def e118_0 : List (Option AP) := [none, none, none, none, none, none, none, none, none, none, none, none, none, none, none, none, none, none, none, none, none, none, none, none, none, none, none]
def q118_0 : List (Option AP) := [none, none, none, none, some (.val false [.bool]), none, none, none, none, none, none, none, none, none, none, none, none, none, none, none, none, none, none, none, none, none, none]
abbrev H118_0 : Type := (List (Int × Unit)) × (List (Int × Unit)) × Int × Unit
abbrev E118_0 : Type := Unit
abbrev Q118_0 : Type := Bool × Unit
noncomputable def spec_l05SameInts_c0 (a0 : List (Int × Unit)) (b1 : List (Int × Unit)) (i5 : Int) : Option (Sum H118_0 (Sum E118_0 Q118_0)) :=
  bif decide (i5 < ((List.length a0 : Nat) : Int)) then
    bif decide ((0 : Int) ≤ i5) then Option.bind ((a0)[Int.toNat i5]?) fun r1 =>
      bif decide ((0 : Int) ≤ i5) then Option.bind ((b1)[Int.toNat i5]?) fun r2 =>
        bif !decide (r1.1 = r2.1) then
          some (.inr (.inr (false, ())))
        else
          some (.inl (a0, b1, IntKind.i64.wrap (i5 + (1 : Int)), ()))
      else none
    else none
  else
    some (.inr (.inl (())))
noncomputable def spec_l05SameInts_r0 (x : H118_0) : Option (Sum H118_0 (Sum E118_0 Q118_0)) := spec_l05SameInts_c0 x.1 x.2.1 x.2.2.1
noncomputable def L118 {R : Type} : Loops R := fun id _ st k => bif Nat.beq id 0 then loopAt hp118_0 e118_0 q118_0 spec_l05SameInts_r0 st k else none
noncomputable def spec_l05SameInts (a0 : List (Int × Unit)) (b1 : List (Int × Unit)) : Option (Bool × Unit) :=
  bif !decide (((List.length a0 : Nat) : Int) = ((List.length b1 : Nat) : Int)) then
    some (false, ())
  else
    outK (loopV spec_l05SameInts_r0 (a0, b1, (0 : Int), ())) (fun y1 =>
      some (true, ())) (fun y2 =>
      some (y2.1, ()))
noncomputable def x118 (x : (List (Int × Unit)) × (List (Int × Unit)) × Unit) : Option (Bool × Unit) := spec_l05SameInts x.1 x.2.1
noncomputable def sem118 : Sem1 := semOf ps118 rs118 x118
theorem so118 : SemsOk Tryz.prog (semsOf sl118) := sems_nil
noncomputable def b118_0 : Code := nthLoop code118 0
theorem t118_r0_eq (x : denR (headRT hp118_0)) : codeK (tabOf tr) (semsOf sl118) D118 L118 b118_0 (headSt hp118_0 x) (roundK 0 hp118_0 e118_0 q118_0) = spec_l05SameInts_r0 x := by kernel_rfl
theorem loop118_0 {R : Type} (r : R) (w0 : World) (mu : Mu) (hs : AnShape ps118 mu) : LoopAt Tryz.prog w0 mu 26 (L118 : Loops R) r 0 b118_0 :=
  loop_auto tr_ok eq_ok mixed_ok so118 (D := D118) hs (by kernel_rfl) (fun _ => (loops_of (l := []) (by kernel_rfl) (List.forall_mem_nil _))) t118_r0_eq (fun _ _ => rfl)
theorem t118_eq (x : denR (headRT (ps118.map some))) : codeK (tabOf tr) (semsOf sl118) D118 L118 code118 (start 26 ps118 x) (finK rs118 ps118) = x118 x := by kernel_rfl
theorem k118 : Known Tryz.prog 118 sem118 :=
  fn_auto tr_ok eq_ok mixed_ok so118 (D := D118) (code := code118) (n := 26) Tryz.func118 (by kernel_rfl) (by kernel_rfl) (by kernel_rfl) (fun w0 mu _ hs => (loops_of (l := [(0, b118_0)]) (by kernel_rfl) (List.forall_mem_cons.2 ⟨loop118_0 _ w0 mu hs, (List.forall_mem_nil _)⟩))) t118_eq

/-! ### f112: spec.l05SameToken -/
noncomputable def code112 : Code := match Tryz.f112.body with | some c => c | none => .skip
def ps112 : List AP := [.val true [.int .i64, .int .i64, .int .i64, .int .i64, .int .i64, .shr T_i], .val true [.int .i64, .int .i64, .int .i64, .int .i64, .int .i64, .shr T_i]]
def rs112 : List RP := [{ src := .tmp 4, agg := false, ps := [.bool] }]
noncomputable def sl112 : SemL := [(118, (.shr, .shr, .shr, sem118))]
def D112 : Draws := fun _ => .nil
noncomputable def L112 {R : Type} : Loops R := fun _ _ _ _ => none
noncomputable def spec_l05SameToken (a0c0 : Int) (a0c1 : Int) (a0c2 : Int) (a0c3 : Int) (a0c4 : Int) (a0c5 : List (Int × Unit)) (b1c0 : Int) (b1c1 : Int) (b1c2 : Int) (b1c3 : Int) (b1c4 : Int) (b1c5 : List (Int × Unit)) : Option (Bool × Unit) :=
  bif decide (a0c0 = b1c0) then
    bif decide (a0c1 = b1c1) then
      bif decide (a0c2 = b1c2) then
        bif decide (a0c3 = b1c3) then
          bif decide (a0c4 = b1c4) then
            Option.bind (spec_l05SameInts a0c5 b1c5) fun y1 =>
            some (y1.1, ())
          else
            some (false, ())
        else
          some (false, ())
      else
        some (false, ())
    else
      some (false, ())
  else
    some (false, ())
noncomputable def x112 (x : Int × Int × Int × Int × Int × (List (Int × Unit)) × Int × Int × Int × Int × Int × (List (Int × Unit)) × Unit) : Option (Bool × Unit) := spec_l05SameToken x.1 x.2.1 x.2.2.1 x.2.2.2.1 x.2.2.2.2.1 x.2.2.2.2.2.1 x.2.2.2.2.2.2.1 x.2.2.2.2.2.2.2.1 x.2.2.2.2.2.2.2.2.1 x.2.2.2.2.2.2.2.2.2.1 x.2.2.2.2.2.2.2.2.2.2.1 x.2.2.2.2.2.2.2.2.2.2.2.1
noncomputable def sem112 : Sem1 := semOf ps112 rs112 x112
theorem so112 : SemsOk Tryz.prog (semsOf sl112) := sems_cons k118 (sems_nil)
theorem t112_eq (x : denR (headRT (ps112.map some))) : codeK (tabOf tr) (semsOf sl112) D112 L112 code112 (start 45 ps112 x) (finK rs112 ps112) = x112 x := by kernel_rfl
theorem k112 : Known Tryz.prog 112 sem112 :=
  fn_auto tr_ok eq_ok mixed_ok so112 (D := D112) (code := code112) (n := 45) Tryz.func112 (by kernel_rfl) (by kernel_rfl) (by kernel_rfl) (fun w0 mu _ hs => (loops_of (l := []) (by kernel_rfl) (List.forall_mem_nil _))) t112_eq

/-! ### f89: spec.l10Blank -/
noncomputable def code89 : Code := match Tryz.f89.body with | some c => c | none => .skip
def ps89 : List AP := [.val true [.int .i64, .int .i64, .int .i64, .int .i64, .int .i64, .shr T_i]]
def rs89 : List RP := [{ src := .tmp 2, agg := false, ps := [.bool] }]
noncomputable def sl89 : SemL := [(112, (.shr, .shr, .shr, sem112))]
def D89 : Draws := fun _ => .nil
noncomputable def L89 {R : Type} : Loops R := fun _ _ _ _ => none
noncomputable def spec_l10Blank (t0c0 : Int) (t0c1 : Int) (t0c2 : Int) (t0c3 : Int) (t0c4 : Int) (t0c5 : List (Int × Unit)) : Option (Bool × Unit) :=
  Option.bind (spec_l05SameToken t0c0 t0c1 t0c2 t0c3 t0c4 t0c5 (0 : Int) (0 : Int) (0 : Int) (0 : Int) (0 : Int) []) fun y1 =>
  some (y1.1, ())
noncomputable def x89 (x : Int × Int × Int × Int × Int × (List (Int × Unit)) × Unit) : Option (Bool × Unit) := spec_l10Blank x.1 x.2.1 x.2.2.1 x.2.2.2.1 x.2.2.2.2.1 x.2.2.2.2.2.1
noncomputable def sem89 : Sem1 := semOf ps89 rs89 x89
theorem so89 : SemsOk Tryz.prog (semsOf sl89) := sems_cons k112 (sems_nil)
theorem t89_eq (x : denR (headRT (ps89.map some))) : codeK (tabOf tr) (semsOf sl89) D89 L89 code89 (start 6 ps89 x) (finK rs89 ps89) = x89 x := by kernel_rfl
theorem k89 : Known Tryz.prog 89 sem89 :=
  fn_auto tr_ok eq_ok mixed_ok so89 (D := D89) (code := code89) (n := 6) Tryz.func89 (by kernel_rfl) (by kernel_rfl) (by kernel_rfl) (fun w0 mu _ hs => (loops_of (l := []) (by kernel_rfl) (List.forall_mem_nil _))) t89_eq

/-! ### f47: spec.l14NoMate -/
noncomputable def code47 : Code := match Tryz.f47.body with | some c => c | none => .skip
def ps47 : List AP := [.val true [.int .i64, .int .i64, .shr T_i, .shr T_iiis, .shr T_i, .shr T_s, .int .i64, .int .i64, .int .i64, .int .i64, .int .i64, .int .i64, .int .i64, .int .i64, .int .i64, .shr T_i]]
def rs47 : List RP := [{ src := .tmp 2, agg := false, ps := [.bool] }]
noncomputable def sl47 : SemL := [(48, (.shr, .shr, .shr, sem48)), (89, (.shr, .shr, .shr, sem89))]
def D47 : Draws := fun _ => .nil
noncomputable def L47 {R : Type} : Loops R := fun _ _ _ _ => none
noncomputable def spec_l14NoMate (m0c0 : Int) (m0c1 : Int) (m0c2 : List (Int × Unit)) (m0c3 : List R_iiis) (m0c4 : List (Int × Unit)) (m0c5 : List (ByteArray × Unit)) (m0c6 : Int) (m0c7 : Int) (m0c8 : Int) (m0c9 : Int) (m0c10 : Int) (m0c11 : Int) (m0c12 : Int) (m0c13 : Int) (m0c14 : Int) (m0c15 : List (Int × Unit)) : Option (Bool × Unit) :=
  bif decide (m0c0 = (0 : Int)) then
    Option.bind (spec_l14NoRing m0c1 m0c2) fun y1 =>
    bif y1.1 then
      bif decide (((List.length m0c3 : Nat) : Int) = (0 : Int)) then
        bif decide (((List.length m0c4 : Nat) : Int) = (0 : Int)) then
          bif decide (((List.length m0c5 : Nat) : Int) = (0 : Int)) then
            bif decide (m0c6 = (0 : Int)) then
              bif decide (m0c7 = (0 : Int)) then
                bif decide (m0c8 = (0 : Int)) then
                  bif decide (m0c9 = (0 : Int)) then
                    Option.bind (spec_l10Blank m0c10 m0c11 m0c12 m0c13 m0c14 m0c15) fun y2 =>
                    some (y2.1, ())
                  else
                    some (false, ())
                else
                  some (false, ())
              else
                some (false, ())
            else
              some (false, ())
          else
            some (false, ())
        else
          some (false, ())
      else
        some (false, ())
    else
      some (false, ())
  else
    some (false, ())
noncomputable def x47 (x : Int × Int × (List (Int × Unit)) × (List R_iiis) × (List (Int × Unit)) × (List (ByteArray × Unit)) × Int × Int × Int × Int × Int × Int × Int × Int × Int × (List (Int × Unit)) × Unit) : Option (Bool × Unit) := spec_l14NoMate x.1 x.2.1 x.2.2.1 x.2.2.2.1 x.2.2.2.2.1 x.2.2.2.2.2.1 x.2.2.2.2.2.2.1 x.2.2.2.2.2.2.2.1 x.2.2.2.2.2.2.2.2.1 x.2.2.2.2.2.2.2.2.2.1 x.2.2.2.2.2.2.2.2.2.2.1 x.2.2.2.2.2.2.2.2.2.2.2.1 x.2.2.2.2.2.2.2.2.2.2.2.2.1 x.2.2.2.2.2.2.2.2.2.2.2.2.2.1 x.2.2.2.2.2.2.2.2.2.2.2.2.2.2.1 x.2.2.2.2.2.2.2.2.2.2.2.2.2.2.2.1
noncomputable def sem47 : Sem1 := semOf ps47 rs47 x47
theorem so47 : SemsOk Tryz.prog (semsOf sl47) := sems_cons k48 (sems_cons k89 (sems_nil))
theorem t47_eq (x : denR (headRT (ps47.map some))) : codeK (tabOf tr) (semsOf sl47) D47 L47 code47 (start 54 ps47 x) (finK rs47 ps47) = x47 x := by kernel_rfl
theorem k47 : Known Tryz.prog 47 sem47 :=
  fn_auto tr_ok eq_ok mixed_ok so47 (D := D47) (code := code47) (n := 54) Tryz.func47 (by kernel_rfl) (by kernel_rfl) (by kernel_rfl) (fun w0 mu _ hs => (loops_of (l := []) (by kernel_rfl) (List.forall_mem_nil _))) t47_eq

/-! ### f50: spec.RingOk -/
noncomputable def code50 : Code := match Tryz.f50.body with | some c => c | none => .skip
def ps50 : List AP := [.val true [.int .i64, .shr T_i]]
def rs50 : List RP := [{ src := .tmp 2, agg := false, ps := [.bool] }]
noncomputable def sl50 : SemL := [(46, (.shr, .shr, .shr, sem46))]
def D50 : Draws := fun id => bif Nat.beq id 6 then .op 0 .any (.op 1 .take (.op 2 .any (.op 3 .any (.op 4 .take (.op 5 .one (.op 6 .any (.op 7 .any (.op 8 .any (.op 9 .any (.op 10 .any (.op 11 .any (.op 12 .take (.op 13 .any (.op 14 .any (.op 15 .any (.op 16 .take (.op 17 .any (.op 18 .take (.op 19 .any (.op 20 .any (.op 21 .take (.op 22 .any (.op 23 .any (.op 24 .any (.nil))))))))))))))))))))))))) else .nil
def hp50_0 : List (Option AP) := [none, some (.box false [.int .i64, .shr T_i]), none, some (.val false [.int .i64]), none, none, none, none, none, none, none, none, none, none, none, none, none, none, none, none, none, none, none, none, none, none, none, none, none, none, none, none, none, none, none, none, none, none, none, none, none, none, none, none, none, none, none, none]
def e50_0 : List (Option AP) := [none, none, none, none, none, none, none, none, none, none, none, none, none, none, none, none, none, none, none, none, none, none, none, none, none, none, none, none, none, none, none, none, none, none, none, none, none, none, none, none, none, none, none, none, none, none, none, none]
def q50_0 : List (Option AP) := [none, none, some (.val false [.bool]), none, none, none, none, none, none, none, none, none, none, none, none, none, none, none, none, none, none, none, none, none, none, none, none, none, none, none, none, none, none, none, none, none, none, none, none, none, none, none, none, none, none, none, none, none]
abbrev H50_0 : Type := Int × (List (Int × Unit)) × Int × Unit
abbrev E50_0 : Type := Unit
abbrev Q50_0 : Type := Bool × Unit
noncomputable def spec_RingOk_c0 (r1c0 : Int) (r1c1 : List (Int × Unit)) (i3 : Int) : Option (Sum H50_0 (Sum E50_0 Q50_0)) :=
  bif decide (i3 < ((List.length r1c1 : Nat) : Int)) then
    bif decide ((0 : Int) ≤ i3) then Option.bind ((r1c1)[Int.toNat i3]?) fun r3 =>
      Option.bind (spec_l01In r3.1 (1 : Int) (5 : Int)) fun y4 =>
      bif !y4.1 then
        some (.inr (.inr (false, ())))
      else bif decide ((0 : Int) < i3) then
        bif decide ((0 : Int) ≤ IntKind.i64.wrap (i3 - (1 : Int))) then Option.bind ((r1c1)[Int.toNat (IntKind.i64.wrap (i3 - (1 : Int)))]?) fun r5 =>
          bif decide ((0 : Int) ≤ i3) then Option.bind ((r1c1)[Int.toNat i3]?) fun r6 =>
            bif decide (r6.1 ≤ r5.1) then
              some (.inr (.inr (false, ())))
            else
              some (.inl (r1c0, r1c1, IntKind.i64.wrap (i3 + (1 : Int)), ()))
          else none
        else none
      else
        some (.inl (r1c0, r1c1, IntKind.i64.wrap (i3 + (1 : Int)), ()))
    else none
  else
    some (.inr (.inl (())))
noncomputable def spec_RingOk_r0 (x : H50_0) : Option (Sum H50_0 (Sum E50_0 Q50_0)) := spec_RingOk_c0 x.1 x.2.1 x.2.2.1
noncomputable def L50 {R : Type} : Loops R := fun id _ st k => bif Nat.beq id 0 then loopAt hp50_0 e50_0 q50_0 spec_RingOk_r0 st k else none
noncomputable def spec_RingOk (r0c0 : Int) (r0c1 : List (Int × Unit)) : Option (Bool × Unit) :=
  Option.bind (spec_l01In r0c0 (1 : Int) (9 : Int)) fun y1 =>
  bif !y1.1 then
    some (false, ())
  else
    Option.bind (spec_l01In ((List.length r0c1 : Nat) : Int) (1 : Int) (5 : Int)) fun y2 =>
    bif !y2.1 then
      some (false, ())
    else
      outK (loopV spec_RingOk_r0 (r0c0, r0c1, (0 : Int), ())) (fun y3 =>
        some (true, ())) (fun y4 =>
        some (y4.1, ()))
noncomputable def x50 (x : Int × (List (Int × Unit)) × Unit) : Option (Bool × Unit) := spec_RingOk x.1 x.2.1
noncomputable def sem50 : Sem1 := semOf ps50 rs50 x50
theorem so50 : SemsOk Tryz.prog (semsOf sl50) := sems_cons k46 (sems_nil)
noncomputable def b50_0 : Code := nthLoop code50 0
theorem t50_r0_eq (x : denR (headRT hp50_0)) : codeK (tabOf tr) (semsOf sl50) D50 L50 b50_0 (headSt hp50_0 x) (roundK 0 hp50_0 e50_0 q50_0) = spec_RingOk_r0 x := by kernel_rfl
theorem loop50_0 {R : Type} (r : R) (w0 : World) (mu : Mu) (hs : AnShape ps50 mu) : LoopAt Tryz.prog w0 mu 47 (L50 : Loops R) r 0 b50_0 :=
  loop_auto tr_ok eq_ok mixed_ok so50 (D := D50) hs (by kernel_rfl) (fun _ => (loops_of (l := []) (by kernel_rfl) (List.forall_mem_nil _))) t50_r0_eq (fun _ _ => rfl)
theorem t50_eq (x : denR (headRT (ps50.map some))) : codeK (tabOf tr) (semsOf sl50) D50 L50 code50 (start 47 ps50 x) (finK rs50 ps50) = x50 x := by kernel_rfl
theorem k50 : Known Tryz.prog 50 sem50 :=
  fn_auto tr_ok eq_ok mixed_ok so50 (D := D50) (code := code50) (n := 47) Tryz.func50 (by kernel_rfl) (by kernel_rfl) (by kernel_rfl) (fun w0 mu _ hs => (loops_of (l := [(0, b50_0)]) (by kernel_rfl) (List.forall_mem_cons.2 ⟨loop50_0 _ w0 mu hs, (List.forall_mem_nil _)⟩))) t50_eq

/-! ### f51: spec.l05In -/
noncomputable def code51 : Code := match Tryz.f51.body with | some c => c | none => .skip
def ps51 : List AP := [.val false [.shr T_i], .val false [.int .i64]]
def rs51 : List RP := [{ src := .tmp 4, agg := false, ps := [.bool] }]
noncomputable def sl51 : SemL := []
def D51 : Draws := fun _ => .nil
def hp51_0 : List (Option AP) := [some (.val false [.shr T_i]), some (.val false [.int .i64]), none, none, none, some (.val false [.int .i64]), none, none, none, none, none, none, none, none, none, none, none, none, none]
def e51_0 : List (Option AP) := [none, none, none, none, none, none, none, none, none, none, none, none, none, none, none, none, none, none, none]
def q51_0 : List (Option AP) := [none, none, none, none, some (.val false [.bool]), none, none, none, none, none, none, none, none, none, none, none, none, none, none]
abbrev H51_0 : Type := (List (Int × Unit)) × Int × Int × Unit
abbrev E51_0 : Type := Unit
abbrev Q51_0 : Type := Bool × Unit
noncomputable def spec_l05In_c0 (list0 : List (Int × Unit)) (x1 : Int) (i5 : Int) : Option (Sum H51_0 (Sum E51_0 Q51_0)) :=
  bif decide (i5 < ((List.length list0 : Nat) : Int)) then
    bif decide ((0 : Int) ≤ i5) then Option.bind ((list0)[Int.toNat i5]?) fun r1 =>
      bif decide (r1.1 = x1) then
        some (.inr (.inr (true, ())))
      else
        some (.inl (list0, x1, IntKind.i64.wrap (i5 + (1 : Int)), ()))
    else none
  else
    some (.inr (.inl (())))
noncomputable def spec_l05In_r0 (x : H51_0) : Option (Sum H51_0 (Sum E51_0 Q51_0)) := spec_l05In_c0 x.1 x.2.1 x.2.2.1
noncomputable def L51 {R : Type} : Loops R := fun id _ st k => bif Nat.beq id 0 then loopAt hp51_0 e51_0 q51_0 spec_l05In_r0 st k else none
noncomputable def spec_l05In (list0 : List (Int × Unit)) (x1 : Int) : Option (Bool × Unit) :=
  outK (loopV spec_l05In_r0 (list0, x1, (0 : Int), ())) (fun y1 =>
    some (false, ())) (fun y2 =>
    some (y2.1, ()))
noncomputable def x51 (x : (List (Int × Unit)) × Int × Unit) : Option (Bool × Unit) := spec_l05In x.1 x.2.1
noncomputable def sem51 : Sem1 := semOf ps51 rs51 x51
theorem so51 : SemsOk Tryz.prog (semsOf sl51) := sems_nil
noncomputable def b51_0 : Code := nthLoop code51 0
theorem t51_r0_eq (x : denR (headRT hp51_0)) : codeK (tabOf tr) (semsOf sl51) D51 L51 b51_0 (headSt hp51_0 x) (roundK 0 hp51_0 e51_0 q51_0) = spec_l05In_r0 x := by kernel_rfl
theorem loop51_0 {R : Type} (r : R) (w0 : World) (mu : Mu) (hs : AnShape ps51 mu) : LoopAt Tryz.prog w0 mu 18 (L51 : Loops R) r 0 b51_0 :=
  loop_auto tr_ok eq_ok mixed_ok so51 (D := D51) hs (by kernel_rfl) (fun _ => (loops_of (l := []) (by kernel_rfl) (List.forall_mem_nil _))) t51_r0_eq (fun _ _ => rfl)
theorem t51_eq (x : denR (headRT (ps51.map some))) : codeK (tabOf tr) (semsOf sl51) D51 L51 code51 (start 18 ps51 x) (finK rs51 ps51) = x51 x := by kernel_rfl
theorem k51 : Known Tryz.prog 51 sem51 :=
  fn_auto tr_ok eq_ok mixed_ok so51 (D := D51) (code := code51) (n := 18) Tryz.func51 (by kernel_rfl) (by kernel_rfl) (by kernel_rfl) (fun w0 mu _ hs => (loops_of (l := [(0, b51_0)]) (by kernel_rfl) (List.forall_mem_cons.2 ⟨loop51_0 _ w0 mu hs, (List.forall_mem_nil _)⟩))) t51_eq

/-! ### f113: spec.ItemOk -/
noncomputable def code113 : Code := match Tryz.f113.body with | some c => c | none => .skip
def ps113 : List AP := [.val true [.int .i64, .int .i64, .int .i64, .str]]
def rs113 : List RP := [{ src := .tmp 2, agg := false, ps := [.bool] }]
noncomputable def sl113 : SemL := [(46, (.shr, .shr, .shr, sem46))]
def D113 : Draws := fun _ => .nil
noncomputable def L113 {R : Type} : Loops R := fun _ _ _ _ => none
noncomputable def spec_ItemOk (m0c0 : Int) (m0c1 : Int) (m0c2 : Int) (m0c3 : ByteArray) : Option (Bool × Unit) :=
  Option.bind (spec_l01In m0c0 (1 : Int) (60 : Int)) fun y1 =>
  bif y1.1 then
    Option.bind (spec_l01In m0c1 (1 : Int) (5 : Int)) fun y2 =>
    bif y2.1 then
      Option.bind (spec_l01In m0c2 (1 : Int) (2 : Int)) fun y3 =>
      bif y3.1 then
        some (decide (((ByteArray.size m0c3 : Nat) : Int) ≤ (60 : Int)), ())
      else
        some (false, ())
    else
      some (false, ())
  else
    some (false, ())
noncomputable def x113 (x : Int × Int × Int × ByteArray × Unit) : Option (Bool × Unit) := spec_ItemOk x.1 x.2.1 x.2.2.1 x.2.2.2.1
noncomputable def sem113 : Sem1 := semOf ps113 rs113 x113
theorem so113 : SemsOk Tryz.prog (semsOf sl113) := sems_cons k46 (sems_nil)
theorem t113_eq (x : denR (headRT (ps113.map some))) : codeK (tabOf tr) (semsOf sl113) D113 L113 code113 (start 22 ps113 x) (finK rs113 ps113) = x113 x := by kernel_rfl
theorem k113 : Known Tryz.prog 113 sem113 :=
  fn_auto tr_ok eq_ok mixed_ok so113 (D := D113) (code := code113) (n := 22) Tryz.func113 (by kernel_rfl) (by kernel_rfl) (by kernel_rfl) (fun w0 mu _ hs => (loops_of (l := []) (by kernel_rfl) (List.forall_mem_nil _))) t113_eq

/-! ### f90: spec.ItemsOk -/
noncomputable def code90 : Code := match Tryz.f90.body with | some c => c | none => .skip
def ps90 : List AP := [.val false [.shr T_iiis]]
def rs90 : List RP := [{ src := .tmp 2, agg := false, ps := [.bool] }]
noncomputable def sl90 : SemL := [(113, (.shr, .shr, .shr, sem113))]
def D90 : Draws := fun id => bif Nat.beq id 4 then .op 0 .any (.op 1 .any (.op 2 .any (.op 3 .take (.op 4 .one (.op 5 .any (.op 6 .any (.op 7 .any (.op 8 .any (.op 9 .any (.op 10 .any (.op 11 .any (.op 12 .any (.op 13 .any (.op 14 .any (.op 15 .take (.op 16 .any (.op 17 .any (.op 18 .any (.op 19 .any (.op 20 .take (.op 21 .any (.op 22 .any (.op 23 .any (.nil)))))))))))))))))))))))) else .nil
def hp90_0 : List (Option AP) := [some (.val false [.shr T_iiis]), none, none, some (.val false [.int .i64]), none, none, none, none, none, none, none, none, none, none, none, none, none, none, none, none, none, none, none, none, none, none, none, none, none, none, none, none, none, none, none]
def e90_0 : List (Option AP) := [none, none, none, none, none, none, none, none, none, none, none, none, none, none, none, none, none, none, none, none, none, none, none, none, none, none, none, none, none, none, none, none, none, none, none]
def q90_0 : List (Option AP) := [none, none, some (.val false [.bool]), none, none, none, none, none, none, none, none, none, none, none, none, none, none, none, none, none, none, none, none, none, none, none, none, none, none, none, none, none, none, none, none]
abbrev H90_0 : Type := (List R_iiis) × Int × Unit
abbrev E90_0 : Type := Unit
abbrev Q90_0 : Type := Bool × Unit
noncomputable def spec_ItemsOk_c0 (list0 : List R_iiis) (i3 : Int) : Option (Sum H90_0 (Sum E90_0 Q90_0)) :=
  bif decide (i3 < ((List.length list0 : Nat) : Int)) then
    bif decide ((0 : Int) ≤ i3) then Option.bind ((list0)[Int.toNat i3]?) fun r1 =>
      Option.bind (spec_ItemOk r1.1 r1.2.1 r1.2.2.1 r1.2.2.2.1) fun y2 =>
      bif !y2.1 then
        some (.inr (.inr (false, ())))
      else bif decide ((0 : Int) < i3) then
        bif decide ((0 : Int) ≤ IntKind.i64.wrap (i3 - (1 : Int))) then Option.bind ((list0)[Int.toNat (IntKind.i64.wrap (i3 - (1 : Int)))]?) fun r3 =>
          bif decide ((0 : Int) ≤ i3) then Option.bind ((list0)[Int.toNat i3]?) fun r4 =>
            bif decide (r4.1 ≤ r3.1) then
              some (.inr (.inr (false, ())))
            else
              some (.inl (list0, IntKind.i64.wrap (i3 + (1 : Int)), ()))
          else none
        else none
      else
        some (.inl (list0, IntKind.i64.wrap (i3 + (1 : Int)), ()))
    else none
  else
    some (.inr (.inl (())))
noncomputable def spec_ItemsOk_r0 (x : H90_0) : Option (Sum H90_0 (Sum E90_0 Q90_0)) := spec_ItemsOk_c0 x.1 x.2.1
noncomputable def L90 {R : Type} : Loops R := fun id _ st k => bif Nat.beq id 0 then loopAt hp90_0 e90_0 q90_0 spec_ItemsOk_r0 st k else none
noncomputable def spec_ItemsOk (list0 : List R_iiis) : Option (Bool × Unit) :=
  outK (loopV spec_ItemsOk_r0 (list0, (0 : Int), ())) (fun y1 =>
    some (true, ())) (fun y2 =>
    some (y2.1, ()))
noncomputable def x90 (x : (List R_iiis) × Unit) : Option (Bool × Unit) := spec_ItemsOk x.1
noncomputable def sem90 : Sem1 := semOf ps90 rs90 x90
theorem so90 : SemsOk Tryz.prog (semsOf sl90) := sems_cons k113 (sems_nil)
noncomputable def b90_0 : Code := nthLoop code90 0
theorem t90_r0_eq (x : denR (headRT hp90_0)) : codeK (tabOf tr) (semsOf sl90) D90 L90 b90_0 (headSt hp90_0 x) (roundK 0 hp90_0 e90_0 q90_0) = spec_ItemsOk_r0 x := by kernel_rfl
theorem loop90_0 {R : Type} (r : R) (w0 : World) (mu : Mu) (hs : AnShape ps90 mu) : LoopAt Tryz.prog w0 mu 34 (L90 : Loops R) r 0 b90_0 :=
  loop_auto tr_ok eq_ok mixed_ok so90 (D := D90) hs (by kernel_rfl) (fun _ => (loops_of (l := []) (by kernel_rfl) (List.forall_mem_nil _))) t90_r0_eq (fun _ _ => rfl)
theorem t90_eq (x : denR (headRT (ps90.map some))) : codeK (tabOf tr) (semsOf sl90) D90 L90 code90 (start 34 ps90 x) (finK rs90 ps90) = x90 x := by kernel_rfl
theorem k90 : Known Tryz.prog 90 sem90 :=
  fn_auto tr_ok eq_ok mixed_ok so90 (D := D90) (code := code90) (n := 34) Tryz.func90 (by kernel_rfl) (by kernel_rfl) (by kernel_rfl) (fun w0 mu _ hs => (loops_of (l := [(0, b90_0)]) (by kernel_rfl) (List.forall_mem_cons.2 ⟨loop90_0 _ w0 mu hs, (List.forall_mem_nil _)⟩))) t90_eq

/-! ### f91: spec.l10Texts -/
noncomputable def code91 : Code := match Tryz.f91.body with | some c => c | none => .skip
def ps91 : List AP := [.val false [.shr T_i], .val false [.shr T_s]]
def rs91 : List RP := [{ src := .tmp 4, agg := false, ps := [.bool] }]
noncomputable def sl91 : SemL := [(46, (.shr, .shr, .shr, sem46))]
def D91 : Draws := fun _ => .nil
def hp91_0 : List (Option AP) := [some (.val false [.shr T_i]), some (.val false [.shr T_s]), none, none, none, some (.val false [.int .i64]), none, none, none, none, none, none, none, none, none, none, none, none, none, none, none, none, none, none, none, none, none, none, none, none, none, none, none, none, none, none, none, none, none, none, none, none, none]
def e91_0 : List (Option AP) := [some (.val false [.shr T_i]), some (.val false [.shr T_s]), none, none, none, none, none, none, none, none, none, none, none, none, none, none, none, none, none, none, none, none, none, none, none, none, none, none, none, none, none, none, none, none, none, none, none, none, none, none, none, none, none]
def q91_0 : List (Option AP) := [none, none, none, none, some (.val false [.bool]), none, none, none, none, none, none, none, none, none, none, none, none, none, none, none, none, none, none, none, none, none, none, none, none, none, none, none, none, none, none, none, none, none, none, none, none, none, none]
abbrev H91_0 : Type := (List (Int × Unit)) × (List (ByteArray × Unit)) × Int × Unit
abbrev E91_0 : Type := (List (Int × Unit)) × (List (ByteArray × Unit)) × Unit
abbrev Q91_0 : Type := Bool × Unit
noncomputable def spec_l10Texts_c0 (level0 : List (Int × Unit)) (texts1 : List (ByteArray × Unit)) (i5 : Int) : Option (Sum H91_0 (Sum E91_0 Q91_0)) :=
  bif decide (i5 < ((List.length texts1 : Nat) : Int)) then
    bif decide (i5 < ((List.length level0 : Nat) : Int)) then
      bif decide ((0 : Int) ≤ i5) then Option.bind ((level0)[Int.toNat i5]?) fun r1 =>
        Option.bind (spec_l01In r1.1 (1 : Int) (2 : Int)) fun y2 =>
        bif !y2.1 then
          some (.inr (.inr (false, ())))
        else bif decide ((0 : Int) ≤ i5) then Option.bind ((texts1)[Int.toNat i5]?) fun r3 =>
          bif decide ((60 : Int) < ((ByteArray.size r3.1 : Nat) : Int)) then
            some (.inr (.inr (false, ())))
          else
            some (.inl (level0, texts1, IntKind.i64.wrap (i5 + (1 : Int)), ()))
        else none
      else none
    else
      some (.inr (.inl (level0, texts1, ())))
  else
    some (.inr (.inl (level0, texts1, ())))
noncomputable def spec_l10Texts_r0 (x : H91_0) : Option (Sum H91_0 (Sum E91_0 Q91_0)) := spec_l10Texts_c0 x.1 x.2.1 x.2.2.1
noncomputable def L91 {R : Type} : Loops R := fun id _ st k => bif Nat.beq id 0 then loopAt hp91_0 e91_0 q91_0 spec_l10Texts_r0 st k else none
noncomputable def spec_l10Texts (level0 : List (Int × Unit)) (texts1 : List (ByteArray × Unit)) : Option (Bool × Unit) :=
  outK (loopV spec_l10Texts_r0 (level0, texts1, (0 : Int), ())) (fun y1 =>
    bif decide (((List.length y1.2.1 : Nat) : Int) ≤ (20 : Int)) then
      some (decide (((List.length y1.1 : Nat) : Int) = ((List.length y1.2.1 : Nat) : Int)), ())
    else
      some (false, ())) (fun y2 =>
    some (y2.1, ()))
noncomputable def x91 (x : (List (Int × Unit)) × (List (ByteArray × Unit)) × Unit) : Option (Bool × Unit) := spec_l10Texts x.1 x.2.1
noncomputable def sem91 : Sem1 := semOf ps91 rs91 x91
theorem so91 : SemsOk Tryz.prog (semsOf sl91) := sems_cons k46 (sems_nil)
noncomputable def b91_0 : Code := nthLoop code91 0
theorem t91_r0_eq (x : denR (headRT hp91_0)) : codeK (tabOf tr) (semsOf sl91) D91 L91 b91_0 (headSt hp91_0 x) (roundK 0 hp91_0 e91_0 q91_0) = spec_l10Texts_r0 x := by kernel_rfl
theorem loop91_0 {R : Type} (r : R) (w0 : World) (mu : Mu) (hs : AnShape ps91 mu) : LoopAt Tryz.prog w0 mu 42 (L91 : Loops R) r 0 b91_0 :=
  loop_auto tr_ok eq_ok mixed_ok so91 (D := D91) hs (by kernel_rfl) (fun _ => (loops_of (l := []) (by kernel_rfl) (List.forall_mem_nil _))) t91_r0_eq (fun _ _ => rfl)
theorem t91_eq (x : denR (headRT (ps91.map some))) : codeK (tabOf tr) (semsOf sl91) D91 L91 code91 (start 42 ps91 x) (finK rs91 ps91) = x91 x := by kernel_rfl
theorem k91 : Known Tryz.prog 91 sem91 :=
  fn_auto tr_ok eq_ok mixed_ok so91 (D := D91) (code := code91) (n := 42) Tryz.func91 (by kernel_rfl) (by kernel_rfl) (by kernel_rfl) (fun w0 mu _ hs => (loops_of (l := [(0, b91_0)]) (by kernel_rfl) (List.forall_mem_cons.2 ⟨loop91_0 _ w0 mu hs, (List.forall_mem_nil _)⟩))) t91_eq

/-! ### f114: spec.ItemAt -/
noncomputable def code114 : Code := match Tryz.f114.body with | some c => c | none => .skip
def ps114 : List AP := [.val false [.shr T_iiis], .val false [.int .i64]]
def rs114 : List RP := [{ src := .cell 4, agg := true, ps := [.int .i64, .int .i64, .int .i64, .str] }, { src := .tmp 5, agg := false, ps := [.bool] }]
noncomputable def sl114 : SemL := []
def D114 : Draws := fun _ => .nil
def hp114_0 : List (Option AP) := [some (.val false [.shr T_iiis]), some (.val false [.int .i64]), none, none, some (.box false [.int .i64, .int .i64, .int .i64, .str]), none, some (.val false [.int .i64]), none, none, none, none, none, none, none, none, none, none, none, none, none, none, none, none, none, none, none]
def e114_0 : List (Option AP) := [none, none, none, none, some (.box false [.int .i64, .int .i64, .int .i64, .str]), none, none, none, none, none, none, none, none, none, none, none, none, none, none, none, none, none, none, none, none, none]
def q114_0 : List (Option AP) := [none, none, none, none, some (.box false [.int .i64, .int .i64, .int .i64, .str]), some (.val false [.bool]), none, none, none, none, none, none, none, none, none, none, none, none, none, none, none, none, none, none, none, none]
abbrev H114_0 : Type := (List R_iiis) × Int × Int × Int × Int × ByteArray × Int × Unit
abbrev E114_0 : Type := Int × Int × Int × ByteArray × Unit
abbrev Q114_0 : Type := Int × Int × Int × ByteArray × Bool × Unit
noncomputable def spec_ItemAt_c0 (list0 : List R_iiis) (seq1 : Int) (t4c0 : Int) (t4c1 : Int) (t4c2 : Int) (t4c3 : ByteArray) (i6 : Int) : Option (Sum H114_0 (Sum E114_0 Q114_0)) :=
  bif decide (i6 < ((List.length list0 : Nat) : Int)) then
    bif decide ((0 : Int) ≤ i6) then Option.bind ((list0)[Int.toNat i6]?) fun r1 =>
      bif decide (r1.1 = seq1) then
        bif decide ((0 : Int) ≤ i6) then Option.bind ((list0)[Int.toNat i6]?) fun r2 =>
          some (.inr (.inr (r2.1, r2.2.1, r2.2.2.1, r2.2.2.2.1, true, ())))
        else none
      else
        some (.inl (list0, seq1, t4c0, t4c1, t4c2, t4c3, IntKind.i64.wrap (i6 + (1 : Int)), ()))
    else none
  else
    some (.inr (.inl (t4c0, t4c1, t4c2, t4c3, ())))
noncomputable def spec_ItemAt_r0 (x : H114_0) : Option (Sum H114_0 (Sum E114_0 Q114_0)) := spec_ItemAt_c0 x.1 x.2.1 x.2.2.1 x.2.2.2.1 x.2.2.2.2.1 x.2.2.2.2.2.1 x.2.2.2.2.2.2.1
noncomputable def L114 {R : Type} : Loops R := fun id _ st k => bif Nat.beq id 0 then loopAt hp114_0 e114_0 q114_0 spec_ItemAt_r0 st k else none
noncomputable def spec_ItemAt (list0 : List R_iiis) (seq1 : Int) : Option (Int × Int × Int × ByteArray × Bool × Unit) :=
  outK (loopV spec_ItemAt_r0 (list0, seq1, (0 : Int), (0 : Int), (0 : Int), ByteArray.empty, (0 : Int), ())) (fun y1 =>
    some ((0 : Int), (0 : Int), (0 : Int), ByteArray.empty, false, ())) (fun y2 =>
    some (y2.1, y2.2.1, y2.2.2.1, y2.2.2.2.1, y2.2.2.2.2.1, ()))
noncomputable def x114 (x : (List R_iiis) × Int × Unit) : Option (Int × Int × Int × ByteArray × Bool × Unit) := spec_ItemAt x.1 x.2.1
noncomputable def sem114 : Sem1 := semOf ps114 rs114 x114
theorem so114 : SemsOk Tryz.prog (semsOf sl114) := sems_nil
noncomputable def b114_0 : Code := nthLoop code114 0
theorem t114_r0_eq (x : denR (headRT hp114_0)) : codeK (tabOf tr) (semsOf sl114) D114 L114 b114_0 (headSt hp114_0 x) (roundK 0 hp114_0 e114_0 q114_0) = spec_ItemAt_r0 x := by kernel_rfl
theorem loop114_0 {R : Type} (r : R) (w0 : World) (mu : Mu) (hs : AnShape ps114 mu) : LoopAt Tryz.prog w0 mu 25 (L114 : Loops R) r 0 b114_0 :=
  loop_auto tr_ok eq_ok mixed_ok so114 (D := D114) hs (by kernel_rfl) (fun _ => (loops_of (l := []) (by kernel_rfl) (List.forall_mem_nil _))) t114_r0_eq (fun _ _ => rfl)
theorem t114_eq (x : denR (headRT (ps114.map some))) : codeK (tabOf tr) (semsOf sl114) D114 L114 code114 (start 25 ps114 x) (finK rs114 ps114) = x114 x := by kernel_rfl
theorem k114 : Known Tryz.prog 114 sem114 :=
  fn_auto tr_ok eq_ok mixed_ok so114 (D := D114) (code := code114) (n := 25) Tryz.func114 (by kernel_rfl) (by kernel_rfl) (by kernel_rfl) (fun w0 mu _ hs => (loops_of (l := [(0, b114_0)]) (by kernel_rfl) (List.forall_mem_cons.2 ⟨loop114_0 _ w0 mu hs, (List.forall_mem_nil _)⟩))) t114_eq

/-! ### f92: spec.AruOf -/
noncomputable def code92 : Code := match Tryz.f92.body with | some c => c | none => .skip
def ps92 : List AP := [.val false [.shr T_iiis]]
def rs92 : List RP := [{ src := .tmp 2, agg := false, ps := [.int .i64] }]
noncomputable def sl92 : SemL := [(114, (.shr, .shr, .shr, sem114))]
def D92 : Draws := fun _ => .nil
def hp92_0 : List (Option AP) := [some (.val false [.shr T_iiis]), none, none, some (.val false [.int .i64]), some (.val false [.int .i64]), none, none, none, none, none, none, none, none, none, none, none, none, none, none, none, none, none, none, none, none, none, none]
def e92_0 : List (Option AP) := [none, none, none, some (.val false [.int .i64]), none, none, none, none, none, none, none, none, none, none, none, none, none, none, none, none, none, none, none, none, none, none, none]
def q92_0 : List (Option AP) := [none, none, some (.val false [.int .i64]), none, none, none, none, none, none, none, none, none, none, none, none, none, none, none, none, none, none, none, none, none, none, none, none]
abbrev H92_0 : Type := (List R_iiis) × Int × Int × Unit
abbrev E92_0 : Type := Int × Unit
abbrev Q92_0 : Type := Int × Unit
noncomputable def spec_AruOf_c0 (list0 : List R_iiis) (n3 : Int) (i4 : Int) : Option (Sum H92_0 (Sum E92_0 Q92_0)) :=
  bif decide (i4 < ((List.length list0 : Nat) : Int)) then
    Option.bind (spec_ItemAt list0 (IntKind.i64.wrap (n3 + (1 : Int)))) fun y1 =>
    bif !y1.2.2.2.2.1 then
      some (.inr (.inr (n3, ())))
    else
      some (.inl (list0, IntKind.i64.wrap (n3 + (1 : Int)), IntKind.i64.wrap (i4 + (1 : Int)), ()))
  else
    some (.inr (.inl (n3, ())))
noncomputable def spec_AruOf_r0 (x : H92_0) : Option (Sum H92_0 (Sum E92_0 Q92_0)) := spec_AruOf_c0 x.1 x.2.1 x.2.2.1
noncomputable def L92 {R : Type} : Loops R := fun id _ st k => bif Nat.beq id 0 then loopAt hp92_0 e92_0 q92_0 spec_AruOf_r0 st k else none
noncomputable def spec_AruOf (list0 : List R_iiis) : Option (Int × Unit) :=
  outK (loopV spec_AruOf_r0 (list0, (0 : Int), (0 : Int), ())) (fun y1 =>
    some (y1.1, ())) (fun y2 =>
    some (y2.1, ()))
noncomputable def x92 (x : (List R_iiis) × Unit) : Option (Int × Unit) := spec_AruOf x.1
noncomputable def sem92 : Sem1 := semOf ps92 rs92 x92
theorem so92 : SemsOk Tryz.prog (semsOf sl92) := sems_cons k114 (sems_nil)
noncomputable def b92_0 : Code := nthLoop code92 0
theorem t92_r0_eq (x : denR (headRT hp92_0)) : codeK (tabOf tr) (semsOf sl92) D92 L92 b92_0 (headSt hp92_0 x) (roundK 0 hp92_0 e92_0 q92_0) = spec_AruOf_r0 x := by kernel_rfl
theorem loop92_0 {R : Type} (r : R) (w0 : World) (mu : Mu) (hs : AnShape ps92 mu) : LoopAt Tryz.prog w0 mu 26 (L92 : Loops R) r 0 b92_0 :=
  loop_auto tr_ok eq_ok mixed_ok so92 (D := D92) hs (by kernel_rfl) (fun _ => (loops_of (l := []) (by kernel_rfl) (List.forall_mem_nil _))) t92_r0_eq (fun _ _ => rfl)
theorem t92_eq (x : denR (headRT (ps92.map some))) : codeK (tabOf tr) (semsOf sl92) D92 L92 code92 (start 26 ps92 x) (finK rs92 ps92) = x92 x := by kernel_rfl
theorem k92 : Known Tryz.prog 92 sem92 :=
  fn_auto tr_ok eq_ok mixed_ok so92 (D := D92) (code := code92) (n := 26) Tryz.func92 (by kernel_rfl) (by kernel_rfl) (by kernel_rfl) (fun w0 mu _ hs => (loops_of (l := [(0, b92_0)]) (by kernel_rfl) (List.forall_mem_cons.2 ⟨loop92_0 _ w0 mu hs, (List.forall_mem_nil _)⟩))) t92_eq

/-! ### f93: spec.TokenOk -/
noncomputable def code93 : Code := match Tryz.f93.body with | some c => c | none => .skip
def ps93 : List AP := [.val true [.int .i64, .int .i64, .int .i64, .int .i64, .int .i64, .shr T_i]]
def rs93 : List RP := [{ src := .tmp 2, agg := false, ps := [.bool] }]
noncomputable def sl93 : SemL := [(46, (.shr, .shr, .shr, sem46))]
def D93 : Draws := fun id => bif Nat.beq id 6 then .op 0 .any (.op 1 .take (.op 2 .any (.op 3 .any (.op 4 .take (.op 5 .any (.op 6 .take (.op 7 .one (.op 8 .any (.op 9 .any (.op 10 .any (.op 11 .any (.op 12 .any (.op 13 .any (.op 14 .take (.op 15 .any (.op 16 .any (.op 17 .any (.op 18 .take (.op 19 .any (.op 20 .take (.op 21 .any (.op 22 .any (.op 23 .take (.op 24 .any (.op 25 .any (.op 26 .any (.nil))))))))))))))))))))))))))) else .nil
def hp93_0 : List (Option AP) := [none, some (.box false [.int .i64, .int .i64, .int .i64, .int .i64, .int .i64, .shr T_i]), none, some (.val false [.int .i64]), none, none, none, none, none, none, none, none, none, none, none, none, none, none, none, none, none, none, none, none, none, none, none, none, none, none, none, none, none, none, none, none, none, none, none, none, none, none, none, none, none, none, none, none, none, none, none, none, none, none, none, none, none, none, none, none, none, none, none, none, none, none, none, none, none, none, none, none, none, none, none]
def e93_0 : List (Option AP) := [none, none, none, none, none, none, none, none, none, none, none, none, none, none, none, none, none, none, none, none, none, none, none, none, none, none, none, none, none, none, none, none, none, none, none, none, none, none, none, none, none, none, none, none, none, none, none, none, none, none, none, none, none, none, none, none, none, none, none, none, none, none, none, none, none, none, none, none, none, none, none, none, none, none, none]
def q93_0 : List (Option AP) := [none, none, some (.val false [.bool]), none, none, none, none, none, none, none, none, none, none, none, none, none, none, none, none, none, none, none, none, none, none, none, none, none, none, none, none, none, none, none, none, none, none, none, none, none, none, none, none, none, none, none, none, none, none, none, none, none, none, none, none, none, none, none, none, none, none, none, none, none, none, none, none, none, none, none, none, none, none, none, none]
abbrev H93_0 : Type := Int × Int × Int × Int × Int × (List (Int × Unit)) × Int × Unit
abbrev E93_0 : Type := Unit
abbrev Q93_0 : Type := Bool × Unit
noncomputable def spec_TokenOk_c0 (t1c0 : Int) (t1c1 : Int) (t1c2 : Int) (t1c3 : Int) (t1c4 : Int) (t1c5 : List (Int × Unit)) (i3 : Int) : Option (Sum H93_0 (Sum E93_0 Q93_0)) :=
  bif decide (i3 < ((List.length t1c5 : Nat) : Int)) then
    bif decide ((0 : Int) ≤ i3) then Option.bind ((t1c5)[Int.toNat i3]?) fun r6 =>
      Option.bind (spec_l01In r6.1 (1 : Int) t1c2) fun y7 =>
      bif !y7.1 then
        some (.inr (.inr (false, ())))
      else bif decide ((0 : Int) < i3) then
        bif decide ((0 : Int) ≤ IntKind.i64.wrap (i3 - (1 : Int))) then Option.bind ((t1c5)[Int.toNat (IntKind.i64.wrap (i3 - (1 : Int)))]?) fun r8 =>
          bif decide ((0 : Int) ≤ i3) then Option.bind ((t1c5)[Int.toNat i3]?) fun r9 =>
            bif decide (r9.1 ≤ r8.1) then
              some (.inr (.inr (false, ())))
            else
              some (.inl (t1c0, t1c1, t1c2, t1c3, t1c4, t1c5, IntKind.i64.wrap (i3 + (1 : Int)), ()))
          else none
        else none
      else
        some (.inl (t1c0, t1c1, t1c2, t1c3, t1c4, t1c5, IntKind.i64.wrap (i3 + (1 : Int)), ()))
    else none
  else
    some (.inr (.inl (())))
noncomputable def spec_TokenOk_r0 (x : H93_0) : Option (Sum H93_0 (Sum E93_0 Q93_0)) := spec_TokenOk_c0 x.1 x.2.1 x.2.2.1 x.2.2.2.1 x.2.2.2.2.1 x.2.2.2.2.2.1 x.2.2.2.2.2.2.1
noncomputable def L93 {R : Type} : Loops R := fun id _ st k => bif Nat.beq id 0 then loopAt hp93_0 e93_0 q93_0 spec_TokenOk_r0 st k else none
noncomputable def spec_TokenOk (t0c0 : Int) (t0c1 : Int) (t0c2 : Int) (t0c3 : Int) (t0c4 : Int) (t0c5 : List (Int × Unit)) : Option (Bool × Unit) :=
  Option.bind (spec_l01In t0c0 (1 : Int) (9 : Int)) fun y1 =>
  bif !y1.1 then
    some (false, ())
  else
    Option.bind (spec_l01In t0c1 (1 : Int) (1000000000 : Int)) fun y2 =>
    bif !y2.1 then
      some (false, ())
    else
      Option.bind (spec_l01In t0c2 (0 : Int) (60 : Int)) fun y3 =>
      bif !y3.1 then
        some (false, ())
      else
        Option.bind (spec_l01In t0c3 (0 : Int) t0c2) fun y4 =>
        bif !y4.1 then
          some (false, ())
        else
          Option.bind (spec_l01In t0c4 (0 : Int) (5 : Int)) fun y5 =>
          bif !y5.1 then
            some (false, ())
          else bif decide ((20 : Int) < ((List.length t0c5 : Nat) : Int)) then
            some (false, ())
          else
            outK (loopV spec_TokenOk_r0 (t0c0, t0c1, t0c2, t0c3, t0c4, t0c5, (0 : Int), ())) (fun y6 =>
              some (true, ())) (fun y7 =>
              some (y7.1, ()))
noncomputable def x93 (x : Int × Int × Int × Int × Int × (List (Int × Unit)) × Unit) : Option (Bool × Unit) := spec_TokenOk x.1 x.2.1 x.2.2.1 x.2.2.2.1 x.2.2.2.2.1 x.2.2.2.2.2.1
noncomputable def sem93 : Sem1 := semOf ps93 rs93 x93
theorem so93 : SemsOk Tryz.prog (semsOf sl93) := sems_cons k46 (sems_nil)
noncomputable def b93_0 : Code := nthLoop code93 0
theorem t93_r0_eq (x : denR (headRT hp93_0)) : codeK (tabOf tr) (semsOf sl93) D93 L93 b93_0 (headSt hp93_0 x) (roundK 0 hp93_0 e93_0 q93_0) = spec_TokenOk_r0 x := by kernel_rfl
theorem loop93_0 {R : Type} (r : R) (w0 : World) (mu : Mu) (hs : AnShape ps93 mu) : LoopAt Tryz.prog w0 mu 74 (L93 : Loops R) r 0 b93_0 :=
  loop_auto tr_ok eq_ok mixed_ok so93 (D := D93) hs (by kernel_rfl) (fun _ => (loops_of (l := []) (by kernel_rfl) (List.forall_mem_nil _))) t93_r0_eq (fun _ _ => rfl)
theorem t93_eq (x : denR (headRT (ps93.map some))) : codeK (tabOf tr) (semsOf sl93) D93 L93 code93 (start 74 ps93 x) (finK rs93 ps93) = x93 x := by kernel_rfl
theorem k93 : Known Tryz.prog 93 sem93 :=
  fn_auto tr_ok eq_ok mixed_ok so93 (D := D93) (code := code93) (n := 74) Tryz.func93 (by kernel_rfl) (by kernel_rfl) (by kernel_rfl) (fun w0 mu _ hs => (loops_of (l := [(0, b93_0)]) (by kernel_rfl) (List.forall_mem_cons.2 ⟨loop93_0 _ w0 mu hs, (List.forall_mem_nil _)⟩))) t93_eq

/-! ### f49: spec.MateOk -/
noncomputable def code49 : Code := match Tryz.f49.body with | some c => c | none => .skip
def ps49 : List AP := [.val true [.int .i64, .int .i64, .shr T_i, .shr T_iiis, .shr T_i, .shr T_s, .int .i64, .int .i64, .int .i64, .int .i64, .int .i64, .int .i64, .int .i64, .int .i64, .int .i64, .shr T_i]]
def rs49 : List RP := [{ src := .tmp 2, agg := false, ps := [.bool] }]
noncomputable def sl49 : SemL := [(50, (.shr, .shr, .shr, sem50)), (51, (.shr, .shr, .shr, sem51)), (90, (.shr, .shr, .shr, sem90)), (91, (.shr, .shr, .shr, sem91)), (46, (.shr, .shr, .shr, sem46)), (92, (.shr, .shr, .shr, sem92)), (89, (.shr, .shr, .shr, sem89)), (93, (.shr, .shr, .shr, sem93))]
def D49 : Draws := fun _ => .nil
noncomputable def L49 {R : Type} : Loops R := fun _ _ _ _ => none
noncomputable def spec_MateOk (m0c0 : Int) (m0c1 : Int) (m0c2 : List (Int × Unit)) (m0c3 : List R_iiis) (m0c4 : List (Int × Unit)) (m0c5 : List (ByteArray × Unit)) (m0c6 : Int) (m0c7 : Int) (m0c8 : Int) (m0c9 : Int) (m0c10 : Int) (m0c11 : Int) (m0c12 : Int) (m0c13 : Int) (m0c14 : Int) (m0c15 : List (Int × Unit)) : Option (Bool × Unit) :=
  Option.bind (spec_RingOk m0c1 m0c2) fun y1 =>
  bif !y1.1 then
    some (false, ())
  else
    Option.bind (spec_l05In m0c2 m0c0) fun y2 =>
    bif !y2.1 then
      some (false, ())
    else
      Option.bind (spec_ItemsOk m0c3) fun y3 =>
      bif !y3.1 then
        some (false, ())
      else
        Option.bind (spec_l10Texts m0c4 m0c5) fun y4 =>
        bif !y4.1 then
          some (false, ())
        else
          Option.bind (spec_l01In m0c6 (0 : Int) (1000000000 : Int)) fun y5 =>
          bif !y5.1 then
            some (false, ())
          else
            Option.bind (spec_l01In m0c7 (0 : Int) (60 : Int)) fun y6 =>
            bif !y6.1 then
              some (false, ())
            else
              Option.bind (spec_AruOf m0c3) fun y7 =>
              Option.bind (spec_l01In m0c8 (0 : Int) y7.1) fun y8 =>
              bif y8.1 then
                Option.bind (spec_l01In m0c9 (0 : Int) y7.1) fun y9 =>
                bif y9.1 then
                  Option.bind (spec_l10Blank m0c10 m0c11 m0c12 m0c13 m0c14 m0c15) fun y10 =>
                  bif y10.1 then
                    some (true, ())
                  else
                    Option.bind (spec_TokenOk m0c10 m0c11 m0c12 m0c13 m0c14 m0c15) fun y11 =>
                    some (y11.1, ())
                else
                  some (false, ())
              else
                some (false, ())
noncomputable def x49 (x : Int × Int × (List (Int × Unit)) × (List R_iiis) × (List (Int × Unit)) × (List (ByteArray × Unit)) × Int × Int × Int × Int × Int × Int × Int × Int × Int × (List (Int × Unit)) × Unit) : Option (Bool × Unit) := spec_MateOk x.1 x.2.1 x.2.2.1 x.2.2.2.1 x.2.2.2.2.1 x.2.2.2.2.2.1 x.2.2.2.2.2.2.1 x.2.2.2.2.2.2.2.1 x.2.2.2.2.2.2.2.2.1 x.2.2.2.2.2.2.2.2.2.1 x.2.2.2.2.2.2.2.2.2.2.1 x.2.2.2.2.2.2.2.2.2.2.2.1 x.2.2.2.2.2.2.2.2.2.2.2.2.1 x.2.2.2.2.2.2.2.2.2.2.2.2.2.1 x.2.2.2.2.2.2.2.2.2.2.2.2.2.2.1 x.2.2.2.2.2.2.2.2.2.2.2.2.2.2.2.1
noncomputable def sem49 : Sem1 := semOf ps49 rs49 x49
theorem so49 : SemsOk Tryz.prog (semsOf sl49) := sems_cons k50 (sems_cons k51 (sems_cons k90 (sems_cons k91 (sems_cons k46 (sems_cons k92 (sems_cons k89 (sems_cons k93 (sems_nil))))))))
theorem t49_eq (x : denR (headRT (ps49.map some))) : codeK (tabOf tr) (semsOf sl49) D49 L49 code49 (start 66 ps49 x) (finK rs49 ps49) = x49 x := by kernel_rfl
theorem k49 : Known Tryz.prog 49 sem49 :=
  fn_auto tr_ok eq_ok mixed_ok so49 (D := D49) (code := code49) (n := 66) Tryz.func49 (by kernel_rfl) (by kernel_rfl) (by kernel_rfl) (fun w0 mu _ hs => (loops_of (l := []) (by kernel_rfl) (List.forall_mem_nil _))) t49_eq

/-! ### f52: spec.BundleOk -/
noncomputable def code52 : Code := match Tryz.f52.body with | some c => c | none => .skip
def ps52 : List AP := [.val true [.int .i64, .int .i64, .int .i64, .shr T_iiis]]
def rs52 : List RP := [{ src := .tmp 2, agg := false, ps := [.bool] }]
noncomputable def sl52 : SemL := [(46, (.shr, .shr, .shr, sem46)), (90, (.shr, .shr, .shr, sem90))]
def D52 : Draws := fun _ => .nil
noncomputable def L52 {R : Type} : Loops R := fun _ _ _ _ => none
noncomputable def spec_BundleOk (b0c0 : Int) (b0c1 : Int) (b0c2 : Int) (b0c3 : List R_iiis) : Option (Bool × Unit) :=
  Option.bind (spec_l01In b0c0 (1 : Int) (5 : Int)) fun y1 =>
  bif y1.1 then
    Option.bind (spec_l01In b0c1 (1 : Int) (9 : Int)) fun y2 =>
    bif y2.1 then
      Option.bind (spec_l01In b0c2 (0 : Int) (IntKind.i64.wrap (b0c1 - (1 : Int)))) fun y3 =>
      bif y3.1 then
        Option.bind (spec_ItemsOk b0c3) fun y4 =>
        bif y4.1 then
          bif decide ((0 : Int) < b0c2) then
            some (true, ())
          else
            some (decide (((List.length b0c3 : Nat) : Int) = (0 : Int)), ())
        else
          some (false, ())
      else
        some (false, ())
    else
      some (false, ())
  else
    some (false, ())
noncomputable def x52 (x : Int × Int × Int × (List R_iiis) × Unit) : Option (Bool × Unit) := spec_BundleOk x.1 x.2.1 x.2.2.1 x.2.2.2.1
noncomputable def sem52 : Sem1 := semOf ps52 rs52 x52
theorem so52 : SemsOk Tryz.prog (semsOf sl52) := sems_cons k46 (sems_cons k90 (sems_nil))
theorem t52_eq (x : denR (headRT (ps52.map some))) : codeK (tabOf tr) (semsOf sl52) D52 L52 code52 (start 35 ps52 x) (finK rs52 ps52) = x52 x := by kernel_rfl
theorem k52 : Known Tryz.prog 52 sem52 :=
  fn_auto tr_ok eq_ok mixed_ok so52 (D := D52) (code := code52) (n := 35) Tryz.func52 (by kernel_rfl) (by kernel_rfl) (by kernel_rfl) (fun w0 mu _ hs => (loops_of (l := []) (by kernel_rfl) (List.forall_mem_nil _))) t52_eq

/-! ### f18: spec.DaemonOk -/
noncomputable def code18 : Code := match Tryz.f18.body with | some c => c | none => .skip
def ps18 : List AP := [.val true [.int .i64, .bool, .int .i64, .int .i64, .shr T_i, .shr T_iiis, .shr T_i, .shr T_s, .int .i64, .int .i64, .int .i64, .int .i64, .int .i64, .int .i64, .int .i64, .int .i64, .int .i64, .shr T_i, .int .i64, .int .i64, .int .i64, .shr T_i, .shr T_iiiLiiisE, .shr T_iiLiEiiisLiE]]
def rs18 : List RP := [{ src := .tmp 2, agg := false, ps := [.bool] }]
noncomputable def sl18 : SemL := [(46, (.shr, .shr, .shr, sem46)), (47, (.shr, .shr, .shr, sem47)), (48, (.shr, .shr, .shr, sem48)), (49, (.shr, .shr, .shr, sem49)), (50, (.shr, .shr, .shr, sem50)), (51, (.shr, .shr, .shr, sem51)), (52, (.shr, .shr, .shr, sem52))]
def D18 : Draws := fun id => bif Nat.beq id 14 then .op 0 .any (.op 1 .take (.op 2 .any (.op 3 .any (.op 4 .take (.op 5 .one (.op 6 .any (.op 7 .any (.op 8 .any (.op 9 .take (.op 10 .any (.op 11 .any (.op 12 .any (.op 13 .take (.op 14 .any (.op 15 .any (.op 16 .take (.op 17 .any (.op 18 .any (.nil))))))))))))))))))) else .nil
def hp18_0 : List (Option AP) := [none, some (.box false [.int .i64, .bool, .int .i64, .int .i64, .shr T_i, .shr T_iiis, .shr T_i, .shr T_s, .int .i64, .int .i64, .int .i64, .int .i64, .int .i64, .int .i64, .int .i64, .int .i64, .int .i64, .shr T_i, .int .i64, .int .i64, .int .i64, .shr T_i, .shr T_iiiLiiisE, .shr T_iiLiEiiisLiE]), none, some (.val false [.int .i64]), none, none, none, none, none, none, none, none, none, none, none, none, none, none, none, none, none, none, none, none, none, none, none, none, none, none, none, none, none, none, none, none, none, none, none, none, none, none, none, none, none, none, none, none, none, none, none, none, none, none, none, none, none, none, none, none, none, none, none, none, none, none, none, none, none, none, none, none, none, none, none, none, none, none, none, none, none, none, none, none, none, none, none, none, none, none, none, none, none, none, none, none, none, none, none, none, none, none, none, none, none, none, none, none, none, none, none, none, none, none, none, none, none, none, none, none, none, none, none, none, none, none, none, none]
def e18_0 : List (Option AP) := [none, none, none, none, none, none, none, none, none, none, none, none, none, none, none, none, none, none, none, none, none, none, none, none, none, none, none, none, none, none, none, none, none, none, none, none, none, none, none, none, none, none, none, none, none, none, none, none, none, none, none, none, none, none, none, none, none, none, none, none, none, none, none, none, none, none, none, none, none, none, none, none, none, none, none, none, none, none, none, none, none, none, none, none, none, none, none, none, none, none, none, none, none, none, none, none, none, none, none, none, none, none, none, none, none, none, none, none, none, none, none, none, none, none, none, none, none, none, none, none, none, none, none, none, none, none, none, none]
def q18_0 : List (Option AP) := [none, none, some (.val false [.bool]), none, none, none, none, none, none, none, none, none, none, none, none, none, none, none, none, none, none, none, none, none, none, none, none, none, none, none, none, none, none, none, none, none, none, none, none, none, none, none, none, none, none, none, none, none, none, none, none, none, none, none, none, none, none, none, none, none, none, none, none, none, none, none, none, none, none, none, none, none, none, none, none, none, none, none, none, none, none, none, none, none, none, none, none, none, none, none, none, none, none, none, none, none, none, none, none, none, none, none, none, none, none, none, none, none, none, none, none, none, none, none, none, none, none, none, none, none, none, none, none, none, none, none, none, none]
abbrev H18_0 : Type := Int × Bool × Int × Int × (List (Int × Unit)) × (List R_iiis) × (List (Int × Unit)) × (List (ByteArray × Unit)) × Int × Int × Int × Int × Int × Int × Int × Int × Int × (List (Int × Unit)) × Int × Int × Int × (List (Int × Unit)) × (List R_iiiLiiisE) × (List R_iiLiEiiisLiE) × Int × Unit
abbrev E18_0 : Type := Unit
abbrev Q18_0 : Type := Bool × Unit
noncomputable def spec_DaemonOk_c0 (d1c0 : Int) (d1c1 : Bool) (d1c2 : Int) (d1c3 : Int) (d1c4 : List (Int × Unit)) (d1c5 : List R_iiis) (d1c6 : List (Int × Unit)) (d1c7 : List (ByteArray × Unit)) (d1c8 : Int) (d1c9 : Int) (d1c10 : Int) (d1c11 : Int) (d1c12 : Int) (d1c13 : Int) (d1c14 : Int) (d1c15 : Int) (d1c16 : Int) (d1c17 : List (Int × Unit)) (d1c18 : Int) (d1c19 : Int) (d1c20 : Int) (d1c21 : List (Int × Unit)) (d1c22 : List R_iiiLiiisE) (d1c23 : List R_iiLiEiiisLiE) (i3 : Int) : Option (Sum H18_0 (Sum E18_0 Q18_0)) :=
  bif decide (i3 < ((List.length d1c22 : Nat) : Int)) then
    bif decide ((0 : Int) ≤ i3) then Option.bind ((d1c22)[Int.toNat i3]?) fun r11 =>
      Option.bind (spec_BundleOk r11.1 r11.2.1 r11.2.2.1 r11.2.2.2.1) fun y12 =>
      bif !y12.1 then
        some (.inr (.inr (false, ())))
      else bif decide ((0 : Int) ≤ i3) then Option.bind ((d1c22)[Int.toNat i3]?) fun r13 =>
        bif !decide (r13.2.1 = d1c20) then
          some (.inr (.inr (false, ())))
        else
          some (.inl (d1c0, d1c1, d1c2, d1c3, d1c4, d1c5, d1c6, d1c7, d1c8, d1c9, d1c10, d1c11, d1c12, d1c13, d1c14, d1c15, d1c16, d1c17, d1c18, d1c19, d1c20, d1c21, d1c22, d1c23, IntKind.i64.wrap (i3 + (1 : Int)), ()))
      else none
    else none
  else
    some (.inr (.inl (())))
noncomputable def spec_DaemonOk_r0 (x : H18_0) : Option (Sum H18_0 (Sum E18_0 Q18_0)) := spec_DaemonOk_c0 x.1 x.2.1 x.2.2.1 x.2.2.2.1 x.2.2.2.2.1 x.2.2.2.2.2.1 x.2.2.2.2.2.2.1 x.2.2.2.2.2.2.2.1 x.2.2.2.2.2.2.2.2.1 x.2.2.2.2.2.2.2.2.2.1 x.2.2.2.2.2.2.2.2.2.2.1 x.2.2.2.2.2.2.2.2.2.2.2.1 x.2.2.2.2.2.2.2.2.2.2.2.2.1 x.2.2.2.2.2.2.2.2.2.2.2.2.2.1 x.2.2.2.2.2.2.2.2.2.2.2.2.2.2.1 x.2.2.2.2.2.2.2.2.2.2.2.2.2.2.2.1 x.2.2.2.2.2.2.2.2.2.2.2.2.2.2.2.2.1 x.2.2.2.2.2.2.2.2.2.2.2.2.2.2.2.2.2.1 x.2.2.2.2.2.2.2.2.2.2.2.2.2.2.2.2.2.2.1 x.2.2.2.2.2.2.2.2.2.2.2.2.2.2.2.2.2.2.2.1 x.2.2.2.2.2.2.2.2.2.2.2.2.2.2.2.2.2.2.2.2.1 x.2.2.2.2.2.2.2.2.2.2.2.2.2.2.2.2.2.2.2.2.2.1 x.2.2.2.2.2.2.2.2.2.2.2.2.2.2.2.2.2.2.2.2.2.2.1 x.2.2.2.2.2.2.2.2.2.2.2.2.2.2.2.2.2.2.2.2.2.2.2.1 x.2.2.2.2.2.2.2.2.2.2.2.2.2.2.2.2.2.2.2.2.2.2.2.2.1
noncomputable def L18 {R : Type} : Loops R := fun id _ st k => bif Nat.beq id 0 then loopAt hp18_0 e18_0 q18_0 spec_DaemonOk_r0 st k else none
noncomputable def spec_DaemonOk (d0c0 : Int) (d0c1 : Bool) (d0c2 : Int) (d0c3 : Int) (d0c4 : List (Int × Unit)) (d0c5 : List R_iiis) (d0c6 : List (Int × Unit)) (d0c7 : List (ByteArray × Unit)) (d0c8 : Int) (d0c9 : Int) (d0c10 : Int) (d0c11 : Int) (d0c12 : Int) (d0c13 : Int) (d0c14 : Int) (d0c15 : Int) (d0c16 : Int) (d0c17 : List (Int × Unit)) (d0c18 : Int) (d0c19 : Int) (d0c20 : Int) (d0c21 : List (Int × Unit)) (d0c22 : List R_iiiLiiisE) (d0c23 : List R_iiLiEiiisLiE) : Option (Bool × Unit) :=
  Option.bind (spec_l01In d0c0 (1 : Int) (5 : Int)) fun y1 =>
  bif !y1.1 then
    some (false, ())
  else
    Option.bind (spec_l01In d0c18 (0 : Int) (9 : Int)) fun y2 =>
    bif !y2.1 then
      some (false, ())
    else bif d0c1 then
      Option.bind (spec_l14NoMate d0c2 d0c3 d0c4 d0c5 d0c6 d0c7 d0c8 d0c9 d0c10 d0c11 d0c12 d0c13 d0c14 d0c15 d0c16 d0c17) fun y3 =>
      bif y3.1 then
        bif decide (d0c19 = (0 : Int)) then
          Option.bind (spec_l14NoRing d0c20 d0c21) fun y4 =>
          bif y4.1 then
            some (decide (((List.length d0c22 : Nat) : Int) = (0 : Int)), ())
          else
            some (false, ())
        else
          some (false, ())
      else
        some (false, ())
    else
      Option.bind (spec_l14NoMate d0c2 d0c3 d0c4 d0c5 d0c6 d0c7 d0c8 d0c9 d0c10 d0c11 d0c12 d0c13 d0c14 d0c15 d0c16 d0c17) fun y5 =>
      bif !y5.1 then
        Option.bind (spec_MateOk d0c2 d0c3 d0c4 d0c5 d0c6 d0c7 d0c8 d0c9 d0c10 d0c11 d0c12 d0c13 d0c14 d0c15 d0c16 d0c17) fun y6 =>
        bif !y6.1 then
          some (false, ())
        else bif !decide (d0c2 = d0c0) then
          some (false, ())
        else bif !decide (d0c19 = d0c3) then
          some (false, ())
        else bif decide (d0c18 < d0c19) then
          some (false, ())
        else
          Option.bind (spec_l14NoRing d0c20 d0c21) fun y7 =>
          bif y7.1 then
            some (decide (((List.length d0c22 : Nat) : Int) = (0 : Int)), ())
          else
            Option.bind (spec_RingOk d0c20 d0c21) fun y8 =>
            bif !y8.1 then
              some (false, ())
            else
              Option.bind (spec_l05In d0c21 d0c0) fun y9 =>
              bif !y9.1 then
                some (false, ())
              else
                Option.bind (spec_l01In d0c20 (IntKind.i64.wrap (d0c19 + (1 : Int))) d0c18) fun y10 =>
                bif !y10.1 then
                  some (false, ())
                else
                  outK (loopV spec_DaemonOk_r0 (d0c0, d0c1, d0c2, d0c3, d0c4, d0c5, d0c6, d0c7, d0c8, d0c9, d0c10, d0c11, d0c12, d0c13, d0c14, d0c15, d0c16, d0c17, d0c18, d0c19, d0c20, d0c21, d0c22, d0c23, (0 : Int), ())) (fun y11 =>
                    some (true, ())) (fun y12 =>
                    some (y12.1, ()))
      else bif !decide (d0c19 = d0c3) then
        some (false, ())
      else bif decide (d0c18 < d0c19) then
        some (false, ())
      else
        Option.bind (spec_l14NoRing d0c20 d0c21) fun y13 =>
        bif y13.1 then
          some (decide (((List.length d0c22 : Nat) : Int) = (0 : Int)), ())
        else
          Option.bind (spec_RingOk d0c20 d0c21) fun y14 =>
          bif !y14.1 then
            some (false, ())
          else
            Option.bind (spec_l05In d0c21 d0c0) fun y15 =>
            bif !y15.1 then
              some (false, ())
            else
              Option.bind (spec_l01In d0c20 (IntKind.i64.wrap (d0c19 + (1 : Int))) d0c18) fun y16 =>
              bif !y16.1 then
                some (false, ())
              else
                outK (loopV spec_DaemonOk_r0 (d0c0, d0c1, d0c2, d0c3, d0c4, d0c5, d0c6, d0c7, d0c8, d0c9, d0c10, d0c11, d0c12, d0c13, d0c14, d0c15, d0c16, d0c17, d0c18, d0c19, d0c20, d0c21, d0c22, d0c23, (0 : Int), ())) (fun y17 =>
                  some (true, ())) (fun y18 =>
                  some (y18.1, ()))
noncomputable def x18 (x : Int × Bool × Int × Int × (List (Int × Unit)) × (List R_iiis) × (List (Int × Unit)) × (List (ByteArray × Unit)) × Int × Int × Int × Int × Int × Int × Int × Int × Int × (List (Int × Unit)) × Int × Int × Int × (List (Int × Unit)) × (List R_iiiLiiisE) × (List R_iiLiEiiisLiE) × Unit) : Option (Bool × Unit) := spec_DaemonOk x.1 x.2.1 x.2.2.1 x.2.2.2.1 x.2.2.2.2.1 x.2.2.2.2.2.1 x.2.2.2.2.2.2.1 x.2.2.2.2.2.2.2.1 x.2.2.2.2.2.2.2.2.1 x.2.2.2.2.2.2.2.2.2.1 x.2.2.2.2.2.2.2.2.2.2.1 x.2.2.2.2.2.2.2.2.2.2.2.1 x.2.2.2.2.2.2.2.2.2.2.2.2.1 x.2.2.2.2.2.2.2.2.2.2.2.2.2.1 x.2.2.2.2.2.2.2.2.2.2.2.2.2.2.1 x.2.2.2.2.2.2.2.2.2.2.2.2.2.2.2.1 x.2.2.2.2.2.2.2.2.2.2.2.2.2.2.2.2.1 x.2.2.2.2.2.2.2.2.2.2.2.2.2.2.2.2.2.1 x.2.2.2.2.2.2.2.2.2.2.2.2.2.2.2.2.2.2.1 x.2.2.2.2.2.2.2.2.2.2.2.2.2.2.2.2.2.2.2.1 x.2.2.2.2.2.2.2.2.2.2.2.2.2.2.2.2.2.2.2.2.1 x.2.2.2.2.2.2.2.2.2.2.2.2.2.2.2.2.2.2.2.2.2.1 x.2.2.2.2.2.2.2.2.2.2.2.2.2.2.2.2.2.2.2.2.2.2.1 x.2.2.2.2.2.2.2.2.2.2.2.2.2.2.2.2.2.2.2.2.2.2.2.1
noncomputable def sem18 : Sem1 := semOf ps18 rs18 x18
theorem so18 : SemsOk Tryz.prog (semsOf sl18) := sems_cons k46 (sems_cons k47 (sems_cons k48 (sems_cons k49 (sems_cons k50 (sems_cons k51 (sems_cons k52 (sems_nil)))))))
noncomputable def b18_0 : Code := nthLoop code18 0
theorem t18_r0_eq (x : denR (headRT hp18_0)) : codeK (tabOf tr) (semsOf sl18) D18 L18 b18_0 (headSt hp18_0 x) (roundK 0 hp18_0 e18_0 q18_0) = spec_DaemonOk_r0 x := by kernel_rfl
theorem loop18_0 {R : Type} (r : R) (w0 : World) (mu : Mu) (hs : AnShape ps18 mu) : LoopAt Tryz.prog w0 mu 127 (L18 : Loops R) r 0 b18_0 :=
  loop_auto tr_ok eq_ok mixed_ok so18 (D := D18) hs (by kernel_rfl) (fun _ => (loops_of (l := []) (by kernel_rfl) (List.forall_mem_nil _))) t18_r0_eq (fun _ _ => rfl)
theorem t18_eq (x : denR (headRT (ps18.map some))) : codeK (tabOf tr) (semsOf sl18) D18 L18 code18 (start 127 ps18 x) (finK rs18 ps18) = x18 x := by kernel_rfl
theorem k18 : Known Tryz.prog 18 sem18 :=
  fn_auto tr_ok eq_ok mixed_ok so18 (D := D18) (code := code18) (n := 127) Tryz.func18 (by kernel_rfl) (by kernel_rfl) (by kernel_rfl) (fun w0 mu _ hs => (loops_of (l := [(0, b18_0)]) (by kernel_rfl) (List.forall_mem_cons.2 ⟨loop18_0 _ w0 mu hs, (List.forall_mem_nil _)⟩))) t18_eq

/-! ### f94: spec.l05CopyToken -/
noncomputable def code94 : Code := match Tryz.f94.body with | some c => c | none => .skip
def ps94 : List AP := [.val true [.int .i64, .int .i64, .int .i64, .int .i64, .int .i64, .shr T_i]]
def rs94 : List RP := [{ src := .cell 2, agg := true, ps := [.int .i64, .int .i64, .int .i64, .int .i64, .int .i64, .own T_i] }]
noncomputable def sl94 : SemL := []
def D94 : Draws := fun _ => .nil
noncomputable def L94 {R : Type} : Loops R := fun _ _ _ _ => none
noncomputable def spec_l05CopyToken (t0c0 : Int) (t0c1 : Int) (t0c2 : Int) (t0c3 : Int) (t0c4 : Int) (t0c5 : List (Int × Unit)) : Option (Int × Int × Int × Int × Int × (List (Int × Unit)) × Unit) :=
  bif Nat.ble ((0 + (List.length t0c5)) * 8) lim then some (t0c0, t0c1, t0c2, t0c3, t0c4, [] ++ t0c5, ())
  else none
noncomputable def x94 (x : Int × Int × Int × Int × Int × (List (Int × Unit)) × Unit) : Option (Int × Int × Int × Int × Int × (List (Int × Unit)) × Unit) := spec_l05CopyToken x.1 x.2.1 x.2.2.1 x.2.2.2.1 x.2.2.2.2.1 x.2.2.2.2.2.1
noncomputable def sem94 : Sem1 := semOf ps94 rs94 x94
theorem so94 : SemsOk Tryz.prog (semsOf sl94) := sems_nil
theorem t94_eq (x : denR (headRT (ps94.map some))) : codeK (tabOf tr) (semsOf sl94) D94 L94 code94 (start 9 ps94 x) (finK rs94 ps94) = x94 x := by kernel_rfl
theorem k94 : Known Tryz.prog 94 sem94 :=
  fn_auto tr_ok eq_ok mixed_ok so94 (D := D94) (code := code94) (n := 9) Tryz.func94 (by kernel_rfl) (by kernel_rfl) (by kernel_rfl) (fun w0 mu _ hs => (loops_of (l := []) (by kernel_rfl) (List.forall_mem_nil _))) t94_eq

/-! ### f53: spec.l10Copy -/
noncomputable def code53 : Code := match Tryz.f53.body with | some c => c | none => .skip
def ps53 : List AP := [.val true [.int .i64, .int .i64, .shr T_i, .shr T_iiis, .shr T_i, .shr T_s, .int .i64, .int .i64, .int .i64, .int .i64, .int .i64, .int .i64, .int .i64, .int .i64, .int .i64, .shr T_i]]
def rs53 : List RP := [{ src := .cell 2, agg := true, ps := [.int .i64, .int .i64, .own T_i, .own T_iiis, .own T_i, .own T_s, .int .i64, .int .i64, .int .i64, .int .i64, .int .i64, .int .i64, .int .i64, .int .i64, .int .i64, .own T_i] }]
noncomputable def sl53 : SemL := [(94, (.shr, .shr, .shr, sem94))]
def D53 : Draws := fun _ => .nil
noncomputable def L53 {R : Type} : Loops R := fun _ _ _ _ => none
noncomputable def spec_l10Copy (m0c0 : Int) (m0c1 : Int) (m0c2 : List (Int × Unit)) (m0c3 : List R_iiis) (m0c4 : List (Int × Unit)) (m0c5 : List (ByteArray × Unit)) (m0c6 : Int) (m0c7 : Int) (m0c8 : Int) (m0c9 : Int) (m0c10 : Int) (m0c11 : Int) (m0c12 : Int) (m0c13 : Int) (m0c14 : Int) (m0c15 : List (Int × Unit)) : Option (Int × Int × (List (Int × Unit)) × (List R_iiis) × (List (Int × Unit)) × (List (ByteArray × Unit)) × Int × Int × Int × Int × Int × Int × Int × Int × Int × (List (Int × Unit)) × Unit) :=
  bif Nat.ble ((0 + (List.length m0c2)) * 8) lim then bif Nat.ble ((0 + (List.length m0c3)) * 40) lim then bif Nat.ble ((0 + (List.length m0c4)) * 8) lim then bif Nat.ble ((0 + (List.length m0c5)) * 16) lim then Option.bind (spec_l05CopyToken m0c10 m0c11 m0c12 m0c13 m0c14 m0c15) fun y1 =>
          some (m0c0, m0c1, [] ++ m0c2, [] ++ m0c3, [] ++ m0c4, [] ++ m0c5, m0c6, m0c7, m0c8, m0c9, y1.1, y1.2.1, y1.2.2.1, y1.2.2.2.1, y1.2.2.2.2.1, y1.2.2.2.2.2.1, ())
        else none
      else none
    else none
  else none
noncomputable def x53 (x : Int × Int × (List (Int × Unit)) × (List R_iiis) × (List (Int × Unit)) × (List (ByteArray × Unit)) × Int × Int × Int × Int × Int × Int × Int × Int × Int × (List (Int × Unit)) × Unit) : Option (Int × Int × (List (Int × Unit)) × (List R_iiis) × (List (Int × Unit)) × (List (ByteArray × Unit)) × Int × Int × Int × Int × Int × Int × Int × Int × Int × (List (Int × Unit)) × Unit) := spec_l10Copy x.1 x.2.1 x.2.2.1 x.2.2.2.1 x.2.2.2.2.1 x.2.2.2.2.2.1 x.2.2.2.2.2.2.1 x.2.2.2.2.2.2.2.1 x.2.2.2.2.2.2.2.2.1 x.2.2.2.2.2.2.2.2.2.1 x.2.2.2.2.2.2.2.2.2.2.1 x.2.2.2.2.2.2.2.2.2.2.2.1 x.2.2.2.2.2.2.2.2.2.2.2.2.1 x.2.2.2.2.2.2.2.2.2.2.2.2.2.1 x.2.2.2.2.2.2.2.2.2.2.2.2.2.2.1 x.2.2.2.2.2.2.2.2.2.2.2.2.2.2.2.1
noncomputable def sem53 : Sem1 := semOf ps53 rs53 x53
theorem so53 : SemsOk Tryz.prog (semsOf sl53) := sems_cons k94 (sems_nil)
theorem t53_eq (x : denR (headRT (ps53.map some))) : codeK (tabOf tr) (semsOf sl53) D53 L53 code53 (start 30 ps53 x) (finK rs53 ps53) = x53 x := by kernel_rfl
theorem k53 : Known Tryz.prog 53 sem53 :=
  fn_auto tr_ok eq_ok mixed_ok so53 (D := D53) (code := code53) (n := 30) Tryz.func53 (by kernel_rfl) (by kernel_rfl) (by kernel_rfl) (fun w0 mu _ hs => (loops_of (l := []) (by kernel_rfl) (List.forall_mem_nil _))) t53_eq

/-! ### f95: spec.l13CopyBundle -/
noncomputable def code95 : Code := match Tryz.f95.body with | some c => c | none => .skip
def ps95 : List AP := [.val true [.int .i64, .int .i64, .int .i64, .shr T_iiis]]
def rs95 : List RP := [{ src := .cell 2, agg := true, ps := [.int .i64, .int .i64, .int .i64, .own T_iiis] }]
noncomputable def sl95 : SemL := []
def D95 : Draws := fun _ => .nil
noncomputable def L95 {R : Type} : Loops R := fun _ _ _ _ => none
noncomputable def spec_l13CopyBundle (b0c0 : Int) (b0c1 : Int) (b0c2 : Int) (b0c3 : List R_iiis) : Option (Int × Int × Int × (List R_iiis) × Unit) :=
  bif Nat.ble ((0 + (List.length b0c3)) * 40) lim then some (b0c0, b0c1, b0c2, [] ++ b0c3, ())
  else none
noncomputable def x95 (x : Int × Int × Int × (List R_iiis) × Unit) : Option (Int × Int × Int × (List R_iiis) × Unit) := spec_l13CopyBundle x.1 x.2.1 x.2.2.1 x.2.2.2.1
noncomputable def sem95 : Sem1 := semOf ps95 rs95 x95
theorem so95 : SemsOk Tryz.prog (semsOf sl95) := sems_nil
theorem t95_eq (x : denR (headRT (ps95.map some))) : codeK (tabOf tr) (semsOf sl95) D95 L95 code95 (start 9 ps95 x) (finK rs95 ps95) = x95 x := by kernel_rfl
theorem k95 : Known Tryz.prog 95 sem95 :=
  fn_auto tr_ok eq_ok mixed_ok so95 (D := D95) (code := code95) (n := 9) Tryz.func95 (by kernel_rfl) (by kernel_rfl) (by kernel_rfl) (fun w0 mu _ hs => (loops_of (l := []) (by kernel_rfl) (List.forall_mem_nil _))) t95_eq

/-! ### f54: spec.l13CopyBundles -/
noncomputable def code54 : Code := match Tryz.f54.body with | some c => c | none => .skip
def ps54 : List AP := [.val false [.shr T_iiiLiiisE]]
def rs54 : List RP := [{ src := .tmp 2, agg := false, ps := [.own T_iiiLiiisE .dp] }]
noncomputable def sl54 : SemL := [(95, (.shr, .shr, .shr, sem95))]
def D54 : Draws := fun _ => .nil
def hp54_0 : List (Option AP) := [some (.val false [.shr T_iiiLiiisE]), none, none, some (.val false [.own T_iiiLiiisE .dp]), some (.val false [.int .i64]), none, none, none, none, none, none, none, none, none, none, none, none, none, none, none, none, none]
def e54_0 : List (Option AP) := [none, none, none, some (.val false [.own T_iiiLiiisE .dp]), none, none, none, none, none, none, none, none, none, none, none, none, none, none, none, none, none, none]
def q54_0 : List (Option AP) := [none, none, none, none, none, none, none, none, none, none, none, none, none, none, none, none, none, none, none, none, none, none]
abbrev H54_0 : Type := (List R_iiiLiiisE) × (List R_iiiLiiisE) × Int × Unit
abbrev E54_0 : Type := (List R_iiiLiiisE) × Unit
abbrev Q54_0 : Type := Unit
noncomputable def spec_l13CopyBundles_c0 (list0 : List R_iiiLiiisE) (out3 : List R_iiiLiiisE) (i4 : Int) : Option (Sum H54_0 (Sum E54_0 Q54_0)) :=
  bif decide (i4 < ((List.length list0 : Nat) : Int)) then
    bif decide ((0 : Int) ≤ i4) then Option.bind ((list0)[Int.toNat i4]?) fun r1 =>
      Option.bind (spec_l13CopyBundle r1.1 r1.2.1 r1.2.2.1 r1.2.2.2.1) fun y2 =>
      bif Nat.ble (((List.length out3) + 1) * 48) lim then some (.inl (list0, out3 ++ [(y2.1, y2.2.1, y2.2.2.1, y2.2.2.2.1, ())], IntKind.i64.wrap (i4 + (1 : Int)), ()))
      else none
    else none
  else
    some (.inr (.inl (out3, ())))
noncomputable def spec_l13CopyBundles_r0 (x : H54_0) : Option (Sum H54_0 (Sum E54_0 Q54_0)) := spec_l13CopyBundles_c0 x.1 x.2.1 x.2.2.1
noncomputable def L54 {R : Type} : Loops R := fun id _ st k => bif Nat.beq id 0 then loopAt hp54_0 e54_0 q54_0 spec_l13CopyBundles_r0 st k else none
noncomputable def spec_l13CopyBundles (list0 : List R_iiiLiiisE) : Option ((List R_iiiLiiisE) × Unit) :=
  outK (loopV spec_l13CopyBundles_r0 (list0, [], (0 : Int), ())) (fun y1 =>
    some (y1.1, ())) (fun y2 =>
    none)
noncomputable def x54 (x : (List R_iiiLiiisE) × Unit) : Option ((List R_iiiLiiisE) × Unit) := spec_l13CopyBundles x.1
noncomputable def sem54 : Sem1 := semOf ps54 rs54 x54
theorem so54 : SemsOk Tryz.prog (semsOf sl54) := sems_cons k95 (sems_nil)
noncomputable def b54_0 : Code := nthLoop code54 0
theorem t54_r0_eq (x : denR (headRT hp54_0)) : codeK (tabOf tr) (semsOf sl54) D54 L54 b54_0 (headSt hp54_0 x) (roundK 0 hp54_0 e54_0 q54_0) = spec_l13CopyBundles_r0 x := by kernel_rfl
theorem loop54_0 {R : Type} (r : R) (w0 : World) (mu : Mu) (hs : AnShape ps54 mu) : LoopAt Tryz.prog w0 mu 21 (L54 : Loops R) r 0 b54_0 :=
  loop_auto tr_ok eq_ok mixed_ok so54 (D := D54) hs (by kernel_rfl) (fun _ => (loops_of (l := []) (by kernel_rfl) (List.forall_mem_nil _))) t54_r0_eq (fun _ _ => rfl)
theorem t54_eq (x : denR (headRT (ps54.map some))) : codeK (tabOf tr) (semsOf sl54) D54 L54 code54 (start 21 ps54 x) (finK rs54 ps54) = x54 x := by kernel_rfl
theorem k54 : Known Tryz.prog 54 sem54 :=
  fn_auto tr_ok eq_ok mixed_ok so54 (D := D54) (code := code54) (n := 21) Tryz.func54 (by kernel_rfl) (by kernel_rfl) (by kernel_rfl) (fun w0 mu _ hs => (loops_of (l := [(0, b54_0)]) (by kernel_rfl) (List.forall_mem_cons.2 ⟨loop54_0 _ w0 mu hs, (List.forall_mem_nil _)⟩))) t54_eq

/-! ### f55: spec.l14CopyEvents -/
noncomputable def code55 : Code := match Tryz.f55.body with | some c => c | none => .skip
def ps55 : List AP := [.val false [.shr T_iiLiEiiisLiE]]
def rs55 : List RP := [{ src := .tmp 2, agg := false, ps := [.own T_iiLiEiiisLiE .dp] }]
noncomputable def sl55 : SemL := []
def D55 : Draws := fun _ => .nil
def hp55_0 : List (Option AP) := [some (.val false [.shr T_iiLiEiiisLiE]), none, none, some (.val false [.own T_iiLiEiiisLiE .dp]), some (.val false [.int .i64]), none, none, none, none, none, none, none, none, none, none, none, none, none, none, none, none, none, none, none, none, none, none, none, none, none, none, none, none, none, none]
def e55_0 : List (Option AP) := [none, none, none, some (.val false [.own T_iiLiEiiisLiE .dp]), none, none, none, none, none, none, none, none, none, none, none, none, none, none, none, none, none, none, none, none, none, none, none, none, none, none, none, none, none, none, none]
def q55_0 : List (Option AP) := [none, none, none, none, none, none, none, none, none, none, none, none, none, none, none, none, none, none, none, none, none, none, none, none, none, none, none, none, none, none, none, none, none, none, none]
abbrev H55_0 : Type := (List R_iiLiEiiisLiE) × (List R_iiLiEiiisLiE) × Int × Unit
abbrev E55_0 : Type := (List R_iiLiEiiisLiE) × Unit
abbrev Q55_0 : Type := Unit
noncomputable def spec_l14CopyEvents_c0 (list0 : List R_iiLiEiiisLiE) (out3 : List R_iiLiEiiisLiE) (i4 : Int) : Option (Sum H55_0 (Sum E55_0 Q55_0)) :=
  bif decide (i4 < ((List.length list0 : Nat) : Int)) then
    bif decide ((0 : Int) ≤ i4) then Option.bind ((list0)[Int.toNat i4]?) fun r1 =>
      bif Nat.ble ((0 + (List.length r1.2.2.1)) * 8) lim then bif Nat.ble ((0 + (List.length r1.2.2.2.2.2.2.2.1)) * 8) lim then bif Nat.ble (((List.length out3) + 1) * 104) lim then some (.inl (list0, out3 ++ ([(r1.1, r1.2.1, [] ++ r1.2.2.1, r1.2.2.2.1, r1.2.2.2.2.1, r1.2.2.2.2.2.1, r1.2.2.2.2.2.2.1, [] ++ r1.2.2.2.2.2.2.2.1, ())]), IntKind.i64.wrap (i4 + (1 : Int)), ()))
          else none
        else none
      else none
    else none
  else
    some (.inr (.inl (out3, ())))
noncomputable def spec_l14CopyEvents_r0 (x : H55_0) : Option (Sum H55_0 (Sum E55_0 Q55_0)) := spec_l14CopyEvents_c0 x.1 x.2.1 x.2.2.1
noncomputable def L55 {R : Type} : Loops R := fun id _ st k => bif Nat.beq id 0 then loopAt hp55_0 e55_0 q55_0 spec_l14CopyEvents_r0 st k else none
noncomputable def spec_l14CopyEvents (list0 : List R_iiLiEiiisLiE) : Option ((List R_iiLiEiiisLiE) × Unit) :=
  outK (loopV spec_l14CopyEvents_r0 (list0, [], (0 : Int), ())) (fun y1 =>
    some (y1.1, ())) (fun y2 =>
    none)
noncomputable def x55 (x : (List R_iiLiEiiisLiE) × Unit) : Option ((List R_iiLiEiiisLiE) × Unit) := spec_l14CopyEvents x.1
noncomputable def sem55 : Sem1 := semOf ps55 rs55 x55
theorem so55 : SemsOk Tryz.prog (semsOf sl55) := sems_nil
noncomputable def b55_0 : Code := nthLoop code55 0
theorem t55_r0_eq (x : denR (headRT hp55_0)) : codeK (tabOf tr) (semsOf sl55) D55 L55 b55_0 (headSt hp55_0 x) (roundK 0 hp55_0 e55_0 q55_0) = spec_l14CopyEvents_r0 x := by kernel_rfl
theorem loop55_0 {R : Type} (r : R) (w0 : World) (mu : Mu) (hs : AnShape ps55 mu) : LoopAt Tryz.prog w0 mu 34 (L55 : Loops R) r 0 b55_0 :=
  loop_auto tr_ok eq_ok mixed_ok so55 (D := D55) hs (by kernel_rfl) (fun _ => (loops_of (l := []) (by kernel_rfl) (List.forall_mem_nil _))) t55_r0_eq (fun _ _ => rfl)
theorem t55_eq (x : denR (headRT (ps55.map some))) : codeK (tabOf tr) (semsOf sl55) D55 L55 code55 (start 34 ps55 x) (finK rs55 ps55) = x55 x := by kernel_rfl
theorem k55 : Known Tryz.prog 55 sem55 :=
  fn_auto tr_ok eq_ok mixed_ok so55 (D := D55) (code := code55) (n := 34) Tryz.func55 (by kernel_rfl) (by kernel_rfl) (by kernel_rfl) (fun w0 mu _ hs => (loops_of (l := [(0, b55_0)]) (by kernel_rfl) (List.forall_mem_cons.2 ⟨loop55_0 _ w0 mu hs, (List.forall_mem_nil _)⟩))) t55_eq

/-! ### f19: spec.l14Copy -/
noncomputable def code19 : Code := match Tryz.f19.body with | some c => c | none => .skip
def ps19 : List AP := [.val true [.int .i64, .bool, .int .i64, .int .i64, .shr T_i, .shr T_iiis, .shr T_i, .shr T_s, .int .i64, .int .i64, .int .i64, .int .i64, .int .i64, .int .i64, .int .i64, .int .i64, .int .i64, .shr T_i, .int .i64, .int .i64, .int .i64, .shr T_i, .shr T_iiiLiiisE, .shr T_iiLiEiiisLiE]]
def rs19 : List RP := [{ src := .cell 2, agg := true, ps := [.int .i64, .bool, .int .i64, .int .i64, .own T_i, .own T_iiis, .own T_i, .own T_s, .int .i64, .int .i64, .int .i64, .int .i64, .int .i64, .int .i64, .int .i64, .int .i64, .int .i64, .own T_i, .int .i64, .int .i64, .int .i64, .own T_i, .own T_iiiLiiisE .dp, .own T_iiLiEiiisLiE .dp] }]
noncomputable def sl19 : SemL := [(53, (.shr, .shr, .shr, sem53)), (54, (.shr, .shr, .shr, sem54)), (55, (.shr, .shr, .shr, sem55))]
def D19 : Draws := fun _ => .nil
noncomputable def L19 {R : Type} : Loops R := fun _ _ _ _ => none
noncomputable def spec_l14Copy (d0c0 : Int) (d0c1 : Bool) (d0c2 : Int) (d0c3 : Int) (d0c4 : List (Int × Unit)) (d0c5 : List R_iiis) (d0c6 : List (Int × Unit)) (d0c7 : List (ByteArray × Unit)) (d0c8 : Int) (d0c9 : Int) (d0c10 : Int) (d0c11 : Int) (d0c12 : Int) (d0c13 : Int) (d0c14 : Int) (d0c15 : Int) (d0c16 : Int) (d0c17 : List (Int × Unit)) (d0c18 : Int) (d0c19 : Int) (d0c20 : Int) (d0c21 : List (Int × Unit)) (d0c22 : List R_iiiLiiisE) (d0c23 : List R_iiLiEiiisLiE) : Option (Int × Bool × Int × Int × (List (Int × Unit)) × (List R_iiis) × (List (Int × Unit)) × (List (ByteArray × Unit)) × Int × Int × Int × Int × Int × Int × Int × Int × Int × (List (Int × Unit)) × Int × Int × Int × (List (Int × Unit)) × (List R_iiiLiiisE) × (List R_iiLiEiiisLiE) × Unit) :=
  Option.bind (spec_l10Copy d0c2 d0c3 d0c4 d0c5 d0c6 d0c7 d0c8 d0c9 d0c10 d0c11 d0c12 d0c13 d0c14 d0c15 d0c16 d0c17) fun y1 =>
  bif Nat.ble ((0 + (List.length d0c21)) * 8) lim then Option.bind (spec_l13CopyBundles d0c22) fun y2 =>
    Option.bind (spec_l14CopyEvents d0c23) fun y3 =>
    some (d0c0, d0c1, y1.1, y1.2.1, y1.2.2.1, y1.2.2.2.1, y1.2.2.2.2.1, y1.2.2.2.2.2.1, y1.2.2.2.2.2.2.1, y1.2.2.2.2.2.2.2.1, y1.2.2.2.2.2.2.2.2.1, y1.2.2.2.2.2.2.2.2.2.1, y1.2.2.2.2.2.2.2.2.2.2.1, y1.2.2.2.2.2.2.2.2.2.2.2.1, y1.2.2.2.2.2.2.2.2.2.2.2.2.1, y1.2.2.2.2.2.2.2.2.2.2.2.2.2.1, y1.2.2.2.2.2.2.2.2.2.2.2.2.2.2.1, y1.2.2.2.2.2.2.2.2.2.2.2.2.2.2.2.1, d0c18, d0c19, d0c20, [] ++ d0c21, y2.1, y3.1, ())
  else none
noncomputable def x19 (x : Int × Bool × Int × Int × (List (Int × Unit)) × (List R_iiis) × (List (Int × Unit)) × (List (ByteArray × Unit)) × Int × Int × Int × Int × Int × Int × Int × Int × Int × (List (Int × Unit)) × Int × Int × Int × (List (Int × Unit)) × (List R_iiiLiiisE) × (List R_iiLiEiiisLiE) × Unit) : Option (Int × Bool × Int × Int × (List (Int × Unit)) × (List R_iiis) × (List (Int × Unit)) × (List (ByteArray × Unit)) × Int × Int × Int × Int × Int × Int × Int × Int × Int × (List (Int × Unit)) × Int × Int × Int × (List (Int × Unit)) × (List R_iiiLiiisE) × (List R_iiLiEiiisLiE) × Unit) := spec_l14Copy x.1 x.2.1 x.2.2.1 x.2.2.2.1 x.2.2.2.2.1 x.2.2.2.2.2.1 x.2.2.2.2.2.2.1 x.2.2.2.2.2.2.2.1 x.2.2.2.2.2.2.2.2.1 x.2.2.2.2.2.2.2.2.2.1 x.2.2.2.2.2.2.2.2.2.2.1 x.2.2.2.2.2.2.2.2.2.2.2.1 x.2.2.2.2.2.2.2.2.2.2.2.2.1 x.2.2.2.2.2.2.2.2.2.2.2.2.2.1 x.2.2.2.2.2.2.2.2.2.2.2.2.2.2.1 x.2.2.2.2.2.2.2.2.2.2.2.2.2.2.2.1 x.2.2.2.2.2.2.2.2.2.2.2.2.2.2.2.2.1 x.2.2.2.2.2.2.2.2.2.2.2.2.2.2.2.2.2.1 x.2.2.2.2.2.2.2.2.2.2.2.2.2.2.2.2.2.2.1 x.2.2.2.2.2.2.2.2.2.2.2.2.2.2.2.2.2.2.2.1 x.2.2.2.2.2.2.2.2.2.2.2.2.2.2.2.2.2.2.2.2.1 x.2.2.2.2.2.2.2.2.2.2.2.2.2.2.2.2.2.2.2.2.2.1 x.2.2.2.2.2.2.2.2.2.2.2.2.2.2.2.2.2.2.2.2.2.2.1 x.2.2.2.2.2.2.2.2.2.2.2.2.2.2.2.2.2.2.2.2.2.2.2.1
noncomputable def sem19 : Sem1 := semOf ps19 rs19 x19
theorem so19 : SemsOk Tryz.prog (semsOf sl19) := sems_cons k53 (sems_cons k54 (sems_cons k55 (sems_nil)))
theorem t19_eq (x : denR (headRT (ps19.map some))) : codeK (tabOf tr) (semsOf sl19) D19 L19 code19 (start 23 ps19 x) (finK rs19 ps19) = x19 x := by kernel_rfl
theorem k19 : Known Tryz.prog 19 sem19 :=
  fn_auto tr_ok eq_ok mixed_ok so19 (D := D19) (code := code19) (n := 23) Tryz.func19 (by kernel_rfl) (by kernel_rfl) (by kernel_rfl) (fun w0 mu _ hs => (loops_of (l := []) (by kernel_rfl) (List.forall_mem_nil _))) t19_eq

/-! ### f6: spec.Wake -/
noncomputable def code6 : Code := match Tryz.f6.body with | some c => c | none => .skip
def ps6 : List AP := [.val true [.int .i64, .bool, .int .i64, .int .i64, .shr T_i, .shr T_iiis, .shr T_i, .shr T_s, .int .i64, .int .i64, .int .i64, .int .i64, .int .i64, .int .i64, .int .i64, .int .i64, .int .i64, .shr T_i, .int .i64, .int .i64, .int .i64, .shr T_i, .shr T_iiiLiiisE, .shr T_iiLiEiiisLiE]]
def rs6 : List RP := [{ src := .cell 2, agg := true, ps := [.int .i64, .bool, .int .i64, .int .i64, .own T_i, .own T_iiis, .own T_i, .own T_s, .int .i64, .int .i64, .int .i64, .int .i64, .int .i64, .int .i64, .int .i64, .int .i64, .int .i64, .own T_i, .int .i64, .int .i64, .int .i64, .own T_i, .own T_iiiLiiisE .dp, .own T_iiLiEiiisLiE .dp] }, { src := .tmp 3, agg := false, ps := [.bool] }]
noncomputable def sl6 : SemL := [(18, (.shr, .shr, .shr, sem18)), (19, (.shr, .shr, .shr, sem19))]
def D6 : Draws := fun _ => .nil
noncomputable def L6 {R : Type} : Loops R := fun _ _ _ _ => none
noncomputable def spec_Wake (d0c0 : Int) (d0c1 : Bool) (d0c2 : Int) (d0c3 : Int) (d0c4 : List (Int × Unit)) (d0c5 : List R_iiis) (d0c6 : List (Int × Unit)) (d0c7 : List (ByteArray × Unit)) (d0c8 : Int) (d0c9 : Int) (d0c10 : Int) (d0c11 : Int) (d0c12 : Int) (d0c13 : Int) (d0c14 : Int) (d0c15 : Int) (d0c16 : Int) (d0c17 : List (Int × Unit)) (d0c18 : Int) (d0c19 : Int) (d0c20 : Int) (d0c21 : List (Int × Unit)) (d0c22 : List R_iiiLiiisE) (d0c23 : List R_iiLiEiiisLiE) : Option (Int × Bool × Int × Int × (List (Int × Unit)) × (List R_iiis) × (List (Int × Unit)) × (List (ByteArray × Unit)) × Int × Int × Int × Int × Int × Int × Int × Int × Int × (List (Int × Unit)) × Int × Int × Int × (List (Int × Unit)) × (List R_iiiLiiisE) × (List R_iiLiEiiisLiE) × Bool × Unit) :=
  Option.bind (spec_DaemonOk d0c0 d0c1 d0c2 d0c3 d0c4 d0c5 d0c6 d0c7 d0c8 d0c9 d0c10 d0c11 d0c12 d0c13 d0c14 d0c15 d0c16 d0c17 d0c18 d0c19 d0c20 d0c21 d0c22 d0c23) fun y1 =>
  bif !y1.1 then
    some ((0 : Int), false, (0 : Int), (0 : Int), [], [], [], [], (0 : Int), (0 : Int), (0 : Int), (0 : Int), (0 : Int), (0 : Int), (0 : Int), (0 : Int), (0 : Int), [], (0 : Int), (0 : Int), (0 : Int), [], [], [], false, ())
  else bif !d0c1 then
    some ((0 : Int), false, (0 : Int), (0 : Int), [], [], [], [], (0 : Int), (0 : Int), (0 : Int), (0 : Int), (0 : Int), (0 : Int), (0 : Int), (0 : Int), (0 : Int), [], (0 : Int), (0 : Int), (0 : Int), [], [], [], false, ())
  else
    Option.bind (spec_l14Copy d0c0 d0c1 d0c2 d0c3 d0c4 d0c5 d0c6 d0c7 d0c8 d0c9 d0c10 d0c11 d0c12 d0c13 d0c14 d0c15 d0c16 d0c17 d0c18 d0c19 d0c20 d0c21 d0c22 d0c23) fun y2 =>
    some (y2.1, false, y2.2.2.1, y2.2.2.2.1, y2.2.2.2.2.1, y2.2.2.2.2.2.1, y2.2.2.2.2.2.2.1, y2.2.2.2.2.2.2.2.1, y2.2.2.2.2.2.2.2.2.1, y2.2.2.2.2.2.2.2.2.2.1, y2.2.2.2.2.2.2.2.2.2.2.1, y2.2.2.2.2.2.2.2.2.2.2.2.1, y2.2.2.2.2.2.2.2.2.2.2.2.2.1, y2.2.2.2.2.2.2.2.2.2.2.2.2.2.1, y2.2.2.2.2.2.2.2.2.2.2.2.2.2.2.1, y2.2.2.2.2.2.2.2.2.2.2.2.2.2.2.2.1, y2.2.2.2.2.2.2.2.2.2.2.2.2.2.2.2.2.1, y2.2.2.2.2.2.2.2.2.2.2.2.2.2.2.2.2.2.1, y2.2.2.2.2.2.2.2.2.2.2.2.2.2.2.2.2.2.2.1, y2.2.2.2.2.2.2.2.2.2.2.2.2.2.2.2.2.2.2.2.1, y2.2.2.2.2.2.2.2.2.2.2.2.2.2.2.2.2.2.2.2.2.1, y2.2.2.2.2.2.2.2.2.2.2.2.2.2.2.2.2.2.2.2.2.2.1, y2.2.2.2.2.2.2.2.2.2.2.2.2.2.2.2.2.2.2.2.2.2.2.1, y2.2.2.2.2.2.2.2.2.2.2.2.2.2.2.2.2.2.2.2.2.2.2.2.1, true, ())
noncomputable def x6 (x : Int × Bool × Int × Int × (List (Int × Unit)) × (List R_iiis) × (List (Int × Unit)) × (List (ByteArray × Unit)) × Int × Int × Int × Int × Int × Int × Int × Int × Int × (List (Int × Unit)) × Int × Int × Int × (List (Int × Unit)) × (List R_iiiLiiisE) × (List R_iiLiEiiisLiE) × Unit) : Option (Int × Bool × Int × Int × (List (Int × Unit)) × (List R_iiis) × (List (Int × Unit)) × (List (ByteArray × Unit)) × Int × Int × Int × Int × Int × Int × Int × Int × Int × (List (Int × Unit)) × Int × Int × Int × (List (Int × Unit)) × (List R_iiiLiiisE) × (List R_iiLiEiiisLiE) × Bool × Unit) := spec_Wake x.1 x.2.1 x.2.2.1 x.2.2.2.1 x.2.2.2.2.1 x.2.2.2.2.2.1 x.2.2.2.2.2.2.1 x.2.2.2.2.2.2.2.1 x.2.2.2.2.2.2.2.2.1 x.2.2.2.2.2.2.2.2.2.1 x.2.2.2.2.2.2.2.2.2.2.1 x.2.2.2.2.2.2.2.2.2.2.2.1 x.2.2.2.2.2.2.2.2.2.2.2.2.1 x.2.2.2.2.2.2.2.2.2.2.2.2.2.1 x.2.2.2.2.2.2.2.2.2.2.2.2.2.2.1 x.2.2.2.2.2.2.2.2.2.2.2.2.2.2.2.1 x.2.2.2.2.2.2.2.2.2.2.2.2.2.2.2.2.1 x.2.2.2.2.2.2.2.2.2.2.2.2.2.2.2.2.2.1 x.2.2.2.2.2.2.2.2.2.2.2.2.2.2.2.2.2.2.1 x.2.2.2.2.2.2.2.2.2.2.2.2.2.2.2.2.2.2.2.1 x.2.2.2.2.2.2.2.2.2.2.2.2.2.2.2.2.2.2.2.2.1 x.2.2.2.2.2.2.2.2.2.2.2.2.2.2.2.2.2.2.2.2.2.1 x.2.2.2.2.2.2.2.2.2.2.2.2.2.2.2.2.2.2.2.2.2.2.1 x.2.2.2.2.2.2.2.2.2.2.2.2.2.2.2.2.2.2.2.2.2.2.2.1
noncomputable def sem6 : Sem1 := semOf ps6 rs6 x6
theorem so6 : SemsOk Tryz.prog (semsOf sl6) := sems_cons k18 (sems_cons k19 (sems_nil))
theorem t6_eq (x : denR (headRT (ps6.map some))) : codeK (tabOf tr) (semsOf sl6) D6 L6 code6 (start 18 ps6 x) (finK rs6 ps6) = x6 x := by kernel_rfl
theorem k6 : Known Tryz.prog 6 sem6 :=
  fn_auto tr_ok eq_ok mixed_ok so6 (D := D6) (code := code6) (n := 18) Tryz.func6 (by kernel_rfl) (by kernel_rfl) (by kernel_rfl) (fun w0 mu _ hs => (loops_of (l := []) (by kernel_rfl) (List.forall_mem_nil _))) t6_eq

/-! ### f63: impl.inRange -/
noncomputable def code63 : Code := match Tryz.f63.body with | some c => c | none => .skip
def ps63 : List AP := [.val false [.int .i64], .val false [.int .i64], .val false [.int .i64]]
def rs63 : List RP := [{ src := .tmp 6, agg := false, ps := [.bool] }]
noncomputable def sl63 : SemL := []
def D63 : Draws := fun _ => .nil
noncomputable def L63 {R : Type} : Loops R := fun _ _ _ _ => none
noncomputable def impl_inRange (n0 : Int) (least1 : Int) (most2 : Int) : Option (Bool × Unit) :=
  bif decide (least1 ≤ n0) then
    some (decide (n0 ≤ most2), ())
  else
    some (false, ())
noncomputable def x63 (x : Int × Int × Int × Unit) : Option (Bool × Unit) := impl_inRange x.1 x.2.1 x.2.2.1
noncomputable def sem63 : Sem1 := semOf ps63 rs63 x63
theorem so63 : SemsOk Tryz.prog (semsOf sl63) := sems_nil
theorem t63_eq (x : denR (headRT (ps63.map some))) : codeK (tabOf tr) (semsOf sl63) D63 L63 code63 (start 15 ps63 x) (finK rs63 ps63) = x63 x := by kernel_rfl
theorem k63 : Known Tryz.prog 63 sem63 :=
  fn_auto tr_ok eq_ok mixed_ok so63 (D := D63) (code := code63) (n := 15) Tryz.func63 (by kernel_rfl) (by kernel_rfl) (by kernel_rfl) (fun w0 mu _ hs => (loops_of (l := []) (by kernel_rfl) (List.forall_mem_nil _))) t63_eq

/-! ### f62: impl.isDaemon -/
noncomputable def code62 : Code := match Tryz.f62.body with | some c => c | none => .skip
def ps62 : List AP := [.val false [.int .i64]]
def rs62 : List RP := [{ src := .tmp 2, agg := false, ps := [.bool] }]
noncomputable def sl62 : SemL := [(63, (.shr, .shr, .shr, sem63))]
def D62 : Draws := fun _ => .nil
noncomputable def L62 {R : Type} : Loops R := fun _ _ _ _ => none
noncomputable def impl_isDaemon (n0 : Int) : Option (Bool × Unit) :=
  Option.bind (impl_inRange n0 (1 : Int) (5 : Int)) fun y1 =>
  some (y1.1, ())
noncomputable def x62 (x : Int × Unit) : Option (Bool × Unit) := impl_isDaemon x.1
noncomputable def sem62 : Sem1 := semOf ps62 rs62 x62
theorem so62 : SemsOk Tryz.prog (semsOf sl62) := sems_cons k63 (sems_nil)
theorem t62_eq (x : denR (headRT (ps62.map some))) : codeK (tabOf tr) (semsOf sl62) D62 L62 code62 (start 5 ps62 x) (finK rs62 ps62) = x62 x := by kernel_rfl
theorem k62 : Known Tryz.prog 62 sem62 :=
  fn_auto tr_ok eq_ok mixed_ok so62 (D := D62) (code := code62) (n := 5) Tryz.func62 (by kernel_rfl) (by kernel_rfl) (by kernel_rfl) (fun w0 mu _ hs => (loops_of (l := []) (by kernel_rfl) (List.forall_mem_nil _))) t62_eq

/-! ### f65: impl.Ring).isNone -/
noncomputable def code65 : Code := match Tryz.f65.body with | some c => c | none => .skip
def ps65 : List AP := [.val true [.int .i64, .shr T_i]]
def rs65 : List RP := [{ src := .tmp 2, agg := false, ps := [.bool] }]
noncomputable def sl65 : SemL := []
def D65 : Draws := fun _ => .nil
noncomputable def L65 {R : Type} : Loops R := fun _ _ _ _ => none
noncomputable def impl_Ring_isNone (r0c0 : Int) (r0c1 : List (Int × Unit)) : Option (Bool × Unit) :=
  bif decide (r0c0 = (0 : Int)) then
    some (decide (((List.length r0c1 : Nat) : Int) = (0 : Int)), ())
  else
    some (false, ())
noncomputable def x65 (x : Int × (List (Int × Unit)) × Unit) : Option (Bool × Unit) := impl_Ring_isNone x.1 x.2.1
noncomputable def sem65 : Sem1 := semOf ps65 rs65 x65
theorem so65 : SemsOk Tryz.prog (semsOf sl65) := sems_nil
theorem t65_eq (x : denR (headRT (ps65.map some))) : codeK (tabOf tr) (semsOf sl65) D65 L65 code65 (start 12 ps65 x) (finK rs65 ps65) = x65 x := by kernel_rfl
theorem k65 : Known Tryz.prog 65 sem65 :=
  fn_auto tr_ok eq_ok mixed_ok so65 (D := D65) (code := code65) (n := 12) Tryz.func65 (by kernel_rfl) (by kernel_rfl) (by kernel_rfl) (fun w0 mu _ hs => (loops_of (l := []) (by kernel_rfl) (List.forall_mem_nil _))) t65_eq

/-! ### f97: impl.Token).isZero -/
noncomputable def code97 : Code := match Tryz.f97.body with | some c => c | none => .skip
def ps97 : List AP := [.val true [.int .i64, .int .i64, .int .i64, .int .i64, .int .i64, .shr T_i]]
def rs97 : List RP := [{ src := .tmp 2, agg := false, ps := [.bool] }]
noncomputable def sl97 : SemL := []
def D97 : Draws := fun _ => .nil
noncomputable def L97 {R : Type} : Loops R := fun _ _ _ _ => none
noncomputable def impl_Token_isZero (t0c0 : Int) (t0c1 : Int) (t0c2 : Int) (t0c3 : Int) (t0c4 : Int) (t0c5 : List (Int × Unit)) : Option (Bool × Unit) :=
  bif decide (t0c0 = (0 : Int)) then
    bif decide (t0c1 = (0 : Int)) then
      bif decide (t0c2 = (0 : Int)) then
        bif decide (t0c3 = (0 : Int)) then
          bif decide (t0c4 = (0 : Int)) then
            some (decide (((List.length t0c5 : Nat) : Int) = (0 : Int)), ())
          else
            some (false, ())
        else
          some (false, ())
      else
        some (false, ())
    else
      some (false, ())
  else
    some (false, ())
noncomputable def x97 (x : Int × Int × Int × Int × Int × (List (Int × Unit)) × Unit) : Option (Bool × Unit) := impl_Token_isZero x.1 x.2.1 x.2.2.1 x.2.2.2.1 x.2.2.2.2.1 x.2.2.2.2.2.1
noncomputable def sem97 : Sem1 := semOf ps97 rs97 x97
theorem so97 : SemsOk Tryz.prog (semsOf sl97) := sems_nil
theorem t97_eq (x : denR (headRT (ps97.map some))) : codeK (tabOf tr) (semsOf sl97) D97 L97 code97 (start 32 ps97 x) (finK rs97 ps97) = x97 x := by kernel_rfl
theorem k97 : Known Tryz.prog 97 sem97 :=
  fn_auto tr_ok eq_ok mixed_ok so97 (D := D97) (code := code97) (n := 32) Tryz.func97 (by kernel_rfl) (by kernel_rfl) (by kernel_rfl) (fun w0 mu _ hs => (loops_of (l := []) (by kernel_rfl) (List.forall_mem_nil _))) t97_eq

/-! ### f64: impl.Mate).isNone -/
noncomputable def code64 : Code := match Tryz.f64.body with | some c => c | none => .skip
def ps64 : List AP := [.val true [.int .i64, .int .i64, .shr T_i, .shr T_iiis, .shr T_i, .shr T_s, .int .i64, .int .i64, .int .i64, .int .i64, .int .i64, .int .i64, .int .i64, .int .i64, .int .i64, .shr T_i]]
def rs64 : List RP := [{ src := .tmp 2, agg := false, ps := [.bool] }]
noncomputable def sl64 : SemL := [(65, (.shr, .shr, .shr, sem65)), (97, (.shr, .shr, .shr, sem97))]
def D64 : Draws := fun _ => .nil
noncomputable def L64 {R : Type} : Loops R := fun _ _ _ _ => none
noncomputable def impl_Mate_isNone (m0c0 : Int) (m0c1 : Int) (m0c2 : List (Int × Unit)) (m0c3 : List R_iiis) (m0c4 : List (Int × Unit)) (m0c5 : List (ByteArray × Unit)) (m0c6 : Int) (m0c7 : Int) (m0c8 : Int) (m0c9 : Int) (m0c10 : Int) (m0c11 : Int) (m0c12 : Int) (m0c13 : Int) (m0c14 : Int) (m0c15 : List (Int × Unit)) : Option (Bool × Unit) :=
  bif !decide (m0c0 = (0 : Int)) then
    some (false, ())
  else
    Option.bind (impl_Ring_isNone m0c1 m0c2) fun y1 =>
    bif !y1.1 then
      some (false, ())
    else bif !decide (m0c6 = (0 : Int)) then
      some (false, ())
    else bif !decide (m0c7 = (0 : Int)) then
      some (false, ())
    else bif !decide (m0c8 = (0 : Int)) then
      some (false, ())
    else bif !decide (m0c9 = (0 : Int)) then
      some (false, ())
    else bif decide (((List.length m0c3 : Nat) : Int) = (0 : Int)) then
      bif decide (((List.length m0c4 : Nat) : Int) = (0 : Int)) then
        bif decide (((List.length m0c5 : Nat) : Int) = (0 : Int)) then
          Option.bind (impl_Token_isZero m0c10 m0c11 m0c12 m0c13 m0c14 m0c15) fun y2 =>
          some (y2.1, ())
        else
          some (false, ())
      else
        some (false, ())
    else
      some (false, ())
noncomputable def x64 (x : Int × Int × (List (Int × Unit)) × (List R_iiis) × (List (Int × Unit)) × (List (ByteArray × Unit)) × Int × Int × Int × Int × Int × Int × Int × Int × Int × (List (Int × Unit)) × Unit) : Option (Bool × Unit) := impl_Mate_isNone x.1 x.2.1 x.2.2.1 x.2.2.2.1 x.2.2.2.2.1 x.2.2.2.2.2.1 x.2.2.2.2.2.2.1 x.2.2.2.2.2.2.2.1 x.2.2.2.2.2.2.2.2.1 x.2.2.2.2.2.2.2.2.2.1 x.2.2.2.2.2.2.2.2.2.2.1 x.2.2.2.2.2.2.2.2.2.2.2.1 x.2.2.2.2.2.2.2.2.2.2.2.2.1 x.2.2.2.2.2.2.2.2.2.2.2.2.2.1 x.2.2.2.2.2.2.2.2.2.2.2.2.2.2.1 x.2.2.2.2.2.2.2.2.2.2.2.2.2.2.2.1
noncomputable def sem64 : Sem1 := semOf ps64 rs64 x64
theorem so64 : SemsOk Tryz.prog (semsOf sl64) := sems_cons k65 (sems_cons k97 (sems_nil))
theorem t64_eq (x : denR (headRT (ps64.map some))) : codeK (tabOf tr) (semsOf sl64) D64 L64 code64 (start 53 ps64 x) (finK rs64 ps64) = x64 x := by kernel_rfl
theorem k64 : Known Tryz.prog 64 sem64 :=
  fn_auto tr_ok eq_ok mixed_ok so64 (D := D64) (code := code64) (n := 53) Tryz.func64 (by kernel_rfl) (by kernel_rfl) (by kernel_rfl) (fun w0 mu _ hs => (loops_of (l := []) (by kernel_rfl) (List.forall_mem_nil _))) t64_eq

/-! ### f115: slices.Index[[]int,int] -/
noncomputable def code115 : Code := match Tryz.f115.body with | some c => c | none => .skip
def ps115 : List AP := [.val false [.shr T_i], .val false [.int .i64]]
def rs115 : List RP := [{ src := .tmp 4, agg := false, ps := [.int .i64] }]
noncomputable def sl115 : SemL := []
def D115 : Draws := fun _ => .nil
def hp115_0 : List (Option AP) := [some (.val false [.shr T_i]), some (.val false [.int .i64]), none, none, none, none, none, some (.val false [.int .i64]), some (.val false [.int .i64]), none, none, none, none, none, none, none, none, none, none, none]
def e115_0 : List (Option AP) := [none, none, none, none, none, none, none, none, none, none, none, none, none, none, none, none, none, none, none, none]
def q115_0 : List (Option AP) := [none, none, none, none, some (.val false [.int .i64]), none, none, none, none, none, none, none, none, none, none, none, none, none, none, none]
abbrev H115_0 : Type := (List (Int × Unit)) × Int × Int × Int × Unit
abbrev E115_0 : Type := Unit
abbrev Q115_0 : Type := Int × Unit
noncomputable def slices_Index_int_c0 (s0 : List (Int × Unit)) (v1 : Int) (t7 : Int) (t8 : Int) : Option (Sum H115_0 (Sum E115_0 Q115_0)) :=
  bif decide (t8 < t7) then
    bif decide ((0 : Int) ≤ t8) then Option.bind ((s0)[Int.toNat t8]?) fun r1 =>
      bif decide (v1 = r1.1) then
        some (.inr (.inr (t8, ())))
      else
        some (.inl (s0, v1, t7, IntKind.i64.wrap (t8 + (1 : Int)), ()))
    else none
  else
    some (.inr (.inl (())))
noncomputable def slices_Index_int_r0 (x : H115_0) : Option (Sum H115_0 (Sum E115_0 Q115_0)) := slices_Index_int_c0 x.1 x.2.1 x.2.2.1 x.2.2.2.1
noncomputable def L115 {R : Type} : Loops R := fun id _ st k => bif Nat.beq id 0 then loopAt hp115_0 e115_0 q115_0 slices_Index_int_r0 st k else none
noncomputable def slices_Index_int (s0 : List (Int × Unit)) (v1 : Int) : Option (Int × Unit) :=
  outK (loopV slices_Index_int_r0 (s0, v1, ((List.length s0 : Nat) : Int), (0 : Int), ())) (fun y1 =>
    some ((-1 : Int), ())) (fun y2 =>
    some (y2.1, ()))
noncomputable def x115 (x : (List (Int × Unit)) × Int × Unit) : Option (Int × Unit) := slices_Index_int x.1 x.2.1
noncomputable def sem115 : Sem1 := semOf ps115 rs115 x115
theorem so115 : SemsOk Tryz.prog (semsOf sl115) := sems_nil
noncomputable def b115_0 : Code := nthLoop code115 0
theorem t115_r0_eq (x : denR (headRT hp115_0)) : codeK (tabOf tr) (semsOf sl115) D115 L115 b115_0 (headSt hp115_0 x) (roundK 0 hp115_0 e115_0 q115_0) = slices_Index_int_r0 x := by kernel_rfl
theorem loop115_0 {R : Type} (r : R) (w0 : World) (mu : Mu) (hs : AnShape ps115 mu) : LoopAt Tryz.prog w0 mu 19 (L115 : Loops R) r 0 b115_0 :=
  loop_auto tr_ok eq_ok mixed_ok so115 (D := D115) hs (by kernel_rfl) (fun _ => (loops_of (l := []) (by kernel_rfl) (List.forall_mem_nil _))) t115_r0_eq (fun _ _ => rfl)
theorem t115_eq (x : denR (headRT (ps115.map some))) : codeK (tabOf tr) (semsOf sl115) D115 L115 code115 (start 19 ps115 x) (finK rs115 ps115) = x115 x := by kernel_rfl
theorem k115 : Known Tryz.prog 115 sem115 :=
  fn_auto tr_ok eq_ok mixed_ok so115 (D := D115) (code := code115) (n := 19) Tryz.func115 (by kernel_rfl) (by kernel_rfl) (by kernel_rfl) (fun w0 mu _ hs => (loops_of (l := [(0, b115_0)]) (by kernel_rfl) (List.forall_mem_cons.2 ⟨loop115_0 _ w0 mu hs, (List.forall_mem_nil _)⟩))) t115_eq

/-! ### f98: slices.Contains[[]int,int] -/
noncomputable def code98 : Code := match Tryz.f98.body with | some c => c | none => .skip
def ps98 : List AP := [.val false [.shr T_i], .val false [.int .i64]]
def rs98 : List RP := [{ src := .tmp 4, agg := false, ps := [.bool] }]
noncomputable def sl98 : SemL := [(115, (.shr, .shr, .shr, sem115))]
def D98 : Draws := fun _ => .nil
noncomputable def L98 {R : Type} : Loops R := fun _ _ _ _ => none
noncomputable def slices_Contains_int (s0 : List (Int × Unit)) (v1 : Int) : Option (Bool × Unit) :=
  Option.bind (slices_Index_int s0 v1) fun y1 =>
  some (decide ((0 : Int) ≤ y1.1), ())
noncomputable def x98 (x : (List (Int × Unit)) × Int × Unit) : Option (Bool × Unit) := slices_Contains_int x.1 x.2.1
noncomputable def sem98 : Sem1 := semOf ps98 rs98 x98
theorem so98 : SemsOk Tryz.prog (semsOf sl98) := sems_cons k115 (sems_nil)
theorem t98_eq (x : denR (headRT (ps98.map some))) : codeK (tabOf tr) (semsOf sl98) D98 L98 code98 (start 9 ps98 x) (finK rs98 ps98) = x98 x := by kernel_rfl
theorem k98 : Known Tryz.prog 98 sem98 :=
  fn_auto tr_ok eq_ok mixed_ok so98 (D := D98) (code := code98) (n := 9) Tryz.func98 (by kernel_rfl) (by kernel_rfl) (by kernel_rfl) (fun w0 mu _ hs => (loops_of (l := []) (by kernel_rfl) (List.forall_mem_nil _))) t98_eq

/-! ### f99: impl.RingOk -/
noncomputable def code99 : Code := match Tryz.f99.body with | some c => c | none => .skip
def ps99 : List AP := [.val true [.int .i64, .shr T_i]]
def rs99 : List RP := [{ src := .tmp 2, agg := false, ps := [.bool] }]
noncomputable def sl99 : SemL := [(63, (.shr, .shr, .shr, sem63)), (62, (.shr, .shr, .shr, sem62))]
def D99 : Draws := fun _ => .nil
def hp99_0 : List (Option AP) := [none, some (.box false [.int .i64, .shr T_i]), none, none, none, none, none, none, none, none, none, none, none, none, none, none, none, some (.val false [.shr T_i]), some (.val false [.int .i64]), some (.val false [.int .i64]), none, none, none, none, none, none, none, none, none, none, none, none, none, none, none, none, none, none, none, none, none, none, none]
def e99_0 : List (Option AP) := [none, none, none, none, none, none, none, none, none, none, none, none, none, none, none, none, none, none, none, none, none, none, none, none, none, none, none, none, none, none, none, none, none, none, none, none, none, none, none, none, none, none, none]
def q99_0 : List (Option AP) := [none, none, some (.val false [.bool]), none, none, none, none, none, none, none, none, none, none, none, none, none, none, none, none, none, none, none, none, none, none, none, none, none, none, none, none, none, none, none, none, none, none, none, none, none, none, none, none]
abbrev H99_0 : Type := Int × (List (Int × Unit)) × (List (Int × Unit)) × Int × Int × Unit
abbrev E99_0 : Type := Unit
abbrev Q99_0 : Type := Bool × Unit
noncomputable def impl_RingOk_c0 (r1c0 : Int) (r1c1 : List (Int × Unit)) (t17 : List (Int × Unit)) (t18 : Int) (t19 : Int) : Option (Sum H99_0 (Sum E99_0 Q99_0)) :=
  bif decide (t19 < t18) then
    bif decide ((0 : Int) ≤ t19) then Option.bind ((t17)[Int.toNat t19]?) fun r3 =>
      Option.bind (impl_isDaemon r3.1) fun y4 =>
      bif !y4.1 then
        some (.inr (.inr (false, ())))
      else bif decide ((0 : Int) < t19) then
        bif decide ((0 : Int) ≤ IntKind.i64.wrap (t19 - (1 : Int))) then Option.bind ((r1c1)[Int.toNat (IntKind.i64.wrap (t19 - (1 : Int)))]?) fun r5 =>
          bif decide (r3.1 ≤ r5.1) then
            some (.inr (.inr (false, ())))
          else
            some (.inl (r1c0, r1c1, t17, t18, IntKind.i64.wrap (t19 + (1 : Int)), ()))
        else none
      else
        some (.inl (r1c0, r1c1, t17, t18, IntKind.i64.wrap (t19 + (1 : Int)), ()))
    else none
  else
    some (.inr (.inl (())))
noncomputable def impl_RingOk_r0 (x : H99_0) : Option (Sum H99_0 (Sum E99_0 Q99_0)) := impl_RingOk_c0 x.1 x.2.1 x.2.2.1 x.2.2.2.1 x.2.2.2.2.1
noncomputable def L99 {R : Type} : Loops R := fun id _ st k => bif Nat.beq id 0 then loopAt hp99_0 e99_0 q99_0 impl_RingOk_r0 st k else none
noncomputable def impl_RingOk (r0c0 : Int) (r0c1 : List (Int × Unit)) : Option (Bool × Unit) :=
  Option.bind (impl_inRange r0c0 (1 : Int) (9 : Int)) fun y1 =>
  bif !y1.1 then
    some (false, ())
  else
    Option.bind (impl_inRange ((List.length r0c1 : Nat) : Int) (1 : Int) (5 : Int)) fun y2 =>
    bif !y2.1 then
      some (false, ())
    else
      outK (loopV impl_RingOk_r0 (r0c0, r0c1, r0c1, ((List.length r0c1 : Nat) : Int), (0 : Int), ())) (fun y3 =>
        some (true, ())) (fun y4 =>
        some (y4.1, ()))
noncomputable def x99 (x : Int × (List (Int × Unit)) × Unit) : Option (Bool × Unit) := impl_RingOk x.1 x.2.1
noncomputable def sem99 : Sem1 := semOf ps99 rs99 x99
theorem so99 : SemsOk Tryz.prog (semsOf sl99) := sems_cons k63 (sems_cons k62 (sems_nil))
noncomputable def b99_0 : Code := nthLoop code99 0
theorem t99_r0_eq (x : denR (headRT hp99_0)) : codeK (tabOf tr) (semsOf sl99) D99 L99 b99_0 (headSt hp99_0 x) (roundK 0 hp99_0 e99_0 q99_0) = impl_RingOk_r0 x := by kernel_rfl
theorem loop99_0 {R : Type} (r : R) (w0 : World) (mu : Mu) (hs : AnShape ps99 mu) : LoopAt Tryz.prog w0 mu 42 (L99 : Loops R) r 0 b99_0 :=
  loop_auto tr_ok eq_ok mixed_ok so99 (D := D99) hs (by kernel_rfl) (fun _ => (loops_of (l := []) (by kernel_rfl) (List.forall_mem_nil _))) t99_r0_eq (fun _ _ => rfl)
theorem t99_eq (x : denR (headRT (ps99.map some))) : codeK (tabOf tr) (semsOf sl99) D99 L99 code99 (start 42 ps99 x) (finK rs99 ps99) = x99 x := by kernel_rfl
theorem k99 : Known Tryz.prog 99 sem99 :=
  fn_auto tr_ok eq_ok mixed_ok so99 (D := D99) (code := code99) (n := 42) Tryz.func99 (by kernel_rfl) (by kernel_rfl) (by kernel_rfl) (fun w0 mu _ hs => (loops_of (l := [(0, b99_0)]) (by kernel_rfl) (List.forall_mem_cons.2 ⟨loop99_0 _ w0 mu hs, (List.forall_mem_nil _)⟩))) t99_eq

/-! ### f87: impl.isLevel -/
noncomputable def code87 : Code := match Tryz.f87.body with | some c => c | none => .skip
def ps87 : List AP := [.val false [.int .i64]]
def rs87 : List RP := [{ src := .tmp 2, agg := false, ps := [.bool] }]
noncomputable def sl87 : SemL := []
def D87 : Draws := fun _ => .nil
noncomputable def L87 {R : Type} : Loops R := fun _ _ _ _ => none
noncomputable def impl_isLevel (n0 : Int) : Option (Bool × Unit) :=
  bif decide (n0 = (1 : Int)) then
    some (true, ())
  else
    some (decide (n0 = (2 : Int)), ())
noncomputable def x87 (x : Int × Unit) : Option (Bool × Unit) := impl_isLevel x.1
noncomputable def sem87 : Sem1 := semOf ps87 rs87 x87
theorem so87 : SemsOk Tryz.prog (semsOf sl87) := sems_nil
theorem t87_eq (x : denR (headRT (ps87.map some))) : codeK (tabOf tr) (semsOf sl87) D87 L87 code87 (start 9 ps87 x) (finK rs87 ps87) = x87 x := by kernel_rfl
theorem k87 : Known Tryz.prog 87 sem87 :=
  fn_auto tr_ok eq_ok mixed_ok so87 (D := D87) (code := code87) (n := 9) Tryz.func87 (by kernel_rfl) (by kernel_rfl) (by kernel_rfl) (fun w0 mu _ hs => (loops_of (l := []) (by kernel_rfl) (List.forall_mem_nil _))) t87_eq

/-! ### f116: impl.ItemOk -/
noncomputable def code116 : Code := match Tryz.f116.body with | some c => c | none => .skip
def ps116 : List AP := [.val true [.int .i64, .int .i64, .int .i64, .str]]
def rs116 : List RP := [{ src := .tmp 2, agg := false, ps := [.bool] }]
noncomputable def sl116 : SemL := [(63, (.shr, .shr, .shr, sem63)), (62, (.shr, .shr, .shr, sem62)), (87, (.shr, .shr, .shr, sem87))]
def D116 : Draws := fun _ => .nil
noncomputable def L116 {R : Type} : Loops R := fun _ _ _ _ => none
noncomputable def impl_ItemOk (m0c0 : Int) (m0c1 : Int) (m0c2 : Int) (m0c3 : ByteArray) : Option (Bool × Unit) :=
  Option.bind (impl_inRange m0c0 (1 : Int) (60 : Int)) fun y1 =>
  bif y1.1 then
    Option.bind (impl_isDaemon m0c1) fun y2 =>
    bif y2.1 then
      Option.bind (impl_isLevel m0c2) fun y3 =>
      bif y3.1 then
        some (decide (((ByteArray.size m0c3 : Nat) : Int) ≤ (60 : Int)), ())
      else
        some (false, ())
    else
      some (false, ())
  else
    some (false, ())
noncomputable def x116 (x : Int × Int × Int × ByteArray × Unit) : Option (Bool × Unit) := impl_ItemOk x.1 x.2.1 x.2.2.1 x.2.2.2.1
noncomputable def sem116 : Sem1 := semOf ps116 rs116 x116
theorem so116 : SemsOk Tryz.prog (semsOf sl116) := sems_cons k63 (sems_cons k62 (sems_cons k87 (sems_nil)))
theorem t116_eq (x : denR (headRT (ps116.map some))) : codeK (tabOf tr) (semsOf sl116) D116 L116 code116 (start 22 ps116 x) (finK rs116 ps116) = x116 x := by kernel_rfl
theorem k116 : Known Tryz.prog 116 sem116 :=
  fn_auto tr_ok eq_ok mixed_ok so116 (D := D116) (code := code116) (n := 22) Tryz.func116 (by kernel_rfl) (by kernel_rfl) (by kernel_rfl) (fun w0 mu _ hs => (loops_of (l := []) (by kernel_rfl) (List.forall_mem_nil _))) t116_eq

/-! ### f100: impl.ItemsOk -/
noncomputable def code100 : Code := match Tryz.f100.body with | some c => c | none => .skip
def ps100 : List AP := [.val false [.shr T_iiis]]
def rs100 : List RP := [{ src := .tmp 2, agg := false, ps := [.bool] }]
noncomputable def sl100 : SemL := [(116, (.shr, .shr, .shr, sem116))]
def D100 : Draws := fun id => bif Nat.beq id 4 then .op 0 .take (.op 1 .one (.op 2 .any (.op 3 .any (.op 4 .any (.op 5 .any (.op 6 .any (.op 7 .any (.op 8 .take (.op 9 .any (.op 10 .any (.op 11 .any (.op 12 .any (.op 13 .any (.op 14 .take (.op 15 .any (.op 16 .any (.op 17 .any (.nil)))))))))))))))))) else .nil
def hp100_0 : List (Option AP) := [some (.val false [.shr T_iiis]), none, none, none, none, some (.val false [.shr T_iiis]), some (.val false [.int .i64]), some (.val false [.int .i64]), none, none, none, none, none, none, none, none, none, none, none, none, none, none, none, none, none, none, none, none, none, none, none, none]
def e100_0 : List (Option AP) := [none, none, none, none, none, none, none, none, none, none, none, none, none, none, none, none, none, none, none, none, none, none, none, none, none, none, none, none, none, none, none, none]
def q100_0 : List (Option AP) := [none, none, some (.val false [.bool]), none, none, none, none, none, none, none, none, none, none, none, none, none, none, none, none, none, none, none, none, none, none, none, none, none, none, none, none, none]
abbrev H100_0 : Type := (List R_iiis) × (List R_iiis) × Int × Int × Unit
abbrev E100_0 : Type := Unit
abbrev Q100_0 : Type := Bool × Unit
noncomputable def impl_ItemsOk_c0 (list0 : List R_iiis) (t5 : List R_iiis) (t6 : Int) (t7 : Int) : Option (Sum H100_0 (Sum E100_0 Q100_0)) :=
  bif decide (t7 < t6) then
    bif decide ((0 : Int) ≤ t7) then Option.bind ((t5)[Int.toNat t7]?) fun r1 =>
      Option.bind (impl_ItemOk r1.1 r1.2.1 r1.2.2.1 r1.2.2.2.1) fun y2 =>
      bif !y2.1 then
        some (.inr (.inr (false, ())))
      else bif decide ((0 : Int) < t7) then
        bif decide ((0 : Int) ≤ IntKind.i64.wrap (t7 - (1 : Int))) then Option.bind ((list0)[Int.toNat (IntKind.i64.wrap (t7 - (1 : Int)))]?) fun r3 =>
          bif decide (r1.1 ≤ r3.1) then
            some (.inr (.inr (false, ())))
          else
            some (.inl (list0, t5, t6, IntKind.i64.wrap (t7 + (1 : Int)), ()))
        else none
      else
        some (.inl (list0, t5, t6, IntKind.i64.wrap (t7 + (1 : Int)), ()))
    else none
  else
    some (.inr (.inl (())))
noncomputable def impl_ItemsOk_r0 (x : H100_0) : Option (Sum H100_0 (Sum E100_0 Q100_0)) := impl_ItemsOk_c0 x.1 x.2.1 x.2.2.1 x.2.2.2.1
noncomputable def L100 {R : Type} : Loops R := fun id _ st k => bif Nat.beq id 0 then loopAt hp100_0 e100_0 q100_0 impl_ItemsOk_r0 st k else none
noncomputable def impl_ItemsOk (list0 : List R_iiis) : Option (Bool × Unit) :=
  outK (loopV impl_ItemsOk_r0 (list0, list0, ((List.length list0 : Nat) : Int), (0 : Int), ())) (fun y1 =>
    some (true, ())) (fun y2 =>
    some (y2.1, ()))
noncomputable def x100 (x : (List R_iiis) × Unit) : Option (Bool × Unit) := impl_ItemsOk x.1
noncomputable def sem100 : Sem1 := semOf ps100 rs100 x100
theorem so100 : SemsOk Tryz.prog (semsOf sl100) := sems_cons k116 (sems_nil)
noncomputable def b100_0 : Code := nthLoop code100 0
theorem t100_r0_eq (x : denR (headRT hp100_0)) : codeK (tabOf tr) (semsOf sl100) D100 L100 b100_0 (headSt hp100_0 x) (roundK 0 hp100_0 e100_0 q100_0) = impl_ItemsOk_r0 x := by kernel_rfl
theorem loop100_0 {R : Type} (r : R) (w0 : World) (mu : Mu) (hs : AnShape ps100 mu) : LoopAt Tryz.prog w0 mu 31 (L100 : Loops R) r 0 b100_0 :=
  loop_auto tr_ok eq_ok mixed_ok so100 (D := D100) hs (by kernel_rfl) (fun _ => (loops_of (l := []) (by kernel_rfl) (List.forall_mem_nil _))) t100_r0_eq (fun _ _ => rfl)
theorem t100_eq (x : denR (headRT (ps100.map some))) : codeK (tabOf tr) (semsOf sl100) D100 L100 code100 (start 31 ps100 x) (finK rs100 ps100) = x100 x := by kernel_rfl
theorem k100 : Known Tryz.prog 100 sem100 :=
  fn_auto tr_ok eq_ok mixed_ok so100 (D := D100) (code := code100) (n := 31) Tryz.func100 (by kernel_rfl) (by kernel_rfl) (by kernel_rfl) (fun w0 mu _ hs => (loops_of (l := [(0, b100_0)]) (by kernel_rfl) (List.forall_mem_cons.2 ⟨loop100_0 _ w0 mu hs, (List.forall_mem_nil _)⟩))) t100_eq

/-! ### f101: impl.areShort -/
noncomputable def code101 : Code := match Tryz.f101.body with | some c => c | none => .skip
def ps101 : List AP := [.val false [.shr T_s]]
def rs101 : List RP := [{ src := .tmp 2, agg := false, ps := [.bool] }]
noncomputable def sl101 : SemL := []
def D101 : Draws := fun _ => .nil
def hp101_0 : List (Option AP) := [none, none, none, none, none, some (.val false [.shr T_s]), some (.val false [.int .i64]), some (.val false [.int .i64]), none, none, none, none, none, none, none, none]
def e101_0 : List (Option AP) := [none, none, none, none, none, none, none, none, none, none, none, none, none, none, none, none]
def q101_0 : List (Option AP) := [none, none, some (.val false [.bool]), none, none, none, none, none, none, none, none, none, none, none, none, none]
abbrev H101_0 : Type := (List (ByteArray × Unit)) × Int × Int × Unit
abbrev E101_0 : Type := Unit
abbrev Q101_0 : Type := Bool × Unit
noncomputable def impl_areShort_c0 (t5 : List (ByteArray × Unit)) (t6 : Int) (t7 : Int) : Option (Sum H101_0 (Sum E101_0 Q101_0)) :=
  bif decide (t7 < t6) then
    bif decide ((0 : Int) ≤ t7) then Option.bind ((t5)[Int.toNat t7]?) fun r1 =>
      bif decide ((60 : Int) < ((ByteArray.size r1.1 : Nat) : Int)) then
        some (.inr (.inr (false, ())))
      else
        some (.inl (t5, t6, IntKind.i64.wrap (t7 + (1 : Int)), ()))
    else none
  else
    some (.inr (.inl (())))
noncomputable def impl_areShort_r0 (x : H101_0) : Option (Sum H101_0 (Sum E101_0 Q101_0)) := impl_areShort_c0 x.1 x.2.1 x.2.2.1
noncomputable def L101 {R : Type} : Loops R := fun id _ st k => bif Nat.beq id 0 then loopAt hp101_0 e101_0 q101_0 impl_areShort_r0 st k else none
noncomputable def impl_areShort (list0 : List (ByteArray × Unit)) : Option (Bool × Unit) :=
  outK (loopV impl_areShort_r0 (list0, ((List.length list0 : Nat) : Int), (0 : Int), ())) (fun y1 =>
    some (true, ())) (fun y2 =>
    some (y2.1, ()))
noncomputable def x101 (x : (List (ByteArray × Unit)) × Unit) : Option (Bool × Unit) := impl_areShort x.1
noncomputable def sem101 : Sem1 := semOf ps101 rs101 x101
theorem so101 : SemsOk Tryz.prog (semsOf sl101) := sems_nil
noncomputable def b101_0 : Code := nthLoop code101 0
theorem t101_r0_eq (x : denR (headRT hp101_0)) : codeK (tabOf tr) (semsOf sl101) D101 L101 b101_0 (headSt hp101_0 x) (roundK 0 hp101_0 e101_0 q101_0) = impl_areShort_r0 x := by kernel_rfl
theorem loop101_0 {R : Type} (r : R) (w0 : World) (mu : Mu) (hs : AnShape ps101 mu) : LoopAt Tryz.prog w0 mu 15 (L101 : Loops R) r 0 b101_0 :=
  loop_auto tr_ok eq_ok mixed_ok so101 (D := D101) hs (by kernel_rfl) (fun _ => (loops_of (l := []) (by kernel_rfl) (List.forall_mem_nil _))) t101_r0_eq (fun _ _ => rfl)
theorem t101_eq (x : denR (headRT (ps101.map some))) : codeK (tabOf tr) (semsOf sl101) D101 L101 code101 (start 15 ps101 x) (finK rs101 ps101) = x101 x := by kernel_rfl
theorem k101 : Known Tryz.prog 101 sem101 :=
  fn_auto tr_ok eq_ok mixed_ok so101 (D := D101) (code := code101) (n := 15) Tryz.func101 (by kernel_rfl) (by kernel_rfl) (by kernel_rfl) (fun w0 mu _ hs => (loops_of (l := [(0, b101_0)]) (by kernel_rfl) (List.forall_mem_cons.2 ⟨loop101_0 _ w0 mu hs, (List.forall_mem_nil _)⟩))) t101_eq

/-! ### f117: impl.ItemAt -/
noncomputable def code117 : Code := match Tryz.f117.body with | some c => c | none => .skip
def ps117 : List AP := [.val false [.shr T_iiis], .val false [.int .i64]]
def rs117 : List RP := [{ src := .cell 4, agg := true, ps := [.int .i64, .int .i64, .int .i64, .str] }, { src := .tmp 5, agg := false, ps := [.bool] }]
noncomputable def sl117 : SemL := []
def D117 : Draws := fun _ => .nil
def hp117_0 : List (Option AP) := [none, some (.val false [.int .i64]), none, none, some (.box false [.int .i64, .int .i64, .int .i64, .str]), none, none, none, some (.val false [.shr T_iiis]), some (.val false [.int .i64]), some (.val false [.int .i64]), none, none, none, none, none, none, none, none, none, none, none]
def e117_0 : List (Option AP) := [none, none, none, none, some (.box false [.int .i64, .int .i64, .int .i64, .str]), none, none, none, none, none, none, none, none, none, none, none, none, none, none, none, none, none]
def q117_0 : List (Option AP) := [none, none, none, none, some (.box false [.int .i64, .int .i64, .int .i64, .str]), some (.val false [.bool]), none, none, none, none, none, none, none, none, none, none, none, none, none, none, none, none]
abbrev H117_0 : Type := Int × Int × Int × Int × ByteArray × (List R_iiis) × Int × Int × Unit
abbrev E117_0 : Type := Int × Int × Int × ByteArray × Unit
abbrev Q117_0 : Type := Int × Int × Int × ByteArray × Bool × Unit
noncomputable def impl_ItemAt_c0 (seq1 : Int) (t4c0 : Int) (t4c1 : Int) (t4c2 : Int) (t4c3 : ByteArray) (t8 : List R_iiis) (t9 : Int) (t10 : Int) : Option (Sum H117_0 (Sum E117_0 Q117_0)) :=
  bif decide (t10 < t9) then
    bif decide ((0 : Int) ≤ t10) then Option.bind ((t8)[Int.toNat t10]?) fun r1 =>
      bif decide (r1.1 = seq1) then
        some (.inr (.inr (r1.1, r1.2.1, r1.2.2.1, r1.2.2.2.1, true, ())))
      else
        some (.inl (seq1, t4c0, t4c1, t4c2, t4c3, t8, t9, IntKind.i64.wrap (t10 + (1 : Int)), ()))
    else none
  else
    some (.inr (.inl (t4c0, t4c1, t4c2, t4c3, ())))
noncomputable def impl_ItemAt_r0 (x : H117_0) : Option (Sum H117_0 (Sum E117_0 Q117_0)) := impl_ItemAt_c0 x.1 x.2.1 x.2.2.1 x.2.2.2.1 x.2.2.2.2.1 x.2.2.2.2.2.1 x.2.2.2.2.2.2.1 x.2.2.2.2.2.2.2.1
noncomputable def L117 {R : Type} : Loops R := fun id _ st k => bif Nat.beq id 0 then loopAt hp117_0 e117_0 q117_0 impl_ItemAt_r0 st k else none
noncomputable def impl_ItemAt (list0 : List R_iiis) (seq1 : Int) : Option (Int × Int × Int × ByteArray × Bool × Unit) :=
  outK (loopV impl_ItemAt_r0 (seq1, (0 : Int), (0 : Int), (0 : Int), ByteArray.empty, list0, ((List.length list0 : Nat) : Int), (0 : Int), ())) (fun y1 =>
    some ((0 : Int), (0 : Int), (0 : Int), ByteArray.empty, false, ())) (fun y2 =>
    some (y2.1, y2.2.1, y2.2.2.1, y2.2.2.2.1, y2.2.2.2.2.1, ()))
noncomputable def x117 (x : (List R_iiis) × Int × Unit) : Option (Int × Int × Int × ByteArray × Bool × Unit) := impl_ItemAt x.1 x.2.1
noncomputable def sem117 : Sem1 := semOf ps117 rs117 x117
theorem so117 : SemsOk Tryz.prog (semsOf sl117) := sems_nil
noncomputable def b117_0 : Code := nthLoop code117 0
theorem t117_r0_eq (x : denR (headRT hp117_0)) : codeK (tabOf tr) (semsOf sl117) D117 L117 b117_0 (headSt hp117_0 x) (roundK 0 hp117_0 e117_0 q117_0) = impl_ItemAt_r0 x := by kernel_rfl
theorem loop117_0 {R : Type} (r : R) (w0 : World) (mu : Mu) (hs : AnShape ps117 mu) : LoopAt Tryz.prog w0 mu 21 (L117 : Loops R) r 0 b117_0 :=
  loop_auto tr_ok eq_ok mixed_ok so117 (D := D117) hs (by kernel_rfl) (fun _ => (loops_of (l := []) (by kernel_rfl) (List.forall_mem_nil _))) t117_r0_eq (fun _ _ => rfl)
theorem t117_eq (x : denR (headRT (ps117.map some))) : codeK (tabOf tr) (semsOf sl117) D117 L117 code117 (start 21 ps117 x) (finK rs117 ps117) = x117 x := by kernel_rfl
theorem k117 : Known Tryz.prog 117 sem117 :=
  fn_auto tr_ok eq_ok mixed_ok so117 (D := D117) (code := code117) (n := 21) Tryz.func117 (by kernel_rfl) (by kernel_rfl) (by kernel_rfl) (fun w0 mu _ hs => (loops_of (l := [(0, b117_0)]) (by kernel_rfl) (List.forall_mem_cons.2 ⟨loop117_0 _ w0 mu hs, (List.forall_mem_nil _)⟩))) t117_eq

/-! ### f102: impl.AruOf -/
noncomputable def code102 : Code := match Tryz.f102.body with | some c => c | none => .skip
def ps102 : List AP := [.val false [.shr T_iiis]]
def rs102 : List RP := [{ src := .tmp 2, agg := false, ps := [.int .i64] }]
noncomputable def sl102 : SemL := [(117, (.shr, .shr, .shr, sem117))]
def D102 : Draws := fun _ => .nil
def hp102_0 : List (Option AP) := [some (.val false [.shr T_iiis]), none, none, some (.val false [.int .i64]), none, none, none, none, none, none, none, none, none, none, none, none, none, none, none]
def e102_0 : List (Option AP) := [none, none, none, none, none, none, none, none, none, none, none, none, none, none, none, none, none, none, none]
def q102_0 : List (Option AP) := [none, none, some (.val false [.int .i64]), none, none, none, none, none, none, none, none, none, none, none, none, none, none, none, none]
abbrev H102_0 : Type := (List R_iiis) × Int × Unit
abbrev E102_0 : Type := Unit
abbrev Q102_0 : Type := Int × Unit
noncomputable def impl_AruOf_c0 (list0 : List R_iiis) (aru3 : Int) : Option (Sum H102_0 (Sum E102_0 Q102_0)) :=
  Option.bind (impl_ItemAt list0 (IntKind.i64.wrap (aru3 + (1 : Int)))) fun y1 =>
  bif !y1.2.2.2.2.1 then
    some (.inr (.inr (aru3, ())))
  else
    some (.inl (list0, IntKind.i64.wrap (aru3 + (1 : Int)), ()))
noncomputable def impl_AruOf_r0 (x : H102_0) : Option (Sum H102_0 (Sum E102_0 Q102_0)) := impl_AruOf_c0 x.1 x.2.1
noncomputable def L102 {R : Type} : Loops R := fun id _ st k => bif Nat.beq id 0 then loopAt hp102_0 e102_0 q102_0 impl_AruOf_r0 st k else none
noncomputable def impl_AruOf (list0 : List R_iiis) : Option (Int × Unit) :=
  outK (loopV impl_AruOf_r0 (list0, (0 : Int), ())) (fun y1 =>
    none) (fun y2 =>
    some (y2.1, ()))
noncomputable def x102 (x : (List R_iiis) × Unit) : Option (Int × Unit) := impl_AruOf x.1
noncomputable def sem102 : Sem1 := semOf ps102 rs102 x102
theorem so102 : SemsOk Tryz.prog (semsOf sl102) := sems_cons k117 (sems_nil)
noncomputable def b102_0 : Code := nthLoop code102 0
theorem t102_r0_eq (x : denR (headRT hp102_0)) : codeK (tabOf tr) (semsOf sl102) D102 L102 b102_0 (headSt hp102_0 x) (roundK 0 hp102_0 e102_0 q102_0) = impl_AruOf_r0 x := by kernel_rfl
theorem loop102_0 {R : Type} (r : R) (w0 : World) (mu : Mu) (hs : AnShape ps102 mu) : LoopAt Tryz.prog w0 mu 18 (L102 : Loops R) r 0 b102_0 :=
  loop_auto tr_ok eq_ok mixed_ok so102 (D := D102) hs (by kernel_rfl) (fun _ => (loops_of (l := []) (by kernel_rfl) (List.forall_mem_nil _))) t102_r0_eq (fun _ _ => rfl)
theorem t102_eq (x : denR (headRT (ps102.map some))) : codeK (tabOf tr) (semsOf sl102) D102 L102 code102 (start 18 ps102 x) (finK rs102 ps102) = x102 x := by kernel_rfl
theorem k102 : Known Tryz.prog 102 sem102 :=
  fn_auto tr_ok eq_ok mixed_ok so102 (D := D102) (code := code102) (n := 18) Tryz.func102 (by kernel_rfl) (by kernel_rfl) (by kernel_rfl) (fun w0 mu _ hs => (loops_of (l := [(0, b102_0)]) (by kernel_rfl) (List.forall_mem_cons.2 ⟨loop102_0 _ w0 mu hs, (List.forall_mem_nil _)⟩))) t102_eq

/-! ### f103: impl.TokenOk -/
noncomputable def code103 : Code := match Tryz.f103.body with | some c => c | none => .skip
def ps103 : List AP := [.val true [.int .i64, .int .i64, .int .i64, .int .i64, .int .i64, .shr T_i]]
def rs103 : List RP := [{ src := .tmp 2, agg := false, ps := [.bool] }]
noncomputable def sl103 : SemL := [(63, (.shr, .shr, .shr, sem63))]
def D103 : Draws := fun _ => .nil
def hp103_0 : List (Option AP) := [none, some (.box false [.int .i64, .int .i64, .int .i64, .int .i64, .int .i64, .shr T_i]), none, none, none, none, none, none, none, none, none, none, none, none, none, none, none, none, none, none, none, none, some (.val false [.shr T_i]), some (.val false [.int .i64]), some (.val false [.int .i64]), none, none, none, none, none, none, none, none, none, none, none, none, none, none, none, none, none, none, none, none, none, none, none, none, none, none, none, none, none, none, none, none, none, none, none, none, none, none, none, none, none]
def e103_0 : List (Option AP) := [none, some (.box false [.int .i64, .int .i64, .int .i64, .int .i64, .int .i64, .shr T_i]), none, none, none, none, none, none, none, none, none, none, none, none, none, none, none, none, none, none, none, none, none, none, none, none, none, none, none, none, none, none, none, none, none, none, none, none, none, none, none, none, none, none, none, none, none, none, none, none, none, none, none, none, none, none, none, none, none, none, none, none, none, none, none, none]
def q103_0 : List (Option AP) := [none, none, some (.val false [.bool]), none, none, none, none, none, none, none, none, none, none, none, none, none, none, none, none, none, none, none, none, none, none, none, none, none, none, none, none, none, none, none, none, none, none, none, none, none, none, none, none, none, none, none, none, none, none, none, none, none, none, none, none, none, none, none, none, none, none, none, none, none, none, none]
abbrev H103_0 : Type := Int × Int × Int × Int × Int × (List (Int × Unit)) × (List (Int × Unit)) × Int × Int × Unit
abbrev E103_0 : Type := Int × Int × Int × Int × Int × (List (Int × Unit)) × Unit
abbrev Q103_0 : Type := Bool × Unit
noncomputable def impl_TokenOk_c0 (t1c0 : Int) (t1c1 : Int) (t1c2 : Int) (t1c3 : Int) (t1c4 : Int) (t1c5 : List (Int × Unit)) (t22 : List (Int × Unit)) (t23 : Int) (t24 : Int) : Option (Sum H103_0 (Sum E103_0 Q103_0)) :=
  bif decide (t24 < t23) then
    bif decide ((0 : Int) ≤ t24) then Option.bind ((t22)[Int.toNat t24]?) fun r4 =>
      Option.bind (impl_inRange r4.1 (1 : Int) t1c2) fun y5 =>
      bif !y5.1 then
        some (.inr (.inr (false, ())))
      else bif decide ((0 : Int) < t24) then
        bif decide ((0 : Int) ≤ IntKind.i64.wrap (t24 - (1 : Int))) then Option.bind ((t1c5)[Int.toNat (IntKind.i64.wrap (t24 - (1 : Int)))]?) fun r6 =>
          bif decide (r4.1 ≤ r6.1) then
            some (.inr (.inr (false, ())))
          else
            some (.inl (t1c0, t1c1, t1c2, t1c3, t1c4, t1c5, t22, t23, IntKind.i64.wrap (t24 + (1 : Int)), ()))
        else none
      else
        some (.inl (t1c0, t1c1, t1c2, t1c3, t1c4, t1c5, t22, t23, IntKind.i64.wrap (t24 + (1 : Int)), ()))
    else none
  else
    some (.inr (.inl (t1c0, t1c1, t1c2, t1c3, t1c4, t1c5, ())))
noncomputable def impl_TokenOk_r0 (x : H103_0) : Option (Sum H103_0 (Sum E103_0 Q103_0)) := impl_TokenOk_c0 x.1 x.2.1 x.2.2.1 x.2.2.2.1 x.2.2.2.2.1 x.2.2.2.2.2.1 x.2.2.2.2.2.2.1 x.2.2.2.2.2.2.2.1 x.2.2.2.2.2.2.2.2.1
noncomputable def L103 {R : Type} : Loops R := fun id _ st k => bif Nat.beq id 0 then loopAt hp103_0 e103_0 q103_0 impl_TokenOk_r0 st k else none
noncomputable def impl_TokenOk (t0c0 : Int) (t0c1 : Int) (t0c2 : Int) (t0c3 : Int) (t0c4 : Int) (t0c5 : List (Int × Unit)) : Option (Bool × Unit) :=
  Option.bind (impl_inRange t0c0 (1 : Int) (9 : Int)) fun y1 =>
  bif !y1.1 then
    some (false, ())
  else
    Option.bind (impl_inRange t0c1 (1 : Int) (1000000000 : Int)) fun y2 =>
    bif !y2.1 then
      some (false, ())
    else
      Option.bind (impl_inRange t0c2 (0 : Int) (60 : Int)) fun y3 =>
      bif !y3.1 then
        some (false, ())
      else
        outK (loopV impl_TokenOk_r0 (t0c0, t0c1, t0c2, t0c3, t0c4, t0c5, t0c5, ((List.length t0c5 : Nat) : Int), (0 : Int), ())) (fun y4 =>
          Option.bind (impl_inRange y4.2.2.2.1 (0 : Int) y4.2.2.1) fun y6 =>
          bif y6.1 then
            Option.bind (impl_inRange y4.2.2.2.2.1 (0 : Int) (5 : Int)) fun y7 =>
            bif y7.1 then
              some (decide (((List.length y4.2.2.2.2.2.1 : Nat) : Int) ≤ (20 : Int)), ())
            else
              some (false, ())
          else
            some (false, ())) (fun y5 =>
          some (y5.1, ()))
noncomputable def x103 (x : Int × Int × Int × Int × Int × (List (Int × Unit)) × Unit) : Option (Bool × Unit) := impl_TokenOk x.1 x.2.1 x.2.2.1 x.2.2.2.1 x.2.2.2.2.1 x.2.2.2.2.2.1
noncomputable def sem103 : Sem1 := semOf ps103 rs103 x103
theorem so103 : SemsOk Tryz.prog (semsOf sl103) := sems_cons k63 (sems_nil)
noncomputable def b103_0 : Code := nthLoop code103 0
theorem t103_r0_eq (x : denR (headRT hp103_0)) : codeK (tabOf tr) (semsOf sl103) D103 L103 b103_0 (headSt hp103_0 x) (roundK 0 hp103_0 e103_0 q103_0) = impl_TokenOk_r0 x := by kernel_rfl
theorem loop103_0 {R : Type} (r : R) (w0 : World) (mu : Mu) (hs : AnShape ps103 mu) : LoopAt Tryz.prog w0 mu 65 (L103 : Loops R) r 0 b103_0 :=
  loop_auto tr_ok eq_ok mixed_ok so103 (D := D103) hs (by kernel_rfl) (fun _ => (loops_of (l := []) (by kernel_rfl) (List.forall_mem_nil _))) t103_r0_eq (fun _ _ => rfl)
theorem t103_eq (x : denR (headRT (ps103.map some))) : codeK (tabOf tr) (semsOf sl103) D103 L103 code103 (start 65 ps103 x) (finK rs103 ps103) = x103 x := by kernel_rfl
theorem k103 : Known Tryz.prog 103 sem103 :=
  fn_auto tr_ok eq_ok mixed_ok so103 (D := D103) (code := code103) (n := 65) Tryz.func103 (by kernel_rfl) (by kernel_rfl) (by kernel_rfl) (fun w0 mu _ hs => (loops_of (l := [(0, b103_0)]) (by kernel_rfl) (List.forall_mem_cons.2 ⟨loop103_0 _ w0 mu hs, (List.forall_mem_nil _)⟩))) t103_eq

/-! ### f66: impl.MateOk -/
noncomputable def code66 : Code := match Tryz.f66.body with | some c => c | none => .skip
def ps66 : List AP := [.val true [.int .i64, .int .i64, .shr T_i, .shr T_iiis, .shr T_i, .shr T_s, .int .i64, .int .i64, .int .i64, .int .i64, .int .i64, .int .i64, .int .i64, .int .i64, .int .i64, .shr T_i]]
def rs66 : List RP := [{ src := .tmp 2, agg := false, ps := [.bool] }]
noncomputable def sl66 : SemL := [(98, (.shr, .shr, .shr, sem98)), (99, (.shr, .shr, .shr, sem99)), (100, (.shr, .shr, .shr, sem100)), (101, (.shr, .shr, .shr, sem101)), (87, (.shr, .shr, .shr, sem87)), (102, (.shr, .shr, .shr, sem102)), (63, (.shr, .shr, .shr, sem63)), (97, (.shr, .shr, .shr, sem97)), (103, (.shr, .shr, .shr, sem103))]
def D66 : Draws := fun _ => .nil
def hp66_0 : List (Option AP) := [none, some (.box false [.int .i64, .int .i64, .shr T_i, .shr T_iiis, .shr T_i, .shr T_s, .int .i64, .int .i64, .int .i64, .int .i64, .int .i64, .int .i64, .int .i64, .int .i64, .int .i64, .shr T_i]), none, none, none, none, none, none, none, none, none, none, none, none, none, none, none, none, none, none, none, none, none, none, none, none, none, none, none, none, none, none, none, none, none, none, none, none, none, none, none, none, none, none, none, some (.val false [.shr T_i]), some (.val false [.int .i64]), some (.val false [.int .i64]), none, none, none, none, none, none, none, none, none, none, none, none, none, none, none, none, none, none, none, none, none, none, none, none, none, none, none, none, none, none, none, none, none, none, none, none, none, none, none, none, none, none, none]
def e66_0 : List (Option AP) := [none, some (.box false [.int .i64, .int .i64, .shr T_i, .shr T_iiis, .shr T_i, .shr T_s, .int .i64, .int .i64, .int .i64, .int .i64, .int .i64, .int .i64, .int .i64, .int .i64, .int .i64, .shr T_i]), none, none, none, none, none, none, none, none, none, none, none, none, none, none, none, none, none, none, none, none, none, none, none, none, none, none, none, none, none, none, none, none, none, none, none, none, none, none, none, none, none, none, none, none, none, none, none, none, none, none, none, none, none, none, none, none, none, none, none, none, none, none, none, none, none, none, none, none, none, none, none, none, none, none, none, none, none, none, none, none, none, none, none, none, none, none, none, none, none]
def q66_0 : List (Option AP) := [none, none, some (.val false [.bool]), none, none, none, none, none, none, none, none, none, none, none, none, none, none, none, none, none, none, none, none, none, none, none, none, none, none, none, none, none, none, none, none, none, none, none, none, none, none, none, none, none, none, none, none, none, none, none, none, none, none, none, none, none, none, none, none, none, none, none, none, none, none, none, none, none, none, none, none, none, none, none, none, none, none, none, none, none, none, none, none, none, none, none, none, none, none, none, none]
abbrev H66_0 : Type := Int × Int × (List (Int × Unit)) × (List R_iiis) × (List (Int × Unit)) × (List (ByteArray × Unit)) × Int × Int × Int × Int × Int × Int × Int × Int × Int × (List (Int × Unit)) × (List (Int × Unit)) × Int × Int × Unit
abbrev E66_0 : Type := Int × Int × (List (Int × Unit)) × (List R_iiis) × (List (Int × Unit)) × (List (ByteArray × Unit)) × Int × Int × Int × Int × Int × Int × Int × Int × Int × (List (Int × Unit)) × Unit
abbrev Q66_0 : Type := Bool × Unit
noncomputable def impl_MateOk_c0 (m1c0 : Int) (m1c1 : Int) (m1c2 : List (Int × Unit)) (m1c3 : List R_iiis) (m1c4 : List (Int × Unit)) (m1c5 : List (ByteArray × Unit)) (m1c6 : Int) (m1c7 : Int) (m1c8 : Int) (m1c9 : Int) (m1c10 : Int) (m1c11 : Int) (m1c12 : Int) (m1c13 : Int) (m1c14 : Int) (m1c15 : List (Int × Unit)) (t45 : List (Int × Unit)) (t46 : Int) (t47 : Int) : Option (Sum H66_0 (Sum E66_0 Q66_0)) :=
  bif decide (t47 < t46) then
    bif decide ((0 : Int) ≤ t47) then Option.bind ((t45)[Int.toNat t47]?) fun r5 =>
      Option.bind (impl_isLevel r5.1) fun y6 =>
      bif !y6.1 then
        some (.inr (.inr (false, ())))
      else
        some (.inl (m1c0, m1c1, m1c2, m1c3, m1c4, m1c5, m1c6, m1c7, m1c8, m1c9, m1c10, m1c11, m1c12, m1c13, m1c14, m1c15, t45, t46, IntKind.i64.wrap (t47 + (1 : Int)), ()))
    else none
  else
    some (.inr (.inl (m1c0, m1c1, m1c2, m1c3, m1c4, m1c5, m1c6, m1c7, m1c8, m1c9, m1c10, m1c11, m1c12, m1c13, m1c14, m1c15, ())))
noncomputable def impl_MateOk_r0 (x : H66_0) : Option (Sum H66_0 (Sum E66_0 Q66_0)) := impl_MateOk_c0 x.1 x.2.1 x.2.2.1 x.2.2.2.1 x.2.2.2.2.1 x.2.2.2.2.2.1 x.2.2.2.2.2.2.1 x.2.2.2.2.2.2.2.1 x.2.2.2.2.2.2.2.2.1 x.2.2.2.2.2.2.2.2.2.1 x.2.2.2.2.2.2.2.2.2.2.1 x.2.2.2.2.2.2.2.2.2.2.2.1 x.2.2.2.2.2.2.2.2.2.2.2.2.1 x.2.2.2.2.2.2.2.2.2.2.2.2.2.1 x.2.2.2.2.2.2.2.2.2.2.2.2.2.2.1 x.2.2.2.2.2.2.2.2.2.2.2.2.2.2.2.1 x.2.2.2.2.2.2.2.2.2.2.2.2.2.2.2.2.1 x.2.2.2.2.2.2.2.2.2.2.2.2.2.2.2.2.2.1 x.2.2.2.2.2.2.2.2.2.2.2.2.2.2.2.2.2.2.1
noncomputable def L66 {R : Type} : Loops R := fun id _ st k => bif Nat.beq id 0 then loopAt hp66_0 e66_0 q66_0 impl_MateOk_r0 st k else none
noncomputable def impl_MateOk (m0c0 : Int) (m0c1 : Int) (m0c2 : List (Int × Unit)) (m0c3 : List R_iiis) (m0c4 : List (Int × Unit)) (m0c5 : List (ByteArray × Unit)) (m0c6 : Int) (m0c7 : Int) (m0c8 : Int) (m0c9 : Int) (m0c10 : Int) (m0c11 : Int) (m0c12 : Int) (m0c13 : Int) (m0c14 : Int) (m0c15 : List (Int × Unit)) : Option (Bool × Unit) :=
  Option.bind (slices_Contains_int m0c2 m0c0) fun y1 =>
  bif !y1.1 then
    some (false, ())
  else
    Option.bind (impl_RingOk m0c1 m0c2) fun y2 =>
    bif !y2.1 then
      some (false, ())
    else
      Option.bind (impl_ItemsOk m0c3) fun y3 =>
      bif !y3.1 then
        some (false, ())
      else bif decide ((20 : Int) < ((List.length m0c5 : Nat) : Int)) then
        some (false, ())
      else
        Option.bind (impl_areShort m0c5) fun y4 =>
        bif !y4.1 then
          some (false, ())
        else bif !decide (((List.length m0c4 : Nat) : Int) = ((List.length m0c5 : Nat) : Int)) then
          some (false, ())
        else
          outK (loopV impl_MateOk_r0 (m0c0, m0c1, m0c2, m0c3, m0c4, m0c5, m0c6, m0c7, m0c8, m0c9, m0c10, m0c11, m0c12, m0c13, m0c14, m0c15, m0c4, ((List.length m0c4 : Nat) : Int), (0 : Int), ())) (fun y5 =>
            Option.bind (impl_AruOf y5.2.2.2.1) fun y7 =>
            Option.bind (impl_inRange y5.2.2.2.2.2.2.1 (0 : Int) (1000000000 : Int)) fun y8 =>
            bif !y8.1 then
              some (false, ())
            else
              Option.bind (impl_inRange y5.2.2.2.2.2.2.2.1 (0 : Int) (60 : Int)) fun y9 =>
              bif !y9.1 then
                some (false, ())
              else
                Option.bind (impl_inRange y5.2.2.2.2.2.2.2.2.1 (0 : Int) y7.1) fun y10 =>
                bif !y10.1 then
                  some (false, ())
                else
                  Option.bind (impl_inRange y5.2.2.2.2.2.2.2.2.2.1 (0 : Int) y7.1) fun y11 =>
                  bif !y11.1 then
                    some (false, ())
                  else
                    Option.bind (impl_Token_isZero y5.2.2.2.2.2.2.2.2.2.2.1 y5.2.2.2.2.2.2.2.2.2.2.2.1 y5.2.2.2.2.2.2.2.2.2.2.2.2.1 y5.2.2.2.2.2.2.2.2.2.2.2.2.2.1 y5.2.2.2.2.2.2.2.2.2.2.2.2.2.2.1 y5.2.2.2.2.2.2.2.2.2.2.2.2.2.2.2.1) fun y12 =>
                    bif y12.1 then
                      some (true, ())
                    else
                      Option.bind (impl_TokenOk y5.2.2.2.2.2.2.2.2.2.2.1 y5.2.2.2.2.2.2.2.2.2.2.2.1 y5.2.2.2.2.2.2.2.2.2.2.2.2.1 y5.2.2.2.2.2.2.2.2.2.2.2.2.2.1 y5.2.2.2.2.2.2.2.2.2.2.2.2.2.2.1 y5.2.2.2.2.2.2.2.2.2.2.2.2.2.2.2.1) fun y13 =>
                      some (y13.1, ())) (fun y6 =>
            some (y6.1, ()))
noncomputable def x66 (x : Int × Int × (List (Int × Unit)) × (List R_iiis) × (List (Int × Unit)) × (List (ByteArray × Unit)) × Int × Int × Int × Int × Int × Int × Int × Int × Int × (List (Int × Unit)) × Unit) : Option (Bool × Unit) := impl_MateOk x.1 x.2.1 x.2.2.1 x.2.2.2.1 x.2.2.2.2.1 x.2.2.2.2.2.1 x.2.2.2.2.2.2.1 x.2.2.2.2.2.2.2.1 x.2.2.2.2.2.2.2.2.1 x.2.2.2.2.2.2.2.2.2.1 x.2.2.2.2.2.2.2.2.2.2.1 x.2.2.2.2.2.2.2.2.2.2.2.1 x.2.2.2.2.2.2.2.2.2.2.2.2.1 x.2.2.2.2.2.2.2.2.2.2.2.2.2.1 x.2.2.2.2.2.2.2.2.2.2.2.2.2.2.1 x.2.2.2.2.2.2.2.2.2.2.2.2.2.2.2.1
noncomputable def sem66 : Sem1 := semOf ps66 rs66 x66
theorem so66 : SemsOk Tryz.prog (semsOf sl66) := sems_cons k98 (sems_cons k99 (sems_cons k100 (sems_cons k101 (sems_cons k87 (sems_cons k102 (sems_cons k63 (sems_cons k97 (sems_cons k103 (sems_nil)))))))))
noncomputable def b66_0 : Code := nthLoop code66 0
theorem t66_r0_eq (x : denR (headRT hp66_0)) : codeK (tabOf tr) (semsOf sl66) D66 L66 b66_0 (headSt hp66_0 x) (roundK 0 hp66_0 e66_0 q66_0) = impl_MateOk_r0 x := by kernel_rfl
theorem loop66_0 {R : Type} (r : R) (w0 : World) (mu : Mu) (hs : AnShape ps66 mu) : LoopAt Tryz.prog w0 mu 90 (L66 : Loops R) r 0 b66_0 :=
  loop_auto tr_ok eq_ok mixed_ok so66 (D := D66) hs (by kernel_rfl) (fun _ => (loops_of (l := []) (by kernel_rfl) (List.forall_mem_nil _))) t66_r0_eq (fun _ _ => rfl)
theorem t66_eq (x : denR (headRT (ps66.map some))) : codeK (tabOf tr) (semsOf sl66) D66 L66 code66 (start 90 ps66 x) (finK rs66 ps66) = x66 x := by kernel_rfl
theorem k66 : Known Tryz.prog 66 sem66 :=
  fn_auto tr_ok eq_ok mixed_ok so66 (D := D66) (code := code66) (n := 90) Tryz.func66 (by kernel_rfl) (by kernel_rfl) (by kernel_rfl) (fun w0 mu _ hs => (loops_of (l := [(0, b66_0)]) (by kernel_rfl) (List.forall_mem_cons.2 ⟨loop66_0 _ w0 mu hs, (List.forall_mem_nil _)⟩))) t66_eq

/-! ### f104: impl.BundleOk -/
noncomputable def code104 : Code := match Tryz.f104.body with | some c => c | none => .skip
def ps104 : List AP := [.val true [.int .i64, .int .i64, .int .i64, .shr T_iiis]]
def rs104 : List RP := [{ src := .tmp 2, agg := false, ps := [.bool] }]
noncomputable def sl104 : SemL := [(62, (.shr, .shr, .shr, sem62)), (63, (.shr, .shr, .shr, sem63)), (100, (.shr, .shr, .shr, sem100))]
def D104 : Draws := fun _ => .nil
noncomputable def L104 {R : Type} : Loops R := fun _ _ _ _ => none
noncomputable def impl_BundleOk (b0c0 : Int) (b0c1 : Int) (b0c2 : Int) (b0c3 : List R_iiis) : Option (Bool × Unit) :=
  Option.bind (impl_isDaemon b0c0) fun y1 =>
  bif !y1.1 then
    some (false, ())
  else
    Option.bind (impl_inRange b0c1 (1 : Int) (9 : Int)) fun y2 =>
    bif !y2.1 then
      some (false, ())
    else
      Option.bind (impl_inRange b0c2 (0 : Int) (IntKind.i64.wrap (b0c1 - (1 : Int)))) fun y3 =>
      bif !y3.1 then
        some (false, ())
      else
        Option.bind (impl_ItemsOk b0c3) fun y4 =>
        bif y4.1 then
          bif decide ((0 : Int) < b0c2) then
            some (true, ())
          else
            some (decide (((List.length b0c3 : Nat) : Int) = (0 : Int)), ())
        else
          some (false, ())
noncomputable def x104 (x : Int × Int × Int × (List R_iiis) × Unit) : Option (Bool × Unit) := impl_BundleOk x.1 x.2.1 x.2.2.1 x.2.2.2.1
noncomputable def sem104 : Sem1 := semOf ps104 rs104 x104
theorem so104 : SemsOk Tryz.prog (semsOf sl104) := sems_cons k62 (sems_cons k63 (sems_cons k100 (sems_nil)))
theorem t104_eq (x : denR (headRT (ps104.map some))) : codeK (tabOf tr) (semsOf sl104) D104 L104 code104 (start 36 ps104 x) (finK rs104 ps104) = x104 x := by kernel_rfl
theorem k104 : Known Tryz.prog 104 sem104 :=
  fn_auto tr_ok eq_ok mixed_ok so104 (D := D104) (code := code104) (n := 36) Tryz.func104 (by kernel_rfl) (by kernel_rfl) (by kernel_rfl) (fun w0 mu _ hs => (loops_of (l := []) (by kernel_rfl) (List.forall_mem_nil _))) t104_eq

/-! ### f67: impl.Daemon).joiningOk -/
noncomputable def code67 : Code := match Tryz.f67.body with | some c => c | none => .skip
def ps67 : List AP := [.box true [.int .i64, .bool, .int .i64, .int .i64, .shr T_i, .shr T_iiis, .shr T_i, .shr T_s, .int .i64, .int .i64, .int .i64, .int .i64, .int .i64, .int .i64, .int .i64, .int .i64, .int .i64, .shr T_i, .int .i64, .int .i64, .int .i64, .shr T_i, .shr T_iiiLiiisE, .shr T_iiLiEiiisLiE]]
def rs67 : List RP := [{ src := .tmp 2, agg := false, ps := [.bool] }]
noncomputable def sl67 : SemL := [(65, (.shr, .shr, .shr, sem65)), (99, (.shr, .shr, .shr, sem99)), (98, (.shr, .shr, .shr, sem98)), (63, (.shr, .shr, .shr, sem63)), (104, (.shr, .shr, .shr, sem104))]
def D67 : Draws := fun id => bif Nat.beq id 3 then .op 0 .any (.op 1 .any (.op 2 .any (.op 3 .take (.op 4 .one (.op 5 .any (.op 6 .any (.op 7 .any (.op 8 .any (.op 9 .any (.op 10 .any (.op 11 .take (.op 12 .any (.op 13 .any (.op 14 .any (.op 15 .take (.op 16 .one (.op 17 .any (.op 18 .any (.op 19 .any (.op 20 .any (.op 21 .any (.op 22 .any (.op 23 .any (.op 24 .take (.op 25 .any (.op 26 .any (.op 27 .any (.op 28 .take (.op 29 .any (.op 30 .any (.op 31 .any (.op 32 .any (.op 33 .take (.op 34 .one (.op 35 .any (.op 36 .any (.nil))))))))))))))))))))))))))))))))))))) else bif Nat.beq id 8 then .op 0 .take (.op 1 .one (.op 2 .any (.op 3 .any (.op 4 .any (.op 5 .take (.op 6 .any (.op 7 .any (.op 8 .any (.op 9 .any (.op 10 .take (.op 11 .any (.op 12 .any (.nil))))))))))))) else .nil
def hp67_0 : List (Option AP) := [some (.box true [.int .i64, .bool, .int .i64, .int .i64, .shr T_i, .shr T_iiis, .shr T_i, .shr T_s, .int .i64, .int .i64, .int .i64, .int .i64, .int .i64, .int .i64, .int .i64, .int .i64, .int .i64, .shr T_i, .int .i64, .int .i64, .int .i64, .shr T_i, .shr T_iiiLiiisE, .shr T_iiLiEiiisLiE]), none, none, none, none, none, none, none, none, none, none, none, none, none, none, none, none, none, none, none, none, none, none, none, none, none, none, none, none, none, none, none, none, none, none, none, none, none, none, none, none, none, none, none, none, none, none, none, none, none, none, none, none, none, none, none, some (.val false [.shr T_iiiLiiisE]), some (.val false [.int .i64]), some (.val false [.int .i64]), none, none, none, none, none, none, none, none, none, none, none, none, none, none, none, none, none, none]
def e67_0 : List (Option AP) := [some (.box true [.int .i64, .bool, .int .i64, .int .i64, .shr T_i, .shr T_iiis, .shr T_i, .shr T_s, .int .i64, .int .i64, .int .i64, .int .i64, .int .i64, .int .i64, .int .i64, .int .i64, .int .i64, .shr T_i, .int .i64, .int .i64, .int .i64, .shr T_i, .shr T_iiiLiiisE, .shr T_iiLiEiiisLiE]), none, none, none, none, none, none, none, none, none, none, none, none, none, none, none, none, none, none, none, none, none, none, none, none, none, none, none, none, none, none, none, none, none, none, none, none, none, none, none, none, none, none, none, none, none, none, none, none, none, none, none, none, none, none, none, none, none, none, none, none, none, none, none, none, none, none, none, none, none, none, none, none, none, none, none, none]
def q67_0 : List (Option AP) := [some (.box true [.int .i64, .bool, .int .i64, .int .i64, .shr T_i, .shr T_iiis, .shr T_i, .shr T_s, .int .i64, .int .i64, .int .i64, .int .i64, .int .i64, .int .i64, .int .i64, .int .i64, .int .i64, .shr T_i, .int .i64, .int .i64, .int .i64, .shr T_i, .shr T_iiiLiiisE, .shr T_iiLiEiiisLiE]), none, some (.val false [.bool]), none, none, none, none, none, none, none, none, none, none, none, none, none, none, none, none, none, none, none, none, none, none, none, none, none, none, none, none, none, none, none, none, none, none, none, none, none, none, none, none, none, none, none, none, none, none, none, none, none, none, none, none, none, none, none, none, none, none, none, none, none, none, none, none, none, none, none, none, none, none, none, none, none, none]
abbrev H67_0 : Type := Int × Bool × Int × Int × (List (Int × Unit)) × (List R_iiis) × (List (Int × Unit)) × (List (ByteArray × Unit)) × Int × Int × Int × Int × Int × Int × Int × Int × Int × (List (Int × Unit)) × Int × Int × Int × (List (Int × Unit)) × (List R_iiiLiiisE) × (List R_iiLiEiiisLiE) × (List R_iiiLiiisE) × Int × Int × Unit
abbrev E67_0 : Type := Int × Bool × Int × Int × (List (Int × Unit)) × (List R_iiis) × (List (Int × Unit)) × (List (ByteArray × Unit)) × Int × Int × Int × Int × Int × Int × Int × Int × Int × (List (Int × Unit)) × Int × Int × Int × (List (Int × Unit)) × (List R_iiiLiiisE) × (List R_iiLiEiiisLiE) × Unit
abbrev Q67_0 : Type := Int × Bool × Int × Int × (List (Int × Unit)) × (List R_iiis) × (List (Int × Unit)) × (List (ByteArray × Unit)) × Int × Int × Int × Int × Int × Int × Int × Int × Int × (List (Int × Unit)) × Int × Int × Int × (List (Int × Unit)) × (List R_iiiLiiisE) × (List R_iiLiEiiisLiE) × Bool × Unit
noncomputable def impl_Daemon_joiningOk_c0 (d0c0 : Int) (d0c1 : Bool) (d0c2 : Int) (d0c3 : Int) (d0c4 : List (Int × Unit)) (d0c5 : List R_iiis) (d0c6 : List (Int × Unit)) (d0c7 : List (ByteArray × Unit)) (d0c8 : Int) (d0c9 : Int) (d0c10 : Int) (d0c11 : Int) (d0c12 : Int) (d0c13 : Int) (d0c14 : Int) (d0c15 : Int) (d0c16 : Int) (d0c17 : List (Int × Unit)) (d0c18 : Int) (d0c19 : Int) (d0c20 : Int) (d0c21 : List (Int × Unit)) (d0c22 : List R_iiiLiiisE) (d0c23 : List R_iiLiEiiisLiE) (t56 : List R_iiiLiiisE) (t57 : Int) (t58 : Int) : Option (Sum H67_0 (Sum E67_0 Q67_0)) :=
  bif decide (t58 < t57) then
    bif decide ((0 : Int) ≤ t58) then Option.bind ((t56)[Int.toNat t58]?) fun r5 =>
      Option.bind (impl_BundleOk r5.1 r5.2.1 r5.2.2.1 r5.2.2.2.1) fun y6 =>
      bif !y6.1 then
        some (.inr (.inr (d0c0, d0c1, d0c2, d0c3, d0c4, d0c5, d0c6, d0c7, d0c8, d0c9, d0c10, d0c11, d0c12, d0c13, d0c14, d0c15, d0c16, d0c17, d0c18, d0c19, d0c20, d0c21, d0c22, d0c23, false, ())))
      else bif !decide (r5.2.1 = d0c20) then
        some (.inr (.inr (d0c0, d0c1, d0c2, d0c3, d0c4, d0c5, d0c6, d0c7, d0c8, d0c9, d0c10, d0c11, d0c12, d0c13, d0c14, d0c15, d0c16, d0c17, d0c18, d0c19, d0c20, d0c21, d0c22, d0c23, false, ())))
      else
        some (.inl (d0c0, d0c1, d0c2, d0c3, d0c4, d0c5, d0c6, d0c7, d0c8, d0c9, d0c10, d0c11, d0c12, d0c13, d0c14, d0c15, d0c16, d0c17, d0c18, d0c19, d0c20, d0c21, d0c22, d0c23, t56, t57, IntKind.i64.wrap (t58 + (1 : Int)), ()))
    else none
  else
    some (.inr (.inl (d0c0, d0c1, d0c2, d0c3, d0c4, d0c5, d0c6, d0c7, d0c8, d0c9, d0c10, d0c11, d0c12, d0c13, d0c14, d0c15, d0c16, d0c17, d0c18, d0c19, d0c20, d0c21, d0c22, d0c23, ())))
noncomputable def impl_Daemon_joiningOk_r0 (x : H67_0) : Option (Sum H67_0 (Sum E67_0 Q67_0)) := impl_Daemon_joiningOk_c0 x.1 x.2.1 x.2.2.1 x.2.2.2.1 x.2.2.2.2.1 x.2.2.2.2.2.1 x.2.2.2.2.2.2.1 x.2.2.2.2.2.2.2.1 x.2.2.2.2.2.2.2.2.1 x.2.2.2.2.2.2.2.2.2.1 x.2.2.2.2.2.2.2.2.2.2.1 x.2.2.2.2.2.2.2.2.2.2.2.1 x.2.2.2.2.2.2.2.2.2.2.2.2.1 x.2.2.2.2.2.2.2.2.2.2.2.2.2.1 x.2.2.2.2.2.2.2.2.2.2.2.2.2.2.1 x.2.2.2.2.2.2.2.2.2.2.2.2.2.2.2.1 x.2.2.2.2.2.2.2.2.2.2.2.2.2.2.2.2.1 x.2.2.2.2.2.2.2.2.2.2.2.2.2.2.2.2.2.1 x.2.2.2.2.2.2.2.2.2.2.2.2.2.2.2.2.2.2.1 x.2.2.2.2.2.2.2.2.2.2.2.2.2.2.2.2.2.2.2.1 x.2.2.2.2.2.2.2.2.2.2.2.2.2.2.2.2.2.2.2.2.1 x.2.2.2.2.2.2.2.2.2.2.2.2.2.2.2.2.2.2.2.2.2.1 x.2.2.2.2.2.2.2.2.2.2.2.2.2.2.2.2.2.2.2.2.2.2.1 x.2.2.2.2.2.2.2.2.2.2.2.2.2.2.2.2.2.2.2.2.2.2.2.1 x.2.2.2.2.2.2.2.2.2.2.2.2.2.2.2.2.2.2.2.2.2.2.2.2.1 x.2.2.2.2.2.2.2.2.2.2.2.2.2.2.2.2.2.2.2.2.2.2.2.2.2.1 x.2.2.2.2.2.2.2.2.2.2.2.2.2.2.2.2.2.2.2.2.2.2.2.2.2.2.1
noncomputable def L67 {R : Type} : Loops R := fun id _ st k => bif Nat.beq id 0 then loopAt hp67_0 e67_0 q67_0 impl_Daemon_joiningOk_r0 st k else none
noncomputable def impl_Daemon_joiningOk (d0c0 : Int) (d0c1 : Bool) (d0c2 : Int) (d0c3 : Int) (d0c4 : List (Int × Unit)) (d0c5 : List R_iiis) (d0c6 : List (Int × Unit)) (d0c7 : List (ByteArray × Unit)) (d0c8 : Int) (d0c9 : Int) (d0c10 : Int) (d0c11 : Int) (d0c12 : Int) (d0c13 : Int) (d0c14 : Int) (d0c15 : Int) (d0c16 : Int) (d0c17 : List (Int × Unit)) (d0c18 : Int) (d0c19 : Int) (d0c20 : Int) (d0c21 : List (Int × Unit)) (d0c22 : List R_iiiLiiisE) (d0c23 : List R_iiLiEiiisLiE) : Option (Bool × Int × Bool × Int × Int × (List (Int × Unit)) × (List R_iiis) × (List (Int × Unit)) × (List (ByteArray × Unit)) × Int × Int × Int × Int × Int × Int × Int × Int × Int × (List (Int × Unit)) × Int × Int × Int × (List (Int × Unit)) × (List R_iiiLiiisE) × (List R_iiLiEiiisLiE) × Unit) :=
  Option.bind (impl_Ring_isNone d0c20 d0c21) fun y1 =>
  bif y1.1 then
    some (decide (((List.length d0c22 : Nat) : Int) = (0 : Int)), d0c0, d0c1, d0c2, d0c3, d0c4, d0c5, d0c6, d0c7, d0c8, d0c9, d0c10, d0c11, d0c12, d0c13, d0c14, d0c15, d0c16, d0c17, d0c18, d0c19, d0c20, d0c21, d0c22, d0c23, ())
  else
    Option.bind (impl_RingOk d0c20 d0c21) fun y2 =>
    bif !y2.1 then
      some (false, d0c0, d0c1, d0c2, d0c3, d0c4, d0c5, d0c6, d0c7, d0c8, d0c9, d0c10, d0c11, d0c12, d0c13, d0c14, d0c15, d0c16, d0c17, d0c18, d0c19, d0c20, d0c21, d0c22, d0c23, ())
    else
      Option.bind (slices_Contains_int d0c21 d0c0) fun y3 =>
      bif !y3.1 then
        some (false, d0c0, d0c1, d0c2, d0c3, d0c4, d0c5, d0c6, d0c7, d0c8, d0c9, d0c10, d0c11, d0c12, d0c13, d0c14, d0c15, d0c16, d0c17, d0c18, d0c19, d0c20, d0c21, d0c22, d0c23, ())
      else
        Option.bind (impl_inRange d0c20 (IntKind.i64.wrap (d0c19 + (1 : Int))) d0c18) fun y4 =>
        bif !y4.1 then
          some (false, d0c0, d0c1, d0c2, d0c3, d0c4, d0c5, d0c6, d0c7, d0c8, d0c9, d0c10, d0c11, d0c12, d0c13, d0c14, d0c15, d0c16, d0c17, d0c18, d0c19, d0c20, d0c21, d0c22, d0c23, ())
        else
          outK (loopV impl_Daemon_joiningOk_r0 (d0c0, d0c1, d0c2, d0c3, d0c4, d0c5, d0c6, d0c7, d0c8, d0c9, d0c10, d0c11, d0c12, d0c13, d0c14, d0c15, d0c16, d0c17, d0c18, d0c19, d0c20, d0c21, d0c22, d0c23, d0c22, ((List.length d0c22 : Nat) : Int), (0 : Int), ())) (fun y5 =>
            some (true, y5.1, y5.2.1, y5.2.2.1, y5.2.2.2.1, y5.2.2.2.2.1, y5.2.2.2.2.2.1, y5.2.2.2.2.2.2.1, y5.2.2.2.2.2.2.2.1, y5.2.2.2.2.2.2.2.2.1, y5.2.2.2.2.2.2.2.2.2.1, y5.2.2.2.2.2.2.2.2.2.2.1, y5.2.2.2.2.2.2.2.2.2.2.2.1, y5.2.2.2.2.2.2.2.2.2.2.2.2.1, y5.2.2.2.2.2.2.2.2.2.2.2.2.2.1, y5.2.2.2.2.2.2.2.2.2.2.2.2.2.2.1, y5.2.2.2.2.2.2.2.2.2.2.2.2.2.2.2.1, y5.2.2.2.2.2.2.2.2.2.2.2.2.2.2.2.2.1, y5.2.2.2.2.2.2.2.2.2.2.2.2.2.2.2.2.2.1, y5.2.2.2.2.2.2.2.2.2.2.2.2.2.2.2.2.2.2.1, y5.2.2.2.2.2.2.2.2.2.2.2.2.2.2.2.2.2.2.2.1, y5.2.2.2.2.2.2.2.2.2.2.2.2.2.2.2.2.2.2.2.2.1, y5.2.2.2.2.2.2.2.2.2.2.2.2.2.2.2.2.2.2.2.2.2.1, y5.2.2.2.2.2.2.2.2.2.2.2.2.2.2.2.2.2.2.2.2.2.2.1, y5.2.2.2.2.2.2.2.2.2.2.2.2.2.2.2.2.2.2.2.2.2.2.2.1, ())) (fun y6 =>
            some (y6.2.2.2.2.2.2.2.2.2.2.2.2.2.2.2.2.2.2.2.2.2.2.2.2.1, y6.1, y6.2.1, y6.2.2.1, y6.2.2.2.1, y6.2.2.2.2.1, y6.2.2.2.2.2.1, y6.2.2.2.2.2.2.1, y6.2.2.2.2.2.2.2.1, y6.2.2.2.2.2.2.2.2.1, y6.2.2.2.2.2.2.2.2.2.1, y6.2.2.2.2.2.2.2.2.2.2.1, y6.2.2.2.2.2.2.2.2.2.2.2.1, y6.2.2.2.2.2.2.2.2.2.2.2.2.1, y6.2.2.2.2.2.2.2.2.2.2.2.2.2.1, y6.2.2.2.2.2.2.2.2.2.2.2.2.2.2.1, y6.2.2.2.2.2.2.2.2.2.2.2.2.2.2.2.1, y6.2.2.2.2.2.2.2.2.2.2.2.2.2.2.2.2.1, y6.2.2.2.2.2.2.2.2.2.2.2.2.2.2.2.2.2.1, y6.2.2.2.2.2.2.2.2.2.2.2.2.2.2.2.2.2.2.1, y6.2.2.2.2.2.2.2.2.2.2.2.2.2.2.2.2.2.2.2.1, y6.2.2.2.2.2.2.2.2.2.2.2.2.2.2.2.2.2.2.2.2.1, y6.2.2.2.2.2.2.2.2.2.2.2.2.2.2.2.2.2.2.2.2.2.1, y6.2.2.2.2.2.2.2.2.2.2.2.2.2.2.2.2.2.2.2.2.2.2.1, y6.2.2.2.2.2.2.2.2.2.2.2.2.2.2.2.2.2.2.2.2.2.2.2.1, ()))
noncomputable def x67 (x : Int × Bool × Int × Int × (List (Int × Unit)) × (List R_iiis) × (List (Int × Unit)) × (List (ByteArray × Unit)) × Int × Int × Int × Int × Int × Int × Int × Int × Int × (List (Int × Unit)) × Int × Int × Int × (List (Int × Unit)) × (List R_iiiLiiisE) × (List R_iiLiEiiisLiE) × Unit) : Option (Bool × Int × Bool × Int × Int × (List (Int × Unit)) × (List R_iiis) × (List (Int × Unit)) × (List (ByteArray × Unit)) × Int × Int × Int × Int × Int × Int × Int × Int × Int × (List (Int × Unit)) × Int × Int × Int × (List (Int × Unit)) × (List R_iiiLiiisE) × (List R_iiLiEiiisLiE) × Unit) := impl_Daemon_joiningOk x.1 x.2.1 x.2.2.1 x.2.2.2.1 x.2.2.2.2.1 x.2.2.2.2.2.1 x.2.2.2.2.2.2.1 x.2.2.2.2.2.2.2.1 x.2.2.2.2.2.2.2.2.1 x.2.2.2.2.2.2.2.2.2.1 x.2.2.2.2.2.2.2.2.2.2.1 x.2.2.2.2.2.2.2.2.2.2.2.1 x.2.2.2.2.2.2.2.2.2.2.2.2.1 x.2.2.2.2.2.2.2.2.2.2.2.2.2.1 x.2.2.2.2.2.2.2.2.2.2.2.2.2.2.1 x.2.2.2.2.2.2.2.2.2.2.2.2.2.2.2.1 x.2.2.2.2.2.2.2.2.2.2.2.2.2.2.2.2.1 x.2.2.2.2.2.2.2.2.2.2.2.2.2.2.2.2.2.1 x.2.2.2.2.2.2.2.2.2.2.2.2.2.2.2.2.2.2.1 x.2.2.2.2.2.2.2.2.2.2.2.2.2.2.2.2.2.2.2.1 x.2.2.2.2.2.2.2.2.2.2.2.2.2.2.2.2.2.2.2.2.1 x.2.2.2.2.2.2.2.2.2.2.2.2.2.2.2.2.2.2.2.2.2.1 x.2.2.2.2.2.2.2.2.2.2.2.2.2.2.2.2.2.2.2.2.2.2.1 x.2.2.2.2.2.2.2.2.2.2.2.2.2.2.2.2.2.2.2.2.2.2.2.1
noncomputable def sem67 : Sem1 := semOf ps67 rs67 x67
theorem so67 : SemsOk Tryz.prog (semsOf sl67) := sems_cons k65 (sems_cons k99 (sems_cons k98 (sems_cons k63 (sems_cons k104 (sems_nil)))))
noncomputable def b67_0 : Code := nthLoop code67 0
theorem t67_r0_eq (x : denR (headRT hp67_0)) : codeK (tabOf tr) (semsOf sl67) D67 L67 b67_0 (headSt hp67_0 x) (roundK 0 hp67_0 e67_0 q67_0) = impl_Daemon_joiningOk_r0 x := by kernel_rfl
theorem loop67_0 {R : Type} (r : R) (w0 : World) (mu : Mu) (hs : AnShape ps67 mu) : LoopAt Tryz.prog w0 mu 76 (L67 : Loops R) r 0 b67_0 :=
  loop_auto tr_ok eq_ok mixed_ok so67 (D := D67) hs (by kernel_rfl) (fun _ => (loops_of (l := []) (by kernel_rfl) (List.forall_mem_nil _))) t67_r0_eq (fun _ _ => rfl)
theorem t67_eq (x : denR (headRT (ps67.map some))) : codeK (tabOf tr) (semsOf sl67) D67 L67 code67 (start 76 ps67 x) (finK rs67 ps67) = x67 x := by kernel_rfl
theorem k67 : Known Tryz.prog 67 sem67 :=
  fn_auto tr_ok eq_ok mixed_ok so67 (D := D67) (code := code67) (n := 76) Tryz.func67 (by kernel_rfl) (by kernel_rfl) (by kernel_rfl) (fun w0 mu _ hs => (loops_of (l := [(0, b67_0)]) (by kernel_rfl) (List.forall_mem_cons.2 ⟨loop67_0 _ w0 mu hs, (List.forall_mem_nil _)⟩))) t67_eq

/-! ### f24: impl.DaemonOk -/
noncomputable def code24 : Code := match Tryz.f24.body with | some c => c | none => .skip
def ps24 : List AP := [.val true [.int .i64, .bool, .int .i64, .int .i64, .shr T_i, .shr T_iiis, .shr T_i, .shr T_s, .int .i64, .int .i64, .int .i64, .int .i64, .int .i64, .int .i64, .int .i64, .int .i64, .int .i64, .shr T_i, .int .i64, .int .i64, .int .i64, .shr T_i, .shr T_iiiLiiisE, .shr T_iiLiEiiisLiE]]
def rs24 : List RP := [{ src := .tmp 2, agg := false, ps := [.bool] }]
noncomputable def sl24 : SemL := [(62, (.shr, .shr, .shr, sem62)), (63, (.shr, .shr, .shr, sem63)), (64, (.shr, .shr, .shr, sem64)), (65, (.shr, .shr, .shr, sem65)), (66, (.shr, .shr, .shr, sem66)), (67, (.own, .shr, .shr, sem67))]
def D24 : Draws := fun _ => .nil
noncomputable def L24 {R : Type} : Loops R := fun _ _ _ _ => none
noncomputable def impl_DaemonOk (d0c0 : Int) (d0c1 : Bool) (d0c2 : Int) (d0c3 : Int) (d0c4 : List (Int × Unit)) (d0c5 : List R_iiis) (d0c6 : List (Int × Unit)) (d0c7 : List (ByteArray × Unit)) (d0c8 : Int) (d0c9 : Int) (d0c10 : Int) (d0c11 : Int) (d0c12 : Int) (d0c13 : Int) (d0c14 : Int) (d0c15 : Int) (d0c16 : Int) (d0c17 : List (Int × Unit)) (d0c18 : Int) (d0c19 : Int) (d0c20 : Int) (d0c21 : List (Int × Unit)) (d0c22 : List R_iiiLiiisE) (d0c23 : List R_iiLiEiiisLiE) : Option (Bool × Unit) :=
  Option.bind (impl_isDaemon d0c0) fun y1 =>
  bif !y1.1 then
    some (false, ())
  else
    Option.bind (impl_inRange d0c18 (0 : Int) (9 : Int)) fun y2 =>
    bif !y2.1 then
      some (false, ())
    else bif d0c1 then
      Option.bind (impl_Mate_isNone d0c2 d0c3 d0c4 d0c5 d0c6 d0c7 d0c8 d0c9 d0c10 d0c11 d0c12 d0c13 d0c14 d0c15 d0c16 d0c17) fun y3 =>
      bif !y3.1 then
        some (false, ())
      else bif !decide (d0c19 = (0 : Int)) then
        some (false, ())
      else
        Option.bind (impl_Ring_isNone d0c20 d0c21) fun y4 =>
        bif !y4.1 then
          some (false, ())
        else bif decide ((0 : Int) < ((List.length d0c22 : Nat) : Int)) then
          some (false, ())
        else
          Option.bind (impl_Mate_isNone d0c2 d0c3 d0c4 d0c5 d0c6 d0c7 d0c8 d0c9 d0c10 d0c11 d0c12 d0c13 d0c14 d0c15 d0c16 d0c17) fun y5 =>
          bif !y5.1 then
            bif !decide (d0c2 = d0c0) then
              some (false, ())
            else
              Option.bind (impl_MateOk d0c2 d0c3 d0c4 d0c5 d0c6 d0c7 d0c8 d0c9 d0c10 d0c11 d0c12 d0c13 d0c14 d0c15 d0c16 d0c17) fun y6 =>
              bif !y6.1 then
                some (false, ())
              else bif decide (d0c19 = d0c3) then
                bif decide (d0c19 ≤ d0c18) then
                  Option.bind (impl_Daemon_joiningOk d0c0 d0c1 d0c2 d0c3 d0c4 d0c5 d0c6 d0c7 d0c8 d0c9 d0c10 d0c11 d0c12 d0c13 d0c14 d0c15 d0c16 d0c17 d0c18 d0c19 d0c20 d0c21 d0c22 d0c23) fun y7 =>
                  some (y7.1, ())
                else
                  some (false, ())
              else
                some (false, ())
          else bif decide (d0c19 = d0c3) then
            bif decide (d0c19 ≤ d0c18) then
              Option.bind (impl_Daemon_joiningOk d0c0 d0c1 d0c2 d0c3 d0c4 d0c5 d0c6 d0c7 d0c8 d0c9 d0c10 d0c11 d0c12 d0c13 d0c14 d0c15 d0c16 d0c17 d0c18 d0c19 d0c20 d0c21 d0c22 d0c23) fun y8 =>
              some (y8.1, ())
            else
              some (false, ())
          else
            some (false, ())
    else
      Option.bind (impl_Mate_isNone d0c2 d0c3 d0c4 d0c5 d0c6 d0c7 d0c8 d0c9 d0c10 d0c11 d0c12 d0c13 d0c14 d0c15 d0c16 d0c17) fun y9 =>
      bif !y9.1 then
        bif !decide (d0c2 = d0c0) then
          some (false, ())
        else
          Option.bind (impl_MateOk d0c2 d0c3 d0c4 d0c5 d0c6 d0c7 d0c8 d0c9 d0c10 d0c11 d0c12 d0c13 d0c14 d0c15 d0c16 d0c17) fun y10 =>
          bif !y10.1 then
            some (false, ())
          else bif decide (d0c19 = d0c3) then
            bif decide (d0c19 ≤ d0c18) then
              Option.bind (impl_Daemon_joiningOk d0c0 d0c1 d0c2 d0c3 d0c4 d0c5 d0c6 d0c7 d0c8 d0c9 d0c10 d0c11 d0c12 d0c13 d0c14 d0c15 d0c16 d0c17 d0c18 d0c19 d0c20 d0c21 d0c22 d0c23) fun y11 =>
              some (y11.1, ())
            else
              some (false, ())
          else
            some (false, ())
      else bif decide (d0c19 = d0c3) then
        bif decide (d0c19 ≤ d0c18) then
          Option.bind (impl_Daemon_joiningOk d0c0 d0c1 d0c2 d0c3 d0c4 d0c5 d0c6 d0c7 d0c8 d0c9 d0c10 d0c11 d0c12 d0c13 d0c14 d0c15 d0c16 d0c17 d0c18 d0c19 d0c20 d0c21 d0c22 d0c23) fun y12 =>
          some (y12.1, ())
        else
          some (false, ())
      else
        some (false, ())
noncomputable def x24 (x : Int × Bool × Int × Int × (List (Int × Unit)) × (List R_iiis) × (List (Int × Unit)) × (List (ByteArray × Unit)) × Int × Int × Int × Int × Int × Int × Int × Int × Int × (List (Int × Unit)) × Int × Int × Int × (List (Int × Unit)) × (List R_iiiLiiisE) × (List R_iiLiEiiisLiE) × Unit) : Option (Bool × Unit) := impl_DaemonOk x.1 x.2.1 x.2.2.1 x.2.2.2.1 x.2.2.2.2.1 x.2.2.2.2.2.1 x.2.2.2.2.2.2.1 x.2.2.2.2.2.2.2.1 x.2.2.2.2.2.2.2.2.1 x.2.2.2.2.2.2.2.2.2.1 x.2.2.2.2.2.2.2.2.2.2.1 x.2.2.2.2.2.2.2.2.2.2.2.1 x.2.2.2.2.2.2.2.2.2.2.2.2.1 x.2.2.2.2.2.2.2.2.2.2.2.2.2.1 x.2.2.2.2.2.2.2.2.2.2.2.2.2.2.1 x.2.2.2.2.2.2.2.2.2.2.2.2.2.2.2.1 x.2.2.2.2.2.2.2.2.2.2.2.2.2.2.2.2.1 x.2.2.2.2.2.2.2.2.2.2.2.2.2.2.2.2.2.1 x.2.2.2.2.2.2.2.2.2.2.2.2.2.2.2.2.2.2.1 x.2.2.2.2.2.2.2.2.2.2.2.2.2.2.2.2.2.2.2.1 x.2.2.2.2.2.2.2.2.2.2.2.2.2.2.2.2.2.2.2.2.1 x.2.2.2.2.2.2.2.2.2.2.2.2.2.2.2.2.2.2.2.2.2.1 x.2.2.2.2.2.2.2.2.2.2.2.2.2.2.2.2.2.2.2.2.2.2.1 x.2.2.2.2.2.2.2.2.2.2.2.2.2.2.2.2.2.2.2.2.2.2.2.1
noncomputable def sem24 : Sem1 := semOf ps24 rs24 x24
theorem so24 : SemsOk Tryz.prog (semsOf sl24) := sems_cons k62 (sems_cons k63 (sems_cons k64 (sems_cons k65 (sems_cons k66 (sems_cons k67 (sems_nil))))))
theorem t24_eq (x : denR (headRT (ps24.map some))) : codeK (tabOf tr) (semsOf sl24) D24 L24 code24 (start 73 ps24 x) (finK rs24 ps24) = x24 x := by kernel_rfl
theorem k24 : Known Tryz.prog 24 sem24 :=
  fn_auto tr_ok eq_ok mixed_ok so24 (D := D24) (code := code24) (n := 73) Tryz.func24 (by kernel_rfl) (by kernel_rfl) (by kernel_rfl) (fun w0 mu _ hs => (loops_of (l := []) (by kernel_rfl) (List.forall_mem_nil _))) t24_eq

/-! ### f106: slices.Clone[[]int,int] -/
noncomputable def code106 : Code := match Tryz.f106.body with | some c => c | none => .skip
def ps106 : List AP := [.val false [.shr T_i]]
def rs106 : List RP := [{ src := .tmp 2, agg := false, ps := [.own T_i] }]
noncomputable def sl106 : SemL := []
def D106 : Draws := fun _ => .nil
noncomputable def L106 {R : Type} : Loops R := fun _ _ _ _ => none
noncomputable def slices_Clone_int (s0 : List (Int × Unit)) : Option ((List (Int × Unit)) × Unit) :=
  bif Nat.ble ((0 + (List.length s0)) * 8) lim then some ([] ++ s0, ())
  else none
noncomputable def x106 (x : (List (Int × Unit)) × Unit) : Option ((List (Int × Unit)) × Unit) := slices_Clone_int x.1
noncomputable def sem106 : Sem1 := semOf ps106 rs106 x106
theorem so106 : SemsOk Tryz.prog (semsOf sl106) := sems_nil
theorem t106_nn (x : denR (headRT (ps106.map some))) : codeK (tabOf tr) (semsOf sl106) D106 L106 code106 (startNn 8 (T_i) x.1 ps106 x) (finK rs106 ps106) = x106 x := by kernel_rfl
theorem t106_nil (z : Unit) : codeK (tabOf tr) (semsOf sl106) D106 L106 code106 (startNil 8 ps106 (([] : List (denR (T_i))), z)) (finK rs106 ps106) = x106 (([] : List (denR (T_i))), z) := by kernel_rfl
theorem k106 : Known Tryz.prog 106 sem106 :=
  fn_auto_nil tr_ok eq_ok mixed_ok so106 (D := D106) (code := code106) (n := 8) Tryz.func106 (by kernel_rfl) (by kernel_rfl) (by kernel_rfl) (fun w0 mu _ hs => (loops_of (l := []) (by kernel_rfl) (List.forall_mem_nil _))) t106_nil t106_nn

/-! ### f69: impl.copyRing -/
noncomputable def code69 : Code := match Tryz.f69.body with | some c => c | none => .skip
def ps69 : List AP := [.val true [.int .i64, .shr T_i]]
def rs69 : List RP := [{ src := .cell 2, agg := true, ps := [.int .i64, .own T_i] }]
noncomputable def sl69 : SemL := [(106, (.shr, .shr, .shr, sem106))]
def D69 : Draws := fun id => bif Nat.beq id 1 then .op 0 .any (.op 1 .take (.op 2 .any (.op 3 .take (.op 4 .one (.op 5 .any (.op 6 .last (.nil))))))) else .nil
noncomputable def L69 {R : Type} : Loops R := fun _ _ _ _ => none
noncomputable def impl_copyRing (r0c0 : Int) (r0c1 : List (Int × Unit)) : Option (Int × (List (Int × Unit)) × Unit) :=
  Option.bind (slices_Clone_int r0c1) fun y1 =>
  some (r0c0, y1.1, ())
noncomputable def x69 (x : Int × (List (Int × Unit)) × Unit) : Option (Int × (List (Int × Unit)) × Unit) := impl_copyRing x.1 x.2.1
noncomputable def sem69 : Sem1 := semOf ps69 rs69 x69
theorem so69 : SemsOk Tryz.prog (semsOf sl69) := sems_cons k106 (sems_nil)
theorem t69_eq (x : denR (headRT (ps69.map some))) : codeK (tabOf tr) (semsOf sl69) D69 L69 code69 (start 9 ps69 x) (finK rs69 ps69) = x69 x := by kernel_rfl
theorem k69 : Known Tryz.prog 69 sem69 :=
  fn_auto tr_ok eq_ok mixed_ok so69 (D := D69) (code := code69) (n := 9) Tryz.func69 (by kernel_rfl) (by kernel_rfl) (by kernel_rfl) (fun w0 mu _ hs => (loops_of (l := []) (by kernel_rfl) (List.forall_mem_nil _))) t69_eq

/-! ### f105: impl.Item] -/
noncomputable def code105 : Code := match Tryz.f105.body with | some c => c | none => .skip
def ps105 : List AP := [.val false [.shr T_iiis]]
def rs105 : List RP := [{ src := .tmp 2, agg := false, ps := [.own T_iiis] }]
noncomputable def sl105 : SemL := []
def D105 : Draws := fun _ => .nil
noncomputable def L105 {R : Type} : Loops R := fun _ _ _ _ => none
noncomputable def slices_Clone_impl_Item (s0 : List R_iiis) : Option ((List R_iiis) × Unit) :=
  bif Nat.ble ((0 + (List.length s0)) * 40) lim then some ([] ++ s0, ())
  else none
noncomputable def x105 (x : (List R_iiis) × Unit) : Option ((List R_iiis) × Unit) := slices_Clone_impl_Item x.1
noncomputable def sem105 : Sem1 := semOf ps105 rs105 x105
theorem so105 : SemsOk Tryz.prog (semsOf sl105) := sems_nil
theorem t105_nn (x : denR (headRT (ps105.map some))) : codeK (tabOf tr) (semsOf sl105) D105 L105 code105 (startNn 8 (T_iiis) x.1 ps105 x) (finK rs105 ps105) = x105 x := by kernel_rfl
theorem t105_nil (z : Unit) : codeK (tabOf tr) (semsOf sl105) D105 L105 code105 (startNil 8 ps105 (([] : List (denR (T_iiis))), z)) (finK rs105 ps105) = x105 (([] : List (denR (T_iiis))), z) := by kernel_rfl
theorem k105 : Known Tryz.prog 105 sem105 :=
  fn_auto_nil tr_ok eq_ok mixed_ok so105 (D := D105) (code := code105) (n := 8) Tryz.func105 (by kernel_rfl) (by kernel_rfl) (by kernel_rfl) (fun w0 mu _ hs => (loops_of (l := []) (by kernel_rfl) (List.forall_mem_nil _))) t105_nil t105_nn

/-! ### f107: slices.Clone[[]string,string] -/
noncomputable def code107 : Code := match Tryz.f107.body with | some c => c | none => .skip
def ps107 : List AP := [.val false [.shr T_s]]
def rs107 : List RP := [{ src := .tmp 2, agg := false, ps := [.own T_s] }]
noncomputable def sl107 : SemL := []
def D107 : Draws := fun _ => .nil
noncomputable def L107 {R : Type} : Loops R := fun _ _ _ _ => none
noncomputable def slices_Clone_string (s0 : List (ByteArray × Unit)) : Option ((List (ByteArray × Unit)) × Unit) :=
  bif Nat.ble ((0 + (List.length s0)) * 16) lim then some ([] ++ s0, ())
  else none
noncomputable def x107 (x : (List (ByteArray × Unit)) × Unit) : Option ((List (ByteArray × Unit)) × Unit) := slices_Clone_string x.1
noncomputable def sem107 : Sem1 := semOf ps107 rs107 x107
theorem so107 : SemsOk Tryz.prog (semsOf sl107) := sems_nil
theorem t107_nn (x : denR (headRT (ps107.map some))) : codeK (tabOf tr) (semsOf sl107) D107 L107 code107 (startNn 8 (T_s) x.1 ps107 x) (finK rs107 ps107) = x107 x := by kernel_rfl
theorem t107_nil (z : Unit) : codeK (tabOf tr) (semsOf sl107) D107 L107 code107 (startNil 8 ps107 (([] : List (denR (T_s))), z)) (finK rs107 ps107) = x107 (([] : List (denR (T_s))), z) := by kernel_rfl
theorem k107 : Known Tryz.prog 107 sem107 :=
  fn_auto_nil tr_ok eq_ok mixed_ok so107 (D := D107) (code := code107) (n := 8) Tryz.func107 (by kernel_rfl) (by kernel_rfl) (by kernel_rfl) (fun w0 mu _ hs => (loops_of (l := []) (by kernel_rfl) (List.forall_mem_nil _))) t107_nil t107_nn

/-! ### f108: impl.copyToken -/
noncomputable def code108 : Code := match Tryz.f108.body with | some c => c | none => .skip
def ps108 : List AP := [.val true [.int .i64, .int .i64, .int .i64, .int .i64, .int .i64, .shr T_i]]
def rs108 : List RP := [{ src := .cell 2, agg := true, ps := [.int .i64, .int .i64, .int .i64, .int .i64, .int .i64, .own T_i] }]
noncomputable def sl108 : SemL := [(106, (.shr, .shr, .shr, sem106))]
def D108 : Draws := fun _ => .nil
noncomputable def L108 {R : Type} : Loops R := fun _ _ _ _ => none
noncomputable def impl_copyToken (t0c0 : Int) (t0c1 : Int) (t0c2 : Int) (t0c3 : Int) (t0c4 : Int) (t0c5 : List (Int × Unit)) : Option (Int × Int × Int × Int × Int × (List (Int × Unit)) × Unit) :=
  Option.bind (slices_Clone_int t0c5) fun y1 =>
  some (t0c0, t0c1, t0c2, t0c3, t0c4, y1.1, ())
noncomputable def x108 (x : Int × Int × Int × Int × Int × (List (Int × Unit)) × Unit) : Option (Int × Int × Int × Int × Int × (List (Int × Unit)) × Unit) := impl_copyToken x.1 x.2.1 x.2.2.1 x.2.2.2.1 x.2.2.2.2.1 x.2.2.2.2.2.1
noncomputable def sem108 : Sem1 := semOf ps108 rs108 x108
theorem so108 : SemsOk Tryz.prog (semsOf sl108) := sems_cons k106 (sems_nil)
theorem t108_eq (x : denR (headRT (ps108.map some))) : codeK (tabOf tr) (semsOf sl108) D108 L108 code108 (start 8 ps108 x) (finK rs108 ps108) = x108 x := by kernel_rfl
theorem k108 : Known Tryz.prog 108 sem108 :=
  fn_auto tr_ok eq_ok mixed_ok so108 (D := D108) (code := code108) (n := 8) Tryz.func108 (by kernel_rfl) (by kernel_rfl) (by kernel_rfl) (fun w0 mu _ hs => (loops_of (l := []) (by kernel_rfl) (List.forall_mem_nil _))) t108_eq

/-! ### f68: impl.copyMate -/
noncomputable def code68 : Code := match Tryz.f68.body with | some c => c | none => .skip
def ps68 : List AP := [.val true [.int .i64, .int .i64, .shr T_i, .shr T_iiis, .shr T_i, .shr T_s, .int .i64, .int .i64, .int .i64, .int .i64, .int .i64, .int .i64, .int .i64, .int .i64, .int .i64, .shr T_i]]
def rs68 : List RP := [{ src := .cell 2, agg := true, ps := [.int .i64, .int .i64, .own T_i, .own T_iiis, .own T_i, .own T_s, .int .i64, .int .i64, .int .i64, .int .i64, .int .i64, .int .i64, .int .i64, .int .i64, .int .i64, .own T_i] }]
noncomputable def sl68 : SemL := [(69, (.shr, .shr, .shr, sem69)), (105, (.shr, .shr, .shr, sem105)), (106, (.shr, .shr, .shr, sem106)), (107, (.shr, .shr, .shr, sem107)), (108, (.shr, .shr, .shr, sem108))]
def D68 : Draws := fun _ => .nil
noncomputable def L68 {R : Type} : Loops R := fun _ _ _ _ => none
noncomputable def impl_copyMate (m0c0 : Int) (m0c1 : Int) (m0c2 : List (Int × Unit)) (m0c3 : List R_iiis) (m0c4 : List (Int × Unit)) (m0c5 : List (ByteArray × Unit)) (m0c6 : Int) (m0c7 : Int) (m0c8 : Int) (m0c9 : Int) (m0c10 : Int) (m0c11 : Int) (m0c12 : Int) (m0c13 : Int) (m0c14 : Int) (m0c15 : List (Int × Unit)) : Option (Int × Int × (List (Int × Unit)) × (List R_iiis) × (List (Int × Unit)) × (List (ByteArray × Unit)) × Int × Int × Int × Int × Int × Int × Int × Int × Int × (List (Int × Unit)) × Unit) :=
  Option.bind (impl_copyRing m0c1 m0c2) fun y1 =>
  Option.bind (slices_Clone_impl_Item m0c3) fun y2 =>
  Option.bind (slices_Clone_int m0c4) fun y3 =>
  Option.bind (slices_Clone_string m0c5) fun y4 =>
  Option.bind (impl_copyToken m0c10 m0c11 m0c12 m0c13 m0c14 m0c15) fun y5 =>
  some (m0c0, y1.1, y1.2.1, y2.1, y3.1, y4.1, m0c6, m0c7, m0c8, m0c9, y5.1, y5.2.1, y5.2.2.1, y5.2.2.2.1, y5.2.2.2.2.1, y5.2.2.2.2.2.1, ())
noncomputable def x68 (x : Int × Int × (List (Int × Unit)) × (List R_iiis) × (List (Int × Unit)) × (List (ByteArray × Unit)) × Int × Int × Int × Int × Int × Int × Int × Int × Int × (List (Int × Unit)) × Unit) : Option (Int × Int × (List (Int × Unit)) × (List R_iiis) × (List (Int × Unit)) × (List (ByteArray × Unit)) × Int × Int × Int × Int × Int × Int × Int × Int × Int × (List (Int × Unit)) × Unit) := impl_copyMate x.1 x.2.1 x.2.2.1 x.2.2.2.1 x.2.2.2.2.1 x.2.2.2.2.2.1 x.2.2.2.2.2.2.1 x.2.2.2.2.2.2.2.1 x.2.2.2.2.2.2.2.2.1 x.2.2.2.2.2.2.2.2.2.1 x.2.2.2.2.2.2.2.2.2.2.1 x.2.2.2.2.2.2.2.2.2.2.2.1 x.2.2.2.2.2.2.2.2.2.2.2.2.1 x.2.2.2.2.2.2.2.2.2.2.2.2.2.1 x.2.2.2.2.2.2.2.2.2.2.2.2.2.2.1 x.2.2.2.2.2.2.2.2.2.2.2.2.2.2.2.1
noncomputable def sem68 : Sem1 := semOf ps68 rs68 x68
theorem so68 : SemsOk Tryz.prog (semsOf sl68) := sems_cons k69 (sems_cons k105 (sems_cons k106 (sems_cons k107 (sems_cons k108 (sems_nil)))))
theorem t68_eq (x : denR (headRT (ps68.map some))) : codeK (tabOf tr) (semsOf sl68) D68 L68 code68 (start 24 ps68 x) (finK rs68 ps68) = x68 x := by kernel_rfl
theorem k68 : Known Tryz.prog 68 sem68 :=
  fn_auto tr_ok eq_ok mixed_ok so68 (D := D68) (code := code68) (n := 24) Tryz.func68 (by kernel_rfl) (by kernel_rfl) (by kernel_rfl) (fun w0 mu _ hs => (loops_of (l := []) (by kernel_rfl) (List.forall_mem_nil _))) t68_eq

/-! ### f109: impl.copyBundle -/
noncomputable def code109 : Code := match Tryz.f109.body with | some c => c | none => .skip
def ps109 : List AP := [.val true [.int .i64, .int .i64, .int .i64, .shr T_iiis]]
def rs109 : List RP := [{ src := .cell 2, agg := true, ps := [.int .i64, .int .i64, .int .i64, .own T_iiis] }]
noncomputable def sl109 : SemL := [(105, (.shr, .shr, .shr, sem105))]
def D109 : Draws := fun _ => .nil
noncomputable def L109 {R : Type} : Loops R := fun _ _ _ _ => none
noncomputable def impl_copyBundle (b0c0 : Int) (b0c1 : Int) (b0c2 : Int) (b0c3 : List R_iiis) : Option (Int × Int × Int × (List R_iiis) × Unit) :=
  Option.bind (slices_Clone_impl_Item b0c3) fun y1 =>
  some (b0c0, b0c1, b0c2, y1.1, ())
noncomputable def x109 (x : Int × Int × Int × (List R_iiis) × Unit) : Option (Int × Int × Int × (List R_iiis) × Unit) := impl_copyBundle x.1 x.2.1 x.2.2.1 x.2.2.2.1
noncomputable def sem109 : Sem1 := semOf ps109 rs109 x109
theorem so109 : SemsOk Tryz.prog (semsOf sl109) := sems_cons k105 (sems_nil)
theorem t109_eq (x : denR (headRT (ps109.map some))) : codeK (tabOf tr) (semsOf sl109) D109 L109 code109 (start 8 ps109 x) (finK rs109 ps109) = x109 x := by kernel_rfl
theorem k109 : Known Tryz.prog 109 sem109 :=
  fn_auto tr_ok eq_ok mixed_ok so109 (D := D109) (code := code109) (n := 8) Tryz.func109 (by kernel_rfl) (by kernel_rfl) (by kernel_rfl) (fun w0 mu _ hs => (loops_of (l := []) (by kernel_rfl) (List.forall_mem_nil _))) t109_eq

/-! ### f70: impl.copyBundles -/
noncomputable def code70 : Code := match Tryz.f70.body with | some c => c | none => .skip
def ps70 : List AP := [.val false [.shr T_iiiLiiisE]]
def rs70 : List RP := [{ src := .tmp 2, agg := false, ps := [.own T_iiiLiiisE .dp] }]
noncomputable def sl70 : SemL := [(109, (.shr, .shr, .shr, sem109))]
def D70 : Draws := fun _ => .nil
def hp70_0 : List (Option AP) := [none, none, none, some (.val false [.own T_iiiLiiisE .dp]), none, none, some (.val false [.shr T_iiiLiiisE]), some (.val false [.int .i64]), some (.val false [.int .i64]), none, none, none, none, none, none, none, none, none, none, none]
def e70_0 : List (Option AP) := [none, none, none, some (.val false [.own T_iiiLiiisE .dp]), none, none, none, none, none, none, none, none, none, none, none, none, none, none, none, none]
def q70_0 : List (Option AP) := [none, none, none, none, none, none, none, none, none, none, none, none, none, none, none, none, none, none, none, none]
abbrev H70_0 : Type := (List R_iiiLiiisE) × (List R_iiiLiiisE) × Int × Int × Unit
abbrev E70_0 : Type := (List R_iiiLiiisE) × Unit
abbrev Q70_0 : Type := Unit
noncomputable def impl_copyBundles_c0 (out3 : List R_iiiLiiisE) (t6 : List R_iiiLiiisE) (t7 : Int) (t8 : Int) : Option (Sum H70_0 (Sum E70_0 Q70_0)) :=
  bif decide (t8 < t7) then
    bif decide ((0 : Int) ≤ t8) then Option.bind ((t6)[Int.toNat t8]?) fun r1 =>
      Option.bind (impl_copyBundle r1.1 r1.2.1 r1.2.2.1 r1.2.2.2.1) fun y2 =>
      bif Nat.ble (((List.length out3) + 1) * 48) lim then some (.inl (out3 ++ [(y2.1, y2.2.1, y2.2.2.1, y2.2.2.2.1, ())], t6, t7, IntKind.i64.wrap (t8 + (1 : Int)), ()))
      else none
    else none
  else
    some (.inr (.inl (out3, ())))
noncomputable def impl_copyBundles_r0 (x : H70_0) : Option (Sum H70_0 (Sum E70_0 Q70_0)) := impl_copyBundles_c0 x.1 x.2.1 x.2.2.1 x.2.2.2.1
noncomputable def L70 {R : Type} : Loops R := fun id _ st k => bif Nat.beq id 0 then loopAt hp70_0 e70_0 q70_0 impl_copyBundles_r0 st k else none
noncomputable def impl_copyBundles (list0 : List R_iiiLiiisE) : Option ((List R_iiiLiiisE) × Unit) :=
  outK (loopV impl_copyBundles_r0 ([], list0, ((List.length list0 : Nat) : Int), (0 : Int), ())) (fun y1 =>
    some (y1.1, ())) (fun y2 =>
    none)
noncomputable def x70 (x : (List R_iiiLiiisE) × Unit) : Option ((List R_iiiLiiisE) × Unit) := impl_copyBundles x.1
noncomputable def sem70 : Sem1 := semOf ps70 rs70 x70
theorem so70 : SemsOk Tryz.prog (semsOf sl70) := sems_cons k109 (sems_nil)
noncomputable def b70_0 : Code := nthLoop code70 0
theorem t70_r0_eq (x : denR (headRT hp70_0)) : codeK (tabOf tr) (semsOf sl70) D70 L70 b70_0 (headSt hp70_0 x) (roundK 0 hp70_0 e70_0 q70_0) = impl_copyBundles_r0 x := by kernel_rfl
theorem loop70_0 {R : Type} (r : R) (w0 : World) (mu : Mu) (hs : AnShape ps70 mu) : LoopAt Tryz.prog w0 mu 19 (L70 : Loops R) r 0 b70_0 :=
  loop_auto tr_ok eq_ok mixed_ok so70 (D := D70) hs (by kernel_rfl) (fun _ => (loops_of (l := []) (by kernel_rfl) (List.forall_mem_nil _))) t70_r0_eq (fun _ _ => rfl)
theorem t70_eq (x : denR (headRT (ps70.map some))) : codeK (tabOf tr) (semsOf sl70) D70 L70 code70 (start 19 ps70 x) (finK rs70 ps70) = x70 x := by kernel_rfl
theorem k70 : Known Tryz.prog 70 sem70 :=
  fn_auto tr_ok eq_ok mixed_ok so70 (D := D70) (code := code70) (n := 19) Tryz.func70 (by kernel_rfl) (by kernel_rfl) (by kernel_rfl) (fun w0 mu _ hs => (loops_of (l := [(0, b70_0)]) (by kernel_rfl) (List.forall_mem_cons.2 ⟨loop70_0 _ w0 mu hs, (List.forall_mem_nil _)⟩))) t70_eq

/-! ### f110: impl.copyEvent -/
noncomputable def code110 : Code := match Tryz.f110.body with | some c => c | none => .skip
def ps110 : List AP := [.val true [.int .i64, .int .i64, .shr T_i, .int .i64, .int .i64, .int .i64, .str, .shr T_i]]
def rs110 : List RP := [{ src := .cell 2, agg := true, ps := [.int .i64, .int .i64, .own T_i, .int .i64, .int .i64, .int .i64, .str, .own T_i] }]
noncomputable def sl110 : SemL := [(69, (.shr, .shr, .shr, sem69)), (106, (.shr, .shr, .shr, sem106))]
def D110 : Draws := fun _ => .nil
noncomputable def L110 {R : Type} : Loops R := fun _ _ _ _ => none
noncomputable def impl_copyEvent (e0c0 : Int) (e0c1 : Int) (e0c2 : List (Int × Unit)) (e0c3 : Int) (e0c4 : Int) (e0c5 : Int) (e0c6 : ByteArray) (e0c7 : List (Int × Unit)) : Option (Int × Int × (List (Int × Unit)) × Int × Int × Int × ByteArray × (List (Int × Unit)) × Unit) :=
  Option.bind (impl_copyRing e0c1 e0c2) fun y1 =>
  Option.bind (slices_Clone_int e0c7) fun y2 =>
  some (e0c0, y1.1, y1.2.1, e0c3, e0c4, e0c5, e0c6, y2.1, ())
noncomputable def x110 (x : Int × Int × (List (Int × Unit)) × Int × Int × Int × ByteArray × (List (Int × Unit)) × Unit) : Option (Int × Int × (List (Int × Unit)) × Int × Int × Int × ByteArray × (List (Int × Unit)) × Unit) := impl_copyEvent x.1 x.2.1 x.2.2.1 x.2.2.2.1 x.2.2.2.2.1 x.2.2.2.2.2.1 x.2.2.2.2.2.2.1 x.2.2.2.2.2.2.2.1
noncomputable def sem110 : Sem1 := semOf ps110 rs110 x110
theorem so110 : SemsOk Tryz.prog (semsOf sl110) := sems_cons k69 (sems_cons k106 (sems_nil))
theorem t110_eq (x : denR (headRT (ps110.map some))) : codeK (tabOf tr) (semsOf sl110) D110 L110 code110 (start 12 ps110 x) (finK rs110 ps110) = x110 x := by kernel_rfl
theorem k110 : Known Tryz.prog 110 sem110 :=
  fn_auto tr_ok eq_ok mixed_ok so110 (D := D110) (code := code110) (n := 12) Tryz.func110 (by kernel_rfl) (by kernel_rfl) (by kernel_rfl) (fun w0 mu _ hs => (loops_of (l := []) (by kernel_rfl) (List.forall_mem_nil _))) t110_eq

/-! ### f71: impl.copyLog -/
noncomputable def code71 : Code := match Tryz.f71.body with | some c => c | none => .skip
def ps71 : List AP := [.val false [.shr T_iiLiEiiisLiE]]
def rs71 : List RP := [{ src := .tmp 2, agg := false, ps := [.own T_iiLiEiiisLiE .dp] }]
noncomputable def sl71 : SemL := [(110, (.shr, .shr, .shr, sem110))]
def D71 : Draws := fun _ => .nil
def hp71_0 : List (Option AP) := [none, none, none, some (.val false [.own T_iiLiEiiisLiE .dp]), none, none, some (.val false [.shr T_iiLiEiiisLiE]), some (.val false [.int .i64]), some (.val false [.int .i64]), none, none, none, none, none, none, none, none, none, none, none]
def e71_0 : List (Option AP) := [none, none, none, some (.val false [.own T_iiLiEiiisLiE .dp]), none, none, none, none, none, none, none, none, none, none, none, none, none, none, none, none]
def q71_0 : List (Option AP) := [none, none, none, none, none, none, none, none, none, none, none, none, none, none, none, none, none, none, none, none]
abbrev H71_0 : Type := (List R_iiLiEiiisLiE) × (List R_iiLiEiiisLiE) × Int × Int × Unit
abbrev E71_0 : Type := (List R_iiLiEiiisLiE) × Unit
abbrev Q71_0 : Type := Unit
noncomputable def impl_copyLog_c0 (out3 : List R_iiLiEiiisLiE) (t6 : List R_iiLiEiiisLiE) (t7 : Int) (t8 : Int) : Option (Sum H71_0 (Sum E71_0 Q71_0)) :=
  bif decide (t8 < t7) then
    bif decide ((0 : Int) ≤ t8) then Option.bind ((t6)[Int.toNat t8]?) fun r1 =>
      Option.bind (impl_copyEvent r1.1 r1.2.1 r1.2.2.1 r1.2.2.2.1 r1.2.2.2.2.1 r1.2.2.2.2.2.1 r1.2.2.2.2.2.2.1 r1.2.2.2.2.2.2.2.1) fun y2 =>
      bif Nat.ble (((List.length out3) + 1) * 104) lim then some (.inl (out3 ++ [(y2.1, y2.2.1, y2.2.2.1, y2.2.2.2.1, y2.2.2.2.2.1, y2.2.2.2.2.2.1, y2.2.2.2.2.2.2.1, y2.2.2.2.2.2.2.2.1, ())], t6, t7, IntKind.i64.wrap (t8 + (1 : Int)), ()))
      else none
    else none
  else
    some (.inr (.inl (out3, ())))
noncomputable def impl_copyLog_r0 (x : H71_0) : Option (Sum H71_0 (Sum E71_0 Q71_0)) := impl_copyLog_c0 x.1 x.2.1 x.2.2.1 x.2.2.2.1
noncomputable def L71 {R : Type} : Loops R := fun id _ st k => bif Nat.beq id 0 then loopAt hp71_0 e71_0 q71_0 impl_copyLog_r0 st k else none
noncomputable def impl_copyLog (log0 : List R_iiLiEiiisLiE) : Option ((List R_iiLiEiiisLiE) × Unit) :=
  outK (loopV impl_copyLog_r0 ([], log0, ((List.length log0 : Nat) : Int), (0 : Int), ())) (fun y1 =>
    some (y1.1, ())) (fun y2 =>
    none)
noncomputable def x71 (x : (List R_iiLiEiiisLiE) × Unit) : Option ((List R_iiLiEiiisLiE) × Unit) := impl_copyLog x.1
noncomputable def sem71 : Sem1 := semOf ps71 rs71 x71
theorem so71 : SemsOk Tryz.prog (semsOf sl71) := sems_cons k110 (sems_nil)
noncomputable def b71_0 : Code := nthLoop code71 0
theorem t71_r0_eq (x : denR (headRT hp71_0)) : codeK (tabOf tr) (semsOf sl71) D71 L71 b71_0 (headSt hp71_0 x) (roundK 0 hp71_0 e71_0 q71_0) = impl_copyLog_r0 x := by kernel_rfl
theorem loop71_0 {R : Type} (r : R) (w0 : World) (mu : Mu) (hs : AnShape ps71 mu) : LoopAt Tryz.prog w0 mu 19 (L71 : Loops R) r 0 b71_0 :=
  loop_auto tr_ok eq_ok mixed_ok so71 (D := D71) hs (by kernel_rfl) (fun _ => (loops_of (l := []) (by kernel_rfl) (List.forall_mem_nil _))) t71_r0_eq (fun _ _ => rfl)
theorem t71_eq (x : denR (headRT (ps71.map some))) : codeK (tabOf tr) (semsOf sl71) D71 L71 code71 (start 19 ps71 x) (finK rs71 ps71) = x71 x := by kernel_rfl
theorem k71 : Known Tryz.prog 71 sem71 :=
  fn_auto tr_ok eq_ok mixed_ok so71 (D := D71) (code := code71) (n := 19) Tryz.func71 (by kernel_rfl) (by kernel_rfl) (by kernel_rfl) (fun w0 mu _ hs => (loops_of (l := [(0, b71_0)]) (by kernel_rfl) (List.forall_mem_cons.2 ⟨loop71_0 _ w0 mu hs, (List.forall_mem_nil _)⟩))) t71_eq

end Go.TM
