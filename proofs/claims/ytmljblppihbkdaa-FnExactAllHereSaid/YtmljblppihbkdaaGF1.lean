/- What the functions answer, as terms; their contracts. -/
import Derived.Test.YtmljblppihbkdaaGBase
set_option linter.unusedSimpArgs false
set_option linter.unusedVariables false
namespace Go.TM
open Go Go.RowKit Go.Proofs

/-! ### f62: laws.szIntS -/
noncomputable def code62 : Code := match Try.f62.body with | some c => c | none => .skip
def ps62 : List AP := [.val false [.shr T_i], .val false [.int .i64]]
def rs62 : List RP := [{ src := .tmp 4, agg := false, ps := [.int .i64] }]
noncomputable def sl62 : SemL := []
def D62 : Draws := fun _ => .nil
noncomputable def L62 {R : Type} : Loops R := fun _ _ _ _ => none
noncomputable def laws_szIntS (a0 : List (Int × Unit)) (left1 : Int) : Option (Int × Unit) :=
  bif decide (IntKind.i64.wrap (left1 - ((List.length a0 : Nat) : Int)) < (0 : Int)) then
    some ((-1 : Int), ())
  else
    some (IntKind.i64.wrap (left1 - ((List.length a0 : Nat) : Int)), ())
noncomputable def x62 (x : (List (Int × Unit)) × Int × Unit) : Option (Int × Unit) := laws_szIntS x.1 x.2.1
noncomputable def sem62 : Sem1 := semOf ps62 rs62 x62
theorem so62 : SemsOk Try.prog (semsOf sl62) := sems_nil
theorem t62_eq (x : denR (headRT (ps62.map some))) : codeK (tabOf tr) (semsOf sl62) D62 L62 code62 (start 12 ps62 x) (finK rs62 ps62) = x62 x := by kernel_rfl
theorem k62 : Known Try.prog 62 sem62 :=
  fn_auto tr_ok eq_ok mixed_ok so62 (D := D62) (code := code62) (n := 12) Try.func62 (by kernel_rfl) (by kernel_rfl) (by kernel_rfl) (fun w0 mu _ hs => (loops_of (l := []) (by kernel_rfl) (List.forall_mem_nil _))) t62_eq

/-! ### f10: laws.szRing -/
noncomputable def code10 : Code := match Try.f10.body with | some c => c | none => .skip
def ps10 : List AP := [.val true [.int .i64, .shr T_i], .val false [.int .i64]]
def rs10 : List RP := [{ src := .tmp 4, agg := false, ps := [.int .i64] }]
noncomputable def sl10 : SemL := [(62, (.shr, .shr, .shr, sem62))]
def D10 : Draws := fun _ => .nil
noncomputable def L10 {R : Type} : Loops R := fun _ _ _ _ => none
noncomputable def laws_szRing (a0c0 : Int) (a0c1 : List (Int × Unit)) (left1 : Int) : Option (Int × Unit) :=
  Option.bind (laws_szIntS a0c1 left1) fun y1 =>
  bif decide (y1.1 < (0 : Int)) then
    some ((-1 : Int), ())
  else
    some (y1.1, ())
noncomputable def x10 (x : Int × (List (Int × Unit)) × Int × Unit) : Option (Int × Unit) := laws_szRing x.1 x.2.1 x.2.2.1
noncomputable def sem10 : Sem1 := semOf ps10 rs10 x10
theorem so10 : SemsOk Try.prog (semsOf sl10) := sems_cons k62 (sems_nil)
theorem t10_eq (x : denR (headRT (ps10.map some))) : codeK (tabOf tr) (semsOf sl10) D10 L10 code10 (start 12 ps10 x) (finK rs10 ps10) = x10 x := by kernel_rfl
theorem k10 : Known Try.prog 10 sem10 :=
  fn_auto tr_ok eq_ok mixed_ok so10 (D := D10) (code := code10) (n := 12) Try.func10 (by kernel_rfl) (by kernel_rfl) (by kernel_rfl) (fun w0 mu _ hs => (loops_of (l := []) (by kernel_rfl) (List.forall_mem_nil _))) t10_eq

/-! ### f54: laws.szItem -/
noncomputable def code54 : Code := match Try.f54.body with | some c => c | none => .skip
def ps54 : List AP := [.val true [.int .i64, .int .i64, .int .i64, .str], .val false [.int .i64]]
def rs54 : List RP := [{ src := .tmp 4, agg := false, ps := [.int .i64] }]
noncomputable def sl54 : SemL := []
def D54 : Draws := fun _ => .nil
noncomputable def L54 {R : Type} : Loops R := fun _ _ _ _ => none
noncomputable def laws_szItem (a0c0 : Int) (a0c1 : Int) (a0c2 : Int) (a0c3 : ByteArray) (left1 : Int) : Option (Int × Unit) :=
  bif decide (IntKind.i64.wrap (left1 - ((ByteArray.size a0c3 : Nat) : Int)) < (0 : Int)) then
    some ((-1 : Int), ())
  else
    some (IntKind.i64.wrap (left1 - ((ByteArray.size a0c3 : Nat) : Int)), ())
noncomputable def x54 (x : Int × Int × Int × ByteArray × Int × Unit) : Option (Int × Unit) := laws_szItem x.1 x.2.1 x.2.2.1 x.2.2.2.1 x.2.2.2.2.1
noncomputable def sem54 : Sem1 := semOf ps54 rs54 x54
theorem so54 : SemsOk Try.prog (semsOf sl54) := sems_nil
theorem t54_eq (x : denR (headRT (ps54.map some))) : codeK (tabOf tr) (semsOf sl54) D54 L54 code54 (start 13 ps54 x) (finK rs54 ps54) = x54 x := by kernel_rfl
theorem k54 : Known Try.prog 54 sem54 :=
  fn_auto tr_ok eq_ok mixed_ok so54 (D := D54) (code := code54) (n := 13) Try.func54 (by kernel_rfl) (by kernel_rfl) (by kernel_rfl) (fun w0 mu _ hs => (loops_of (l := []) (by kernel_rfl) (List.forall_mem_nil _))) t54_eq

/-! ### f111: laws.szItemS -/
noncomputable def code111 : Code := match Try.f111.body with | some c => c | none => .skip
def ps111 : List AP := [.val false [.shr T_iiis], .val false [.int .i64]]
def rs111 : List RP := [{ src := .tmp 4, agg := false, ps := [.int .i64] }]
noncomputable def sl111 : SemL := [(54, (.shr, .shr, .shr, sem54))]
def D111 : Draws := fun _ => .nil
def hp111_0 : List (Option AP) := [some (.val false [.shr T_iiis]), some (.val false [.int .i64]), none, none, none, some (.val false [.int .i64]), none, none, none, none, none, none, none, none, none, none, none, none, none, none, none, none, none, none, none, none, none, none]
def e111_0 : List (Option AP) := [none, some (.val false [.int .i64]), none, none, none, none, none, none, none, none, none, none, none, none, none, none, none, none, none, none, none, none, none, none, none, none, none, none]
def q111_0 : List (Option AP) := [none, none, none, none, some (.val false [.int .i64]), none, none, none, none, none, none, none, none, none, none, none, none, none, none, none, none, none, none, none, none, none, none, none]
abbrev H111_0 : Type := (List R_iiis) × Int × Int × Unit
abbrev E111_0 : Type := Int × Unit
abbrev Q111_0 : Type := Int × Unit
noncomputable def laws_szItemS_c0 (a0 : List R_iiis) (left1 : Int) (i5 : Int) : Option (Sum H111_0 (Sum E111_0 Q111_0)) :=
  bif decide (i5 < ((List.length a0 : Nat) : Int)) then
    bif decide ((0 : Int) ≤ i5) then Option.bind ((a0)[Int.toNat i5]?) fun r1 =>
      Option.bind (laws_szItem r1.1 r1.2.1 r1.2.2.1 r1.2.2.2.1 left1) fun y2 =>
      bif decide (y2.1 < (0 : Int)) then
        some (.inr (.inr ((-1 : Int), ())))
      else
        some (.inl (a0, y2.1, IntKind.i64.wrap (i5 + (1 : Int)), ()))
    else none
  else
    some (.inr (.inl (left1, ())))
noncomputable def laws_szItemS_r0 (x : H111_0) : Option (Sum H111_0 (Sum E111_0 Q111_0)) := laws_szItemS_c0 x.1 x.2.1 x.2.2.1
noncomputable def L111 {R : Type} : Loops R := fun id _ st k => bif Nat.beq id 0 then loopAt hp111_0 e111_0 q111_0 laws_szItemS_r0 st k else none
noncomputable def laws_szItemS (a0 : List R_iiis) (left1 : Int) : Option (Int × Unit) :=
  bif decide (IntKind.i64.wrap (left1 - ((List.length a0 : Nat) : Int)) < (0 : Int)) then
    some ((-1 : Int), ())
  else
    outK (loopV laws_szItemS_r0 (a0, IntKind.i64.wrap (left1 - ((List.length a0 : Nat) : Int)), (0 : Int), ())) (fun y1 =>
      some (y1.1, ())) (fun y2 =>
      some (y2.1, ()))
noncomputable def x111 (x : (List R_iiis) × Int × Unit) : Option (Int × Unit) := laws_szItemS x.1 x.2.1
noncomputable def sem111 : Sem1 := semOf ps111 rs111 x111
theorem so111 : SemsOk Try.prog (semsOf sl111) := sems_cons k54 (sems_nil)
noncomputable def b111_0 : Code := nthLoop code111 0
theorem t111_r0_eq (x : denR (headRT hp111_0)) : codeK (tabOf tr) (semsOf sl111) D111 L111 b111_0 (headSt hp111_0 x) (roundK 0 hp111_0 e111_0 q111_0) = laws_szItemS_r0 x := by kernel_rfl
theorem loop111_0 {R : Type} (r : R) (w0 : World) (mu : Mu) (hs : AnShape ps111 mu) : LoopAt Try.prog w0 mu 27 (L111 : Loops R) r 0 b111_0 :=
  loop_auto tr_ok eq_ok mixed_ok so111 (D := D111) hs (by kernel_rfl) (fun _ => (loops_of (l := []) (by kernel_rfl) (List.forall_mem_nil _))) t111_r0_eq (fun _ _ => rfl)
theorem t111_eq (x : denR (headRT (ps111.map some))) : codeK (tabOf tr) (semsOf sl111) D111 L111 code111 (start 27 ps111 x) (finK rs111 ps111) = x111 x := by kernel_rfl
theorem k111 : Known Try.prog 111 sem111 :=
  fn_auto tr_ok eq_ok mixed_ok so111 (D := D111) (code := code111) (n := 27) Try.func111 (by kernel_rfl) (by kernel_rfl) (by kernel_rfl) (fun w0 mu _ hs => (loops_of (l := [(0, b111_0)]) (by kernel_rfl) (List.forall_mem_cons.2 ⟨loop111_0 _ w0 mu hs, (List.forall_mem_nil _)⟩))) t111_eq

/-! ### f39: laws.szBundle -/
noncomputable def code39 : Code := match Try.f39.body with | some c => c | none => .skip
def ps39 : List AP := [.val true [.int .i64, .int .i64, .int .i64, .shr T_iiis], .val false [.int .i64]]
def rs39 : List RP := [{ src := .tmp 4, agg := false, ps := [.int .i64] }]
noncomputable def sl39 : SemL := [(111, (.shr, .shr, .shr, sem111))]
def D39 : Draws := fun _ => .nil
noncomputable def L39 {R : Type} : Loops R := fun _ _ _ _ => none
noncomputable def laws_szBundle (a0c0 : Int) (a0c1 : Int) (a0c2 : Int) (a0c3 : List R_iiis) (left1 : Int) : Option (Int × Unit) :=
  Option.bind (laws_szItemS a0c3 left1) fun y1 =>
  bif decide (y1.1 < (0 : Int)) then
    some ((-1 : Int), ())
  else
    some (y1.1, ())
noncomputable def x39 (x : Int × Int × Int × (List R_iiis) × Int × Unit) : Option (Int × Unit) := laws_szBundle x.1 x.2.1 x.2.2.1 x.2.2.2.1 x.2.2.2.2.1
noncomputable def sem39 : Sem1 := semOf ps39 rs39 x39
theorem so39 : SemsOk Try.prog (semsOf sl39) := sems_cons k111 (sems_nil)
theorem t39_eq (x : denR (headRT (ps39.map some))) : codeK (tabOf tr) (semsOf sl39) D39 L39 code39 (start 12 ps39 x) (finK rs39 ps39) = x39 x := by kernel_rfl
theorem k39 : Known Try.prog 39 sem39 :=
  fn_auto tr_ok eq_ok mixed_ok so39 (D := D39) (code := code39) (n := 12) Try.func39 (by kernel_rfl) (by kernel_rfl) (by kernel_rfl) (fun w0 mu _ hs => (loops_of (l := []) (by kernel_rfl) (List.forall_mem_nil _))) t39_eq

/-! ### f28: laws.szBundleS -/
noncomputable def code28 : Code := match Try.f28.body with | some c => c | none => .skip
def ps28 : List AP := [.val false [.shr T_iiiLiiisE], .val false [.int .i64]]
def rs28 : List RP := [{ src := .tmp 4, agg := false, ps := [.int .i64] }]
noncomputable def sl28 : SemL := [(39, (.shr, .shr, .shr, sem39))]
def D28 : Draws := fun _ => .nil
def hp28_0 : List (Option AP) := [some (.val false [.shr T_iiiLiiisE]), some (.val false [.int .i64]), none, none, none, some (.val false [.int .i64]), none, none, none, none, none, none, none, none, none, none, none, none, none, none, none, none, none, none, none, none, none, none]
def e28_0 : List (Option AP) := [none, some (.val false [.int .i64]), none, none, none, none, none, none, none, none, none, none, none, none, none, none, none, none, none, none, none, none, none, none, none, none, none, none]
def q28_0 : List (Option AP) := [none, none, none, none, some (.val false [.int .i64]), none, none, none, none, none, none, none, none, none, none, none, none, none, none, none, none, none, none, none, none, none, none, none]
abbrev H28_0 : Type := (List R_iiiLiiisE) × Int × Int × Unit
abbrev E28_0 : Type := Int × Unit
abbrev Q28_0 : Type := Int × Unit
noncomputable def laws_szBundleS_c0 (a0 : List R_iiiLiiisE) (left1 : Int) (i5 : Int) : Option (Sum H28_0 (Sum E28_0 Q28_0)) :=
  bif decide (i5 < ((List.length a0 : Nat) : Int)) then
    bif decide ((0 : Int) ≤ i5) then Option.bind ((a0)[Int.toNat i5]?) fun r1 =>
      Option.bind (laws_szBundle r1.1 r1.2.1 r1.2.2.1 r1.2.2.2.1 left1) fun y2 =>
      bif decide (y2.1 < (0 : Int)) then
        some (.inr (.inr ((-1 : Int), ())))
      else
        some (.inl (a0, y2.1, IntKind.i64.wrap (i5 + (1 : Int)), ()))
    else none
  else
    some (.inr (.inl (left1, ())))
noncomputable def laws_szBundleS_r0 (x : H28_0) : Option (Sum H28_0 (Sum E28_0 Q28_0)) := laws_szBundleS_c0 x.1 x.2.1 x.2.2.1
noncomputable def L28 {R : Type} : Loops R := fun id _ st k => bif Nat.beq id 0 then loopAt hp28_0 e28_0 q28_0 laws_szBundleS_r0 st k else none
noncomputable def laws_szBundleS (a0 : List R_iiiLiiisE) (left1 : Int) : Option (Int × Unit) :=
  bif decide (IntKind.i64.wrap (left1 - ((List.length a0 : Nat) : Int)) < (0 : Int)) then
    some ((-1 : Int), ())
  else
    outK (loopV laws_szBundleS_r0 (a0, IntKind.i64.wrap (left1 - ((List.length a0 : Nat) : Int)), (0 : Int), ())) (fun y1 =>
      some (y1.1, ())) (fun y2 =>
      some (y2.1, ()))
noncomputable def x28 (x : (List R_iiiLiiisE) × Int × Unit) : Option (Int × Unit) := laws_szBundleS x.1 x.2.1
noncomputable def sem28 : Sem1 := semOf ps28 rs28 x28
theorem so28 : SemsOk Try.prog (semsOf sl28) := sems_cons k39 (sems_nil)
noncomputable def b28_0 : Code := nthLoop code28 0
theorem t28_r0_eq (x : denR (headRT hp28_0)) : codeK (tabOf tr) (semsOf sl28) D28 L28 b28_0 (headSt hp28_0 x) (roundK 0 hp28_0 e28_0 q28_0) = laws_szBundleS_r0 x := by kernel_rfl
theorem loop28_0 {R : Type} (r : R) (w0 : World) (mu : Mu) (hs : AnShape ps28 mu) : LoopAt Try.prog w0 mu 27 (L28 : Loops R) r 0 b28_0 :=
  loop_auto tr_ok eq_ok mixed_ok so28 (D := D28) hs (by kernel_rfl) (fun _ => (loops_of (l := []) (by kernel_rfl) (List.forall_mem_nil _))) t28_r0_eq (fun _ _ => rfl)
theorem t28_eq (x : denR (headRT (ps28.map some))) : codeK (tabOf tr) (semsOf sl28) D28 L28 code28 (start 27 ps28 x) (finK rs28 ps28) = x28 x := by kernel_rfl
theorem k28 : Known Try.prog 28 sem28 :=
  fn_auto tr_ok eq_ok mixed_ok so28 (D := D28) (code := code28) (n := 27) Try.func28 (by kernel_rfl) (by kernel_rfl) (by kernel_rfl) (fun w0 mu _ hs => (loops_of (l := [(0, b28_0)]) (by kernel_rfl) (List.forall_mem_cons.2 ⟨loop28_0 _ w0 mu hs, (List.forall_mem_nil _)⟩))) t28_eq

/-! ### f66: laws.toIntS -/
noncomputable def code66 : Code := match Try.f66.body with | some c => c | none => .skip
def ps66 : List AP := [.val false [.shr T_i]]
def rs66 : List RP := [{ src := .tmp 2, agg := false, ps := [.own T_i] }]
noncomputable def sl66 : SemL := []
def D66 : Draws := fun _ => .nil
def hp66_0 : List (Option AP) := [some (.val false [.shr T_i]), none, none, some (.val false [.own T_i]), some (.val false [.int .i64]), none, none, none, none, none, none, none, none, none, none, none, none, none, none, none, none, none, none]
def e66_0 : List (Option AP) := [none, none, none, some (.val false [.own T_i]), none, none, none, none, none, none, none, none, none, none, none, none, none, none, none, none, none, none, none]
def q66_0 : List (Option AP) := [none, none, none, none, none, none, none, none, none, none, none, none, none, none, none, none, none, none, none, none, none, none, none]
abbrev H66_0 : Type := (List (Int × Unit)) × (List (Int × Unit)) × Int × Unit
abbrev E66_0 : Type := (List (Int × Unit)) × Unit
abbrev Q66_0 : Type := Unit
noncomputable def laws_toIntS_c0 (a0 : List (Int × Unit)) (out3 : List (Int × Unit)) (i4 : Int) : Option (Sum H66_0 (Sum E66_0 Q66_0)) :=
  bif decide (i4 < ((List.length a0 : Nat) : Int)) then
    bif decide ((0 : Int) ≤ i4) then Option.bind ((a0)[Int.toNat i4]?) fun r1 =>
      bif decide ((0 : Int) ≤ i4) then bif Nat.blt (Int.toNat i4) (List.length out3) then Option.bind ((out3)[Int.toNat i4]?) fun r2 =>
          some (.inl (a0, List.set out3 (Int.toNat i4) (r1.1, ()), IntKind.i64.wrap (i4 + (1 : Int)), ()))
        else none
      else none
    else none
  else
    some (.inr (.inl (out3, ())))
noncomputable def laws_toIntS_r0 (x : H66_0) : Option (Sum H66_0 (Sum E66_0 Q66_0)) := laws_toIntS_c0 x.1 x.2.1 x.2.2.1
noncomputable def L66 {R : Type} : Loops R := fun id _ st k => bif Nat.beq id 0 then loopAt hp66_0 e66_0 q66_0 laws_toIntS_r0 st k else none
noncomputable def laws_toIntS (a0 : List (Int × Unit)) : Option ((List (Int × Unit)) × Unit) :=
  bif decide (((List.length a0 : Nat) : Int) = ((List.length a0 : Nat) : Int)) then bif decide ((0 : Int) ≤ ((List.length a0 : Nat) : Int)) then bif Nat.ble ((Int.toNat ((List.length a0 : Nat) : Int)) * 8) lim then outK (loopV laws_toIntS_r0 (a0, List.replicate (Int.toNat ((List.length a0 : Nat) : Int)) ((0 : Int), ()), (0 : Int), ())) (fun y1 =>
          some (y1.1, ())) (fun y2 =>
          none)
      else none
    else none
  else none
noncomputable def x66 (x : (List (Int × Unit)) × Unit) : Option ((List (Int × Unit)) × Unit) := laws_toIntS x.1
noncomputable def sem66 : Sem1 := semOf ps66 rs66 x66
theorem so66 : SemsOk Try.prog (semsOf sl66) := sems_nil
noncomputable def b66_0 : Code := nthLoop code66 0
theorem t66_r0_eq (x : denR (headRT hp66_0)) : codeK (tabOf tr) (semsOf sl66) D66 L66 b66_0 (headSt hp66_0 x) (roundK 0 hp66_0 e66_0 q66_0) = laws_toIntS_r0 x := by kernel_rfl
theorem loop66_0 {R : Type} (r : R) (w0 : World) (mu : Mu) (hs : AnShape ps66 mu) : LoopAt Try.prog w0 mu 22 (L66 : Loops R) r 0 b66_0 :=
  loop_auto tr_ok eq_ok mixed_ok so66 (D := D66) hs (by kernel_rfl) (fun _ => (loops_of (l := []) (by kernel_rfl) (List.forall_mem_nil _))) t66_r0_eq (fun _ _ => rfl)
theorem t66_eq (x : denR (headRT (ps66.map some))) : codeK (tabOf tr) (semsOf sl66) D66 L66 code66 (start 22 ps66 x) (finK rs66 ps66) = x66 x := by kernel_rfl
theorem k66 : Known Try.prog 66 sem66 :=
  fn_auto tr_ok eq_ok mixed_ok so66 (D := D66) (code := code66) (n := 22) Try.func66 (by kernel_rfl) (by kernel_rfl) (by kernel_rfl) (fun w0 mu _ hs => (loops_of (l := [(0, b66_0)]) (by kernel_rfl) (List.forall_mem_cons.2 ⟨loop66_0 _ w0 mu hs, (List.forall_mem_nil _)⟩))) t66_eq

/-! ### f12: laws.toRing -/
noncomputable def code12 : Code := match Try.f12.body with | some c => c | none => .skip
def ps12 : List AP := [.val true [.int .i64, .shr T_i]]
def rs12 : List RP := [{ src := .cell 2, agg := true, ps := [.int .i64, .own T_i] }]
noncomputable def sl12 : SemL := [(66, (.shr, .shr, .shr, sem66))]
def D12 : Draws := fun _ => .nil
noncomputable def L12 {R : Type} : Loops R := fun _ _ _ _ => none
noncomputable def laws_toRing (a0c0 : Int) (a0c1 : List (Int × Unit)) : Option (Int × (List (Int × Unit)) × Unit) :=
  Option.bind (laws_toIntS a0c1) fun y1 =>
  some (a0c0, y1.1, ())
noncomputable def x12 (x : Int × (List (Int × Unit)) × Unit) : Option (Int × (List (Int × Unit)) × Unit) := laws_toRing x.1 x.2.1
noncomputable def sem12 : Sem1 := semOf ps12 rs12 x12
theorem so12 : SemsOk Try.prog (semsOf sl12) := sems_cons k66 (sems_nil)
theorem t12_eq (x : denR (headRT (ps12.map some))) : codeK (tabOf tr) (semsOf sl12) D12 L12 code12 (start 12 ps12 x) (finK rs12 ps12) = x12 x := by kernel_rfl
theorem k12 : Known Try.prog 12 sem12 :=
  fn_auto tr_ok eq_ok mixed_ok so12 (D := D12) (code := code12) (n := 12) Try.func12 (by kernel_rfl) (by kernel_rfl) (by kernel_rfl) (fun w0 mu _ hs => (loops_of (l := []) (by kernel_rfl) (List.forall_mem_nil _))) t12_eq

/-! ### f57: laws.toItem -/
noncomputable def code57 : Code := match Try.f57.body with | some c => c | none => .skip
def ps57 : List AP := [.val true [.int .i64, .int .i64, .int .i64, .str]]
def rs57 : List RP := [{ src := .cell 2, agg := true, ps := [.int .i64, .int .i64, .int .i64, .str] }]
noncomputable def sl57 : SemL := []
def D57 : Draws := fun _ => .nil
noncomputable def L57 {R : Type} : Loops R := fun _ _ _ _ => none
noncomputable def laws_toItem (a0c0 : Int) (a0c1 : Int) (a0c2 : Int) (a0c3 : ByteArray) : Option (Int × Int × Int × ByteArray × Unit) :=
  some (a0c0, a0c1, a0c2, a0c3, ())
noncomputable def x57 (x : Int × Int × Int × ByteArray × Unit) : Option (Int × Int × Int × ByteArray × Unit) := laws_toItem x.1 x.2.1 x.2.2.1 x.2.2.2.1
noncomputable def sem57 : Sem1 := semOf ps57 rs57 x57
theorem so57 : SemsOk Try.prog (semsOf sl57) := sems_nil
theorem t57_eq (x : denR (headRT (ps57.map some))) : codeK (tabOf tr) (semsOf sl57) D57 L57 code57 (start 17 ps57 x) (finK rs57 ps57) = x57 x := by kernel_rfl
theorem k57 : Known Try.prog 57 sem57 :=
  fn_auto tr_ok eq_ok mixed_ok so57 (D := D57) (code := code57) (n := 17) Try.func57 (by kernel_rfl) (by kernel_rfl) (by kernel_rfl) (fun w0 mu _ hs => (loops_of (l := []) (by kernel_rfl) (List.forall_mem_nil _))) t57_eq

/-! ### f118: laws.toItemS -/
noncomputable def code118 : Code := match Try.f118.body with | some c => c | none => .skip
def ps118 : List AP := [.val false [.shr T_iiis]]
def rs118 : List RP := [{ src := .tmp 2, agg := false, ps := [.own T_iiis] }]
noncomputable def sl118 : SemL := [(57, (.shr, .shr, .shr, sem57))]
def D118 : Draws := fun _ => .nil
def hp118_0 : List (Option AP) := [some (.val false [.shr T_iiis]), none, none, some (.val false [.own T_iiis]), some (.val false [.int .i64]), none, none, none, none, none, none, none, none, none, none, none, none, none, none, none, none, none, none, none]
def e118_0 : List (Option AP) := [none, none, none, some (.val false [.own T_iiis]), none, none, none, none, none, none, none, none, none, none, none, none, none, none, none, none, none, none, none, none]
def q118_0 : List (Option AP) := [none, none, none, none, none, none, none, none, none, none, none, none, none, none, none, none, none, none, none, none, none, none, none, none]
abbrev H118_0 : Type := (List R_iiis) × (List R_iiis) × Int × Unit
abbrev E118_0 : Type := (List R_iiis) × Unit
abbrev Q118_0 : Type := Unit
noncomputable def laws_toItemS_c0 (a0 : List R_iiis) (out3 : List R_iiis) (i4 : Int) : Option (Sum H118_0 (Sum E118_0 Q118_0)) :=
  bif decide (i4 < ((List.length a0 : Nat) : Int)) then
    bif decide ((0 : Int) ≤ i4) then Option.bind ((a0)[Int.toNat i4]?) fun r1 =>
      Option.bind (laws_toItem r1.1 r1.2.1 r1.2.2.1 r1.2.2.2.1) fun y2 =>
      bif decide ((0 : Int) ≤ i4) then bif Nat.blt (Int.toNat i4) (List.length out3) then Option.bind ((out3)[Int.toNat i4]?) fun r3 =>
          some (.inl (a0, List.set out3 (Int.toNat i4) (y2.1, y2.2.1, y2.2.2.1, y2.2.2.2.1, ()), IntKind.i64.wrap (i4 + (1 : Int)), ()))
        else none
      else none
    else none
  else
    some (.inr (.inl (out3, ())))
noncomputable def laws_toItemS_r0 (x : H118_0) : Option (Sum H118_0 (Sum E118_0 Q118_0)) := laws_toItemS_c0 x.1 x.2.1 x.2.2.1
noncomputable def L118 {R : Type} : Loops R := fun id _ st k => bif Nat.beq id 0 then loopAt hp118_0 e118_0 q118_0 laws_toItemS_r0 st k else none
noncomputable def laws_toItemS (a0 : List R_iiis) : Option ((List R_iiis) × Unit) :=
  bif decide (((List.length a0 : Nat) : Int) = ((List.length a0 : Nat) : Int)) then bif decide ((0 : Int) ≤ ((List.length a0 : Nat) : Int)) then bif Nat.ble ((Int.toNat ((List.length a0 : Nat) : Int)) * 40) lim then outK (loopV laws_toItemS_r0 (a0, List.replicate (Int.toNat ((List.length a0 : Nat) : Int)) ((0 : Int), (0 : Int), (0 : Int), ByteArray.empty, ()), (0 : Int), ())) (fun y1 =>
          some (y1.1, ())) (fun y2 =>
          none)
      else none
    else none
  else none
noncomputable def x118 (x : (List R_iiis) × Unit) : Option ((List R_iiis) × Unit) := laws_toItemS x.1
noncomputable def sem118 : Sem1 := semOf ps118 rs118 x118
theorem so118 : SemsOk Try.prog (semsOf sl118) := sems_cons k57 (sems_nil)
noncomputable def b118_0 : Code := nthLoop code118 0
theorem t118_r0_eq (x : denR (headRT hp118_0)) : codeK (tabOf tr) (semsOf sl118) D118 L118 b118_0 (headSt hp118_0 x) (roundK 0 hp118_0 e118_0 q118_0) = laws_toItemS_r0 x := by kernel_rfl
theorem loop118_0 {R : Type} (r : R) (w0 : World) (mu : Mu) (hs : AnShape ps118 mu) : LoopAt Try.prog w0 mu 23 (L118 : Loops R) r 0 b118_0 :=
  loop_auto tr_ok eq_ok mixed_ok so118 (D := D118) hs (by kernel_rfl) (fun _ => (loops_of (l := []) (by kernel_rfl) (List.forall_mem_nil _))) t118_r0_eq (fun _ _ => rfl)
theorem t118_eq (x : denR (headRT (ps118.map some))) : codeK (tabOf tr) (semsOf sl118) D118 L118 code118 (start 23 ps118 x) (finK rs118 ps118) = x118 x := by kernel_rfl
theorem k118 : Known Try.prog 118 sem118 :=
  fn_auto tr_ok eq_ok mixed_ok so118 (D := D118) (code := code118) (n := 23) Try.func118 (by kernel_rfl) (by kernel_rfl) (by kernel_rfl) (fun w0 mu _ hs => (loops_of (l := [(0, b118_0)]) (by kernel_rfl) (List.forall_mem_cons.2 ⟨loop118_0 _ w0 mu hs, (List.forall_mem_nil _)⟩))) t118_eq

/-! ### f41: laws.toBundle -/
noncomputable def code41 : Code := match Try.f41.body with | some c => c | none => .skip
def ps41 : List AP := [.val true [.int .i64, .int .i64, .int .i64, .shr T_iiis]]
def rs41 : List RP := [{ src := .cell 2, agg := true, ps := [.int .i64, .int .i64, .int .i64, .own T_iiis] }]
noncomputable def sl41 : SemL := [(118, (.shr, .shr, .shr, sem118))]
def D41 : Draws := fun _ => .nil
noncomputable def L41 {R : Type} : Loops R := fun _ _ _ _ => none
noncomputable def laws_toBundle (a0c0 : Int) (a0c1 : Int) (a0c2 : Int) (a0c3 : List R_iiis) : Option (Int × Int × Int × (List R_iiis) × Unit) :=
  Option.bind (laws_toItemS a0c3) fun y1 =>
  some (a0c0, a0c1, a0c2, y1.1, ())
noncomputable def x41 (x : Int × Int × Int × (List R_iiis) × Unit) : Option (Int × Int × Int × (List R_iiis) × Unit) := laws_toBundle x.1 x.2.1 x.2.2.1 x.2.2.2.1
noncomputable def sem41 : Sem1 := semOf ps41 rs41 x41
theorem so41 : SemsOk Try.prog (semsOf sl41) := sems_cons k118 (sems_nil)
theorem t41_eq (x : denR (headRT (ps41.map some))) : codeK (tabOf tr) (semsOf sl41) D41 L41 code41 (start 18 ps41 x) (finK rs41 ps41) = x41 x := by kernel_rfl
theorem k41 : Known Try.prog 41 sem41 :=
  fn_auto tr_ok eq_ok mixed_ok so41 (D := D41) (code := code41) (n := 18) Try.func41 (by kernel_rfl) (by kernel_rfl) (by kernel_rfl) (fun w0 mu _ hs => (loops_of (l := []) (by kernel_rfl) (List.forall_mem_nil _))) t41_eq

/-! ### f30: laws.toBundleS -/
noncomputable def code30 : Code := match Try.f30.body with | some c => c | none => .skip
def ps30 : List AP := [.val false [.shr T_iiiLiiisE]]
def rs30 : List RP := [{ src := .tmp 2, agg := false, ps := [.own T_iiiLiiisE .dp] }]
noncomputable def sl30 : SemL := [(41, (.shr, .shr, .shr, sem41))]
def D30 : Draws := fun _ => .nil
def hp30_0 : List (Option AP) := [some (.val false [.shr T_iiiLiiisE]), none, none, some (.val false [.own T_iiiLiiisE .dp]), some (.val false [.int .i64]), none, none, none, none, none, none, none, none, none, none, none, none, none, none, none, none, none, none, none]
def e30_0 : List (Option AP) := [none, none, none, some (.val false [.own T_iiiLiiisE .dp]), none, none, none, none, none, none, none, none, none, none, none, none, none, none, none, none, none, none, none, none]
def q30_0 : List (Option AP) := [none, none, none, none, none, none, none, none, none, none, none, none, none, none, none, none, none, none, none, none, none, none, none, none]
abbrev H30_0 : Type := (List R_iiiLiiisE) × (List R_iiiLiiisE) × Int × Unit
abbrev E30_0 : Type := (List R_iiiLiiisE) × Unit
abbrev Q30_0 : Type := Unit
noncomputable def laws_toBundleS_c0 (a0 : List R_iiiLiiisE) (out3 : List R_iiiLiiisE) (i4 : Int) : Option (Sum H30_0 (Sum E30_0 Q30_0)) :=
  bif decide (i4 < ((List.length a0 : Nat) : Int)) then
    bif decide ((0 : Int) ≤ i4) then Option.bind ((a0)[Int.toNat i4]?) fun r1 =>
      Option.bind (laws_toBundle r1.1 r1.2.1 r1.2.2.1 r1.2.2.2.1) fun y2 =>
      bif decide ((0 : Int) ≤ i4) then bif Nat.blt (Int.toNat i4) (List.length out3) then Option.bind ((out3)[Int.toNat i4]?) fun _ =>
          some (.inl (a0, List.set out3 (Int.toNat i4) (y2.1, y2.2.1, y2.2.2.1, y2.2.2.2.1, ()), IntKind.i64.wrap (i4 + (1 : Int)), ()))
        else none
      else none
    else none
  else
    some (.inr (.inl (out3, ())))
noncomputable def laws_toBundleS_r0 (x : H30_0) : Option (Sum H30_0 (Sum E30_0 Q30_0)) := laws_toBundleS_c0 x.1 x.2.1 x.2.2.1
noncomputable def L30 {R : Type} : Loops R := fun id _ st k => bif Nat.beq id 0 then loopAt hp30_0 e30_0 q30_0 laws_toBundleS_r0 st k else none
noncomputable def laws_toBundleS (a0 : List R_iiiLiiisE) : Option ((List R_iiiLiiisE) × Unit) :=
  bif decide (((List.length a0 : Nat) : Int) = ((List.length a0 : Nat) : Int)) then bif decide ((0 : Int) ≤ ((List.length a0 : Nat) : Int)) then bif Nat.ble ((Int.toNat ((List.length a0 : Nat) : Int)) * 48) lim then outK (loopV laws_toBundleS_r0 (a0, List.replicate (Int.toNat ((List.length a0 : Nat) : Int)) ((0 : Int), (0 : Int), (0 : Int), [], ()), (0 : Int), ())) (fun y1 =>
          some (y1.1, ())) (fun y2 =>
          none)
      else none
    else none
  else none
noncomputable def x30 (x : (List R_iiiLiiisE) × Unit) : Option ((List R_iiiLiiisE) × Unit) := laws_toBundleS x.1
noncomputable def sem30 : Sem1 := semOf ps30 rs30 x30
theorem so30 : SemsOk Try.prog (semsOf sl30) := sems_cons k41 (sems_nil)
noncomputable def b30_0 : Code := nthLoop code30 0
theorem t30_r0_eq (x : denR (headRT hp30_0)) : codeK (tabOf tr) (semsOf sl30) D30 L30 b30_0 (headSt hp30_0 x) (roundK 0 hp30_0 e30_0 q30_0) = laws_toBundleS_r0 x := by kernel_rfl
theorem loop30_0 {R : Type} (r : R) (w0 : World) (mu : Mu) (hs : AnShape ps30 mu) : LoopAt Try.prog w0 mu 23 (L30 : Loops R) r 0 b30_0 :=
  loop_auto tr_ok eq_ok mixed_ok so30 (D := D30) hs (by kernel_rfl) (fun _ => (loops_of (l := []) (by kernel_rfl) (List.forall_mem_nil _))) t30_r0_eq (fun _ _ => rfl)
theorem t30_eq (x : denR (headRT (ps30.map some))) : codeK (tabOf tr) (semsOf sl30) D30 L30 code30 (start 23 ps30 x) (finK rs30 ps30) = x30 x := by kernel_rfl
theorem k30 : Known Try.prog 30 sem30 :=
  fn_auto tr_ok eq_ok mixed_ok so30 (D := D30) (code := code30) (n := 23) Try.func30 (by kernel_rfl) (by kernel_rfl) (by kernel_rfl) (fun w0 mu _ hs => (loops_of (l := [(0, b30_0)]) (by kernel_rfl) (List.forall_mem_cons.2 ⟨loop30_0 _ w0 mu hs, (List.forall_mem_nil _)⟩))) t30_eq

/-! ### f144: spec.l01In -/
noncomputable def code144 : Code := match Try.f144.body with | some c => c | none => .skip
def ps144 : List AP := [.val false [.int .i64], .val false [.int .i64], .val false [.int .i64]]
def rs144 : List RP := [{ src := .tmp 6, agg := false, ps := [.bool] }]
noncomputable def sl144 : SemL := []
def D144 : Draws := fun _ => .nil
noncomputable def L144 {R : Type} : Loops R := fun _ _ _ _ => none
noncomputable def spec_l01In (x0 : Int) (least1 : Int) (most2 : Int) : Option (Bool × Unit) :=
  bif decide (least1 ≤ x0) then
    some (decide (x0 ≤ most2), ())
  else
    some (false, ())
noncomputable def x144 (x : Int × Int × Int × Unit) : Option (Bool × Unit) := spec_l01In x.1 x.2.1 x.2.2.1
noncomputable def sem144 : Sem1 := semOf ps144 rs144 x144
theorem so144 : SemsOk Try.prog (semsOf sl144) := sems_nil
theorem t144_eq (x : denR (headRT (ps144.map some))) : codeK (tabOf tr) (semsOf sl144) D144 L144 code144 (start 15 ps144 x) (finK rs144 ps144) = x144 x := by kernel_rfl
theorem k144 : Known Try.prog 144 sem144 :=
  fn_auto tr_ok eq_ok mixed_ok so144 (D := D144) (code := code144) (n := 15) Try.func144 (by kernel_rfl) (by kernel_rfl) (by kernel_rfl) (fun w0 mu _ hs => (loops_of (l := []) (by kernel_rfl) (List.forall_mem_nil _))) t144_eq

/-! ### f161: spec.ItemOk -/
noncomputable def code161 : Code := match Try.f161.body with | some c => c | none => .skip
def ps161 : List AP := [.val true [.int .i64, .int .i64, .int .i64, .str]]
def rs161 : List RP := [{ src := .tmp 2, agg := false, ps := [.bool] }]
noncomputable def sl161 : SemL := [(144, (.shr, .shr, .shr, sem144))]
def D161 : Draws := fun _ => .nil
noncomputable def L161 {R : Type} : Loops R := fun _ _ _ _ => none
noncomputable def spec_ItemOk (m0c0 : Int) (m0c1 : Int) (m0c2 : Int) (m0c3 : ByteArray) : Option (Bool × Unit) :=
  Option.bind (spec_l01In m0c0 (1 : Int) (60 : Int)) fun y1 =>
  bif y1.1 then
    Option.bind (spec_l01In m0c1 (1 : Int) (5 : Int)) fun y2 =>
    bif y2.1 then
      Option.bind (spec_l01In m0c2 (1 : Int) (2 : Int)) fun y3 =>
      bif y3.1 then
        some (decide (((ByteArray.size m0c3 : Nat) : Int) ≤ (60 : Int)), ())
      else
        some (false, ())
    else
      some (false, ())
  else
    some (false, ())
noncomputable def x161 (x : Int × Int × Int × ByteArray × Unit) : Option (Bool × Unit) := spec_ItemOk x.1 x.2.1 x.2.2.1 x.2.2.2.1
noncomputable def sem161 : Sem1 := semOf ps161 rs161 x161
theorem so161 : SemsOk Try.prog (semsOf sl161) := sems_cons k144 (sems_nil)
theorem t161_eq (x : denR (headRT (ps161.map some))) : codeK (tabOf tr) (semsOf sl161) D161 L161 code161 (start 22 ps161 x) (finK rs161 ps161) = x161 x := by kernel_rfl
theorem k161 : Known Try.prog 161 sem161 :=
  fn_auto tr_ok eq_ok mixed_ok so161 (D := D161) (code := code161) (n := 22) Try.func161 (by kernel_rfl) (by kernel_rfl) (by kernel_rfl) (fun w0 mu _ hs => (loops_of (l := []) (by kernel_rfl) (List.forall_mem_nil _))) t161_eq

/-! ### f156: spec.ItemsOk -/
noncomputable def code156 : Code := match Try.f156.body with | some c => c | none => .skip
def ps156 : List AP := [.val false [.shr T_iiis]]
def rs156 : List RP := [{ src := .tmp 2, agg := false, ps := [.bool] }]
noncomputable def sl156 : SemL := [(161, (.shr, .shr, .shr, sem161))]
def D156 : Draws := fun id => bif Nat.beq id 4 then .op 0 .any (.op 1 .any (.op 2 .any (.op 3 .take (.op 4 .one (.op 5 .any (.op 6 .any (.op 7 .any (.op 8 .any (.op 9 .any (.op 10 .any (.op 11 .any (.op 12 .any (.op 13 .any (.op 14 .any (.op 15 .take (.op 16 .any (.op 17 .any (.op 18 .any (.op 19 .any (.op 20 .take (.op 21 .any (.op 22 .any (.op 23 .any (.nil)))))))))))))))))))))))) else .nil
def hp156_0 : List (Option AP) := [some (.val false [.shr T_iiis]), none, none, some (.val false [.int .i64]), none, none, none, none, none, none, none, none, none, none, none, none, none, none, none, none, none, none, none, none, none, none, none, none, none, none, none, none, none, none, none]
def e156_0 : List (Option AP) := [none, none, none, none, none, none, none, none, none, none, none, none, none, none, none, none, none, none, none, none, none, none, none, none, none, none, none, none, none, none, none, none, none, none, none]
def q156_0 : List (Option AP) := [none, none, some (.val false [.bool]), none, none, none, none, none, none, none, none, none, none, none, none, none, none, none, none, none, none, none, none, none, none, none, none, none, none, none, none, none, none, none, none]
abbrev H156_0 : Type := (List R_iiis) × Int × Unit
abbrev E156_0 : Type := Unit
abbrev Q156_0 : Type := Bool × Unit
noncomputable def spec_ItemsOk_c0 (list0 : List R_iiis) (i3 : Int) : Option (Sum H156_0 (Sum E156_0 Q156_0)) :=
  bif decide (i3 < ((List.length list0 : Nat) : Int)) then
    bif decide ((0 : Int) ≤ i3) then Option.bind ((list0)[Int.toNat i3]?) fun r1 =>
      Option.bind (spec_ItemOk r1.1 r1.2.1 r1.2.2.1 r1.2.2.2.1) fun y2 =>
      bif !y2.1 then
        some (.inr (.inr (false, ())))
      else bif decide ((0 : Int) < i3) then
        bif decide ((0 : Int) ≤ IntKind.i64.wrap (i3 - (1 : Int))) then Option.bind ((list0)[Int.toNat (IntKind.i64.wrap (i3 - (1 : Int)))]?) fun r3 =>
          bif decide ((0 : Int) ≤ i3) then Option.bind ((list0)[Int.toNat i3]?) fun r4 =>
            bif decide (r4.1 ≤ r3.1) then
              some (.inr (.inr (false, ())))
            else
              some (.inl (list0, IntKind.i64.wrap (i3 + (1 : Int)), ()))
          else none
        else none
      else
        some (.inl (list0, IntKind.i64.wrap (i3 + (1 : Int)), ()))
    else none
  else
    some (.inr (.inl (())))
noncomputable def spec_ItemsOk_r0 (x : H156_0) : Option (Sum H156_0 (Sum E156_0 Q156_0)) := spec_ItemsOk_c0 x.1 x.2.1
noncomputable def L156 {R : Type} : Loops R := fun id _ st k => bif Nat.beq id 0 then loopAt hp156_0 e156_0 q156_0 spec_ItemsOk_r0 st k else none
noncomputable def spec_ItemsOk (list0 : List R_iiis) : Option (Bool × Unit) :=
  outK (loopV spec_ItemsOk_r0 (list0, (0 : Int), ())) (fun y1 =>
    some (true, ())) (fun y2 =>
    some (y2.1, ()))
noncomputable def x156 (x : (List R_iiis) × Unit) : Option (Bool × Unit) := spec_ItemsOk x.1
noncomputable def sem156 : Sem1 := semOf ps156 rs156 x156
theorem so156 : SemsOk Try.prog (semsOf sl156) := sems_cons k161 (sems_nil)
noncomputable def b156_0 : Code := nthLoop code156 0
theorem t156_r0_eq (x : denR (headRT hp156_0)) : codeK (tabOf tr) (semsOf sl156) D156 L156 b156_0 (headSt hp156_0 x) (roundK 0 hp156_0 e156_0 q156_0) = spec_ItemsOk_r0 x := by kernel_rfl
theorem loop156_0 {R : Type} (r : R) (w0 : World) (mu : Mu) (hs : AnShape ps156 mu) : LoopAt Try.prog w0 mu 34 (L156 : Loops R) r 0 b156_0 :=
  loop_auto tr_ok eq_ok mixed_ok so156 (D := D156) hs (by kernel_rfl) (fun _ => (loops_of (l := []) (by kernel_rfl) (List.forall_mem_nil _))) t156_r0_eq (fun _ _ => rfl)
theorem t156_eq (x : denR (headRT (ps156.map some))) : codeK (tabOf tr) (semsOf sl156) D156 L156 code156 (start 34 ps156 x) (finK rs156 ps156) = x156 x := by kernel_rfl
theorem k156 : Known Try.prog 156 sem156 :=
  fn_auto tr_ok eq_ok mixed_ok so156 (D := D156) (code := code156) (n := 34) Try.func156 (by kernel_rfl) (by kernel_rfl) (by kernel_rfl) (fun w0 mu _ hs => (loops_of (l := [(0, b156_0)]) (by kernel_rfl) (List.forall_mem_cons.2 ⟨loop156_0 _ w0 mu hs, (List.forall_mem_nil _)⟩))) t156_eq

/-! ### f112: spec.BundleOk -/
noncomputable def code112 : Code := match Try.f112.body with | some c => c | none => .skip
def ps112 : List AP := [.val true [.int .i64, .int .i64, .int .i64, .shr T_iiis]]
def rs112 : List RP := [{ src := .tmp 2, agg := false, ps := [.bool] }]
noncomputable def sl112 : SemL := [(144, (.shr, .shr, .shr, sem144)), (156, (.shr, .shr, .shr, sem156))]
def D112 : Draws := fun _ => .nil
noncomputable def L112 {R : Type} : Loops R := fun _ _ _ _ => none
noncomputable def spec_BundleOk (b0c0 : Int) (b0c1 : Int) (b0c2 : Int) (b0c3 : List R_iiis) : Option (Bool × Unit) :=
  Option.bind (spec_l01In b0c0 (1 : Int) (5 : Int)) fun y1 =>
  bif y1.1 then
    Option.bind (spec_l01In b0c1 (1 : Int) (9 : Int)) fun y2 =>
    bif y2.1 then
      Option.bind (spec_l01In b0c2 (0 : Int) (IntKind.i64.wrap (b0c1 - (1 : Int)))) fun y3 =>
      bif y3.1 then
        Option.bind (spec_ItemsOk b0c3) fun y4 =>
        bif y4.1 then
          bif decide ((0 : Int) < b0c2) then
            some (true, ())
          else
            some (decide (((List.length b0c3 : Nat) : Int) = (0 : Int)), ())
        else
          some (false, ())
      else
        some (false, ())
    else
      some (false, ())
  else
    some (false, ())
noncomputable def x112 (x : Int × Int × Int × (List R_iiis) × Unit) : Option (Bool × Unit) := spec_BundleOk x.1 x.2.1 x.2.2.1 x.2.2.2.1
noncomputable def sem112 : Sem1 := semOf ps112 rs112 x112
theorem so112 : SemsOk Try.prog (semsOf sl112) := sems_cons k144 (sems_cons k156 (sems_nil))
theorem t112_eq (x : denR (headRT (ps112.map some))) : codeK (tabOf tr) (semsOf sl112) D112 L112 code112 (start 35 ps112 x) (finK rs112 ps112) = x112 x := by kernel_rfl
theorem k112 : Known Try.prog 112 sem112 :=
  fn_auto tr_ok eq_ok mixed_ok so112 (D := D112) (code := code112) (n := 35) Try.func112 (by kernel_rfl) (by kernel_rfl) (by kernel_rfl) (fun w0 mu _ hs => (loops_of (l := []) (by kernel_rfl) (List.forall_mem_nil _))) t112_eq

/-! ### f98: spec.l13First -/
noncomputable def code98 : Code := match Try.f98.body with | some c => c | none => .skip
def ps98 : List AP := [.val true [.int .i64, .shr T_i], .val false [.shr T_iiiLiiisE], .val false [.int .i64]]
def rs98 : List RP := [{ src := .cell 6, agg := true, ps := [.int .i64, .int .i64, .int .i64, .shr T_iiis] }, { src := .tmp 7, agg := false, ps := [.bool] }]
noncomputable def sl98 : SemL := [(112, (.shr, .shr, .shr, sem112))]
def D98 : Draws := fun id => bif Nat.beq id 4 then .op 0 .any (.op 1 .any (.op 2 .any (.op 3 .any (.op 4 .take (.op 5 .any (.op 6 .any (.op 7 .any (.op 8 .any (.op 9 .any (.op 10 .any (.op 11 .any (.op 12 .take (.op 13 .any (.op 14 .take (.op 15 .any (.op 16 .any (.op 17 .any (.op 18 .any (.op 19 .any (.op 20 .any (.op 21 .take (.op 22 .one (.op 23 .any (.nil)))))))))))))))))))))))) else .nil
def hp98_0 : List (Option AP) := [none, some (.val false [.shr T_iiiLiiisE]), some (.val false [.int .i64]), some (.box false [.int .i64, .shr T_i]), none, none, some (.box false [.int .i64, .int .i64, .int .i64, .own T_iiis]), none, some (.val false [.int .i64]), none, none, none, none, none, none, none, none, none, none, none, none, none, none, none, none, none, none, none, none, none, none, none, none, none, none, none, none, none, none, none, none, none, none, none, none]
def e98_0 : List (Option AP) := [none, none, none, none, none, none, some (.box false [.int .i64, .int .i64, .int .i64, .own T_iiis]), none, none, none, none, none, none, none, none, none, none, none, none, none, none, none, none, none, none, none, none, none, none, none, none, none, none, none, none, none, none, none, none, none, none, none, none, none, none]
def q98_0 : List (Option AP) := [none, none, none, none, none, none, some (.box false [.int .i64, .int .i64, .int .i64, .shr T_iiis]), some (.val false [.bool]), none, none, none, none, none, none, none, none, none, none, none, none, none, none, none, none, none, none, none, none, none, none, none, none, none, none, none, none, none, none, none, none, none, none, none, none, none]
abbrev H98_0 : Type := (List R_iiiLiiisE) × Int × Int × (List (Int × Unit)) × Int × Int × Int × (List R_iiis) × Int × Unit
abbrev E98_0 : Type := Int × Int × Int × (List R_iiis) × Unit
abbrev Q98_0 : Type := Int × Int × Int × (List R_iiis) × Bool × Unit
noncomputable def spec_l13First_c0 (list1 : List R_iiiLiiisE) (id2 : Int) (r3c0 : Int) (r3c1 : List (Int × Unit)) (t6c0 : Int) (t6c1 : Int) (t6c2 : Int) (t6c3 : List R_iiis) (i8 : Int) : Option (Sum H98_0 (Sum E98_0 Q98_0)) :=
  bif decide (i8 < ((List.length list1 : Nat) : Int)) then
    bif decide ((0 : Int) ≤ i8) then Option.bind ((list1)[Int.toNat i8]?) fun r1 =>
      bif decide (r1.1 = id2) then
        bif decide ((0 : Int) ≤ i8) then Option.bind ((list1)[Int.toNat i8]?) fun r2 =>
          bif decide (r2.2.1 = r3c0) then
            bif decide ((0 : Int) ≤ i8) then Option.bind ((list1)[Int.toNat i8]?) fun r3 =>
              Option.bind (spec_BundleOk r3.1 r3.2.1 r3.2.2.1 r3.2.2.2.1) fun y4 =>
              bif y4.1 then
                bif decide ((0 : Int) ≤ i8) then Option.bind ((list1)[Int.toNat i8]?) fun r5 =>
                  some (.inr (.inr (r5.1, r5.2.1, r5.2.2.1, r5.2.2.2.1, true, ())))
                else none
              else
                some (.inl (list1, id2, r3c0, r3c1, t6c0, t6c1, t6c2, t6c3, IntKind.i64.wrap (i8 + (1 : Int)), ()))
            else none
          else
            some (.inl (list1, id2, r3c0, r3c1, t6c0, t6c1, t6c2, t6c3, IntKind.i64.wrap (i8 + (1 : Int)), ()))
        else none
      else
        some (.inl (list1, id2, r3c0, r3c1, t6c0, t6c1, t6c2, t6c3, IntKind.i64.wrap (i8 + (1 : Int)), ()))
    else none
  else
    some (.inr (.inl (t6c0, t6c1, t6c2, t6c3, ())))
noncomputable def spec_l13First_r0 (x : H98_0) : Option (Sum H98_0 (Sum E98_0 Q98_0)) := spec_l13First_c0 x.1 x.2.1 x.2.2.1 x.2.2.2.1 x.2.2.2.2.1 x.2.2.2.2.2.1 x.2.2.2.2.2.2.1 x.2.2.2.2.2.2.2.1 x.2.2.2.2.2.2.2.2.1
noncomputable def L98 {R : Type} : Loops R := fun id _ st k => bif Nat.beq id 0 then loopAt hp98_0 e98_0 q98_0 spec_l13First_r0 st k else none
noncomputable def spec_l13First (r0c0 : Int) (r0c1 : List (Int × Unit)) (list1 : List R_iiiLiiisE) (id2 : Int) : Option (Int × Int × Int × (List R_iiis) × Bool × Unit) :=
  outK (loopV spec_l13First_r0 (list1, id2, r0c0, r0c1, (0 : Int), (0 : Int), (0 : Int), [], (0 : Int), ())) (fun y1 =>
    some ((0 : Int), (0 : Int), (0 : Int), [], false, ())) (fun y2 =>
    some (y2.1, y2.2.1, y2.2.2.1, y2.2.2.2.1, y2.2.2.2.2.1, ()))
noncomputable def x98 (x : Int × (List (Int × Unit)) × (List R_iiiLiiisE) × Int × Unit) : Option (Int × Int × Int × (List R_iiis) × Bool × Unit) := spec_l13First x.1 x.2.1 x.2.2.1 x.2.2.2.1
noncomputable def sem98 : Sem1 := semOf ps98 rs98 x98
theorem so98 : SemsOk Try.prog (semsOf sl98) := sems_cons k112 (sems_nil)
noncomputable def b98_0 : Code := nthLoop code98 0
theorem t98_r0_eq (x : denR (headRT hp98_0)) : codeK (tabOf tr) (semsOf sl98) D98 L98 b98_0 (headSt hp98_0 x) (roundK 0 hp98_0 e98_0 q98_0) = spec_l13First_r0 x := by kernel_rfl
theorem loop98_0 {R : Type} (r : R) (w0 : World) (mu : Mu) (hs : AnShape ps98 mu) : LoopAt Try.prog w0 mu 44 (L98 : Loops R) r 0 b98_0 :=
  loop_auto tr_ok eq_ok mixed_ok so98 (D := D98) hs (by kernel_rfl) (fun _ => (loops_of (l := []) (by kernel_rfl) (List.forall_mem_nil _))) t98_r0_eq (fun _ _ => rfl)
theorem t98_eq (x : denR (headRT (ps98.map some))) : codeK (tabOf tr) (semsOf sl98) D98 L98 code98 (start 44 ps98 x) (finK rs98 ps98) = x98 x := by kernel_rfl
theorem k98 : Known Try.prog 98 sem98 :=
  fn_auto tr_ok eq_ok mixed_ok so98 (D := D98) (code := code98) (n := 44) Try.func98 (by kernel_rfl) (by kernel_rfl) (by kernel_rfl) (fun w0 mu _ hs => (loops_of (l := [(0, b98_0)]) (by kernel_rfl) (List.forall_mem_cons.2 ⟨loop98_0 _ w0 mu hs, (List.forall_mem_nil _)⟩))) t98_eq

/-! ### f37: spec.AllHere -/
noncomputable def code37 : Code := match Try.f37.body with | some c => c | none => .skip
def ps37 : List AP := [.val true [.int .i64, .shr T_i], .val false [.shr T_iiiLiiisE]]
def rs37 : List RP := [{ src := .tmp 4, agg := false, ps := [.bool] }]
noncomputable def sl37 : SemL := [(98, (.shr, .shr, .shr, sem98))]
def D37 : Draws := fun id => bif Nat.beq id 4 then .op 0 .take (.op 1 .any (.op 2 .any (.op 3 .take (.op 4 .any (.op 5 .any (.op 6 .take (.alt (.op 7 .one (.op 8 .any (.op 9 .any (.op 10 .any (.op 11 .one (.op 12 .last (.op 13 .any (.nil)))))))) (.op 11 .one (.op 7 .one (.op 8 .any (.op 9 .any (.op 10 .any (.op 12 .last (.op 13 .any (.nil))))))))))))))) else .nil
def hp37_0 : List (Option AP) := [none, some (.val false [.shr T_iiiLiiisE]), some (.box false [.int .i64, .shr T_i]), none, none, some (.val false [.int .i64]), none, none, none, none, none, none, none, none, none, none, none, none, none, none, none, none, none, none, none, none, none, none, none]
def e37_0 : List (Option AP) := [none, none, none, none, none, none, none, none, none, none, none, none, none, none, none, none, none, none, none, none, none, none, none, none, none, none, none, none, none]
def q37_0 : List (Option AP) := [none, none, none, none, some (.val false [.bool]), none, none, none, none, none, none, none, none, none, none, none, none, none, none, none, none, none, none, none, none, none, none, none, none]
abbrev H37_0 : Type := (List R_iiiLiiisE) × Int × (List (Int × Unit)) × Int × Unit
abbrev E37_0 : Type := Unit
abbrev Q37_0 : Type := Bool × Unit
noncomputable def spec_AllHere_c0 (list1 : List R_iiiLiiisE) (r2c0 : Int) (r2c1 : List (Int × Unit)) (i5 : Int) : Option (Sum H37_0 (Sum E37_0 Q37_0)) :=
  bif decide (i5 < ((List.length r2c1 : Nat) : Int)) then
    bif decide ((0 : Int) ≤ i5) then Option.bind ((r2c1)[Int.toNat i5]?) fun r1 =>
      Option.bind (spec_l13First r2c0 r2c1 list1 r1.1) fun y1o7 =>
      bif !y1o7.2.2.2.2.1 then
        some (.inr (.inr (false, ())))
      else
        some (.inl (list1, r2c0, r2c1, IntKind.i64.wrap (i5 + (1 : Int)), ()))
    else none
  else
    some (.inr (.inl (())))
noncomputable def spec_AllHere_o0 (list1 : List R_iiiLiiisE) (r2c0 : Int) (r2c1 : List (Int × Unit)) (i5 : Int) : Option (Sum H37_0 (Sum E37_0 Q37_0)) :=
  bif decide (i5 < ((List.length r2c1 : Nat) : Int)) then
    bif decide ((0 : Int) ≤ i5) then Option.bind ((r2c1)[Int.toNat i5]?) fun r1 =>
      (fun K2 : (Int × Int × Int × (List R_iiis) × Bool × Unit) → Option (Sum H37_0 (Sum E37_0 Q37_0)) => both (Option.bind (spec_l13First r2c0 r2c1 list1 r1.1) fun y1o7 =>
          K2 y1o7) (Option.bind (spec_l13First r2c0 r2c1 list1 r1.1) fun y1o7 =>
          K2 y1o7)) (fun y1o7 =>
      bif !y1o7.2.2.2.2.1 then
          some (.inr (.inr (false, ())))
        else
          some (.inl (list1, r2c0, r2c1, IntKind.i64.wrap (i5 + (1 : Int)), ())))
    else none
  else
    some (.inr (.inl (())))
theorem spec_AllHere_o0_eq (list1 : List R_iiiLiiisE) (r2c0 : Int) (r2c1 : List (Int × Unit)) (i5 : Int) : spec_AllHere_o0 list1 r2c0 r2c1 i5 = spec_AllHere_c0 list1 r2c0 r2c1 i5 := by
  simp only [spec_AllHere_o0, spec_AllHere_c0, both_self]
noncomputable def spec_AllHere_r0 (x : H37_0) : Option (Sum H37_0 (Sum E37_0 Q37_0)) := spec_AllHere_c0 x.1 x.2.1 x.2.2.1 x.2.2.2.1
noncomputable def L37 {R : Type} : Loops R := fun id _ st k => bif Nat.beq id 0 then loopAt hp37_0 e37_0 q37_0 spec_AllHere_r0 st k else none
noncomputable def spec_AllHere (r0c0 : Int) (r0c1 : List (Int × Unit)) (list1 : List R_iiiLiiisE) : Option (Bool × Unit) :=
  outK (loopV spec_AllHere_r0 (list1, r0c0, r0c1, (0 : Int), ())) (fun y1 =>
    some (true, ())) (fun y2 =>
    some (y2.1, ()))
noncomputable def x37 (x : Int × (List (Int × Unit)) × (List R_iiiLiiisE) × Unit) : Option (Bool × Unit) := spec_AllHere x.1 x.2.1 x.2.2.1
noncomputable def sem37 : Sem1 := semOf ps37 rs37 x37
theorem so37 : SemsOk Try.prog (semsOf sl37) := sems_cons k98 (sems_nil)
noncomputable def b37_0 : Code := nthLoop code37 0
theorem t37_r0_eq (x : denR (headRT hp37_0)) : codeK (tabOf tr) (semsOf sl37) D37 L37 b37_0 (headSt hp37_0 x) (roundK 0 hp37_0 e37_0 q37_0) = spec_AllHere_r0 x := (show _ = spec_AllHere_o0 x.1 x.2.1 x.2.2.1 x.2.2.2.1 from by kernel_rfl).trans (spec_AllHere_o0_eq x.1 x.2.1 x.2.2.1 x.2.2.2.1)
theorem loop37_0 {R : Type} (r : R) (w0 : World) (mu : Mu) (hs : AnShape ps37 mu) : LoopAt Try.prog w0 mu 28 (L37 : Loops R) r 0 b37_0 :=
  loop_auto tr_ok eq_ok mixed_ok so37 (D := D37) hs (by kernel_rfl) (fun _ => (loops_of (l := []) (by kernel_rfl) (List.forall_mem_nil _))) t37_r0_eq (fun _ _ => rfl)
theorem t37_eq (x : denR (headRT (ps37.map some))) : codeK (tabOf tr) (semsOf sl37) D37 L37 code37 (start 28 ps37 x) (finK rs37 ps37) = x37 x := by kernel_rfl
theorem k37 : Known Try.prog 37 sem37 :=
  fn_auto tr_ok eq_ok mixed_ok so37 (D := D37) (code := code37) (n := 28) Try.func37 (by kernel_rfl) (by kernel_rfl) (by kernel_rfl) (fun w0 mu _ hs => (loops_of (l := [(0, b37_0)]) (by kernel_rfl) (List.forall_mem_cons.2 ⟨loop37_0 _ w0 mu hs, (List.forall_mem_nil _)⟩))) t37_eq

/-! ### f146: impl.inRange -/
noncomputable def code146 : Code := match Try.f146.body with | some c => c | none => .skip
def ps146 : List AP := [.val false [.int .i64], .val false [.int .i64], .val false [.int .i64]]
def rs146 : List RP := [{ src := .tmp 6, agg := false, ps := [.bool] }]
noncomputable def sl146 : SemL := []
def D146 : Draws := fun _ => .nil
noncomputable def L146 {R : Type} : Loops R := fun _ _ _ _ => none
noncomputable def impl_inRange (n0 : Int) (least1 : Int) (most2 : Int) : Option (Bool × Unit) :=
  bif decide (least1 ≤ n0) then
    some (decide (n0 ≤ most2), ())
  else
    some (false, ())
noncomputable def x146 (x : Int × Int × Int × Unit) : Option (Bool × Unit) := impl_inRange x.1 x.2.1 x.2.2.1
noncomputable def sem146 : Sem1 := semOf ps146 rs146 x146
theorem so146 : SemsOk Try.prog (semsOf sl146) := sems_nil
theorem t146_eq (x : denR (headRT (ps146.map some))) : codeK (tabOf tr) (semsOf sl146) D146 L146 code146 (start 15 ps146 x) (finK rs146 ps146) = x146 x := by kernel_rfl
theorem k146 : Known Try.prog 146 sem146 :=
  fn_auto tr_ok eq_ok mixed_ok so146 (D := D146) (code := code146) (n := 15) Try.func146 (by kernel_rfl) (by kernel_rfl) (by kernel_rfl) (fun w0 mu _ hs => (loops_of (l := []) (by kernel_rfl) (List.forall_mem_nil _))) t146_eq

/-! ### f147: impl.isDaemon -/
noncomputable def code147 : Code := match Try.f147.body with | some c => c | none => .skip
def ps147 : List AP := [.val false [.int .i64]]
def rs147 : List RP := [{ src := .tmp 2, agg := false, ps := [.bool] }]
noncomputable def sl147 : SemL := [(146, (.shr, .shr, .shr, sem146))]
def D147 : Draws := fun _ => .nil
noncomputable def L147 {R : Type} : Loops R := fun _ _ _ _ => none
noncomputable def impl_isDaemon (n0 : Int) : Option (Bool × Unit) :=
  Option.bind (impl_inRange n0 (1 : Int) (5 : Int)) fun y1 =>
  some (y1.1, ())
noncomputable def x147 (x : Int × Unit) : Option (Bool × Unit) := impl_isDaemon x.1
noncomputable def sem147 : Sem1 := semOf ps147 rs147 x147
theorem so147 : SemsOk Try.prog (semsOf sl147) := sems_cons k146 (sems_nil)
theorem t147_eq (x : denR (headRT (ps147.map some))) : codeK (tabOf tr) (semsOf sl147) D147 L147 code147 (start 5 ps147 x) (finK rs147 ps147) = x147 x := by kernel_rfl
theorem k147 : Known Try.prog 147 sem147 :=
  fn_auto tr_ok eq_ok mixed_ok so147 (D := D147) (code := code147) (n := 5) Try.func147 (by kernel_rfl) (by kernel_rfl) (by kernel_rfl) (fun w0 mu _ hs => (loops_of (l := []) (by kernel_rfl) (List.forall_mem_nil _))) t147_eq

/-! ### f181: impl.isLevel -/
noncomputable def code181 : Code := match Try.f181.body with | some c => c | none => .skip
def ps181 : List AP := [.val false [.int .i64]]
def rs181 : List RP := [{ src := .tmp 2, agg := false, ps := [.bool] }]
noncomputable def sl181 : SemL := []
def D181 : Draws := fun _ => .nil
noncomputable def L181 {R : Type} : Loops R := fun _ _ _ _ => none
noncomputable def impl_isLevel (n0 : Int) : Option (Bool × Unit) :=
  bif decide (n0 = (1 : Int)) then
    some (true, ())
  else
    some (decide (n0 = (2 : Int)), ())
noncomputable def x181 (x : Int × Unit) : Option (Bool × Unit) := impl_isLevel x.1
noncomputable def sem181 : Sem1 := semOf ps181 rs181 x181
theorem so181 : SemsOk Try.prog (semsOf sl181) := sems_nil
theorem t181_eq (x : denR (headRT (ps181.map some))) : codeK (tabOf tr) (semsOf sl181) D181 L181 code181 (start 9 ps181 x) (finK rs181 ps181) = x181 x := by kernel_rfl
theorem k181 : Known Try.prog 181 sem181 :=
  fn_auto tr_ok eq_ok mixed_ok so181 (D := D181) (code := code181) (n := 9) Try.func181 (by kernel_rfl) (by kernel_rfl) (by kernel_rfl) (fun w0 mu _ hs => (loops_of (l := []) (by kernel_rfl) (List.forall_mem_nil _))) t181_eq

/-! ### f184: impl.ItemOk -/
noncomputable def code184 : Code := match Try.f184.body with | some c => c | none => .skip
def ps184 : List AP := [.val true [.int .i64, .int .i64, .int .i64, .str]]
def rs184 : List RP := [{ src := .tmp 2, agg := false, ps := [.bool] }]
noncomputable def sl184 : SemL := [(146, (.shr, .shr, .shr, sem146)), (147, (.shr, .shr, .shr, sem147)), (181, (.shr, .shr, .shr, sem181))]
def D184 : Draws := fun _ => .nil
noncomputable def L184 {R : Type} : Loops R := fun _ _ _ _ => none
noncomputable def impl_ItemOk (m0c0 : Int) (m0c1 : Int) (m0c2 : Int) (m0c3 : ByteArray) : Option (Bool × Unit) :=
  Option.bind (impl_inRange m0c0 (1 : Int) (60 : Int)) fun y1 =>
  bif y1.1 then
    Option.bind (impl_isDaemon m0c1) fun y2 =>
    bif y2.1 then
      Option.bind (impl_isLevel m0c2) fun y3 =>
      bif y3.1 then
        some (decide (((ByteArray.size m0c3 : Nat) : Int) ≤ (60 : Int)), ())
      else
        some (false, ())
    else
      some (false, ())
  else
    some (false, ())
noncomputable def x184 (x : Int × Int × Int × ByteArray × Unit) : Option (Bool × Unit) := impl_ItemOk x.1 x.2.1 x.2.2.1 x.2.2.2.1
noncomputable def sem184 : Sem1 := semOf ps184 rs184 x184
theorem so184 : SemsOk Try.prog (semsOf sl184) := sems_cons k146 (sems_cons k147 (sems_cons k181 (sems_nil)))
theorem t184_eq (x : denR (headRT (ps184.map some))) : codeK (tabOf tr) (semsOf sl184) D184 L184 code184 (start 22 ps184 x) (finK rs184 ps184) = x184 x := by kernel_rfl
theorem k184 : Known Try.prog 184 sem184 :=
  fn_auto tr_ok eq_ok mixed_ok so184 (D := D184) (code := code184) (n := 22) Try.func184 (by kernel_rfl) (by kernel_rfl) (by kernel_rfl) (fun w0 mu _ hs => (loops_of (l := []) (by kernel_rfl) (List.forall_mem_nil _))) t184_eq

/-! ### f158: impl.ItemsOk -/
noncomputable def code158 : Code := match Try.f158.body with | some c => c | none => .skip
def ps158 : List AP := [.val false [.shr T_iiis]]
def rs158 : List RP := [{ src := .tmp 2, agg := false, ps := [.bool] }]
noncomputable def sl158 : SemL := [(184, (.shr, .shr, .shr, sem184))]
def D158 : Draws := fun id => bif Nat.beq id 4 then .op 0 .take (.op 1 .one (.op 2 .any (.op 3 .any (.op 4 .any (.op 5 .any (.op 6 .any (.op 7 .any (.op 8 .take (.op 9 .any (.op 10 .any (.op 11 .any (.op 12 .any (.op 13 .any (.op 14 .take (.op 15 .any (.op 16 .any (.op 17 .any (.nil)))))))))))))))))) else .nil
def hp158_0 : List (Option AP) := [some (.val false [.shr T_iiis]), none, none, none, none, some (.val false [.shr T_iiis]), some (.val false [.int .i64]), some (.val false [.int .i64]), none, none, none, none, none, none, none, none, none, none, none, none, none, none, none, none, none, none, none, none, none, none, none, none]
def e158_0 : List (Option AP) := [none, none, none, none, none, none, none, none, none, none, none, none, none, none, none, none, none, none, none, none, none, none, none, none, none, none, none, none, none, none, none, none]
def q158_0 : List (Option AP) := [none, none, some (.val false [.bool]), none, none, none, none, none, none, none, none, none, none, none, none, none, none, none, none, none, none, none, none, none, none, none, none, none, none, none, none, none]
abbrev H158_0 : Type := (List R_iiis) × (List R_iiis) × Int × Int × Unit
abbrev E158_0 : Type := Unit
abbrev Q158_0 : Type := Bool × Unit
noncomputable def impl_ItemsOk_c0 (list0 : List R_iiis) (t5 : List R_iiis) (t6 : Int) (t7 : Int) : Option (Sum H158_0 (Sum E158_0 Q158_0)) :=
  bif decide (t7 < t6) then
    bif decide ((0 : Int) ≤ t7) then Option.bind ((t5)[Int.toNat t7]?) fun r1 =>
      Option.bind (impl_ItemOk r1.1 r1.2.1 r1.2.2.1 r1.2.2.2.1) fun y2 =>
      bif !y2.1 then
        some (.inr (.inr (false, ())))
      else bif decide ((0 : Int) < t7) then
        bif decide ((0 : Int) ≤ IntKind.i64.wrap (t7 - (1 : Int))) then Option.bind ((list0)[Int.toNat (IntKind.i64.wrap (t7 - (1 : Int)))]?) fun r3 =>
          bif decide (r1.1 ≤ r3.1) then
            some (.inr (.inr (false, ())))
          else
            some (.inl (list0, t5, t6, IntKind.i64.wrap (t7 + (1 : Int)), ()))
        else none
      else
        some (.inl (list0, t5, t6, IntKind.i64.wrap (t7 + (1 : Int)), ()))
    else none
  else
    some (.inr (.inl (())))
noncomputable def impl_ItemsOk_r0 (x : H158_0) : Option (Sum H158_0 (Sum E158_0 Q158_0)) := impl_ItemsOk_c0 x.1 x.2.1 x.2.2.1 x.2.2.2.1
noncomputable def L158 {R : Type} : Loops R := fun id _ st k => bif Nat.beq id 0 then loopAt hp158_0 e158_0 q158_0 impl_ItemsOk_r0 st k else none
noncomputable def impl_ItemsOk (list0 : List R_iiis) : Option (Bool × Unit) :=
  outK (loopV impl_ItemsOk_r0 (list0, list0, ((List.length list0 : Nat) : Int), (0 : Int), ())) (fun y1 =>
    some (true, ())) (fun y2 =>
    some (y2.1, ()))
noncomputable def x158 (x : (List R_iiis) × Unit) : Option (Bool × Unit) := impl_ItemsOk x.1
noncomputable def sem158 : Sem1 := semOf ps158 rs158 x158
theorem so158 : SemsOk Try.prog (semsOf sl158) := sems_cons k184 (sems_nil)
noncomputable def b158_0 : Code := nthLoop code158 0
theorem t158_r0_eq (x : denR (headRT hp158_0)) : codeK (tabOf tr) (semsOf sl158) D158 L158 b158_0 (headSt hp158_0 x) (roundK 0 hp158_0 e158_0 q158_0) = impl_ItemsOk_r0 x := by kernel_rfl
theorem loop158_0 {R : Type} (r : R) (w0 : World) (mu : Mu) (hs : AnShape ps158 mu) : LoopAt Try.prog w0 mu 31 (L158 : Loops R) r 0 b158_0 :=
  loop_auto tr_ok eq_ok mixed_ok so158 (D := D158) hs (by kernel_rfl) (fun _ => (loops_of (l := []) (by kernel_rfl) (List.forall_mem_nil _))) t158_r0_eq (fun _ _ => rfl)
theorem t158_eq (x : denR (headRT (ps158.map some))) : codeK (tabOf tr) (semsOf sl158) D158 L158 code158 (start 31 ps158 x) (finK rs158 ps158) = x158 x := by kernel_rfl
theorem k158 : Known Try.prog 158 sem158 :=
  fn_auto tr_ok eq_ok mixed_ok so158 (D := D158) (code := code158) (n := 31) Try.func158 (by kernel_rfl) (by kernel_rfl) (by kernel_rfl) (fun w0 mu _ hs => (loops_of (l := [(0, b158_0)]) (by kernel_rfl) (List.forall_mem_cons.2 ⟨loop158_0 _ w0 mu hs, (List.forall_mem_nil _)⟩))) t158_eq

/-! ### f110: impl.BundleOk -/
noncomputable def code110 : Code := match Try.f110.body with | some c => c | none => .skip
def ps110 : List AP := [.val true [.int .i64, .int .i64, .int .i64, .shr T_iiis]]
def rs110 : List RP := [{ src := .tmp 2, agg := false, ps := [.bool] }]
noncomputable def sl110 : SemL := [(147, (.shr, .shr, .shr, sem147)), (146, (.shr, .shr, .shr, sem146)), (158, (.shr, .shr, .shr, sem158))]
def D110 : Draws := fun _ => .nil
noncomputable def L110 {R : Type} : Loops R := fun _ _ _ _ => none
noncomputable def impl_BundleOk (b0c0 : Int) (b0c1 : Int) (b0c2 : Int) (b0c3 : List R_iiis) : Option (Bool × Unit) :=
  Option.bind (impl_isDaemon b0c0) fun y1 =>
  bif !y1.1 then
    some (false, ())
  else
    Option.bind (impl_inRange b0c1 (1 : Int) (9 : Int)) fun y2 =>
    bif !y2.1 then
      some (false, ())
    else
      Option.bind (impl_inRange b0c2 (0 : Int) (IntKind.i64.wrap (b0c1 - (1 : Int)))) fun y3 =>
      bif !y3.1 then
        some (false, ())
      else
        Option.bind (impl_ItemsOk b0c3) fun y4 =>
        bif y4.1 then
          bif decide ((0 : Int) < b0c2) then
            some (true, ())
          else
            some (decide (((List.length b0c3 : Nat) : Int) = (0 : Int)), ())
        else
          some (false, ())
noncomputable def x110 (x : Int × Int × Int × (List R_iiis) × Unit) : Option (Bool × Unit) := impl_BundleOk x.1 x.2.1 x.2.2.1 x.2.2.2.1
noncomputable def sem110 : Sem1 := semOf ps110 rs110 x110
theorem so110 : SemsOk Try.prog (semsOf sl110) := sems_cons k147 (sems_cons k146 (sems_cons k158 (sems_nil)))
theorem t110_eq (x : denR (headRT (ps110.map some))) : codeK (tabOf tr) (semsOf sl110) D110 L110 code110 (start 36 ps110 x) (finK rs110 ps110) = x110 x := by kernel_rfl
theorem k110 : Known Try.prog 110 sem110 :=
  fn_auto tr_ok eq_ok mixed_ok so110 (D := D110) (code := code110) (n := 36) Try.func110 (by kernel_rfl) (by kernel_rfl) (by kernel_rfl) (fun w0 mu _ hs => (loops_of (l := []) (by kernel_rfl) (List.forall_mem_nil _))) t110_eq

/-! ### f109: impl.AllHere$1 -/
noncomputable def code109 : Code := match Try.f109.body with | some c => c | none => .skip
def ps109 : List AP := [.val true [.int .i64, .int .i64, .int .i64, .shr T_iiis], .val false [.rpt T_i], .val false [.rpt T_iLiE]]
def rs109 : List RP := [{ src := .tmp 4, agg := false, ps := [.bool] }]
noncomputable def sl109 : SemL := [(110, (.shr, .shr, .shr, sem110))]
def D109 : Draws := fun _ => .nil
noncomputable def L109 {R : Type} : Loops R := fun _ _ _ _ => none
noncomputable def impl_AllHere_1 (b0c0 : Int) (b0c1 : Int) (b0c2 : Int) (b0c3 : List R_iiis) (t1p : List (Int × Unit)) (t2p : List R_iLiE) : Option (Bool × Unit) :=
  Option.bind ((t1p)[0]?) fun r1 =>
  bif decide (b0c0 = r1.1) then
    Option.bind ((t2p)[0]?) fun r2 =>
    bif decide (b0c1 = r2.1) then
      Option.bind (impl_BundleOk b0c0 b0c1 b0c2 b0c3) fun y3 =>
      some (y3.1, ())
    else
      some (false, ())
  else
    some (false, ())
noncomputable def x109 (x : Int × Int × Int × (List R_iiis) × (List (Int × Unit)) × (List R_iLiE) × Unit) : Option (Bool × Unit) := impl_AllHere_1 x.1 x.2.1 x.2.2.1 x.2.2.2.1 x.2.2.2.2.1 x.2.2.2.2.2.1
noncomputable def sem109 : Sem1 := semOf ps109 rs109 x109
theorem so109 : SemsOk Try.prog (semsOf sl109) := sems_cons k110 (sems_nil)
theorem t109_eq (x : denR (headRT (ps109.map some))) : codeK (tabOf tr) (semsOf sl109) D109 L109 code109 (start 20 ps109 x) (finK rs109 ps109) = x109 x := by kernel_rfl
theorem k109 : Known Try.prog 109 sem109 :=
  fn_auto tr_ok eq_ok mixed_ok so109 (D := D109) (code := code109) (n := 20) Try.func109 (by kernel_rfl) (by kernel_rfl) (by kernel_rfl) (fun w0 mu _ hs => (loops_of (l := []) (by kernel_rfl) (List.forall_mem_nil _))) t109_eq

/-! ### f160: impl.Bundle] -/
noncomputable def code160 : Code := match Try.f160.body with | some c => c | none => .skip
def ps160 : List AP := [.val false [.shr T_iiiLiiisE], .val false [.fn 109 T_LiELiLiEE]]
def rs160 : List RP := [{ src := .tmp 4, agg := false, ps := [.int .i64] }]
noncomputable def sl160 : SemL := [(109, (.shr, .shr, .shr, sem109))]
def D160 : Draws := fun _ => .nil
def hp160_0 : List (Option AP) := [some (.val false [.shr T_iiiLiiisE]), some (.val false [.fn 109 T_LiELiLiEE]), none, none, none, none, none, some (.val false [.int .i64]), some (.val false [.int .i64]), none, none, none, none, none, none, none, none, none, none, none]
def e160_0 : List (Option AP) := [none, none, none, none, none, none, none, none, none, none, none, none, none, none, none, none, none, none, none, none]
def q160_0 : List (Option AP) := [none, none, none, none, some (.val false [.int .i64]), none, none, none, none, none, none, none, none, none, none, none, none, none, none, none]
abbrev H160_0 : Type := (List R_iiiLiiisE) × (List R_LiELiLiEE) × Int × Int × Unit
abbrev E160_0 : Type := Unit
abbrev Q160_0 : Type := Int × Unit
noncomputable def slices_IndexFunc_impl_Bundle_c0 (s0 : List R_iiiLiiisE) (f1p : List R_LiELiLiEE) (t7 : Int) (t8 : Int) : Option (Sum H160_0 (Sum E160_0 Q160_0)) :=
  bif decide (t8 < t7) then
    bif decide ((0 : Int) ≤ t8) then Option.bind ((s0)[Int.toNat t8]?) fun r1 =>
      Option.bind ((f1p)[0]?) fun r2 =>
      Option.bind (impl_AllHere_1 r1.1 r1.2.1 r1.2.2.1 r1.2.2.2.1 r2.1 r2.2.1) fun y3 =>
      bif y3.1 then
        some (.inr (.inr (t8, ())))
      else
        some (.inl (s0, f1p, t7, IntKind.i64.wrap (t8 + (1 : Int)), ()))
    else none
  else
    some (.inr (.inl (())))
noncomputable def slices_IndexFunc_impl_Bundle_r0 (x : H160_0) : Option (Sum H160_0 (Sum E160_0 Q160_0)) := slices_IndexFunc_impl_Bundle_c0 x.1 x.2.1 x.2.2.1 x.2.2.2.1
noncomputable def L160 {R : Type} : Loops R := fun id _ st k => bif Nat.beq id 0 then loopAt hp160_0 e160_0 q160_0 slices_IndexFunc_impl_Bundle_r0 st k else none
noncomputable def slices_IndexFunc_impl_Bundle (s0 : List R_iiiLiiisE) (f1p : List R_LiELiLiEE) : Option (Int × Unit) :=
  outK (loopV slices_IndexFunc_impl_Bundle_r0 (s0, f1p, ((List.length s0 : Nat) : Int), (0 : Int), ())) (fun y1 =>
    some ((-1 : Int), ())) (fun y2 =>
    some (y2.1, ()))
noncomputable def x160 (x : (List R_iiiLiiisE) × (List R_LiELiLiEE) × Unit) : Option (Int × Unit) := slices_IndexFunc_impl_Bundle x.1 x.2.1
noncomputable def sem160 : Sem1 := semOf ps160 rs160 x160
theorem so160 : SemsOk Try.prog (semsOf sl160) := sems_cons k109 (sems_nil)
noncomputable def b160_0 : Code := nthLoop code160 0
theorem t160_r0_eq (x : denR (headRT hp160_0)) : codeK (tabOf tr) (semsOf sl160) D160 L160 b160_0 (headSt hp160_0 x) (roundK 0 hp160_0 e160_0 q160_0) = slices_IndexFunc_impl_Bundle_r0 x := by kernel_rfl
theorem loop160_0 {R : Type} (r : R) (w0 : World) (mu : Mu) (hs : AnShape ps160 mu) : LoopAt Try.prog w0 mu 19 (L160 : Loops R) r 0 b160_0 :=
  loop_auto tr_ok eq_ok mixed_ok so160 (D := D160) hs (by kernel_rfl) (fun _ => (loops_of (l := []) (by kernel_rfl) (List.forall_mem_nil _))) t160_r0_eq (fun _ _ => rfl)
theorem t160_eq (x : denR (headRT (ps160.map some))) : codeK (tabOf tr) (semsOf sl160) D160 L160 code160 (start 19 ps160 x) (finK rs160 ps160) = x160 x := by kernel_rfl
theorem k160 : Known Try.prog 160 sem160 :=
  fn_auto tr_ok eq_ok mixed_ok so160 (D := D160) (code := code160) (n := 19) Try.func160 (by kernel_rfl) (by kernel_rfl) (by kernel_rfl) (fun w0 mu _ hs => (loops_of (l := [(0, b160_0)]) (by kernel_rfl) (List.forall_mem_cons.2 ⟨loop160_0 _ w0 mu hs, (List.forall_mem_nil _)⟩))) t160_eq

/-! ### f108: impl.Bundle] -/
noncomputable def code108 : Code := match Try.f108.body with | some c => c | none => .skip
def ps108 : List AP := [.val false [.shr T_iiiLiiisE], .val false [.fn 109 T_LiELiLiEE]]
def rs108 : List RP := [{ src := .tmp 4, agg := false, ps := [.bool] }]
noncomputable def sl108 : SemL := [(160, (.shr, .shr, .shr, sem160))]
def D108 : Draws := fun _ => .nil
noncomputable def L108 {R : Type} : Loops R := fun _ _ _ _ => none
noncomputable def slices_ContainsFunc_impl_Bundle (s0 : List R_iiiLiiisE) (f1p : List R_LiELiLiEE) : Option (Bool × Unit) :=
  Option.bind (slices_IndexFunc_impl_Bundle s0 f1p) fun y1 =>
  some (decide ((0 : Int) ≤ y1.1), ())
noncomputable def x108 (x : (List R_iiiLiiisE) × (List R_LiELiLiEE) × Unit) : Option (Bool × Unit) := slices_ContainsFunc_impl_Bundle x.1 x.2.1
noncomputable def sem108 : Sem1 := semOf ps108 rs108 x108
theorem so108 : SemsOk Try.prog (semsOf sl108) := sems_cons k160 (sems_nil)
theorem t108_eq (x : denR (headRT (ps108.map some))) : codeK (tabOf tr) (semsOf sl108) D108 L108 code108 (start 9 ps108 x) (finK rs108 ps108) = x108 x := by kernel_rfl
theorem k108 : Known Try.prog 108 sem108 :=
  fn_auto tr_ok eq_ok mixed_ok so108 (D := D108) (code := code108) (n := 9) Try.func108 (by kernel_rfl) (by kernel_rfl) (by kernel_rfl) (fun w0 mu _ hs => (loops_of (l := []) (by kernel_rfl) (List.forall_mem_nil _))) t108_eq

/-! ### f38: impl.AllHere -/
noncomputable def code38 : Code := match Try.f38.body with | some c => c | none => .skip
def ps38 : List AP := [.val true [.int .i64, .shr T_i], .val false [.shr T_iiiLiiisE]]
def rs38 : List RP := [{ src := .tmp 4, agg := false, ps := [.bool] }]
noncomputable def sl38 : SemL := [(108, (.shr, .shr, .shr, sem108))]
def D38 : Draws := fun _ => .nil
def hp38_0 : List (Option AP) := [none, some (.val false [.shr T_iiiLiiisE]), some (.val false [.rpt T_iLiE]), none, none, none, none, none, none, some (.val false [.shr T_i]), some (.val false [.int .i64]), some (.val false [.int .i64]), none, none, none, none, none, none, none, none, none, none]
def e38_0 : List (Option AP) := [none, none, none, none, none, none, none, none, none, none, none, none, none, none, none, none, none, none, none, none, none, none]
def q38_0 : List (Option AP) := [none, none, none, none, some (.val false [.bool]), none, none, none, none, none, none, none, none, none, none, none, none, none, none, none, none, none]
abbrev H38_0 : Type := (List R_iiiLiiisE) × (List R_iLiE) × (List (Int × Unit)) × Int × Int × Unit
abbrev E38_0 : Type := Unit
abbrev Q38_0 : Type := Bool × Unit
noncomputable def impl_AllHere_c0 (list1 : List R_iiiLiiisE) (r2p : List R_iLiE) (t9 : List (Int × Unit)) (t10 : Int) (t11 : Int) : Option (Sum H38_0 (Sum E38_0 Q38_0)) :=
  bif decide (t11 < t10) then
    bif decide ((0 : Int) ≤ t11) then Option.bind ((t9)[Int.toNat t11]?) fun r1 =>
      Option.bind (slices_ContainsFunc_impl_Bundle list1 ([([(r1.1, ())], r2p, ())])) fun y2 =>
      bif !y2.1 then
        some (.inr (.inr (false, ())))
      else
        some (.inl (list1, r2p, t9, t10, IntKind.i64.wrap (t11 + (1 : Int)), ()))
    else none
  else
    some (.inr (.inl (())))
noncomputable def impl_AllHere_r0 (x : H38_0) : Option (Sum H38_0 (Sum E38_0 Q38_0)) := impl_AllHere_c0 x.1 x.2.1 x.2.2.1 x.2.2.2.1 x.2.2.2.2.1
noncomputable def L38 {R : Type} : Loops R := fun id _ st k => bif Nat.beq id 0 then loopAt hp38_0 e38_0 q38_0 impl_AllHere_r0 st k else none
noncomputable def impl_AllHere (r0c0 : Int) (r0c1 : List (Int × Unit)) (list1 : List R_iiiLiiisE) : Option (Bool × Unit) :=
  outK (loopV impl_AllHere_r0 (list1, [(r0c0, r0c1, ())], r0c1, ((List.length r0c1 : Nat) : Int), (0 : Int), ())) (fun y1 =>
    some (true, ())) (fun y2 =>
    some (y2.1, ()))
noncomputable def x38 (x : Int × (List (Int × Unit)) × (List R_iiiLiiisE) × Unit) : Option (Bool × Unit) := impl_AllHere x.1 x.2.1 x.2.2.1
noncomputable def sem38 : Sem1 := semOf ps38 rs38 x38
theorem so38 : SemsOk Try.prog (semsOf sl38) := sems_cons k108 (sems_nil)
noncomputable def b38_0 : Code := nthLoop code38 0
theorem t38_r0_eq (x : denR (headRT hp38_0)) : codeK (tabOf trc) (semsOf sl38) D38 L38 b38_0 (headSt hp38_0 x) (roundK 0 hp38_0 e38_0 q38_0) = impl_AllHere_r0 x := by kernel_rfl
theorem loop38_0 {R : Type} (r : R) (w0 : World) (mu : Mu) (hs : AnShape ps38 mu) : LoopAt Try.prog w0 mu 21 (L38 : Loops R) r 0 b38_0 :=
  loop_auto trc_ok eq_okc mixed_ok so38 (D := D38) hs (by kernel_rfl) (fun _ => (loops_of (l := []) (by kernel_rfl) (List.forall_mem_nil _))) t38_r0_eq (fun _ _ => rfl)
theorem t38_eq (x : denR (headRT (ps38.map some))) : codeK (tabOf trc) (semsOf sl38) D38 L38 code38 (start 21 ps38 x) (finK rs38 ps38) = x38 x := by kernel_rfl
theorem k38 : Known Try.prog 38 sem38 :=
  fn_auto trc_ok eq_okc mixed_ok so38 (D := D38) (code := code38) (n := 21) Try.func38 (by kernel_rfl) (by kernel_rfl) (by kernel_rfl) (fun w0 mu _ hs => (loops_of (l := [(0, b38_0)]) (by kernel_rfl) (List.forall_mem_cons.2 ⟨loop38_0 _ w0 mu hs, (List.forall_mem_nil _)⟩))) t38_eq

/-! ### f74: laws.eqIntS -/
noncomputable def code74 : Code := match Try.f74.body with | some c => c | none => .skip
def ps74 : List AP := [.val false [.shr T_i], .val false [.shr T_i]]
def rs74 : List RP := [{ src := .tmp 4, agg := false, ps := [.bool] }]
noncomputable def sl74 : SemL := []
def D74 : Draws := fun id => bif Nat.beq id 6 then .op 0 .any (.op 1 .any (.op 2 .any (.op 3 .take (.op 4 .any (.op 5 .any (.op 6 .any (.op 7 .take (.op 8 .any (.nil))))))))) else .nil
def hp74_0 : List (Option AP) := [some (.val false [.shr T_i]), some (.val false [.shr T_i]), none, none, none, some (.val false [.int .i64]), none, none, none, none, none, none, none, none, none, none, none, none, none, none, none, none, none, none, none, none, none]
def e74_0 : List (Option AP) := [none, none, none, none, none, none, none, none, none, none, none, none, none, none, none, none, none, none, none, none, none, none, none, none, none, none, none]
def q74_0 : List (Option AP) := [none, none, none, none, some (.val false [.bool]), none, none, none, none, none, none, none, none, none, none, none, none, none, none, none, none, none, none, none, none, none, none]
abbrev H74_0 : Type := (List (Int × Unit)) × (List (Int × Unit)) × Int × Unit
abbrev E74_0 : Type := Unit
abbrev Q74_0 : Type := Bool × Unit
noncomputable def laws_eqIntS_c0 (a0 : List (Int × Unit)) (b1 : List (Int × Unit)) (i5 : Int) : Option (Sum H74_0 (Sum E74_0 Q74_0)) :=
  bif decide (i5 < ((List.length a0 : Nat) : Int)) then
    bif decide ((0 : Int) ≤ i5) then Option.bind ((a0)[Int.toNat i5]?) fun r1 =>
      bif decide ((0 : Int) ≤ i5) then Option.bind ((b1)[Int.toNat i5]?) fun r2 =>
        bif !decide (r1.1 = r2.1) then
          some (.inr (.inr (false, ())))
        else
          some (.inl (a0, b1, IntKind.i64.wrap (i5 + (1 : Int)), ()))
      else none
    else none
  else
    some (.inr (.inl (())))
noncomputable def laws_eqIntS_r0 (x : H74_0) : Option (Sum H74_0 (Sum E74_0 Q74_0)) := laws_eqIntS_c0 x.1 x.2.1 x.2.2.1
noncomputable def L74 {R : Type} : Loops R := fun id _ st k => bif Nat.beq id 0 then loopAt hp74_0 e74_0 q74_0 laws_eqIntS_r0 st k else none
noncomputable def laws_eqIntS (a0 : List (Int × Unit)) (b1 : List (Int × Unit)) : Option (Bool × Unit) :=
  bif !decide (((List.length a0 : Nat) : Int) = ((List.length b1 : Nat) : Int)) then
    some (false, ())
  else
    outK (loopV laws_eqIntS_r0 (a0, b1, (0 : Int), ())) (fun y1 =>
      some (true, ())) (fun y2 =>
      some (y2.1, ()))
noncomputable def x74 (x : (List (Int × Unit)) × (List (Int × Unit)) × Unit) : Option (Bool × Unit) := laws_eqIntS x.1 x.2.1
noncomputable def sem74 : Sem1 := semOf ps74 rs74 x74
theorem so74 : SemsOk Try.prog (semsOf sl74) := sems_nil
noncomputable def b74_0 : Code := nthLoop code74 0
theorem t74_r0_eq (x : denR (headRT hp74_0)) : codeK (tabOf tr) (semsOf sl74) D74 L74 b74_0 (headSt hp74_0 x) (roundK 0 hp74_0 e74_0 q74_0) = laws_eqIntS_r0 x := by kernel_rfl
theorem loop74_0 {R : Type} (r : R) (w0 : World) (mu : Mu) (hs : AnShape ps74 mu) : LoopAt Try.prog w0 mu 26 (L74 : Loops R) r 0 b74_0 :=
  loop_auto tr_ok eq_ok mixed_ok so74 (D := D74) hs (by kernel_rfl) (fun _ => (loops_of (l := []) (by kernel_rfl) (List.forall_mem_nil _))) t74_r0_eq (fun _ _ => rfl)
theorem t74_eq (x : denR (headRT (ps74.map some))) : codeK (tabOf tr) (semsOf sl74) D74 L74 code74 (start 26 ps74 x) (finK rs74 ps74) = x74 x := by kernel_rfl
theorem k74 : Known Try.prog 74 sem74 :=
  fn_auto tr_ok eq_ok mixed_ok so74 (D := D74) (code := code74) (n := 26) Try.func74 (by kernel_rfl) (by kernel_rfl) (by kernel_rfl) (fun w0 mu _ hs => (loops_of (l := [(0, b74_0)]) (by kernel_rfl) (List.forall_mem_cons.2 ⟨loop74_0 _ w0 mu hs, (List.forall_mem_nil _)⟩))) t74_eq

/-! ### f15: laws.eqRing -/
noncomputable def code15 : Code := match Try.f15.body with | some c => c | none => .skip
def ps15 : List AP := [.val true [.int .i64, .shr T_i], .val true [.int .i64, .shr T_i]]
def rs15 : List RP := [{ src := .tmp 4, agg := false, ps := [.bool] }]
noncomputable def sl15 : SemL := [(74, (.shr, .shr, .shr, sem74))]
def D15 : Draws := fun _ => .nil
noncomputable def L15 {R : Type} : Loops R := fun _ _ _ _ => none
noncomputable def laws_eqRing (a0c0 : Int) (a0c1 : List (Int × Unit)) (b1c0 : Int) (b1c1 : List (Int × Unit)) : Option (Bool × Unit) :=
  bif !decide (a0c0 = b1c0) then
    some (false, ())
  else
    Option.bind (laws_eqIntS a0c1 b1c1) fun y1 =>
    bif !y1.1 then
      some (false, ())
    else
      some (true, ())
noncomputable def x15 (x : Int × (List (Int × Unit)) × Int × (List (Int × Unit)) × Unit) : Option (Bool × Unit) := laws_eqRing x.1 x.2.1 x.2.2.1 x.2.2.2.1
noncomputable def sem15 : Sem1 := semOf ps15 rs15 x15
theorem so15 : SemsOk Try.prog (semsOf sl15) := sems_cons k74 (sems_nil)
theorem t15_eq (x : denR (headRT (ps15.map some))) : codeK (tabOf tr) (semsOf sl15) D15 L15 code15 (start 16 ps15 x) (finK rs15 ps15) = x15 x := by kernel_rfl
theorem k15 : Known Try.prog 15 sem15 :=
  fn_auto tr_ok eq_ok mixed_ok so15 (D := D15) (code := code15) (n := 16) Try.func15 (by kernel_rfl) (by kernel_rfl) (by kernel_rfl) (fun w0 mu _ hs => (loops_of (l := []) (by kernel_rfl) (List.forall_mem_nil _))) t15_eq

/-! ### f106: laws.eqItem -/
noncomputable def code106 : Code := match Try.f106.body with | some c => c | none => .skip
def ps106 : List AP := [.val true [.int .i64, .int .i64, .int .i64, .str], .val true [.int .i64, .int .i64, .int .i64, .str]]
def rs106 : List RP := [{ src := .tmp 4, agg := false, ps := [.bool] }]
noncomputable def sl106 : SemL := []
def D106 : Draws := fun _ => .nil
noncomputable def L106 {R : Type} : Loops R := fun _ _ _ _ => none
noncomputable def laws_eqItem (a0c0 : Int) (a0c1 : Int) (a0c2 : Int) (a0c3 : ByteArray) (b1c0 : Int) (b1c1 : Int) (b1c2 : Int) (b1c3 : ByteArray) : Option (Bool × Unit) :=
  bif !decide (a0c0 = b1c0) then
    some (false, ())
  else bif !decide (a0c1 = b1c1) then
    some (false, ())
  else bif !decide (a0c2 = b1c2) then
    some (false, ())
  else bif !strEq a0c3 b1c3 then
    some (false, ())
  else
    some (true, ())
noncomputable def x106 (x : Int × Int × Int × ByteArray × Int × Int × Int × ByteArray × Unit) : Option (Bool × Unit) := laws_eqItem x.1 x.2.1 x.2.2.1 x.2.2.2.1 x.2.2.2.2.1 x.2.2.2.2.2.1 x.2.2.2.2.2.2.1 x.2.2.2.2.2.2.2.1
noncomputable def sem106 : Sem1 := semOf ps106 rs106 x106
theorem so106 : SemsOk Try.prog (semsOf sl106) := sems_nil
theorem t106_eq (x : denR (headRT (ps106.map some))) : codeK (tabOf tr) (semsOf sl106) D106 L106 code106 (start 25 ps106 x) (finK rs106 ps106) = x106 x := by kernel_rfl
theorem k106 : Known Try.prog 106 sem106 :=
  fn_auto tr_ok eq_ok mixed_ok so106 (D := D106) (code := code106) (n := 25) Try.func106 (by kernel_rfl) (by kernel_rfl) (by kernel_rfl) (fun w0 mu _ hs => (loops_of (l := []) (by kernel_rfl) (List.forall_mem_nil _))) t106_eq

/-! ### f32: laws.eqItemS -/
noncomputable def code32 : Code := match Try.f32.body with | some c => c | none => .skip
def ps32 : List AP := [.val false [.shr T_iiis], .val false [.shr T_iiis]]
def rs32 : List RP := [{ src := .tmp 4, agg := false, ps := [.bool] }]
noncomputable def sl32 : SemL := [(106, (.shr, .shr, .shr, sem106))]
def D32 : Draws := fun id => bif Nat.beq id 6 then .op 0 .any (.op 1 .any (.op 2 .any (.op 3 .take (.op 4 .any (.op 5 .any (.op 6 .any (.op 7 .take (.op 8 .one (.op 9 .any (.nil)))))))))) else .nil
def hp32_0 : List (Option AP) := [some (.val false [.shr T_iiis]), some (.val false [.shr T_iiis]), none, none, none, some (.val false [.int .i64]), none, none, none, none, none, none, none, none, none, none, none, none, none, none, none, none, none, none, none, none, none, none]
def e32_0 : List (Option AP) := [none, none, none, none, none, none, none, none, none, none, none, none, none, none, none, none, none, none, none, none, none, none, none, none, none, none, none, none]
def q32_0 : List (Option AP) := [none, none, none, none, some (.val false [.bool]), none, none, none, none, none, none, none, none, none, none, none, none, none, none, none, none, none, none, none, none, none, none, none]
abbrev H32_0 : Type := (List R_iiis) × (List R_iiis) × Int × Unit
abbrev E32_0 : Type := Unit
abbrev Q32_0 : Type := Bool × Unit
noncomputable def laws_eqItemS_c0 (a0 : List R_iiis) (b1 : List R_iiis) (i5 : Int) : Option (Sum H32_0 (Sum E32_0 Q32_0)) :=
  bif decide (i5 < ((List.length a0 : Nat) : Int)) then
    bif decide ((0 : Int) ≤ i5) then Option.bind ((a0)[Int.toNat i5]?) fun r1 =>
      bif decide ((0 : Int) ≤ i5) then Option.bind ((b1)[Int.toNat i5]?) fun r2 =>
        Option.bind (laws_eqItem r1.1 r1.2.1 r1.2.2.1 r1.2.2.2.1 r2.1 r2.2.1 r2.2.2.1 r2.2.2.2.1) fun y3 =>
        bif !y3.1 then
          some (.inr (.inr (false, ())))
        else
          some (.inl (a0, b1, IntKind.i64.wrap (i5 + (1 : Int)), ()))
      else none
    else none
  else
    some (.inr (.inl (())))
noncomputable def laws_eqItemS_r0 (x : H32_0) : Option (Sum H32_0 (Sum E32_0 Q32_0)) := laws_eqItemS_c0 x.1 x.2.1 x.2.2.1
noncomputable def L32 {R : Type} : Loops R := fun id _ st k => bif Nat.beq id 0 then loopAt hp32_0 e32_0 q32_0 laws_eqItemS_r0 st k else none
noncomputable def laws_eqItemS (a0 : List R_iiis) (b1 : List R_iiis) : Option (Bool × Unit) :=
  bif !decide (((List.length a0 : Nat) : Int) = ((List.length b1 : Nat) : Int)) then
    some (false, ())
  else
    outK (loopV laws_eqItemS_r0 (a0, b1, (0 : Int), ())) (fun y1 =>
      some (true, ())) (fun y2 =>
      some (y2.1, ()))
noncomputable def x32 (x : (List R_iiis) × (List R_iiis) × Unit) : Option (Bool × Unit) := laws_eqItemS x.1 x.2.1
noncomputable def sem32 : Sem1 := semOf ps32 rs32 x32
theorem so32 : SemsOk Try.prog (semsOf sl32) := sems_cons k106 (sems_nil)
noncomputable def b32_0 : Code := nthLoop code32 0
theorem t32_r0_eq (x : denR (headRT hp32_0)) : codeK (tabOf tr) (semsOf sl32) D32 L32 b32_0 (headSt hp32_0 x) (roundK 0 hp32_0 e32_0 q32_0) = laws_eqItemS_r0 x := by kernel_rfl
theorem loop32_0 {R : Type} (r : R) (w0 : World) (mu : Mu) (hs : AnShape ps32 mu) : LoopAt Try.prog w0 mu 27 (L32 : Loops R) r 0 b32_0 :=
  loop_auto tr_ok eq_ok mixed_ok so32 (D := D32) hs (by kernel_rfl) (fun _ => (loops_of (l := []) (by kernel_rfl) (List.forall_mem_nil _))) t32_r0_eq (fun _ _ => rfl)
theorem t32_eq (x : denR (headRT (ps32.map some))) : codeK (tabOf tr) (semsOf sl32) D32 L32 code32 (start 27 ps32 x) (finK rs32 ps32) = x32 x := by kernel_rfl
theorem k32 : Known Try.prog 32 sem32 :=
  fn_auto tr_ok eq_ok mixed_ok so32 (D := D32) (code := code32) (n := 27) Try.func32 (by kernel_rfl) (by kernel_rfl) (by kernel_rfl) (fun w0 mu _ hs => (loops_of (l := [(0, b32_0)]) (by kernel_rfl) (List.forall_mem_cons.2 ⟨loop32_0 _ w0 mu hs, (List.forall_mem_nil _)⟩))) t32_eq

/-! ### f43: laws.eqBundle -/
noncomputable def code43 : Code := match Try.f43.body with | some c => c | none => .skip
def ps43 : List AP := [.val true [.int .i64, .int .i64, .int .i64, .shr T_iiis], .val true [.int .i64, .int .i64, .int .i64, .shr T_iiis]]
def rs43 : List RP := [{ src := .tmp 4, agg := false, ps := [.bool] }]
noncomputable def sl43 : SemL := [(32, (.shr, .shr, .shr, sem32))]
def D43 : Draws := fun _ => .nil
noncomputable def L43 {R : Type} : Loops R := fun _ _ _ _ => none
noncomputable def laws_eqBundle (a0c0 : Int) (a0c1 : Int) (a0c2 : Int) (a0c3 : List R_iiis) (b1c0 : Int) (b1c1 : Int) (b1c2 : Int) (b1c3 : List R_iiis) : Option (Bool × Unit) :=
  bif !decide (a0c0 = b1c0) then
    some (false, ())
  else bif !decide (a0c1 = b1c1) then
    some (false, ())
  else bif !decide (a0c2 = b1c2) then
    some (false, ())
  else
    Option.bind (laws_eqItemS a0c3 b1c3) fun y1 =>
    bif !y1.1 then
      some (false, ())
    else
      some (true, ())
noncomputable def x43 (x : Int × Int × Int × (List R_iiis) × Int × Int × Int × (List R_iiis) × Unit) : Option (Bool × Unit) := laws_eqBundle x.1 x.2.1 x.2.2.1 x.2.2.2.1 x.2.2.2.2.1 x.2.2.2.2.2.1 x.2.2.2.2.2.2.1 x.2.2.2.2.2.2.2.1
noncomputable def sem43 : Sem1 := semOf ps43 rs43 x43
theorem so43 : SemsOk Try.prog (semsOf sl43) := sems_cons k32 (sems_nil)
theorem t43_eq (x : denR (headRT (ps43.map some))) : codeK (tabOf tr) (semsOf sl43) D43 L43 code43 (start 26 ps43 x) (finK rs43 ps43) = x43 x := by kernel_rfl
theorem k43 : Known Try.prog 43 sem43 :=
  fn_auto tr_ok eq_ok mixed_ok so43 (D := D43) (code := code43) (n := 26) Try.func43 (by kernel_rfl) (by kernel_rfl) (by kernel_rfl) (fun w0 mu _ hs => (loops_of (l := []) (by kernel_rfl) (List.forall_mem_nil _))) t43_eq

/-! ### f33: laws.eqBundleS -/
noncomputable def code33 : Code := match Try.f33.body with | some c => c | none => .skip
def ps33 : List AP := [.val false [.shr T_iiiLiiisE], .val false [.shr T_iiiLiiisE]]
def rs33 : List RP := [{ src := .tmp 4, agg := false, ps := [.bool] }]
noncomputable def sl33 : SemL := [(43, (.shr, .shr, .shr, sem43))]
def D33 : Draws := fun id => bif Nat.beq id 6 then .op 0 .any (.op 1 .any (.op 2 .any (.op 3 .take (.op 4 .any (.op 5 .any (.op 6 .any (.op 7 .take (.op 8 .one (.op 9 .any (.nil)))))))))) else .nil
def hp33_0 : List (Option AP) := [some (.val false [.shr T_iiiLiiisE]), some (.val false [.shr T_iiiLiiisE]), none, none, none, some (.val false [.int .i64]), none, none, none, none, none, none, none, none, none, none, none, none, none, none, none, none, none, none, none, none, none, none]
def e33_0 : List (Option AP) := [none, none, none, none, none, none, none, none, none, none, none, none, none, none, none, none, none, none, none, none, none, none, none, none, none, none, none, none]
def q33_0 : List (Option AP) := [none, none, none, none, some (.val false [.bool]), none, none, none, none, none, none, none, none, none, none, none, none, none, none, none, none, none, none, none, none, none, none, none]
abbrev H33_0 : Type := (List R_iiiLiiisE) × (List R_iiiLiiisE) × Int × Unit
abbrev E33_0 : Type := Unit
abbrev Q33_0 : Type := Bool × Unit
noncomputable def laws_eqBundleS_c0 (a0 : List R_iiiLiiisE) (b1 : List R_iiiLiiisE) (i5 : Int) : Option (Sum H33_0 (Sum E33_0 Q33_0)) :=
  bif decide (i5 < ((List.length a0 : Nat) : Int)) then
    bif decide ((0 : Int) ≤ i5) then Option.bind ((a0)[Int.toNat i5]?) fun r1 =>
      bif decide ((0 : Int) ≤ i5) then Option.bind ((b1)[Int.toNat i5]?) fun r2 =>
        Option.bind (laws_eqBundle r1.1 r1.2.1 r1.2.2.1 r1.2.2.2.1 r2.1 r2.2.1 r2.2.2.1 r2.2.2.2.1) fun y3 =>
        bif !y3.1 then
          some (.inr (.inr (false, ())))
        else
          some (.inl (a0, b1, IntKind.i64.wrap (i5 + (1 : Int)), ()))
      else none
    else none
  else
    some (.inr (.inl (())))
noncomputable def laws_eqBundleS_r0 (x : H33_0) : Option (Sum H33_0 (Sum E33_0 Q33_0)) := laws_eqBundleS_c0 x.1 x.2.1 x.2.2.1
noncomputable def L33 {R : Type} : Loops R := fun id _ st k => bif Nat.beq id 0 then loopAt hp33_0 e33_0 q33_0 laws_eqBundleS_r0 st k else none
noncomputable def laws_eqBundleS (a0 : List R_iiiLiiisE) (b1 : List R_iiiLiiisE) : Option (Bool × Unit) :=
  bif !decide (((List.length a0 : Nat) : Int) = ((List.length b1 : Nat) : Int)) then
    some (false, ())
  else
    outK (loopV laws_eqBundleS_r0 (a0, b1, (0 : Int), ())) (fun y1 =>
      some (true, ())) (fun y2 =>
      some (y2.1, ()))
noncomputable def x33 (x : (List R_iiiLiiisE) × (List R_iiiLiiisE) × Unit) : Option (Bool × Unit) := laws_eqBundleS x.1 x.2.1
noncomputable def sem33 : Sem1 := semOf ps33 rs33 x33
theorem so33 : SemsOk Try.prog (semsOf sl33) := sems_cons k43 (sems_nil)
noncomputable def b33_0 : Code := nthLoop code33 0
theorem t33_r0_eq (x : denR (headRT hp33_0)) : codeK (tabOf tr) (semsOf sl33) D33 L33 b33_0 (headSt hp33_0 x) (roundK 0 hp33_0 e33_0 q33_0) = laws_eqBundleS_r0 x := by kernel_rfl
theorem loop33_0 {R : Type} (r : R) (w0 : World) (mu : Mu) (hs : AnShape ps33 mu) : LoopAt Try.prog w0 mu 27 (L33 : Loops R) r 0 b33_0 :=
  loop_auto tr_ok eq_ok mixed_ok so33 (D := D33) hs (by kernel_rfl) (fun _ => (loops_of (l := []) (by kernel_rfl) (List.forall_mem_nil _))) t33_r0_eq (fun _ _ => rfl)
theorem t33_eq (x : denR (headRT (ps33.map some))) : codeK (tabOf tr) (semsOf sl33) D33 L33 code33 (start 27 ps33 x) (finK rs33 ps33) = x33 x := by kernel_rfl
theorem k33 : Known Try.prog 33 sem33 :=
  fn_auto tr_ok eq_ok mixed_ok so33 (D := D33) (code := code33) (n := 27) Try.func33 (by kernel_rfl) (by kernel_rfl) (by kernel_rfl) (fun w0 mu _ hs => (loops_of (l := [(0, b33_0)]) (by kernel_rfl) (List.forall_mem_cons.2 ⟨loop33_0 _ w0 mu hs, (List.forall_mem_nil _)⟩))) t33_eq

/-! ### f6: laws.FnExactAllHere -/
noncomputable def code6 : Code := match Try.f6.body with | some c => c | none => .skip
def ps6 : List AP := [.val true [.int .i64, .shr T_i], .val false [.shr T_iiiLiiisE]]
def rs6 : List RP := [{ src := .tmp 4, agg := false, ps := [.bool] }]
noncomputable def sl6 : SemL := [(10, (.shr, .shr, .shr, sem10)), (28, (.shr, .shr, .shr, sem28)), (12, (.shr, .shr, .shr, sem12)), (30, (.shr, .shr, .shr, sem30)), (37, (.shr, .shr, .shr, sem37)), (38, (.shr, .shr, .shr, sem38)), (15, (.shr, .shr, .shr, sem15)), (33, (.shr, .shr, .shr, sem33))]
def D6 : Draws := fun id => bif Nat.beq id 14 then .op 0 .take (.op 1 .take (.op 2 .one (.op 3 .one (.op 4 .any (.nil))))) else .nil
noncomputable def L6 {R : Type} : Loops R := fun _ _ _ _ => none
noncomputable def laws_FnExactAllHere (aR0c0 : Int) (aR0c1 : List (Int × Unit)) (aList1 : List R_iiiLiiisE) : Option (Bool × Unit) :=
  Option.bind (laws_szRing aR0c0 aR0c1 (1048576 : Int)) fun y1 =>
  bif decide (y1.1 < (0 : Int)) then
    some (true, ())
  else
    Option.bind (laws_szBundleS aList1 y1.1) fun y2 =>
    bif decide (y2.1 < (0 : Int)) then
      some (true, ())
    else
      Option.bind (laws_toRing aR0c0 aR0c1) fun y3 =>
      Option.bind (laws_toBundleS aList1) fun y4 =>
      Option.bind (spec_AllHere y3.1 y3.2.1 y4.1) fun y5 =>
      Option.bind (laws_toRing aR0c0 aR0c1) fun y6 =>
      Option.bind (laws_toBundleS aList1) fun y7 =>
      Option.bind (impl_AllHere y6.1 y6.2.1 y7.1) fun y8 =>
      bif !(y8.1 == y5.1) then
        some (false, ())
      else
        Option.bind (laws_toRing aR0c0 aR0c1) fun y9 =>
        Option.bind (laws_eqRing y6.1 y6.2.1 y9.1 y9.2.1) fun y10 =>
        bif !y10.1 then
          some (false, ())
        else
          Option.bind (laws_toBundleS aList1) fun y11 =>
          Option.bind (laws_eqBundleS y7.1 y11.1) fun y12 =>
          bif !y12.1 then
            some (false, ())
          else
            some (true, ())
noncomputable def x6 (x : Int × (List (Int × Unit)) × (List R_iiiLiiisE) × Unit) : Option (Bool × Unit) := laws_FnExactAllHere x.1 x.2.1 x.2.2.1
noncomputable def sem6 : Sem1 := semOf ps6 rs6 x6
theorem so6 : SemsOk Try.prog (semsOf sl6) := sems_cons k10 (sems_cons k28 (sems_cons k12 (sems_cons k30 (sems_cons k37 (sems_cons k38 (sems_cons k15 (sems_cons k33 (sems_nil))))))))
theorem t6_eq (x : denR (headRT (ps6.map some))) : codeK (tabOf tr) (semsOf sl6) D6 L6 code6 (start 45 ps6 x) (finK rs6 ps6) = x6 x := by kernel_rfl
theorem k6 : Known Try.prog 6 sem6 :=
  fn_auto tr_ok eq_ok mixed_ok so6 (D := D6) (code := code6) (n := 45) Try.func6 (by kernel_rfl) (by kernel_rfl) (by kernel_rfl) (fun w0 mu _ hs => (loops_of (l := []) (by kernel_rfl) (List.forall_mem_nil _))) t6_eq

end Go.TM
