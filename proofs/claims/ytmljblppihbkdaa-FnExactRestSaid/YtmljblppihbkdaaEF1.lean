/- What the functions answer, as terms; their contracts. -/
import Derived.Test.YtmljblppihbkdaaEBase
set_option linter.unusedSimpArgs false
set_option linter.unusedVariables false
namespace Go.TM
open Go Go.RowKit Go.Proofs

/-! ### f62: laws.szIntS -/
noncomputable def code62 : Code := match Try.f62.body with | some c => c | none => .skip
def ps62 : List AP := [.val false [.shr T_i], .val false [.int .i64]]
def rs62 : List RP := [{ src := .tmp 4, agg := false, ps := [.int .i64] }]
noncomputable def sl62 : SemL := []
def D62 : Draws := fun _ => .nil
noncomputable def L62 {R : Type} : Loops R := fun _ _ _ _ => none
noncomputable def laws_szIntS (a0 : List (Int × Unit)) (left1 : Int) : Option (Int × Unit) :=
  bif decide (IntKind.i64.wrap (left1 - ((List.length a0 : Nat) : Int)) < (0 : Int)) then
    some ((-1 : Int), ())
  else
    some (IntKind.i64.wrap (left1 - ((List.length a0 : Nat) : Int)), ())
noncomputable def x62 (x : (List (Int × Unit)) × Int × Unit) : Option (Int × Unit) := laws_szIntS x.1 x.2.1
noncomputable def sem62 : Sem1 := semOf ps62 rs62 x62
theorem so62 : SemsOk Try.prog (semsOf sl62) := sems_nil
theorem t62_eq (x : denR (headRT (ps62.map some))) : codeK (tabOf tr) (semsOf sl62) D62 L62 code62 (start 12 ps62 x) (finK rs62 ps62) = x62 x := by kernel_rfl
theorem k62 : Known Try.prog 62 sem62 :=
  fn_auto tr_ok eq_ok mixed_ok so62 (D := D62) (code := code62) (n := 12) Try.func62 (by kernel_rfl) (by kernel_rfl) (by kernel_rfl) (fun w0 mu _ hs => (loops_of (l := []) (by kernel_rfl) (List.forall_mem_nil _))) t62_eq

/-! ### f10: laws.szRing -/
noncomputable def code10 : Code := match Try.f10.body with | some c => c | none => .skip
def ps10 : List AP := [.val true [.int .i64, .shr T_i], .val false [.int .i64]]
def rs10 : List RP := [{ src := .tmp 4, agg := false, ps := [.int .i64] }]
noncomputable def sl10 : SemL := [(62, (.shr, .shr, .shr, sem62))]
def D10 : Draws := fun _ => .nil
noncomputable def L10 {R : Type} : Loops R := fun _ _ _ _ => none
noncomputable def laws_szRing (a0c0 : Int) (a0c1 : List (Int × Unit)) (left1 : Int) : Option (Int × Unit) :=
  Option.bind (laws_szIntS a0c1 left1) fun y1 =>
  bif decide (y1.1 < (0 : Int)) then
    some ((-1 : Int), ())
  else
    some (y1.1, ())
noncomputable def x10 (x : Int × (List (Int × Unit)) × Int × Unit) : Option (Int × Unit) := laws_szRing x.1 x.2.1 x.2.2.1
noncomputable def sem10 : Sem1 := semOf ps10 rs10 x10
theorem so10 : SemsOk Try.prog (semsOf sl10) := sems_cons k62 (sems_nil)
theorem t10_eq (x : denR (headRT (ps10.map some))) : codeK (tabOf tr) (semsOf sl10) D10 L10 code10 (start 12 ps10 x) (finK rs10 ps10) = x10 x := by kernel_rfl
theorem k10 : Known Try.prog 10 sem10 :=
  fn_auto tr_ok eq_ok mixed_ok so10 (D := D10) (code := code10) (n := 12) Try.func10 (by kernel_rfl) (by kernel_rfl) (by kernel_rfl) (fun w0 mu _ hs => (loops_of (l := []) (by kernel_rfl) (List.forall_mem_nil _))) t10_eq

/-! ### f54: laws.szItem -/
noncomputable def code54 : Code := match Try.f54.body with | some c => c | none => .skip
def ps54 : List AP := [.val true [.int .i64, .int .i64, .int .i64, .str], .val false [.int .i64]]
def rs54 : List RP := [{ src := .tmp 4, agg := false, ps := [.int .i64] }]
noncomputable def sl54 : SemL := []
def D54 : Draws := fun _ => .nil
noncomputable def L54 {R : Type} : Loops R := fun _ _ _ _ => none
noncomputable def laws_szItem (a0c0 : Int) (a0c1 : Int) (a0c2 : Int) (a0c3 : ByteArray) (left1 : Int) : Option (Int × Unit) :=
  bif decide (IntKind.i64.wrap (left1 - ((ByteArray.size a0c3 : Nat) : Int)) < (0 : Int)) then
    some ((-1 : Int), ())
  else
    some (IntKind.i64.wrap (left1 - ((ByteArray.size a0c3 : Nat) : Int)), ())
noncomputable def x54 (x : Int × Int × Int × ByteArray × Int × Unit) : Option (Int × Unit) := laws_szItem x.1 x.2.1 x.2.2.1 x.2.2.2.1 x.2.2.2.2.1
noncomputable def sem54 : Sem1 := semOf ps54 rs54 x54
theorem so54 : SemsOk Try.prog (semsOf sl54) := sems_nil
theorem t54_eq (x : denR (headRT (ps54.map some))) : codeK (tabOf tr) (semsOf sl54) D54 L54 code54 (start 13 ps54 x) (finK rs54 ps54) = x54 x := by kernel_rfl
theorem k54 : Known Try.prog 54 sem54 :=
  fn_auto tr_ok eq_ok mixed_ok so54 (D := D54) (code := code54) (n := 13) Try.func54 (by kernel_rfl) (by kernel_rfl) (by kernel_rfl) (fun w0 mu _ hs => (loops_of (l := []) (by kernel_rfl) (List.forall_mem_nil _))) t54_eq

/-! ### f111: laws.szItemS -/
noncomputable def code111 : Code := match Try.f111.body with | some c => c | none => .skip
def ps111 : List AP := [.val false [.shr T_iiis], .val false [.int .i64]]
def rs111 : List RP := [{ src := .tmp 4, agg := false, ps := [.int .i64] }]
noncomputable def sl111 : SemL := [(54, (.shr, .shr, .shr, sem54))]
def D111 : Draws := fun _ => .nil
def hp111_0 : List (Option AP) := [some (.val false [.shr T_iiis]), some (.val false [.int .i64]), none, none, none, some (.val false [.int .i64]), none, none, none, none, none, none, none, none, none, none, none, none, none, none, none, none, none, none, none, none, none, none]
def e111_0 : List (Option AP) := [none, some (.val false [.int .i64]), none, none, none, none, none, none, none, none, none, none, none, none, none, none, none, none, none, none, none, none, none, none, none, none, none, none]
def q111_0 : List (Option AP) := [none, none, none, none, some (.val false [.int .i64]), none, none, none, none, none, none, none, none, none, none, none, none, none, none, none, none, none, none, none, none, none, none, none]
abbrev H111_0 : Type := (List R_iiis) × Int × Int × Unit
abbrev E111_0 : Type := Int × Unit
abbrev Q111_0 : Type := Int × Unit
noncomputable def laws_szItemS_c0 (a0 : List R_iiis) (left1 : Int) (i5 : Int) : Option (Sum H111_0 (Sum E111_0 Q111_0)) :=
  bif decide (i5 < ((List.length a0 : Nat) : Int)) then
    bif decide ((0 : Int) ≤ i5) then Option.bind ((a0)[Int.toNat i5]?) fun r1 =>
      Option.bind (laws_szItem r1.1 r1.2.1 r1.2.2.1 r1.2.2.2.1 left1) fun y2 =>
      bif decide (y2.1 < (0 : Int)) then
        some (.inr (.inr ((-1 : Int), ())))
      else
        some (.inl (a0, y2.1, IntKind.i64.wrap (i5 + (1 : Int)), ()))
    else none
  else
    some (.inr (.inl (left1, ())))
noncomputable def laws_szItemS_r0 (x : H111_0) : Option (Sum H111_0 (Sum E111_0 Q111_0)) := laws_szItemS_c0 x.1 x.2.1 x.2.2.1
noncomputable def L111 {R : Type} : Loops R := fun id _ st k => bif Nat.beq id 0 then loopAt hp111_0 e111_0 q111_0 laws_szItemS_r0 st k else none
noncomputable def laws_szItemS (a0 : List R_iiis) (left1 : Int) : Option (Int × Unit) :=
  bif decide (IntKind.i64.wrap (left1 - ((List.length a0 : Nat) : Int)) < (0 : Int)) then
    some ((-1 : Int), ())
  else
    outK (loopV laws_szItemS_r0 (a0, IntKind.i64.wrap (left1 - ((List.length a0 : Nat) : Int)), (0 : Int), ())) (fun y1 =>
      some (y1.1, ())) (fun y2 =>
      some (y2.1, ()))
noncomputable def x111 (x : (List R_iiis) × Int × Unit) : Option (Int × Unit) := laws_szItemS x.1 x.2.1
noncomputable def sem111 : Sem1 := semOf ps111 rs111 x111
theorem so111 : SemsOk Try.prog (semsOf sl111) := sems_cons k54 (sems_nil)
noncomputable def b111_0 : Code := nthLoop code111 0
theorem t111_r0_eq (x : denR (headRT hp111_0)) : codeK (tabOf tr) (semsOf sl111) D111 L111 b111_0 (headSt hp111_0 x) (roundK 0 hp111_0 e111_0 q111_0) = laws_szItemS_r0 x := by kernel_rfl
theorem loop111_0 {R : Type} (r : R) (w0 : World) (mu : Mu) (hs : AnShape ps111 mu) : LoopAt Try.prog w0 mu 27 (L111 : Loops R) r 0 b111_0 :=
  loop_auto tr_ok eq_ok mixed_ok so111 (D := D111) hs (by kernel_rfl) (fun _ => (loops_of (l := []) (by kernel_rfl) (List.forall_mem_nil _))) t111_r0_eq (fun _ _ => rfl)
theorem t111_eq (x : denR (headRT (ps111.map some))) : codeK (tabOf tr) (semsOf sl111) D111 L111 code111 (start 27 ps111 x) (finK rs111 ps111) = x111 x := by kernel_rfl
theorem k111 : Known Try.prog 111 sem111 :=
  fn_auto tr_ok eq_ok mixed_ok so111 (D := D111) (code := code111) (n := 27) Try.func111 (by kernel_rfl) (by kernel_rfl) (by kernel_rfl) (fun w0 mu _ hs => (loops_of (l := [(0, b111_0)]) (by kernel_rfl) (List.forall_mem_cons.2 ⟨loop111_0 _ w0 mu hs, (List.forall_mem_nil _)⟩))) t111_eq

/-! ### f39: laws.szBundle -/
noncomputable def code39 : Code := match Try.f39.body with | some c => c | none => .skip
def ps39 : List AP := [.val true [.int .i64, .int .i64, .int .i64, .shr T_iiis], .val false [.int .i64]]
def rs39 : List RP := [{ src := .tmp 4, agg := false, ps := [.int .i64] }]
noncomputable def sl39 : SemL := [(111, (.shr, .shr, .shr, sem111))]
def D39 : Draws := fun _ => .nil
noncomputable def L39 {R : Type} : Loops R := fun _ _ _ _ => none
noncomputable def laws_szBundle (a0c0 : Int) (a0c1 : Int) (a0c2 : Int) (a0c3 : List R_iiis) (left1 : Int) : Option (Int × Unit) :=
  Option.bind (laws_szItemS a0c3 left1) fun y1 =>
  bif decide (y1.1 < (0 : Int)) then
    some ((-1 : Int), ())
  else
    some (y1.1, ())
noncomputable def x39 (x : Int × Int × Int × (List R_iiis) × Int × Unit) : Option (Int × Unit) := laws_szBundle x.1 x.2.1 x.2.2.1 x.2.2.2.1 x.2.2.2.2.1
noncomputable def sem39 : Sem1 := semOf ps39 rs39 x39
theorem so39 : SemsOk Try.prog (semsOf sl39) := sems_cons k111 (sems_nil)
theorem t39_eq (x : denR (headRT (ps39.map some))) : codeK (tabOf tr) (semsOf sl39) D39 L39 code39 (start 12 ps39 x) (finK rs39 ps39) = x39 x := by kernel_rfl
theorem k39 : Known Try.prog 39 sem39 :=
  fn_auto tr_ok eq_ok mixed_ok so39 (D := D39) (code := code39) (n := 12) Try.func39 (by kernel_rfl) (by kernel_rfl) (by kernel_rfl) (fun w0 mu _ hs => (loops_of (l := []) (by kernel_rfl) (List.forall_mem_nil _))) t39_eq

/-! ### f28: laws.szBundleS -/
noncomputable def code28 : Code := match Try.f28.body with | some c => c | none => .skip
def ps28 : List AP := [.val false [.shr T_iiiLiiisE], .val false [.int .i64]]
def rs28 : List RP := [{ src := .tmp 4, agg := false, ps := [.int .i64] }]
noncomputable def sl28 : SemL := [(39, (.shr, .shr, .shr, sem39))]
def D28 : Draws := fun _ => .nil
def hp28_0 : List (Option AP) := [some (.val false [.shr T_iiiLiiisE]), some (.val false [.int .i64]), none, none, none, some (.val false [.int .i64]), none, none, none, none, none, none, none, none, none, none, none, none, none, none, none, none, none, none, none, none, none, none]
def e28_0 : List (Option AP) := [none, some (.val false [.int .i64]), none, none, none, none, none, none, none, none, none, none, none, none, none, none, none, none, none, none, none, none, none, none, none, none, none, none]
def q28_0 : List (Option AP) := [none, none, none, none, some (.val false [.int .i64]), none, none, none, none, none, none, none, none, none, none, none, none, none, none, none, none, none, none, none, none, none, none, none]
abbrev H28_0 : Type := (List R_iiiLiiisE) × Int × Int × Unit
abbrev E28_0 : Type := Int × Unit
abbrev Q28_0 : Type := Int × Unit
noncomputable def laws_szBundleS_c0 (a0 : List R_iiiLiiisE) (left1 : Int) (i5 : Int) : Option (Sum H28_0 (Sum E28_0 Q28_0)) :=
  bif decide (i5 < ((List.length a0 : Nat) : Int)) then
    bif decide ((0 : Int) ≤ i5) then Option.bind ((a0)[Int.toNat i5]?) fun r1 =>
      Option.bind (laws_szBundle r1.1 r1.2.1 r1.2.2.1 r1.2.2.2.1 left1) fun y2 =>
      bif decide (y2.1 < (0 : Int)) then
        some (.inr (.inr ((-1 : Int), ())))
      else
        some (.inl (a0, y2.1, IntKind.i64.wrap (i5 + (1 : Int)), ()))
    else none
  else
    some (.inr (.inl (left1, ())))
noncomputable def laws_szBundleS_r0 (x : H28_0) : Option (Sum H28_0 (Sum E28_0 Q28_0)) := laws_szBundleS_c0 x.1 x.2.1 x.2.2.1
noncomputable def L28 {R : Type} : Loops R := fun id _ st k => bif Nat.beq id 0 then loopAt hp28_0 e28_0 q28_0 laws_szBundleS_r0 st k else none
noncomputable def laws_szBundleS (a0 : List R_iiiLiiisE) (left1 : Int) : Option (Int × Unit) :=
  bif decide (IntKind.i64.wrap (left1 - ((List.length a0 : Nat) : Int)) < (0 : Int)) then
    some ((-1 : Int), ())
  else
    outK (loopV laws_szBundleS_r0 (a0, IntKind.i64.wrap (left1 - ((List.length a0 : Nat) : Int)), (0 : Int), ())) (fun y1 =>
      some (y1.1, ())) (fun y2 =>
      some (y2.1, ()))
noncomputable def x28 (x : (List R_iiiLiiisE) × Int × Unit) : Option (Int × Unit) := laws_szBundleS x.1 x.2.1
noncomputable def sem28 : Sem1 := semOf ps28 rs28 x28
theorem so28 : SemsOk Try.prog (semsOf sl28) := sems_cons k39 (sems_nil)
noncomputable def b28_0 : Code := nthLoop code28 0
theorem t28_r0_eq (x : denR (headRT hp28_0)) : codeK (tabOf tr) (semsOf sl28) D28 L28 b28_0 (headSt hp28_0 x) (roundK 0 hp28_0 e28_0 q28_0) = laws_szBundleS_r0 x := by kernel_rfl
theorem loop28_0 {R : Type} (r : R) (w0 : World) (mu : Mu) (hs : AnShape ps28 mu) : LoopAt Try.prog w0 mu 27 (L28 : Loops R) r 0 b28_0 :=
  loop_auto tr_ok eq_ok mixed_ok so28 (D := D28) hs (by kernel_rfl) (fun _ => (loops_of (l := []) (by kernel_rfl) (List.forall_mem_nil _))) t28_r0_eq (fun _ _ => rfl)
theorem t28_eq (x : denR (headRT (ps28.map some))) : codeK (tabOf tr) (semsOf sl28) D28 L28 code28 (start 27 ps28 x) (finK rs28 ps28) = x28 x := by kernel_rfl
theorem k28 : Known Try.prog 28 sem28 :=
  fn_auto tr_ok eq_ok mixed_ok so28 (D := D28) (code := code28) (n := 27) Try.func28 (by kernel_rfl) (by kernel_rfl) (by kernel_rfl) (fun w0 mu _ hs => (loops_of (l := [(0, b28_0)]) (by kernel_rfl) (List.forall_mem_cons.2 ⟨loop28_0 _ w0 mu hs, (List.forall_mem_nil _)⟩))) t28_eq

/-! ### f66: laws.toIntS -/
noncomputable def code66 : Code := match Try.f66.body with | some c => c | none => .skip
def ps66 : List AP := [.val false [.shr T_i]]
def rs66 : List RP := [{ src := .tmp 2, agg := false, ps := [.own T_i] }]
noncomputable def sl66 : SemL := []
def D66 : Draws := fun _ => .nil
def hp66_0 : List (Option AP) := [some (.val false [.shr T_i]), none, none, some (.val false [.own T_i]), some (.val false [.int .i64]), none, none, none, none, none, none, none, none, none, none, none, none, none, none, none, none, none, none]
def e66_0 : List (Option AP) := [none, none, none, some (.val false [.own T_i]), none, none, none, none, none, none, none, none, none, none, none, none, none, none, none, none, none, none, none]
def q66_0 : List (Option AP) := [none, none, none, none, none, none, none, none, none, none, none, none, none, none, none, none, none, none, none, none, none, none, none]
abbrev H66_0 : Type := (List (Int × Unit)) × (List (Int × Unit)) × Int × Unit
abbrev E66_0 : Type := (List (Int × Unit)) × Unit
abbrev Q66_0 : Type := Unit
noncomputable def laws_toIntS_c0 (a0 : List (Int × Unit)) (out3 : List (Int × Unit)) (i4 : Int) : Option (Sum H66_0 (Sum E66_0 Q66_0)) :=
  bif decide (i4 < ((List.length a0 : Nat) : Int)) then
    bif decide ((0 : Int) ≤ i4) then Option.bind ((a0)[Int.toNat i4]?) fun r1 =>
      bif decide ((0 : Int) ≤ i4) then bif Nat.blt (Int.toNat i4) (List.length out3) then Option.bind ((out3)[Int.toNat i4]?) fun r2 =>
          some (.inl (a0, List.set out3 (Int.toNat i4) (r1.1, ()), IntKind.i64.wrap (i4 + (1 : Int)), ()))
        else none
      else none
    else none
  else
    some (.inr (.inl (out3, ())))
noncomputable def laws_toIntS_r0 (x : H66_0) : Option (Sum H66_0 (Sum E66_0 Q66_0)) := laws_toIntS_c0 x.1 x.2.1 x.2.2.1
noncomputable def L66 {R : Type} : Loops R := fun id _ st k => bif Nat.beq id 0 then loopAt hp66_0 e66_0 q66_0 laws_toIntS_r0 st k else none
noncomputable def laws_toIntS (a0 : List (Int × Unit)) : Option ((List (Int × Unit)) × Unit) :=
  bif decide (((List.length a0 : Nat) : Int) = ((List.length a0 : Nat) : Int)) then bif decide ((0 : Int) ≤ ((List.length a0 : Nat) : Int)) then bif Nat.ble ((Int.toNat ((List.length a0 : Nat) : Int)) * 8) lim then outK (loopV laws_toIntS_r0 (a0, List.replicate (Int.toNat ((List.length a0 : Nat) : Int)) ((0 : Int), ()), (0 : Int), ())) (fun y1 =>
          some (y1.1, ())) (fun y2 =>
          none)
      else none
    else none
  else none
noncomputable def x66 (x : (List (Int × Unit)) × Unit) : Option ((List (Int × Unit)) × Unit) := laws_toIntS x.1
noncomputable def sem66 : Sem1 := semOf ps66 rs66 x66
theorem so66 : SemsOk Try.prog (semsOf sl66) := sems_nil
noncomputable def b66_0 : Code := nthLoop code66 0
theorem t66_r0_eq (x : denR (headRT hp66_0)) : codeK (tabOf tr) (semsOf sl66) D66 L66 b66_0 (headSt hp66_0 x) (roundK 0 hp66_0 e66_0 q66_0) = laws_toIntS_r0 x := by kernel_rfl
theorem loop66_0 {R : Type} (r : R) (w0 : World) (mu : Mu) (hs : AnShape ps66 mu) : LoopAt Try.prog w0 mu 22 (L66 : Loops R) r 0 b66_0 :=
  loop_auto tr_ok eq_ok mixed_ok so66 (D := D66) hs (by kernel_rfl) (fun _ => (loops_of (l := []) (by kernel_rfl) (List.forall_mem_nil _))) t66_r0_eq (fun _ _ => rfl)
theorem t66_eq (x : denR (headRT (ps66.map some))) : codeK (tabOf tr) (semsOf sl66) D66 L66 code66 (start 22 ps66 x) (finK rs66 ps66) = x66 x := by kernel_rfl
theorem k66 : Known Try.prog 66 sem66 :=
  fn_auto tr_ok eq_ok mixed_ok so66 (D := D66) (code := code66) (n := 22) Try.func66 (by kernel_rfl) (by kernel_rfl) (by kernel_rfl) (fun w0 mu _ hs => (loops_of (l := [(0, b66_0)]) (by kernel_rfl) (List.forall_mem_cons.2 ⟨loop66_0 _ w0 mu hs, (List.forall_mem_nil _)⟩))) t66_eq

/-! ### f12: laws.toRing -/
noncomputable def code12 : Code := match Try.f12.body with | some c => c | none => .skip
def ps12 : List AP := [.val true [.int .i64, .shr T_i]]
def rs12 : List RP := [{ src := .cell 2, agg := true, ps := [.int .i64, .own T_i] }]
noncomputable def sl12 : SemL := [(66, (.shr, .shr, .shr, sem66))]
def D12 : Draws := fun _ => .nil
noncomputable def L12 {R : Type} : Loops R := fun _ _ _ _ => none
noncomputable def laws_toRing (a0c0 : Int) (a0c1 : List (Int × Unit)) : Option (Int × (List (Int × Unit)) × Unit) :=
  Option.bind (laws_toIntS a0c1) fun y1 =>
  some (a0c0, y1.1, ())
noncomputable def x12 (x : Int × (List (Int × Unit)) × Unit) : Option (Int × (List (Int × Unit)) × Unit) := laws_toRing x.1 x.2.1
noncomputable def sem12 : Sem1 := semOf ps12 rs12 x12
theorem so12 : SemsOk Try.prog (semsOf sl12) := sems_cons k66 (sems_nil)
theorem t12_eq (x : denR (headRT (ps12.map some))) : codeK (tabOf tr) (semsOf sl12) D12 L12 code12 (start 12 ps12 x) (finK rs12 ps12) = x12 x := by kernel_rfl
theorem k12 : Known Try.prog 12 sem12 :=
  fn_auto tr_ok eq_ok mixed_ok so12 (D := D12) (code := code12) (n := 12) Try.func12 (by kernel_rfl) (by kernel_rfl) (by kernel_rfl) (fun w0 mu _ hs => (loops_of (l := []) (by kernel_rfl) (List.forall_mem_nil _))) t12_eq

/-! ### f57: laws.toItem -/
noncomputable def code57 : Code := match Try.f57.body with | some c => c | none => .skip
def ps57 : List AP := [.val true [.int .i64, .int .i64, .int .i64, .str]]
def rs57 : List RP := [{ src := .cell 2, agg := true, ps := [.int .i64, .int .i64, .int .i64, .str] }]
noncomputable def sl57 : SemL := []
def D57 : Draws := fun _ => .nil
noncomputable def L57 {R : Type} : Loops R := fun _ _ _ _ => none
noncomputable def laws_toItem (a0c0 : Int) (a0c1 : Int) (a0c2 : Int) (a0c3 : ByteArray) : Option (Int × Int × Int × ByteArray × Unit) :=
  some (a0c0, a0c1, a0c2, a0c3, ())
noncomputable def x57 (x : Int × Int × Int × ByteArray × Unit) : Option (Int × Int × Int × ByteArray × Unit) := laws_toItem x.1 x.2.1 x.2.2.1 x.2.2.2.1
noncomputable def sem57 : Sem1 := semOf ps57 rs57 x57
theorem so57 : SemsOk Try.prog (semsOf sl57) := sems_nil
theorem t57_eq (x : denR (headRT (ps57.map some))) : codeK (tabOf tr) (semsOf sl57) D57 L57 code57 (start 17 ps57 x) (finK rs57 ps57) = x57 x := by kernel_rfl
theorem k57 : Known Try.prog 57 sem57 :=
  fn_auto tr_ok eq_ok mixed_ok so57 (D := D57) (code := code57) (n := 17) Try.func57 (by kernel_rfl) (by kernel_rfl) (by kernel_rfl) (fun w0 mu _ hs => (loops_of (l := []) (by kernel_rfl) (List.forall_mem_nil _))) t57_eq

/-! ### f118: laws.toItemS -/
noncomputable def code118 : Code := match Try.f118.body with | some c => c | none => .skip
def ps118 : List AP := [.val false [.shr T_iiis]]
def rs118 : List RP := [{ src := .tmp 2, agg := false, ps := [.own T_iiis] }]
noncomputable def sl118 : SemL := [(57, (.shr, .shr, .shr, sem57))]
def D118 : Draws := fun _ => .nil
def hp118_0 : List (Option AP) := [some (.val false [.shr T_iiis]), none, none, some (.val false [.own T_iiis]), some (.val false [.int .i64]), none, none, none, none, none, none, none, none, none, none, none, none, none, none, none, none, none, none, none]
def e118_0 : List (Option AP) := [none, none, none, some (.val false [.own T_iiis]), none, none, none, none, none, none, none, none, none, none, none, none, none, none, none, none, none, none, none, none]
def q118_0 : List (Option AP) := [none, none, none, none, none, none, none, none, none, none, none, none, none, none, none, none, none, none, none, none, none, none, none, none]
abbrev H118_0 : Type := (List R_iiis) × (List R_iiis) × Int × Unit
abbrev E118_0 : Type := (List R_iiis) × Unit
abbrev Q118_0 : Type := Unit
noncomputable def laws_toItemS_c0 (a0 : List R_iiis) (out3 : List R_iiis) (i4 : Int) : Option (Sum H118_0 (Sum E118_0 Q118_0)) :=
  bif decide (i4 < ((List.length a0 : Nat) : Int)) then
    bif decide ((0 : Int) ≤ i4) then Option.bind ((a0)[Int.toNat i4]?) fun r1 =>
      Option.bind (laws_toItem r1.1 r1.2.1 r1.2.2.1 r1.2.2.2.1) fun y2 =>
      bif decide ((0 : Int) ≤ i4) then bif Nat.blt (Int.toNat i4) (List.length out3) then Option.bind ((out3)[Int.toNat i4]?) fun r3 =>
          some (.inl (a0, List.set out3 (Int.toNat i4) (y2.1, y2.2.1, y2.2.2.1, y2.2.2.2.1, ()), IntKind.i64.wrap (i4 + (1 : Int)), ()))
        else none
      else none
    else none
  else
    some (.inr (.inl (out3, ())))
noncomputable def laws_toItemS_r0 (x : H118_0) : Option (Sum H118_0 (Sum E118_0 Q118_0)) := laws_toItemS_c0 x.1 x.2.1 x.2.2.1
noncomputable def L118 {R : Type} : Loops R := fun id _ st k => bif Nat.beq id 0 then loopAt hp118_0 e118_0 q118_0 laws_toItemS_r0 st k else none
noncomputable def laws_toItemS (a0 : List R_iiis) : Option ((List R_iiis) × Unit) :=
  bif decide (((List.length a0 : Nat) : Int) = ((List.length a0 : Nat) : Int)) then bif decide ((0 : Int) ≤ ((List.length a0 : Nat) : Int)) then bif Nat.ble ((Int.toNat ((List.length a0 : Nat) : Int)) * 40) lim then outK (loopV laws_toItemS_r0 (a0, List.replicate (Int.toNat ((List.length a0 : Nat) : Int)) ((0 : Int), (0 : Int), (0 : Int), ByteArray.empty, ()), (0 : Int), ())) (fun y1 =>
          some (y1.1, ())) (fun y2 =>
          none)
      else none
    else none
  else none
noncomputable def x118 (x : (List R_iiis) × Unit) : Option ((List R_iiis) × Unit) := laws_toItemS x.1
noncomputable def sem118 : Sem1 := semOf ps118 rs118 x118
theorem so118 : SemsOk Try.prog (semsOf sl118) := sems_cons k57 (sems_nil)
noncomputable def b118_0 : Code := nthLoop code118 0
theorem t118_r0_eq (x : denR (headRT hp118_0)) : codeK (tabOf tr) (semsOf sl118) D118 L118 b118_0 (headSt hp118_0 x) (roundK 0 hp118_0 e118_0 q118_0) = laws_toItemS_r0 x := by kernel_rfl
theorem loop118_0 {R : Type} (r : R) (w0 : World) (mu : Mu) (hs : AnShape ps118 mu) : LoopAt Try.prog w0 mu 23 (L118 : Loops R) r 0 b118_0 :=
  loop_auto tr_ok eq_ok mixed_ok so118 (D := D118) hs (by kernel_rfl) (fun _ => (loops_of (l := []) (by kernel_rfl) (List.forall_mem_nil _))) t118_r0_eq (fun _ _ => rfl)
theorem t118_eq (x : denR (headRT (ps118.map some))) : codeK (tabOf tr) (semsOf sl118) D118 L118 code118 (start 23 ps118 x) (finK rs118 ps118) = x118 x := by kernel_rfl
theorem k118 : Known Try.prog 118 sem118 :=
  fn_auto tr_ok eq_ok mixed_ok so118 (D := D118) (code := code118) (n := 23) Try.func118 (by kernel_rfl) (by kernel_rfl) (by kernel_rfl) (fun w0 mu _ hs => (loops_of (l := [(0, b118_0)]) (by kernel_rfl) (List.forall_mem_cons.2 ⟨loop118_0 _ w0 mu hs, (List.forall_mem_nil _)⟩))) t118_eq

/-! ### f41: laws.toBundle -/
noncomputable def code41 : Code := match Try.f41.body with | some c => c | none => .skip
def ps41 : List AP := [.val true [.int .i64, .int .i64, .int .i64, .shr T_iiis]]
def rs41 : List RP := [{ src := .cell 2, agg := true, ps := [.int .i64, .int .i64, .int .i64, .own T_iiis] }]
noncomputable def sl41 : SemL := [(118, (.shr, .shr, .shr, sem118))]
def D41 : Draws := fun _ => .nil
noncomputable def L41 {R : Type} : Loops R := fun _ _ _ _ => none
noncomputable def laws_toBundle (a0c0 : Int) (a0c1 : Int) (a0c2 : Int) (a0c3 : List R_iiis) : Option (Int × Int × Int × (List R_iiis) × Unit) :=
  Option.bind (laws_toItemS a0c3) fun y1 =>
  some (a0c0, a0c1, a0c2, y1.1, ())
noncomputable def x41 (x : Int × Int × Int × (List R_iiis) × Unit) : Option (Int × Int × Int × (List R_iiis) × Unit) := laws_toBundle x.1 x.2.1 x.2.2.1 x.2.2.2.1
noncomputable def sem41 : Sem1 := semOf ps41 rs41 x41
theorem so41 : SemsOk Try.prog (semsOf sl41) := sems_cons k118 (sems_nil)
theorem t41_eq (x : denR (headRT (ps41.map some))) : codeK (tabOf tr) (semsOf sl41) D41 L41 code41 (start 18 ps41 x) (finK rs41 ps41) = x41 x := by kernel_rfl
theorem k41 : Known Try.prog 41 sem41 :=
  fn_auto tr_ok eq_ok mixed_ok so41 (D := D41) (code := code41) (n := 18) Try.func41 (by kernel_rfl) (by kernel_rfl) (by kernel_rfl) (fun w0 mu _ hs => (loops_of (l := []) (by kernel_rfl) (List.forall_mem_nil _))) t41_eq

/-! ### f30: laws.toBundleS -/
noncomputable def code30 : Code := match Try.f30.body with | some c => c | none => .skip
def ps30 : List AP := [.val false [.shr T_iiiLiiisE]]
def rs30 : List RP := [{ src := .tmp 2, agg := false, ps := [.own T_iiiLiiisE .dp] }]
noncomputable def sl30 : SemL := [(41, (.shr, .shr, .shr, sem41))]
def D30 : Draws := fun _ => .nil
def hp30_0 : List (Option AP) := [some (.val false [.shr T_iiiLiiisE]), none, none, some (.val false [.own T_iiiLiiisE .dp]), some (.val false [.int .i64]), none, none, none, none, none, none, none, none, none, none, none, none, none, none, none, none, none, none, none]
def e30_0 : List (Option AP) := [none, none, none, some (.val false [.own T_iiiLiiisE .dp]), none, none, none, none, none, none, none, none, none, none, none, none, none, none, none, none, none, none, none, none]
def q30_0 : List (Option AP) := [none, none, none, none, none, none, none, none, none, none, none, none, none, none, none, none, none, none, none, none, none, none, none, none]
abbrev H30_0 : Type := (List R_iiiLiiisE) × (List R_iiiLiiisE) × Int × Unit
abbrev E30_0 : Type := (List R_iiiLiiisE) × Unit
abbrev Q30_0 : Type := Unit
noncomputable def laws_toBundleS_c0 (a0 : List R_iiiLiiisE) (out3 : List R_iiiLiiisE) (i4 : Int) : Option (Sum H30_0 (Sum E30_0 Q30_0)) :=
  bif decide (i4 < ((List.length a0 : Nat) : Int)) then
    bif decide ((0 : Int) ≤ i4) then Option.bind ((a0)[Int.toNat i4]?) fun r1 =>
      Option.bind (laws_toBundle r1.1 r1.2.1 r1.2.2.1 r1.2.2.2.1) fun y2 =>
      bif decide ((0 : Int) ≤ i4) then bif Nat.blt (Int.toNat i4) (List.length out3) then Option.bind ((out3)[Int.toNat i4]?) fun _ =>
          some (.inl (a0, List.set out3 (Int.toNat i4) (y2.1, y2.2.1, y2.2.2.1, y2.2.2.2.1, ()), IntKind.i64.wrap (i4 + (1 : Int)), ()))
        else none
      else none
    else none
  else
    some (.inr (.inl (out3, ())))
noncomputable def laws_toBundleS_r0 (x : H30_0) : Option (Sum H30_0 (Sum E30_0 Q30_0)) := laws_toBundleS_c0 x.1 x.2.1 x.2.2.1
noncomputable def L30 {R : Type} : Loops R := fun id _ st k => bif Nat.beq id 0 then loopAt hp30_0 e30_0 q30_0 laws_toBundleS_r0 st k else none
noncomputable def laws_toBundleS (a0 : List R_iiiLiiisE) : Option ((List R_iiiLiiisE) × Unit) :=
  bif decide (((List.length a0 : Nat) : Int) = ((List.length a0 : Nat) : Int)) then bif decide ((0 : Int) ≤ ((List.length a0 : Nat) : Int)) then bif Nat.ble ((Int.toNat ((List.length a0 : Nat) : Int)) * 48) lim then outK (loopV laws_toBundleS_r0 (a0, List.replicate (Int.toNat ((List.length a0 : Nat) : Int)) ((0 : Int), (0 : Int), (0 : Int), [], ()), (0 : Int), ())) (fun y1 =>
          some (y1.1, ())) (fun y2 =>
          none)
      else none
    else none
  else none
noncomputable def x30 (x : (List R_iiiLiiisE) × Unit) : Option ((List R_iiiLiiisE) × Unit) := laws_toBundleS x.1
noncomputable def sem30 : Sem1 := semOf ps30 rs30 x30
theorem so30 : SemsOk Try.prog (semsOf sl30) := sems_cons k41 (sems_nil)
noncomputable def b30_0 : Code := nthLoop code30 0
theorem t30_r0_eq (x : denR (headRT hp30_0)) : codeK (tabOf tr) (semsOf sl30) D30 L30 b30_0 (headSt hp30_0 x) (roundK 0 hp30_0 e30_0 q30_0) = laws_toBundleS_r0 x := by kernel_rfl
theorem loop30_0 {R : Type} (r : R) (w0 : World) (mu : Mu) (hs : AnShape ps30 mu) : LoopAt Try.prog w0 mu 23 (L30 : Loops R) r 0 b30_0 :=
  loop_auto tr_ok eq_ok mixed_ok so30 (D := D30) hs (by kernel_rfl) (fun _ => (loops_of (l := []) (by kernel_rfl) (List.forall_mem_nil _))) t30_r0_eq (fun _ _ => rfl)
theorem t30_eq (x : denR (headRT (ps30.map some))) : codeK (tabOf tr) (semsOf sl30) D30 L30 code30 (start 23 ps30 x) (finK rs30 ps30) = x30 x := by kernel_rfl
theorem k30 : Known Try.prog 30 sem30 :=
  fn_auto tr_ok eq_ok mixed_ok so30 (D := D30) (code := code30) (n := 23) Try.func30 (by kernel_rfl) (by kernel_rfl) (by kernel_rfl) (fun w0 mu _ hs => (loops_of (l := [(0, b30_0)]) (by kernel_rfl) (List.forall_mem_cons.2 ⟨loop30_0 _ w0 mu hs, (List.forall_mem_nil _)⟩))) t30_eq

/-! ### f144: spec.l01In -/
noncomputable def code144 : Code := match Try.f144.body with | some c => c | none => .skip
def ps144 : List AP := [.val false [.int .i64], .val false [.int .i64], .val false [.int .i64]]
def rs144 : List RP := [{ src := .tmp 6, agg := false, ps := [.bool] }]
noncomputable def sl144 : SemL := []
def D144 : Draws := fun _ => .nil
noncomputable def L144 {R : Type} : Loops R := fun _ _ _ _ => none
noncomputable def spec_l01In (x0 : Int) (least1 : Int) (most2 : Int) : Option (Bool × Unit) :=
  bif decide (least1 ≤ x0) then
    some (decide (x0 ≤ most2), ())
  else
    some (false, ())
noncomputable def x144 (x : Int × Int × Int × Unit) : Option (Bool × Unit) := spec_l01In x.1 x.2.1 x.2.2.1
noncomputable def sem144 : Sem1 := semOf ps144 rs144 x144
theorem so144 : SemsOk Try.prog (semsOf sl144) := sems_nil
theorem t144_eq (x : denR (headRT (ps144.map some))) : codeK (tabOf tr) (semsOf sl144) D144 L144 code144 (start 15 ps144 x) (finK rs144 ps144) = x144 x := by kernel_rfl
theorem k144 : Known Try.prog 144 sem144 :=
  fn_auto tr_ok eq_ok mixed_ok so144 (D := D144) (code := code144) (n := 15) Try.func144 (by kernel_rfl) (by kernel_rfl) (by kernel_rfl) (fun w0 mu _ hs => (loops_of (l := []) (by kernel_rfl) (List.forall_mem_nil _))) t144_eq

/-! ### f161: spec.ItemOk -/
noncomputable def code161 : Code := match Try.f161.body with | some c => c | none => .skip
def ps161 : List AP := [.val true [.int .i64, .int .i64, .int .i64, .str]]
def rs161 : List RP := [{ src := .tmp 2, agg := false, ps := [.bool] }]
noncomputable def sl161 : SemL := [(144, (.shr, .shr, .shr, sem144))]
def D161 : Draws := fun _ => .nil
noncomputable def L161 {R : Type} : Loops R := fun _ _ _ _ => none
noncomputable def spec_ItemOk (m0c0 : Int) (m0c1 : Int) (m0c2 : Int) (m0c3 : ByteArray) : Option (Bool × Unit) :=
  Option.bind (spec_l01In m0c0 (1 : Int) (60 : Int)) fun y1 =>
  bif y1.1 then
    Option.bind (spec_l01In m0c1 (1 : Int) (5 : Int)) fun y2 =>
    bif y2.1 then
      Option.bind (spec_l01In m0c2 (1 : Int) (2 : Int)) fun y3 =>
      bif y3.1 then
        some (decide (((ByteArray.size m0c3 : Nat) : Int) ≤ (60 : Int)), ())
      else
        some (false, ())
    else
      some (false, ())
  else
    some (false, ())
noncomputable def x161 (x : Int × Int × Int × ByteArray × Unit) : Option (Bool × Unit) := spec_ItemOk x.1 x.2.1 x.2.2.1 x.2.2.2.1
noncomputable def sem161 : Sem1 := semOf ps161 rs161 x161
theorem so161 : SemsOk Try.prog (semsOf sl161) := sems_cons k144 (sems_nil)
theorem t161_eq (x : denR (headRT (ps161.map some))) : codeK (tabOf tr) (semsOf sl161) D161 L161 code161 (start 22 ps161 x) (finK rs161 ps161) = x161 x := by kernel_rfl
theorem k161 : Known Try.prog 161 sem161 :=
  fn_auto tr_ok eq_ok mixed_ok so161 (D := D161) (code := code161) (n := 22) Try.func161 (by kernel_rfl) (by kernel_rfl) (by kernel_rfl) (fun w0 mu _ hs => (loops_of (l := []) (by kernel_rfl) (List.forall_mem_nil _))) t161_eq

/-! ### f156: spec.ItemsOk -/
noncomputable def code156 : Code := match Try.f156.body with | some c => c | none => .skip
def ps156 : List AP := [.val false [.shr T_iiis]]
def rs156 : List RP := [{ src := .tmp 2, agg := false, ps := [.bool] }]
noncomputable def sl156 : SemL := [(161, (.shr, .shr, .shr, sem161))]
def D156 : Draws := fun id => bif Nat.beq id 4 then .op 0 .any (.op 1 .any (.op 2 .any (.op 3 .take (.op 4 .one (.op 5 .any (.op 6 .any (.op 7 .any (.op 8 .any (.op 9 .any (.op 10 .any (.op 11 .any (.op 12 .any (.op 13 .any (.op 14 .any (.op 15 .take (.op 16 .any (.op 17 .any (.op 18 .any (.op 19 .any (.op 20 .take (.op 21 .any (.op 22 .any (.op 23 .any (.nil)))))))))))))))))))))))) else .nil
def hp156_0 : List (Option AP) := [some (.val false [.shr T_iiis]), none, none, some (.val false [.int .i64]), none, none, none, none, none, none, none, none, none, none, none, none, none, none, none, none, none, none, none, none, none, none, none, none, none, none, none, none, none, none, none]
def e156_0 : List (Option AP) := [none, none, none, none, none, none, none, none, none, none, none, none, none, none, none, none, none, none, none, none, none, none, none, none, none, none, none, none, none, none, none, none, none, none, none]
def q156_0 : List (Option AP) := [none, none, some (.val false [.bool]), none, none, none, none, none, none, none, none, none, none, none, none, none, none, none, none, none, none, none, none, none, none, none, none, none, none, none, none, none, none, none, none]
abbrev H156_0 : Type := (List R_iiis) × Int × Unit
abbrev E156_0 : Type := Unit
abbrev Q156_0 : Type := Bool × Unit
noncomputable def spec_ItemsOk_c0 (list0 : List R_iiis) (i3 : Int) : Option (Sum H156_0 (Sum E156_0 Q156_0)) :=
  bif decide (i3 < ((List.length list0 : Nat) : Int)) then
    bif decide ((0 : Int) ≤ i3) then Option.bind ((list0)[Int.toNat i3]?) fun r1 =>
      Option.bind (spec_ItemOk r1.1 r1.2.1 r1.2.2.1 r1.2.2.2.1) fun y2 =>
      bif !y2.1 then
        some (.inr (.inr (false, ())))
      else bif decide ((0 : Int) < i3) then
        bif decide ((0 : Int) ≤ IntKind.i64.wrap (i3 - (1 : Int))) then Option.bind ((list0)[Int.toNat (IntKind.i64.wrap (i3 - (1 : Int)))]?) fun r3 =>
          bif decide ((0 : Int) ≤ i3) then Option.bind ((list0)[Int.toNat i3]?) fun r4 =>
            bif decide (r4.1 ≤ r3.1) then
              some (.inr (.inr (false, ())))
            else
              some (.inl (list0, IntKind.i64.wrap (i3 + (1 : Int)), ()))
          else none
        else none
      else
        some (.inl (list0, IntKind.i64.wrap (i3 + (1 : Int)), ()))
    else none
  else
    some (.inr (.inl (())))
noncomputable def spec_ItemsOk_r0 (x : H156_0) : Option (Sum H156_0 (Sum E156_0 Q156_0)) := spec_ItemsOk_c0 x.1 x.2.1
noncomputable def L156 {R : Type} : Loops R := fun id _ st k => bif Nat.beq id 0 then loopAt hp156_0 e156_0 q156_0 spec_ItemsOk_r0 st k else none
noncomputable def spec_ItemsOk (list0 : List R_iiis) : Option (Bool × Unit) :=
  outK (loopV spec_ItemsOk_r0 (list0, (0 : Int), ())) (fun y1 =>
    some (true, ())) (fun y2 =>
    some (y2.1, ()))
noncomputable def x156 (x : (List R_iiis) × Unit) : Option (Bool × Unit) := spec_ItemsOk x.1
noncomputable def sem156 : Sem1 := semOf ps156 rs156 x156
theorem so156 : SemsOk Try.prog (semsOf sl156) := sems_cons k161 (sems_nil)
noncomputable def b156_0 : Code := nthLoop code156 0
theorem t156_r0_eq (x : denR (headRT hp156_0)) : codeK (tabOf tr) (semsOf sl156) D156 L156 b156_0 (headSt hp156_0 x) (roundK 0 hp156_0 e156_0 q156_0) = spec_ItemsOk_r0 x := by kernel_rfl
theorem loop156_0 {R : Type} (r : R) (w0 : World) (mu : Mu) (hs : AnShape ps156 mu) : LoopAt Try.prog w0 mu 34 (L156 : Loops R) r 0 b156_0 :=
  loop_auto tr_ok eq_ok mixed_ok so156 (D := D156) hs (by kernel_rfl) (fun _ => (loops_of (l := []) (by kernel_rfl) (List.forall_mem_nil _))) t156_r0_eq (fun _ _ => rfl)
theorem t156_eq (x : denR (headRT (ps156.map some))) : codeK (tabOf tr) (semsOf sl156) D156 L156 code156 (start 34 ps156 x) (finK rs156 ps156) = x156 x := by kernel_rfl
theorem k156 : Known Try.prog 156 sem156 :=
  fn_auto tr_ok eq_ok mixed_ok so156 (D := D156) (code := code156) (n := 34) Try.func156 (by kernel_rfl) (by kernel_rfl) (by kernel_rfl) (fun w0 mu _ hs => (loops_of (l := [(0, b156_0)]) (by kernel_rfl) (List.forall_mem_cons.2 ⟨loop156_0 _ w0 mu hs, (List.forall_mem_nil _)⟩))) t156_eq

/-! ### f112: spec.BundleOk -/
noncomputable def code112 : Code := match Try.f112.body with | some c => c | none => .skip
def ps112 : List AP := [.val true [.int .i64, .int .i64, .int .i64, .shr T_iiis]]
def rs112 : List RP := [{ src := .tmp 2, agg := false, ps := [.bool] }]
noncomputable def sl112 : SemL := [(144, (.shr, .shr, .shr, sem144)), (156, (.shr, .shr, .shr, sem156))]
def D112 : Draws := fun _ => .nil
noncomputable def L112 {R : Type} : Loops R := fun _ _ _ _ => none
noncomputable def spec_BundleOk (b0c0 : Int) (b0c1 : Int) (b0c2 : Int) (b0c3 : List R_iiis) : Option (Bool × Unit) :=
  Option.bind (spec_l01In b0c0 (1 : Int) (5 : Int)) fun y1 =>
  bif y1.1 then
    Option.bind (spec_l01In b0c1 (1 : Int) (9 : Int)) fun y2 =>
    bif y2.1 then
      Option.bind (spec_l01In b0c2 (0 : Int) (IntKind.i64.wrap (b0c1 - (1 : Int)))) fun y3 =>
      bif y3.1 then
        Option.bind (spec_ItemsOk b0c3) fun y4 =>
        bif y4.1 then
          bif decide ((0 : Int) < b0c2) then
            some (true, ())
          else
            some (decide (((List.length b0c3 : Nat) : Int) = (0 : Int)), ())
        else
          some (false, ())
      else
        some (false, ())
    else
      some (false, ())
  else
    some (false, ())
noncomputable def x112 (x : Int × Int × Int × (List R_iiis) × Unit) : Option (Bool × Unit) := spec_BundleOk x.1 x.2.1 x.2.2.1 x.2.2.2.1
noncomputable def sem112 : Sem1 := semOf ps112 rs112 x112
theorem so112 : SemsOk Try.prog (semsOf sl112) := sems_cons k144 (sems_cons k156 (sems_nil))
theorem t112_eq (x : denR (headRT (ps112.map some))) : codeK (tabOf tr) (semsOf sl112) D112 L112 code112 (start 35 ps112 x) (finK rs112 ps112) = x112 x := by kernel_rfl
theorem k112 : Known Try.prog 112 sem112 :=
  fn_auto tr_ok eq_ok mixed_ok so112 (D := D112) (code := code112) (n := 35) Try.func112 (by kernel_rfl) (by kernel_rfl) (by kernel_rfl) (fun w0 mu _ hs => (loops_of (l := []) (by kernel_rfl) (List.forall_mem_nil _))) t112_eq

/-! ### f98: spec.l13First -/
noncomputable def code98 : Code := match Try.f98.body with | some c => c | none => .skip
def ps98 : List AP := [.val true [.int .i64, .shr T_i], .val false [.shr T_iiiLiiisE], .val false [.int .i64]]
def rs98 : List RP := [{ src := .cell 6, agg := true, ps := [.int .i64, .int .i64, .int .i64, .shr T_iiis] }, { src := .tmp 7, agg := false, ps := [.bool] }]
noncomputable def sl98 : SemL := [(112, (.shr, .shr, .shr, sem112))]
def D98 : Draws := fun id => bif Nat.beq id 4 then .op 0 .any (.op 1 .any (.op 2 .any (.op 3 .any (.op 4 .take (.op 5 .any (.op 6 .any (.op 7 .any (.op 8 .any (.op 9 .any (.op 10 .any (.op 11 .any (.op 12 .take (.op 13 .any (.op 14 .take (.op 15 .any (.op 16 .any (.op 17 .any (.op 18 .any (.op 19 .any (.op 20 .any (.op 21 .take (.op 22 .one (.op 23 .any (.nil)))))))))))))))))))))))) else .nil
def hp98_0 : List (Option AP) := [none, some (.val false [.shr T_iiiLiiisE]), some (.val false [.int .i64]), some (.box false [.int .i64, .shr T_i]), none, none, some (.box false [.int .i64, .int .i64, .int .i64, .own T_iiis]), none, some (.val false [.int .i64]), none, none, none, none, none, none, none, none, none, none, none, none, none, none, none, none, none, none, none, none, none, none, none, none, none, none, none, none, none, none, none, none, none, none, none, none]
def e98_0 : List (Option AP) := [none, none, none, none, none, none, some (.box false [.int .i64, .int .i64, .int .i64, .own T_iiis]), none, none, none, none, none, none, none, none, none, none, none, none, none, none, none, none, none, none, none, none, none, none, none, none, none, none, none, none, none, none, none, none, none, none, none, none, none, none]
def q98_0 : List (Option AP) := [none, none, none, none, none, none, some (.box false [.int .i64, .int .i64, .int .i64, .shr T_iiis]), some (.val false [.bool]), none, none, none, none, none, none, none, none, none, none, none, none, none, none, none, none, none, none, none, none, none, none, none, none, none, none, none, none, none, none, none, none, none, none, none, none, none]
abbrev H98_0 : Type := (List R_iiiLiiisE) × Int × Int × (List (Int × Unit)) × Int × Int × Int × (List R_iiis) × Int × Unit
abbrev E98_0 : Type := Int × Int × Int × (List R_iiis) × Unit
abbrev Q98_0 : Type := Int × Int × Int × (List R_iiis) × Bool × Unit
noncomputable def spec_l13First_c0 (list1 : List R_iiiLiiisE) (id2 : Int) (r3c0 : Int) (r3c1 : List (Int × Unit)) (t6c0 : Int) (t6c1 : Int) (t6c2 : Int) (t6c3 : List R_iiis) (i8 : Int) : Option (Sum H98_0 (Sum E98_0 Q98_0)) :=
  bif decide (i8 < ((List.length list1 : Nat) : Int)) then
    bif decide ((0 : Int) ≤ i8) then Option.bind ((list1)[Int.toNat i8]?) fun r1 =>
      bif decide (r1.1 = id2) then
        bif decide ((0 : Int) ≤ i8) then Option.bind ((list1)[Int.toNat i8]?) fun r2 =>
          bif decide (r2.2.1 = r3c0) then
            bif decide ((0 : Int) ≤ i8) then Option.bind ((list1)[Int.toNat i8]?) fun r3 =>
              Option.bind (spec_BundleOk r3.1 r3.2.1 r3.2.2.1 r3.2.2.2.1) fun y4 =>
              bif y4.1 then
                bif decide ((0 : Int) ≤ i8) then Option.bind ((list1)[Int.toNat i8]?) fun r5 =>
                  some (.inr (.inr (r5.1, r5.2.1, r5.2.2.1, r5.2.2.2.1, true, ())))
                else none
              else
                some (.inl (list1, id2, r3c0, r3c1, t6c0, t6c1, t6c2, t6c3, IntKind.i64.wrap (i8 + (1 : Int)), ()))
            else none
          else
            some (.inl (list1, id2, r3c0, r3c1, t6c0, t6c1, t6c2, t6c3, IntKind.i64.wrap (i8 + (1 : Int)), ()))
        else none
      else
        some (.inl (list1, id2, r3c0, r3c1, t6c0, t6c1, t6c2, t6c3, IntKind.i64.wrap (i8 + (1 : Int)), ()))
    else none
  else
    some (.inr (.inl (t6c0, t6c1, t6c2, t6c3, ())))
noncomputable def spec_l13First_r0 (x : H98_0) : Option (Sum H98_0 (Sum E98_0 Q98_0)) := spec_l13First_c0 x.1 x.2.1 x.2.2.1 x.2.2.2.1 x.2.2.2.2.1 x.2.2.2.2.2.1 x.2.2.2.2.2.2.1 x.2.2.2.2.2.2.2.1 x.2.2.2.2.2.2.2.2.1
noncomputable def L98 {R : Type} : Loops R := fun id _ st k => bif Nat.beq id 0 then loopAt hp98_0 e98_0 q98_0 spec_l13First_r0 st k else none
noncomputable def spec_l13First (r0c0 : Int) (r0c1 : List (Int × Unit)) (list1 : List R_iiiLiiisE) (id2 : Int) : Option (Int × Int × Int × (List R_iiis) × Bool × Unit) :=
  outK (loopV spec_l13First_r0 (list1, id2, r0c0, r0c1, (0 : Int), (0 : Int), (0 : Int), [], (0 : Int), ())) (fun y1 =>
    some ((0 : Int), (0 : Int), (0 : Int), [], false, ())) (fun y2 =>
    some (y2.1, y2.2.1, y2.2.2.1, y2.2.2.2.1, y2.2.2.2.2.1, ()))
noncomputable def x98 (x : Int × (List (Int × Unit)) × (List R_iiiLiiisE) × Int × Unit) : Option (Int × Int × Int × (List R_iiis) × Bool × Unit) := spec_l13First x.1 x.2.1 x.2.2.1 x.2.2.2.1
noncomputable def sem98 : Sem1 := semOf ps98 rs98 x98
theorem so98 : SemsOk Try.prog (semsOf sl98) := sems_cons k112 (sems_nil)
noncomputable def b98_0 : Code := nthLoop code98 0
theorem t98_r0_eq (x : denR (headRT hp98_0)) : codeK (tabOf tr) (semsOf sl98) D98 L98 b98_0 (headSt hp98_0 x) (roundK 0 hp98_0 e98_0 q98_0) = spec_l13First_r0 x := by kernel_rfl
theorem loop98_0 {R : Type} (r : R) (w0 : World) (mu : Mu) (hs : AnShape ps98 mu) : LoopAt Try.prog w0 mu 44 (L98 : Loops R) r 0 b98_0 :=
  loop_auto tr_ok eq_ok mixed_ok so98 (D := D98) hs (by kernel_rfl) (fun _ => (loops_of (l := []) (by kernel_rfl) (List.forall_mem_nil _))) t98_r0_eq (fun _ _ => rfl)
theorem t98_eq (x : denR (headRT (ps98.map some))) : codeK (tabOf tr) (semsOf sl98) D98 L98 code98 (start 44 ps98 x) (finK rs98 ps98) = x98 x := by kernel_rfl
theorem k98 : Known Try.prog 98 sem98 :=
  fn_auto tr_ok eq_ok mixed_ok so98 (D := D98) (code := code98) (n := 44) Try.func98 (by kernel_rfl) (by kernel_rfl) (by kernel_rfl) (fun w0 mu _ hs => (loops_of (l := [(0, b98_0)]) (by kernel_rfl) (List.forall_mem_cons.2 ⟨loop98_0 _ w0 mu hs, (List.forall_mem_nil _)⟩))) t98_eq

/-! ### f145: spec.l05In -/
noncomputable def code145 : Code := match Try.f145.body with | some c => c | none => .skip
def ps145 : List AP := [.val false [.shr T_i], .val false [.int .i64]]
def rs145 : List RP := [{ src := .tmp 4, agg := false, ps := [.bool] }]
noncomputable def sl145 : SemL := []
def D145 : Draws := fun _ => .nil
def hp145_0 : List (Option AP) := [some (.val false [.shr T_i]), some (.val false [.int .i64]), none, none, none, some (.val false [.int .i64]), none, none, none, none, none, none, none, none, none, none, none, none, none]
def e145_0 : List (Option AP) := [none, none, none, none, none, none, none, none, none, none, none, none, none, none, none, none, none, none, none]
def q145_0 : List (Option AP) := [none, none, none, none, some (.val false [.bool]), none, none, none, none, none, none, none, none, none, none, none, none, none, none]
abbrev H145_0 : Type := (List (Int × Unit)) × Int × Int × Unit
abbrev E145_0 : Type := Unit
abbrev Q145_0 : Type := Bool × Unit
noncomputable def spec_l05In_c0 (list0 : List (Int × Unit)) (x1 : Int) (i5 : Int) : Option (Sum H145_0 (Sum E145_0 Q145_0)) :=
  bif decide (i5 < ((List.length list0 : Nat) : Int)) then
    bif decide ((0 : Int) ≤ i5) then Option.bind ((list0)[Int.toNat i5]?) fun r1 =>
      bif decide (r1.1 = x1) then
        some (.inr (.inr (true, ())))
      else
        some (.inl (list0, x1, IntKind.i64.wrap (i5 + (1 : Int)), ()))
    else none
  else
    some (.inr (.inl (())))
noncomputable def spec_l05In_r0 (x : H145_0) : Option (Sum H145_0 (Sum E145_0 Q145_0)) := spec_l05In_c0 x.1 x.2.1 x.2.2.1
noncomputable def L145 {R : Type} : Loops R := fun id _ st k => bif Nat.beq id 0 then loopAt hp145_0 e145_0 q145_0 spec_l05In_r0 st k else none
noncomputable def spec_l05In (list0 : List (Int × Unit)) (x1 : Int) : Option (Bool × Unit) :=
  outK (loopV spec_l05In_r0 (list0, x1, (0 : Int), ())) (fun y1 =>
    some (false, ())) (fun y2 =>
    some (y2.1, ()))
noncomputable def x145 (x : (List (Int × Unit)) × Int × Unit) : Option (Bool × Unit) := spec_l05In x.1 x.2.1
noncomputable def sem145 : Sem1 := semOf ps145 rs145 x145
theorem so145 : SemsOk Try.prog (semsOf sl145) := sems_nil
noncomputable def b145_0 : Code := nthLoop code145 0
theorem t145_r0_eq (x : denR (headRT hp145_0)) : codeK (tabOf tr) (semsOf sl145) D145 L145 b145_0 (headSt hp145_0 x) (roundK 0 hp145_0 e145_0 q145_0) = spec_l05In_r0 x := by kernel_rfl
theorem loop145_0 {R : Type} (r : R) (w0 : World) (mu : Mu) (hs : AnShape ps145 mu) : LoopAt Try.prog w0 mu 18 (L145 : Loops R) r 0 b145_0 :=
  loop_auto tr_ok eq_ok mixed_ok so145 (D := D145) hs (by kernel_rfl) (fun _ => (loops_of (l := []) (by kernel_rfl) (List.forall_mem_nil _))) t145_r0_eq (fun _ _ => rfl)
theorem t145_eq (x : denR (headRT (ps145.map some))) : codeK (tabOf tr) (semsOf sl145) D145 L145 code145 (start 18 ps145 x) (finK rs145 ps145) = x145 x := by kernel_rfl
theorem k145 : Known Try.prog 145 sem145 :=
  fn_auto tr_ok eq_ok mixed_ok so145 (D := D145) (code := code145) (n := 18) Try.func145 (by kernel_rfl) (by kernel_rfl) (by kernel_rfl) (fun w0 mu _ hs => (loops_of (l := [(0, b145_0)]) (by kernel_rfl) (List.forall_mem_cons.2 ⟨loop145_0 _ w0 mu hs, (List.forall_mem_nil _)⟩))) t145_eq

/-! ### f99: spec.TogetherWith -/
noncomputable def code99 : Code := match Try.f99.body with | some c => c | none => .skip
def ps99 : List AP := [.val true [.int .i64, .shr T_i], .val false [.shr T_iiiLiiisE], .val false [.int .i64]]
def rs99 : List RP := [{ src := .tmp 6, agg := false, ps := [.own T_i] }]
noncomputable def sl99 : SemL := [(98, (.shr, .shr, .shr, sem98)), (145, (.shr, .shr, .shr, sem145))]
def D99 : Draws := fun id => bif Nat.beq id 8 then .op 0 .take (.op 1 .any (.op 2 .any (.op 3 .take (.op 4 .any (.op 5 .any (.op 6 .take (.alt (.op 7 .one (.op 8 .any (.op 9 .any (.op 10 .any (.op 11 .one (.op 12 .last (.op 13 .any (.nil)))))))) (.op 11 .one (.op 7 .one (.op 8 .any (.op 9 .any (.op 10 .any (.op 12 .last (.op 13 .any (.nil))))))))))))))) else .nil
def hp99_0 : List (Option AP) := [none, some (.val false [.shr T_iiiLiiisE]), some (.val false [.int .i64]), some (.box false [.int .i64, .shr T_i]), none, none, none, some (.val false [.own T_i]), some (.box false [.int .i64, .int .i64, .int .i64, .shr T_iiis]), none, some (.val false [.int .i64]), none, none, none, none, none, none, none, none, none, none, none, none, none, none, none, none, none, none, none, none, none, none, none, none, none, none, none, none, none, none, none, none, none, none, none, none, none, none, none, none, none, none, none, none, none, none, none, none, none, none, none, none, none, none, none, none, none, none, none, none, none, none, none, none]
def e99_0 : List (Option AP) := [none, none, none, none, none, none, none, some (.val false [.own T_i]), none, none, none, none, none, none, none, none, none, none, none, none, none, none, none, none, none, none, none, none, none, none, none, none, none, none, none, none, none, none, none, none, none, none, none, none, none, none, none, none, none, none, none, none, none, none, none, none, none, none, none, none, none, none, none, none, none, none, none, none, none, none, none, none, none, none, none]
def q99_0 : List (Option AP) := [none, none, none, none, none, none, none, none, none, none, none, none, none, none, none, none, none, none, none, none, none, none, none, none, none, none, none, none, none, none, none, none, none, none, none, none, none, none, none, none, none, none, none, none, none, none, none, none, none, none, none, none, none, none, none, none, none, none, none, none, none, none, none, none, none, none, none, none, none, none, none, none, none, none, none]
abbrev H99_0 : Type := (List R_iiiLiiisE) × Int × Int × (List (Int × Unit)) × (List (Int × Unit)) × Int × Int × Int × (List R_iiis) × Int × Unit
abbrev E99_0 : Type := (List (Int × Unit)) × Unit
abbrev Q99_0 : Type := Unit
noncomputable def spec_TogetherWith_c0 (list1 : List R_iiiLiiisE) (id2 : Int) (r3c0 : Int) (r3c1 : List (Int × Unit)) (out7 : List (Int × Unit)) (mine8c0 : Int) (mine8c1 : Int) (mine8c2 : Int) (mine8c3 : List R_iiis) (i10 : Int) : Option (Sum H99_0 (Sum E99_0 Q99_0)) :=
  bif decide (i10 < ((List.length r3c1 : Nat) : Int)) then
    bif decide ((0 : Int) ≤ i10) then Option.bind ((r3c1)[Int.toNat i10]?) fun r2 =>
      Option.bind (spec_l13First r3c0 r3c1 list1 r2.1) fun y2o7 =>
      bif y2o7.2.2.2.2.1 then
        bif decide (y2o7.1 = id2) then
          Option.bind (spec_l05In out7 y2o7.1) fun y4 =>
          bif !y4.1 then
            bif Nat.ble (((List.length out7) + 1) * 8) lim then some (.inl (list1, id2, r3c0, r3c1, out7 ++ [(y2o7.1, ())], mine8c0, mine8c1, mine8c2, mine8c3, IntKind.i64.wrap (i10 + (1 : Int)), ()))
            else none
          else
            some (.inl (list1, id2, r3c0, r3c1, out7, mine8c0, mine8c1, mine8c2, mine8c3, IntKind.i64.wrap (i10 + (1 : Int)), ()))
        else bif decide (y2o7.2.2.1 = mine8c2) then
          bif decide ((0 : Int) < y2o7.2.2.1) then
            Option.bind (spec_l05In out7 y2o7.1) fun y5 =>
            bif !y5.1 then
              bif Nat.ble (((List.length out7) + 1) * 8) lim then some (.inl (list1, id2, r3c0, r3c1, out7 ++ [(y2o7.1, ())], mine8c0, mine8c1, mine8c2, mine8c3, IntKind.i64.wrap (i10 + (1 : Int)), ()))
              else none
            else
              some (.inl (list1, id2, r3c0, r3c1, out7, mine8c0, mine8c1, mine8c2, mine8c3, IntKind.i64.wrap (i10 + (1 : Int)), ()))
          else
            some (.inl (list1, id2, r3c0, r3c1, out7, mine8c0, mine8c1, mine8c2, mine8c3, IntKind.i64.wrap (i10 + (1 : Int)), ()))
        else
          some (.inl (list1, id2, r3c0, r3c1, out7, mine8c0, mine8c1, mine8c2, mine8c3, IntKind.i64.wrap (i10 + (1 : Int)), ()))
      else
        some (.inl (list1, id2, r3c0, r3c1, out7, mine8c0, mine8c1, mine8c2, mine8c3, IntKind.i64.wrap (i10 + (1 : Int)), ()))
    else none
  else
    some (.inr (.inl (out7, ())))
noncomputable def spec_TogetherWith_o0 (list1 : List R_iiiLiiisE) (id2 : Int) (r3c0 : Int) (r3c1 : List (Int × Unit)) (out7 : List (Int × Unit)) (mine8c0 : Int) (mine8c1 : Int) (mine8c2 : Int) (mine8c3 : List R_iiis) (i10 : Int) : Option (Sum H99_0 (Sum E99_0 Q99_0)) :=
  bif decide (i10 < ((List.length r3c1 : Nat) : Int)) then
    bif decide ((0 : Int) ≤ i10) then Option.bind ((r3c1)[Int.toNat i10]?) fun r2 =>
      (fun K3 : (Int × Int × Int × (List R_iiis) × Bool × Unit) → Option (Sum H99_0 (Sum E99_0 Q99_0)) => both (Option.bind (spec_l13First r3c0 r3c1 list1 r2.1) fun y2o7 =>
          K3 y2o7) (Option.bind (spec_l13First r3c0 r3c1 list1 r2.1) fun y2o7 =>
          K3 y2o7)) (fun y2o7 =>
      bif y2o7.2.2.2.2.1 then
          bif decide (y2o7.1 = id2) then
            Option.bind (spec_l05In out7 y2o7.1) fun y4 =>
            bif !y4.1 then
              bif Nat.ble (((List.length out7) + 1) * 8) lim then some (.inl (list1, id2, r3c0, r3c1, out7 ++ [(y2o7.1, ())], mine8c0, mine8c1, mine8c2, mine8c3, IntKind.i64.wrap (i10 + (1 : Int)), ()))
              else none
            else
              some (.inl (list1, id2, r3c0, r3c1, out7, mine8c0, mine8c1, mine8c2, mine8c3, IntKind.i64.wrap (i10 + (1 : Int)), ()))
          else bif decide (y2o7.2.2.1 = mine8c2) then
            bif decide ((0 : Int) < y2o7.2.2.1) then
              Option.bind (spec_l05In out7 y2o7.1) fun y5 =>
              bif !y5.1 then
                bif Nat.ble (((List.length out7) + 1) * 8) lim then some (.inl (list1, id2, r3c0, r3c1, out7 ++ [(y2o7.1, ())], mine8c0, mine8c1, mine8c2, mine8c3, IntKind.i64.wrap (i10 + (1 : Int)), ()))
                else none
              else
                some (.inl (list1, id2, r3c0, r3c1, out7, mine8c0, mine8c1, mine8c2, mine8c3, IntKind.i64.wrap (i10 + (1 : Int)), ()))
            else
              some (.inl (list1, id2, r3c0, r3c1, out7, mine8c0, mine8c1, mine8c2, mine8c3, IntKind.i64.wrap (i10 + (1 : Int)), ()))
          else
            some (.inl (list1, id2, r3c0, r3c1, out7, mine8c0, mine8c1, mine8c2, mine8c3, IntKind.i64.wrap (i10 + (1 : Int)), ()))
        else
          some (.inl (list1, id2, r3c0, r3c1, out7, mine8c0, mine8c1, mine8c2, mine8c3, IntKind.i64.wrap (i10 + (1 : Int)), ())))
    else none
  else
    some (.inr (.inl (out7, ())))
theorem spec_TogetherWith_o0_eq (list1 : List R_iiiLiiisE) (id2 : Int) (r3c0 : Int) (r3c1 : List (Int × Unit)) (out7 : List (Int × Unit)) (mine8c0 : Int) (mine8c1 : Int) (mine8c2 : Int) (mine8c3 : List R_iiis) (i10 : Int) : spec_TogetherWith_o0 list1 id2 r3c0 r3c1 out7 mine8c0 mine8c1 mine8c2 mine8c3 i10 = spec_TogetherWith_c0 list1 id2 r3c0 r3c1 out7 mine8c0 mine8c1 mine8c2 mine8c3 i10 := by
  simp only [spec_TogetherWith_o0, spec_TogetherWith_c0, both_self]
noncomputable def spec_TogetherWith_r0 (x : H99_0) : Option (Sum H99_0 (Sum E99_0 Q99_0)) := spec_TogetherWith_c0 x.1 x.2.1 x.2.2.1 x.2.2.2.1 x.2.2.2.2.1 x.2.2.2.2.2.1 x.2.2.2.2.2.2.1 x.2.2.2.2.2.2.2.1 x.2.2.2.2.2.2.2.2.1 x.2.2.2.2.2.2.2.2.2.1
noncomputable def L99 {R : Type} : Loops R := fun id _ st k => bif Nat.beq id 0 then loopAt hp99_0 e99_0 q99_0 spec_TogetherWith_r0 st k else none
noncomputable def spec_TogetherWith (r0c0 : Int) (r0c1 : List (Int × Unit)) (list1 : List R_iiiLiiisE) (id2 : Int) : Option ((List (Int × Unit)) × Unit) :=
  Option.bind (spec_l13First r0c0 r0c1 list1 id2) fun y1 =>
  bif !y1.2.2.2.2.1 then
    some ([], ())
  else
    outK (loopV spec_TogetherWith_r0 (list1, id2, r0c0, r0c1, [], y1.1, y1.2.1, y1.2.2.1, y1.2.2.2.1, (0 : Int), ())) (fun y2 =>
      some (y2.1, ())) (fun y3 =>
      none)
noncomputable def x99 (x : Int × (List (Int × Unit)) × (List R_iiiLiiisE) × Int × Unit) : Option ((List (Int × Unit)) × Unit) := spec_TogetherWith x.1 x.2.1 x.2.2.1 x.2.2.2.1
noncomputable def sem99 : Sem1 := semOf ps99 rs99 x99
theorem so99 : SemsOk Try.prog (semsOf sl99) := sems_cons k98 (sems_cons k145 (sems_nil))
noncomputable def b99_0 : Code := nthLoop code99 0
theorem t99_r0_eq (x : denR (headRT hp99_0)) : codeK (tabOf tr) (semsOf sl99) D99 L99 b99_0 (headSt hp99_0 x) (roundK 0 hp99_0 e99_0 q99_0) = spec_TogetherWith_r0 x := (show _ = spec_TogetherWith_o0 x.1 x.2.1 x.2.2.1 x.2.2.2.1 x.2.2.2.2.1 x.2.2.2.2.2.1 x.2.2.2.2.2.2.1 x.2.2.2.2.2.2.2.1 x.2.2.2.2.2.2.2.2.1 x.2.2.2.2.2.2.2.2.2.1 from by kernel_rfl).trans (spec_TogetherWith_o0_eq x.1 x.2.1 x.2.2.1 x.2.2.2.1 x.2.2.2.2.1 x.2.2.2.2.2.1 x.2.2.2.2.2.2.1 x.2.2.2.2.2.2.2.1 x.2.2.2.2.2.2.2.2.1 x.2.2.2.2.2.2.2.2.2.1)
theorem loop99_0 {R : Type} (r : R) (w0 : World) (mu : Mu) (hs : AnShape ps99 mu) : LoopAt Try.prog w0 mu 74 (L99 : Loops R) r 0 b99_0 :=
  loop_auto tr_ok eq_ok mixed_ok so99 (D := D99) hs (by kernel_rfl) (fun _ => (loops_of (l := []) (by kernel_rfl) (List.forall_mem_nil _))) t99_r0_eq (fun _ _ => rfl)
theorem t99_eq (x : denR (headRT (ps99.map some))) : codeK (tabOf tr) (semsOf sl99) D99 L99 code99 (start 74 ps99 x) (finK rs99 ps99) = x99 x := by kernel_rfl
theorem k99 : Known Try.prog 99 sem99 :=
  fn_auto tr_ok eq_ok mixed_ok so99 (D := D99) (code := code99) (n := 74) Try.func99 (by kernel_rfl) (by kernel_rfl) (by kernel_rfl) (fun w0 mu _ hs => (loops_of (l := [(0, b99_0)]) (by kernel_rfl) (List.forall_mem_cons.2 ⟨loop99_0 _ w0 mu hs, (List.forall_mem_nil _)⟩))) t99_eq

/-! ### f135: spec.PutItem -/
noncomputable def code135 : Code := match Try.f135.body with | some c => c | none => .skip
def ps135 : List AP := [.val false [.shr T_iiis], .val true [.int .i64, .int .i64, .int .i64, .str]]
def rs135 : List RP := [{ src := .tmp 4, agg := false, ps := [.own T_iiis] }]
noncomputable def sl135 : SemL := [(156, (.shr, .shr, .shr, sem156)), (161, (.shr, .shr, .shr, sem161))]
def D135 : Draws := fun id => bif Nat.beq id 8 then .op 0 .any (.op 1 .any (.op 2 .any (.op 3 .any (.op 4 .take (.op 5 .any (.op 6 .take (.op 7 .any (.nil)))))))) else bif Nat.beq id 10 then .op 0 .any (.op 1 .any (.op 2 .any (.op 3 .any (.op 4 .take (.op 5 .any (.op 6 .take (.op 7 .any (.nil)))))))) else bif Nat.beq id 16 then .op 0 .any (.op 1 .any (.op 2 .any (.op 3 .any (.op 4 .take (.op 5 .any (.op 6 .take (.op 7 .any (.nil)))))))) else .nil
def hp135_0 : List (Option AP) := [some (.val false [.shr T_iiis]), none, none, some (.box false [.int .i64, .int .i64, .int .i64, .str]), none, some (.val false [.own T_iiis]), some (.val false [.own T_iiis]), some (.val false [.int .i64]), none, none, none, none, none, none, none, none, none, none, none, none, none, none, none, none, none, none, none, none, none, none, none, none, none, none, none, none, none, none, none, none, none, none, none, none, none, none, none, none, none, none, none, none, none, none, none, none, none, none, none, none, none, none, none, none, none, none, none, none, none, none, none, none, none, none, none, none, none, none, none]
def e135_0 : List (Option AP) := [some (.val false [.shr T_iiis]), none, none, some (.box false [.int .i64, .int .i64, .int .i64, .str]), none, none, some (.val false [.own T_iiis]), none, none, none, none, none, none, none, none, none, none, none, none, none, none, none, none, none, none, none, none, none, none, none, none, none, none, none, none, none, none, none, none, none, none, none, none, none, none, none, none, none, none, none, none, none, none, none, none, none, none, none, none, none, none, none, none, none, none, none, none, none, none, none, none, none, none, none, none, none, none, none, none]
def q135_0 : List (Option AP) := [none, none, none, none, some (.val false [.own T_iiis]), none, none, none, none, none, none, none, none, none, none, none, none, none, none, none, none, none, none, none, none, none, none, none, none, none, none, none, none, none, none, none, none, none, none, none, none, none, none, none, none, none, none, none, none, none, none, none, none, none, none, none, none, none, none, none, none, none, none, none, none, none, none, none, none, none, none, none, none, none, none, none, none, none, none]
abbrev H135_0 : Type := (List R_iiis) × Int × Int × Int × ByteArray × (List R_iiis) × (List R_iiis) × Int × Unit
abbrev E135_0 : Type := (List R_iiis) × Int × Int × Int × ByteArray × (List R_iiis) × Unit
abbrev Q135_0 : Type := (List R_iiis) × Unit
noncomputable def spec_PutItem_c0 (list0 : List R_iiis) (m3c0 : Int) (m3c1 : Int) (m3c2 : Int) (m3c3 : ByteArray) (same5 : List R_iiis) (out6 : List R_iiis) (i7 : Int) : Option (Sum H135_0 (Sum E135_0 Q135_0)) :=
  bif decide (i7 < ((List.length list0 : Nat) : Int)) then
    bif decide ((0 : Int) ≤ i7) then Option.bind ((list0)[Int.toNat i7]?) fun r3 =>
      bif decide (r3.1 = m3c0) then
        some (.inr (.inr (same5, ())))
      else bif decide ((0 : Int) ≤ i7) then Option.bind ((list0)[Int.toNat i7]?) fun r4 =>
        bif decide (r4.1 < m3c0) then
          bif decide ((0 : Int) ≤ i7) then Option.bind ((list0)[Int.toNat i7]?) fun r5 =>
            bif Nat.ble (((List.length out6) + 1) * 40) lim then some (.inl (list0, m3c0, m3c1, m3c2, m3c3, same5, out6 ++ [(r5.1, r5.2.1, r5.2.2.1, r5.2.2.2.1, ())], IntKind.i64.wrap (i7 + (1 : Int)), ()))
            else none
          else none
        else
          some (.inl (list0, m3c0, m3c1, m3c2, m3c3, same5, out6, IntKind.i64.wrap (i7 + (1 : Int)), ()))
      else none
    else none
  else
    some (.inr (.inl (list0, m3c0, m3c1, m3c2, m3c3, out6, ())))
noncomputable def spec_PutItem_r0 (x : H135_0) : Option (Sum H135_0 (Sum E135_0 Q135_0)) := spec_PutItem_c0 x.1 x.2.1 x.2.2.1 x.2.2.2.1 x.2.2.2.2.1 x.2.2.2.2.2.1 x.2.2.2.2.2.2.1 x.2.2.2.2.2.2.2.1
def hp135_2 : List (Option AP) := [some (.val false [.shr T_iiis]), none, none, some (.box false [.int .i64, .int .i64, .int .i64, .str]), none, none, some (.val false [.own T_iiis]), none, some (.val false [.int .i64]), none, none, none, none, none, none, none, none, none, none, none, none, none, none, none, none, none, none, none, none, none, none, none, none, none, none, none, none, none, none, none, none, none, none, none, none, none, none, none, none, none, none, none, none, none, none, none, none, none, none, none, none, none, none, none, none, none, none, none, none, none, none, none, none, none, none, none, none, none, none]
def e135_2 : List (Option AP) := [none, none, none, none, none, none, some (.val false [.own T_iiis]), none, none, none, none, none, none, none, none, none, none, none, none, none, none, none, none, none, none, none, none, none, none, none, none, none, none, none, none, none, none, none, none, none, none, none, none, none, none, none, none, none, none, none, none, none, none, none, none, none, none, none, none, none, none, none, none, none, none, none, none, none, none, none, none, none, none, none, none, none, none, none, none]
def q135_2 : List (Option AP) := [none, none, none, none, none, none, none, none, none, none, none, none, none, none, none, none, none, none, none, none, none, none, none, none, none, none, none, none, none, none, none, none, none, none, none, none, none, none, none, none, none, none, none, none, none, none, none, none, none, none, none, none, none, none, none, none, none, none, none, none, none, none, none, none, none, none, none, none, none, none, none, none, none, none, none, none, none, none, none]
abbrev H135_2 : Type := (List R_iiis) × Int × Int × Int × ByteArray × (List R_iiis) × Int × Unit
abbrev E135_2 : Type := (List R_iiis) × Unit
abbrev Q135_2 : Type := Unit
noncomputable def spec_PutItem_c2 (list0 : List R_iiis) (m3c0 : Int) (m3c1 : Int) (m3c2 : Int) (m3c3 : ByteArray) (out6 : List R_iiis) (i8 : Int) : Option (Sum H135_2 (Sum E135_2 Q135_2)) :=
  bif decide (i8 < ((List.length list0 : Nat) : Int)) then
    bif decide ((0 : Int) ≤ i8) then Option.bind ((list0)[Int.toNat i8]?) fun r8 =>
      bif decide (m3c0 < r8.1) then
        bif decide ((0 : Int) ≤ i8) then Option.bind ((list0)[Int.toNat i8]?) fun r9 =>
          bif Nat.ble (((List.length out6) + 1) * 40) lim then some (.inl (list0, m3c0, m3c1, m3c2, m3c3, out6 ++ [(r9.1, r9.2.1, r9.2.2.1, r9.2.2.2.1, ())], IntKind.i64.wrap (i8 + (1 : Int)), ()))
          else none
        else none
      else
        some (.inl (list0, m3c0, m3c1, m3c2, m3c3, out6, IntKind.i64.wrap (i8 + (1 : Int)), ()))
    else none
  else
    some (.inr (.inl (out6, ())))
noncomputable def spec_PutItem_r2 (x : H135_2) : Option (Sum H135_2 (Sum E135_2 Q135_2)) := spec_PutItem_c2 x.1 x.2.1 x.2.2.1 x.2.2.2.1 x.2.2.2.2.1 x.2.2.2.2.2.1 x.2.2.2.2.2.2.1
noncomputable def L135 {R : Type} : Loops R := fun id _ st k => bif Nat.beq id 0 then loopAt hp135_0 e135_0 q135_0 spec_PutItem_r0 st k else bif Nat.beq id 2 then loopAt hp135_2 e135_2 q135_2 spec_PutItem_r2 st k else none
noncomputable def spec_PutItem (list0 : List R_iiis) (m1c0 : Int) (m1c1 : Int) (m1c2 : Int) (m1c3 : ByteArray) : Option ((List R_iiis) × Unit) :=
  bif Nat.ble ((0 + (List.length list0)) * 40) lim then Option.bind (spec_ItemsOk list0) fun y1 =>
    bif !y1.1 then
      some ([] ++ list0, ())
    else
      Option.bind (spec_ItemOk m1c0 m1c1 m1c2 m1c3) fun y2 =>
      bif !y2.1 then
        some ([] ++ list0, ())
      else
        outK (loopV spec_PutItem_r0 (list0, m1c0, m1c1, m1c2, m1c3, [] ++ list0, [], (0 : Int), ())) (fun y3 =>
          bif Nat.ble (((List.length y3.2.2.2.2.2.1) + 1) * 40) lim then outK (loopV spec_PutItem_r2 (y3.1, y3.2.1, y3.2.2.1, y3.2.2.2.1, y3.2.2.2.2.1, y3.2.2.2.2.2.1 ++ [(y3.2.1, y3.2.2.1, y3.2.2.2.1, y3.2.2.2.2.1, ())], (0 : Int), ())) (fun y5 =>
              some (y5.1, ())) (fun y6 =>
              none)
          else none) (fun y4 =>
          some (y4.1, ()))
  else none
noncomputable def x135 (x : (List R_iiis) × Int × Int × Int × ByteArray × Unit) : Option ((List R_iiis) × Unit) := spec_PutItem x.1 x.2.1 x.2.2.1 x.2.2.2.1 x.2.2.2.2.1
noncomputable def sem135 : Sem1 := semOf ps135 rs135 x135
theorem so135 : SemsOk Try.prog (semsOf sl135) := sems_cons k156 (sems_cons k161 (sems_nil))
noncomputable def b135_2 : Code := nthLoop code135 1
noncomputable def b135_0 : Code := nthLoop code135 0
theorem t135_r0_eq (x : denR (headRT hp135_0)) : codeK (tabOf tr) (semsOf sl135) D135 L135 b135_0 (headSt hp135_0 x) (roundK 0 hp135_0 e135_0 q135_0) = spec_PutItem_r0 x := by kernel_rfl
theorem loop135_0 {R : Type} (r : R) (w0 : World) (mu : Mu) (hs : AnShape ps135 mu) : LoopAt Try.prog w0 mu 78 (L135 : Loops R) r 0 b135_0 :=
  loop_auto tr_ok eq_ok mixed_ok so135 (D := D135) hs (by kernel_rfl) (fun _ => (loops_of (l := []) (by kernel_rfl) (List.forall_mem_nil _))) t135_r0_eq (fun _ _ => rfl)
theorem t135_r2_eq (x : denR (headRT hp135_2)) : codeK (tabOf tr) (semsOf sl135) D135 L135 b135_2 (headSt hp135_2 x) (roundK 2 hp135_2 e135_2 q135_2) = spec_PutItem_r2 x := by kernel_rfl
theorem loop135_2 {R : Type} (r : R) (w0 : World) (mu : Mu) (hs : AnShape ps135 mu) : LoopAt Try.prog w0 mu 78 (L135 : Loops R) r 2 b135_2 :=
  loop_auto tr_ok eq_ok mixed_ok so135 (D := D135) hs (by kernel_rfl) (fun _ => (loops_of (l := []) (by kernel_rfl) (List.forall_mem_nil _))) t135_r2_eq (fun _ _ => rfl)
theorem t135_eq (x : denR (headRT (ps135.map some))) : codeK (tabOf tr) (semsOf sl135) D135 L135 code135 (start 78 ps135 x) (finK rs135 ps135) = x135 x := by kernel_rfl
theorem k135 : Known Try.prog 135 sem135 :=
  fn_auto tr_ok eq_ok mixed_ok so135 (D := D135) (code := code135) (n := 78) Try.func135 (by kernel_rfl) (by kernel_rfl) (by kernel_rfl) (fun w0 mu _ hs => (loops_of (l := [(0, b135_0), (2, b135_2)]) (by kernel_rfl) (List.forall_mem_cons.2 ⟨loop135_0 _ w0 mu hs, (List.forall_mem_cons.2 ⟨loop135_2 _ w0 mu hs, (List.forall_mem_nil _)⟩)⟩))) t135_eq

/-! ### f101: spec.Union -/
noncomputable def code101 : Code := match Try.f101.body with | some c => c | none => .skip
def ps101 : List AP := [.val false [.shr T_LiiisE]]
def rs101 : List RP := [{ src := .tmp 2, agg := false, ps := [.own T_iiis] }]
noncomputable def sl101 : SemL := [(156, (.shr, .shr, .shr, sem156)), (135, (.shr, .shr, .shr, sem135))]
def D101 : Draws := fun _ => .nil
def hp101_2 : List (Option AP) := [some (.val false [.shr T_LiiisE]), none, none, some (.val false [.own T_iiis]), some (.val false [.int .i64]), some (.val false [.int .i64]), none, none, none, none, none, none, none, none, none, none, none, none, none, none, none, none, none, none, none, none, none, none, none, none, none, none, none, none, none, none, none, none, none, none]
def e101_2 : List (Option AP) := [some (.val false [.shr T_LiiisE]), none, none, some (.val false [.own T_iiis]), some (.val false [.int .i64]), none, none, none, none, none, none, none, none, none, none, none, none, none, none, none, none, none, none, none, none, none, none, none, none, none, none, none, none, none, none, none, none, none, none, none]
def q101_2 : List (Option AP) := [none, none, none, none, none, none, none, none, none, none, none, none, none, none, none, none, none, none, none, none, none, none, none, none, none, none, none, none, none, none, none, none, none, none, none, none, none, none, none, none]
abbrev H101_2 : Type := (List ((List R_iiis) × Unit)) × (List R_iiis) × Int × Int × Unit
abbrev E101_2 : Type := (List ((List R_iiis) × Unit)) × (List R_iiis) × Int × Unit
abbrev Q101_2 : Type := Unit
noncomputable def spec_Union_c2 (lists0 : List ((List R_iiis) × Unit)) (out3 : List R_iiis) (i4 : Int) (k5 : Int) : Option (Sum H101_2 (Sum E101_2 Q101_2)) :=
  bif decide ((0 : Int) ≤ i4) then Option.bind ((lists0)[Int.toNat i4]?) fun r1 =>
    bif decide (k5 < ((List.length r1.1 : Nat) : Int)) then
      bif decide ((0 : Int) ≤ i4) then Option.bind ((lists0)[Int.toNat i4]?) fun r2 =>
        Option.bind (spec_ItemsOk r2.1) fun y3 =>
        bif y3.1 then
          bif decide ((0 : Int) ≤ i4) then Option.bind ((lists0)[Int.toNat i4]?) fun r4 =>
            bif decide ((0 : Int) ≤ k5) then Option.bind ((r4.1)[Int.toNat k5]?) fun r5 =>
              Option.bind (spec_PutItem out3 r5.1 r5.2.1 r5.2.2.1 r5.2.2.2.1) fun y6 =>
              some (.inl (lists0, y6.1, i4, IntKind.i64.wrap (k5 + (1 : Int)), ()))
            else none
          else none
        else
          some (.inr (.inl (lists0, out3, i4, ())))
      else none
    else
      some (.inr (.inl (lists0, out3, i4, ())))
  else none
noncomputable def spec_Union_r2 (x : H101_2) : Option (Sum H101_2 (Sum E101_2 Q101_2)) := spec_Union_c2 x.1 x.2.1 x.2.2.1 x.2.2.2.1
def hp101_0 : List (Option AP) := [some (.val false [.shr T_LiiisE]), none, none, some (.val false [.own T_iiis]), some (.val false [.int .i64]), none, none, none, none, none, none, none, none, none, none, none, none, none, none, none, none, none, none, none, none, none, none, none, none, none, none, none, none, none, none, none, none, none, none, none]
def e101_0 : List (Option AP) := [none, none, none, some (.val false [.own T_iiis]), none, none, none, none, none, none, none, none, none, none, none, none, none, none, none, none, none, none, none, none, none, none, none, none, none, none, none, none, none, none, none, none, none, none, none, none]
def q101_0 : List (Option AP) := [none, none, none, none, none, none, none, none, none, none, none, none, none, none, none, none, none, none, none, none, none, none, none, none, none, none, none, none, none, none, none, none, none, none, none, none, none, none, none, none]
abbrev H101_0 : Type := (List ((List R_iiis) × Unit)) × (List R_iiis) × Int × Unit
abbrev E101_0 : Type := (List R_iiis) × Unit
abbrev Q101_0 : Type := Unit
noncomputable def spec_Union_c0 (lists0 : List ((List R_iiis) × Unit)) (out3 : List R_iiis) (i4 : Int) : Option (Sum H101_0 (Sum E101_0 Q101_0)) :=
  bif decide (i4 < ((List.length lists0 : Nat) : Int)) then
    outK (loopV spec_Union_r2 (lists0, out3, i4, (0 : Int), ())) (fun y7 =>
      some (.inl (y7.1, y7.2.1, IntKind.i64.wrap (y7.2.2.1 + (1 : Int)), ()))) (fun y8 =>
      some (.inr (.inr (()))))
  else
    some (.inr (.inl (out3, ())))
noncomputable def spec_Union_r0 (x : H101_0) : Option (Sum H101_0 (Sum E101_0 Q101_0)) := spec_Union_c0 x.1 x.2.1 x.2.2.1
noncomputable def L101 {R : Type} : Loops R := fun id _ st k => bif Nat.beq id 2 then loopAt hp101_2 e101_2 q101_2 spec_Union_r2 st k else bif Nat.beq id 0 then loopAt hp101_0 e101_0 q101_0 spec_Union_r0 st k else none
noncomputable def spec_Union (lists0 : List ((List R_iiis) × Unit)) : Option ((List R_iiis) × Unit) :=
  outK (loopV spec_Union_r0 (lists0, [], (0 : Int), ())) (fun y1 =>
    some (y1.1, ())) (fun y2 =>
    none)
noncomputable def x101 (x : (List ((List R_iiis) × Unit)) × Unit) : Option ((List R_iiis) × Unit) := spec_Union x.1
noncomputable def sem101 : Sem1 := semOf ps101 rs101 x101
theorem so101 : SemsOk Try.prog (semsOf sl101) := sems_cons k156 (sems_cons k135 (sems_nil))
noncomputable def b101_0 : Code := nthLoop code101 0
noncomputable def b101_2 : Code := nthLoop b101_0 0
theorem t101_r2_eq (x : denR (headRT hp101_2)) : codeK (tabOf tr) (semsOf sl101) D101 L101 b101_2 (headSt hp101_2 x) (roundK 2 hp101_2 e101_2 q101_2) = spec_Union_r2 x := by kernel_rfl
theorem loop101_2 {R : Type} (r : R) (w0 : World) (mu : Mu) (hs : AnShape ps101 mu) : LoopAt Try.prog w0 mu 39 (L101 : Loops R) r 2 b101_2 :=
  loop_auto tr_ok eq_ok mixed_ok so101 (D := D101) hs (by kernel_rfl) (fun _ => (loops_of (l := []) (by kernel_rfl) (List.forall_mem_nil _))) t101_r2_eq (fun _ _ => rfl)
theorem t101_r0_eq (x : denR (headRT hp101_0)) : codeK (tabOf tr) (semsOf sl101) D101 L101 b101_0 (headSt hp101_0 x) (roundK 0 hp101_0 e101_0 q101_0) = spec_Union_r0 x := by kernel_rfl
theorem loop101_0 {R : Type} (r : R) (w0 : World) (mu : Mu) (hs : AnShape ps101 mu) : LoopAt Try.prog w0 mu 39 (L101 : Loops R) r 0 b101_0 :=
  loop_auto tr_ok eq_ok mixed_ok so101 (D := D101) hs (by kernel_rfl) (fun _ => (loops_of (l := [(2, b101_2)]) (by kernel_rfl) (List.forall_mem_cons.2 ⟨loop101_2 _ w0 mu hs, (List.forall_mem_nil _)⟩))) t101_r0_eq (fun _ _ => rfl)
theorem t101_eq (x : denR (headRT (ps101.map some))) : codeK (tabOf tr) (semsOf sl101) D101 L101 code101 (start 39 ps101 x) (finK rs101 ps101) = x101 x := by kernel_rfl
theorem k101 : Known Try.prog 101 sem101 :=
  fn_auto tr_ok eq_ok mixed_ok so101 (D := D101) (code := code101) (n := 39) Try.func101 (by kernel_rfl) (by kernel_rfl) (by kernel_rfl) (fun w0 mu _ hs => (loops_of (l := [(0, b101_0)]) (by kernel_rfl) (List.forall_mem_cons.2 ⟨loop101_0 _ w0 mu hs, (List.forall_mem_nil _)⟩))) t101_eq

/-! ### f186: spec.ItemAt -/
noncomputable def code186 : Code := match Try.f186.body with | some c => c | none => .skip
def ps186 : List AP := [.val false [.shr T_iiis], .val false [.int .i64]]
def rs186 : List RP := [{ src := .cell 4, agg := true, ps := [.int .i64, .int .i64, .int .i64, .str] }, { src := .tmp 5, agg := false, ps := [.bool] }]
noncomputable def sl186 : SemL := []
def D186 : Draws := fun _ => .nil
def hp186_0 : List (Option AP) := [some (.val false [.shr T_iiis]), some (.val false [.int .i64]), none, none, some (.box false [.int .i64, .int .i64, .int .i64, .str]), none, some (.val false [.int .i64]), none, none, none, none, none, none, none, none, none, none, none, none, none, none, none, none, none, none, none]
def e186_0 : List (Option AP) := [none, none, none, none, some (.box false [.int .i64, .int .i64, .int .i64, .str]), none, none, none, none, none, none, none, none, none, none, none, none, none, none, none, none, none, none, none, none, none]
def q186_0 : List (Option AP) := [none, none, none, none, some (.box false [.int .i64, .int .i64, .int .i64, .str]), some (.val false [.bool]), none, none, none, none, none, none, none, none, none, none, none, none, none, none, none, none, none, none, none, none]
abbrev H186_0 : Type := (List R_iiis) × Int × Int × Int × Int × ByteArray × Int × Unit
abbrev E186_0 : Type := Int × Int × Int × ByteArray × Unit
abbrev Q186_0 : Type := Int × Int × Int × ByteArray × Bool × Unit
noncomputable def spec_ItemAt_c0 (list0 : List R_iiis) (seq1 : Int) (t4c0 : Int) (t4c1 : Int) (t4c2 : Int) (t4c3 : ByteArray) (i6 : Int) : Option (Sum H186_0 (Sum E186_0 Q186_0)) :=
  bif decide (i6 < ((List.length list0 : Nat) : Int)) then
    bif decide ((0 : Int) ≤ i6) then Option.bind ((list0)[Int.toNat i6]?) fun r1 =>
      bif decide (r1.1 = seq1) then
        bif decide ((0 : Int) ≤ i6) then Option.bind ((list0)[Int.toNat i6]?) fun r2 =>
          some (.inr (.inr (r2.1, r2.2.1, r2.2.2.1, r2.2.2.2.1, true, ())))
        else none
      else
        some (.inl (list0, seq1, t4c0, t4c1, t4c2, t4c3, IntKind.i64.wrap (i6 + (1 : Int)), ()))
    else none
  else
    some (.inr (.inl (t4c0, t4c1, t4c2, t4c3, ())))
noncomputable def spec_ItemAt_r0 (x : H186_0) : Option (Sum H186_0 (Sum E186_0 Q186_0)) := spec_ItemAt_c0 x.1 x.2.1 x.2.2.1 x.2.2.2.1 x.2.2.2.2.1 x.2.2.2.2.2.1 x.2.2.2.2.2.2.1
noncomputable def L186 {R : Type} : Loops R := fun id _ st k => bif Nat.beq id 0 then loopAt hp186_0 e186_0 q186_0 spec_ItemAt_r0 st k else none
noncomputable def spec_ItemAt (list0 : List R_iiis) (seq1 : Int) : Option (Int × Int × Int × ByteArray × Bool × Unit) :=
  outK (loopV spec_ItemAt_r0 (list0, seq1, (0 : Int), (0 : Int), (0 : Int), ByteArray.empty, (0 : Int), ())) (fun y1 =>
    some ((0 : Int), (0 : Int), (0 : Int), ByteArray.empty, false, ())) (fun y2 =>
    some (y2.1, y2.2.1, y2.2.2.1, y2.2.2.2.1, y2.2.2.2.2.1, ()))
noncomputable def x186 (x : (List R_iiis) × Int × Unit) : Option (Int × Int × Int × ByteArray × Bool × Unit) := spec_ItemAt x.1 x.2.1
noncomputable def sem186 : Sem1 := semOf ps186 rs186 x186
theorem so186 : SemsOk Try.prog (semsOf sl186) := sems_nil
noncomputable def b186_0 : Code := nthLoop code186 0
theorem t186_r0_eq (x : denR (headRT hp186_0)) : codeK (tabOf tr) (semsOf sl186) D186 L186 b186_0 (headSt hp186_0 x) (roundK 0 hp186_0 e186_0 q186_0) = spec_ItemAt_r0 x := by kernel_rfl
theorem loop186_0 {R : Type} (r : R) (w0 : World) (mu : Mu) (hs : AnShape ps186 mu) : LoopAt Try.prog w0 mu 25 (L186 : Loops R) r 0 b186_0 :=
  loop_auto tr_ok eq_ok mixed_ok so186 (D := D186) hs (by kernel_rfl) (fun _ => (loops_of (l := []) (by kernel_rfl) (List.forall_mem_nil _))) t186_r0_eq (fun _ _ => rfl)
theorem t186_eq (x : denR (headRT (ps186.map some))) : codeK (tabOf tr) (semsOf sl186) D186 L186 code186 (start 25 ps186 x) (finK rs186 ps186) = x186 x := by kernel_rfl
theorem k186 : Known Try.prog 186 sem186 :=
  fn_auto tr_ok eq_ok mixed_ok so186 (D := D186) (code := code186) (n := 25) Try.func186 (by kernel_rfl) (by kernel_rfl) (by kernel_rfl) (fun w0 mu _ hs => (loops_of (l := [(0, b186_0)]) (by kernel_rfl) (List.forall_mem_cons.2 ⟨loop186_0 _ w0 mu hs, (List.forall_mem_nil _)⟩))) t186_eq

/-! ### f155: spec.AruOf -/
noncomputable def code155 : Code := match Try.f155.body with | some c => c | none => .skip
def ps155 : List AP := [.val false [.shr T_iiis]]
def rs155 : List RP := [{ src := .tmp 2, agg := false, ps := [.int .i64] }]
noncomputable def sl155 : SemL := [(186, (.shr, .shr, .shr, sem186))]
def D155 : Draws := fun _ => .nil
def hp155_0 : List (Option AP) := [some (.val false [.shr T_iiis]), none, none, some (.val false [.int .i64]), some (.val false [.int .i64]), none, none, none, none, none, none, none, none, none, none, none, none, none, none, none, none, none, none, none, none, none, none]
def e155_0 : List (Option AP) := [none, none, none, some (.val false [.int .i64]), none, none, none, none, none, none, none, none, none, none, none, none, none, none, none, none, none, none, none, none, none, none, none]
def q155_0 : List (Option AP) := [none, none, some (.val false [.int .i64]), none, none, none, none, none, none, none, none, none, none, none, none, none, none, none, none, none, none, none, none, none, none, none, none]
abbrev H155_0 : Type := (List R_iiis) × Int × Int × Unit
abbrev E155_0 : Type := Int × Unit
abbrev Q155_0 : Type := Int × Unit
noncomputable def spec_AruOf_c0 (list0 : List R_iiis) (n3 : Int) (i4 : Int) : Option (Sum H155_0 (Sum E155_0 Q155_0)) :=
  bif decide (i4 < ((List.length list0 : Nat) : Int)) then
    Option.bind (spec_ItemAt list0 (IntKind.i64.wrap (n3 + (1 : Int)))) fun y1 =>
    bif !y1.2.2.2.2.1 then
      some (.inr (.inr (n3, ())))
    else
      some (.inl (list0, IntKind.i64.wrap (n3 + (1 : Int)), IntKind.i64.wrap (i4 + (1 : Int)), ()))
  else
    some (.inr (.inl (n3, ())))
noncomputable def spec_AruOf_r0 (x : H155_0) : Option (Sum H155_0 (Sum E155_0 Q155_0)) := spec_AruOf_c0 x.1 x.2.1 x.2.2.1
noncomputable def L155 {R : Type} : Loops R := fun id _ st k => bif Nat.beq id 0 then loopAt hp155_0 e155_0 q155_0 spec_AruOf_r0 st k else none
noncomputable def spec_AruOf (list0 : List R_iiis) : Option (Int × Unit) :=
  outK (loopV spec_AruOf_r0 (list0, (0 : Int), (0 : Int), ())) (fun y1 =>
    some (y1.1, ())) (fun y2 =>
    some (y2.1, ()))
noncomputable def x155 (x : (List R_iiis) × Unit) : Option (Int × Unit) := spec_AruOf x.1
noncomputable def sem155 : Sem1 := semOf ps155 rs155 x155
theorem so155 : SemsOk Try.prog (semsOf sl155) := sems_cons k186 (sems_nil)
noncomputable def b155_0 : Code := nthLoop code155 0
theorem t155_r0_eq (x : denR (headRT hp155_0)) : codeK (tabOf tr) (semsOf sl155) D155 L155 b155_0 (headSt hp155_0 x) (roundK 0 hp155_0 e155_0 q155_0) = spec_AruOf_r0 x := by kernel_rfl
theorem loop155_0 {R : Type} (r : R) (w0 : World) (mu : Mu) (hs : AnShape ps155 mu) : LoopAt Try.prog w0 mu 26 (L155 : Loops R) r 0 b155_0 :=
  loop_auto tr_ok eq_ok mixed_ok so155 (D := D155) hs (by kernel_rfl) (fun _ => (loops_of (l := []) (by kernel_rfl) (List.forall_mem_nil _))) t155_r0_eq (fun _ _ => rfl)
theorem t155_eq (x : denR (headRT (ps155.map some))) : codeK (tabOf tr) (semsOf sl155) D155 L155 code155 (start 26 ps155 x) (finK rs155 ps155) = x155 x := by kernel_rfl
theorem k155 : Known Try.prog 155 sem155 :=
  fn_auto tr_ok eq_ok mixed_ok so155 (D := D155) (code := code155) (n := 26) Try.func155 (by kernel_rfl) (by kernel_rfl) (by kernel_rfl) (fun w0 mu _ hs => (loops_of (l := [(0, b155_0)]) (by kernel_rfl) (List.forall_mem_cons.2 ⟨loop155_0 _ w0 mu hs, (List.forall_mem_nil _)⟩))) t155_eq

/-! ### f100: spec.Whole -/
noncomputable def code100 : Code := match Try.f100.body with | some c => c | none => .skip
def ps100 : List AP := [.val false [.shr T_iiis]]
def rs100 : List RP := [{ src := .tmp 2, agg := false, ps := [.own T_iiis] }]
noncomputable def sl100 : SemL := [(155, (.shr, .shr, .shr, sem155))]
def D100 : Draws := fun _ => .nil
def hp100_0 : List (Option AP) := [some (.val false [.shr T_iiis]), none, none, some (.val false [.own T_iiis]), some (.val false [.int .i64]), some (.val false [.int .i64]), none, none, none, none, none, none, none, none, none, none, none, none, none, none, none, none, none, none, none, none, none, none, none, none, none]
def e100_0 : List (Option AP) := [none, none, none, some (.val false [.own T_iiis]), none, none, none, none, none, none, none, none, none, none, none, none, none, none, none, none, none, none, none, none, none, none, none, none, none, none, none]
def q100_0 : List (Option AP) := [none, none, none, none, none, none, none, none, none, none, none, none, none, none, none, none, none, none, none, none, none, none, none, none, none, none, none, none, none, none, none]
abbrev H100_0 : Type := (List R_iiis) × (List R_iiis) × Int × Int × Unit
abbrev E100_0 : Type := (List R_iiis) × Unit
abbrev Q100_0 : Type := Unit
noncomputable def spec_Whole_c0 (list0 : List R_iiis) (out3 : List R_iiis) (n4 : Int) (i5 : Int) : Option (Sum H100_0 (Sum E100_0 Q100_0)) :=
  bif decide (i5 < ((List.length list0 : Nat) : Int)) then
    bif decide ((0 : Int) ≤ i5) then Option.bind ((list0)[Int.toNat i5]?) fun r2 =>
      bif decide (r2.1 ≤ n4) then
        bif decide ((0 : Int) ≤ i5) then Option.bind ((list0)[Int.toNat i5]?) fun r3 =>
          bif Nat.ble (((List.length out3) + 1) * 40) lim then some (.inl (list0, out3 ++ [(r3.1, r3.2.1, r3.2.2.1, r3.2.2.2.1, ())], n4, IntKind.i64.wrap (i5 + (1 : Int)), ()))
          else none
        else none
      else
        some (.inl (list0, out3, n4, IntKind.i64.wrap (i5 + (1 : Int)), ()))
    else none
  else
    some (.inr (.inl (out3, ())))
noncomputable def spec_Whole_r0 (x : H100_0) : Option (Sum H100_0 (Sum E100_0 Q100_0)) := spec_Whole_c0 x.1 x.2.1 x.2.2.1 x.2.2.2.1
noncomputable def L100 {R : Type} : Loops R := fun id _ st k => bif Nat.beq id 0 then loopAt hp100_0 e100_0 q100_0 spec_Whole_r0 st k else none
noncomputable def spec_Whole (list0 : List R_iiis) : Option ((List R_iiis) × Unit) :=
  Option.bind (spec_AruOf list0) fun y1 =>
  outK (loopV spec_Whole_r0 (list0, [], y1.1, (0 : Int), ())) (fun y2 =>
    some (y2.1, ())) (fun y3 =>
    none)
noncomputable def x100 (x : (List R_iiis) × Unit) : Option ((List R_iiis) × Unit) := spec_Whole x.1
noncomputable def sem100 : Sem1 := semOf ps100 rs100 x100
theorem so100 : SemsOk Try.prog (semsOf sl100) := sems_cons k155 (sems_nil)
noncomputable def b100_0 : Code := nthLoop code100 0
theorem t100_r0_eq (x : denR (headRT hp100_0)) : codeK (tabOf tr) (semsOf sl100) D100 L100 b100_0 (headSt hp100_0 x) (roundK 0 hp100_0 e100_0 q100_0) = spec_Whole_r0 x := by kernel_rfl
theorem loop100_0 {R : Type} (r : R) (w0 : World) (mu : Mu) (hs : AnShape ps100 mu) : LoopAt Try.prog w0 mu 30 (L100 : Loops R) r 0 b100_0 :=
  loop_auto tr_ok eq_ok mixed_ok so100 (D := D100) hs (by kernel_rfl) (fun _ => (loops_of (l := []) (by kernel_rfl) (List.forall_mem_nil _))) t100_r0_eq (fun _ _ => rfl)
theorem t100_eq (x : denR (headRT (ps100.map some))) : codeK (tabOf tr) (semsOf sl100) D100 L100 code100 (start 30 ps100 x) (finK rs100 ps100) = x100 x := by kernel_rfl
theorem k100 : Known Try.prog 100 sem100 :=
  fn_auto tr_ok eq_ok mixed_ok so100 (D := D100) (code := code100) (n := 30) Try.func100 (by kernel_rfl) (by kernel_rfl) (by kernel_rfl) (fun w0 mu _ hs => (loops_of (l := [(0, b100_0)]) (by kernel_rfl) (List.forall_mem_cons.2 ⟨loop100_0 _ w0 mu hs, (List.forall_mem_nil _)⟩))) t100_eq

/-! ### f29: spec.Rest -/
noncomputable def code29 : Code := match Try.f29.body with | some c => c | none => .skip
def ps29 : List AP := [.val true [.int .i64, .shr T_i], .val false [.shr T_iiiLiiisE], .val false [.int .i64], .val false [.int .i64]]
def rs29 : List RP := [{ src := .tmp 8, agg := false, ps := [.own T_iiis] }]
noncomputable def sl29 : SemL := [(98, (.shr, .shr, .shr, sem98)), (99, (.shr, .shr, .shr, sem99)), (101, (.shr, .shr, .shr, sem101)), (100, (.shr, .shr, .shr, sem100))]
def D29 : Draws := fun id => bif Nat.beq id 10 then .op 0 .take (.op 1 .any (.op 2 .any (.op 3 .any (.op 4 .any (.op 5 .take (.alt (.op 6 .one (.op 7 .any (.op 8 .any (.op 9 .any (.op 10 .one (.op 11 .last (.op 12 .any (.nil)))))))) (.op 10 .one (.op 6 .one (.op 7 .any (.op 8 .any (.op 9 .any (.op 11 .last (.op 12 .any (.nil)))))))))))))) else .nil
def hp29_0 : List (Option AP) := [none, some (.val false [.shr T_iiiLiiisE]), none, some (.val false [.int .i64]), some (.box false [.int .i64, .shr T_i]), none, none, none, none, some (.val false [.own T_iiis]), none, none, some (.val false [.own T_LiiisE]), some (.val false [.own T_i]), some (.val false [.int .i64]), none, none, none, none, none, none, none, none, none, none, none, none, none, none, none, none, none, none, none, none, none, none, none, none, none, none, none, none, none, none, none, none, none, none, none, none, none, none, none, none, none, none, none, none, none, none, none, none, none, none, none, none, none, none, none, none, none, none, none, none, none, none, none, none, none, none, none, none, none, none, none]
def e29_0 : List (Option AP) := [none, none, none, some (.val false [.int .i64]), none, none, none, none, none, some (.val false [.own T_iiis]), none, none, some (.val false [.own T_LiiisE]), none, none, none, none, none, none, none, none, none, none, none, none, none, none, none, none, none, none, none, none, none, none, none, none, none, none, none, none, none, none, none, none, none, none, none, none, none, none, none, none, none, none, none, none, none, none, none, none, none, none, none, none, none, none, none, none, none, none, none, none, none, none, none, none, none, none, none, none, none, none, none, none, none]
def q29_0 : List (Option AP) := [none, none, none, none, none, none, none, none, none, none, none, none, none, none, none, none, none, none, none, none, none, none, none, none, none, none, none, none, none, none, none, none, none, none, none, none, none, none, none, none, none, none, none, none, none, none, none, none, none, none, none, none, none, none, none, none, none, none, none, none, none, none, none, none, none, none, none, none, none, none, none, none, none, none, none, none, none, none, none, none, none, none, none, none, none, none]
abbrev H29_0 : Type := (List R_iiiLiiisE) × Int × Int × (List (Int × Unit)) × (List R_iiis) × (List ((List R_iiis) × Unit)) × (List (Int × Unit)) × Int × Unit
abbrev E29_0 : Type := Int × (List R_iiis) × (List ((List R_iiis) × Unit)) × Unit
abbrev Q29_0 : Type := Unit
noncomputable def spec_Rest_c0 (list1 : List R_iiiLiiisE) (heard3 : Int) (r4c0 : Int) (r4c1 : List (Int × Unit)) (out9 : List R_iiis) (lists12 : List ((List R_iiis) × Unit)) (who13 : List (Int × Unit)) (i14 : Int) : Option (Sum H29_0 (Sum E29_0 Q29_0)) :=
  bif decide (i14 < ((List.length who13 : Nat) : Int)) then
    bif decide ((0 : Int) ≤ i14) then bif Nat.blt (Int.toNat i14) (List.length who13) then Option.bind ((who13)[Int.toNat i14]?) fun r3 =>
        Option.bind (spec_l13First r4c0 r4c1 list1 r3.1) fun y3o6 =>
        bif Nat.ble (((List.length lists12) + 1) * 24) lim then some (.inl (list1, heard3, r4c0, r4c1, out9, lists12 ++ [(y3o6.2.2.2.1, ())], who13, IntKind.i64.wrap (i14 + (1 : Int)), ()))
        else none
      else none
    else none
  else
    some (.inr (.inl (heard3, out9, lists12, ())))
noncomputable def spec_Rest_o0 (list1 : List R_iiiLiiisE) (heard3 : Int) (r4c0 : Int) (r4c1 : List (Int × Unit)) (out9 : List R_iiis) (lists12 : List ((List R_iiis) × Unit)) (who13 : List (Int × Unit)) (i14 : Int) : Option (Sum H29_0 (Sum E29_0 Q29_0)) :=
  bif decide (i14 < ((List.length who13 : Nat) : Int)) then
    bif decide ((0 : Int) ≤ i14) then bif Nat.blt (Int.toNat i14) (List.length who13) then Option.bind ((who13)[Int.toNat i14]?) fun r3 =>
        (fun K4 : (Int × Int × Int × (List R_iiis) × Bool × Unit) → Option (Sum H29_0 (Sum E29_0 Q29_0)) => both (Option.bind (spec_l13First r4c0 r4c1 list1 r3.1) fun y3o6 =>
            K4 y3o6) (Option.bind (spec_l13First r4c0 r4c1 list1 r3.1) fun y3o6 =>
            K4 y3o6)) (fun y3o6 =>
        bif Nat.ble (((List.length lists12) + 1) * 24) lim then some (.inl (list1, heard3, r4c0, r4c1, out9, lists12 ++ [(y3o6.2.2.2.1, ())], who13, IntKind.i64.wrap (i14 + (1 : Int)), ()))
          else none)
      else none
    else none
  else
    some (.inr (.inl (heard3, out9, lists12, ())))
theorem spec_Rest_o0_eq (list1 : List R_iiiLiiisE) (heard3 : Int) (r4c0 : Int) (r4c1 : List (Int × Unit)) (out9 : List R_iiis) (lists12 : List ((List R_iiis) × Unit)) (who13 : List (Int × Unit)) (i14 : Int) : spec_Rest_o0 list1 heard3 r4c0 r4c1 out9 lists12 who13 i14 = spec_Rest_c0 list1 heard3 r4c0 r4c1 out9 lists12 who13 i14 := by
  simp only [spec_Rest_o0, spec_Rest_c0, both_self]
noncomputable def spec_Rest_r0 (x : H29_0) : Option (Sum H29_0 (Sum E29_0 Q29_0)) := spec_Rest_c0 x.1 x.2.1 x.2.2.1 x.2.2.2.1 x.2.2.2.2.1 x.2.2.2.2.2.1 x.2.2.2.2.2.2.1 x.2.2.2.2.2.2.2.1
def hp29_2 : List (Option AP) := [none, none, none, some (.val false [.int .i64]), none, none, none, none, none, some (.val false [.own T_iiis]), none, none, none, none, none, none, none, some (.val false [.own T_iiis]), some (.val false [.int .i64]), none, none, none, none, none, none, none, none, none, none, none, none, none, none, none, none, none, none, none, none, none, none, none, none, none, none, none, none, none, none, none, none, none, none, none, none, none, none, none, none, none, none, none, none, none, none, none, none, none, none, none, none, none, none, none, none, none, none, none, none, none, none, none, none, none, none, none]
def e29_2 : List (Option AP) := [none, none, none, none, none, none, none, none, none, some (.val false [.own T_iiis]), none, none, none, none, none, none, none, none, none, none, none, none, none, none, none, none, none, none, none, none, none, none, none, none, none, none, none, none, none, none, none, none, none, none, none, none, none, none, none, none, none, none, none, none, none, none, none, none, none, none, none, none, none, none, none, none, none, none, none, none, none, none, none, none, none, none, none, none, none, none, none, none, none, none, none, none]
def q29_2 : List (Option AP) := [none, none, none, none, none, none, none, none, none, none, none, none, none, none, none, none, none, none, none, none, none, none, none, none, none, none, none, none, none, none, none, none, none, none, none, none, none, none, none, none, none, none, none, none, none, none, none, none, none, none, none, none, none, none, none, none, none, none, none, none, none, none, none, none, none, none, none, none, none, none, none, none, none, none, none, none, none, none, none, none, none, none, none, none, none, none]
abbrev H29_2 : Type := Int × (List R_iiis) × (List R_iiis) × Int × Unit
abbrev E29_2 : Type := (List R_iiis) × Unit
abbrev Q29_2 : Type := Unit
noncomputable def spec_Rest_c2 (heard3 : Int) (out9 : List R_iiis) (all_17 : List R_iiis) (i18 : Int) : Option (Sum H29_2 (Sum E29_2 Q29_2)) :=
  bif decide (i18 < ((List.length all_17 : Nat) : Int)) then
    bif decide ((0 : Int) ≤ i18) then bif Nat.blt (Int.toNat i18) (List.length all_17) then Option.bind ((all_17)[Int.toNat i18]?) fun r9 =>
        bif decide (heard3 < r9.1) then
          bif decide ((0 : Int) ≤ i18) then bif Nat.blt (Int.toNat i18) (List.length all_17) then Option.bind ((all_17)[Int.toNat i18]?) fun r10 =>
              bif Nat.ble (((List.length out9) + 1) * 40) lim then some (.inl (heard3, out9 ++ [(r10.1, r10.2.1, r10.2.2.1, r10.2.2.2.1, ())], all_17, IntKind.i64.wrap (i18 + (1 : Int)), ()))
              else none
            else none
          else none
        else
          some (.inl (heard3, out9, all_17, IntKind.i64.wrap (i18 + (1 : Int)), ()))
      else none
    else none
  else
    some (.inr (.inl (out9, ())))
noncomputable def spec_Rest_r2 (x : H29_2) : Option (Sum H29_2 (Sum E29_2 Q29_2)) := spec_Rest_c2 x.1 x.2.1 x.2.2.1 x.2.2.2.1
noncomputable def L29 {R : Type} : Loops R := fun id _ st k => bif Nat.beq id 0 then loopAt hp29_0 e29_0 q29_0 spec_Rest_r0 st k else bif Nat.beq id 2 then loopAt hp29_2 e29_2 q29_2 spec_Rest_r2 st k else none
noncomputable def spec_Rest (r0c0 : Int) (r0c1 : List (Int × Unit)) (list1 : List R_iiiLiiisE) (id2 : Int) (heard3 : Int) : Option ((List R_iiis) × Unit) :=
  Option.bind (spec_l13First r0c0 r0c1 list1 id2) fun y1 =>
  bif !y1.2.2.2.2.1 then
    some ([], ())
  else bif decide (y1.2.2.1 = (0 : Int)) then
    some ([], ())
  else
    Option.bind (spec_TogetherWith r0c0 r0c1 list1 id2) fun y2 =>
    outK (loopV spec_Rest_r0 (list1, heard3, r0c0, r0c1, [], [], y2.1, (0 : Int), ())) (fun y3 =>
      Option.bind (spec_Union y3.2.2.1) fun y5 =>
      Option.bind (spec_Whole y5.1) fun y6 =>
      outK (loopV spec_Rest_r2 (y3.1, y3.2.1, y6.1, (0 : Int), ())) (fun y7 =>
        some (y7.1, ())) (fun y8 =>
        none)) (fun y4 =>
      none)
noncomputable def x29 (x : Int × (List (Int × Unit)) × (List R_iiiLiiisE) × Int × Int × Unit) : Option ((List R_iiis) × Unit) := spec_Rest x.1 x.2.1 x.2.2.1 x.2.2.2.1 x.2.2.2.2.1
noncomputable def sem29 : Sem1 := semOf ps29 rs29 x29
theorem so29 : SemsOk Try.prog (semsOf sl29) := sems_cons k98 (sems_cons k99 (sems_cons k101 (sems_cons k100 (sems_nil))))
noncomputable def b29_2 : Code := nthLoop code29 1
noncomputable def b29_0 : Code := nthLoop code29 0
theorem t29_r0_eq (x : denR (headRT hp29_0)) : codeK (tabOf tr) (semsOf sl29) D29 L29 b29_0 (headSt hp29_0 x) (roundK 0 hp29_0 e29_0 q29_0) = spec_Rest_r0 x := (show _ = spec_Rest_o0 x.1 x.2.1 x.2.2.1 x.2.2.2.1 x.2.2.2.2.1 x.2.2.2.2.2.1 x.2.2.2.2.2.2.1 x.2.2.2.2.2.2.2.1 from by kernel_rfl).trans (spec_Rest_o0_eq x.1 x.2.1 x.2.2.1 x.2.2.2.1 x.2.2.2.2.1 x.2.2.2.2.2.1 x.2.2.2.2.2.2.1 x.2.2.2.2.2.2.2.1)
theorem loop29_0 {R : Type} (r : R) (w0 : World) (mu : Mu) (hs : AnShape ps29 mu) : LoopAt Try.prog w0 mu 85 (L29 : Loops R) r 0 b29_0 :=
  loop_auto tr_ok eq_ok mixed_ok so29 (D := D29) hs (by kernel_rfl) (fun _ => (loops_of (l := []) (by kernel_rfl) (List.forall_mem_nil _))) t29_r0_eq (fun _ _ => rfl)
theorem t29_r2_eq (x : denR (headRT hp29_2)) : codeK (tabOf tr) (semsOf sl29) D29 L29 b29_2 (headSt hp29_2 x) (roundK 2 hp29_2 e29_2 q29_2) = spec_Rest_r2 x := by kernel_rfl
theorem loop29_2 {R : Type} (r : R) (w0 : World) (mu : Mu) (hs : AnShape ps29 mu) : LoopAt Try.prog w0 mu 85 (L29 : Loops R) r 2 b29_2 :=
  loop_auto tr_ok eq_ok mixed_ok so29 (D := D29) hs (by kernel_rfl) (fun _ => (loops_of (l := []) (by kernel_rfl) (List.forall_mem_nil _))) t29_r2_eq (fun _ _ => rfl)
theorem t29_eq (x : denR (headRT (ps29.map some))) : codeK (tabOf tr) (semsOf sl29) D29 L29 code29 (start 85 ps29 x) (finK rs29 ps29) = x29 x := by kernel_rfl
theorem k29 : Known Try.prog 29 sem29 :=
  fn_auto tr_ok eq_ok mixed_ok so29 (D := D29) (code := code29) (n := 85) Try.func29 (by kernel_rfl) (by kernel_rfl) (by kernel_rfl) (fun w0 mu _ hs => (loops_of (l := [(0, b29_0), (2, b29_2)]) (by kernel_rfl) (List.forall_mem_cons.2 ⟨loop29_0 _ w0 mu hs, (List.forall_mem_cons.2 ⟨loop29_2 _ w0 mu hs, (List.forall_mem_nil _)⟩)⟩))) t29_eq

/-! ### f146: impl.inRange -/
noncomputable def code146 : Code := match Try.f146.body with | some c => c | none => .skip
def ps146 : List AP := [.val false [.int .i64], .val false [.int .i64], .val false [.int .i64]]
def rs146 : List RP := [{ src := .tmp 6, agg := false, ps := [.bool] }]
noncomputable def sl146 : SemL := []
def D146 : Draws := fun _ => .nil
noncomputable def L146 {R : Type} : Loops R := fun _ _ _ _ => none
noncomputable def impl_inRange (n0 : Int) (least1 : Int) (most2 : Int) : Option (Bool × Unit) :=
  bif decide (least1 ≤ n0) then
    some (decide (n0 ≤ most2), ())
  else
    some (false, ())
noncomputable def x146 (x : Int × Int × Int × Unit) : Option (Bool × Unit) := impl_inRange x.1 x.2.1 x.2.2.1
noncomputable def sem146 : Sem1 := semOf ps146 rs146 x146
theorem so146 : SemsOk Try.prog (semsOf sl146) := sems_nil
theorem t146_eq (x : denR (headRT (ps146.map some))) : codeK (tabOf tr) (semsOf sl146) D146 L146 code146 (start 15 ps146 x) (finK rs146 ps146) = x146 x := by kernel_rfl
theorem k146 : Known Try.prog 146 sem146 :=
  fn_auto tr_ok eq_ok mixed_ok so146 (D := D146) (code := code146) (n := 15) Try.func146 (by kernel_rfl) (by kernel_rfl) (by kernel_rfl) (fun w0 mu _ hs => (loops_of (l := []) (by kernel_rfl) (List.forall_mem_nil _))) t146_eq

/-! ### f147: impl.isDaemon -/
noncomputable def code147 : Code := match Try.f147.body with | some c => c | none => .skip
def ps147 : List AP := [.val false [.int .i64]]
def rs147 : List RP := [{ src := .tmp 2, agg := false, ps := [.bool] }]
noncomputable def sl147 : SemL := [(146, (.shr, .shr, .shr, sem146))]
def D147 : Draws := fun _ => .nil
noncomputable def L147 {R : Type} : Loops R := fun _ _ _ _ => none
noncomputable def impl_isDaemon (n0 : Int) : Option (Bool × Unit) :=
  Option.bind (impl_inRange n0 (1 : Int) (5 : Int)) fun y1 =>
  some (y1.1, ())
noncomputable def x147 (x : Int × Unit) : Option (Bool × Unit) := impl_isDaemon x.1
noncomputable def sem147 : Sem1 := semOf ps147 rs147 x147
theorem so147 : SemsOk Try.prog (semsOf sl147) := sems_cons k146 (sems_nil)
theorem t147_eq (x : denR (headRT (ps147.map some))) : codeK (tabOf tr) (semsOf sl147) D147 L147 code147 (start 5 ps147 x) (finK rs147 ps147) = x147 x := by kernel_rfl
theorem k147 : Known Try.prog 147 sem147 :=
  fn_auto tr_ok eq_ok mixed_ok so147 (D := D147) (code := code147) (n := 5) Try.func147 (by kernel_rfl) (by kernel_rfl) (by kernel_rfl) (fun w0 mu _ hs => (loops_of (l := []) (by kernel_rfl) (List.forall_mem_nil _))) t147_eq

/-! ### f181: impl.isLevel -/
noncomputable def code181 : Code := match Try.f181.body with | some c => c | none => .skip
def ps181 : List AP := [.val false [.int .i64]]
def rs181 : List RP := [{ src := .tmp 2, agg := false, ps := [.bool] }]
noncomputable def sl181 : SemL := []
def D181 : Draws := fun _ => .nil
noncomputable def L181 {R : Type} : Loops R := fun _ _ _ _ => none
noncomputable def impl_isLevel (n0 : Int) : Option (Bool × Unit) :=
  bif decide (n0 = (1 : Int)) then
    some (true, ())
  else
    some (decide (n0 = (2 : Int)), ())
noncomputable def x181 (x : Int × Unit) : Option (Bool × Unit) := impl_isLevel x.1
noncomputable def sem181 : Sem1 := semOf ps181 rs181 x181
theorem so181 : SemsOk Try.prog (semsOf sl181) := sems_nil
theorem t181_eq (x : denR (headRT (ps181.map some))) : codeK (tabOf tr) (semsOf sl181) D181 L181 code181 (start 9 ps181 x) (finK rs181 ps181) = x181 x := by kernel_rfl
theorem k181 : Known Try.prog 181 sem181 :=
  fn_auto tr_ok eq_ok mixed_ok so181 (D := D181) (code := code181) (n := 9) Try.func181 (by kernel_rfl) (by kernel_rfl) (by kernel_rfl) (fun w0 mu _ hs => (loops_of (l := []) (by kernel_rfl) (List.forall_mem_nil _))) t181_eq

/-! ### f184: impl.ItemOk -/
noncomputable def code184 : Code := match Try.f184.body with | some c => c | none => .skip
def ps184 : List AP := [.val true [.int .i64, .int .i64, .int .i64, .str]]
def rs184 : List RP := [{ src := .tmp 2, agg := false, ps := [.bool] }]
noncomputable def sl184 : SemL := [(146, (.shr, .shr, .shr, sem146)), (147, (.shr, .shr, .shr, sem147)), (181, (.shr, .shr, .shr, sem181))]
def D184 : Draws := fun _ => .nil
noncomputable def L184 {R : Type} : Loops R := fun _ _ _ _ => none
noncomputable def impl_ItemOk (m0c0 : Int) (m0c1 : Int) (m0c2 : Int) (m0c3 : ByteArray) : Option (Bool × Unit) :=
  Option.bind (impl_inRange m0c0 (1 : Int) (60 : Int)) fun y1 =>
  bif y1.1 then
    Option.bind (impl_isDaemon m0c1) fun y2 =>
    bif y2.1 then
      Option.bind (impl_isLevel m0c2) fun y3 =>
      bif y3.1 then
        some (decide (((ByteArray.size m0c3 : Nat) : Int) ≤ (60 : Int)), ())
      else
        some (false, ())
    else
      some (false, ())
  else
    some (false, ())
noncomputable def x184 (x : Int × Int × Int × ByteArray × Unit) : Option (Bool × Unit) := impl_ItemOk x.1 x.2.1 x.2.2.1 x.2.2.2.1
noncomputable def sem184 : Sem1 := semOf ps184 rs184 x184
theorem so184 : SemsOk Try.prog (semsOf sl184) := sems_cons k146 (sems_cons k147 (sems_cons k181 (sems_nil)))
theorem t184_eq (x : denR (headRT (ps184.map some))) : codeK (tabOf tr) (semsOf sl184) D184 L184 code184 (start 22 ps184 x) (finK rs184 ps184) = x184 x := by kernel_rfl
theorem k184 : Known Try.prog 184 sem184 :=
  fn_auto tr_ok eq_ok mixed_ok so184 (D := D184) (code := code184) (n := 22) Try.func184 (by kernel_rfl) (by kernel_rfl) (by kernel_rfl) (fun w0 mu _ hs => (loops_of (l := []) (by kernel_rfl) (List.forall_mem_nil _))) t184_eq

/-! ### f158: impl.ItemsOk -/
noncomputable def code158 : Code := match Try.f158.body with | some c => c | none => .skip
def ps158 : List AP := [.val false [.shr T_iiis]]
def rs158 : List RP := [{ src := .tmp 2, agg := false, ps := [.bool] }]
noncomputable def sl158 : SemL := [(184, (.shr, .shr, .shr, sem184))]
def D158 : Draws := fun id => bif Nat.beq id 4 then .op 0 .take (.op 1 .one (.op 2 .any (.op 3 .any (.op 4 .any (.op 5 .any (.op 6 .any (.op 7 .any (.op 8 .take (.op 9 .any (.op 10 .any (.op 11 .any (.op 12 .any (.op 13 .any (.op 14 .take (.op 15 .any (.op 16 .any (.op 17 .any (.nil)))))))))))))))))) else .nil
def hp158_0 : List (Option AP) := [some (.val false [.shr T_iiis]), none, none, none, none, some (.val false [.shr T_iiis]), some (.val false [.int .i64]), some (.val false [.int .i64]), none, none, none, none, none, none, none, none, none, none, none, none, none, none, none, none, none, none, none, none, none, none, none, none]
def e158_0 : List (Option AP) := [none, none, none, none, none, none, none, none, none, none, none, none, none, none, none, none, none, none, none, none, none, none, none, none, none, none, none, none, none, none, none, none]
def q158_0 : List (Option AP) := [none, none, some (.val false [.bool]), none, none, none, none, none, none, none, none, none, none, none, none, none, none, none, none, none, none, none, none, none, none, none, none, none, none, none, none, none]
abbrev H158_0 : Type := (List R_iiis) × (List R_iiis) × Int × Int × Unit
abbrev E158_0 : Type := Unit
abbrev Q158_0 : Type := Bool × Unit
noncomputable def impl_ItemsOk_c0 (list0 : List R_iiis) (t5 : List R_iiis) (t6 : Int) (t7 : Int) : Option (Sum H158_0 (Sum E158_0 Q158_0)) :=
  bif decide (t7 < t6) then
    bif decide ((0 : Int) ≤ t7) then Option.bind ((t5)[Int.toNat t7]?) fun r1 =>
      Option.bind (impl_ItemOk r1.1 r1.2.1 r1.2.2.1 r1.2.2.2.1) fun y2 =>
      bif !y2.1 then
        some (.inr (.inr (false, ())))
      else bif decide ((0 : Int) < t7) then
        bif decide ((0 : Int) ≤ IntKind.i64.wrap (t7 - (1 : Int))) then Option.bind ((list0)[Int.toNat (IntKind.i64.wrap (t7 - (1 : Int)))]?) fun r3 =>
          bif decide (r1.1 ≤ r3.1) then
            some (.inr (.inr (false, ())))
          else
            some (.inl (list0, t5, t6, IntKind.i64.wrap (t7 + (1 : Int)), ()))
        else none
      else
        some (.inl (list0, t5, t6, IntKind.i64.wrap (t7 + (1 : Int)), ()))
    else none
  else
    some (.inr (.inl (())))
noncomputable def impl_ItemsOk_r0 (x : H158_0) : Option (Sum H158_0 (Sum E158_0 Q158_0)) := impl_ItemsOk_c0 x.1 x.2.1 x.2.2.1 x.2.2.2.1
noncomputable def L158 {R : Type} : Loops R := fun id _ st k => bif Nat.beq id 0 then loopAt hp158_0 e158_0 q158_0 impl_ItemsOk_r0 st k else none
noncomputable def impl_ItemsOk (list0 : List R_iiis) : Option (Bool × Unit) :=
  outK (loopV impl_ItemsOk_r0 (list0, list0, ((List.length list0 : Nat) : Int), (0 : Int), ())) (fun y1 =>
    some (true, ())) (fun y2 =>
    some (y2.1, ()))
noncomputable def x158 (x : (List R_iiis) × Unit) : Option (Bool × Unit) := impl_ItemsOk x.1
noncomputable def sem158 : Sem1 := semOf ps158 rs158 x158
theorem so158 : SemsOk Try.prog (semsOf sl158) := sems_cons k184 (sems_nil)
noncomputable def b158_0 : Code := nthLoop code158 0
theorem t158_r0_eq (x : denR (headRT hp158_0)) : codeK (tabOf tr) (semsOf sl158) D158 L158 b158_0 (headSt hp158_0 x) (roundK 0 hp158_0 e158_0 q158_0) = impl_ItemsOk_r0 x := by kernel_rfl
theorem loop158_0 {R : Type} (r : R) (w0 : World) (mu : Mu) (hs : AnShape ps158 mu) : LoopAt Try.prog w0 mu 31 (L158 : Loops R) r 0 b158_0 :=
  loop_auto tr_ok eq_ok mixed_ok so158 (D := D158) hs (by kernel_rfl) (fun _ => (loops_of (l := []) (by kernel_rfl) (List.forall_mem_nil _))) t158_r0_eq (fun _ _ => rfl)
theorem t158_eq (x : denR (headRT (ps158.map some))) : codeK (tabOf tr) (semsOf sl158) D158 L158 code158 (start 31 ps158 x) (finK rs158 ps158) = x158 x := by kernel_rfl
theorem k158 : Known Try.prog 158 sem158 :=
  fn_auto tr_ok eq_ok mixed_ok so158 (D := D158) (code := code158) (n := 31) Try.func158 (by kernel_rfl) (by kernel_rfl) (by kernel_rfl) (fun w0 mu _ hs => (loops_of (l := [(0, b158_0)]) (by kernel_rfl) (List.forall_mem_cons.2 ⟨loop158_0 _ w0 mu hs, (List.forall_mem_nil _)⟩))) t158_eq

/-! ### f110: impl.BundleOk -/
noncomputable def code110 : Code := match Try.f110.body with | some c => c | none => .skip
def ps110 : List AP := [.val true [.int .i64, .int .i64, .int .i64, .shr T_iiis]]
def rs110 : List RP := [{ src := .tmp 2, agg := false, ps := [.bool] }]
noncomputable def sl110 : SemL := [(147, (.shr, .shr, .shr, sem147)), (146, (.shr, .shr, .shr, sem146)), (158, (.shr, .shr, .shr, sem158))]
def D110 : Draws := fun _ => .nil
noncomputable def L110 {R : Type} : Loops R := fun _ _ _ _ => none
noncomputable def impl_BundleOk (b0c0 : Int) (b0c1 : Int) (b0c2 : Int) (b0c3 : List R_iiis) : Option (Bool × Unit) :=
  Option.bind (impl_isDaemon b0c0) fun y1 =>
  bif !y1.1 then
    some (false, ())
  else
    Option.bind (impl_inRange b0c1 (1 : Int) (9 : Int)) fun y2 =>
    bif !y2.1 then
      some (false, ())
    else
      Option.bind (impl_inRange b0c2 (0 : Int) (IntKind.i64.wrap (b0c1 - (1 : Int)))) fun y3 =>
      bif !y3.1 then
        some (false, ())
      else
        Option.bind (impl_ItemsOk b0c3) fun y4 =>
        bif y4.1 then
          bif decide ((0 : Int) < b0c2) then
            some (true, ())
          else
            some (decide (((List.length b0c3 : Nat) : Int) = (0 : Int)), ())
        else
          some (false, ())
noncomputable def x110 (x : Int × Int × Int × (List R_iiis) × Unit) : Option (Bool × Unit) := impl_BundleOk x.1 x.2.1 x.2.2.1 x.2.2.2.1
noncomputable def sem110 : Sem1 := semOf ps110 rs110 x110
theorem so110 : SemsOk Try.prog (semsOf sl110) := sems_cons k147 (sems_cons k146 (sems_cons k158 (sems_nil)))
theorem t110_eq (x : denR (headRT (ps110.map some))) : codeK (tabOf tr) (semsOf sl110) D110 L110 code110 (start 36 ps110 x) (finK rs110 ps110) = x110 x := by kernel_rfl
theorem k110 : Known Try.prog 110 sem110 :=
  fn_auto tr_ok eq_ok mixed_ok so110 (D := D110) (code := code110) (n := 36) Try.func110 (by kernel_rfl) (by kernel_rfl) (by kernel_rfl) (fun w0 mu _ hs => (loops_of (l := []) (by kernel_rfl) (List.forall_mem_nil _))) t110_eq

/-! ### f102: impl.bundleOf -/
noncomputable def code102 : Code := match Try.f102.body with | some c => c | none => .skip
def ps102 : List AP := [.val true [.int .i64, .shr T_i], .val false [.shr T_iiiLiiisE], .val false [.int .i64]]
def rs102 : List RP := [{ src := .cell 6, agg := true, ps := [.int .i64, .int .i64, .int .i64, .shr T_iiis] }, { src := .tmp 7, agg := false, ps := [.bool] }]
noncomputable def sl102 : SemL := [(110, (.shr, .shr, .shr, sem110))]
def D102 : Draws := fun _ => .nil
def hp102_0 : List (Option AP) := [none, none, some (.val false [.int .i64]), some (.box false [.int .i64, .shr T_i]), none, none, some (.box false [.int .i64, .int .i64, .int .i64, .own T_iiis]), none, none, none, some (.val false [.shr T_iiiLiiisE]), some (.val false [.int .i64]), some (.val false [.int .i64]), none, none, none, none, none, none, none, none, none, none, none, none, none, none, none, none, none, none, none, none, none, none]
def e102_0 : List (Option AP) := [none, none, none, none, none, none, some (.box false [.int .i64, .int .i64, .int .i64, .own T_iiis]), none, none, none, none, none, none, none, none, none, none, none, none, none, none, none, none, none, none, none, none, none, none, none, none, none, none, none, none]
def q102_0 : List (Option AP) := [none, none, none, none, none, none, some (.box false [.int .i64, .int .i64, .int .i64, .shr T_iiis]), some (.val false [.bool]), none, none, none, none, none, none, none, none, none, none, none, none, none, none, none, none, none, none, none, none, none, none, none, none, none, none, none]
abbrev H102_0 : Type := Int × Int × (List (Int × Unit)) × Int × Int × Int × (List R_iiis) × (List R_iiiLiiisE) × Int × Int × Unit
abbrev E102_0 : Type := Int × Int × Int × (List R_iiis) × Unit
abbrev Q102_0 : Type := Int × Int × Int × (List R_iiis) × Bool × Unit
noncomputable def impl_bundleOf_c0 (id2 : Int) (r3c0 : Int) (r3c1 : List (Int × Unit)) (t6c0 : Int) (t6c1 : Int) (t6c2 : Int) (t6c3 : List R_iiis) (t10 : List R_iiiLiiisE) (t11 : Int) (t12 : Int) : Option (Sum H102_0 (Sum E102_0 Q102_0)) :=
  bif decide (t12 < t11) then
    bif decide ((0 : Int) ≤ t12) then Option.bind ((t10)[Int.toNat t12]?) fun r1 =>
      bif decide (r1.1 = id2) then
        bif decide (r1.2.1 = r3c0) then
          Option.bind (impl_BundleOk r1.1 r1.2.1 r1.2.2.1 r1.2.2.2.1) fun y2 =>
          bif y2.1 then
            some (.inr (.inr (r1.1, r1.2.1, r1.2.2.1, r1.2.2.2.1, true, ())))
          else
            some (.inl (id2, r3c0, r3c1, t6c0, t6c1, t6c2, t6c3, t10, t11, IntKind.i64.wrap (t12 + (1 : Int)), ()))
        else
          some (.inl (id2, r3c0, r3c1, t6c0, t6c1, t6c2, t6c3, t10, t11, IntKind.i64.wrap (t12 + (1 : Int)), ()))
      else
        some (.inl (id2, r3c0, r3c1, t6c0, t6c1, t6c2, t6c3, t10, t11, IntKind.i64.wrap (t12 + (1 : Int)), ()))
    else none
  else
    some (.inr (.inl (t6c0, t6c1, t6c2, t6c3, ())))
noncomputable def impl_bundleOf_r0 (x : H102_0) : Option (Sum H102_0 (Sum E102_0 Q102_0)) := impl_bundleOf_c0 x.1 x.2.1 x.2.2.1 x.2.2.2.1 x.2.2.2.2.1 x.2.2.2.2.2.1 x.2.2.2.2.2.2.1 x.2.2.2.2.2.2.2.1 x.2.2.2.2.2.2.2.2.1 x.2.2.2.2.2.2.2.2.2.1
noncomputable def L102 {R : Type} : Loops R := fun id _ st k => bif Nat.beq id 0 then loopAt hp102_0 e102_0 q102_0 impl_bundleOf_r0 st k else none
noncomputable def impl_bundleOf (r0c0 : Int) (r0c1 : List (Int × Unit)) (list1 : List R_iiiLiiisE) (id2 : Int) : Option (Int × Int × Int × (List R_iiis) × Bool × Unit) :=
  outK (loopV impl_bundleOf_r0 (id2, r0c0, r0c1, (0 : Int), (0 : Int), (0 : Int), [], list1, ((List.length list1 : Nat) : Int), (0 : Int), ())) (fun y1 =>
    some ((0 : Int), (0 : Int), (0 : Int), [], false, ())) (fun y2 =>
    some (y2.1, y2.2.1, y2.2.2.1, y2.2.2.2.1, y2.2.2.2.2.1, ()))
noncomputable def x102 (x : Int × (List (Int × Unit)) × (List R_iiiLiiisE) × Int × Unit) : Option (Int × Int × Int × (List R_iiis) × Bool × Unit) := impl_bundleOf x.1 x.2.1 x.2.2.1 x.2.2.2.1
noncomputable def sem102 : Sem1 := semOf ps102 rs102 x102
theorem so102 : SemsOk Try.prog (semsOf sl102) := sems_cons k110 (sems_nil)
noncomputable def b102_0 : Code := nthLoop code102 0
theorem t102_r0_eq (x : denR (headRT hp102_0)) : codeK (tabOf tr) (semsOf sl102) D102 L102 b102_0 (headSt hp102_0 x) (roundK 0 hp102_0 e102_0 q102_0) = impl_bundleOf_r0 x := by kernel_rfl
theorem loop102_0 {R : Type} (r : R) (w0 : World) (mu : Mu) (hs : AnShape ps102 mu) : LoopAt Try.prog w0 mu 34 (L102 : Loops R) r 0 b102_0 :=
  loop_auto tr_ok eq_ok mixed_ok so102 (D := D102) hs (by kernel_rfl) (fun _ => (loops_of (l := []) (by kernel_rfl) (List.forall_mem_nil _))) t102_r0_eq (fun _ _ => rfl)
theorem t102_eq (x : denR (headRT (ps102.map some))) : codeK (tabOf tr) (semsOf sl102) D102 L102 code102 (start 34 ps102 x) (finK rs102 ps102) = x102 x := by kernel_rfl
theorem k102 : Known Try.prog 102 sem102 :=
  fn_auto tr_ok eq_ok mixed_ok so102 (D := D102) (code := code102) (n := 34) Try.func102 (by kernel_rfl) (by kernel_rfl) (by kernel_rfl) (fun w0 mu _ hs => (loops_of (l := [(0, b102_0)]) (by kernel_rfl) (List.forall_mem_cons.2 ⟨loop102_0 _ w0 mu hs, (List.forall_mem_nil _)⟩))) t102_eq

/-! ### f185: slices.Index[[]int,int] -/
noncomputable def code185 : Code := match Try.f185.body with | some c => c | none => .skip
def ps185 : List AP := [.val false [.shr T_i], .val false [.int .i64]]
def rs185 : List RP := [{ src := .tmp 4, agg := false, ps := [.int .i64] }]
noncomputable def sl185 : SemL := []
def D185 : Draws := fun _ => .nil
def hp185_0 : List (Option AP) := [some (.val false [.shr T_i]), some (.val false [.int .i64]), none, none, none, none, none, some (.val false [.int .i64]), some (.val false [.int .i64]), none, none, none, none, none, none, none, none, none, none, none]
def e185_0 : List (Option AP) := [none, none, none, none, none, none, none, none, none, none, none, none, none, none, none, none, none, none, none, none]
def q185_0 : List (Option AP) := [none, none, none, none, some (.val false [.int .i64]), none, none, none, none, none, none, none, none, none, none, none, none, none, none, none]
abbrev H185_0 : Type := (List (Int × Unit)) × Int × Int × Int × Unit
abbrev E185_0 : Type := Unit
abbrev Q185_0 : Type := Int × Unit
noncomputable def slices_Index_int_c0 (s0 : List (Int × Unit)) (v1 : Int) (t7 : Int) (t8 : Int) : Option (Sum H185_0 (Sum E185_0 Q185_0)) :=
  bif decide (t8 < t7) then
    bif decide ((0 : Int) ≤ t8) then Option.bind ((s0)[Int.toNat t8]?) fun r1 =>
      bif decide (v1 = r1.1) then
        some (.inr (.inr (t8, ())))
      else
        some (.inl (s0, v1, t7, IntKind.i64.wrap (t8 + (1 : Int)), ()))
    else none
  else
    some (.inr (.inl (())))
noncomputable def slices_Index_int_r0 (x : H185_0) : Option (Sum H185_0 (Sum E185_0 Q185_0)) := slices_Index_int_c0 x.1 x.2.1 x.2.2.1 x.2.2.2.1
noncomputable def L185 {R : Type} : Loops R := fun id _ st k => bif Nat.beq id 0 then loopAt hp185_0 e185_0 q185_0 slices_Index_int_r0 st k else none
noncomputable def slices_Index_int (s0 : List (Int × Unit)) (v1 : Int) : Option (Int × Unit) :=
  outK (loopV slices_Index_int_r0 (s0, v1, ((List.length s0 : Nat) : Int), (0 : Int), ())) (fun y1 =>
    some ((-1 : Int), ())) (fun y2 =>
    some (y2.1, ()))
noncomputable def x185 (x : (List (Int × Unit)) × Int × Unit) : Option (Int × Unit) := slices_Index_int x.1 x.2.1
noncomputable def sem185 : Sem1 := semOf ps185 rs185 x185
theorem so185 : SemsOk Try.prog (semsOf sl185) := sems_nil
noncomputable def b185_0 : Code := nthLoop code185 0
theorem t185_r0_eq (x : denR (headRT hp185_0)) : codeK (tabOf tr) (semsOf sl185) D185 L185 b185_0 (headSt hp185_0 x) (roundK 0 hp185_0 e185_0 q185_0) = slices_Index_int_r0 x := by kernel_rfl
theorem loop185_0 {R : Type} (r : R) (w0 : World) (mu : Mu) (hs : AnShape ps185 mu) : LoopAt Try.prog w0 mu 19 (L185 : Loops R) r 0 b185_0 :=
  loop_auto tr_ok eq_ok mixed_ok so185 (D := D185) hs (by kernel_rfl) (fun _ => (loops_of (l := []) (by kernel_rfl) (List.forall_mem_nil _))) t185_r0_eq (fun _ _ => rfl)
theorem t185_eq (x : denR (headRT (ps185.map some))) : codeK (tabOf tr) (semsOf sl185) D185 L185 code185 (start 19 ps185 x) (finK rs185 ps185) = x185 x := by kernel_rfl
theorem k185 : Known Try.prog 185 sem185 :=
  fn_auto tr_ok eq_ok mixed_ok so185 (D := D185) (code := code185) (n := 19) Try.func185 (by kernel_rfl) (by kernel_rfl) (by kernel_rfl) (fun w0 mu _ hs => (loops_of (l := [(0, b185_0)]) (by kernel_rfl) (List.forall_mem_cons.2 ⟨loop185_0 _ w0 mu hs, (List.forall_mem_nil _)⟩))) t185_eq

/-! ### f149: slices.Contains[[]int,int] -/
noncomputable def code149 : Code := match Try.f149.body with | some c => c | none => .skip
def ps149 : List AP := [.val false [.shr T_i], .val false [.int .i64]]
def rs149 : List RP := [{ src := .tmp 4, agg := false, ps := [.bool] }]
noncomputable def sl149 : SemL := [(185, (.shr, .shr, .shr, sem185))]
def D149 : Draws := fun _ => .nil
noncomputable def L149 {R : Type} : Loops R := fun _ _ _ _ => none
noncomputable def slices_Contains_int (s0 : List (Int × Unit)) (v1 : Int) : Option (Bool × Unit) :=
  Option.bind (slices_Index_int s0 v1) fun y1 =>
  some (decide ((0 : Int) ≤ y1.1), ())
noncomputable def x149 (x : (List (Int × Unit)) × Int × Unit) : Option (Bool × Unit) := slices_Contains_int x.1 x.2.1
noncomputable def sem149 : Sem1 := semOf ps149 rs149 x149
theorem so149 : SemsOk Try.prog (semsOf sl149) := sems_cons k185 (sems_nil)
theorem t149_eq (x : denR (headRT (ps149.map some))) : codeK (tabOf tr) (semsOf sl149) D149 L149 code149 (start 9 ps149 x) (finK rs149 ps149) = x149 x := by kernel_rfl
theorem k149 : Known Try.prog 149 sem149 :=
  fn_auto tr_ok eq_ok mixed_ok so149 (D := D149) (code := code149) (n := 9) Try.func149 (by kernel_rfl) (by kernel_rfl) (by kernel_rfl) (fun w0 mu _ hs => (loops_of (l := []) (by kernel_rfl) (List.forall_mem_nil _))) t149_eq

/-! ### f103: impl.TogetherWith -/
noncomputable def code103 : Code := match Try.f103.body with | some c => c | none => .skip
def ps103 : List AP := [.val true [.int .i64, .shr T_i], .val false [.shr T_iiiLiiisE], .val false [.int .i64]]
def rs103 : List RP := [{ src := .tmp 6, agg := false, ps := [.own T_i] }]
noncomputable def sl103 : SemL := [(102, (.shr, .shr, .shr, sem102)), (149, (.shr, .shr, .shr, sem149))]
def D103 : Draws := fun _ => .nil
def hp103_0 : List (Option AP) := [none, some (.val false [.shr T_iiiLiiisE]), some (.val false [.int .i64]), some (.box false [.int .i64, .shr T_i]), none, none, none, some (.box false [.int .i64, .int .i64, .int .i64, .shr T_iiis]), none, some (.val false [.own T_i]), none, none, none, none, none, none, none, none, none, none, none, none, none, none, some (.val false [.shr T_i]), some (.val false [.int .i64]), some (.val false [.int .i64]), none, none, none, none, none, none, none, none, none, none, none, none, none, none, none, none, none, none, none, none, none, none, none, none, none, none, none, none, none, none, none, none, none, none, none, none, none, none, none, none, none]
def e103_0 : List (Option AP) := [none, none, none, none, none, none, none, none, none, some (.val false [.own T_i]), none, none, none, none, none, none, none, none, none, none, none, none, none, none, none, none, none, none, none, none, none, none, none, none, none, none, none, none, none, none, none, none, none, none, none, none, none, none, none, none, none, none, none, none, none, none, none, none, none, none, none, none, none, none, none, none, none, none]
def q103_0 : List (Option AP) := [none, none, none, none, none, none, none, none, none, none, none, none, none, none, none, none, none, none, none, none, none, none, none, none, none, none, none, none, none, none, none, none, none, none, none, none, none, none, none, none, none, none, none, none, none, none, none, none, none, none, none, none, none, none, none, none, none, none, none, none, none, none, none, none, none, none, none, none]
abbrev H103_0 : Type := (List R_iiiLiiisE) × Int × Int × (List (Int × Unit)) × Int × Int × Int × (List R_iiis) × (List (Int × Unit)) × (List (Int × Unit)) × Int × Int × Unit
abbrev E103_0 : Type := (List (Int × Unit)) × Unit
abbrev Q103_0 : Type := Unit
noncomputable def impl_TogetherWith_c0 (list1 : List R_iiiLiiisE) (id2 : Int) (r3c0 : Int) (r3c1 : List (Int × Unit)) (own7c0 : Int) (own7c1 : Int) (own7c2 : Int) (own7c3 : List R_iiis) (out9 : List (Int × Unit)) (t24 : List (Int × Unit)) (t25 : Int) (t26 : Int) : Option (Sum H103_0 (Sum E103_0 Q103_0)) :=
  bif decide (t26 < t25) then
    bif decide ((0 : Int) ≤ t26) then Option.bind ((t24)[Int.toNat t26]?) fun r2 =>
      Option.bind (impl_bundleOf r3c0 r3c1 list1 r2.1) fun y3 =>
      bif y3.2.2.2.2.1 then
        Option.bind (slices_Contains_int out9 r2.1) fun y4 =>
        bif !y4.1 then
          bif decide (r2.1 = id2) then
            bif Nat.ble (((List.length out9) + 1) * 8) lim then some (.inl (list1, id2, r3c0, r3c1, own7c0, own7c1, own7c2, own7c3, out9 ++ [(r2.1, ())], t24, t25, IntKind.i64.wrap (t26 + (1 : Int)), ()))
            else none
          else bif decide ((0 : Int) < own7c2) then
            bif decide (y3.2.2.1 = own7c2) then
              bif Nat.ble (((List.length out9) + 1) * 8) lim then some (.inl (list1, id2, r3c0, r3c1, own7c0, own7c1, own7c2, own7c3, out9 ++ [(r2.1, ())], t24, t25, IntKind.i64.wrap (t26 + (1 : Int)), ()))
              else none
            else
              some (.inl (list1, id2, r3c0, r3c1, own7c0, own7c1, own7c2, own7c3, out9, t24, t25, IntKind.i64.wrap (t26 + (1 : Int)), ()))
          else
            some (.inl (list1, id2, r3c0, r3c1, own7c0, own7c1, own7c2, own7c3, out9, t24, t25, IntKind.i64.wrap (t26 + (1 : Int)), ()))
        else
          some (.inl (list1, id2, r3c0, r3c1, own7c0, own7c1, own7c2, own7c3, out9, t24, t25, IntKind.i64.wrap (t26 + (1 : Int)), ()))
      else
        some (.inl (list1, id2, r3c0, r3c1, own7c0, own7c1, own7c2, own7c3, out9, t24, t25, IntKind.i64.wrap (t26 + (1 : Int)), ()))
    else none
  else
    some (.inr (.inl (out9, ())))
noncomputable def impl_TogetherWith_r0 (x : H103_0) : Option (Sum H103_0 (Sum E103_0 Q103_0)) := impl_TogetherWith_c0 x.1 x.2.1 x.2.2.1 x.2.2.2.1 x.2.2.2.2.1 x.2.2.2.2.2.1 x.2.2.2.2.2.2.1 x.2.2.2.2.2.2.2.1 x.2.2.2.2.2.2.2.2.1 x.2.2.2.2.2.2.2.2.2.1 x.2.2.2.2.2.2.2.2.2.2.1 x.2.2.2.2.2.2.2.2.2.2.2.1
noncomputable def L103 {R : Type} : Loops R := fun id _ st k => bif Nat.beq id 0 then loopAt hp103_0 e103_0 q103_0 impl_TogetherWith_r0 st k else none
noncomputable def impl_TogetherWith (r0c0 : Int) (r0c1 : List (Int × Unit)) (list1 : List R_iiiLiiisE) (id2 : Int) : Option ((List (Int × Unit)) × Unit) :=
  Option.bind (impl_bundleOf r0c0 r0c1 list1 id2) fun y1 =>
  bif !y1.2.2.2.2.1 then
    some ([], ())
  else
    outK (loopV impl_TogetherWith_r0 (list1, id2, r0c0, r0c1, y1.1, y1.2.1, y1.2.2.1, y1.2.2.2.1, [], r0c1, ((List.length r0c1 : Nat) : Int), (0 : Int), ())) (fun y2 =>
      some (y2.1, ())) (fun y3 =>
      none)
noncomputable def x103 (x : Int × (List (Int × Unit)) × (List R_iiiLiiisE) × Int × Unit) : Option ((List (Int × Unit)) × Unit) := impl_TogetherWith x.1 x.2.1 x.2.2.1 x.2.2.2.1
noncomputable def sem103 : Sem1 := semOf ps103 rs103 x103
theorem so103 : SemsOk Try.prog (semsOf sl103) := sems_cons k102 (sems_cons k149 (sems_nil))
noncomputable def b103_0 : Code := nthLoop code103 0
theorem t103_r0_eq (x : denR (headRT hp103_0)) : codeK (tabOf tr) (semsOf sl103) D103 L103 b103_0 (headSt hp103_0 x) (roundK 0 hp103_0 e103_0 q103_0) = impl_TogetherWith_r0 x := by kernel_rfl
theorem loop103_0 {R : Type} (r : R) (w0 : World) (mu : Mu) (hs : AnShape ps103 mu) : LoopAt Try.prog w0 mu 67 (L103 : Loops R) r 0 b103_0 :=
  loop_auto tr_ok eq_ok mixed_ok so103 (D := D103) hs (by kernel_rfl) (fun _ => (loops_of (l := []) (by kernel_rfl) (List.forall_mem_nil _))) t103_r0_eq (fun _ _ => rfl)
theorem t103_eq (x : denR (headRT (ps103.map some))) : codeK (tabOf tr) (semsOf sl103) D103 L103 code103 (start 67 ps103 x) (finK rs103 ps103) = x103 x := by kernel_rfl
theorem k103 : Known Try.prog 103 sem103 :=
  fn_auto tr_ok eq_ok mixed_ok so103 (D := D103) (code := code103) (n := 67) Try.func103 (by kernel_rfl) (by kernel_rfl) (by kernel_rfl) (fun w0 mu _ hs => (loops_of (l := [(0, b103_0)]) (by kernel_rfl) (List.forall_mem_cons.2 ⟨loop103_0 _ w0 mu hs, (List.forall_mem_nil _)⟩))) t103_eq

/-! ### f188: slices.Insert[[]loop.example/g00183/impl.Item,loop.example/g00183/impl.Item], of the library -/
set_option maxHeartbeats 4000000 in
set_option maxRecDepth 100000 in
theorem ins_shift (b off n c i vb voff vc : Nat) (cs vs : List Value) (w : World) (hi : i < n) (hroom : n + 1 ≤ c) (hn63 : n ≤ 140737488355328) (hvb : vb ≠ b)
    (hcl : cs.length = n * 4) (hvl : vs.length = 4)
    (hcs : ∀ j v, cs[j]? = some v → w.cell? ⟨b, off + j, none⟩ = some v) (hsp : ∀ j, j < (n + 1) * 4 → (w.cell? ⟨b, off + j, none⟩).isSome = true) (hfz : ∀ j, j < (n + 1) * 4 → w.frozen? ⟨b, off + j, none⟩ = false)
    (hvs : ∀ j v, vs[j]? = some v → w.cell? ⟨vb, voff + j, none⟩ = some v) (h1c : ∀ v ∈ cs, v.oneCell' = true) (h1v : ∀ v ∈ vs, v.oneCell' = true)
    (tA tB : TypeId) (kA kB : Nat) (hsa : w.shape? vb = some (tA, kA)) (hsb : w.shape? b = some (tB, kB)) (hkB : kB ≠ 0) (hfa : w.frozen? ⟨vb, voff, none⟩ = false) (hfe : w.frozen? ⟨vb, kA, none⟩ = false) :
    Calls Try.prog 188 #[.slice (some ⟨b, off, none⟩) n c, .int .i64 i, .slice (some ⟨vb, voff, none⟩) 1 vc] w fun e w' =>
      e = .returned (.slice (some ⟨b, off, none⟩) (n + 1) c) ∧ w' = (w.drew.setCells b (off + (i + 1) * 4) (cs.drop (i * 4))).setCells b (off + i * 4) vs := by
  have mixed : Try.prog.follows .mixedOrders = true := by kernel_rfl
  have hz2 : ¬ ((i : Int) = (n : Int)) := by omega
  have hsz : (Try.prog.info? 108).map (·.size) = some 4 := by kernel_rfl
  have hov : ∀ lb cb, (callFunc 194 #[.slice (some ⟨vb, voff, none⟩) 1 vc, .slice (some ⟨b, off + (i + 1) * 4, none⟩) lb cb]).run Try.prog w = .ok (.value (.bool false)) w := fun lb cb => by
    rw [run_callFunc_extern Try.func194 (by kernel_rfl) (by kernel_rfl) (by kernel_rfl) (e := Extern.SlicesOverlaps.overlaps #[30, 30] #[4]) (by kernel_rfl),
      Lib.run_overlaps_apart w 30 4 108 Try.underlying30 4 Try.sizeOf108 ⟨vb, voff, none⟩ ⟨b, off + (i + 1) * 4, none⟩ 1 vc lb cb hvb tA tB kA kB hsa hsb hkB hfa hfe]
    rfl
  have hdl : (cs.drop (i * 4)).length = (n - i) * 4 := by rw [List.length_drop, hcl]; omega
  have hw1 : IntKind.i64.wrap ((i : Int) + (1 : Int)) = (i : Int) + (1 : Int) := by rw [IntKind.wrap_i64]; omega
  have hb1 : (0 : Int) ≤ (i : Int) + (1 : Int) := by omega
  have hin : i ≤ n := by omega
  have htn : ((i : Int) + (1 : Int)).toNat = i + 1 := by omega
  have hb2 : ¬ (c = i + 1) := by omega
  have hb3 : (i : Int) ≤ (n : Int) + (1 : Int) := by omega
  have hb4 : ¬ (c = i) := by omega
  have hcp1 : ∀ ty dc sc, (Builtin.copy_ #[30, 30] ty #[.slice (some ⟨b, off + (i + 1) * 4, none⟩) (n - i) dc, .slice (some ⟨b, off + i * 4, none⟩) (n + 1 - i) sc]).run Try.prog w.drew = .ok (goInt (Nat.min (n + 1 - i) (n - i))) (w.drew.setCells b (off + (i + 1) * 4) (cs.drop (i * 4))) := fun ty dc sc =>
    run_copy_wide w.drew _ _ ty 108 4 b (off + (i + 1) * 4) (n - i) dc ⟨b, off + i * 4, none⟩ (n + 1 - i) sc (cs.drop (i * 4)) Try.underlying30 hsz (by rw [hdl]; simp only [Nat.min_def]; split <;> omega)
      (fun j v hj => by rw [Addr.add_lit, Nat.add_assoc]; exact hcs (i * 4 + j) v (by rwa [List.getElem?_drop] at hj))
      (fun j hj => by rw [Nat.add_assoc]; exact hsp _ (by omega)) (fun j hj => by rw [Nat.add_assoc]; exact hfz _ (by omega)) (fun v hv => h1c v (List.mem_of_mem_drop hv))
  obtain ⟨W1, hW1⟩ : ∃ W1, W1 = w.drew.setCells b (off + (i + 1) * 4) (cs.drop (i * 4)) := ⟨_, rfl⟩
  have hsp1 : ∀ k, k < (n + 1) * 4 → (W1.cell? ⟨b, off + k, none⟩).isSome = true := fun k hk => by
    rw [hW1]
    exact isSome_setCells b _ _ _ (fun j hj => by rw [Nat.add_assoc]; exact hsp _ (by omega)) _ (hsp k hk)
  have hcp2 : ∀ (W : World), (∀ x, W.cell? x = W1.cell? x) → (∀ x, W.frozen? x = W1.frozen? x) → ∀ ty dc, (Builtin.copy_ #[30, 30] ty #[.slice (some ⟨b, off + i * 4, none⟩) (n + 1 - i) dc, .slice (some ⟨vb, voff, none⟩) 1 vc]).run Try.prog W = .ok (goInt (Nat.min 1 (n + 1 - i))) (W.setCells b (off + i * 4) vs) := fun W hWc hWf ty dc =>
    run_copy_wide W _ _ ty 108 4 b (off + i * 4) (n + 1 - i) dc ⟨vb, voff, none⟩ 1 vc vs Try.underlying30 hsz (by rw [hvl]; simp only [Nat.min_def]; split <;> omega)
      (fun j v hj => by
        rw [Addr.add_lit, hWc, hW1, World.cell?_setCells_out b _ _ _ _ (fun h _ => absurd h hvb)]
        exact hvs j v hj)
      (fun j hj => by rw [hWc, Nat.add_assoc]; exact hsp1 _ (by omega)) (fun j hj => by rw [hWf, hW1, World.frozen?_setCells, Nat.add_assoc]; exact hfz _ (by omega)) h1v
  rw [← hW1] at hcp1
  go_enter Try.func188, Try.ntmps188
  go_wp2_with (simp only [hov])
  go_region_law_o (refine step_copy_runI rfl _ _ 30 30 rfl _ _ (by simp [Act.eval, Act.put]) (by simp [Act.eval, Act.put]) (hcp1 _ _ _) ?_)
  go_wp2_with (at_builtin; refine wpList_copy_runI _ rfl _ _ 30 30 rfl _ _ rfl rfl (hcp2 _ (fun _ => rfl) (fun _ => rfl) _ _) ?_)
  go_ret
  first | exact ⟨rfl, rfl⟩ | exact ⟨rfl, by rw [hW1]⟩

set_option maxHeartbeats 4000000 in
set_option maxRecDepth 100000 in
theorem ins_grow (b off n c i vb voff vc : Nat) (cs vs : List Value) (w : World) (hi : i < n) (hnc : n ≤ c) (hroom : c < n + 1) (hbig : (n + 1) * 40 ≤ 140737488355328)
    (hcl : cs.length = n * 4) (hvl : vs.length = 4)
    (hcs : ∀ j v, cs[j]? = some v → w.cell? ⟨b, off + j, none⟩ = some v)
    (hvs : ∀ j v, vs[j]? = some v → w.cell? ⟨vb, voff + j, none⟩ = some v) (h1c : ∀ v ∈ cs, v.oneCell' = true) (h1v : ∀ v ∈ vs, v.oneCell' = true) :
    ∃ (ROW : Array Value) (G : Nat), n + 1 ≤ G ∧ ROW.size = G * 4 ∧ (∀ (j : Nat) (v : Value), (cs.take (i * 4))[j]? = some v → ROW[j]? = some v) ∧
    Calls Try.prog 188 #[.slice (some ⟨b, off, none⟩) n c, .int .i64 i, .slice (some ⟨vb, voff, none⟩) 1 vc] w fun e w' =>
      e = .returned (.slice (some ⟨w.heap.size, 0, none⟩) (n + 1) G) ∧
      w' = (((w.alloc (.cells ROW 108)).drew.setCells w.heap.size (i * 4) vs).drew).setCells w.heap.size ((i + 1) * 4) (cs.drop (i * 4)) := by
  have mixed : Try.prog.follows .mixedOrders = true := by kernel_rfl
  obtain ⟨i0, hi0, hz0, hzs, hzb⟩ : ∃ i0, Try.prog.info? 108 = some i0 ∧ i0.zero = some (Value.agg #[Value.int .i64 0, Value.int .i64 0, Value.int .i64 0, Value.string ⟨#[]⟩]) ∧ i0.size = 4 ∧ i0.bytes = 40 := ⟨_, rfl, by kernel_rfl, by kernel_rfl, by kernel_rfl⟩
  have hz2 : ¬ ((i : Int) = (n : Int)) := by omega
  have hz3 : (c : Int) < (n : Int) + (1 : Int) := by omega
  have hsz : (Try.prog.info? 108).map (·.size) = some 4 := by rw [hi0]; simp [hzs]
  have hbw : b < w.heap.size := block_lt_of_cell (hcs 0 _ (List.getElem?_eq_getElem (by omega)))
  have hvw : vb < w.heap.size := block_lt_of_cell (hvs 0 _ (List.getElem?_eq_getElem (by omega)))
  have hkk : (n : Int) + (1 : Int) - (i : Int) = ((n + 1 - i : Nat) : Int) := by omega
  have hik : i + (n + 1 - i) = n + 1 := by omega
  have hold : (Builtin.firstCells i0.size i (.slice (some ⟨b, off, none⟩) i c)).run Try.prog w.drew = .ok (cs.take (i * 4)).toArray w.drew := by
    rw [hzs]
    exact run_firstCells_some w.drew 4 i ⟨b, off, none⟩ i c (cs.take (i * 4)) (by rw [List.length_take]; omega) (fun j v hj => by
      rw [Addr.add_lit]
      rw [List.getElem?_take] at hj
      split at hj
      · exact hcs j v hj
      · cases hj)
  have hrz : ∀ ty, (Builtin.append_ #[30, 3] ty #[.slice (some ⟨b, off, none⟩) i c, .int .i64 ((n : Int) + (1 : Int) - (i : Int))]).run Try.prog w =
      .ok (.slice (some ⟨w.heap.size, 0, none⟩) (n + 1) (grownCap w (n + 1) c 108)) (w.drew.alloc (.cells ((cs.take (i * 4)).toArray ++ Builtin.zeroCells (Value.agg #[Value.int .i64 0, Value.int .i64 0, Value.int .i64 0, Value.string ⟨#[]⟩]).cells (n + 1 - i) ++ Builtin.zeroCells (Value.agg #[Value.int .i64 0, Value.int .i64 0, Value.int .i64 0, Value.string ⟨#[]⟩]).cells (grownCap w (n + 1) c 108 - (n + 1))) 108)) := fun ty => by
    have h := Lib.run_append_grow_zeros w 30 3 ty 108 i0 _ .i64 .i64 Try.underlying30 Try.underlying3 hi0 hz0 (some ⟨b, off, none⟩) i c (cs.take (i * 4)) hold (n + 1 - i) (by omega) (by omega) (by omega) (by omega) (by rw [hzb]; omega) (by rw [hzb, hik]; exact growslice_fits hroom hbig)
    rw [hik] at h
    rw [hkk]
    exact h
  obtain ⟨G, hG⟩ : ∃ G, G = grownCap w (n + 1) c 108 := ⟨_, rfl⟩
  obtain ⟨ROW, hROW⟩ : ∃ ROW : Array Value, ROW = (cs.take (i * 4)).toArray ++ Builtin.zeroCells (Value.agg #[Value.int .i64 0, Value.int .i64 0, Value.int .i64 0, Value.string ⟨#[]⟩]).cells (n + 1 - i) ++ Builtin.zeroCells (Value.agg #[Value.int .i64 0, Value.int .i64 0, Value.int .i64 0, Value.string ⟨#[]⟩]).cells (G - (n + 1)) := ⟨_, rfl⟩
  rw [← hG] at hrz
  rw [← hROW] at hrz
  have hGn : n + 1 ≤ G := by rw [hG]; exact grownCap_ge w _ _ _
  have hRs : ROW.size = G * 4 := by
    rw [hROW]
    simp [Builtin.zeroCells, Value.cells]
    omega
  have hRl : (n + 1) * 4 ≤ ROW.size := by omega
  have hRt : ∀ (j : Nat) (v : Value), (cs.take (i * 4))[j]? = some v → ROW[j]? = some v := fun j v hj => by
    have hlt : j < (cs.take (i * 4)).length := (List.getElem?_eq_some_iff.1 hj).1
    rw [hROW, Array.append_assoc, Array.getElem?_append_left (by simpa using hlt)]
    simpa using hj
  refine ⟨ROW, G, hGn, hRs, hRt, ?_⟩
  obtain ⟨W1, hW1⟩ : ∃ W1, W1 = w.drew.alloc (.cells ROW 108) := ⟨_, rfl⟩
  rw [← hW1] at hrz
  have hN : ∀ j, j < (n + 1) * 4 → (W1.cell? ⟨w.heap.size, j, none⟩).isSome = true := fun j hj => by
    rw [hW1, World.cell?_alloc_at (w := w.drew) ROW _ w.heap.size j rfl, Array.getElem?_eq_getElem (by omega)]; rfl
  have hNf : ∀ j, W1.frozen? ⟨w.heap.size, j, none⟩ = false := fun j => by rw [hW1]; exact World.frozen?_alloc_at (w := w.drew) ROW _ w.heap.size j rfl
  have hOb : ∀ j v, w.cell? ⟨b, j, none⟩ = some v → W1.cell? ⟨b, j, none⟩ = some v := fun j v h => by rw [hW1, World.cell?_alloc_past (w := w.drew) _ b j hbw]; exact h
  have hOv : ∀ j v, w.cell? ⟨vb, j, none⟩ = some v → W1.cell? ⟨vb, j, none⟩ = some v := fun j v h => by rw [hW1, World.cell?_alloc_past (w := w.drew) _ vb j hvw]; exact h
  have hcpA : ∀ (W : World), (∀ x, W.cell? x = W1.cell? x) → (∀ x, W.frozen? x = W1.frozen? x) → ∀ ty dc, (Builtin.copy_ #[30, 30] ty #[.slice (some ⟨w.heap.size, i * 4, none⟩) (n + 1 - i) dc, .slice (some ⟨vb, voff, none⟩) 1 vc]).run Try.prog W = .ok (goInt (Nat.min 1 (n + 1 - i))) (W.setCells w.heap.size (i * 4) vs) := fun W hWc hWf ty dc =>
    run_copy_wide W _ _ ty 108 4 w.heap.size (i * 4) (n + 1 - i) dc ⟨vb, voff, none⟩ 1 vc vs Try.underlying30 hsz (by rw [hvl]; simp only [Nat.min_def]; split <;> omega)
      (fun j v hj => by rw [Addr.add_lit, hWc]; exact hOv _ v (hvs j v hj))
      (fun j hj => by rw [hWc]; exact hN _ (by omega)) (fun j hj => by rw [hWf]; exact hNf _) h1v
  have hG63 : G ≤ 9223372036854775807 := by
    have := grownCap_le_maxLen w (n + 1) c 108 (by unfold maxLen; omega)
    rw [← hG] at this
    unfold maxLen at this
    omega
  have hGi : ¬ (G = i) := by omega
  have hGim : ¬ (G = i + 1) := by omega
  have hci : ¬ (c = i) := by omega
  have hbN : b ≠ w.heap.size := by omega
  have hdl : (cs.drop (i * 4)).length = (n - i) * 4 := by rw [List.length_drop, hcl]; omega
  have hcpB : ∀ (W : World), (∀ x, W.cell? x = (W1.setCells w.heap.size (i * 4) vs).cell? x) → (∀ x, W.frozen? x = (W1.setCells w.heap.size (i * 4) vs).frozen? x) → ∀ ty dc sc, (Builtin.copy_ #[30, 30] ty #[.slice (some ⟨w.heap.size, (i + 1) * 4, none⟩) (n - i) dc, .slice (some ⟨b, off + i * 4, none⟩) (n - i) sc]).run Try.prog W = .ok (goInt (Nat.min (n - i) (n - i))) (W.setCells w.heap.size ((i + 1) * 4) (cs.drop (i * 4))) := fun W hWc hWf ty dc sc =>
    run_copy_wide W _ _ ty 108 4 w.heap.size ((i + 1) * 4) (n - i) dc ⟨b, off + i * 4, none⟩ (n - i) sc (cs.drop (i * 4)) Try.underlying30 hsz (by rw [hdl]; simp only [Nat.min_def]; split <;> omega)
      (fun j v hj => by
        rw [Addr.add_lit, hWc, World.cell?_setCells_out _ _ _ _ _ (fun h _ => absurd h hbN), Nat.add_assoc]
        exact hOb _ v (hcs (i * 4 + j) v (by rwa [List.getElem?_drop] at hj)))
      (fun j hj => by rw [hWc]; exact isSome_setCells _ _ _ _ (fun t ht => hN _ (by omega)) _ (hN _ (by omega)))
      (fun j hj => by rw [hWf, World.frozen?_setCells]; exact hNf _) (fun v hv => h1c v (List.mem_of_mem_drop hv))
  subst hW1
  have hE1 : ∀ x, ((w.alloc (.cells ROW 108)).drew).cell? x = (w.drew.alloc (.cells ROW 108)).cell? x := fun x => rfl
  have hE2 : ∀ x, ((w.alloc (.cells ROW 108)).drew).frozen? x = (w.drew.alloc (.cells ROW 108)).frozen? x := fun x => rfl
  have hF1 : ∀ x, (((w.alloc (.cells ROW 108)).drew.setCells w.heap.size (i * 4) vs).drew).cell? x = ((w.drew.alloc (.cells ROW 108)).setCells w.heap.size (i * 4) vs).cell? x := fun x => rfl
  have hF2 : ∀ x, (((w.alloc (.cells ROW 108)).drew.setCells w.heap.size (i * 4) vs).drew).frozen? x = ((w.drew.alloc (.cells ROW 108)).setCells w.heap.size (i * 4) vs).frozen? x := fun x => rfl
  have hw1 : IntKind.i64.wrap ((i : Int) + (1 : Int)) = (i : Int) + (1 : Int) := by rw [IntKind.wrap_i64]; omega
  have hb1 : (0 : Int) ≤ (i : Int) + (1 : Int) := by omega
  have hin : i ≤ n := by omega
  have htn : ((i : Int) + (1 : Int)).toNat = i + 1 := by omega
  have hb3 : (i : Int) ≤ (n : Int) := by omega
  clear hkk hik hold hROW hG hRl hi0 hz0 hzs hzb hRt
  go_enter Try.func188, Try.ntmps188
  go_wp2_with (first
    | (at_builtin; refine Lib.wpList_append_run _ rfl _ _ _ _ rfl _ _ rfl rfl _ _ (hrz _) ?_)
    | (at_builtin; refine wpList_copy_runI _ rfl _ _ 30 30 rfl _ _ rfl rfl (hcpA _ hE1 hE2 _ _) ?_)
    | (at_builtin; refine wpList_copy_runI _ rfl _ _ 30 30 rfl _ _ rfl rfl (hcpB _ (fun _ => rfl) (fun _ => rfl) _ _ _) ?_))
  go_region_law_o (refine step_copy_runI rfl _ _ 30 30 rfl (.slice (some ⟨w.heap.size, (i + 1) * 4, none⟩) (n - i) (G - (i + 1))) (.slice (some ⟨b, off + i * 4, none⟩) (n - i) (c - i)) (by simp [Act.eval, Act.put]) (by simp [Act.eval, Act.put]) (hcpB _ hF1 hF2 3 (G - (i + 1)) (c - i)) ?_)
  go_wp2
  go_ret
  exact ⟨rfl, rfl⟩

set_option maxHeartbeats 4000000 in
set_option maxRecDepth 100000 in
theorem ins_end (base : Option Addr) (n c vb voff vc : Nat) (w w' : World) (v : Value) (hnc : n ≤ c) (hnil : base = none → n = 0 ∧ c = 0)
    (hrun : (Builtin.append_ #[30, 30] 30 #[.slice base n c, .slice (some ⟨vb, voff, none⟩) 1 vc]).run Try.prog w = .ok v w') :
    Calls Try.prog 188 #[.slice base n c, .int .i64 n, .slice (some ⟨vb, voff, none⟩) 1 vc] w fun e w'' => e = .returned v ∧ w'' = w' := by
  have mixed : Try.prog.follows .mixedOrders = true := by kernel_rfl
  go_enter Try.func188, Try.ntmps188
  cases base with
  | none =>
    obtain ⟨h0, h1⟩ := hnil rfl
    subst h0 h1
    go_wp2_with (at_builtin; refine Lib.wpList_append_run _ rfl _ _ _ _ rfl _ _ rfl rfl _ _ hrun ?_)
    go_ret
    exact ⟨rfl, rfl⟩
  | some a =>
    obtain ⟨ab, ao, asp⟩ := a
    go_wp2_with (at_builtin; refine Lib.wpList_append_run _ rfl _ _ _ _ rfl _ _ rfl rfl _ _ hrun ?_)
    all_goals (go_ret; exact ⟨rfl, rfl⟩)

def insT (s : List R_iiis) (i : Int) (v : List R_iiis) : Option ((List R_iiis) × Unit) :=
  bif decide (0 ≤ i) && (decide (i ≤ ((List.length s : Nat) : Int)) && (Nat.beq v.length 1 && Nat.ble ((s.length + 1) * 40) lim)) then some (s.take i.toNat ++ (v ++ s.drop i.toNat), ()) else none

theorem insert_answer {T : Tab} (hT : TabOk Try.prog T) (hE : T.elem 30 = some (T_iiis, 40)) {c : Cz} {w : World} {mu : Mu} (hH : Handed c w mu) {s x : List (denR T_iiis)} {i : Nat} {v0 v2 : Value} {l0 l2 : Loc}
    (h0 : OwnAt c w (.pend 0 0) l0 { r := T_iiis, own := true, xs := s } v0) (h2 : OwnAt c w (.pend 2 0) l2 { r := T_iiis, own := true, xs := x } v2) (hi : i ≤ s.length) (hx : x.length = 1) (hb : (s.length + 1) * 40 ≤ lim) :
    Calls Try.prog 188 #[v0, .int .i64 i, v2] w fun e w' => ∃ v, e = .returned v ∧ ∃ c', Bas w mu c' w' ∧ HoldL c' w' .pres 0 [.own { r := T_iiis, own := true, xs := s.take i ++ (x ++ s.drop i) }] [v] := by
  obtain ⟨q1, q2, _, q4⟩ := h2
  have hlim : (s.length + 1) * 40 ≤ 140737488355328 := by unfold lim at hb; omega
  cases l2 with
  | nil =>
    have q4 : x = [] := q4
    rw [q4] at hx; simp at hx
  | «at» vb voff vcap =>
  obtain ⟨g1, g2, ⟨vcur, vty, g3, g4⟩, g5⟩ := q4
  obtain ⟨va, vc, rfl, k1, k2, k3⟩ := q2
  have k1 : x.length ≤ vc := k1
  have ha := k3 (by omega)
  have ha : va = ⟨vb, voff, none⟩ := ha.trans (by rw [Nat.zero_mul]; rfl)
  subst ha
  have hx' : ({ r := T_iiis, own := true, xs := x } : Arr).xs.length = 1 := hx
  rw [hx']
  obtain ⟨vs, hvr, hvs⟩ := rows_of_rep vb voff x ((RowsOk.sh rfl).1 g5)
  have hvl : vs.length = 4 := by
    have := RowsVs.length vs x hvs
    rw [hx] at this
    exact this
  have h1v := RowsVs.ones vs x hvs
  have hvm : mu.m vb := (hH.m vb).2 ⟨_, g1, rfl⟩
  obtain ⟨p1, p2, _, p4⟩ := h0
  have hwid : RT.width T_iiis = 4 := rfl
  by_cases hin : i = s.length
  · -- at the end
    subst hin
    have hnew : s.take s.length ++ (x ++ s.drop s.length) = s ++ x := by rw [List.take_length, List.drop_length, List.append_nil]
    rw [hnew]
    have fin : ∀ (base : Option Addr) (n cc : Nat) (us : List Value) (xb : Option Nat), v0 = .slice base n cc → n = s.length → n ≤ cc → (base = none → n = 0 ∧ cc = 0) → (∀ b, xb = some b → mu.m b) → RowsVs w c.ok T_iiis us s →
        ((xb = none ∧ v0 = .slice none 0 0 ∧ s.length = 0) ∨ ∃ b off lo cap n ad cur te, xb = some b ∧ v0 = .slice (some ad) s.length n ∧ s.length ≤ n ∧ lo + n ≤ cap ∧ (n ≠ 0 → ad = ⟨b, off + lo * T_iiis.width, none⟩) ∧
          w.heap[b]? = some (.cells cur te (0, 0)) ∧ off + cap * T_iiis.width ≤ cur.size ∧ w.rangeAt b (off + lo * T_iiis.width) us) →
        Calls Try.prog 188 #[v0, .int .i64 s.length, .slice (some ⟨vb, voff, none⟩) 1 vc] w fun e w' => ∃ v, e = .returned v ∧ ∃ c', Bas w mu c' w' ∧ HoldL c' w' .pres 0 [.own { r := T_iiis, own := true, xs := s ++ x }] [v] := by
      intro base n cc us xb e0 en hncc hnil hxb hus hx0
      obtain ⟨v, w', hrun, hos, hres⟩ := append_raw (P := Try.prog) hT (t := 30) (ty := 30) hE (nx := s.length) (ny := 1) (vx := us) (vy := vs) (uy := .slice (some ⟨vb, voff, none⟩) 1 vc) hb (RowsVs.length us s hus) (by rw [hvl, hwid]) h1v
        (.inr ⟨by omega, _, _, rfl, fun j v hj => by rw [Addr.add_mid]; exact hvr j v hj⟩) hx0
      subst en
      rw [e0] at hrun ⊢
      have hcall := ins_end base _ cc vb voff vc w w' v hncc hnil hrun
      refine hcall.mono fun e w'' ⟨he, hw⟩ => ?_
      subst he; subst hw
      refine ⟨v, rfl, ?_⟩
      rcases hres with ⟨_, e2, _, _⟩ | ⟨B, o, cp, cur, te, v1, v2, hle, hg, hsz, hr, hoth, hB⟩
      · cases e2
      · exact own_answer hH (hB.imp id (hxb B)) hoth hos v1 (by rw [List.length_append, hx]; exact v2) (by rw [List.length_append, hx]; exact hle) hg hsz hr (RowsVs.append us vs s x hus hvs)
    cases l0 with
    | nil =>
      have p4 : s = [] := p4
      obtain ⟨rfl, _⟩ := p2
      subst p4
      exact fin none 0 0 [] none rfl rfl (by omega) (fun _ => ⟨rfl, rfl⟩) (fun b h => by cases h) rfl (.inl ⟨rfl, rfl, rfl⟩)
    | «at» b off cap =>
      obtain ⟨f1, f2, ⟨cur, te, f3, f4⟩, f5⟩ := p4
      obtain ⟨a, cc, rfl, m1, m2, m3⟩ := p2
      obtain ⟨us, hur, hus⟩ := rows_of_rep b off s ((RowsOk.sh rfl).1 f5)
      have m1 : s.length ≤ cc := m1
      have m2 : cc ≤ cap := by omega
      exact fin (some a) s.length cc us (some b) rfl rfl m1 (fun h => by cases h) (fun b' h => by cases h; exact (hH.m b).2 ⟨_, f1, rfl⟩) hus (.inr ⟨b, off, 0, cap, cc, a, cur, te, rfl, rfl, m1, by omega, m3, f3, f4, by rw [Nat.zero_mul, Nat.add_zero]; exact hur⟩)
  · -- in the middle
    have hlt : i < s.length := by omega
    cases l0 with
    | nil =>
      have p4 : s = [] := p4
      rw [p4] at hlt; simp at hlt
    | «at» b off cap =>
      obtain ⟨f1, f2, ⟨cur, te, f3, f4⟩, f5⟩ := p4
      obtain ⟨a, cc, rfl, m1, m2, m3⟩ := p2
      have m1 : s.length ≤ cc := m1
      have m2 : cc ≤ cap := by omega
      have ha := m3 (by omega)
      have ha : a = ⟨b, off, none⟩ := ha.trans (by rw [Nat.zero_mul]; rfl)
      subst ha
      obtain ⟨us, hur, hus⟩ := rows_of_rep b off s ((RowsOk.sh rfl).1 f5)
      have hul : us.length = s.length * 4 := RowsVs.length us s hus
      have h1u := RowsVs.ones us s hus
      have hbm : mu.m b := (hH.m b).2 ⟨_, f1, rfl⟩
      have hne : vb ≠ b := by
        rintro rfl
        rw [f1] at g1
        cases g1
      have f4 : off + cap * 4 ≤ cur.size := f4
      have g4 : voff + vcap * 4 ≤ vcur.size := g4
      obtain ⟨ct, cd⟩ := RowsVs.cut i us s hus
      have hrows : RowsVs w c.ok T_iiis (us.take (i * 4) ++ (vs ++ us.drop (i * 4))) (s.take i ++ (x ++ s.drop i)) := RowsVs.append _ _ _ _ ct (RowsVs.append _ _ _ _ hvs cd)
      have hlen : (s.take i ++ (x ++ s.drop i)).length = s.length + 1 := by
        rw [List.length_append, List.length_append, List.length_take, List.length_drop, hx]; omega
      have htl : (us.take (i * 4)).length = i * 4 := by rw [List.length_take, hul]; omega
      have hdl : (us.drop (i * 4)).length = (s.length - i) * 4 := by rw [List.length_drop, hul]; omega
      have hsl : ({ r := T_iiis, own := true, xs := s } : Arr).xs.length = s.length := rfl
      rw [hsl]
      -- what stands in the end
      have fin : ∀ (X : World) (B o : Nat), (∀ j v, (us.take (i * 4))[j]? = some v → X.cell? ⟨B, o + j, none⟩ = some v) → (∀ j v, vs[j]? = some v → X.cell? ⟨B, o + i * 4 + j, none⟩ = some v) →
          (∀ j v, (us.drop (i * 4))[j]? = some v → X.cell? ⟨B, o + (i + 1) * 4 + j, none⟩ = some v) → X.rangeAt B o (us.take (i * 4) ++ (vs ++ us.drop (i * 4))) := by
        intro X B o e1 e2 e3 q v hq
        rw [List.getElem?_append] at hq
        by_cases q1 : q < (us.take (i * 4)).length
        · rw [if_pos q1] at hq; exact e1 q v hq
        · rw [if_neg q1, htl, List.getElem?_append] at hq
          rw [htl] at q1
          by_cases q2 : q - i * 4 < vs.length
          · rw [if_pos q2] at hq
            have := e2 _ v hq
            rwa [show o + i * 4 + (q - i * 4) = o + q by omega] at this
          · rw [if_neg q2, hvl] at hq
            rw [hvl] at q2
            have := e3 _ v hq
            rwa [show o + (i + 1) * 4 + (q - i * 4 - 4) = o + q by omega] at this
      have cellb : ∀ k, k < cap * 4 → (w.cell? ⟨b, off + k, none⟩).isSome = true := fun k hk => by
        rw [cell_of_row w b _ cur te (0, 0) f3, Array.getElem?_eq_getElem (by omega)]; rfl
      have hxl : x.length = 1 := hx
      by_cases hroom : s.length + 1 ≤ cc
      · have hcall := ins_shift b off s.length cc i vb voff vc us vs w hlt hroom (by omega) hne hul hvl (fun j v hj => hur j v hj) (fun j hj => cellb j (by omega)) (fun j hj => by unfold World.frozen?; simp [f3])
          (fun j v hj => hvr j v hj) h1u h1v vty te vcur.size cur.size (by unfold World.shape?; simp [g3]) (by unfold World.shape?; simp [f3]) (by omega) (by unfold World.frozen?; simp [g3]) (by unfold World.frozen?; simp [g3])
        refine hcall.mono fun e w' ⟨he, hw⟩ => ?_
        subst he; subst hw
        refine ⟨_, rfl, ?_⟩
        obtain ⟨c1, h1, s1⟩ := heap_setCells (us.drop (i * 4)) (off + (i + 1) * 4) (w := w.drew) f3
        obtain ⟨c2, h2, s2⟩ := heap_setCells vs (off + i * 4) h1
        obtain ⟨t1, t2, t3⟩ := cells_two w.drew b (off + (i + 1) * 4) (us.drop (i * 4)) (off + i * 4) vs (fun j hj => by rw [Nat.add_assoc]; exact cellb _ (by omega)) (fun j hj => by rw [Nat.add_assoc]; exact cellb _ (by omega)) (.inr (by omega))
        have hk1 := kept_setCells (b := b) (us.drop (i * 4)) (off + (i + 1) * 4) w.drew
        have hk2 := kept_setCells (b := b) vs (off + i * 4) (w.drew.setCells b (off + (i + 1) * 4) (us.drop (i * 4)))
        have hsz1 : (w.drew.setCells b (off + (i + 1) * 4) (us.drop (i * 4))).heap.size = w.heap.size := hk1.2.2.2
        refine own_answer (B := b) (o := off) (cp := cc) (vs := us.take (i * 4) ++ (vs ++ us.drop (i * 4))) hH (.inr hbm) (fun k hk hkb => ?_) ⟨hk2.1.trans hk1.1, hk2.2.1.trans hk1.2.1, hk2.2.2.1.trans hk1.2.2.1, by rw [hk2.2.2.2, hsz1]; exact Nat.le_refl _⟩ rfl
          (by rw [hlen]; exact ⟨_, cc, rfl, hroom, by omega, fun _ => by rw [Nat.zero_mul]; rfl⟩) (by rw [hlen]; exact hroom) h2 (by rw [s2, s1]; show off + cc * 4 ≤ cur.size; omega)
          (fin _ _ _ (fun j v hj => ?_) t2 t1) hrows
        · rw [World.heap_setCells_other _ _ _ _ (by rw [hsz1]; exact hk) hkb, World.heap_setCells_other w.drew _ _ _ hk hkb]; rfl
        · have hjl : j < i * 4 := by rw [← htl]; exact (List.getElem?_eq_some_iff.1 hj).1
          rw [t3 _ (.inl (by omega)) (.inl (by omega))]
          rw [List.getElem?_take, if_pos hjl] at hj
          exact hur j v hj
      · obtain ⟨ROW, G, r1, r2, r3, hcall⟩ := ins_grow b off s.length cc i vb voff vc us vs w hlt m1 (by omega) hlim hul hvl (fun j v hj => hur j v hj) (fun j v hj => hvr j v hj) h1u h1v
        refine hcall.mono fun e w' ⟨he, hw⟩ => ?_
        rw [drew_setCells] at hw
        subst he; subst hw
        refine ⟨_, rfl, ?_⟩
        have hnew := heap_alloc_new w (.cells ROW 108 (0, 0))
        have cellN : ∀ k, k < G * 4 → ((w.alloc (.cells ROW 108)).drew.drew.cell? ⟨w.heap.size, k, none⟩) = ROW[k]? := fun k hk => cell_of_row _ _ _ ROW 108 (0, 0) hnew
        obtain ⟨c1, h1, s1⟩ := heap_setCells vs (i * 4) (w := (w.alloc (.cells ROW 108)).drew.drew) hnew
        obtain ⟨c2, h2, s2⟩ := heap_setCells (us.drop (i * 4)) ((i + 1) * 4) h1
        obtain ⟨t1, t2, t3⟩ := cells_two (w.alloc (.cells ROW 108)).drew.drew w.heap.size (i * 4) vs ((i + 1) * 4) (us.drop (i * 4)) (fun j hj => by rw [cellN _ (by omega), Array.getElem?_eq_getElem (by omega)]; rfl) (fun j hj => by rw [cellN _ (by omega), Array.getElem?_eq_getElem (by omega)]; rfl) (.inl (by omega))
        have hk1 := kept_setCells (b := w.heap.size) vs (i * 4) (w.alloc (.cells ROW 108)).drew.drew
        have hk2 := kept_setCells (b := w.heap.size) (us.drop (i * 4)) ((i + 1) * 4) ((w.alloc (.cells ROW 108)).drew.drew.setCells w.heap.size (i * 4) vs)
        have hsa : (w.alloc (.cells ROW 108)).drew.drew.heap.size = w.heap.size + 1 := Array.size_push ..
        have hsz1 : ((w.alloc (.cells ROW 108)).drew.drew.setCells w.heap.size (i * 4) vs).heap.size = w.heap.size + 1 := hk1.2.2.2.trans hsa
        refine own_answer (B := w.heap.size) (o := 0) (cp := G) (vs := us.take (i * 4) ++ (vs ++ us.drop (i * 4))) hH (.inl (Nat.le_refl _)) (fun k hk hkb => ?_) ⟨hk2.1.trans hk1.1, hk2.2.1.trans hk1.2.1, hk2.2.2.1.trans hk1.2.2.1, by rw [hk2.2.2.2, hsz1]; omega⟩ rfl
          (by rw [hlen]; exact ⟨_, G, rfl, r1, by omega, fun _ => by rw [Nat.zero_mul]⟩) (by rw [hlen]; exact r1) h2 (by rw [s2, s1, r2]; show 0 + G * 4 ≤ G * 4; omega)
          (fin _ _ _ (fun j v hj => ?_) (fun j v hj => by rw [Nat.zero_add]; exact t1 j v hj) (fun j v hj => by rw [Nat.zero_add]; exact t2 j v hj)) hrows
        · rw [World.heap_setCells_other _ _ _ _ (by rw [hsz1]; omega) hkb, World.heap_setCells_other (w.alloc (.cells ROW 108)).drew.drew _ _ _ (by rw [hsa]; omega) hkb]
          show (w.alloc _).heap[k]? = w.heap[k]?
          first | exact heap_alloc_old w _ k hk | exact heap_alloc_old w _ hk
        · have hjl : j < i * 4 := by rw [← htl]; exact (List.getElem?_eq_some_iff.1 hj).1
          rw [Nat.zero_add, t3 j (.inl hjl) (.inl (by omega)), cellN _ (by omega)]
          exact r3 j v hj

theorem insert_held {T : Tab} (hT : TabOk Try.prog T) (hE : T.elem 30 = some (T_iiis, 40)) {c : Cz} {w : World} {mu : Mu} (hH : Handed c w mu) {s x : List (denR T_iiis)} {i : Int} {v0 v2 : Value} {l0 l2 : Loc} {y : (List R_iiis) × Unit}
    (h0 : OwnAt c w (.pend 0 0) l0 { r := T_iiis, own := true, xs := s } v0) (h2 : OwnAt c w (.pend 2 0) l2 { r := T_iiis, own := true, xs := x } v2) (ht : insT s i x = some y) :
    Calls Try.prog 188 #[v0, .int .i64 i, v2] w fun e w' => ∃ v, e = .returned v ∧ ∃ c', Bas w mu c' w' ∧ HoldL c' w' .pres 0 [.own { r := T_iiis, own := true, xs := y.1 }] [v] := by
  unfold insT at ht
  obtain ⟨hc, ht2⟩ := bif_some ht
  injection ht2 with ht2
  subst ht2
  simp only [Bool.and_eq_true, decide_eq_true_eq] at hc
  obtain ⟨c1, c2, c3, c4⟩ := hc
  have hi : ((i.toNat : Nat) : Int) = i := Int.toNat_of_nonneg c1
  have hi2 : i.toNat ≤ s.length := Int.ofNat_le.1 (by rw [hi]; exact c2)
  have := insert_answer hT hE hH (s := s) (x := x) (i := i.toNat) h0 h2 hi2 (Nat.eq_of_beq_eq_true c3) (Nat.le_of_ble_eq_true c4)
  rw [hi] at this
  exact this

theorem insert_known {T : Tab} (hT : TabOk Try.prog T) (hE : T.elem 30 = some (T_iiis, 40)) : Known Try.prog 188 (semOf [.val false [.own T_iiis], .val false [.int .i64], .val false [.own T_iiis]] [{ src := .tmp 0, agg := false, ps := [.own T_iiis] }] (fun x => insT x.1 x.2.1 x.2.2.1)) := by
  refine known_vals rfl rfl ⟨_, Try.func188, rfl, rfl⟩ (fun c w mu args x y hH hn hold ht => ?_)
  obtain ⟨s, i, v, u⟩ := x
  have hn : 3 = args.size := hn
  obtain ⟨v0, e0, h0⟩ := hold 0 _ rfl
  obtain ⟨v1, e1, h1⟩ := hold 1 _ rfl
  obtain ⟨v2, e2, h2⟩ := hold 2 _ rfl
  have ha : args = #[v0, v1, v2] := by
    apply Array.toList_inj.1
    have hl : args.toList.length = 3 := by rw [Array.length_toList]; exact hn.symm
    match hq : args.toList, hl with
    | [a, b, d], _ =>
      rw [hq] at e0 e1 e2
      simp only [List.getElem?_cons_zero, List.getElem?_cons_succ, Option.some.injEq] at e0 e1 e2
      rw [e0, e1, e2]
  subst ha
  obtain ⟨z0, l0, hz0, ⟨lc0, o0⟩, _⟩ := h0
  injection hz0 with hz0 _; subst hz0
  obtain ⟨l1, hz1, _⟩ := h1
  injection hz1 with hz1 _; subst hz1
  obtain ⟨z2, l2, hz2, ⟨lc2, o2⟩, _⟩ := h2
  injection hz2 with hz2 _; subst hz2
  exact insert_held hT hE hH o0 o2 ht

noncomputable def sem188 : Sem1 := semOf [.val false [.own T_iiis], .val false [.int .i64], .val false [.own T_iiis]] [{ src := .tmp 0, agg := false, ps := [.own T_iiis] }] (fun x => insT x.1 x.2.1 x.2.2.1)
theorem k188 : Known Try.prog 188 sem188 := insert_known (tab_ok tr_ok) (by kernel_rfl)

/-! ### f159: impl.putItem -/
noncomputable def code159 : Code := match Try.f159.body with | some c => c | none => .skip
def ps159 : List AP := [.val false [.own T_iiis], .val true [.int .i64, .int .i64, .int .i64, .str]]
def rs159 : List RP := [{ src := .tmp 4, agg := false, ps := [.own T_iiis] }]
noncomputable def sl159 : SemL := [(188, (.own, .shr, .own, sem188))]
def D159 : Draws := fun id => bif Nat.beq id 2 then .op 0 .any (.op 1 .any (.op 2 .any (.op 3 .any (.op 4 .any (.op 5 .any (.op 6 .any (.op 7 .any (.op 8 .any (.op 9 .take (.op 10 .any (.op 11 .take (.op 12 .any (.op 13 .any (.nil)))))))))))))) else bif Nat.beq id 4 then .op 0 .any (.op 1 .any (.op 2 .any (.op 3 .any (.op 4 .any (.op 5 .any (.op 6 .any (.op 7 .any (.op 8 .any (.op 9 .take (.op 10 .any (.op 11 .take (.op 12 .any (.op 13 .any (.nil)))))))))))))) else .nil
def hp159_0 : List (Option AP) := [some (.val false [.own T_iiis]), none, none, some (.box false [.int .i64, .int .i64, .int .i64, .str]), none, some (.val false [.int .i64]), none, none, none, none, none, none, none, none, none, none, none, none, none, none, none, none, none, none, none, none, none, none, none, none, none, none, none, none, none, none, none, none, none, none, none, none, none]
def e159_0 : List (Option AP) := [some (.val false [.own T_iiis]), none, none, some (.box false [.int .i64, .int .i64, .int .i64, .str]), none, some (.val false [.int .i64]), none, none, none, none, none, none, none, none, none, none, none, none, none, none, none, none, none, none, none, none, none, none, none, none, none, none, none, none, none, none, none, none, none, none, none, none, none]
def q159_0 : List (Option AP) := [none, none, none, none, none, none, none, none, none, none, none, none, none, none, none, none, none, none, none, none, none, none, none, none, none, none, none, none, none, none, none, none, none, none, none, none, none, none, none, none, none, none, none]
abbrev H159_0 : Type := (List R_iiis) × Int × Int × Int × ByteArray × Int × Unit
abbrev E159_0 : Type := (List R_iiis) × Int × Int × Int × ByteArray × Int × Unit
abbrev Q159_0 : Type := Unit
noncomputable def impl_putItem_c0 (list0 : List R_iiis) (m3c0 : Int) (m3c1 : Int) (m3c2 : Int) (m3c3 : ByteArray) (at_5 : Int) : Option (Sum H159_0 (Sum E159_0 Q159_0)) :=
  bif decide (at_5 < ((List.length list0 : Nat) : Int)) then
    bif decide ((0 : Int) ≤ at_5) then bif Nat.blt (Int.toNat at_5) (List.length list0) then Option.bind ((list0)[Int.toNat at_5]?) fun r1 =>
        bif decide (r1.1 < m3c0) then
          some (.inl (list0, m3c0, m3c1, m3c2, m3c3, IntKind.i64.wrap (at_5 + (1 : Int)), ()))
        else
          some (.inr (.inl (list0, m3c0, m3c1, m3c2, m3c3, at_5, ())))
      else none
    else none
  else
    some (.inr (.inl (list0, m3c0, m3c1, m3c2, m3c3, at_5, ())))
noncomputable def impl_putItem_r0 (x : H159_0) : Option (Sum H159_0 (Sum E159_0 Q159_0)) := impl_putItem_c0 x.1 x.2.1 x.2.2.1 x.2.2.2.1 x.2.2.2.2.1 x.2.2.2.2.2.1
noncomputable def L159 {R : Type} : Loops R := fun id _ st k => bif Nat.beq id 0 then loopAt hp159_0 e159_0 q159_0 impl_putItem_r0 st k else none
noncomputable def impl_putItem (list0 : List R_iiis) (m1c0 : Int) (m1c1 : Int) (m1c2 : Int) (m1c3 : ByteArray) : Option ((List R_iiis) × Unit) :=
  outK (loopV impl_putItem_r0 (list0, m1c0, m1c1, m1c2, m1c3, (0 : Int), ())) (fun y1 =>
    bif decide (y1.2.2.2.2.2.1 < ((List.length y1.1 : Nat) : Int)) then
      bif decide ((0 : Int) ≤ y1.2.2.2.2.2.1) then bif Nat.blt (Int.toNat y1.2.2.2.2.2.1) (List.length y1.1) then Option.bind ((y1.1)[Int.toNat y1.2.2.2.2.2.1]?) fun r3 =>
          bif decide (r3.1 = y1.2.1) then
            some (y1.1, ())
          else
            Option.bind (insT y1.1 y1.2.2.2.2.2.1 [(y1.2.1, y1.2.2.1, y1.2.2.2.1, y1.2.2.2.2.1, ())]) fun y4 =>
            some (y4.1, ())
        else none
      else none
    else
      Option.bind (insT y1.1 y1.2.2.2.2.2.1 [(y1.2.1, y1.2.2.1, y1.2.2.2.1, y1.2.2.2.2.1, ())]) fun y5 =>
      some (y5.1, ())) (fun y2 =>
    none)
noncomputable def x159 (x : (List R_iiis) × Int × Int × Int × ByteArray × Unit) : Option ((List R_iiis) × Unit) := impl_putItem x.1 x.2.1 x.2.2.1 x.2.2.2.1 x.2.2.2.2.1
noncomputable def sem159 : Sem1 := semOf ps159 rs159 x159
theorem so159 : SemsOk Try.prog (semsOf sl159) := sems_cons k188 (sems_nil)
noncomputable def b159_0 : Code := nthLoop code159 0
theorem t159_r0_eq (x : denR (headRT hp159_0)) : codeK (tabOf tr) (semsOf sl159) D159 L159 b159_0 (headSt hp159_0 x) (roundK 0 hp159_0 e159_0 q159_0) = impl_putItem_r0 x := by kernel_rfl
theorem loop159_0 {R : Type} (r : R) (w0 : World) (mu : Mu) (hs : AnShape ps159 mu) : LoopAt Try.prog w0 mu 42 (L159 : Loops R) r 0 b159_0 :=
  loop_auto tr_ok eq_ok mixed_ok so159 (D := D159) hs (by kernel_rfl) (fun _ => (loops_of (l := []) (by kernel_rfl) (List.forall_mem_nil _))) t159_r0_eq (fun _ _ => rfl)
theorem t159_eq (x : denR (headRT (ps159.map some))) : codeK (tabOf tr) (semsOf sl159) D159 L159 code159 (start 42 ps159 x) (finK rs159 ps159) = x159 x := by kernel_rfl
theorem k159 : Known Try.prog 159 sem159 :=
  fn_auto tr_ok eq_ok mixed_ok so159 (D := D159) (code := code159) (n := 42) Try.func159 (by kernel_rfl) (by kernel_rfl) (by kernel_rfl) (fun w0 mu _ hs => (loops_of (l := [(0, b159_0)]) (by kernel_rfl) (List.forall_mem_cons.2 ⟨loop159_0 _ w0 mu hs, (List.forall_mem_nil _)⟩))) t159_eq

/-! ### f105: impl.Union -/
noncomputable def code105 : Code := match Try.f105.body with | some c => c | none => .skip
def ps105 : List AP := [.val false [.shr T_LiiisE]]
def rs105 : List RP := [{ src := .tmp 2, agg := false, ps := [.own T_iiis] }]
noncomputable def sl105 : SemL := [(158, (.shr, .shr, .shr, sem158)), (159, (.own, .shr, .shr, sem159))]
def D105 : Draws := fun _ => .nil
def hp105_2 : List (Option AP) := [none, none, none, some (.val false [.own T_iiis]), none, none, none, none, some (.val false [.shr T_LiiisE]), some (.val false [.int .i64]), some (.val false [.int .i64]), none, none, none, none, none, none, some (.val false [.shr T_iiis]), some (.val false [.int .i64]), some (.val false [.int .i64]), none, none, none, none, none, none, none, none, none, none]
def e105_2 : List (Option AP) := [none, none, none, some (.val false [.own T_iiis]), none, none, none, none, some (.val false [.shr T_LiiisE]), some (.val false [.int .i64]), some (.val false [.int .i64]), none, none, none, none, none, none, none, none, none, none, none, none, none, none, none, none, none, none, none]
def q105_2 : List (Option AP) := [none, none, none, none, none, none, none, none, none, none, none, none, none, none, none, none, none, none, none, none, none, none, none, none, none, none, none, none, none, none]
abbrev H105_2 : Type := (List R_iiis) × (List ((List R_iiis) × Unit)) × Int × Int × (List R_iiis) × Int × Int × Unit
abbrev E105_2 : Type := (List R_iiis) × (List ((List R_iiis) × Unit)) × Int × Int × Unit
abbrev Q105_2 : Type := Unit
noncomputable def impl_Union_c2 (out3 : List R_iiis) (t8 : List ((List R_iiis) × Unit)) (t9 : Int) (t10 : Int) (t17 : List R_iiis) (t18 : Int) (t19 : Int) : Option (Sum H105_2 (Sum E105_2 Q105_2)) :=
  bif decide (t19 < t18) then
    bif decide ((0 : Int) ≤ t19) then Option.bind ((t17)[Int.toNat t19]?) fun r3 =>
      Option.bind (impl_putItem out3 r3.1 r3.2.1 r3.2.2.1 r3.2.2.2.1) fun y4 =>
      some (.inl (y4.1, t8, t9, t10, t17, t18, IntKind.i64.wrap (t19 + (1 : Int)), ()))
    else none
  else
    some (.inr (.inl (out3, t8, t9, t10, ())))
noncomputable def impl_Union_r2 (x : H105_2) : Option (Sum H105_2 (Sum E105_2 Q105_2)) := impl_Union_c2 x.1 x.2.1 x.2.2.1 x.2.2.2.1 x.2.2.2.2.1 x.2.2.2.2.2.1 x.2.2.2.2.2.2.1
def hp105_0 : List (Option AP) := [none, none, none, some (.val false [.own T_iiis]), none, none, none, none, some (.val false [.shr T_LiiisE]), some (.val false [.int .i64]), some (.val false [.int .i64]), none, none, none, none, none, none, none, none, none, none, none, none, none, none, none, none, none, none, none]
def e105_0 : List (Option AP) := [none, none, none, some (.val false [.own T_iiis]), none, none, none, none, none, none, none, none, none, none, none, none, none, none, none, none, none, none, none, none, none, none, none, none, none, none]
def q105_0 : List (Option AP) := [none, none, none, none, none, none, none, none, none, none, none, none, none, none, none, none, none, none, none, none, none, none, none, none, none, none, none, none, none, none]
abbrev H105_0 : Type := (List R_iiis) × (List ((List R_iiis) × Unit)) × Int × Int × Unit
abbrev E105_0 : Type := (List R_iiis) × Unit
abbrev Q105_0 : Type := Unit
noncomputable def impl_Union_c0 (out3 : List R_iiis) (t8 : List ((List R_iiis) × Unit)) (t9 : Int) (t10 : Int) : Option (Sum H105_0 (Sum E105_0 Q105_0)) :=
  bif decide (t10 < t9) then
    bif decide ((0 : Int) ≤ t10) then Option.bind ((t8)[Int.toNat t10]?) fun r1 =>
      Option.bind (impl_ItemsOk r1.1) fun y2 =>
      bif !y2.1 then
        some (.inl (out3, t8, t9, IntKind.i64.wrap (t10 + (1 : Int)), ()))
      else
        outK (loopV impl_Union_r2 (out3, t8, t9, t10, r1.1, ((List.length r1.1 : Nat) : Int), (0 : Int), ())) (fun y5 =>
          some (.inl (y5.1, y5.2.1, y5.2.2.1, IntKind.i64.wrap (y5.2.2.2.1 + (1 : Int)), ()))) (fun y6 =>
          some (.inr (.inr (()))))
    else none
  else
    some (.inr (.inl (out3, ())))
noncomputable def impl_Union_r0 (x : H105_0) : Option (Sum H105_0 (Sum E105_0 Q105_0)) := impl_Union_c0 x.1 x.2.1 x.2.2.1 x.2.2.2.1
noncomputable def L105 {R : Type} : Loops R := fun id _ st k => bif Nat.beq id 2 then loopAt hp105_2 e105_2 q105_2 impl_Union_r2 st k else bif Nat.beq id 0 then loopAt hp105_0 e105_0 q105_0 impl_Union_r0 st k else none
noncomputable def impl_Union (lists0 : List ((List R_iiis) × Unit)) : Option ((List R_iiis) × Unit) :=
  outK (loopV impl_Union_r0 ([], lists0, ((List.length lists0 : Nat) : Int), (0 : Int), ())) (fun y1 =>
    some (y1.1, ())) (fun y2 =>
    none)
noncomputable def x105 (x : (List ((List R_iiis) × Unit)) × Unit) : Option ((List R_iiis) × Unit) := impl_Union x.1
noncomputable def sem105 : Sem1 := semOf ps105 rs105 x105
theorem so105 : SemsOk Try.prog (semsOf sl105) := sems_cons k158 (sems_cons k159 (sems_nil))
noncomputable def b105_0 : Code := nthLoop code105 0
noncomputable def b105_2 : Code := nthLoop b105_0 0
theorem t105_r2_eq (x : denR (headRT hp105_2)) : codeK (tabOf tr) (semsOf sl105) D105 L105 b105_2 (headSt hp105_2 x) (roundK 2 hp105_2 e105_2 q105_2) = impl_Union_r2 x := by kernel_rfl
theorem loop105_2 {R : Type} (r : R) (w0 : World) (mu : Mu) (hs : AnShape ps105 mu) : LoopAt Try.prog w0 mu 29 (L105 : Loops R) r 2 b105_2 :=
  loop_auto tr_ok eq_ok mixed_ok so105 (D := D105) hs (by kernel_rfl) (fun _ => (loops_of (l := []) (by kernel_rfl) (List.forall_mem_nil _))) t105_r2_eq (fun _ _ => rfl)
theorem t105_r0_eq (x : denR (headRT hp105_0)) : codeK (tabOf tr) (semsOf sl105) D105 L105 b105_0 (headSt hp105_0 x) (roundK 0 hp105_0 e105_0 q105_0) = impl_Union_r0 x := by kernel_rfl
theorem loop105_0 {R : Type} (r : R) (w0 : World) (mu : Mu) (hs : AnShape ps105 mu) : LoopAt Try.prog w0 mu 29 (L105 : Loops R) r 0 b105_0 :=
  loop_auto tr_ok eq_ok mixed_ok so105 (D := D105) hs (by kernel_rfl) (fun _ => (loops_of (l := [(2, b105_2)]) (by kernel_rfl) (List.forall_mem_cons.2 ⟨loop105_2 _ w0 mu hs, (List.forall_mem_nil _)⟩))) t105_r0_eq (fun _ _ => rfl)
theorem t105_eq (x : denR (headRT (ps105.map some))) : codeK (tabOf tr) (semsOf sl105) D105 L105 code105 (start 29 ps105 x) (finK rs105 ps105) = x105 x := by kernel_rfl
theorem k105 : Known Try.prog 105 sem105 :=
  fn_auto tr_ok eq_ok mixed_ok so105 (D := D105) (code := code105) (n := 29) Try.func105 (by kernel_rfl) (by kernel_rfl) (by kernel_rfl) (fun w0 mu _ hs => (loops_of (l := [(0, b105_0)]) (by kernel_rfl) (List.forall_mem_cons.2 ⟨loop105_0 _ w0 mu hs, (List.forall_mem_nil _)⟩))) t105_eq

/-! ### f187: impl.ItemAt -/
noncomputable def code187 : Code := match Try.f187.body with | some c => c | none => .skip
def ps187 : List AP := [.val false [.shr T_iiis], .val false [.int .i64]]
def rs187 : List RP := [{ src := .cell 4, agg := true, ps := [.int .i64, .int .i64, .int .i64, .str] }, { src := .tmp 5, agg := false, ps := [.bool] }]
noncomputable def sl187 : SemL := []
def D187 : Draws := fun _ => .nil
def hp187_0 : List (Option AP) := [none, some (.val false [.int .i64]), none, none, some (.box false [.int .i64, .int .i64, .int .i64, .str]), none, none, none, some (.val false [.shr T_iiis]), some (.val false [.int .i64]), some (.val false [.int .i64]), none, none, none, none, none, none, none, none, none, none, none]
def e187_0 : List (Option AP) := [none, none, none, none, some (.box false [.int .i64, .int .i64, .int .i64, .str]), none, none, none, none, none, none, none, none, none, none, none, none, none, none, none, none, none]
def q187_0 : List (Option AP) := [none, none, none, none, some (.box false [.int .i64, .int .i64, .int .i64, .str]), some (.val false [.bool]), none, none, none, none, none, none, none, none, none, none, none, none, none, none, none, none]
abbrev H187_0 : Type := Int × Int × Int × Int × ByteArray × (List R_iiis) × Int × Int × Unit
abbrev E187_0 : Type := Int × Int × Int × ByteArray × Unit
abbrev Q187_0 : Type := Int × Int × Int × ByteArray × Bool × Unit
noncomputable def impl_ItemAt_c0 (seq1 : Int) (t4c0 : Int) (t4c1 : Int) (t4c2 : Int) (t4c3 : ByteArray) (t8 : List R_iiis) (t9 : Int) (t10 : Int) : Option (Sum H187_0 (Sum E187_0 Q187_0)) :=
  bif decide (t10 < t9) then
    bif decide ((0 : Int) ≤ t10) then Option.bind ((t8)[Int.toNat t10]?) fun r1 =>
      bif decide (r1.1 = seq1) then
        some (.inr (.inr (r1.1, r1.2.1, r1.2.2.1, r1.2.2.2.1, true, ())))
      else
        some (.inl (seq1, t4c0, t4c1, t4c2, t4c3, t8, t9, IntKind.i64.wrap (t10 + (1 : Int)), ()))
    else none
  else
    some (.inr (.inl (t4c0, t4c1, t4c2, t4c3, ())))
noncomputable def impl_ItemAt_r0 (x : H187_0) : Option (Sum H187_0 (Sum E187_0 Q187_0)) := impl_ItemAt_c0 x.1 x.2.1 x.2.2.1 x.2.2.2.1 x.2.2.2.2.1 x.2.2.2.2.2.1 x.2.2.2.2.2.2.1 x.2.2.2.2.2.2.2.1
noncomputable def L187 {R : Type} : Loops R := fun id _ st k => bif Nat.beq id 0 then loopAt hp187_0 e187_0 q187_0 impl_ItemAt_r0 st k else none
noncomputable def impl_ItemAt (list0 : List R_iiis) (seq1 : Int) : Option (Int × Int × Int × ByteArray × Bool × Unit) :=
  outK (loopV impl_ItemAt_r0 (seq1, (0 : Int), (0 : Int), (0 : Int), ByteArray.empty, list0, ((List.length list0 : Nat) : Int), (0 : Int), ())) (fun y1 =>
    some ((0 : Int), (0 : Int), (0 : Int), ByteArray.empty, false, ())) (fun y2 =>
    some (y2.1, y2.2.1, y2.2.2.1, y2.2.2.2.1, y2.2.2.2.2.1, ()))
noncomputable def x187 (x : (List R_iiis) × Int × Unit) : Option (Int × Int × Int × ByteArray × Bool × Unit) := impl_ItemAt x.1 x.2.1
noncomputable def sem187 : Sem1 := semOf ps187 rs187 x187
theorem so187 : SemsOk Try.prog (semsOf sl187) := sems_nil
noncomputable def b187_0 : Code := nthLoop code187 0
theorem t187_r0_eq (x : denR (headRT hp187_0)) : codeK (tabOf tr) (semsOf sl187) D187 L187 b187_0 (headSt hp187_0 x) (roundK 0 hp187_0 e187_0 q187_0) = impl_ItemAt_r0 x := by kernel_rfl
theorem loop187_0 {R : Type} (r : R) (w0 : World) (mu : Mu) (hs : AnShape ps187 mu) : LoopAt Try.prog w0 mu 21 (L187 : Loops R) r 0 b187_0 :=
  loop_auto tr_ok eq_ok mixed_ok so187 (D := D187) hs (by kernel_rfl) (fun _ => (loops_of (l := []) (by kernel_rfl) (List.forall_mem_nil _))) t187_r0_eq (fun _ _ => rfl)
theorem t187_eq (x : denR (headRT (ps187.map some))) : codeK (tabOf tr) (semsOf sl187) D187 L187 code187 (start 21 ps187 x) (finK rs187 ps187) = x187 x := by kernel_rfl
theorem k187 : Known Try.prog 187 sem187 :=
  fn_auto tr_ok eq_ok mixed_ok so187 (D := D187) (code := code187) (n := 21) Try.func187 (by kernel_rfl) (by kernel_rfl) (by kernel_rfl) (fun w0 mu _ hs => (loops_of (l := [(0, b187_0)]) (by kernel_rfl) (List.forall_mem_cons.2 ⟨loop187_0 _ w0 mu hs, (List.forall_mem_nil _)⟩))) t187_eq

/-! ### f157: impl.AruOf -/
noncomputable def code157 : Code := match Try.f157.body with | some c => c | none => .skip
def ps157 : List AP := [.val false [.shr T_iiis]]
def rs157 : List RP := [{ src := .tmp 2, agg := false, ps := [.int .i64] }]
noncomputable def sl157 : SemL := [(187, (.shr, .shr, .shr, sem187))]
def D157 : Draws := fun _ => .nil
def hp157_0 : List (Option AP) := [some (.val false [.shr T_iiis]), none, none, some (.val false [.int .i64]), none, none, none, none, none, none, none, none, none, none, none, none, none, none, none]
def e157_0 : List (Option AP) := [none, none, none, none, none, none, none, none, none, none, none, none, none, none, none, none, none, none, none]
def q157_0 : List (Option AP) := [none, none, some (.val false [.int .i64]), none, none, none, none, none, none, none, none, none, none, none, none, none, none, none, none]
abbrev H157_0 : Type := (List R_iiis) × Int × Unit
abbrev E157_0 : Type := Unit
abbrev Q157_0 : Type := Int × Unit
noncomputable def impl_AruOf_c0 (list0 : List R_iiis) (aru3 : Int) : Option (Sum H157_0 (Sum E157_0 Q157_0)) :=
  Option.bind (impl_ItemAt list0 (IntKind.i64.wrap (aru3 + (1 : Int)))) fun y1 =>
  bif !y1.2.2.2.2.1 then
    some (.inr (.inr (aru3, ())))
  else
    some (.inl (list0, IntKind.i64.wrap (aru3 + (1 : Int)), ()))
noncomputable def impl_AruOf_r0 (x : H157_0) : Option (Sum H157_0 (Sum E157_0 Q157_0)) := impl_AruOf_c0 x.1 x.2.1
noncomputable def L157 {R : Type} : Loops R := fun id _ st k => bif Nat.beq id 0 then loopAt hp157_0 e157_0 q157_0 impl_AruOf_r0 st k else none
noncomputable def impl_AruOf (list0 : List R_iiis) : Option (Int × Unit) :=
  outK (loopV impl_AruOf_r0 (list0, (0 : Int), ())) (fun y1 =>
    none) (fun y2 =>
    some (y2.1, ()))
noncomputable def x157 (x : (List R_iiis) × Unit) : Option (Int × Unit) := impl_AruOf x.1
noncomputable def sem157 : Sem1 := semOf ps157 rs157 x157
theorem so157 : SemsOk Try.prog (semsOf sl157) := sems_cons k187 (sems_nil)
noncomputable def b157_0 : Code := nthLoop code157 0
theorem t157_r0_eq (x : denR (headRT hp157_0)) : codeK (tabOf tr) (semsOf sl157) D157 L157 b157_0 (headSt hp157_0 x) (roundK 0 hp157_0 e157_0 q157_0) = impl_AruOf_r0 x := by kernel_rfl
theorem loop157_0 {R : Type} (r : R) (w0 : World) (mu : Mu) (hs : AnShape ps157 mu) : LoopAt Try.prog w0 mu 18 (L157 : Loops R) r 0 b157_0 :=
  loop_auto tr_ok eq_ok mixed_ok so157 (D := D157) hs (by kernel_rfl) (fun _ => (loops_of (l := []) (by kernel_rfl) (List.forall_mem_nil _))) t157_r0_eq (fun _ _ => rfl)
theorem t157_eq (x : denR (headRT (ps157.map some))) : codeK (tabOf tr) (semsOf sl157) D157 L157 code157 (start 18 ps157 x) (finK rs157 ps157) = x157 x := by kernel_rfl
theorem k157 : Known Try.prog 157 sem157 :=
  fn_auto tr_ok eq_ok mixed_ok so157 (D := D157) (code := code157) (n := 18) Try.func157 (by kernel_rfl) (by kernel_rfl) (by kernel_rfl) (fun w0 mu _ hs => (loops_of (l := [(0, b157_0)]) (by kernel_rfl) (List.forall_mem_cons.2 ⟨loop157_0 _ w0 mu hs, (List.forall_mem_nil _)⟩))) t157_eq

/-! ### f104: impl.Whole -/
noncomputable def code104 : Code := match Try.f104.body with | some c => c | none => .skip
def ps104 : List AP := [.val false [.shr T_iiis]]
def rs104 : List RP := [{ src := .tmp 2, agg := false, ps := [.own T_iiis] }]
noncomputable def sl104 : SemL := [(157, (.shr, .shr, .shr, sem157))]
def D104 : Draws := fun _ => .nil
def hp104_0 : List (Option AP) := [none, none, none, some (.val false [.int .i64]), some (.val false [.own T_iiis]), none, none, none, none, some (.val false [.shr T_iiis]), some (.val false [.int .i64]), some (.val false [.int .i64]), none, none, none, none, none, none, none, none, none, none, none, none, none, none]
def e104_0 : List (Option AP) := [none, none, none, none, some (.val false [.own T_iiis]), none, none, none, none, none, none, none, none, none, none, none, none, none, none, none, none, none, none, none, none, none]
def q104_0 : List (Option AP) := [none, none, none, none, none, none, none, none, none, none, none, none, none, none, none, none, none, none, none, none, none, none, none, none, none, none]
abbrev H104_0 : Type := Int × (List R_iiis) × (List R_iiis) × Int × Int × Unit
abbrev E104_0 : Type := (List R_iiis) × Unit
abbrev Q104_0 : Type := Unit
noncomputable def impl_Whole_c0 (aru3 : Int) (out4 : List R_iiis) (t9 : List R_iiis) (t10 : Int) (t11 : Int) : Option (Sum H104_0 (Sum E104_0 Q104_0)) :=
  bif decide (t11 < t10) then
    bif decide ((0 : Int) ≤ t11) then Option.bind ((t9)[Int.toNat t11]?) fun r2 =>
      bif decide (r2.1 ≤ aru3) then
        bif Nat.ble (((List.length out4) + 1) * 40) lim then some (.inl (aru3, out4 ++ [(r2.1, r2.2.1, r2.2.2.1, r2.2.2.2.1, ())], t9, t10, IntKind.i64.wrap (t11 + (1 : Int)), ()))
        else none
      else
        some (.inl (aru3, out4, t9, t10, IntKind.i64.wrap (t11 + (1 : Int)), ()))
    else none
  else
    some (.inr (.inl (out4, ())))
noncomputable def impl_Whole_r0 (x : H104_0) : Option (Sum H104_0 (Sum E104_0 Q104_0)) := impl_Whole_c0 x.1 x.2.1 x.2.2.1 x.2.2.2.1 x.2.2.2.2.1
noncomputable def L104 {R : Type} : Loops R := fun id _ st k => bif Nat.beq id 0 then loopAt hp104_0 e104_0 q104_0 impl_Whole_r0 st k else none
noncomputable def impl_Whole (list0 : List R_iiis) : Option ((List R_iiis) × Unit) :=
  Option.bind (impl_AruOf list0) fun y1 =>
  outK (loopV impl_Whole_r0 (y1.1, [], list0, ((List.length list0 : Nat) : Int), (0 : Int), ())) (fun y2 =>
    some (y2.1, ())) (fun y3 =>
    none)
noncomputable def x104 (x : (List R_iiis) × Unit) : Option ((List R_iiis) × Unit) := impl_Whole x.1
noncomputable def sem104 : Sem1 := semOf ps104 rs104 x104
theorem so104 : SemsOk Try.prog (semsOf sl104) := sems_cons k157 (sems_nil)
noncomputable def b104_0 : Code := nthLoop code104 0
theorem t104_r0_eq (x : denR (headRT hp104_0)) : codeK (tabOf tr) (semsOf sl104) D104 L104 b104_0 (headSt hp104_0 x) (roundK 0 hp104_0 e104_0 q104_0) = impl_Whole_r0 x := by kernel_rfl
theorem loop104_0 {R : Type} (r : R) (w0 : World) (mu : Mu) (hs : AnShape ps104 mu) : LoopAt Try.prog w0 mu 25 (L104 : Loops R) r 0 b104_0 :=
  loop_auto tr_ok eq_ok mixed_ok so104 (D := D104) hs (by kernel_rfl) (fun _ => (loops_of (l := []) (by kernel_rfl) (List.forall_mem_nil _))) t104_r0_eq (fun _ _ => rfl)
theorem t104_eq (x : denR (headRT (ps104.map some))) : codeK (tabOf tr) (semsOf sl104) D104 L104 code104 (start 25 ps104 x) (finK rs104 ps104) = x104 x := by kernel_rfl
theorem k104 : Known Try.prog 104 sem104 :=
  fn_auto tr_ok eq_ok mixed_ok so104 (D := D104) (code := code104) (n := 25) Try.func104 (by kernel_rfl) (by kernel_rfl) (by kernel_rfl) (fun w0 mu _ hs => (loops_of (l := [(0, b104_0)]) (by kernel_rfl) (List.forall_mem_cons.2 ⟨loop104_0 _ w0 mu hs, (List.forall_mem_nil _)⟩))) t104_eq

/-! ### f31: impl.Rest -/
noncomputable def code31 : Code := match Try.f31.body with | some c => c | none => .skip
def ps31 : List AP := [.val true [.int .i64, .shr T_i], .val false [.shr T_iiiLiiisE], .val false [.int .i64], .val false [.int .i64]]
def rs31 : List RP := [{ src := .tmp 8, agg := false, ps := [.own T_iiis] }]
noncomputable def sl31 : SemL := [(102, (.shr, .shr, .shr, sem102)), (103, (.shr, .shr, .shr, sem103)), (105, (.shr, .shr, .shr, sem105)), (104, (.shr, .shr, .shr, sem104))]
def D31 : Draws := fun _ => .nil
def hp31_0 : List (Option AP) := [none, some (.val false [.shr T_iiiLiiisE]), none, some (.val false [.int .i64]), some (.box false [.int .i64, .shr T_i]), none, none, none, none, none, none, some (.val false [.own T_LiiisE]), none, none, none, none, none, none, none, none, none, none, none, none, none, none, none, none, none, none, none, none, none, none, none, none, some (.val false [.own T_i]), some (.val false [.int .i64]), some (.val false [.int .i64]), none, none, none, none, none, none, none, none, none, none, none, none, none, none, none, none, none, none, none, none, none, none, none, none, none, none, none, none, none, none, none, none, none, none, none]
def e31_0 : List (Option AP) := [none, none, none, some (.val false [.int .i64]), none, none, none, none, none, none, none, some (.val false [.own T_LiiisE]), none, none, none, none, none, none, none, none, none, none, none, none, none, none, none, none, none, none, none, none, none, none, none, none, none, none, none, none, none, none, none, none, none, none, none, none, none, none, none, none, none, none, none, none, none, none, none, none, none, none, none, none, none, none, none, none, none, none, none, none, none, none]
def q31_0 : List (Option AP) := [none, none, none, none, none, none, none, none, none, none, none, none, none, none, none, none, none, none, none, none, none, none, none, none, none, none, none, none, none, none, none, none, none, none, none, none, none, none, none, none, none, none, none, none, none, none, none, none, none, none, none, none, none, none, none, none, none, none, none, none, none, none, none, none, none, none, none, none, none, none, none, none, none, none]
abbrev H31_0 : Type := (List R_iiiLiiisE) × Int × Int × (List (Int × Unit)) × (List ((List R_iiis) × Unit)) × (List (Int × Unit)) × Int × Int × Unit
abbrev E31_0 : Type := Int × (List ((List R_iiis) × Unit)) × Unit
abbrev Q31_0 : Type := Unit
noncomputable def impl_Rest_c0 (list1 : List R_iiiLiiisE) (heard3 : Int) (r4c0 : Int) (r4c1 : List (Int × Unit)) (lists11 : List ((List R_iiis) × Unit)) (t36 : List (Int × Unit)) (t37 : Int) (t38 : Int) : Option (Sum H31_0 (Sum E31_0 Q31_0)) :=
  bif decide (t38 < t37) then
    bif decide ((0 : Int) ≤ t38) then bif Nat.blt (Int.toNat t38) (List.length t36) then Option.bind ((t36)[Int.toNat t38]?) fun r3 =>
        Option.bind (impl_bundleOf r4c0 r4c1 list1 r3.1) fun y4 =>
        bif Nat.ble (((List.length lists11) + 1) * 24) lim then some (.inl (list1, heard3, r4c0, r4c1, lists11 ++ [(y4.2.2.2.1, ())], t36, t37, IntKind.i64.wrap (t38 + (1 : Int)), ()))
        else none
      else none
    else none
  else
    some (.inr (.inl (heard3, lists11, ())))
noncomputable def impl_Rest_r0 (x : H31_0) : Option (Sum H31_0 (Sum E31_0 Q31_0)) := impl_Rest_c0 x.1 x.2.1 x.2.2.1 x.2.2.2.1 x.2.2.2.2.1 x.2.2.2.2.2.1 x.2.2.2.2.2.2.1 x.2.2.2.2.2.2.2.1
def hp31_2 : List (Option AP) := [none, none, none, some (.val false [.int .i64]), none, none, none, none, none, none, none, none, none, none, none, none, some (.val false [.own T_iiis]), none, none, none, none, none, none, none, none, none, none, none, none, none, none, none, none, none, none, none, none, none, none, none, none, none, none, none, none, none, none, none, none, none, none, none, none, none, none, none, none, some (.val false [.own T_iiis]), some (.val false [.int .i64]), some (.val false [.int .i64]), none, none, none, none, none, none, none, none, none, none, none, none, none, none]
def e31_2 : List (Option AP) := [none, none, none, none, none, none, none, none, none, none, none, none, none, none, none, none, some (.val false [.own T_iiis]), none, none, none, none, none, none, none, none, none, none, none, none, none, none, none, none, none, none, none, none, none, none, none, none, none, none, none, none, none, none, none, none, none, none, none, none, none, none, none, none, none, none, none, none, none, none, none, none, none, none, none, none, none, none, none, none, none]
def q31_2 : List (Option AP) := [none, none, none, none, none, none, none, none, none, none, none, none, none, none, none, none, none, none, none, none, none, none, none, none, none, none, none, none, none, none, none, none, none, none, none, none, none, none, none, none, none, none, none, none, none, none, none, none, none, none, none, none, none, none, none, none, none, none, none, none, none, none, none, none, none, none, none, none, none, none, none, none, none, none]
abbrev H31_2 : Type := Int × (List R_iiis) × (List R_iiis) × Int × Int × Unit
abbrev E31_2 : Type := (List R_iiis) × Unit
abbrev Q31_2 : Type := Unit
noncomputable def impl_Rest_c2 (heard3 : Int) (out16 : List R_iiis) (t57 : List R_iiis) (t58 : Int) (t59 : Int) : Option (Sum H31_2 (Sum E31_2 Q31_2)) :=
  bif decide (t59 < t58) then
    bif decide ((0 : Int) ≤ t59) then bif Nat.blt (Int.toNat t59) (List.length t57) then Option.bind ((t57)[Int.toNat t59]?) fun r9 =>
        bif decide (heard3 < r9.1) then
          bif Nat.ble (((List.length out16) + 1) * 40) lim then some (.inl (heard3, out16 ++ [(r9.1, r9.2.1, r9.2.2.1, r9.2.2.2.1, ())], t57, t58, IntKind.i64.wrap (t59 + (1 : Int)), ()))
          else none
        else
          some (.inl (heard3, out16, t57, t58, IntKind.i64.wrap (t59 + (1 : Int)), ()))
      else none
    else none
  else
    some (.inr (.inl (out16, ())))
noncomputable def impl_Rest_r2 (x : H31_2) : Option (Sum H31_2 (Sum E31_2 Q31_2)) := impl_Rest_c2 x.1 x.2.1 x.2.2.1 x.2.2.2.1 x.2.2.2.2.1
noncomputable def L31 {R : Type} : Loops R := fun id _ st k => bif Nat.beq id 0 then loopAt hp31_0 e31_0 q31_0 impl_Rest_r0 st k else bif Nat.beq id 2 then loopAt hp31_2 e31_2 q31_2 impl_Rest_r2 st k else none
noncomputable def impl_Rest (r0c0 : Int) (r0c1 : List (Int × Unit)) (list1 : List R_iiiLiiisE) (id2 : Int) (heard3 : Int) : Option ((List R_iiis) × Unit) :=
  Option.bind (impl_bundleOf r0c0 r0c1 list1 id2) fun y1 =>
  bif !y1.2.2.2.2.1 then
    some ([], ())
  else bif decide (y1.2.2.1 = (0 : Int)) then
    some ([], ())
  else
    Option.bind (impl_TogetherWith r0c0 r0c1 list1 id2) fun y2 =>
    outK (loopV impl_Rest_r0 (list1, heard3, r0c0, r0c1, [], y2.1, ((List.length y2.1 : Nat) : Int), (0 : Int), ())) (fun y3 =>
      Option.bind (impl_Union y3.2.1) fun y5 =>
      Option.bind (impl_Whole y5.1) fun y6 =>
      outK (loopV impl_Rest_r2 (y3.1, [], y6.1, ((List.length y6.1 : Nat) : Int), (0 : Int), ())) (fun y7 =>
        some (y7.1, ())) (fun y8 =>
        none)) (fun y4 =>
      none)
noncomputable def x31 (x : Int × (List (Int × Unit)) × (List R_iiiLiiisE) × Int × Int × Unit) : Option ((List R_iiis) × Unit) := impl_Rest x.1 x.2.1 x.2.2.1 x.2.2.2.1 x.2.2.2.2.1
noncomputable def sem31 : Sem1 := semOf ps31 rs31 x31
theorem so31 : SemsOk Try.prog (semsOf sl31) := sems_cons k102 (sems_cons k103 (sems_cons k105 (sems_cons k104 (sems_nil))))
noncomputable def b31_2 : Code := nthLoop code31 1
noncomputable def b31_0 : Code := nthLoop code31 0
theorem t31_r0_eq (x : denR (headRT hp31_0)) : codeK (tabOf tr) (semsOf sl31) D31 L31 b31_0 (headSt hp31_0 x) (roundK 0 hp31_0 e31_0 q31_0) = impl_Rest_r0 x := by kernel_rfl
theorem loop31_0 {R : Type} (r : R) (w0 : World) (mu : Mu) (hs : AnShape ps31 mu) : LoopAt Try.prog w0 mu 73 (L31 : Loops R) r 0 b31_0 :=
  loop_auto tr_ok eq_ok mixed_ok so31 (D := D31) hs (by kernel_rfl) (fun _ => (loops_of (l := []) (by kernel_rfl) (List.forall_mem_nil _))) t31_r0_eq (fun _ _ => rfl)
theorem t31_r2_eq (x : denR (headRT hp31_2)) : codeK (tabOf tr) (semsOf sl31) D31 L31 b31_2 (headSt hp31_2 x) (roundK 2 hp31_2 e31_2 q31_2) = impl_Rest_r2 x := by kernel_rfl
theorem loop31_2 {R : Type} (r : R) (w0 : World) (mu : Mu) (hs : AnShape ps31 mu) : LoopAt Try.prog w0 mu 73 (L31 : Loops R) r 2 b31_2 :=
  loop_auto tr_ok eq_ok mixed_ok so31 (D := D31) hs (by kernel_rfl) (fun _ => (loops_of (l := []) (by kernel_rfl) (List.forall_mem_nil _))) t31_r2_eq (fun _ _ => rfl)
theorem t31_eq (x : denR (headRT (ps31.map some))) : codeK (tabOf tr) (semsOf sl31) D31 L31 code31 (start 73 ps31 x) (finK rs31 ps31) = x31 x := by kernel_rfl
theorem k31 : Known Try.prog 31 sem31 :=
  fn_auto tr_ok eq_ok mixed_ok so31 (D := D31) (code := code31) (n := 73) Try.func31 (by kernel_rfl) (by kernel_rfl) (by kernel_rfl) (fun w0 mu _ hs => (loops_of (l := [(0, b31_0), (2, b31_2)]) (by kernel_rfl) (List.forall_mem_cons.2 ⟨loop31_0 _ w0 mu hs, (List.forall_mem_cons.2 ⟨loop31_2 _ w0 mu hs, (List.forall_mem_nil _)⟩)⟩))) t31_eq

/-! ### f106: laws.eqItem -/
noncomputable def code106 : Code := match Try.f106.body with | some c => c | none => .skip
def ps106 : List AP := [.val true [.int .i64, .int .i64, .int .i64, .str], .val true [.int .i64, .int .i64, .int .i64, .str]]
def rs106 : List RP := [{ src := .tmp 4, agg := false, ps := [.bool] }]
noncomputable def sl106 : SemL := []
def D106 : Draws := fun _ => .nil
noncomputable def L106 {R : Type} : Loops R := fun _ _ _ _ => none
noncomputable def laws_eqItem (a0c0 : Int) (a0c1 : Int) (a0c2 : Int) (a0c3 : ByteArray) (b1c0 : Int) (b1c1 : Int) (b1c2 : Int) (b1c3 : ByteArray) : Option (Bool × Unit) :=
  bif !decide (a0c0 = b1c0) then
    some (false, ())
  else bif !decide (a0c1 = b1c1) then
    some (false, ())
  else bif !decide (a0c2 = b1c2) then
    some (false, ())
  else bif !strEq a0c3 b1c3 then
    some (false, ())
  else
    some (true, ())
noncomputable def x106 (x : Int × Int × Int × ByteArray × Int × Int × Int × ByteArray × Unit) : Option (Bool × Unit) := laws_eqItem x.1 x.2.1 x.2.2.1 x.2.2.2.1 x.2.2.2.2.1 x.2.2.2.2.2.1 x.2.2.2.2.2.2.1 x.2.2.2.2.2.2.2.1
noncomputable def sem106 : Sem1 := semOf ps106 rs106 x106
theorem so106 : SemsOk Try.prog (semsOf sl106) := sems_nil
theorem t106_eq (x : denR (headRT (ps106.map some))) : codeK (tabOf tr) (semsOf sl106) D106 L106 code106 (start 25 ps106 x) (finK rs106 ps106) = x106 x := by kernel_rfl
theorem k106 : Known Try.prog 106 sem106 :=
  fn_auto tr_ok eq_ok mixed_ok so106 (D := D106) (code := code106) (n := 25) Try.func106 (by kernel_rfl) (by kernel_rfl) (by kernel_rfl) (fun w0 mu _ hs => (loops_of (l := []) (by kernel_rfl) (List.forall_mem_nil _))) t106_eq

/-! ### f32: laws.eqItemS -/
noncomputable def code32 : Code := match Try.f32.body with | some c => c | none => .skip
def ps32 : List AP := [.val false [.shr T_iiis], .val false [.shr T_iiis]]
def rs32 : List RP := [{ src := .tmp 4, agg := false, ps := [.bool] }]
noncomputable def sl32 : SemL := [(106, (.shr, .shr, .shr, sem106))]
def D32 : Draws := fun id => bif Nat.beq id 6 then .op 0 .any (.op 1 .any (.op 2 .any (.op 3 .take (.op 4 .any (.op 5 .any (.op 6 .any (.op 7 .take (.op 8 .one (.op 9 .any (.nil)))))))))) else .nil
def hp32_0 : List (Option AP) := [some (.val false [.shr T_iiis]), some (.val false [.shr T_iiis]), none, none, none, some (.val false [.int .i64]), none, none, none, none, none, none, none, none, none, none, none, none, none, none, none, none, none, none, none, none, none, none]
def e32_0 : List (Option AP) := [none, none, none, none, none, none, none, none, none, none, none, none, none, none, none, none, none, none, none, none, none, none, none, none, none, none, none, none]
def q32_0 : List (Option AP) := [none, none, none, none, some (.val false [.bool]), none, none, none, none, none, none, none, none, none, none, none, none, none, none, none, none, none, none, none, none, none, none, none]
abbrev H32_0 : Type := (List R_iiis) × (List R_iiis) × Int × Unit
abbrev E32_0 : Type := Unit
abbrev Q32_0 : Type := Bool × Unit
noncomputable def laws_eqItemS_c0 (a0 : List R_iiis) (b1 : List R_iiis) (i5 : Int) : Option (Sum H32_0 (Sum E32_0 Q32_0)) :=
  bif decide (i5 < ((List.length a0 : Nat) : Int)) then
    bif decide ((0 : Int) ≤ i5) then Option.bind ((a0)[Int.toNat i5]?) fun r1 =>
      bif decide ((0 : Int) ≤ i5) then Option.bind ((b1)[Int.toNat i5]?) fun r2 =>
        Option.bind (laws_eqItem r1.1 r1.2.1 r1.2.2.1 r1.2.2.2.1 r2.1 r2.2.1 r2.2.2.1 r2.2.2.2.1) fun y3 =>
        bif !y3.1 then
          some (.inr (.inr (false, ())))
        else
          some (.inl (a0, b1, IntKind.i64.wrap (i5 + (1 : Int)), ()))
      else none
    else none
  else
    some (.inr (.inl (())))
noncomputable def laws_eqItemS_r0 (x : H32_0) : Option (Sum H32_0 (Sum E32_0 Q32_0)) := laws_eqItemS_c0 x.1 x.2.1 x.2.2.1
noncomputable def L32 {R : Type} : Loops R := fun id _ st k => bif Nat.beq id 0 then loopAt hp32_0 e32_0 q32_0 laws_eqItemS_r0 st k else none
noncomputable def laws_eqItemS (a0 : List R_iiis) (b1 : List R_iiis) : Option (Bool × Unit) :=
  bif !decide (((List.length a0 : Nat) : Int) = ((List.length b1 : Nat) : Int)) then
    some (false, ())
  else
    outK (loopV laws_eqItemS_r0 (a0, b1, (0 : Int), ())) (fun y1 =>
      some (true, ())) (fun y2 =>
      some (y2.1, ()))
noncomputable def x32 (x : (List R_iiis) × (List R_iiis) × Unit) : Option (Bool × Unit) := laws_eqItemS x.1 x.2.1
noncomputable def sem32 : Sem1 := semOf ps32 rs32 x32
theorem so32 : SemsOk Try.prog (semsOf sl32) := sems_cons k106 (sems_nil)
noncomputable def b32_0 : Code := nthLoop code32 0
theorem t32_r0_eq (x : denR (headRT hp32_0)) : codeK (tabOf tr) (semsOf sl32) D32 L32 b32_0 (headSt hp32_0 x) (roundK 0 hp32_0 e32_0 q32_0) = laws_eqItemS_r0 x := by kernel_rfl
theorem loop32_0 {R : Type} (r : R) (w0 : World) (mu : Mu) (hs : AnShape ps32 mu) : LoopAt Try.prog w0 mu 27 (L32 : Loops R) r 0 b32_0 :=
  loop_auto tr_ok eq_ok mixed_ok so32 (D := D32) hs (by kernel_rfl) (fun _ => (loops_of (l := []) (by kernel_rfl) (List.forall_mem_nil _))) t32_r0_eq (fun _ _ => rfl)
theorem t32_eq (x : denR (headRT (ps32.map some))) : codeK (tabOf tr) (semsOf sl32) D32 L32 code32 (start 27 ps32 x) (finK rs32 ps32) = x32 x := by kernel_rfl
theorem k32 : Known Try.prog 32 sem32 :=
  fn_auto tr_ok eq_ok mixed_ok so32 (D := D32) (code := code32) (n := 27) Try.func32 (by kernel_rfl) (by kernel_rfl) (by kernel_rfl) (fun w0 mu _ hs => (loops_of (l := [(0, b32_0)]) (by kernel_rfl) (List.forall_mem_cons.2 ⟨loop32_0 _ w0 mu hs, (List.forall_mem_nil _)⟩))) t32_eq

/-! ### f74: laws.eqIntS -/
noncomputable def code74 : Code := match Try.f74.body with | some c => c | none => .skip
def ps74 : List AP := [.val false [.shr T_i], .val false [.shr T_i]]
def rs74 : List RP := [{ src := .tmp 4, agg := false, ps := [.bool] }]
noncomputable def sl74 : SemL := []
def D74 : Draws := fun id => bif Nat.beq id 6 then .op 0 .any (.op 1 .any (.op 2 .any (.op 3 .take (.op 4 .any (.op 5 .any (.op 6 .any (.op 7 .take (.op 8 .any (.nil))))))))) else .nil
def hp74_0 : List (Option AP) := [some (.val false [.shr T_i]), some (.val false [.shr T_i]), none, none, none, some (.val false [.int .i64]), none, none, none, none, none, none, none, none, none, none, none, none, none, none, none, none, none, none, none, none, none]
def e74_0 : List (Option AP) := [none, none, none, none, none, none, none, none, none, none, none, none, none, none, none, none, none, none, none, none, none, none, none, none, none, none, none]
def q74_0 : List (Option AP) := [none, none, none, none, some (.val false [.bool]), none, none, none, none, none, none, none, none, none, none, none, none, none, none, none, none, none, none, none, none, none, none]
abbrev H74_0 : Type := (List (Int × Unit)) × (List (Int × Unit)) × Int × Unit
abbrev E74_0 : Type := Unit
abbrev Q74_0 : Type := Bool × Unit
noncomputable def laws_eqIntS_c0 (a0 : List (Int × Unit)) (b1 : List (Int × Unit)) (i5 : Int) : Option (Sum H74_0 (Sum E74_0 Q74_0)) :=
  bif decide (i5 < ((List.length a0 : Nat) : Int)) then
    bif decide ((0 : Int) ≤ i5) then Option.bind ((a0)[Int.toNat i5]?) fun r1 =>
      bif decide ((0 : Int) ≤ i5) then Option.bind ((b1)[Int.toNat i5]?) fun r2 =>
        bif !decide (r1.1 = r2.1) then
          some (.inr (.inr (false, ())))
        else
          some (.inl (a0, b1, IntKind.i64.wrap (i5 + (1 : Int)), ()))
      else none
    else none
  else
    some (.inr (.inl (())))
noncomputable def laws_eqIntS_r0 (x : H74_0) : Option (Sum H74_0 (Sum E74_0 Q74_0)) := laws_eqIntS_c0 x.1 x.2.1 x.2.2.1
noncomputable def L74 {R : Type} : Loops R := fun id _ st k => bif Nat.beq id 0 then loopAt hp74_0 e74_0 q74_0 laws_eqIntS_r0 st k else none
noncomputable def laws_eqIntS (a0 : List (Int × Unit)) (b1 : List (Int × Unit)) : Option (Bool × Unit) :=
  bif !decide (((List.length a0 : Nat) : Int) = ((List.length b1 : Nat) : Int)) then
    some (false, ())
  else
    outK (loopV laws_eqIntS_r0 (a0, b1, (0 : Int), ())) (fun y1 =>
      some (true, ())) (fun y2 =>
      some (y2.1, ()))
noncomputable def x74 (x : (List (Int × Unit)) × (List (Int × Unit)) × Unit) : Option (Bool × Unit) := laws_eqIntS x.1 x.2.1
noncomputable def sem74 : Sem1 := semOf ps74 rs74 x74
theorem so74 : SemsOk Try.prog (semsOf sl74) := sems_nil
noncomputable def b74_0 : Code := nthLoop code74 0
theorem t74_r0_eq (x : denR (headRT hp74_0)) : codeK (tabOf tr) (semsOf sl74) D74 L74 b74_0 (headSt hp74_0 x) (roundK 0 hp74_0 e74_0 q74_0) = laws_eqIntS_r0 x := by kernel_rfl
theorem loop74_0 {R : Type} (r : R) (w0 : World) (mu : Mu) (hs : AnShape ps74 mu) : LoopAt Try.prog w0 mu 26 (L74 : Loops R) r 0 b74_0 :=
  loop_auto tr_ok eq_ok mixed_ok so74 (D := D74) hs (by kernel_rfl) (fun _ => (loops_of (l := []) (by kernel_rfl) (List.forall_mem_nil _))) t74_r0_eq (fun _ _ => rfl)
theorem t74_eq (x : denR (headRT (ps74.map some))) : codeK (tabOf tr) (semsOf sl74) D74 L74 code74 (start 26 ps74 x) (finK rs74 ps74) = x74 x := by kernel_rfl
theorem k74 : Known Try.prog 74 sem74 :=
  fn_auto tr_ok eq_ok mixed_ok so74 (D := D74) (code := code74) (n := 26) Try.func74 (by kernel_rfl) (by kernel_rfl) (by kernel_rfl) (fun w0 mu _ hs => (loops_of (l := [(0, b74_0)]) (by kernel_rfl) (List.forall_mem_cons.2 ⟨loop74_0 _ w0 mu hs, (List.forall_mem_nil _)⟩))) t74_eq

/-! ### f15: laws.eqRing -/
noncomputable def code15 : Code := match Try.f15.body with | some c => c | none => .skip
def ps15 : List AP := [.val true [.int .i64, .shr T_i], .val true [.int .i64, .shr T_i]]
def rs15 : List RP := [{ src := .tmp 4, agg := false, ps := [.bool] }]
noncomputable def sl15 : SemL := [(74, (.shr, .shr, .shr, sem74))]
def D15 : Draws := fun _ => .nil
noncomputable def L15 {R : Type} : Loops R := fun _ _ _ _ => none
noncomputable def laws_eqRing (a0c0 : Int) (a0c1 : List (Int × Unit)) (b1c0 : Int) (b1c1 : List (Int × Unit)) : Option (Bool × Unit) :=
  bif !decide (a0c0 = b1c0) then
    some (false, ())
  else
    Option.bind (laws_eqIntS a0c1 b1c1) fun y1 =>
    bif !y1.1 then
      some (false, ())
    else
      some (true, ())
noncomputable def x15 (x : Int × (List (Int × Unit)) × Int × (List (Int × Unit)) × Unit) : Option (Bool × Unit) := laws_eqRing x.1 x.2.1 x.2.2.1 x.2.2.2.1
noncomputable def sem15 : Sem1 := semOf ps15 rs15 x15
theorem so15 : SemsOk Try.prog (semsOf sl15) := sems_cons k74 (sems_nil)
theorem t15_eq (x : denR (headRT (ps15.map some))) : codeK (tabOf tr) (semsOf sl15) D15 L15 code15 (start 16 ps15 x) (finK rs15 ps15) = x15 x := by kernel_rfl
theorem k15 : Known Try.prog 15 sem15 :=
  fn_auto tr_ok eq_ok mixed_ok so15 (D := D15) (code := code15) (n := 16) Try.func15 (by kernel_rfl) (by kernel_rfl) (by kernel_rfl) (fun w0 mu _ hs => (loops_of (l := []) (by kernel_rfl) (List.forall_mem_nil _))) t15_eq

/-! ### f43: laws.eqBundle -/
noncomputable def code43 : Code := match Try.f43.body with | some c => c | none => .skip
def ps43 : List AP := [.val true [.int .i64, .int .i64, .int .i64, .shr T_iiis], .val true [.int .i64, .int .i64, .int .i64, .shr T_iiis]]
def rs43 : List RP := [{ src := .tmp 4, agg := false, ps := [.bool] }]
noncomputable def sl43 : SemL := [(32, (.shr, .shr, .shr, sem32))]
def D43 : Draws := fun _ => .nil
noncomputable def L43 {R : Type} : Loops R := fun _ _ _ _ => none
noncomputable def laws_eqBundle (a0c0 : Int) (a0c1 : Int) (a0c2 : Int) (a0c3 : List R_iiis) (b1c0 : Int) (b1c1 : Int) (b1c2 : Int) (b1c3 : List R_iiis) : Option (Bool × Unit) :=
  bif !decide (a0c0 = b1c0) then
    some (false, ())
  else bif !decide (a0c1 = b1c1) then
    some (false, ())
  else bif !decide (a0c2 = b1c2) then
    some (false, ())
  else
    Option.bind (laws_eqItemS a0c3 b1c3) fun y1 =>
    bif !y1.1 then
      some (false, ())
    else
      some (true, ())
noncomputable def x43 (x : Int × Int × Int × (List R_iiis) × Int × Int × Int × (List R_iiis) × Unit) : Option (Bool × Unit) := laws_eqBundle x.1 x.2.1 x.2.2.1 x.2.2.2.1 x.2.2.2.2.1 x.2.2.2.2.2.1 x.2.2.2.2.2.2.1 x.2.2.2.2.2.2.2.1
noncomputable def sem43 : Sem1 := semOf ps43 rs43 x43
theorem so43 : SemsOk Try.prog (semsOf sl43) := sems_cons k32 (sems_nil)
theorem t43_eq (x : denR (headRT (ps43.map some))) : codeK (tabOf tr) (semsOf sl43) D43 L43 code43 (start 26 ps43 x) (finK rs43 ps43) = x43 x := by kernel_rfl
theorem k43 : Known Try.prog 43 sem43 :=
  fn_auto tr_ok eq_ok mixed_ok so43 (D := D43) (code := code43) (n := 26) Try.func43 (by kernel_rfl) (by kernel_rfl) (by kernel_rfl) (fun w0 mu _ hs => (loops_of (l := []) (by kernel_rfl) (List.forall_mem_nil _))) t43_eq

/-! ### f33: laws.eqBundleS -/
noncomputable def code33 : Code := match Try.f33.body with | some c => c | none => .skip
def ps33 : List AP := [.val false [.shr T_iiiLiiisE], .val false [.shr T_iiiLiiisE]]
def rs33 : List RP := [{ src := .tmp 4, agg := false, ps := [.bool] }]
noncomputable def sl33 : SemL := [(43, (.shr, .shr, .shr, sem43))]
def D33 : Draws := fun id => bif Nat.beq id 6 then .op 0 .any (.op 1 .any (.op 2 .any (.op 3 .take (.op 4 .any (.op 5 .any (.op 6 .any (.op 7 .take (.op 8 .one (.op 9 .any (.nil)))))))))) else .nil
def hp33_0 : List (Option AP) := [some (.val false [.shr T_iiiLiiisE]), some (.val false [.shr T_iiiLiiisE]), none, none, none, some (.val false [.int .i64]), none, none, none, none, none, none, none, none, none, none, none, none, none, none, none, none, none, none, none, none, none, none]
def e33_0 : List (Option AP) := [none, none, none, none, none, none, none, none, none, none, none, none, none, none, none, none, none, none, none, none, none, none, none, none, none, none, none, none]
def q33_0 : List (Option AP) := [none, none, none, none, some (.val false [.bool]), none, none, none, none, none, none, none, none, none, none, none, none, none, none, none, none, none, none, none, none, none, none, none]
abbrev H33_0 : Type := (List R_iiiLiiisE) × (List R_iiiLiiisE) × Int × Unit
abbrev E33_0 : Type := Unit
abbrev Q33_0 : Type := Bool × Unit
noncomputable def laws_eqBundleS_c0 (a0 : List R_iiiLiiisE) (b1 : List R_iiiLiiisE) (i5 : Int) : Option (Sum H33_0 (Sum E33_0 Q33_0)) :=
  bif decide (i5 < ((List.length a0 : Nat) : Int)) then
    bif decide ((0 : Int) ≤ i5) then Option.bind ((a0)[Int.toNat i5]?) fun r1 =>
      bif decide ((0 : Int) ≤ i5) then Option.bind ((b1)[Int.toNat i5]?) fun r2 =>
        Option.bind (laws_eqBundle r1.1 r1.2.1 r1.2.2.1 r1.2.2.2.1 r2.1 r2.2.1 r2.2.2.1 r2.2.2.2.1) fun y3 =>
        bif !y3.1 then
          some (.inr (.inr (false, ())))
        else
          some (.inl (a0, b1, IntKind.i64.wrap (i5 + (1 : Int)), ()))
      else none
    else none
  else
    some (.inr (.inl (())))
noncomputable def laws_eqBundleS_r0 (x : H33_0) : Option (Sum H33_0 (Sum E33_0 Q33_0)) := laws_eqBundleS_c0 x.1 x.2.1 x.2.2.1
noncomputable def L33 {R : Type} : Loops R := fun id _ st k => bif Nat.beq id 0 then loopAt hp33_0 e33_0 q33_0 laws_eqBundleS_r0 st k else none
noncomputable def laws_eqBundleS (a0 : List R_iiiLiiisE) (b1 : List R_iiiLiiisE) : Option (Bool × Unit) :=
  bif !decide (((List.length a0 : Nat) : Int) = ((List.length b1 : Nat) : Int)) then
    some (false, ())
  else
    outK (loopV laws_eqBundleS_r0 (a0, b1, (0 : Int), ())) (fun y1 =>
      some (true, ())) (fun y2 =>
      some (y2.1, ()))
noncomputable def x33 (x : (List R_iiiLiiisE) × (List R_iiiLiiisE) × Unit) : Option (Bool × Unit) := laws_eqBundleS x.1 x.2.1
noncomputable def sem33 : Sem1 := semOf ps33 rs33 x33
theorem so33 : SemsOk Try.prog (semsOf sl33) := sems_cons k43 (sems_nil)
noncomputable def b33_0 : Code := nthLoop code33 0
theorem t33_r0_eq (x : denR (headRT hp33_0)) : codeK (tabOf tr) (semsOf sl33) D33 L33 b33_0 (headSt hp33_0 x) (roundK 0 hp33_0 e33_0 q33_0) = laws_eqBundleS_r0 x := by kernel_rfl
theorem loop33_0 {R : Type} (r : R) (w0 : World) (mu : Mu) (hs : AnShape ps33 mu) : LoopAt Try.prog w0 mu 27 (L33 : Loops R) r 0 b33_0 :=
  loop_auto tr_ok eq_ok mixed_ok so33 (D := D33) hs (by kernel_rfl) (fun _ => (loops_of (l := []) (by kernel_rfl) (List.forall_mem_nil _))) t33_r0_eq (fun _ _ => rfl)
theorem t33_eq (x : denR (headRT (ps33.map some))) : codeK (tabOf tr) (semsOf sl33) D33 L33 code33 (start 27 ps33 x) (finK rs33 ps33) = x33 x := by kernel_rfl
theorem k33 : Known Try.prog 33 sem33 :=
  fn_auto tr_ok eq_ok mixed_ok so33 (D := D33) (code := code33) (n := 27) Try.func33 (by kernel_rfl) (by kernel_rfl) (by kernel_rfl) (fun w0 mu _ hs => (loops_of (l := [(0, b33_0)]) (by kernel_rfl) (List.forall_mem_cons.2 ⟨loop33_0 _ w0 mu hs, (List.forall_mem_nil _)⟩))) t33_eq

/-! ### f75: laws.markIntS -/
noncomputable def code75 : Code := match Try.f75.body with | some c => c | none => .skip
def ps75 : List AP := [.io T_i, .val false [.int .i64]]
def rs75 : List RP := [{ src := .tmp 4, agg := false, ps := [.int .i64] }]
noncomputable def sl75 : SemL := []
def D75 : Draws := fun _ => .nil
def hp75_0 : List (Option AP) := [some (.io T_i), some (.val false [.int .i64]), none, none, none, some (.val false [.int .i64]), none, none, none, none, none, none, none, none, none, none, none, none, none, none]
def e75_0 : List (Option AP) := [some (.io T_i), some (.val false [.int .i64]), none, none, none, none, none, none, none, none, none, none, none, none, none, none, none, none, none, none]
def q75_0 : List (Option AP) := [none, none, none, none, none, none, none, none, none, none, none, none, none, none, none, none, none, none, none, none]
abbrev H75_0 : Type := (List (Int × Unit)) × Int × Int × Unit
abbrev E75_0 : Type := (List (Int × Unit)) × Int × Unit
abbrev Q75_0 : Type := Unit
noncomputable def laws_markIntS_c0 (a0 : List (Int × Unit)) (k1 : Int) (i5 : Int) : Option (Sum H75_0 (Sum E75_0 Q75_0)) :=
  bif decide (i5 < ((List.length a0 : Nat) : Int)) then
    bif decide ((0 : Int) ≤ i5) then bif Nat.blt (Int.toNat i5) (List.length a0) then Option.bind ((a0)[Int.toNat i5]?) fun r1 =>
        some (.inl (List.set a0 (Int.toNat i5) (k1, ()), IntKind.i64.wrap (k1 + (1 : Int)), IntKind.i64.wrap (i5 + (1 : Int)), ()))
      else none
    else none
  else
    some (.inr (.inl (a0, k1, ())))
noncomputable def laws_markIntS_r0 (x : H75_0) : Option (Sum H75_0 (Sum E75_0 Q75_0)) := laws_markIntS_c0 x.1 x.2.1 x.2.2.1
noncomputable def L75 {R : Type} : Loops R := fun id _ st k => bif Nat.beq id 0 then loopAt hp75_0 e75_0 q75_0 laws_markIntS_r0 st k else none
noncomputable def laws_markIntS (a0 : List (Int × Unit)) (k1 : Int) : Option (Int × (List (Int × Unit)) × Unit) :=
  outK (loopV laws_markIntS_r0 (a0, k1, (0 : Int), ())) (fun y1 =>
    some (y1.2.1, y1.1, ())) (fun y2 =>
    none)
noncomputable def x75 (x : (List (Int × Unit)) × Int × Unit) : Option (Int × (List (Int × Unit)) × Unit) := laws_markIntS x.1 x.2.1
noncomputable def sem75 : Sem1 := semOf ps75 rs75 x75
theorem so75 : SemsOk Try.prog (semsOf sl75) := sems_nil
noncomputable def b75_0 : Code := nthLoop code75 0
theorem t75_r0_eq (x : denR (headRT hp75_0)) : codeK (tabOf tr) (semsOf sl75) D75 L75 b75_0 (headSt hp75_0 x) (roundK 0 hp75_0 e75_0 q75_0) = laws_markIntS_r0 x := by kernel_rfl
theorem loop75_0 {R : Type} (r : R) (w0 : World) (mu : Mu) (hs : AnShape ps75 mu) : LoopAt Try.prog w0 mu 19 (L75 : Loops R) r 0 b75_0 :=
  loop_auto tr_ok eq_ok mixed_ok so75 (D := D75) hs (by kernel_rfl) (fun _ => (loops_of (l := []) (by kernel_rfl) (List.forall_mem_nil _))) t75_r0_eq (fun _ _ => rfl)
theorem t75_eq (x : denR (headRT (ps75.map some))) : codeK (tabOf tr) (semsOf sl75) D75 L75 code75 (start 19 ps75 x) (finK rs75 ps75) = x75 x := by kernel_rfl
theorem k75 : Known Try.prog 75 sem75 :=
  fn_auto tr_ok eq_ok mixed_ok so75 (D := D75) (code := code75) (n := 19) Try.func75 (by kernel_rfl) (by kernel_rfl) (by kernel_rfl) (fun w0 mu _ hs => (loops_of (l := [(0, b75_0)]) (by kernel_rfl) (List.forall_mem_cons.2 ⟨loop75_0 _ w0 mu hs, (List.forall_mem_nil _)⟩))) t75_eq

/-! ### f16: laws.markRing -/
noncomputable def code16 : Code := match Try.f16.body with | some c => c | none => .skip
def ps16 : List AP := [.lend [.int .i64, .own T_i], .val false [.int .i64]]
def rs16 : List RP := [{ src := .tmp 4, agg := false, ps := [.int .i64] }]
noncomputable def sl16 : SemL := [(75, (.io, .shr, .shr, sem75))]
def D16 : Draws := fun _ => .nil
noncomputable def L16 {R : Type} : Loops R := fun _ _ _ _ => none
noncomputable def laws_markRing (a0c0 : Int) (a0c1 : List (Int × Unit)) (k1 : Int) : Option (Int × (List (Int × Unit)) × Unit) :=
  Option.bind (laws_markIntS a0c1 k1) fun y1 =>
  some (y1.1, y1.2.1, ())
noncomputable def x16 (x : Int × (List (Int × Unit)) × Int × Unit) : Option (Int × (List (Int × Unit)) × Unit) := laws_markRing x.1 x.2.1 x.2.2.1
noncomputable def sem16 : Sem1 := semOf ps16 rs16 x16
theorem so16 : SemsOk Try.prog (semsOf sl16) := sems_cons k75 (sems_nil)
theorem t16_eq (x : denR (headRT (ps16.map some))) : codeK (tabOf tr) (semsOf sl16) D16 L16 code16 (start 10 ps16 x) (finK rs16 ps16) = x16 x := by kernel_rfl
theorem k16 : Known Try.prog 16 sem16 :=
  fn_auto tr_ok eq_ok mixed_ok so16 (D := D16) (code := code16) (n := 10) Try.func16 (by kernel_rfl) (by kernel_rfl) (by kernel_rfl) (fun w0 mu _ hs => (loops_of (l := []) (by kernel_rfl) (List.forall_mem_nil _))) t16_eq

/-! ### f107: laws.markText -/
noncomputable def code107 : Code := match Try.f107.body with | some c => c | none => .skip
def ps107 : List AP := [.val false [.int .i64]]
def rs107 : List RP := [{ src := .tmp 2, agg := false, ps := [.str] }]
noncomputable def sl107 : SemL := []
def D107 : Draws := fun _ => .nil
def hp107_0 : List (Option AP) := [some (.val false [.int .i64]), none, none, some (.val false [.str]), none, none, none, none, none, none, none, none, none, none, none, none, none, none, none, none, none]
def e107_0 : List (Option AP) := [none, none, none, some (.val false [.str]), none, none, none, none, none, none, none, none, none, none, none, none, none, none, none, none, none]
def q107_0 : List (Option AP) := [none, none, none, none, none, none, none, none, none, none, none, none, none, none, none, none, none, none, none, none, none]
abbrev H107_0 : Type := Int × ByteArray × Unit
abbrev E107_0 : Type := ByteArray × Unit
abbrev Q107_0 : Type := Unit
noncomputable def laws_markText_c0 (k0 : Int) (out3 : ByteArray) : Option (Sum H107_0 (Sum E107_0 Q107_0)) :=
  bif decide ((0 : Int) < k0) then
    bif Nat.ble ((ByteArray.size (bytesOf [(IntKind.u8.wrap (IntKind.i64.wrap ((48 : Int) + (Int.tmod k0 (10 : Int)))), ())])) + (ByteArray.size out3)) lim then some (.inl (IntKind.i64.wrap (Int.tdiv k0 (10 : Int)), (bytesOf [(IntKind.u8.wrap (IntKind.i64.wrap ((48 : Int) + (Int.tmod k0 (10 : Int)))), ())]) ++ out3, ()))
    else none
  else
    some (.inr (.inl (out3, ())))
noncomputable def laws_markText_r0 (x : H107_0) : Option (Sum H107_0 (Sum E107_0 Q107_0)) := laws_markText_c0 x.1 x.2.1
noncomputable def L107 {R : Type} : Loops R := fun id _ st k => bif Nat.beq id 0 then loopAt hp107_0 e107_0 q107_0 laws_markText_r0 st k else none
noncomputable def laws_markText (k0 : Int) : Option (ByteArray × Unit) :=
  bif decide (k0 ≤ (0 : Int)) then
    some ((ByteArray.mk #[109, 48]), ())
  else
    outK (loopV laws_markText_r0 (k0, (ByteArray.mk #[]), ())) (fun y1 =>
      bif Nat.ble (1 + (ByteArray.size y1.1)) lim then some ((ByteArray.mk #[109]) ++ y1.1, ())
      else none) (fun y2 =>
      none)
noncomputable def x107 (x : Int × Unit) : Option (ByteArray × Unit) := laws_markText x.1
noncomputable def sem107 : Sem1 := semOf ps107 rs107 x107
theorem so107 : SemsOk Try.prog (semsOf sl107) := sems_nil
noncomputable def b107_0 : Code := nthLoop code107 0
theorem t107_r0_eq (x : denR (headRT hp107_0)) : codeK (tabOf tr) (semsOf sl107) D107 L107 b107_0 (headSt hp107_0 x) (roundK 0 hp107_0 e107_0 q107_0) = laws_markText_r0 x := by kernel_rfl
theorem loop107_0 {R : Type} (r : R) (w0 : World) (mu : Mu) (hs : AnShape ps107 mu) : LoopAt Try.prog w0 mu 20 (L107 : Loops R) r 0 b107_0 :=
  loop_auto tr_ok eq_ok mixed_ok so107 (D := D107) hs (by kernel_rfl) (fun _ => (loops_of (l := []) (by kernel_rfl) (List.forall_mem_nil _))) t107_r0_eq (fun _ _ => rfl)
theorem t107_eq (x : denR (headRT (ps107.map some))) : codeK (tabOf tr) (semsOf sl107) D107 L107 code107 (start 20 ps107 x) (finK rs107 ps107) = x107 x := by kernel_rfl
theorem k107 : Known Try.prog 107 sem107 :=
  fn_auto tr_ok eq_ok mixed_ok so107 (D := D107) (code := code107) (n := 20) Try.func107 (by kernel_rfl) (by kernel_rfl) (by kernel_rfl) (fun w0 mu _ hs => (loops_of (l := [(0, b107_0)]) (by kernel_rfl) (List.forall_mem_cons.2 ⟨loop107_0 _ w0 mu hs, (List.forall_mem_nil _)⟩))) t107_eq

/-! ### f35: laws.markItemS -/
noncomputable def code35 : Code := match Try.f35.body with | some c => c | none => .skip
def ps35 : List AP := [.io T_iiis, .val false [.int .i64]]
def rs35 : List RP := [{ src := .tmp 4, agg := false, ps := [.int .i64] }]
noncomputable def sl35 : SemL := [(107, (.shr, .shr, .shr, sem107))]
def D35 : Draws := fun _ => .nil
def hp35_0 : List (Option AP) := [some (.io T_iiis), some (.val false [.int .i64]), none, none, none, some (.val false [.int .i64]), none, none, none, none, none, none, none, none, none, none, none, none, none, none, none, none, none, none, none, none, none, none, none, none, none, none, none, none, none, none, none, none, none, none, none, none, none]
def e35_0 : List (Option AP) := [some (.io T_iiis), some (.val false [.int .i64]), none, none, none, none, none, none, none, none, none, none, none, none, none, none, none, none, none, none, none, none, none, none, none, none, none, none, none, none, none, none, none, none, none, none, none, none, none, none, none, none, none]
def q35_0 : List (Option AP) := [none, none, none, none, none, none, none, none, none, none, none, none, none, none, none, none, none, none, none, none, none, none, none, none, none, none, none, none, none, none, none, none, none, none, none, none, none, none, none, none, none, none, none]
abbrev H35_0 : Type := (List R_iiis) × Int × Int × Unit
abbrev E35_0 : Type := (List R_iiis) × Int × Unit
abbrev Q35_0 : Type := Unit
noncomputable def laws_markItemS_c0 (a0 : List R_iiis) (k1 : Int) (i5 : Int) : Option (Sum H35_0 (Sum E35_0 Q35_0)) :=
  bif decide (i5 < ((List.length a0 : Nat) : Int)) then
    bif decide ((0 : Int) ≤ i5) then bif Nat.blt (Int.toNat i5) (List.length a0) then Option.bind ((a0)[Int.toNat i5]?) fun r1 =>
        bif decide ((0 : Int) ≤ i5) then bif Nat.blt (Int.toNat i5) (List.length (List.set a0 (Int.toNat i5) (k1, r1.2.1, r1.2.2.1, r1.2.2.2.1, ()))) then Option.bind ((List.set a0 (Int.toNat i5) (k1, r1.2.1, r1.2.2.1, r1.2.2.2.1, ()))[Int.toNat i5]?) fun r2 =>
            bif decide ((0 : Int) ≤ i5) then bif Nat.blt (Int.toNat i5) (List.length (List.set (List.set a0 (Int.toNat i5) (k1, r1.2.1, r1.2.2.1, r1.2.2.2.1, ())) (Int.toNat i5) (r2.1, IntKind.i64.wrap (k1 + (1 : Int)), r2.2.2.1, r2.2.2.2.1, ()))) then Option.bind ((List.set (List.set a0 (Int.toNat i5) (k1, r1.2.1, r1.2.2.1, r1.2.2.2.1, ())) (Int.toNat i5) (r2.1, IntKind.i64.wrap (k1 + (1 : Int)), r2.2.2.1, r2.2.2.2.1, ()))[Int.toNat i5]?) fun r3 =>
                Option.bind (laws_markText (IntKind.i64.wrap ((IntKind.i64.wrap ((IntKind.i64.wrap (k1 + (1 : Int))) + (1 : Int))) + (1 : Int)))) fun y4 =>
                bif decide ((0 : Int) ≤ i5) then bif Nat.blt (Int.toNat i5) (List.length (List.set (List.set (List.set a0 (Int.toNat i5) (k1, r1.2.1, r1.2.2.1, r1.2.2.2.1, ())) (Int.toNat i5) (r2.1, IntKind.i64.wrap (k1 + (1 : Int)), r2.2.2.1, r2.2.2.2.1, ())) (Int.toNat i5) (r3.1, r3.2.1, IntKind.i64.wrap ((IntKind.i64.wrap (k1 + (1 : Int))) + (1 : Int)), r3.2.2.2.1, ()))) then Option.bind ((List.set (List.set (List.set a0 (Int.toNat i5) (k1, r1.2.1, r1.2.2.1, r1.2.2.2.1, ())) (Int.toNat i5) (r2.1, IntKind.i64.wrap (k1 + (1 : Int)), r2.2.2.1, r2.2.2.2.1, ())) (Int.toNat i5) (r3.1, r3.2.1, IntKind.i64.wrap ((IntKind.i64.wrap (k1 + (1 : Int))) + (1 : Int)), r3.2.2.2.1, ()))[Int.toNat i5]?) fun r5 =>
                    some (.inl (List.set (List.set (List.set (List.set a0 (Int.toNat i5) (k1, r1.2.1, r1.2.2.1, r1.2.2.2.1, ())) (Int.toNat i5) (r2.1, IntKind.i64.wrap (k1 + (1 : Int)), r2.2.2.1, r2.2.2.2.1, ())) (Int.toNat i5) (r3.1, r3.2.1, IntKind.i64.wrap ((IntKind.i64.wrap (k1 + (1 : Int))) + (1 : Int)), r3.2.2.2.1, ())) (Int.toNat i5) (r5.1, r5.2.1, r5.2.2.1, y4.1, ()), IntKind.i64.wrap ((IntKind.i64.wrap ((IntKind.i64.wrap ((IntKind.i64.wrap (k1 + (1 : Int))) + (1 : Int))) + (1 : Int))) + (1 : Int)), IntKind.i64.wrap (i5 + (1 : Int)), ()))
                  else none
                else none
              else none
            else none
          else none
        else none
      else none
    else none
  else
    some (.inr (.inl (a0, k1, ())))
noncomputable def laws_markItemS_r0 (x : H35_0) : Option (Sum H35_0 (Sum E35_0 Q35_0)) := laws_markItemS_c0 x.1 x.2.1 x.2.2.1
noncomputable def L35 {R : Type} : Loops R := fun id _ st k => bif Nat.beq id 0 then loopAt hp35_0 e35_0 q35_0 laws_markItemS_r0 st k else none
noncomputable def laws_markItemS (a0 : List R_iiis) (k1 : Int) : Option (Int × (List R_iiis) × Unit) :=
  outK (loopV laws_markItemS_r0 (a0, k1, (0 : Int), ())) (fun y1 =>
    some (y1.2.1, y1.1, ())) (fun y2 =>
    none)
noncomputable def x35 (x : (List R_iiis) × Int × Unit) : Option (Int × (List R_iiis) × Unit) := laws_markItemS x.1 x.2.1
noncomputable def sem35 : Sem1 := semOf ps35 rs35 x35
theorem so35 : SemsOk Try.prog (semsOf sl35) := sems_cons k107 (sems_nil)
noncomputable def b35_0 : Code := nthLoop code35 0
theorem t35_r0_eq (x : denR (headRT hp35_0)) : codeK (tabOf tr) (semsOf sl35) D35 L35 b35_0 (headSt hp35_0 x) (roundK 0 hp35_0 e35_0 q35_0) = laws_markItemS_r0 x := by kernel_rfl
theorem loop35_0 {R : Type} (r : R) (w0 : World) (mu : Mu) (hs : AnShape ps35 mu) : LoopAt Try.prog w0 mu 42 (L35 : Loops R) r 0 b35_0 :=
  loop_auto tr_ok eq_ok mixed_ok so35 (D := D35) hs (by kernel_rfl) (fun _ => (loops_of (l := []) (by kernel_rfl) (List.forall_mem_nil _))) t35_r0_eq (fun _ _ => rfl)
theorem t35_eq (x : denR (headRT (ps35.map some))) : codeK (tabOf tr) (semsOf sl35) D35 L35 code35 (start 42 ps35 x) (finK rs35 ps35) = x35 x := by kernel_rfl
theorem k35 : Known Try.prog 35 sem35 :=
  fn_auto tr_ok eq_ok mixed_ok so35 (D := D35) (code := code35) (n := 42) Try.func35 (by kernel_rfl) (by kernel_rfl) (by kernel_rfl) (fun w0 mu _ hs => (loops_of (l := [(0, b35_0)]) (by kernel_rfl) (List.forall_mem_cons.2 ⟨loop35_0 _ w0 mu hs, (List.forall_mem_nil _)⟩))) t35_eq

/-! ### f34: laws.markBundleS -/
noncomputable def code34 : Code := match Try.f34.body with | some c => c | none => .skip
def ps34 : List AP := [.io T_iiiLiiisE .dp, .val false [.int .i64]]
def rs34 : List RP := [{ src := .tmp 4, agg := false, ps := [.int .i64] }]
noncomputable def sl34 : SemL := [(35, (.io, .shr, .shr, sem35))]
def D34 : Draws := fun _ => .nil
def hp34_0 : List (Option AP) := [some (.io T_iiiLiiisE .dp), some (.val false [.int .i64]), none, none, none, some (.val false [.int .i64]), none, none, none, none, none, none, none, none, none, none, none, none, none, none, none, none, none, none, none, none, none, none, none, none, none, none, none, none, none, none, none, none, none, none, none, none]
def e34_0 : List (Option AP) := [some (.io T_iiiLiiisE .dp), some (.val false [.int .i64]), none, none, none, none, none, none, none, none, none, none, none, none, none, none, none, none, none, none, none, none, none, none, none, none, none, none, none, none, none, none, none, none, none, none, none, none, none, none, none, none]
def q34_0 : List (Option AP) := [none, none, none, none, none, none, none, none, none, none, none, none, none, none, none, none, none, none, none, none, none, none, none, none, none, none, none, none, none, none, none, none, none, none, none, none, none, none, none, none, none, none]
abbrev H34_0 : Type := (List R_iiiLiiisE) × Int × Int × Unit
abbrev E34_0 : Type := (List R_iiiLiiisE) × Int × Unit
abbrev Q34_0 : Type := Unit
noncomputable def laws_markBundleS_c0 (a0 : List R_iiiLiiisE) (k1 : Int) (i5 : Int) : Option (Sum H34_0 (Sum E34_0 Q34_0)) :=
  bif decide (i5 < ((List.length a0 : Nat) : Int)) then
    bif decide ((0 : Int) ≤ i5) then bif Nat.blt (Int.toNat i5) (List.length a0) then Option.bind ((a0)[Int.toNat i5]?) fun r1 =>
        bif decide ((0 : Int) ≤ i5) then bif Nat.blt (Int.toNat i5) (List.length (List.set a0 (Int.toNat i5) (k1, r1.2.1, r1.2.2.1, r1.2.2.2.1, ()))) then Option.bind ((List.set a0 (Int.toNat i5) (k1, r1.2.1, r1.2.2.1, r1.2.2.2.1, ()))[Int.toNat i5]?) fun r2 =>
            bif decide ((0 : Int) ≤ i5) then bif Nat.blt (Int.toNat i5) (List.length (List.set (List.set a0 (Int.toNat i5) (k1, r1.2.1, r1.2.2.1, r1.2.2.2.1, ())) (Int.toNat i5) (r2.1, IntKind.i64.wrap (k1 + (1 : Int)), r2.2.2.1, r2.2.2.2.1, ()))) then Option.bind ((List.set (List.set a0 (Int.toNat i5) (k1, r1.2.1, r1.2.2.1, r1.2.2.2.1, ())) (Int.toNat i5) (r2.1, IntKind.i64.wrap (k1 + (1 : Int)), r2.2.2.1, r2.2.2.2.1, ()))[Int.toNat i5]?) fun r3 =>
                bif decide ((0 : Int) ≤ i5) then bif Nat.blt (Int.toNat i5) (List.length (List.set (List.set (List.set a0 (Int.toNat i5) (k1, r1.2.1, r1.2.2.1, r1.2.2.2.1, ())) (Int.toNat i5) (r2.1, IntKind.i64.wrap (k1 + (1 : Int)), r2.2.2.1, r2.2.2.2.1, ())) (Int.toNat i5) (r3.1, r3.2.1, IntKind.i64.wrap ((IntKind.i64.wrap (k1 + (1 : Int))) + (1 : Int)), r3.2.2.2.1, ()))) then Option.bind ((List.set (List.set (List.set a0 (Int.toNat i5) (k1, r1.2.1, r1.2.2.1, r1.2.2.2.1, ())) (Int.toNat i5) (r2.1, IntKind.i64.wrap (k1 + (1 : Int)), r2.2.2.1, r2.2.2.2.1, ())) (Int.toNat i5) (r3.1, r3.2.1, IntKind.i64.wrap ((IntKind.i64.wrap (k1 + (1 : Int))) + (1 : Int)), r3.2.2.2.1, ()))[Int.toNat i5]?) fun r4 =>
                    Option.bind (laws_markItemS r4.2.2.2.1 (IntKind.i64.wrap ((IntKind.i64.wrap ((IntKind.i64.wrap (k1 + (1 : Int))) + (1 : Int))) + (1 : Int)))) fun y5 =>
                    Option.bind ((List.set (List.set (List.set a0 (Int.toNat i5) (k1, r1.2.1, r1.2.2.1, r1.2.2.2.1, ())) (Int.toNat i5) (r2.1, IntKind.i64.wrap (k1 + (1 : Int)), r2.2.2.1, r2.2.2.2.1, ())) (Int.toNat i5) (r3.1, r3.2.1, IntKind.i64.wrap ((IntKind.i64.wrap (k1 + (1 : Int))) + (1 : Int)), r3.2.2.2.1, ()))[Int.toNat i5]?) fun r6 =>
                    some (.inl (List.set (List.set (List.set (List.set a0 (Int.toNat i5) (k1, r1.2.1, r1.2.2.1, r1.2.2.2.1, ())) (Int.toNat i5) (r2.1, IntKind.i64.wrap (k1 + (1 : Int)), r2.2.2.1, r2.2.2.2.1, ())) (Int.toNat i5) (r3.1, r3.2.1, IntKind.i64.wrap ((IntKind.i64.wrap (k1 + (1 : Int))) + (1 : Int)), r3.2.2.2.1, ())) (Int.toNat i5) (r6.1, r6.2.1, r6.2.2.1, y5.2.1, ()), y5.1, IntKind.i64.wrap (i5 + (1 : Int)), ()))
                  else none
                else none
              else none
            else none
          else none
        else none
      else none
    else none
  else
    some (.inr (.inl (a0, k1, ())))
noncomputable def laws_markBundleS_r0 (x : H34_0) : Option (Sum H34_0 (Sum E34_0 Q34_0)) := laws_markBundleS_c0 x.1 x.2.1 x.2.2.1
noncomputable def L34 {R : Type} : Loops R := fun id _ st k => bif Nat.beq id 0 then loopAt hp34_0 e34_0 q34_0 laws_markBundleS_r0 st k else none
noncomputable def laws_markBundleS (a0 : List R_iiiLiiisE) (k1 : Int) : Option (Int × (List R_iiiLiiisE) × Unit) :=
  outK (loopV laws_markBundleS_r0 (a0, k1, (0 : Int), ())) (fun y1 =>
    some (y1.2.1, y1.1, ())) (fun y2 =>
    none)
noncomputable def x34 (x : (List R_iiiLiiisE) × Int × Unit) : Option (Int × (List R_iiiLiiisE) × Unit) := laws_markBundleS x.1 x.2.1
noncomputable def sem34 : Sem1 := semOf ps34 rs34 x34
theorem so34 : SemsOk Try.prog (semsOf sl34) := sems_cons k35 (sems_nil)
noncomputable def b34_0 : Code := nthLoop code34 0
theorem t34_r0_eq (x : denR (headRT hp34_0)) : codeK (tabOf tr) (semsOf sl34) D34 L34 b34_0 (headSt hp34_0 x) (roundK 0 hp34_0 e34_0 q34_0) = laws_markBundleS_r0 x := by kernel_rfl
theorem loop34_0 {R : Type} (r : R) (w0 : World) (mu : Mu) (hs : AnShape ps34 mu) : LoopAt Try.prog w0 mu 41 (L34 : Loops R) r 0 b34_0 :=
  loop_auto tr_ok eq_ok mixed_ok so34 (D := D34) hs (by kernel_rfl) (fun _ => (loops_of (l := []) (by kernel_rfl) (List.forall_mem_nil _))) t34_r0_eq (fun _ _ => rfl)
theorem t34_eq (x : denR (headRT (ps34.map some))) : codeK (tabOf tr) (semsOf sl34) D34 L34 code34 (start 41 ps34 x) (finK rs34 ps34) = x34 x := by kernel_rfl
theorem k34 : Known Try.prog 34 sem34 :=
  fn_auto tr_ok eq_ok mixed_ok so34 (D := D34) (code := code34) (n := 41) Try.func34 (by kernel_rfl) (by kernel_rfl) (by kernel_rfl) (fun w0 mu _ hs => (loops_of (l := [(0, b34_0)]) (by kernel_rfl) (List.forall_mem_cons.2 ⟨loop34_0 _ w0 mu hs, (List.forall_mem_nil _)⟩))) t34_eq

/-! ### f36: laws.heldItemS -/
noncomputable def code36 : Code := match Try.f36.body with | some c => c | none => .skip
def ps36 : List AP := [.val false [.shr T_iiis], .val false [.int .i64]]
def rs36 : List RP := [{ src := .tmp 4, agg := false, ps := [.int .i64] }]
noncomputable def sl36 : SemL := [(107, (.shr, .shr, .shr, sem107))]
def D36 : Draws := fun id => bif Nat.beq id 13 then .op 0 .any (.op 1 .any (.op 2 .any (.op 3 .any (.op 4 .take (.op 5 .any (.op 6 .one (.op 7 .any (.nil)))))))) else .nil
def hp36_0 : List (Option AP) := [some (.val false [.shr T_iiis]), some (.val false [.int .i64]), none, none, none, some (.val false [.int .i64]), none, none, none, none, none, none, none, none, none, none, none, none, none, none, none, none, none, none, none, none, none, none, none, none, none, none, none, none, none, none, none, none, none, none, none, none, none, none, none, none, none, none, none, none, none]
def e36_0 : List (Option AP) := [none, some (.val false [.int .i64]), none, none, none, none, none, none, none, none, none, none, none, none, none, none, none, none, none, none, none, none, none, none, none, none, none, none, none, none, none, none, none, none, none, none, none, none, none, none, none, none, none, none, none, none, none, none, none, none, none]
def q36_0 : List (Option AP) := [none, none, none, none, some (.val false [.int .i64]), none, none, none, none, none, none, none, none, none, none, none, none, none, none, none, none, none, none, none, none, none, none, none, none, none, none, none, none, none, none, none, none, none, none, none, none, none, none, none, none, none, none, none, none, none, none]
abbrev H36_0 : Type := (List R_iiis) × Int × Int × Unit
abbrev E36_0 : Type := Int × Unit
abbrev Q36_0 : Type := Int × Unit
noncomputable def laws_heldItemS_c0 (a0 : List R_iiis) (k1 : Int) (i5 : Int) : Option (Sum H36_0 (Sum E36_0 Q36_0)) :=
  bif decide (i5 < ((List.length a0 : Nat) : Int)) then
    bif decide ((0 : Int) ≤ i5) then Option.bind ((a0)[Int.toNat i5]?) fun r1 =>
      bif !decide (r1.1 = k1) then
        some (.inr (.inr ((-1 : Int), ())))
      else bif decide ((0 : Int) ≤ i5) then Option.bind ((a0)[Int.toNat i5]?) fun r2 =>
        bif !decide (r2.2.1 = IntKind.i64.wrap (k1 + (1 : Int))) then
          some (.inr (.inr ((-1 : Int), ())))
        else bif decide ((0 : Int) ≤ i5) then Option.bind ((a0)[Int.toNat i5]?) fun r3 =>
          bif !decide (r3.2.2.1 = IntKind.i64.wrap ((IntKind.i64.wrap (k1 + (1 : Int))) + (1 : Int))) then
            some (.inr (.inr ((-1 : Int), ())))
          else bif decide ((0 : Int) ≤ i5) then Option.bind ((a0)[Int.toNat i5]?) fun r4 =>
            Option.bind (laws_markText (IntKind.i64.wrap ((IntKind.i64.wrap ((IntKind.i64.wrap (k1 + (1 : Int))) + (1 : Int))) + (1 : Int)))) fun y5 =>
            bif !strEq r4.2.2.2.1 y5.1 then
              some (.inr (.inr ((-1 : Int), ())))
            else
              some (.inl (a0, IntKind.i64.wrap ((IntKind.i64.wrap ((IntKind.i64.wrap ((IntKind.i64.wrap (k1 + (1 : Int))) + (1 : Int))) + (1 : Int))) + (1 : Int)), IntKind.i64.wrap (i5 + (1 : Int)), ()))
          else none
        else none
      else none
    else none
  else
    some (.inr (.inl (k1, ())))
noncomputable def laws_heldItemS_r0 (x : H36_0) : Option (Sum H36_0 (Sum E36_0 Q36_0)) := laws_heldItemS_c0 x.1 x.2.1 x.2.2.1
noncomputable def L36 {R : Type} : Loops R := fun id _ st k => bif Nat.beq id 0 then loopAt hp36_0 e36_0 q36_0 laws_heldItemS_r0 st k else none
noncomputable def laws_heldItemS (a0 : List R_iiis) (k1 : Int) : Option (Int × Unit) :=
  outK (loopV laws_heldItemS_r0 (a0, k1, (0 : Int), ())) (fun y1 =>
    some (y1.1, ())) (fun y2 =>
    some (y2.1, ()))
noncomputable def x36 (x : (List R_iiis) × Int × Unit) : Option (Int × Unit) := laws_heldItemS x.1 x.2.1
noncomputable def sem36 : Sem1 := semOf ps36 rs36 x36
theorem so36 : SemsOk Try.prog (semsOf sl36) := sems_cons k107 (sems_nil)
noncomputable def b36_0 : Code := nthLoop code36 0
theorem t36_r0_eq (x : denR (headRT hp36_0)) : codeK (tabOf tr) (semsOf sl36) D36 L36 b36_0 (headSt hp36_0 x) (roundK 0 hp36_0 e36_0 q36_0) = laws_heldItemS_r0 x := by kernel_rfl
theorem loop36_0 {R : Type} (r : R) (w0 : World) (mu : Mu) (hs : AnShape ps36 mu) : LoopAt Try.prog w0 mu 50 (L36 : Loops R) r 0 b36_0 :=
  loop_auto tr_ok eq_ok mixed_ok so36 (D := D36) hs (by kernel_rfl) (fun _ => (loops_of (l := []) (by kernel_rfl) (List.forall_mem_nil _))) t36_r0_eq (fun _ _ => rfl)
theorem t36_eq (x : denR (headRT (ps36.map some))) : codeK (tabOf tr) (semsOf sl36) D36 L36 code36 (start 50 ps36 x) (finK rs36 ps36) = x36 x := by kernel_rfl
theorem k36 : Known Try.prog 36 sem36 :=
  fn_auto tr_ok eq_ok mixed_ok so36 (D := D36) (code := code36) (n := 50) Try.func36 (by kernel_rfl) (by kernel_rfl) (by kernel_rfl) (fun w0 mu _ hs => (loops_of (l := [(0, b36_0)]) (by kernel_rfl) (List.forall_mem_cons.2 ⟨loop36_0 _ w0 mu hs, (List.forall_mem_nil _)⟩))) t36_eq

/-! ### f5: laws.FnExactRest -/
noncomputable def code5 : Code := match Try.f5.body with | some c => c | none => .skip
def ps5 : List AP := [.val true [.int .i64, .shr T_i], .val false [.shr T_iiiLiiisE], .val false [.int .i64], .val false [.int .i64]]
def rs5 : List RP := [{ src := .tmp 8, agg := false, ps := [.bool] }]
noncomputable def sl5 : SemL := [(10, (.shr, .shr, .shr, sem10)), (28, (.shr, .shr, .shr, sem28)), (12, (.shr, .shr, .shr, sem12)), (30, (.shr, .shr, .shr, sem30)), (29, (.shr, .shr, .shr, sem29)), (31, (.shr, .shr, .shr, sem31)), (32, (.shr, .shr, .shr, sem32)), (15, (.shr, .shr, .shr, sem15)), (33, (.shr, .shr, .shr, sem33)), (16, (.lend, .shr, .shr, sem16)), (34, (.io, .shr, .shr, sem34)), (35, (.io, .shr, .shr, sem35)), (36, (.shr, .shr, .shr, sem36))]
def D5 : Draws := fun id => bif Nat.beq id 14 then .op 0 .take (.op 1 .take (.op 2 .one (.op 3 .one (.op 4 .any (.nil))))) else .nil
noncomputable def L5 {R : Type} : Loops R := fun _ _ _ _ => none
noncomputable def laws_FnExactRest (aR0c0 : Int) (aR0c1 : List (Int × Unit)) (aList1 : List R_iiiLiiisE) (aId2 : Int) (aHeard3 : Int) : Option (Bool × Unit) :=
  Option.bind (laws_szRing aR0c0 aR0c1 (1048576 : Int)) fun y1 =>
  bif decide (y1.1 < (0 : Int)) then
    some (true, ())
  else
    Option.bind (laws_szBundleS aList1 y1.1) fun y2 =>
    bif decide (y2.1 < (0 : Int)) then
      some (true, ())
    else
      Option.bind (laws_toRing aR0c0 aR0c1) fun y3 =>
      Option.bind (laws_toBundleS aList1) fun y4 =>
      Option.bind (spec_Rest y3.1 y3.2.1 y4.1 aId2 aHeard3) fun y5 =>
      Option.bind (laws_toRing aR0c0 aR0c1) fun y6 =>
      Option.bind (laws_toBundleS aList1) fun y7 =>
      Option.bind (impl_Rest y6.1 y6.2.1 y7.1 aId2 aHeard3) fun y8 =>
      Option.bind (laws_eqItemS y8.1 y5.1) fun y9 =>
      bif !y9.1 then
        some (false, ())
      else
        Option.bind (laws_toRing aR0c0 aR0c1) fun y10 =>
        Option.bind (laws_eqRing y6.1 y6.2.1 y10.1 y10.2.1) fun y11 =>
        bif !y11.1 then
          some (false, ())
        else
          Option.bind (laws_toBundleS aList1) fun y12 =>
          Option.bind (laws_eqBundleS y7.1 y12.1) fun y13 =>
          bif !y13.1 then
            some (false, ())
          else
            Option.bind (laws_markRing y6.1 y6.2.1 (1 : Int)) fun y14 =>
            Option.bind (laws_markBundleS y7.1 y14.1) fun y15 =>
            bif decide (y15.1 < (0 : Int)) then
              some (false, ())
            else
              Option.bind (laws_eqItemS y8.1 y5.1) fun y16 =>
              bif !y16.1 then
                some (false, ())
              else
                Option.bind (laws_markItemS y8.1 (1 : Int)) fun y17 =>
                Option.bind (laws_heldItemS y17.2.1 (1 : Int)) fun y18 =>
                bif decide (y18.1 < (0 : Int)) then
                  some (false, ())
                else bif !decide (y18.1 = y17.1) then
                  some (false, ())
                else
                  Option.bind (laws_toRing aR0c0 aR0c1) fun y19 =>
                  Option.bind (laws_toBundleS aList1) fun y20 =>
                  Option.bind (impl_Rest y19.1 y19.2.1 y20.1 aId2 aHeard3) fun y21 =>
                  Option.bind (laws_eqItemS y21.1 y5.1) fun y22 =>
                  bif !y22.1 then
                    some (false, ())
                  else
                    Option.bind (laws_heldItemS y17.2.1 (1 : Int)) fun y23 =>
                    bif decide (y23.1 < (0 : Int)) then
                      some (false, ())
                    else bif !decide (y23.1 = y17.1) then
                      some (false, ())
                    else
                      some (true, ())
noncomputable def x5 (x : Int × (List (Int × Unit)) × (List R_iiiLiiisE) × Int × Int × Unit) : Option (Bool × Unit) := laws_FnExactRest x.1 x.2.1 x.2.2.1 x.2.2.2.1 x.2.2.2.2.1
noncomputable def sem5 : Sem1 := semOf ps5 rs5 x5
theorem so5 : SemsOk Try.prog (semsOf sl5) := sems_cons k10 (sems_cons k28 (sems_cons k12 (sems_cons k30 (sems_cons k29 (sems_cons k31 (sems_cons k32 (sems_cons k15 (sems_cons k33 (sems_cons k16 (sems_cons k34 (sems_cons k35 (sems_cons k36 (sems_nil)))))))))))))
theorem t5_eq (x : denR (headRT (ps5.map some))) : codeK (tabOf tr) (semsOf sl5) D5 L5 code5 (start 102 ps5 x) (finK rs5 ps5) = x5 x := by kernel_rfl
theorem k5 : Known Try.prog 5 sem5 :=
  fn_auto tr_ok eq_ok mixed_ok so5 (D := D5) (code := code5) (n := 102) Try.func5 (by kernel_rfl) (by kernel_rfl) (by kernel_rfl) (fun w0 mu _ hs => (loops_of (l := []) (by kernel_rfl) (List.forall_mem_nil _))) t5_eq

end Go.TM
