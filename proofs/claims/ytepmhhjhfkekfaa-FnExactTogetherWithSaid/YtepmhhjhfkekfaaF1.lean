/- What the functions answer, as terms; their contracts. -/
import Derived.Test.YtepmhhjhfkekfaaBase
set_option linter.unusedSimpArgs false
set_option linter.unusedVariables false
namespace Go.TM
open Go Go.RowKit Go.Proofs

/-! ### f35: laws.szIntS -/
noncomputable def code35 : Code := match Try.f35.body with | some c => c | none => .skip
def ps35 : List AP := [.val false [.shr T_i], .val false [.int .i64]]
def rs35 : List RP := [{ src := .tmp 4, agg := false, ps := [.int .i64] }]
noncomputable def sl35 : SemL := []
def D35 : Draws := fun _ => .nil
noncomputable def L35 {R : Type} : Loops R := fun _ _ _ _ => none
noncomputable def laws_szIntS (a0 : List (Int × Unit)) (left1 : Int) : Option (Int × Unit) :=
  bif decide (IntKind.i64.wrap (left1 - ((List.length a0 : Nat) : Int)) < (0 : Int)) then
    some ((-1 : Int), ())
  else
    some (IntKind.i64.wrap (left1 - ((List.length a0 : Nat) : Int)), ())
noncomputable def x35 (x : (List (Int × Unit)) × Int × Unit) : Option (Int × Unit) := laws_szIntS x.1 x.2.1
noncomputable def sem35 : Sem1 := semOf ps35 rs35 x35
theorem so35 : SemsOk Try.prog (semsOf sl35) := sems_nil
theorem t35_eq (x : denR (headRT (ps35.map some))) : codeK (tabOf tr) (semsOf sl35) D35 L35 code35 (start 12 ps35 x) (finK rs35 ps35) = x35 x := by kernel_rfl
theorem k35 : Known Try.prog 35 sem35 :=
  fn_auto tr_ok eq_ok mixed_ok so35 (D := D35) (code := code35) (n := 12) Try.func35 (by kernel_rfl) (by kernel_rfl) (by kernel_rfl) (fun w0 mu _ hs => (loops_of (l := []) (by kernel_rfl) (List.forall_mem_nil _))) t35_eq

/-! ### f6: laws.szRing -/
noncomputable def code6 : Code := match Try.f6.body with | some c => c | none => .skip
def ps6 : List AP := [.val true [.int .i64, .shr T_i], .val false [.int .i64]]
def rs6 : List RP := [{ src := .tmp 4, agg := false, ps := [.int .i64] }]
noncomputable def sl6 : SemL := [(35, (.shr, .shr, .shr, sem35))]
def D6 : Draws := fun _ => .nil
noncomputable def L6 {R : Type} : Loops R := fun _ _ _ _ => none
noncomputable def laws_szRing (a0c0 : Int) (a0c1 : List (Int × Unit)) (left1 : Int) : Option (Int × Unit) :=
  Option.bind (laws_szIntS a0c1 left1) fun y1 =>
  bif decide (y1.1 < (0 : Int)) then
    some ((-1 : Int), ())
  else
    some (y1.1, ())
noncomputable def x6 (x : Int × (List (Int × Unit)) × Int × Unit) : Option (Int × Unit) := laws_szRing x.1 x.2.1 x.2.2.1
noncomputable def sem6 : Sem1 := semOf ps6 rs6 x6
theorem so6 : SemsOk Try.prog (semsOf sl6) := sems_cons k35 (sems_nil)
theorem t6_eq (x : denR (headRT (ps6.map some))) : codeK (tabOf tr) (semsOf sl6) D6 L6 code6 (start 12 ps6 x) (finK rs6 ps6) = x6 x := by kernel_rfl
theorem k6 : Known Try.prog 6 sem6 :=
  fn_auto tr_ok eq_ok mixed_ok so6 (D := D6) (code := code6) (n := 12) Try.func6 (by kernel_rfl) (by kernel_rfl) (by kernel_rfl) (fun w0 mu _ hs => (loops_of (l := []) (by kernel_rfl) (List.forall_mem_nil _))) t6_eq

/-! ### f96: laws.szItem -/
noncomputable def code96 : Code := match Try.f96.body with | some c => c | none => .skip
def ps96 : List AP := [.val true [.int .i64, .int .i64, .int .i64, .str], .val false [.int .i64]]
def rs96 : List RP := [{ src := .tmp 4, agg := false, ps := [.int .i64] }]
noncomputable def sl96 : SemL := []
def D96 : Draws := fun _ => .nil
noncomputable def L96 {R : Type} : Loops R := fun _ _ _ _ => none
noncomputable def laws_szItem (a0c0 : Int) (a0c1 : Int) (a0c2 : Int) (a0c3 : ByteArray) (left1 : Int) : Option (Int × Unit) :=
  bif decide (IntKind.i64.wrap (left1 - ((ByteArray.size a0c3 : Nat) : Int)) < (0 : Int)) then
    some ((-1 : Int), ())
  else
    some (IntKind.i64.wrap (left1 - ((ByteArray.size a0c3 : Nat) : Int)), ())
noncomputable def x96 (x : Int × Int × Int × ByteArray × Int × Unit) : Option (Int × Unit) := laws_szItem x.1 x.2.1 x.2.2.1 x.2.2.2.1 x.2.2.2.2.1
noncomputable def sem96 : Sem1 := semOf ps96 rs96 x96
theorem so96 : SemsOk Try.prog (semsOf sl96) := sems_nil
theorem t96_eq (x : denR (headRT (ps96.map some))) : codeK (tabOf tr) (semsOf sl96) D96 L96 code96 (start 13 ps96 x) (finK rs96 ps96) = x96 x := by kernel_rfl
theorem k96 : Known Try.prog 96 sem96 :=
  fn_auto tr_ok eq_ok mixed_ok so96 (D := D96) (code := code96) (n := 13) Try.func96 (by kernel_rfl) (by kernel_rfl) (by kernel_rfl) (fun w0 mu _ hs => (loops_of (l := []) (by kernel_rfl) (List.forall_mem_nil _))) t96_eq

/-! ### f72: laws.szItemS -/
noncomputable def code72 : Code := match Try.f72.body with | some c => c | none => .skip
def ps72 : List AP := [.val false [.shr T_iiis], .val false [.int .i64]]
def rs72 : List RP := [{ src := .tmp 4, agg := false, ps := [.int .i64] }]
noncomputable def sl72 : SemL := [(96, (.shr, .shr, .shr, sem96))]
def D72 : Draws := fun _ => .nil
def hp72_0 : List (Option AP) := [some (.val false [.shr T_iiis]), some (.val false [.int .i64]), none, none, none, some (.val false [.int .i64]), none, none, none, none, none, none, none, none, none, none, none, none, none, none, none, none, none, none, none, none, none, none]
def e72_0 : List (Option AP) := [none, some (.val false [.int .i64]), none, none, none, none, none, none, none, none, none, none, none, none, none, none, none, none, none, none, none, none, none, none, none, none, none, none]
def q72_0 : List (Option AP) := [none, none, none, none, some (.val false [.int .i64]), none, none, none, none, none, none, none, none, none, none, none, none, none, none, none, none, none, none, none, none, none, none, none]
abbrev H72_0 : Type := (List R_iiis) × Int × Int × Unit
abbrev E72_0 : Type := Int × Unit
abbrev Q72_0 : Type := Int × Unit
noncomputable def laws_szItemS_c0 (a0 : List R_iiis) (left1 : Int) (i5 : Int) : Option (Sum H72_0 (Sum E72_0 Q72_0)) :=
  bif decide (i5 < ((List.length a0 : Nat) : Int)) then
    bif decide ((0 : Int) ≤ i5) then Option.bind ((a0)[Int.toNat i5]?) fun r1 =>
      Option.bind (laws_szItem r1.1 r1.2.1 r1.2.2.1 r1.2.2.2.1 left1) fun y2 =>
      bif decide (y2.1 < (0 : Int)) then
        some (.inr (.inr ((-1 : Int), ())))
      else
        some (.inl (a0, y2.1, IntKind.i64.wrap (i5 + (1 : Int)), ()))
    else none
  else
    some (.inr (.inl (left1, ())))
noncomputable def laws_szItemS_r0 (x : H72_0) : Option (Sum H72_0 (Sum E72_0 Q72_0)) := laws_szItemS_c0 x.1 x.2.1 x.2.2.1
noncomputable def L72 {R : Type} : Loops R := fun id _ st k => bif Nat.beq id 0 then loopAt hp72_0 e72_0 q72_0 laws_szItemS_r0 st k else none
noncomputable def laws_szItemS (a0 : List R_iiis) (left1 : Int) : Option (Int × Unit) :=
  bif decide (IntKind.i64.wrap (left1 - ((List.length a0 : Nat) : Int)) < (0 : Int)) then
    some ((-1 : Int), ())
  else
    outK (loopV laws_szItemS_r0 (a0, IntKind.i64.wrap (left1 - ((List.length a0 : Nat) : Int)), (0 : Int), ())) (fun y1 =>
      some (y1.1, ())) (fun y2 =>
      some (y2.1, ()))
noncomputable def x72 (x : (List R_iiis) × Int × Unit) : Option (Int × Unit) := laws_szItemS x.1 x.2.1
noncomputable def sem72 : Sem1 := semOf ps72 rs72 x72
theorem so72 : SemsOk Try.prog (semsOf sl72) := sems_cons k96 (sems_nil)
noncomputable def b72_0 : Code := nthLoop code72 0
theorem t72_r0_eq (x : denR (headRT hp72_0)) : codeK (tabOf tr) (semsOf sl72) D72 L72 b72_0 (headSt hp72_0 x) (roundK 0 hp72_0 e72_0 q72_0) = laws_szItemS_r0 x := by kernel_rfl
theorem loop72_0 {R : Type} (r : R) (w0 : World) (mu : Mu) (hs : AnShape ps72 mu) : LoopAt Try.prog w0 mu 27 (L72 : Loops R) r 0 b72_0 :=
  loop_auto tr_ok eq_ok mixed_ok so72 (D := D72) hs (by kernel_rfl) (fun _ => (loops_of (l := []) (by kernel_rfl) (List.forall_mem_nil _))) t72_r0_eq (fun _ _ => rfl)
theorem t72_eq (x : denR (headRT (ps72.map some))) : codeK (tabOf tr) (semsOf sl72) D72 L72 code72 (start 27 ps72 x) (finK rs72 ps72) = x72 x := by kernel_rfl
theorem k72 : Known Try.prog 72 sem72 :=
  fn_auto tr_ok eq_ok mixed_ok so72 (D := D72) (code := code72) (n := 27) Try.func72 (by kernel_rfl) (by kernel_rfl) (by kernel_rfl) (fun w0 mu _ hs => (loops_of (l := [(0, b72_0)]) (by kernel_rfl) (List.forall_mem_cons.2 ⟨loop72_0 _ w0 mu hs, (List.forall_mem_nil _)⟩))) t72_eq

/-! ### f36: laws.szBundle -/
noncomputable def code36 : Code := match Try.f36.body with | some c => c | none => .skip
def ps36 : List AP := [.val true [.int .i64, .int .i64, .int .i64, .shr T_iiis], .val false [.int .i64]]
def rs36 : List RP := [{ src := .tmp 4, agg := false, ps := [.int .i64] }]
noncomputable def sl36 : SemL := [(72, (.shr, .shr, .shr, sem72))]
def D36 : Draws := fun _ => .nil
noncomputable def L36 {R : Type} : Loops R := fun _ _ _ _ => none
noncomputable def laws_szBundle (a0c0 : Int) (a0c1 : Int) (a0c2 : Int) (a0c3 : List R_iiis) (left1 : Int) : Option (Int × Unit) :=
  Option.bind (laws_szItemS a0c3 left1) fun y1 =>
  bif decide (y1.1 < (0 : Int)) then
    some ((-1 : Int), ())
  else
    some (y1.1, ())
noncomputable def x36 (x : Int × Int × Int × (List R_iiis) × Int × Unit) : Option (Int × Unit) := laws_szBundle x.1 x.2.1 x.2.2.1 x.2.2.2.1 x.2.2.2.2.1
noncomputable def sem36 : Sem1 := semOf ps36 rs36 x36
theorem so36 : SemsOk Try.prog (semsOf sl36) := sems_cons k72 (sems_nil)
theorem t36_eq (x : denR (headRT (ps36.map some))) : codeK (tabOf tr) (semsOf sl36) D36 L36 code36 (start 12 ps36 x) (finK rs36 ps36) = x36 x := by kernel_rfl
theorem k36 : Known Try.prog 36 sem36 :=
  fn_auto tr_ok eq_ok mixed_ok so36 (D := D36) (code := code36) (n := 12) Try.func36 (by kernel_rfl) (by kernel_rfl) (by kernel_rfl) (fun w0 mu _ hs => (loops_of (l := []) (by kernel_rfl) (List.forall_mem_nil _))) t36_eq

/-! ### f7: laws.szBundleS -/
noncomputable def code7 : Code := match Try.f7.body with | some c => c | none => .skip
def ps7 : List AP := [.val false [.shr T_iiiLiiisE], .val false [.int .i64]]
def rs7 : List RP := [{ src := .tmp 4, agg := false, ps := [.int .i64] }]
noncomputable def sl7 : SemL := [(36, (.shr, .shr, .shr, sem36))]
def D7 : Draws := fun _ => .nil
def hp7_0 : List (Option AP) := [some (.val false [.shr T_iiiLiiisE]), some (.val false [.int .i64]), none, none, none, some (.val false [.int .i64]), none, none, none, none, none, none, none, none, none, none, none, none, none, none, none, none, none, none, none, none, none, none]
def e7_0 : List (Option AP) := [none, some (.val false [.int .i64]), none, none, none, none, none, none, none, none, none, none, none, none, none, none, none, none, none, none, none, none, none, none, none, none, none, none]
def q7_0 : List (Option AP) := [none, none, none, none, some (.val false [.int .i64]), none, none, none, none, none, none, none, none, none, none, none, none, none, none, none, none, none, none, none, none, none, none, none]
abbrev H7_0 : Type := (List R_iiiLiiisE) × Int × Int × Unit
abbrev E7_0 : Type := Int × Unit
abbrev Q7_0 : Type := Int × Unit
noncomputable def laws_szBundleS_c0 (a0 : List R_iiiLiiisE) (left1 : Int) (i5 : Int) : Option (Sum H7_0 (Sum E7_0 Q7_0)) :=
  bif decide (i5 < ((List.length a0 : Nat) : Int)) then
    bif decide ((0 : Int) ≤ i5) then Option.bind ((a0)[Int.toNat i5]?) fun r1 =>
      Option.bind (laws_szBundle r1.1 r1.2.1 r1.2.2.1 r1.2.2.2.1 left1) fun y2 =>
      bif decide (y2.1 < (0 : Int)) then
        some (.inr (.inr ((-1 : Int), ())))
      else
        some (.inl (a0, y2.1, IntKind.i64.wrap (i5 + (1 : Int)), ()))
    else none
  else
    some (.inr (.inl (left1, ())))
noncomputable def laws_szBundleS_r0 (x : H7_0) : Option (Sum H7_0 (Sum E7_0 Q7_0)) := laws_szBundleS_c0 x.1 x.2.1 x.2.2.1
noncomputable def L7 {R : Type} : Loops R := fun id _ st k => bif Nat.beq id 0 then loopAt hp7_0 e7_0 q7_0 laws_szBundleS_r0 st k else none
noncomputable def laws_szBundleS (a0 : List R_iiiLiiisE) (left1 : Int) : Option (Int × Unit) :=
  bif decide (IntKind.i64.wrap (left1 - ((List.length a0 : Nat) : Int)) < (0 : Int)) then
    some ((-1 : Int), ())
  else
    outK (loopV laws_szBundleS_r0 (a0, IntKind.i64.wrap (left1 - ((List.length a0 : Nat) : Int)), (0 : Int), ())) (fun y1 =>
      some (y1.1, ())) (fun y2 =>
      some (y2.1, ()))
noncomputable def x7 (x : (List R_iiiLiiisE) × Int × Unit) : Option (Int × Unit) := laws_szBundleS x.1 x.2.1
noncomputable def sem7 : Sem1 := semOf ps7 rs7 x7
theorem so7 : SemsOk Try.prog (semsOf sl7) := sems_cons k36 (sems_nil)
noncomputable def b7_0 : Code := nthLoop code7 0
theorem t7_r0_eq (x : denR (headRT hp7_0)) : codeK (tabOf tr) (semsOf sl7) D7 L7 b7_0 (headSt hp7_0 x) (roundK 0 hp7_0 e7_0 q7_0) = laws_szBundleS_r0 x := by kernel_rfl
theorem loop7_0 {R : Type} (r : R) (w0 : World) (mu : Mu) (hs : AnShape ps7 mu) : LoopAt Try.prog w0 mu 27 (L7 : Loops R) r 0 b7_0 :=
  loop_auto tr_ok eq_ok mixed_ok so7 (D := D7) hs (by kernel_rfl) (fun _ => (loops_of (l := []) (by kernel_rfl) (List.forall_mem_nil _))) t7_r0_eq (fun _ _ => rfl)
theorem t7_eq (x : denR (headRT (ps7.map some))) : codeK (tabOf tr) (semsOf sl7) D7 L7 code7 (start 27 ps7 x) (finK rs7 ps7) = x7 x := by kernel_rfl
theorem k7 : Known Try.prog 7 sem7 :=
  fn_auto tr_ok eq_ok mixed_ok so7 (D := D7) (code := code7) (n := 27) Try.func7 (by kernel_rfl) (by kernel_rfl) (by kernel_rfl) (fun w0 mu _ hs => (loops_of (l := [(0, b7_0)]) (by kernel_rfl) (List.forall_mem_cons.2 ⟨loop7_0 _ w0 mu hs, (List.forall_mem_nil _)⟩))) t7_eq

/-! ### f39: laws.toIntS -/
noncomputable def code39 : Code := match Try.f39.body with | some c => c | none => .skip
def ps39 : List AP := [.val false [.shr T_i]]
def rs39 : List RP := [{ src := .tmp 2, agg := false, ps := [.own T_i] }]
noncomputable def sl39 : SemL := []
def D39 : Draws := fun _ => .nil
def hp39_0 : List (Option AP) := [some (.val false [.shr T_i]), none, none, some (.val false [.own T_i]), some (.val false [.int .i64]), none, none, none, none, none, none, none, none, none, none, none, none, none, none, none, none, none, none]
def e39_0 : List (Option AP) := [none, none, none, some (.val false [.own T_i]), none, none, none, none, none, none, none, none, none, none, none, none, none, none, none, none, none, none, none]
def q39_0 : List (Option AP) := [none, none, none, none, none, none, none, none, none, none, none, none, none, none, none, none, none, none, none, none, none, none, none]
abbrev H39_0 : Type := (List (Int × Unit)) × (List (Int × Unit)) × Int × Unit
abbrev E39_0 : Type := (List (Int × Unit)) × Unit
abbrev Q39_0 : Type := Unit
noncomputable def laws_toIntS_c0 (a0 : List (Int × Unit)) (out3 : List (Int × Unit)) (i4 : Int) : Option (Sum H39_0 (Sum E39_0 Q39_0)) :=
  bif decide (i4 < ((List.length a0 : Nat) : Int)) then
    bif decide ((0 : Int) ≤ i4) then Option.bind ((a0)[Int.toNat i4]?) fun r1 =>
      bif decide ((0 : Int) ≤ i4) then bif Nat.blt (Int.toNat i4) (List.length out3) then Option.bind ((out3)[Int.toNat i4]?) fun r2 =>
          some (.inl (a0, List.set out3 (Int.toNat i4) (r1.1, ()), IntKind.i64.wrap (i4 + (1 : Int)), ()))
        else none
      else none
    else none
  else
    some (.inr (.inl (out3, ())))
noncomputable def laws_toIntS_r0 (x : H39_0) : Option (Sum H39_0 (Sum E39_0 Q39_0)) := laws_toIntS_c0 x.1 x.2.1 x.2.2.1
noncomputable def L39 {R : Type} : Loops R := fun id _ st k => bif Nat.beq id 0 then loopAt hp39_0 e39_0 q39_0 laws_toIntS_r0 st k else none
noncomputable def laws_toIntS (a0 : List (Int × Unit)) : Option ((List (Int × Unit)) × Unit) :=
  bif decide (((List.length a0 : Nat) : Int) = ((List.length a0 : Nat) : Int)) then bif decide ((0 : Int) ≤ ((List.length a0 : Nat) : Int)) then bif Nat.ble ((Int.toNat ((List.length a0 : Nat) : Int)) * 8) lim then outK (loopV laws_toIntS_r0 (a0, List.replicate (Int.toNat ((List.length a0 : Nat) : Int)) ((0 : Int), ()), (0 : Int), ())) (fun y1 =>
          some (y1.1, ())) (fun y2 =>
          none)
      else none
    else none
  else none
noncomputable def x39 (x : (List (Int × Unit)) × Unit) : Option ((List (Int × Unit)) × Unit) := laws_toIntS x.1
noncomputable def sem39 : Sem1 := semOf ps39 rs39 x39
theorem so39 : SemsOk Try.prog (semsOf sl39) := sems_nil
noncomputable def b39_0 : Code := nthLoop code39 0
theorem t39_r0_eq (x : denR (headRT hp39_0)) : codeK (tabOf tr) (semsOf sl39) D39 L39 b39_0 (headSt hp39_0 x) (roundK 0 hp39_0 e39_0 q39_0) = laws_toIntS_r0 x := by kernel_rfl
theorem loop39_0 {R : Type} (r : R) (w0 : World) (mu : Mu) (hs : AnShape ps39 mu) : LoopAt Try.prog w0 mu 22 (L39 : Loops R) r 0 b39_0 :=
  loop_auto tr_ok eq_ok mixed_ok so39 (D := D39) hs (by kernel_rfl) (fun _ => (loops_of (l := []) (by kernel_rfl) (List.forall_mem_nil _))) t39_r0_eq (fun _ _ => rfl)
theorem t39_eq (x : denR (headRT (ps39.map some))) : codeK (tabOf tr) (semsOf sl39) D39 L39 code39 (start 22 ps39 x) (finK rs39 ps39) = x39 x := by kernel_rfl
theorem k39 : Known Try.prog 39 sem39 :=
  fn_auto tr_ok eq_ok mixed_ok so39 (D := D39) (code := code39) (n := 22) Try.func39 (by kernel_rfl) (by kernel_rfl) (by kernel_rfl) (fun w0 mu _ hs => (loops_of (l := [(0, b39_0)]) (by kernel_rfl) (List.forall_mem_cons.2 ⟨loop39_0 _ w0 mu hs, (List.forall_mem_nil _)⟩))) t39_eq

/-! ### f9: laws.toRing -/
noncomputable def code9 : Code := match Try.f9.body with | some c => c | none => .skip
def ps9 : List AP := [.val true [.int .i64, .shr T_i]]
def rs9 : List RP := [{ src := .cell 2, agg := true, ps := [.int .i64, .own T_i] }]
noncomputable def sl9 : SemL := [(39, (.shr, .shr, .shr, sem39))]
def D9 : Draws := fun _ => .nil
noncomputable def L9 {R : Type} : Loops R := fun _ _ _ _ => none
noncomputable def laws_toRing (a0c0 : Int) (a0c1 : List (Int × Unit)) : Option (Int × (List (Int × Unit)) × Unit) :=
  Option.bind (laws_toIntS a0c1) fun y1 =>
  some (a0c0, y1.1, ())
noncomputable def x9 (x : Int × (List (Int × Unit)) × Unit) : Option (Int × (List (Int × Unit)) × Unit) := laws_toRing x.1 x.2.1
noncomputable def sem9 : Sem1 := semOf ps9 rs9 x9
theorem so9 : SemsOk Try.prog (semsOf sl9) := sems_cons k39 (sems_nil)
theorem t9_eq (x : denR (headRT (ps9.map some))) : codeK (tabOf tr) (semsOf sl9) D9 L9 code9 (start 12 ps9 x) (finK rs9 ps9) = x9 x := by kernel_rfl
theorem k9 : Known Try.prog 9 sem9 :=
  fn_auto tr_ok eq_ok mixed_ok so9 (D := D9) (code := code9) (n := 12) Try.func9 (by kernel_rfl) (by kernel_rfl) (by kernel_rfl) (fun w0 mu _ hs => (loops_of (l := []) (by kernel_rfl) (List.forall_mem_nil _))) t9_eq

/-! ### f98: laws.toItem -/
noncomputable def code98 : Code := match Try.f98.body with | some c => c | none => .skip
def ps98 : List AP := [.val true [.int .i64, .int .i64, .int .i64, .str]]
def rs98 : List RP := [{ src := .cell 2, agg := true, ps := [.int .i64, .int .i64, .int .i64, .str] }]
noncomputable def sl98 : SemL := []
def D98 : Draws := fun _ => .nil
noncomputable def L98 {R : Type} : Loops R := fun _ _ _ _ => none
noncomputable def laws_toItem (a0c0 : Int) (a0c1 : Int) (a0c2 : Int) (a0c3 : ByteArray) : Option (Int × Int × Int × ByteArray × Unit) :=
  some (a0c0, a0c1, a0c2, a0c3, ())
noncomputable def x98 (x : Int × Int × Int × ByteArray × Unit) : Option (Int × Int × Int × ByteArray × Unit) := laws_toItem x.1 x.2.1 x.2.2.1 x.2.2.2.1
noncomputable def sem98 : Sem1 := semOf ps98 rs98 x98
theorem so98 : SemsOk Try.prog (semsOf sl98) := sems_nil
theorem t98_eq (x : denR (headRT (ps98.map some))) : codeK (tabOf tr) (semsOf sl98) D98 L98 code98 (start 17 ps98 x) (finK rs98 ps98) = x98 x := by kernel_rfl
theorem k98 : Known Try.prog 98 sem98 :=
  fn_auto tr_ok eq_ok mixed_ok so98 (D := D98) (code := code98) (n := 17) Try.func98 (by kernel_rfl) (by kernel_rfl) (by kernel_rfl) (fun w0 mu _ hs => (loops_of (l := []) (by kernel_rfl) (List.forall_mem_nil _))) t98_eq

/-! ### f74: laws.toItemS -/
noncomputable def code74 : Code := match Try.f74.body with | some c => c | none => .skip
def ps74 : List AP := [.val false [.shr T_iiis]]
def rs74 : List RP := [{ src := .tmp 2, agg := false, ps := [.own T_iiis] }]
noncomputable def sl74 : SemL := [(98, (.shr, .shr, .shr, sem98))]
def D74 : Draws := fun _ => .nil
def hp74_0 : List (Option AP) := [some (.val false [.shr T_iiis]), none, none, some (.val false [.own T_iiis]), some (.val false [.int .i64]), none, none, none, none, none, none, none, none, none, none, none, none, none, none, none, none, none, none, none]
def e74_0 : List (Option AP) := [none, none, none, some (.val false [.own T_iiis]), none, none, none, none, none, none, none, none, none, none, none, none, none, none, none, none, none, none, none, none]
def q74_0 : List (Option AP) := [none, none, none, none, none, none, none, none, none, none, none, none, none, none, none, none, none, none, none, none, none, none, none, none]
abbrev H74_0 : Type := (List R_iiis) × (List R_iiis) × Int × Unit
abbrev E74_0 : Type := (List R_iiis) × Unit
abbrev Q74_0 : Type := Unit
noncomputable def laws_toItemS_c0 (a0 : List R_iiis) (out3 : List R_iiis) (i4 : Int) : Option (Sum H74_0 (Sum E74_0 Q74_0)) :=
  bif decide (i4 < ((List.length a0 : Nat) : Int)) then
    bif decide ((0 : Int) ≤ i4) then Option.bind ((a0)[Int.toNat i4]?) fun r1 =>
      Option.bind (laws_toItem r1.1 r1.2.1 r1.2.2.1 r1.2.2.2.1) fun y2 =>
      bif decide ((0 : Int) ≤ i4) then bif Nat.blt (Int.toNat i4) (List.length out3) then Option.bind ((out3)[Int.toNat i4]?) fun r3 =>
          some (.inl (a0, List.set out3 (Int.toNat i4) (y2.1, y2.2.1, y2.2.2.1, y2.2.2.2.1, ()), IntKind.i64.wrap (i4 + (1 : Int)), ()))
        else none
      else none
    else none
  else
    some (.inr (.inl (out3, ())))
noncomputable def laws_toItemS_r0 (x : H74_0) : Option (Sum H74_0 (Sum E74_0 Q74_0)) := laws_toItemS_c0 x.1 x.2.1 x.2.2.1
noncomputable def L74 {R : Type} : Loops R := fun id _ st k => bif Nat.beq id 0 then loopAt hp74_0 e74_0 q74_0 laws_toItemS_r0 st k else none
noncomputable def laws_toItemS (a0 : List R_iiis) : Option ((List R_iiis) × Unit) :=
  bif decide (((List.length a0 : Nat) : Int) = ((List.length a0 : Nat) : Int)) then bif decide ((0 : Int) ≤ ((List.length a0 : Nat) : Int)) then bif Nat.ble ((Int.toNat ((List.length a0 : Nat) : Int)) * 40) lim then outK (loopV laws_toItemS_r0 (a0, List.replicate (Int.toNat ((List.length a0 : Nat) : Int)) ((0 : Int), (0 : Int), (0 : Int), ByteArray.empty, ()), (0 : Int), ())) (fun y1 =>
          some (y1.1, ())) (fun y2 =>
          none)
      else none
    else none
  else none
noncomputable def x74 (x : (List R_iiis) × Unit) : Option ((List R_iiis) × Unit) := laws_toItemS x.1
noncomputable def sem74 : Sem1 := semOf ps74 rs74 x74
theorem so74 : SemsOk Try.prog (semsOf sl74) := sems_cons k98 (sems_nil)
noncomputable def b74_0 : Code := nthLoop code74 0
theorem t74_r0_eq (x : denR (headRT hp74_0)) : codeK (tabOf tr) (semsOf sl74) D74 L74 b74_0 (headSt hp74_0 x) (roundK 0 hp74_0 e74_0 q74_0) = laws_toItemS_r0 x := by kernel_rfl
theorem loop74_0 {R : Type} (r : R) (w0 : World) (mu : Mu) (hs : AnShape ps74 mu) : LoopAt Try.prog w0 mu 23 (L74 : Loops R) r 0 b74_0 :=
  loop_auto tr_ok eq_ok mixed_ok so74 (D := D74) hs (by kernel_rfl) (fun _ => (loops_of (l := []) (by kernel_rfl) (List.forall_mem_nil _))) t74_r0_eq (fun _ _ => rfl)
theorem t74_eq (x : denR (headRT (ps74.map some))) : codeK (tabOf tr) (semsOf sl74) D74 L74 code74 (start 23 ps74 x) (finK rs74 ps74) = x74 x := by kernel_rfl
theorem k74 : Known Try.prog 74 sem74 :=
  fn_auto tr_ok eq_ok mixed_ok so74 (D := D74) (code := code74) (n := 23) Try.func74 (by kernel_rfl) (by kernel_rfl) (by kernel_rfl) (fun w0 mu _ hs => (loops_of (l := [(0, b74_0)]) (by kernel_rfl) (List.forall_mem_cons.2 ⟨loop74_0 _ w0 mu hs, (List.forall_mem_nil _)⟩))) t74_eq

/-! ### f40: laws.toBundle -/
noncomputable def code40 : Code := match Try.f40.body with | some c => c | none => .skip
def ps40 : List AP := [.val true [.int .i64, .int .i64, .int .i64, .shr T_iiis]]
def rs40 : List RP := [{ src := .cell 2, agg := true, ps := [.int .i64, .int .i64, .int .i64, .own T_iiis] }]
noncomputable def sl40 : SemL := [(74, (.shr, .shr, .shr, sem74))]
def D40 : Draws := fun _ => .nil
noncomputable def L40 {R : Type} : Loops R := fun _ _ _ _ => none
noncomputable def laws_toBundle (a0c0 : Int) (a0c1 : Int) (a0c2 : Int) (a0c3 : List R_iiis) : Option (Int × Int × Int × (List R_iiis) × Unit) :=
  Option.bind (laws_toItemS a0c3) fun y1 =>
  some (a0c0, a0c1, a0c2, y1.1, ())
noncomputable def x40 (x : Int × Int × Int × (List R_iiis) × Unit) : Option (Int × Int × Int × (List R_iiis) × Unit) := laws_toBundle x.1 x.2.1 x.2.2.1 x.2.2.2.1
noncomputable def sem40 : Sem1 := semOf ps40 rs40 x40
theorem so40 : SemsOk Try.prog (semsOf sl40) := sems_cons k74 (sems_nil)
theorem t40_eq (x : denR (headRT (ps40.map some))) : codeK (tabOf tr) (semsOf sl40) D40 L40 code40 (start 18 ps40 x) (finK rs40 ps40) = x40 x := by kernel_rfl
theorem k40 : Known Try.prog 40 sem40 :=
  fn_auto tr_ok eq_ok mixed_ok so40 (D := D40) (code := code40) (n := 18) Try.func40 (by kernel_rfl) (by kernel_rfl) (by kernel_rfl) (fun w0 mu _ hs => (loops_of (l := []) (by kernel_rfl) (List.forall_mem_nil _))) t40_eq

/-! ### f10: laws.toBundleS -/
noncomputable def code10 : Code := match Try.f10.body with | some c => c | none => .skip
def ps10 : List AP := [.val false [.shr T_iiiLiiisE]]
def rs10 : List RP := [{ src := .tmp 2, agg := false, ps := [.own T_iiiLiiisE .dp] }]
noncomputable def sl10 : SemL := [(40, (.shr, .shr, .shr, sem40))]
def D10 : Draws := fun _ => .nil
def hp10_0 : List (Option AP) := [some (.val false [.shr T_iiiLiiisE]), none, none, some (.val false [.own T_iiiLiiisE .dp]), some (.val false [.int .i64]), none, none, none, none, none, none, none, none, none, none, none, none, none, none, none, none, none, none, none]
def e10_0 : List (Option AP) := [none, none, none, some (.val false [.own T_iiiLiiisE .dp]), none, none, none, none, none, none, none, none, none, none, none, none, none, none, none, none, none, none, none, none]
def q10_0 : List (Option AP) := [none, none, none, none, none, none, none, none, none, none, none, none, none, none, none, none, none, none, none, none, none, none, none, none]
abbrev H10_0 : Type := (List R_iiiLiiisE) × (List R_iiiLiiisE) × Int × Unit
abbrev E10_0 : Type := (List R_iiiLiiisE) × Unit
abbrev Q10_0 : Type := Unit
noncomputable def laws_toBundleS_c0 (a0 : List R_iiiLiiisE) (out3 : List R_iiiLiiisE) (i4 : Int) : Option (Sum H10_0 (Sum E10_0 Q10_0)) :=
  bif decide (i4 < ((List.length a0 : Nat) : Int)) then
    bif decide ((0 : Int) ≤ i4) then Option.bind ((a0)[Int.toNat i4]?) fun r1 =>
      Option.bind (laws_toBundle r1.1 r1.2.1 r1.2.2.1 r1.2.2.2.1) fun y2 =>
      bif decide ((0 : Int) ≤ i4) then bif Nat.blt (Int.toNat i4) (List.length out3) then Option.bind ((out3)[Int.toNat i4]?) fun _ =>
          some (.inl (a0, List.set out3 (Int.toNat i4) (y2.1, y2.2.1, y2.2.2.1, y2.2.2.2.1, ()), IntKind.i64.wrap (i4 + (1 : Int)), ()))
        else none
      else none
    else none
  else
    some (.inr (.inl (out3, ())))
noncomputable def laws_toBundleS_r0 (x : H10_0) : Option (Sum H10_0 (Sum E10_0 Q10_0)) := laws_toBundleS_c0 x.1 x.2.1 x.2.2.1
noncomputable def L10 {R : Type} : Loops R := fun id _ st k => bif Nat.beq id 0 then loopAt hp10_0 e10_0 q10_0 laws_toBundleS_r0 st k else none
noncomputable def laws_toBundleS (a0 : List R_iiiLiiisE) : Option ((List R_iiiLiiisE) × Unit) :=
  bif decide (((List.length a0 : Nat) : Int) = ((List.length a0 : Nat) : Int)) then bif decide ((0 : Int) ≤ ((List.length a0 : Nat) : Int)) then bif Nat.ble ((Int.toNat ((List.length a0 : Nat) : Int)) * 48) lim then outK (loopV laws_toBundleS_r0 (a0, List.replicate (Int.toNat ((List.length a0 : Nat) : Int)) ((0 : Int), (0 : Int), (0 : Int), [], ()), (0 : Int), ())) (fun y1 =>
          some (y1.1, ())) (fun y2 =>
          none)
      else none
    else none
  else none
noncomputable def x10 (x : (List R_iiiLiiisE) × Unit) : Option ((List R_iiiLiiisE) × Unit) := laws_toBundleS x.1
noncomputable def sem10 : Sem1 := semOf ps10 rs10 x10
theorem so10 : SemsOk Try.prog (semsOf sl10) := sems_cons k40 (sems_nil)
noncomputable def b10_0 : Code := nthLoop code10 0
theorem t10_r0_eq (x : denR (headRT hp10_0)) : codeK (tabOf tr) (semsOf sl10) D10 L10 b10_0 (headSt hp10_0 x) (roundK 0 hp10_0 e10_0 q10_0) = laws_toBundleS_r0 x := by kernel_rfl
theorem loop10_0 {R : Type} (r : R) (w0 : World) (mu : Mu) (hs : AnShape ps10 mu) : LoopAt Try.prog w0 mu 23 (L10 : Loops R) r 0 b10_0 :=
  loop_auto tr_ok eq_ok mixed_ok so10 (D := D10) hs (by kernel_rfl) (fun _ => (loops_of (l := []) (by kernel_rfl) (List.forall_mem_nil _))) t10_r0_eq (fun _ _ => rfl)
theorem t10_eq (x : denR (headRT (ps10.map some))) : codeK (tabOf tr) (semsOf sl10) D10 L10 code10 (start 23 ps10 x) (finK rs10 ps10) = x10 x := by kernel_rfl
theorem k10 : Known Try.prog 10 sem10 :=
  fn_auto tr_ok eq_ok mixed_ok so10 (D := D10) (code := code10) (n := 23) Try.func10 (by kernel_rfl) (by kernel_rfl) (by kernel_rfl) (fun w0 mu _ hs => (loops_of (l := [(0, b10_0)]) (by kernel_rfl) (List.forall_mem_cons.2 ⟨loop10_0 _ w0 mu hs, (List.forall_mem_nil _)⟩))) t10_eq

/-! ### f59: spec.l01In -/
noncomputable def code59 : Code := match Try.f59.body with | some c => c | none => .skip
def ps59 : List AP := [.val false [.int .i64], .val false [.int .i64], .val false [.int .i64]]
def rs59 : List RP := [{ src := .tmp 6, agg := false, ps := [.bool] }]
noncomputable def sl59 : SemL := []
def D59 : Draws := fun _ => .nil
noncomputable def L59 {R : Type} : Loops R := fun _ _ _ _ => none
noncomputable def spec_l01In (x0 : Int) (least1 : Int) (most2 : Int) : Option (Bool × Unit) :=
  bif decide (least1 ≤ x0) then
    some (decide (x0 ≤ most2), ())
  else
    some (false, ())
noncomputable def x59 (x : Int × Int × Int × Unit) : Option (Bool × Unit) := spec_l01In x.1 x.2.1 x.2.2.1
noncomputable def sem59 : Sem1 := semOf ps59 rs59 x59
theorem so59 : SemsOk Try.prog (semsOf sl59) := sems_nil
theorem t59_eq (x : denR (headRT (ps59.map some))) : codeK (tabOf tr) (semsOf sl59) D59 L59 code59 (start 15 ps59 x) (finK rs59 ps59) = x59 x := by kernel_rfl
theorem k59 : Known Try.prog 59 sem59 :=
  fn_auto tr_ok eq_ok mixed_ok so59 (D := D59) (code := code59) (n := 15) Try.func59 (by kernel_rfl) (by kernel_rfl) (by kernel_rfl) (fun w0 mu _ hs => (loops_of (l := []) (by kernel_rfl) (List.forall_mem_nil _))) t59_eq

/-! ### f103: spec.ItemOk -/
noncomputable def code103 : Code := match Try.f103.body with | some c => c | none => .skip
def ps103 : List AP := [.val true [.int .i64, .int .i64, .int .i64, .str]]
def rs103 : List RP := [{ src := .tmp 2, agg := false, ps := [.bool] }]
noncomputable def sl103 : SemL := [(59, (.shr, .shr, .shr, sem59))]
def D103 : Draws := fun _ => .nil
noncomputable def L103 {R : Type} : Loops R := fun _ _ _ _ => none
noncomputable def spec_ItemOk (m0c0 : Int) (m0c1 : Int) (m0c2 : Int) (m0c3 : ByteArray) : Option (Bool × Unit) :=
  Option.bind (spec_l01In m0c0 (1 : Int) (60 : Int)) fun y1 =>
  bif y1.1 then
    Option.bind (spec_l01In m0c1 (1 : Int) (5 : Int)) fun y2 =>
    bif y2.1 then
      Option.bind (spec_l01In m0c2 (1 : Int) (2 : Int)) fun y3 =>
      bif y3.1 then
        some (decide (((ByteArray.size m0c3 : Nat) : Int) ≤ (60 : Int)), ())
      else
        some (false, ())
    else
      some (false, ())
  else
    some (false, ())
noncomputable def x103 (x : Int × Int × Int × ByteArray × Unit) : Option (Bool × Unit) := spec_ItemOk x.1 x.2.1 x.2.2.1 x.2.2.2.1
noncomputable def sem103 : Sem1 := semOf ps103 rs103 x103
theorem so103 : SemsOk Try.prog (semsOf sl103) := sems_cons k59 (sems_nil)
theorem t103_eq (x : denR (headRT (ps103.map some))) : codeK (tabOf tr) (semsOf sl103) D103 L103 code103 (start 22 ps103 x) (finK rs103 ps103) = x103 x := by kernel_rfl
theorem k103 : Known Try.prog 103 sem103 :=
  fn_auto tr_ok eq_ok mixed_ok so103 (D := D103) (code := code103) (n := 22) Try.func103 (by kernel_rfl) (by kernel_rfl) (by kernel_rfl) (fun w0 mu _ hs => (loops_of (l := []) (by kernel_rfl) (List.forall_mem_nil _))) t103_eq

/-! ### f97: spec.ItemsOk -/
noncomputable def code97 : Code := match Try.f97.body with | some c => c | none => .skip
def ps97 : List AP := [.val false [.shr T_iiis]]
def rs97 : List RP := [{ src := .tmp 2, agg := false, ps := [.bool] }]
noncomputable def sl97 : SemL := [(103, (.shr, .shr, .shr, sem103))]
def D97 : Draws := fun id => bif Nat.beq id 4 then .op 0 .any (.op 1 .any (.op 2 .any (.op 3 .take (.op 4 .one (.op 5 .any (.op 6 .any (.op 7 .any (.op 8 .any (.op 9 .any (.op 10 .any (.op 11 .any (.op 12 .any (.op 13 .any (.op 14 .any (.op 15 .take (.op 16 .any (.op 17 .any (.op 18 .any (.op 19 .any (.op 20 .take (.op 21 .any (.op 22 .any (.op 23 .any (.nil)))))))))))))))))))))))) else .nil
def hp97_0 : List (Option AP) := [some (.val false [.shr T_iiis]), none, none, some (.val false [.int .i64]), none, none, none, none, none, none, none, none, none, none, none, none, none, none, none, none, none, none, none, none, none, none, none, none, none, none, none, none, none, none, none]
def e97_0 : List (Option AP) := [none, none, none, none, none, none, none, none, none, none, none, none, none, none, none, none, none, none, none, none, none, none, none, none, none, none, none, none, none, none, none, none, none, none, none]
def q97_0 : List (Option AP) := [none, none, some (.val false [.bool]), none, none, none, none, none, none, none, none, none, none, none, none, none, none, none, none, none, none, none, none, none, none, none, none, none, none, none, none, none, none, none, none]
abbrev H97_0 : Type := (List R_iiis) × Int × Unit
abbrev E97_0 : Type := Unit
abbrev Q97_0 : Type := Bool × Unit
noncomputable def spec_ItemsOk_c0 (list0 : List R_iiis) (i3 : Int) : Option (Sum H97_0 (Sum E97_0 Q97_0)) :=
  bif decide (i3 < ((List.length list0 : Nat) : Int)) then
    bif decide ((0 : Int) ≤ i3) then Option.bind ((list0)[Int.toNat i3]?) fun r1 =>
      Option.bind (spec_ItemOk r1.1 r1.2.1 r1.2.2.1 r1.2.2.2.1) fun y2 =>
      bif !y2.1 then
        some (.inr (.inr (false, ())))
      else bif decide ((0 : Int) < i3) then
        bif decide ((0 : Int) ≤ IntKind.i64.wrap (i3 - (1 : Int))) then Option.bind ((list0)[Int.toNat (IntKind.i64.wrap (i3 - (1 : Int)))]?) fun r3 =>
          bif decide ((0 : Int) ≤ i3) then Option.bind ((list0)[Int.toNat i3]?) fun r4 =>
            bif decide (r4.1 ≤ r3.1) then
              some (.inr (.inr (false, ())))
            else
              some (.inl (list0, IntKind.i64.wrap (i3 + (1 : Int)), ()))
          else none
        else none
      else
        some (.inl (list0, IntKind.i64.wrap (i3 + (1 : Int)), ()))
    else none
  else
    some (.inr (.inl (())))
noncomputable def spec_ItemsOk_r0 (x : H97_0) : Option (Sum H97_0 (Sum E97_0 Q97_0)) := spec_ItemsOk_c0 x.1 x.2.1
noncomputable def L97 {R : Type} : Loops R := fun id _ st k => bif Nat.beq id 0 then loopAt hp97_0 e97_0 q97_0 spec_ItemsOk_r0 st k else none
noncomputable def spec_ItemsOk (list0 : List R_iiis) : Option (Bool × Unit) :=
  outK (loopV spec_ItemsOk_r0 (list0, (0 : Int), ())) (fun y1 =>
    some (true, ())) (fun y2 =>
    some (y2.1, ()))
noncomputable def x97 (x : (List R_iiis) × Unit) : Option (Bool × Unit) := spec_ItemsOk x.1
noncomputable def sem97 : Sem1 := semOf ps97 rs97 x97
theorem so97 : SemsOk Try.prog (semsOf sl97) := sems_cons k103 (sems_nil)
noncomputable def b97_0 : Code := nthLoop code97 0
theorem t97_r0_eq (x : denR (headRT hp97_0)) : codeK (tabOf tr) (semsOf sl97) D97 L97 b97_0 (headSt hp97_0 x) (roundK 0 hp97_0 e97_0 q97_0) = spec_ItemsOk_r0 x := by kernel_rfl
theorem loop97_0 {R : Type} (r : R) (w0 : World) (mu : Mu) (hs : AnShape ps97 mu) : LoopAt Try.prog w0 mu 34 (L97 : Loops R) r 0 b97_0 :=
  loop_auto tr_ok eq_ok mixed_ok so97 (D := D97) hs (by kernel_rfl) (fun _ => (loops_of (l := []) (by kernel_rfl) (List.forall_mem_nil _))) t97_r0_eq (fun _ _ => rfl)
theorem t97_eq (x : denR (headRT (ps97.map some))) : codeK (tabOf tr) (semsOf sl97) D97 L97 code97 (start 34 ps97 x) (finK rs97 ps97) = x97 x := by kernel_rfl
theorem k97 : Known Try.prog 97 sem97 :=
  fn_auto tr_ok eq_ok mixed_ok so97 (D := D97) (code := code97) (n := 34) Try.func97 (by kernel_rfl) (by kernel_rfl) (by kernel_rfl) (fun w0 mu _ hs => (loops_of (l := [(0, b97_0)]) (by kernel_rfl) (List.forall_mem_cons.2 ⟨loop97_0 _ w0 mu hs, (List.forall_mem_nil _)⟩))) t97_eq

/-! ### f73: spec.BundleOk -/
noncomputable def code73 : Code := match Try.f73.body with | some c => c | none => .skip
def ps73 : List AP := [.val true [.int .i64, .int .i64, .int .i64, .shr T_iiis]]
def rs73 : List RP := [{ src := .tmp 2, agg := false, ps := [.bool] }]
noncomputable def sl73 : SemL := [(59, (.shr, .shr, .shr, sem59)), (97, (.shr, .shr, .shr, sem97))]
def D73 : Draws := fun _ => .nil
noncomputable def L73 {R : Type} : Loops R := fun _ _ _ _ => none
noncomputable def spec_BundleOk (b0c0 : Int) (b0c1 : Int) (b0c2 : Int) (b0c3 : List R_iiis) : Option (Bool × Unit) :=
  Option.bind (spec_l01In b0c0 (1 : Int) (5 : Int)) fun y1 =>
  bif y1.1 then
    Option.bind (spec_l01In b0c1 (1 : Int) (9 : Int)) fun y2 =>
    bif y2.1 then
      Option.bind (spec_l01In b0c2 (0 : Int) (IntKind.i64.wrap (b0c1 - (1 : Int)))) fun y3 =>
      bif y3.1 then
        Option.bind (spec_ItemsOk b0c3) fun y4 =>
        bif y4.1 then
          bif decide ((0 : Int) < b0c2) then
            some (true, ())
          else
            some (decide (((List.length b0c3 : Nat) : Int) = (0 : Int)), ())
        else
          some (false, ())
      else
        some (false, ())
    else
      some (false, ())
  else
    some (false, ())
noncomputable def x73 (x : Int × Int × Int × (List R_iiis) × Unit) : Option (Bool × Unit) := spec_BundleOk x.1 x.2.1 x.2.2.1 x.2.2.2.1
noncomputable def sem73 : Sem1 := semOf ps73 rs73 x73
theorem so73 : SemsOk Try.prog (semsOf sl73) := sems_cons k59 (sems_cons k97 (sems_nil))
theorem t73_eq (x : denR (headRT (ps73.map some))) : codeK (tabOf tr) (semsOf sl73) D73 L73 code73 (start 35 ps73 x) (finK rs73 ps73) = x73 x := by kernel_rfl
theorem k73 : Known Try.prog 73 sem73 :=
  fn_auto tr_ok eq_ok mixed_ok so73 (D := D73) (code := code73) (n := 35) Try.func73 (by kernel_rfl) (by kernel_rfl) (by kernel_rfl) (fun w0 mu _ hs => (loops_of (l := []) (by kernel_rfl) (List.forall_mem_nil _))) t73_eq

/-! ### f37: spec.l13First -/
noncomputable def code37 : Code := match Try.f37.body with | some c => c | none => .skip
def ps37 : List AP := [.val true [.int .i64, .shr T_i], .val false [.shr T_iiiLiiisE], .val false [.int .i64]]
def rs37 : List RP := [{ src := .cell 6, agg := true, ps := [.int .i64, .int .i64, .int .i64, .shr T_iiis] }, { src := .tmp 7, agg := false, ps := [.bool] }]
noncomputable def sl37 : SemL := [(73, (.shr, .shr, .shr, sem73))]
def D37 : Draws := fun id => bif Nat.beq id 4 then .op 0 .any (.op 1 .any (.op 2 .any (.op 3 .any (.op 4 .take (.op 5 .any (.op 6 .any (.op 7 .any (.op 8 .any (.op 9 .any (.op 10 .any (.op 11 .any (.op 12 .take (.op 13 .any (.op 14 .take (.op 15 .any (.op 16 .any (.op 17 .any (.op 18 .any (.op 19 .any (.op 20 .any (.op 21 .take (.op 22 .one (.op 23 .any (.nil)))))))))))))))))))))))) else .nil
def hp37_0 : List (Option AP) := [none, some (.val false [.shr T_iiiLiiisE]), some (.val false [.int .i64]), some (.box false [.int .i64, .shr T_i]), none, none, some (.box false [.int .i64, .int .i64, .int .i64, .own T_iiis]), none, some (.val false [.int .i64]), none, none, none, none, none, none, none, none, none, none, none, none, none, none, none, none, none, none, none, none, none, none, none, none, none, none, none, none, none, none, none, none, none, none, none, none]
def e37_0 : List (Option AP) := [none, none, none, none, none, none, some (.box false [.int .i64, .int .i64, .int .i64, .own T_iiis]), none, none, none, none, none, none, none, none, none, none, none, none, none, none, none, none, none, none, none, none, none, none, none, none, none, none, none, none, none, none, none, none, none, none, none, none, none, none]
def q37_0 : List (Option AP) := [none, none, none, none, none, none, some (.box false [.int .i64, .int .i64, .int .i64, .shr T_iiis]), some (.val false [.bool]), none, none, none, none, none, none, none, none, none, none, none, none, none, none, none, none, none, none, none, none, none, none, none, none, none, none, none, none, none, none, none, none, none, none, none, none, none]
abbrev H37_0 : Type := (List R_iiiLiiisE) × Int × Int × (List (Int × Unit)) × Int × Int × Int × (List R_iiis) × Int × Unit
abbrev E37_0 : Type := Int × Int × Int × (List R_iiis) × Unit
abbrev Q37_0 : Type := Int × Int × Int × (List R_iiis) × Bool × Unit
noncomputable def spec_l13First_c0 (list1 : List R_iiiLiiisE) (id2 : Int) (r3c0 : Int) (r3c1 : List (Int × Unit)) (t6c0 : Int) (t6c1 : Int) (t6c2 : Int) (t6c3 : List R_iiis) (i8 : Int) : Option (Sum H37_0 (Sum E37_0 Q37_0)) :=
  bif decide (i8 < ((List.length list1 : Nat) : Int)) then
    bif decide ((0 : Int) ≤ i8) then Option.bind ((list1)[Int.toNat i8]?) fun r1 =>
      bif decide (r1.1 = id2) then
        bif decide ((0 : Int) ≤ i8) then Option.bind ((list1)[Int.toNat i8]?) fun r2 =>
          bif decide (r2.2.1 = r3c0) then
            bif decide ((0 : Int) ≤ i8) then Option.bind ((list1)[Int.toNat i8]?) fun r3 =>
              Option.bind (spec_BundleOk r3.1 r3.2.1 r3.2.2.1 r3.2.2.2.1) fun y4 =>
              bif y4.1 then
                bif decide ((0 : Int) ≤ i8) then Option.bind ((list1)[Int.toNat i8]?) fun r5 =>
                  some (.inr (.inr (r5.1, r5.2.1, r5.2.2.1, r5.2.2.2.1, true, ())))
                else none
              else
                some (.inl (list1, id2, r3c0, r3c1, t6c0, t6c1, t6c2, t6c3, IntKind.i64.wrap (i8 + (1 : Int)), ()))
            else none
          else
            some (.inl (list1, id2, r3c0, r3c1, t6c0, t6c1, t6c2, t6c3, IntKind.i64.wrap (i8 + (1 : Int)), ()))
        else none
      else
        some (.inl (list1, id2, r3c0, r3c1, t6c0, t6c1, t6c2, t6c3, IntKind.i64.wrap (i8 + (1 : Int)), ()))
    else none
  else
    some (.inr (.inl (t6c0, t6c1, t6c2, t6c3, ())))
noncomputable def spec_l13First_r0 (x : H37_0) : Option (Sum H37_0 (Sum E37_0 Q37_0)) := spec_l13First_c0 x.1 x.2.1 x.2.2.1 x.2.2.2.1 x.2.2.2.2.1 x.2.2.2.2.2.1 x.2.2.2.2.2.2.1 x.2.2.2.2.2.2.2.1 x.2.2.2.2.2.2.2.2.1
noncomputable def L37 {R : Type} : Loops R := fun id _ st k => bif Nat.beq id 0 then loopAt hp37_0 e37_0 q37_0 spec_l13First_r0 st k else none
noncomputable def spec_l13First (r0c0 : Int) (r0c1 : List (Int × Unit)) (list1 : List R_iiiLiiisE) (id2 : Int) : Option (Int × Int × Int × (List R_iiis) × Bool × Unit) :=
  outK (loopV spec_l13First_r0 (list1, id2, r0c0, r0c1, (0 : Int), (0 : Int), (0 : Int), [], (0 : Int), ())) (fun y1 =>
    some ((0 : Int), (0 : Int), (0 : Int), [], false, ())) (fun y2 =>
    some (y2.1, y2.2.1, y2.2.2.1, y2.2.2.2.1, y2.2.2.2.2.1, ()))
noncomputable def x37 (x : Int × (List (Int × Unit)) × (List R_iiiLiiisE) × Int × Unit) : Option (Int × Int × Int × (List R_iiis) × Bool × Unit) := spec_l13First x.1 x.2.1 x.2.2.1 x.2.2.2.1
noncomputable def sem37 : Sem1 := semOf ps37 rs37 x37
theorem so37 : SemsOk Try.prog (semsOf sl37) := sems_cons k73 (sems_nil)
noncomputable def b37_0 : Code := nthLoop code37 0
theorem t37_r0_eq (x : denR (headRT hp37_0)) : codeK (tabOf tr) (semsOf sl37) D37 L37 b37_0 (headSt hp37_0 x) (roundK 0 hp37_0 e37_0 q37_0) = spec_l13First_r0 x := by kernel_rfl
theorem loop37_0 {R : Type} (r : R) (w0 : World) (mu : Mu) (hs : AnShape ps37 mu) : LoopAt Try.prog w0 mu 44 (L37 : Loops R) r 0 b37_0 :=
  loop_auto tr_ok eq_ok mixed_ok so37 (D := D37) hs (by kernel_rfl) (fun _ => (loops_of (l := []) (by kernel_rfl) (List.forall_mem_nil _))) t37_r0_eq (fun _ _ => rfl)
theorem t37_eq (x : denR (headRT (ps37.map some))) : codeK (tabOf tr) (semsOf sl37) D37 L37 code37 (start 44 ps37 x) (finK rs37 ps37) = x37 x := by kernel_rfl
theorem k37 : Known Try.prog 37 sem37 :=
  fn_auto tr_ok eq_ok mixed_ok so37 (D := D37) (code := code37) (n := 44) Try.func37 (by kernel_rfl) (by kernel_rfl) (by kernel_rfl) (fun w0 mu _ hs => (loops_of (l := [(0, b37_0)]) (by kernel_rfl) (List.forall_mem_cons.2 ⟨loop37_0 _ w0 mu hs, (List.forall_mem_nil _)⟩))) t37_eq

/-! ### f38: spec.l05In -/
noncomputable def code38 : Code := match Try.f38.body with | some c => c | none => .skip
def ps38 : List AP := [.val false [.shr T_i], .val false [.int .i64]]
def rs38 : List RP := [{ src := .tmp 4, agg := false, ps := [.bool] }]
noncomputable def sl38 : SemL := []
def D38 : Draws := fun _ => .nil
def hp38_0 : List (Option AP) := [some (.val false [.shr T_i]), some (.val false [.int .i64]), none, none, none, some (.val false [.int .i64]), none, none, none, none, none, none, none, none, none, none, none, none, none]
def e38_0 : List (Option AP) := [none, none, none, none, none, none, none, none, none, none, none, none, none, none, none, none, none, none, none]
def q38_0 : List (Option AP) := [none, none, none, none, some (.val false [.bool]), none, none, none, none, none, none, none, none, none, none, none, none, none, none]
abbrev H38_0 : Type := (List (Int × Unit)) × Int × Int × Unit
abbrev E38_0 : Type := Unit
abbrev Q38_0 : Type := Bool × Unit
noncomputable def spec_l05In_c0 (list0 : List (Int × Unit)) (x1 : Int) (i5 : Int) : Option (Sum H38_0 (Sum E38_0 Q38_0)) :=
  bif decide (i5 < ((List.length list0 : Nat) : Int)) then
    bif decide ((0 : Int) ≤ i5) then Option.bind ((list0)[Int.toNat i5]?) fun r1 =>
      bif decide (r1.1 = x1) then
        some (.inr (.inr (true, ())))
      else
        some (.inl (list0, x1, IntKind.i64.wrap (i5 + (1 : Int)), ()))
    else none
  else
    some (.inr (.inl (())))
noncomputable def spec_l05In_r0 (x : H38_0) : Option (Sum H38_0 (Sum E38_0 Q38_0)) := spec_l05In_c0 x.1 x.2.1 x.2.2.1
noncomputable def L38 {R : Type} : Loops R := fun id _ st k => bif Nat.beq id 0 then loopAt hp38_0 e38_0 q38_0 spec_l05In_r0 st k else none
noncomputable def spec_l05In (list0 : List (Int × Unit)) (x1 : Int) : Option (Bool × Unit) :=
  outK (loopV spec_l05In_r0 (list0, x1, (0 : Int), ())) (fun y1 =>
    some (false, ())) (fun y2 =>
    some (y2.1, ()))
noncomputable def x38 (x : (List (Int × Unit)) × Int × Unit) : Option (Bool × Unit) := spec_l05In x.1 x.2.1
noncomputable def sem38 : Sem1 := semOf ps38 rs38 x38
theorem so38 : SemsOk Try.prog (semsOf sl38) := sems_nil
noncomputable def b38_0 : Code := nthLoop code38 0
theorem t38_r0_eq (x : denR (headRT hp38_0)) : codeK (tabOf tr) (semsOf sl38) D38 L38 b38_0 (headSt hp38_0 x) (roundK 0 hp38_0 e38_0 q38_0) = spec_l05In_r0 x := by kernel_rfl
theorem loop38_0 {R : Type} (r : R) (w0 : World) (mu : Mu) (hs : AnShape ps38 mu) : LoopAt Try.prog w0 mu 18 (L38 : Loops R) r 0 b38_0 :=
  loop_auto tr_ok eq_ok mixed_ok so38 (D := D38) hs (by kernel_rfl) (fun _ => (loops_of (l := []) (by kernel_rfl) (List.forall_mem_nil _))) t38_r0_eq (fun _ _ => rfl)
theorem t38_eq (x : denR (headRT (ps38.map some))) : codeK (tabOf tr) (semsOf sl38) D38 L38 code38 (start 18 ps38 x) (finK rs38 ps38) = x38 x := by kernel_rfl
theorem k38 : Known Try.prog 38 sem38 :=
  fn_auto tr_ok eq_ok mixed_ok so38 (D := D38) (code := code38) (n := 18) Try.func38 (by kernel_rfl) (by kernel_rfl) (by kernel_rfl) (fun w0 mu _ hs => (loops_of (l := [(0, b38_0)]) (by kernel_rfl) (List.forall_mem_cons.2 ⟨loop38_0 _ w0 mu hs, (List.forall_mem_nil _)⟩))) t38_eq

/-! ### f8: spec.TogetherWith -/
noncomputable def code8 : Code := match Try.f8.body with | some c => c | none => .skip
def ps8 : List AP := [.val true [.int .i64, .shr T_i], .val false [.shr T_iiiLiiisE], .val false [.int .i64]]
def rs8 : List RP := [{ src := .tmp 6, agg := false, ps := [.own T_i] }]
noncomputable def sl8 : SemL := [(37, (.shr, .shr, .shr, sem37)), (38, (.shr, .shr, .shr, sem38))]
def D8 : Draws := fun id => bif Nat.beq id 8 then .op 0 .take (.op 1 .any (.op 2 .any (.op 3 .take (.op 4 .any (.op 5 .any (.op 6 .take (.alt (.op 7 .one (.op 8 .any (.op 9 .any (.op 10 .any (.op 11 .one (.op 12 .last (.op 13 .any (.nil)))))))) (.op 11 .one (.op 7 .one (.op 8 .any (.op 9 .any (.op 10 .any (.op 12 .last (.op 13 .any (.nil))))))))))))))) else .nil
def hp8_0 : List (Option AP) := [none, some (.val false [.shr T_iiiLiiisE]), some (.val false [.int .i64]), some (.box false [.int .i64, .shr T_i]), none, none, none, some (.val false [.own T_i]), some (.box false [.int .i64, .int .i64, .int .i64, .shr T_iiis]), none, some (.val false [.int .i64]), none, none, none, none, none, none, none, none, none, none, none, none, none, none, none, none, none, none, none, none, none, none, none, none, none, none, none, none, none, none, none, none, none, none, none, none, none, none, none, none, none, none, none, none, none, none, none, none, none, none, none, none, none, none, none, none, none, none, none, none, none, none, none, none]
def e8_0 : List (Option AP) := [none, none, none, none, none, none, none, some (.val false [.own T_i]), none, none, none, none, none, none, none, none, none, none, none, none, none, none, none, none, none, none, none, none, none, none, none, none, none, none, none, none, none, none, none, none, none, none, none, none, none, none, none, none, none, none, none, none, none, none, none, none, none, none, none, none, none, none, none, none, none, none, none, none, none, none, none, none, none, none, none]
def q8_0 : List (Option AP) := [none, none, none, none, none, none, none, none, none, none, none, none, none, none, none, none, none, none, none, none, none, none, none, none, none, none, none, none, none, none, none, none, none, none, none, none, none, none, none, none, none, none, none, none, none, none, none, none, none, none, none, none, none, none, none, none, none, none, none, none, none, none, none, none, none, none, none, none, none, none, none, none, none, none, none]
abbrev H8_0 : Type := (List R_iiiLiiisE) × Int × Int × (List (Int × Unit)) × (List (Int × Unit)) × Int × Int × Int × (List R_iiis) × Int × Unit
abbrev E8_0 : Type := (List (Int × Unit)) × Unit
abbrev Q8_0 : Type := Unit
noncomputable def spec_TogetherWith_c0 (list1 : List R_iiiLiiisE) (id2 : Int) (r3c0 : Int) (r3c1 : List (Int × Unit)) (out7 : List (Int × Unit)) (mine8c0 : Int) (mine8c1 : Int) (mine8c2 : Int) (mine8c3 : List R_iiis) (i10 : Int) : Option (Sum H8_0 (Sum E8_0 Q8_0)) :=
  bif decide (i10 < ((List.length r3c1 : Nat) : Int)) then
    bif decide ((0 : Int) ≤ i10) then Option.bind ((r3c1)[Int.toNat i10]?) fun r2 =>
      Option.bind (spec_l13First r3c0 r3c1 list1 r2.1) fun y3 =>
      bif y3.2.2.2.2.1 then
        bif decide (y3.1 = id2) then
          Option.bind (spec_l05In out7 y3.1) fun y4 =>
          bif !y4.1 then
            bif Nat.ble (((List.length out7) + 1) * 8) lim then some (.inl (list1, id2, r3c0, r3c1, out7 ++ [(y3.1, ())], mine8c0, mine8c1, mine8c2, mine8c3, IntKind.i64.wrap (i10 + (1 : Int)), ()))
            else none
          else
            some (.inl (list1, id2, r3c0, r3c1, out7, mine8c0, mine8c1, mine8c2, mine8c3, IntKind.i64.wrap (i10 + (1 : Int)), ()))
        else bif decide (y3.2.2.1 = mine8c2) then
          bif decide ((0 : Int) < y3.2.2.1) then
            Option.bind (spec_l05In out7 y3.1) fun y5 =>
            bif !y5.1 then
              bif Nat.ble (((List.length out7) + 1) * 8) lim then some (.inl (list1, id2, r3c0, r3c1, out7 ++ [(y3.1, ())], mine8c0, mine8c1, mine8c2, mine8c3, IntKind.i64.wrap (i10 + (1 : Int)), ()))
              else none
            else
              some (.inl (list1, id2, r3c0, r3c1, out7, mine8c0, mine8c1, mine8c2, mine8c3, IntKind.i64.wrap (i10 + (1 : Int)), ()))
          else
            some (.inl (list1, id2, r3c0, r3c1, out7, mine8c0, mine8c1, mine8c2, mine8c3, IntKind.i64.wrap (i10 + (1 : Int)), ()))
        else
          some (.inl (list1, id2, r3c0, r3c1, out7, mine8c0, mine8c1, mine8c2, mine8c3, IntKind.i64.wrap (i10 + (1 : Int)), ()))
      else
        some (.inl (list1, id2, r3c0, r3c1, out7, mine8c0, mine8c1, mine8c2, mine8c3, IntKind.i64.wrap (i10 + (1 : Int)), ()))
    else none
  else
    some (.inr (.inl (out7, ())))
noncomputable def spec_TogetherWith_o0 (list1 : List R_iiiLiiisE) (id2 : Int) (r3c0 : Int) (r3c1 : List (Int × Unit)) (out7 : List (Int × Unit)) (mine8c0 : Int) (mine8c1 : Int) (mine8c2 : Int) (mine8c3 : List R_iiis) (i10 : Int) : Option (Sum H8_0 (Sum E8_0 Q8_0)) :=
  bif decide (i10 < ((List.length r3c1 : Nat) : Int)) then
    bif decide ((0 : Int) ≤ i10) then Option.bind ((r3c1)[Int.toNat i10]?) fun r2 =>
      both (Option.bind (spec_l13First r3c0 r3c1 list1 r2.1) fun y3 =>
        bif y3.2.2.2.2.1 then
          bif decide (y3.1 = id2) then
            Option.bind (spec_l05In out7 y3.1) fun y4 =>
            bif !y4.1 then
              bif Nat.ble (((List.length out7) + 1) * 8) lim then some (.inl (list1, id2, r3c0, r3c1, out7 ++ [(y3.1, ())], mine8c0, mine8c1, mine8c2, mine8c3, IntKind.i64.wrap (i10 + (1 : Int)), ()))
              else none
            else
              some (.inl (list1, id2, r3c0, r3c1, out7, mine8c0, mine8c1, mine8c2, mine8c3, IntKind.i64.wrap (i10 + (1 : Int)), ()))
          else bif decide (y3.2.2.1 = mine8c2) then
            bif decide ((0 : Int) < y3.2.2.1) then
              Option.bind (spec_l05In out7 y3.1) fun y5 =>
              bif !y5.1 then
                bif Nat.ble (((List.length out7) + 1) * 8) lim then some (.inl (list1, id2, r3c0, r3c1, out7 ++ [(y3.1, ())], mine8c0, mine8c1, mine8c2, mine8c3, IntKind.i64.wrap (i10 + (1 : Int)), ()))
                else none
              else
                some (.inl (list1, id2, r3c0, r3c1, out7, mine8c0, mine8c1, mine8c2, mine8c3, IntKind.i64.wrap (i10 + (1 : Int)), ()))
            else
              some (.inl (list1, id2, r3c0, r3c1, out7, mine8c0, mine8c1, mine8c2, mine8c3, IntKind.i64.wrap (i10 + (1 : Int)), ()))
          else
            some (.inl (list1, id2, r3c0, r3c1, out7, mine8c0, mine8c1, mine8c2, mine8c3, IntKind.i64.wrap (i10 + (1 : Int)), ()))
        else
          some (.inl (list1, id2, r3c0, r3c1, out7, mine8c0, mine8c1, mine8c2, mine8c3, IntKind.i64.wrap (i10 + (1 : Int)), ()))) (Option.bind (spec_l13First r3c0 r3c1 list1 r2.1) fun y3 =>
        bif y3.2.2.2.2.1 then
          bif decide (y3.1 = id2) then
            Option.bind (spec_l05In out7 y3.1) fun y4 =>
            bif !y4.1 then
              bif Nat.ble (((List.length out7) + 1) * 8) lim then some (.inl (list1, id2, r3c0, r3c1, out7 ++ [(y3.1, ())], mine8c0, mine8c1, mine8c2, mine8c3, IntKind.i64.wrap (i10 + (1 : Int)), ()))
              else none
            else
              some (.inl (list1, id2, r3c0, r3c1, out7, mine8c0, mine8c1, mine8c2, mine8c3, IntKind.i64.wrap (i10 + (1 : Int)), ()))
          else bif decide (y3.2.2.1 = mine8c2) then
            bif decide ((0 : Int) < y3.2.2.1) then
              Option.bind (spec_l05In out7 y3.1) fun y5 =>
              bif !y5.1 then
                bif Nat.ble (((List.length out7) + 1) * 8) lim then some (.inl (list1, id2, r3c0, r3c1, out7 ++ [(y3.1, ())], mine8c0, mine8c1, mine8c2, mine8c3, IntKind.i64.wrap (i10 + (1 : Int)), ()))
                else none
              else
                some (.inl (list1, id2, r3c0, r3c1, out7, mine8c0, mine8c1, mine8c2, mine8c3, IntKind.i64.wrap (i10 + (1 : Int)), ()))
            else
              some (.inl (list1, id2, r3c0, r3c1, out7, mine8c0, mine8c1, mine8c2, mine8c3, IntKind.i64.wrap (i10 + (1 : Int)), ()))
          else
            some (.inl (list1, id2, r3c0, r3c1, out7, mine8c0, mine8c1, mine8c2, mine8c3, IntKind.i64.wrap (i10 + (1 : Int)), ()))
        else
          some (.inl (list1, id2, r3c0, r3c1, out7, mine8c0, mine8c1, mine8c2, mine8c3, IntKind.i64.wrap (i10 + (1 : Int)), ())))
    else none
  else
    some (.inr (.inl (out7, ())))
theorem spec_TogetherWith_o0_eq (list1 : List R_iiiLiiisE) (id2 : Int) (r3c0 : Int) (r3c1 : List (Int × Unit)) (out7 : List (Int × Unit)) (mine8c0 : Int) (mine8c1 : Int) (mine8c2 : Int) (mine8c3 : List R_iiis) (i10 : Int) : spec_TogetherWith_o0 list1 id2 r3c0 r3c1 out7 mine8c0 mine8c1 mine8c2 mine8c3 i10 = spec_TogetherWith_c0 list1 id2 r3c0 r3c1 out7 mine8c0 mine8c1 mine8c2 mine8c3 i10 := by
  simp only [spec_TogetherWith_o0, spec_TogetherWith_c0, both_self]
noncomputable def spec_TogetherWith_r0 (x : H8_0) : Option (Sum H8_0 (Sum E8_0 Q8_0)) := spec_TogetherWith_c0 x.1 x.2.1 x.2.2.1 x.2.2.2.1 x.2.2.2.2.1 x.2.2.2.2.2.1 x.2.2.2.2.2.2.1 x.2.2.2.2.2.2.2.1 x.2.2.2.2.2.2.2.2.1 x.2.2.2.2.2.2.2.2.2.1
noncomputable def L8 {R : Type} : Loops R := fun id _ st k => bif Nat.beq id 0 then loopAt hp8_0 e8_0 q8_0 spec_TogetherWith_r0 st k else none
noncomputable def spec_TogetherWith (r0c0 : Int) (r0c1 : List (Int × Unit)) (list1 : List R_iiiLiiisE) (id2 : Int) : Option ((List (Int × Unit)) × Unit) :=
  Option.bind (spec_l13First r0c0 r0c1 list1 id2) fun y1 =>
  bif !y1.2.2.2.2.1 then
    some ([], ())
  else
    outK (loopV spec_TogetherWith_r0 (list1, id2, r0c0, r0c1, [], y1.1, y1.2.1, y1.2.2.1, y1.2.2.2.1, (0 : Int), ())) (fun y2 =>
      some (y2.1, ())) (fun y3 =>
      none)
noncomputable def x8 (x : Int × (List (Int × Unit)) × (List R_iiiLiiisE) × Int × Unit) : Option ((List (Int × Unit)) × Unit) := spec_TogetherWith x.1 x.2.1 x.2.2.1 x.2.2.2.1
noncomputable def sem8 : Sem1 := semOf ps8 rs8 x8
theorem so8 : SemsOk Try.prog (semsOf sl8) := sems_cons k37 (sems_cons k38 (sems_nil))
noncomputable def b8_0 : Code := nthLoop code8 0
theorem t8_r0_eq (x : denR (headRT hp8_0)) : codeK (tabOf tr) (semsOf sl8) D8 L8 b8_0 (headSt hp8_0 x) (roundK 0 hp8_0 e8_0 q8_0) = spec_TogetherWith_r0 x := (show _ = spec_TogetherWith_o0 x.1 x.2.1 x.2.2.1 x.2.2.2.1 x.2.2.2.2.1 x.2.2.2.2.2.1 x.2.2.2.2.2.2.1 x.2.2.2.2.2.2.2.1 x.2.2.2.2.2.2.2.2.1 x.2.2.2.2.2.2.2.2.2.1 from by kernel_rfl).trans (spec_TogetherWith_o0_eq x.1 x.2.1 x.2.2.1 x.2.2.2.1 x.2.2.2.2.1 x.2.2.2.2.2.1 x.2.2.2.2.2.2.1 x.2.2.2.2.2.2.2.1 x.2.2.2.2.2.2.2.2.1 x.2.2.2.2.2.2.2.2.2.1)
theorem loop8_0 {R : Type} (r : R) (w0 : World) (mu : Mu) (hs : AnShape ps8 mu) : LoopAt Try.prog w0 mu 74 (L8 : Loops R) r 0 b8_0 :=
  loop_auto tr_ok eq_ok mixed_ok so8 (D := D8) hs (by kernel_rfl) (fun _ => (loops_of (l := []) (by kernel_rfl) (List.forall_mem_nil _))) t8_r0_eq (fun _ _ => rfl)
theorem t8_eq (x : denR (headRT (ps8.map some))) : codeK (tabOf tr) (semsOf sl8) D8 L8 code8 (start 74 ps8 x) (finK rs8 ps8) = x8 x := by kernel_rfl
theorem k8 : Known Try.prog 8 sem8 :=
  fn_auto tr_ok eq_ok mixed_ok so8 (D := D8) (code := code8) (n := 74) Try.func8 (by kernel_rfl) (by kernel_rfl) (by kernel_rfl) (fun w0 mu _ hs => (loops_of (l := [(0, b8_0)]) (by kernel_rfl) (List.forall_mem_cons.2 ⟨loop8_0 _ w0 mu hs, (List.forall_mem_nil _)⟩))) t8_eq

/-! ### f63: impl.inRange -/
noncomputable def code63 : Code := match Try.f63.body with | some c => c | none => .skip
def ps63 : List AP := [.val false [.int .i64], .val false [.int .i64], .val false [.int .i64]]
def rs63 : List RP := [{ src := .tmp 6, agg := false, ps := [.bool] }]
noncomputable def sl63 : SemL := []
def D63 : Draws := fun _ => .nil
noncomputable def L63 {R : Type} : Loops R := fun _ _ _ _ => none
noncomputable def impl_inRange (n0 : Int) (least1 : Int) (most2 : Int) : Option (Bool × Unit) :=
  bif decide (least1 ≤ n0) then
    some (decide (n0 ≤ most2), ())
  else
    some (false, ())
noncomputable def x63 (x : Int × Int × Int × Unit) : Option (Bool × Unit) := impl_inRange x.1 x.2.1 x.2.2.1
noncomputable def sem63 : Sem1 := semOf ps63 rs63 x63
theorem so63 : SemsOk Try.prog (semsOf sl63) := sems_nil
theorem t63_eq (x : denR (headRT (ps63.map some))) : codeK (tabOf tr) (semsOf sl63) D63 L63 code63 (start 15 ps63 x) (finK rs63 ps63) = x63 x := by kernel_rfl
theorem k63 : Known Try.prog 63 sem63 :=
  fn_auto tr_ok eq_ok mixed_ok so63 (D := D63) (code := code63) (n := 15) Try.func63 (by kernel_rfl) (by kernel_rfl) (by kernel_rfl) (fun w0 mu _ hs => (loops_of (l := []) (by kernel_rfl) (List.forall_mem_nil _))) t63_eq

/-! ### f99: impl.isDaemon -/
noncomputable def code99 : Code := match Try.f99.body with | some c => c | none => .skip
def ps99 : List AP := [.val false [.int .i64]]
def rs99 : List RP := [{ src := .tmp 2, agg := false, ps := [.bool] }]
noncomputable def sl99 : SemL := [(63, (.shr, .shr, .shr, sem63))]
def D99 : Draws := fun _ => .nil
noncomputable def L99 {R : Type} : Loops R := fun _ _ _ _ => none
noncomputable def impl_isDaemon (n0 : Int) : Option (Bool × Unit) :=
  Option.bind (impl_inRange n0 (1 : Int) (5 : Int)) fun y1 =>
  some (y1.1, ())
noncomputable def x99 (x : Int × Unit) : Option (Bool × Unit) := impl_isDaemon x.1
noncomputable def sem99 : Sem1 := semOf ps99 rs99 x99
theorem so99 : SemsOk Try.prog (semsOf sl99) := sems_cons k63 (sems_nil)
theorem t99_eq (x : denR (headRT (ps99.map some))) : codeK (tabOf tr) (semsOf sl99) D99 L99 code99 (start 5 ps99 x) (finK rs99 ps99) = x99 x := by kernel_rfl
theorem k99 : Known Try.prog 99 sem99 :=
  fn_auto tr_ok eq_ok mixed_ok so99 (D := D99) (code := code99) (n := 5) Try.func99 (by kernel_rfl) (by kernel_rfl) (by kernel_rfl) (fun w0 mu _ hs => (loops_of (l := []) (by kernel_rfl) (List.forall_mem_nil _))) t99_eq

/-! ### f105: impl.isLevel -/
noncomputable def code105 : Code := match Try.f105.body with | some c => c | none => .skip
def ps105 : List AP := [.val false [.int .i64]]
def rs105 : List RP := [{ src := .tmp 2, agg := false, ps := [.bool] }]
noncomputable def sl105 : SemL := []
def D105 : Draws := fun _ => .nil
noncomputable def L105 {R : Type} : Loops R := fun _ _ _ _ => none
noncomputable def impl_isLevel (n0 : Int) : Option (Bool × Unit) :=
  bif decide (n0 = (1 : Int)) then
    some (true, ())
  else
    some (decide (n0 = (2 : Int)), ())
noncomputable def x105 (x : Int × Unit) : Option (Bool × Unit) := impl_isLevel x.1
noncomputable def sem105 : Sem1 := semOf ps105 rs105 x105
theorem so105 : SemsOk Try.prog (semsOf sl105) := sems_nil
theorem t105_eq (x : denR (headRT (ps105.map some))) : codeK (tabOf tr) (semsOf sl105) D105 L105 code105 (start 9 ps105 x) (finK rs105 ps105) = x105 x := by kernel_rfl
theorem k105 : Known Try.prog 105 sem105 :=
  fn_auto tr_ok eq_ok mixed_ok so105 (D := D105) (code := code105) (n := 9) Try.func105 (by kernel_rfl) (by kernel_rfl) (by kernel_rfl) (fun w0 mu _ hs => (loops_of (l := []) (by kernel_rfl) (List.forall_mem_nil _))) t105_eq

/-! ### f104: impl.ItemOk -/
noncomputable def code104 : Code := match Try.f104.body with | some c => c | none => .skip
def ps104 : List AP := [.val true [.int .i64, .int .i64, .int .i64, .str]]
def rs104 : List RP := [{ src := .tmp 2, agg := false, ps := [.bool] }]
noncomputable def sl104 : SemL := [(63, (.shr, .shr, .shr, sem63)), (99, (.shr, .shr, .shr, sem99)), (105, (.shr, .shr, .shr, sem105))]
def D104 : Draws := fun _ => .nil
noncomputable def L104 {R : Type} : Loops R := fun _ _ _ _ => none
noncomputable def impl_ItemOk (m0c0 : Int) (m0c1 : Int) (m0c2 : Int) (m0c3 : ByteArray) : Option (Bool × Unit) :=
  Option.bind (impl_inRange m0c0 (1 : Int) (60 : Int)) fun y1 =>
  bif y1.1 then
    Option.bind (impl_isDaemon m0c1) fun y2 =>
    bif y2.1 then
      Option.bind (impl_isLevel m0c2) fun y3 =>
      bif y3.1 then
        some (decide (((ByteArray.size m0c3 : Nat) : Int) ≤ (60 : Int)), ())
      else
        some (false, ())
    else
      some (false, ())
  else
    some (false, ())
noncomputable def x104 (x : Int × Int × Int × ByteArray × Unit) : Option (Bool × Unit) := impl_ItemOk x.1 x.2.1 x.2.2.1 x.2.2.2.1
noncomputable def sem104 : Sem1 := semOf ps104 rs104 x104
theorem so104 : SemsOk Try.prog (semsOf sl104) := sems_cons k63 (sems_cons k99 (sems_cons k105 (sems_nil)))
theorem t104_eq (x : denR (headRT (ps104.map some))) : codeK (tabOf tr) (semsOf sl104) D104 L104 code104 (start 22 ps104 x) (finK rs104 ps104) = x104 x := by kernel_rfl
theorem k104 : Known Try.prog 104 sem104 :=
  fn_auto tr_ok eq_ok mixed_ok so104 (D := D104) (code := code104) (n := 22) Try.func104 (by kernel_rfl) (by kernel_rfl) (by kernel_rfl) (fun w0 mu _ hs => (loops_of (l := []) (by kernel_rfl) (List.forall_mem_nil _))) t104_eq

/-! ### f100: impl.ItemsOk -/
noncomputable def code100 : Code := match Try.f100.body with | some c => c | none => .skip
def ps100 : List AP := [.val false [.shr T_iiis]]
def rs100 : List RP := [{ src := .tmp 2, agg := false, ps := [.bool] }]
noncomputable def sl100 : SemL := [(104, (.shr, .shr, .shr, sem104))]
def D100 : Draws := fun id => bif Nat.beq id 4 then .op 0 .take (.op 1 .one (.op 2 .any (.op 3 .any (.op 4 .any (.op 5 .any (.op 6 .any (.op 7 .any (.op 8 .take (.op 9 .any (.op 10 .any (.op 11 .any (.op 12 .any (.op 13 .any (.op 14 .take (.op 15 .any (.op 16 .any (.op 17 .any (.nil)))))))))))))))))) else .nil
def hp100_0 : List (Option AP) := [some (.val false [.shr T_iiis]), none, none, none, none, some (.val false [.shr T_iiis]), some (.val false [.int .i64]), some (.val false [.int .i64]), none, none, none, none, none, none, none, none, none, none, none, none, none, none, none, none, none, none, none, none, none, none, none, none]
def e100_0 : List (Option AP) := [none, none, none, none, none, none, none, none, none, none, none, none, none, none, none, none, none, none, none, none, none, none, none, none, none, none, none, none, none, none, none, none]
def q100_0 : List (Option AP) := [none, none, some (.val false [.bool]), none, none, none, none, none, none, none, none, none, none, none, none, none, none, none, none, none, none, none, none, none, none, none, none, none, none, none, none, none]
abbrev H100_0 : Type := (List R_iiis) × (List R_iiis) × Int × Int × Unit
abbrev E100_0 : Type := Unit
abbrev Q100_0 : Type := Bool × Unit
noncomputable def impl_ItemsOk_c0 (list0 : List R_iiis) (t5 : List R_iiis) (t6 : Int) (t7 : Int) : Option (Sum H100_0 (Sum E100_0 Q100_0)) :=
  bif decide (t7 < t6) then
    bif decide ((0 : Int) ≤ t7) then Option.bind ((t5)[Int.toNat t7]?) fun r1 =>
      Option.bind (impl_ItemOk r1.1 r1.2.1 r1.2.2.1 r1.2.2.2.1) fun y2 =>
      bif !y2.1 then
        some (.inr (.inr (false, ())))
      else bif decide ((0 : Int) < t7) then
        bif decide ((0 : Int) ≤ IntKind.i64.wrap (t7 - (1 : Int))) then Option.bind ((list0)[Int.toNat (IntKind.i64.wrap (t7 - (1 : Int)))]?) fun r3 =>
          bif decide (r1.1 ≤ r3.1) then
            some (.inr (.inr (false, ())))
          else
            some (.inl (list0, t5, t6, IntKind.i64.wrap (t7 + (1 : Int)), ()))
        else none
      else
        some (.inl (list0, t5, t6, IntKind.i64.wrap (t7 + (1 : Int)), ()))
    else none
  else
    some (.inr (.inl (())))
noncomputable def impl_ItemsOk_r0 (x : H100_0) : Option (Sum H100_0 (Sum E100_0 Q100_0)) := impl_ItemsOk_c0 x.1 x.2.1 x.2.2.1 x.2.2.2.1
noncomputable def L100 {R : Type} : Loops R := fun id _ st k => bif Nat.beq id 0 then loopAt hp100_0 e100_0 q100_0 impl_ItemsOk_r0 st k else none
noncomputable def impl_ItemsOk (list0 : List R_iiis) : Option (Bool × Unit) :=
  outK (loopV impl_ItemsOk_r0 (list0, list0, ((List.length list0 : Nat) : Int), (0 : Int), ())) (fun y1 =>
    some (true, ())) (fun y2 =>
    some (y2.1, ()))
noncomputable def x100 (x : (List R_iiis) × Unit) : Option (Bool × Unit) := impl_ItemsOk x.1
noncomputable def sem100 : Sem1 := semOf ps100 rs100 x100
theorem so100 : SemsOk Try.prog (semsOf sl100) := sems_cons k104 (sems_nil)
noncomputable def b100_0 : Code := nthLoop code100 0
theorem t100_r0_eq (x : denR (headRT hp100_0)) : codeK (tabOf tr) (semsOf sl100) D100 L100 b100_0 (headSt hp100_0 x) (roundK 0 hp100_0 e100_0 q100_0) = impl_ItemsOk_r0 x := by kernel_rfl
theorem loop100_0 {R : Type} (r : R) (w0 : World) (mu : Mu) (hs : AnShape ps100 mu) : LoopAt Try.prog w0 mu 31 (L100 : Loops R) r 0 b100_0 :=
  loop_auto tr_ok eq_ok mixed_ok so100 (D := D100) hs (by kernel_rfl) (fun _ => (loops_of (l := []) (by kernel_rfl) (List.forall_mem_nil _))) t100_r0_eq (fun _ _ => rfl)
theorem t100_eq (x : denR (headRT (ps100.map some))) : codeK (tabOf tr) (semsOf sl100) D100 L100 code100 (start 31 ps100 x) (finK rs100 ps100) = x100 x := by kernel_rfl
theorem k100 : Known Try.prog 100 sem100 :=
  fn_auto tr_ok eq_ok mixed_ok so100 (D := D100) (code := code100) (n := 31) Try.func100 (by kernel_rfl) (by kernel_rfl) (by kernel_rfl) (fun w0 mu _ hs => (loops_of (l := [(0, b100_0)]) (by kernel_rfl) (List.forall_mem_cons.2 ⟨loop100_0 _ w0 mu hs, (List.forall_mem_nil _)⟩))) t100_eq

/-! ### f75: impl.BundleOk -/
noncomputable def code75 : Code := match Try.f75.body with | some c => c | none => .skip
def ps75 : List AP := [.val true [.int .i64, .int .i64, .int .i64, .shr T_iiis]]
def rs75 : List RP := [{ src := .tmp 2, agg := false, ps := [.bool] }]
noncomputable def sl75 : SemL := [(99, (.shr, .shr, .shr, sem99)), (63, (.shr, .shr, .shr, sem63)), (100, (.shr, .shr, .shr, sem100))]
def D75 : Draws := fun _ => .nil
noncomputable def L75 {R : Type} : Loops R := fun _ _ _ _ => none
noncomputable def impl_BundleOk (b0c0 : Int) (b0c1 : Int) (b0c2 : Int) (b0c3 : List R_iiis) : Option (Bool × Unit) :=
  Option.bind (impl_isDaemon b0c0) fun y1 =>
  bif !y1.1 then
    some (false, ())
  else
    Option.bind (impl_inRange b0c1 (1 : Int) (9 : Int)) fun y2 =>
    bif !y2.1 then
      some (false, ())
    else
      Option.bind (impl_inRange b0c2 (0 : Int) (IntKind.i64.wrap (b0c1 - (1 : Int)))) fun y3 =>
      bif !y3.1 then
        some (false, ())
      else
        Option.bind (impl_ItemsOk b0c3) fun y4 =>
        bif y4.1 then
          bif decide ((0 : Int) < b0c2) then
            some (true, ())
          else
            some (decide (((List.length b0c3 : Nat) : Int) = (0 : Int)), ())
        else
          some (false, ())
noncomputable def x75 (x : Int × Int × Int × (List R_iiis) × Unit) : Option (Bool × Unit) := impl_BundleOk x.1 x.2.1 x.2.2.1 x.2.2.2.1
noncomputable def sem75 : Sem1 := semOf ps75 rs75 x75
theorem so75 : SemsOk Try.prog (semsOf sl75) := sems_cons k99 (sems_cons k63 (sems_cons k100 (sems_nil)))
theorem t75_eq (x : denR (headRT (ps75.map some))) : codeK (tabOf tr) (semsOf sl75) D75 L75 code75 (start 36 ps75 x) (finK rs75 ps75) = x75 x := by kernel_rfl
theorem k75 : Known Try.prog 75 sem75 :=
  fn_auto tr_ok eq_ok mixed_ok so75 (D := D75) (code := code75) (n := 36) Try.func75 (by kernel_rfl) (by kernel_rfl) (by kernel_rfl) (fun w0 mu _ hs => (loops_of (l := []) (by kernel_rfl) (List.forall_mem_nil _))) t75_eq

/-! ### f41: impl.bundleOf -/
noncomputable def code41 : Code := match Try.f41.body with | some c => c | none => .skip
def ps41 : List AP := [.val true [.int .i64, .shr T_i], .val false [.shr T_iiiLiiisE], .val false [.int .i64]]
def rs41 : List RP := [{ src := .cell 6, agg := true, ps := [.int .i64, .int .i64, .int .i64, .shr T_iiis] }, { src := .tmp 7, agg := false, ps := [.bool] }]
noncomputable def sl41 : SemL := [(75, (.shr, .shr, .shr, sem75))]
def D41 : Draws := fun _ => .nil
def hp41_0 : List (Option AP) := [none, none, some (.val false [.int .i64]), some (.box false [.int .i64, .shr T_i]), none, none, some (.box false [.int .i64, .int .i64, .int .i64, .own T_iiis]), none, none, none, some (.val false [.shr T_iiiLiiisE]), some (.val false [.int .i64]), some (.val false [.int .i64]), none, none, none, none, none, none, none, none, none, none, none, none, none, none, none, none, none, none, none, none, none, none]
def e41_0 : List (Option AP) := [none, none, none, none, none, none, some (.box false [.int .i64, .int .i64, .int .i64, .own T_iiis]), none, none, none, none, none, none, none, none, none, none, none, none, none, none, none, none, none, none, none, none, none, none, none, none, none, none, none, none]
def q41_0 : List (Option AP) := [none, none, none, none, none, none, some (.box false [.int .i64, .int .i64, .int .i64, .shr T_iiis]), some (.val false [.bool]), none, none, none, none, none, none, none, none, none, none, none, none, none, none, none, none, none, none, none, none, none, none, none, none, none, none, none]
abbrev H41_0 : Type := Int × Int × (List (Int × Unit)) × Int × Int × Int × (List R_iiis) × (List R_iiiLiiisE) × Int × Int × Unit
abbrev E41_0 : Type := Int × Int × Int × (List R_iiis) × Unit
abbrev Q41_0 : Type := Int × Int × Int × (List R_iiis) × Bool × Unit
noncomputable def impl_bundleOf_c0 (id2 : Int) (r3c0 : Int) (r3c1 : List (Int × Unit)) (t6c0 : Int) (t6c1 : Int) (t6c2 : Int) (t6c3 : List R_iiis) (t10 : List R_iiiLiiisE) (t11 : Int) (t12 : Int) : Option (Sum H41_0 (Sum E41_0 Q41_0)) :=
  bif decide (t12 < t11) then
    bif decide ((0 : Int) ≤ t12) then Option.bind ((t10)[Int.toNat t12]?) fun r1 =>
      bif decide (r1.1 = id2) then
        bif decide (r1.2.1 = r3c0) then
          Option.bind (impl_BundleOk r1.1 r1.2.1 r1.2.2.1 r1.2.2.2.1) fun y2 =>
          bif y2.1 then
            some (.inr (.inr (r1.1, r1.2.1, r1.2.2.1, r1.2.2.2.1, true, ())))
          else
            some (.inl (id2, r3c0, r3c1, t6c0, t6c1, t6c2, t6c3, t10, t11, IntKind.i64.wrap (t12 + (1 : Int)), ()))
        else
          some (.inl (id2, r3c0, r3c1, t6c0, t6c1, t6c2, t6c3, t10, t11, IntKind.i64.wrap (t12 + (1 : Int)), ()))
      else
        some (.inl (id2, r3c0, r3c1, t6c0, t6c1, t6c2, t6c3, t10, t11, IntKind.i64.wrap (t12 + (1 : Int)), ()))
    else none
  else
    some (.inr (.inl (t6c0, t6c1, t6c2, t6c3, ())))
noncomputable def impl_bundleOf_r0 (x : H41_0) : Option (Sum H41_0 (Sum E41_0 Q41_0)) := impl_bundleOf_c0 x.1 x.2.1 x.2.2.1 x.2.2.2.1 x.2.2.2.2.1 x.2.2.2.2.2.1 x.2.2.2.2.2.2.1 x.2.2.2.2.2.2.2.1 x.2.2.2.2.2.2.2.2.1 x.2.2.2.2.2.2.2.2.2.1
noncomputable def L41 {R : Type} : Loops R := fun id _ st k => bif Nat.beq id 0 then loopAt hp41_0 e41_0 q41_0 impl_bundleOf_r0 st k else none
noncomputable def impl_bundleOf (r0c0 : Int) (r0c1 : List (Int × Unit)) (list1 : List R_iiiLiiisE) (id2 : Int) : Option (Int × Int × Int × (List R_iiis) × Bool × Unit) :=
  outK (loopV impl_bundleOf_r0 (id2, r0c0, r0c1, (0 : Int), (0 : Int), (0 : Int), [], list1, ((List.length list1 : Nat) : Int), (0 : Int), ())) (fun y1 =>
    some ((0 : Int), (0 : Int), (0 : Int), [], false, ())) (fun y2 =>
    some (y2.1, y2.2.1, y2.2.2.1, y2.2.2.2.1, y2.2.2.2.2.1, ()))
noncomputable def x41 (x : Int × (List (Int × Unit)) × (List R_iiiLiiisE) × Int × Unit) : Option (Int × Int × Int × (List R_iiis) × Bool × Unit) := impl_bundleOf x.1 x.2.1 x.2.2.1 x.2.2.2.1
noncomputable def sem41 : Sem1 := semOf ps41 rs41 x41
theorem so41 : SemsOk Try.prog (semsOf sl41) := sems_cons k75 (sems_nil)
noncomputable def b41_0 : Code := nthLoop code41 0
theorem t41_r0_eq (x : denR (headRT hp41_0)) : codeK (tabOf tr) (semsOf sl41) D41 L41 b41_0 (headSt hp41_0 x) (roundK 0 hp41_0 e41_0 q41_0) = impl_bundleOf_r0 x := by kernel_rfl
theorem loop41_0 {R : Type} (r : R) (w0 : World) (mu : Mu) (hs : AnShape ps41 mu) : LoopAt Try.prog w0 mu 34 (L41 : Loops R) r 0 b41_0 :=
  loop_auto tr_ok eq_ok mixed_ok so41 (D := D41) hs (by kernel_rfl) (fun _ => (loops_of (l := []) (by kernel_rfl) (List.forall_mem_nil _))) t41_r0_eq (fun _ _ => rfl)
theorem t41_eq (x : denR (headRT (ps41.map some))) : codeK (tabOf tr) (semsOf sl41) D41 L41 code41 (start 34 ps41 x) (finK rs41 ps41) = x41 x := by kernel_rfl
theorem k41 : Known Try.prog 41 sem41 :=
  fn_auto tr_ok eq_ok mixed_ok so41 (D := D41) (code := code41) (n := 34) Try.func41 (by kernel_rfl) (by kernel_rfl) (by kernel_rfl) (fun w0 mu _ hs => (loops_of (l := [(0, b41_0)]) (by kernel_rfl) (List.forall_mem_cons.2 ⟨loop41_0 _ w0 mu hs, (List.forall_mem_nil _)⟩))) t41_eq

/-! ### f76: slices.Index[[]int,int] -/
noncomputable def code76 : Code := match Try.f76.body with | some c => c | none => .skip
def ps76 : List AP := [.val false [.shr T_i], .val false [.int .i64]]
def rs76 : List RP := [{ src := .tmp 4, agg := false, ps := [.int .i64] }]
noncomputable def sl76 : SemL := []
def D76 : Draws := fun _ => .nil
def hp76_0 : List (Option AP) := [some (.val false [.shr T_i]), some (.val false [.int .i64]), none, none, none, none, none, some (.val false [.int .i64]), some (.val false [.int .i64]), none, none, none, none, none, none, none, none, none, none, none]
def e76_0 : List (Option AP) := [none, none, none, none, none, none, none, none, none, none, none, none, none, none, none, none, none, none, none, none]
def q76_0 : List (Option AP) := [none, none, none, none, some (.val false [.int .i64]), none, none, none, none, none, none, none, none, none, none, none, none, none, none, none]
abbrev H76_0 : Type := (List (Int × Unit)) × Int × Int × Int × Unit
abbrev E76_0 : Type := Unit
abbrev Q76_0 : Type := Int × Unit
noncomputable def slices_Index_int_c0 (s0 : List (Int × Unit)) (v1 : Int) (t7 : Int) (t8 : Int) : Option (Sum H76_0 (Sum E76_0 Q76_0)) :=
  bif decide (t8 < t7) then
    bif decide ((0 : Int) ≤ t8) then Option.bind ((s0)[Int.toNat t8]?) fun r1 =>
      bif decide (v1 = r1.1) then
        some (.inr (.inr (t8, ())))
      else
        some (.inl (s0, v1, t7, IntKind.i64.wrap (t8 + (1 : Int)), ()))
    else none
  else
    some (.inr (.inl (())))
noncomputable def slices_Index_int_r0 (x : H76_0) : Option (Sum H76_0 (Sum E76_0 Q76_0)) := slices_Index_int_c0 x.1 x.2.1 x.2.2.1 x.2.2.2.1
noncomputable def L76 {R : Type} : Loops R := fun id _ st k => bif Nat.beq id 0 then loopAt hp76_0 e76_0 q76_0 slices_Index_int_r0 st k else none
noncomputable def slices_Index_int (s0 : List (Int × Unit)) (v1 : Int) : Option (Int × Unit) :=
  outK (loopV slices_Index_int_r0 (s0, v1, ((List.length s0 : Nat) : Int), (0 : Int), ())) (fun y1 =>
    some ((-1 : Int), ())) (fun y2 =>
    some (y2.1, ()))
noncomputable def x76 (x : (List (Int × Unit)) × Int × Unit) : Option (Int × Unit) := slices_Index_int x.1 x.2.1
noncomputable def sem76 : Sem1 := semOf ps76 rs76 x76
theorem so76 : SemsOk Try.prog (semsOf sl76) := sems_nil
noncomputable def b76_0 : Code := nthLoop code76 0
theorem t76_r0_eq (x : denR (headRT hp76_0)) : codeK (tabOf tr) (semsOf sl76) D76 L76 b76_0 (headSt hp76_0 x) (roundK 0 hp76_0 e76_0 q76_0) = slices_Index_int_r0 x := by kernel_rfl
theorem loop76_0 {R : Type} (r : R) (w0 : World) (mu : Mu) (hs : AnShape ps76 mu) : LoopAt Try.prog w0 mu 19 (L76 : Loops R) r 0 b76_0 :=
  loop_auto tr_ok eq_ok mixed_ok so76 (D := D76) hs (by kernel_rfl) (fun _ => (loops_of (l := []) (by kernel_rfl) (List.forall_mem_nil _))) t76_r0_eq (fun _ _ => rfl)
theorem t76_eq (x : denR (headRT (ps76.map some))) : codeK (tabOf tr) (semsOf sl76) D76 L76 code76 (start 19 ps76 x) (finK rs76 ps76) = x76 x := by kernel_rfl
theorem k76 : Known Try.prog 76 sem76 :=
  fn_auto tr_ok eq_ok mixed_ok so76 (D := D76) (code := code76) (n := 19) Try.func76 (by kernel_rfl) (by kernel_rfl) (by kernel_rfl) (fun w0 mu _ hs => (loops_of (l := [(0, b76_0)]) (by kernel_rfl) (List.forall_mem_cons.2 ⟨loop76_0 _ w0 mu hs, (List.forall_mem_nil _)⟩))) t76_eq

/-! ### f42: slices.Contains[[]int,int] -/
noncomputable def code42 : Code := match Try.f42.body with | some c => c | none => .skip
def ps42 : List AP := [.val false [.shr T_i], .val false [.int .i64]]
def rs42 : List RP := [{ src := .tmp 4, agg := false, ps := [.bool] }]
noncomputable def sl42 : SemL := [(76, (.shr, .shr, .shr, sem76))]
def D42 : Draws := fun _ => .nil
noncomputable def L42 {R : Type} : Loops R := fun _ _ _ _ => none
noncomputable def slices_Contains_int (s0 : List (Int × Unit)) (v1 : Int) : Option (Bool × Unit) :=
  Option.bind (slices_Index_int s0 v1) fun y1 =>
  some (decide ((0 : Int) ≤ y1.1), ())
noncomputable def x42 (x : (List (Int × Unit)) × Int × Unit) : Option (Bool × Unit) := slices_Contains_int x.1 x.2.1
noncomputable def sem42 : Sem1 := semOf ps42 rs42 x42
theorem so42 : SemsOk Try.prog (semsOf sl42) := sems_cons k76 (sems_nil)
theorem t42_eq (x : denR (headRT (ps42.map some))) : codeK (tabOf tr) (semsOf sl42) D42 L42 code42 (start 9 ps42 x) (finK rs42 ps42) = x42 x := by kernel_rfl
theorem k42 : Known Try.prog 42 sem42 :=
  fn_auto tr_ok eq_ok mixed_ok so42 (D := D42) (code := code42) (n := 9) Try.func42 (by kernel_rfl) (by kernel_rfl) (by kernel_rfl) (fun w0 mu _ hs => (loops_of (l := []) (by kernel_rfl) (List.forall_mem_nil _))) t42_eq

/-! ### f11: impl.TogetherWith -/
noncomputable def code11 : Code := match Try.f11.body with | some c => c | none => .skip
def ps11 : List AP := [.val true [.int .i64, .shr T_i], .val false [.shr T_iiiLiiisE], .val false [.int .i64]]
def rs11 : List RP := [{ src := .tmp 6, agg := false, ps := [.own T_i] }]
noncomputable def sl11 : SemL := [(41, (.shr, .shr, .shr, sem41)), (42, (.shr, .shr, .shr, sem42))]
def D11 : Draws := fun _ => .nil
def hp11_0 : List (Option AP) := [none, some (.val false [.shr T_iiiLiiisE]), some (.val false [.int .i64]), some (.box false [.int .i64, .shr T_i]), none, none, none, some (.box false [.int .i64, .int .i64, .int .i64, .shr T_iiis]), none, some (.val false [.own T_i]), none, none, none, none, none, none, none, none, none, none, none, none, none, none, some (.val false [.shr T_i]), some (.val false [.int .i64]), some (.val false [.int .i64]), none, none, none, none, none, none, none, none, none, none, none, none, none, none, none, none, none, none, none, none, none, none, none, none, none, none, none, none, none, none, none, none, none, none, none, none, none, none, none, none, none]
def e11_0 : List (Option AP) := [none, none, none, none, none, none, none, none, none, some (.val false [.own T_i]), none, none, none, none, none, none, none, none, none, none, none, none, none, none, none, none, none, none, none, none, none, none, none, none, none, none, none, none, none, none, none, none, none, none, none, none, none, none, none, none, none, none, none, none, none, none, none, none, none, none, none, none, none, none, none, none, none, none]
def q11_0 : List (Option AP) := [none, none, none, none, none, none, none, none, none, none, none, none, none, none, none, none, none, none, none, none, none, none, none, none, none, none, none, none, none, none, none, none, none, none, none, none, none, none, none, none, none, none, none, none, none, none, none, none, none, none, none, none, none, none, none, none, none, none, none, none, none, none, none, none, none, none, none, none]
abbrev H11_0 : Type := (List R_iiiLiiisE) × Int × Int × (List (Int × Unit)) × Int × Int × Int × (List R_iiis) × (List (Int × Unit)) × (List (Int × Unit)) × Int × Int × Unit
abbrev E11_0 : Type := (List (Int × Unit)) × Unit
abbrev Q11_0 : Type := Unit
noncomputable def impl_TogetherWith_c0 (list1 : List R_iiiLiiisE) (id2 : Int) (r3c0 : Int) (r3c1 : List (Int × Unit)) (own7c0 : Int) (own7c1 : Int) (own7c2 : Int) (own7c3 : List R_iiis) (out9 : List (Int × Unit)) (t24 : List (Int × Unit)) (t25 : Int) (t26 : Int) : Option (Sum H11_0 (Sum E11_0 Q11_0)) :=
  bif decide (t26 < t25) then
    bif decide ((0 : Int) ≤ t26) then Option.bind ((t24)[Int.toNat t26]?) fun r2 =>
      Option.bind (impl_bundleOf r3c0 r3c1 list1 r2.1) fun y3 =>
      bif y3.2.2.2.2.1 then
        Option.bind (slices_Contains_int out9 r2.1) fun y4 =>
        bif !y4.1 then
          bif decide (r2.1 = id2) then
            bif Nat.ble (((List.length out9) + 1) * 8) lim then some (.inl (list1, id2, r3c0, r3c1, own7c0, own7c1, own7c2, own7c3, out9 ++ [(r2.1, ())], t24, t25, IntKind.i64.wrap (t26 + (1 : Int)), ()))
            else none
          else bif decide ((0 : Int) < own7c2) then
            bif decide (y3.2.2.1 = own7c2) then
              bif Nat.ble (((List.length out9) + 1) * 8) lim then some (.inl (list1, id2, r3c0, r3c1, own7c0, own7c1, own7c2, own7c3, out9 ++ [(r2.1, ())], t24, t25, IntKind.i64.wrap (t26 + (1 : Int)), ()))
              else none
            else
              some (.inl (list1, id2, r3c0, r3c1, own7c0, own7c1, own7c2, own7c3, out9, t24, t25, IntKind.i64.wrap (t26 + (1 : Int)), ()))
          else
            some (.inl (list1, id2, r3c0, r3c1, own7c0, own7c1, own7c2, own7c3, out9, t24, t25, IntKind.i64.wrap (t26 + (1 : Int)), ()))
        else
          some (.inl (list1, id2, r3c0, r3c1, own7c0, own7c1, own7c2, own7c3, out9, t24, t25, IntKind.i64.wrap (t26 + (1 : Int)), ()))
      else
        some (.inl (list1, id2, r3c0, r3c1, own7c0, own7c1, own7c2, own7c3, out9, t24, t25, IntKind.i64.wrap (t26 + (1 : Int)), ()))
    else none
  else
    some (.inr (.inl (out9, ())))
noncomputable def impl_TogetherWith_r0 (x : H11_0) : Option (Sum H11_0 (Sum E11_0 Q11_0)) := impl_TogetherWith_c0 x.1 x.2.1 x.2.2.1 x.2.2.2.1 x.2.2.2.2.1 x.2.2.2.2.2.1 x.2.2.2.2.2.2.1 x.2.2.2.2.2.2.2.1 x.2.2.2.2.2.2.2.2.1 x.2.2.2.2.2.2.2.2.2.1 x.2.2.2.2.2.2.2.2.2.2.1 x.2.2.2.2.2.2.2.2.2.2.2.1
noncomputable def L11 {R : Type} : Loops R := fun id _ st k => bif Nat.beq id 0 then loopAt hp11_0 e11_0 q11_0 impl_TogetherWith_r0 st k else none
noncomputable def impl_TogetherWith (r0c0 : Int) (r0c1 : List (Int × Unit)) (list1 : List R_iiiLiiisE) (id2 : Int) : Option ((List (Int × Unit)) × Unit) :=
  Option.bind (impl_bundleOf r0c0 r0c1 list1 id2) fun y1 =>
  bif !y1.2.2.2.2.1 then
    some ([], ())
  else
    outK (loopV impl_TogetherWith_r0 (list1, id2, r0c0, r0c1, y1.1, y1.2.1, y1.2.2.1, y1.2.2.2.1, [], r0c1, ((List.length r0c1 : Nat) : Int), (0 : Int), ())) (fun y2 =>
      some (y2.1, ())) (fun y3 =>
      none)
noncomputable def x11 (x : Int × (List (Int × Unit)) × (List R_iiiLiiisE) × Int × Unit) : Option ((List (Int × Unit)) × Unit) := impl_TogetherWith x.1 x.2.1 x.2.2.1 x.2.2.2.1
noncomputable def sem11 : Sem1 := semOf ps11 rs11 x11
theorem so11 : SemsOk Try.prog (semsOf sl11) := sems_cons k41 (sems_cons k42 (sems_nil))
noncomputable def b11_0 : Code := nthLoop code11 0
theorem t11_r0_eq (x : denR (headRT hp11_0)) : codeK (tabOf tr) (semsOf sl11) D11 L11 b11_0 (headSt hp11_0 x) (roundK 0 hp11_0 e11_0 q11_0) = impl_TogetherWith_r0 x := by kernel_rfl
theorem loop11_0 {R : Type} (r : R) (w0 : World) (mu : Mu) (hs : AnShape ps11 mu) : LoopAt Try.prog w0 mu 67 (L11 : Loops R) r 0 b11_0 :=
  loop_auto tr_ok eq_ok mixed_ok so11 (D := D11) hs (by kernel_rfl) (fun _ => (loops_of (l := []) (by kernel_rfl) (List.forall_mem_nil _))) t11_r0_eq (fun _ _ => rfl)
theorem t11_eq (x : denR (headRT (ps11.map some))) : codeK (tabOf tr) (semsOf sl11) D11 L11 code11 (start 67 ps11 x) (finK rs11 ps11) = x11 x := by kernel_rfl
theorem k11 : Known Try.prog 11 sem11 :=
  fn_auto tr_ok eq_ok mixed_ok so11 (D := D11) (code := code11) (n := 67) Try.func11 (by kernel_rfl) (by kernel_rfl) (by kernel_rfl) (fun w0 mu _ hs => (loops_of (l := [(0, b11_0)]) (by kernel_rfl) (List.forall_mem_cons.2 ⟨loop11_0 _ w0 mu hs, (List.forall_mem_nil _)⟩))) t11_eq

/-! ### f12: laws.eqIntS -/
noncomputable def code12 : Code := match Try.f12.body with | some c => c | none => .skip
def ps12 : List AP := [.val false [.shr T_i], .val false [.shr T_i]]
def rs12 : List RP := [{ src := .tmp 4, agg := false, ps := [.bool] }]
noncomputable def sl12 : SemL := []
def D12 : Draws := fun id => bif Nat.beq id 6 then .op 0 .any (.op 1 .any (.op 2 .any (.op 3 .take (.op 4 .any (.op 5 .any (.op 6 .any (.op 7 .take (.op 8 .any (.nil))))))))) else .nil
def hp12_0 : List (Option AP) := [some (.val false [.shr T_i]), some (.val false [.shr T_i]), none, none, none, some (.val false [.int .i64]), none, none, none, none, none, none, none, none, none, none, none, none, none, none, none, none, none, none, none, none, none]
def e12_0 : List (Option AP) := [none, none, none, none, none, none, none, none, none, none, none, none, none, none, none, none, none, none, none, none, none, none, none, none, none, none, none]
def q12_0 : List (Option AP) := [none, none, none, none, some (.val false [.bool]), none, none, none, none, none, none, none, none, none, none, none, none, none, none, none, none, none, none, none, none, none, none]
abbrev H12_0 : Type := (List (Int × Unit)) × (List (Int × Unit)) × Int × Unit
abbrev E12_0 : Type := Unit
abbrev Q12_0 : Type := Bool × Unit
noncomputable def laws_eqIntS_c0 (a0 : List (Int × Unit)) (b1 : List (Int × Unit)) (i5 : Int) : Option (Sum H12_0 (Sum E12_0 Q12_0)) :=
  bif decide (i5 < ((List.length a0 : Nat) : Int)) then
    bif decide ((0 : Int) ≤ i5) then Option.bind ((a0)[Int.toNat i5]?) fun r1 =>
      bif decide ((0 : Int) ≤ i5) then Option.bind ((b1)[Int.toNat i5]?) fun r2 =>
        bif !decide (r1.1 = r2.1) then
          some (.inr (.inr (false, ())))
        else
          some (.inl (a0, b1, IntKind.i64.wrap (i5 + (1 : Int)), ()))
      else none
    else none
  else
    some (.inr (.inl (())))
noncomputable def laws_eqIntS_r0 (x : H12_0) : Option (Sum H12_0 (Sum E12_0 Q12_0)) := laws_eqIntS_c0 x.1 x.2.1 x.2.2.1
noncomputable def L12 {R : Type} : Loops R := fun id _ st k => bif Nat.beq id 0 then loopAt hp12_0 e12_0 q12_0 laws_eqIntS_r0 st k else none
noncomputable def laws_eqIntS (a0 : List (Int × Unit)) (b1 : List (Int × Unit)) : Option (Bool × Unit) :=
  bif !decide (((List.length a0 : Nat) : Int) = ((List.length b1 : Nat) : Int)) then
    some (false, ())
  else
    outK (loopV laws_eqIntS_r0 (a0, b1, (0 : Int), ())) (fun y1 =>
      some (true, ())) (fun y2 =>
      some (y2.1, ()))
noncomputable def x12 (x : (List (Int × Unit)) × (List (Int × Unit)) × Unit) : Option (Bool × Unit) := laws_eqIntS x.1 x.2.1
noncomputable def sem12 : Sem1 := semOf ps12 rs12 x12
theorem so12 : SemsOk Try.prog (semsOf sl12) := sems_nil
noncomputable def b12_0 : Code := nthLoop code12 0
theorem t12_r0_eq (x : denR (headRT hp12_0)) : codeK (tabOf tr) (semsOf sl12) D12 L12 b12_0 (headSt hp12_0 x) (roundK 0 hp12_0 e12_0 q12_0) = laws_eqIntS_r0 x := by kernel_rfl
theorem loop12_0 {R : Type} (r : R) (w0 : World) (mu : Mu) (hs : AnShape ps12 mu) : LoopAt Try.prog w0 mu 26 (L12 : Loops R) r 0 b12_0 :=
  loop_auto tr_ok eq_ok mixed_ok so12 (D := D12) hs (by kernel_rfl) (fun _ => (loops_of (l := []) (by kernel_rfl) (List.forall_mem_nil _))) t12_r0_eq (fun _ _ => rfl)
theorem t12_eq (x : denR (headRT (ps12.map some))) : codeK (tabOf tr) (semsOf sl12) D12 L12 code12 (start 26 ps12 x) (finK rs12 ps12) = x12 x := by kernel_rfl
theorem k12 : Known Try.prog 12 sem12 :=
  fn_auto tr_ok eq_ok mixed_ok so12 (D := D12) (code := code12) (n := 26) Try.func12 (by kernel_rfl) (by kernel_rfl) (by kernel_rfl) (fun w0 mu _ hs => (loops_of (l := [(0, b12_0)]) (by kernel_rfl) (List.forall_mem_cons.2 ⟨loop12_0 _ w0 mu hs, (List.forall_mem_nil _)⟩))) t12_eq

/-! ### f13: laws.eqRing -/
noncomputable def code13 : Code := match Try.f13.body with | some c => c | none => .skip
def ps13 : List AP := [.val true [.int .i64, .shr T_i], .val true [.int .i64, .shr T_i]]
def rs13 : List RP := [{ src := .tmp 4, agg := false, ps := [.bool] }]
noncomputable def sl13 : SemL := [(12, (.shr, .shr, .shr, sem12))]
def D13 : Draws := fun _ => .nil
noncomputable def L13 {R : Type} : Loops R := fun _ _ _ _ => none
noncomputable def laws_eqRing (a0c0 : Int) (a0c1 : List (Int × Unit)) (b1c0 : Int) (b1c1 : List (Int × Unit)) : Option (Bool × Unit) :=
  bif !decide (a0c0 = b1c0) then
    some (false, ())
  else
    Option.bind (laws_eqIntS a0c1 b1c1) fun y1 =>
    bif !y1.1 then
      some (false, ())
    else
      some (true, ())
noncomputable def x13 (x : Int × (List (Int × Unit)) × Int × (List (Int × Unit)) × Unit) : Option (Bool × Unit) := laws_eqRing x.1 x.2.1 x.2.2.1 x.2.2.2.1
noncomputable def sem13 : Sem1 := semOf ps13 rs13 x13
theorem so13 : SemsOk Try.prog (semsOf sl13) := sems_cons k12 (sems_nil)
theorem t13_eq (x : denR (headRT (ps13.map some))) : codeK (tabOf tr) (semsOf sl13) D13 L13 code13 (start 16 ps13 x) (finK rs13 ps13) = x13 x := by kernel_rfl
theorem k13 : Known Try.prog 13 sem13 :=
  fn_auto tr_ok eq_ok mixed_ok so13 (D := D13) (code := code13) (n := 16) Try.func13 (by kernel_rfl) (by kernel_rfl) (by kernel_rfl) (fun w0 mu _ hs => (loops_of (l := []) (by kernel_rfl) (List.forall_mem_nil _))) t13_eq

/-! ### f94: laws.eqItem -/
noncomputable def code94 : Code := match Try.f94.body with | some c => c | none => .skip
def ps94 : List AP := [.val true [.int .i64, .int .i64, .int .i64, .str], .val true [.int .i64, .int .i64, .int .i64, .str]]
def rs94 : List RP := [{ src := .tmp 4, agg := false, ps := [.bool] }]
noncomputable def sl94 : SemL := []
def D94 : Draws := fun _ => .nil
noncomputable def L94 {R : Type} : Loops R := fun _ _ _ _ => none
noncomputable def laws_eqItem (a0c0 : Int) (a0c1 : Int) (a0c2 : Int) (a0c3 : ByteArray) (b1c0 : Int) (b1c1 : Int) (b1c2 : Int) (b1c3 : ByteArray) : Option (Bool × Unit) :=
  bif !decide (a0c0 = b1c0) then
    some (false, ())
  else bif !decide (a0c1 = b1c1) then
    some (false, ())
  else bif !decide (a0c2 = b1c2) then
    some (false, ())
  else bif !strEq a0c3 b1c3 then
    some (false, ())
  else
    some (true, ())
noncomputable def x94 (x : Int × Int × Int × ByteArray × Int × Int × Int × ByteArray × Unit) : Option (Bool × Unit) := laws_eqItem x.1 x.2.1 x.2.2.1 x.2.2.2.1 x.2.2.2.2.1 x.2.2.2.2.2.1 x.2.2.2.2.2.2.1 x.2.2.2.2.2.2.2.1
noncomputable def sem94 : Sem1 := semOf ps94 rs94 x94
theorem so94 : SemsOk Try.prog (semsOf sl94) := sems_nil
theorem t94_eq (x : denR (headRT (ps94.map some))) : codeK (tabOf tr) (semsOf sl94) D94 L94 code94 (start 25 ps94 x) (finK rs94 ps94) = x94 x := by kernel_rfl
theorem k94 : Known Try.prog 94 sem94 :=
  fn_auto tr_ok eq_ok mixed_ok so94 (D := D94) (code := code94) (n := 25) Try.func94 (by kernel_rfl) (by kernel_rfl) (by kernel_rfl) (fun w0 mu _ hs => (loops_of (l := []) (by kernel_rfl) (List.forall_mem_nil _))) t94_eq

/-! ### f77: laws.eqItemS -/
noncomputable def code77 : Code := match Try.f77.body with | some c => c | none => .skip
def ps77 : List AP := [.val false [.shr T_iiis], .val false [.shr T_iiis]]
def rs77 : List RP := [{ src := .tmp 4, agg := false, ps := [.bool] }]
noncomputable def sl77 : SemL := [(94, (.shr, .shr, .shr, sem94))]
def D77 : Draws := fun id => bif Nat.beq id 6 then .op 0 .any (.op 1 .any (.op 2 .any (.op 3 .take (.op 4 .any (.op 5 .any (.op 6 .any (.op 7 .take (.op 8 .one (.op 9 .any (.nil)))))))))) else .nil
def hp77_0 : List (Option AP) := [some (.val false [.shr T_iiis]), some (.val false [.shr T_iiis]), none, none, none, some (.val false [.int .i64]), none, none, none, none, none, none, none, none, none, none, none, none, none, none, none, none, none, none, none, none, none, none]
def e77_0 : List (Option AP) := [none, none, none, none, none, none, none, none, none, none, none, none, none, none, none, none, none, none, none, none, none, none, none, none, none, none, none, none]
def q77_0 : List (Option AP) := [none, none, none, none, some (.val false [.bool]), none, none, none, none, none, none, none, none, none, none, none, none, none, none, none, none, none, none, none, none, none, none, none]
abbrev H77_0 : Type := (List R_iiis) × (List R_iiis) × Int × Unit
abbrev E77_0 : Type := Unit
abbrev Q77_0 : Type := Bool × Unit
noncomputable def laws_eqItemS_c0 (a0 : List R_iiis) (b1 : List R_iiis) (i5 : Int) : Option (Sum H77_0 (Sum E77_0 Q77_0)) :=
  bif decide (i5 < ((List.length a0 : Nat) : Int)) then
    bif decide ((0 : Int) ≤ i5) then Option.bind ((a0)[Int.toNat i5]?) fun r1 =>
      bif decide ((0 : Int) ≤ i5) then Option.bind ((b1)[Int.toNat i5]?) fun r2 =>
        Option.bind (laws_eqItem r1.1 r1.2.1 r1.2.2.1 r1.2.2.2.1 r2.1 r2.2.1 r2.2.2.1 r2.2.2.2.1) fun y3 =>
        bif !y3.1 then
          some (.inr (.inr (false, ())))
        else
          some (.inl (a0, b1, IntKind.i64.wrap (i5 + (1 : Int)), ()))
      else none
    else none
  else
    some (.inr (.inl (())))
noncomputable def laws_eqItemS_r0 (x : H77_0) : Option (Sum H77_0 (Sum E77_0 Q77_0)) := laws_eqItemS_c0 x.1 x.2.1 x.2.2.1
noncomputable def L77 {R : Type} : Loops R := fun id _ st k => bif Nat.beq id 0 then loopAt hp77_0 e77_0 q77_0 laws_eqItemS_r0 st k else none
noncomputable def laws_eqItemS (a0 : List R_iiis) (b1 : List R_iiis) : Option (Bool × Unit) :=
  bif !decide (((List.length a0 : Nat) : Int) = ((List.length b1 : Nat) : Int)) then
    some (false, ())
  else
    outK (loopV laws_eqItemS_r0 (a0, b1, (0 : Int), ())) (fun y1 =>
      some (true, ())) (fun y2 =>
      some (y2.1, ()))
noncomputable def x77 (x : (List R_iiis) × (List R_iiis) × Unit) : Option (Bool × Unit) := laws_eqItemS x.1 x.2.1
noncomputable def sem77 : Sem1 := semOf ps77 rs77 x77
theorem so77 : SemsOk Try.prog (semsOf sl77) := sems_cons k94 (sems_nil)
noncomputable def b77_0 : Code := nthLoop code77 0
theorem t77_r0_eq (x : denR (headRT hp77_0)) : codeK (tabOf tr) (semsOf sl77) D77 L77 b77_0 (headSt hp77_0 x) (roundK 0 hp77_0 e77_0 q77_0) = laws_eqItemS_r0 x := by kernel_rfl
theorem loop77_0 {R : Type} (r : R) (w0 : World) (mu : Mu) (hs : AnShape ps77 mu) : LoopAt Try.prog w0 mu 27 (L77 : Loops R) r 0 b77_0 :=
  loop_auto tr_ok eq_ok mixed_ok so77 (D := D77) hs (by kernel_rfl) (fun _ => (loops_of (l := []) (by kernel_rfl) (List.forall_mem_nil _))) t77_r0_eq (fun _ _ => rfl)
theorem t77_eq (x : denR (headRT (ps77.map some))) : codeK (tabOf tr) (semsOf sl77) D77 L77 code77 (start 27 ps77 x) (finK rs77 ps77) = x77 x := by kernel_rfl
theorem k77 : Known Try.prog 77 sem77 :=
  fn_auto tr_ok eq_ok mixed_ok so77 (D := D77) (code := code77) (n := 27) Try.func77 (by kernel_rfl) (by kernel_rfl) (by kernel_rfl) (fun w0 mu _ hs => (loops_of (l := [(0, b77_0)]) (by kernel_rfl) (List.forall_mem_cons.2 ⟨loop77_0 _ w0 mu hs, (List.forall_mem_nil _)⟩))) t77_eq

/-! ### f43: laws.eqBundle -/
noncomputable def code43 : Code := match Try.f43.body with | some c => c | none => .skip
def ps43 : List AP := [.val true [.int .i64, .int .i64, .int .i64, .shr T_iiis], .val true [.int .i64, .int .i64, .int .i64, .shr T_iiis]]
def rs43 : List RP := [{ src := .tmp 4, agg := false, ps := [.bool] }]
noncomputable def sl43 : SemL := [(77, (.shr, .shr, .shr, sem77))]
def D43 : Draws := fun _ => .nil
noncomputable def L43 {R : Type} : Loops R := fun _ _ _ _ => none
noncomputable def laws_eqBundle (a0c0 : Int) (a0c1 : Int) (a0c2 : Int) (a0c3 : List R_iiis) (b1c0 : Int) (b1c1 : Int) (b1c2 : Int) (b1c3 : List R_iiis) : Option (Bool × Unit) :=
  bif !decide (a0c0 = b1c0) then
    some (false, ())
  else bif !decide (a0c1 = b1c1) then
    some (false, ())
  else bif !decide (a0c2 = b1c2) then
    some (false, ())
  else
    Option.bind (laws_eqItemS a0c3 b1c3) fun y1 =>
    bif !y1.1 then
      some (false, ())
    else
      some (true, ())
noncomputable def x43 (x : Int × Int × Int × (List R_iiis) × Int × Int × Int × (List R_iiis) × Unit) : Option (Bool × Unit) := laws_eqBundle x.1 x.2.1 x.2.2.1 x.2.2.2.1 x.2.2.2.2.1 x.2.2.2.2.2.1 x.2.2.2.2.2.2.1 x.2.2.2.2.2.2.2.1
noncomputable def sem43 : Sem1 := semOf ps43 rs43 x43
theorem so43 : SemsOk Try.prog (semsOf sl43) := sems_cons k77 (sems_nil)
theorem t43_eq (x : denR (headRT (ps43.map some))) : codeK (tabOf tr) (semsOf sl43) D43 L43 code43 (start 26 ps43 x) (finK rs43 ps43) = x43 x := by kernel_rfl
theorem k43 : Known Try.prog 43 sem43 :=
  fn_auto tr_ok eq_ok mixed_ok so43 (D := D43) (code := code43) (n := 26) Try.func43 (by kernel_rfl) (by kernel_rfl) (by kernel_rfl) (fun w0 mu _ hs => (loops_of (l := []) (by kernel_rfl) (List.forall_mem_nil _))) t43_eq

/-! ### f14: laws.eqBundleS -/
noncomputable def code14 : Code := match Try.f14.body with | some c => c | none => .skip
def ps14 : List AP := [.val false [.shr T_iiiLiiisE], .val false [.shr T_iiiLiiisE]]
def rs14 : List RP := [{ src := .tmp 4, agg := false, ps := [.bool] }]
noncomputable def sl14 : SemL := [(43, (.shr, .shr, .shr, sem43))]
def D14 : Draws := fun id => bif Nat.beq id 6 then .op 0 .any (.op 1 .any (.op 2 .any (.op 3 .take (.op 4 .any (.op 5 .any (.op 6 .any (.op 7 .take (.op 8 .one (.op 9 .any (.nil)))))))))) else .nil
def hp14_0 : List (Option AP) := [some (.val false [.shr T_iiiLiiisE]), some (.val false [.shr T_iiiLiiisE]), none, none, none, some (.val false [.int .i64]), none, none, none, none, none, none, none, none, none, none, none, none, none, none, none, none, none, none, none, none, none, none]
def e14_0 : List (Option AP) := [none, none, none, none, none, none, none, none, none, none, none, none, none, none, none, none, none, none, none, none, none, none, none, none, none, none, none, none]
def q14_0 : List (Option AP) := [none, none, none, none, some (.val false [.bool]), none, none, none, none, none, none, none, none, none, none, none, none, none, none, none, none, none, none, none, none, none, none, none]
abbrev H14_0 : Type := (List R_iiiLiiisE) × (List R_iiiLiiisE) × Int × Unit
abbrev E14_0 : Type := Unit
abbrev Q14_0 : Type := Bool × Unit
noncomputable def laws_eqBundleS_c0 (a0 : List R_iiiLiiisE) (b1 : List R_iiiLiiisE) (i5 : Int) : Option (Sum H14_0 (Sum E14_0 Q14_0)) :=
  bif decide (i5 < ((List.length a0 : Nat) : Int)) then
    bif decide ((0 : Int) ≤ i5) then Option.bind ((a0)[Int.toNat i5]?) fun r1 =>
      bif decide ((0 : Int) ≤ i5) then Option.bind ((b1)[Int.toNat i5]?) fun r2 =>
        Option.bind (laws_eqBundle r1.1 r1.2.1 r1.2.2.1 r1.2.2.2.1 r2.1 r2.2.1 r2.2.2.1 r2.2.2.2.1) fun y3 =>
        bif !y3.1 then
          some (.inr (.inr (false, ())))
        else
          some (.inl (a0, b1, IntKind.i64.wrap (i5 + (1 : Int)), ()))
      else none
    else none
  else
    some (.inr (.inl (())))
noncomputable def laws_eqBundleS_r0 (x : H14_0) : Option (Sum H14_0 (Sum E14_0 Q14_0)) := laws_eqBundleS_c0 x.1 x.2.1 x.2.2.1
noncomputable def L14 {R : Type} : Loops R := fun id _ st k => bif Nat.beq id 0 then loopAt hp14_0 e14_0 q14_0 laws_eqBundleS_r0 st k else none
noncomputable def laws_eqBundleS (a0 : List R_iiiLiiisE) (b1 : List R_iiiLiiisE) : Option (Bool × Unit) :=
  bif !decide (((List.length a0 : Nat) : Int) = ((List.length b1 : Nat) : Int)) then
    some (false, ())
  else
    outK (loopV laws_eqBundleS_r0 (a0, b1, (0 : Int), ())) (fun y1 =>
      some (true, ())) (fun y2 =>
      some (y2.1, ()))
noncomputable def x14 (x : (List R_iiiLiiisE) × (List R_iiiLiiisE) × Unit) : Option (Bool × Unit) := laws_eqBundleS x.1 x.2.1
noncomputable def sem14 : Sem1 := semOf ps14 rs14 x14
theorem so14 : SemsOk Try.prog (semsOf sl14) := sems_cons k43 (sems_nil)
noncomputable def b14_0 : Code := nthLoop code14 0
theorem t14_r0_eq (x : denR (headRT hp14_0)) : codeK (tabOf tr) (semsOf sl14) D14 L14 b14_0 (headSt hp14_0 x) (roundK 0 hp14_0 e14_0 q14_0) = laws_eqBundleS_r0 x := by kernel_rfl
theorem loop14_0 {R : Type} (r : R) (w0 : World) (mu : Mu) (hs : AnShape ps14 mu) : LoopAt Try.prog w0 mu 27 (L14 : Loops R) r 0 b14_0 :=
  loop_auto tr_ok eq_ok mixed_ok so14 (D := D14) hs (by kernel_rfl) (fun _ => (loops_of (l := []) (by kernel_rfl) (List.forall_mem_nil _))) t14_r0_eq (fun _ _ => rfl)
theorem t14_eq (x : denR (headRT (ps14.map some))) : codeK (tabOf tr) (semsOf sl14) D14 L14 code14 (start 27 ps14 x) (finK rs14 ps14) = x14 x := by kernel_rfl
theorem k14 : Known Try.prog 14 sem14 :=
  fn_auto tr_ok eq_ok mixed_ok so14 (D := D14) (code := code14) (n := 27) Try.func14 (by kernel_rfl) (by kernel_rfl) (by kernel_rfl) (fun w0 mu _ hs => (loops_of (l := [(0, b14_0)]) (by kernel_rfl) (List.forall_mem_cons.2 ⟨loop14_0 _ w0 mu hs, (List.forall_mem_nil _)⟩))) t14_eq

/-! ### f17: laws.markIntS -/
noncomputable def code17 : Code := match Try.f17.body with | some c => c | none => .skip
def ps17 : List AP := [.io T_i, .val false [.int .i64]]
def rs17 : List RP := [{ src := .tmp 4, agg := false, ps := [.int .i64] }]
noncomputable def sl17 : SemL := []
def D17 : Draws := fun _ => .nil
def hp17_0 : List (Option AP) := [some (.io T_i), some (.val false [.int .i64]), none, none, none, some (.val false [.int .i64]), none, none, none, none, none, none, none, none, none, none, none, none, none, none]
def e17_0 : List (Option AP) := [some (.io T_i), some (.val false [.int .i64]), none, none, none, none, none, none, none, none, none, none, none, none, none, none, none, none, none, none]
def q17_0 : List (Option AP) := [none, none, none, none, none, none, none, none, none, none, none, none, none, none, none, none, none, none, none, none]
abbrev H17_0 : Type := (List (Int × Unit)) × Int × Int × Unit
abbrev E17_0 : Type := (List (Int × Unit)) × Int × Unit
abbrev Q17_0 : Type := Unit
noncomputable def laws_markIntS_c0 (a0 : List (Int × Unit)) (k1 : Int) (i5 : Int) : Option (Sum H17_0 (Sum E17_0 Q17_0)) :=
  bif decide (i5 < ((List.length a0 : Nat) : Int)) then
    bif decide ((0 : Int) ≤ i5) then bif Nat.blt (Int.toNat i5) (List.length a0) then Option.bind ((a0)[Int.toNat i5]?) fun r1 =>
        some (.inl (List.set a0 (Int.toNat i5) (k1, ()), IntKind.i64.wrap (k1 + (1 : Int)), IntKind.i64.wrap (i5 + (1 : Int)), ()))
      else none
    else none
  else
    some (.inr (.inl (a0, k1, ())))
noncomputable def laws_markIntS_r0 (x : H17_0) : Option (Sum H17_0 (Sum E17_0 Q17_0)) := laws_markIntS_c0 x.1 x.2.1 x.2.2.1
noncomputable def L17 {R : Type} : Loops R := fun id _ st k => bif Nat.beq id 0 then loopAt hp17_0 e17_0 q17_0 laws_markIntS_r0 st k else none
noncomputable def laws_markIntS (a0 : List (Int × Unit)) (k1 : Int) : Option (Int × (List (Int × Unit)) × Unit) :=
  outK (loopV laws_markIntS_r0 (a0, k1, (0 : Int), ())) (fun y1 =>
    some (y1.2.1, y1.1, ())) (fun y2 =>
    none)
noncomputable def x17 (x : (List (Int × Unit)) × Int × Unit) : Option (Int × (List (Int × Unit)) × Unit) := laws_markIntS x.1 x.2.1
noncomputable def sem17 : Sem1 := semOf ps17 rs17 x17
theorem so17 : SemsOk Try.prog (semsOf sl17) := sems_nil
noncomputable def b17_0 : Code := nthLoop code17 0
theorem t17_r0_eq (x : denR (headRT hp17_0)) : codeK (tabOf tr) (semsOf sl17) D17 L17 b17_0 (headSt hp17_0 x) (roundK 0 hp17_0 e17_0 q17_0) = laws_markIntS_r0 x := by kernel_rfl
theorem loop17_0 {R : Type} (r : R) (w0 : World) (mu : Mu) (hs : AnShape ps17 mu) : LoopAt Try.prog w0 mu 19 (L17 : Loops R) r 0 b17_0 :=
  loop_auto tr_ok eq_ok mixed_ok so17 (D := D17) hs (by kernel_rfl) (fun _ => (loops_of (l := []) (by kernel_rfl) (List.forall_mem_nil _))) t17_r0_eq (fun _ _ => rfl)
theorem t17_eq (x : denR (headRT (ps17.map some))) : codeK (tabOf tr) (semsOf sl17) D17 L17 code17 (start 19 ps17 x) (finK rs17 ps17) = x17 x := by kernel_rfl
theorem k17 : Known Try.prog 17 sem17 :=
  fn_auto tr_ok eq_ok mixed_ok so17 (D := D17) (code := code17) (n := 19) Try.func17 (by kernel_rfl) (by kernel_rfl) (by kernel_rfl) (fun w0 mu _ hs => (loops_of (l := [(0, b17_0)]) (by kernel_rfl) (List.forall_mem_cons.2 ⟨loop17_0 _ w0 mu hs, (List.forall_mem_nil _)⟩))) t17_eq

/-! ### f15: laws.markRing -/
noncomputable def code15 : Code := match Try.f15.body with | some c => c | none => .skip
def ps15 : List AP := [.lend [.int .i64, .own T_i], .val false [.int .i64]]
def rs15 : List RP := [{ src := .tmp 4, agg := false, ps := [.int .i64] }]
noncomputable def sl15 : SemL := [(17, (.io, .shr, .shr, sem17))]
def D15 : Draws := fun _ => .nil
noncomputable def L15 {R : Type} : Loops R := fun _ _ _ _ => none
noncomputable def laws_markRing (a0c0 : Int) (a0c1 : List (Int × Unit)) (k1 : Int) : Option (Int × (List (Int × Unit)) × Unit) :=
  Option.bind (laws_markIntS a0c1 k1) fun y1 =>
  some (y1.1, y1.2.1, ())
noncomputable def x15 (x : Int × (List (Int × Unit)) × Int × Unit) : Option (Int × (List (Int × Unit)) × Unit) := laws_markRing x.1 x.2.1 x.2.2.1
noncomputable def sem15 : Sem1 := semOf ps15 rs15 x15
theorem so15 : SemsOk Try.prog (semsOf sl15) := sems_cons k17 (sems_nil)
theorem t15_eq (x : denR (headRT (ps15.map some))) : codeK (tabOf tr) (semsOf sl15) D15 L15 code15 (start 10 ps15 x) (finK rs15 ps15) = x15 x := by kernel_rfl
theorem k15 : Known Try.prog 15 sem15 :=
  fn_auto tr_ok eq_ok mixed_ok so15 (D := D15) (code := code15) (n := 10) Try.func15 (by kernel_rfl) (by kernel_rfl) (by kernel_rfl) (fun w0 mu _ hs => (loops_of (l := []) (by kernel_rfl) (List.forall_mem_nil _))) t15_eq

/-! ### f71: laws.markText -/
noncomputable def code71 : Code := match Try.f71.body with | some c => c | none => .skip
def ps71 : List AP := [.val false [.int .i64]]
def rs71 : List RP := [{ src := .tmp 2, agg := false, ps := [.str] }]
noncomputable def sl71 : SemL := []
def D71 : Draws := fun _ => .nil
def hp71_0 : List (Option AP) := [some (.val false [.int .i64]), none, none, some (.val false [.str]), none, none, none, none, none, none, none, none, none, none, none, none, none, none, none, none, none]
def e71_0 : List (Option AP) := [none, none, none, some (.val false [.str]), none, none, none, none, none, none, none, none, none, none, none, none, none, none, none, none, none]
def q71_0 : List (Option AP) := [none, none, none, none, none, none, none, none, none, none, none, none, none, none, none, none, none, none, none, none, none]
abbrev H71_0 : Type := Int × ByteArray × Unit
abbrev E71_0 : Type := ByteArray × Unit
abbrev Q71_0 : Type := Unit
noncomputable def laws_markText_c0 (k0 : Int) (out3 : ByteArray) : Option (Sum H71_0 (Sum E71_0 Q71_0)) :=
  bif decide ((0 : Int) < k0) then
    bif Nat.ble ((ByteArray.size (bytesOf [(IntKind.u8.wrap (IntKind.i64.wrap ((48 : Int) + (Int.tmod k0 (10 : Int)))), ())])) + (ByteArray.size out3)) lim then some (.inl (IntKind.i64.wrap (Int.tdiv k0 (10 : Int)), (bytesOf [(IntKind.u8.wrap (IntKind.i64.wrap ((48 : Int) + (Int.tmod k0 (10 : Int)))), ())]) ++ out3, ()))
    else none
  else
    some (.inr (.inl (out3, ())))
noncomputable def laws_markText_r0 (x : H71_0) : Option (Sum H71_0 (Sum E71_0 Q71_0)) := laws_markText_c0 x.1 x.2.1
noncomputable def L71 {R : Type} : Loops R := fun id _ st k => bif Nat.beq id 0 then loopAt hp71_0 e71_0 q71_0 laws_markText_r0 st k else none
noncomputable def laws_markText (k0 : Int) : Option (ByteArray × Unit) :=
  bif decide (k0 ≤ (0 : Int)) then
    some ((ByteArray.mk #[109, 48]), ())
  else
    outK (loopV laws_markText_r0 (k0, (ByteArray.mk #[]), ())) (fun y1 =>
      bif Nat.ble (1 + (ByteArray.size y1.1)) lim then some ((ByteArray.mk #[109]) ++ y1.1, ())
      else none) (fun y2 =>
      none)
noncomputable def x71 (x : Int × Unit) : Option (ByteArray × Unit) := laws_markText x.1
noncomputable def sem71 : Sem1 := semOf ps71 rs71 x71
theorem so71 : SemsOk Try.prog (semsOf sl71) := sems_nil
noncomputable def b71_0 : Code := nthLoop code71 0
theorem t71_r0_eq (x : denR (headRT hp71_0)) : codeK (tabOf tr) (semsOf sl71) D71 L71 b71_0 (headSt hp71_0 x) (roundK 0 hp71_0 e71_0 q71_0) = laws_markText_r0 x := by kernel_rfl
theorem loop71_0 {R : Type} (r : R) (w0 : World) (mu : Mu) (hs : AnShape ps71 mu) : LoopAt Try.prog w0 mu 20 (L71 : Loops R) r 0 b71_0 :=
  loop_auto tr_ok eq_ok mixed_ok so71 (D := D71) hs (by kernel_rfl) (fun _ => (loops_of (l := []) (by kernel_rfl) (List.forall_mem_nil _))) t71_r0_eq (fun _ _ => rfl)
theorem t71_eq (x : denR (headRT (ps71.map some))) : codeK (tabOf tr) (semsOf sl71) D71 L71 code71 (start 20 ps71 x) (finK rs71 ps71) = x71 x := by kernel_rfl
theorem k71 : Known Try.prog 71 sem71 :=
  fn_auto tr_ok eq_ok mixed_ok so71 (D := D71) (code := code71) (n := 20) Try.func71 (by kernel_rfl) (by kernel_rfl) (by kernel_rfl) (fun w0 mu _ hs => (loops_of (l := [(0, b71_0)]) (by kernel_rfl) (List.forall_mem_cons.2 ⟨loop71_0 _ w0 mu hs, (List.forall_mem_nil _)⟩))) t71_eq

/-! ### f44: laws.markItemS -/
noncomputable def code44 : Code := match Try.f44.body with | some c => c | none => .skip
def ps44 : List AP := [.io T_iiis, .val false [.int .i64]]
def rs44 : List RP := [{ src := .tmp 4, agg := false, ps := [.int .i64] }]
noncomputable def sl44 : SemL := [(71, (.shr, .shr, .shr, sem71))]
def D44 : Draws := fun _ => .nil
def hp44_0 : List (Option AP) := [some (.io T_iiis), some (.val false [.int .i64]), none, none, none, some (.val false [.int .i64]), none, none, none, none, none, none, none, none, none, none, none, none, none, none, none, none, none, none, none, none, none, none, none, none, none, none, none, none, none, none, none, none, none, none, none, none, none]
def e44_0 : List (Option AP) := [some (.io T_iiis), some (.val false [.int .i64]), none, none, none, none, none, none, none, none, none, none, none, none, none, none, none, none, none, none, none, none, none, none, none, none, none, none, none, none, none, none, none, none, none, none, none, none, none, none, none, none, none]
def q44_0 : List (Option AP) := [none, none, none, none, none, none, none, none, none, none, none, none, none, none, none, none, none, none, none, none, none, none, none, none, none, none, none, none, none, none, none, none, none, none, none, none, none, none, none, none, none, none, none]
abbrev H44_0 : Type := (List R_iiis) × Int × Int × Unit
abbrev E44_0 : Type := (List R_iiis) × Int × Unit
abbrev Q44_0 : Type := Unit
noncomputable def laws_markItemS_c0 (a0 : List R_iiis) (k1 : Int) (i5 : Int) : Option (Sum H44_0 (Sum E44_0 Q44_0)) :=
  bif decide (i5 < ((List.length a0 : Nat) : Int)) then
    bif decide ((0 : Int) ≤ i5) then bif Nat.blt (Int.toNat i5) (List.length a0) then Option.bind ((a0)[Int.toNat i5]?) fun r1 =>
        bif decide ((0 : Int) ≤ i5) then bif Nat.blt (Int.toNat i5) (List.length (List.set a0 (Int.toNat i5) (k1, r1.2.1, r1.2.2.1, r1.2.2.2.1, ()))) then Option.bind ((List.set a0 (Int.toNat i5) (k1, r1.2.1, r1.2.2.1, r1.2.2.2.1, ()))[Int.toNat i5]?) fun r2 =>
            bif decide ((0 : Int) ≤ i5) then bif Nat.blt (Int.toNat i5) (List.length (List.set (List.set a0 (Int.toNat i5) (k1, r1.2.1, r1.2.2.1, r1.2.2.2.1, ())) (Int.toNat i5) (r2.1, IntKind.i64.wrap (k1 + (1 : Int)), r2.2.2.1, r2.2.2.2.1, ()))) then Option.bind ((List.set (List.set a0 (Int.toNat i5) (k1, r1.2.1, r1.2.2.1, r1.2.2.2.1, ())) (Int.toNat i5) (r2.1, IntKind.i64.wrap (k1 + (1 : Int)), r2.2.2.1, r2.2.2.2.1, ()))[Int.toNat i5]?) fun r3 =>
                Option.bind (laws_markText (IntKind.i64.wrap ((IntKind.i64.wrap ((IntKind.i64.wrap (k1 + (1 : Int))) + (1 : Int))) + (1 : Int)))) fun y4 =>
                bif decide ((0 : Int) ≤ i5) then bif Nat.blt (Int.toNat i5) (List.length (List.set (List.set (List.set a0 (Int.toNat i5) (k1, r1.2.1, r1.2.2.1, r1.2.2.2.1, ())) (Int.toNat i5) (r2.1, IntKind.i64.wrap (k1 + (1 : Int)), r2.2.2.1, r2.2.2.2.1, ())) (Int.toNat i5) (r3.1, r3.2.1, IntKind.i64.wrap ((IntKind.i64.wrap (k1 + (1 : Int))) + (1 : Int)), r3.2.2.2.1, ()))) then Option.bind ((List.set (List.set (List.set a0 (Int.toNat i5) (k1, r1.2.1, r1.2.2.1, r1.2.2.2.1, ())) (Int.toNat i5) (r2.1, IntKind.i64.wrap (k1 + (1 : Int)), r2.2.2.1, r2.2.2.2.1, ())) (Int.toNat i5) (r3.1, r3.2.1, IntKind.i64.wrap ((IntKind.i64.wrap (k1 + (1 : Int))) + (1 : Int)), r3.2.2.2.1, ()))[Int.toNat i5]?) fun r5 =>
                    some (.inl (List.set (List.set (List.set (List.set a0 (Int.toNat i5) (k1, r1.2.1, r1.2.2.1, r1.2.2.2.1, ())) (Int.toNat i5) (r2.1, IntKind.i64.wrap (k1 + (1 : Int)), r2.2.2.1, r2.2.2.2.1, ())) (Int.toNat i5) (r3.1, r3.2.1, IntKind.i64.wrap ((IntKind.i64.wrap (k1 + (1 : Int))) + (1 : Int)), r3.2.2.2.1, ())) (Int.toNat i5) (r5.1, r5.2.1, r5.2.2.1, y4.1, ()), IntKind.i64.wrap ((IntKind.i64.wrap ((IntKind.i64.wrap ((IntKind.i64.wrap (k1 + (1 : Int))) + (1 : Int))) + (1 : Int))) + (1 : Int)), IntKind.i64.wrap (i5 + (1 : Int)), ()))
                  else none
                else none
              else none
            else none
          else none
        else none
      else none
    else none
  else
    some (.inr (.inl (a0, k1, ())))
noncomputable def laws_markItemS_r0 (x : H44_0) : Option (Sum H44_0 (Sum E44_0 Q44_0)) := laws_markItemS_c0 x.1 x.2.1 x.2.2.1
noncomputable def L44 {R : Type} : Loops R := fun id _ st k => bif Nat.beq id 0 then loopAt hp44_0 e44_0 q44_0 laws_markItemS_r0 st k else none
noncomputable def laws_markItemS (a0 : List R_iiis) (k1 : Int) : Option (Int × (List R_iiis) × Unit) :=
  outK (loopV laws_markItemS_r0 (a0, k1, (0 : Int), ())) (fun y1 =>
    some (y1.2.1, y1.1, ())) (fun y2 =>
    none)
noncomputable def x44 (x : (List R_iiis) × Int × Unit) : Option (Int × (List R_iiis) × Unit) := laws_markItemS x.1 x.2.1
noncomputable def sem44 : Sem1 := semOf ps44 rs44 x44
theorem so44 : SemsOk Try.prog (semsOf sl44) := sems_cons k71 (sems_nil)
noncomputable def b44_0 : Code := nthLoop code44 0
theorem t44_r0_eq (x : denR (headRT hp44_0)) : codeK (tabOf tr) (semsOf sl44) D44 L44 b44_0 (headSt hp44_0 x) (roundK 0 hp44_0 e44_0 q44_0) = laws_markItemS_r0 x := by kernel_rfl
theorem loop44_0 {R : Type} (r : R) (w0 : World) (mu : Mu) (hs : AnShape ps44 mu) : LoopAt Try.prog w0 mu 42 (L44 : Loops R) r 0 b44_0 :=
  loop_auto tr_ok eq_ok mixed_ok so44 (D := D44) hs (by kernel_rfl) (fun _ => (loops_of (l := []) (by kernel_rfl) (List.forall_mem_nil _))) t44_r0_eq (fun _ _ => rfl)
theorem t44_eq (x : denR (headRT (ps44.map some))) : codeK (tabOf tr) (semsOf sl44) D44 L44 code44 (start 42 ps44 x) (finK rs44 ps44) = x44 x := by kernel_rfl
theorem k44 : Known Try.prog 44 sem44 :=
  fn_auto tr_ok eq_ok mixed_ok so44 (D := D44) (code := code44) (n := 42) Try.func44 (by kernel_rfl) (by kernel_rfl) (by kernel_rfl) (fun w0 mu _ hs => (loops_of (l := [(0, b44_0)]) (by kernel_rfl) (List.forall_mem_cons.2 ⟨loop44_0 _ w0 mu hs, (List.forall_mem_nil _)⟩))) t44_eq

/-! ### f16: laws.markBundleS -/
noncomputable def code16 : Code := match Try.f16.body with | some c => c | none => .skip
def ps16 : List AP := [.io T_iiiLiiisE .dp, .val false [.int .i64]]
def rs16 : List RP := [{ src := .tmp 4, agg := false, ps := [.int .i64] }]
noncomputable def sl16 : SemL := [(44, (.io, .shr, .shr, sem44))]
def D16 : Draws := fun _ => .nil
def hp16_0 : List (Option AP) := [some (.io T_iiiLiiisE .dp), some (.val false [.int .i64]), none, none, none, some (.val false [.int .i64]), none, none, none, none, none, none, none, none, none, none, none, none, none, none, none, none, none, none, none, none, none, none, none, none, none, none, none, none, none, none, none, none, none, none, none, none]
def e16_0 : List (Option AP) := [some (.io T_iiiLiiisE .dp), some (.val false [.int .i64]), none, none, none, none, none, none, none, none, none, none, none, none, none, none, none, none, none, none, none, none, none, none, none, none, none, none, none, none, none, none, none, none, none, none, none, none, none, none, none, none]
def q16_0 : List (Option AP) := [none, none, none, none, none, none, none, none, none, none, none, none, none, none, none, none, none, none, none, none, none, none, none, none, none, none, none, none, none, none, none, none, none, none, none, none, none, none, none, none, none, none]
abbrev H16_0 : Type := (List R_iiiLiiisE) × Int × Int × Unit
abbrev E16_0 : Type := (List R_iiiLiiisE) × Int × Unit
abbrev Q16_0 : Type := Unit
noncomputable def laws_markBundleS_c0 (a0 : List R_iiiLiiisE) (k1 : Int) (i5 : Int) : Option (Sum H16_0 (Sum E16_0 Q16_0)) :=
  bif decide (i5 < ((List.length a0 : Nat) : Int)) then
    bif decide ((0 : Int) ≤ i5) then bif Nat.blt (Int.toNat i5) (List.length a0) then Option.bind ((a0)[Int.toNat i5]?) fun r1 =>
        bif decide ((0 : Int) ≤ i5) then bif Nat.blt (Int.toNat i5) (List.length (List.set a0 (Int.toNat i5) (k1, r1.2.1, r1.2.2.1, r1.2.2.2.1, ()))) then Option.bind ((List.set a0 (Int.toNat i5) (k1, r1.2.1, r1.2.2.1, r1.2.2.2.1, ()))[Int.toNat i5]?) fun r2 =>
            bif decide ((0 : Int) ≤ i5) then bif Nat.blt (Int.toNat i5) (List.length (List.set (List.set a0 (Int.toNat i5) (k1, r1.2.1, r1.2.2.1, r1.2.2.2.1, ())) (Int.toNat i5) (r2.1, IntKind.i64.wrap (k1 + (1 : Int)), r2.2.2.1, r2.2.2.2.1, ()))) then Option.bind ((List.set (List.set a0 (Int.toNat i5) (k1, r1.2.1, r1.2.2.1, r1.2.2.2.1, ())) (Int.toNat i5) (r2.1, IntKind.i64.wrap (k1 + (1 : Int)), r2.2.2.1, r2.2.2.2.1, ()))[Int.toNat i5]?) fun r3 =>
                bif decide ((0 : Int) ≤ i5) then bif Nat.blt (Int.toNat i5) (List.length (List.set (List.set (List.set a0 (Int.toNat i5) (k1, r1.2.1, r1.2.2.1, r1.2.2.2.1, ())) (Int.toNat i5) (r2.1, IntKind.i64.wrap (k1 + (1 : Int)), r2.2.2.1, r2.2.2.2.1, ())) (Int.toNat i5) (r3.1, r3.2.1, IntKind.i64.wrap ((IntKind.i64.wrap (k1 + (1 : Int))) + (1 : Int)), r3.2.2.2.1, ()))) then Option.bind ((List.set (List.set (List.set a0 (Int.toNat i5) (k1, r1.2.1, r1.2.2.1, r1.2.2.2.1, ())) (Int.toNat i5) (r2.1, IntKind.i64.wrap (k1 + (1 : Int)), r2.2.2.1, r2.2.2.2.1, ())) (Int.toNat i5) (r3.1, r3.2.1, IntKind.i64.wrap ((IntKind.i64.wrap (k1 + (1 : Int))) + (1 : Int)), r3.2.2.2.1, ()))[Int.toNat i5]?) fun r4 =>
                    Option.bind (laws_markItemS r4.2.2.2.1 (IntKind.i64.wrap ((IntKind.i64.wrap ((IntKind.i64.wrap (k1 + (1 : Int))) + (1 : Int))) + (1 : Int)))) fun y5 =>
                    Option.bind ((List.set (List.set (List.set a0 (Int.toNat i5) (k1, r1.2.1, r1.2.2.1, r1.2.2.2.1, ())) (Int.toNat i5) (r2.1, IntKind.i64.wrap (k1 + (1 : Int)), r2.2.2.1, r2.2.2.2.1, ())) (Int.toNat i5) (r3.1, r3.2.1, IntKind.i64.wrap ((IntKind.i64.wrap (k1 + (1 : Int))) + (1 : Int)), r3.2.2.2.1, ()))[Int.toNat i5]?) fun r6 =>
                    some (.inl (List.set (List.set (List.set (List.set a0 (Int.toNat i5) (k1, r1.2.1, r1.2.2.1, r1.2.2.2.1, ())) (Int.toNat i5) (r2.1, IntKind.i64.wrap (k1 + (1 : Int)), r2.2.2.1, r2.2.2.2.1, ())) (Int.toNat i5) (r3.1, r3.2.1, IntKind.i64.wrap ((IntKind.i64.wrap (k1 + (1 : Int))) + (1 : Int)), r3.2.2.2.1, ())) (Int.toNat i5) (r6.1, r6.2.1, r6.2.2.1, y5.2.1, ()), y5.1, IntKind.i64.wrap (i5 + (1 : Int)), ()))
                  else none
                else none
              else none
            else none
          else none
        else none
      else none
    else none
  else
    some (.inr (.inl (a0, k1, ())))
noncomputable def laws_markBundleS_r0 (x : H16_0) : Option (Sum H16_0 (Sum E16_0 Q16_0)) := laws_markBundleS_c0 x.1 x.2.1 x.2.2.1
noncomputable def L16 {R : Type} : Loops R := fun id _ st k => bif Nat.beq id 0 then loopAt hp16_0 e16_0 q16_0 laws_markBundleS_r0 st k else none
noncomputable def laws_markBundleS (a0 : List R_iiiLiiisE) (k1 : Int) : Option (Int × (List R_iiiLiiisE) × Unit) :=
  outK (loopV laws_markBundleS_r0 (a0, k1, (0 : Int), ())) (fun y1 =>
    some (y1.2.1, y1.1, ())) (fun y2 =>
    none)
noncomputable def x16 (x : (List R_iiiLiiisE) × Int × Unit) : Option (Int × (List R_iiiLiiisE) × Unit) := laws_markBundleS x.1 x.2.1
noncomputable def sem16 : Sem1 := semOf ps16 rs16 x16
theorem so16 : SemsOk Try.prog (semsOf sl16) := sems_cons k44 (sems_nil)
noncomputable def b16_0 : Code := nthLoop code16 0
theorem t16_r0_eq (x : denR (headRT hp16_0)) : codeK (tabOf tr) (semsOf sl16) D16 L16 b16_0 (headSt hp16_0 x) (roundK 0 hp16_0 e16_0 q16_0) = laws_markBundleS_r0 x := by kernel_rfl
theorem loop16_0 {R : Type} (r : R) (w0 : World) (mu : Mu) (hs : AnShape ps16 mu) : LoopAt Try.prog w0 mu 41 (L16 : Loops R) r 0 b16_0 :=
  loop_auto tr_ok eq_ok mixed_ok so16 (D := D16) hs (by kernel_rfl) (fun _ => (loops_of (l := []) (by kernel_rfl) (List.forall_mem_nil _))) t16_r0_eq (fun _ _ => rfl)
theorem t16_eq (x : denR (headRT (ps16.map some))) : codeK (tabOf tr) (semsOf sl16) D16 L16 code16 (start 41 ps16 x) (finK rs16 ps16) = x16 x := by kernel_rfl
theorem k16 : Known Try.prog 16 sem16 :=
  fn_auto tr_ok eq_ok mixed_ok so16 (D := D16) (code := code16) (n := 41) Try.func16 (by kernel_rfl) (by kernel_rfl) (by kernel_rfl) (fun w0 mu _ hs => (loops_of (l := [(0, b16_0)]) (by kernel_rfl) (List.forall_mem_cons.2 ⟨loop16_0 _ w0 mu hs, (List.forall_mem_nil _)⟩))) t16_eq

/-! ### f18: laws.heldIntS -/
noncomputable def code18 : Code := match Try.f18.body with | some c => c | none => .skip
def ps18 : List AP := [.val false [.shr T_i], .val false [.int .i64]]
def rs18 : List RP := [{ src := .tmp 4, agg := false, ps := [.int .i64] }]
noncomputable def sl18 : SemL := []
def D18 : Draws := fun _ => .nil
def hp18_0 : List (Option AP) := [some (.val false [.shr T_i]), some (.val false [.int .i64]), none, none, none, some (.val false [.int .i64]), none, none, none, none, none, none, none, none, none, none, none, none, none, none, none, none]
def e18_0 : List (Option AP) := [none, some (.val false [.int .i64]), none, none, none, none, none, none, none, none, none, none, none, none, none, none, none, none, none, none, none, none]
def q18_0 : List (Option AP) := [none, none, none, none, some (.val false [.int .i64]), none, none, none, none, none, none, none, none, none, none, none, none, none, none, none, none, none]
abbrev H18_0 : Type := (List (Int × Unit)) × Int × Int × Unit
abbrev E18_0 : Type := Int × Unit
abbrev Q18_0 : Type := Int × Unit
noncomputable def laws_heldIntS_c0 (a0 : List (Int × Unit)) (k1 : Int) (i5 : Int) : Option (Sum H18_0 (Sum E18_0 Q18_0)) :=
  bif decide (i5 < ((List.length a0 : Nat) : Int)) then
    bif decide ((0 : Int) ≤ i5) then Option.bind ((a0)[Int.toNat i5]?) fun r1 =>
      bif !decide (r1.1 = k1) then
        some (.inr (.inr ((-1 : Int), ())))
      else
        some (.inl (a0, IntKind.i64.wrap (k1 + (1 : Int)), IntKind.i64.wrap (i5 + (1 : Int)), ()))
    else none
  else
    some (.inr (.inl (k1, ())))
noncomputable def laws_heldIntS_r0 (x : H18_0) : Option (Sum H18_0 (Sum E18_0 Q18_0)) := laws_heldIntS_c0 x.1 x.2.1 x.2.2.1
noncomputable def L18 {R : Type} : Loops R := fun id _ st k => bif Nat.beq id 0 then loopAt hp18_0 e18_0 q18_0 laws_heldIntS_r0 st k else none
noncomputable def laws_heldIntS (a0 : List (Int × Unit)) (k1 : Int) : Option (Int × Unit) :=
  outK (loopV laws_heldIntS_r0 (a0, k1, (0 : Int), ())) (fun y1 =>
    some (y1.1, ())) (fun y2 =>
    some (y2.1, ()))
noncomputable def x18 (x : (List (Int × Unit)) × Int × Unit) : Option (Int × Unit) := laws_heldIntS x.1 x.2.1
noncomputable def sem18 : Sem1 := semOf ps18 rs18 x18
theorem so18 : SemsOk Try.prog (semsOf sl18) := sems_nil
noncomputable def b18_0 : Code := nthLoop code18 0
theorem t18_r0_eq (x : denR (headRT hp18_0)) : codeK (tabOf tr) (semsOf sl18) D18 L18 b18_0 (headSt hp18_0 x) (roundK 0 hp18_0 e18_0 q18_0) = laws_heldIntS_r0 x := by kernel_rfl
theorem loop18_0 {R : Type} (r : R) (w0 : World) (mu : Mu) (hs : AnShape ps18 mu) : LoopAt Try.prog w0 mu 21 (L18 : Loops R) r 0 b18_0 :=
  loop_auto tr_ok eq_ok mixed_ok so18 (D := D18) hs (by kernel_rfl) (fun _ => (loops_of (l := []) (by kernel_rfl) (List.forall_mem_nil _))) t18_r0_eq (fun _ _ => rfl)
theorem t18_eq (x : denR (headRT (ps18.map some))) : codeK (tabOf tr) (semsOf sl18) D18 L18 code18 (start 21 ps18 x) (finK rs18 ps18) = x18 x := by kernel_rfl
theorem k18 : Known Try.prog 18 sem18 :=
  fn_auto tr_ok eq_ok mixed_ok so18 (D := D18) (code := code18) (n := 21) Try.func18 (by kernel_rfl) (by kernel_rfl) (by kernel_rfl) (fun w0 mu _ hs => (loops_of (l := [(0, b18_0)]) (by kernel_rfl) (List.forall_mem_cons.2 ⟨loop18_0 _ w0 mu hs, (List.forall_mem_nil _)⟩))) t18_eq

/-! ### f3: laws.FnExactTogetherWith -/
noncomputable def code3 : Code := match Try.f3.body with | some c => c | none => .skip
def ps3 : List AP := [.val true [.int .i64, .shr T_i], .val false [.shr T_iiiLiiisE], .val false [.int .i64]]
def rs3 : List RP := [{ src := .tmp 6, agg := false, ps := [.bool] }]
noncomputable def sl3 : SemL := [(6, (.shr, .shr, .shr, sem6)), (7, (.shr, .shr, .shr, sem7)), (9, (.shr, .shr, .shr, sem9)), (10, (.shr, .shr, .shr, sem10)), (8, (.shr, .shr, .shr, sem8)), (11, (.shr, .shr, .shr, sem11)), (12, (.shr, .shr, .shr, sem12)), (13, (.shr, .shr, .shr, sem13)), (14, (.shr, .shr, .shr, sem14)), (15, (.lend, .shr, .shr, sem15)), (16, (.io, .shr, .shr, sem16)), (17, (.io, .shr, .shr, sem17)), (18, (.shr, .shr, .shr, sem18))]
def D3 : Draws := fun id => bif Nat.beq id 14 then .op 0 .take (.op 1 .take (.op 2 .one (.op 3 .one (.op 4 .any (.nil))))) else .nil
noncomputable def L3 {R : Type} : Loops R := fun _ _ _ _ => none
noncomputable def laws_FnExactTogetherWith (aR0c0 : Int) (aR0c1 : List (Int × Unit)) (aList1 : List R_iiiLiiisE) (aId2 : Int) : Option (Bool × Unit) :=
  Option.bind (laws_szRing aR0c0 aR0c1 (1048576 : Int)) fun y1 =>
  bif decide (y1.1 < (0 : Int)) then
    some (true, ())
  else
    Option.bind (laws_szBundleS aList1 y1.1) fun y2 =>
    bif decide (y2.1 < (0 : Int)) then
      some (true, ())
    else
      Option.bind (laws_toRing aR0c0 aR0c1) fun y3 =>
      Option.bind (laws_toBundleS aList1) fun y4 =>
      Option.bind (spec_TogetherWith y3.1 y3.2.1 y4.1 aId2) fun y5 =>
      Option.bind (laws_toRing aR0c0 aR0c1) fun y6 =>
      Option.bind (laws_toBundleS aList1) fun y7 =>
      Option.bind (impl_TogetherWith y6.1 y6.2.1 y7.1 aId2) fun y8 =>
      Option.bind (laws_eqIntS y8.1 y5.1) fun y9 =>
      bif !y9.1 then
        some (false, ())
      else
        Option.bind (laws_toRing aR0c0 aR0c1) fun y10 =>
        Option.bind (laws_eqRing y6.1 y6.2.1 y10.1 y10.2.1) fun y11 =>
        bif !y11.1 then
          some (false, ())
        else
          Option.bind (laws_toBundleS aList1) fun y12 =>
          Option.bind (laws_eqBundleS y7.1 y12.1) fun y13 =>
          bif !y13.1 then
            some (false, ())
          else
            Option.bind (laws_markRing y6.1 y6.2.1 (1 : Int)) fun y14 =>
            Option.bind (laws_markBundleS y7.1 y14.1) fun y15 =>
            bif decide (y15.1 < (0 : Int)) then
              some (false, ())
            else
              Option.bind (laws_eqIntS y8.1 y5.1) fun y16 =>
              bif !y16.1 then
                some (false, ())
              else
                Option.bind (laws_markIntS y8.1 (1 : Int)) fun y17 =>
                Option.bind (laws_heldIntS y17.2.1 (1 : Int)) fun y18 =>
                bif decide (y18.1 < (0 : Int)) then
                  some (false, ())
                else bif !decide (y18.1 = y17.1) then
                  some (false, ())
                else
                  Option.bind (laws_toRing aR0c0 aR0c1) fun y19 =>
                  Option.bind (laws_toBundleS aList1) fun y20 =>
                  Option.bind (impl_TogetherWith y19.1 y19.2.1 y20.1 aId2) fun y21 =>
                  Option.bind (laws_eqIntS y21.1 y5.1) fun y22 =>
                  bif !y22.1 then
                    some (false, ())
                  else
                    Option.bind (laws_heldIntS y17.2.1 (1 : Int)) fun y23 =>
                    bif decide (y23.1 < (0 : Int)) then
                      some (false, ())
                    else bif !decide (y23.1 = y17.1) then
                      some (false, ())
                    else
                      some (true, ())
noncomputable def x3 (x : Int × (List (Int × Unit)) × (List R_iiiLiiisE) × Int × Unit) : Option (Bool × Unit) := laws_FnExactTogetherWith x.1 x.2.1 x.2.2.1 x.2.2.2.1
noncomputable def sem3 : Sem1 := semOf ps3 rs3 x3
theorem so3 : SemsOk Try.prog (semsOf sl3) := sems_cons k6 (sems_cons k7 (sems_cons k9 (sems_cons k10 (sems_cons k8 (sems_cons k11 (sems_cons k12 (sems_cons k13 (sems_cons k14 (sems_cons k15 (sems_cons k16 (sems_cons k17 (sems_cons k18 (sems_nil)))))))))))))
theorem t3_eq (x : denR (headRT (ps3.map some))) : codeK (tabOf tr) (semsOf sl3) D3 L3 code3 (start 97 ps3 x) (finK rs3 ps3) = x3 x := by kernel_rfl
theorem k3 : Known Try.prog 3 sem3 :=
  fn_auto tr_ok eq_ok mixed_ok so3 (D := D3) (code := code3) (n := 97) Try.func3 (by kernel_rfl) (by kernel_rfl) (by kernel_rfl) (fun w0 mu _ hs => (loops_of (l := []) (by kernel_rfl) (List.forall_mem_nil _))) t3_eq

/-! ### f78: laws.szStringS -/
noncomputable def code78 : Code := match Try.f78.body with | some c => c | none => .skip
def ps78 : List AP := [.val false [.shr T_s], .val false [.int .i64]]
def rs78 : List RP := [{ src := .tmp 4, agg := false, ps := [.int .i64] }]
noncomputable def sl78 : SemL := []
def D78 : Draws := fun _ => .nil
def hp78_0 : List (Option AP) := [some (.val false [.shr T_s]), some (.val false [.int .i64]), none, none, none, some (.val false [.int .i64]), none, none, none, none, none, none, none, none, none, none, none, none, none, none, none, none, none, none, none, none, none, none, none]
def e78_0 : List (Option AP) := [none, some (.val false [.int .i64]), none, none, none, none, none, none, none, none, none, none, none, none, none, none, none, none, none, none, none, none, none, none, none, none, none, none, none]
def q78_0 : List (Option AP) := [none, none, none, none, some (.val false [.int .i64]), none, none, none, none, none, none, none, none, none, none, none, none, none, none, none, none, none, none, none, none, none, none, none, none]
abbrev H78_0 : Type := (List (ByteArray × Unit)) × Int × Int × Unit
abbrev E78_0 : Type := Int × Unit
abbrev Q78_0 : Type := Int × Unit
noncomputable def laws_szStringS_c0 (a0 : List (ByteArray × Unit)) (left1 : Int) (i5 : Int) : Option (Sum H78_0 (Sum E78_0 Q78_0)) :=
  bif decide (i5 < ((List.length a0 : Nat) : Int)) then
    bif decide ((0 : Int) ≤ i5) then Option.bind ((a0)[Int.toNat i5]?) fun r1 =>
      bif decide (IntKind.i64.wrap (left1 - ((ByteArray.size r1.1 : Nat) : Int)) < (0 : Int)) then
        some (.inr (.inr ((-1 : Int), ())))
      else
        some (.inl (a0, IntKind.i64.wrap (left1 - ((ByteArray.size r1.1 : Nat) : Int)), IntKind.i64.wrap (i5 + (1 : Int)), ()))
    else none
  else
    some (.inr (.inl (left1, ())))
noncomputable def laws_szStringS_r0 (x : H78_0) : Option (Sum H78_0 (Sum E78_0 Q78_0)) := laws_szStringS_c0 x.1 x.2.1 x.2.2.1
noncomputable def L78 {R : Type} : Loops R := fun id _ st k => bif Nat.beq id 0 then loopAt hp78_0 e78_0 q78_0 laws_szStringS_r0 st k else none
noncomputable def laws_szStringS (a0 : List (ByteArray × Unit)) (left1 : Int) : Option (Int × Unit) :=
  bif decide (IntKind.i64.wrap (left1 - ((List.length a0 : Nat) : Int)) < (0 : Int)) then
    some ((-1 : Int), ())
  else
    outK (loopV laws_szStringS_r0 (a0, IntKind.i64.wrap (left1 - ((List.length a0 : Nat) : Int)), (0 : Int), ())) (fun y1 =>
      some (y1.1, ())) (fun y2 =>
      some (y2.1, ()))
noncomputable def x78 (x : (List (ByteArray × Unit)) × Int × Unit) : Option (Int × Unit) := laws_szStringS x.1 x.2.1
noncomputable def sem78 : Sem1 := semOf ps78 rs78 x78
theorem so78 : SemsOk Try.prog (semsOf sl78) := sems_nil
noncomputable def b78_0 : Code := nthLoop code78 0
theorem t78_r0_eq (x : denR (headRT hp78_0)) : codeK (tabOf tr) (semsOf sl78) D78 L78 b78_0 (headSt hp78_0 x) (roundK 0 hp78_0 e78_0 q78_0) = laws_szStringS_r0 x := by kernel_rfl
theorem loop78_0 {R : Type} (r : R) (w0 : World) (mu : Mu) (hs : AnShape ps78 mu) : LoopAt Try.prog w0 mu 28 (L78 : Loops R) r 0 b78_0 :=
  loop_auto tr_ok eq_ok mixed_ok so78 (D := D78) hs (by kernel_rfl) (fun _ => (loops_of (l := []) (by kernel_rfl) (List.forall_mem_nil _))) t78_r0_eq (fun _ _ => rfl)
theorem t78_eq (x : denR (headRT (ps78.map some))) : codeK (tabOf tr) (semsOf sl78) D78 L78 code78 (start 28 ps78 x) (finK rs78 ps78) = x78 x := by kernel_rfl
theorem k78 : Known Try.prog 78 sem78 :=
  fn_auto tr_ok eq_ok mixed_ok so78 (D := D78) (code := code78) (n := 28) Try.func78 (by kernel_rfl) (by kernel_rfl) (by kernel_rfl) (fun w0 mu _ hs => (loops_of (l := [(0, b78_0)]) (by kernel_rfl) (List.forall_mem_cons.2 ⟨loop78_0 _ w0 mu hs, (List.forall_mem_nil _)⟩))) t78_eq

/-! ### f79: laws.szToken -/
noncomputable def code79 : Code := match Try.f79.body with | some c => c | none => .skip
def ps79 : List AP := [.val true [.int .i64, .int .i64, .int .i64, .int .i64, .int .i64, .shr T_i], .val false [.int .i64]]
def rs79 : List RP := [{ src := .tmp 4, agg := false, ps := [.int .i64] }]
noncomputable def sl79 : SemL := [(35, (.shr, .shr, .shr, sem35))]
def D79 : Draws := fun _ => .nil
noncomputable def L79 {R : Type} : Loops R := fun _ _ _ _ => none
noncomputable def laws_szToken (a0c0 : Int) (a0c1 : Int) (a0c2 : Int) (a0c3 : Int) (a0c4 : Int) (a0c5 : List (Int × Unit)) (left1 : Int) : Option (Int × Unit) :=
  Option.bind (laws_szIntS a0c5 left1) fun y1 =>
  bif decide (y1.1 < (0 : Int)) then
    some ((-1 : Int), ())
  else
    some (y1.1, ())
noncomputable def x79 (x : Int × Int × Int × Int × Int × (List (Int × Unit)) × Int × Unit) : Option (Int × Unit) := laws_szToken x.1 x.2.1 x.2.2.1 x.2.2.2.1 x.2.2.2.2.1 x.2.2.2.2.2.1 x.2.2.2.2.2.2.1
noncomputable def sem79 : Sem1 := semOf ps79 rs79 x79
theorem so79 : SemsOk Try.prog (semsOf sl79) := sems_cons k35 (sems_nil)
theorem t79_eq (x : denR (headRT (ps79.map some))) : codeK (tabOf tr) (semsOf sl79) D79 L79 code79 (start 12 ps79 x) (finK rs79 ps79) = x79 x := by kernel_rfl
theorem k79 : Known Try.prog 79 sem79 :=
  fn_auto tr_ok eq_ok mixed_ok so79 (D := D79) (code := code79) (n := 12) Try.func79 (by kernel_rfl) (by kernel_rfl) (by kernel_rfl) (fun w0 mu _ hs => (loops_of (l := []) (by kernel_rfl) (List.forall_mem_nil _))) t79_eq

/-! ### f45: laws.szMate -/
noncomputable def code45 : Code := match Try.f45.body with | some c => c | none => .skip
def ps45 : List AP := [.val true [.int .i64, .int .i64, .shr T_i, .shr T_iiis, .shr T_i, .shr T_s, .int .i64, .int .i64, .int .i64, .int .i64, .int .i64, .int .i64, .int .i64, .int .i64, .int .i64, .shr T_i], .val false [.int .i64]]
def rs45 : List RP := [{ src := .tmp 4, agg := false, ps := [.int .i64] }]
noncomputable def sl45 : SemL := [(6, (.shr, .shr, .shr, sem6)), (72, (.shr, .shr, .shr, sem72)), (35, (.shr, .shr, .shr, sem35)), (78, (.shr, .shr, .shr, sem78)), (79, (.shr, .shr, .shr, sem79))]
def D45 : Draws := fun _ => .nil
noncomputable def L45 {R : Type} : Loops R := fun _ _ _ _ => none
noncomputable def laws_szMate (a0c0 : Int) (a0c1 : Int) (a0c2 : List (Int × Unit)) (a0c3 : List R_iiis) (a0c4 : List (Int × Unit)) (a0c5 : List (ByteArray × Unit)) (a0c6 : Int) (a0c7 : Int) (a0c8 : Int) (a0c9 : Int) (a0c10 : Int) (a0c11 : Int) (a0c12 : Int) (a0c13 : Int) (a0c14 : Int) (a0c15 : List (Int × Unit)) (left1 : Int) : Option (Int × Unit) :=
  Option.bind (laws_szRing a0c1 a0c2 left1) fun y1 =>
  bif decide (y1.1 < (0 : Int)) then
    some ((-1 : Int), ())
  else
    Option.bind (laws_szItemS a0c3 y1.1) fun y2 =>
    bif decide (y2.1 < (0 : Int)) then
      some ((-1 : Int), ())
    else
      Option.bind (laws_szIntS a0c4 y2.1) fun y3 =>
      bif decide (y3.1 < (0 : Int)) then
        some ((-1 : Int), ())
      else
        Option.bind (laws_szStringS a0c5 y3.1) fun y4 =>
        bif decide (y4.1 < (0 : Int)) then
          some ((-1 : Int), ())
        else
          Option.bind (laws_szToken a0c10 a0c11 a0c12 a0c13 a0c14 a0c15 y4.1) fun y5 =>
          bif decide (y5.1 < (0 : Int)) then
            some ((-1 : Int), ())
          else
            some (y5.1, ())
noncomputable def x45 (x : Int × Int × (List (Int × Unit)) × (List R_iiis) × (List (Int × Unit)) × (List (ByteArray × Unit)) × Int × Int × Int × Int × Int × Int × Int × Int × Int × (List (Int × Unit)) × Int × Unit) : Option (Int × Unit) := laws_szMate x.1 x.2.1 x.2.2.1 x.2.2.2.1 x.2.2.2.2.1 x.2.2.2.2.2.1 x.2.2.2.2.2.2.1 x.2.2.2.2.2.2.2.1 x.2.2.2.2.2.2.2.2.1 x.2.2.2.2.2.2.2.2.2.1 x.2.2.2.2.2.2.2.2.2.2.1 x.2.2.2.2.2.2.2.2.2.2.2.1 x.2.2.2.2.2.2.2.2.2.2.2.2.1 x.2.2.2.2.2.2.2.2.2.2.2.2.2.1 x.2.2.2.2.2.2.2.2.2.2.2.2.2.2.1 x.2.2.2.2.2.2.2.2.2.2.2.2.2.2.2.1 x.2.2.2.2.2.2.2.2.2.2.2.2.2.2.2.2.1
noncomputable def sem45 : Sem1 := semOf ps45 rs45 x45
theorem so45 : SemsOk Try.prog (semsOf sl45) := sems_cons k6 (sems_cons k72 (sems_cons k35 (sems_cons k78 (sems_cons k79 (sems_nil)))))
theorem t45_eq (x : denR (headRT (ps45.map some))) : codeK (tabOf tr) (semsOf sl45) D45 L45 code45 (start 36 ps45 x) (finK rs45 ps45) = x45 x := by kernel_rfl
theorem k45 : Known Try.prog 45 sem45 :=
  fn_auto tr_ok eq_ok mixed_ok so45 (D := D45) (code := code45) (n := 36) Try.func45 (by kernel_rfl) (by kernel_rfl) (by kernel_rfl) (fun w0 mu _ hs => (loops_of (l := []) (by kernel_rfl) (List.forall_mem_nil _))) t45_eq

/-! ### f80: laws.szEvent -/
noncomputable def code80 : Code := match Try.f80.body with | some c => c | none => .skip
def ps80 : List AP := [.val true [.int .i64, .int .i64, .shr T_i, .int .i64, .int .i64, .int .i64, .str, .shr T_i], .val false [.int .i64]]
def rs80 : List RP := [{ src := .tmp 4, agg := false, ps := [.int .i64] }]
noncomputable def sl80 : SemL := [(6, (.shr, .shr, .shr, sem6)), (96, (.shr, .shr, .shr, sem96)), (35, (.shr, .shr, .shr, sem35))]
def D80 : Draws := fun _ => .nil
noncomputable def L80 {R : Type} : Loops R := fun _ _ _ _ => none
noncomputable def laws_szEvent (a0c0 : Int) (a0c1 : Int) (a0c2 : List (Int × Unit)) (a0c3 : Int) (a0c4 : Int) (a0c5 : Int) (a0c6 : ByteArray) (a0c7 : List (Int × Unit)) (left1 : Int) : Option (Int × Unit) :=
  Option.bind (laws_szRing a0c1 a0c2 left1) fun y1 =>
  bif decide (y1.1 < (0 : Int)) then
    some ((-1 : Int), ())
  else
    Option.bind (laws_szItem a0c3 a0c4 a0c5 a0c6 y1.1) fun y2 =>
    bif decide (y2.1 < (0 : Int)) then
      some ((-1 : Int), ())
    else
      Option.bind (laws_szIntS a0c7 y2.1) fun y3 =>
      bif decide (y3.1 < (0 : Int)) then
        some ((-1 : Int), ())
      else
        some (y3.1, ())
noncomputable def x80 (x : Int × Int × (List (Int × Unit)) × Int × Int × Int × ByteArray × (List (Int × Unit)) × Int × Unit) : Option (Int × Unit) := laws_szEvent x.1 x.2.1 x.2.2.1 x.2.2.2.1 x.2.2.2.2.1 x.2.2.2.2.2.1 x.2.2.2.2.2.2.1 x.2.2.2.2.2.2.2.1 x.2.2.2.2.2.2.2.2.1
noncomputable def sem80 : Sem1 := semOf ps80 rs80 x80
theorem so80 : SemsOk Try.prog (semsOf sl80) := sems_cons k6 (sems_cons k96 (sems_cons k35 (sems_nil)))
theorem t80_eq (x : denR (headRT (ps80.map some))) : codeK (tabOf tr) (semsOf sl80) D80 L80 code80 (start 24 ps80 x) (finK rs80 ps80) = x80 x := by kernel_rfl
theorem k80 : Known Try.prog 80 sem80 :=
  fn_auto tr_ok eq_ok mixed_ok so80 (D := D80) (code := code80) (n := 24) Try.func80 (by kernel_rfl) (by kernel_rfl) (by kernel_rfl) (fun w0 mu _ hs => (loops_of (l := []) (by kernel_rfl) (List.forall_mem_nil _))) t80_eq

/-! ### f46: laws.szEventS -/
noncomputable def code46 : Code := match Try.f46.body with | some c => c | none => .skip
def ps46 : List AP := [.val false [.shr T_iiLiEiiisLiE], .val false [.int .i64]]
def rs46 : List RP := [{ src := .tmp 4, agg := false, ps := [.int .i64] }]
noncomputable def sl46 : SemL := [(80, (.shr, .shr, .shr, sem80))]
def D46 : Draws := fun _ => .nil
def hp46_0 : List (Option AP) := [some (.val false [.shr T_iiLiEiiisLiE]), some (.val false [.int .i64]), none, none, none, some (.val false [.int .i64]), none, none, none, none, none, none, none, none, none, none, none, none, none, none, none, none, none, none, none, none, none, none]
def e46_0 : List (Option AP) := [none, some (.val false [.int .i64]), none, none, none, none, none, none, none, none, none, none, none, none, none, none, none, none, none, none, none, none, none, none, none, none, none, none]
def q46_0 : List (Option AP) := [none, none, none, none, some (.val false [.int .i64]), none, none, none, none, none, none, none, none, none, none, none, none, none, none, none, none, none, none, none, none, none, none, none]
abbrev H46_0 : Type := (List R_iiLiEiiisLiE) × Int × Int × Unit
abbrev E46_0 : Type := Int × Unit
abbrev Q46_0 : Type := Int × Unit
noncomputable def laws_szEventS_c0 (a0 : List R_iiLiEiiisLiE) (left1 : Int) (i5 : Int) : Option (Sum H46_0 (Sum E46_0 Q46_0)) :=
  bif decide (i5 < ((List.length a0 : Nat) : Int)) then
    bif decide ((0 : Int) ≤ i5) then Option.bind ((a0)[Int.toNat i5]?) fun r1 =>
      Option.bind (laws_szEvent r1.1 r1.2.1 r1.2.2.1 r1.2.2.2.1 r1.2.2.2.2.1 r1.2.2.2.2.2.1 r1.2.2.2.2.2.2.1 r1.2.2.2.2.2.2.2.1 left1) fun y2 =>
      bif decide (y2.1 < (0 : Int)) then
        some (.inr (.inr ((-1 : Int), ())))
      else
        some (.inl (a0, y2.1, IntKind.i64.wrap (i5 + (1 : Int)), ()))
    else none
  else
    some (.inr (.inl (left1, ())))
noncomputable def laws_szEventS_r0 (x : H46_0) : Option (Sum H46_0 (Sum E46_0 Q46_0)) := laws_szEventS_c0 x.1 x.2.1 x.2.2.1
noncomputable def L46 {R : Type} : Loops R := fun id _ st k => bif Nat.beq id 0 then loopAt hp46_0 e46_0 q46_0 laws_szEventS_r0 st k else none
noncomputable def laws_szEventS (a0 : List R_iiLiEiiisLiE) (left1 : Int) : Option (Int × Unit) :=
  bif decide (IntKind.i64.wrap (left1 - ((List.length a0 : Nat) : Int)) < (0 : Int)) then
    some ((-1 : Int), ())
  else
    outK (loopV laws_szEventS_r0 (a0, IntKind.i64.wrap (left1 - ((List.length a0 : Nat) : Int)), (0 : Int), ())) (fun y1 =>
      some (y1.1, ())) (fun y2 =>
      some (y2.1, ()))
noncomputable def x46 (x : (List R_iiLiEiiisLiE) × Int × Unit) : Option (Int × Unit) := laws_szEventS x.1 x.2.1
noncomputable def sem46 : Sem1 := semOf ps46 rs46 x46
theorem so46 : SemsOk Try.prog (semsOf sl46) := sems_cons k80 (sems_nil)
noncomputable def b46_0 : Code := nthLoop code46 0
theorem t46_r0_eq (x : denR (headRT hp46_0)) : codeK (tabOf tr) (semsOf sl46) D46 L46 b46_0 (headSt hp46_0 x) (roundK 0 hp46_0 e46_0 q46_0) = laws_szEventS_r0 x := by kernel_rfl
theorem loop46_0 {R : Type} (r : R) (w0 : World) (mu : Mu) (hs : AnShape ps46 mu) : LoopAt Try.prog w0 mu 27 (L46 : Loops R) r 0 b46_0 :=
  loop_auto tr_ok eq_ok mixed_ok so46 (D := D46) hs (by kernel_rfl) (fun _ => (loops_of (l := []) (by kernel_rfl) (List.forall_mem_nil _))) t46_r0_eq (fun _ _ => rfl)
theorem t46_eq (x : denR (headRT (ps46.map some))) : codeK (tabOf tr) (semsOf sl46) D46 L46 code46 (start 27 ps46 x) (finK rs46 ps46) = x46 x := by kernel_rfl
theorem k46 : Known Try.prog 46 sem46 :=
  fn_auto tr_ok eq_ok mixed_ok so46 (D := D46) (code := code46) (n := 27) Try.func46 (by kernel_rfl) (by kernel_rfl) (by kernel_rfl) (fun w0 mu _ hs => (loops_of (l := [(0, b46_0)]) (by kernel_rfl) (List.forall_mem_cons.2 ⟨loop46_0 _ w0 mu hs, (List.forall_mem_nil _)⟩))) t46_eq

/-! ### f19: laws.szDaemon -/
noncomputable def code19 : Code := match Try.f19.body with | some c => c | none => .skip
def ps19 : List AP := [.val true [.int .i64, .bool, .int .i64, .int .i64, .shr T_i, .shr T_iiis, .shr T_i, .shr T_s, .int .i64, .int .i64, .int .i64, .int .i64, .int .i64, .int .i64, .int .i64, .int .i64, .int .i64, .shr T_i, .int .i64, .int .i64, .int .i64, .shr T_i, .shr T_iiiLiiisE, .shr T_iiLiEiiisLiE], .val false [.int .i64]]
def rs19 : List RP := [{ src := .tmp 4, agg := false, ps := [.int .i64] }]
noncomputable def sl19 : SemL := [(45, (.shr, .shr, .shr, sem45)), (6, (.shr, .shr, .shr, sem6)), (7, (.shr, .shr, .shr, sem7)), (46, (.shr, .shr, .shr, sem46))]
def D19 : Draws := fun _ => .nil
noncomputable def L19 {R : Type} : Loops R := fun _ _ _ _ => none
noncomputable def laws_szDaemon (a0c0 : Int) (a0c1 : Bool) (a0c2 : Int) (a0c3 : Int) (a0c4 : List (Int × Unit)) (a0c5 : List R_iiis) (a0c6 : List (Int × Unit)) (a0c7 : List (ByteArray × Unit)) (a0c8 : Int) (a0c9 : Int) (a0c10 : Int) (a0c11 : Int) (a0c12 : Int) (a0c13 : Int) (a0c14 : Int) (a0c15 : Int) (a0c16 : Int) (a0c17 : List (Int × Unit)) (a0c18 : Int) (a0c19 : Int) (a0c20 : Int) (a0c21 : List (Int × Unit)) (a0c22 : List R_iiiLiiisE) (a0c23 : List R_iiLiEiiisLiE) (left1 : Int) : Option (Int × Unit) :=
  Option.bind (laws_szMate a0c2 a0c3 a0c4 a0c5 a0c6 a0c7 a0c8 a0c9 a0c10 a0c11 a0c12 a0c13 a0c14 a0c15 a0c16 a0c17 left1) fun y1 =>
  bif decide (y1.1 < (0 : Int)) then
    some ((-1 : Int), ())
  else
    Option.bind (laws_szRing a0c20 a0c21 y1.1) fun y2 =>
    bif decide (y2.1 < (0 : Int)) then
      some ((-1 : Int), ())
    else
      Option.bind (laws_szBundleS a0c22 y2.1) fun y3 =>
      bif decide (y3.1 < (0 : Int)) then
        some ((-1 : Int), ())
      else
        Option.bind (laws_szEventS a0c23 y3.1) fun y4 =>
        bif decide (y4.1 < (0 : Int)) then
          some ((-1 : Int), ())
        else
          some (y4.1, ())
noncomputable def x19 (x : Int × Bool × Int × Int × (List (Int × Unit)) × (List R_iiis) × (List (Int × Unit)) × (List (ByteArray × Unit)) × Int × Int × Int × Int × Int × Int × Int × Int × Int × (List (Int × Unit)) × Int × Int × Int × (List (Int × Unit)) × (List R_iiiLiiisE) × (List R_iiLiEiiisLiE) × Int × Unit) : Option (Int × Unit) := laws_szDaemon x.1 x.2.1 x.2.2.1 x.2.2.2.1 x.2.2.2.2.1 x.2.2.2.2.2.1 x.2.2.2.2.2.2.1 x.2.2.2.2.2.2.2.1 x.2.2.2.2.2.2.2.2.1 x.2.2.2.2.2.2.2.2.2.1 x.2.2.2.2.2.2.2.2.2.2.1 x.2.2.2.2.2.2.2.2.2.2.2.1 x.2.2.2.2.2.2.2.2.2.2.2.2.1 x.2.2.2.2.2.2.2.2.2.2.2.2.2.1 x.2.2.2.2.2.2.2.2.2.2.2.2.2.2.1 x.2.2.2.2.2.2.2.2.2.2.2.2.2.2.2.1 x.2.2.2.2.2.2.2.2.2.2.2.2.2.2.2.2.1 x.2.2.2.2.2.2.2.2.2.2.2.2.2.2.2.2.2.1 x.2.2.2.2.2.2.2.2.2.2.2.2.2.2.2.2.2.2.1 x.2.2.2.2.2.2.2.2.2.2.2.2.2.2.2.2.2.2.2.1 x.2.2.2.2.2.2.2.2.2.2.2.2.2.2.2.2.2.2.2.2.1 x.2.2.2.2.2.2.2.2.2.2.2.2.2.2.2.2.2.2.2.2.2.1 x.2.2.2.2.2.2.2.2.2.2.2.2.2.2.2.2.2.2.2.2.2.2.1 x.2.2.2.2.2.2.2.2.2.2.2.2.2.2.2.2.2.2.2.2.2.2.2.1 x.2.2.2.2.2.2.2.2.2.2.2.2.2.2.2.2.2.2.2.2.2.2.2.2.1
noncomputable def sem19 : Sem1 := semOf ps19 rs19 x19
theorem so19 : SemsOk Try.prog (semsOf sl19) := sems_cons k45 (sems_cons k6 (sems_cons k7 (sems_cons k46 (sems_nil))))
theorem t19_eq (x : denR (headRT (ps19.map some))) : codeK (tabOf tr) (semsOf sl19) D19 L19 code19 (start 30 ps19 x) (finK rs19 ps19) = x19 x := by kernel_rfl
theorem k19 : Known Try.prog 19 sem19 :=
  fn_auto tr_ok eq_ok mixed_ok so19 (D := D19) (code := code19) (n := 30) Try.func19 (by kernel_rfl) (by kernel_rfl) (by kernel_rfl) (fun w0 mu _ hs => (loops_of (l := []) (by kernel_rfl) (List.forall_mem_nil _))) t19_eq

/-! ### f81: laws.toStringS -/
noncomputable def code81 : Code := match Try.f81.body with | some c => c | none => .skip
def ps81 : List AP := [.val false [.shr T_s]]
def rs81 : List RP := [{ src := .tmp 2, agg := false, ps := [.own T_s] }]
noncomputable def sl81 : SemL := []
def D81 : Draws := fun _ => .nil
def hp81_0 : List (Option AP) := [some (.val false [.shr T_s]), none, none, some (.val false [.own T_s]), some (.val false [.int .i64]), none, none, none, none, none, none, none, none, none, none, none, none, none, none, none, none, none, none]
def e81_0 : List (Option AP) := [none, none, none, some (.val false [.own T_s]), none, none, none, none, none, none, none, none, none, none, none, none, none, none, none, none, none, none, none]
def q81_0 : List (Option AP) := [none, none, none, none, none, none, none, none, none, none, none, none, none, none, none, none, none, none, none, none, none, none, none]
abbrev H81_0 : Type := (List (ByteArray × Unit)) × (List (ByteArray × Unit)) × Int × Unit
abbrev E81_0 : Type := (List (ByteArray × Unit)) × Unit
abbrev Q81_0 : Type := Unit
noncomputable def laws_toStringS_c0 (a0 : List (ByteArray × Unit)) (out3 : List (ByteArray × Unit)) (i4 : Int) : Option (Sum H81_0 (Sum E81_0 Q81_0)) :=
  bif decide (i4 < ((List.length a0 : Nat) : Int)) then
    bif decide ((0 : Int) ≤ i4) then Option.bind ((a0)[Int.toNat i4]?) fun r1 =>
      bif decide ((0 : Int) ≤ i4) then bif Nat.blt (Int.toNat i4) (List.length out3) then Option.bind ((out3)[Int.toNat i4]?) fun r2 =>
          some (.inl (a0, List.set out3 (Int.toNat i4) (r1.1, ()), IntKind.i64.wrap (i4 + (1 : Int)), ()))
        else none
      else none
    else none
  else
    some (.inr (.inl (out3, ())))
noncomputable def laws_toStringS_r0 (x : H81_0) : Option (Sum H81_0 (Sum E81_0 Q81_0)) := laws_toStringS_c0 x.1 x.2.1 x.2.2.1
noncomputable def L81 {R : Type} : Loops R := fun id _ st k => bif Nat.beq id 0 then loopAt hp81_0 e81_0 q81_0 laws_toStringS_r0 st k else none
noncomputable def laws_toStringS (a0 : List (ByteArray × Unit)) : Option ((List (ByteArray × Unit)) × Unit) :=
  bif decide (((List.length a0 : Nat) : Int) = ((List.length a0 : Nat) : Int)) then bif decide ((0 : Int) ≤ ((List.length a0 : Nat) : Int)) then bif Nat.ble ((Int.toNat ((List.length a0 : Nat) : Int)) * 16) lim then outK (loopV laws_toStringS_r0 (a0, List.replicate (Int.toNat ((List.length a0 : Nat) : Int)) (ByteArray.empty, ()), (0 : Int), ())) (fun y1 =>
          some (y1.1, ())) (fun y2 =>
          none)
      else none
    else none
  else none
noncomputable def x81 (x : (List (ByteArray × Unit)) × Unit) : Option ((List (ByteArray × Unit)) × Unit) := laws_toStringS x.1
noncomputable def sem81 : Sem1 := semOf ps81 rs81 x81
theorem so81 : SemsOk Try.prog (semsOf sl81) := sems_nil
noncomputable def b81_0 : Code := nthLoop code81 0
theorem t81_r0_eq (x : denR (headRT hp81_0)) : codeK (tabOf tr) (semsOf sl81) D81 L81 b81_0 (headSt hp81_0 x) (roundK 0 hp81_0 e81_0 q81_0) = laws_toStringS_r0 x := by kernel_rfl
theorem loop81_0 {R : Type} (r : R) (w0 : World) (mu : Mu) (hs : AnShape ps81 mu) : LoopAt Try.prog w0 mu 22 (L81 : Loops R) r 0 b81_0 :=
  loop_auto tr_ok eq_ok mixed_ok so81 (D := D81) hs (by kernel_rfl) (fun _ => (loops_of (l := []) (by kernel_rfl) (List.forall_mem_nil _))) t81_r0_eq (fun _ _ => rfl)
theorem t81_eq (x : denR (headRT (ps81.map some))) : codeK (tabOf tr) (semsOf sl81) D81 L81 code81 (start 22 ps81 x) (finK rs81 ps81) = x81 x := by kernel_rfl
theorem k81 : Known Try.prog 81 sem81 :=
  fn_auto tr_ok eq_ok mixed_ok so81 (D := D81) (code := code81) (n := 22) Try.func81 (by kernel_rfl) (by kernel_rfl) (by kernel_rfl) (fun w0 mu _ hs => (loops_of (l := [(0, b81_0)]) (by kernel_rfl) (List.forall_mem_cons.2 ⟨loop81_0 _ w0 mu hs, (List.forall_mem_nil _)⟩))) t81_eq

/-! ### f82: laws.toToken -/
noncomputable def code82 : Code := match Try.f82.body with | some c => c | none => .skip
def ps82 : List AP := [.val true [.int .i64, .int .i64, .int .i64, .int .i64, .int .i64, .shr T_i]]
def rs82 : List RP := [{ src := .cell 2, agg := true, ps := [.int .i64, .int .i64, .int .i64, .int .i64, .int .i64, .own T_i] }]
noncomputable def sl82 : SemL := [(39, (.shr, .shr, .shr, sem39))]
def D82 : Draws := fun _ => .nil
noncomputable def L82 {R : Type} : Loops R := fun _ _ _ _ => none
noncomputable def laws_toToken (a0c0 : Int) (a0c1 : Int) (a0c2 : Int) (a0c3 : Int) (a0c4 : Int) (a0c5 : List (Int × Unit)) : Option (Int × Int × Int × Int × Int × (List (Int × Unit)) × Unit) :=
  Option.bind (laws_toIntS a0c5) fun y1 =>
  some (a0c0, a0c1, a0c2, a0c3, a0c4, y1.1, ())
noncomputable def x82 (x : Int × Int × Int × Int × Int × (List (Int × Unit)) × Unit) : Option (Int × Int × Int × Int × Int × (List (Int × Unit)) × Unit) := laws_toToken x.1 x.2.1 x.2.2.1 x.2.2.2.1 x.2.2.2.2.1 x.2.2.2.2.2.1
noncomputable def sem82 : Sem1 := semOf ps82 rs82 x82
theorem so82 : SemsOk Try.prog (semsOf sl82) := sems_cons k39 (sems_nil)
theorem t82_eq (x : denR (headRT (ps82.map some))) : codeK (tabOf tr) (semsOf sl82) D82 L82 code82 (start 24 ps82 x) (finK rs82 ps82) = x82 x := by kernel_rfl
theorem k82 : Known Try.prog 82 sem82 :=
  fn_auto tr_ok eq_ok mixed_ok so82 (D := D82) (code := code82) (n := 24) Try.func82 (by kernel_rfl) (by kernel_rfl) (by kernel_rfl) (fun w0 mu _ hs => (loops_of (l := []) (by kernel_rfl) (List.forall_mem_nil _))) t82_eq

/-! ### f48: laws.toMate -/
noncomputable def code48 : Code := match Try.f48.body with | some c => c | none => .skip
def ps48 : List AP := [.val true [.int .i64, .int .i64, .shr T_i, .shr T_iiis, .shr T_i, .shr T_s, .int .i64, .int .i64, .int .i64, .int .i64, .int .i64, .int .i64, .int .i64, .int .i64, .int .i64, .shr T_i]]
def rs48 : List RP := [{ src := .cell 2, agg := true, ps := [.int .i64, .int .i64, .own T_i, .own T_iiis, .own T_i, .own T_s, .int .i64, .int .i64, .int .i64, .int .i64, .int .i64, .int .i64, .int .i64, .int .i64, .int .i64, .own T_i] }]
noncomputable def sl48 : SemL := [(9, (.shr, .shr, .shr, sem9)), (74, (.shr, .shr, .shr, sem74)), (39, (.shr, .shr, .shr, sem39)), (81, (.shr, .shr, .shr, sem81)), (82, (.shr, .shr, .shr, sem82))]
def D48 : Draws := fun _ => .nil
noncomputable def L48 {R : Type} : Loops R := fun _ _ _ _ => none
noncomputable def laws_toMate (a0c0 : Int) (a0c1 : Int) (a0c2 : List (Int × Unit)) (a0c3 : List R_iiis) (a0c4 : List (Int × Unit)) (a0c5 : List (ByteArray × Unit)) (a0c6 : Int) (a0c7 : Int) (a0c8 : Int) (a0c9 : Int) (a0c10 : Int) (a0c11 : Int) (a0c12 : Int) (a0c13 : Int) (a0c14 : Int) (a0c15 : List (Int × Unit)) : Option (Int × Int × (List (Int × Unit)) × (List R_iiis) × (List (Int × Unit)) × (List (ByteArray × Unit)) × Int × Int × Int × Int × Int × Int × Int × Int × Int × (List (Int × Unit)) × Unit) :=
  Option.bind (laws_toRing a0c1 a0c2) fun y1 =>
  Option.bind (laws_toItemS a0c3) fun y2 =>
  Option.bind (laws_toIntS a0c4) fun y3 =>
  Option.bind (laws_toStringS a0c5) fun y4 =>
  Option.bind (laws_toToken a0c10 a0c11 a0c12 a0c13 a0c14 a0c15) fun y5 =>
  some (a0c0, y1.1, y1.2.1, y2.1, y3.1, y4.1, a0c6, a0c7, a0c8, a0c9, y5.1, y5.2.1, y5.2.2.1, y5.2.2.2.1, y5.2.2.2.2.1, y5.2.2.2.2.2.1, ())
noncomputable def x48 (x : Int × Int × (List (Int × Unit)) × (List R_iiis) × (List (Int × Unit)) × (List (ByteArray × Unit)) × Int × Int × Int × Int × Int × Int × Int × Int × Int × (List (Int × Unit)) × Unit) : Option (Int × Int × (List (Int × Unit)) × (List R_iiis) × (List (Int × Unit)) × (List (ByteArray × Unit)) × Int × Int × Int × Int × Int × Int × Int × Int × Int × (List (Int × Unit)) × Unit) := laws_toMate x.1 x.2.1 x.2.2.1 x.2.2.2.1 x.2.2.2.2.1 x.2.2.2.2.2.1 x.2.2.2.2.2.2.1 x.2.2.2.2.2.2.2.1 x.2.2.2.2.2.2.2.2.1 x.2.2.2.2.2.2.2.2.2.1 x.2.2.2.2.2.2.2.2.2.2.1 x.2.2.2.2.2.2.2.2.2.2.2.1 x.2.2.2.2.2.2.2.2.2.2.2.2.1 x.2.2.2.2.2.2.2.2.2.2.2.2.2.1 x.2.2.2.2.2.2.2.2.2.2.2.2.2.2.1 x.2.2.2.2.2.2.2.2.2.2.2.2.2.2.2.1
noncomputable def sem48 : Sem1 := semOf ps48 rs48 x48
theorem so48 : SemsOk Try.prog (semsOf sl48) := sems_cons k9 (sems_cons k74 (sems_cons k39 (sems_cons k81 (sems_cons k82 (sems_nil)))))
theorem t48_eq (x : denR (headRT (ps48.map some))) : codeK (tabOf tr) (semsOf sl48) D48 L48 code48 (start 40 ps48 x) (finK rs48 ps48) = x48 x := by kernel_rfl
theorem k48 : Known Try.prog 48 sem48 :=
  fn_auto tr_ok eq_ok mixed_ok so48 (D := D48) (code := code48) (n := 40) Try.func48 (by kernel_rfl) (by kernel_rfl) (by kernel_rfl) (fun w0 mu _ hs => (loops_of (l := []) (by kernel_rfl) (List.forall_mem_nil _))) t48_eq

/-! ### f83: laws.toEvent -/
noncomputable def code83 : Code := match Try.f83.body with | some c => c | none => .skip
def ps83 : List AP := [.val true [.int .i64, .int .i64, .shr T_i, .int .i64, .int .i64, .int .i64, .str, .shr T_i]]
def rs83 : List RP := [{ src := .cell 2, agg := true, ps := [.int .i64, .int .i64, .own T_i, .int .i64, .int .i64, .int .i64, .str, .own T_i] }]
noncomputable def sl83 : SemL := [(9, (.shr, .shr, .shr, sem9)), (98, (.shr, .shr, .shr, sem98)), (39, (.shr, .shr, .shr, sem39))]
def D83 : Draws := fun _ => .nil
noncomputable def L83 {R : Type} : Loops R := fun _ _ _ _ => none
noncomputable def laws_toEvent (a0c0 : Int) (a0c1 : Int) (a0c2 : List (Int × Unit)) (a0c3 : Int) (a0c4 : Int) (a0c5 : Int) (a0c6 : ByteArray) (a0c7 : List (Int × Unit)) : Option (Int × Int × (List (Int × Unit)) × Int × Int × Int × ByteArray × (List (Int × Unit)) × Unit) :=
  Option.bind (laws_toRing a0c1 a0c2) fun y1 =>
  Option.bind (laws_toItem a0c3 a0c4 a0c5 a0c6) fun y2 =>
  Option.bind (laws_toIntS a0c7) fun y3 =>
  some (a0c0, y1.1, y1.2.1, y2.1, y2.2.1, y2.2.2.1, y2.2.2.2.1, y3.1, ())
noncomputable def x83 (x : Int × Int × (List (Int × Unit)) × Int × Int × Int × ByteArray × (List (Int × Unit)) × Unit) : Option (Int × Int × (List (Int × Unit)) × Int × Int × Int × ByteArray × (List (Int × Unit)) × Unit) := laws_toEvent x.1 x.2.1 x.2.2.1 x.2.2.2.1 x.2.2.2.2.1 x.2.2.2.2.2.1 x.2.2.2.2.2.2.1 x.2.2.2.2.2.2.2.1
noncomputable def sem83 : Sem1 := semOf ps83 rs83 x83
theorem so83 : SemsOk Try.prog (semsOf sl83) := sems_cons k9 (sems_cons k98 (sems_cons k39 (sems_nil)))
theorem t83_eq (x : denR (headRT (ps83.map some))) : codeK (tabOf tr) (semsOf sl83) D83 L83 code83 (start 20 ps83 x) (finK rs83 ps83) = x83 x := by kernel_rfl
theorem k83 : Known Try.prog 83 sem83 :=
  fn_auto tr_ok eq_ok mixed_ok so83 (D := D83) (code := code83) (n := 20) Try.func83 (by kernel_rfl) (by kernel_rfl) (by kernel_rfl) (fun w0 mu _ hs => (loops_of (l := []) (by kernel_rfl) (List.forall_mem_nil _))) t83_eq

/-! ### f49: laws.toEventS -/
noncomputable def code49 : Code := match Try.f49.body with | some c => c | none => .skip
def ps49 : List AP := [.val false [.shr T_iiLiEiiisLiE]]
def rs49 : List RP := [{ src := .tmp 2, agg := false, ps := [.own T_iiLiEiiisLiE .dp] }]
noncomputable def sl49 : SemL := [(83, (.shr, .shr, .shr, sem83))]
def D49 : Draws := fun _ => .nil
def hp49_0 : List (Option AP) := [some (.val false [.shr T_iiLiEiiisLiE]), none, none, some (.val false [.own T_iiLiEiiisLiE .dp]), some (.val false [.int .i64]), none, none, none, none, none, none, none, none, none, none, none, none, none, none, none, none, none, none, none]
def e49_0 : List (Option AP) := [none, none, none, some (.val false [.own T_iiLiEiiisLiE .dp]), none, none, none, none, none, none, none, none, none, none, none, none, none, none, none, none, none, none, none, none]
def q49_0 : List (Option AP) := [none, none, none, none, none, none, none, none, none, none, none, none, none, none, none, none, none, none, none, none, none, none, none, none]
abbrev H49_0 : Type := (List R_iiLiEiiisLiE) × (List R_iiLiEiiisLiE) × Int × Unit
abbrev E49_0 : Type := (List R_iiLiEiiisLiE) × Unit
abbrev Q49_0 : Type := Unit
noncomputable def laws_toEventS_c0 (a0 : List R_iiLiEiiisLiE) (out3 : List R_iiLiEiiisLiE) (i4 : Int) : Option (Sum H49_0 (Sum E49_0 Q49_0)) :=
  bif decide (i4 < ((List.length a0 : Nat) : Int)) then
    bif decide ((0 : Int) ≤ i4) then Option.bind ((a0)[Int.toNat i4]?) fun r1 =>
      Option.bind (laws_toEvent r1.1 r1.2.1 r1.2.2.1 r1.2.2.2.1 r1.2.2.2.2.1 r1.2.2.2.2.2.1 r1.2.2.2.2.2.2.1 r1.2.2.2.2.2.2.2.1) fun y2 =>
      bif decide ((0 : Int) ≤ i4) then bif Nat.blt (Int.toNat i4) (List.length out3) then Option.bind ((out3)[Int.toNat i4]?) fun _ =>
          some (.inl (a0, List.set out3 (Int.toNat i4) (y2.1, y2.2.1, y2.2.2.1, y2.2.2.2.1, y2.2.2.2.2.1, y2.2.2.2.2.2.1, y2.2.2.2.2.2.2.1, y2.2.2.2.2.2.2.2.1, ()), IntKind.i64.wrap (i4 + (1 : Int)), ()))
        else none
      else none
    else none
  else
    some (.inr (.inl (out3, ())))
noncomputable def laws_toEventS_r0 (x : H49_0) : Option (Sum H49_0 (Sum E49_0 Q49_0)) := laws_toEventS_c0 x.1 x.2.1 x.2.2.1
noncomputable def L49 {R : Type} : Loops R := fun id _ st k => bif Nat.beq id 0 then loopAt hp49_0 e49_0 q49_0 laws_toEventS_r0 st k else none
noncomputable def laws_toEventS (a0 : List R_iiLiEiiisLiE) : Option ((List R_iiLiEiiisLiE) × Unit) :=
  bif decide (((List.length a0 : Nat) : Int) = ((List.length a0 : Nat) : Int)) then bif decide ((0 : Int) ≤ ((List.length a0 : Nat) : Int)) then bif Nat.ble ((Int.toNat ((List.length a0 : Nat) : Int)) * 104) lim then outK (loopV laws_toEventS_r0 (a0, List.replicate (Int.toNat ((List.length a0 : Nat) : Int)) ((0 : Int), (0 : Int), [], (0 : Int), (0 : Int), (0 : Int), ByteArray.empty, [], ()), (0 : Int), ())) (fun y1 =>
          some (y1.1, ())) (fun y2 =>
          none)
      else none
    else none
  else none
noncomputable def x49 (x : (List R_iiLiEiiisLiE) × Unit) : Option ((List R_iiLiEiiisLiE) × Unit) := laws_toEventS x.1
noncomputable def sem49 : Sem1 := semOf ps49 rs49 x49
theorem so49 : SemsOk Try.prog (semsOf sl49) := sems_cons k83 (sems_nil)
noncomputable def b49_0 : Code := nthLoop code49 0
theorem t49_r0_eq (x : denR (headRT hp49_0)) : codeK (tabOf tr) (semsOf sl49) D49 L49 b49_0 (headSt hp49_0 x) (roundK 0 hp49_0 e49_0 q49_0) = laws_toEventS_r0 x := by kernel_rfl
theorem loop49_0 {R : Type} (r : R) (w0 : World) (mu : Mu) (hs : AnShape ps49 mu) : LoopAt Try.prog w0 mu 23 (L49 : Loops R) r 0 b49_0 :=
  loop_auto tr_ok eq_ok mixed_ok so49 (D := D49) hs (by kernel_rfl) (fun _ => (loops_of (l := []) (by kernel_rfl) (List.forall_mem_nil _))) t49_r0_eq (fun _ _ => rfl)
theorem t49_eq (x : denR (headRT (ps49.map some))) : codeK (tabOf tr) (semsOf sl49) D49 L49 code49 (start 23 ps49 x) (finK rs49 ps49) = x49 x := by kernel_rfl
theorem k49 : Known Try.prog 49 sem49 :=
  fn_auto tr_ok eq_ok mixed_ok so49 (D := D49) (code := code49) (n := 23) Try.func49 (by kernel_rfl) (by kernel_rfl) (by kernel_rfl) (fun w0 mu _ hs => (loops_of (l := [(0, b49_0)]) (by kernel_rfl) (List.forall_mem_cons.2 ⟨loop49_0 _ w0 mu hs, (List.forall_mem_nil _)⟩))) t49_eq

/-! ### f21: laws.toDaemon -/
noncomputable def code21 : Code := match Try.f21.body with | some c => c | none => .skip
def ps21 : List AP := [.val true [.int .i64, .bool, .int .i64, .int .i64, .shr T_i, .shr T_iiis, .shr T_i, .shr T_s, .int .i64, .int .i64, .int .i64, .int .i64, .int .i64, .int .i64, .int .i64, .int .i64, .int .i64, .shr T_i, .int .i64, .int .i64, .int .i64, .shr T_i, .shr T_iiiLiiisE, .shr T_iiLiEiiisLiE]]
def rs21 : List RP := [{ src := .cell 2, agg := true, ps := [.int .i64, .bool, .int .i64, .int .i64, .own T_i, .own T_iiis, .own T_i, .own T_s, .int .i64, .int .i64, .int .i64, .int .i64, .int .i64, .int .i64, .int .i64, .int .i64, .int .i64, .own T_i, .int .i64, .int .i64, .int .i64, .own T_i, .own T_iiiLiiisE .dp, .own T_iiLiEiiisLiE .dp] }]
noncomputable def sl21 : SemL := [(48, (.shr, .shr, .shr, sem48)), (9, (.shr, .shr, .shr, sem9)), (10, (.shr, .shr, .shr, sem10)), (49, (.shr, .shr, .shr, sem49))]
def D21 : Draws := fun _ => .nil
noncomputable def L21 {R : Type} : Loops R := fun _ _ _ _ => none
noncomputable def laws_toDaemon (a0c0 : Int) (a0c1 : Bool) (a0c2 : Int) (a0c3 : Int) (a0c4 : List (Int × Unit)) (a0c5 : List R_iiis) (a0c6 : List (Int × Unit)) (a0c7 : List (ByteArray × Unit)) (a0c8 : Int) (a0c9 : Int) (a0c10 : Int) (a0c11 : Int) (a0c12 : Int) (a0c13 : Int) (a0c14 : Int) (a0c15 : Int) (a0c16 : Int) (a0c17 : List (Int × Unit)) (a0c18 : Int) (a0c19 : Int) (a0c20 : Int) (a0c21 : List (Int × Unit)) (a0c22 : List R_iiiLiiisE) (a0c23 : List R_iiLiEiiisLiE) : Option (Int × Bool × Int × Int × (List (Int × Unit)) × (List R_iiis) × (List (Int × Unit)) × (List (ByteArray × Unit)) × Int × Int × Int × Int × Int × Int × Int × Int × Int × (List (Int × Unit)) × Int × Int × Int × (List (Int × Unit)) × (List R_iiiLiiisE) × (List R_iiLiEiiisLiE) × Unit) :=
  Option.bind (laws_toMate a0c2 a0c3 a0c4 a0c5 a0c6 a0c7 a0c8 a0c9 a0c10 a0c11 a0c12 a0c13 a0c14 a0c15 a0c16 a0c17) fun y1 =>
  Option.bind (laws_toRing a0c20 a0c21) fun y2 =>
  Option.bind (laws_toBundleS a0c22) fun y3 =>
  Option.bind (laws_toEventS a0c23) fun y4 =>
  some (a0c0, a0c1, y1.1, y1.2.1, y1.2.2.1, y1.2.2.2.1, y1.2.2.2.2.1, y1.2.2.2.2.2.1, y1.2.2.2.2.2.2.1, y1.2.2.2.2.2.2.2.1, y1.2.2.2.2.2.2.2.2.1, y1.2.2.2.2.2.2.2.2.2.1, y1.2.2.2.2.2.2.2.2.2.2.1, y1.2.2.2.2.2.2.2.2.2.2.2.1, y1.2.2.2.2.2.2.2.2.2.2.2.2.1, y1.2.2.2.2.2.2.2.2.2.2.2.2.2.1, y1.2.2.2.2.2.2.2.2.2.2.2.2.2.2.1, y1.2.2.2.2.2.2.2.2.2.2.2.2.2.2.2.1, a0c18, a0c19, y2.1, y2.2.1, y3.1, y4.1, ())
noncomputable def x21 (x : Int × Bool × Int × Int × (List (Int × Unit)) × (List R_iiis) × (List (Int × Unit)) × (List (ByteArray × Unit)) × Int × Int × Int × Int × Int × Int × Int × Int × Int × (List (Int × Unit)) × Int × Int × Int × (List (Int × Unit)) × (List R_iiiLiiisE) × (List R_iiLiEiiisLiE) × Unit) : Option (Int × Bool × Int × Int × (List (Int × Unit)) × (List R_iiis) × (List (Int × Unit)) × (List (ByteArray × Unit)) × Int × Int × Int × Int × Int × Int × Int × Int × Int × (List (Int × Unit)) × Int × Int × Int × (List (Int × Unit)) × (List R_iiiLiiisE) × (List R_iiLiEiiisLiE) × Unit) := laws_toDaemon x.1 x.2.1 x.2.2.1 x.2.2.2.1 x.2.2.2.2.1 x.2.2.2.2.2.1 x.2.2.2.2.2.2.1 x.2.2.2.2.2.2.2.1 x.2.2.2.2.2.2.2.2.1 x.2.2.2.2.2.2.2.2.2.1 x.2.2.2.2.2.2.2.2.2.2.1 x.2.2.2.2.2.2.2.2.2.2.2.1 x.2.2.2.2.2.2.2.2.2.2.2.2.1 x.2.2.2.2.2.2.2.2.2.2.2.2.2.1 x.2.2.2.2.2.2.2.2.2.2.2.2.2.2.1 x.2.2.2.2.2.2.2.2.2.2.2.2.2.2.2.1 x.2.2.2.2.2.2.2.2.2.2.2.2.2.2.2.2.1 x.2.2.2.2.2.2.2.2.2.2.2.2.2.2.2.2.2.1 x.2.2.2.2.2.2.2.2.2.2.2.2.2.2.2.2.2.2.1 x.2.2.2.2.2.2.2.2.2.2.2.2.2.2.2.2.2.2.2.1 x.2.2.2.2.2.2.2.2.2.2.2.2.2.2.2.2.2.2.2.2.1 x.2.2.2.2.2.2.2.2.2.2.2.2.2.2.2.2.2.2.2.2.2.1 x.2.2.2.2.2.2.2.2.2.2.2.2.2.2.2.2.2.2.2.2.2.2.1 x.2.2.2.2.2.2.2.2.2.2.2.2.2.2.2.2.2.2.2.2.2.2.2.1
noncomputable def sem21 : Sem1 := semOf ps21 rs21 x21
theorem so21 : SemsOk Try.prog (semsOf sl21) := sems_cons k48 (sems_cons k9 (sems_cons k10 (sems_cons k49 (sems_nil))))
theorem t21_eq (x : denR (headRT (ps21.map some))) : codeK (tabOf tr) (semsOf sl21) D21 L21 code21 (start 33 ps21 x) (finK rs21 ps21) = x21 x := by kernel_rfl
theorem k21 : Known Try.prog 21 sem21 :=
  fn_auto tr_ok eq_ok mixed_ok so21 (D := D21) (code := code21) (n := 33) Try.func21 (by kernel_rfl) (by kernel_rfl) (by kernel_rfl) (fun w0 mu _ hs => (loops_of (l := []) (by kernel_rfl) (List.forall_mem_nil _))) t21_eq

/-! ### f47: spec.l14CopyEvents -/
noncomputable def code47 : Code := match Try.f47.body with | some c => c | none => .skip
def ps47 : List AP := [.val false [.shr T_iiLiEiiisLiE]]
def rs47 : List RP := [{ src := .tmp 2, agg := false, ps := [.own T_iiLiEiiisLiE .dp] }]
noncomputable def sl47 : SemL := []
def D47 : Draws := fun _ => .nil
def hp47_0 : List (Option AP) := [some (.val false [.shr T_iiLiEiiisLiE]), none, none, some (.val false [.own T_iiLiEiiisLiE .dp]), some (.val false [.int .i64]), none, none, none, none, none, none, none, none, none, none, none, none, none, none, none, none, none, none, none, none, none, none, none, none, none, none, none, none, none, none]
def e47_0 : List (Option AP) := [none, none, none, some (.val false [.own T_iiLiEiiisLiE .dp]), none, none, none, none, none, none, none, none, none, none, none, none, none, none, none, none, none, none, none, none, none, none, none, none, none, none, none, none, none, none, none]
def q47_0 : List (Option AP) := [none, none, none, none, none, none, none, none, none, none, none, none, none, none, none, none, none, none, none, none, none, none, none, none, none, none, none, none, none, none, none, none, none, none, none]
abbrev H47_0 : Type := (List R_iiLiEiiisLiE) × (List R_iiLiEiiisLiE) × Int × Unit
abbrev E47_0 : Type := (List R_iiLiEiiisLiE) × Unit
abbrev Q47_0 : Type := Unit
noncomputable def spec_l14CopyEvents_c0 (list0 : List R_iiLiEiiisLiE) (out3 : List R_iiLiEiiisLiE) (i4 : Int) : Option (Sum H47_0 (Sum E47_0 Q47_0)) :=
  bif decide (i4 < ((List.length list0 : Nat) : Int)) then
    bif decide ((0 : Int) ≤ i4) then Option.bind ((list0)[Int.toNat i4]?) fun r1 =>
      bif Nat.ble ((0 + (List.length r1.2.2.1)) * 8) lim then bif Nat.ble ((0 + (List.length r1.2.2.2.2.2.2.2.1)) * 8) lim then bif Nat.ble (((List.length out3) + 1) * 104) lim then some (.inl (list0, out3 ++ ([(r1.1, r1.2.1, [] ++ r1.2.2.1, r1.2.2.2.1, r1.2.2.2.2.1, r1.2.2.2.2.2.1, r1.2.2.2.2.2.2.1, [] ++ r1.2.2.2.2.2.2.2.1, ())]), IntKind.i64.wrap (i4 + (1 : Int)), ()))
          else none
        else none
      else none
    else none
  else
    some (.inr (.inl (out3, ())))
noncomputable def spec_l14CopyEvents_r0 (x : H47_0) : Option (Sum H47_0 (Sum E47_0 Q47_0)) := spec_l14CopyEvents_c0 x.1 x.2.1 x.2.2.1
noncomputable def L47 {R : Type} : Loops R := fun id _ st k => bif Nat.beq id 0 then loopAt hp47_0 e47_0 q47_0 spec_l14CopyEvents_r0 st k else none
noncomputable def spec_l14CopyEvents (list0 : List R_iiLiEiiisLiE) : Option ((List R_iiLiEiiisLiE) × Unit) :=
  outK (loopV spec_l14CopyEvents_r0 (list0, [], (0 : Int), ())) (fun y1 =>
    some (y1.1, ())) (fun y2 =>
    none)
noncomputable def x47 (x : (List R_iiLiEiiisLiE) × Unit) : Option ((List R_iiLiEiiisLiE) × Unit) := spec_l14CopyEvents x.1
noncomputable def sem47 : Sem1 := semOf ps47 rs47 x47
theorem so47 : SemsOk Try.prog (semsOf sl47) := sems_nil
noncomputable def b47_0 : Code := nthLoop code47 0
theorem t47_r0_eq (x : denR (headRT hp47_0)) : codeK (tabOf tr) (semsOf sl47) D47 L47 b47_0 (headSt hp47_0 x) (roundK 0 hp47_0 e47_0 q47_0) = spec_l14CopyEvents_r0 x := by kernel_rfl
theorem loop47_0 {R : Type} (r : R) (w0 : World) (mu : Mu) (hs : AnShape ps47 mu) : LoopAt Try.prog w0 mu 34 (L47 : Loops R) r 0 b47_0 :=
  loop_auto tr_ok eq_ok mixed_ok so47 (D := D47) hs (by kernel_rfl) (fun _ => (loops_of (l := []) (by kernel_rfl) (List.forall_mem_nil _))) t47_r0_eq (fun _ _ => rfl)
theorem t47_eq (x : denR (headRT (ps47.map some))) : codeK (tabOf tr) (semsOf sl47) D47 L47 code47 (start 34 ps47 x) (finK rs47 ps47) = x47 x := by kernel_rfl
theorem k47 : Known Try.prog 47 sem47 :=
  fn_auto tr_ok eq_ok mixed_ok so47 (D := D47) (code := code47) (n := 34) Try.func47 (by kernel_rfl) (by kernel_rfl) (by kernel_rfl) (fun w0 mu _ hs => (loops_of (l := [(0, b47_0)]) (by kernel_rfl) (List.forall_mem_cons.2 ⟨loop47_0 _ w0 mu hs, (List.forall_mem_nil _)⟩))) t47_eq

/-! ### f20: spec.Crash -/
noncomputable def code20 : Code := match Try.f20.body with | some c => c | none => .skip
def ps20 : List AP := [.val true [.int .i64, .bool, .int .i64, .int .i64, .shr T_i, .shr T_iiis, .shr T_i, .shr T_s, .int .i64, .int .i64, .int .i64, .int .i64, .int .i64, .int .i64, .int .i64, .int .i64, .int .i64, .shr T_i, .int .i64, .int .i64, .int .i64, .shr T_i, .shr T_iiiLiiisE, .shr T_iiLiEiiisLiE]]
def rs20 : List RP := [{ src := .cell 2, agg := true, ps := [.int .i64, .bool, .int .i64, .int .i64, .own T_i, .own T_iiis, .own T_i, .own T_s, .int .i64, .int .i64, .int .i64, .int .i64, .int .i64, .int .i64, .int .i64, .int .i64, .int .i64, .own T_i, .int .i64, .int .i64, .int .i64, .own T_i, .own T_iiiLiiisE .dp, .own T_iiLiEiiisLiE .dp] }]
noncomputable def sl20 : SemL := [(47, (.shr, .shr, .shr, sem47))]
def D20 : Draws := fun id => bif Nat.beq id 1 then .op 0 .any (.op 1 .take (.op 2 .any (.op 3 .take (.op 4 .any (.op 5 .take (.op 6 .one (.op 7 .any (.op 8 .last (.nil))))))))) else .nil
noncomputable def L20 {R : Type} : Loops R := fun _ _ _ _ => none
noncomputable def spec_Crash (d0c0 : Int) (d0c1 : Bool) (d0c2 : Int) (d0c3 : Int) (d0c4 : List (Int × Unit)) (d0c5 : List R_iiis) (d0c6 : List (Int × Unit)) (d0c7 : List (ByteArray × Unit)) (d0c8 : Int) (d0c9 : Int) (d0c10 : Int) (d0c11 : Int) (d0c12 : Int) (d0c13 : Int) (d0c14 : Int) (d0c15 : Int) (d0c16 : Int) (d0c17 : List (Int × Unit)) (d0c18 : Int) (d0c19 : Int) (d0c20 : Int) (d0c21 : List (Int × Unit)) (d0c22 : List R_iiiLiiisE) (d0c23 : List R_iiLiEiiisLiE) : Option (Int × Bool × Int × Int × (List (Int × Unit)) × (List R_iiis) × (List (Int × Unit)) × (List (ByteArray × Unit)) × Int × Int × Int × Int × Int × Int × Int × Int × Int × (List (Int × Unit)) × Int × Int × Int × (List (Int × Unit)) × (List R_iiiLiiisE) × (List R_iiLiEiiisLiE) × Unit) :=
  Option.bind (spec_l14CopyEvents d0c23) fun y1 =>
  some (d0c0, true, (0 : Int), (0 : Int), [], [], [], [], (0 : Int), (0 : Int), (0 : Int), (0 : Int), (0 : Int), (0 : Int), (0 : Int), (0 : Int), (0 : Int), [], d0c18, (0 : Int), (0 : Int), [], [], y1.1, ())
noncomputable def x20 (x : Int × Bool × Int × Int × (List (Int × Unit)) × (List R_iiis) × (List (Int × Unit)) × (List (ByteArray × Unit)) × Int × Int × Int × Int × Int × Int × Int × Int × Int × (List (Int × Unit)) × Int × Int × Int × (List (Int × Unit)) × (List R_iiiLiiisE) × (List R_iiLiEiiisLiE) × Unit) : Option (Int × Bool × Int × Int × (List (Int × Unit)) × (List R_iiis) × (List (Int × Unit)) × (List (ByteArray × Unit)) × Int × Int × Int × Int × Int × Int × Int × Int × Int × (List (Int × Unit)) × Int × Int × Int × (List (Int × Unit)) × (List R_iiiLiiisE) × (List R_iiLiEiiisLiE) × Unit) := spec_Crash x.1 x.2.1 x.2.2.1 x.2.2.2.1 x.2.2.2.2.1 x.2.2.2.2.2.1 x.2.2.2.2.2.2.1 x.2.2.2.2.2.2.2.1 x.2.2.2.2.2.2.2.2.1 x.2.2.2.2.2.2.2.2.2.1 x.2.2.2.2.2.2.2.2.2.2.1 x.2.2.2.2.2.2.2.2.2.2.2.1 x.2.2.2.2.2.2.2.2.2.2.2.2.1 x.2.2.2.2.2.2.2.2.2.2.2.2.2.1 x.2.2.2.2.2.2.2.2.2.2.2.2.2.2.1 x.2.2.2.2.2.2.2.2.2.2.2.2.2.2.2.1 x.2.2.2.2.2.2.2.2.2.2.2.2.2.2.2.2.1 x.2.2.2.2.2.2.2.2.2.2.2.2.2.2.2.2.2.1 x.2.2.2.2.2.2.2.2.2.2.2.2.2.2.2.2.2.2.1 x.2.2.2.2.2.2.2.2.2.2.2.2.2.2.2.2.2.2.2.1 x.2.2.2.2.2.2.2.2.2.2.2.2.2.2.2.2.2.2.2.2.1 x.2.2.2.2.2.2.2.2.2.2.2.2.2.2.2.2.2.2.2.2.2.1 x.2.2.2.2.2.2.2.2.2.2.2.2.2.2.2.2.2.2.2.2.2.2.1 x.2.2.2.2.2.2.2.2.2.2.2.2.2.2.2.2.2.2.2.2.2.2.2.1
noncomputable def sem20 : Sem1 := semOf ps20 rs20 x20
theorem so20 : SemsOk Try.prog (semsOf sl20) := sems_cons k47 (sems_nil)
theorem t20_eq (x : denR (headRT (ps20.map some))) : codeK (tabOf tr) (semsOf sl20) D20 L20 code20 (start 11 ps20 x) (finK rs20 ps20) = x20 x := by kernel_rfl
theorem k20 : Known Try.prog 20 sem20 :=
  fn_auto tr_ok eq_ok mixed_ok so20 (D := D20) (code := code20) (n := 11) Try.func20 (by kernel_rfl) (by kernel_rfl) (by kernel_rfl) (fun w0 mu _ hs => (loops_of (l := []) (by kernel_rfl) (List.forall_mem_nil _))) t20_eq

/-! ### f102: slices.Clone[[]int,int] -/
noncomputable def code102 : Code := match Try.f102.body with | some c => c | none => .skip
def ps102 : List AP := [.val false [.shr T_i]]
def rs102 : List RP := [{ src := .tmp 2, agg := false, ps := [.own T_i] }]
noncomputable def sl102 : SemL := []
def D102 : Draws := fun _ => .nil
noncomputable def L102 {R : Type} : Loops R := fun _ _ _ _ => none
noncomputable def slices_Clone_int (s0 : List (Int × Unit)) : Option ((List (Int × Unit)) × Unit) :=
  bif Nat.ble ((0 + (List.length s0)) * 8) lim then some ([] ++ s0, ())
  else none
noncomputable def x102 (x : (List (Int × Unit)) × Unit) : Option ((List (Int × Unit)) × Unit) := slices_Clone_int x.1
noncomputable def sem102 : Sem1 := semOf ps102 rs102 x102
theorem so102 : SemsOk Try.prog (semsOf sl102) := sems_nil
theorem t102_nn (x : denR (headRT (ps102.map some))) : codeK (tabOf tr) (semsOf sl102) D102 L102 code102 (startNn 8 (T_i) x.1 ps102 x) (finK rs102 ps102) = x102 x := by kernel_rfl
theorem t102_nil (z : Unit) : codeK (tabOf tr) (semsOf sl102) D102 L102 code102 (startNil 8 ps102 (([] : List (denR (T_i))), z)) (finK rs102 ps102) = x102 (([] : List (denR (T_i))), z) := by kernel_rfl
theorem k102 : Known Try.prog 102 sem102 :=
  fn_auto_nil tr_ok eq_ok mixed_ok so102 (D := D102) (code := code102) (n := 8) Try.func102 (by kernel_rfl) (by kernel_rfl) (by kernel_rfl) (fun w0 mu _ hs => (loops_of (l := []) (by kernel_rfl) (List.forall_mem_nil _))) t102_nil t102_nn

/-! ### f101: impl.copyRing -/
noncomputable def code101 : Code := match Try.f101.body with | some c => c | none => .skip
def ps101 : List AP := [.val true [.int .i64, .shr T_i]]
def rs101 : List RP := [{ src := .cell 2, agg := true, ps := [.int .i64, .own T_i] }]
noncomputable def sl101 : SemL := [(102, (.shr, .shr, .shr, sem102))]
def D101 : Draws := fun id => bif Nat.beq id 1 then .op 0 .any (.op 1 .take (.op 2 .any (.op 3 .take (.op 4 .one (.op 5 .any (.op 6 .last (.nil))))))) else .nil
noncomputable def L101 {R : Type} : Loops R := fun _ _ _ _ => none
noncomputable def impl_copyRing (r0c0 : Int) (r0c1 : List (Int × Unit)) : Option (Int × (List (Int × Unit)) × Unit) :=
  Option.bind (slices_Clone_int r0c1) fun y1 =>
  some (r0c0, y1.1, ())
noncomputable def x101 (x : Int × (List (Int × Unit)) × Unit) : Option (Int × (List (Int × Unit)) × Unit) := impl_copyRing x.1 x.2.1
noncomputable def sem101 : Sem1 := semOf ps101 rs101 x101
theorem so101 : SemsOk Try.prog (semsOf sl101) := sems_cons k102 (sems_nil)
theorem t101_eq (x : denR (headRT (ps101.map some))) : codeK (tabOf tr) (semsOf sl101) D101 L101 code101 (start 9 ps101 x) (finK rs101 ps101) = x101 x := by kernel_rfl
theorem k101 : Known Try.prog 101 sem101 :=
  fn_auto tr_ok eq_ok mixed_ok so101 (D := D101) (code := code101) (n := 9) Try.func101 (by kernel_rfl) (by kernel_rfl) (by kernel_rfl) (fun w0 mu _ hs => (loops_of (l := []) (by kernel_rfl) (List.forall_mem_nil _))) t101_eq

/-! ### f84: impl.copyEvent -/
noncomputable def code84 : Code := match Try.f84.body with | some c => c | none => .skip
def ps84 : List AP := [.val true [.int .i64, .int .i64, .shr T_i, .int .i64, .int .i64, .int .i64, .str, .shr T_i]]
def rs84 : List RP := [{ src := .cell 2, agg := true, ps := [.int .i64, .int .i64, .own T_i, .int .i64, .int .i64, .int .i64, .str, .own T_i] }]
noncomputable def sl84 : SemL := [(101, (.shr, .shr, .shr, sem101)), (102, (.shr, .shr, .shr, sem102))]
def D84 : Draws := fun _ => .nil
noncomputable def L84 {R : Type} : Loops R := fun _ _ _ _ => none
noncomputable def impl_copyEvent (e0c0 : Int) (e0c1 : Int) (e0c2 : List (Int × Unit)) (e0c3 : Int) (e0c4 : Int) (e0c5 : Int) (e0c6 : ByteArray) (e0c7 : List (Int × Unit)) : Option (Int × Int × (List (Int × Unit)) × Int × Int × Int × ByteArray × (List (Int × Unit)) × Unit) :=
  Option.bind (impl_copyRing e0c1 e0c2) fun y1 =>
  Option.bind (slices_Clone_int e0c7) fun y2 =>
  some (e0c0, y1.1, y1.2.1, e0c3, e0c4, e0c5, e0c6, y2.1, ())
noncomputable def x84 (x : Int × Int × (List (Int × Unit)) × Int × Int × Int × ByteArray × (List (Int × Unit)) × Unit) : Option (Int × Int × (List (Int × Unit)) × Int × Int × Int × ByteArray × (List (Int × Unit)) × Unit) := impl_copyEvent x.1 x.2.1 x.2.2.1 x.2.2.2.1 x.2.2.2.2.1 x.2.2.2.2.2.1 x.2.2.2.2.2.2.1 x.2.2.2.2.2.2.2.1
noncomputable def sem84 : Sem1 := semOf ps84 rs84 x84
theorem so84 : SemsOk Try.prog (semsOf sl84) := sems_cons k101 (sems_cons k102 (sems_nil))
theorem t84_eq (x : denR (headRT (ps84.map some))) : codeK (tabOf tr) (semsOf sl84) D84 L84 code84 (start 12 ps84 x) (finK rs84 ps84) = x84 x := by kernel_rfl
theorem k84 : Known Try.prog 84 sem84 :=
  fn_auto tr_ok eq_ok mixed_ok so84 (D := D84) (code := code84) (n := 12) Try.func84 (by kernel_rfl) (by kernel_rfl) (by kernel_rfl) (fun w0 mu _ hs => (loops_of (l := []) (by kernel_rfl) (List.forall_mem_nil _))) t84_eq

/-! ### f50: impl.copyLog -/
noncomputable def code50 : Code := match Try.f50.body with | some c => c | none => .skip
def ps50 : List AP := [.val false [.shr T_iiLiEiiisLiE]]
def rs50 : List RP := [{ src := .tmp 2, agg := false, ps := [.own T_iiLiEiiisLiE .dp] }]
noncomputable def sl50 : SemL := [(84, (.shr, .shr, .shr, sem84))]
def D50 : Draws := fun _ => .nil
def hp50_0 : List (Option AP) := [none, none, none, some (.val false [.own T_iiLiEiiisLiE .dp]), none, none, some (.val false [.shr T_iiLiEiiisLiE]), some (.val false [.int .i64]), some (.val false [.int .i64]), none, none, none, none, none, none, none, none, none, none, none]
def e50_0 : List (Option AP) := [none, none, none, some (.val false [.own T_iiLiEiiisLiE .dp]), none, none, none, none, none, none, none, none, none, none, none, none, none, none, none, none]
def q50_0 : List (Option AP) := [none, none, none, none, none, none, none, none, none, none, none, none, none, none, none, none, none, none, none, none]
abbrev H50_0 : Type := (List R_iiLiEiiisLiE) × (List R_iiLiEiiisLiE) × Int × Int × Unit
abbrev E50_0 : Type := (List R_iiLiEiiisLiE) × Unit
abbrev Q50_0 : Type := Unit
noncomputable def impl_copyLog_c0 (out3 : List R_iiLiEiiisLiE) (t6 : List R_iiLiEiiisLiE) (t7 : Int) (t8 : Int) : Option (Sum H50_0 (Sum E50_0 Q50_0)) :=
  bif decide (t8 < t7) then
    bif decide ((0 : Int) ≤ t8) then Option.bind ((t6)[Int.toNat t8]?) fun r1 =>
      Option.bind (impl_copyEvent r1.1 r1.2.1 r1.2.2.1 r1.2.2.2.1 r1.2.2.2.2.1 r1.2.2.2.2.2.1 r1.2.2.2.2.2.2.1 r1.2.2.2.2.2.2.2.1) fun y2 =>
      bif Nat.ble (((List.length out3) + 1) * 104) lim then some (.inl (out3 ++ [(y2.1, y2.2.1, y2.2.2.1, y2.2.2.2.1, y2.2.2.2.2.1, y2.2.2.2.2.2.1, y2.2.2.2.2.2.2.1, y2.2.2.2.2.2.2.2.1, ())], t6, t7, IntKind.i64.wrap (t8 + (1 : Int)), ()))
      else none
    else none
  else
    some (.inr (.inl (out3, ())))
noncomputable def impl_copyLog_r0 (x : H50_0) : Option (Sum H50_0 (Sum E50_0 Q50_0)) := impl_copyLog_c0 x.1 x.2.1 x.2.2.1 x.2.2.2.1
noncomputable def L50 {R : Type} : Loops R := fun id _ st k => bif Nat.beq id 0 then loopAt hp50_0 e50_0 q50_0 impl_copyLog_r0 st k else none
noncomputable def impl_copyLog (log0 : List R_iiLiEiiisLiE) : Option ((List R_iiLiEiiisLiE) × Unit) :=
  outK (loopV impl_copyLog_r0 ([], log0, ((List.length log0 : Nat) : Int), (0 : Int), ())) (fun y1 =>
    some (y1.1, ())) (fun y2 =>
    none)
noncomputable def x50 (x : (List R_iiLiEiiisLiE) × Unit) : Option ((List R_iiLiEiiisLiE) × Unit) := impl_copyLog x.1
noncomputable def sem50 : Sem1 := semOf ps50 rs50 x50
theorem so50 : SemsOk Try.prog (semsOf sl50) := sems_cons k84 (sems_nil)
noncomputable def b50_0 : Code := nthLoop code50 0
theorem t50_r0_eq (x : denR (headRT hp50_0)) : codeK (tabOf tr) (semsOf sl50) D50 L50 b50_0 (headSt hp50_0 x) (roundK 0 hp50_0 e50_0 q50_0) = impl_copyLog_r0 x := by kernel_rfl
theorem loop50_0 {R : Type} (r : R) (w0 : World) (mu : Mu) (hs : AnShape ps50 mu) : LoopAt Try.prog w0 mu 19 (L50 : Loops R) r 0 b50_0 :=
  loop_auto tr_ok eq_ok mixed_ok so50 (D := D50) hs (by kernel_rfl) (fun _ => (loops_of (l := []) (by kernel_rfl) (List.forall_mem_nil _))) t50_r0_eq (fun _ _ => rfl)
theorem t50_eq (x : denR (headRT (ps50.map some))) : codeK (tabOf tr) (semsOf sl50) D50 L50 code50 (start 19 ps50 x) (finK rs50 ps50) = x50 x := by kernel_rfl
theorem k50 : Known Try.prog 50 sem50 :=
  fn_auto tr_ok eq_ok mixed_ok so50 (D := D50) (code := code50) (n := 19) Try.func50 (by kernel_rfl) (by kernel_rfl) (by kernel_rfl) (fun w0 mu _ hs => (loops_of (l := [(0, b50_0)]) (by kernel_rfl) (List.forall_mem_cons.2 ⟨loop50_0 _ w0 mu hs, (List.forall_mem_nil _)⟩))) t50_eq

/-! ### f22: impl.Crash -/
noncomputable def code22 : Code := match Try.f22.body with | some c => c | none => .skip
def ps22 : List AP := [.val true [.int .i64, .bool, .int .i64, .int .i64, .shr T_i, .shr T_iiis, .shr T_i, .shr T_s, .int .i64, .int .i64, .int .i64, .int .i64, .int .i64, .int .i64, .int .i64, .int .i64, .int .i64, .shr T_i, .int .i64, .int .i64, .int .i64, .shr T_i, .shr T_iiiLiiisE, .shr T_iiLiEiiisLiE]]
def rs22 : List RP := [{ src := .cell 2, agg := true, ps := [.int .i64, .bool, .int .i64, .int .i64, .own T_i, .own T_iiis, .own T_i, .own T_s, .int .i64, .int .i64, .int .i64, .int .i64, .int .i64, .int .i64, .int .i64, .int .i64, .int .i64, .own T_i, .int .i64, .int .i64, .int .i64, .own T_i, .own T_iiiLiiisE .dp, .own T_iiLiEiiisLiE .dp] }]
noncomputable def sl22 : SemL := [(50, (.shr, .shr, .shr, sem50))]
def D22 : Draws := fun id => bif Nat.beq id 1 then .op 0 .any (.op 1 .take (.op 2 .any (.op 3 .take (.op 4 .any (.op 5 .take (.op 6 .one (.op 7 .any (.op 8 .last (.nil))))))))) else .nil
noncomputable def L22 {R : Type} : Loops R := fun _ _ _ _ => none
noncomputable def impl_Crash (d0c0 : Int) (d0c1 : Bool) (d0c2 : Int) (d0c3 : Int) (d0c4 : List (Int × Unit)) (d0c5 : List R_iiis) (d0c6 : List (Int × Unit)) (d0c7 : List (ByteArray × Unit)) (d0c8 : Int) (d0c9 : Int) (d0c10 : Int) (d0c11 : Int) (d0c12 : Int) (d0c13 : Int) (d0c14 : Int) (d0c15 : Int) (d0c16 : Int) (d0c17 : List (Int × Unit)) (d0c18 : Int) (d0c19 : Int) (d0c20 : Int) (d0c21 : List (Int × Unit)) (d0c22 : List R_iiiLiiisE) (d0c23 : List R_iiLiEiiisLiE) : Option (Int × Bool × Int × Int × (List (Int × Unit)) × (List R_iiis) × (List (Int × Unit)) × (List (ByteArray × Unit)) × Int × Int × Int × Int × Int × Int × Int × Int × Int × (List (Int × Unit)) × Int × Int × Int × (List (Int × Unit)) × (List R_iiiLiiisE) × (List R_iiLiEiiisLiE) × Unit) :=
  Option.bind (impl_copyLog d0c23) fun y1 =>
  some (d0c0, true, (0 : Int), (0 : Int), [], [], [], [], (0 : Int), (0 : Int), (0 : Int), (0 : Int), (0 : Int), (0 : Int), (0 : Int), (0 : Int), (0 : Int), [], d0c18, (0 : Int), (0 : Int), [], [], y1.1, ())
noncomputable def x22 (x : Int × Bool × Int × Int × (List (Int × Unit)) × (List R_iiis) × (List (Int × Unit)) × (List (ByteArray × Unit)) × Int × Int × Int × Int × Int × Int × Int × Int × Int × (List (Int × Unit)) × Int × Int × Int × (List (Int × Unit)) × (List R_iiiLiiisE) × (List R_iiLiEiiisLiE) × Unit) : Option (Int × Bool × Int × Int × (List (Int × Unit)) × (List R_iiis) × (List (Int × Unit)) × (List (ByteArray × Unit)) × Int × Int × Int × Int × Int × Int × Int × Int × Int × (List (Int × Unit)) × Int × Int × Int × (List (Int × Unit)) × (List R_iiiLiiisE) × (List R_iiLiEiiisLiE) × Unit) := impl_Crash x.1 x.2.1 x.2.2.1 x.2.2.2.1 x.2.2.2.2.1 x.2.2.2.2.2.1 x.2.2.2.2.2.2.1 x.2.2.2.2.2.2.2.1 x.2.2.2.2.2.2.2.2.1 x.2.2.2.2.2.2.2.2.2.1 x.2.2.2.2.2.2.2.2.2.2.1 x.2.2.2.2.2.2.2.2.2.2.2.1 x.2.2.2.2.2.2.2.2.2.2.2.2.1 x.2.2.2.2.2.2.2.2.2.2.2.2.2.1 x.2.2.2.2.2.2.2.2.2.2.2.2.2.2.1 x.2.2.2.2.2.2.2.2.2.2.2.2.2.2.2.1 x.2.2.2.2.2.2.2.2.2.2.2.2.2.2.2.2.1 x.2.2.2.2.2.2.2.2.2.2.2.2.2.2.2.2.2.1 x.2.2.2.2.2.2.2.2.2.2.2.2.2.2.2.2.2.2.1 x.2.2.2.2.2.2.2.2.2.2.2.2.2.2.2.2.2.2.2.1 x.2.2.2.2.2.2.2.2.2.2.2.2.2.2.2.2.2.2.2.2.1 x.2.2.2.2.2.2.2.2.2.2.2.2.2.2.2.2.2.2.2.2.2.1 x.2.2.2.2.2.2.2.2.2.2.2.2.2.2.2.2.2.2.2.2.2.2.1 x.2.2.2.2.2.2.2.2.2.2.2.2.2.2.2.2.2.2.2.2.2.2.2.1
noncomputable def sem22 : Sem1 := semOf ps22 rs22 x22
theorem so22 : SemsOk Try.prog (semsOf sl22) := sems_cons k50 (sems_nil)
theorem t22_eq (x : denR (headRT (ps22.map some))) : codeK (tabOf tr) (semsOf sl22) D22 L22 code22 (start 11 ps22 x) (finK rs22 ps22) = x22 x := by kernel_rfl
theorem k22 : Known Try.prog 22 sem22 :=
  fn_auto tr_ok eq_ok mixed_ok so22 (D := D22) (code := code22) (n := 11) Try.func22 (by kernel_rfl) (by kernel_rfl) (by kernel_rfl) (fun w0 mu _ hs => (loops_of (l := []) (by kernel_rfl) (List.forall_mem_nil _))) t22_eq

/-! ### f85: laws.eqStringS -/
noncomputable def code85 : Code := match Try.f85.body with | some c => c | none => .skip
def ps85 : List AP := [.val false [.shr T_s], .val false [.shr T_s]]
def rs85 : List RP := [{ src := .tmp 4, agg := false, ps := [.bool] }]
noncomputable def sl85 : SemL := []
def D85 : Draws := fun id => bif Nat.beq id 6 then .op 0 .any (.op 1 .any (.op 2 .any (.op 3 .take (.op 4 .any (.op 5 .any (.op 6 .any (.op 7 .take (.op 8 .any (.nil))))))))) else .nil
def hp85_0 : List (Option AP) := [some (.val false [.shr T_s]), some (.val false [.shr T_s]), none, none, none, some (.val false [.int .i64]), none, none, none, none, none, none, none, none, none, none, none, none, none, none, none, none, none, none, none, none, none]
def e85_0 : List (Option AP) := [none, none, none, none, none, none, none, none, none, none, none, none, none, none, none, none, none, none, none, none, none, none, none, none, none, none, none]
def q85_0 : List (Option AP) := [none, none, none, none, some (.val false [.bool]), none, none, none, none, none, none, none, none, none, none, none, none, none, none, none, none, none, none, none, none, none, none]
abbrev H85_0 : Type := (List (ByteArray × Unit)) × (List (ByteArray × Unit)) × Int × Unit
abbrev E85_0 : Type := Unit
abbrev Q85_0 : Type := Bool × Unit
noncomputable def laws_eqStringS_c0 (a0 : List (ByteArray × Unit)) (b1 : List (ByteArray × Unit)) (i5 : Int) : Option (Sum H85_0 (Sum E85_0 Q85_0)) :=
  bif decide (i5 < ((List.length a0 : Nat) : Int)) then
    bif decide ((0 : Int) ≤ i5) then Option.bind ((a0)[Int.toNat i5]?) fun r1 =>
      bif decide ((0 : Int) ≤ i5) then Option.bind ((b1)[Int.toNat i5]?) fun r2 =>
        bif !strEq r1.1 r2.1 then
          some (.inr (.inr (false, ())))
        else
          some (.inl (a0, b1, IntKind.i64.wrap (i5 + (1 : Int)), ()))
      else none
    else none
  else
    some (.inr (.inl (())))
noncomputable def laws_eqStringS_r0 (x : H85_0) : Option (Sum H85_0 (Sum E85_0 Q85_0)) := laws_eqStringS_c0 x.1 x.2.1 x.2.2.1
noncomputable def L85 {R : Type} : Loops R := fun id _ st k => bif Nat.beq id 0 then loopAt hp85_0 e85_0 q85_0 laws_eqStringS_r0 st k else none
noncomputable def laws_eqStringS (a0 : List (ByteArray × Unit)) (b1 : List (ByteArray × Unit)) : Option (Bool × Unit) :=
  bif !decide (((List.length a0 : Nat) : Int) = ((List.length b1 : Nat) : Int)) then
    some (false, ())
  else
    outK (loopV laws_eqStringS_r0 (a0, b1, (0 : Int), ())) (fun y1 =>
      some (true, ())) (fun y2 =>
      some (y2.1, ()))
noncomputable def x85 (x : (List (ByteArray × Unit)) × (List (ByteArray × Unit)) × Unit) : Option (Bool × Unit) := laws_eqStringS x.1 x.2.1
noncomputable def sem85 : Sem1 := semOf ps85 rs85 x85
theorem so85 : SemsOk Try.prog (semsOf sl85) := sems_nil
noncomputable def b85_0 : Code := nthLoop code85 0
theorem t85_r0_eq (x : denR (headRT hp85_0)) : codeK (tabOf tr) (semsOf sl85) D85 L85 b85_0 (headSt hp85_0 x) (roundK 0 hp85_0 e85_0 q85_0) = laws_eqStringS_r0 x := by kernel_rfl
theorem loop85_0 {R : Type} (r : R) (w0 : World) (mu : Mu) (hs : AnShape ps85 mu) : LoopAt Try.prog w0 mu 26 (L85 : Loops R) r 0 b85_0 :=
  loop_auto tr_ok eq_ok mixed_ok so85 (D := D85) hs (by kernel_rfl) (fun _ => (loops_of (l := []) (by kernel_rfl) (List.forall_mem_nil _))) t85_r0_eq (fun _ _ => rfl)
theorem t85_eq (x : denR (headRT (ps85.map some))) : codeK (tabOf tr) (semsOf sl85) D85 L85 code85 (start 26 ps85 x) (finK rs85 ps85) = x85 x := by kernel_rfl
theorem k85 : Known Try.prog 85 sem85 :=
  fn_auto tr_ok eq_ok mixed_ok so85 (D := D85) (code := code85) (n := 26) Try.func85 (by kernel_rfl) (by kernel_rfl) (by kernel_rfl) (fun w0 mu _ hs => (loops_of (l := [(0, b85_0)]) (by kernel_rfl) (List.forall_mem_cons.2 ⟨loop85_0 _ w0 mu hs, (List.forall_mem_nil _)⟩))) t85_eq

/-! ### f86: laws.eqToken -/
noncomputable def code86 : Code := match Try.f86.body with | some c => c | none => .skip
def ps86 : List AP := [.val true [.int .i64, .int .i64, .int .i64, .int .i64, .int .i64, .shr T_i], .val true [.int .i64, .int .i64, .int .i64, .int .i64, .int .i64, .shr T_i]]
def rs86 : List RP := [{ src := .tmp 4, agg := false, ps := [.bool] }]
noncomputable def sl86 : SemL := [(12, (.shr, .shr, .shr, sem12))]
def D86 : Draws := fun _ => .nil
noncomputable def L86 {R : Type} : Loops R := fun _ _ _ _ => none
noncomputable def laws_eqToken (a0c0 : Int) (a0c1 : Int) (a0c2 : Int) (a0c3 : Int) (a0c4 : Int) (a0c5 : List (Int × Unit)) (b1c0 : Int) (b1c1 : Int) (b1c2 : Int) (b1c3 : Int) (b1c4 : Int) (b1c5 : List (Int × Unit)) : Option (Bool × Unit) :=
  bif !decide (a0c0 = b1c0) then
    some (false, ())
  else bif !decide (a0c1 = b1c1) then
    some (false, ())
  else bif !decide (a0c2 = b1c2) then
    some (false, ())
  else bif !decide (a0c3 = b1c3) then
    some (false, ())
  else bif !decide (a0c4 = b1c4) then
    some (false, ())
  else
    Option.bind (laws_eqIntS a0c5 b1c5) fun y1 =>
    bif !y1.1 then
      some (false, ())
    else
      some (true, ())
noncomputable def x86 (x : Int × Int × Int × Int × Int × (List (Int × Unit)) × Int × Int × Int × Int × Int × (List (Int × Unit)) × Unit) : Option (Bool × Unit) := laws_eqToken x.1 x.2.1 x.2.2.1 x.2.2.2.1 x.2.2.2.2.1 x.2.2.2.2.2.1 x.2.2.2.2.2.2.1 x.2.2.2.2.2.2.2.1 x.2.2.2.2.2.2.2.2.1 x.2.2.2.2.2.2.2.2.2.1 x.2.2.2.2.2.2.2.2.2.2.1 x.2.2.2.2.2.2.2.2.2.2.2.1
noncomputable def sem86 : Sem1 := semOf ps86 rs86 x86
theorem so86 : SemsOk Try.prog (semsOf sl86) := sems_cons k12 (sems_nil)
theorem t86_eq (x : denR (headRT (ps86.map some))) : codeK (tabOf tr) (semsOf sl86) D86 L86 code86 (start 36 ps86 x) (finK rs86 ps86) = x86 x := by kernel_rfl
theorem k86 : Known Try.prog 86 sem86 :=
  fn_auto tr_ok eq_ok mixed_ok so86 (D := D86) (code := code86) (n := 36) Try.func86 (by kernel_rfl) (by kernel_rfl) (by kernel_rfl) (fun w0 mu _ hs => (loops_of (l := []) (by kernel_rfl) (List.forall_mem_nil _))) t86_eq

/-! ### f51: laws.eqMate -/
noncomputable def code51 : Code := match Try.f51.body with | some c => c | none => .skip
def ps51 : List AP := [.val true [.int .i64, .int .i64, .shr T_i, .shr T_iiis, .shr T_i, .shr T_s, .int .i64, .int .i64, .int .i64, .int .i64, .int .i64, .int .i64, .int .i64, .int .i64, .int .i64, .shr T_i], .val true [.int .i64, .int .i64, .shr T_i, .shr T_iiis, .shr T_i, .shr T_s, .int .i64, .int .i64, .int .i64, .int .i64, .int .i64, .int .i64, .int .i64, .int .i64, .int .i64, .shr T_i]]
def rs51 : List RP := [{ src := .tmp 4, agg := false, ps := [.bool] }]
noncomputable def sl51 : SemL := [(13, (.shr, .shr, .shr, sem13)), (77, (.shr, .shr, .shr, sem77)), (12, (.shr, .shr, .shr, sem12)), (85, (.shr, .shr, .shr, sem85)), (86, (.shr, .shr, .shr, sem86))]
def D51 : Draws := fun _ => .nil
noncomputable def L51 {R : Type} : Loops R := fun _ _ _ _ => none
noncomputable def laws_eqMate (a0c0 : Int) (a0c1 : Int) (a0c2 : List (Int × Unit)) (a0c3 : List R_iiis) (a0c4 : List (Int × Unit)) (a0c5 : List (ByteArray × Unit)) (a0c6 : Int) (a0c7 : Int) (a0c8 : Int) (a0c9 : Int) (a0c10 : Int) (a0c11 : Int) (a0c12 : Int) (a0c13 : Int) (a0c14 : Int) (a0c15 : List (Int × Unit)) (b1c0 : Int) (b1c1 : Int) (b1c2 : List (Int × Unit)) (b1c3 : List R_iiis) (b1c4 : List (Int × Unit)) (b1c5 : List (ByteArray × Unit)) (b1c6 : Int) (b1c7 : Int) (b1c8 : Int) (b1c9 : Int) (b1c10 : Int) (b1c11 : Int) (b1c12 : Int) (b1c13 : Int) (b1c14 : Int) (b1c15 : List (Int × Unit)) : Option (Bool × Unit) :=
  bif !decide (a0c0 = b1c0) then
    some (false, ())
  else
    Option.bind (laws_eqRing a0c1 a0c2 b1c1 b1c2) fun y1 =>
    bif !y1.1 then
      some (false, ())
    else
      Option.bind (laws_eqItemS a0c3 b1c3) fun y2 =>
      bif !y2.1 then
        some (false, ())
      else
        Option.bind (laws_eqIntS a0c4 b1c4) fun y3 =>
        bif !y3.1 then
          some (false, ())
        else
          Option.bind (laws_eqStringS a0c5 b1c5) fun y4 =>
          bif !y4.1 then
            some (false, ())
          else bif !decide (a0c6 = b1c6) then
            some (false, ())
          else bif !decide (a0c7 = b1c7) then
            some (false, ())
          else bif !decide (a0c8 = b1c8) then
            some (false, ())
          else bif !decide (a0c9 = b1c9) then
            some (false, ())
          else
            Option.bind (laws_eqToken a0c10 a0c11 a0c12 a0c13 a0c14 a0c15 b1c10 b1c11 b1c12 b1c13 b1c14 b1c15) fun y5 =>
            bif !y5.1 then
              some (false, ())
            else
              some (true, ())
noncomputable def x51 (x : Int × Int × (List (Int × Unit)) × (List R_iiis) × (List (Int × Unit)) × (List (ByteArray × Unit)) × Int × Int × Int × Int × Int × Int × Int × Int × Int × (List (Int × Unit)) × Int × Int × (List (Int × Unit)) × (List R_iiis) × (List (Int × Unit)) × (List (ByteArray × Unit)) × Int × Int × Int × Int × Int × Int × Int × Int × Int × (List (Int × Unit)) × Unit) : Option (Bool × Unit) := laws_eqMate x.1 x.2.1 x.2.2.1 x.2.2.2.1 x.2.2.2.2.1 x.2.2.2.2.2.1 x.2.2.2.2.2.2.1 x.2.2.2.2.2.2.2.1 x.2.2.2.2.2.2.2.2.1 x.2.2.2.2.2.2.2.2.2.1 x.2.2.2.2.2.2.2.2.2.2.1 x.2.2.2.2.2.2.2.2.2.2.2.1 x.2.2.2.2.2.2.2.2.2.2.2.2.1 x.2.2.2.2.2.2.2.2.2.2.2.2.2.1 x.2.2.2.2.2.2.2.2.2.2.2.2.2.2.1 x.2.2.2.2.2.2.2.2.2.2.2.2.2.2.2.1 x.2.2.2.2.2.2.2.2.2.2.2.2.2.2.2.2.1 x.2.2.2.2.2.2.2.2.2.2.2.2.2.2.2.2.2.1 x.2.2.2.2.2.2.2.2.2.2.2.2.2.2.2.2.2.2.1 x.2.2.2.2.2.2.2.2.2.2.2.2.2.2.2.2.2.2.2.1 x.2.2.2.2.2.2.2.2.2.2.2.2.2.2.2.2.2.2.2.2.1 x.2.2.2.2.2.2.2.2.2.2.2.2.2.2.2.2.2.2.2.2.2.1 x.2.2.2.2.2.2.2.2.2.2.2.2.2.2.2.2.2.2.2.2.2.2.1 x.2.2.2.2.2.2.2.2.2.2.2.2.2.2.2.2.2.2.2.2.2.2.2.1 x.2.2.2.2.2.2.2.2.2.2.2.2.2.2.2.2.2.2.2.2.2.2.2.2.1 x.2.2.2.2.2.2.2.2.2.2.2.2.2.2.2.2.2.2.2.2.2.2.2.2.2.1 x.2.2.2.2.2.2.2.2.2.2.2.2.2.2.2.2.2.2.2.2.2.2.2.2.2.2.1 x.2.2.2.2.2.2.2.2.2.2.2.2.2.2.2.2.2.2.2.2.2.2.2.2.2.2.2.1 x.2.2.2.2.2.2.2.2.2.2.2.2.2.2.2.2.2.2.2.2.2.2.2.2.2.2.2.2.1 x.2.2.2.2.2.2.2.2.2.2.2.2.2.2.2.2.2.2.2.2.2.2.2.2.2.2.2.2.2.1 x.2.2.2.2.2.2.2.2.2.2.2.2.2.2.2.2.2.2.2.2.2.2.2.2.2.2.2.2.2.2.1 x.2.2.2.2.2.2.2.2.2.2.2.2.2.2.2.2.2.2.2.2.2.2.2.2.2.2.2.2.2.2.2.1
noncomputable def sem51 : Sem1 := semOf ps51 rs51 x51
theorem so51 : SemsOk Try.prog (semsOf sl51) := sems_cons k13 (sems_cons k77 (sems_cons k12 (sems_cons k85 (sems_cons k86 (sems_nil)))))
theorem t51_eq (x : denR (headRT (ps51.map some))) : codeK (tabOf tr) (semsOf sl51) D51 L51 code51 (start 60 ps51 x) (finK rs51 ps51) = x51 x := by kernel_rfl
theorem k51 : Known Try.prog 51 sem51 :=
  fn_auto tr_ok eq_ok mixed_ok so51 (D := D51) (code := code51) (n := 60) Try.func51 (by kernel_rfl) (by kernel_rfl) (by kernel_rfl) (fun w0 mu _ hs => (loops_of (l := []) (by kernel_rfl) (List.forall_mem_nil _))) t51_eq

/-! ### f64: laws.eqEvent -/
noncomputable def code64 : Code := match Try.f64.body with | some c => c | none => .skip
def ps64 : List AP := [.val true [.int .i64, .int .i64, .shr T_i, .int .i64, .int .i64, .int .i64, .str, .shr T_i], .val true [.int .i64, .int .i64, .shr T_i, .int .i64, .int .i64, .int .i64, .str, .shr T_i]]
def rs64 : List RP := [{ src := .tmp 4, agg := false, ps := [.bool] }]
noncomputable def sl64 : SemL := [(13, (.shr, .shr, .shr, sem13)), (94, (.shr, .shr, .shr, sem94)), (12, (.shr, .shr, .shr, sem12))]
def D64 : Draws := fun _ => .nil
noncomputable def L64 {R : Type} : Loops R := fun _ _ _ _ => none
noncomputable def laws_eqEvent (a0c0 : Int) (a0c1 : Int) (a0c2 : List (Int × Unit)) (a0c3 : Int) (a0c4 : Int) (a0c5 : Int) (a0c6 : ByteArray) (a0c7 : List (Int × Unit)) (b1c0 : Int) (b1c1 : Int) (b1c2 : List (Int × Unit)) (b1c3 : Int) (b1c4 : Int) (b1c5 : Int) (b1c6 : ByteArray) (b1c7 : List (Int × Unit)) : Option (Bool × Unit) :=
  bif !decide (a0c0 = b1c0) then
    some (false, ())
  else
    Option.bind (laws_eqRing a0c1 a0c2 b1c1 b1c2) fun y1 =>
    bif !y1.1 then
      some (false, ())
    else
      Option.bind (laws_eqItem a0c3 a0c4 a0c5 a0c6 b1c3 b1c4 b1c5 b1c6) fun y2 =>
      bif !y2.1 then
        some (false, ())
      else
        Option.bind (laws_eqIntS a0c7 b1c7) fun y3 =>
        bif !y3.1 then
          some (false, ())
        else
          some (true, ())
noncomputable def x64 (x : Int × Int × (List (Int × Unit)) × Int × Int × Int × ByteArray × (List (Int × Unit)) × Int × Int × (List (Int × Unit)) × Int × Int × Int × ByteArray × (List (Int × Unit)) × Unit) : Option (Bool × Unit) := laws_eqEvent x.1 x.2.1 x.2.2.1 x.2.2.2.1 x.2.2.2.2.1 x.2.2.2.2.2.1 x.2.2.2.2.2.2.1 x.2.2.2.2.2.2.2.1 x.2.2.2.2.2.2.2.2.1 x.2.2.2.2.2.2.2.2.2.1 x.2.2.2.2.2.2.2.2.2.2.1 x.2.2.2.2.2.2.2.2.2.2.2.1 x.2.2.2.2.2.2.2.2.2.2.2.2.1 x.2.2.2.2.2.2.2.2.2.2.2.2.2.1 x.2.2.2.2.2.2.2.2.2.2.2.2.2.2.1 x.2.2.2.2.2.2.2.2.2.2.2.2.2.2.2.1
noncomputable def sem64 : Sem1 := semOf ps64 rs64 x64
theorem so64 : SemsOk Try.prog (semsOf sl64) := sems_cons k13 (sems_cons k94 (sems_cons k12 (sems_nil)))
theorem t64_eq (x : denR (headRT (ps64.map some))) : codeK (tabOf tr) (semsOf sl64) D64 L64 code64 (start 28 ps64 x) (finK rs64 ps64) = x64 x := by kernel_rfl
theorem k64 : Known Try.prog 64 sem64 :=
  fn_auto tr_ok eq_ok mixed_ok so64 (D := D64) (code := code64) (n := 28) Try.func64 (by kernel_rfl) (by kernel_rfl) (by kernel_rfl) (fun w0 mu _ hs => (loops_of (l := []) (by kernel_rfl) (List.forall_mem_nil _))) t64_eq

/-! ### f30: laws.eqEventS -/
noncomputable def code30 : Code := match Try.f30.body with | some c => c | none => .skip
def ps30 : List AP := [.val false [.shr T_iiLiEiiisLiE], .val false [.shr T_iiLiEiiisLiE]]
def rs30 : List RP := [{ src := .tmp 4, agg := false, ps := [.bool] }]
noncomputable def sl30 : SemL := [(64, (.shr, .shr, .shr, sem64))]
def D30 : Draws := fun id => bif Nat.beq id 6 then .op 0 .any (.op 1 .any (.op 2 .any (.op 3 .take (.op 4 .any (.op 5 .any (.op 6 .any (.op 7 .take (.op 8 .one (.op 9 .any (.nil)))))))))) else .nil
def hp30_0 : List (Option AP) := [some (.val false [.shr T_iiLiEiiisLiE]), some (.val false [.shr T_iiLiEiiisLiE]), none, none, none, some (.val false [.int .i64]), none, none, none, none, none, none, none, none, none, none, none, none, none, none, none, none, none, none, none, none, none, none]
def e30_0 : List (Option AP) := [none, none, none, none, none, none, none, none, none, none, none, none, none, none, none, none, none, none, none, none, none, none, none, none, none, none, none, none]
def q30_0 : List (Option AP) := [none, none, none, none, some (.val false [.bool]), none, none, none, none, none, none, none, none, none, none, none, none, none, none, none, none, none, none, none, none, none, none, none]
abbrev H30_0 : Type := (List R_iiLiEiiisLiE) × (List R_iiLiEiiisLiE) × Int × Unit
abbrev E30_0 : Type := Unit
abbrev Q30_0 : Type := Bool × Unit
noncomputable def laws_eqEventS_c0 (a0 : List R_iiLiEiiisLiE) (b1 : List R_iiLiEiiisLiE) (i5 : Int) : Option (Sum H30_0 (Sum E30_0 Q30_0)) :=
  bif decide (i5 < ((List.length a0 : Nat) : Int)) then
    bif decide ((0 : Int) ≤ i5) then Option.bind ((a0)[Int.toNat i5]?) fun r1 =>
      bif decide ((0 : Int) ≤ i5) then Option.bind ((b1)[Int.toNat i5]?) fun r2 =>
        Option.bind (laws_eqEvent r1.1 r1.2.1 r1.2.2.1 r1.2.2.2.1 r1.2.2.2.2.1 r1.2.2.2.2.2.1 r1.2.2.2.2.2.2.1 r1.2.2.2.2.2.2.2.1 r2.1 r2.2.1 r2.2.2.1 r2.2.2.2.1 r2.2.2.2.2.1 r2.2.2.2.2.2.1 r2.2.2.2.2.2.2.1 r2.2.2.2.2.2.2.2.1) fun y3 =>
        bif !y3.1 then
          some (.inr (.inr (false, ())))
        else
          some (.inl (a0, b1, IntKind.i64.wrap (i5 + (1 : Int)), ()))
      else none
    else none
  else
    some (.inr (.inl (())))
noncomputable def laws_eqEventS_r0 (x : H30_0) : Option (Sum H30_0 (Sum E30_0 Q30_0)) := laws_eqEventS_c0 x.1 x.2.1 x.2.2.1
noncomputable def L30 {R : Type} : Loops R := fun id _ st k => bif Nat.beq id 0 then loopAt hp30_0 e30_0 q30_0 laws_eqEventS_r0 st k else none
noncomputable def laws_eqEventS (a0 : List R_iiLiEiiisLiE) (b1 : List R_iiLiEiiisLiE) : Option (Bool × Unit) :=
  bif !decide (((List.length a0 : Nat) : Int) = ((List.length b1 : Nat) : Int)) then
    some (false, ())
  else
    outK (loopV laws_eqEventS_r0 (a0, b1, (0 : Int), ())) (fun y1 =>
      some (true, ())) (fun y2 =>
      some (y2.1, ()))
noncomputable def x30 (x : (List R_iiLiEiiisLiE) × (List R_iiLiEiiisLiE) × Unit) : Option (Bool × Unit) := laws_eqEventS x.1 x.2.1
noncomputable def sem30 : Sem1 := semOf ps30 rs30 x30
theorem so30 : SemsOk Try.prog (semsOf sl30) := sems_cons k64 (sems_nil)
noncomputable def b30_0 : Code := nthLoop code30 0
theorem t30_r0_eq (x : denR (headRT hp30_0)) : codeK (tabOf tr) (semsOf sl30) D30 L30 b30_0 (headSt hp30_0 x) (roundK 0 hp30_0 e30_0 q30_0) = laws_eqEventS_r0 x := by kernel_rfl
theorem loop30_0 {R : Type} (r : R) (w0 : World) (mu : Mu) (hs : AnShape ps30 mu) : LoopAt Try.prog w0 mu 27 (L30 : Loops R) r 0 b30_0 :=
  loop_auto tr_ok eq_ok mixed_ok so30 (D := D30) hs (by kernel_rfl) (fun _ => (loops_of (l := []) (by kernel_rfl) (List.forall_mem_nil _))) t30_r0_eq (fun _ _ => rfl)
theorem t30_eq (x : denR (headRT (ps30.map some))) : codeK (tabOf tr) (semsOf sl30) D30 L30 code30 (start 27 ps30 x) (finK rs30 ps30) = x30 x := by kernel_rfl
theorem k30 : Known Try.prog 30 sem30 :=
  fn_auto tr_ok eq_ok mixed_ok so30 (D := D30) (code := code30) (n := 27) Try.func30 (by kernel_rfl) (by kernel_rfl) (by kernel_rfl) (fun w0 mu _ hs => (loops_of (l := [(0, b30_0)]) (by kernel_rfl) (List.forall_mem_cons.2 ⟨loop30_0 _ w0 mu hs, (List.forall_mem_nil _)⟩))) t30_eq

/-! ### f23: laws.eqDaemon -/
noncomputable def code23 : Code := match Try.f23.body with | some c => c | none => .skip
def ps23 : List AP := [.val true [.int .i64, .bool, .int .i64, .int .i64, .shr T_i, .shr T_iiis, .shr T_i, .shr T_s, .int .i64, .int .i64, .int .i64, .int .i64, .int .i64, .int .i64, .int .i64, .int .i64, .int .i64, .shr T_i, .int .i64, .int .i64, .int .i64, .shr T_i, .shr T_iiiLiiisE, .shr T_iiLiEiiisLiE], .val true [.int .i64, .bool, .int .i64, .int .i64, .shr T_i, .shr T_iiis, .shr T_i, .shr T_s, .int .i64, .int .i64, .int .i64, .int .i64, .int .i64, .int .i64, .int .i64, .int .i64, .int .i64, .shr T_i, .int .i64, .int .i64, .int .i64, .shr T_i, .shr T_iiiLiiisE, .shr T_iiLiEiiisLiE]]
def rs23 : List RP := [{ src := .tmp 4, agg := false, ps := [.bool] }]
noncomputable def sl23 : SemL := [(51, (.shr, .shr, .shr, sem51)), (13, (.shr, .shr, .shr, sem13)), (14, (.shr, .shr, .shr, sem14)), (30, (.shr, .shr, .shr, sem30))]
def D23 : Draws := fun _ => .nil
noncomputable def L23 {R : Type} : Loops R := fun _ _ _ _ => none
noncomputable def laws_eqDaemon (a0c0 : Int) (a0c1 : Bool) (a0c2 : Int) (a0c3 : Int) (a0c4 : List (Int × Unit)) (a0c5 : List R_iiis) (a0c6 : List (Int × Unit)) (a0c7 : List (ByteArray × Unit)) (a0c8 : Int) (a0c9 : Int) (a0c10 : Int) (a0c11 : Int) (a0c12 : Int) (a0c13 : Int) (a0c14 : Int) (a0c15 : Int) (a0c16 : Int) (a0c17 : List (Int × Unit)) (a0c18 : Int) (a0c19 : Int) (a0c20 : Int) (a0c21 : List (Int × Unit)) (a0c22 : List R_iiiLiiisE) (a0c23 : List R_iiLiEiiisLiE) (b1c0 : Int) (b1c1 : Bool) (b1c2 : Int) (b1c3 : Int) (b1c4 : List (Int × Unit)) (b1c5 : List R_iiis) (b1c6 : List (Int × Unit)) (b1c7 : List (ByteArray × Unit)) (b1c8 : Int) (b1c9 : Int) (b1c10 : Int) (b1c11 : Int) (b1c12 : Int) (b1c13 : Int) (b1c14 : Int) (b1c15 : Int) (b1c16 : Int) (b1c17 : List (Int × Unit)) (b1c18 : Int) (b1c19 : Int) (b1c20 : Int) (b1c21 : List (Int × Unit)) (b1c22 : List R_iiiLiiisE) (b1c23 : List R_iiLiEiiisLiE) : Option (Bool × Unit) :=
  bif !decide (a0c0 = b1c0) then
    some (false, ())
  else bif !(a0c1 == b1c1) then
    some (false, ())
  else
    Option.bind (laws_eqMate a0c2 a0c3 a0c4 a0c5 a0c6 a0c7 a0c8 a0c9 a0c10 a0c11 a0c12 a0c13 a0c14 a0c15 a0c16 a0c17 b1c2 b1c3 b1c4 b1c5 b1c6 b1c7 b1c8 b1c9 b1c10 b1c11 b1c12 b1c13 b1c14 b1c15 b1c16 b1c17) fun y1 =>
    bif !y1.1 then
      some (false, ())
    else bif !decide (a0c18 = b1c18) then
      some (false, ())
    else bif !decide (a0c19 = b1c19) then
      some (false, ())
    else
      Option.bind (laws_eqRing a0c20 a0c21 b1c20 b1c21) fun y2 =>
      bif !y2.1 then
        some (false, ())
      else
        Option.bind (laws_eqBundleS a0c22 b1c22) fun y3 =>
        bif !y3.1 then
          some (false, ())
        else
          Option.bind (laws_eqEventS a0c23 b1c23) fun y4 =>
          bif !y4.1 then
            some (false, ())
          else
            some (true, ())
noncomputable def x23 (x : Int × Bool × Int × Int × (List (Int × Unit)) × (List R_iiis) × (List (Int × Unit)) × (List (ByteArray × Unit)) × Int × Int × Int × Int × Int × Int × Int × Int × Int × (List (Int × Unit)) × Int × Int × Int × (List (Int × Unit)) × (List R_iiiLiiisE) × (List R_iiLiEiiisLiE) × Int × Bool × Int × Int × (List (Int × Unit)) × (List R_iiis) × (List (Int × Unit)) × (List (ByteArray × Unit)) × Int × Int × Int × Int × Int × Int × Int × Int × Int × (List (Int × Unit)) × Int × Int × Int × (List (Int × Unit)) × (List R_iiiLiiisE) × (List R_iiLiEiiisLiE) × Unit) : Option (Bool × Unit) := laws_eqDaemon x.1 x.2.1 x.2.2.1 x.2.2.2.1 x.2.2.2.2.1 x.2.2.2.2.2.1 x.2.2.2.2.2.2.1 x.2.2.2.2.2.2.2.1 x.2.2.2.2.2.2.2.2.1 x.2.2.2.2.2.2.2.2.2.1 x.2.2.2.2.2.2.2.2.2.2.1 x.2.2.2.2.2.2.2.2.2.2.2.1 x.2.2.2.2.2.2.2.2.2.2.2.2.1 x.2.2.2.2.2.2.2.2.2.2.2.2.2.1 x.2.2.2.2.2.2.2.2.2.2.2.2.2.2.1 x.2.2.2.2.2.2.2.2.2.2.2.2.2.2.2.1 x.2.2.2.2.2.2.2.2.2.2.2.2.2.2.2.2.1 x.2.2.2.2.2.2.2.2.2.2.2.2.2.2.2.2.2.1 x.2.2.2.2.2.2.2.2.2.2.2.2.2.2.2.2.2.2.1 x.2.2.2.2.2.2.2.2.2.2.2.2.2.2.2.2.2.2.2.1 x.2.2.2.2.2.2.2.2.2.2.2.2.2.2.2.2.2.2.2.2.1 x.2.2.2.2.2.2.2.2.2.2.2.2.2.2.2.2.2.2.2.2.2.1 x.2.2.2.2.2.2.2.2.2.2.2.2.2.2.2.2.2.2.2.2.2.2.1 x.2.2.2.2.2.2.2.2.2.2.2.2.2.2.2.2.2.2.2.2.2.2.2.1 x.2.2.2.2.2.2.2.2.2.2.2.2.2.2.2.2.2.2.2.2.2.2.2.2.1 x.2.2.2.2.2.2.2.2.2.2.2.2.2.2.2.2.2.2.2.2.2.2.2.2.2.1 x.2.2.2.2.2.2.2.2.2.2.2.2.2.2.2.2.2.2.2.2.2.2.2.2.2.2.1 x.2.2.2.2.2.2.2.2.2.2.2.2.2.2.2.2.2.2.2.2.2.2.2.2.2.2.2.1 x.2.2.2.2.2.2.2.2.2.2.2.2.2.2.2.2.2.2.2.2.2.2.2.2.2.2.2.2.1 x.2.2.2.2.2.2.2.2.2.2.2.2.2.2.2.2.2.2.2.2.2.2.2.2.2.2.2.2.2.1 x.2.2.2.2.2.2.2.2.2.2.2.2.2.2.2.2.2.2.2.2.2.2.2.2.2.2.2.2.2.2.1 x.2.2.2.2.2.2.2.2.2.2.2.2.2.2.2.2.2.2.2.2.2.2.2.2.2.2.2.2.2.2.2.1 x.2.2.2.2.2.2.2.2.2.2.2.2.2.2.2.2.2.2.2.2.2.2.2.2.2.2.2.2.2.2.2.2.1 x.2.2.2.2.2.2.2.2.2.2.2.2.2.2.2.2.2.2.2.2.2.2.2.2.2.2.2.2.2.2.2.2.2.1 x.2.2.2.2.2.2.2.2.2.2.2.2.2.2.2.2.2.2.2.2.2.2.2.2.2.2.2.2.2.2.2.2.2.2.1 x.2.2.2.2.2.2.2.2.2.2.2.2.2.2.2.2.2.2.2.2.2.2.2.2.2.2.2.2.2.2.2.2.2.2.2.1 x.2.2.2.2.2.2.2.2.2.2.2.2.2.2.2.2.2.2.2.2.2.2.2.2.2.2.2.2.2.2.2.2.2.2.2.2.1 x.2.2.2.2.2.2.2.2.2.2.2.2.2.2.2.2.2.2.2.2.2.2.2.2.2.2.2.2.2.2.2.2.2.2.2.2.2.1 x.2.2.2.2.2.2.2.2.2.2.2.2.2.2.2.2.2.2.2.2.2.2.2.2.2.2.2.2.2.2.2.2.2.2.2.2.2.2.1 x.2.2.2.2.2.2.2.2.2.2.2.2.2.2.2.2.2.2.2.2.2.2.2.2.2.2.2.2.2.2.2.2.2.2.2.2.2.2.2.1 x.2.2.2.2.2.2.2.2.2.2.2.2.2.2.2.2.2.2.2.2.2.2.2.2.2.2.2.2.2.2.2.2.2.2.2.2.2.2.2.2.1 x.2.2.2.2.2.2.2.2.2.2.2.2.2.2.2.2.2.2.2.2.2.2.2.2.2.2.2.2.2.2.2.2.2.2.2.2.2.2.2.2.2.1 x.2.2.2.2.2.2.2.2.2.2.2.2.2.2.2.2.2.2.2.2.2.2.2.2.2.2.2.2.2.2.2.2.2.2.2.2.2.2.2.2.2.2.1 x.2.2.2.2.2.2.2.2.2.2.2.2.2.2.2.2.2.2.2.2.2.2.2.2.2.2.2.2.2.2.2.2.2.2.2.2.2.2.2.2.2.2.2.1 x.2.2.2.2.2.2.2.2.2.2.2.2.2.2.2.2.2.2.2.2.2.2.2.2.2.2.2.2.2.2.2.2.2.2.2.2.2.2.2.2.2.2.2.2.1 x.2.2.2.2.2.2.2.2.2.2.2.2.2.2.2.2.2.2.2.2.2.2.2.2.2.2.2.2.2.2.2.2.2.2.2.2.2.2.2.2.2.2.2.2.2.1 x.2.2.2.2.2.2.2.2.2.2.2.2.2.2.2.2.2.2.2.2.2.2.2.2.2.2.2.2.2.2.2.2.2.2.2.2.2.2.2.2.2.2.2.2.2.2.1 x.2.2.2.2.2.2.2.2.2.2.2.2.2.2.2.2.2.2.2.2.2.2.2.2.2.2.2.2.2.2.2.2.2.2.2.2.2.2.2.2.2.2.2.2.2.2.2.1
noncomputable def sem23 : Sem1 := semOf ps23 rs23 x23
theorem so23 : SemsOk Try.prog (semsOf sl23) := sems_cons k51 (sems_cons k13 (sems_cons k14 (sems_cons k30 (sems_nil))))
theorem t23_eq (x : denR (headRT (ps23.map some))) : codeK (tabOf tr) (semsOf sl23) D23 L23 code23 (start 49 ps23 x) (finK rs23 ps23) = x23 x := by kernel_rfl
theorem k23 : Known Try.prog 23 sem23 :=
  fn_auto tr_ok eq_ok mixed_ok so23 (D := D23) (code := code23) (n := 49) Try.func23 (by kernel_rfl) (by kernel_rfl) (by kernel_rfl) (fun w0 mu _ hs => (loops_of (l := []) (by kernel_rfl) (List.forall_mem_nil _))) t23_eq

/-! ### f87: laws.markStringS -/
noncomputable def code87 : Code := match Try.f87.body with | some c => c | none => .skip
def ps87 : List AP := [.io T_s, .val false [.int .i64]]
def rs87 : List RP := [{ src := .tmp 4, agg := false, ps := [.int .i64] }]
noncomputable def sl87 : SemL := [(71, (.shr, .shr, .shr, sem71))]
def D87 : Draws := fun _ => .nil
def hp87_0 : List (Option AP) := [some (.io T_s), some (.val false [.int .i64]), none, none, none, some (.val false [.int .i64]), none, none, none, none, none, none, none, none, none, none, none, none, none, none, none]
def e87_0 : List (Option AP) := [some (.io T_s), some (.val false [.int .i64]), none, none, none, none, none, none, none, none, none, none, none, none, none, none, none, none, none, none, none]
def q87_0 : List (Option AP) := [none, none, none, none, none, none, none, none, none, none, none, none, none, none, none, none, none, none, none, none, none]
abbrev H87_0 : Type := (List (ByteArray × Unit)) × Int × Int × Unit
abbrev E87_0 : Type := (List (ByteArray × Unit)) × Int × Unit
abbrev Q87_0 : Type := Unit
noncomputable def laws_markStringS_c0 (a0 : List (ByteArray × Unit)) (k1 : Int) (i5 : Int) : Option (Sum H87_0 (Sum E87_0 Q87_0)) :=
  bif decide (i5 < ((List.length a0 : Nat) : Int)) then
    Option.bind (laws_markText k1) fun y1 =>
    bif decide ((0 : Int) ≤ i5) then bif Nat.blt (Int.toNat i5) (List.length a0) then Option.bind ((a0)[Int.toNat i5]?) fun r2 =>
        some (.inl (List.set a0 (Int.toNat i5) (y1.1, ()), IntKind.i64.wrap (k1 + (1 : Int)), IntKind.i64.wrap (i5 + (1 : Int)), ()))
      else none
    else none
  else
    some (.inr (.inl (a0, k1, ())))
noncomputable def laws_markStringS_r0 (x : H87_0) : Option (Sum H87_0 (Sum E87_0 Q87_0)) := laws_markStringS_c0 x.1 x.2.1 x.2.2.1
noncomputable def L87 {R : Type} : Loops R := fun id _ st k => bif Nat.beq id 0 then loopAt hp87_0 e87_0 q87_0 laws_markStringS_r0 st k else none
noncomputable def laws_markStringS (a0 : List (ByteArray × Unit)) (k1 : Int) : Option (Int × (List (ByteArray × Unit)) × Unit) :=
  outK (loopV laws_markStringS_r0 (a0, k1, (0 : Int), ())) (fun y1 =>
    some (y1.2.1, y1.1, ())) (fun y2 =>
    none)
noncomputable def x87 (x : (List (ByteArray × Unit)) × Int × Unit) : Option (Int × (List (ByteArray × Unit)) × Unit) := laws_markStringS x.1 x.2.1
noncomputable def sem87 : Sem1 := semOf ps87 rs87 x87
theorem so87 : SemsOk Try.prog (semsOf sl87) := sems_cons k71 (sems_nil)
noncomputable def b87_0 : Code := nthLoop code87 0
theorem t87_r0_eq (x : denR (headRT hp87_0)) : codeK (tabOf tr) (semsOf sl87) D87 L87 b87_0 (headSt hp87_0 x) (roundK 0 hp87_0 e87_0 q87_0) = laws_markStringS_r0 x := by kernel_rfl
theorem loop87_0 {R : Type} (r : R) (w0 : World) (mu : Mu) (hs : AnShape ps87 mu) : LoopAt Try.prog w0 mu 20 (L87 : Loops R) r 0 b87_0 :=
  loop_auto tr_ok eq_ok mixed_ok so87 (D := D87) hs (by kernel_rfl) (fun _ => (loops_of (l := []) (by kernel_rfl) (List.forall_mem_nil _))) t87_r0_eq (fun _ _ => rfl)
theorem t87_eq (x : denR (headRT (ps87.map some))) : codeK (tabOf tr) (semsOf sl87) D87 L87 code87 (start 20 ps87 x) (finK rs87 ps87) = x87 x := by kernel_rfl
theorem k87 : Known Try.prog 87 sem87 :=
  fn_auto tr_ok eq_ok mixed_ok so87 (D := D87) (code := code87) (n := 20) Try.func87 (by kernel_rfl) (by kernel_rfl) (by kernel_rfl) (fun w0 mu _ hs => (loops_of (l := [(0, b87_0)]) (by kernel_rfl) (List.forall_mem_cons.2 ⟨loop87_0 _ w0 mu hs, (List.forall_mem_nil _)⟩))) t87_eq

/-! ### f88: laws.markToken -/
noncomputable def code88 : Code := match Try.f88.body with | some c => c | none => .skip
def ps88 : List AP := [.lend [.int .i64, .int .i64, .int .i64, .int .i64, .int .i64, .own T_i], .val false [.int .i64]]
def rs88 : List RP := [{ src := .tmp 4, agg := false, ps := [.int .i64] }]
noncomputable def sl88 : SemL := [(17, (.io, .shr, .shr, sem17))]
def D88 : Draws := fun _ => .nil
noncomputable def L88 {R : Type} : Loops R := fun _ _ _ _ => none
noncomputable def laws_markToken (a0c0 : Int) (a0c1 : Int) (a0c2 : Int) (a0c3 : Int) (a0c4 : Int) (a0c5 : List (Int × Unit)) (k1 : Int) : Option (Int × (List (Int × Unit)) × Unit) :=
  Option.bind (laws_markIntS a0c5 k1) fun y1 =>
  some (y1.1, y1.2.1, ())
noncomputable def x88 (x : Int × Int × Int × Int × Int × (List (Int × Unit)) × Int × Unit) : Option (Int × (List (Int × Unit)) × Unit) := laws_markToken x.1 x.2.1 x.2.2.1 x.2.2.2.1 x.2.2.2.2.1 x.2.2.2.2.2.1 x.2.2.2.2.2.2.1
noncomputable def sem88 : Sem1 := semOf ps88 rs88 x88
theorem so88 : SemsOk Try.prog (semsOf sl88) := sems_cons k17 (sems_nil)
theorem t88_eq (x : denR (headRT (ps88.map some))) : codeK (tabOf tr) (semsOf sl88) D88 L88 code88 (start 10 ps88 x) (finK rs88 ps88) = x88 x := by kernel_rfl
theorem k88 : Known Try.prog 88 sem88 :=
  fn_auto tr_ok eq_ok mixed_ok so88 (D := D88) (code := code88) (n := 10) Try.func88 (by kernel_rfl) (by kernel_rfl) (by kernel_rfl) (fun w0 mu _ hs => (loops_of (l := []) (by kernel_rfl) (List.forall_mem_nil _))) t88_eq

/-! ### f52: laws.markMate -/
noncomputable def code52 : Code := match Try.f52.body with | some c => c | none => .skip
def ps52 : List AP := [.lend [.int .i64, .int .i64, .own T_i, .own T_iiis, .own T_i, .own T_s, .int .i64, .int .i64, .int .i64, .int .i64, .int .i64, .int .i64, .int .i64, .int .i64, .int .i64, .own T_i], .val false [.int .i64]]
def rs52 : List RP := [{ src := .tmp 4, agg := false, ps := [.int .i64] }]
noncomputable def sl52 : SemL := [(15, (.lend, .shr, .shr, sem15)), (44, (.io, .shr, .shr, sem44)), (17, (.io, .shr, .shr, sem17)), (87, (.io, .shr, .shr, sem87)), (88, (.lend, .shr, .shr, sem88))]
def D52 : Draws := fun _ => .nil
noncomputable def L52 {R : Type} : Loops R := fun _ _ _ _ => none
noncomputable def laws_markMate (a0c0 : Int) (a0c1 : Int) (a0c2 : List (Int × Unit)) (a0c3 : List R_iiis) (a0c4 : List (Int × Unit)) (a0c5 : List (ByteArray × Unit)) (a0c6 : Int) (a0c7 : Int) (a0c8 : Int) (a0c9 : Int) (a0c10 : Int) (a0c11 : Int) (a0c12 : Int) (a0c13 : Int) (a0c14 : Int) (a0c15 : List (Int × Unit)) (k1 : Int) : Option (Int × (List (Int × Unit)) × (List R_iiis) × (List (Int × Unit)) × (List (ByteArray × Unit)) × (List (Int × Unit)) × Unit) :=
  Option.bind (laws_markRing a0c1 a0c2 k1) fun y1 =>
  Option.bind (laws_markItemS a0c3 y1.1) fun y2 =>
  Option.bind (laws_markIntS a0c4 y2.1) fun y3 =>
  Option.bind (laws_markStringS a0c5 y3.1) fun y4 =>
  Option.bind (laws_markToken a0c10 a0c11 a0c12 a0c13 a0c14 a0c15 y4.1) fun y5 =>
  some (y5.1, y1.2.1, y2.2.1, y3.2.1, y4.2.1, y5.2.1, ())
noncomputable def x52 (x : Int × Int × (List (Int × Unit)) × (List R_iiis) × (List (Int × Unit)) × (List (ByteArray × Unit)) × Int × Int × Int × Int × Int × Int × Int × Int × Int × (List (Int × Unit)) × Int × Unit) : Option (Int × (List (Int × Unit)) × (List R_iiis) × (List (Int × Unit)) × (List (ByteArray × Unit)) × (List (Int × Unit)) × Unit) := laws_markMate x.1 x.2.1 x.2.2.1 x.2.2.2.1 x.2.2.2.2.1 x.2.2.2.2.2.1 x.2.2.2.2.2.2.1 x.2.2.2.2.2.2.2.1 x.2.2.2.2.2.2.2.2.1 x.2.2.2.2.2.2.2.2.2.1 x.2.2.2.2.2.2.2.2.2.2.1 x.2.2.2.2.2.2.2.2.2.2.2.1 x.2.2.2.2.2.2.2.2.2.2.2.2.1 x.2.2.2.2.2.2.2.2.2.2.2.2.2.1 x.2.2.2.2.2.2.2.2.2.2.2.2.2.2.1 x.2.2.2.2.2.2.2.2.2.2.2.2.2.2.2.1 x.2.2.2.2.2.2.2.2.2.2.2.2.2.2.2.2.1
noncomputable def sem52 : Sem1 := semOf ps52 rs52 x52
theorem so52 : SemsOk Try.prog (semsOf sl52) := sems_cons k15 (sems_cons k44 (sems_cons k17 (sems_cons k87 (sems_cons k88 (sems_nil)))))
theorem t52_eq (x : denR (headRT (ps52.map some))) : codeK (tabOf tr) (semsOf sl52) D52 L52 code52 (start 26 ps52 x) (finK rs52 ps52) = x52 x := by kernel_rfl
theorem k52 : Known Try.prog 52 sem52 :=
  fn_auto tr_ok eq_ok mixed_ok so52 (D := D52) (code := code52) (n := 26) Try.func52 (by kernel_rfl) (by kernel_rfl) (by kernel_rfl) (fun w0 mu _ hs => (loops_of (l := []) (by kernel_rfl) (List.forall_mem_nil _))) t52_eq

/-! ### f33: laws.markEventS -/
noncomputable def code33 : Code := match Try.f33.body with | some c => c | none => .skip
def ps33 : List AP := [.io T_iiLiEiiisLiE .dp, .val false [.int .i64]]
def rs33 : List RP := [{ src := .tmp 4, agg := false, ps := [.int .i64] }]
noncomputable def sl33 : SemL := [(17, (.io, .shr, .shr, sem17)), (71, (.shr, .shr, .shr, sem71))]
def D33 : Draws := fun _ => .nil
def hp33_0 : List (Option AP) := [some (.io T_iiLiEiiisLiE .dp), some (.val false [.int .i64]), none, none, none, some (.val false [.int .i64]), none, none, none, none, none, none, none, none, none, none, none, none, none, none, none, none, none, none, none, none, none, none, none, none, none, none, none, none, none, none, none, none, none, none, none, none, none, none, none, none, none, none, none, none, none, none, none, none, none, none, none, none, none, none, none, none, none, none, none, none, none, none, none, none, none, none, none, none, none, none, none]
def e33_0 : List (Option AP) := [some (.io T_iiLiEiiisLiE .dp), some (.val false [.int .i64]), none, none, none, none, none, none, none, none, none, none, none, none, none, none, none, none, none, none, none, none, none, none, none, none, none, none, none, none, none, none, none, none, none, none, none, none, none, none, none, none, none, none, none, none, none, none, none, none, none, none, none, none, none, none, none, none, none, none, none, none, none, none, none, none, none, none, none, none, none, none, none, none, none, none, none]
def q33_0 : List (Option AP) := [none, none, none, none, none, none, none, none, none, none, none, none, none, none, none, none, none, none, none, none, none, none, none, none, none, none, none, none, none, none, none, none, none, none, none, none, none, none, none, none, none, none, none, none, none, none, none, none, none, none, none, none, none, none, none, none, none, none, none, none, none, none, none, none, none, none, none, none, none, none, none, none, none, none, none, none, none]
abbrev H33_0 : Type := (List R_iiLiEiiisLiE) × Int × Int × Unit
abbrev E33_0 : Type := (List R_iiLiEiiisLiE) × Int × Unit
abbrev Q33_0 : Type := Unit
noncomputable def laws_markEventS_c0 (a0 : List R_iiLiEiiisLiE) (k1 : Int) (i5 : Int) : Option (Sum H33_0 (Sum E33_0 Q33_0)) :=
  bif decide (i5 < ((List.length a0 : Nat) : Int)) then
    bif decide ((0 : Int) ≤ i5) then bif Nat.blt (Int.toNat i5) (List.length a0) then Option.bind ((a0)[Int.toNat i5]?) fun r1 =>
        bif decide ((0 : Int) ≤ i5) then bif Nat.blt (Int.toNat i5) (List.length (List.set a0 (Int.toNat i5) (k1, r1.2.1, r1.2.2.1, r1.2.2.2.1, r1.2.2.2.2.1, r1.2.2.2.2.2.1, r1.2.2.2.2.2.2.1, r1.2.2.2.2.2.2.2.1, ()))) then Option.bind ((List.set a0 (Int.toNat i5) (k1, r1.2.1, r1.2.2.1, r1.2.2.2.1, r1.2.2.2.2.1, r1.2.2.2.2.2.1, r1.2.2.2.2.2.2.1, r1.2.2.2.2.2.2.2.1, ()))[Int.toNat i5]?) fun r2 =>
            bif decide ((0 : Int) ≤ i5) then bif Nat.blt (Int.toNat i5) (List.length (List.set (List.set a0 (Int.toNat i5) (k1, r1.2.1, r1.2.2.1, r1.2.2.2.1, r1.2.2.2.2.1, r1.2.2.2.2.2.1, r1.2.2.2.2.2.2.1, r1.2.2.2.2.2.2.2.1, ())) (Int.toNat i5) (r2.1, IntKind.i64.wrap (k1 + (1 : Int)), r2.2.2.1, r2.2.2.2.1, r2.2.2.2.2.1, r2.2.2.2.2.2.1, r2.2.2.2.2.2.2.1, r2.2.2.2.2.2.2.2.1, ()))) then Option.bind ((List.set (List.set a0 (Int.toNat i5) (k1, r1.2.1, r1.2.2.1, r1.2.2.2.1, r1.2.2.2.2.1, r1.2.2.2.2.2.1, r1.2.2.2.2.2.2.1, r1.2.2.2.2.2.2.2.1, ())) (Int.toNat i5) (r2.1, IntKind.i64.wrap (k1 + (1 : Int)), r2.2.2.1, r2.2.2.2.1, r2.2.2.2.2.1, r2.2.2.2.2.2.1, r2.2.2.2.2.2.2.1, r2.2.2.2.2.2.2.2.1, ()))[Int.toNat i5]?) fun r3 =>
                Option.bind (laws_markIntS r3.2.2.1 (IntKind.i64.wrap ((IntKind.i64.wrap (k1 + (1 : Int))) + (1 : Int)))) fun y4 =>
                Option.bind ((List.set (List.set a0 (Int.toNat i5) (k1, r1.2.1, r1.2.2.1, r1.2.2.2.1, r1.2.2.2.2.1, r1.2.2.2.2.2.1, r1.2.2.2.2.2.2.1, r1.2.2.2.2.2.2.2.1, ())) (Int.toNat i5) (r2.1, IntKind.i64.wrap (k1 + (1 : Int)), r2.2.2.1, r2.2.2.2.1, r2.2.2.2.2.1, r2.2.2.2.2.2.1, r2.2.2.2.2.2.2.1, r2.2.2.2.2.2.2.2.1, ()))[Int.toNat i5]?) fun r5 =>
                bif decide ((0 : Int) ≤ i5) then bif Nat.blt (Int.toNat i5) (List.length (List.set (List.set (List.set a0 (Int.toNat i5) (k1, r1.2.1, r1.2.2.1, r1.2.2.2.1, r1.2.2.2.2.1, r1.2.2.2.2.2.1, r1.2.2.2.2.2.2.1, r1.2.2.2.2.2.2.2.1, ())) (Int.toNat i5) (r2.1, IntKind.i64.wrap (k1 + (1 : Int)), r2.2.2.1, r2.2.2.2.1, r2.2.2.2.2.1, r2.2.2.2.2.2.1, r2.2.2.2.2.2.2.1, r2.2.2.2.2.2.2.2.1, ())) (Int.toNat i5) (r5.1, r5.2.1, y4.2.1, r5.2.2.2.1, r5.2.2.2.2.1, r5.2.2.2.2.2.1, r5.2.2.2.2.2.2.1, r5.2.2.2.2.2.2.2.1, ()))) then Option.bind ((List.set (List.set (List.set a0 (Int.toNat i5) (k1, r1.2.1, r1.2.2.1, r1.2.2.2.1, r1.2.2.2.2.1, r1.2.2.2.2.2.1, r1.2.2.2.2.2.2.1, r1.2.2.2.2.2.2.2.1, ())) (Int.toNat i5) (r2.1, IntKind.i64.wrap (k1 + (1 : Int)), r2.2.2.1, r2.2.2.2.1, r2.2.2.2.2.1, r2.2.2.2.2.2.1, r2.2.2.2.2.2.2.1, r2.2.2.2.2.2.2.2.1, ())) (Int.toNat i5) (r5.1, r5.2.1, y4.2.1, r5.2.2.2.1, r5.2.2.2.2.1, r5.2.2.2.2.2.1, r5.2.2.2.2.2.2.1, r5.2.2.2.2.2.2.2.1, ()))[Int.toNat i5]?) fun r6 =>
                    bif decide ((0 : Int) ≤ i5) then bif Nat.blt (Int.toNat i5) (List.length (List.set (List.set (List.set (List.set a0 (Int.toNat i5) (k1, r1.2.1, r1.2.2.1, r1.2.2.2.1, r1.2.2.2.2.1, r1.2.2.2.2.2.1, r1.2.2.2.2.2.2.1, r1.2.2.2.2.2.2.2.1, ())) (Int.toNat i5) (r2.1, IntKind.i64.wrap (k1 + (1 : Int)), r2.2.2.1, r2.2.2.2.1, r2.2.2.2.2.1, r2.2.2.2.2.2.1, r2.2.2.2.2.2.2.1, r2.2.2.2.2.2.2.2.1, ())) (Int.toNat i5) (r5.1, r5.2.1, y4.2.1, r5.2.2.2.1, r5.2.2.2.2.1, r5.2.2.2.2.2.1, r5.2.2.2.2.2.2.1, r5.2.2.2.2.2.2.2.1, ())) (Int.toNat i5) (r6.1, r6.2.1, r6.2.2.1, y4.1, r6.2.2.2.2.1, r6.2.2.2.2.2.1, r6.2.2.2.2.2.2.1, r6.2.2.2.2.2.2.2.1, ()))) then Option.bind ((List.set (List.set (List.set (List.set a0 (Int.toNat i5) (k1, r1.2.1, r1.2.2.1, r1.2.2.2.1, r1.2.2.2.2.1, r1.2.2.2.2.2.1, r1.2.2.2.2.2.2.1, r1.2.2.2.2.2.2.2.1, ())) (Int.toNat i5) (r2.1, IntKind.i64.wrap (k1 + (1 : Int)), r2.2.2.1, r2.2.2.2.1, r2.2.2.2.2.1, r2.2.2.2.2.2.1, r2.2.2.2.2.2.2.1, r2.2.2.2.2.2.2.2.1, ())) (Int.toNat i5) (r5.1, r5.2.1, y4.2.1, r5.2.2.2.1, r5.2.2.2.2.1, r5.2.2.2.2.2.1, r5.2.2.2.2.2.2.1, r5.2.2.2.2.2.2.2.1, ())) (Int.toNat i5) (r6.1, r6.2.1, r6.2.2.1, y4.1, r6.2.2.2.2.1, r6.2.2.2.2.2.1, r6.2.2.2.2.2.2.1, r6.2.2.2.2.2.2.2.1, ()))[Int.toNat i5]?) fun r7 =>
                        (fun l8 : List (Int × Int × (List (Int × Unit)) × Int × Int × Int × ByteArray × (List (Int × Unit)) × Unit) =>
                        bif decide ((0 : Int) ≤ i5) then bif Nat.blt (Int.toNat i5) (List.length l8) then Option.bind ((l8)[Int.toNat i5]?) fun r9 =>
                            Option.bind (laws_markText (IntKind.i64.wrap ((IntKind.i64.wrap ((IntKind.i64.wrap (y4.1 + (1 : Int))) + (1 : Int))) + (1 : Int)))) fun y10 =>
                            bif decide ((0 : Int) ≤ i5) then bif Nat.blt (Int.toNat i5) (List.length (List.set l8 (Int.toNat i5) (r9.1, r9.2.1, r9.2.2.1, r9.2.2.2.1, r9.2.2.2.2.1, IntKind.i64.wrap ((IntKind.i64.wrap (y4.1 + (1 : Int))) + (1 : Int)), r9.2.2.2.2.2.2.1, r9.2.2.2.2.2.2.2.1, ()))) then Option.bind ((List.set l8 (Int.toNat i5) (r9.1, r9.2.1, r9.2.2.1, r9.2.2.2.1, r9.2.2.2.2.1, IntKind.i64.wrap ((IntKind.i64.wrap (y4.1 + (1 : Int))) + (1 : Int)), r9.2.2.2.2.2.2.1, r9.2.2.2.2.2.2.2.1, ()))[Int.toNat i5]?) fun r11 =>
                                bif decide ((0 : Int) ≤ i5) then bif Nat.blt (Int.toNat i5) (List.length (List.set (List.set l8 (Int.toNat i5) (r9.1, r9.2.1, r9.2.2.1, r9.2.2.2.1, r9.2.2.2.2.1, IntKind.i64.wrap ((IntKind.i64.wrap (y4.1 + (1 : Int))) + (1 : Int)), r9.2.2.2.2.2.2.1, r9.2.2.2.2.2.2.2.1, ())) (Int.toNat i5) (r11.1, r11.2.1, r11.2.2.1, r11.2.2.2.1, r11.2.2.2.2.1, r11.2.2.2.2.2.1, y10.1, r11.2.2.2.2.2.2.2.1, ()))) then Option.bind ((List.set (List.set l8 (Int.toNat i5) (r9.1, r9.2.1, r9.2.2.1, r9.2.2.2.1, r9.2.2.2.2.1, IntKind.i64.wrap ((IntKind.i64.wrap (y4.1 + (1 : Int))) + (1 : Int)), r9.2.2.2.2.2.2.1, r9.2.2.2.2.2.2.2.1, ())) (Int.toNat i5) (r11.1, r11.2.1, r11.2.2.1, r11.2.2.2.1, r11.2.2.2.2.1, r11.2.2.2.2.2.1, y10.1, r11.2.2.2.2.2.2.2.1, ()))[Int.toNat i5]?) fun r12 =>
                                    Option.bind (laws_markIntS r12.2.2.2.2.2.2.2.1 (IntKind.i64.wrap ((IntKind.i64.wrap ((IntKind.i64.wrap ((IntKind.i64.wrap (y4.1 + (1 : Int))) + (1 : Int))) + (1 : Int))) + (1 : Int)))) fun y13 =>
                                    Option.bind ((List.set (List.set l8 (Int.toNat i5) (r9.1, r9.2.1, r9.2.2.1, r9.2.2.2.1, r9.2.2.2.2.1, IntKind.i64.wrap ((IntKind.i64.wrap (y4.1 + (1 : Int))) + (1 : Int)), r9.2.2.2.2.2.2.1, r9.2.2.2.2.2.2.2.1, ())) (Int.toNat i5) (r11.1, r11.2.1, r11.2.2.1, r11.2.2.2.1, r11.2.2.2.2.1, r11.2.2.2.2.2.1, y10.1, r11.2.2.2.2.2.2.2.1, ()))[Int.toNat i5]?) fun r14 =>
                                    some (.inl (List.set (List.set (List.set l8 (Int.toNat i5) (r9.1, r9.2.1, r9.2.2.1, r9.2.2.2.1, r9.2.2.2.2.1, IntKind.i64.wrap ((IntKind.i64.wrap (y4.1 + (1 : Int))) + (1 : Int)), r9.2.2.2.2.2.2.1, r9.2.2.2.2.2.2.2.1, ())) (Int.toNat i5) (r11.1, r11.2.1, r11.2.2.1, r11.2.2.2.1, r11.2.2.2.2.1, r11.2.2.2.2.2.1, y10.1, r11.2.2.2.2.2.2.2.1, ())) (Int.toNat i5) (r14.1, r14.2.1, r14.2.2.1, r14.2.2.2.1, r14.2.2.2.2.1, r14.2.2.2.2.2.1, r14.2.2.2.2.2.2.1, y13.2.1, ()), y13.1, IntKind.i64.wrap (i5 + (1 : Int)), ()))
                                  else none
                                else none
                              else none
                            else none
                          else none
                        else none) (List.set (List.set (List.set (List.set (List.set a0 (Int.toNat i5) (k1, r1.2.1, r1.2.2.1, r1.2.2.2.1, r1.2.2.2.2.1, r1.2.2.2.2.2.1, r1.2.2.2.2.2.2.1, r1.2.2.2.2.2.2.2.1, ())) (Int.toNat i5) (r2.1, IntKind.i64.wrap (k1 + (1 : Int)), r2.2.2.1, r2.2.2.2.1, r2.2.2.2.2.1, r2.2.2.2.2.2.1, r2.2.2.2.2.2.2.1, r2.2.2.2.2.2.2.2.1, ())) (Int.toNat i5) (r5.1, r5.2.1, y4.2.1, r5.2.2.2.1, r5.2.2.2.2.1, r5.2.2.2.2.2.1, r5.2.2.2.2.2.2.1, r5.2.2.2.2.2.2.2.1, ())) (Int.toNat i5) (r6.1, r6.2.1, r6.2.2.1, y4.1, r6.2.2.2.2.1, r6.2.2.2.2.2.1, r6.2.2.2.2.2.2.1, r6.2.2.2.2.2.2.2.1, ())) (Int.toNat i5) (r7.1, r7.2.1, r7.2.2.1, r7.2.2.2.1, IntKind.i64.wrap (y4.1 + (1 : Int)), r7.2.2.2.2.2.1, r7.2.2.2.2.2.2.1, r7.2.2.2.2.2.2.2.1, ()))
                      else none
                    else none
                  else none
                else none
              else none
            else none
          else none
        else none
      else none
    else none
  else
    some (.inr (.inl (a0, k1, ())))
noncomputable def laws_markEventS_r0 (x : H33_0) : Option (Sum H33_0 (Sum E33_0 Q33_0)) := laws_markEventS_c0 x.1 x.2.1 x.2.2.1
noncomputable def L33 {R : Type} : Loops R := fun id _ st k => bif Nat.beq id 0 then loopAt hp33_0 e33_0 q33_0 laws_markEventS_r0 st k else none
noncomputable def laws_markEventS (a0 : List R_iiLiEiiisLiE) (k1 : Int) : Option (Int × (List R_iiLiEiiisLiE) × Unit) :=
  outK (loopV laws_markEventS_r0 (a0, k1, (0 : Int), ())) (fun y1 =>
    some (y1.2.1, y1.1, ())) (fun y2 =>
    none)
noncomputable def x33 (x : (List R_iiLiEiiisLiE) × Int × Unit) : Option (Int × (List R_iiLiEiiisLiE) × Unit) := laws_markEventS x.1 x.2.1
noncomputable def sem33 : Sem1 := semOf ps33 rs33 x33
theorem so33 : SemsOk Try.prog (semsOf sl33) := sems_cons k17 (sems_cons k71 (sems_nil))
noncomputable def b33_0 : Code := nthLoop code33 0
theorem t33_r0_eq (x : denR (headRT hp33_0)) : codeK (tabOf tr) (semsOf sl33) D33 L33 b33_0 (headSt hp33_0 x) (roundK 0 hp33_0 e33_0 q33_0) = laws_markEventS_r0 x := by kernel_rfl
theorem loop33_0 {R : Type} (r : R) (w0 : World) (mu : Mu) (hs : AnShape ps33 mu) : LoopAt Try.prog w0 mu 76 (L33 : Loops R) r 0 b33_0 :=
  loop_auto tr_ok eq_ok mixed_ok so33 (D := D33) hs (by kernel_rfl) (fun _ => (loops_of (l := []) (by kernel_rfl) (List.forall_mem_nil _))) t33_r0_eq (fun _ _ => rfl)
theorem t33_eq (x : denR (headRT (ps33.map some))) : codeK (tabOf tr) (semsOf sl33) D33 L33 code33 (start 76 ps33 x) (finK rs33 ps33) = x33 x := by kernel_rfl
theorem k33 : Known Try.prog 33 sem33 :=
  fn_auto tr_ok eq_ok mixed_ok so33 (D := D33) (code := code33) (n := 76) Try.func33 (by kernel_rfl) (by kernel_rfl) (by kernel_rfl) (fun w0 mu _ hs => (loops_of (l := [(0, b33_0)]) (by kernel_rfl) (List.forall_mem_cons.2 ⟨loop33_0 _ w0 mu hs, (List.forall_mem_nil _)⟩))) t33_eq

/-! ### f24: laws.markDaemon -/
noncomputable def code24 : Code := match Try.f24.body with | some c => c | none => .skip
def ps24 : List AP := [.lend [.int .i64, .bool, .int .i64, .int .i64, .own T_i, .own T_iiis, .own T_i, .own T_s, .int .i64, .int .i64, .int .i64, .int .i64, .int .i64, .int .i64, .int .i64, .int .i64, .int .i64, .own T_i, .int .i64, .int .i64, .int .i64, .own T_i, .own T_iiiLiiisE .dp, .own T_iiLiEiiisLiE .dp], .val false [.int .i64]]
def rs24 : List RP := [{ src := .tmp 4, agg := false, ps := [.int .i64] }]
noncomputable def sl24 : SemL := [(52, (.lend, .shr, .shr, sem52)), (15, (.lend, .shr, .shr, sem15)), (16, (.io, .shr, .shr, sem16)), (33, (.io, .shr, .shr, sem33))]
def D24 : Draws := fun _ => .nil
noncomputable def L24 {R : Type} : Loops R := fun _ _ _ _ => none
noncomputable def laws_markDaemon (a0c0 : Int) (a0c1 : Bool) (a0c2 : Int) (a0c3 : Int) (a0c4 : List (Int × Unit)) (a0c5 : List R_iiis) (a0c6 : List (Int × Unit)) (a0c7 : List (ByteArray × Unit)) (a0c8 : Int) (a0c9 : Int) (a0c10 : Int) (a0c11 : Int) (a0c12 : Int) (a0c13 : Int) (a0c14 : Int) (a0c15 : Int) (a0c16 : Int) (a0c17 : List (Int × Unit)) (a0c18 : Int) (a0c19 : Int) (a0c20 : Int) (a0c21 : List (Int × Unit)) (a0c22 : List R_iiiLiiisE) (a0c23 : List R_iiLiEiiisLiE) (k1 : Int) : Option (Int × (List (Int × Unit)) × (List R_iiis) × (List (Int × Unit)) × (List (ByteArray × Unit)) × (List (Int × Unit)) × (List (Int × Unit)) × (List R_iiiLiiisE) × (List R_iiLiEiiisLiE) × Unit) :=
  Option.bind (laws_markMate a0c2 a0c3 a0c4 a0c5 a0c6 a0c7 a0c8 a0c9 a0c10 a0c11 a0c12 a0c13 a0c14 a0c15 a0c16 a0c17 k1) fun y1 =>
  Option.bind (laws_markRing a0c20 a0c21 y1.1) fun y2 =>
  Option.bind (laws_markBundleS a0c22 y2.1) fun y3 =>
  Option.bind (laws_markEventS a0c23 y3.1) fun y4 =>
  some (y4.1, y1.2.1, y1.2.2.1, y1.2.2.2.1, y1.2.2.2.2.1, y1.2.2.2.2.2.1, y2.2.1, y3.2.1, y4.2.1, ())
noncomputable def x24 (x : Int × Bool × Int × Int × (List (Int × Unit)) × (List R_iiis) × (List (Int × Unit)) × (List (ByteArray × Unit)) × Int × Int × Int × Int × Int × Int × Int × Int × Int × (List (Int × Unit)) × Int × Int × Int × (List (Int × Unit)) × (List R_iiiLiiisE) × (List R_iiLiEiiisLiE) × Int × Unit) : Option (Int × (List (Int × Unit)) × (List R_iiis) × (List (Int × Unit)) × (List (ByteArray × Unit)) × (List (Int × Unit)) × (List (Int × Unit)) × (List R_iiiLiiisE) × (List R_iiLiEiiisLiE) × Unit) := laws_markDaemon x.1 x.2.1 x.2.2.1 x.2.2.2.1 x.2.2.2.2.1 x.2.2.2.2.2.1 x.2.2.2.2.2.2.1 x.2.2.2.2.2.2.2.1 x.2.2.2.2.2.2.2.2.1 x.2.2.2.2.2.2.2.2.2.1 x.2.2.2.2.2.2.2.2.2.2.1 x.2.2.2.2.2.2.2.2.2.2.2.1 x.2.2.2.2.2.2.2.2.2.2.2.2.1 x.2.2.2.2.2.2.2.2.2.2.2.2.2.1 x.2.2.2.2.2.2.2.2.2.2.2.2.2.2.1 x.2.2.2.2.2.2.2.2.2.2.2.2.2.2.2.1 x.2.2.2.2.2.2.2.2.2.2.2.2.2.2.2.2.1 x.2.2.2.2.2.2.2.2.2.2.2.2.2.2.2.2.2.1 x.2.2.2.2.2.2.2.2.2.2.2.2.2.2.2.2.2.2.1 x.2.2.2.2.2.2.2.2.2.2.2.2.2.2.2.2.2.2.2.1 x.2.2.2.2.2.2.2.2.2.2.2.2.2.2.2.2.2.2.2.2.1 x.2.2.2.2.2.2.2.2.2.2.2.2.2.2.2.2.2.2.2.2.2.1 x.2.2.2.2.2.2.2.2.2.2.2.2.2.2.2.2.2.2.2.2.2.2.1 x.2.2.2.2.2.2.2.2.2.2.2.2.2.2.2.2.2.2.2.2.2.2.2.1 x.2.2.2.2.2.2.2.2.2.2.2.2.2.2.2.2.2.2.2.2.2.2.2.2.1
noncomputable def sem24 : Sem1 := semOf ps24 rs24 x24
theorem so24 : SemsOk Try.prog (semsOf sl24) := sems_cons k52 (sems_cons k15 (sems_cons k16 (sems_cons k33 (sems_nil))))
theorem t24_eq (x : denR (headRT (ps24.map some))) : codeK (tabOf tr) (semsOf sl24) D24 L24 code24 (start 22 ps24 x) (finK rs24 ps24) = x24 x := by kernel_rfl
theorem k24 : Known Try.prog 24 sem24 :=
  fn_auto tr_ok eq_ok mixed_ok so24 (D := D24) (code := code24) (n := 22) Try.func24 (by kernel_rfl) (by kernel_rfl) (by kernel_rfl) (fun w0 mu _ hs => (loops_of (l := []) (by kernel_rfl) (List.forall_mem_nil _))) t24_eq

/-! ### f54: laws.heldRing -/
noncomputable def code54 : Code := match Try.f54.body with | some c => c | none => .skip
def ps54 : List AP := [.val true [.int .i64, .shr T_i], .val false [.int .i64]]
def rs54 : List RP := [{ src := .tmp 4, agg := false, ps := [.int .i64] }]
noncomputable def sl54 : SemL := [(18, (.shr, .shr, .shr, sem18))]
def D54 : Draws := fun _ => .nil
noncomputable def L54 {R : Type} : Loops R := fun _ _ _ _ => none
noncomputable def laws_heldRing (a0c0 : Int) (a0c1 : List (Int × Unit)) (k1 : Int) : Option (Int × Unit) :=
  Option.bind (laws_heldIntS a0c1 k1) fun y1 =>
  bif decide (y1.1 < (0 : Int)) then
    some ((-1 : Int), ())
  else
    some (y1.1, ())
noncomputable def x54 (x : Int × (List (Int × Unit)) × Int × Unit) : Option (Int × Unit) := laws_heldRing x.1 x.2.1 x.2.2.1
noncomputable def sem54 : Sem1 := semOf ps54 rs54 x54
theorem so54 : SemsOk Try.prog (semsOf sl54) := sems_cons k18 (sems_nil)
theorem t54_eq (x : denR (headRT (ps54.map some))) : codeK (tabOf tr) (semsOf sl54) D54 L54 code54 (start 12 ps54 x) (finK rs54 ps54) = x54 x := by kernel_rfl
theorem k54 : Known Try.prog 54 sem54 :=
  fn_auto tr_ok eq_ok mixed_ok so54 (D := D54) (code := code54) (n := 12) Try.func54 (by kernel_rfl) (by kernel_rfl) (by kernel_rfl) (fun w0 mu _ hs => (loops_of (l := []) (by kernel_rfl) (List.forall_mem_nil _))) t54_eq

/-! ### f89: laws.heldItemS -/
noncomputable def code89 : Code := match Try.f89.body with | some c => c | none => .skip
def ps89 : List AP := [.val false [.shr T_iiis], .val false [.int .i64]]
def rs89 : List RP := [{ src := .tmp 4, agg := false, ps := [.int .i64] }]
noncomputable def sl89 : SemL := [(71, (.shr, .shr, .shr, sem71))]
def D89 : Draws := fun id => bif Nat.beq id 13 then .op 0 .any (.op 1 .any (.op 2 .any (.op 3 .any (.op 4 .take (.op 5 .any (.op 6 .one (.op 7 .any (.nil)))))))) else .nil
def hp89_0 : List (Option AP) := [some (.val false [.shr T_iiis]), some (.val false [.int .i64]), none, none, none, some (.val false [.int .i64]), none, none, none, none, none, none, none, none, none, none, none, none, none, none, none, none, none, none, none, none, none, none, none, none, none, none, none, none, none, none, none, none, none, none, none, none, none, none, none, none, none, none, none, none, none]
def e89_0 : List (Option AP) := [none, some (.val false [.int .i64]), none, none, none, none, none, none, none, none, none, none, none, none, none, none, none, none, none, none, none, none, none, none, none, none, none, none, none, none, none, none, none, none, none, none, none, none, none, none, none, none, none, none, none, none, none, none, none, none, none]
def q89_0 : List (Option AP) := [none, none, none, none, some (.val false [.int .i64]), none, none, none, none, none, none, none, none, none, none, none, none, none, none, none, none, none, none, none, none, none, none, none, none, none, none, none, none, none, none, none, none, none, none, none, none, none, none, none, none, none, none, none, none, none, none]
abbrev H89_0 : Type := (List R_iiis) × Int × Int × Unit
abbrev E89_0 : Type := Int × Unit
abbrev Q89_0 : Type := Int × Unit
noncomputable def laws_heldItemS_c0 (a0 : List R_iiis) (k1 : Int) (i5 : Int) : Option (Sum H89_0 (Sum E89_0 Q89_0)) :=
  bif decide (i5 < ((List.length a0 : Nat) : Int)) then
    bif decide ((0 : Int) ≤ i5) then Option.bind ((a0)[Int.toNat i5]?) fun r1 =>
      bif !decide (r1.1 = k1) then
        some (.inr (.inr ((-1 : Int), ())))
      else bif decide ((0 : Int) ≤ i5) then Option.bind ((a0)[Int.toNat i5]?) fun r2 =>
        bif !decide (r2.2.1 = IntKind.i64.wrap (k1 + (1 : Int))) then
          some (.inr (.inr ((-1 : Int), ())))
        else bif decide ((0 : Int) ≤ i5) then Option.bind ((a0)[Int.toNat i5]?) fun r3 =>
          bif !decide (r3.2.2.1 = IntKind.i64.wrap ((IntKind.i64.wrap (k1 + (1 : Int))) + (1 : Int))) then
            some (.inr (.inr ((-1 : Int), ())))
          else bif decide ((0 : Int) ≤ i5) then Option.bind ((a0)[Int.toNat i5]?) fun r4 =>
            Option.bind (laws_markText (IntKind.i64.wrap ((IntKind.i64.wrap ((IntKind.i64.wrap (k1 + (1 : Int))) + (1 : Int))) + (1 : Int)))) fun y5 =>
            bif !strEq r4.2.2.2.1 y5.1 then
              some (.inr (.inr ((-1 : Int), ())))
            else
              some (.inl (a0, IntKind.i64.wrap ((IntKind.i64.wrap ((IntKind.i64.wrap ((IntKind.i64.wrap (k1 + (1 : Int))) + (1 : Int))) + (1 : Int))) + (1 : Int)), IntKind.i64.wrap (i5 + (1 : Int)), ()))
          else none
        else none
      else none
    else none
  else
    some (.inr (.inl (k1, ())))
noncomputable def laws_heldItemS_r0 (x : H89_0) : Option (Sum H89_0 (Sum E89_0 Q89_0)) := laws_heldItemS_c0 x.1 x.2.1 x.2.2.1
noncomputable def L89 {R : Type} : Loops R := fun id _ st k => bif Nat.beq id 0 then loopAt hp89_0 e89_0 q89_0 laws_heldItemS_r0 st k else none
noncomputable def laws_heldItemS (a0 : List R_iiis) (k1 : Int) : Option (Int × Unit) :=
  outK (loopV laws_heldItemS_r0 (a0, k1, (0 : Int), ())) (fun y1 =>
    some (y1.1, ())) (fun y2 =>
    some (y2.1, ()))
noncomputable def x89 (x : (List R_iiis) × Int × Unit) : Option (Int × Unit) := laws_heldItemS x.1 x.2.1
noncomputable def sem89 : Sem1 := semOf ps89 rs89 x89
theorem so89 : SemsOk Try.prog (semsOf sl89) := sems_cons k71 (sems_nil)
noncomputable def b89_0 : Code := nthLoop code89 0
theorem t89_r0_eq (x : denR (headRT hp89_0)) : codeK (tabOf tr) (semsOf sl89) D89 L89 b89_0 (headSt hp89_0 x) (roundK 0 hp89_0 e89_0 q89_0) = laws_heldItemS_r0 x := by kernel_rfl
theorem loop89_0 {R : Type} (r : R) (w0 : World) (mu : Mu) (hs : AnShape ps89 mu) : LoopAt Try.prog w0 mu 50 (L89 : Loops R) r 0 b89_0 :=
  loop_auto tr_ok eq_ok mixed_ok so89 (D := D89) hs (by kernel_rfl) (fun _ => (loops_of (l := []) (by kernel_rfl) (List.forall_mem_nil _))) t89_r0_eq (fun _ _ => rfl)
theorem t89_eq (x : denR (headRT (ps89.map some))) : codeK (tabOf tr) (semsOf sl89) D89 L89 code89 (start 50 ps89 x) (finK rs89 ps89) = x89 x := by kernel_rfl
theorem k89 : Known Try.prog 89 sem89 :=
  fn_auto tr_ok eq_ok mixed_ok so89 (D := D89) (code := code89) (n := 50) Try.func89 (by kernel_rfl) (by kernel_rfl) (by kernel_rfl) (fun w0 mu _ hs => (loops_of (l := [(0, b89_0)]) (by kernel_rfl) (List.forall_mem_cons.2 ⟨loop89_0 _ w0 mu hs, (List.forall_mem_nil _)⟩))) t89_eq

/-! ### f90: laws.heldStringS -/
noncomputable def code90 : Code := match Try.f90.body with | some c => c | none => .skip
def ps90 : List AP := [.val false [.shr T_s], .val false [.int .i64]]
def rs90 : List RP := [{ src := .tmp 4, agg := false, ps := [.int .i64] }]
noncomputable def sl90 : SemL := [(71, (.shr, .shr, .shr, sem71))]
def D90 : Draws := fun id => bif Nat.beq id 4 then .op 0 .any (.op 1 .any (.op 2 .any (.op 3 .take (.op 4 .any (.op 5 .one (.op 6 .any (.nil))))))) else .nil
def hp90_0 : List (Option AP) := [some (.val false [.shr T_s]), some (.val false [.int .i64]), none, none, none, some (.val false [.int .i64]), none, none, none, none, none, none, none, none, none, none, none, none, none, none, none, none, none]
def e90_0 : List (Option AP) := [none, some (.val false [.int .i64]), none, none, none, none, none, none, none, none, none, none, none, none, none, none, none, none, none, none, none, none, none]
def q90_0 : List (Option AP) := [none, none, none, none, some (.val false [.int .i64]), none, none, none, none, none, none, none, none, none, none, none, none, none, none, none, none, none, none]
abbrev H90_0 : Type := (List (ByteArray × Unit)) × Int × Int × Unit
abbrev E90_0 : Type := Int × Unit
abbrev Q90_0 : Type := Int × Unit
noncomputable def laws_heldStringS_c0 (a0 : List (ByteArray × Unit)) (k1 : Int) (i5 : Int) : Option (Sum H90_0 (Sum E90_0 Q90_0)) :=
  bif decide (i5 < ((List.length a0 : Nat) : Int)) then
    bif decide ((0 : Int) ≤ i5) then Option.bind ((a0)[Int.toNat i5]?) fun r1 =>
      Option.bind (laws_markText k1) fun y2 =>
      bif !strEq r1.1 y2.1 then
        some (.inr (.inr ((-1 : Int), ())))
      else
        some (.inl (a0, IntKind.i64.wrap (k1 + (1 : Int)), IntKind.i64.wrap (i5 + (1 : Int)), ()))
    else none
  else
    some (.inr (.inl (k1, ())))
noncomputable def laws_heldStringS_r0 (x : H90_0) : Option (Sum H90_0 (Sum E90_0 Q90_0)) := laws_heldStringS_c0 x.1 x.2.1 x.2.2.1
noncomputable def L90 {R : Type} : Loops R := fun id _ st k => bif Nat.beq id 0 then loopAt hp90_0 e90_0 q90_0 laws_heldStringS_r0 st k else none
noncomputable def laws_heldStringS (a0 : List (ByteArray × Unit)) (k1 : Int) : Option (Int × Unit) :=
  outK (loopV laws_heldStringS_r0 (a0, k1, (0 : Int), ())) (fun y1 =>
    some (y1.1, ())) (fun y2 =>
    some (y2.1, ()))
noncomputable def x90 (x : (List (ByteArray × Unit)) × Int × Unit) : Option (Int × Unit) := laws_heldStringS x.1 x.2.1
noncomputable def sem90 : Sem1 := semOf ps90 rs90 x90
theorem so90 : SemsOk Try.prog (semsOf sl90) := sems_cons k71 (sems_nil)
noncomputable def b90_0 : Code := nthLoop code90 0
theorem t90_r0_eq (x : denR (headRT hp90_0)) : codeK (tabOf tr) (semsOf sl90) D90 L90 b90_0 (headSt hp90_0 x) (roundK 0 hp90_0 e90_0 q90_0) = laws_heldStringS_r0 x := by kernel_rfl
theorem loop90_0 {R : Type} (r : R) (w0 : World) (mu : Mu) (hs : AnShape ps90 mu) : LoopAt Try.prog w0 mu 22 (L90 : Loops R) r 0 b90_0 :=
  loop_auto tr_ok eq_ok mixed_ok so90 (D := D90) hs (by kernel_rfl) (fun _ => (loops_of (l := []) (by kernel_rfl) (List.forall_mem_nil _))) t90_r0_eq (fun _ _ => rfl)
theorem t90_eq (x : denR (headRT (ps90.map some))) : codeK (tabOf tr) (semsOf sl90) D90 L90 code90 (start 22 ps90 x) (finK rs90 ps90) = x90 x := by kernel_rfl
theorem k90 : Known Try.prog 90 sem90 :=
  fn_auto tr_ok eq_ok mixed_ok so90 (D := D90) (code := code90) (n := 22) Try.func90 (by kernel_rfl) (by kernel_rfl) (by kernel_rfl) (fun w0 mu _ hs => (loops_of (l := [(0, b90_0)]) (by kernel_rfl) (List.forall_mem_cons.2 ⟨loop90_0 _ w0 mu hs, (List.forall_mem_nil _)⟩))) t90_eq

/-! ### f91: laws.heldToken -/
noncomputable def code91 : Code := match Try.f91.body with | some c => c | none => .skip
def ps91 : List AP := [.val true [.int .i64, .int .i64, .int .i64, .int .i64, .int .i64, .shr T_i], .val false [.int .i64]]
def rs91 : List RP := [{ src := .tmp 4, agg := false, ps := [.int .i64] }]
noncomputable def sl91 : SemL := [(18, (.shr, .shr, .shr, sem18))]
def D91 : Draws := fun _ => .nil
noncomputable def L91 {R : Type} : Loops R := fun _ _ _ _ => none
noncomputable def laws_heldToken (a0c0 : Int) (a0c1 : Int) (a0c2 : Int) (a0c3 : Int) (a0c4 : Int) (a0c5 : List (Int × Unit)) (k1 : Int) : Option (Int × Unit) :=
  Option.bind (laws_heldIntS a0c5 k1) fun y1 =>
  bif decide (y1.1 < (0 : Int)) then
    some ((-1 : Int), ())
  else
    some (y1.1, ())
noncomputable def x91 (x : Int × Int × Int × Int × Int × (List (Int × Unit)) × Int × Unit) : Option (Int × Unit) := laws_heldToken x.1 x.2.1 x.2.2.1 x.2.2.2.1 x.2.2.2.2.1 x.2.2.2.2.2.1 x.2.2.2.2.2.2.1
noncomputable def sem91 : Sem1 := semOf ps91 rs91 x91
theorem so91 : SemsOk Try.prog (semsOf sl91) := sems_cons k18 (sems_nil)
theorem t91_eq (x : denR (headRT (ps91.map some))) : codeK (tabOf tr) (semsOf sl91) D91 L91 code91 (start 12 ps91 x) (finK rs91 ps91) = x91 x := by kernel_rfl
theorem k91 : Known Try.prog 91 sem91 :=
  fn_auto tr_ok eq_ok mixed_ok so91 (D := D91) (code := code91) (n := 12) Try.func91 (by kernel_rfl) (by kernel_rfl) (by kernel_rfl) (fun w0 mu _ hs => (loops_of (l := []) (by kernel_rfl) (List.forall_mem_nil _))) t91_eq

end Go.TM
