/- What the functions answer, as terms; their contracts. -/
import Derived.Test.YtjockklbhgkiiaaBase
set_option linter.unusedSimpArgs false
set_option linter.unusedVariables false
namespace Go.TM
open Go Go.RowKit Go.Proofs

/-! ### f25: laws.szIntS -/
noncomputable def code25 : Code := match Try.f25.body with | some c => c | none => .skip
def ps25 : List AP := [.val false [.shr (.cons (.int .i64) .nil)], .val false [.int .i64]]
def rs25 : List RP := [{ src := .tmp 4, agg := false, ps := [.int .i64] }]
noncomputable def sl25 : SemL := []
def D25 : Draws := fun _ => .nil
noncomputable def L25 {R : Type} : Loops R := fun _ _ _ _ => none
noncomputable def laws_szIntS (a0 : List (Int × Unit)) (left1 : Int) : Option (Int × Unit) :=
  bif decide (IntKind.i64.wrap (left1 - ((List.length a0 : Nat) : Int)) < (0 : Int)) then
    some ((-1 : Int), ())
  else
    some (IntKind.i64.wrap (left1 - ((List.length a0 : Nat) : Int)), ())
noncomputable def x25 (x : (List (Int × Unit)) × Int × Unit) : Option (Int × Unit) := laws_szIntS x.1 x.2.1
noncomputable def sem25 : Sem1 := semOf ps25 rs25 x25
theorem so25 : SemsOk Try.prog (semsOf sl25) := sems_nil
theorem t25_eq (x : denR (headRT (ps25.map some))) : codeK (tabOf tr) (semsOf sl25) D25 L25 code25 (start 12 ps25 x) (finK rs25 ps25) = x25 x := by kernel_rfl
theorem k25 : Known Try.prog 25 sem25 :=
  fn_auto tr_ok eq_ok mixed_ok so25 (D := D25) (code := code25) (n := 12) Try.func25 (by kernel_rfl) (by kernel_rfl) (by kernel_rfl) (fun w0 mu _ hs => (loops_of (l := []) (by kernel_rfl) (List.forall_mem_nil _))) t25_eq

/-! ### f23: laws.szRing -/
noncomputable def code23 : Code := match Try.f23.body with | some c => c | none => .skip
def ps23 : List AP := [.val true [.int .i64, .shr (.cons (.int .i64) .nil)], .val false [.int .i64]]
def rs23 : List RP := [{ src := .tmp 4, agg := false, ps := [.int .i64] }]
noncomputable def sl23 : SemL := [(25, (.shr, .shr, .shr, sem25))]
def D23 : Draws := fun _ => .nil
noncomputable def L23 {R : Type} : Loops R := fun _ _ _ _ => none
noncomputable def laws_szRing (a0c0 : Int) (a0c1 : List (Int × Unit)) (left1 : Int) : Option (Int × Unit) :=
  Option.bind (laws_szIntS a0c1 left1) fun y1 =>
  bif decide (y1.1 < (0 : Int)) then
    some ((-1 : Int), ())
  else
    some (y1.1, ())
noncomputable def x23 (x : Int × (List (Int × Unit)) × Int × Unit) : Option (Int × Unit) := laws_szRing x.1 x.2.1 x.2.2.1
noncomputable def sem23 : Sem1 := semOf ps23 rs23 x23
theorem so23 : SemsOk Try.prog (semsOf sl23) := sems_cons k25 (sems_nil)
theorem t23_eq (x : denR (headRT (ps23.map some))) : codeK (tabOf tr) (semsOf sl23) D23 L23 code23 (start 12 ps23 x) (finK rs23 ps23) = x23 x := by kernel_rfl
theorem k23 : Known Try.prog 23 sem23 :=
  fn_auto tr_ok eq_ok mixed_ok so23 (D := D23) (code := code23) (n := 12) Try.func23 (by kernel_rfl) (by kernel_rfl) (by kernel_rfl) (fun w0 mu _ hs => (loops_of (l := []) (by kernel_rfl) (List.forall_mem_nil _))) t23_eq

/-! ### f73: laws.szItem -/
noncomputable def code73 : Code := match Try.f73.body with | some c => c | none => .skip
def ps73 : List AP := [.val true [.int .i64, .int .i64, .int .i64, .str], .val false [.int .i64]]
def rs73 : List RP := [{ src := .tmp 4, agg := false, ps := [.int .i64] }]
noncomputable def sl73 : SemL := []
def D73 : Draws := fun _ => .nil
noncomputable def L73 {R : Type} : Loops R := fun _ _ _ _ => none
noncomputable def laws_szItem (a0c0 : Int) (a0c1 : Int) (a0c2 : Int) (a0c3 : ByteArray) (left1 : Int) : Option (Int × Unit) :=
  bif decide (IntKind.i64.wrap (left1 - ((ByteArray.size a0c3 : Nat) : Int)) < (0 : Int)) then
    some ((-1 : Int), ())
  else
    some (IntKind.i64.wrap (left1 - ((ByteArray.size a0c3 : Nat) : Int)), ())
noncomputable def x73 (x : Int × Int × Int × ByteArray × Int × Unit) : Option (Int × Unit) := laws_szItem x.1 x.2.1 x.2.2.1 x.2.2.2.1 x.2.2.2.2.1
noncomputable def sem73 : Sem1 := semOf ps73 rs73 x73
theorem so73 : SemsOk Try.prog (semsOf sl73) := sems_nil
theorem t73_eq (x : denR (headRT (ps73.map some))) : codeK (tabOf tr) (semsOf sl73) D73 L73 code73 (start 13 ps73 x) (finK rs73 ps73) = x73 x := by kernel_rfl
theorem k73 : Known Try.prog 73 sem73 :=
  fn_auto tr_ok eq_ok mixed_ok so73 (D := D73) (code := code73) (n := 13) Try.func73 (by kernel_rfl) (by kernel_rfl) (by kernel_rfl) (fun w0 mu _ hs => (loops_of (l := []) (by kernel_rfl) (List.forall_mem_nil _))) t73_eq

/-! ### f24: laws.szItemS -/
noncomputable def code24 : Code := match Try.f24.body with | some c => c | none => .skip
def ps24 : List AP := [.val false [.shr (.cons (.int .i64) (.cons (.int .i64) (.cons (.int .i64) (.cons .str .nil))))], .val false [.int .i64]]
def rs24 : List RP := [{ src := .tmp 4, agg := false, ps := [.int .i64] }]
noncomputable def sl24 : SemL := [(73, (.shr, .shr, .shr, sem73))]
def D24 : Draws := fun _ => .nil
def hp24_0 : List (Option AP) := [some (.val false [.shr (.cons (.int .i64) (.cons (.int .i64) (.cons (.int .i64) (.cons .str .nil))))]), some (.val false [.int .i64]), none, none, none, some (.val false [.int .i64]), none, none, none, none, none, none, none, none, none, none, none, none, none, none, none, none, none, none, none, none, none]
def e24_0 : List (Option AP) := [none, some (.val false [.int .i64]), none, none, none, none, none, none, none, none, none, none, none, none, none, none, none, none, none, none, none, none, none, none, none, none, none]
def q24_0 : List (Option AP) := [none, none, none, none, some (.val false [.int .i64]), none, none, none, none, none, none, none, none, none, none, none, none, none, none, none, none, none, none, none, none, none, none]
abbrev H24_0 : Type := (List (Int × Int × Int × ByteArray × Unit)) × Int × Int × Unit
abbrev E24_0 : Type := Int × Unit
abbrev Q24_0 : Type := Int × Unit
noncomputable def laws_szItemS_c0 (a0 : List (Int × Int × Int × ByteArray × Unit)) (left1 : Int) (i5 : Int) : Option (Sum H24_0 (Sum E24_0 Q24_0)) :=
  bif decide (i5 < ((List.length a0 : Nat) : Int)) then
    bif decide ((0 : Int) ≤ i5) then Option.bind ((a0)[Int.toNat i5]?) fun r1 =>
      Option.bind (laws_szItem r1.1 r1.2.1 r1.2.2.1 r1.2.2.2.1 left1) fun y2 =>
      bif decide (y2.1 < (0 : Int)) then
        some (.inr (.inr ((-1 : Int), ())))
      else
        some (.inl (a0, y2.1, IntKind.i64.wrap (i5 + (1 : Int)), ()))
    else none
  else
    some (.inr (.inl (left1, ())))
noncomputable def laws_szItemS_r0 (x : H24_0) : Option (Sum H24_0 (Sum E24_0 Q24_0)) := laws_szItemS_c0 x.1 x.2.1 x.2.2.1
noncomputable def L24 {R : Type} : Loops R := fun id _ st k => bif Nat.beq id 0 then loopAt hp24_0 e24_0 q24_0 laws_szItemS_r0 st k else none
noncomputable def laws_szItemS (a0 : List (Int × Int × Int × ByteArray × Unit)) (left1 : Int) : Option (Int × Unit) :=
  bif decide (IntKind.i64.wrap (left1 - ((List.length a0 : Nat) : Int)) < (0 : Int)) then
    some ((-1 : Int), ())
  else
    outK (loopV laws_szItemS_r0 (a0, IntKind.i64.wrap (left1 - ((List.length a0 : Nat) : Int)), (0 : Int), ())) (fun y1 =>
      some (y1.1, ())) (fun y2 =>
      some (y2.1, ()))
noncomputable def x24 (x : (List (Int × Int × Int × ByteArray × Unit)) × Int × Unit) : Option (Int × Unit) := laws_szItemS x.1 x.2.1
noncomputable def sem24 : Sem1 := semOf ps24 rs24 x24
theorem so24 : SemsOk Try.prog (semsOf sl24) := sems_cons k73 (sems_nil)
noncomputable def b24_0 : Code := nthLoop code24 0
theorem t24_r0_eq (x : denR (headRT hp24_0)) : codeK (tabOf tr) (semsOf sl24) D24 L24 b24_0 (headSt hp24_0 x) (roundK 0 hp24_0 e24_0 q24_0) = laws_szItemS_r0 x := by kernel_rfl
theorem loop24_0 {R : Type} (r : R) (w0 : World) (mu : Mu) (hs : AnShape ps24 mu) : LoopAt Try.prog w0 mu 27 (L24 : Loops R) r 0 b24_0 :=
  loop_auto tr_ok eq_ok mixed_ok so24 (D := D24) hs (by kernel_rfl) (fun _ => (loops_of (l := []) (by kernel_rfl) (List.forall_mem_nil _))) t24_r0_eq (fun _ _ => rfl)
theorem t24_eq (x : denR (headRT (ps24.map some))) : codeK (tabOf tr) (semsOf sl24) D24 L24 code24 (start 27 ps24 x) (finK rs24 ps24) = x24 x := by kernel_rfl
theorem k24 : Known Try.prog 24 sem24 :=
  fn_auto tr_ok eq_ok mixed_ok so24 (D := D24) (code := code24) (n := 27) Try.func24 (by kernel_rfl) (by kernel_rfl) (by kernel_rfl) (fun w0 mu _ hs => (loops_of (l := [(0, b24_0)]) (by kernel_rfl) (List.forall_mem_cons.2 ⟨loop24_0 _ w0 mu hs, (List.forall_mem_nil _)⟩))) t24_eq

/-! ### f26: laws.szStringS -/
noncomputable def code26 : Code := match Try.f26.body with | some c => c | none => .skip
def ps26 : List AP := [.val false [.shr (.cons .str .nil)], .val false [.int .i64]]
def rs26 : List RP := [{ src := .tmp 4, agg := false, ps := [.int .i64] }]
noncomputable def sl26 : SemL := []
def D26 : Draws := fun _ => .nil
def hp26_0 : List (Option AP) := [some (.val false [.shr (.cons .str .nil)]), some (.val false [.int .i64]), none, none, none, some (.val false [.int .i64]), none, none, none, none, none, none, none, none, none, none, none, none, none, none, none, none, none, none, none, none, none, none]
def e26_0 : List (Option AP) := [none, some (.val false [.int .i64]), none, none, none, none, none, none, none, none, none, none, none, none, none, none, none, none, none, none, none, none, none, none, none, none, none, none]
def q26_0 : List (Option AP) := [none, none, none, none, some (.val false [.int .i64]), none, none, none, none, none, none, none, none, none, none, none, none, none, none, none, none, none, none, none, none, none, none, none]
abbrev H26_0 : Type := (List (ByteArray × Unit)) × Int × Int × Unit
abbrev E26_0 : Type := Int × Unit
abbrev Q26_0 : Type := Int × Unit
noncomputable def laws_szStringS_c0 (a0 : List (ByteArray × Unit)) (left1 : Int) (i5 : Int) : Option (Sum H26_0 (Sum E26_0 Q26_0)) :=
  bif decide (i5 < ((List.length a0 : Nat) : Int)) then
    bif decide ((0 : Int) ≤ i5) then Option.bind ((a0)[Int.toNat i5]?) fun r1 =>
      bif decide (IntKind.i64.wrap (left1 - ((ByteArray.size r1.1 : Nat) : Int)) < (0 : Int)) then
        some (.inr (.inr ((-1 : Int), ())))
      else
        some (.inl (a0, IntKind.i64.wrap (left1 - ((ByteArray.size r1.1 : Nat) : Int)), IntKind.i64.wrap (i5 + (1 : Int)), ()))
    else none
  else
    some (.inr (.inl (left1, ())))
noncomputable def laws_szStringS_r0 (x : H26_0) : Option (Sum H26_0 (Sum E26_0 Q26_0)) := laws_szStringS_c0 x.1 x.2.1 x.2.2.1
noncomputable def L26 {R : Type} : Loops R := fun id _ st k => bif Nat.beq id 0 then loopAt hp26_0 e26_0 q26_0 laws_szStringS_r0 st k else none
noncomputable def laws_szStringS (a0 : List (ByteArray × Unit)) (left1 : Int) : Option (Int × Unit) :=
  bif decide (IntKind.i64.wrap (left1 - ((List.length a0 : Nat) : Int)) < (0 : Int)) then
    some ((-1 : Int), ())
  else
    outK (loopV laws_szStringS_r0 (a0, IntKind.i64.wrap (left1 - ((List.length a0 : Nat) : Int)), (0 : Int), ())) (fun y1 =>
      some (y1.1, ())) (fun y2 =>
      some (y2.1, ()))
noncomputable def x26 (x : (List (ByteArray × Unit)) × Int × Unit) : Option (Int × Unit) := laws_szStringS x.1 x.2.1
noncomputable def sem26 : Sem1 := semOf ps26 rs26 x26
theorem so26 : SemsOk Try.prog (semsOf sl26) := sems_nil
noncomputable def b26_0 : Code := nthLoop code26 0
theorem t26_r0_eq (x : denR (headRT hp26_0)) : codeK (tabOf tr) (semsOf sl26) D26 L26 b26_0 (headSt hp26_0 x) (roundK 0 hp26_0 e26_0 q26_0) = laws_szStringS_r0 x := by kernel_rfl
theorem loop26_0 {R : Type} (r : R) (w0 : World) (mu : Mu) (hs : AnShape ps26 mu) : LoopAt Try.prog w0 mu 28 (L26 : Loops R) r 0 b26_0 :=
  loop_auto tr_ok eq_ok mixed_ok so26 (D := D26) hs (by kernel_rfl) (fun _ => (loops_of (l := []) (by kernel_rfl) (List.forall_mem_nil _))) t26_r0_eq (fun _ _ => rfl)
theorem t26_eq (x : denR (headRT (ps26.map some))) : codeK (tabOf tr) (semsOf sl26) D26 L26 code26 (start 28 ps26 x) (finK rs26 ps26) = x26 x := by kernel_rfl
theorem k26 : Known Try.prog 26 sem26 :=
  fn_auto tr_ok eq_ok mixed_ok so26 (D := D26) (code := code26) (n := 28) Try.func26 (by kernel_rfl) (by kernel_rfl) (by kernel_rfl) (fun w0 mu _ hs => (loops_of (l := [(0, b26_0)]) (by kernel_rfl) (List.forall_mem_cons.2 ⟨loop26_0 _ w0 mu hs, (List.forall_mem_nil _)⟩))) t26_eq

/-! ### f27: laws.szToken -/
noncomputable def code27 : Code := match Try.f27.body with | some c => c | none => .skip
def ps27 : List AP := [.val true [.int .i64, .int .i64, .int .i64, .int .i64, .int .i64, .shr (.cons (.int .i64) .nil)], .val false [.int .i64]]
def rs27 : List RP := [{ src := .tmp 4, agg := false, ps := [.int .i64] }]
noncomputable def sl27 : SemL := [(25, (.shr, .shr, .shr, sem25))]
def D27 : Draws := fun _ => .nil
noncomputable def L27 {R : Type} : Loops R := fun _ _ _ _ => none
noncomputable def laws_szToken (a0c0 : Int) (a0c1 : Int) (a0c2 : Int) (a0c3 : Int) (a0c4 : Int) (a0c5 : List (Int × Unit)) (left1 : Int) : Option (Int × Unit) :=
  Option.bind (laws_szIntS a0c5 left1) fun y1 =>
  bif decide (y1.1 < (0 : Int)) then
    some ((-1 : Int), ())
  else
    some (y1.1, ())
noncomputable def x27 (x : Int × Int × Int × Int × Int × (List (Int × Unit)) × Int × Unit) : Option (Int × Unit) := laws_szToken x.1 x.2.1 x.2.2.1 x.2.2.2.1 x.2.2.2.2.1 x.2.2.2.2.2.1 x.2.2.2.2.2.2.1
noncomputable def sem27 : Sem1 := semOf ps27 rs27 x27
theorem so27 : SemsOk Try.prog (semsOf sl27) := sems_cons k25 (sems_nil)
theorem t27_eq (x : denR (headRT (ps27.map some))) : codeK (tabOf tr) (semsOf sl27) D27 L27 code27 (start 12 ps27 x) (finK rs27 ps27) = x27 x := by kernel_rfl
theorem k27 : Known Try.prog 27 sem27 :=
  fn_auto tr_ok eq_ok mixed_ok so27 (D := D27) (code := code27) (n := 12) Try.func27 (by kernel_rfl) (by kernel_rfl) (by kernel_rfl) (fun w0 mu _ hs => (loops_of (l := []) (by kernel_rfl) (List.forall_mem_nil _))) t27_eq

/-! ### f6: laws.szMate -/
noncomputable def code6 : Code := match Try.f6.body with | some c => c | none => .skip
def ps6 : List AP := [.val true [.int .i64, .int .i64, .shr (.cons (.int .i64) .nil), .shr (.cons (.int .i64) (.cons (.int .i64) (.cons (.int .i64) (.cons .str .nil)))), .shr (.cons (.int .i64) .nil), .shr (.cons .str .nil), .int .i64, .int .i64, .int .i64, .int .i64, .int .i64, .int .i64, .int .i64, .int .i64, .int .i64, .shr (.cons (.int .i64) .nil)], .val false [.int .i64]]
def rs6 : List RP := [{ src := .tmp 4, agg := false, ps := [.int .i64] }]
noncomputable def sl6 : SemL := [(23, (.shr, .shr, .shr, sem23)), (24, (.shr, .shr, .shr, sem24)), (25, (.shr, .shr, .shr, sem25)), (26, (.shr, .shr, .shr, sem26)), (27, (.shr, .shr, .shr, sem27))]
def D6 : Draws := fun _ => .nil
noncomputable def L6 {R : Type} : Loops R := fun _ _ _ _ => none
noncomputable def laws_szMate (a0c0 : Int) (a0c1 : Int) (a0c2 : List (Int × Unit)) (a0c3 : List (Int × Int × Int × ByteArray × Unit)) (a0c4 : List (Int × Unit)) (a0c5 : List (ByteArray × Unit)) (a0c6 : Int) (a0c7 : Int) (a0c8 : Int) (a0c9 : Int) (a0c10 : Int) (a0c11 : Int) (a0c12 : Int) (a0c13 : Int) (a0c14 : Int) (a0c15 : List (Int × Unit)) (left1 : Int) : Option (Int × Unit) :=
  Option.bind (laws_szRing a0c1 a0c2 left1) fun y1 =>
  bif decide (y1.1 < (0 : Int)) then
    some ((-1 : Int), ())
  else
    Option.bind (laws_szItemS a0c3 y1.1) fun y2 =>
    bif decide (y2.1 < (0 : Int)) then
      some ((-1 : Int), ())
    else
      Option.bind (laws_szIntS a0c4 y2.1) fun y3 =>
      bif decide (y3.1 < (0 : Int)) then
        some ((-1 : Int), ())
      else
        Option.bind (laws_szStringS a0c5 y3.1) fun y4 =>
        bif decide (y4.1 < (0 : Int)) then
          some ((-1 : Int), ())
        else
          Option.bind (laws_szToken a0c10 a0c11 a0c12 a0c13 a0c14 a0c15 y4.1) fun y5 =>
          bif decide (y5.1 < (0 : Int)) then
            some ((-1 : Int), ())
          else
            some (y5.1, ())
noncomputable def x6 (x : Int × Int × (List (Int × Unit)) × (List (Int × Int × Int × ByteArray × Unit)) × (List (Int × Unit)) × (List (ByteArray × Unit)) × Int × Int × Int × Int × Int × Int × Int × Int × Int × (List (Int × Unit)) × Int × Unit) : Option (Int × Unit) := laws_szMate x.1 x.2.1 x.2.2.1 x.2.2.2.1 x.2.2.2.2.1 x.2.2.2.2.2.1 x.2.2.2.2.2.2.1 x.2.2.2.2.2.2.2.1 x.2.2.2.2.2.2.2.2.1 x.2.2.2.2.2.2.2.2.2.1 x.2.2.2.2.2.2.2.2.2.2.1 x.2.2.2.2.2.2.2.2.2.2.2.1 x.2.2.2.2.2.2.2.2.2.2.2.2.1 x.2.2.2.2.2.2.2.2.2.2.2.2.2.1 x.2.2.2.2.2.2.2.2.2.2.2.2.2.2.1 x.2.2.2.2.2.2.2.2.2.2.2.2.2.2.2.1 x.2.2.2.2.2.2.2.2.2.2.2.2.2.2.2.2.1
noncomputable def sem6 : Sem1 := semOf ps6 rs6 x6
theorem so6 : SemsOk Try.prog (semsOf sl6) := sems_cons k23 (sems_cons k24 (sems_cons k25 (sems_cons k26 (sems_cons k27 (sems_nil)))))
theorem t6_eq (x : denR (headRT (ps6.map some))) : codeK (tabOf tr) (semsOf sl6) D6 L6 code6 (start 36 ps6 x) (finK rs6 ps6) = x6 x := by kernel_rfl
theorem k6 : Known Try.prog 6 sem6 :=
  fn_auto tr_ok eq_ok mixed_ok so6 (D := D6) (code := code6) (n := 36) Try.func6 (by kernel_rfl) (by kernel_rfl) (by kernel_rfl) (fun w0 mu _ hs => (loops_of (l := []) (by kernel_rfl) (List.forall_mem_nil _))) t6_eq

/-! ### f33: laws.toIntS -/
noncomputable def code33 : Code := match Try.f33.body with | some c => c | none => .skip
def ps33 : List AP := [.val false [.shr (.cons (.int .i64) .nil)]]
def rs33 : List RP := [{ src := .tmp 2, agg := false, ps := [.own (.cons (.int .i64) .nil)] }]
noncomputable def sl33 : SemL := []
def D33 : Draws := fun _ => .nil
def hp33_0 : List (Option AP) := [some (.val false [.shr (.cons (.int .i64) .nil)]), none, none, some (.val false [.own (.cons (.int .i64) .nil)]), some (.val false [.int .i64]), none, none, none, none, none, none, none, none, none, none, none, none, none, none, none, none, none]
def e33_0 : List (Option AP) := [none, none, none, some (.val false [.own (.cons (.int .i64) .nil)]), none, none, none, none, none, none, none, none, none, none, none, none, none, none, none, none, none, none]
def q33_0 : List (Option AP) := [none, none, none, none, none, none, none, none, none, none, none, none, none, none, none, none, none, none, none, none, none, none]
abbrev H33_0 : Type := (List (Int × Unit)) × (List (Int × Unit)) × Int × Unit
abbrev E33_0 : Type := (List (Int × Unit)) × Unit
abbrev Q33_0 : Type := Unit
noncomputable def laws_toIntS_c0 (a0 : List (Int × Unit)) (out3 : List (Int × Unit)) (i4 : Int) : Option (Sum H33_0 (Sum E33_0 Q33_0)) :=
  bif decide (i4 < ((List.length a0 : Nat) : Int)) then
    bif decide ((0 : Int) ≤ i4) then Option.bind ((a0)[Int.toNat i4]?) fun r1 =>
      bif decide ((0 : Int) ≤ i4) then bif Nat.blt (Int.toNat i4) (List.length out3) then Option.bind ((out3)[Int.toNat i4]?) fun r2 =>
          some (.inl (a0, List.set out3 (Int.toNat i4) (r1.1, ()), IntKind.i64.wrap (i4 + (1 : Int)), ()))
        else none
      else none
    else none
  else
    some (.inr (.inl (out3, ())))
noncomputable def laws_toIntS_r0 (x : H33_0) : Option (Sum H33_0 (Sum E33_0 Q33_0)) := laws_toIntS_c0 x.1 x.2.1 x.2.2.1
noncomputable def L33 {R : Type} : Loops R := fun id _ st k => bif Nat.beq id 0 then loopAt hp33_0 e33_0 q33_0 laws_toIntS_r0 st k else none
noncomputable def laws_toIntS (a0 : List (Int × Unit)) : Option ((List (Int × Unit)) × Unit) :=
  bif decide (((List.length a0 : Nat) : Int) = ((List.length a0 : Nat) : Int)) then bif decide ((0 : Int) ≤ ((List.length a0 : Nat) : Int)) then bif Nat.ble ((Int.toNat ((List.length a0 : Nat) : Int)) * 8) lim then outK (loopV laws_toIntS_r0 (a0, List.replicate (Int.toNat ((List.length a0 : Nat) : Int)) ((0 : Int), ()), (0 : Int), ())) (fun y1 =>
          some (y1.1, ())) (fun y2 =>
          none)
      else none
    else none
  else none
noncomputable def x33 (x : (List (Int × Unit)) × Unit) : Option ((List (Int × Unit)) × Unit) := laws_toIntS x.1
noncomputable def sem33 : Sem1 := semOf ps33 rs33 x33
theorem so33 : SemsOk Try.prog (semsOf sl33) := sems_nil
noncomputable def b33_0 : Code := nthLoop code33 0
theorem t33_r0_eq (x : denR (headRT hp33_0)) : codeK (tabOf tr) (semsOf sl33) D33 L33 b33_0 (headSt hp33_0 x) (roundK 0 hp33_0 e33_0 q33_0) = laws_toIntS_r0 x := by kernel_rfl
theorem loop33_0 {R : Type} (r : R) (w0 : World) (mu : Mu) (hs : AnShape ps33 mu) : LoopAt Try.prog w0 mu 22 (L33 : Loops R) r 0 b33_0 :=
  loop_auto tr_ok eq_ok mixed_ok so33 (D := D33) hs (by kernel_rfl) (fun _ => (loops_of (l := []) (by kernel_rfl) (List.forall_mem_nil _))) t33_r0_eq (fun _ _ => rfl)
theorem t33_eq (x : denR (headRT (ps33.map some))) : codeK (tabOf tr) (semsOf sl33) D33 L33 code33 (start 22 ps33 x) (finK rs33 ps33) = x33 x := by kernel_rfl
theorem k33 : Known Try.prog 33 sem33 :=
  fn_auto tr_ok eq_ok mixed_ok so33 (D := D33) (code := code33) (n := 22) Try.func33 (by kernel_rfl) (by kernel_rfl) (by kernel_rfl) (fun w0 mu _ hs => (loops_of (l := [(0, b33_0)]) (by kernel_rfl) (List.forall_mem_cons.2 ⟨loop33_0 _ w0 mu hs, (List.forall_mem_nil _)⟩))) t33_eq

/-! ### f31: laws.toRing -/
noncomputable def code31 : Code := match Try.f31.body with | some c => c | none => .skip
def ps31 : List AP := [.val true [.int .i64, .shr (.cons (.int .i64) .nil)]]
def rs31 : List RP := [{ src := .cell 2, agg := true, ps := [.int .i64, .own (.cons (.int .i64) .nil)] }]
noncomputable def sl31 : SemL := [(33, (.shr, .shr, .shr, sem33))]
def D31 : Draws := fun _ => .nil
noncomputable def L31 {R : Type} : Loops R := fun _ _ _ _ => none
noncomputable def laws_toRing (a0c0 : Int) (a0c1 : List (Int × Unit)) : Option (Int × (List (Int × Unit)) × Unit) :=
  Option.bind (laws_toIntS a0c1) fun y1 =>
  some (a0c0, y1.1, ())
noncomputable def x31 (x : Int × (List (Int × Unit)) × Unit) : Option (Int × (List (Int × Unit)) × Unit) := laws_toRing x.1 x.2.1
noncomputable def sem31 : Sem1 := semOf ps31 rs31 x31
theorem so31 : SemsOk Try.prog (semsOf sl31) := sems_cons k33 (sems_nil)
theorem t31_eq (x : denR (headRT (ps31.map some))) : codeK (tabOf tr) (semsOf sl31) D31 L31 code31 (start 12 ps31 x) (finK rs31 ps31) = x31 x := by kernel_rfl
theorem k31 : Known Try.prog 31 sem31 :=
  fn_auto tr_ok eq_ok mixed_ok so31 (D := D31) (code := code31) (n := 12) Try.func31 (by kernel_rfl) (by kernel_rfl) (by kernel_rfl) (fun w0 mu _ hs => (loops_of (l := []) (by kernel_rfl) (List.forall_mem_nil _))) t31_eq

/-! ### f79: laws.toItem -/
noncomputable def code79 : Code := match Try.f79.body with | some c => c | none => .skip
def ps79 : List AP := [.val true [.int .i64, .int .i64, .int .i64, .str]]
def rs79 : List RP := [{ src := .cell 2, agg := true, ps := [.int .i64, .int .i64, .int .i64, .str] }]
noncomputable def sl79 : SemL := []
def D79 : Draws := fun _ => .nil
noncomputable def L79 {R : Type} : Loops R := fun _ _ _ _ => none
noncomputable def laws_toItem (a0c0 : Int) (a0c1 : Int) (a0c2 : Int) (a0c3 : ByteArray) : Option (Int × Int × Int × ByteArray × Unit) :=
  some (a0c0, a0c1, a0c2, a0c3, ())
noncomputable def x79 (x : Int × Int × Int × ByteArray × Unit) : Option (Int × Int × Int × ByteArray × Unit) := laws_toItem x.1 x.2.1 x.2.2.1 x.2.2.2.1
noncomputable def sem79 : Sem1 := semOf ps79 rs79 x79
theorem so79 : SemsOk Try.prog (semsOf sl79) := sems_nil
theorem t79_eq (x : denR (headRT (ps79.map some))) : codeK (tabOf tr) (semsOf sl79) D79 L79 code79 (start 17 ps79 x) (finK rs79 ps79) = x79 x := by kernel_rfl
theorem k79 : Known Try.prog 79 sem79 :=
  fn_auto tr_ok eq_ok mixed_ok so79 (D := D79) (code := code79) (n := 17) Try.func79 (by kernel_rfl) (by kernel_rfl) (by kernel_rfl) (fun w0 mu _ hs => (loops_of (l := []) (by kernel_rfl) (List.forall_mem_nil _))) t79_eq

/-! ### f32: laws.toItemS -/
noncomputable def code32 : Code := match Try.f32.body with | some c => c | none => .skip
def ps32 : List AP := [.val false [.shr (.cons (.int .i64) (.cons (.int .i64) (.cons (.int .i64) (.cons .str .nil))))]]
def rs32 : List RP := [{ src := .tmp 2, agg := false, ps := [.own (.cons (.int .i64) (.cons (.int .i64) (.cons (.int .i64) (.cons .str .nil))))] }]
noncomputable def sl32 : SemL := [(79, (.shr, .shr, .shr, sem79))]
def D32 : Draws := fun _ => .nil
def hp32_0 : List (Option AP) := [some (.val false [.shr (.cons (.int .i64) (.cons (.int .i64) (.cons (.int .i64) (.cons .str .nil))))]), none, none, some (.val false [.own (.cons (.int .i64) (.cons (.int .i64) (.cons (.int .i64) (.cons .str .nil))))]), some (.val false [.int .i64]), none, none, none, none, none, none, none, none, none, none, none, none, none, none, none, none, none, none]
def e32_0 : List (Option AP) := [none, none, none, some (.val false [.own (.cons (.int .i64) (.cons (.int .i64) (.cons (.int .i64) (.cons .str .nil))))]), none, none, none, none, none, none, none, none, none, none, none, none, none, none, none, none, none, none, none]
def q32_0 : List (Option AP) := [none, none, none, none, none, none, none, none, none, none, none, none, none, none, none, none, none, none, none, none, none, none, none]
abbrev H32_0 : Type := (List (Int × Int × Int × ByteArray × Unit)) × (List (Int × Int × Int × ByteArray × Unit)) × Int × Unit
abbrev E32_0 : Type := (List (Int × Int × Int × ByteArray × Unit)) × Unit
abbrev Q32_0 : Type := Unit
noncomputable def laws_toItemS_c0 (a0 : List (Int × Int × Int × ByteArray × Unit)) (out3 : List (Int × Int × Int × ByteArray × Unit)) (i4 : Int) : Option (Sum H32_0 (Sum E32_0 Q32_0)) :=
  bif decide (i4 < ((List.length a0 : Nat) : Int)) then
    bif decide ((0 : Int) ≤ i4) then Option.bind ((a0)[Int.toNat i4]?) fun r1 =>
      Option.bind (laws_toItem r1.1 r1.2.1 r1.2.2.1 r1.2.2.2.1) fun y2 =>
      bif decide ((0 : Int) ≤ i4) then bif Nat.blt (Int.toNat i4) (List.length out3) then Option.bind ((out3)[Int.toNat i4]?) fun r3 =>
          some (.inl (a0, List.set out3 (Int.toNat i4) (y2.1, y2.2.1, y2.2.2.1, y2.2.2.2.1, ()), IntKind.i64.wrap (i4 + (1 : Int)), ()))
        else none
      else none
    else none
  else
    some (.inr (.inl (out3, ())))
noncomputable def laws_toItemS_r0 (x : H32_0) : Option (Sum H32_0 (Sum E32_0 Q32_0)) := laws_toItemS_c0 x.1 x.2.1 x.2.2.1
noncomputable def L32 {R : Type} : Loops R := fun id _ st k => bif Nat.beq id 0 then loopAt hp32_0 e32_0 q32_0 laws_toItemS_r0 st k else none
noncomputable def laws_toItemS (a0 : List (Int × Int × Int × ByteArray × Unit)) : Option ((List (Int × Int × Int × ByteArray × Unit)) × Unit) :=
  bif decide (((List.length a0 : Nat) : Int) = ((List.length a0 : Nat) : Int)) then bif decide ((0 : Int) ≤ ((List.length a0 : Nat) : Int)) then bif Nat.ble ((Int.toNat ((List.length a0 : Nat) : Int)) * 40) lim then outK (loopV laws_toItemS_r0 (a0, List.replicate (Int.toNat ((List.length a0 : Nat) : Int)) ((0 : Int), (0 : Int), (0 : Int), ByteArray.empty, ()), (0 : Int), ())) (fun y1 =>
          some (y1.1, ())) (fun y2 =>
          none)
      else none
    else none
  else none
noncomputable def x32 (x : (List (Int × Int × Int × ByteArray × Unit)) × Unit) : Option ((List (Int × Int × Int × ByteArray × Unit)) × Unit) := laws_toItemS x.1
noncomputable def sem32 : Sem1 := semOf ps32 rs32 x32
theorem so32 : SemsOk Try.prog (semsOf sl32) := sems_cons k79 (sems_nil)
noncomputable def b32_0 : Code := nthLoop code32 0
theorem t32_r0_eq (x : denR (headRT hp32_0)) : codeK (tabOf tr) (semsOf sl32) D32 L32 b32_0 (headSt hp32_0 x) (roundK 0 hp32_0 e32_0 q32_0) = laws_toItemS_r0 x := by kernel_rfl
theorem loop32_0 {R : Type} (r : R) (w0 : World) (mu : Mu) (hs : AnShape ps32 mu) : LoopAt Try.prog w0 mu 23 (L32 : Loops R) r 0 b32_0 :=
  loop_auto tr_ok eq_ok mixed_ok so32 (D := D32) hs (by kernel_rfl) (fun _ => (loops_of (l := []) (by kernel_rfl) (List.forall_mem_nil _))) t32_r0_eq (fun _ _ => rfl)
theorem t32_eq (x : denR (headRT (ps32.map some))) : codeK (tabOf tr) (semsOf sl32) D32 L32 code32 (start 23 ps32 x) (finK rs32 ps32) = x32 x := by kernel_rfl
theorem k32 : Known Try.prog 32 sem32 :=
  fn_auto tr_ok eq_ok mixed_ok so32 (D := D32) (code := code32) (n := 23) Try.func32 (by kernel_rfl) (by kernel_rfl) (by kernel_rfl) (fun w0 mu _ hs => (loops_of (l := [(0, b32_0)]) (by kernel_rfl) (List.forall_mem_cons.2 ⟨loop32_0 _ w0 mu hs, (List.forall_mem_nil _)⟩))) t32_eq

/-! ### f34: laws.toStringS -/
noncomputable def code34 : Code := match Try.f34.body with | some c => c | none => .skip
def ps34 : List AP := [.val false [.shr (.cons .str .nil)]]
def rs34 : List RP := [{ src := .tmp 2, agg := false, ps := [.own (.cons .str .nil)] }]
noncomputable def sl34 : SemL := []
def D34 : Draws := fun _ => .nil
def hp34_0 : List (Option AP) := [some (.val false [.shr (.cons .str .nil)]), none, none, some (.val false [.own (.cons .str .nil)]), some (.val false [.int .i64]), none, none, none, none, none, none, none, none, none, none, none, none, none, none, none, none, none]
def e34_0 : List (Option AP) := [none, none, none, some (.val false [.own (.cons .str .nil)]), none, none, none, none, none, none, none, none, none, none, none, none, none, none, none, none, none, none]
def q34_0 : List (Option AP) := [none, none, none, none, none, none, none, none, none, none, none, none, none, none, none, none, none, none, none, none, none, none]
abbrev H34_0 : Type := (List (ByteArray × Unit)) × (List (ByteArray × Unit)) × Int × Unit
abbrev E34_0 : Type := (List (ByteArray × Unit)) × Unit
abbrev Q34_0 : Type := Unit
noncomputable def laws_toStringS_c0 (a0 : List (ByteArray × Unit)) (out3 : List (ByteArray × Unit)) (i4 : Int) : Option (Sum H34_0 (Sum E34_0 Q34_0)) :=
  bif decide (i4 < ((List.length a0 : Nat) : Int)) then
    bif decide ((0 : Int) ≤ i4) then Option.bind ((a0)[Int.toNat i4]?) fun r1 =>
      bif decide ((0 : Int) ≤ i4) then bif Nat.blt (Int.toNat i4) (List.length out3) then Option.bind ((out3)[Int.toNat i4]?) fun r2 =>
          some (.inl (a0, List.set out3 (Int.toNat i4) (r1.1, ()), IntKind.i64.wrap (i4 + (1 : Int)), ()))
        else none
      else none
    else none
  else
    some (.inr (.inl (out3, ())))
noncomputable def laws_toStringS_r0 (x : H34_0) : Option (Sum H34_0 (Sum E34_0 Q34_0)) := laws_toStringS_c0 x.1 x.2.1 x.2.2.1
noncomputable def L34 {R : Type} : Loops R := fun id _ st k => bif Nat.beq id 0 then loopAt hp34_0 e34_0 q34_0 laws_toStringS_r0 st k else none
noncomputable def laws_toStringS (a0 : List (ByteArray × Unit)) : Option ((List (ByteArray × Unit)) × Unit) :=
  bif decide (((List.length a0 : Nat) : Int) = ((List.length a0 : Nat) : Int)) then bif decide ((0 : Int) ≤ ((List.length a0 : Nat) : Int)) then bif Nat.ble ((Int.toNat ((List.length a0 : Nat) : Int)) * 16) lim then outK (loopV laws_toStringS_r0 (a0, List.replicate (Int.toNat ((List.length a0 : Nat) : Int)) (ByteArray.empty, ()), (0 : Int), ())) (fun y1 =>
          some (y1.1, ())) (fun y2 =>
          none)
      else none
    else none
  else none
noncomputable def x34 (x : (List (ByteArray × Unit)) × Unit) : Option ((List (ByteArray × Unit)) × Unit) := laws_toStringS x.1
noncomputable def sem34 : Sem1 := semOf ps34 rs34 x34
theorem so34 : SemsOk Try.prog (semsOf sl34) := sems_nil
noncomputable def b34_0 : Code := nthLoop code34 0
theorem t34_r0_eq (x : denR (headRT hp34_0)) : codeK (tabOf tr) (semsOf sl34) D34 L34 b34_0 (headSt hp34_0 x) (roundK 0 hp34_0 e34_0 q34_0) = laws_toStringS_r0 x := by kernel_rfl
theorem loop34_0 {R : Type} (r : R) (w0 : World) (mu : Mu) (hs : AnShape ps34 mu) : LoopAt Try.prog w0 mu 22 (L34 : Loops R) r 0 b34_0 :=
  loop_auto tr_ok eq_ok mixed_ok so34 (D := D34) hs (by kernel_rfl) (fun _ => (loops_of (l := []) (by kernel_rfl) (List.forall_mem_nil _))) t34_r0_eq (fun _ _ => rfl)
theorem t34_eq (x : denR (headRT (ps34.map some))) : codeK (tabOf tr) (semsOf sl34) D34 L34 code34 (start 22 ps34 x) (finK rs34 ps34) = x34 x := by kernel_rfl
theorem k34 : Known Try.prog 34 sem34 :=
  fn_auto tr_ok eq_ok mixed_ok so34 (D := D34) (code := code34) (n := 22) Try.func34 (by kernel_rfl) (by kernel_rfl) (by kernel_rfl) (fun w0 mu _ hs => (loops_of (l := [(0, b34_0)]) (by kernel_rfl) (List.forall_mem_cons.2 ⟨loop34_0 _ w0 mu hs, (List.forall_mem_nil _)⟩))) t34_eq

/-! ### f35: laws.toToken -/
noncomputable def code35 : Code := match Try.f35.body with | some c => c | none => .skip
def ps35 : List AP := [.val true [.int .i64, .int .i64, .int .i64, .int .i64, .int .i64, .shr (.cons (.int .i64) .nil)]]
def rs35 : List RP := [{ src := .cell 2, agg := true, ps := [.int .i64, .int .i64, .int .i64, .int .i64, .int .i64, .own (.cons (.int .i64) .nil)] }]
noncomputable def sl35 : SemL := [(33, (.shr, .shr, .shr, sem33))]
def D35 : Draws := fun _ => .nil
noncomputable def L35 {R : Type} : Loops R := fun _ _ _ _ => none
noncomputable def laws_toToken (a0c0 : Int) (a0c1 : Int) (a0c2 : Int) (a0c3 : Int) (a0c4 : Int) (a0c5 : List (Int × Unit)) : Option (Int × Int × Int × Int × Int × (List (Int × Unit)) × Unit) :=
  Option.bind (laws_toIntS a0c5) fun y1 =>
  some (a0c0, a0c1, a0c2, a0c3, a0c4, y1.1, ())
noncomputable def x35 (x : Int × Int × Int × Int × Int × (List (Int × Unit)) × Unit) : Option (Int × Int × Int × Int × Int × (List (Int × Unit)) × Unit) := laws_toToken x.1 x.2.1 x.2.2.1 x.2.2.2.1 x.2.2.2.2.1 x.2.2.2.2.2.1
noncomputable def sem35 : Sem1 := semOf ps35 rs35 x35
theorem so35 : SemsOk Try.prog (semsOf sl35) := sems_cons k33 (sems_nil)
theorem t35_eq (x : denR (headRT (ps35.map some))) : codeK (tabOf tr) (semsOf sl35) D35 L35 code35 (start 24 ps35 x) (finK rs35 ps35) = x35 x := by kernel_rfl
theorem k35 : Known Try.prog 35 sem35 :=
  fn_auto tr_ok eq_ok mixed_ok so35 (D := D35) (code := code35) (n := 24) Try.func35 (by kernel_rfl) (by kernel_rfl) (by kernel_rfl) (fun w0 mu _ hs => (loops_of (l := []) (by kernel_rfl) (List.forall_mem_nil _))) t35_eq

/-! ### f8: laws.toMate -/
noncomputable def code8 : Code := match Try.f8.body with | some c => c | none => .skip
def ps8 : List AP := [.val true [.int .i64, .int .i64, .shr (.cons (.int .i64) .nil), .shr (.cons (.int .i64) (.cons (.int .i64) (.cons (.int .i64) (.cons .str .nil)))), .shr (.cons (.int .i64) .nil), .shr (.cons .str .nil), .int .i64, .int .i64, .int .i64, .int .i64, .int .i64, .int .i64, .int .i64, .int .i64, .int .i64, .shr (.cons (.int .i64) .nil)]]
def rs8 : List RP := [{ src := .cell 2, agg := true, ps := [.int .i64, .int .i64, .own (.cons (.int .i64) .nil), .own (.cons (.int .i64) (.cons (.int .i64) (.cons (.int .i64) (.cons .str .nil)))), .own (.cons (.int .i64) .nil), .own (.cons .str .nil), .int .i64, .int .i64, .int .i64, .int .i64, .int .i64, .int .i64, .int .i64, .int .i64, .int .i64, .own (.cons (.int .i64) .nil)] }]
noncomputable def sl8 : SemL := [(31, (.shr, .shr, .shr, sem31)), (32, (.shr, .shr, .shr, sem32)), (33, (.shr, .shr, .shr, sem33)), (34, (.shr, .shr, .shr, sem34)), (35, (.shr, .shr, .shr, sem35))]
def D8 : Draws := fun _ => .nil
noncomputable def L8 {R : Type} : Loops R := fun _ _ _ _ => none
noncomputable def laws_toMate (a0c0 : Int) (a0c1 : Int) (a0c2 : List (Int × Unit)) (a0c3 : List (Int × Int × Int × ByteArray × Unit)) (a0c4 : List (Int × Unit)) (a0c5 : List (ByteArray × Unit)) (a0c6 : Int) (a0c7 : Int) (a0c8 : Int) (a0c9 : Int) (a0c10 : Int) (a0c11 : Int) (a0c12 : Int) (a0c13 : Int) (a0c14 : Int) (a0c15 : List (Int × Unit)) : Option (Int × Int × (List (Int × Unit)) × (List (Int × Int × Int × ByteArray × Unit)) × (List (Int × Unit)) × (List (ByteArray × Unit)) × Int × Int × Int × Int × Int × Int × Int × Int × Int × (List (Int × Unit)) × Unit) :=
  Option.bind (laws_toRing a0c1 a0c2) fun y1 =>
  Option.bind (laws_toItemS a0c3) fun y2 =>
  Option.bind (laws_toIntS a0c4) fun y3 =>
  Option.bind (laws_toStringS a0c5) fun y4 =>
  Option.bind (laws_toToken a0c10 a0c11 a0c12 a0c13 a0c14 a0c15) fun y5 =>
  some (a0c0, y1.1, y1.2.1, y2.1, y3.1, y4.1, a0c6, a0c7, a0c8, a0c9, y5.1, y5.2.1, y5.2.2.1, y5.2.2.2.1, y5.2.2.2.2.1, y5.2.2.2.2.2.1, ())
noncomputable def x8 (x : Int × Int × (List (Int × Unit)) × (List (Int × Int × Int × ByteArray × Unit)) × (List (Int × Unit)) × (List (ByteArray × Unit)) × Int × Int × Int × Int × Int × Int × Int × Int × Int × (List (Int × Unit)) × Unit) : Option (Int × Int × (List (Int × Unit)) × (List (Int × Int × Int × ByteArray × Unit)) × (List (Int × Unit)) × (List (ByteArray × Unit)) × Int × Int × Int × Int × Int × Int × Int × Int × Int × (List (Int × Unit)) × Unit) := laws_toMate x.1 x.2.1 x.2.2.1 x.2.2.2.1 x.2.2.2.2.1 x.2.2.2.2.2.1 x.2.2.2.2.2.2.1 x.2.2.2.2.2.2.2.1 x.2.2.2.2.2.2.2.2.1 x.2.2.2.2.2.2.2.2.2.1 x.2.2.2.2.2.2.2.2.2.2.1 x.2.2.2.2.2.2.2.2.2.2.2.1 x.2.2.2.2.2.2.2.2.2.2.2.2.1 x.2.2.2.2.2.2.2.2.2.2.2.2.2.1 x.2.2.2.2.2.2.2.2.2.2.2.2.2.2.1 x.2.2.2.2.2.2.2.2.2.2.2.2.2.2.2.1
noncomputable def sem8 : Sem1 := semOf ps8 rs8 x8
theorem so8 : SemsOk Try.prog (semsOf sl8) := sems_cons k31 (sems_cons k32 (sems_cons k33 (sems_cons k34 (sems_cons k35 (sems_nil)))))
theorem t8_eq (x : denR (headRT (ps8.map some))) : codeK (tabOf tr) (semsOf sl8) D8 L8 code8 (start 40 ps8 x) (finK rs8 ps8) = x8 x := by kernel_rfl
theorem k8 : Known Try.prog 8 sem8 :=
  fn_auto tr_ok eq_ok mixed_ok so8 (D := D8) (code := code8) (n := 40) Try.func8 (by kernel_rfl) (by kernel_rfl) (by kernel_rfl) (fun w0 mu _ hs => (loops_of (l := []) (by kernel_rfl) (List.forall_mem_nil _))) t8_eq

/-! ### f29: spec.l01In -/
noncomputable def code29 : Code := match Try.f29.body with | some c => c | none => .skip
def ps29 : List AP := [.val false [.int .i64], .val false [.int .i64], .val false [.int .i64]]
def rs29 : List RP := [{ src := .tmp 6, agg := false, ps := [.bool] }]
noncomputable def sl29 : SemL := []
def D29 : Draws := fun _ => .nil
noncomputable def L29 {R : Type} : Loops R := fun _ _ _ _ => none
noncomputable def spec_l01In (x0 : Int) (least1 : Int) (most2 : Int) : Option (Bool × Unit) :=
  bif decide (least1 ≤ x0) then
    some (decide (x0 ≤ most2), ())
  else
    some (false, ())
noncomputable def x29 (x : Int × Int × Int × Unit) : Option (Bool × Unit) := spec_l01In x.1 x.2.1 x.2.2.1
noncomputable def sem29 : Sem1 := semOf ps29 rs29 x29
theorem so29 : SemsOk Try.prog (semsOf sl29) := sems_nil
theorem t29_eq (x : denR (headRT (ps29.map some))) : codeK (tabOf tr) (semsOf sl29) D29 L29 code29 (start 15 ps29 x) (finK rs29 ps29) = x29 x := by kernel_rfl
theorem k29 : Known Try.prog 29 sem29 :=
  fn_auto tr_ok eq_ok mixed_ok so29 (D := D29) (code := code29) (n := 15) Try.func29 (by kernel_rfl) (by kernel_rfl) (by kernel_rfl) (fun w0 mu _ hs => (loops_of (l := []) (by kernel_rfl) (List.forall_mem_nil _))) t29_eq

/-! ### f61: spec.RingOk -/
noncomputable def code61 : Code := match Try.f61.body with | some c => c | none => .skip
def ps61 : List AP := [.val true [.int .i64, .shr (.cons (.int .i64) .nil)]]
def rs61 : List RP := [{ src := .tmp 2, agg := false, ps := [.bool] }]
noncomputable def sl61 : SemL := [(29, (.shr, .shr, .shr, sem29))]
def D61 : Draws := fun id => bif Nat.beq id 6 then .op 0 .any (.op 1 .take (.op 2 .any (.op 3 .any (.op 4 .take (.op 5 .one (.op 6 .any (.op 7 .any (.op 8 .any (.op 9 .any (.op 10 .any (.op 11 .any (.op 12 .take (.op 13 .any (.op 14 .any (.op 15 .any (.op 16 .take (.op 17 .any (.op 18 .take (.op 19 .any (.op 20 .any (.op 21 .take (.op 22 .any (.op 23 .any (.op 24 .any (.nil))))))))))))))))))))))))) else .nil
def hp61_0 : List (Option AP) := [none, some (.box false [.int .i64, .shr (.cons (.int .i64) .nil)]), none, some (.val false [.int .i64]), none, none, none, none, none, none, none, none, none, none, none, none, none, none, none, none, none, none, none, none, none, none, none, none, none, none, none, none, none, none, none, none, none, none, none, none, none, none, none, none, none, none, none]
def e61_0 : List (Option AP) := [none, none, none, none, none, none, none, none, none, none, none, none, none, none, none, none, none, none, none, none, none, none, none, none, none, none, none, none, none, none, none, none, none, none, none, none, none, none, none, none, none, none, none, none, none, none, none]
def q61_0 : List (Option AP) := [none, none, some (.val false [.bool]), none, none, none, none, none, none, none, none, none, none, none, none, none, none, none, none, none, none, none, none, none, none, none, none, none, none, none, none, none, none, none, none, none, none, none, none, none, none, none, none, none, none, none, none]
abbrev H61_0 : Type := Int × (List (Int × Unit)) × Int × Unit
abbrev E61_0 : Type := Unit
abbrev Q61_0 : Type := Bool × Unit
noncomputable def spec_RingOk_c0 (r1c0 : Int) (r1c1 : List (Int × Unit)) (i3 : Int) : Option (Sum H61_0 (Sum E61_0 Q61_0)) :=
  bif decide (i3 < ((List.length r1c1 : Nat) : Int)) then
    bif decide ((0 : Int) ≤ i3) then Option.bind ((r1c1)[Int.toNat i3]?) fun r3 =>
      Option.bind (spec_l01In r3.1 (1 : Int) (5 : Int)) fun y4 =>
      bif !y4.1 then
        some (.inr (.inr (false, ())))
      else bif decide ((0 : Int) < i3) then
        bif decide ((0 : Int) ≤ IntKind.i64.wrap (i3 - (1 : Int))) then Option.bind ((r1c1)[Int.toNat (IntKind.i64.wrap (i3 - (1 : Int)))]?) fun r5 =>
          bif decide ((0 : Int) ≤ i3) then Option.bind ((r1c1)[Int.toNat i3]?) fun r6 =>
            bif decide (r6.1 ≤ r5.1) then
              some (.inr (.inr (false, ())))
            else
              some (.inl (r1c0, r1c1, IntKind.i64.wrap (i3 + (1 : Int)), ()))
          else none
        else none
      else
        some (.inl (r1c0, r1c1, IntKind.i64.wrap (i3 + (1 : Int)), ()))
    else none
  else
    some (.inr (.inl (())))
noncomputable def spec_RingOk_r0 (x : H61_0) : Option (Sum H61_0 (Sum E61_0 Q61_0)) := spec_RingOk_c0 x.1 x.2.1 x.2.2.1
noncomputable def L61 {R : Type} : Loops R := fun id _ st k => bif Nat.beq id 0 then loopAt hp61_0 e61_0 q61_0 spec_RingOk_r0 st k else none
noncomputable def spec_RingOk (r0c0 : Int) (r0c1 : List (Int × Unit)) : Option (Bool × Unit) :=
  Option.bind (spec_l01In r0c0 (1 : Int) (9 : Int)) fun y1 =>
  bif !y1.1 then
    some (false, ())
  else
    Option.bind (spec_l01In ((List.length r0c1 : Nat) : Int) (1 : Int) (5 : Int)) fun y2 =>
    bif !y2.1 then
      some (false, ())
    else
      outK (loopV spec_RingOk_r0 (r0c0, r0c1, (0 : Int), ())) (fun y3 =>
        some (true, ())) (fun y4 =>
        some (y4.1, ()))
noncomputable def x61 (x : Int × (List (Int × Unit)) × Unit) : Option (Bool × Unit) := spec_RingOk x.1 x.2.1
noncomputable def sem61 : Sem1 := semOf ps61 rs61 x61
theorem so61 : SemsOk Try.prog (semsOf sl61) := sems_cons k29 (sems_nil)
noncomputable def b61_0 : Code := nthLoop code61 0
theorem t61_r0_eq (x : denR (headRT hp61_0)) : codeK (tabOf tr) (semsOf sl61) D61 L61 b61_0 (headSt hp61_0 x) (roundK 0 hp61_0 e61_0 q61_0) = spec_RingOk_r0 x := by kernel_rfl
theorem loop61_0 {R : Type} (r : R) (w0 : World) (mu : Mu) (hs : AnShape ps61 mu) : LoopAt Try.prog w0 mu 47 (L61 : Loops R) r 0 b61_0 :=
  loop_auto tr_ok eq_ok mixed_ok so61 (D := D61) hs (by kernel_rfl) (fun _ => (loops_of (l := []) (by kernel_rfl) (List.forall_mem_nil _))) t61_r0_eq (fun _ _ => rfl)
theorem t61_eq (x : denR (headRT (ps61.map some))) : codeK (tabOf tr) (semsOf sl61) D61 L61 code61 (start 47 ps61 x) (finK rs61 ps61) = x61 x := by kernel_rfl
theorem k61 : Known Try.prog 61 sem61 :=
  fn_auto tr_ok eq_ok mixed_ok so61 (D := D61) (code := code61) (n := 47) Try.func61 (by kernel_rfl) (by kernel_rfl) (by kernel_rfl) (fun w0 mu _ hs => (loops_of (l := [(0, b61_0)]) (by kernel_rfl) (List.forall_mem_cons.2 ⟨loop61_0 _ w0 mu hs, (List.forall_mem_nil _)⟩))) t61_eq

/-! ### f62: spec.l05In -/
noncomputable def code62 : Code := match Try.f62.body with | some c => c | none => .skip
def ps62 : List AP := [.val false [.shr (.cons (.int .i64) .nil)], .val false [.int .i64]]
def rs62 : List RP := [{ src := .tmp 4, agg := false, ps := [.bool] }]
noncomputable def sl62 : SemL := []
def D62 : Draws := fun _ => .nil
def hp62_0 : List (Option AP) := [some (.val false [.shr (.cons (.int .i64) .nil)]), some (.val false [.int .i64]), none, none, none, some (.val false [.int .i64]), none, none, none, none, none, none, none, none, none, none, none, none]
def e62_0 : List (Option AP) := [none, none, none, none, none, none, none, none, none, none, none, none, none, none, none, none, none, none]
def q62_0 : List (Option AP) := [none, none, none, none, some (.val false [.bool]), none, none, none, none, none, none, none, none, none, none, none, none, none]
abbrev H62_0 : Type := (List (Int × Unit)) × Int × Int × Unit
abbrev E62_0 : Type := Unit
abbrev Q62_0 : Type := Bool × Unit
noncomputable def spec_l05In_c0 (list0 : List (Int × Unit)) (x1 : Int) (i5 : Int) : Option (Sum H62_0 (Sum E62_0 Q62_0)) :=
  bif decide (i5 < ((List.length list0 : Nat) : Int)) then
    bif decide ((0 : Int) ≤ i5) then Option.bind ((list0)[Int.toNat i5]?) fun r1 =>
      bif decide (r1.1 = x1) then
        some (.inr (.inr (true, ())))
      else
        some (.inl (list0, x1, IntKind.i64.wrap (i5 + (1 : Int)), ()))
    else none
  else
    some (.inr (.inl (())))
noncomputable def spec_l05In_r0 (x : H62_0) : Option (Sum H62_0 (Sum E62_0 Q62_0)) := spec_l05In_c0 x.1 x.2.1 x.2.2.1
noncomputable def L62 {R : Type} : Loops R := fun id _ st k => bif Nat.beq id 0 then loopAt hp62_0 e62_0 q62_0 spec_l05In_r0 st k else none
noncomputable def spec_l05In (list0 : List (Int × Unit)) (x1 : Int) : Option (Bool × Unit) :=
  outK (loopV spec_l05In_r0 (list0, x1, (0 : Int), ())) (fun y1 =>
    some (false, ())) (fun y2 =>
    some (y2.1, ()))
noncomputable def x62 (x : (List (Int × Unit)) × Int × Unit) : Option (Bool × Unit) := spec_l05In x.1 x.2.1
noncomputable def sem62 : Sem1 := semOf ps62 rs62 x62
theorem so62 : SemsOk Try.prog (semsOf sl62) := sems_nil
noncomputable def b62_0 : Code := nthLoop code62 0
theorem t62_r0_eq (x : denR (headRT hp62_0)) : codeK (tabOf tr) (semsOf sl62) D62 L62 b62_0 (headSt hp62_0 x) (roundK 0 hp62_0 e62_0 q62_0) = spec_l05In_r0 x := by kernel_rfl
theorem loop62_0 {R : Type} (r : R) (w0 : World) (mu : Mu) (hs : AnShape ps62 mu) : LoopAt Try.prog w0 mu 18 (L62 : Loops R) r 0 b62_0 :=
  loop_auto tr_ok eq_ok mixed_ok so62 (D := D62) hs (by kernel_rfl) (fun _ => (loops_of (l := []) (by kernel_rfl) (List.forall_mem_nil _))) t62_r0_eq (fun _ _ => rfl)
theorem t62_eq (x : denR (headRT (ps62.map some))) : codeK (tabOf tr) (semsOf sl62) D62 L62 code62 (start 18 ps62 x) (finK rs62 ps62) = x62 x := by kernel_rfl
theorem k62 : Known Try.prog 62 sem62 :=
  fn_auto tr_ok eq_ok mixed_ok so62 (D := D62) (code := code62) (n := 18) Try.func62 (by kernel_rfl) (by kernel_rfl) (by kernel_rfl) (fun w0 mu _ hs => (loops_of (l := [(0, b62_0)]) (by kernel_rfl) (List.forall_mem_cons.2 ⟨loop62_0 _ w0 mu hs, (List.forall_mem_nil _)⟩))) t62_eq

/-! ### f98: spec.ItemOk -/
noncomputable def code98 : Code := match Try.f98.body with | some c => c | none => .skip
def ps98 : List AP := [.val true [.int .i64, .int .i64, .int .i64, .str]]
def rs98 : List RP := [{ src := .tmp 2, agg := false, ps := [.bool] }]
noncomputable def sl98 : SemL := [(29, (.shr, .shr, .shr, sem29))]
def D98 : Draws := fun _ => .nil
noncomputable def L98 {R : Type} : Loops R := fun _ _ _ _ => none
noncomputable def spec_ItemOk (m0c0 : Int) (m0c1 : Int) (m0c2 : Int) (m0c3 : ByteArray) : Option (Bool × Unit) :=
  Option.bind (spec_l01In m0c0 (1 : Int) (60 : Int)) fun y1 =>
  bif y1.1 then
    Option.bind (spec_l01In m0c1 (1 : Int) (5 : Int)) fun y2 =>
    bif y2.1 then
      Option.bind (spec_l01In m0c2 (1 : Int) (2 : Int)) fun y3 =>
      bif y3.1 then
        some (decide (((ByteArray.size m0c3 : Nat) : Int) ≤ (60 : Int)), ())
      else
        some (false, ())
    else
      some (false, ())
  else
    some (false, ())
noncomputable def x98 (x : Int × Int × Int × ByteArray × Unit) : Option (Bool × Unit) := spec_ItemOk x.1 x.2.1 x.2.2.1 x.2.2.2.1
noncomputable def sem98 : Sem1 := semOf ps98 rs98 x98
theorem so98 : SemsOk Try.prog (semsOf sl98) := sems_cons k29 (sems_nil)
theorem t98_eq (x : denR (headRT (ps98.map some))) : codeK (tabOf tr) (semsOf sl98) D98 L98 code98 (start 22 ps98 x) (finK rs98 ps98) = x98 x := by kernel_rfl
theorem k98 : Known Try.prog 98 sem98 :=
  fn_auto tr_ok eq_ok mixed_ok so98 (D := D98) (code := code98) (n := 22) Try.func98 (by kernel_rfl) (by kernel_rfl) (by kernel_rfl) (fun w0 mu _ hs => (loops_of (l := []) (by kernel_rfl) (List.forall_mem_nil _))) t98_eq

/-! ### f74: spec.ItemsOk -/
noncomputable def code74 : Code := match Try.f74.body with | some c => c | none => .skip
def ps74 : List AP := [.val false [.shr (.cons (.int .i64) (.cons (.int .i64) (.cons (.int .i64) (.cons .str .nil))))]]
def rs74 : List RP := [{ src := .tmp 2, agg := false, ps := [.bool] }]
noncomputable def sl74 : SemL := [(98, (.shr, .shr, .shr, sem98))]
def D74 : Draws := fun id => bif Nat.beq id 4 then .op 0 .any (.op 1 .any (.op 2 .any (.op 3 .take (.op 4 .one (.op 5 .any (.op 6 .any (.op 7 .any (.op 8 .any (.op 9 .any (.op 10 .any (.op 11 .any (.op 12 .any (.op 13 .any (.op 14 .any (.op 15 .take (.op 16 .any (.op 17 .any (.op 18 .any (.op 19 .any (.op 20 .take (.op 21 .any (.op 22 .any (.op 23 .any (.nil)))))))))))))))))))))))) else .nil
def hp74_0 : List (Option AP) := [some (.val false [.shr (.cons (.int .i64) (.cons (.int .i64) (.cons (.int .i64) (.cons .str .nil))))]), none, none, some (.val false [.int .i64]), none, none, none, none, none, none, none, none, none, none, none, none, none, none, none, none, none, none, none, none, none, none, none, none, none, none, none, none, none, none]
def e74_0 : List (Option AP) := [none, none, none, none, none, none, none, none, none, none, none, none, none, none, none, none, none, none, none, none, none, none, none, none, none, none, none, none, none, none, none, none, none, none]
def q74_0 : List (Option AP) := [none, none, some (.val false [.bool]), none, none, none, none, none, none, none, none, none, none, none, none, none, none, none, none, none, none, none, none, none, none, none, none, none, none, none, none, none, none, none]
abbrev H74_0 : Type := (List (Int × Int × Int × ByteArray × Unit)) × Int × Unit
abbrev E74_0 : Type := Unit
abbrev Q74_0 : Type := Bool × Unit
noncomputable def spec_ItemsOk_c0 (list0 : List (Int × Int × Int × ByteArray × Unit)) (i3 : Int) : Option (Sum H74_0 (Sum E74_0 Q74_0)) :=
  bif decide (i3 < ((List.length list0 : Nat) : Int)) then
    bif decide ((0 : Int) ≤ i3) then Option.bind ((list0)[Int.toNat i3]?) fun r1 =>
      Option.bind (spec_ItemOk r1.1 r1.2.1 r1.2.2.1 r1.2.2.2.1) fun y2 =>
      bif !y2.1 then
        some (.inr (.inr (false, ())))
      else bif decide ((0 : Int) < i3) then
        bif decide ((0 : Int) ≤ IntKind.i64.wrap (i3 - (1 : Int))) then Option.bind ((list0)[Int.toNat (IntKind.i64.wrap (i3 - (1 : Int)))]?) fun r3 =>
          bif decide ((0 : Int) ≤ i3) then Option.bind ((list0)[Int.toNat i3]?) fun r4 =>
            bif decide (r4.1 ≤ r3.1) then
              some (.inr (.inr (false, ())))
            else
              some (.inl (list0, IntKind.i64.wrap (i3 + (1 : Int)), ()))
          else none
        else none
      else
        some (.inl (list0, IntKind.i64.wrap (i3 + (1 : Int)), ()))
    else none
  else
    some (.inr (.inl (())))
noncomputable def spec_ItemsOk_r0 (x : H74_0) : Option (Sum H74_0 (Sum E74_0 Q74_0)) := spec_ItemsOk_c0 x.1 x.2.1
noncomputable def L74 {R : Type} : Loops R := fun id _ st k => bif Nat.beq id 0 then loopAt hp74_0 e74_0 q74_0 spec_ItemsOk_r0 st k else none
noncomputable def spec_ItemsOk (list0 : List (Int × Int × Int × ByteArray × Unit)) : Option (Bool × Unit) :=
  outK (loopV spec_ItemsOk_r0 (list0, (0 : Int), ())) (fun y1 =>
    some (true, ())) (fun y2 =>
    some (y2.1, ()))
noncomputable def x74 (x : (List (Int × Int × Int × ByteArray × Unit)) × Unit) : Option (Bool × Unit) := spec_ItemsOk x.1
noncomputable def sem74 : Sem1 := semOf ps74 rs74 x74
theorem so74 : SemsOk Try.prog (semsOf sl74) := sems_cons k98 (sems_nil)
noncomputable def b74_0 : Code := nthLoop code74 0
theorem t74_r0_eq (x : denR (headRT hp74_0)) : codeK (tabOf tr) (semsOf sl74) D74 L74 b74_0 (headSt hp74_0 x) (roundK 0 hp74_0 e74_0 q74_0) = spec_ItemsOk_r0 x := by kernel_rfl
theorem loop74_0 {R : Type} (r : R) (w0 : World) (mu : Mu) (hs : AnShape ps74 mu) : LoopAt Try.prog w0 mu 34 (L74 : Loops R) r 0 b74_0 :=
  loop_auto tr_ok eq_ok mixed_ok so74 (D := D74) hs (by kernel_rfl) (fun _ => (loops_of (l := []) (by kernel_rfl) (List.forall_mem_nil _))) t74_r0_eq (fun _ _ => rfl)
theorem t74_eq (x : denR (headRT (ps74.map some))) : codeK (tabOf tr) (semsOf sl74) D74 L74 code74 (start 34 ps74 x) (finK rs74 ps74) = x74 x := by kernel_rfl
theorem k74 : Known Try.prog 74 sem74 :=
  fn_auto tr_ok eq_ok mixed_ok so74 (D := D74) (code := code74) (n := 34) Try.func74 (by kernel_rfl) (by kernel_rfl) (by kernel_rfl) (fun w0 mu _ hs => (loops_of (l := [(0, b74_0)]) (by kernel_rfl) (List.forall_mem_cons.2 ⟨loop74_0 _ w0 mu hs, (List.forall_mem_nil _)⟩))) t74_eq

/-! ### f75: spec.l10Texts -/
noncomputable def code75 : Code := match Try.f75.body with | some c => c | none => .skip
def ps75 : List AP := [.val false [.shr (.cons (.int .i64) .nil)], .val false [.shr (.cons .str .nil)]]
def rs75 : List RP := [{ src := .tmp 4, agg := false, ps := [.bool] }]
noncomputable def sl75 : SemL := [(29, (.shr, .shr, .shr, sem29))]
def D75 : Draws := fun _ => .nil
def hp75_0 : List (Option AP) := [some (.val false [.shr (.cons (.int .i64) .nil)]), some (.val false [.shr (.cons .str .nil)]), none, none, none, some (.val false [.int .i64]), none, none, none, none, none, none, none, none, none, none, none, none, none, none, none, none, none, none, none, none, none, none, none, none, none, none, none, none, none, none, none, none, none, none, none, none]
def e75_0 : List (Option AP) := [some (.val false [.shr (.cons (.int .i64) .nil)]), some (.val false [.shr (.cons .str .nil)]), none, none, none, none, none, none, none, none, none, none, none, none, none, none, none, none, none, none, none, none, none, none, none, none, none, none, none, none, none, none, none, none, none, none, none, none, none, none, none, none]
def q75_0 : List (Option AP) := [none, none, none, none, some (.val false [.bool]), none, none, none, none, none, none, none, none, none, none, none, none, none, none, none, none, none, none, none, none, none, none, none, none, none, none, none, none, none, none, none, none, none, none, none, none, none]
abbrev H75_0 : Type := (List (Int × Unit)) × (List (ByteArray × Unit)) × Int × Unit
abbrev E75_0 : Type := (List (Int × Unit)) × (List (ByteArray × Unit)) × Unit
abbrev Q75_0 : Type := Bool × Unit
noncomputable def spec_l10Texts_c0 (level0 : List (Int × Unit)) (texts1 : List (ByteArray × Unit)) (i5 : Int) : Option (Sum H75_0 (Sum E75_0 Q75_0)) :=
  bif decide (i5 < ((List.length texts1 : Nat) : Int)) then
    bif decide (i5 < ((List.length level0 : Nat) : Int)) then
      bif decide ((0 : Int) ≤ i5) then Option.bind ((level0)[Int.toNat i5]?) fun r1 =>
        Option.bind (spec_l01In r1.1 (1 : Int) (2 : Int)) fun y2 =>
        bif !y2.1 then
          some (.inr (.inr (false, ())))
        else bif decide ((0 : Int) ≤ i5) then Option.bind ((texts1)[Int.toNat i5]?) fun r3 =>
          bif decide ((60 : Int) < ((ByteArray.size r3.1 : Nat) : Int)) then
            some (.inr (.inr (false, ())))
          else
            some (.inl (level0, texts1, IntKind.i64.wrap (i5 + (1 : Int)), ()))
        else none
      else none
    else
      some (.inr (.inl (level0, texts1, ())))
  else
    some (.inr (.inl (level0, texts1, ())))
noncomputable def spec_l10Texts_r0 (x : H75_0) : Option (Sum H75_0 (Sum E75_0 Q75_0)) := spec_l10Texts_c0 x.1 x.2.1 x.2.2.1
noncomputable def L75 {R : Type} : Loops R := fun id _ st k => bif Nat.beq id 0 then loopAt hp75_0 e75_0 q75_0 spec_l10Texts_r0 st k else none
noncomputable def spec_l10Texts (level0 : List (Int × Unit)) (texts1 : List (ByteArray × Unit)) : Option (Bool × Unit) :=
  outK (loopV spec_l10Texts_r0 (level0, texts1, (0 : Int), ())) (fun y1 =>
    bif decide (((List.length y1.2.1 : Nat) : Int) ≤ (20 : Int)) then
      some (decide (((List.length y1.1 : Nat) : Int) = ((List.length y1.2.1 : Nat) : Int)), ())
    else
      some (false, ())) (fun y2 =>
    some (y2.1, ()))
noncomputable def x75 (x : (List (Int × Unit)) × (List (ByteArray × Unit)) × Unit) : Option (Bool × Unit) := spec_l10Texts x.1 x.2.1
noncomputable def sem75 : Sem1 := semOf ps75 rs75 x75
theorem so75 : SemsOk Try.prog (semsOf sl75) := sems_cons k29 (sems_nil)
noncomputable def b75_0 : Code := nthLoop code75 0
theorem t75_r0_eq (x : denR (headRT hp75_0)) : codeK (tabOf tr) (semsOf sl75) D75 L75 b75_0 (headSt hp75_0 x) (roundK 0 hp75_0 e75_0 q75_0) = spec_l10Texts_r0 x := by kernel_rfl
theorem loop75_0 {R : Type} (r : R) (w0 : World) (mu : Mu) (hs : AnShape ps75 mu) : LoopAt Try.prog w0 mu 42 (L75 : Loops R) r 0 b75_0 :=
  loop_auto tr_ok eq_ok mixed_ok so75 (D := D75) hs (by kernel_rfl) (fun _ => (loops_of (l := []) (by kernel_rfl) (List.forall_mem_nil _))) t75_r0_eq (fun _ _ => rfl)
theorem t75_eq (x : denR (headRT (ps75.map some))) : codeK (tabOf tr) (semsOf sl75) D75 L75 code75 (start 42 ps75 x) (finK rs75 ps75) = x75 x := by kernel_rfl
theorem k75 : Known Try.prog 75 sem75 :=
  fn_auto tr_ok eq_ok mixed_ok so75 (D := D75) (code := code75) (n := 42) Try.func75 (by kernel_rfl) (by kernel_rfl) (by kernel_rfl) (fun w0 mu _ hs => (loops_of (l := [(0, b75_0)]) (by kernel_rfl) (List.forall_mem_cons.2 ⟨loop75_0 _ w0 mu hs, (List.forall_mem_nil _)⟩))) t75_eq

/-! ### f52: spec.ItemAt -/
noncomputable def code52 : Code := match Try.f52.body with | some c => c | none => .skip
def ps52 : List AP := [.val false [.shr (.cons (.int .i64) (.cons (.int .i64) (.cons (.int .i64) (.cons .str .nil))))], .val false [.int .i64]]
def rs52 : List RP := [{ src := .cell 4, agg := true, ps := [.int .i64, .int .i64, .int .i64, .str] }, { src := .tmp 5, agg := false, ps := [.bool] }]
noncomputable def sl52 : SemL := []
def D52 : Draws := fun _ => .nil
def hp52_0 : List (Option AP) := [some (.val false [.shr (.cons (.int .i64) (.cons (.int .i64) (.cons (.int .i64) (.cons .str .nil))))]), some (.val false [.int .i64]), none, none, some (.box false [.int .i64, .int .i64, .int .i64, .str]), none, some (.val false [.int .i64]), none, none, none, none, none, none, none, none, none, none, none, none, none, none, none, none, none, none]
def e52_0 : List (Option AP) := [none, none, none, none, some (.box false [.int .i64, .int .i64, .int .i64, .str]), none, none, none, none, none, none, none, none, none, none, none, none, none, none, none, none, none, none, none, none]
def q52_0 : List (Option AP) := [none, none, none, none, some (.box false [.int .i64, .int .i64, .int .i64, .str]), some (.val false [.bool]), none, none, none, none, none, none, none, none, none, none, none, none, none, none, none, none, none, none, none]
abbrev H52_0 : Type := (List (Int × Int × Int × ByteArray × Unit)) × Int × Int × Int × Int × ByteArray × Int × Unit
abbrev E52_0 : Type := Int × Int × Int × ByteArray × Unit
abbrev Q52_0 : Type := Int × Int × Int × ByteArray × Bool × Unit
noncomputable def spec_ItemAt_c0 (list0 : List (Int × Int × Int × ByteArray × Unit)) (seq1 : Int) (t4c0 : Int) (t4c1 : Int) (t4c2 : Int) (t4c3 : ByteArray) (i6 : Int) : Option (Sum H52_0 (Sum E52_0 Q52_0)) :=
  bif decide (i6 < ((List.length list0 : Nat) : Int)) then
    bif decide ((0 : Int) ≤ i6) then Option.bind ((list0)[Int.toNat i6]?) fun r1 =>
      bif decide (r1.1 = seq1) then
        bif decide ((0 : Int) ≤ i6) then Option.bind ((list0)[Int.toNat i6]?) fun r2 =>
          some (.inr (.inr (r2.1, r2.2.1, r2.2.2.1, r2.2.2.2.1, true, ())))
        else none
      else
        some (.inl (list0, seq1, t4c0, t4c1, t4c2, t4c3, IntKind.i64.wrap (i6 + (1 : Int)), ()))
    else none
  else
    some (.inr (.inl (t4c0, t4c1, t4c2, t4c3, ())))
noncomputable def spec_ItemAt_r0 (x : H52_0) : Option (Sum H52_0 (Sum E52_0 Q52_0)) := spec_ItemAt_c0 x.1 x.2.1 x.2.2.1 x.2.2.2.1 x.2.2.2.2.1 x.2.2.2.2.2.1 x.2.2.2.2.2.2.1
noncomputable def L52 {R : Type} : Loops R := fun id _ st k => bif Nat.beq id 0 then loopAt hp52_0 e52_0 q52_0 spec_ItemAt_r0 st k else none
noncomputable def spec_ItemAt (list0 : List (Int × Int × Int × ByteArray × Unit)) (seq1 : Int) : Option (Int × Int × Int × ByteArray × Bool × Unit) :=
  outK (loopV spec_ItemAt_r0 (list0, seq1, (0 : Int), (0 : Int), (0 : Int), ByteArray.empty, (0 : Int), ())) (fun y1 =>
    some ((0 : Int), (0 : Int), (0 : Int), ByteArray.empty, false, ())) (fun y2 =>
    some (y2.1, y2.2.1, y2.2.2.1, y2.2.2.2.1, y2.2.2.2.2.1, ()))
noncomputable def x52 (x : (List (Int × Int × Int × ByteArray × Unit)) × Int × Unit) : Option (Int × Int × Int × ByteArray × Bool × Unit) := spec_ItemAt x.1 x.2.1
noncomputable def sem52 : Sem1 := semOf ps52 rs52 x52
theorem so52 : SemsOk Try.prog (semsOf sl52) := sems_nil
noncomputable def b52_0 : Code := nthLoop code52 0
theorem t52_r0_eq (x : denR (headRT hp52_0)) : codeK (tabOf tr) (semsOf sl52) D52 L52 b52_0 (headSt hp52_0 x) (roundK 0 hp52_0 e52_0 q52_0) = spec_ItemAt_r0 x := by kernel_rfl
theorem loop52_0 {R : Type} (r : R) (w0 : World) (mu : Mu) (hs : AnShape ps52 mu) : LoopAt Try.prog w0 mu 25 (L52 : Loops R) r 0 b52_0 :=
  loop_auto tr_ok eq_ok mixed_ok so52 (D := D52) hs (by kernel_rfl) (fun _ => (loops_of (l := []) (by kernel_rfl) (List.forall_mem_nil _))) t52_r0_eq (fun _ _ => rfl)
theorem t52_eq (x : denR (headRT (ps52.map some))) : codeK (tabOf tr) (semsOf sl52) D52 L52 code52 (start 25 ps52 x) (finK rs52 ps52) = x52 x := by kernel_rfl
theorem k52 : Known Try.prog 52 sem52 :=
  fn_auto tr_ok eq_ok mixed_ok so52 (D := D52) (code := code52) (n := 25) Try.func52 (by kernel_rfl) (by kernel_rfl) (by kernel_rfl) (fun w0 mu _ hs => (loops_of (l := [(0, b52_0)]) (by kernel_rfl) (List.forall_mem_cons.2 ⟨loop52_0 _ w0 mu hs, (List.forall_mem_nil _)⟩))) t52_eq

/-! ### f51: spec.AruOf -/
noncomputable def code51 : Code := match Try.f51.body with | some c => c | none => .skip
def ps51 : List AP := [.val false [.shr (.cons (.int .i64) (.cons (.int .i64) (.cons (.int .i64) (.cons .str .nil))))]]
def rs51 : List RP := [{ src := .tmp 2, agg := false, ps := [.int .i64] }]
noncomputable def sl51 : SemL := [(52, (.shr, .shr, .shr, sem52))]
def D51 : Draws := fun _ => .nil
def hp51_0 : List (Option AP) := [some (.val false [.shr (.cons (.int .i64) (.cons (.int .i64) (.cons (.int .i64) (.cons .str .nil))))]), none, none, some (.val false [.int .i64]), some (.val false [.int .i64]), none, none, none, none, none, none, none, none, none, none, none, none, none, none, none, none, none, none, none, none, none]
def e51_0 : List (Option AP) := [none, none, none, some (.val false [.int .i64]), none, none, none, none, none, none, none, none, none, none, none, none, none, none, none, none, none, none, none, none, none, none]
def q51_0 : List (Option AP) := [none, none, some (.val false [.int .i64]), none, none, none, none, none, none, none, none, none, none, none, none, none, none, none, none, none, none, none, none, none, none, none]
abbrev H51_0 : Type := (List (Int × Int × Int × ByteArray × Unit)) × Int × Int × Unit
abbrev E51_0 : Type := Int × Unit
abbrev Q51_0 : Type := Int × Unit
noncomputable def spec_AruOf_c0 (list0 : List (Int × Int × Int × ByteArray × Unit)) (n3 : Int) (i4 : Int) : Option (Sum H51_0 (Sum E51_0 Q51_0)) :=
  bif decide (i4 < ((List.length list0 : Nat) : Int)) then
    Option.bind (spec_ItemAt list0 (IntKind.i64.wrap (n3 + (1 : Int)))) fun y1 =>
    bif !y1.2.2.2.2.1 then
      some (.inr (.inr (n3, ())))
    else
      some (.inl (list0, IntKind.i64.wrap (n3 + (1 : Int)), IntKind.i64.wrap (i4 + (1 : Int)), ()))
  else
    some (.inr (.inl (n3, ())))
noncomputable def spec_AruOf_r0 (x : H51_0) : Option (Sum H51_0 (Sum E51_0 Q51_0)) := spec_AruOf_c0 x.1 x.2.1 x.2.2.1
noncomputable def L51 {R : Type} : Loops R := fun id _ st k => bif Nat.beq id 0 then loopAt hp51_0 e51_0 q51_0 spec_AruOf_r0 st k else none
noncomputable def spec_AruOf (list0 : List (Int × Int × Int × ByteArray × Unit)) : Option (Int × Unit) :=
  outK (loopV spec_AruOf_r0 (list0, (0 : Int), (0 : Int), ())) (fun y1 =>
    some (y1.1, ())) (fun y2 =>
    some (y2.1, ()))
noncomputable def x51 (x : (List (Int × Int × Int × ByteArray × Unit)) × Unit) : Option (Int × Unit) := spec_AruOf x.1
noncomputable def sem51 : Sem1 := semOf ps51 rs51 x51
theorem so51 : SemsOk Try.prog (semsOf sl51) := sems_cons k52 (sems_nil)
noncomputable def b51_0 : Code := nthLoop code51 0
theorem t51_r0_eq (x : denR (headRT hp51_0)) : codeK (tabOf tr) (semsOf sl51) D51 L51 b51_0 (headSt hp51_0 x) (roundK 0 hp51_0 e51_0 q51_0) = spec_AruOf_r0 x := by kernel_rfl
theorem loop51_0 {R : Type} (r : R) (w0 : World) (mu : Mu) (hs : AnShape ps51 mu) : LoopAt Try.prog w0 mu 26 (L51 : Loops R) r 0 b51_0 :=
  loop_auto tr_ok eq_ok mixed_ok so51 (D := D51) hs (by kernel_rfl) (fun _ => (loops_of (l := []) (by kernel_rfl) (List.forall_mem_nil _))) t51_r0_eq (fun _ _ => rfl)
theorem t51_eq (x : denR (headRT (ps51.map some))) : codeK (tabOf tr) (semsOf sl51) D51 L51 code51 (start 26 ps51 x) (finK rs51 ps51) = x51 x := by kernel_rfl
theorem k51 : Known Try.prog 51 sem51 :=
  fn_auto tr_ok eq_ok mixed_ok so51 (D := D51) (code := code51) (n := 26) Try.func51 (by kernel_rfl) (by kernel_rfl) (by kernel_rfl) (fun w0 mu _ hs => (loops_of (l := [(0, b51_0)]) (by kernel_rfl) (List.forall_mem_cons.2 ⟨loop51_0 _ w0 mu hs, (List.forall_mem_nil _)⟩))) t51_eq

/-! ### f102: spec.l05SameInts -/
noncomputable def code102 : Code := match Try.f102.body with | some c => c | none => .skip
def ps102 : List AP := [.val false [.shr (.cons (.int .i64) .nil)], .val false [.shr (.cons (.int .i64) .nil)]]
def rs102 : List RP := [{ src := .tmp 4, agg := false, ps := [.bool] }]
noncomputable def sl102 : SemL := []
def D102 : Draws := fun id => bif Nat.beq id 6 then .op 0 .any (.op 1 .any (.op 2 .any (.op 3 .take (.op 4 .any (.op 5 .any (.op 6 .any (.op 7 .take (.op 8 .any (.nil))))))))) else .nil
def hp102_0 : List (Option AP) := [some (.val false [.shr (.cons (.int .i64) .nil)]), some (.val false [.shr (.cons (.int .i64) .nil)]), none, none, none, some (.val false [.int .i64]), none, none, none, none, none, none, none, none, none, none, none, none, none, none, none, none, none, none, none, none]
def e102_0 : List (Option AP) := [none, none, none, none, none, none, none, none, none, none, none, none, none, none, none, none, none, none, none, none, none, none, none, none, none, none]
def q102_0 : List (Option AP) := [none, none, none, none, some (.val false [.bool]), none, none, none, none, none, none, none, none, none, none, none, none, none, none, none, none, none, none, none, none, none]
abbrev H102_0 : Type := (List (Int × Unit)) × (List (Int × Unit)) × Int × Unit
abbrev E102_0 : Type := Unit
abbrev Q102_0 : Type := Bool × Unit
noncomputable def spec_l05SameInts_c0 (a0 : List (Int × Unit)) (b1 : List (Int × Unit)) (i5 : Int) : Option (Sum H102_0 (Sum E102_0 Q102_0)) :=
  bif decide (i5 < ((List.length a0 : Nat) : Int)) then
    bif decide ((0 : Int) ≤ i5) then Option.bind ((a0)[Int.toNat i5]?) fun r1 =>
      bif decide ((0 : Int) ≤ i5) then Option.bind ((b1)[Int.toNat i5]?) fun r2 =>
        bif !decide (r1.1 = r2.1) then
          some (.inr (.inr (false, ())))
        else
          some (.inl (a0, b1, IntKind.i64.wrap (i5 + (1 : Int)), ()))
      else none
    else none
  else
    some (.inr (.inl (())))
noncomputable def spec_l05SameInts_r0 (x : H102_0) : Option (Sum H102_0 (Sum E102_0 Q102_0)) := spec_l05SameInts_c0 x.1 x.2.1 x.2.2.1
noncomputable def L102 {R : Type} : Loops R := fun id _ st k => bif Nat.beq id 0 then loopAt hp102_0 e102_0 q102_0 spec_l05SameInts_r0 st k else none
noncomputable def spec_l05SameInts (a0 : List (Int × Unit)) (b1 : List (Int × Unit)) : Option (Bool × Unit) :=
  bif !decide (((List.length a0 : Nat) : Int) = ((List.length b1 : Nat) : Int)) then
    some (false, ())
  else
    outK (loopV spec_l05SameInts_r0 (a0, b1, (0 : Int), ())) (fun y1 =>
      some (true, ())) (fun y2 =>
      some (y2.1, ()))
noncomputable def x102 (x : (List (Int × Unit)) × (List (Int × Unit)) × Unit) : Option (Bool × Unit) := spec_l05SameInts x.1 x.2.1
noncomputable def sem102 : Sem1 := semOf ps102 rs102 x102
theorem so102 : SemsOk Try.prog (semsOf sl102) := sems_nil
noncomputable def b102_0 : Code := nthLoop code102 0
theorem t102_r0_eq (x : denR (headRT hp102_0)) : codeK (tabOf tr) (semsOf sl102) D102 L102 b102_0 (headSt hp102_0 x) (roundK 0 hp102_0 e102_0 q102_0) = spec_l05SameInts_r0 x := by kernel_rfl
theorem loop102_0 {R : Type} (r : R) (w0 : World) (mu : Mu) (hs : AnShape ps102 mu) : LoopAt Try.prog w0 mu 26 (L102 : Loops R) r 0 b102_0 :=
  loop_auto tr_ok eq_ok mixed_ok so102 (D := D102) hs (by kernel_rfl) (fun _ => (loops_of (l := []) (by kernel_rfl) (List.forall_mem_nil _))) t102_r0_eq (fun _ _ => rfl)
theorem t102_eq (x : denR (headRT (ps102.map some))) : codeK (tabOf tr) (semsOf sl102) D102 L102 code102 (start 26 ps102 x) (finK rs102 ps102) = x102 x := by kernel_rfl
theorem k102 : Known Try.prog 102 sem102 :=
  fn_auto tr_ok eq_ok mixed_ok so102 (D := D102) (code := code102) (n := 26) Try.func102 (by kernel_rfl) (by kernel_rfl) (by kernel_rfl) (fun w0 mu _ hs => (loops_of (l := [(0, b102_0)]) (by kernel_rfl) (List.forall_mem_cons.2 ⟨loop102_0 _ w0 mu hs, (List.forall_mem_nil _)⟩))) t102_eq

/-! ### f99: spec.l05SameToken -/
noncomputable def code99 : Code := match Try.f99.body with | some c => c | none => .skip
def ps99 : List AP := [.val true [.int .i64, .int .i64, .int .i64, .int .i64, .int .i64, .shr (.cons (.int .i64) .nil)], .val true [.int .i64, .int .i64, .int .i64, .int .i64, .int .i64, .shr (.cons (.int .i64) .nil)]]
def rs99 : List RP := [{ src := .tmp 4, agg := false, ps := [.bool] }]
noncomputable def sl99 : SemL := [(102, (.shr, .shr, .shr, sem102))]
def D99 : Draws := fun _ => .nil
noncomputable def L99 {R : Type} : Loops R := fun _ _ _ _ => none
noncomputable def spec_l05SameToken (a0c0 : Int) (a0c1 : Int) (a0c2 : Int) (a0c3 : Int) (a0c4 : Int) (a0c5 : List (Int × Unit)) (b1c0 : Int) (b1c1 : Int) (b1c2 : Int) (b1c3 : Int) (b1c4 : Int) (b1c5 : List (Int × Unit)) : Option (Bool × Unit) :=
  bif decide (a0c0 = b1c0) then
    bif decide (a0c1 = b1c1) then
      bif decide (a0c2 = b1c2) then
        bif decide (a0c3 = b1c3) then
          bif decide (a0c4 = b1c4) then
            Option.bind (spec_l05SameInts a0c5 b1c5) fun y1 =>
            some (y1.1, ())
          else
            some (false, ())
        else
          some (false, ())
      else
        some (false, ())
    else
      some (false, ())
  else
    some (false, ())
noncomputable def x99 (x : Int × Int × Int × Int × Int × (List (Int × Unit)) × Int × Int × Int × Int × Int × (List (Int × Unit)) × Unit) : Option (Bool × Unit) := spec_l05SameToken x.1 x.2.1 x.2.2.1 x.2.2.2.1 x.2.2.2.2.1 x.2.2.2.2.2.1 x.2.2.2.2.2.2.1 x.2.2.2.2.2.2.2.1 x.2.2.2.2.2.2.2.2.1 x.2.2.2.2.2.2.2.2.2.1 x.2.2.2.2.2.2.2.2.2.2.1 x.2.2.2.2.2.2.2.2.2.2.2.1
noncomputable def sem99 : Sem1 := semOf ps99 rs99 x99
theorem so99 : SemsOk Try.prog (semsOf sl99) := sems_cons k102 (sems_nil)
theorem t99_eq (x : denR (headRT (ps99.map some))) : codeK (tabOf tr) (semsOf sl99) D99 L99 code99 (start 45 ps99 x) (finK rs99 ps99) = x99 x := by kernel_rfl
theorem k99 : Known Try.prog 99 sem99 :=
  fn_auto tr_ok eq_ok mixed_ok so99 (D := D99) (code := code99) (n := 45) Try.func99 (by kernel_rfl) (by kernel_rfl) (by kernel_rfl) (fun w0 mu _ hs => (loops_of (l := []) (by kernel_rfl) (List.forall_mem_nil _))) t99_eq

/-! ### f76: spec.l10Blank -/
noncomputable def code76 : Code := match Try.f76.body with | some c => c | none => .skip
def ps76 : List AP := [.val true [.int .i64, .int .i64, .int .i64, .int .i64, .int .i64, .shr (.cons (.int .i64) .nil)]]
def rs76 : List RP := [{ src := .tmp 2, agg := false, ps := [.bool] }]
noncomputable def sl76 : SemL := [(99, (.shr, .shr, .shr, sem99))]
def D76 : Draws := fun _ => .nil
noncomputable def L76 {R : Type} : Loops R := fun _ _ _ _ => none
noncomputable def spec_l10Blank (t0c0 : Int) (t0c1 : Int) (t0c2 : Int) (t0c3 : Int) (t0c4 : Int) (t0c5 : List (Int × Unit)) : Option (Bool × Unit) :=
  Option.bind (spec_l05SameToken t0c0 t0c1 t0c2 t0c3 t0c4 t0c5 (0 : Int) (0 : Int) (0 : Int) (0 : Int) (0 : Int) []) fun y1 =>
  some (y1.1, ())
noncomputable def x76 (x : Int × Int × Int × Int × Int × (List (Int × Unit)) × Unit) : Option (Bool × Unit) := spec_l10Blank x.1 x.2.1 x.2.2.1 x.2.2.2.1 x.2.2.2.2.1 x.2.2.2.2.2.1
noncomputable def sem76 : Sem1 := semOf ps76 rs76 x76
theorem so76 : SemsOk Try.prog (semsOf sl76) := sems_cons k99 (sems_nil)
theorem t76_eq (x : denR (headRT (ps76.map some))) : codeK (tabOf tr) (semsOf sl76) D76 L76 code76 (start 6 ps76 x) (finK rs76 ps76) = x76 x := by kernel_rfl
theorem k76 : Known Try.prog 76 sem76 :=
  fn_auto tr_ok eq_ok mixed_ok so76 (D := D76) (code := code76) (n := 6) Try.func76 (by kernel_rfl) (by kernel_rfl) (by kernel_rfl) (fun w0 mu _ hs => (loops_of (l := []) (by kernel_rfl) (List.forall_mem_nil _))) t76_eq

/-! ### f77: spec.TokenOk -/
noncomputable def code77 : Code := match Try.f77.body with | some c => c | none => .skip
def ps77 : List AP := [.val true [.int .i64, .int .i64, .int .i64, .int .i64, .int .i64, .shr (.cons (.int .i64) .nil)]]
def rs77 : List RP := [{ src := .tmp 2, agg := false, ps := [.bool] }]
noncomputable def sl77 : SemL := [(29, (.shr, .shr, .shr, sem29))]
def D77 : Draws := fun id => bif Nat.beq id 6 then .op 0 .any (.op 1 .take (.op 2 .any (.op 3 .any (.op 4 .take (.op 5 .any (.op 6 .take (.op 7 .one (.op 8 .any (.op 9 .any (.op 10 .any (.op 11 .any (.op 12 .any (.op 13 .any (.op 14 .take (.op 15 .any (.op 16 .any (.op 17 .any (.op 18 .take (.op 19 .any (.op 20 .take (.op 21 .any (.op 22 .any (.op 23 .take (.op 24 .any (.op 25 .any (.op 26 .any (.nil))))))))))))))))))))))))))) else .nil
def hp77_0 : List (Option AP) := [none, some (.box false [.int .i64, .int .i64, .int .i64, .int .i64, .int .i64, .shr (.cons (.int .i64) .nil)]), none, some (.val false [.int .i64]), none, none, none, none, none, none, none, none, none, none, none, none, none, none, none, none, none, none, none, none, none, none, none, none, none, none, none, none, none, none, none, none, none, none, none, none, none, none, none, none, none, none, none, none, none, none, none, none, none, none, none, none, none, none, none, none, none, none, none, none, none, none, none, none, none, none, none, none, none, none]
def e77_0 : List (Option AP) := [none, none, none, none, none, none, none, none, none, none, none, none, none, none, none, none, none, none, none, none, none, none, none, none, none, none, none, none, none, none, none, none, none, none, none, none, none, none, none, none, none, none, none, none, none, none, none, none, none, none, none, none, none, none, none, none, none, none, none, none, none, none, none, none, none, none, none, none, none, none, none, none, none, none]
def q77_0 : List (Option AP) := [none, none, some (.val false [.bool]), none, none, none, none, none, none, none, none, none, none, none, none, none, none, none, none, none, none, none, none, none, none, none, none, none, none, none, none, none, none, none, none, none, none, none, none, none, none, none, none, none, none, none, none, none, none, none, none, none, none, none, none, none, none, none, none, none, none, none, none, none, none, none, none, none, none, none, none, none, none, none]
abbrev H77_0 : Type := Int × Int × Int × Int × Int × (List (Int × Unit)) × Int × Unit
abbrev E77_0 : Type := Unit
abbrev Q77_0 : Type := Bool × Unit
noncomputable def spec_TokenOk_c0 (t1c0 : Int) (t1c1 : Int) (t1c2 : Int) (t1c3 : Int) (t1c4 : Int) (t1c5 : List (Int × Unit)) (i3 : Int) : Option (Sum H77_0 (Sum E77_0 Q77_0)) :=
  bif decide (i3 < ((List.length t1c5 : Nat) : Int)) then
    bif decide ((0 : Int) ≤ i3) then Option.bind ((t1c5)[Int.toNat i3]?) fun r6 =>
      Option.bind (spec_l01In r6.1 (1 : Int) t1c2) fun y7 =>
      bif !y7.1 then
        some (.inr (.inr (false, ())))
      else bif decide ((0 : Int) < i3) then
        bif decide ((0 : Int) ≤ IntKind.i64.wrap (i3 - (1 : Int))) then Option.bind ((t1c5)[Int.toNat (IntKind.i64.wrap (i3 - (1 : Int)))]?) fun r8 =>
          bif decide ((0 : Int) ≤ i3) then Option.bind ((t1c5)[Int.toNat i3]?) fun r9 =>
            bif decide (r9.1 ≤ r8.1) then
              some (.inr (.inr (false, ())))
            else
              some (.inl (t1c0, t1c1, t1c2, t1c3, t1c4, t1c5, IntKind.i64.wrap (i3 + (1 : Int)), ()))
          else none
        else none
      else
        some (.inl (t1c0, t1c1, t1c2, t1c3, t1c4, t1c5, IntKind.i64.wrap (i3 + (1 : Int)), ()))
    else none
  else
    some (.inr (.inl (())))
noncomputable def spec_TokenOk_r0 (x : H77_0) : Option (Sum H77_0 (Sum E77_0 Q77_0)) := spec_TokenOk_c0 x.1 x.2.1 x.2.2.1 x.2.2.2.1 x.2.2.2.2.1 x.2.2.2.2.2.1 x.2.2.2.2.2.2.1
noncomputable def L77 {R : Type} : Loops R := fun id _ st k => bif Nat.beq id 0 then loopAt hp77_0 e77_0 q77_0 spec_TokenOk_r0 st k else none
noncomputable def spec_TokenOk (t0c0 : Int) (t0c1 : Int) (t0c2 : Int) (t0c3 : Int) (t0c4 : Int) (t0c5 : List (Int × Unit)) : Option (Bool × Unit) :=
  Option.bind (spec_l01In t0c0 (1 : Int) (9 : Int)) fun y1 =>
  bif !y1.1 then
    some (false, ())
  else
    Option.bind (spec_l01In t0c1 (1 : Int) (1000000000 : Int)) fun y2 =>
    bif !y2.1 then
      some (false, ())
    else
      Option.bind (spec_l01In t0c2 (0 : Int) (60 : Int)) fun y3 =>
      bif !y3.1 then
        some (false, ())
      else
        Option.bind (spec_l01In t0c3 (0 : Int) t0c2) fun y4 =>
        bif !y4.1 then
          some (false, ())
        else
          Option.bind (spec_l01In t0c4 (0 : Int) (5 : Int)) fun y5 =>
          bif !y5.1 then
            some (false, ())
          else bif decide ((20 : Int) < ((List.length t0c5 : Nat) : Int)) then
            some (false, ())
          else
            outK (loopV spec_TokenOk_r0 (t0c0, t0c1, t0c2, t0c3, t0c4, t0c5, (0 : Int), ())) (fun y6 =>
              some (true, ())) (fun y7 =>
              some (y7.1, ()))
noncomputable def x77 (x : Int × Int × Int × Int × Int × (List (Int × Unit)) × Unit) : Option (Bool × Unit) := spec_TokenOk x.1 x.2.1 x.2.2.1 x.2.2.2.1 x.2.2.2.2.1 x.2.2.2.2.2.1
noncomputable def sem77 : Sem1 := semOf ps77 rs77 x77
theorem so77 : SemsOk Try.prog (semsOf sl77) := sems_cons k29 (sems_nil)
noncomputable def b77_0 : Code := nthLoop code77 0
theorem t77_r0_eq (x : denR (headRT hp77_0)) : codeK (tabOf tr) (semsOf sl77) D77 L77 b77_0 (headSt hp77_0 x) (roundK 0 hp77_0 e77_0 q77_0) = spec_TokenOk_r0 x := by kernel_rfl
theorem loop77_0 {R : Type} (r : R) (w0 : World) (mu : Mu) (hs : AnShape ps77 mu) : LoopAt Try.prog w0 mu 74 (L77 : Loops R) r 0 b77_0 :=
  loop_auto tr_ok eq_ok mixed_ok so77 (D := D77) hs (by kernel_rfl) (fun _ => (loops_of (l := []) (by kernel_rfl) (List.forall_mem_nil _))) t77_r0_eq (fun _ _ => rfl)
theorem t77_eq (x : denR (headRT (ps77.map some))) : codeK (tabOf tr) (semsOf sl77) D77 L77 code77 (start 74 ps77 x) (finK rs77 ps77) = x77 x := by kernel_rfl
theorem k77 : Known Try.prog 77 sem77 :=
  fn_auto tr_ok eq_ok mixed_ok so77 (D := D77) (code := code77) (n := 74) Try.func77 (by kernel_rfl) (by kernel_rfl) (by kernel_rfl) (fun w0 mu _ hs => (loops_of (l := [(0, b77_0)]) (by kernel_rfl) (List.forall_mem_cons.2 ⟨loop77_0 _ w0 mu hs, (List.forall_mem_nil _)⟩))) t77_eq

/-! ### f28: spec.MateOk -/
noncomputable def code28 : Code := match Try.f28.body with | some c => c | none => .skip
def ps28 : List AP := [.val true [.int .i64, .int .i64, .shr (.cons (.int .i64) .nil), .shr (.cons (.int .i64) (.cons (.int .i64) (.cons (.int .i64) (.cons .str .nil)))), .shr (.cons (.int .i64) .nil), .shr (.cons .str .nil), .int .i64, .int .i64, .int .i64, .int .i64, .int .i64, .int .i64, .int .i64, .int .i64, .int .i64, .shr (.cons (.int .i64) .nil)]]
def rs28 : List RP := [{ src := .tmp 2, agg := false, ps := [.bool] }]
noncomputable def sl28 : SemL := [(61, (.shr, .shr, .shr, sem61)), (62, (.shr, .shr, .shr, sem62)), (74, (.shr, .shr, .shr, sem74)), (75, (.shr, .shr, .shr, sem75)), (29, (.shr, .shr, .shr, sem29)), (51, (.shr, .shr, .shr, sem51)), (76, (.shr, .shr, .shr, sem76)), (77, (.shr, .shr, .shr, sem77))]
def D28 : Draws := fun _ => .nil
noncomputable def L28 {R : Type} : Loops R := fun _ _ _ _ => none
noncomputable def spec_MateOk (m0c0 : Int) (m0c1 : Int) (m0c2 : List (Int × Unit)) (m0c3 : List (Int × Int × Int × ByteArray × Unit)) (m0c4 : List (Int × Unit)) (m0c5 : List (ByteArray × Unit)) (m0c6 : Int) (m0c7 : Int) (m0c8 : Int) (m0c9 : Int) (m0c10 : Int) (m0c11 : Int) (m0c12 : Int) (m0c13 : Int) (m0c14 : Int) (m0c15 : List (Int × Unit)) : Option (Bool × Unit) :=
  Option.bind (spec_RingOk m0c1 m0c2) fun y1 =>
  bif !y1.1 then
    some (false, ())
  else
    Option.bind (spec_l05In m0c2 m0c0) fun y2 =>
    bif !y2.1 then
      some (false, ())
    else
      Option.bind (spec_ItemsOk m0c3) fun y3 =>
      bif !y3.1 then
        some (false, ())
      else
        Option.bind (spec_l10Texts m0c4 m0c5) fun y4 =>
        bif !y4.1 then
          some (false, ())
        else
          Option.bind (spec_l01In m0c6 (0 : Int) (1000000000 : Int)) fun y5 =>
          bif !y5.1 then
            some (false, ())
          else
            Option.bind (spec_l01In m0c7 (0 : Int) (60 : Int)) fun y6 =>
            bif !y6.1 then
              some (false, ())
            else
              Option.bind (spec_AruOf m0c3) fun y7 =>
              Option.bind (spec_l01In m0c8 (0 : Int) y7.1) fun y8 =>
              bif y8.1 then
                Option.bind (spec_l01In m0c9 (0 : Int) y7.1) fun y9 =>
                bif y9.1 then
                  Option.bind (spec_l10Blank m0c10 m0c11 m0c12 m0c13 m0c14 m0c15) fun y10 =>
                  bif y10.1 then
                    some (true, ())
                  else
                    Option.bind (spec_TokenOk m0c10 m0c11 m0c12 m0c13 m0c14 m0c15) fun y11 =>
                    some (y11.1, ())
                else
                  some (false, ())
              else
                some (false, ())
noncomputable def x28 (x : Int × Int × (List (Int × Unit)) × (List (Int × Int × Int × ByteArray × Unit)) × (List (Int × Unit)) × (List (ByteArray × Unit)) × Int × Int × Int × Int × Int × Int × Int × Int × Int × (List (Int × Unit)) × Unit) : Option (Bool × Unit) := spec_MateOk x.1 x.2.1 x.2.2.1 x.2.2.2.1 x.2.2.2.2.1 x.2.2.2.2.2.1 x.2.2.2.2.2.2.1 x.2.2.2.2.2.2.2.1 x.2.2.2.2.2.2.2.2.1 x.2.2.2.2.2.2.2.2.2.1 x.2.2.2.2.2.2.2.2.2.2.1 x.2.2.2.2.2.2.2.2.2.2.2.1 x.2.2.2.2.2.2.2.2.2.2.2.2.1 x.2.2.2.2.2.2.2.2.2.2.2.2.2.1 x.2.2.2.2.2.2.2.2.2.2.2.2.2.2.1 x.2.2.2.2.2.2.2.2.2.2.2.2.2.2.2.1
noncomputable def sem28 : Sem1 := semOf ps28 rs28 x28
theorem so28 : SemsOk Try.prog (semsOf sl28) := sems_cons k61 (sems_cons k62 (sems_cons k74 (sems_cons k75 (sems_cons k29 (sems_cons k51 (sems_cons k76 (sems_cons k77 (sems_nil))))))))
theorem t28_eq (x : denR (headRT (ps28.map some))) : codeK (tabOf tr) (semsOf sl28) D28 L28 code28 (start 66 ps28 x) (finK rs28 ps28) = x28 x := by kernel_rfl
theorem k28 : Known Try.prog 28 sem28 :=
  fn_auto tr_ok eq_ok mixed_ok so28 (D := D28) (code := code28) (n := 66) Try.func28 (by kernel_rfl) (by kernel_rfl) (by kernel_rfl) (fun w0 mu _ hs => (loops_of (l := []) (by kernel_rfl) (List.forall_mem_nil _))) t28_eq

/-! ### f78: spec.l05CopyToken -/
noncomputable def code78 : Code := match Try.f78.body with | some c => c | none => .skip
def ps78 : List AP := [.val true [.int .i64, .int .i64, .int .i64, .int .i64, .int .i64, .shr (.cons (.int .i64) .nil)]]
def rs78 : List RP := [{ src := .cell 2, agg := true, ps := [.int .i64, .int .i64, .int .i64, .int .i64, .int .i64, .own (.cons (.int .i64) .nil)] }]
noncomputable def sl78 : SemL := []
def D78 : Draws := fun _ => .nil
noncomputable def L78 {R : Type} : Loops R := fun _ _ _ _ => none
noncomputable def spec_l05CopyToken (t0c0 : Int) (t0c1 : Int) (t0c2 : Int) (t0c3 : Int) (t0c4 : Int) (t0c5 : List (Int × Unit)) : Option (Int × Int × Int × Int × Int × (List (Int × Unit)) × Unit) :=
  bif Nat.ble ((0 + (List.length t0c5)) * 8) lim then some (t0c0, t0c1, t0c2, t0c3, t0c4, [] ++ t0c5, ())
  else none
noncomputable def x78 (x : Int × Int × Int × Int × Int × (List (Int × Unit)) × Unit) : Option (Int × Int × Int × Int × Int × (List (Int × Unit)) × Unit) := spec_l05CopyToken x.1 x.2.1 x.2.2.1 x.2.2.2.1 x.2.2.2.2.1 x.2.2.2.2.2.1
noncomputable def sem78 : Sem1 := semOf ps78 rs78 x78
theorem so78 : SemsOk Try.prog (semsOf sl78) := sems_nil
theorem t78_eq (x : denR (headRT (ps78.map some))) : codeK (tabOf tr) (semsOf sl78) D78 L78 code78 (start 9 ps78 x) (finK rs78 ps78) = x78 x := by kernel_rfl
theorem k78 : Known Try.prog 78 sem78 :=
  fn_auto tr_ok eq_ok mixed_ok so78 (D := D78) (code := code78) (n := 9) Try.func78 (by kernel_rfl) (by kernel_rfl) (by kernel_rfl) (fun w0 mu _ hs => (loops_of (l := []) (by kernel_rfl) (List.forall_mem_nil _))) t78_eq

/-! ### f30: spec.l10Copy -/
noncomputable def code30 : Code := match Try.f30.body with | some c => c | none => .skip
def ps30 : List AP := [.val true [.int .i64, .int .i64, .shr (.cons (.int .i64) .nil), .shr (.cons (.int .i64) (.cons (.int .i64) (.cons (.int .i64) (.cons .str .nil)))), .shr (.cons (.int .i64) .nil), .shr (.cons .str .nil), .int .i64, .int .i64, .int .i64, .int .i64, .int .i64, .int .i64, .int .i64, .int .i64, .int .i64, .shr (.cons (.int .i64) .nil)]]
def rs30 : List RP := [{ src := .cell 2, agg := true, ps := [.int .i64, .int .i64, .own (.cons (.int .i64) .nil), .own (.cons (.int .i64) (.cons (.int .i64) (.cons (.int .i64) (.cons .str .nil)))), .own (.cons (.int .i64) .nil), .own (.cons .str .nil), .int .i64, .int .i64, .int .i64, .int .i64, .int .i64, .int .i64, .int .i64, .int .i64, .int .i64, .own (.cons (.int .i64) .nil)] }]
noncomputable def sl30 : SemL := [(78, (.shr, .shr, .shr, sem78))]
def D30 : Draws := fun _ => .nil
noncomputable def L30 {R : Type} : Loops R := fun _ _ _ _ => none
noncomputable def spec_l10Copy (m0c0 : Int) (m0c1 : Int) (m0c2 : List (Int × Unit)) (m0c3 : List (Int × Int × Int × ByteArray × Unit)) (m0c4 : List (Int × Unit)) (m0c5 : List (ByteArray × Unit)) (m0c6 : Int) (m0c7 : Int) (m0c8 : Int) (m0c9 : Int) (m0c10 : Int) (m0c11 : Int) (m0c12 : Int) (m0c13 : Int) (m0c14 : Int) (m0c15 : List (Int × Unit)) : Option (Int × Int × (List (Int × Unit)) × (List (Int × Int × Int × ByteArray × Unit)) × (List (Int × Unit)) × (List (ByteArray × Unit)) × Int × Int × Int × Int × Int × Int × Int × Int × Int × (List (Int × Unit)) × Unit) :=
  bif Nat.ble ((0 + (List.length m0c2)) * 8) lim then bif Nat.ble ((0 + (List.length m0c3)) * 40) lim then bif Nat.ble ((0 + (List.length m0c4)) * 8) lim then bif Nat.ble ((0 + (List.length m0c5)) * 16) lim then Option.bind (spec_l05CopyToken m0c10 m0c11 m0c12 m0c13 m0c14 m0c15) fun y1 =>
          some (m0c0, m0c1, [] ++ m0c2, [] ++ m0c3, [] ++ m0c4, [] ++ m0c5, m0c6, m0c7, m0c8, m0c9, y1.1, y1.2.1, y1.2.2.1, y1.2.2.2.1, y1.2.2.2.2.1, y1.2.2.2.2.2.1, ())
        else none
      else none
    else none
  else none
noncomputable def x30 (x : Int × Int × (List (Int × Unit)) × (List (Int × Int × Int × ByteArray × Unit)) × (List (Int × Unit)) × (List (ByteArray × Unit)) × Int × Int × Int × Int × Int × Int × Int × Int × Int × (List (Int × Unit)) × Unit) : Option (Int × Int × (List (Int × Unit)) × (List (Int × Int × Int × ByteArray × Unit)) × (List (Int × Unit)) × (List (ByteArray × Unit)) × Int × Int × Int × Int × Int × Int × Int × Int × Int × (List (Int × Unit)) × Unit) := spec_l10Copy x.1 x.2.1 x.2.2.1 x.2.2.2.1 x.2.2.2.2.1 x.2.2.2.2.2.1 x.2.2.2.2.2.2.1 x.2.2.2.2.2.2.2.1 x.2.2.2.2.2.2.2.2.1 x.2.2.2.2.2.2.2.2.2.1 x.2.2.2.2.2.2.2.2.2.2.1 x.2.2.2.2.2.2.2.2.2.2.2.1 x.2.2.2.2.2.2.2.2.2.2.2.2.1 x.2.2.2.2.2.2.2.2.2.2.2.2.2.1 x.2.2.2.2.2.2.2.2.2.2.2.2.2.2.1 x.2.2.2.2.2.2.2.2.2.2.2.2.2.2.2.1
noncomputable def sem30 : Sem1 := semOf ps30 rs30 x30
theorem so30 : SemsOk Try.prog (semsOf sl30) := sems_cons k78 (sems_nil)
theorem t30_eq (x : denR (headRT (ps30.map some))) : codeK (tabOf tr) (semsOf sl30) D30 L30 code30 (start 30 ps30 x) (finK rs30 ps30) = x30 x := by kernel_rfl
theorem k30 : Known Try.prog 30 sem30 :=
  fn_auto tr_ok eq_ok mixed_ok so30 (D := D30) (code := code30) (n := 30) Try.func30 (by kernel_rfl) (by kernel_rfl) (by kernel_rfl) (fun w0 mu _ hs => (loops_of (l := []) (by kernel_rfl) (List.forall_mem_nil _))) t30_eq

/-! ### f7: spec.Say -/
noncomputable def code7 : Code := match Try.f7.body with | some c => c | none => .skip
def ps7 : List AP := [.val true [.int .i64, .int .i64, .shr (.cons (.int .i64) .nil), .shr (.cons (.int .i64) (.cons (.int .i64) (.cons (.int .i64) (.cons .str .nil)))), .shr (.cons (.int .i64) .nil), .shr (.cons .str .nil), .int .i64, .int .i64, .int .i64, .int .i64, .int .i64, .int .i64, .int .i64, .int .i64, .int .i64, .shr (.cons (.int .i64) .nil)], .val false [.int .i64], .val false [.str]]
def rs7 : List RP := [{ src := .cell 6, agg := true, ps := [.int .i64, .int .i64, .own (.cons (.int .i64) .nil), .own (.cons (.int .i64) (.cons (.int .i64) (.cons (.int .i64) (.cons .str .nil)))), .own (.cons (.int .i64) .nil), .own (.cons .str .nil), .int .i64, .int .i64, .int .i64, .int .i64, .int .i64, .int .i64, .int .i64, .int .i64, .int .i64, .own (.cons (.int .i64) .nil)] }, { src := .tmp 7, agg := false, ps := [.bool] }]
noncomputable def sl7 : SemL := [(28, (.shr, .shr, .shr, sem28)), (29, (.shr, .shr, .shr, sem29)), (30, (.shr, .shr, .shr, sem30))]
def D7 : Draws := fun _ => .nil
noncomputable def L7 {R : Type} : Loops R := fun _ _ _ _ => none
noncomputable def spec_Say (m0c0 : Int) (m0c1 : Int) (m0c2 : List (Int × Unit)) (m0c3 : List (Int × Int × Int × ByteArray × Unit)) (m0c4 : List (Int × Unit)) (m0c5 : List (ByteArray × Unit)) (m0c6 : Int) (m0c7 : Int) (m0c8 : Int) (m0c9 : Int) (m0c10 : Int) (m0c11 : Int) (m0c12 : Int) (m0c13 : Int) (m0c14 : Int) (m0c15 : List (Int × Unit)) (level1 : Int) (text2 : ByteArray) : Option (Int × Int × (List (Int × Unit)) × (List (Int × Int × Int × ByteArray × Unit)) × (List (Int × Unit)) × (List (ByteArray × Unit)) × Int × Int × Int × Int × Int × Int × Int × Int × Int × (List (Int × Unit)) × Bool × Unit) :=
  Option.bind (spec_MateOk m0c0 m0c1 m0c2 m0c3 m0c4 m0c5 m0c6 m0c7 m0c8 m0c9 m0c10 m0c11 m0c12 m0c13 m0c14 m0c15) fun y1 =>
  bif !y1.1 then
    some ((0 : Int), (0 : Int), [], [], [], [], (0 : Int), (0 : Int), (0 : Int), (0 : Int), (0 : Int), (0 : Int), (0 : Int), (0 : Int), (0 : Int), [], false, ())
  else
    Option.bind (spec_l01In level1 (1 : Int) (2 : Int)) fun y2 =>
    bif !y2.1 then
      some ((0 : Int), (0 : Int), [], [], [], [], (0 : Int), (0 : Int), (0 : Int), (0 : Int), (0 : Int), (0 : Int), (0 : Int), (0 : Int), (0 : Int), [], false, ())
    else bif decide ((60 : Int) < ((ByteArray.size text2 : Nat) : Int)) then
      some ((0 : Int), (0 : Int), [], [], [], [], (0 : Int), (0 : Int), (0 : Int), (0 : Int), (0 : Int), (0 : Int), (0 : Int), (0 : Int), (0 : Int), [], false, ())
    else bif decide ((20 : Int) ≤ ((List.length m0c5 : Nat) : Int)) then
      some ((0 : Int), (0 : Int), [], [], [], [], (0 : Int), (0 : Int), (0 : Int), (0 : Int), (0 : Int), (0 : Int), (0 : Int), (0 : Int), (0 : Int), [], false, ())
    else
      Option.bind (spec_l10Copy m0c0 m0c1 m0c2 m0c3 m0c4 m0c5 m0c6 m0c7 m0c8 m0c9 m0c10 m0c11 m0c12 m0c13 m0c14 m0c15) fun y3 =>
      bif Nat.ble (((List.length y3.2.2.2.2.1) + 1) * 8) lim then bif Nat.ble (((List.length y3.2.2.2.2.2.1) + 1) * 16) lim then some (y3.1, y3.2.1, y3.2.2.1, y3.2.2.2.1, y3.2.2.2.2.1 ++ [(level1, ())], y3.2.2.2.2.2.1 ++ [(text2, ())], y3.2.2.2.2.2.2.1, y3.2.2.2.2.2.2.2.1, y3.2.2.2.2.2.2.2.2.1, y3.2.2.2.2.2.2.2.2.2.1, y3.2.2.2.2.2.2.2.2.2.2.1, y3.2.2.2.2.2.2.2.2.2.2.2.1, y3.2.2.2.2.2.2.2.2.2.2.2.2.1, y3.2.2.2.2.2.2.2.2.2.2.2.2.2.1, y3.2.2.2.2.2.2.2.2.2.2.2.2.2.2.1, y3.2.2.2.2.2.2.2.2.2.2.2.2.2.2.2.1, true, ())
        else none
      else none
noncomputable def x7 (x : Int × Int × (List (Int × Unit)) × (List (Int × Int × Int × ByteArray × Unit)) × (List (Int × Unit)) × (List (ByteArray × Unit)) × Int × Int × Int × Int × Int × Int × Int × Int × Int × (List (Int × Unit)) × Int × ByteArray × Unit) : Option (Int × Int × (List (Int × Unit)) × (List (Int × Int × Int × ByteArray × Unit)) × (List (Int × Unit)) × (List (ByteArray × Unit)) × Int × Int × Int × Int × Int × Int × Int × Int × Int × (List (Int × Unit)) × Bool × Unit) := spec_Say x.1 x.2.1 x.2.2.1 x.2.2.2.1 x.2.2.2.2.1 x.2.2.2.2.2.1 x.2.2.2.2.2.2.1 x.2.2.2.2.2.2.2.1 x.2.2.2.2.2.2.2.2.1 x.2.2.2.2.2.2.2.2.2.1 x.2.2.2.2.2.2.2.2.2.2.1 x.2.2.2.2.2.2.2.2.2.2.2.1 x.2.2.2.2.2.2.2.2.2.2.2.2.1 x.2.2.2.2.2.2.2.2.2.2.2.2.2.1 x.2.2.2.2.2.2.2.2.2.2.2.2.2.2.1 x.2.2.2.2.2.2.2.2.2.2.2.2.2.2.2.1 x.2.2.2.2.2.2.2.2.2.2.2.2.2.2.2.2.1 x.2.2.2.2.2.2.2.2.2.2.2.2.2.2.2.2.2.1
noncomputable def sem7 : Sem1 := semOf ps7 rs7 x7
theorem so7 : SemsOk Try.prog (semsOf sl7) := sems_cons k28 (sems_cons k29 (sems_cons k30 (sems_nil)))
theorem t7_eq (x : denR (headRT (ps7.map some))) : codeK (tabOf tr) (semsOf sl7) D7 L7 code7 (start 44 ps7 x) (finK rs7 ps7) = x7 x := by kernel_rfl
theorem k7 : Known Try.prog 7 sem7 :=
  fn_auto tr_ok eq_ok mixed_ok so7 (D := D7) (code := code7) (n := 44) Try.func7 (by kernel_rfl) (by kernel_rfl) (by kernel_rfl) (fun w0 mu _ hs => (loops_of (l := []) (by kernel_rfl) (List.forall_mem_nil _))) t7_eq

/-! ### f36: impl.isLevel -/
noncomputable def code36 : Code := match Try.f36.body with | some c => c | none => .skip
def ps36 : List AP := [.val false [.int .i64]]
def rs36 : List RP := [{ src := .tmp 2, agg := false, ps := [.bool] }]
noncomputable def sl36 : SemL := []
def D36 : Draws := fun _ => .nil
noncomputable def L36 {R : Type} : Loops R := fun _ _ _ _ => none
noncomputable def impl_isLevel (n0 : Int) : Option (Bool × Unit) :=
  bif decide (n0 = (1 : Int)) then
    some (true, ())
  else
    some (decide (n0 = (2 : Int)), ())
noncomputable def x36 (x : Int × Unit) : Option (Bool × Unit) := impl_isLevel x.1
noncomputable def sem36 : Sem1 := semOf ps36 rs36 x36
theorem so36 : SemsOk Try.prog (semsOf sl36) := sems_nil
theorem t36_eq (x : denR (headRT (ps36.map some))) : codeK (tabOf tr) (semsOf sl36) D36 L36 code36 (start 9 ps36 x) (finK rs36 ps36) = x36 x := by kernel_rfl
theorem k36 : Known Try.prog 36 sem36 :=
  fn_auto tr_ok eq_ok mixed_ok so36 (D := D36) (code := code36) (n := 9) Try.func36 (by kernel_rfl) (by kernel_rfl) (by kernel_rfl) (fun w0 mu _ hs => (loops_of (l := []) (by kernel_rfl) (List.forall_mem_nil _))) t36_eq

/-! ### f100: slices.Index[[]int,int] -/
noncomputable def code100 : Code := match Try.f100.body with | some c => c | none => .skip
def ps100 : List AP := [.val false [.shr (.cons (.int .i64) .nil)], .val false [.int .i64]]
def rs100 : List RP := [{ src := .tmp 4, agg := false, ps := [.int .i64] }]
noncomputable def sl100 : SemL := []
def D100 : Draws := fun _ => .nil
def hp100_0 : List (Option AP) := [some (.val false [.shr (.cons (.int .i64) .nil)]), some (.val false [.int .i64]), none, none, none, none, none, some (.val false [.int .i64]), some (.val false [.int .i64]), none, none, none, none, none, none, none, none, none, none]
def e100_0 : List (Option AP) := [none, none, none, none, none, none, none, none, none, none, none, none, none, none, none, none, none, none, none]
def q100_0 : List (Option AP) := [none, none, none, none, some (.val false [.int .i64]), none, none, none, none, none, none, none, none, none, none, none, none, none, none]
abbrev H100_0 : Type := (List (Int × Unit)) × Int × Int × Int × Unit
abbrev E100_0 : Type := Unit
abbrev Q100_0 : Type := Int × Unit
noncomputable def slices_Index_int_c0 (s0 : List (Int × Unit)) (v1 : Int) (t7 : Int) (t8 : Int) : Option (Sum H100_0 (Sum E100_0 Q100_0)) :=
  bif decide (t8 < t7) then
    bif decide ((0 : Int) ≤ t8) then Option.bind ((s0)[Int.toNat t8]?) fun r1 =>
      bif decide (v1 = r1.1) then
        some (.inr (.inr (t8, ())))
      else
        some (.inl (s0, v1, t7, IntKind.i64.wrap (t8 + (1 : Int)), ()))
    else none
  else
    some (.inr (.inl (())))
noncomputable def slices_Index_int_r0 (x : H100_0) : Option (Sum H100_0 (Sum E100_0 Q100_0)) := slices_Index_int_c0 x.1 x.2.1 x.2.2.1 x.2.2.2.1
noncomputable def L100 {R : Type} : Loops R := fun id _ st k => bif Nat.beq id 0 then loopAt hp100_0 e100_0 q100_0 slices_Index_int_r0 st k else none
noncomputable def slices_Index_int (s0 : List (Int × Unit)) (v1 : Int) : Option (Int × Unit) :=
  outK (loopV slices_Index_int_r0 (s0, v1, ((List.length s0 : Nat) : Int), (0 : Int), ())) (fun y1 =>
    some ((-1 : Int), ())) (fun y2 =>
    some (y2.1, ()))
noncomputable def x100 (x : (List (Int × Unit)) × Int × Unit) : Option (Int × Unit) := slices_Index_int x.1 x.2.1
noncomputable def sem100 : Sem1 := semOf ps100 rs100 x100
theorem so100 : SemsOk Try.prog (semsOf sl100) := sems_nil
noncomputable def b100_0 : Code := nthLoop code100 0
theorem t100_r0_eq (x : denR (headRT hp100_0)) : codeK (tabOf tr) (semsOf sl100) D100 L100 b100_0 (headSt hp100_0 x) (roundK 0 hp100_0 e100_0 q100_0) = slices_Index_int_r0 x := by kernel_rfl
theorem loop100_0 {R : Type} (r : R) (w0 : World) (mu : Mu) (hs : AnShape ps100 mu) : LoopAt Try.prog w0 mu 19 (L100 : Loops R) r 0 b100_0 :=
  loop_auto tr_ok eq_ok mixed_ok so100 (D := D100) hs (by kernel_rfl) (fun _ => (loops_of (l := []) (by kernel_rfl) (List.forall_mem_nil _))) t100_r0_eq (fun _ _ => rfl)
theorem t100_eq (x : denR (headRT (ps100.map some))) : codeK (tabOf tr) (semsOf sl100) D100 L100 code100 (start 19 ps100 x) (finK rs100 ps100) = x100 x := by kernel_rfl
theorem k100 : Known Try.prog 100 sem100 :=
  fn_auto tr_ok eq_ok mixed_ok so100 (D := D100) (code := code100) (n := 19) Try.func100 (by kernel_rfl) (by kernel_rfl) (by kernel_rfl) (fun w0 mu _ hs => (loops_of (l := [(0, b100_0)]) (by kernel_rfl) (List.forall_mem_cons.2 ⟨loop100_0 _ w0 mu hs, (List.forall_mem_nil _)⟩))) t100_eq

/-! ### f80: slices.Contains[[]int,int] -/
noncomputable def code80 : Code := match Try.f80.body with | some c => c | none => .skip
def ps80 : List AP := [.val false [.shr (.cons (.int .i64) .nil)], .val false [.int .i64]]
def rs80 : List RP := [{ src := .tmp 4, agg := false, ps := [.bool] }]
noncomputable def sl80 : SemL := [(100, (.shr, .shr, .shr, sem100))]
def D80 : Draws := fun _ => .nil
noncomputable def L80 {R : Type} : Loops R := fun _ _ _ _ => none
noncomputable def slices_Contains_int (s0 : List (Int × Unit)) (v1 : Int) : Option (Bool × Unit) :=
  Option.bind (slices_Index_int s0 v1) fun y1 =>
  some (decide ((0 : Int) ≤ y1.1), ())
noncomputable def x80 (x : (List (Int × Unit)) × Int × Unit) : Option (Bool × Unit) := slices_Contains_int x.1 x.2.1
noncomputable def sem80 : Sem1 := semOf ps80 rs80 x80
theorem so80 : SemsOk Try.prog (semsOf sl80) := sems_cons k100 (sems_nil)
theorem t80_eq (x : denR (headRT (ps80.map some))) : codeK (tabOf tr) (semsOf sl80) D80 L80 code80 (start 9 ps80 x) (finK rs80 ps80) = x80 x := by kernel_rfl
theorem k80 : Known Try.prog 80 sem80 :=
  fn_auto tr_ok eq_ok mixed_ok so80 (D := D80) (code := code80) (n := 9) Try.func80 (by kernel_rfl) (by kernel_rfl) (by kernel_rfl) (fun w0 mu _ hs => (loops_of (l := []) (by kernel_rfl) (List.forall_mem_nil _))) t80_eq

/-! ### f67: impl.inRange -/
noncomputable def code67 : Code := match Try.f67.body with | some c => c | none => .skip
def ps67 : List AP := [.val false [.int .i64], .val false [.int .i64], .val false [.int .i64]]
def rs67 : List RP := [{ src := .tmp 6, agg := false, ps := [.bool] }]
noncomputable def sl67 : SemL := []
def D67 : Draws := fun _ => .nil
noncomputable def L67 {R : Type} : Loops R := fun _ _ _ _ => none
noncomputable def impl_inRange (n0 : Int) (least1 : Int) (most2 : Int) : Option (Bool × Unit) :=
  bif decide (least1 ≤ n0) then
    some (decide (n0 ≤ most2), ())
  else
    some (false, ())
noncomputable def x67 (x : Int × Int × Int × Unit) : Option (Bool × Unit) := impl_inRange x.1 x.2.1 x.2.2.1
noncomputable def sem67 : Sem1 := semOf ps67 rs67 x67
theorem so67 : SemsOk Try.prog (semsOf sl67) := sems_nil
theorem t67_eq (x : denR (headRT (ps67.map some))) : codeK (tabOf tr) (semsOf sl67) D67 L67 code67 (start 15 ps67 x) (finK rs67 ps67) = x67 x := by kernel_rfl
theorem k67 : Known Try.prog 67 sem67 :=
  fn_auto tr_ok eq_ok mixed_ok so67 (D := D67) (code := code67) (n := 15) Try.func67 (by kernel_rfl) (by kernel_rfl) (by kernel_rfl) (fun w0 mu _ hs => (loops_of (l := []) (by kernel_rfl) (List.forall_mem_nil _))) t67_eq

/-! ### f66: impl.isDaemon -/
noncomputable def code66 : Code := match Try.f66.body with | some c => c | none => .skip
def ps66 : List AP := [.val false [.int .i64]]
def rs66 : List RP := [{ src := .tmp 2, agg := false, ps := [.bool] }]
noncomputable def sl66 : SemL := [(67, (.shr, .shr, .shr, sem67))]
def D66 : Draws := fun _ => .nil
noncomputable def L66 {R : Type} : Loops R := fun _ _ _ _ => none
noncomputable def impl_isDaemon (n0 : Int) : Option (Bool × Unit) :=
  Option.bind (impl_inRange n0 (1 : Int) (5 : Int)) fun y1 =>
  some (y1.1, ())
noncomputable def x66 (x : Int × Unit) : Option (Bool × Unit) := impl_isDaemon x.1
noncomputable def sem66 : Sem1 := semOf ps66 rs66 x66
theorem so66 : SemsOk Try.prog (semsOf sl66) := sems_cons k67 (sems_nil)
theorem t66_eq (x : denR (headRT (ps66.map some))) : codeK (tabOf tr) (semsOf sl66) D66 L66 code66 (start 5 ps66 x) (finK rs66 ps66) = x66 x := by kernel_rfl
theorem k66 : Known Try.prog 66 sem66 :=
  fn_auto tr_ok eq_ok mixed_ok so66 (D := D66) (code := code66) (n := 5) Try.func66 (by kernel_rfl) (by kernel_rfl) (by kernel_rfl) (fun w0 mu _ hs => (loops_of (l := []) (by kernel_rfl) (List.forall_mem_nil _))) t66_eq

/-! ### f81: impl.RingOk -/
noncomputable def code81 : Code := match Try.f81.body with | some c => c | none => .skip
def ps81 : List AP := [.val true [.int .i64, .shr (.cons (.int .i64) .nil)]]
def rs81 : List RP := [{ src := .tmp 2, agg := false, ps := [.bool] }]
noncomputable def sl81 : SemL := [(67, (.shr, .shr, .shr, sem67)), (66, (.shr, .shr, .shr, sem66))]
def D81 : Draws := fun _ => .nil
def hp81_0 : List (Option AP) := [none, some (.box false [.int .i64, .shr (.cons (.int .i64) .nil)]), none, none, none, none, none, none, none, none, none, none, none, none, none, none, none, some (.val false [.shr (.cons (.int .i64) .nil)]), some (.val false [.int .i64]), some (.val false [.int .i64]), none, none, none, none, none, none, none, none, none, none, none, none, none, none, none, none, none, none, none, none, none, none]
def e81_0 : List (Option AP) := [none, none, none, none, none, none, none, none, none, none, none, none, none, none, none, none, none, none, none, none, none, none, none, none, none, none, none, none, none, none, none, none, none, none, none, none, none, none, none, none, none, none]
def q81_0 : List (Option AP) := [none, none, some (.val false [.bool]), none, none, none, none, none, none, none, none, none, none, none, none, none, none, none, none, none, none, none, none, none, none, none, none, none, none, none, none, none, none, none, none, none, none, none, none, none, none, none]
abbrev H81_0 : Type := Int × (List (Int × Unit)) × (List (Int × Unit)) × Int × Int × Unit
abbrev E81_0 : Type := Unit
abbrev Q81_0 : Type := Bool × Unit
noncomputable def impl_RingOk_c0 (r1c0 : Int) (r1c1 : List (Int × Unit)) (t17 : List (Int × Unit)) (t18 : Int) (t19 : Int) : Option (Sum H81_0 (Sum E81_0 Q81_0)) :=
  bif decide (t19 < t18) then
    bif decide ((0 : Int) ≤ t19) then Option.bind ((t17)[Int.toNat t19]?) fun r3 =>
      Option.bind (impl_isDaemon r3.1) fun y4 =>
      bif !y4.1 then
        some (.inr (.inr (false, ())))
      else bif decide ((0 : Int) < t19) then
        bif decide ((0 : Int) ≤ IntKind.i64.wrap (t19 - (1 : Int))) then Option.bind ((r1c1)[Int.toNat (IntKind.i64.wrap (t19 - (1 : Int)))]?) fun r5 =>
          bif decide (r3.1 ≤ r5.1) then
            some (.inr (.inr (false, ())))
          else
            some (.inl (r1c0, r1c1, t17, t18, IntKind.i64.wrap (t19 + (1 : Int)), ()))
        else none
      else
        some (.inl (r1c0, r1c1, t17, t18, IntKind.i64.wrap (t19 + (1 : Int)), ()))
    else none
  else
    some (.inr (.inl (())))
noncomputable def impl_RingOk_r0 (x : H81_0) : Option (Sum H81_0 (Sum E81_0 Q81_0)) := impl_RingOk_c0 x.1 x.2.1 x.2.2.1 x.2.2.2.1 x.2.2.2.2.1
noncomputable def L81 {R : Type} : Loops R := fun id _ st k => bif Nat.beq id 0 then loopAt hp81_0 e81_0 q81_0 impl_RingOk_r0 st k else none
noncomputable def impl_RingOk (r0c0 : Int) (r0c1 : List (Int × Unit)) : Option (Bool × Unit) :=
  Option.bind (impl_inRange r0c0 (1 : Int) (9 : Int)) fun y1 =>
  bif !y1.1 then
    some (false, ())
  else
    Option.bind (impl_inRange ((List.length r0c1 : Nat) : Int) (1 : Int) (5 : Int)) fun y2 =>
    bif !y2.1 then
      some (false, ())
    else
      outK (loopV impl_RingOk_r0 (r0c0, r0c1, r0c1, ((List.length r0c1 : Nat) : Int), (0 : Int), ())) (fun y3 =>
        some (true, ())) (fun y4 =>
        some (y4.1, ()))
noncomputable def x81 (x : Int × (List (Int × Unit)) × Unit) : Option (Bool × Unit) := impl_RingOk x.1 x.2.1
noncomputable def sem81 : Sem1 := semOf ps81 rs81 x81
theorem so81 : SemsOk Try.prog (semsOf sl81) := sems_cons k67 (sems_cons k66 (sems_nil))
noncomputable def b81_0 : Code := nthLoop code81 0
theorem t81_r0_eq (x : denR (headRT hp81_0)) : codeK (tabOf tr) (semsOf sl81) D81 L81 b81_0 (headSt hp81_0 x) (roundK 0 hp81_0 e81_0 q81_0) = impl_RingOk_r0 x := by kernel_rfl
theorem loop81_0 {R : Type} (r : R) (w0 : World) (mu : Mu) (hs : AnShape ps81 mu) : LoopAt Try.prog w0 mu 42 (L81 : Loops R) r 0 b81_0 :=
  loop_auto tr_ok eq_ok mixed_ok so81 (D := D81) hs (by kernel_rfl) (fun _ => (loops_of (l := []) (by kernel_rfl) (List.forall_mem_nil _))) t81_r0_eq (fun _ _ => rfl)
theorem t81_eq (x : denR (headRT (ps81.map some))) : codeK (tabOf tr) (semsOf sl81) D81 L81 code81 (start 42 ps81 x) (finK rs81 ps81) = x81 x := by kernel_rfl
theorem k81 : Known Try.prog 81 sem81 :=
  fn_auto tr_ok eq_ok mixed_ok so81 (D := D81) (code := code81) (n := 42) Try.func81 (by kernel_rfl) (by kernel_rfl) (by kernel_rfl) (fun w0 mu _ hs => (loops_of (l := [(0, b81_0)]) (by kernel_rfl) (List.forall_mem_cons.2 ⟨loop81_0 _ w0 mu hs, (List.forall_mem_nil _)⟩))) t81_eq

/-! ### f101: impl.ItemOk -/
noncomputable def code101 : Code := match Try.f101.body with | some c => c | none => .skip
def ps101 : List AP := [.val true [.int .i64, .int .i64, .int .i64, .str]]
def rs101 : List RP := [{ src := .tmp 2, agg := false, ps := [.bool] }]
noncomputable def sl101 : SemL := [(67, (.shr, .shr, .shr, sem67)), (66, (.shr, .shr, .shr, sem66)), (36, (.shr, .shr, .shr, sem36))]
def D101 : Draws := fun _ => .nil
noncomputable def L101 {R : Type} : Loops R := fun _ _ _ _ => none
noncomputable def impl_ItemOk (m0c0 : Int) (m0c1 : Int) (m0c2 : Int) (m0c3 : ByteArray) : Option (Bool × Unit) :=
  Option.bind (impl_inRange m0c0 (1 : Int) (60 : Int)) fun y1 =>
  bif y1.1 then
    Option.bind (impl_isDaemon m0c1) fun y2 =>
    bif y2.1 then
      Option.bind (impl_isLevel m0c2) fun y3 =>
      bif y3.1 then
        some (decide (((ByteArray.size m0c3 : Nat) : Int) ≤ (60 : Int)), ())
      else
        some (false, ())
    else
      some (false, ())
  else
    some (false, ())
noncomputable def x101 (x : Int × Int × Int × ByteArray × Unit) : Option (Bool × Unit) := impl_ItemOk x.1 x.2.1 x.2.2.1 x.2.2.2.1
noncomputable def sem101 : Sem1 := semOf ps101 rs101 x101
theorem so101 : SemsOk Try.prog (semsOf sl101) := sems_cons k67 (sems_cons k66 (sems_cons k36 (sems_nil)))
theorem t101_eq (x : denR (headRT (ps101.map some))) : codeK (tabOf tr) (semsOf sl101) D101 L101 code101 (start 22 ps101 x) (finK rs101 ps101) = x101 x := by kernel_rfl
theorem k101 : Known Try.prog 101 sem101 :=
  fn_auto tr_ok eq_ok mixed_ok so101 (D := D101) (code := code101) (n := 22) Try.func101 (by kernel_rfl) (by kernel_rfl) (by kernel_rfl) (fun w0 mu _ hs => (loops_of (l := []) (by kernel_rfl) (List.forall_mem_nil _))) t101_eq

/-! ### f82: impl.ItemsOk -/
noncomputable def code82 : Code := match Try.f82.body with | some c => c | none => .skip
def ps82 : List AP := [.val false [.shr (.cons (.int .i64) (.cons (.int .i64) (.cons (.int .i64) (.cons .str .nil))))]]
def rs82 : List RP := [{ src := .tmp 2, agg := false, ps := [.bool] }]
noncomputable def sl82 : SemL := [(101, (.shr, .shr, .shr, sem101))]
def D82 : Draws := fun id => bif Nat.beq id 4 then .op 0 .take (.op 1 .one (.op 2 .any (.op 3 .any (.op 4 .any (.op 5 .any (.op 6 .any (.op 7 .any (.op 8 .take (.op 9 .any (.op 10 .any (.op 11 .any (.op 12 .any (.op 13 .any (.op 14 .take (.op 15 .any (.op 16 .any (.op 17 .any (.nil)))))))))))))))))) else .nil
def hp82_0 : List (Option AP) := [some (.val false [.shr (.cons (.int .i64) (.cons (.int .i64) (.cons (.int .i64) (.cons .str .nil))))]), none, none, none, none, some (.val false [.shr (.cons (.int .i64) (.cons (.int .i64) (.cons (.int .i64) (.cons .str .nil))))]), some (.val false [.int .i64]), some (.val false [.int .i64]), none, none, none, none, none, none, none, none, none, none, none, none, none, none, none, none, none, none, none, none, none, none, none]
def e82_0 : List (Option AP) := [none, none, none, none, none, none, none, none, none, none, none, none, none, none, none, none, none, none, none, none, none, none, none, none, none, none, none, none, none, none, none]
def q82_0 : List (Option AP) := [none, none, some (.val false [.bool]), none, none, none, none, none, none, none, none, none, none, none, none, none, none, none, none, none, none, none, none, none, none, none, none, none, none, none, none]
abbrev H82_0 : Type := (List (Int × Int × Int × ByteArray × Unit)) × (List (Int × Int × Int × ByteArray × Unit)) × Int × Int × Unit
abbrev E82_0 : Type := Unit
abbrev Q82_0 : Type := Bool × Unit
noncomputable def impl_ItemsOk_c0 (list0 : List (Int × Int × Int × ByteArray × Unit)) (t5 : List (Int × Int × Int × ByteArray × Unit)) (t6 : Int) (t7 : Int) : Option (Sum H82_0 (Sum E82_0 Q82_0)) :=
  bif decide (t7 < t6) then
    bif decide ((0 : Int) ≤ t7) then Option.bind ((t5)[Int.toNat t7]?) fun r1 =>
      Option.bind (impl_ItemOk r1.1 r1.2.1 r1.2.2.1 r1.2.2.2.1) fun y2 =>
      bif !y2.1 then
        some (.inr (.inr (false, ())))
      else bif decide ((0 : Int) < t7) then
        bif decide ((0 : Int) ≤ IntKind.i64.wrap (t7 - (1 : Int))) then Option.bind ((list0)[Int.toNat (IntKind.i64.wrap (t7 - (1 : Int)))]?) fun r3 =>
          bif decide (r1.1 ≤ r3.1) then
            some (.inr (.inr (false, ())))
          else
            some (.inl (list0, t5, t6, IntKind.i64.wrap (t7 + (1 : Int)), ()))
        else none
      else
        some (.inl (list0, t5, t6, IntKind.i64.wrap (t7 + (1 : Int)), ()))
    else none
  else
    some (.inr (.inl (())))
noncomputable def impl_ItemsOk_r0 (x : H82_0) : Option (Sum H82_0 (Sum E82_0 Q82_0)) := impl_ItemsOk_c0 x.1 x.2.1 x.2.2.1 x.2.2.2.1
noncomputable def L82 {R : Type} : Loops R := fun id _ st k => bif Nat.beq id 0 then loopAt hp82_0 e82_0 q82_0 impl_ItemsOk_r0 st k else none
noncomputable def impl_ItemsOk (list0 : List (Int × Int × Int × ByteArray × Unit)) : Option (Bool × Unit) :=
  outK (loopV impl_ItemsOk_r0 (list0, list0, ((List.length list0 : Nat) : Int), (0 : Int), ())) (fun y1 =>
    some (true, ())) (fun y2 =>
    some (y2.1, ()))
noncomputable def x82 (x : (List (Int × Int × Int × ByteArray × Unit)) × Unit) : Option (Bool × Unit) := impl_ItemsOk x.1
noncomputable def sem82 : Sem1 := semOf ps82 rs82 x82
theorem so82 : SemsOk Try.prog (semsOf sl82) := sems_cons k101 (sems_nil)
noncomputable def b82_0 : Code := nthLoop code82 0
theorem t82_r0_eq (x : denR (headRT hp82_0)) : codeK (tabOf tr) (semsOf sl82) D82 L82 b82_0 (headSt hp82_0 x) (roundK 0 hp82_0 e82_0 q82_0) = impl_ItemsOk_r0 x := by kernel_rfl
theorem loop82_0 {R : Type} (r : R) (w0 : World) (mu : Mu) (hs : AnShape ps82 mu) : LoopAt Try.prog w0 mu 31 (L82 : Loops R) r 0 b82_0 :=
  loop_auto tr_ok eq_ok mixed_ok so82 (D := D82) hs (by kernel_rfl) (fun _ => (loops_of (l := []) (by kernel_rfl) (List.forall_mem_nil _))) t82_r0_eq (fun _ _ => rfl)
theorem t82_eq (x : denR (headRT (ps82.map some))) : codeK (tabOf tr) (semsOf sl82) D82 L82 code82 (start 31 ps82 x) (finK rs82 ps82) = x82 x := by kernel_rfl
theorem k82 : Known Try.prog 82 sem82 :=
  fn_auto tr_ok eq_ok mixed_ok so82 (D := D82) (code := code82) (n := 31) Try.func82 (by kernel_rfl) (by kernel_rfl) (by kernel_rfl) (fun w0 mu _ hs => (loops_of (l := [(0, b82_0)]) (by kernel_rfl) (List.forall_mem_cons.2 ⟨loop82_0 _ w0 mu hs, (List.forall_mem_nil _)⟩))) t82_eq

/-! ### f83: impl.areShort -/
noncomputable def code83 : Code := match Try.f83.body with | some c => c | none => .skip
def ps83 : List AP := [.val false [.shr (.cons .str .nil)]]
def rs83 : List RP := [{ src := .tmp 2, agg := false, ps := [.bool] }]
noncomputable def sl83 : SemL := []
def D83 : Draws := fun _ => .nil
def hp83_0 : List (Option AP) := [none, none, none, none, none, some (.val false [.shr (.cons .str .nil)]), some (.val false [.int .i64]), some (.val false [.int .i64]), none, none, none, none, none, none, none]
def e83_0 : List (Option AP) := [none, none, none, none, none, none, none, none, none, none, none, none, none, none, none]
def q83_0 : List (Option AP) := [none, none, some (.val false [.bool]), none, none, none, none, none, none, none, none, none, none, none, none]
abbrev H83_0 : Type := (List (ByteArray × Unit)) × Int × Int × Unit
abbrev E83_0 : Type := Unit
abbrev Q83_0 : Type := Bool × Unit
noncomputable def impl_areShort_c0 (t5 : List (ByteArray × Unit)) (t6 : Int) (t7 : Int) : Option (Sum H83_0 (Sum E83_0 Q83_0)) :=
  bif decide (t7 < t6) then
    bif decide ((0 : Int) ≤ t7) then Option.bind ((t5)[Int.toNat t7]?) fun r1 =>
      bif decide ((60 : Int) < ((ByteArray.size r1.1 : Nat) : Int)) then
        some (.inr (.inr (false, ())))
      else
        some (.inl (t5, t6, IntKind.i64.wrap (t7 + (1 : Int)), ()))
    else none
  else
    some (.inr (.inl (())))
noncomputable def impl_areShort_r0 (x : H83_0) : Option (Sum H83_0 (Sum E83_0 Q83_0)) := impl_areShort_c0 x.1 x.2.1 x.2.2.1
noncomputable def L83 {R : Type} : Loops R := fun id _ st k => bif Nat.beq id 0 then loopAt hp83_0 e83_0 q83_0 impl_areShort_r0 st k else none
noncomputable def impl_areShort (list0 : List (ByteArray × Unit)) : Option (Bool × Unit) :=
  outK (loopV impl_areShort_r0 (list0, ((List.length list0 : Nat) : Int), (0 : Int), ())) (fun y1 =>
    some (true, ())) (fun y2 =>
    some (y2.1, ()))
noncomputable def x83 (x : (List (ByteArray × Unit)) × Unit) : Option (Bool × Unit) := impl_areShort x.1
noncomputable def sem83 : Sem1 := semOf ps83 rs83 x83
theorem so83 : SemsOk Try.prog (semsOf sl83) := sems_nil
noncomputable def b83_0 : Code := nthLoop code83 0
theorem t83_r0_eq (x : denR (headRT hp83_0)) : codeK (tabOf tr) (semsOf sl83) D83 L83 b83_0 (headSt hp83_0 x) (roundK 0 hp83_0 e83_0 q83_0) = impl_areShort_r0 x := by kernel_rfl
theorem loop83_0 {R : Type} (r : R) (w0 : World) (mu : Mu) (hs : AnShape ps83 mu) : LoopAt Try.prog w0 mu 15 (L83 : Loops R) r 0 b83_0 :=
  loop_auto tr_ok eq_ok mixed_ok so83 (D := D83) hs (by kernel_rfl) (fun _ => (loops_of (l := []) (by kernel_rfl) (List.forall_mem_nil _))) t83_r0_eq (fun _ _ => rfl)
theorem t83_eq (x : denR (headRT (ps83.map some))) : codeK (tabOf tr) (semsOf sl83) D83 L83 code83 (start 15 ps83 x) (finK rs83 ps83) = x83 x := by kernel_rfl
theorem k83 : Known Try.prog 83 sem83 :=
  fn_auto tr_ok eq_ok mixed_ok so83 (D := D83) (code := code83) (n := 15) Try.func83 (by kernel_rfl) (by kernel_rfl) (by kernel_rfl) (fun w0 mu _ hs => (loops_of (l := [(0, b83_0)]) (by kernel_rfl) (List.forall_mem_cons.2 ⟨loop83_0 _ w0 mu hs, (List.forall_mem_nil _)⟩))) t83_eq

/-! ### f54: impl.ItemAt -/
noncomputable def code54 : Code := match Try.f54.body with | some c => c | none => .skip
def ps54 : List AP := [.val false [.shr (.cons (.int .i64) (.cons (.int .i64) (.cons (.int .i64) (.cons .str .nil))))], .val false [.int .i64]]
def rs54 : List RP := [{ src := .cell 4, agg := true, ps := [.int .i64, .int .i64, .int .i64, .str] }, { src := .tmp 5, agg := false, ps := [.bool] }]
noncomputable def sl54 : SemL := []
def D54 : Draws := fun _ => .nil
def hp54_0 : List (Option AP) := [none, some (.val false [.int .i64]), none, none, some (.box false [.int .i64, .int .i64, .int .i64, .str]), none, none, none, some (.val false [.shr (.cons (.int .i64) (.cons (.int .i64) (.cons (.int .i64) (.cons .str .nil))))]), some (.val false [.int .i64]), some (.val false [.int .i64]), none, none, none, none, none, none, none, none, none, none]
def e54_0 : List (Option AP) := [none, none, none, none, some (.box false [.int .i64, .int .i64, .int .i64, .str]), none, none, none, none, none, none, none, none, none, none, none, none, none, none, none, none]
def q54_0 : List (Option AP) := [none, none, none, none, some (.box false [.int .i64, .int .i64, .int .i64, .str]), some (.val false [.bool]), none, none, none, none, none, none, none, none, none, none, none, none, none, none, none]
abbrev H54_0 : Type := Int × Int × Int × Int × ByteArray × (List (Int × Int × Int × ByteArray × Unit)) × Int × Int × Unit
abbrev E54_0 : Type := Int × Int × Int × ByteArray × Unit
abbrev Q54_0 : Type := Int × Int × Int × ByteArray × Bool × Unit
noncomputable def impl_ItemAt_c0 (seq1 : Int) (t4c0 : Int) (t4c1 : Int) (t4c2 : Int) (t4c3 : ByteArray) (t8 : List (Int × Int × Int × ByteArray × Unit)) (t9 : Int) (t10 : Int) : Option (Sum H54_0 (Sum E54_0 Q54_0)) :=
  bif decide (t10 < t9) then
    bif decide ((0 : Int) ≤ t10) then Option.bind ((t8)[Int.toNat t10]?) fun r1 =>
      bif decide (r1.1 = seq1) then
        some (.inr (.inr (r1.1, r1.2.1, r1.2.2.1, r1.2.2.2.1, true, ())))
      else
        some (.inl (seq1, t4c0, t4c1, t4c2, t4c3, t8, t9, IntKind.i64.wrap (t10 + (1 : Int)), ()))
    else none
  else
    some (.inr (.inl (t4c0, t4c1, t4c2, t4c3, ())))
noncomputable def impl_ItemAt_r0 (x : H54_0) : Option (Sum H54_0 (Sum E54_0 Q54_0)) := impl_ItemAt_c0 x.1 x.2.1 x.2.2.1 x.2.2.2.1 x.2.2.2.2.1 x.2.2.2.2.2.1 x.2.2.2.2.2.2.1 x.2.2.2.2.2.2.2.1
noncomputable def L54 {R : Type} : Loops R := fun id _ st k => bif Nat.beq id 0 then loopAt hp54_0 e54_0 q54_0 impl_ItemAt_r0 st k else none
noncomputable def impl_ItemAt (list0 : List (Int × Int × Int × ByteArray × Unit)) (seq1 : Int) : Option (Int × Int × Int × ByteArray × Bool × Unit) :=
  outK (loopV impl_ItemAt_r0 (seq1, (0 : Int), (0 : Int), (0 : Int), ByteArray.empty, list0, ((List.length list0 : Nat) : Int), (0 : Int), ())) (fun y1 =>
    some ((0 : Int), (0 : Int), (0 : Int), ByteArray.empty, false, ())) (fun y2 =>
    some (y2.1, y2.2.1, y2.2.2.1, y2.2.2.2.1, y2.2.2.2.2.1, ()))
noncomputable def x54 (x : (List (Int × Int × Int × ByteArray × Unit)) × Int × Unit) : Option (Int × Int × Int × ByteArray × Bool × Unit) := impl_ItemAt x.1 x.2.1
noncomputable def sem54 : Sem1 := semOf ps54 rs54 x54
theorem so54 : SemsOk Try.prog (semsOf sl54) := sems_nil
noncomputable def b54_0 : Code := nthLoop code54 0
theorem t54_r0_eq (x : denR (headRT hp54_0)) : codeK (tabOf tr) (semsOf sl54) D54 L54 b54_0 (headSt hp54_0 x) (roundK 0 hp54_0 e54_0 q54_0) = impl_ItemAt_r0 x := by kernel_rfl
theorem loop54_0 {R : Type} (r : R) (w0 : World) (mu : Mu) (hs : AnShape ps54 mu) : LoopAt Try.prog w0 mu 21 (L54 : Loops R) r 0 b54_0 :=
  loop_auto tr_ok eq_ok mixed_ok so54 (D := D54) hs (by kernel_rfl) (fun _ => (loops_of (l := []) (by kernel_rfl) (List.forall_mem_nil _))) t54_r0_eq (fun _ _ => rfl)
theorem t54_eq (x : denR (headRT (ps54.map some))) : codeK (tabOf tr) (semsOf sl54) D54 L54 code54 (start 21 ps54 x) (finK rs54 ps54) = x54 x := by kernel_rfl
theorem k54 : Known Try.prog 54 sem54 :=
  fn_auto tr_ok eq_ok mixed_ok so54 (D := D54) (code := code54) (n := 21) Try.func54 (by kernel_rfl) (by kernel_rfl) (by kernel_rfl) (fun w0 mu _ hs => (loops_of (l := [(0, b54_0)]) (by kernel_rfl) (List.forall_mem_cons.2 ⟨loop54_0 _ w0 mu hs, (List.forall_mem_nil _)⟩))) t54_eq

/-! ### f53: impl.AruOf -/
noncomputable def code53 : Code := match Try.f53.body with | some c => c | none => .skip
def ps53 : List AP := [.val false [.shr (.cons (.int .i64) (.cons (.int .i64) (.cons (.int .i64) (.cons .str .nil))))]]
def rs53 : List RP := [{ src := .tmp 2, agg := false, ps := [.int .i64] }]
noncomputable def sl53 : SemL := [(54, (.shr, .shr, .shr, sem54))]
def D53 : Draws := fun _ => .nil
def hp53_0 : List (Option AP) := [some (.val false [.shr (.cons (.int .i64) (.cons (.int .i64) (.cons (.int .i64) (.cons .str .nil))))]), none, none, some (.val false [.int .i64]), none, none, none, none, none, none, none, none, none, none, none, none, none, none]
def e53_0 : List (Option AP) := [none, none, none, none, none, none, none, none, none, none, none, none, none, none, none, none, none, none]
def q53_0 : List (Option AP) := [none, none, some (.val false [.int .i64]), none, none, none, none, none, none, none, none, none, none, none, none, none, none, none]
abbrev H53_0 : Type := (List (Int × Int × Int × ByteArray × Unit)) × Int × Unit
abbrev E53_0 : Type := Unit
abbrev Q53_0 : Type := Int × Unit
noncomputable def impl_AruOf_c0 (list0 : List (Int × Int × Int × ByteArray × Unit)) (aru3 : Int) : Option (Sum H53_0 (Sum E53_0 Q53_0)) :=
  Option.bind (impl_ItemAt list0 (IntKind.i64.wrap (aru3 + (1 : Int)))) fun y1 =>
  bif !y1.2.2.2.2.1 then
    some (.inr (.inr (aru3, ())))
  else
    some (.inl (list0, IntKind.i64.wrap (aru3 + (1 : Int)), ()))
noncomputable def impl_AruOf_r0 (x : H53_0) : Option (Sum H53_0 (Sum E53_0 Q53_0)) := impl_AruOf_c0 x.1 x.2.1
noncomputable def L53 {R : Type} : Loops R := fun id _ st k => bif Nat.beq id 0 then loopAt hp53_0 e53_0 q53_0 impl_AruOf_r0 st k else none
noncomputable def impl_AruOf (list0 : List (Int × Int × Int × ByteArray × Unit)) : Option (Int × Unit) :=
  outK (loopV impl_AruOf_r0 (list0, (0 : Int), ())) (fun y1 =>
    none) (fun y2 =>
    some (y2.1, ()))
noncomputable def x53 (x : (List (Int × Int × Int × ByteArray × Unit)) × Unit) : Option (Int × Unit) := impl_AruOf x.1
noncomputable def sem53 : Sem1 := semOf ps53 rs53 x53
theorem so53 : SemsOk Try.prog (semsOf sl53) := sems_cons k54 (sems_nil)
noncomputable def b53_0 : Code := nthLoop code53 0
theorem t53_r0_eq (x : denR (headRT hp53_0)) : codeK (tabOf tr) (semsOf sl53) D53 L53 b53_0 (headSt hp53_0 x) (roundK 0 hp53_0 e53_0 q53_0) = impl_AruOf_r0 x := by kernel_rfl
theorem loop53_0 {R : Type} (r : R) (w0 : World) (mu : Mu) (hs : AnShape ps53 mu) : LoopAt Try.prog w0 mu 18 (L53 : Loops R) r 0 b53_0 :=
  loop_auto tr_ok eq_ok mixed_ok so53 (D := D53) hs (by kernel_rfl) (fun _ => (loops_of (l := []) (by kernel_rfl) (List.forall_mem_nil _))) t53_r0_eq (fun _ _ => rfl)
theorem t53_eq (x : denR (headRT (ps53.map some))) : codeK (tabOf tr) (semsOf sl53) D53 L53 code53 (start 18 ps53 x) (finK rs53 ps53) = x53 x := by kernel_rfl
theorem k53 : Known Try.prog 53 sem53 :=
  fn_auto tr_ok eq_ok mixed_ok so53 (D := D53) (code := code53) (n := 18) Try.func53 (by kernel_rfl) (by kernel_rfl) (by kernel_rfl) (fun w0 mu _ hs => (loops_of (l := [(0, b53_0)]) (by kernel_rfl) (List.forall_mem_cons.2 ⟨loop53_0 _ w0 mu hs, (List.forall_mem_nil _)⟩))) t53_eq

/-! ### f84: impl.Token).isZero -/
noncomputable def code84 : Code := match Try.f84.body with | some c => c | none => .skip
def ps84 : List AP := [.val true [.int .i64, .int .i64, .int .i64, .int .i64, .int .i64, .shr (.cons (.int .i64) .nil)]]
def rs84 : List RP := [{ src := .tmp 2, agg := false, ps := [.bool] }]
noncomputable def sl84 : SemL := []
def D84 : Draws := fun _ => .nil
noncomputable def L84 {R : Type} : Loops R := fun _ _ _ _ => none
noncomputable def impl_Token_isZero (t0c0 : Int) (t0c1 : Int) (t0c2 : Int) (t0c3 : Int) (t0c4 : Int) (t0c5 : List (Int × Unit)) : Option (Bool × Unit) :=
  bif decide (t0c0 = (0 : Int)) then
    bif decide (t0c1 = (0 : Int)) then
      bif decide (t0c2 = (0 : Int)) then
        bif decide (t0c3 = (0 : Int)) then
          bif decide (t0c4 = (0 : Int)) then
            some (decide (((List.length t0c5 : Nat) : Int) = (0 : Int)), ())
          else
            some (false, ())
        else
          some (false, ())
      else
        some (false, ())
    else
      some (false, ())
  else
    some (false, ())
noncomputable def x84 (x : Int × Int × Int × Int × Int × (List (Int × Unit)) × Unit) : Option (Bool × Unit) := impl_Token_isZero x.1 x.2.1 x.2.2.1 x.2.2.2.1 x.2.2.2.2.1 x.2.2.2.2.2.1
noncomputable def sem84 : Sem1 := semOf ps84 rs84 x84
theorem so84 : SemsOk Try.prog (semsOf sl84) := sems_nil
theorem t84_eq (x : denR (headRT (ps84.map some))) : codeK (tabOf tr) (semsOf sl84) D84 L84 code84 (start 32 ps84 x) (finK rs84 ps84) = x84 x := by kernel_rfl
theorem k84 : Known Try.prog 84 sem84 :=
  fn_auto tr_ok eq_ok mixed_ok so84 (D := D84) (code := code84) (n := 32) Try.func84 (by kernel_rfl) (by kernel_rfl) (by kernel_rfl) (fun w0 mu _ hs => (loops_of (l := []) (by kernel_rfl) (List.forall_mem_nil _))) t84_eq

/-! ### f85: impl.TokenOk -/
noncomputable def code85 : Code := match Try.f85.body with | some c => c | none => .skip
def ps85 : List AP := [.val true [.int .i64, .int .i64, .int .i64, .int .i64, .int .i64, .shr (.cons (.int .i64) .nil)]]
def rs85 : List RP := [{ src := .tmp 2, agg := false, ps := [.bool] }]
noncomputable def sl85 : SemL := [(67, (.shr, .shr, .shr, sem67))]
def D85 : Draws := fun _ => .nil
def hp85_0 : List (Option AP) := [none, some (.box false [.int .i64, .int .i64, .int .i64, .int .i64, .int .i64, .shr (.cons (.int .i64) .nil)]), none, none, none, none, none, none, none, none, none, none, none, none, none, none, none, none, none, none, none, none, some (.val false [.shr (.cons (.int .i64) .nil)]), some (.val false [.int .i64]), some (.val false [.int .i64]), none, none, none, none, none, none, none, none, none, none, none, none, none, none, none, none, none, none, none, none, none, none, none, none, none, none, none, none, none, none, none, none, none, none, none, none, none, none, none, none]
def e85_0 : List (Option AP) := [none, some (.box false [.int .i64, .int .i64, .int .i64, .int .i64, .int .i64, .shr (.cons (.int .i64) .nil)]), none, none, none, none, none, none, none, none, none, none, none, none, none, none, none, none, none, none, none, none, none, none, none, none, none, none, none, none, none, none, none, none, none, none, none, none, none, none, none, none, none, none, none, none, none, none, none, none, none, none, none, none, none, none, none, none, none, none, none, none, none, none, none]
def q85_0 : List (Option AP) := [none, none, some (.val false [.bool]), none, none, none, none, none, none, none, none, none, none, none, none, none, none, none, none, none, none, none, none, none, none, none, none, none, none, none, none, none, none, none, none, none, none, none, none, none, none, none, none, none, none, none, none, none, none, none, none, none, none, none, none, none, none, none, none, none, none, none, none, none, none]
abbrev H85_0 : Type := Int × Int × Int × Int × Int × (List (Int × Unit)) × (List (Int × Unit)) × Int × Int × Unit
abbrev E85_0 : Type := Int × Int × Int × Int × Int × (List (Int × Unit)) × Unit
abbrev Q85_0 : Type := Bool × Unit
noncomputable def impl_TokenOk_c0 (t1c0 : Int) (t1c1 : Int) (t1c2 : Int) (t1c3 : Int) (t1c4 : Int) (t1c5 : List (Int × Unit)) (t22 : List (Int × Unit)) (t23 : Int) (t24 : Int) : Option (Sum H85_0 (Sum E85_0 Q85_0)) :=
  bif decide (t24 < t23) then
    bif decide ((0 : Int) ≤ t24) then Option.bind ((t22)[Int.toNat t24]?) fun r4 =>
      Option.bind (impl_inRange r4.1 (1 : Int) t1c2) fun y5 =>
      bif !y5.1 then
        some (.inr (.inr (false, ())))
      else bif decide ((0 : Int) < t24) then
        bif decide ((0 : Int) ≤ IntKind.i64.wrap (t24 - (1 : Int))) then Option.bind ((t1c5)[Int.toNat (IntKind.i64.wrap (t24 - (1 : Int)))]?) fun r6 =>
          bif decide (r4.1 ≤ r6.1) then
            some (.inr (.inr (false, ())))
          else
            some (.inl (t1c0, t1c1, t1c2, t1c3, t1c4, t1c5, t22, t23, IntKind.i64.wrap (t24 + (1 : Int)), ()))
        else none
      else
        some (.inl (t1c0, t1c1, t1c2, t1c3, t1c4, t1c5, t22, t23, IntKind.i64.wrap (t24 + (1 : Int)), ()))
    else none
  else
    some (.inr (.inl (t1c0, t1c1, t1c2, t1c3, t1c4, t1c5, ())))
noncomputable def impl_TokenOk_r0 (x : H85_0) : Option (Sum H85_0 (Sum E85_0 Q85_0)) := impl_TokenOk_c0 x.1 x.2.1 x.2.2.1 x.2.2.2.1 x.2.2.2.2.1 x.2.2.2.2.2.1 x.2.2.2.2.2.2.1 x.2.2.2.2.2.2.2.1 x.2.2.2.2.2.2.2.2.1
noncomputable def L85 {R : Type} : Loops R := fun id _ st k => bif Nat.beq id 0 then loopAt hp85_0 e85_0 q85_0 impl_TokenOk_r0 st k else none
noncomputable def impl_TokenOk (t0c0 : Int) (t0c1 : Int) (t0c2 : Int) (t0c3 : Int) (t0c4 : Int) (t0c5 : List (Int × Unit)) : Option (Bool × Unit) :=
  Option.bind (impl_inRange t0c0 (1 : Int) (9 : Int)) fun y1 =>
  bif !y1.1 then
    some (false, ())
  else
    Option.bind (impl_inRange t0c1 (1 : Int) (1000000000 : Int)) fun y2 =>
    bif !y2.1 then
      some (false, ())
    else
      Option.bind (impl_inRange t0c2 (0 : Int) (60 : Int)) fun y3 =>
      bif !y3.1 then
        some (false, ())
      else
        outK (loopV impl_TokenOk_r0 (t0c0, t0c1, t0c2, t0c3, t0c4, t0c5, t0c5, ((List.length t0c5 : Nat) : Int), (0 : Int), ())) (fun y4 =>
          Option.bind (impl_inRange y4.2.2.2.1 (0 : Int) y4.2.2.1) fun y6 =>
          bif y6.1 then
            Option.bind (impl_inRange y4.2.2.2.2.1 (0 : Int) (5 : Int)) fun y7 =>
            bif y7.1 then
              some (decide (((List.length y4.2.2.2.2.2.1 : Nat) : Int) ≤ (20 : Int)), ())
            else
              some (false, ())
          else
            some (false, ())) (fun y5 =>
          some (y5.1, ()))
noncomputable def x85 (x : Int × Int × Int × Int × Int × (List (Int × Unit)) × Unit) : Option (Bool × Unit) := impl_TokenOk x.1 x.2.1 x.2.2.1 x.2.2.2.1 x.2.2.2.2.1 x.2.2.2.2.2.1
noncomputable def sem85 : Sem1 := semOf ps85 rs85 x85
theorem so85 : SemsOk Try.prog (semsOf sl85) := sems_cons k67 (sems_nil)
noncomputable def b85_0 : Code := nthLoop code85 0
theorem t85_r0_eq (x : denR (headRT hp85_0)) : codeK (tabOf tr) (semsOf sl85) D85 L85 b85_0 (headSt hp85_0 x) (roundK 0 hp85_0 e85_0 q85_0) = impl_TokenOk_r0 x := by kernel_rfl
theorem loop85_0 {R : Type} (r : R) (w0 : World) (mu : Mu) (hs : AnShape ps85 mu) : LoopAt Try.prog w0 mu 65 (L85 : Loops R) r 0 b85_0 :=
  loop_auto tr_ok eq_ok mixed_ok so85 (D := D85) hs (by kernel_rfl) (fun _ => (loops_of (l := []) (by kernel_rfl) (List.forall_mem_nil _))) t85_r0_eq (fun _ _ => rfl)
theorem t85_eq (x : denR (headRT (ps85.map some))) : codeK (tabOf tr) (semsOf sl85) D85 L85 code85 (start 65 ps85 x) (finK rs85 ps85) = x85 x := by kernel_rfl
theorem k85 : Known Try.prog 85 sem85 :=
  fn_auto tr_ok eq_ok mixed_ok so85 (D := D85) (code := code85) (n := 65) Try.func85 (by kernel_rfl) (by kernel_rfl) (by kernel_rfl) (fun w0 mu _ hs => (loops_of (l := [(0, b85_0)]) (by kernel_rfl) (List.forall_mem_cons.2 ⟨loop85_0 _ w0 mu hs, (List.forall_mem_nil _)⟩))) t85_eq

/-! ### f37: impl.MateOk -/
noncomputable def code37 : Code := match Try.f37.body with | some c => c | none => .skip
def ps37 : List AP := [.val true [.int .i64, .int .i64, .shr (.cons (.int .i64) .nil), .shr (.cons (.int .i64) (.cons (.int .i64) (.cons (.int .i64) (.cons .str .nil)))), .shr (.cons (.int .i64) .nil), .shr (.cons .str .nil), .int .i64, .int .i64, .int .i64, .int .i64, .int .i64, .int .i64, .int .i64, .int .i64, .int .i64, .shr (.cons (.int .i64) .nil)]]
def rs37 : List RP := [{ src := .tmp 2, agg := false, ps := [.bool] }]
noncomputable def sl37 : SemL := [(80, (.shr, .shr, .shr, sem80)), (81, (.shr, .shr, .shr, sem81)), (82, (.shr, .shr, .shr, sem82)), (83, (.shr, .shr, .shr, sem83)), (36, (.shr, .shr, .shr, sem36)), (53, (.shr, .shr, .shr, sem53)), (67, (.shr, .shr, .shr, sem67)), (84, (.shr, .shr, .shr, sem84)), (85, (.shr, .shr, .shr, sem85))]
def D37 : Draws := fun _ => .nil
def hp37_0 : List (Option AP) := [none, some (.box false [.int .i64, .int .i64, .shr (.cons (.int .i64) .nil), .shr (.cons (.int .i64) (.cons (.int .i64) (.cons (.int .i64) (.cons .str .nil)))), .shr (.cons (.int .i64) .nil), .shr (.cons .str .nil), .int .i64, .int .i64, .int .i64, .int .i64, .int .i64, .int .i64, .int .i64, .int .i64, .int .i64, .shr (.cons (.int .i64) .nil)]), none, none, none, none, none, none, none, none, none, none, none, none, none, none, none, none, none, none, none, none, none, none, none, none, none, none, none, none, none, none, none, none, none, none, none, none, none, none, none, none, none, none, none, some (.val false [.shr (.cons (.int .i64) .nil)]), some (.val false [.int .i64]), some (.val false [.int .i64]), none, none, none, none, none, none, none, none, none, none, none, none, none, none, none, none, none, none, none, none, none, none, none, none, none, none, none, none, none, none, none, none, none, none, none, none, none, none, none, none, none, none]
def e37_0 : List (Option AP) := [none, some (.box false [.int .i64, .int .i64, .shr (.cons (.int .i64) .nil), .shr (.cons (.int .i64) (.cons (.int .i64) (.cons (.int .i64) (.cons .str .nil)))), .shr (.cons (.int .i64) .nil), .shr (.cons .str .nil), .int .i64, .int .i64, .int .i64, .int .i64, .int .i64, .int .i64, .int .i64, .int .i64, .int .i64, .shr (.cons (.int .i64) .nil)]), none, none, none, none, none, none, none, none, none, none, none, none, none, none, none, none, none, none, none, none, none, none, none, none, none, none, none, none, none, none, none, none, none, none, none, none, none, none, none, none, none, none, none, none, none, none, none, none, none, none, none, none, none, none, none, none, none, none, none, none, none, none, none, none, none, none, none, none, none, none, none, none, none, none, none, none, none, none, none, none, none, none, none, none, none, none, none, none]
def q37_0 : List (Option AP) := [none, none, some (.val false [.bool]), none, none, none, none, none, none, none, none, none, none, none, none, none, none, none, none, none, none, none, none, none, none, none, none, none, none, none, none, none, none, none, none, none, none, none, none, none, none, none, none, none, none, none, none, none, none, none, none, none, none, none, none, none, none, none, none, none, none, none, none, none, none, none, none, none, none, none, none, none, none, none, none, none, none, none, none, none, none, none, none, none, none, none, none, none, none, none]
abbrev H37_0 : Type := Int × Int × (List (Int × Unit)) × (List (Int × Int × Int × ByteArray × Unit)) × (List (Int × Unit)) × (List (ByteArray × Unit)) × Int × Int × Int × Int × Int × Int × Int × Int × Int × (List (Int × Unit)) × (List (Int × Unit)) × Int × Int × Unit
abbrev E37_0 : Type := Int × Int × (List (Int × Unit)) × (List (Int × Int × Int × ByteArray × Unit)) × (List (Int × Unit)) × (List (ByteArray × Unit)) × Int × Int × Int × Int × Int × Int × Int × Int × Int × (List (Int × Unit)) × Unit
abbrev Q37_0 : Type := Bool × Unit
noncomputable def impl_MateOk_c0 (m1c0 : Int) (m1c1 : Int) (m1c2 : List (Int × Unit)) (m1c3 : List (Int × Int × Int × ByteArray × Unit)) (m1c4 : List (Int × Unit)) (m1c5 : List (ByteArray × Unit)) (m1c6 : Int) (m1c7 : Int) (m1c8 : Int) (m1c9 : Int) (m1c10 : Int) (m1c11 : Int) (m1c12 : Int) (m1c13 : Int) (m1c14 : Int) (m1c15 : List (Int × Unit)) (t45 : List (Int × Unit)) (t46 : Int) (t47 : Int) : Option (Sum H37_0 (Sum E37_0 Q37_0)) :=
  bif decide (t47 < t46) then
    bif decide ((0 : Int) ≤ t47) then Option.bind ((t45)[Int.toNat t47]?) fun r5 =>
      Option.bind (impl_isLevel r5.1) fun y6 =>
      bif !y6.1 then
        some (.inr (.inr (false, ())))
      else
        some (.inl (m1c0, m1c1, m1c2, m1c3, m1c4, m1c5, m1c6, m1c7, m1c8, m1c9, m1c10, m1c11, m1c12, m1c13, m1c14, m1c15, t45, t46, IntKind.i64.wrap (t47 + (1 : Int)), ()))
    else none
  else
    some (.inr (.inl (m1c0, m1c1, m1c2, m1c3, m1c4, m1c5, m1c6, m1c7, m1c8, m1c9, m1c10, m1c11, m1c12, m1c13, m1c14, m1c15, ())))
noncomputable def impl_MateOk_r0 (x : H37_0) : Option (Sum H37_0 (Sum E37_0 Q37_0)) := impl_MateOk_c0 x.1 x.2.1 x.2.2.1 x.2.2.2.1 x.2.2.2.2.1 x.2.2.2.2.2.1 x.2.2.2.2.2.2.1 x.2.2.2.2.2.2.2.1 x.2.2.2.2.2.2.2.2.1 x.2.2.2.2.2.2.2.2.2.1 x.2.2.2.2.2.2.2.2.2.2.1 x.2.2.2.2.2.2.2.2.2.2.2.1 x.2.2.2.2.2.2.2.2.2.2.2.2.1 x.2.2.2.2.2.2.2.2.2.2.2.2.2.1 x.2.2.2.2.2.2.2.2.2.2.2.2.2.2.1 x.2.2.2.2.2.2.2.2.2.2.2.2.2.2.2.1 x.2.2.2.2.2.2.2.2.2.2.2.2.2.2.2.2.1 x.2.2.2.2.2.2.2.2.2.2.2.2.2.2.2.2.2.1 x.2.2.2.2.2.2.2.2.2.2.2.2.2.2.2.2.2.2.1
noncomputable def L37 {R : Type} : Loops R := fun id _ st k => bif Nat.beq id 0 then loopAt hp37_0 e37_0 q37_0 impl_MateOk_r0 st k else none
noncomputable def impl_MateOk (m0c0 : Int) (m0c1 : Int) (m0c2 : List (Int × Unit)) (m0c3 : List (Int × Int × Int × ByteArray × Unit)) (m0c4 : List (Int × Unit)) (m0c5 : List (ByteArray × Unit)) (m0c6 : Int) (m0c7 : Int) (m0c8 : Int) (m0c9 : Int) (m0c10 : Int) (m0c11 : Int) (m0c12 : Int) (m0c13 : Int) (m0c14 : Int) (m0c15 : List (Int × Unit)) : Option (Bool × Unit) :=
  Option.bind (slices_Contains_int m0c2 m0c0) fun y1 =>
  bif !y1.1 then
    some (false, ())
  else
    Option.bind (impl_RingOk m0c1 m0c2) fun y2 =>
    bif !y2.1 then
      some (false, ())
    else
      Option.bind (impl_ItemsOk m0c3) fun y3 =>
      bif !y3.1 then
        some (false, ())
      else bif decide ((20 : Int) < ((List.length m0c5 : Nat) : Int)) then
        some (false, ())
      else
        Option.bind (impl_areShort m0c5) fun y4 =>
        bif !y4.1 then
          some (false, ())
        else bif !decide (((List.length m0c4 : Nat) : Int) = ((List.length m0c5 : Nat) : Int)) then
          some (false, ())
        else
          outK (loopV impl_MateOk_r0 (m0c0, m0c1, m0c2, m0c3, m0c4, m0c5, m0c6, m0c7, m0c8, m0c9, m0c10, m0c11, m0c12, m0c13, m0c14, m0c15, m0c4, ((List.length m0c4 : Nat) : Int), (0 : Int), ())) (fun y5 =>
            Option.bind (impl_AruOf y5.2.2.2.1) fun y7 =>
            Option.bind (impl_inRange y5.2.2.2.2.2.2.1 (0 : Int) (1000000000 : Int)) fun y8 =>
            bif !y8.1 then
              some (false, ())
            else
              Option.bind (impl_inRange y5.2.2.2.2.2.2.2.1 (0 : Int) (60 : Int)) fun y9 =>
              bif !y9.1 then
                some (false, ())
              else
                Option.bind (impl_inRange y5.2.2.2.2.2.2.2.2.1 (0 : Int) y7.1) fun y10 =>
                bif !y10.1 then
                  some (false, ())
                else
                  Option.bind (impl_inRange y5.2.2.2.2.2.2.2.2.2.1 (0 : Int) y7.1) fun y11 =>
                  bif !y11.1 then
                    some (false, ())
                  else
                    Option.bind (impl_Token_isZero y5.2.2.2.2.2.2.2.2.2.2.1 y5.2.2.2.2.2.2.2.2.2.2.2.1 y5.2.2.2.2.2.2.2.2.2.2.2.2.1 y5.2.2.2.2.2.2.2.2.2.2.2.2.2.1 y5.2.2.2.2.2.2.2.2.2.2.2.2.2.2.1 y5.2.2.2.2.2.2.2.2.2.2.2.2.2.2.2.1) fun y12 =>
                    bif y12.1 then
                      some (true, ())
                    else
                      Option.bind (impl_TokenOk y5.2.2.2.2.2.2.2.2.2.2.1 y5.2.2.2.2.2.2.2.2.2.2.2.1 y5.2.2.2.2.2.2.2.2.2.2.2.2.1 y5.2.2.2.2.2.2.2.2.2.2.2.2.2.1 y5.2.2.2.2.2.2.2.2.2.2.2.2.2.2.1 y5.2.2.2.2.2.2.2.2.2.2.2.2.2.2.2.1) fun y13 =>
                      some (y13.1, ())) (fun y6 =>
            some (y6.1, ()))
noncomputable def x37 (x : Int × Int × (List (Int × Unit)) × (List (Int × Int × Int × ByteArray × Unit)) × (List (Int × Unit)) × (List (ByteArray × Unit)) × Int × Int × Int × Int × Int × Int × Int × Int × Int × (List (Int × Unit)) × Unit) : Option (Bool × Unit) := impl_MateOk x.1 x.2.1 x.2.2.1 x.2.2.2.1 x.2.2.2.2.1 x.2.2.2.2.2.1 x.2.2.2.2.2.2.1 x.2.2.2.2.2.2.2.1 x.2.2.2.2.2.2.2.2.1 x.2.2.2.2.2.2.2.2.2.1 x.2.2.2.2.2.2.2.2.2.2.1 x.2.2.2.2.2.2.2.2.2.2.2.1 x.2.2.2.2.2.2.2.2.2.2.2.2.1 x.2.2.2.2.2.2.2.2.2.2.2.2.2.1 x.2.2.2.2.2.2.2.2.2.2.2.2.2.2.1 x.2.2.2.2.2.2.2.2.2.2.2.2.2.2.2.1
noncomputable def sem37 : Sem1 := semOf ps37 rs37 x37
theorem so37 : SemsOk Try.prog (semsOf sl37) := sems_cons k80 (sems_cons k81 (sems_cons k82 (sems_cons k83 (sems_cons k36 (sems_cons k53 (sems_cons k67 (sems_cons k84 (sems_cons k85 (sems_nil)))))))))
noncomputable def b37_0 : Code := nthLoop code37 0
theorem t37_r0_eq (x : denR (headRT hp37_0)) : codeK (tabOf tr) (semsOf sl37) D37 L37 b37_0 (headSt hp37_0 x) (roundK 0 hp37_0 e37_0 q37_0) = impl_MateOk_r0 x := by kernel_rfl
theorem loop37_0 {R : Type} (r : R) (w0 : World) (mu : Mu) (hs : AnShape ps37 mu) : LoopAt Try.prog w0 mu 90 (L37 : Loops R) r 0 b37_0 :=
  loop_auto tr_ok eq_ok mixed_ok so37 (D := D37) hs (by kernel_rfl) (fun _ => (loops_of (l := []) (by kernel_rfl) (List.forall_mem_nil _))) t37_r0_eq (fun _ _ => rfl)
theorem t37_eq (x : denR (headRT (ps37.map some))) : codeK (tabOf tr) (semsOf sl37) D37 L37 code37 (start 90 ps37 x) (finK rs37 ps37) = x37 x := by kernel_rfl
theorem k37 : Known Try.prog 37 sem37 :=
  fn_auto tr_ok eq_ok mixed_ok so37 (D := D37) (code := code37) (n := 90) Try.func37 (by kernel_rfl) (by kernel_rfl) (by kernel_rfl) (fun w0 mu _ hs => (loops_of (l := [(0, b37_0)]) (by kernel_rfl) (List.forall_mem_cons.2 ⟨loop37_0 _ w0 mu hs, (List.forall_mem_nil _)⟩))) t37_eq

/-! ### f88: slices.Clone[[]int,int] -/
noncomputable def code88 : Code := match Try.f88.body with | some c => c | none => .skip
def ps88 : List AP := [.val false [.shr (.cons (.int .i64) .nil)]]
def rs88 : List RP := [{ src := .tmp 2, agg := false, ps := [.own (.cons (.int .i64) .nil)] }]
noncomputable def sl88 : SemL := []
def D88 : Draws := fun _ => .nil
noncomputable def L88 {R : Type} : Loops R := fun _ _ _ _ => none
noncomputable def slices_Clone_int (s0 : List (Int × Unit)) : Option ((List (Int × Unit)) × Unit) :=
  bif Nat.ble ((0 + (List.length s0)) * 8) lim then some ([] ++ s0, ())
  else none
noncomputable def x88 (x : (List (Int × Unit)) × Unit) : Option ((List (Int × Unit)) × Unit) := slices_Clone_int x.1
noncomputable def sem88 : Sem1 := semOf ps88 rs88 x88
theorem so88 : SemsOk Try.prog (semsOf sl88) := sems_nil
theorem t88_nn (x : denR (headRT (ps88.map some))) : codeK (tabOf tr) (semsOf sl88) D88 L88 code88 (startNn 8 ((.cons (.int .i64) .nil)) x.1 ps88 x) (finK rs88 ps88) = x88 x := by kernel_rfl
theorem t88_nil (z : Unit) : codeK (tabOf tr) (semsOf sl88) D88 L88 code88 (startNil 8 ps88 (([] : List (denR ((.cons (.int .i64) .nil)))), z)) (finK rs88 ps88) = x88 (([] : List (denR ((.cons (.int .i64) .nil)))), z) := by kernel_rfl
theorem k88 : Known Try.prog 88 sem88 :=
  fn_auto_nil tr_ok eq_ok mixed_ok so88 (D := D88) (code := code88) (n := 8) Try.func88 (by kernel_rfl) (by kernel_rfl) (by kernel_rfl) (fun w0 mu _ hs => (loops_of (l := []) (by kernel_rfl) (List.forall_mem_nil _))) t88_nil t88_nn

/-! ### f86: impl.copyRing -/
noncomputable def code86 : Code := match Try.f86.body with | some c => c | none => .skip
def ps86 : List AP := [.val true [.int .i64, .shr (.cons (.int .i64) .nil)]]
def rs86 : List RP := [{ src := .cell 2, agg := true, ps := [.int .i64, .own (.cons (.int .i64) .nil)] }]
noncomputable def sl86 : SemL := [(88, (.shr, .shr, .shr, sem88))]
def D86 : Draws := fun id => bif Nat.beq id 1 then .op 0 .any (.op 1 .take (.op 2 .any (.op 3 .take (.op 4 .one (.op 5 .any (.op 6 .last (.nil))))))) else .nil
noncomputable def L86 {R : Type} : Loops R := fun _ _ _ _ => none
noncomputable def impl_copyRing (r0c0 : Int) (r0c1 : List (Int × Unit)) : Option (Int × (List (Int × Unit)) × Unit) :=
  Option.bind (slices_Clone_int r0c1) fun y1 =>
  some (r0c0, y1.1, ())
noncomputable def x86 (x : Int × (List (Int × Unit)) × Unit) : Option (Int × (List (Int × Unit)) × Unit) := impl_copyRing x.1 x.2.1
noncomputable def sem86 : Sem1 := semOf ps86 rs86 x86
theorem so86 : SemsOk Try.prog (semsOf sl86) := sems_cons k88 (sems_nil)
theorem t86_eq (x : denR (headRT (ps86.map some))) : codeK (tabOf tr) (semsOf sl86) D86 L86 code86 (start 9 ps86 x) (finK rs86 ps86) = x86 x := by kernel_rfl
theorem k86 : Known Try.prog 86 sem86 :=
  fn_auto tr_ok eq_ok mixed_ok so86 (D := D86) (code := code86) (n := 9) Try.func86 (by kernel_rfl) (by kernel_rfl) (by kernel_rfl) (fun w0 mu _ hs => (loops_of (l := []) (by kernel_rfl) (List.forall_mem_nil _))) t86_eq

/-! ### f87: impl.Item] -/
noncomputable def code87 : Code := match Try.f87.body with | some c => c | none => .skip
def ps87 : List AP := [.val false [.shr (.cons (.int .i64) (.cons (.int .i64) (.cons (.int .i64) (.cons .str .nil))))]]
def rs87 : List RP := [{ src := .tmp 2, agg := false, ps := [.own (.cons (.int .i64) (.cons (.int .i64) (.cons (.int .i64) (.cons .str .nil))))] }]
noncomputable def sl87 : SemL := []
def D87 : Draws := fun _ => .nil
noncomputable def L87 {R : Type} : Loops R := fun _ _ _ _ => none
noncomputable def slices_Clone_impl_Item (s0 : List (Int × Int × Int × ByteArray × Unit)) : Option ((List (Int × Int × Int × ByteArray × Unit)) × Unit) :=
  bif Nat.ble ((0 + (List.length s0)) * 40) lim then some ([] ++ s0, ())
  else none
noncomputable def x87 (x : (List (Int × Int × Int × ByteArray × Unit)) × Unit) : Option ((List (Int × Int × Int × ByteArray × Unit)) × Unit) := slices_Clone_impl_Item x.1
noncomputable def sem87 : Sem1 := semOf ps87 rs87 x87
theorem so87 : SemsOk Try.prog (semsOf sl87) := sems_nil
theorem t87_nn (x : denR (headRT (ps87.map some))) : codeK (tabOf tr) (semsOf sl87) D87 L87 code87 (startNn 8 ((.cons (.int .i64) (.cons (.int .i64) (.cons (.int .i64) (.cons .str .nil))))) x.1 ps87 x) (finK rs87 ps87) = x87 x := by kernel_rfl
theorem t87_nil (z : Unit) : codeK (tabOf tr) (semsOf sl87) D87 L87 code87 (startNil 8 ps87 (([] : List (denR ((.cons (.int .i64) (.cons (.int .i64) (.cons (.int .i64) (.cons .str .nil))))))), z)) (finK rs87 ps87) = x87 (([] : List (denR ((.cons (.int .i64) (.cons (.int .i64) (.cons (.int .i64) (.cons .str .nil))))))), z) := by kernel_rfl
theorem k87 : Known Try.prog 87 sem87 :=
  fn_auto_nil tr_ok eq_ok mixed_ok so87 (D := D87) (code := code87) (n := 8) Try.func87 (by kernel_rfl) (by kernel_rfl) (by kernel_rfl) (fun w0 mu _ hs => (loops_of (l := []) (by kernel_rfl) (List.forall_mem_nil _))) t87_nil t87_nn

/-! ### f89: slices.Clone[[]string,string] -/
noncomputable def code89 : Code := match Try.f89.body with | some c => c | none => .skip
def ps89 : List AP := [.val false [.shr (.cons .str .nil)]]
def rs89 : List RP := [{ src := .tmp 2, agg := false, ps := [.own (.cons .str .nil)] }]
noncomputable def sl89 : SemL := []
def D89 : Draws := fun _ => .nil
noncomputable def L89 {R : Type} : Loops R := fun _ _ _ _ => none
noncomputable def slices_Clone_string (s0 : List (ByteArray × Unit)) : Option ((List (ByteArray × Unit)) × Unit) :=
  bif Nat.ble ((0 + (List.length s0)) * 16) lim then some ([] ++ s0, ())
  else none
noncomputable def x89 (x : (List (ByteArray × Unit)) × Unit) : Option ((List (ByteArray × Unit)) × Unit) := slices_Clone_string x.1
noncomputable def sem89 : Sem1 := semOf ps89 rs89 x89
theorem so89 : SemsOk Try.prog (semsOf sl89) := sems_nil
theorem t89_nn (x : denR (headRT (ps89.map some))) : codeK (tabOf tr) (semsOf sl89) D89 L89 code89 (startNn 8 ((.cons .str .nil)) x.1 ps89 x) (finK rs89 ps89) = x89 x := by kernel_rfl
theorem t89_nil (z : Unit) : codeK (tabOf tr) (semsOf sl89) D89 L89 code89 (startNil 8 ps89 (([] : List (denR ((.cons .str .nil)))), z)) (finK rs89 ps89) = x89 (([] : List (denR ((.cons .str .nil)))), z) := by kernel_rfl
theorem k89 : Known Try.prog 89 sem89 :=
  fn_auto_nil tr_ok eq_ok mixed_ok so89 (D := D89) (code := code89) (n := 8) Try.func89 (by kernel_rfl) (by kernel_rfl) (by kernel_rfl) (fun w0 mu _ hs => (loops_of (l := []) (by kernel_rfl) (List.forall_mem_nil _))) t89_nil t89_nn

/-! ### f90: impl.copyToken -/
noncomputable def code90 : Code := match Try.f90.body with | some c => c | none => .skip
def ps90 : List AP := [.val true [.int .i64, .int .i64, .int .i64, .int .i64, .int .i64, .shr (.cons (.int .i64) .nil)]]
def rs90 : List RP := [{ src := .cell 2, agg := true, ps := [.int .i64, .int .i64, .int .i64, .int .i64, .int .i64, .own (.cons (.int .i64) .nil)] }]
noncomputable def sl90 : SemL := [(88, (.shr, .shr, .shr, sem88))]
def D90 : Draws := fun _ => .nil
noncomputable def L90 {R : Type} : Loops R := fun _ _ _ _ => none
noncomputable def impl_copyToken (t0c0 : Int) (t0c1 : Int) (t0c2 : Int) (t0c3 : Int) (t0c4 : Int) (t0c5 : List (Int × Unit)) : Option (Int × Int × Int × Int × Int × (List (Int × Unit)) × Unit) :=
  Option.bind (slices_Clone_int t0c5) fun y1 =>
  some (t0c0, t0c1, t0c2, t0c3, t0c4, y1.1, ())
noncomputable def x90 (x : Int × Int × Int × Int × Int × (List (Int × Unit)) × Unit) : Option (Int × Int × Int × Int × Int × (List (Int × Unit)) × Unit) := impl_copyToken x.1 x.2.1 x.2.2.1 x.2.2.2.1 x.2.2.2.2.1 x.2.2.2.2.2.1
noncomputable def sem90 : Sem1 := semOf ps90 rs90 x90
theorem so90 : SemsOk Try.prog (semsOf sl90) := sems_cons k88 (sems_nil)
theorem t90_eq (x : denR (headRT (ps90.map some))) : codeK (tabOf tr) (semsOf sl90) D90 L90 code90 (start 8 ps90 x) (finK rs90 ps90) = x90 x := by kernel_rfl
theorem k90 : Known Try.prog 90 sem90 :=
  fn_auto tr_ok eq_ok mixed_ok so90 (D := D90) (code := code90) (n := 8) Try.func90 (by kernel_rfl) (by kernel_rfl) (by kernel_rfl) (fun w0 mu _ hs => (loops_of (l := []) (by kernel_rfl) (List.forall_mem_nil _))) t90_eq

/-! ### f38: impl.copyMate -/
noncomputable def code38 : Code := match Try.f38.body with | some c => c | none => .skip
def ps38 : List AP := [.val true [.int .i64, .int .i64, .shr (.cons (.int .i64) .nil), .shr (.cons (.int .i64) (.cons (.int .i64) (.cons (.int .i64) (.cons .str .nil)))), .shr (.cons (.int .i64) .nil), .shr (.cons .str .nil), .int .i64, .int .i64, .int .i64, .int .i64, .int .i64, .int .i64, .int .i64, .int .i64, .int .i64, .shr (.cons (.int .i64) .nil)]]
def rs38 : List RP := [{ src := .cell 2, agg := true, ps := [.int .i64, .int .i64, .own (.cons (.int .i64) .nil), .own (.cons (.int .i64) (.cons (.int .i64) (.cons (.int .i64) (.cons .str .nil)))), .own (.cons (.int .i64) .nil), .own (.cons .str .nil), .int .i64, .int .i64, .int .i64, .int .i64, .int .i64, .int .i64, .int .i64, .int .i64, .int .i64, .own (.cons (.int .i64) .nil)] }]
noncomputable def sl38 : SemL := [(86, (.shr, .shr, .shr, sem86)), (87, (.shr, .shr, .shr, sem87)), (88, (.shr, .shr, .shr, sem88)), (89, (.shr, .shr, .shr, sem89)), (90, (.shr, .shr, .shr, sem90))]
def D38 : Draws := fun _ => .nil
noncomputable def L38 {R : Type} : Loops R := fun _ _ _ _ => none
noncomputable def impl_copyMate (m0c0 : Int) (m0c1 : Int) (m0c2 : List (Int × Unit)) (m0c3 : List (Int × Int × Int × ByteArray × Unit)) (m0c4 : List (Int × Unit)) (m0c5 : List (ByteArray × Unit)) (m0c6 : Int) (m0c7 : Int) (m0c8 : Int) (m0c9 : Int) (m0c10 : Int) (m0c11 : Int) (m0c12 : Int) (m0c13 : Int) (m0c14 : Int) (m0c15 : List (Int × Unit)) : Option (Int × Int × (List (Int × Unit)) × (List (Int × Int × Int × ByteArray × Unit)) × (List (Int × Unit)) × (List (ByteArray × Unit)) × Int × Int × Int × Int × Int × Int × Int × Int × Int × (List (Int × Unit)) × Unit) :=
  Option.bind (impl_copyRing m0c1 m0c2) fun y1 =>
  Option.bind (slices_Clone_impl_Item m0c3) fun y2 =>
  Option.bind (slices_Clone_int m0c4) fun y3 =>
  Option.bind (slices_Clone_string m0c5) fun y4 =>
  Option.bind (impl_copyToken m0c10 m0c11 m0c12 m0c13 m0c14 m0c15) fun y5 =>
  some (m0c0, y1.1, y1.2.1, y2.1, y3.1, y4.1, m0c6, m0c7, m0c8, m0c9, y5.1, y5.2.1, y5.2.2.1, y5.2.2.2.1, y5.2.2.2.2.1, y5.2.2.2.2.2.1, ())
noncomputable def x38 (x : Int × Int × (List (Int × Unit)) × (List (Int × Int × Int × ByteArray × Unit)) × (List (Int × Unit)) × (List (ByteArray × Unit)) × Int × Int × Int × Int × Int × Int × Int × Int × Int × (List (Int × Unit)) × Unit) : Option (Int × Int × (List (Int × Unit)) × (List (Int × Int × Int × ByteArray × Unit)) × (List (Int × Unit)) × (List (ByteArray × Unit)) × Int × Int × Int × Int × Int × Int × Int × Int × Int × (List (Int × Unit)) × Unit) := impl_copyMate x.1 x.2.1 x.2.2.1 x.2.2.2.1 x.2.2.2.2.1 x.2.2.2.2.2.1 x.2.2.2.2.2.2.1 x.2.2.2.2.2.2.2.1 x.2.2.2.2.2.2.2.2.1 x.2.2.2.2.2.2.2.2.2.1 x.2.2.2.2.2.2.2.2.2.2.1 x.2.2.2.2.2.2.2.2.2.2.2.1 x.2.2.2.2.2.2.2.2.2.2.2.2.1 x.2.2.2.2.2.2.2.2.2.2.2.2.2.1 x.2.2.2.2.2.2.2.2.2.2.2.2.2.2.1 x.2.2.2.2.2.2.2.2.2.2.2.2.2.2.2.1
noncomputable def sem38 : Sem1 := semOf ps38 rs38 x38
theorem so38 : SemsOk Try.prog (semsOf sl38) := sems_cons k86 (sems_cons k87 (sems_cons k88 (sems_cons k89 (sems_cons k90 (sems_nil)))))
theorem t38_eq (x : denR (headRT (ps38.map some))) : codeK (tabOf tr) (semsOf sl38) D38 L38 code38 (start 24 ps38 x) (finK rs38 ps38) = x38 x := by kernel_rfl
theorem k38 : Known Try.prog 38 sem38 :=
  fn_auto tr_ok eq_ok mixed_ok so38 (D := D38) (code := code38) (n := 24) Try.func38 (by kernel_rfl) (by kernel_rfl) (by kernel_rfl) (fun w0 mu _ hs => (loops_of (l := []) (by kernel_rfl) (List.forall_mem_nil _))) t38_eq

/-! ### f9: impl.Say -/
noncomputable def code9 : Code := match Try.f9.body with | some c => c | none => .skip
def ps9 : List AP := [.val true [.int .i64, .int .i64, .shr (.cons (.int .i64) .nil), .shr (.cons (.int .i64) (.cons (.int .i64) (.cons (.int .i64) (.cons .str .nil)))), .shr (.cons (.int .i64) .nil), .shr (.cons .str .nil), .int .i64, .int .i64, .int .i64, .int .i64, .int .i64, .int .i64, .int .i64, .int .i64, .int .i64, .shr (.cons (.int .i64) .nil)], .val false [.int .i64], .val false [.str]]
def rs9 : List RP := [{ src := .cell 6, agg := true, ps := [.int .i64, .int .i64, .own (.cons (.int .i64) .nil), .own (.cons (.int .i64) (.cons (.int .i64) (.cons (.int .i64) (.cons .str .nil)))), .own (.cons (.int .i64) .nil), .own (.cons .str .nil), .int .i64, .int .i64, .int .i64, .int .i64, .int .i64, .int .i64, .int .i64, .int .i64, .int .i64, .own (.cons (.int .i64) .nil)] }, { src := .tmp 7, agg := false, ps := [.bool] }]
noncomputable def sl9 : SemL := [(36, (.shr, .shr, .shr, sem36)), (37, (.shr, .shr, .shr, sem37)), (38, (.shr, .shr, .shr, sem38))]
def D9 : Draws := fun _ => .nil
noncomputable def L9 {R : Type} : Loops R := fun _ _ _ _ => none
noncomputable def impl_Say (m0c0 : Int) (m0c1 : Int) (m0c2 : List (Int × Unit)) (m0c3 : List (Int × Int × Int × ByteArray × Unit)) (m0c4 : List (Int × Unit)) (m0c5 : List (ByteArray × Unit)) (m0c6 : Int) (m0c7 : Int) (m0c8 : Int) (m0c9 : Int) (m0c10 : Int) (m0c11 : Int) (m0c12 : Int) (m0c13 : Int) (m0c14 : Int) (m0c15 : List (Int × Unit)) (level1 : Int) (text2 : ByteArray) : Option (Int × Int × (List (Int × Unit)) × (List (Int × Int × Int × ByteArray × Unit)) × (List (Int × Unit)) × (List (ByteArray × Unit)) × Int × Int × Int × Int × Int × Int × Int × Int × Int × (List (Int × Unit)) × Bool × Unit) :=
  Option.bind (impl_isLevel level1) fun y1 =>
  bif !y1.1 then
    some ((0 : Int), (0 : Int), [], [], [], [], (0 : Int), (0 : Int), (0 : Int), (0 : Int), (0 : Int), (0 : Int), (0 : Int), (0 : Int), (0 : Int), [], false, ())
  else bif decide ((60 : Int) < ((ByteArray.size text2 : Nat) : Int)) then
    some ((0 : Int), (0 : Int), [], [], [], [], (0 : Int), (0 : Int), (0 : Int), (0 : Int), (0 : Int), (0 : Int), (0 : Int), (0 : Int), (0 : Int), [], false, ())
  else bif decide ((20 : Int) ≤ ((List.length m0c5 : Nat) : Int)) then
    some ((0 : Int), (0 : Int), [], [], [], [], (0 : Int), (0 : Int), (0 : Int), (0 : Int), (0 : Int), (0 : Int), (0 : Int), (0 : Int), (0 : Int), [], false, ())
  else
    Option.bind (impl_MateOk m0c0 m0c1 m0c2 m0c3 m0c4 m0c5 m0c6 m0c7 m0c8 m0c9 m0c10 m0c11 m0c12 m0c13 m0c14 m0c15) fun y2 =>
    bif !y2.1 then
      some ((0 : Int), (0 : Int), [], [], [], [], (0 : Int), (0 : Int), (0 : Int), (0 : Int), (0 : Int), (0 : Int), (0 : Int), (0 : Int), (0 : Int), [], false, ())
    else
      Option.bind (impl_copyMate m0c0 m0c1 m0c2 m0c3 m0c4 m0c5 m0c6 m0c7 m0c8 m0c9 m0c10 m0c11 m0c12 m0c13 m0c14 m0c15) fun y3 =>
      bif Nat.ble (((List.length y3.2.2.2.2.1) + 1) * 8) lim then bif Nat.ble (((List.length y3.2.2.2.2.2.1) + 1) * 16) lim then some (y3.1, y3.2.1, y3.2.2.1, y3.2.2.2.1, y3.2.2.2.2.1 ++ [(level1, ())], y3.2.2.2.2.2.1 ++ [(text2, ())], y3.2.2.2.2.2.2.1, y3.2.2.2.2.2.2.2.1, y3.2.2.2.2.2.2.2.2.1, y3.2.2.2.2.2.2.2.2.2.1, y3.2.2.2.2.2.2.2.2.2.2.1, y3.2.2.2.2.2.2.2.2.2.2.2.1, y3.2.2.2.2.2.2.2.2.2.2.2.2.1, y3.2.2.2.2.2.2.2.2.2.2.2.2.2.1, y3.2.2.2.2.2.2.2.2.2.2.2.2.2.2.1, y3.2.2.2.2.2.2.2.2.2.2.2.2.2.2.2.1, true, ())
        else none
      else none
noncomputable def x9 (x : Int × Int × (List (Int × Unit)) × (List (Int × Int × Int × ByteArray × Unit)) × (List (Int × Unit)) × (List (ByteArray × Unit)) × Int × Int × Int × Int × Int × Int × Int × Int × Int × (List (Int × Unit)) × Int × ByteArray × Unit) : Option (Int × Int × (List (Int × Unit)) × (List (Int × Int × Int × ByteArray × Unit)) × (List (Int × Unit)) × (List (ByteArray × Unit)) × Int × Int × Int × Int × Int × Int × Int × Int × Int × (List (Int × Unit)) × Bool × Unit) := impl_Say x.1 x.2.1 x.2.2.1 x.2.2.2.1 x.2.2.2.2.1 x.2.2.2.2.2.1 x.2.2.2.2.2.2.1 x.2.2.2.2.2.2.2.1 x.2.2.2.2.2.2.2.2.1 x.2.2.2.2.2.2.2.2.2.1 x.2.2.2.2.2.2.2.2.2.2.1 x.2.2.2.2.2.2.2.2.2.2.2.1 x.2.2.2.2.2.2.2.2.2.2.2.2.1 x.2.2.2.2.2.2.2.2.2.2.2.2.2.1 x.2.2.2.2.2.2.2.2.2.2.2.2.2.2.1 x.2.2.2.2.2.2.2.2.2.2.2.2.2.2.2.1 x.2.2.2.2.2.2.2.2.2.2.2.2.2.2.2.2.1 x.2.2.2.2.2.2.2.2.2.2.2.2.2.2.2.2.2.1
noncomputable def sem9 : Sem1 := semOf ps9 rs9 x9
theorem so9 : SemsOk Try.prog (semsOf sl9) := sems_cons k36 (sems_cons k37 (sems_cons k38 (sems_nil)))
theorem t9_eq (x : denR (headRT (ps9.map some))) : codeK (tabOf tr) (semsOf sl9) D9 L9 code9 (start 44 ps9 x) (finK rs9 ps9) = x9 x := by kernel_rfl
theorem k9 : Known Try.prog 9 sem9 :=
  fn_auto tr_ok eq_ok mixed_ok so9 (D := D9) (code := code9) (n := 44) Try.func9 (by kernel_rfl) (by kernel_rfl) (by kernel_rfl) (fun w0 mu _ hs => (loops_of (l := []) (by kernel_rfl) (List.forall_mem_nil _))) t9_eq

/-! ### f40: laws.eqIntS -/
noncomputable def code40 : Code := match Try.f40.body with | some c => c | none => .skip
def ps40 : List AP := [.val false [.shr (.cons (.int .i64) .nil)], .val false [.shr (.cons (.int .i64) .nil)]]
def rs40 : List RP := [{ src := .tmp 4, agg := false, ps := [.bool] }]
noncomputable def sl40 : SemL := []
def D40 : Draws := fun id => bif Nat.beq id 6 then .op 0 .any (.op 1 .any (.op 2 .any (.op 3 .take (.op 4 .any (.op 5 .any (.op 6 .any (.op 7 .take (.op 8 .any (.nil))))))))) else .nil
def hp40_0 : List (Option AP) := [some (.val false [.shr (.cons (.int .i64) .nil)]), some (.val false [.shr (.cons (.int .i64) .nil)]), none, none, none, some (.val false [.int .i64]), none, none, none, none, none, none, none, none, none, none, none, none, none, none, none, none, none, none, none, none]
def e40_0 : List (Option AP) := [none, none, none, none, none, none, none, none, none, none, none, none, none, none, none, none, none, none, none, none, none, none, none, none, none, none]
def q40_0 : List (Option AP) := [none, none, none, none, some (.val false [.bool]), none, none, none, none, none, none, none, none, none, none, none, none, none, none, none, none, none, none, none, none, none]
abbrev H40_0 : Type := (List (Int × Unit)) × (List (Int × Unit)) × Int × Unit
abbrev E40_0 : Type := Unit
abbrev Q40_0 : Type := Bool × Unit
noncomputable def laws_eqIntS_c0 (a0 : List (Int × Unit)) (b1 : List (Int × Unit)) (i5 : Int) : Option (Sum H40_0 (Sum E40_0 Q40_0)) :=
  bif decide (i5 < ((List.length a0 : Nat) : Int)) then
    bif decide ((0 : Int) ≤ i5) then Option.bind ((a0)[Int.toNat i5]?) fun r1 =>
      bif decide ((0 : Int) ≤ i5) then Option.bind ((b1)[Int.toNat i5]?) fun r2 =>
        bif !decide (r1.1 = r2.1) then
          some (.inr (.inr (false, ())))
        else
          some (.inl (a0, b1, IntKind.i64.wrap (i5 + (1 : Int)), ()))
      else none
    else none
  else
    some (.inr (.inl (())))
noncomputable def laws_eqIntS_r0 (x : H40_0) : Option (Sum H40_0 (Sum E40_0 Q40_0)) := laws_eqIntS_c0 x.1 x.2.1 x.2.2.1
noncomputable def L40 {R : Type} : Loops R := fun id _ st k => bif Nat.beq id 0 then loopAt hp40_0 e40_0 q40_0 laws_eqIntS_r0 st k else none
noncomputable def laws_eqIntS (a0 : List (Int × Unit)) (b1 : List (Int × Unit)) : Option (Bool × Unit) :=
  bif !decide (((List.length a0 : Nat) : Int) = ((List.length b1 : Nat) : Int)) then
    some (false, ())
  else
    outK (loopV laws_eqIntS_r0 (a0, b1, (0 : Int), ())) (fun y1 =>
      some (true, ())) (fun y2 =>
      some (y2.1, ()))
noncomputable def x40 (x : (List (Int × Unit)) × (List (Int × Unit)) × Unit) : Option (Bool × Unit) := laws_eqIntS x.1 x.2.1
noncomputable def sem40 : Sem1 := semOf ps40 rs40 x40
theorem so40 : SemsOk Try.prog (semsOf sl40) := sems_nil
noncomputable def b40_0 : Code := nthLoop code40 0
theorem t40_r0_eq (x : denR (headRT hp40_0)) : codeK (tabOf tr) (semsOf sl40) D40 L40 b40_0 (headSt hp40_0 x) (roundK 0 hp40_0 e40_0 q40_0) = laws_eqIntS_r0 x := by kernel_rfl
theorem loop40_0 {R : Type} (r : R) (w0 : World) (mu : Mu) (hs : AnShape ps40 mu) : LoopAt Try.prog w0 mu 26 (L40 : Loops R) r 0 b40_0 :=
  loop_auto tr_ok eq_ok mixed_ok so40 (D := D40) hs (by kernel_rfl) (fun _ => (loops_of (l := []) (by kernel_rfl) (List.forall_mem_nil _))) t40_r0_eq (fun _ _ => rfl)
theorem t40_eq (x : denR (headRT (ps40.map some))) : codeK (tabOf tr) (semsOf sl40) D40 L40 code40 (start 26 ps40 x) (finK rs40 ps40) = x40 x := by kernel_rfl
theorem k40 : Known Try.prog 40 sem40 :=
  fn_auto tr_ok eq_ok mixed_ok so40 (D := D40) (code := code40) (n := 26) Try.func40 (by kernel_rfl) (by kernel_rfl) (by kernel_rfl) (fun w0 mu _ hs => (loops_of (l := [(0, b40_0)]) (by kernel_rfl) (List.forall_mem_cons.2 ⟨loop40_0 _ w0 mu hs, (List.forall_mem_nil _)⟩))) t40_eq

/-! ### f39: laws.eqRing -/
noncomputable def code39 : Code := match Try.f39.body with | some c => c | none => .skip
def ps39 : List AP := [.val true [.int .i64, .shr (.cons (.int .i64) .nil)], .val true [.int .i64, .shr (.cons (.int .i64) .nil)]]
def rs39 : List RP := [{ src := .tmp 4, agg := false, ps := [.bool] }]
noncomputable def sl39 : SemL := [(40, (.shr, .shr, .shr, sem40))]
def D39 : Draws := fun _ => .nil
noncomputable def L39 {R : Type} : Loops R := fun _ _ _ _ => none
noncomputable def laws_eqRing (a0c0 : Int) (a0c1 : List (Int × Unit)) (b1c0 : Int) (b1c1 : List (Int × Unit)) : Option (Bool × Unit) :=
  bif !decide (a0c0 = b1c0) then
    some (false, ())
  else
    Option.bind (laws_eqIntS a0c1 b1c1) fun y1 =>
    bif !y1.1 then
      some (false, ())
    else
      some (true, ())
noncomputable def x39 (x : Int × (List (Int × Unit)) × Int × (List (Int × Unit)) × Unit) : Option (Bool × Unit) := laws_eqRing x.1 x.2.1 x.2.2.1 x.2.2.2.1
noncomputable def sem39 : Sem1 := semOf ps39 rs39 x39
theorem so39 : SemsOk Try.prog (semsOf sl39) := sems_cons k40 (sems_nil)
theorem t39_eq (x : denR (headRT (ps39.map some))) : codeK (tabOf tr) (semsOf sl39) D39 L39 code39 (start 16 ps39 x) (finK rs39 ps39) = x39 x := by kernel_rfl
theorem k39 : Known Try.prog 39 sem39 :=
  fn_auto tr_ok eq_ok mixed_ok so39 (D := D39) (code := code39) (n := 16) Try.func39 (by kernel_rfl) (by kernel_rfl) (by kernel_rfl) (fun w0 mu _ hs => (loops_of (l := []) (by kernel_rfl) (List.forall_mem_nil _))) t39_eq

/-! ### f55: laws.eqItem -/
noncomputable def code55 : Code := match Try.f55.body with | some c => c | none => .skip
def ps55 : List AP := [.val true [.int .i64, .int .i64, .int .i64, .str], .val true [.int .i64, .int .i64, .int .i64, .str]]
def rs55 : List RP := [{ src := .tmp 4, agg := false, ps := [.bool] }]
noncomputable def sl55 : SemL := []
def D55 : Draws := fun _ => .nil
noncomputable def L55 {R : Type} : Loops R := fun _ _ _ _ => none
noncomputable def laws_eqItem (a0c0 : Int) (a0c1 : Int) (a0c2 : Int) (a0c3 : ByteArray) (b1c0 : Int) (b1c1 : Int) (b1c2 : Int) (b1c3 : ByteArray) : Option (Bool × Unit) :=
  bif !decide (a0c0 = b1c0) then
    some (false, ())
  else bif !decide (a0c1 = b1c1) then
    some (false, ())
  else bif !decide (a0c2 = b1c2) then
    some (false, ())
  else bif !strEq a0c3 b1c3 then
    some (false, ())
  else
    some (true, ())
noncomputable def x55 (x : Int × Int × Int × ByteArray × Int × Int × Int × ByteArray × Unit) : Option (Bool × Unit) := laws_eqItem x.1 x.2.1 x.2.2.1 x.2.2.2.1 x.2.2.2.2.1 x.2.2.2.2.2.1 x.2.2.2.2.2.2.1 x.2.2.2.2.2.2.2.1
noncomputable def sem55 : Sem1 := semOf ps55 rs55 x55
theorem so55 : SemsOk Try.prog (semsOf sl55) := sems_nil
theorem t55_eq (x : denR (headRT (ps55.map some))) : codeK (tabOf tr) (semsOf sl55) D55 L55 code55 (start 25 ps55 x) (finK rs55 ps55) = x55 x := by kernel_rfl
theorem k55 : Known Try.prog 55 sem55 :=
  fn_auto tr_ok eq_ok mixed_ok so55 (D := D55) (code := code55) (n := 25) Try.func55 (by kernel_rfl) (by kernel_rfl) (by kernel_rfl) (fun w0 mu _ hs => (loops_of (l := []) (by kernel_rfl) (List.forall_mem_nil _))) t55_eq

/-! ### f15: laws.eqItemS -/
noncomputable def code15 : Code := match Try.f15.body with | some c => c | none => .skip
def ps15 : List AP := [.val false [.shr (.cons (.int .i64) (.cons (.int .i64) (.cons (.int .i64) (.cons .str .nil))))], .val false [.shr (.cons (.int .i64) (.cons (.int .i64) (.cons (.int .i64) (.cons .str .nil))))]]
def rs15 : List RP := [{ src := .tmp 4, agg := false, ps := [.bool] }]
noncomputable def sl15 : SemL := [(55, (.shr, .shr, .shr, sem55))]
def D15 : Draws := fun id => bif Nat.beq id 6 then .op 0 .any (.op 1 .any (.op 2 .any (.op 3 .take (.op 4 .any (.op 5 .any (.op 6 .any (.op 7 .take (.op 8 .one (.op 9 .any (.nil)))))))))) else .nil
def hp15_0 : List (Option AP) := [some (.val false [.shr (.cons (.int .i64) (.cons (.int .i64) (.cons (.int .i64) (.cons .str .nil))))]), some (.val false [.shr (.cons (.int .i64) (.cons (.int .i64) (.cons (.int .i64) (.cons .str .nil))))]), none, none, none, some (.val false [.int .i64]), none, none, none, none, none, none, none, none, none, none, none, none, none, none, none, none, none, none, none, none, none]
def e15_0 : List (Option AP) := [none, none, none, none, none, none, none, none, none, none, none, none, none, none, none, none, none, none, none, none, none, none, none, none, none, none, none]
def q15_0 : List (Option AP) := [none, none, none, none, some (.val false [.bool]), none, none, none, none, none, none, none, none, none, none, none, none, none, none, none, none, none, none, none, none, none, none]
abbrev H15_0 : Type := (List (Int × Int × Int × ByteArray × Unit)) × (List (Int × Int × Int × ByteArray × Unit)) × Int × Unit
abbrev E15_0 : Type := Unit
abbrev Q15_0 : Type := Bool × Unit
noncomputable def laws_eqItemS_c0 (a0 : List (Int × Int × Int × ByteArray × Unit)) (b1 : List (Int × Int × Int × ByteArray × Unit)) (i5 : Int) : Option (Sum H15_0 (Sum E15_0 Q15_0)) :=
  bif decide (i5 < ((List.length a0 : Nat) : Int)) then
    bif decide ((0 : Int) ≤ i5) then Option.bind ((a0)[Int.toNat i5]?) fun r1 =>
      bif decide ((0 : Int) ≤ i5) then Option.bind ((b1)[Int.toNat i5]?) fun r2 =>
        Option.bind (laws_eqItem r1.1 r1.2.1 r1.2.2.1 r1.2.2.2.1 r2.1 r2.2.1 r2.2.2.1 r2.2.2.2.1) fun y3 =>
        bif !y3.1 then
          some (.inr (.inr (false, ())))
        else
          some (.inl (a0, b1, IntKind.i64.wrap (i5 + (1 : Int)), ()))
      else none
    else none
  else
    some (.inr (.inl (())))
noncomputable def laws_eqItemS_r0 (x : H15_0) : Option (Sum H15_0 (Sum E15_0 Q15_0)) := laws_eqItemS_c0 x.1 x.2.1 x.2.2.1
noncomputable def L15 {R : Type} : Loops R := fun id _ st k => bif Nat.beq id 0 then loopAt hp15_0 e15_0 q15_0 laws_eqItemS_r0 st k else none
noncomputable def laws_eqItemS (a0 : List (Int × Int × Int × ByteArray × Unit)) (b1 : List (Int × Int × Int × ByteArray × Unit)) : Option (Bool × Unit) :=
  bif !decide (((List.length a0 : Nat) : Int) = ((List.length b1 : Nat) : Int)) then
    some (false, ())
  else
    outK (loopV laws_eqItemS_r0 (a0, b1, (0 : Int), ())) (fun y1 =>
      some (true, ())) (fun y2 =>
      some (y2.1, ()))
noncomputable def x15 (x : (List (Int × Int × Int × ByteArray × Unit)) × (List (Int × Int × Int × ByteArray × Unit)) × Unit) : Option (Bool × Unit) := laws_eqItemS x.1 x.2.1
noncomputable def sem15 : Sem1 := semOf ps15 rs15 x15
theorem so15 : SemsOk Try.prog (semsOf sl15) := sems_cons k55 (sems_nil)
noncomputable def b15_0 : Code := nthLoop code15 0
theorem t15_r0_eq (x : denR (headRT hp15_0)) : codeK (tabOf tr) (semsOf sl15) D15 L15 b15_0 (headSt hp15_0 x) (roundK 0 hp15_0 e15_0 q15_0) = laws_eqItemS_r0 x := by kernel_rfl
theorem loop15_0 {R : Type} (r : R) (w0 : World) (mu : Mu) (hs : AnShape ps15 mu) : LoopAt Try.prog w0 mu 27 (L15 : Loops R) r 0 b15_0 :=
  loop_auto tr_ok eq_ok mixed_ok so15 (D := D15) hs (by kernel_rfl) (fun _ => (loops_of (l := []) (by kernel_rfl) (List.forall_mem_nil _))) t15_r0_eq (fun _ _ => rfl)
theorem t15_eq (x : denR (headRT (ps15.map some))) : codeK (tabOf tr) (semsOf sl15) D15 L15 code15 (start 27 ps15 x) (finK rs15 ps15) = x15 x := by kernel_rfl
theorem k15 : Known Try.prog 15 sem15 :=
  fn_auto tr_ok eq_ok mixed_ok so15 (D := D15) (code := code15) (n := 27) Try.func15 (by kernel_rfl) (by kernel_rfl) (by kernel_rfl) (fun w0 mu _ hs => (loops_of (l := [(0, b15_0)]) (by kernel_rfl) (List.forall_mem_cons.2 ⟨loop15_0 _ w0 mu hs, (List.forall_mem_nil _)⟩))) t15_eq

/-! ### f41: laws.eqStringS -/
noncomputable def code41 : Code := match Try.f41.body with | some c => c | none => .skip
def ps41 : List AP := [.val false [.shr (.cons .str .nil)], .val false [.shr (.cons .str .nil)]]
def rs41 : List RP := [{ src := .tmp 4, agg := false, ps := [.bool] }]
noncomputable def sl41 : SemL := []
def D41 : Draws := fun id => bif Nat.beq id 6 then .op 0 .any (.op 1 .any (.op 2 .any (.op 3 .take (.op 4 .any (.op 5 .any (.op 6 .any (.op 7 .take (.op 8 .any (.nil))))))))) else .nil
def hp41_0 : List (Option AP) := [some (.val false [.shr (.cons .str .nil)]), some (.val false [.shr (.cons .str .nil)]), none, none, none, some (.val false [.int .i64]), none, none, none, none, none, none, none, none, none, none, none, none, none, none, none, none, none, none, none, none]
def e41_0 : List (Option AP) := [none, none, none, none, none, none, none, none, none, none, none, none, none, none, none, none, none, none, none, none, none, none, none, none, none, none]
def q41_0 : List (Option AP) := [none, none, none, none, some (.val false [.bool]), none, none, none, none, none, none, none, none, none, none, none, none, none, none, none, none, none, none, none, none, none]
abbrev H41_0 : Type := (List (ByteArray × Unit)) × (List (ByteArray × Unit)) × Int × Unit
abbrev E41_0 : Type := Unit
abbrev Q41_0 : Type := Bool × Unit
noncomputable def laws_eqStringS_c0 (a0 : List (ByteArray × Unit)) (b1 : List (ByteArray × Unit)) (i5 : Int) : Option (Sum H41_0 (Sum E41_0 Q41_0)) :=
  bif decide (i5 < ((List.length a0 : Nat) : Int)) then
    bif decide ((0 : Int) ≤ i5) then Option.bind ((a0)[Int.toNat i5]?) fun r1 =>
      bif decide ((0 : Int) ≤ i5) then Option.bind ((b1)[Int.toNat i5]?) fun r2 =>
        bif !strEq r1.1 r2.1 then
          some (.inr (.inr (false, ())))
        else
          some (.inl (a0, b1, IntKind.i64.wrap (i5 + (1 : Int)), ()))
      else none
    else none
  else
    some (.inr (.inl (())))
noncomputable def laws_eqStringS_r0 (x : H41_0) : Option (Sum H41_0 (Sum E41_0 Q41_0)) := laws_eqStringS_c0 x.1 x.2.1 x.2.2.1
noncomputable def L41 {R : Type} : Loops R := fun id _ st k => bif Nat.beq id 0 then loopAt hp41_0 e41_0 q41_0 laws_eqStringS_r0 st k else none
noncomputable def laws_eqStringS (a0 : List (ByteArray × Unit)) (b1 : List (ByteArray × Unit)) : Option (Bool × Unit) :=
  bif !decide (((List.length a0 : Nat) : Int) = ((List.length b1 : Nat) : Int)) then
    some (false, ())
  else
    outK (loopV laws_eqStringS_r0 (a0, b1, (0 : Int), ())) (fun y1 =>
      some (true, ())) (fun y2 =>
      some (y2.1, ()))
noncomputable def x41 (x : (List (ByteArray × Unit)) × (List (ByteArray × Unit)) × Unit) : Option (Bool × Unit) := laws_eqStringS x.1 x.2.1
noncomputable def sem41 : Sem1 := semOf ps41 rs41 x41
theorem so41 : SemsOk Try.prog (semsOf sl41) := sems_nil
noncomputable def b41_0 : Code := nthLoop code41 0
theorem t41_r0_eq (x : denR (headRT hp41_0)) : codeK (tabOf tr) (semsOf sl41) D41 L41 b41_0 (headSt hp41_0 x) (roundK 0 hp41_0 e41_0 q41_0) = laws_eqStringS_r0 x := by kernel_rfl
theorem loop41_0 {R : Type} (r : R) (w0 : World) (mu : Mu) (hs : AnShape ps41 mu) : LoopAt Try.prog w0 mu 26 (L41 : Loops R) r 0 b41_0 :=
  loop_auto tr_ok eq_ok mixed_ok so41 (D := D41) hs (by kernel_rfl) (fun _ => (loops_of (l := []) (by kernel_rfl) (List.forall_mem_nil _))) t41_r0_eq (fun _ _ => rfl)
theorem t41_eq (x : denR (headRT (ps41.map some))) : codeK (tabOf tr) (semsOf sl41) D41 L41 code41 (start 26 ps41 x) (finK rs41 ps41) = x41 x := by kernel_rfl
theorem k41 : Known Try.prog 41 sem41 :=
  fn_auto tr_ok eq_ok mixed_ok so41 (D := D41) (code := code41) (n := 26) Try.func41 (by kernel_rfl) (by kernel_rfl) (by kernel_rfl) (fun w0 mu _ hs => (loops_of (l := [(0, b41_0)]) (by kernel_rfl) (List.forall_mem_cons.2 ⟨loop41_0 _ w0 mu hs, (List.forall_mem_nil _)⟩))) t41_eq

/-! ### f42: laws.eqToken -/
noncomputable def code42 : Code := match Try.f42.body with | some c => c | none => .skip
def ps42 : List AP := [.val true [.int .i64, .int .i64, .int .i64, .int .i64, .int .i64, .shr (.cons (.int .i64) .nil)], .val true [.int .i64, .int .i64, .int .i64, .int .i64, .int .i64, .shr (.cons (.int .i64) .nil)]]
def rs42 : List RP := [{ src := .tmp 4, agg := false, ps := [.bool] }]
noncomputable def sl42 : SemL := [(40, (.shr, .shr, .shr, sem40))]
def D42 : Draws := fun _ => .nil
noncomputable def L42 {R : Type} : Loops R := fun _ _ _ _ => none
noncomputable def laws_eqToken (a0c0 : Int) (a0c1 : Int) (a0c2 : Int) (a0c3 : Int) (a0c4 : Int) (a0c5 : List (Int × Unit)) (b1c0 : Int) (b1c1 : Int) (b1c2 : Int) (b1c3 : Int) (b1c4 : Int) (b1c5 : List (Int × Unit)) : Option (Bool × Unit) :=
  bif !decide (a0c0 = b1c0) then
    some (false, ())
  else bif !decide (a0c1 = b1c1) then
    some (false, ())
  else bif !decide (a0c2 = b1c2) then
    some (false, ())
  else bif !decide (a0c3 = b1c3) then
    some (false, ())
  else bif !decide (a0c4 = b1c4) then
    some (false, ())
  else
    Option.bind (laws_eqIntS a0c5 b1c5) fun y1 =>
    bif !y1.1 then
      some (false, ())
    else
      some (true, ())
noncomputable def x42 (x : Int × Int × Int × Int × Int × (List (Int × Unit)) × Int × Int × Int × Int × Int × (List (Int × Unit)) × Unit) : Option (Bool × Unit) := laws_eqToken x.1 x.2.1 x.2.2.1 x.2.2.2.1 x.2.2.2.2.1 x.2.2.2.2.2.1 x.2.2.2.2.2.2.1 x.2.2.2.2.2.2.2.1 x.2.2.2.2.2.2.2.2.1 x.2.2.2.2.2.2.2.2.2.1 x.2.2.2.2.2.2.2.2.2.2.1 x.2.2.2.2.2.2.2.2.2.2.2.1
noncomputable def sem42 : Sem1 := semOf ps42 rs42 x42
theorem so42 : SemsOk Try.prog (semsOf sl42) := sems_cons k40 (sems_nil)
theorem t42_eq (x : denR (headRT (ps42.map some))) : codeK (tabOf tr) (semsOf sl42) D42 L42 code42 (start 36 ps42 x) (finK rs42 ps42) = x42 x := by kernel_rfl
theorem k42 : Known Try.prog 42 sem42 :=
  fn_auto tr_ok eq_ok mixed_ok so42 (D := D42) (code := code42) (n := 36) Try.func42 (by kernel_rfl) (by kernel_rfl) (by kernel_rfl) (fun w0 mu _ hs => (loops_of (l := []) (by kernel_rfl) (List.forall_mem_nil _))) t42_eq

/-! ### f10: laws.eqMate -/
noncomputable def code10 : Code := match Try.f10.body with | some c => c | none => .skip
def ps10 : List AP := [.val true [.int .i64, .int .i64, .shr (.cons (.int .i64) .nil), .shr (.cons (.int .i64) (.cons (.int .i64) (.cons (.int .i64) (.cons .str .nil)))), .shr (.cons (.int .i64) .nil), .shr (.cons .str .nil), .int .i64, .int .i64, .int .i64, .int .i64, .int .i64, .int .i64, .int .i64, .int .i64, .int .i64, .shr (.cons (.int .i64) .nil)], .val true [.int .i64, .int .i64, .shr (.cons (.int .i64) .nil), .shr (.cons (.int .i64) (.cons (.int .i64) (.cons (.int .i64) (.cons .str .nil)))), .shr (.cons (.int .i64) .nil), .shr (.cons .str .nil), .int .i64, .int .i64, .int .i64, .int .i64, .int .i64, .int .i64, .int .i64, .int .i64, .int .i64, .shr (.cons (.int .i64) .nil)]]
def rs10 : List RP := [{ src := .tmp 4, agg := false, ps := [.bool] }]
noncomputable def sl10 : SemL := [(39, (.shr, .shr, .shr, sem39)), (15, (.shr, .shr, .shr, sem15)), (40, (.shr, .shr, .shr, sem40)), (41, (.shr, .shr, .shr, sem41)), (42, (.shr, .shr, .shr, sem42))]
def D10 : Draws := fun _ => .nil
noncomputable def L10 {R : Type} : Loops R := fun _ _ _ _ => none
noncomputable def laws_eqMate (a0c0 : Int) (a0c1 : Int) (a0c2 : List (Int × Unit)) (a0c3 : List (Int × Int × Int × ByteArray × Unit)) (a0c4 : List (Int × Unit)) (a0c5 : List (ByteArray × Unit)) (a0c6 : Int) (a0c7 : Int) (a0c8 : Int) (a0c9 : Int) (a0c10 : Int) (a0c11 : Int) (a0c12 : Int) (a0c13 : Int) (a0c14 : Int) (a0c15 : List (Int × Unit)) (b1c0 : Int) (b1c1 : Int) (b1c2 : List (Int × Unit)) (b1c3 : List (Int × Int × Int × ByteArray × Unit)) (b1c4 : List (Int × Unit)) (b1c5 : List (ByteArray × Unit)) (b1c6 : Int) (b1c7 : Int) (b1c8 : Int) (b1c9 : Int) (b1c10 : Int) (b1c11 : Int) (b1c12 : Int) (b1c13 : Int) (b1c14 : Int) (b1c15 : List (Int × Unit)) : Option (Bool × Unit) :=
  bif !decide (a0c0 = b1c0) then
    some (false, ())
  else
    Option.bind (laws_eqRing a0c1 a0c2 b1c1 b1c2) fun y1 =>
    bif !y1.1 then
      some (false, ())
    else
      Option.bind (laws_eqItemS a0c3 b1c3) fun y2 =>
      bif !y2.1 then
        some (false, ())
      else
        Option.bind (laws_eqIntS a0c4 b1c4) fun y3 =>
        bif !y3.1 then
          some (false, ())
        else
          Option.bind (laws_eqStringS a0c5 b1c5) fun y4 =>
          bif !y4.1 then
            some (false, ())
          else bif !decide (a0c6 = b1c6) then
            some (false, ())
          else bif !decide (a0c7 = b1c7) then
            some (false, ())
          else bif !decide (a0c8 = b1c8) then
            some (false, ())
          else bif !decide (a0c9 = b1c9) then
            some (false, ())
          else
            Option.bind (laws_eqToken a0c10 a0c11 a0c12 a0c13 a0c14 a0c15 b1c10 b1c11 b1c12 b1c13 b1c14 b1c15) fun y5 =>
            bif !y5.1 then
              some (false, ())
            else
              some (true, ())
noncomputable def x10 (x : Int × Int × (List (Int × Unit)) × (List (Int × Int × Int × ByteArray × Unit)) × (List (Int × Unit)) × (List (ByteArray × Unit)) × Int × Int × Int × Int × Int × Int × Int × Int × Int × (List (Int × Unit)) × Int × Int × (List (Int × Unit)) × (List (Int × Int × Int × ByteArray × Unit)) × (List (Int × Unit)) × (List (ByteArray × Unit)) × Int × Int × Int × Int × Int × Int × Int × Int × Int × (List (Int × Unit)) × Unit) : Option (Bool × Unit) := laws_eqMate x.1 x.2.1 x.2.2.1 x.2.2.2.1 x.2.2.2.2.1 x.2.2.2.2.2.1 x.2.2.2.2.2.2.1 x.2.2.2.2.2.2.2.1 x.2.2.2.2.2.2.2.2.1 x.2.2.2.2.2.2.2.2.2.1 x.2.2.2.2.2.2.2.2.2.2.1 x.2.2.2.2.2.2.2.2.2.2.2.1 x.2.2.2.2.2.2.2.2.2.2.2.2.1 x.2.2.2.2.2.2.2.2.2.2.2.2.2.1 x.2.2.2.2.2.2.2.2.2.2.2.2.2.2.1 x.2.2.2.2.2.2.2.2.2.2.2.2.2.2.2.1 x.2.2.2.2.2.2.2.2.2.2.2.2.2.2.2.2.1 x.2.2.2.2.2.2.2.2.2.2.2.2.2.2.2.2.2.1 x.2.2.2.2.2.2.2.2.2.2.2.2.2.2.2.2.2.2.1 x.2.2.2.2.2.2.2.2.2.2.2.2.2.2.2.2.2.2.2.1 x.2.2.2.2.2.2.2.2.2.2.2.2.2.2.2.2.2.2.2.2.1 x.2.2.2.2.2.2.2.2.2.2.2.2.2.2.2.2.2.2.2.2.2.1 x.2.2.2.2.2.2.2.2.2.2.2.2.2.2.2.2.2.2.2.2.2.2.1 x.2.2.2.2.2.2.2.2.2.2.2.2.2.2.2.2.2.2.2.2.2.2.2.1 x.2.2.2.2.2.2.2.2.2.2.2.2.2.2.2.2.2.2.2.2.2.2.2.2.1 x.2.2.2.2.2.2.2.2.2.2.2.2.2.2.2.2.2.2.2.2.2.2.2.2.2.1 x.2.2.2.2.2.2.2.2.2.2.2.2.2.2.2.2.2.2.2.2.2.2.2.2.2.2.1 x.2.2.2.2.2.2.2.2.2.2.2.2.2.2.2.2.2.2.2.2.2.2.2.2.2.2.2.1 x.2.2.2.2.2.2.2.2.2.2.2.2.2.2.2.2.2.2.2.2.2.2.2.2.2.2.2.2.1 x.2.2.2.2.2.2.2.2.2.2.2.2.2.2.2.2.2.2.2.2.2.2.2.2.2.2.2.2.2.1 x.2.2.2.2.2.2.2.2.2.2.2.2.2.2.2.2.2.2.2.2.2.2.2.2.2.2.2.2.2.2.1 x.2.2.2.2.2.2.2.2.2.2.2.2.2.2.2.2.2.2.2.2.2.2.2.2.2.2.2.2.2.2.2.1
noncomputable def sem10 : Sem1 := semOf ps10 rs10 x10
theorem so10 : SemsOk Try.prog (semsOf sl10) := sems_cons k39 (sems_cons k15 (sems_cons k40 (sems_cons k41 (sems_cons k42 (sems_nil)))))
theorem t10_eq (x : denR (headRT (ps10.map some))) : codeK (tabOf tr) (semsOf sl10) D10 L10 code10 (start 60 ps10 x) (finK rs10 ps10) = x10 x := by kernel_rfl
theorem k10 : Known Try.prog 10 sem10 :=
  fn_auto tr_ok eq_ok mixed_ok so10 (D := D10) (code := code10) (n := 60) Try.func10 (by kernel_rfl) (by kernel_rfl) (by kernel_rfl) (fun w0 mu _ hs => (loops_of (l := []) (by kernel_rfl) (List.forall_mem_nil _))) t10_eq

/-! ### f44: laws.markIntS -/
noncomputable def code44 : Code := match Try.f44.body with | some c => c | none => .skip
def ps44 : List AP := [.io (.cons (.int .i64) .nil), .val false [.int .i64]]
def rs44 : List RP := [{ src := .tmp 4, agg := false, ps := [.int .i64] }]
noncomputable def sl44 : SemL := []
def D44 : Draws := fun _ => .nil
def hp44_0 : List (Option AP) := [some (.io (.cons (.int .i64) .nil)), some (.val false [.int .i64]), none, none, none, some (.val false [.int .i64]), none, none, none, none, none, none, none, none, none, none, none, none, none]
def e44_0 : List (Option AP) := [some (.io (.cons (.int .i64) .nil)), some (.val false [.int .i64]), none, none, none, none, none, none, none, none, none, none, none, none, none, none, none, none, none]
def q44_0 : List (Option AP) := [none, none, none, none, none, none, none, none, none, none, none, none, none, none, none, none, none, none, none]
abbrev H44_0 : Type := (List (Int × Unit)) × Int × Int × Unit
abbrev E44_0 : Type := (List (Int × Unit)) × Int × Unit
abbrev Q44_0 : Type := Unit
noncomputable def laws_markIntS_c0 (a0 : List (Int × Unit)) (k1 : Int) (i5 : Int) : Option (Sum H44_0 (Sum E44_0 Q44_0)) :=
  bif decide (i5 < ((List.length a0 : Nat) : Int)) then
    bif decide ((0 : Int) ≤ i5) then bif Nat.blt (Int.toNat i5) (List.length a0) then Option.bind ((a0)[Int.toNat i5]?) fun r1 =>
        some (.inl (List.set a0 (Int.toNat i5) (k1, ()), IntKind.i64.wrap (k1 + (1 : Int)), IntKind.i64.wrap (i5 + (1 : Int)), ()))
      else none
    else none
  else
    some (.inr (.inl (a0, k1, ())))
noncomputable def laws_markIntS_r0 (x : H44_0) : Option (Sum H44_0 (Sum E44_0 Q44_0)) := laws_markIntS_c0 x.1 x.2.1 x.2.2.1
noncomputable def L44 {R : Type} : Loops R := fun id _ st k => bif Nat.beq id 0 then loopAt hp44_0 e44_0 q44_0 laws_markIntS_r0 st k else none
noncomputable def laws_markIntS (a0 : List (Int × Unit)) (k1 : Int) : Option (Int × (List (Int × Unit)) × Unit) :=
  outK (loopV laws_markIntS_r0 (a0, k1, (0 : Int), ())) (fun y1 =>
    some (y1.2.1, y1.1, ())) (fun y2 =>
    none)
noncomputable def x44 (x : (List (Int × Unit)) × Int × Unit) : Option (Int × (List (Int × Unit)) × Unit) := laws_markIntS x.1 x.2.1
noncomputable def sem44 : Sem1 := semOf ps44 rs44 x44
theorem so44 : SemsOk Try.prog (semsOf sl44) := sems_nil
noncomputable def b44_0 : Code := nthLoop code44 0
theorem t44_r0_eq (x : denR (headRT hp44_0)) : codeK (tabOf tr) (semsOf sl44) D44 L44 b44_0 (headSt hp44_0 x) (roundK 0 hp44_0 e44_0 q44_0) = laws_markIntS_r0 x := by kernel_rfl
theorem loop44_0 {R : Type} (r : R) (w0 : World) (mu : Mu) (hs : AnShape ps44 mu) : LoopAt Try.prog w0 mu 19 (L44 : Loops R) r 0 b44_0 :=
  loop_auto tr_ok eq_ok mixed_ok so44 (D := D44) hs (by kernel_rfl) (fun _ => (loops_of (l := []) (by kernel_rfl) (List.forall_mem_nil _))) t44_r0_eq (fun _ _ => rfl)
theorem t44_eq (x : denR (headRT (ps44.map some))) : codeK (tabOf tr) (semsOf sl44) D44 L44 code44 (start 19 ps44 x) (finK rs44 ps44) = x44 x := by kernel_rfl
theorem k44 : Known Try.prog 44 sem44 :=
  fn_auto tr_ok eq_ok mixed_ok so44 (D := D44) (code := code44) (n := 19) Try.func44 (by kernel_rfl) (by kernel_rfl) (by kernel_rfl) (fun w0 mu _ hs => (loops_of (l := [(0, b44_0)]) (by kernel_rfl) (List.forall_mem_cons.2 ⟨loop44_0 _ w0 mu hs, (List.forall_mem_nil _)⟩))) t44_eq

/-! ### f43: laws.markRing -/
noncomputable def code43 : Code := match Try.f43.body with | some c => c | none => .skip
def ps43 : List AP := [.lend [.int .i64, .own (.cons (.int .i64) .nil)], .val false [.int .i64]]
def rs43 : List RP := [{ src := .tmp 4, agg := false, ps := [.int .i64] }]
noncomputable def sl43 : SemL := [(44, (.io, .shr, .shr, sem44))]
def D43 : Draws := fun _ => .nil
noncomputable def L43 {R : Type} : Loops R := fun _ _ _ _ => none
noncomputable def laws_markRing (a0c0 : Int) (a0c1 : List (Int × Unit)) (k1 : Int) : Option (Int × (List (Int × Unit)) × Unit) :=
  Option.bind (laws_markIntS a0c1 k1) fun y1 =>
  some (y1.1, y1.2.1, ())
noncomputable def x43 (x : Int × (List (Int × Unit)) × Int × Unit) : Option (Int × (List (Int × Unit)) × Unit) := laws_markRing x.1 x.2.1 x.2.2.1
noncomputable def sem43 : Sem1 := semOf ps43 rs43 x43
theorem so43 : SemsOk Try.prog (semsOf sl43) := sems_cons k44 (sems_nil)
theorem t43_eq (x : denR (headRT (ps43.map some))) : codeK (tabOf tr) (semsOf sl43) D43 L43 code43 (start 10 ps43 x) (finK rs43 ps43) = x43 x := by kernel_rfl
theorem k43 : Known Try.prog 43 sem43 :=
  fn_auto tr_ok eq_ok mixed_ok so43 (D := D43) (code := code43) (n := 10) Try.func43 (by kernel_rfl) (by kernel_rfl) (by kernel_rfl) (fun w0 mu _ hs => (loops_of (l := []) (by kernel_rfl) (List.forall_mem_nil _))) t43_eq

/-! ### f56: laws.markText -/
noncomputable def code56 : Code := match Try.f56.body with | some c => c | none => .skip
def ps56 : List AP := [.val false [.int .i64]]
def rs56 : List RP := [{ src := .tmp 2, agg := false, ps := [.str] }]
noncomputable def sl56 : SemL := []
def D56 : Draws := fun _ => .nil
def hp56_0 : List (Option AP) := [some (.val false [.int .i64]), none, none, some (.val false [.str]), none, none, none, none, none, none, none, none, none, none, none, none, none, none, none, none]
def e56_0 : List (Option AP) := [none, none, none, some (.val false [.str]), none, none, none, none, none, none, none, none, none, none, none, none, none, none, none, none]
def q56_0 : List (Option AP) := [none, none, none, none, none, none, none, none, none, none, none, none, none, none, none, none, none, none, none, none]
abbrev H56_0 : Type := Int × ByteArray × Unit
abbrev E56_0 : Type := ByteArray × Unit
abbrev Q56_0 : Type := Unit
noncomputable def laws_markText_c0 (k0 : Int) (out3 : ByteArray) : Option (Sum H56_0 (Sum E56_0 Q56_0)) :=
  bif decide ((0 : Int) < k0) then
    bif Nat.ble ((ByteArray.size (bytesOf [(IntKind.u8.wrap (IntKind.i64.wrap ((48 : Int) + (Int.tmod k0 (10 : Int)))), ())])) + (ByteArray.size out3)) lim then some (.inl (IntKind.i64.wrap (Int.tdiv k0 (10 : Int)), (bytesOf [(IntKind.u8.wrap (IntKind.i64.wrap ((48 : Int) + (Int.tmod k0 (10 : Int)))), ())]) ++ out3, ()))
    else none
  else
    some (.inr (.inl (out3, ())))
noncomputable def laws_markText_r0 (x : H56_0) : Option (Sum H56_0 (Sum E56_0 Q56_0)) := laws_markText_c0 x.1 x.2.1
noncomputable def L56 {R : Type} : Loops R := fun id _ st k => bif Nat.beq id 0 then loopAt hp56_0 e56_0 q56_0 laws_markText_r0 st k else none
noncomputable def laws_markText (k0 : Int) : Option (ByteArray × Unit) :=
  bif decide (k0 ≤ (0 : Int)) then
    some ((ByteArray.mk #[109, 48]), ())
  else
    outK (loopV laws_markText_r0 (k0, (ByteArray.mk #[]), ())) (fun y1 =>
      bif Nat.ble (1 + (ByteArray.size y1.1)) lim then some ((ByteArray.mk #[109]) ++ y1.1, ())
      else none) (fun y2 =>
      none)
noncomputable def x56 (x : Int × Unit) : Option (ByteArray × Unit) := laws_markText x.1
noncomputable def sem56 : Sem1 := semOf ps56 rs56 x56
theorem so56 : SemsOk Try.prog (semsOf sl56) := sems_nil
noncomputable def b56_0 : Code := nthLoop code56 0
theorem t56_r0_eq (x : denR (headRT hp56_0)) : codeK (tabOf tr) (semsOf sl56) D56 L56 b56_0 (headSt hp56_0 x) (roundK 0 hp56_0 e56_0 q56_0) = laws_markText_r0 x := by kernel_rfl
theorem loop56_0 {R : Type} (r : R) (w0 : World) (mu : Mu) (hs : AnShape ps56 mu) : LoopAt Try.prog w0 mu 20 (L56 : Loops R) r 0 b56_0 :=
  loop_auto tr_ok eq_ok mixed_ok so56 (D := D56) hs (by kernel_rfl) (fun _ => (loops_of (l := []) (by kernel_rfl) (List.forall_mem_nil _))) t56_r0_eq (fun _ _ => rfl)
theorem t56_eq (x : denR (headRT (ps56.map some))) : codeK (tabOf tr) (semsOf sl56) D56 L56 code56 (start 20 ps56 x) (finK rs56 ps56) = x56 x := by kernel_rfl
theorem k56 : Known Try.prog 56 sem56 :=
  fn_auto tr_ok eq_ok mixed_ok so56 (D := D56) (code := code56) (n := 20) Try.func56 (by kernel_rfl) (by kernel_rfl) (by kernel_rfl) (fun w0 mu _ hs => (loops_of (l := [(0, b56_0)]) (by kernel_rfl) (List.forall_mem_cons.2 ⟨loop56_0 _ w0 mu hs, (List.forall_mem_nil _)⟩))) t56_eq

/-! ### f16: laws.markItemS -/
noncomputable def code16 : Code := match Try.f16.body with | some c => c | none => .skip
def ps16 : List AP := [.io (.cons (.int .i64) (.cons (.int .i64) (.cons (.int .i64) (.cons .str .nil)))), .val false [.int .i64]]
def rs16 : List RP := [{ src := .tmp 4, agg := false, ps := [.int .i64] }]
noncomputable def sl16 : SemL := [(56, (.shr, .shr, .shr, sem56))]
def D16 : Draws := fun _ => .nil
def hp16_0 : List (Option AP) := [some (.io (.cons (.int .i64) (.cons (.int .i64) (.cons (.int .i64) (.cons .str .nil))))), some (.val false [.int .i64]), none, none, none, some (.val false [.int .i64]), none, none, none, none, none, none, none, none, none, none, none, none, none, none, none, none, none, none, none, none, none, none, none, none, none, none, none, none, none, none, none, none, none, none, none, none]
def e16_0 : List (Option AP) := [some (.io (.cons (.int .i64) (.cons (.int .i64) (.cons (.int .i64) (.cons .str .nil))))), some (.val false [.int .i64]), none, none, none, none, none, none, none, none, none, none, none, none, none, none, none, none, none, none, none, none, none, none, none, none, none, none, none, none, none, none, none, none, none, none, none, none, none, none, none, none]
def q16_0 : List (Option AP) := [none, none, none, none, none, none, none, none, none, none, none, none, none, none, none, none, none, none, none, none, none, none, none, none, none, none, none, none, none, none, none, none, none, none, none, none, none, none, none, none, none, none]
abbrev H16_0 : Type := (List (Int × Int × Int × ByteArray × Unit)) × Int × Int × Unit
abbrev E16_0 : Type := (List (Int × Int × Int × ByteArray × Unit)) × Int × Unit
abbrev Q16_0 : Type := Unit
noncomputable def laws_markItemS_c0 (a0 : List (Int × Int × Int × ByteArray × Unit)) (k1 : Int) (i5 : Int) : Option (Sum H16_0 (Sum E16_0 Q16_0)) :=
  bif decide (i5 < ((List.length a0 : Nat) : Int)) then
    bif decide ((0 : Int) ≤ i5) then bif Nat.blt (Int.toNat i5) (List.length a0) then Option.bind ((a0)[Int.toNat i5]?) fun r1 =>
        bif decide ((0 : Int) ≤ i5) then bif Nat.blt (Int.toNat i5) (List.length (List.set a0 (Int.toNat i5) (k1, r1.2.1, r1.2.2.1, r1.2.2.2.1, ()))) then Option.bind ((List.set a0 (Int.toNat i5) (k1, r1.2.1, r1.2.2.1, r1.2.2.2.1, ()))[Int.toNat i5]?) fun r2 =>
            bif decide ((0 : Int) ≤ i5) then bif Nat.blt (Int.toNat i5) (List.length (List.set (List.set a0 (Int.toNat i5) (k1, r1.2.1, r1.2.2.1, r1.2.2.2.1, ())) (Int.toNat i5) (r2.1, IntKind.i64.wrap (k1 + (1 : Int)), r2.2.2.1, r2.2.2.2.1, ()))) then Option.bind ((List.set (List.set a0 (Int.toNat i5) (k1, r1.2.1, r1.2.2.1, r1.2.2.2.1, ())) (Int.toNat i5) (r2.1, IntKind.i64.wrap (k1 + (1 : Int)), r2.2.2.1, r2.2.2.2.1, ()))[Int.toNat i5]?) fun r3 =>
                Option.bind (laws_markText (IntKind.i64.wrap ((IntKind.i64.wrap ((IntKind.i64.wrap (k1 + (1 : Int))) + (1 : Int))) + (1 : Int)))) fun y4 =>
                bif decide ((0 : Int) ≤ i5) then bif Nat.blt (Int.toNat i5) (List.length (List.set (List.set (List.set a0 (Int.toNat i5) (k1, r1.2.1, r1.2.2.1, r1.2.2.2.1, ())) (Int.toNat i5) (r2.1, IntKind.i64.wrap (k1 + (1 : Int)), r2.2.2.1, r2.2.2.2.1, ())) (Int.toNat i5) (r3.1, r3.2.1, IntKind.i64.wrap ((IntKind.i64.wrap (k1 + (1 : Int))) + (1 : Int)), r3.2.2.2.1, ()))) then Option.bind ((List.set (List.set (List.set a0 (Int.toNat i5) (k1, r1.2.1, r1.2.2.1, r1.2.2.2.1, ())) (Int.toNat i5) (r2.1, IntKind.i64.wrap (k1 + (1 : Int)), r2.2.2.1, r2.2.2.2.1, ())) (Int.toNat i5) (r3.1, r3.2.1, IntKind.i64.wrap ((IntKind.i64.wrap (k1 + (1 : Int))) + (1 : Int)), r3.2.2.2.1, ()))[Int.toNat i5]?) fun r5 =>
                    some (.inl (List.set (List.set (List.set (List.set a0 (Int.toNat i5) (k1, r1.2.1, r1.2.2.1, r1.2.2.2.1, ())) (Int.toNat i5) (r2.1, IntKind.i64.wrap (k1 + (1 : Int)), r2.2.2.1, r2.2.2.2.1, ())) (Int.toNat i5) (r3.1, r3.2.1, IntKind.i64.wrap ((IntKind.i64.wrap (k1 + (1 : Int))) + (1 : Int)), r3.2.2.2.1, ())) (Int.toNat i5) (r5.1, r5.2.1, r5.2.2.1, y4.1, ()), IntKind.i64.wrap ((IntKind.i64.wrap ((IntKind.i64.wrap ((IntKind.i64.wrap (k1 + (1 : Int))) + (1 : Int))) + (1 : Int))) + (1 : Int)), IntKind.i64.wrap (i5 + (1 : Int)), ()))
                  else none
                else none
              else none
            else none
          else none
        else none
      else none
    else none
  else
    some (.inr (.inl (a0, k1, ())))
noncomputable def laws_markItemS_r0 (x : H16_0) : Option (Sum H16_0 (Sum E16_0 Q16_0)) := laws_markItemS_c0 x.1 x.2.1 x.2.2.1
noncomputable def L16 {R : Type} : Loops R := fun id _ st k => bif Nat.beq id 0 then loopAt hp16_0 e16_0 q16_0 laws_markItemS_r0 st k else none
noncomputable def laws_markItemS (a0 : List (Int × Int × Int × ByteArray × Unit)) (k1 : Int) : Option (Int × (List (Int × Int × Int × ByteArray × Unit)) × Unit) :=
  outK (loopV laws_markItemS_r0 (a0, k1, (0 : Int), ())) (fun y1 =>
    some (y1.2.1, y1.1, ())) (fun y2 =>
    none)
noncomputable def x16 (x : (List (Int × Int × Int × ByteArray × Unit)) × Int × Unit) : Option (Int × (List (Int × Int × Int × ByteArray × Unit)) × Unit) := laws_markItemS x.1 x.2.1
noncomputable def sem16 : Sem1 := semOf ps16 rs16 x16
theorem so16 : SemsOk Try.prog (semsOf sl16) := sems_cons k56 (sems_nil)
noncomputable def b16_0 : Code := nthLoop code16 0
theorem t16_r0_eq (x : denR (headRT hp16_0)) : codeK (tabOf tr) (semsOf sl16) D16 L16 b16_0 (headSt hp16_0 x) (roundK 0 hp16_0 e16_0 q16_0) = laws_markItemS_r0 x := by kernel_rfl
theorem loop16_0 {R : Type} (r : R) (w0 : World) (mu : Mu) (hs : AnShape ps16 mu) : LoopAt Try.prog w0 mu 42 (L16 : Loops R) r 0 b16_0 :=
  loop_auto tr_ok eq_ok mixed_ok so16 (D := D16) hs (by kernel_rfl) (fun _ => (loops_of (l := []) (by kernel_rfl) (List.forall_mem_nil _))) t16_r0_eq (fun _ _ => rfl)
theorem t16_eq (x : denR (headRT (ps16.map some))) : codeK (tabOf tr) (semsOf sl16) D16 L16 code16 (start 42 ps16 x) (finK rs16 ps16) = x16 x := by kernel_rfl
theorem k16 : Known Try.prog 16 sem16 :=
  fn_auto tr_ok eq_ok mixed_ok so16 (D := D16) (code := code16) (n := 42) Try.func16 (by kernel_rfl) (by kernel_rfl) (by kernel_rfl) (fun w0 mu _ hs => (loops_of (l := [(0, b16_0)]) (by kernel_rfl) (List.forall_mem_cons.2 ⟨loop16_0 _ w0 mu hs, (List.forall_mem_nil _)⟩))) t16_eq

/-! ### f45: laws.markStringS -/
noncomputable def code45 : Code := match Try.f45.body with | some c => c | none => .skip
def ps45 : List AP := [.io (.cons .str .nil), .val false [.int .i64]]
def rs45 : List RP := [{ src := .tmp 4, agg := false, ps := [.int .i64] }]
noncomputable def sl45 : SemL := [(56, (.shr, .shr, .shr, sem56))]
def D45 : Draws := fun _ => .nil
def hp45_0 : List (Option AP) := [some (.io (.cons .str .nil)), some (.val false [.int .i64]), none, none, none, some (.val false [.int .i64]), none, none, none, none, none, none, none, none, none, none, none, none, none, none]
def e45_0 : List (Option AP) := [some (.io (.cons .str .nil)), some (.val false [.int .i64]), none, none, none, none, none, none, none, none, none, none, none, none, none, none, none, none, none, none]
def q45_0 : List (Option AP) := [none, none, none, none, none, none, none, none, none, none, none, none, none, none, none, none, none, none, none, none]
abbrev H45_0 : Type := (List (ByteArray × Unit)) × Int × Int × Unit
abbrev E45_0 : Type := (List (ByteArray × Unit)) × Int × Unit
abbrev Q45_0 : Type := Unit
noncomputable def laws_markStringS_c0 (a0 : List (ByteArray × Unit)) (k1 : Int) (i5 : Int) : Option (Sum H45_0 (Sum E45_0 Q45_0)) :=
  bif decide (i5 < ((List.length a0 : Nat) : Int)) then
    Option.bind (laws_markText k1) fun y1 =>
    bif decide ((0 : Int) ≤ i5) then bif Nat.blt (Int.toNat i5) (List.length a0) then Option.bind ((a0)[Int.toNat i5]?) fun r2 =>
        some (.inl (List.set a0 (Int.toNat i5) (y1.1, ()), IntKind.i64.wrap (k1 + (1 : Int)), IntKind.i64.wrap (i5 + (1 : Int)), ()))
      else none
    else none
  else
    some (.inr (.inl (a0, k1, ())))
noncomputable def laws_markStringS_r0 (x : H45_0) : Option (Sum H45_0 (Sum E45_0 Q45_0)) := laws_markStringS_c0 x.1 x.2.1 x.2.2.1
noncomputable def L45 {R : Type} : Loops R := fun id _ st k => bif Nat.beq id 0 then loopAt hp45_0 e45_0 q45_0 laws_markStringS_r0 st k else none
noncomputable def laws_markStringS (a0 : List (ByteArray × Unit)) (k1 : Int) : Option (Int × (List (ByteArray × Unit)) × Unit) :=
  outK (loopV laws_markStringS_r0 (a0, k1, (0 : Int), ())) (fun y1 =>
    some (y1.2.1, y1.1, ())) (fun y2 =>
    none)
noncomputable def x45 (x : (List (ByteArray × Unit)) × Int × Unit) : Option (Int × (List (ByteArray × Unit)) × Unit) := laws_markStringS x.1 x.2.1
noncomputable def sem45 : Sem1 := semOf ps45 rs45 x45
theorem so45 : SemsOk Try.prog (semsOf sl45) := sems_cons k56 (sems_nil)
noncomputable def b45_0 : Code := nthLoop code45 0
theorem t45_r0_eq (x : denR (headRT hp45_0)) : codeK (tabOf tr) (semsOf sl45) D45 L45 b45_0 (headSt hp45_0 x) (roundK 0 hp45_0 e45_0 q45_0) = laws_markStringS_r0 x := by kernel_rfl
theorem loop45_0 {R : Type} (r : R) (w0 : World) (mu : Mu) (hs : AnShape ps45 mu) : LoopAt Try.prog w0 mu 20 (L45 : Loops R) r 0 b45_0 :=
  loop_auto tr_ok eq_ok mixed_ok so45 (D := D45) hs (by kernel_rfl) (fun _ => (loops_of (l := []) (by kernel_rfl) (List.forall_mem_nil _))) t45_r0_eq (fun _ _ => rfl)
theorem t45_eq (x : denR (headRT (ps45.map some))) : codeK (tabOf tr) (semsOf sl45) D45 L45 code45 (start 20 ps45 x) (finK rs45 ps45) = x45 x := by kernel_rfl
theorem k45 : Known Try.prog 45 sem45 :=
  fn_auto tr_ok eq_ok mixed_ok so45 (D := D45) (code := code45) (n := 20) Try.func45 (by kernel_rfl) (by kernel_rfl) (by kernel_rfl) (fun w0 mu _ hs => (loops_of (l := [(0, b45_0)]) (by kernel_rfl) (List.forall_mem_cons.2 ⟨loop45_0 _ w0 mu hs, (List.forall_mem_nil _)⟩))) t45_eq

/-! ### f46: laws.markToken -/
noncomputable def code46 : Code := match Try.f46.body with | some c => c | none => .skip
def ps46 : List AP := [.lend [.int .i64, .int .i64, .int .i64, .int .i64, .int .i64, .own (.cons (.int .i64) .nil)], .val false [.int .i64]]
def rs46 : List RP := [{ src := .tmp 4, agg := false, ps := [.int .i64] }]
noncomputable def sl46 : SemL := [(44, (.io, .shr, .shr, sem44))]
def D46 : Draws := fun _ => .nil
noncomputable def L46 {R : Type} : Loops R := fun _ _ _ _ => none
noncomputable def laws_markToken (a0c0 : Int) (a0c1 : Int) (a0c2 : Int) (a0c3 : Int) (a0c4 : Int) (a0c5 : List (Int × Unit)) (k1 : Int) : Option (Int × (List (Int × Unit)) × Unit) :=
  Option.bind (laws_markIntS a0c5 k1) fun y1 =>
  some (y1.1, y1.2.1, ())
noncomputable def x46 (x : Int × Int × Int × Int × Int × (List (Int × Unit)) × Int × Unit) : Option (Int × (List (Int × Unit)) × Unit) := laws_markToken x.1 x.2.1 x.2.2.1 x.2.2.2.1 x.2.2.2.2.1 x.2.2.2.2.2.1 x.2.2.2.2.2.2.1
noncomputable def sem46 : Sem1 := semOf ps46 rs46 x46
theorem so46 : SemsOk Try.prog (semsOf sl46) := sems_cons k44 (sems_nil)
theorem t46_eq (x : denR (headRT (ps46.map some))) : codeK (tabOf tr) (semsOf sl46) D46 L46 code46 (start 10 ps46 x) (finK rs46 ps46) = x46 x := by kernel_rfl
theorem k46 : Known Try.prog 46 sem46 :=
  fn_auto tr_ok eq_ok mixed_ok so46 (D := D46) (code := code46) (n := 10) Try.func46 (by kernel_rfl) (by kernel_rfl) (by kernel_rfl) (fun w0 mu _ hs => (loops_of (l := []) (by kernel_rfl) (List.forall_mem_nil _))) t46_eq

/-! ### f11: laws.markMate -/
noncomputable def code11 : Code := match Try.f11.body with | some c => c | none => .skip
def ps11 : List AP := [.lend [.int .i64, .int .i64, .own (.cons (.int .i64) .nil), .own (.cons (.int .i64) (.cons (.int .i64) (.cons (.int .i64) (.cons .str .nil)))), .own (.cons (.int .i64) .nil), .own (.cons .str .nil), .int .i64, .int .i64, .int .i64, .int .i64, .int .i64, .int .i64, .int .i64, .int .i64, .int .i64, .own (.cons (.int .i64) .nil)], .val false [.int .i64]]
def rs11 : List RP := [{ src := .tmp 4, agg := false, ps := [.int .i64] }]
noncomputable def sl11 : SemL := [(43, (.lend, .shr, .shr, sem43)), (16, (.io, .shr, .shr, sem16)), (44, (.io, .shr, .shr, sem44)), (45, (.io, .shr, .shr, sem45)), (46, (.lend, .shr, .shr, sem46))]
def D11 : Draws := fun _ => .nil
noncomputable def L11 {R : Type} : Loops R := fun _ _ _ _ => none
noncomputable def laws_markMate (a0c0 : Int) (a0c1 : Int) (a0c2 : List (Int × Unit)) (a0c3 : List (Int × Int × Int × ByteArray × Unit)) (a0c4 : List (Int × Unit)) (a0c5 : List (ByteArray × Unit)) (a0c6 : Int) (a0c7 : Int) (a0c8 : Int) (a0c9 : Int) (a0c10 : Int) (a0c11 : Int) (a0c12 : Int) (a0c13 : Int) (a0c14 : Int) (a0c15 : List (Int × Unit)) (k1 : Int) : Option (Int × (List (Int × Unit)) × (List (Int × Int × Int × ByteArray × Unit)) × (List (Int × Unit)) × (List (ByteArray × Unit)) × (List (Int × Unit)) × Unit) :=
  Option.bind (laws_markRing a0c1 a0c2 k1) fun y1 =>
  Option.bind (laws_markItemS a0c3 y1.1) fun y2 =>
  Option.bind (laws_markIntS a0c4 y2.1) fun y3 =>
  Option.bind (laws_markStringS a0c5 y3.1) fun y4 =>
  Option.bind (laws_markToken a0c10 a0c11 a0c12 a0c13 a0c14 a0c15 y4.1) fun y5 =>
  some (y5.1, y1.2.1, y2.2.1, y3.2.1, y4.2.1, y5.2.1, ())
noncomputable def x11 (x : Int × Int × (List (Int × Unit)) × (List (Int × Int × Int × ByteArray × Unit)) × (List (Int × Unit)) × (List (ByteArray × Unit)) × Int × Int × Int × Int × Int × Int × Int × Int × Int × (List (Int × Unit)) × Int × Unit) : Option (Int × (List (Int × Unit)) × (List (Int × Int × Int × ByteArray × Unit)) × (List (Int × Unit)) × (List (ByteArray × Unit)) × (List (Int × Unit)) × Unit) := laws_markMate x.1 x.2.1 x.2.2.1 x.2.2.2.1 x.2.2.2.2.1 x.2.2.2.2.2.1 x.2.2.2.2.2.2.1 x.2.2.2.2.2.2.2.1 x.2.2.2.2.2.2.2.2.1 x.2.2.2.2.2.2.2.2.2.1 x.2.2.2.2.2.2.2.2.2.2.1 x.2.2.2.2.2.2.2.2.2.2.2.1 x.2.2.2.2.2.2.2.2.2.2.2.2.1 x.2.2.2.2.2.2.2.2.2.2.2.2.2.1 x.2.2.2.2.2.2.2.2.2.2.2.2.2.2.1 x.2.2.2.2.2.2.2.2.2.2.2.2.2.2.2.1 x.2.2.2.2.2.2.2.2.2.2.2.2.2.2.2.2.1
noncomputable def sem11 : Sem1 := semOf ps11 rs11 x11
theorem so11 : SemsOk Try.prog (semsOf sl11) := sems_cons k43 (sems_cons k16 (sems_cons k44 (sems_cons k45 (sems_cons k46 (sems_nil)))))
theorem t11_eq (x : denR (headRT (ps11.map some))) : codeK (tabOf tr) (semsOf sl11) D11 L11 code11 (start 26 ps11 x) (finK rs11 ps11) = x11 x := by kernel_rfl
theorem k11 : Known Try.prog 11 sem11 :=
  fn_auto tr_ok eq_ok mixed_ok so11 (D := D11) (code := code11) (n := 26) Try.func11 (by kernel_rfl) (by kernel_rfl) (by kernel_rfl) (fun w0 mu _ hs => (loops_of (l := []) (by kernel_rfl) (List.forall_mem_nil _))) t11_eq

/-! ### f48: laws.heldIntS -/
noncomputable def code48 : Code := match Try.f48.body with | some c => c | none => .skip
def ps48 : List AP := [.val false [.shr (.cons (.int .i64) .nil)], .val false [.int .i64]]
def rs48 : List RP := [{ src := .tmp 4, agg := false, ps := [.int .i64] }]
noncomputable def sl48 : SemL := []
def D48 : Draws := fun _ => .nil
def hp48_0 : List (Option AP) := [some (.val false [.shr (.cons (.int .i64) .nil)]), some (.val false [.int .i64]), none, none, none, some (.val false [.int .i64]), none, none, none, none, none, none, none, none, none, none, none, none, none, none, none]
def e48_0 : List (Option AP) := [none, some (.val false [.int .i64]), none, none, none, none, none, none, none, none, none, none, none, none, none, none, none, none, none, none, none]
def q48_0 : List (Option AP) := [none, none, none, none, some (.val false [.int .i64]), none, none, none, none, none, none, none, none, none, none, none, none, none, none, none, none]
abbrev H48_0 : Type := (List (Int × Unit)) × Int × Int × Unit
abbrev E48_0 : Type := Int × Unit
abbrev Q48_0 : Type := Int × Unit
noncomputable def laws_heldIntS_c0 (a0 : List (Int × Unit)) (k1 : Int) (i5 : Int) : Option (Sum H48_0 (Sum E48_0 Q48_0)) :=
  bif decide (i5 < ((List.length a0 : Nat) : Int)) then
    bif decide ((0 : Int) ≤ i5) then Option.bind ((a0)[Int.toNat i5]?) fun r1 =>
      bif !decide (r1.1 = k1) then
        some (.inr (.inr ((-1 : Int), ())))
      else
        some (.inl (a0, IntKind.i64.wrap (k1 + (1 : Int)), IntKind.i64.wrap (i5 + (1 : Int)), ()))
    else none
  else
    some (.inr (.inl (k1, ())))
noncomputable def laws_heldIntS_r0 (x : H48_0) : Option (Sum H48_0 (Sum E48_0 Q48_0)) := laws_heldIntS_c0 x.1 x.2.1 x.2.2.1
noncomputable def L48 {R : Type} : Loops R := fun id _ st k => bif Nat.beq id 0 then loopAt hp48_0 e48_0 q48_0 laws_heldIntS_r0 st k else none
noncomputable def laws_heldIntS (a0 : List (Int × Unit)) (k1 : Int) : Option (Int × Unit) :=
  outK (loopV laws_heldIntS_r0 (a0, k1, (0 : Int), ())) (fun y1 =>
    some (y1.1, ())) (fun y2 =>
    some (y2.1, ()))
noncomputable def x48 (x : (List (Int × Unit)) × Int × Unit) : Option (Int × Unit) := laws_heldIntS x.1 x.2.1
noncomputable def sem48 : Sem1 := semOf ps48 rs48 x48
theorem so48 : SemsOk Try.prog (semsOf sl48) := sems_nil
noncomputable def b48_0 : Code := nthLoop code48 0
theorem t48_r0_eq (x : denR (headRT hp48_0)) : codeK (tabOf tr) (semsOf sl48) D48 L48 b48_0 (headSt hp48_0 x) (roundK 0 hp48_0 e48_0 q48_0) = laws_heldIntS_r0 x := by kernel_rfl
theorem loop48_0 {R : Type} (r : R) (w0 : World) (mu : Mu) (hs : AnShape ps48 mu) : LoopAt Try.prog w0 mu 21 (L48 : Loops R) r 0 b48_0 :=
  loop_auto tr_ok eq_ok mixed_ok so48 (D := D48) hs (by kernel_rfl) (fun _ => (loops_of (l := []) (by kernel_rfl) (List.forall_mem_nil _))) t48_r0_eq (fun _ _ => rfl)
theorem t48_eq (x : denR (headRT (ps48.map some))) : codeK (tabOf tr) (semsOf sl48) D48 L48 code48 (start 21 ps48 x) (finK rs48 ps48) = x48 x := by kernel_rfl
theorem k48 : Known Try.prog 48 sem48 :=
  fn_auto tr_ok eq_ok mixed_ok so48 (D := D48) (code := code48) (n := 21) Try.func48 (by kernel_rfl) (by kernel_rfl) (by kernel_rfl) (fun w0 mu _ hs => (loops_of (l := [(0, b48_0)]) (by kernel_rfl) (List.forall_mem_cons.2 ⟨loop48_0 _ w0 mu hs, (List.forall_mem_nil _)⟩))) t48_eq

/-! ### f47: laws.heldRing -/
noncomputable def code47 : Code := match Try.f47.body with | some c => c | none => .skip
def ps47 : List AP := [.val true [.int .i64, .shr (.cons (.int .i64) .nil)], .val false [.int .i64]]
def rs47 : List RP := [{ src := .tmp 4, agg := false, ps := [.int .i64] }]
noncomputable def sl47 : SemL := [(48, (.shr, .shr, .shr, sem48))]
def D47 : Draws := fun _ => .nil
noncomputable def L47 {R : Type} : Loops R := fun _ _ _ _ => none
noncomputable def laws_heldRing (a0c0 : Int) (a0c1 : List (Int × Unit)) (k1 : Int) : Option (Int × Unit) :=
  Option.bind (laws_heldIntS a0c1 k1) fun y1 =>
  bif decide (y1.1 < (0 : Int)) then
    some ((-1 : Int), ())
  else
    some (y1.1, ())
noncomputable def x47 (x : Int × (List (Int × Unit)) × Int × Unit) : Option (Int × Unit) := laws_heldRing x.1 x.2.1 x.2.2.1
noncomputable def sem47 : Sem1 := semOf ps47 rs47 x47
theorem so47 : SemsOk Try.prog (semsOf sl47) := sems_cons k48 (sems_nil)
theorem t47_eq (x : denR (headRT (ps47.map some))) : codeK (tabOf tr) (semsOf sl47) D47 L47 code47 (start 12 ps47 x) (finK rs47 ps47) = x47 x := by kernel_rfl
theorem k47 : Known Try.prog 47 sem47 :=
  fn_auto tr_ok eq_ok mixed_ok so47 (D := D47) (code := code47) (n := 12) Try.func47 (by kernel_rfl) (by kernel_rfl) (by kernel_rfl) (fun w0 mu _ hs => (loops_of (l := []) (by kernel_rfl) (List.forall_mem_nil _))) t47_eq

/-! ### f17: laws.heldItemS -/
noncomputable def code17 : Code := match Try.f17.body with | some c => c | none => .skip
def ps17 : List AP := [.val false [.shr (.cons (.int .i64) (.cons (.int .i64) (.cons (.int .i64) (.cons .str .nil))))], .val false [.int .i64]]
def rs17 : List RP := [{ src := .tmp 4, agg := false, ps := [.int .i64] }]
noncomputable def sl17 : SemL := [(56, (.shr, .shr, .shr, sem56))]
def D17 : Draws := fun id => bif Nat.beq id 13 then .op 0 .any (.op 1 .any (.op 2 .any (.op 3 .any (.op 4 .take (.op 5 .any (.op 6 .one (.op 7 .any (.nil)))))))) else .nil
def hp17_0 : List (Option AP) := [some (.val false [.shr (.cons (.int .i64) (.cons (.int .i64) (.cons (.int .i64) (.cons .str .nil))))]), some (.val false [.int .i64]), none, none, none, some (.val false [.int .i64]), none, none, none, none, none, none, none, none, none, none, none, none, none, none, none, none, none, none, none, none, none, none, none, none, none, none, none, none, none, none, none, none, none, none, none, none, none, none, none, none, none, none, none, none]
def e17_0 : List (Option AP) := [none, some (.val false [.int .i64]), none, none, none, none, none, none, none, none, none, none, none, none, none, none, none, none, none, none, none, none, none, none, none, none, none, none, none, none, none, none, none, none, none, none, none, none, none, none, none, none, none, none, none, none, none, none, none, none]
def q17_0 : List (Option AP) := [none, none, none, none, some (.val false [.int .i64]), none, none, none, none, none, none, none, none, none, none, none, none, none, none, none, none, none, none, none, none, none, none, none, none, none, none, none, none, none, none, none, none, none, none, none, none, none, none, none, none, none, none, none, none, none]
abbrev H17_0 : Type := (List (Int × Int × Int × ByteArray × Unit)) × Int × Int × Unit
abbrev E17_0 : Type := Int × Unit
abbrev Q17_0 : Type := Int × Unit
noncomputable def laws_heldItemS_c0 (a0 : List (Int × Int × Int × ByteArray × Unit)) (k1 : Int) (i5 : Int) : Option (Sum H17_0 (Sum E17_0 Q17_0)) :=
  bif decide (i5 < ((List.length a0 : Nat) : Int)) then
    bif decide ((0 : Int) ≤ i5) then Option.bind ((a0)[Int.toNat i5]?) fun r1 =>
      bif !decide (r1.1 = k1) then
        some (.inr (.inr ((-1 : Int), ())))
      else bif decide ((0 : Int) ≤ i5) then Option.bind ((a0)[Int.toNat i5]?) fun r2 =>
        bif !decide (r2.2.1 = IntKind.i64.wrap (k1 + (1 : Int))) then
          some (.inr (.inr ((-1 : Int), ())))
        else bif decide ((0 : Int) ≤ i5) then Option.bind ((a0)[Int.toNat i5]?) fun r3 =>
          bif !decide (r3.2.2.1 = IntKind.i64.wrap ((IntKind.i64.wrap (k1 + (1 : Int))) + (1 : Int))) then
            some (.inr (.inr ((-1 : Int), ())))
          else bif decide ((0 : Int) ≤ i5) then Option.bind ((a0)[Int.toNat i5]?) fun r4 =>
            Option.bind (laws_markText (IntKind.i64.wrap ((IntKind.i64.wrap ((IntKind.i64.wrap (k1 + (1 : Int))) + (1 : Int))) + (1 : Int)))) fun y5 =>
            bif !strEq r4.2.2.2.1 y5.1 then
              some (.inr (.inr ((-1 : Int), ())))
            else
              some (.inl (a0, IntKind.i64.wrap ((IntKind.i64.wrap ((IntKind.i64.wrap ((IntKind.i64.wrap (k1 + (1 : Int))) + (1 : Int))) + (1 : Int))) + (1 : Int)), IntKind.i64.wrap (i5 + (1 : Int)), ()))
          else none
        else none
      else none
    else none
  else
    some (.inr (.inl (k1, ())))
noncomputable def laws_heldItemS_r0 (x : H17_0) : Option (Sum H17_0 (Sum E17_0 Q17_0)) := laws_heldItemS_c0 x.1 x.2.1 x.2.2.1
noncomputable def L17 {R : Type} : Loops R := fun id _ st k => bif Nat.beq id 0 then loopAt hp17_0 e17_0 q17_0 laws_heldItemS_r0 st k else none
noncomputable def laws_heldItemS (a0 : List (Int × Int × Int × ByteArray × Unit)) (k1 : Int) : Option (Int × Unit) :=
  outK (loopV laws_heldItemS_r0 (a0, k1, (0 : Int), ())) (fun y1 =>
    some (y1.1, ())) (fun y2 =>
    some (y2.1, ()))
noncomputable def x17 (x : (List (Int × Int × Int × ByteArray × Unit)) × Int × Unit) : Option (Int × Unit) := laws_heldItemS x.1 x.2.1
noncomputable def sem17 : Sem1 := semOf ps17 rs17 x17
theorem so17 : SemsOk Try.prog (semsOf sl17) := sems_cons k56 (sems_nil)
noncomputable def b17_0 : Code := nthLoop code17 0
theorem t17_r0_eq (x : denR (headRT hp17_0)) : codeK (tabOf tr) (semsOf sl17) D17 L17 b17_0 (headSt hp17_0 x) (roundK 0 hp17_0 e17_0 q17_0) = laws_heldItemS_r0 x := by kernel_rfl
theorem loop17_0 {R : Type} (r : R) (w0 : World) (mu : Mu) (hs : AnShape ps17 mu) : LoopAt Try.prog w0 mu 50 (L17 : Loops R) r 0 b17_0 :=
  loop_auto tr_ok eq_ok mixed_ok so17 (D := D17) hs (by kernel_rfl) (fun _ => (loops_of (l := []) (by kernel_rfl) (List.forall_mem_nil _))) t17_r0_eq (fun _ _ => rfl)
theorem t17_eq (x : denR (headRT (ps17.map some))) : codeK (tabOf tr) (semsOf sl17) D17 L17 code17 (start 50 ps17 x) (finK rs17 ps17) = x17 x := by kernel_rfl
theorem k17 : Known Try.prog 17 sem17 :=
  fn_auto tr_ok eq_ok mixed_ok so17 (D := D17) (code := code17) (n := 50) Try.func17 (by kernel_rfl) (by kernel_rfl) (by kernel_rfl) (fun w0 mu _ hs => (loops_of (l := [(0, b17_0)]) (by kernel_rfl) (List.forall_mem_cons.2 ⟨loop17_0 _ w0 mu hs, (List.forall_mem_nil _)⟩))) t17_eq

/-! ### f49: laws.heldStringS -/
noncomputable def code49 : Code := match Try.f49.body with | some c => c | none => .skip
def ps49 : List AP := [.val false [.shr (.cons .str .nil)], .val false [.int .i64]]
def rs49 : List RP := [{ src := .tmp 4, agg := false, ps := [.int .i64] }]
noncomputable def sl49 : SemL := [(56, (.shr, .shr, .shr, sem56))]
def D49 : Draws := fun id => bif Nat.beq id 4 then .op 0 .any (.op 1 .any (.op 2 .any (.op 3 .take (.op 4 .any (.op 5 .one (.op 6 .any (.nil))))))) else .nil
def hp49_0 : List (Option AP) := [some (.val false [.shr (.cons .str .nil)]), some (.val false [.int .i64]), none, none, none, some (.val false [.int .i64]), none, none, none, none, none, none, none, none, none, none, none, none, none, none, none, none]
def e49_0 : List (Option AP) := [none, some (.val false [.int .i64]), none, none, none, none, none, none, none, none, none, none, none, none, none, none, none, none, none, none, none, none]
def q49_0 : List (Option AP) := [none, none, none, none, some (.val false [.int .i64]), none, none, none, none, none, none, none, none, none, none, none, none, none, none, none, none, none]
abbrev H49_0 : Type := (List (ByteArray × Unit)) × Int × Int × Unit
abbrev E49_0 : Type := Int × Unit
abbrev Q49_0 : Type := Int × Unit
noncomputable def laws_heldStringS_c0 (a0 : List (ByteArray × Unit)) (k1 : Int) (i5 : Int) : Option (Sum H49_0 (Sum E49_0 Q49_0)) :=
  bif decide (i5 < ((List.length a0 : Nat) : Int)) then
    bif decide ((0 : Int) ≤ i5) then Option.bind ((a0)[Int.toNat i5]?) fun r1 =>
      Option.bind (laws_markText k1) fun y2 =>
      bif !strEq r1.1 y2.1 then
        some (.inr (.inr ((-1 : Int), ())))
      else
        some (.inl (a0, IntKind.i64.wrap (k1 + (1 : Int)), IntKind.i64.wrap (i5 + (1 : Int)), ()))
    else none
  else
    some (.inr (.inl (k1, ())))
noncomputable def laws_heldStringS_r0 (x : H49_0) : Option (Sum H49_0 (Sum E49_0 Q49_0)) := laws_heldStringS_c0 x.1 x.2.1 x.2.2.1
noncomputable def L49 {R : Type} : Loops R := fun id _ st k => bif Nat.beq id 0 then loopAt hp49_0 e49_0 q49_0 laws_heldStringS_r0 st k else none
noncomputable def laws_heldStringS (a0 : List (ByteArray × Unit)) (k1 : Int) : Option (Int × Unit) :=
  outK (loopV laws_heldStringS_r0 (a0, k1, (0 : Int), ())) (fun y1 =>
    some (y1.1, ())) (fun y2 =>
    some (y2.1, ()))
noncomputable def x49 (x : (List (ByteArray × Unit)) × Int × Unit) : Option (Int × Unit) := laws_heldStringS x.1 x.2.1
noncomputable def sem49 : Sem1 := semOf ps49 rs49 x49
theorem so49 : SemsOk Try.prog (semsOf sl49) := sems_cons k56 (sems_nil)
noncomputable def b49_0 : Code := nthLoop code49 0
theorem t49_r0_eq (x : denR (headRT hp49_0)) : codeK (tabOf tr) (semsOf sl49) D49 L49 b49_0 (headSt hp49_0 x) (roundK 0 hp49_0 e49_0 q49_0) = laws_heldStringS_r0 x := by kernel_rfl
theorem loop49_0 {R : Type} (r : R) (w0 : World) (mu : Mu) (hs : AnShape ps49 mu) : LoopAt Try.prog w0 mu 22 (L49 : Loops R) r 0 b49_0 :=
  loop_auto tr_ok eq_ok mixed_ok so49 (D := D49) hs (by kernel_rfl) (fun _ => (loops_of (l := []) (by kernel_rfl) (List.forall_mem_nil _))) t49_r0_eq (fun _ _ => rfl)
theorem t49_eq (x : denR (headRT (ps49.map some))) : codeK (tabOf tr) (semsOf sl49) D49 L49 code49 (start 22 ps49 x) (finK rs49 ps49) = x49 x := by kernel_rfl
theorem k49 : Known Try.prog 49 sem49 :=
  fn_auto tr_ok eq_ok mixed_ok so49 (D := D49) (code := code49) (n := 22) Try.func49 (by kernel_rfl) (by kernel_rfl) (by kernel_rfl) (fun w0 mu _ hs => (loops_of (l := [(0, b49_0)]) (by kernel_rfl) (List.forall_mem_cons.2 ⟨loop49_0 _ w0 mu hs, (List.forall_mem_nil _)⟩))) t49_eq

/-! ### f50: laws.heldToken -/
noncomputable def code50 : Code := match Try.f50.body with | some c => c | none => .skip
def ps50 : List AP := [.val true [.int .i64, .int .i64, .int .i64, .int .i64, .int .i64, .shr (.cons (.int .i64) .nil)], .val false [.int .i64]]
def rs50 : List RP := [{ src := .tmp 4, agg := false, ps := [.int .i64] }]
noncomputable def sl50 : SemL := [(48, (.shr, .shr, .shr, sem48))]
def D50 : Draws := fun _ => .nil
noncomputable def L50 {R : Type} : Loops R := fun _ _ _ _ => none
noncomputable def laws_heldToken (a0c0 : Int) (a0c1 : Int) (a0c2 : Int) (a0c3 : Int) (a0c4 : Int) (a0c5 : List (Int × Unit)) (k1 : Int) : Option (Int × Unit) :=
  Option.bind (laws_heldIntS a0c5 k1) fun y1 =>
  bif decide (y1.1 < (0 : Int)) then
    some ((-1 : Int), ())
  else
    some (y1.1, ())
noncomputable def x50 (x : Int × Int × Int × Int × Int × (List (Int × Unit)) × Int × Unit) : Option (Int × Unit) := laws_heldToken x.1 x.2.1 x.2.2.1 x.2.2.2.1 x.2.2.2.2.1 x.2.2.2.2.2.1 x.2.2.2.2.2.2.1
noncomputable def sem50 : Sem1 := semOf ps50 rs50 x50
theorem so50 : SemsOk Try.prog (semsOf sl50) := sems_cons k48 (sems_nil)
theorem t50_eq (x : denR (headRT (ps50.map some))) : codeK (tabOf tr) (semsOf sl50) D50 L50 code50 (start 12 ps50 x) (finK rs50 ps50) = x50 x := by kernel_rfl
theorem k50 : Known Try.prog 50 sem50 :=
  fn_auto tr_ok eq_ok mixed_ok so50 (D := D50) (code := code50) (n := 12) Try.func50 (by kernel_rfl) (by kernel_rfl) (by kernel_rfl) (fun w0 mu _ hs => (loops_of (l := []) (by kernel_rfl) (List.forall_mem_nil _))) t50_eq

/-! ### f12: laws.heldMate -/
noncomputable def code12 : Code := match Try.f12.body with | some c => c | none => .skip
def ps12 : List AP := [.val true [.int .i64, .int .i64, .shr (.cons (.int .i64) .nil), .shr (.cons (.int .i64) (.cons (.int .i64) (.cons (.int .i64) (.cons .str .nil)))), .shr (.cons (.int .i64) .nil), .shr (.cons .str .nil), .int .i64, .int .i64, .int .i64, .int .i64, .int .i64, .int .i64, .int .i64, .int .i64, .int .i64, .shr (.cons (.int .i64) .nil)], .val false [.int .i64]]
def rs12 : List RP := [{ src := .tmp 4, agg := false, ps := [.int .i64] }]
noncomputable def sl12 : SemL := [(47, (.shr, .shr, .shr, sem47)), (17, (.shr, .shr, .shr, sem17)), (48, (.shr, .shr, .shr, sem48)), (49, (.shr, .shr, .shr, sem49)), (50, (.shr, .shr, .shr, sem50))]
def D12 : Draws := fun _ => .nil
noncomputable def L12 {R : Type} : Loops R := fun _ _ _ _ => none
noncomputable def laws_heldMate (a0c0 : Int) (a0c1 : Int) (a0c2 : List (Int × Unit)) (a0c3 : List (Int × Int × Int × ByteArray × Unit)) (a0c4 : List (Int × Unit)) (a0c5 : List (ByteArray × Unit)) (a0c6 : Int) (a0c7 : Int) (a0c8 : Int) (a0c9 : Int) (a0c10 : Int) (a0c11 : Int) (a0c12 : Int) (a0c13 : Int) (a0c14 : Int) (a0c15 : List (Int × Unit)) (k1 : Int) : Option (Int × Unit) :=
  Option.bind (laws_heldRing a0c1 a0c2 k1) fun y1 =>
  bif decide (y1.1 < (0 : Int)) then
    some ((-1 : Int), ())
  else
    Option.bind (laws_heldItemS a0c3 y1.1) fun y2 =>
    bif decide (y2.1 < (0 : Int)) then
      some ((-1 : Int), ())
    else
      Option.bind (laws_heldIntS a0c4 y2.1) fun y3 =>
      bif decide (y3.1 < (0 : Int)) then
        some ((-1 : Int), ())
      else
        Option.bind (laws_heldStringS a0c5 y3.1) fun y4 =>
        bif decide (y4.1 < (0 : Int)) then
          some ((-1 : Int), ())
        else
          Option.bind (laws_heldToken a0c10 a0c11 a0c12 a0c13 a0c14 a0c15 y4.1) fun y5 =>
          bif decide (y5.1 < (0 : Int)) then
            some ((-1 : Int), ())
          else
            some (y5.1, ())
noncomputable def x12 (x : Int × Int × (List (Int × Unit)) × (List (Int × Int × Int × ByteArray × Unit)) × (List (Int × Unit)) × (List (ByteArray × Unit)) × Int × Int × Int × Int × Int × Int × Int × Int × Int × (List (Int × Unit)) × Int × Unit) : Option (Int × Unit) := laws_heldMate x.1 x.2.1 x.2.2.1 x.2.2.2.1 x.2.2.2.2.1 x.2.2.2.2.2.1 x.2.2.2.2.2.2.1 x.2.2.2.2.2.2.2.1 x.2.2.2.2.2.2.2.2.1 x.2.2.2.2.2.2.2.2.2.1 x.2.2.2.2.2.2.2.2.2.2.1 x.2.2.2.2.2.2.2.2.2.2.2.1 x.2.2.2.2.2.2.2.2.2.2.2.2.1 x.2.2.2.2.2.2.2.2.2.2.2.2.2.1 x.2.2.2.2.2.2.2.2.2.2.2.2.2.2.1 x.2.2.2.2.2.2.2.2.2.2.2.2.2.2.2.1 x.2.2.2.2.2.2.2.2.2.2.2.2.2.2.2.2.1
noncomputable def sem12 : Sem1 := semOf ps12 rs12 x12
theorem so12 : SemsOk Try.prog (semsOf sl12) := sems_cons k47 (sems_cons k17 (sems_cons k48 (sems_cons k49 (sems_cons k50 (sems_nil)))))
theorem t12_eq (x : denR (headRT (ps12.map some))) : codeK (tabOf tr) (semsOf sl12) D12 L12 code12 (start 36 ps12 x) (finK rs12 ps12) = x12 x := by kernel_rfl
theorem k12 : Known Try.prog 12 sem12 :=
  fn_auto tr_ok eq_ok mixed_ok so12 (D := D12) (code := code12) (n := 36) Try.func12 (by kernel_rfl) (by kernel_rfl) (by kernel_rfl) (fun w0 mu _ hs => (loops_of (l := []) (by kernel_rfl) (List.forall_mem_nil _))) t12_eq

/-! ### f3: laws.FnExactSay -/
noncomputable def code3 : Code := match Try.f3.body with | some c => c | none => .skip
def ps3 : List AP := [.val true [.int .i64, .int .i64, .shr (.cons (.int .i64) .nil), .shr (.cons (.int .i64) (.cons (.int .i64) (.cons (.int .i64) (.cons .str .nil)))), .shr (.cons (.int .i64) .nil), .shr (.cons .str .nil), .int .i64, .int .i64, .int .i64, .int .i64, .int .i64, .int .i64, .int .i64, .int .i64, .int .i64, .shr (.cons (.int .i64) .nil)], .val false [.int .i64], .val false [.str]]
def rs3 : List RP := [{ src := .tmp 6, agg := false, ps := [.bool] }]
noncomputable def sl3 : SemL := [(6, (.shr, .shr, .shr, sem6)), (8, (.shr, .shr, .shr, sem8)), (7, (.shr, .shr, .shr, sem7)), (9, (.shr, .shr, .shr, sem9)), (10, (.shr, .shr, .shr, sem10)), (11, (.lend, .shr, .shr, sem11)), (12, (.shr, .shr, .shr, sem12))]
def D3 : Draws := fun id => bif Nat.beq id 12 then .op 0 .take (.op 1 .take (.op 2 .one (.op 3 .one (.op 4 .any (.nil))))) else .nil
noncomputable def L3 {R : Type} : Loops R := fun _ _ _ _ => none
noncomputable def laws_FnExactSay (aM0c0 : Int) (aM0c1 : Int) (aM0c2 : List (Int × Unit)) (aM0c3 : List (Int × Int × Int × ByteArray × Unit)) (aM0c4 : List (Int × Unit)) (aM0c5 : List (ByteArray × Unit)) (aM0c6 : Int) (aM0c7 : Int) (aM0c8 : Int) (aM0c9 : Int) (aM0c10 : Int) (aM0c11 : Int) (aM0c12 : Int) (aM0c13 : Int) (aM0c14 : Int) (aM0c15 : List (Int × Unit)) (aLevel1 : Int) (aText2 : ByteArray) : Option (Bool × Unit) :=
  bif decide ((1048576 : Int) < ((ByteArray.size aText2 : Nat) : Int)) then
    some (true, ())
  else
    Option.bind (laws_szMate aM0c0 aM0c1 aM0c2 aM0c3 aM0c4 aM0c5 aM0c6 aM0c7 aM0c8 aM0c9 aM0c10 aM0c11 aM0c12 aM0c13 aM0c14 aM0c15 (1048576 : Int)) fun y1 =>
    bif decide (y1.1 < (0 : Int)) then
      some (true, ())
    else
      Option.bind (laws_toMate aM0c0 aM0c1 aM0c2 aM0c3 aM0c4 aM0c5 aM0c6 aM0c7 aM0c8 aM0c9 aM0c10 aM0c11 aM0c12 aM0c13 aM0c14 aM0c15) fun y2 =>
      Option.bind (spec_Say y2.1 y2.2.1 y2.2.2.1 y2.2.2.2.1 y2.2.2.2.2.1 y2.2.2.2.2.2.1 y2.2.2.2.2.2.2.1 y2.2.2.2.2.2.2.2.1 y2.2.2.2.2.2.2.2.2.1 y2.2.2.2.2.2.2.2.2.2.1 y2.2.2.2.2.2.2.2.2.2.2.1 y2.2.2.2.2.2.2.2.2.2.2.2.1 y2.2.2.2.2.2.2.2.2.2.2.2.2.1 y2.2.2.2.2.2.2.2.2.2.2.2.2.2.1 y2.2.2.2.2.2.2.2.2.2.2.2.2.2.2.1 y2.2.2.2.2.2.2.2.2.2.2.2.2.2.2.2.1 aLevel1 aText2) fun y3 =>
      Option.bind (laws_toMate aM0c0 aM0c1 aM0c2 aM0c3 aM0c4 aM0c5 aM0c6 aM0c7 aM0c8 aM0c9 aM0c10 aM0c11 aM0c12 aM0c13 aM0c14 aM0c15) fun y4 =>
      Option.bind (impl_Say y4.1 y4.2.1 y4.2.2.1 y4.2.2.2.1 y4.2.2.2.2.1 y4.2.2.2.2.2.1 y4.2.2.2.2.2.2.1 y4.2.2.2.2.2.2.2.1 y4.2.2.2.2.2.2.2.2.1 y4.2.2.2.2.2.2.2.2.2.1 y4.2.2.2.2.2.2.2.2.2.2.1 y4.2.2.2.2.2.2.2.2.2.2.2.1 y4.2.2.2.2.2.2.2.2.2.2.2.2.1 y4.2.2.2.2.2.2.2.2.2.2.2.2.2.1 y4.2.2.2.2.2.2.2.2.2.2.2.2.2.2.1 y4.2.2.2.2.2.2.2.2.2.2.2.2.2.2.2.1 aLevel1 aText2) fun y5 =>
      Option.bind (laws_eqMate y5.1 y5.2.1 y5.2.2.1 y5.2.2.2.1 y5.2.2.2.2.1 y5.2.2.2.2.2.1 y5.2.2.2.2.2.2.1 y5.2.2.2.2.2.2.2.1 y5.2.2.2.2.2.2.2.2.1 y5.2.2.2.2.2.2.2.2.2.1 y5.2.2.2.2.2.2.2.2.2.2.1 y5.2.2.2.2.2.2.2.2.2.2.2.1 y5.2.2.2.2.2.2.2.2.2.2.2.2.1 y5.2.2.2.2.2.2.2.2.2.2.2.2.2.1 y5.2.2.2.2.2.2.2.2.2.2.2.2.2.2.1 y5.2.2.2.2.2.2.2.2.2.2.2.2.2.2.2.1 y3.1 y3.2.1 y3.2.2.1 y3.2.2.2.1 y3.2.2.2.2.1 y3.2.2.2.2.2.1 y3.2.2.2.2.2.2.1 y3.2.2.2.2.2.2.2.1 y3.2.2.2.2.2.2.2.2.1 y3.2.2.2.2.2.2.2.2.2.1 y3.2.2.2.2.2.2.2.2.2.2.1 y3.2.2.2.2.2.2.2.2.2.2.2.1 y3.2.2.2.2.2.2.2.2.2.2.2.2.1 y3.2.2.2.2.2.2.2.2.2.2.2.2.2.1 y3.2.2.2.2.2.2.2.2.2.2.2.2.2.2.1 y3.2.2.2.2.2.2.2.2.2.2.2.2.2.2.2.1) fun y6 =>
      bif !y6.1 then
        some (false, ())
      else bif !(y5.2.2.2.2.2.2.2.2.2.2.2.2.2.2.2.2.1 == y3.2.2.2.2.2.2.2.2.2.2.2.2.2.2.2.2.1) then
        some (false, ())
      else
        Option.bind (laws_toMate aM0c0 aM0c1 aM0c2 aM0c3 aM0c4 aM0c5 aM0c6 aM0c7 aM0c8 aM0c9 aM0c10 aM0c11 aM0c12 aM0c13 aM0c14 aM0c15) fun y7 =>
        Option.bind (laws_eqMate y4.1 y4.2.1 y4.2.2.1 y4.2.2.2.1 y4.2.2.2.2.1 y4.2.2.2.2.2.1 y4.2.2.2.2.2.2.1 y4.2.2.2.2.2.2.2.1 y4.2.2.2.2.2.2.2.2.1 y4.2.2.2.2.2.2.2.2.2.1 y4.2.2.2.2.2.2.2.2.2.2.1 y4.2.2.2.2.2.2.2.2.2.2.2.1 y4.2.2.2.2.2.2.2.2.2.2.2.2.1 y4.2.2.2.2.2.2.2.2.2.2.2.2.2.1 y4.2.2.2.2.2.2.2.2.2.2.2.2.2.2.1 y4.2.2.2.2.2.2.2.2.2.2.2.2.2.2.2.1 y7.1 y7.2.1 y7.2.2.1 y7.2.2.2.1 y7.2.2.2.2.1 y7.2.2.2.2.2.1 y7.2.2.2.2.2.2.1 y7.2.2.2.2.2.2.2.1 y7.2.2.2.2.2.2.2.2.1 y7.2.2.2.2.2.2.2.2.2.1 y7.2.2.2.2.2.2.2.2.2.2.1 y7.2.2.2.2.2.2.2.2.2.2.2.1 y7.2.2.2.2.2.2.2.2.2.2.2.2.1 y7.2.2.2.2.2.2.2.2.2.2.2.2.2.1 y7.2.2.2.2.2.2.2.2.2.2.2.2.2.2.1 y7.2.2.2.2.2.2.2.2.2.2.2.2.2.2.2.1) fun y8 =>
        bif !y8.1 then
          some (false, ())
        else
          Option.bind (laws_markMate y4.1 y4.2.1 y4.2.2.1 y4.2.2.2.1 y4.2.2.2.2.1 y4.2.2.2.2.2.1 y4.2.2.2.2.2.2.1 y4.2.2.2.2.2.2.2.1 y4.2.2.2.2.2.2.2.2.1 y4.2.2.2.2.2.2.2.2.2.1 y4.2.2.2.2.2.2.2.2.2.2.1 y4.2.2.2.2.2.2.2.2.2.2.2.1 y4.2.2.2.2.2.2.2.2.2.2.2.2.1 y4.2.2.2.2.2.2.2.2.2.2.2.2.2.1 y4.2.2.2.2.2.2.2.2.2.2.2.2.2.2.1 y4.2.2.2.2.2.2.2.2.2.2.2.2.2.2.2.1 (1 : Int)) fun y9 =>
          bif decide (y9.1 < (0 : Int)) then
            some (false, ())
          else
            Option.bind (laws_eqMate y5.1 y5.2.1 y5.2.2.1 y5.2.2.2.1 y5.2.2.2.2.1 y5.2.2.2.2.2.1 y5.2.2.2.2.2.2.1 y5.2.2.2.2.2.2.2.1 y5.2.2.2.2.2.2.2.2.1 y5.2.2.2.2.2.2.2.2.2.1 y5.2.2.2.2.2.2.2.2.2.2.1 y5.2.2.2.2.2.2.2.2.2.2.2.1 y5.2.2.2.2.2.2.2.2.2.2.2.2.1 y5.2.2.2.2.2.2.2.2.2.2.2.2.2.1 y5.2.2.2.2.2.2.2.2.2.2.2.2.2.2.1 y5.2.2.2.2.2.2.2.2.2.2.2.2.2.2.2.1 y3.1 y3.2.1 y3.2.2.1 y3.2.2.2.1 y3.2.2.2.2.1 y3.2.2.2.2.2.1 y3.2.2.2.2.2.2.1 y3.2.2.2.2.2.2.2.1 y3.2.2.2.2.2.2.2.2.1 y3.2.2.2.2.2.2.2.2.2.1 y3.2.2.2.2.2.2.2.2.2.2.1 y3.2.2.2.2.2.2.2.2.2.2.2.1 y3.2.2.2.2.2.2.2.2.2.2.2.2.1 y3.2.2.2.2.2.2.2.2.2.2.2.2.2.1 y3.2.2.2.2.2.2.2.2.2.2.2.2.2.2.1 y3.2.2.2.2.2.2.2.2.2.2.2.2.2.2.2.1) fun y10 =>
            bif !y10.1 then
              some (false, ())
            else bif !(y5.2.2.2.2.2.2.2.2.2.2.2.2.2.2.2.2.1 == y3.2.2.2.2.2.2.2.2.2.2.2.2.2.2.2.2.1) then
              some (false, ())
            else
              Option.bind (laws_markMate y5.1 y5.2.1 y5.2.2.1 y5.2.2.2.1 y5.2.2.2.2.1 y5.2.2.2.2.2.1 y5.2.2.2.2.2.2.1 y5.2.2.2.2.2.2.2.1 y5.2.2.2.2.2.2.2.2.1 y5.2.2.2.2.2.2.2.2.2.1 y5.2.2.2.2.2.2.2.2.2.2.1 y5.2.2.2.2.2.2.2.2.2.2.2.1 y5.2.2.2.2.2.2.2.2.2.2.2.2.1 y5.2.2.2.2.2.2.2.2.2.2.2.2.2.1 y5.2.2.2.2.2.2.2.2.2.2.2.2.2.2.1 y5.2.2.2.2.2.2.2.2.2.2.2.2.2.2.2.1 (1 : Int)) fun y11 =>
              Option.bind (laws_heldMate y5.1 y5.2.1 y11.2.1 y11.2.2.1 y11.2.2.2.1 y11.2.2.2.2.1 y5.2.2.2.2.2.2.1 y5.2.2.2.2.2.2.2.1 y5.2.2.2.2.2.2.2.2.1 y5.2.2.2.2.2.2.2.2.2.1 y5.2.2.2.2.2.2.2.2.2.2.1 y5.2.2.2.2.2.2.2.2.2.2.2.1 y5.2.2.2.2.2.2.2.2.2.2.2.2.1 y5.2.2.2.2.2.2.2.2.2.2.2.2.2.1 y5.2.2.2.2.2.2.2.2.2.2.2.2.2.2.1 y11.2.2.2.2.2.1 (1 : Int)) fun y12 =>
              bif decide (y12.1 < (0 : Int)) then
                some (false, ())
              else bif !decide (y12.1 = y11.1) then
                some (false, ())
              else
                Option.bind (laws_toMate aM0c0 aM0c1 aM0c2 aM0c3 aM0c4 aM0c5 aM0c6 aM0c7 aM0c8 aM0c9 aM0c10 aM0c11 aM0c12 aM0c13 aM0c14 aM0c15) fun y13 =>
                Option.bind (impl_Say y13.1 y13.2.1 y13.2.2.1 y13.2.2.2.1 y13.2.2.2.2.1 y13.2.2.2.2.2.1 y13.2.2.2.2.2.2.1 y13.2.2.2.2.2.2.2.1 y13.2.2.2.2.2.2.2.2.1 y13.2.2.2.2.2.2.2.2.2.1 y13.2.2.2.2.2.2.2.2.2.2.1 y13.2.2.2.2.2.2.2.2.2.2.2.1 y13.2.2.2.2.2.2.2.2.2.2.2.2.1 y13.2.2.2.2.2.2.2.2.2.2.2.2.2.1 y13.2.2.2.2.2.2.2.2.2.2.2.2.2.2.1 y13.2.2.2.2.2.2.2.2.2.2.2.2.2.2.2.1 aLevel1 aText2) fun y14 =>
                Option.bind (laws_eqMate y14.1 y14.2.1 y14.2.2.1 y14.2.2.2.1 y14.2.2.2.2.1 y14.2.2.2.2.2.1 y14.2.2.2.2.2.2.1 y14.2.2.2.2.2.2.2.1 y14.2.2.2.2.2.2.2.2.1 y14.2.2.2.2.2.2.2.2.2.1 y14.2.2.2.2.2.2.2.2.2.2.1 y14.2.2.2.2.2.2.2.2.2.2.2.1 y14.2.2.2.2.2.2.2.2.2.2.2.2.1 y14.2.2.2.2.2.2.2.2.2.2.2.2.2.1 y14.2.2.2.2.2.2.2.2.2.2.2.2.2.2.1 y14.2.2.2.2.2.2.2.2.2.2.2.2.2.2.2.1 y3.1 y3.2.1 y3.2.2.1 y3.2.2.2.1 y3.2.2.2.2.1 y3.2.2.2.2.2.1 y3.2.2.2.2.2.2.1 y3.2.2.2.2.2.2.2.1 y3.2.2.2.2.2.2.2.2.1 y3.2.2.2.2.2.2.2.2.2.1 y3.2.2.2.2.2.2.2.2.2.2.1 y3.2.2.2.2.2.2.2.2.2.2.2.1 y3.2.2.2.2.2.2.2.2.2.2.2.2.1 y3.2.2.2.2.2.2.2.2.2.2.2.2.2.1 y3.2.2.2.2.2.2.2.2.2.2.2.2.2.2.1 y3.2.2.2.2.2.2.2.2.2.2.2.2.2.2.2.1) fun y15 =>
                bif !y15.1 then
                  some (false, ())
                else bif !(y14.2.2.2.2.2.2.2.2.2.2.2.2.2.2.2.2.1 == y3.2.2.2.2.2.2.2.2.2.2.2.2.2.2.2.2.1) then
                  some (false, ())
                else
                  Option.bind (laws_heldMate y5.1 y5.2.1 y11.2.1 y11.2.2.1 y11.2.2.2.1 y11.2.2.2.2.1 y5.2.2.2.2.2.2.1 y5.2.2.2.2.2.2.2.1 y5.2.2.2.2.2.2.2.2.1 y5.2.2.2.2.2.2.2.2.2.1 y5.2.2.2.2.2.2.2.2.2.2.1 y5.2.2.2.2.2.2.2.2.2.2.2.1 y5.2.2.2.2.2.2.2.2.2.2.2.2.1 y5.2.2.2.2.2.2.2.2.2.2.2.2.2.1 y5.2.2.2.2.2.2.2.2.2.2.2.2.2.2.1 y11.2.2.2.2.2.1 (1 : Int)) fun y16 =>
                  bif decide (y16.1 < (0 : Int)) then
                    some (false, ())
                  else bif !decide (y16.1 = y11.1) then
                    some (false, ())
                  else
                    some (true, ())
noncomputable def x3 (x : Int × Int × (List (Int × Unit)) × (List (Int × Int × Int × ByteArray × Unit)) × (List (Int × Unit)) × (List (ByteArray × Unit)) × Int × Int × Int × Int × Int × Int × Int × Int × Int × (List (Int × Unit)) × Int × ByteArray × Unit) : Option (Bool × Unit) := laws_FnExactSay x.1 x.2.1 x.2.2.1 x.2.2.2.1 x.2.2.2.2.1 x.2.2.2.2.2.1 x.2.2.2.2.2.2.1 x.2.2.2.2.2.2.2.1 x.2.2.2.2.2.2.2.2.1 x.2.2.2.2.2.2.2.2.2.1 x.2.2.2.2.2.2.2.2.2.2.1 x.2.2.2.2.2.2.2.2.2.2.2.1 x.2.2.2.2.2.2.2.2.2.2.2.2.1 x.2.2.2.2.2.2.2.2.2.2.2.2.2.1 x.2.2.2.2.2.2.2.2.2.2.2.2.2.2.1 x.2.2.2.2.2.2.2.2.2.2.2.2.2.2.2.1 x.2.2.2.2.2.2.2.2.2.2.2.2.2.2.2.2.1 x.2.2.2.2.2.2.2.2.2.2.2.2.2.2.2.2.2.1
noncomputable def sem3 : Sem1 := semOf ps3 rs3 x3
theorem so3 : SemsOk Try.prog (semsOf sl3) := sems_cons k6 (sems_cons k8 (sems_cons k7 (sems_cons k9 (sems_cons k10 (sems_cons k11 (sems_cons k12 (sems_nil)))))))
theorem t3_eq (x : denR (headRT (ps3.map some))) : codeK (tabOf tr) (semsOf sl3) D3 L3 code3 (start 109 ps3 x) (finK rs3 ps3) = x3 x := by kernel_rfl
theorem k3 : Known Try.prog 3 sem3 :=
  fn_auto tr_ok eq_ok mixed_ok so3 (D := D3) (code := code3) (n := 109) Try.func3 (by kernel_rfl) (by kernel_rfl) (by kernel_rfl) (fun w0 mu _ hs => (loops_of (l := []) (by kernel_rfl) (List.forall_mem_nil _))) t3_eq

/-! ### f13: spec.Hear -/
noncomputable def code13 : Code := match Try.f13.body with | some c => c | none => .skip
def ps13 : List AP := [.val true [.int .i64, .int .i64, .shr (.cons (.int .i64) .nil), .shr (.cons (.int .i64) (.cons (.int .i64) (.cons (.int .i64) (.cons .str .nil)))), .shr (.cons (.int .i64) .nil), .shr (.cons .str .nil), .int .i64, .int .i64, .int .i64, .int .i64, .int .i64, .int .i64, .int .i64, .int .i64, .int .i64, .shr (.cons (.int .i64) .nil)]]
def rs13 : List RP := [{ src := .cell 2, agg := true, ps := [.int .i64, .int .i64, .own (.cons (.int .i64) .nil), .own (.cons (.int .i64) (.cons (.int .i64) (.cons (.int .i64) (.cons .str .nil)))), .own (.cons (.int .i64) .nil), .own (.cons .str .nil), .int .i64, .int .i64, .int .i64, .int .i64, .int .i64, .int .i64, .int .i64, .int .i64, .int .i64, .own (.cons (.int .i64) .nil)] }, { src := .tmp 3, agg := false, ps := [.own (.cons (.int .i64) (.cons (.int .i64) (.cons (.int .i64) (.cons .str .nil))))] }]
noncomputable def sl13 : SemL := [(30, (.shr, .shr, .shr, sem30)), (28, (.shr, .shr, .shr, sem28)), (51, (.shr, .shr, .shr, sem51)), (52, (.shr, .shr, .shr, sem52))]
def D13 : Draws := fun _ => .nil
def hp13_0 : List (Option AP) := [none, some (.box false [.int .i64, .int .i64, .shr (.cons (.int .i64) .nil), .shr (.cons (.int .i64) (.cons (.int .i64) (.cons (.int .i64) (.cons .str .nil)))), .shr (.cons (.int .i64) .nil), .shr (.cons .str .nil), .int .i64, .int .i64, .int .i64, .int .i64, .int .i64, .int .i64, .int .i64, .int .i64, .int .i64, .shr (.cons (.int .i64) .nil)]), some (.box false [.int .i64, .int .i64, .own (.cons (.int .i64) .nil), .own (.cons (.int .i64) (.cons (.int .i64) (.cons (.int .i64) (.cons .str .nil)))), .own (.cons (.int .i64) .nil), .own (.cons .str .nil), .int .i64, .int .i64, .int .i64, .int .i64, .int .i64, .int .i64, .int .i64, .int .i64, .int .i64, .own (.cons (.int .i64) .nil)]), none, some (.box false [.int .i64, .int .i64, .own (.cons (.int .i64) .nil), .own (.cons (.int .i64) (.cons (.int .i64) (.cons (.int .i64) (.cons .str .nil)))), .own (.cons (.int .i64) .nil), .own (.cons .str .nil), .int .i64, .int .i64, .int .i64, .int .i64, .int .i64, .int .i64, .int .i64, .int .i64, .int .i64, .own (.cons (.int .i64) .nil)]), some (.val false [.own (.cons (.int .i64) (.cons (.int .i64) (.cons (.int .i64) (.cons .str .nil))))]), some (.val false [.int .i64]), none, none, none, none, none, none, none, none, none, none, none, none, none, none, none, none, none, none, none, none, none, none, none, none, none, none, none, none, none, none, none, none, none, none, none, none, none, none, none, none, none, none, none, none, none, none, none, none]
def e13_0 : List (Option AP) := [none, none, some (.box false [.int .i64, .int .i64, .own (.cons (.int .i64) .nil), .own (.cons (.int .i64) (.cons (.int .i64) (.cons (.int .i64) (.cons .str .nil)))), .own (.cons (.int .i64) .nil), .own (.cons .str .nil), .int .i64, .int .i64, .int .i64, .int .i64, .int .i64, .int .i64, .int .i64, .int .i64, .int .i64, .own (.cons (.int .i64) .nil)]), none, some (.box false [.int .i64, .int .i64, .own (.cons (.int .i64) .nil), .own (.cons (.int .i64) (.cons (.int .i64) (.cons (.int .i64) (.cons .str .nil)))), .own (.cons (.int .i64) .nil), .own (.cons .str .nil), .int .i64, .int .i64, .int .i64, .int .i64, .int .i64, .int .i64, .int .i64, .int .i64, .int .i64, .own (.cons (.int .i64) .nil)]), some (.val false [.own (.cons (.int .i64) (.cons (.int .i64) (.cons (.int .i64) (.cons .str .nil))))]), none, none, none, none, none, none, none, none, none, none, none, none, none, none, none, none, none, none, none, none, none, none, none, none, none, none, none, none, none, none, none, none, none, none, none, none, none, none, none, none, none, none, none, none, none, none, none, none, none]
def q13_0 : List (Option AP) := [none, none, some (.box false [.int .i64, .int .i64, .own (.cons (.int .i64) .nil), .own (.cons (.int .i64) (.cons (.int .i64) (.cons (.int .i64) (.cons .str .nil)))), .own (.cons (.int .i64) .nil), .own (.cons .str .nil), .int .i64, .int .i64, .int .i64, .int .i64, .int .i64, .int .i64, .int .i64, .int .i64, .int .i64, .own (.cons (.int .i64) .nil)]), some (.val false [.own (.cons (.int .i64) (.cons (.int .i64) (.cons (.int .i64) (.cons .str .nil))))]), none, none, none, none, none, none, none, none, none, none, none, none, none, none, none, none, none, none, none, none, none, none, none, none, none, none, none, none, none, none, none, none, none, none, none, none, none, none, none, none, none, none, none, none, none, none, none, none, none, none, none]
abbrev H13_0 : Type := Int × Int × (List (Int × Unit)) × (List (Int × Int × Int × ByteArray × Unit)) × (List (Int × Unit)) × (List (ByteArray × Unit)) × Int × Int × Int × Int × Int × Int × Int × Int × Int × (List (Int × Unit)) × Int × Int × (List (Int × Unit)) × (List (Int × Int × Int × ByteArray × Unit)) × (List (Int × Unit)) × (List (ByteArray × Unit)) × Int × Int × Int × Int × Int × Int × Int × Int × Int × (List (Int × Unit)) × Int × Int × (List (Int × Unit)) × (List (Int × Int × Int × ByteArray × Unit)) × (List (Int × Unit)) × (List (ByteArray × Unit)) × Int × Int × Int × Int × Int × Int × Int × Int × Int × (List (Int × Unit)) × (List (Int × Int × Int × ByteArray × Unit)) × Int × Unit
abbrev E13_0 : Type := Int × Int × (List (Int × Unit)) × (List (Int × Int × Int × ByteArray × Unit)) × (List (Int × Unit)) × (List (ByteArray × Unit)) × Int × Int × Int × Int × Int × Int × Int × Int × Int × (List (Int × Unit)) × Int × Int × (List (Int × Unit)) × (List (Int × Int × Int × ByteArray × Unit)) × (List (Int × Unit)) × (List (ByteArray × Unit)) × Int × Int × Int × Int × Int × Int × Int × Int × Int × (List (Int × Unit)) × (List (Int × Int × Int × ByteArray × Unit)) × Unit
abbrev Q13_0 : Type := Int × Int × (List (Int × Unit)) × (List (Int × Int × Int × ByteArray × Unit)) × (List (Int × Unit)) × (List (ByteArray × Unit)) × Int × Int × Int × Int × Int × Int × Int × Int × Int × (List (Int × Unit)) × (List (Int × Int × Int × ByteArray × Unit)) × Unit
noncomputable def spec_Hear_c0 (m1c0 : Int) (m1c1 : Int) (m1c2 : List (Int × Unit)) (m1c3 : List (Int × Int × Int × ByteArray × Unit)) (m1c4 : List (Int × Unit)) (m1c5 : List (ByteArray × Unit)) (m1c6 : Int) (m1c7 : Int) (m1c8 : Int) (m1c9 : Int) (m1c10 : Int) (m1c11 : Int) (m1c12 : Int) (m1c13 : Int) (m1c14 : Int) (m1c15 : List (Int × Unit)) (t2c0 : Int) (t2c1 : Int) (t2c2 : List (Int × Unit)) (t2c3 : List (Int × Int × Int × ByteArray × Unit)) (t2c4 : List (Int × Unit)) (t2c5 : List (ByteArray × Unit)) (t2c6 : Int) (t2c7 : Int) (t2c8 : Int) (t2c9 : Int) (t2c10 : Int) (t2c11 : Int) (t2c12 : Int) (t2c13 : Int) (t2c14 : Int) (t2c15 : List (Int × Unit)) (out4c0 : Int) (out4c1 : Int) (out4c2 : List (Int × Unit)) (out4c3 : List (Int × Int × Int × ByteArray × Unit)) (out4c4 : List (Int × Unit)) (out4c5 : List (ByteArray × Unit)) (out4c6 : Int) (out4c7 : Int) (out4c8 : Int) (out4c9 : Int) (out4c10 : Int) (out4c11 : Int) (out4c12 : Int) (out4c13 : Int) (out4c14 : Int) (out4c15 : List (Int × Unit)) (list5 : List (Int × Int × Int × ByteArray × Unit)) (aru6 : Int) : Option (Sum H13_0 (Sum E13_0 Q13_0)) :=
  bif decide (out4c9 < aru6) then
    Option.bind (spec_ItemAt m1c3 (IntKind.i64.wrap (out4c9 + (1 : Int)))) fun y4 =>
    bif decide (y4.2.2.1 = (2 : Int)) then
      bif decide (m1c8 < y4.1) then
        some (.inr (.inr (out4c0, out4c1, out4c2, out4c3, out4c4, out4c5, out4c6, out4c7, out4c8, out4c9, out4c10, out4c11, out4c12, out4c13, out4c14, out4c15, list5, ())))
      else bif Nat.ble (((List.length list5) + 1) * 40) lim then some (.inl (m1c0, m1c1, m1c2, m1c3, m1c4, m1c5, m1c6, m1c7, m1c8, m1c9, m1c10, m1c11, m1c12, m1c13, m1c14, m1c15, t2c0, t2c1, t2c2, t2c3, t2c4, t2c5, t2c6, t2c7, t2c8, t2c9, t2c10, t2c11, t2c12, t2c13, t2c14, t2c15, out4c0, out4c1, out4c2, out4c3, out4c4, out4c5, out4c6, out4c7, out4c8, IntKind.i64.wrap (out4c9 + (1 : Int)), out4c10, out4c11, out4c12, out4c13, out4c14, out4c15, list5 ++ [(y4.1, y4.2.1, y4.2.2.1, y4.2.2.2.1, ())], aru6, ()))
      else none
    else bif Nat.ble (((List.length list5) + 1) * 40) lim then some (.inl (m1c0, m1c1, m1c2, m1c3, m1c4, m1c5, m1c6, m1c7, m1c8, m1c9, m1c10, m1c11, m1c12, m1c13, m1c14, m1c15, t2c0, t2c1, t2c2, t2c3, t2c4, t2c5, t2c6, t2c7, t2c8, t2c9, t2c10, t2c11, t2c12, t2c13, t2c14, t2c15, out4c0, out4c1, out4c2, out4c3, out4c4, out4c5, out4c6, out4c7, out4c8, IntKind.i64.wrap (out4c9 + (1 : Int)), out4c10, out4c11, out4c12, out4c13, out4c14, out4c15, list5 ++ [(y4.1, y4.2.1, y4.2.2.1, y4.2.2.2.1, ())], aru6, ()))
    else none
  else
    some (.inr (.inl (t2c0, t2c1, t2c2, t2c3, t2c4, t2c5, t2c6, t2c7, t2c8, t2c9, t2c10, t2c11, t2c12, t2c13, t2c14, t2c15, out4c0, out4c1, out4c2, out4c3, out4c4, out4c5, out4c6, out4c7, out4c8, out4c9, out4c10, out4c11, out4c12, out4c13, out4c14, out4c15, list5, ())))
noncomputable def spec_Hear_r0 (x : H13_0) : Option (Sum H13_0 (Sum E13_0 Q13_0)) := spec_Hear_c0 x.1 x.2.1 x.2.2.1 x.2.2.2.1 x.2.2.2.2.1 x.2.2.2.2.2.1 x.2.2.2.2.2.2.1 x.2.2.2.2.2.2.2.1 x.2.2.2.2.2.2.2.2.1 x.2.2.2.2.2.2.2.2.2.1 x.2.2.2.2.2.2.2.2.2.2.1 x.2.2.2.2.2.2.2.2.2.2.2.1 x.2.2.2.2.2.2.2.2.2.2.2.2.1 x.2.2.2.2.2.2.2.2.2.2.2.2.2.1 x.2.2.2.2.2.2.2.2.2.2.2.2.2.2.1 x.2.2.2.2.2.2.2.2.2.2.2.2.2.2.2.1 x.2.2.2.2.2.2.2.2.2.2.2.2.2.2.2.2.1 x.2.2.2.2.2.2.2.2.2.2.2.2.2.2.2.2.2.1 x.2.2.2.2.2.2.2.2.2.2.2.2.2.2.2.2.2.2.1 x.2.2.2.2.2.2.2.2.2.2.2.2.2.2.2.2.2.2.2.1 x.2.2.2.2.2.2.2.2.2.2.2.2.2.2.2.2.2.2.2.2.1 x.2.2.2.2.2.2.2.2.2.2.2.2.2.2.2.2.2.2.2.2.2.1 x.2.2.2.2.2.2.2.2.2.2.2.2.2.2.2.2.2.2.2.2.2.2.1 x.2.2.2.2.2.2.2.2.2.2.2.2.2.2.2.2.2.2.2.2.2.2.2.1 x.2.2.2.2.2.2.2.2.2.2.2.2.2.2.2.2.2.2.2.2.2.2.2.2.1 x.2.2.2.2.2.2.2.2.2.2.2.2.2.2.2.2.2.2.2.2.2.2.2.2.2.1 x.2.2.2.2.2.2.2.2.2.2.2.2.2.2.2.2.2.2.2.2.2.2.2.2.2.2.1 x.2.2.2.2.2.2.2.2.2.2.2.2.2.2.2.2.2.2.2.2.2.2.2.2.2.2.2.1 x.2.2.2.2.2.2.2.2.2.2.2.2.2.2.2.2.2.2.2.2.2.2.2.2.2.2.2.2.1 x.2.2.2.2.2.2.2.2.2.2.2.2.2.2.2.2.2.2.2.2.2.2.2.2.2.2.2.2.2.1 x.2.2.2.2.2.2.2.2.2.2.2.2.2.2.2.2.2.2.2.2.2.2.2.2.2.2.2.2.2.2.1 x.2.2.2.2.2.2.2.2.2.2.2.2.2.2.2.2.2.2.2.2.2.2.2.2.2.2.2.2.2.2.2.1 x.2.2.2.2.2.2.2.2.2.2.2.2.2.2.2.2.2.2.2.2.2.2.2.2.2.2.2.2.2.2.2.2.1 x.2.2.2.2.2.2.2.2.2.2.2.2.2.2.2.2.2.2.2.2.2.2.2.2.2.2.2.2.2.2.2.2.2.1 x.2.2.2.2.2.2.2.2.2.2.2.2.2.2.2.2.2.2.2.2.2.2.2.2.2.2.2.2.2.2.2.2.2.2.1 x.2.2.2.2.2.2.2.2.2.2.2.2.2.2.2.2.2.2.2.2.2.2.2.2.2.2.2.2.2.2.2.2.2.2.2.1 x.2.2.2.2.2.2.2.2.2.2.2.2.2.2.2.2.2.2.2.2.2.2.2.2.2.2.2.2.2.2.2.2.2.2.2.2.1 x.2.2.2.2.2.2.2.2.2.2.2.2.2.2.2.2.2.2.2.2.2.2.2.2.2.2.2.2.2.2.2.2.2.2.2.2.2.1 x.2.2.2.2.2.2.2.2.2.2.2.2.2.2.2.2.2.2.2.2.2.2.2.2.2.2.2.2.2.2.2.2.2.2.2.2.2.2.1 x.2.2.2.2.2.2.2.2.2.2.2.2.2.2.2.2.2.2.2.2.2.2.2.2.2.2.2.2.2.2.2.2.2.2.2.2.2.2.2.1 x.2.2.2.2.2.2.2.2.2.2.2.2.2.2.2.2.2.2.2.2.2.2.2.2.2.2.2.2.2.2.2.2.2.2.2.2.2.2.2.2.1 x.2.2.2.2.2.2.2.2.2.2.2.2.2.2.2.2.2.2.2.2.2.2.2.2.2.2.2.2.2.2.2.2.2.2.2.2.2.2.2.2.2.1 x.2.2.2.2.2.2.2.2.2.2.2.2.2.2.2.2.2.2.2.2.2.2.2.2.2.2.2.2.2.2.2.2.2.2.2.2.2.2.2.2.2.2.1 x.2.2.2.2.2.2.2.2.2.2.2.2.2.2.2.2.2.2.2.2.2.2.2.2.2.2.2.2.2.2.2.2.2.2.2.2.2.2.2.2.2.2.2.1 x.2.2.2.2.2.2.2.2.2.2.2.2.2.2.2.2.2.2.2.2.2.2.2.2.2.2.2.2.2.2.2.2.2.2.2.2.2.2.2.2.2.2.2.2.1 x.2.2.2.2.2.2.2.2.2.2.2.2.2.2.2.2.2.2.2.2.2.2.2.2.2.2.2.2.2.2.2.2.2.2.2.2.2.2.2.2.2.2.2.2.2.1 x.2.2.2.2.2.2.2.2.2.2.2.2.2.2.2.2.2.2.2.2.2.2.2.2.2.2.2.2.2.2.2.2.2.2.2.2.2.2.2.2.2.2.2.2.2.2.1 x.2.2.2.2.2.2.2.2.2.2.2.2.2.2.2.2.2.2.2.2.2.2.2.2.2.2.2.2.2.2.2.2.2.2.2.2.2.2.2.2.2.2.2.2.2.2.2.1 x.2.2.2.2.2.2.2.2.2.2.2.2.2.2.2.2.2.2.2.2.2.2.2.2.2.2.2.2.2.2.2.2.2.2.2.2.2.2.2.2.2.2.2.2.2.2.2.2.1 x.2.2.2.2.2.2.2.2.2.2.2.2.2.2.2.2.2.2.2.2.2.2.2.2.2.2.2.2.2.2.2.2.2.2.2.2.2.2.2.2.2.2.2.2.2.2.2.2.2.1
noncomputable def L13 {R : Type} : Loops R := fun id _ st k => bif Nat.beq id 0 then loopAt hp13_0 e13_0 q13_0 spec_Hear_r0 st k else none
noncomputable def spec_Hear (m0c0 : Int) (m0c1 : Int) (m0c2 : List (Int × Unit)) (m0c3 : List (Int × Int × Int × ByteArray × Unit)) (m0c4 : List (Int × Unit)) (m0c5 : List (ByteArray × Unit)) (m0c6 : Int) (m0c7 : Int) (m0c8 : Int) (m0c9 : Int) (m0c10 : Int) (m0c11 : Int) (m0c12 : Int) (m0c13 : Int) (m0c14 : Int) (m0c15 : List (Int × Unit)) : Option (Int × Int × (List (Int × Unit)) × (List (Int × Int × Int × ByteArray × Unit)) × (List (Int × Unit)) × (List (ByteArray × Unit)) × Int × Int × Int × Int × Int × Int × Int × Int × Int × (List (Int × Unit)) × (List (Int × Int × Int × ByteArray × Unit)) × Unit) :=
  Option.bind (spec_l10Copy m0c0 m0c1 m0c2 m0c3 m0c4 m0c5 m0c6 m0c7 m0c8 m0c9 m0c10 m0c11 m0c12 m0c13 m0c14 m0c15) fun y1 =>
  Option.bind (spec_MateOk m0c0 m0c1 m0c2 m0c3 m0c4 m0c5 m0c6 m0c7 m0c8 m0c9 m0c10 m0c11 m0c12 m0c13 m0c14 m0c15) fun y2 =>
  bif !y2.1 then
    some (y1.1, y1.2.1, y1.2.2.1, y1.2.2.2.1, y1.2.2.2.2.1, y1.2.2.2.2.2.1, y1.2.2.2.2.2.2.1, y1.2.2.2.2.2.2.2.1, y1.2.2.2.2.2.2.2.2.1, y1.2.2.2.2.2.2.2.2.2.1, y1.2.2.2.2.2.2.2.2.2.2.1, y1.2.2.2.2.2.2.2.2.2.2.2.1, y1.2.2.2.2.2.2.2.2.2.2.2.2.1, y1.2.2.2.2.2.2.2.2.2.2.2.2.2.1, y1.2.2.2.2.2.2.2.2.2.2.2.2.2.2.1, y1.2.2.2.2.2.2.2.2.2.2.2.2.2.2.2.1, [], ())
  else
    Option.bind (spec_AruOf m0c3) fun y3 =>
    outK (loopV spec_Hear_r0 (m0c0, m0c1, m0c2, m0c3, m0c4, m0c5, m0c6, m0c7, m0c8, m0c9, m0c10, m0c11, m0c12, m0c13, m0c14, m0c15, (0 : Int), (0 : Int), [], [], [], [], (0 : Int), (0 : Int), (0 : Int), (0 : Int), (0 : Int), (0 : Int), (0 : Int), (0 : Int), (0 : Int), [], y1.1, y1.2.1, y1.2.2.1, y1.2.2.2.1, y1.2.2.2.2.1, y1.2.2.2.2.2.1, y1.2.2.2.2.2.2.1, y1.2.2.2.2.2.2.2.1, y1.2.2.2.2.2.2.2.2.1, y1.2.2.2.2.2.2.2.2.2.1, y1.2.2.2.2.2.2.2.2.2.2.1, y1.2.2.2.2.2.2.2.2.2.2.2.1, y1.2.2.2.2.2.2.2.2.2.2.2.2.1, y1.2.2.2.2.2.2.2.2.2.2.2.2.2.1, y1.2.2.2.2.2.2.2.2.2.2.2.2.2.2.1, y1.2.2.2.2.2.2.2.2.2.2.2.2.2.2.2.1, [], y3.1, ())) (fun y4 =>
      some (y4.2.2.2.2.2.2.2.2.2.2.2.2.2.2.2.2.1, y4.2.2.2.2.2.2.2.2.2.2.2.2.2.2.2.2.2.1, y4.2.2.2.2.2.2.2.2.2.2.2.2.2.2.2.2.2.2.1, y4.2.2.2.2.2.2.2.2.2.2.2.2.2.2.2.2.2.2.2.1, y4.2.2.2.2.2.2.2.2.2.2.2.2.2.2.2.2.2.2.2.2.1, y4.2.2.2.2.2.2.2.2.2.2.2.2.2.2.2.2.2.2.2.2.2.1, y4.2.2.2.2.2.2.2.2.2.2.2.2.2.2.2.2.2.2.2.2.2.2.1, y4.2.2.2.2.2.2.2.2.2.2.2.2.2.2.2.2.2.2.2.2.2.2.2.1, y4.2.2.2.2.2.2.2.2.2.2.2.2.2.2.2.2.2.2.2.2.2.2.2.2.1, y4.2.2.2.2.2.2.2.2.2.2.2.2.2.2.2.2.2.2.2.2.2.2.2.2.2.1, y4.2.2.2.2.2.2.2.2.2.2.2.2.2.2.2.2.2.2.2.2.2.2.2.2.2.2.1, y4.2.2.2.2.2.2.2.2.2.2.2.2.2.2.2.2.2.2.2.2.2.2.2.2.2.2.2.1, y4.2.2.2.2.2.2.2.2.2.2.2.2.2.2.2.2.2.2.2.2.2.2.2.2.2.2.2.2.1, y4.2.2.2.2.2.2.2.2.2.2.2.2.2.2.2.2.2.2.2.2.2.2.2.2.2.2.2.2.2.1, y4.2.2.2.2.2.2.2.2.2.2.2.2.2.2.2.2.2.2.2.2.2.2.2.2.2.2.2.2.2.2.1, y4.2.2.2.2.2.2.2.2.2.2.2.2.2.2.2.2.2.2.2.2.2.2.2.2.2.2.2.2.2.2.2.1, y4.2.2.2.2.2.2.2.2.2.2.2.2.2.2.2.2.2.2.2.2.2.2.2.2.2.2.2.2.2.2.2.2.1, ())) (fun y5 =>
      some (y5.1, y5.2.1, y5.2.2.1, y5.2.2.2.1, y5.2.2.2.2.1, y5.2.2.2.2.2.1, y5.2.2.2.2.2.2.1, y5.2.2.2.2.2.2.2.1, y5.2.2.2.2.2.2.2.2.1, y5.2.2.2.2.2.2.2.2.2.1, y5.2.2.2.2.2.2.2.2.2.2.1, y5.2.2.2.2.2.2.2.2.2.2.2.1, y5.2.2.2.2.2.2.2.2.2.2.2.2.1, y5.2.2.2.2.2.2.2.2.2.2.2.2.2.1, y5.2.2.2.2.2.2.2.2.2.2.2.2.2.2.1, y5.2.2.2.2.2.2.2.2.2.2.2.2.2.2.2.1, y5.2.2.2.2.2.2.2.2.2.2.2.2.2.2.2.2.1, ()))
noncomputable def x13 (x : Int × Int × (List (Int × Unit)) × (List (Int × Int × Int × ByteArray × Unit)) × (List (Int × Unit)) × (List (ByteArray × Unit)) × Int × Int × Int × Int × Int × Int × Int × Int × Int × (List (Int × Unit)) × Unit) : Option (Int × Int × (List (Int × Unit)) × (List (Int × Int × Int × ByteArray × Unit)) × (List (Int × Unit)) × (List (ByteArray × Unit)) × Int × Int × Int × Int × Int × Int × Int × Int × Int × (List (Int × Unit)) × (List (Int × Int × Int × ByteArray × Unit)) × Unit) := spec_Hear x.1 x.2.1 x.2.2.1 x.2.2.2.1 x.2.2.2.2.1 x.2.2.2.2.2.1 x.2.2.2.2.2.2.1 x.2.2.2.2.2.2.2.1 x.2.2.2.2.2.2.2.2.1 x.2.2.2.2.2.2.2.2.2.1 x.2.2.2.2.2.2.2.2.2.2.1 x.2.2.2.2.2.2.2.2.2.2.2.1 x.2.2.2.2.2.2.2.2.2.2.2.2.1 x.2.2.2.2.2.2.2.2.2.2.2.2.2.1 x.2.2.2.2.2.2.2.2.2.2.2.2.2.2.1 x.2.2.2.2.2.2.2.2.2.2.2.2.2.2.2.1
noncomputable def sem13 : Sem1 := semOf ps13 rs13 x13
theorem so13 : SemsOk Try.prog (semsOf sl13) := sems_cons k30 (sems_cons k28 (sems_cons k51 (sems_cons k52 (sems_nil))))
noncomputable def b13_0 : Code := nthLoop code13 0
theorem t13_r0_eq (x : denR (headRT hp13_0)) : codeK (tabOf tr) (semsOf sl13) D13 L13 b13_0 (headSt hp13_0 x) (roundK 0 hp13_0 e13_0 q13_0) = spec_Hear_r0 x := by kernel_rfl
theorem loop13_0 {R : Type} (r : R) (w0 : World) (mu : Mu) (hs : AnShape ps13 mu) : LoopAt Try.prog w0 mu 55 (L13 : Loops R) r 0 b13_0 :=
  loop_auto tr_ok eq_ok mixed_ok so13 (D := D13) hs (by kernel_rfl) (fun _ => (loops_of (l := []) (by kernel_rfl) (List.forall_mem_nil _))) t13_r0_eq (fun _ _ => rfl)
theorem t13_eq (x : denR (headRT (ps13.map some))) : codeK (tabOf tr) (semsOf sl13) D13 L13 code13 (start 55 ps13 x) (finK rs13 ps13) = x13 x := by kernel_rfl
theorem k13 : Known Try.prog 13 sem13 :=
  fn_auto tr_ok eq_ok mixed_ok so13 (D := D13) (code := code13) (n := 55) Try.func13 (by kernel_rfl) (by kernel_rfl) (by kernel_rfl) (fun w0 mu _ hs => (loops_of (l := [(0, b13_0)]) (by kernel_rfl) (List.forall_mem_cons.2 ⟨loop13_0 _ w0 mu hs, (List.forall_mem_nil _)⟩))) t13_eq

end Go.TM
