/- What the functions answer, as terms; their contracts. -/
import Derived.Test.YtoblacbibdgddaaF1
set_option linter.unusedSimpArgs false
set_option linter.unusedVariables false
namespace Go.TM
open Go Go.RowKit Go.Proofs

/-! ### f108: impl.Item] -/
noncomputable def code108 : Code := match Try.f108.body with | some c => c | none => .skip
def ps108 : List AP := [.val false [.shr (.cons (.int .i64) (.cons (.int .i64) (.cons (.int .i64) (.cons .str .nil))))], .val false [.shr (.cons (.int .i64) (.cons (.int .i64) (.cons (.int .i64) (.cons .str .nil))))]]
def rs108 : List RP := [{ src := .tmp 4, agg := false, ps := [.bool] }]
noncomputable def sl108 : SemL := []
def D108 : Draws := fun id => bif Nat.beq id 6 then .op 0 .any (.op 1 .any (.op 2 .any (.op 3 .take (.op 4 .any (.op 5 .any (.op 6 .any (.op 7 .take (.op 8 .any (.nil))))))))) else .nil
def hp108_0 : List (Option AP) := [some (.val false [.shr (.cons (.int .i64) (.cons (.int .i64) (.cons (.int .i64) (.cons .str .nil))))]), some (.val false [.shr (.cons (.int .i64) (.cons (.int .i64) (.cons (.int .i64) (.cons .str .nil))))]), none, none, none, none, none, none, none, none, none, none, some (.val false [.int .i64]), some (.val false [.int .i64]), none, none, none, none, none, none, none, none, none, none, none, none]
def e108_0 : List (Option AP) := [none, none, none, none, none, none, none, none, none, none, none, none, none, none, none, none, none, none, none, none, none, none, none, none, none, none]
def q108_0 : List (Option AP) := [none, none, none, none, some (.val false [.bool]), none, none, none, none, none, none, none, none, none, none, none, none, none, none, none, none, none, none, none, none, none]
abbrev H108_0 : Type := (List (Int × Int × Int × ByteArray × Unit)) × (List (Int × Int × Int × ByteArray × Unit)) × Int × Int × Unit
abbrev E108_0 : Type := Unit
abbrev Q108_0 : Type := Bool × Unit
noncomputable def slices_Equal_impl_Item_c0 (s10 : List (Int × Int × Int × ByteArray × Unit)) (s21 : List (Int × Int × Int × ByteArray × Unit)) (t12 : Int) (t13 : Int) : Option (Sum H108_0 (Sum E108_0 Q108_0)) :=
  bif decide (t13 < t12) then
    bif decide ((0 : Int) ≤ t13) then Option.bind ((s10)[Int.toNat t13]?) fun r1 =>
      bif decide ((0 : Int) ≤ t13) then Option.bind ((s21)[Int.toNat t13]?) fun r2 =>
        bif !(decide (r1.1 = r2.1) && (decide (r1.2.1 = r2.2.1) && (decide (r1.2.2.1 = r2.2.2.1) && (strEq r1.2.2.2.1 r2.2.2.2.1 && true)))) then
          some (.inr (.inr (false, ())))
        else
          some (.inl (s10, s21, t12, IntKind.i64.wrap (t13 + (1 : Int)), ()))
      else none
    else none
  else
    some (.inr (.inl (())))
noncomputable def slices_Equal_impl_Item_r0 (x : H108_0) : Option (Sum H108_0 (Sum E108_0 Q108_0)) := slices_Equal_impl_Item_c0 x.1 x.2.1 x.2.2.1 x.2.2.2.1
noncomputable def L108 {R : Type} : Loops R := fun id _ st k => bif Nat.beq id 0 then loopAt hp108_0 e108_0 q108_0 slices_Equal_impl_Item_r0 st k else none
noncomputable def slices_Equal_impl_Item (s10 : List (Int × Int × Int × ByteArray × Unit)) (s21 : List (Int × Int × Int × ByteArray × Unit)) : Option (Bool × Unit) :=
  bif !decide (((List.length s10 : Nat) : Int) = ((List.length s21 : Nat) : Int)) then
    some (false, ())
  else
    outK (loopV slices_Equal_impl_Item_r0 (s10, s21, ((List.length s10 : Nat) : Int), (0 : Int), ())) (fun y1 =>
      some (true, ())) (fun y2 =>
      some (y2.1, ()))
noncomputable def x108 (x : (List (Int × Int × Int × ByteArray × Unit)) × (List (Int × Int × Int × ByteArray × Unit)) × Unit) : Option (Bool × Unit) := slices_Equal_impl_Item x.1 x.2.1
noncomputable def sem108 : Sem1 := semOf ps108 rs108 x108
theorem so108 : SemsOk Try.prog (semsOf sl108) := sems_nil
noncomputable def b108_0 : Code := nthLoop code108 0
theorem t108_r0_eq (x : denR (headRT hp108_0)) : codeK (tabOf tr) (semsOf sl108) D108 L108 b108_0 (headSt hp108_0 x) (roundK 0 hp108_0 e108_0 q108_0) = slices_Equal_impl_Item_r0 x := by kernel_rfl
theorem loop108_0 {R : Type} (r : R) (w0 : World) (mu : Mu) (hs : AnShape ps108 mu) : LoopAt Try.prog w0 mu 26 (L108 : Loops R) r 0 b108_0 :=
  loop_auto tr_ok eq_ok mixed_ok so108 (D := D108) hs (by kernel_rfl) (fun _ => (loops_of (l := []) (by kernel_rfl) (List.forall_mem_nil _))) t108_r0_eq (fun _ _ => rfl)
theorem t108_eq (x : denR (headRT (ps108.map some))) : codeK (tabOf tr) (semsOf sl108) D108 L108 code108 (start 26 ps108 x) (finK rs108 ps108) = x108 x := by kernel_rfl
theorem k108 : Known Try.prog 108 sem108 :=
  fn_auto tr_ok eq_ok mixed_ok so108 (D := D108) (code := code108) (n := 26) Try.func108 (by kernel_rfl) (by kernel_rfl) (by kernel_rfl) (fun w0 mu _ hs => (loops_of (l := [(0, b108_0)]) (by kernel_rfl) (List.forall_mem_cons.2 ⟨loop108_0 _ w0 mu hs, (List.forall_mem_nil _)⟩))) t108_eq

/-! ### f91: impl.begins -/
noncomputable def code91 : Code := match Try.f91.body with | some c => c | none => .skip
def ps91 : List AP := [.val false [.shr (.cons (.int .i64) (.cons (.int .i64) (.cons (.int .i64) (.cons .str .nil))))], .val false [.shr (.cons (.int .i64) (.cons (.int .i64) (.cons (.int .i64) (.cons .str .nil))))]]
def rs91 : List RP := [{ src := .tmp 4, agg := false, ps := [.bool] }]
noncomputable def sl91 : SemL := [(108, (.shr, .shr, .shr, sem108))]
def D91 : Draws := fun id => bif Nat.beq id 2 then .op 0 .any (.op 1 .any (.op 2 .any (.op 3 .any (.op 4 .any (.op 5 .any (.op 6 .one (.op 7 .any (.nil)))))))) else .nil
noncomputable def L91 {R : Type} : Loops R := fun _ _ _ _ => none
noncomputable def impl_begins (a0 : List (Int × Int × Int × ByteArray × Unit)) (b1 : List (Int × Int × Int × ByteArray × Unit)) : Option (Bool × Unit) :=
  bif decide ((0 : Int) ≤ (if ((List.length b1 : Nat) : Int) < ((List.length a0 : Nat) : Int) then ((List.length b1 : Nat) : Int) else ((List.length a0 : Nat) : Int))) then bif decide ((if ((List.length b1 : Nat) : Int) < ((List.length a0 : Nat) : Int) then ((List.length b1 : Nat) : Int) else ((List.length a0 : Nat) : Int)) ≤ ((List.length a0 : Nat) : Int)) then bif decide ((0 : Int) ≤ (if ((List.length b1 : Nat) : Int) < ((List.length a0 : Nat) : Int) then ((List.length b1 : Nat) : Int) else ((List.length a0 : Nat) : Int))) then bif decide ((if ((List.length b1 : Nat) : Int) < ((List.length a0 : Nat) : Int) then ((List.length b1 : Nat) : Int) else ((List.length a0 : Nat) : Int)) ≤ ((List.length b1 : Nat) : Int)) then Option.bind (slices_Equal_impl_Item (List.take (Int.toNat (if ((List.length b1 : Nat) : Int) < ((List.length a0 : Nat) : Int) then ((List.length b1 : Nat) : Int) else ((List.length a0 : Nat) : Int))) (List.drop 0 a0)) (List.take (Int.toNat (if ((List.length b1 : Nat) : Int) < ((List.length a0 : Nat) : Int) then ((List.length b1 : Nat) : Int) else ((List.length a0 : Nat) : Int))) (List.drop 0 b1))) fun y1 =>
          some (y1.1, ())
        else none
      else none
    else none
  else none
noncomputable def x91 (x : (List (Int × Int × Int × ByteArray × Unit)) × (List (Int × Int × Int × ByteArray × Unit)) × Unit) : Option (Bool × Unit) := impl_begins x.1 x.2.1
noncomputable def sem91 : Sem1 := semOf ps91 rs91 x91
theorem so91 : SemsOk Try.prog (semsOf sl91) := sems_cons k108 (sems_nil)
theorem t91_eq (x : denR (headRT (ps91.map some))) : codeK (tabOf tr) (semsOf sl91) D91 L91 code91 (start 18 ps91 x) (finK rs91 ps91) = x91 x := by kernel_rfl
theorem k91 : Known Try.prog 91 sem91 :=
  fn_auto tr_ok eq_ok mixed_ok so91 (D := D91) (code := code91) (n := 18) Try.func91 (by kernel_rfl) (by kernel_rfl) (by kernel_rfl) (fun w0 mu _ hs => (loops_of (l := []) (by kernel_rfl) (List.forall_mem_nil _))) t91_eq

/-! ### f54: impl.OneOrder -/
noncomputable def code54 : Code := match Try.f54.body with | some c => c | none => .skip
def ps54 : List AP := [.val false [.shr (.cons (.sl (.cons (.int .i64) (.cons (.int .i64) (.cons (.int .i64) (.cons .str .nil))))) .nil)]]
def rs54 : List RP := [{ src := .tmp 2, agg := false, ps := [.bool] }]
noncomputable def sl54 : SemL := [(91, (.shr, .shr, .shr, sem91))]
def D54 : Draws := fun _ => .nil
def hp54_2 : List (Option AP) := [some (.val false [.shr (.cons (.sl (.cons (.int .i64) (.cons (.int .i64) (.cons (.int .i64) (.cons .str .nil))))) .nil)]), none, none, none, some (.val false [.shr (.cons (.int .i64) (.cons (.int .i64) (.cons (.int .i64) (.cons .str .nil))))]), none, none, some (.val false [.shr (.cons (.sl (.cons (.int .i64) (.cons (.int .i64) (.cons (.int .i64) (.cons .str .nil))))) .nil)]), some (.val false [.int .i64]), some (.val false [.int .i64]), none, none, none, none, none, none, some (.val false [.shr (.cons (.sl (.cons (.int .i64) (.cons (.int .i64) (.cons (.int .i64) (.cons .str .nil))))) .nil)]), some (.val false [.int .i64]), some (.val false [.int .i64]), none, none, none, none, none, none, none, none, none]
def e54_2 : List (Option AP) := [some (.val false [.shr (.cons (.sl (.cons (.int .i64) (.cons (.int .i64) (.cons (.int .i64) (.cons .str .nil))))) .nil)]), none, none, none, none, none, none, some (.val false [.shr (.cons (.sl (.cons (.int .i64) (.cons (.int .i64) (.cons (.int .i64) (.cons .str .nil))))) .nil)]), some (.val false [.int .i64]), some (.val false [.int .i64]), none, none, none, none, none, none, none, none, none, none, none, none, none, none, none, none, none, none]
def q54_2 : List (Option AP) := [none, none, some (.val false [.bool]), none, none, none, none, none, none, none, none, none, none, none, none, none, none, none, none, none, none, none, none, none, none, none, none, none]
abbrev H54_2 : Type := (List ((List (Int × Int × Int × ByteArray × Unit)) × Unit)) × (List (Int × Int × Int × ByteArray × Unit)) × (List ((List (Int × Int × Int × ByteArray × Unit)) × Unit)) × Int × Int × (List ((List (Int × Int × Int × ByteArray × Unit)) × Unit)) × Int × Int × Unit
abbrev E54_2 : Type := (List ((List (Int × Int × Int × ByteArray × Unit)) × Unit)) × (List ((List (Int × Int × Int × ByteArray × Unit)) × Unit)) × Int × Int × Unit
abbrev Q54_2 : Type := Bool × Unit
noncomputable def impl_OneOrder_c2 (lists0 : List ((List (Int × Int × Int × ByteArray × Unit)) × Unit)) (a4 : List (Int × Int × Int × ByteArray × Unit)) (t7 : List ((List (Int × Int × Int × ByteArray × Unit)) × Unit)) (t8 : Int) (t9 : Int) (t16 : List ((List (Int × Int × Int × ByteArray × Unit)) × Unit)) (t17 : Int) (t18 : Int) : Option (Sum H54_2 (Sum E54_2 Q54_2)) :=
  bif decide (t18 < t17) then
    bif decide ((0 : Int) ≤ t18) then Option.bind ((t16)[Int.toNat t18]?) fun r2 =>
      Option.bind (impl_begins a4 r2.1) fun y3 =>
      bif !y3.1 then
        some (.inr (.inr (false, ())))
      else
        some (.inl (lists0, a4, t7, t8, t9, t16, t17, IntKind.i64.wrap (t18 + (1 : Int)), ()))
    else none
  else
    some (.inr (.inl (lists0, t7, t8, t9, ())))
noncomputable def impl_OneOrder_r2 (x : H54_2) : Option (Sum H54_2 (Sum E54_2 Q54_2)) := impl_OneOrder_c2 x.1 x.2.1 x.2.2.1 x.2.2.2.1 x.2.2.2.2.1 x.2.2.2.2.2.1 x.2.2.2.2.2.2.1 x.2.2.2.2.2.2.2.1
def hp54_0 : List (Option AP) := [some (.val false [.shr (.cons (.sl (.cons (.int .i64) (.cons (.int .i64) (.cons (.int .i64) (.cons .str .nil))))) .nil)]), none, none, none, none, none, none, some (.val false [.shr (.cons (.sl (.cons (.int .i64) (.cons (.int .i64) (.cons (.int .i64) (.cons .str .nil))))) .nil)]), some (.val false [.int .i64]), some (.val false [.int .i64]), none, none, none, none, none, none, none, none, none, none, none, none, none, none, none, none, none, none]
def e54_0 : List (Option AP) := [none, none, none, none, none, none, none, none, none, none, none, none, none, none, none, none, none, none, none, none, none, none, none, none, none, none, none, none]
def q54_0 : List (Option AP) := [none, none, some (.val false [.bool]), none, none, none, none, none, none, none, none, none, none, none, none, none, none, none, none, none, none, none, none, none, none, none, none, none]
abbrev H54_0 : Type := (List ((List (Int × Int × Int × ByteArray × Unit)) × Unit)) × (List ((List (Int × Int × Int × ByteArray × Unit)) × Unit)) × Int × Int × Unit
abbrev E54_0 : Type := Unit
abbrev Q54_0 : Type := Bool × Unit
noncomputable def impl_OneOrder_c0 (lists0 : List ((List (Int × Int × Int × ByteArray × Unit)) × Unit)) (t7 : List ((List (Int × Int × Int × ByteArray × Unit)) × Unit)) (t8 : Int) (t9 : Int) : Option (Sum H54_0 (Sum E54_0 Q54_0)) :=
  bif decide (t9 < t8) then
    bif decide ((0 : Int) ≤ t9) then Option.bind ((t7)[Int.toNat t9]?) fun r1 =>
      bif decide ((0 : Int) ≤ t9) then bif decide (t9 ≤ ((List.length lists0 : Nat) : Int)) then outK (loopV impl_OneOrder_r2 (lists0, r1.1, t7, t8, t9, List.take (Int.toNat t9) (List.drop 0 lists0), ((List.length (List.take (Int.toNat t9) (List.drop 0 lists0)) : Nat) : Int), (0 : Int), ())) (fun y4 =>
            some (.inl (y4.1, y4.2.1, y4.2.2.1, IntKind.i64.wrap (y4.2.2.2.1 + (1 : Int)), ()))) (fun y5 =>
            some (.inr (.inr (y5.1, ()))))
        else none
      else none
    else none
  else
    some (.inr (.inl (())))
noncomputable def impl_OneOrder_r0 (x : H54_0) : Option (Sum H54_0 (Sum E54_0 Q54_0)) := impl_OneOrder_c0 x.1 x.2.1 x.2.2.1 x.2.2.2.1
noncomputable def L54 {R : Type} : Loops R := fun id _ st k => bif Nat.beq id 2 then loopAt hp54_2 e54_2 q54_2 impl_OneOrder_r2 st k else bif Nat.beq id 0 then loopAt hp54_0 e54_0 q54_0 impl_OneOrder_r0 st k else none
noncomputable def impl_OneOrder (lists0 : List ((List (Int × Int × Int × ByteArray × Unit)) × Unit)) : Option (Bool × Unit) :=
  outK (loopV impl_OneOrder_r0 (lists0, lists0, ((List.length lists0 : Nat) : Int), (0 : Int), ())) (fun y1 =>
    some (true, ())) (fun y2 =>
    some (y2.1, ()))
noncomputable def x54 (x : (List ((List (Int × Int × Int × ByteArray × Unit)) × Unit)) × Unit) : Option (Bool × Unit) := impl_OneOrder x.1
noncomputable def sem54 : Sem1 := semOf ps54 rs54 x54
theorem so54 : SemsOk Try.prog (semsOf sl54) := sems_cons k91 (sems_nil)
noncomputable def b54_0 : Code := nthLoop code54 0
noncomputable def b54_2 : Code := nthLoop b54_0 0
theorem t54_r2_eq (x : denR (headRT hp54_2)) : codeK (tabOf tr) (semsOf sl54) D54 L54 b54_2 (headSt hp54_2 x) (roundK 2 hp54_2 e54_2 q54_2) = impl_OneOrder_r2 x := by kernel_rfl
theorem loop54_2 {R : Type} (r : R) (w0 : World) (mu : Mu) (hs : AnShape ps54 mu) : LoopAt Try.prog w0 mu 28 (L54 : Loops R) r 2 b54_2 :=
  loop_auto tr_ok eq_ok mixed_ok so54 (D := D54) hs (by kernel_rfl) (fun _ => (loops_of (l := []) (by kernel_rfl) (List.forall_mem_nil _))) t54_r2_eq (fun _ _ => rfl)
theorem t54_r0_eq (x : denR (headRT hp54_0)) : codeK (tabOf tr) (semsOf sl54) D54 L54 b54_0 (headSt hp54_0 x) (roundK 0 hp54_0 e54_0 q54_0) = impl_OneOrder_r0 x := by kernel_rfl
theorem loop54_0 {R : Type} (r : R) (w0 : World) (mu : Mu) (hs : AnShape ps54 mu) : LoopAt Try.prog w0 mu 28 (L54 : Loops R) r 0 b54_0 :=
  loop_auto tr_ok eq_ok mixed_ok so54 (D := D54) hs (by kernel_rfl) (fun _ => (loops_of (l := [(2, b54_2)]) (by kernel_rfl) (List.forall_mem_cons.2 ⟨loop54_2 _ w0 mu hs, (List.forall_mem_nil _)⟩))) t54_r0_eq (fun _ _ => rfl)
theorem t54_eq (x : denR (headRT (ps54.map some))) : codeK (tabOf tr) (semsOf sl54) D54 L54 code54 (start 28 ps54 x) (finK rs54 ps54) = x54 x := by kernel_rfl
theorem k54 : Known Try.prog 54 sem54 :=
  fn_auto tr_ok eq_ok mixed_ok so54 (D := D54) (code := code54) (n := 28) Try.func54 (by kernel_rfl) (by kernel_rfl) (by kernel_rfl) (fun w0 mu _ hs => (loops_of (l := [(0, b54_0)]) (by kernel_rfl) (List.forall_mem_cons.2 ⟨loop54_0 _ w0 mu hs, (List.forall_mem_nil _)⟩))) t54_eq

/-! ### f55: laws.eqItemSS -/
noncomputable def code55 : Code := match Try.f55.body with | some c => c | none => .skip
def ps55 : List AP := [.val false [.shr (.cons (.sl (.cons (.int .i64) (.cons (.int .i64) (.cons (.int .i64) (.cons .str .nil))))) .nil)], .val false [.shr (.cons (.sl (.cons (.int .i64) (.cons (.int .i64) (.cons (.int .i64) (.cons .str .nil))))) .nil)]]
def rs55 : List RP := [{ src := .tmp 4, agg := false, ps := [.bool] }]
noncomputable def sl55 : SemL := [(87, (.shr, .shr, .shr, sem87))]
def D55 : Draws := fun id => bif Nat.beq id 6 then .op 0 .any (.op 1 .any (.op 2 .any (.op 3 .take (.op 4 .any (.op 5 .any (.op 6 .any (.op 7 .take (.op 8 .one (.op 9 .any (.nil)))))))))) else .nil
def hp55_0 : List (Option AP) := [some (.val false [.shr (.cons (.sl (.cons (.int .i64) (.cons (.int .i64) (.cons (.int .i64) (.cons .str .nil))))) .nil)]), some (.val false [.shr (.cons (.sl (.cons (.int .i64) (.cons (.int .i64) (.cons (.int .i64) (.cons .str .nil))))) .nil)]), none, none, none, some (.val false [.int .i64]), none, none, none, none, none, none, none, none, none, none, none, none, none, none, none, none, none, none, none, none, none]
def e55_0 : List (Option AP) := [none, none, none, none, none, none, none, none, none, none, none, none, none, none, none, none, none, none, none, none, none, none, none, none, none, none, none]
def q55_0 : List (Option AP) := [none, none, none, none, some (.val false [.bool]), none, none, none, none, none, none, none, none, none, none, none, none, none, none, none, none, none, none, none, none, none, none]
abbrev H55_0 : Type := (List ((List (Int × Int × Int × ByteArray × Unit)) × Unit)) × (List ((List (Int × Int × Int × ByteArray × Unit)) × Unit)) × Int × Unit
abbrev E55_0 : Type := Unit
abbrev Q55_0 : Type := Bool × Unit
noncomputable def laws_eqItemSS_c0 (a0 : List ((List (Int × Int × Int × ByteArray × Unit)) × Unit)) (b1 : List ((List (Int × Int × Int × ByteArray × Unit)) × Unit)) (i5 : Int) : Option (Sum H55_0 (Sum E55_0 Q55_0)) :=
  bif decide (i5 < ((List.length a0 : Nat) : Int)) then
    bif decide ((0 : Int) ≤ i5) then Option.bind ((a0)[Int.toNat i5]?) fun r1 =>
      bif decide ((0 : Int) ≤ i5) then Option.bind ((b1)[Int.toNat i5]?) fun r2 =>
        Option.bind (laws_eqItemS r1.1 r2.1) fun y3 =>
        bif !y3.1 then
          some (.inr (.inr (false, ())))
        else
          some (.inl (a0, b1, IntKind.i64.wrap (i5 + (1 : Int)), ()))
      else none
    else none
  else
    some (.inr (.inl (())))
noncomputable def laws_eqItemSS_r0 (x : H55_0) : Option (Sum H55_0 (Sum E55_0 Q55_0)) := laws_eqItemSS_c0 x.1 x.2.1 x.2.2.1
noncomputable def L55 {R : Type} : Loops R := fun id _ st k => bif Nat.beq id 0 then loopAt hp55_0 e55_0 q55_0 laws_eqItemSS_r0 st k else none
noncomputable def laws_eqItemSS (a0 : List ((List (Int × Int × Int × ByteArray × Unit)) × Unit)) (b1 : List ((List (Int × Int × Int × ByteArray × Unit)) × Unit)) : Option (Bool × Unit) :=
  bif !decide (((List.length a0 : Nat) : Int) = ((List.length b1 : Nat) : Int)) then
    some (false, ())
  else
    outK (loopV laws_eqItemSS_r0 (a0, b1, (0 : Int), ())) (fun y1 =>
      some (true, ())) (fun y2 =>
      some (y2.1, ()))
noncomputable def x55 (x : (List ((List (Int × Int × Int × ByteArray × Unit)) × Unit)) × (List ((List (Int × Int × Int × ByteArray × Unit)) × Unit)) × Unit) : Option (Bool × Unit) := laws_eqItemSS x.1 x.2.1
noncomputable def sem55 : Sem1 := semOf ps55 rs55 x55
theorem so55 : SemsOk Try.prog (semsOf sl55) := sems_cons k87 (sems_nil)
noncomputable def b55_0 : Code := nthLoop code55 0
theorem t55_r0_eq (x : denR (headRT hp55_0)) : codeK (tabOf tr) (semsOf sl55) D55 L55 b55_0 (headSt hp55_0 x) (roundK 0 hp55_0 e55_0 q55_0) = laws_eqItemSS_r0 x := by kernel_rfl
theorem loop55_0 {R : Type} (r : R) (w0 : World) (mu : Mu) (hs : AnShape ps55 mu) : LoopAt Try.prog w0 mu 27 (L55 : Loops R) r 0 b55_0 :=
  loop_auto tr_ok eq_ok mixed_ok so55 (D := D55) hs (by kernel_rfl) (fun _ => (loops_of (l := []) (by kernel_rfl) (List.forall_mem_nil _))) t55_r0_eq (fun _ _ => rfl)
theorem t55_eq (x : denR (headRT (ps55.map some))) : codeK (tabOf tr) (semsOf sl55) D55 L55 code55 (start 27 ps55 x) (finK rs55 ps55) = x55 x := by kernel_rfl
theorem k55 : Known Try.prog 55 sem55 :=
  fn_auto tr_ok eq_ok mixed_ok so55 (D := D55) (code := code55) (n := 27) Try.func55 (by kernel_rfl) (by kernel_rfl) (by kernel_rfl) (fun w0 mu _ hs => (loops_of (l := [(0, b55_0)]) (by kernel_rfl) (List.forall_mem_cons.2 ⟨loop55_0 _ w0 mu hs, (List.forall_mem_nil _)⟩))) t55_eq

/-! ### f11: laws.FnExactOneOrder -/
noncomputable def code11 : Code := match Try.f11.body with | some c => c | none => .skip
def ps11 : List AP := [.val false [.shr (.cons (.sl (.cons (.int .i64) (.cons (.int .i64) (.cons (.int .i64) (.cons .str .nil))))) .nil)]]
def rs11 : List RP := [{ src := .tmp 2, agg := false, ps := [.bool] }]
noncomputable def sl11 : SemL := [(51, (.shr, .shr, .shr, sem51)), (53, (.shr, .shr, .shr, sem53)), (52, (.shr, .shr, .shr, sem52)), (54, (.shr, .shr, .shr, sem54)), (55, (.shr, .shr, .shr, sem55))]
def D11 : Draws := fun _ => .nil
noncomputable def L11 {R : Type} : Loops R := fun _ _ _ _ => none
noncomputable def laws_FnExactOneOrder (aLists0 : List ((List (Int × Int × Int × ByteArray × Unit)) × Unit)) : Option (Bool × Unit) :=
  Option.bind (laws_szItemSS aLists0 (1048576 : Int)) fun y1 =>
  bif decide (y1.1 < (0 : Int)) then
    some (true, ())
  else
    Option.bind (laws_toItemSS aLists0) fun y2 =>
    Option.bind (spec_OneOrder y2.1) fun y3 =>
    Option.bind (laws_toItemSS aLists0) fun y4 =>
    Option.bind (impl_OneOrder y4.1) fun y5 =>
    bif !(y5.1 == y3.1) then
      some (false, ())
    else
      Option.bind (laws_toItemSS aLists0) fun y6 =>
      Option.bind (laws_eqItemSS y4.1 y6.1) fun y7 =>
      bif !y7.1 then
        some (false, ())
      else
        some (true, ())
noncomputable def x11 (x : (List ((List (Int × Int × Int × ByteArray × Unit)) × Unit)) × Unit) : Option (Bool × Unit) := laws_FnExactOneOrder x.1
noncomputable def sem11 : Sem1 := semOf ps11 rs11 x11
theorem so11 : SemsOk Try.prog (semsOf sl11) := sems_cons k51 (sems_cons k53 (sems_cons k52 (sems_cons k54 (sems_cons k55 (sems_nil)))))
theorem t11_eq (x : denR (headRT (ps11.map some))) : codeK (tabOf tr) (semsOf sl11) D11 L11 code11 (start 27 ps11 x) (finK rs11 ps11) = x11 x := by kernel_rfl
theorem k11 : Known Try.prog 11 sem11 :=
  fn_auto tr_ok eq_ok mixed_ok so11 (D := D11) (code := code11) (n := 27) Try.func11 (by kernel_rfl) (by kernel_rfl) (by kernel_rfl) (fun w0 mu _ hs => (loops_of (l := []) (by kernel_rfl) (List.forall_mem_nil _))) t11_eq

/-! ### f56: spec.FirstToken -/
noncomputable def code56 : Code := match Try.f56.body with | some c => c | none => .skip
def ps56 : List AP := [.val true [.int .i64, .shr (.cons (.int .i64) .nil)]]
def rs56 : List RP := [{ src := .cell 2, agg := true, ps := [.int .i64, .int .i64, .int .i64, .int .i64, .int .i64, .own (.cons (.int .i64) .nil)] }]
noncomputable def sl56 : SemL := [(77, (.shr, .shr, .shr, sem77))]
def D56 : Draws := fun _ => .nil
noncomputable def L56 {R : Type} : Loops R := fun _ _ _ _ => none
noncomputable def spec_FirstToken (r0c0 : Int) (r0c1 : List (Int × Unit)) : Option (Int × Int × Int × Int × Int × (List (Int × Unit)) × Unit) :=
  Option.bind (spec_RingOk r0c0 r0c1) fun y1 =>
  bif !y1.1 then
    some ((0 : Int), (0 : Int), (0 : Int), (0 : Int), (0 : Int), [], ())
  else
    some (r0c0, (1 : Int), (0 : Int), (0 : Int), (0 : Int), [], ())
noncomputable def x56 (x : Int × (List (Int × Unit)) × Unit) : Option (Int × Int × Int × Int × Int × (List (Int × Unit)) × Unit) := spec_FirstToken x.1 x.2.1
noncomputable def sem56 : Sem1 := semOf ps56 rs56 x56
theorem so56 : SemsOk Try.prog (semsOf sl56) := sems_cons k77 (sems_nil)
theorem t56_eq (x : denR (headRT (ps56.map some))) : codeK (tabOf tr) (semsOf sl56) D56 L56 code56 (start 10 ps56 x) (finK rs56 ps56) = x56 x := by kernel_rfl
theorem k56 : Known Try.prog 56 sem56 :=
  fn_auto tr_ok eq_ok mixed_ok so56 (D := D56) (code := code56) (n := 10) Try.func56 (by kernel_rfl) (by kernel_rfl) (by kernel_rfl) (fun w0 mu _ hs => (loops_of (l := []) (by kernel_rfl) (List.forall_mem_nil _))) t56_eq

/-! ### f57: laws.eqToken -/
noncomputable def code57 : Code := match Try.f57.body with | some c => c | none => .skip
def ps57 : List AP := [.val true [.int .i64, .int .i64, .int .i64, .int .i64, .int .i64, .shr (.cons (.int .i64) .nil)], .val true [.int .i64, .int .i64, .int .i64, .int .i64, .int .i64, .shr (.cons (.int .i64) .nil)]]
def rs57 : List RP := [{ src := .tmp 4, agg := false, ps := [.bool] }]
noncomputable def sl57 : SemL := [(80, (.shr, .shr, .shr, sem80))]
def D57 : Draws := fun _ => .nil
noncomputable def L57 {R : Type} : Loops R := fun _ _ _ _ => none
noncomputable def laws_eqToken (a0c0 : Int) (a0c1 : Int) (a0c2 : Int) (a0c3 : Int) (a0c4 : Int) (a0c5 : List (Int × Unit)) (b1c0 : Int) (b1c1 : Int) (b1c2 : Int) (b1c3 : Int) (b1c4 : Int) (b1c5 : List (Int × Unit)) : Option (Bool × Unit) :=
  bif !decide (a0c0 = b1c0) then
    some (false, ())
  else bif !decide (a0c1 = b1c1) then
    some (false, ())
  else bif !decide (a0c2 = b1c2) then
    some (false, ())
  else bif !decide (a0c3 = b1c3) then
    some (false, ())
  else bif !decide (a0c4 = b1c4) then
    some (false, ())
  else
    Option.bind (laws_eqIntS a0c5 b1c5) fun y1 =>
    bif !y1.1 then
      some (false, ())
    else
      some (true, ())
noncomputable def x57 (x : Int × Int × Int × Int × Int × (List (Int × Unit)) × Int × Int × Int × Int × Int × (List (Int × Unit)) × Unit) : Option (Bool × Unit) := laws_eqToken x.1 x.2.1 x.2.2.1 x.2.2.2.1 x.2.2.2.2.1 x.2.2.2.2.2.1 x.2.2.2.2.2.2.1 x.2.2.2.2.2.2.2.1 x.2.2.2.2.2.2.2.2.1 x.2.2.2.2.2.2.2.2.2.1 x.2.2.2.2.2.2.2.2.2.2.1 x.2.2.2.2.2.2.2.2.2.2.2.1
noncomputable def sem57 : Sem1 := semOf ps57 rs57 x57
theorem so57 : SemsOk Try.prog (semsOf sl57) := sems_cons k80 (sems_nil)
theorem t57_eq (x : denR (headRT (ps57.map some))) : codeK (tabOf tr) (semsOf sl57) D57 L57 code57 (start 36 ps57 x) (finK rs57 ps57) = x57 x := by kernel_rfl
theorem k57 : Known Try.prog 57 sem57 :=
  fn_auto tr_ok eq_ok mixed_ok so57 (D := D57) (code := code57) (n := 36) Try.func57 (by kernel_rfl) (by kernel_rfl) (by kernel_rfl) (fun w0 mu _ hs => (loops_of (l := []) (by kernel_rfl) (List.forall_mem_nil _))) t57_eq

/-! ### f92: laws.markIntS -/
noncomputable def code92 : Code := match Try.f92.body with | some c => c | none => .skip
def ps92 : List AP := [.io (.cons (.int .i64) .nil), .val false [.int .i64]]
def rs92 : List RP := [{ src := .tmp 4, agg := false, ps := [.int .i64] }]
noncomputable def sl92 : SemL := []
def D92 : Draws := fun _ => .nil
def hp92_0 : List (Option AP) := [some (.io (.cons (.int .i64) .nil)), some (.val false [.int .i64]), none, none, none, some (.val false [.int .i64]), none, none, none, none, none, none, none, none, none, none, none, none, none]
def e92_0 : List (Option AP) := [some (.io (.cons (.int .i64) .nil)), some (.val false [.int .i64]), none, none, none, none, none, none, none, none, none, none, none, none, none, none, none, none, none]
def q92_0 : List (Option AP) := [none, none, none, none, none, none, none, none, none, none, none, none, none, none, none, none, none, none, none]
abbrev H92_0 : Type := (List (Int × Unit)) × Int × Int × Unit
abbrev E92_0 : Type := (List (Int × Unit)) × Int × Unit
abbrev Q92_0 : Type := Unit
noncomputable def laws_markIntS_c0 (a0 : List (Int × Unit)) (k1 : Int) (i5 : Int) : Option (Sum H92_0 (Sum E92_0 Q92_0)) :=
  bif decide (i5 < ((List.length a0 : Nat) : Int)) then
    bif decide ((0 : Int) ≤ i5) then bif Nat.blt (Int.toNat i5) (List.length a0) then Option.bind ((a0)[Int.toNat i5]?) fun r1 =>
        some (.inl (List.set a0 (Int.toNat i5) (k1, ()), IntKind.i64.wrap (k1 + (1 : Int)), IntKind.i64.wrap (i5 + (1 : Int)), ()))
      else none
    else none
  else
    some (.inr (.inl (a0, k1, ())))
noncomputable def laws_markIntS_r0 (x : H92_0) : Option (Sum H92_0 (Sum E92_0 Q92_0)) := laws_markIntS_c0 x.1 x.2.1 x.2.2.1
noncomputable def L92 {R : Type} : Loops R := fun id _ st k => bif Nat.beq id 0 then loopAt hp92_0 e92_0 q92_0 laws_markIntS_r0 st k else none
noncomputable def laws_markIntS (a0 : List (Int × Unit)) (k1 : Int) : Option (Int × (List (Int × Unit)) × Unit) :=
  outK (loopV laws_markIntS_r0 (a0, k1, (0 : Int), ())) (fun y1 =>
    some (y1.2.1, y1.1, ())) (fun y2 =>
    none)
noncomputable def x92 (x : (List (Int × Unit)) × Int × Unit) : Option (Int × (List (Int × Unit)) × Unit) := laws_markIntS x.1 x.2.1
noncomputable def sem92 : Sem1 := semOf ps92 rs92 x92
theorem so92 : SemsOk Try.prog (semsOf sl92) := sems_nil
noncomputable def b92_0 : Code := nthLoop code92 0
theorem t92_r0_eq (x : denR (headRT hp92_0)) : codeK (tabOf tr) (semsOf sl92) D92 L92 b92_0 (headSt hp92_0 x) (roundK 0 hp92_0 e92_0 q92_0) = laws_markIntS_r0 x := by kernel_rfl
theorem loop92_0 {R : Type} (r : R) (w0 : World) (mu : Mu) (hs : AnShape ps92 mu) : LoopAt Try.prog w0 mu 19 (L92 : Loops R) r 0 b92_0 :=
  loop_auto tr_ok eq_ok mixed_ok so92 (D := D92) hs (by kernel_rfl) (fun _ => (loops_of (l := []) (by kernel_rfl) (List.forall_mem_nil _))) t92_r0_eq (fun _ _ => rfl)
theorem t92_eq (x : denR (headRT (ps92.map some))) : codeK (tabOf tr) (semsOf sl92) D92 L92 code92 (start 19 ps92 x) (finK rs92 ps92) = x92 x := by kernel_rfl
theorem k92 : Known Try.prog 92 sem92 :=
  fn_auto tr_ok eq_ok mixed_ok so92 (D := D92) (code := code92) (n := 19) Try.func92 (by kernel_rfl) (by kernel_rfl) (by kernel_rfl) (fun w0 mu _ hs => (loops_of (l := [(0, b92_0)]) (by kernel_rfl) (List.forall_mem_cons.2 ⟨loop92_0 _ w0 mu hs, (List.forall_mem_nil _)⟩))) t92_eq

/-! ### f58: laws.markRing -/
noncomputable def code58 : Code := match Try.f58.body with | some c => c | none => .skip
def ps58 : List AP := [.lend [.int .i64, .own (.cons (.int .i64) .nil)], .val false [.int .i64]]
def rs58 : List RP := [{ src := .tmp 4, agg := false, ps := [.int .i64] }]
noncomputable def sl58 : SemL := [(92, (.io, .shr, .shr, sem92))]
def D58 : Draws := fun _ => .nil
noncomputable def L58 {R : Type} : Loops R := fun _ _ _ _ => none
noncomputable def laws_markRing (a0c0 : Int) (a0c1 : List (Int × Unit)) (k1 : Int) : Option (Int × (List (Int × Unit)) × Unit) :=
  Option.bind (laws_markIntS a0c1 k1) fun y1 =>
  some (y1.1, y1.2.1, ())
noncomputable def x58 (x : Int × (List (Int × Unit)) × Int × Unit) : Option (Int × (List (Int × Unit)) × Unit) := laws_markRing x.1 x.2.1 x.2.2.1
noncomputable def sem58 : Sem1 := semOf ps58 rs58 x58
theorem so58 : SemsOk Try.prog (semsOf sl58) := sems_cons k92 (sems_nil)
theorem t58_eq (x : denR (headRT (ps58.map some))) : codeK (tabOf tr) (semsOf sl58) D58 L58 code58 (start 10 ps58 x) (finK rs58 ps58) = x58 x := by kernel_rfl
theorem k58 : Known Try.prog 58 sem58 :=
  fn_auto tr_ok eq_ok mixed_ok so58 (D := D58) (code := code58) (n := 10) Try.func58 (by kernel_rfl) (by kernel_rfl) (by kernel_rfl) (fun w0 mu _ hs => (loops_of (l := []) (by kernel_rfl) (List.forall_mem_nil _))) t58_eq

/-! ### f59: laws.markToken -/
noncomputable def code59 : Code := match Try.f59.body with | some c => c | none => .skip
def ps59 : List AP := [.lend [.int .i64, .int .i64, .int .i64, .int .i64, .int .i64, .own (.cons (.int .i64) .nil)], .val false [.int .i64]]
def rs59 : List RP := [{ src := .tmp 4, agg := false, ps := [.int .i64] }]
noncomputable def sl59 : SemL := [(92, (.io, .shr, .shr, sem92))]
def D59 : Draws := fun _ => .nil
noncomputable def L59 {R : Type} : Loops R := fun _ _ _ _ => none
noncomputable def laws_markToken (a0c0 : Int) (a0c1 : Int) (a0c2 : Int) (a0c3 : Int) (a0c4 : Int) (a0c5 : List (Int × Unit)) (k1 : Int) : Option (Int × (List (Int × Unit)) × Unit) :=
  Option.bind (laws_markIntS a0c5 k1) fun y1 =>
  some (y1.1, y1.2.1, ())
noncomputable def x59 (x : Int × Int × Int × Int × Int × (List (Int × Unit)) × Int × Unit) : Option (Int × (List (Int × Unit)) × Unit) := laws_markToken x.1 x.2.1 x.2.2.1 x.2.2.2.1 x.2.2.2.2.1 x.2.2.2.2.2.1 x.2.2.2.2.2.2.1
noncomputable def sem59 : Sem1 := semOf ps59 rs59 x59
theorem so59 : SemsOk Try.prog (semsOf sl59) := sems_cons k92 (sems_nil)
theorem t59_eq (x : denR (headRT (ps59.map some))) : codeK (tabOf tr) (semsOf sl59) D59 L59 code59 (start 10 ps59 x) (finK rs59 ps59) = x59 x := by kernel_rfl
theorem k59 : Known Try.prog 59 sem59 :=
  fn_auto tr_ok eq_ok mixed_ok so59 (D := D59) (code := code59) (n := 10) Try.func59 (by kernel_rfl) (by kernel_rfl) (by kernel_rfl) (fun w0 mu _ hs => (loops_of (l := []) (by kernel_rfl) (List.forall_mem_nil _))) t59_eq

/-! ### f93: laws.heldIntS -/
noncomputable def code93 : Code := match Try.f93.body with | some c => c | none => .skip
def ps93 : List AP := [.val false [.shr (.cons (.int .i64) .nil)], .val false [.int .i64]]
def rs93 : List RP := [{ src := .tmp 4, agg := false, ps := [.int .i64] }]
noncomputable def sl93 : SemL := []
def D93 : Draws := fun _ => .nil
def hp93_0 : List (Option AP) := [some (.val false [.shr (.cons (.int .i64) .nil)]), some (.val false [.int .i64]), none, none, none, some (.val false [.int .i64]), none, none, none, none, none, none, none, none, none, none, none, none, none, none, none]
def e93_0 : List (Option AP) := [none, some (.val false [.int .i64]), none, none, none, none, none, none, none, none, none, none, none, none, none, none, none, none, none, none, none]
def q93_0 : List (Option AP) := [none, none, none, none, some (.val false [.int .i64]), none, none, none, none, none, none, none, none, none, none, none, none, none, none, none, none]
abbrev H93_0 : Type := (List (Int × Unit)) × Int × Int × Unit
abbrev E93_0 : Type := Int × Unit
abbrev Q93_0 : Type := Int × Unit
noncomputable def laws_heldIntS_c0 (a0 : List (Int × Unit)) (k1 : Int) (i5 : Int) : Option (Sum H93_0 (Sum E93_0 Q93_0)) :=
  bif decide (i5 < ((List.length a0 : Nat) : Int)) then
    bif decide ((0 : Int) ≤ i5) then Option.bind ((a0)[Int.toNat i5]?) fun r1 =>
      bif !decide (r1.1 = k1) then
        some (.inr (.inr ((-1 : Int), ())))
      else
        some (.inl (a0, IntKind.i64.wrap (k1 + (1 : Int)), IntKind.i64.wrap (i5 + (1 : Int)), ()))
    else none
  else
    some (.inr (.inl (k1, ())))
noncomputable def laws_heldIntS_r0 (x : H93_0) : Option (Sum H93_0 (Sum E93_0 Q93_0)) := laws_heldIntS_c0 x.1 x.2.1 x.2.2.1
noncomputable def L93 {R : Type} : Loops R := fun id _ st k => bif Nat.beq id 0 then loopAt hp93_0 e93_0 q93_0 laws_heldIntS_r0 st k else none
noncomputable def laws_heldIntS (a0 : List (Int × Unit)) (k1 : Int) : Option (Int × Unit) :=
  outK (loopV laws_heldIntS_r0 (a0, k1, (0 : Int), ())) (fun y1 =>
    some (y1.1, ())) (fun y2 =>
    some (y2.1, ()))
noncomputable def x93 (x : (List (Int × Unit)) × Int × Unit) : Option (Int × Unit) := laws_heldIntS x.1 x.2.1
noncomputable def sem93 : Sem1 := semOf ps93 rs93 x93
theorem so93 : SemsOk Try.prog (semsOf sl93) := sems_nil
noncomputable def b93_0 : Code := nthLoop code93 0
theorem t93_r0_eq (x : denR (headRT hp93_0)) : codeK (tabOf tr) (semsOf sl93) D93 L93 b93_0 (headSt hp93_0 x) (roundK 0 hp93_0 e93_0 q93_0) = laws_heldIntS_r0 x := by kernel_rfl
theorem loop93_0 {R : Type} (r : R) (w0 : World) (mu : Mu) (hs : AnShape ps93 mu) : LoopAt Try.prog w0 mu 21 (L93 : Loops R) r 0 b93_0 :=
  loop_auto tr_ok eq_ok mixed_ok so93 (D := D93) hs (by kernel_rfl) (fun _ => (loops_of (l := []) (by kernel_rfl) (List.forall_mem_nil _))) t93_r0_eq (fun _ _ => rfl)
theorem t93_eq (x : denR (headRT (ps93.map some))) : codeK (tabOf tr) (semsOf sl93) D93 L93 code93 (start 21 ps93 x) (finK rs93 ps93) = x93 x := by kernel_rfl
theorem k93 : Known Try.prog 93 sem93 :=
  fn_auto tr_ok eq_ok mixed_ok so93 (D := D93) (code := code93) (n := 21) Try.func93 (by kernel_rfl) (by kernel_rfl) (by kernel_rfl) (fun w0 mu _ hs => (loops_of (l := [(0, b93_0)]) (by kernel_rfl) (List.forall_mem_cons.2 ⟨loop93_0 _ w0 mu hs, (List.forall_mem_nil _)⟩))) t93_eq

/-! ### f60: laws.heldToken -/
noncomputable def code60 : Code := match Try.f60.body with | some c => c | none => .skip
def ps60 : List AP := [.val true [.int .i64, .int .i64, .int .i64, .int .i64, .int .i64, .shr (.cons (.int .i64) .nil)], .val false [.int .i64]]
def rs60 : List RP := [{ src := .tmp 4, agg := false, ps := [.int .i64] }]
noncomputable def sl60 : SemL := [(93, (.shr, .shr, .shr, sem93))]
def D60 : Draws := fun _ => .nil
noncomputable def L60 {R : Type} : Loops R := fun _ _ _ _ => none
noncomputable def laws_heldToken (a0c0 : Int) (a0c1 : Int) (a0c2 : Int) (a0c3 : Int) (a0c4 : Int) (a0c5 : List (Int × Unit)) (k1 : Int) : Option (Int × Unit) :=
  Option.bind (laws_heldIntS a0c5 k1) fun y1 =>
  bif decide (y1.1 < (0 : Int)) then
    some ((-1 : Int), ())
  else
    some (y1.1, ())
noncomputable def x60 (x : Int × Int × Int × Int × Int × (List (Int × Unit)) × Int × Unit) : Option (Int × Unit) := laws_heldToken x.1 x.2.1 x.2.2.1 x.2.2.2.1 x.2.2.2.2.1 x.2.2.2.2.2.1 x.2.2.2.2.2.2.1
noncomputable def sem60 : Sem1 := semOf ps60 rs60 x60
theorem so60 : SemsOk Try.prog (semsOf sl60) := sems_cons k93 (sems_nil)
theorem t60_eq (x : denR (headRT (ps60.map some))) : codeK (tabOf tr) (semsOf sl60) D60 L60 code60 (start 12 ps60 x) (finK rs60 ps60) = x60 x := by kernel_rfl
theorem k60 : Known Try.prog 60 sem60 :=
  fn_auto tr_ok eq_ok mixed_ok so60 (D := D60) (code := code60) (n := 12) Try.func60 (by kernel_rfl) (by kernel_rfl) (by kernel_rfl) (fun w0 mu _ hs => (loops_of (l := []) (by kernel_rfl) (List.forall_mem_nil _))) t60_eq

/-! ### f12: laws.FnExactFirstToken -/
noncomputable def code12 : Code := match Try.f12.body with | some c => c | none => .skip
def ps12 : List AP := [.val true [.int .i64, .shr (.cons (.int .i64) .nil)]]
def rs12 : List RP := [{ src := .tmp 2, agg := false, ps := [.bool] }]
noncomputable def sl12 : SemL := [(26, (.shr, .shr, .shr, sem26)), (28, (.shr, .shr, .shr, sem28)), (56, (.shr, .shr, .shr, sem56)), (33, (.shr, .shr, .shr, sem33)), (57, (.shr, .shr, .shr, sem57)), (30, (.shr, .shr, .shr, sem30)), (58, (.lend, .shr, .shr, sem58)), (59, (.lend, .shr, .shr, sem59)), (60, (.shr, .shr, .shr, sem60))]
def D12 : Draws := fun id => bif Nat.beq id 10 then .op 0 .take (.op 1 .take (.op 2 .one (.op 3 .one (.op 4 .any (.nil))))) else .nil
noncomputable def L12 {R : Type} : Loops R := fun _ _ _ _ => none
noncomputable def laws_FnExactFirstToken (aR0c0 : Int) (aR0c1 : List (Int × Unit)) : Option (Bool × Unit) :=
  Option.bind (laws_szRing aR0c0 aR0c1 (1048576 : Int)) fun y1 =>
  bif decide (y1.1 < (0 : Int)) then
    some (true, ())
  else
    Option.bind (laws_toRing aR0c0 aR0c1) fun y2 =>
    Option.bind (spec_FirstToken y2.1 y2.2.1) fun y3 =>
    Option.bind (laws_toRing aR0c0 aR0c1) fun y4 =>
    Option.bind (impl_FirstToken y4.1 y4.2.1) fun y5 =>
    Option.bind (laws_eqToken y5.1 y5.2.1 y5.2.2.1 y5.2.2.2.1 y5.2.2.2.2.1 y5.2.2.2.2.2.1 y3.1 y3.2.1 y3.2.2.1 y3.2.2.2.1 y3.2.2.2.2.1 y3.2.2.2.2.2.1) fun y6 =>
    bif !y6.1 then
      some (false, ())
    else
      Option.bind (laws_toRing aR0c0 aR0c1) fun y7 =>
      Option.bind (laws_eqRing y4.1 y4.2.1 y7.1 y7.2.1) fun y8 =>
      bif !y8.1 then
        some (false, ())
      else
        Option.bind (laws_markRing y4.1 y4.2.1 (1 : Int)) fun y9 =>
        bif decide (y9.1 < (0 : Int)) then
          some (false, ())
        else
          Option.bind (laws_eqToken y5.1 y5.2.1 y5.2.2.1 y5.2.2.2.1 y5.2.2.2.2.1 y5.2.2.2.2.2.1 y3.1 y3.2.1 y3.2.2.1 y3.2.2.2.1 y3.2.2.2.2.1 y3.2.2.2.2.2.1) fun y10 =>
          bif !y10.1 then
            some (false, ())
          else
            Option.bind (laws_markToken y5.1 y5.2.1 y5.2.2.1 y5.2.2.2.1 y5.2.2.2.2.1 y5.2.2.2.2.2.1 (1 : Int)) fun y11 =>
            Option.bind (laws_heldToken y5.1 y5.2.1 y5.2.2.1 y5.2.2.2.1 y5.2.2.2.2.1 y11.2.1 (1 : Int)) fun y12 =>
            bif decide (y12.1 < (0 : Int)) then
              some (false, ())
            else bif !decide (y12.1 = y11.1) then
              some (false, ())
            else
              Option.bind (laws_toRing aR0c0 aR0c1) fun y13 =>
              Option.bind (impl_FirstToken y13.1 y13.2.1) fun y14 =>
              Option.bind (laws_eqToken y14.1 y14.2.1 y14.2.2.1 y14.2.2.2.1 y14.2.2.2.2.1 y14.2.2.2.2.2.1 y3.1 y3.2.1 y3.2.2.1 y3.2.2.2.1 y3.2.2.2.2.1 y3.2.2.2.2.2.1) fun y15 =>
              bif !y15.1 then
                some (false, ())
              else
                Option.bind (laws_heldToken y5.1 y5.2.1 y5.2.2.1 y5.2.2.2.1 y5.2.2.2.2.1 y11.2.1 (1 : Int)) fun y16 =>
                bif decide (y16.1 < (0 : Int)) then
                  some (false, ())
                else bif !decide (y16.1 = y11.1) then
                  some (false, ())
                else
                  some (true, ())
noncomputable def x12 (x : Int × (List (Int × Unit)) × Unit) : Option (Bool × Unit) := laws_FnExactFirstToken x.1 x.2.1
noncomputable def sem12 : Sem1 := semOf ps12 rs12 x12
theorem so12 : SemsOk Try.prog (semsOf sl12) := sems_cons k26 (sems_cons k28 (sems_cons k56 (sems_cons k33 (sems_cons k57 (sems_cons k30 (sems_cons k58 (sems_cons k59 (sems_cons k60 (sems_nil)))))))))
theorem t12_eq (x : denR (headRT (ps12.map some))) : codeK (tabOf tr) (semsOf sl12) D12 L12 code12 (start 69 ps12 x) (finK rs12 ps12) = x12 x := by kernel_rfl
theorem k12 : Known Try.prog 12 sem12 :=
  fn_auto tr_ok eq_ok mixed_ok so12 (D := D12) (code := code12) (n := 69) Try.func12 (by kernel_rfl) (by kernel_rfl) (by kernel_rfl) (fun w0 mu _ hs => (loops_of (l := []) (by kernel_rfl) (List.forall_mem_nil _))) t12_eq

/-! ### f109: spec.l05Token -/
noncomputable def code109 : Code := match Try.f109.body with | some c => c | none => .skip
def ps109 : List AP := [.box true [.shr (.cons (.int .u8) .nil), .int .i64, .int .i64]]
def rs109 : List RP := [{ src := .cell 2, agg := true, ps := [.int .i64, .int .i64, .int .i64, .int .i64, .int .i64, .own (.cons (.int .i64) .nil)] }]
noncomputable def sl109 : SemL := [(102, (.shr, .shr, .shr, sem102)), (96, (.shr, .shr, .shr, sem96))]
def D109 : Draws := fun _ => .nil
def hp109_0 : List (Option AP) := [some (.box true [.shr (.cons (.int .u8) .nil), .int .i64, .int .i64]), none, some (.box false [.int .i64, .int .i64, .int .i64, .int .i64, .int .i64, .own (.cons (.int .i64) .nil)]), some (.box false [.int .i64, .int .i64, .int .i64, .int .i64, .int .i64, .own (.cons (.int .i64) .nil)]), some (.val false [.int .i64]), none, none, none, none, none, none, none, none, none, none, none, none, none, none, none, none, none, none, none, none, none, none, none, none, none, none, none, none, none, none, none, none, none, none, none, none, none, none, none, none, none, none, none]
def e109_0 : List (Option AP) := [some (.box true [.shr (.cons (.int .u8) .nil), .int .i64, .int .i64]), none, some (.box false [.int .i64, .int .i64, .int .i64, .int .i64, .int .i64, .own (.cons (.int .i64) .nil)]), some (.box false [.int .i64, .int .i64, .int .i64, .int .i64, .int .i64, .own (.cons (.int .i64) .nil)]), none, none, none, none, none, none, none, none, none, none, none, none, none, none, none, none, none, none, none, none, none, none, none, none, none, none, none, none, none, none, none, none, none, none, none, none, none, none, none, none, none, none, none, none]
def q109_0 : List (Option AP) := [none, none, none, none, none, none, none, none, none, none, none, none, none, none, none, none, none, none, none, none, none, none, none, none, none, none, none, none, none, none, none, none, none, none, none, none, none, none, none, none, none, none, none, none, none, none, none, none]
abbrev H109_0 : Type := (List (Int × Unit)) × Int × Int × Int × Int × Int × Int × Int × (List (Int × Unit)) × Int × Int × Int × Int × Int × (List (Int × Unit)) × Int × Unit
abbrev E109_0 : Type := (List (Int × Unit)) × Int × Int × Int × Int × Int × Int × Int × (List (Int × Unit)) × Int × Int × Int × Int × Int × (List (Int × Unit)) × Unit
abbrev Q109_0 : Type := Unit
noncomputable def spec_l05Token_c0 (c0c0 : List (Int × Unit)) (c0c1 : Int) (c0c2 : Int) (t2c0 : Int) (t2c1 : Int) (t2c2 : Int) (t2c3 : Int) (t2c4 : Int) (t2c5 : List (Int × Unit)) (t3c0 : Int) (t3c1 : Int) (t3c2 : Int) (t3c3 : Int) (t3c4 : Int) (t3c5 : List (Int × Unit)) (i4 : Int) : Option (Sum H109_0 (Sum E109_0 Q109_0)) :=
  bif decide (i4 ≤ t3c2) then
    Option.bind (spec_l01Once c0c0 c0c1 c0c2 (5 : Int)) fun y6 =>
    bif y6.1 then
      bif Nat.ble (((List.length t3c5) + 1) * 8) lim then some (.inl (y6.2.1, y6.2.2.1, y6.2.2.2.1, t2c0, t2c1, t2c2, t2c3, t2c4, t2c5, t3c0, t3c1, t3c2, t3c3, t3c4, t3c5 ++ [(i4, ())], IntKind.i64.wrap (i4 + (1 : Int)), ()))
      else none
    else
      some (.inl (y6.2.1, y6.2.2.1, y6.2.2.2.1, t2c0, t2c1, t2c2, t2c3, t2c4, t2c5, t3c0, t3c1, t3c2, t3c3, t3c4, t3c5, IntKind.i64.wrap (i4 + (1 : Int)), ()))
  else
    some (.inr (.inl (c0c0, c0c1, c0c2, t2c0, t2c1, t2c2, t2c3, t2c4, t2c5, t3c0, t3c1, t3c2, t3c3, t3c4, t3c5, ())))
noncomputable def spec_l05Token_r0 (x : H109_0) : Option (Sum H109_0 (Sum E109_0 Q109_0)) := spec_l05Token_c0 x.1 x.2.1 x.2.2.1 x.2.2.2.1 x.2.2.2.2.1 x.2.2.2.2.2.1 x.2.2.2.2.2.2.1 x.2.2.2.2.2.2.2.1 x.2.2.2.2.2.2.2.2.1 x.2.2.2.2.2.2.2.2.2.1 x.2.2.2.2.2.2.2.2.2.2.1 x.2.2.2.2.2.2.2.2.2.2.2.1 x.2.2.2.2.2.2.2.2.2.2.2.2.1 x.2.2.2.2.2.2.2.2.2.2.2.2.2.1 x.2.2.2.2.2.2.2.2.2.2.2.2.2.2.1 x.2.2.2.2.2.2.2.2.2.2.2.2.2.2.2.1
noncomputable def L109 {R : Type} : Loops R := fun id _ st k => bif Nat.beq id 0 then loopAt hp109_0 e109_0 q109_0 spec_l05Token_r0 st k else none
noncomputable def spec_l05Token (c0c0 : List (Int × Unit)) (c0c1 : Int) (c0c2 : Int) : Option (Int × Int × Int × Int × Int × (List (Int × Unit)) × (List (Int × Unit)) × Int × Int × Unit) :=
  Option.bind (spec_l01Below c0c0 c0c1 c0c2 (3 : Int)) fun y1 =>
  Option.bind (spec_l01Below y1.2.1 y1.2.2.1 y1.2.2.2.1 (9 : Int)) fun y2 =>
  Option.bind (spec_l01Below y2.2.1 y2.2.2.1 y2.2.2.2.1 (12 : Int)) fun y3 =>
  Option.bind (spec_l01Below y3.2.1 y3.2.2.1 y3.2.2.2.1 (IntKind.i64.wrap (y3.1 + (1 : Int)))) fun y4 =>
  bif decide (y4.1 < y3.1) then
    Option.bind (spec_l01Below y4.2.1 y4.2.2.1 y4.2.2.2.1 (3 : Int)) fun y5 =>
    outK (loopV spec_l05Token_r0 (y5.2.1, y5.2.2.1, y5.2.2.2.1, (0 : Int), (0 : Int), (0 : Int), (0 : Int), (0 : Int), [], IntKind.i64.wrap ((1 : Int) + y1.1), IntKind.i64.wrap ((1 : Int) + y2.1), y3.1, y4.1, IntKind.i64.wrap ((1 : Int) + y5.1), [], (1 : Int), ())) (fun y6 =>
      some (y6.2.2.2.2.2.2.2.2.2.1, y6.2.2.2.2.2.2.2.2.2.2.1, y6.2.2.2.2.2.2.2.2.2.2.2.1, y6.2.2.2.2.2.2.2.2.2.2.2.2.1, y6.2.2.2.2.2.2.2.2.2.2.2.2.2.1, y6.2.2.2.2.2.2.2.2.2.2.2.2.2.2.1, y6.1, y6.2.1, y6.2.2.1, ())) (fun y7 =>
      none)
  else
    Option.bind (spec_l01Once y4.2.1 y4.2.2.1 y4.2.2.2.1 (6 : Int)) fun y8 =>
    bif y8.1 then
      Option.bind (spec_l01Below y8.2.1 y8.2.2.1 y8.2.2.2.1 (3 : Int)) fun y9 =>
      outK (loopV spec_l05Token_r0 (y9.2.1, y9.2.2.1, y9.2.2.2.1, (0 : Int), (0 : Int), (0 : Int), (0 : Int), (0 : Int), [], IntKind.i64.wrap ((1 : Int) + y1.1), IntKind.i64.wrap ((1 : Int) + y2.1), y3.1, y4.1, IntKind.i64.wrap ((1 : Int) + y9.1), [], (1 : Int), ())) (fun y10 =>
        some (y10.2.2.2.2.2.2.2.2.2.1, y10.2.2.2.2.2.2.2.2.2.2.1, y10.2.2.2.2.2.2.2.2.2.2.2.1, y10.2.2.2.2.2.2.2.2.2.2.2.2.1, y10.2.2.2.2.2.2.2.2.2.2.2.2.2.1, y10.2.2.2.2.2.2.2.2.2.2.2.2.2.2.1, y10.1, y10.2.1, y10.2.2.1, ())) (fun y11 =>
        none)
    else
      outK (loopV spec_l05Token_r0 (y8.2.1, y8.2.2.1, y8.2.2.2.1, (0 : Int), (0 : Int), (0 : Int), (0 : Int), (0 : Int), [], IntKind.i64.wrap ((1 : Int) + y1.1), IntKind.i64.wrap ((1 : Int) + y2.1), y3.1, y4.1, (0 : Int), [], (1 : Int), ())) (fun y12 =>
        some (y12.2.2.2.2.2.2.2.2.2.1, y12.2.2.2.2.2.2.2.2.2.2.1, y12.2.2.2.2.2.2.2.2.2.2.2.1, y12.2.2.2.2.2.2.2.2.2.2.2.2.1, y12.2.2.2.2.2.2.2.2.2.2.2.2.2.1, y12.2.2.2.2.2.2.2.2.2.2.2.2.2.2.1, y12.1, y12.2.1, y12.2.2.1, ())) (fun y13 =>
        none)
noncomputable def x109 (x : (List (Int × Unit)) × Int × Int × Unit) : Option (Int × Int × Int × Int × Int × (List (Int × Unit)) × (List (Int × Unit)) × Int × Int × Unit) := spec_l05Token x.1 x.2.1 x.2.2.1
noncomputable def sem109 : Sem1 := semOf ps109 rs109 x109
theorem so109 : SemsOk Try.prog (semsOf sl109) := sems_cons k102 (sems_cons k96 (sems_nil))
noncomputable def b109_0 : Code := nthLoop code109 0
theorem t109_r0_eq (x : denR (headRT hp109_0)) : codeK (tabOf tr) (semsOf sl109) D109 L109 b109_0 (headSt hp109_0 x) (roundK 0 hp109_0 e109_0 q109_0) = spec_l05Token_r0 x := by kernel_rfl
theorem loop109_0 {R : Type} (r : R) (w0 : World) (mu : Mu) (hs : AnShape ps109 mu) : LoopAt Try.prog w0 mu 48 (L109 : Loops R) r 0 b109_0 :=
  loop_auto tr_ok eq_ok mixed_ok so109 (D := D109) hs (by kernel_rfl) (fun _ => (loops_of (l := []) (by kernel_rfl) (List.forall_mem_nil _))) t109_r0_eq (fun _ _ => rfl)
theorem t109_eq (x : denR (headRT (ps109.map some))) : codeK (tabOf tr) (semsOf sl109) D109 L109 code109 (start 48 ps109 x) (finK rs109 ps109) = x109 x := by kernel_rfl
theorem k109 : Known Try.prog 109 sem109 :=
  fn_auto tr_ok eq_ok mixed_ok so109 (D := D109) (code := code109) (n := 48) Try.func109 (by kernel_rfl) (by kernel_rfl) (by kernel_rfl) (fun w0 mu _ hs => (loops_of (l := [(0, b109_0)]) (by kernel_rfl) (List.forall_mem_cons.2 ⟨loop109_0 _ w0 mu hs, (List.forall_mem_nil _)⟩))) t109_eq

/-! ### f110: spec.l01PickInt -/
noncomputable def code110 : Code := match Try.f110.body with | some c => c | none => .skip
def ps110 : List AP := [.box true [.shr (.cons (.int .u8) .nil), .int .i64, .int .i64], .val false [.shr (.cons (.int .i64) .nil)]]
def rs110 : List RP := [{ src := .tmp 4, agg := false, ps := [.int .i64] }]
noncomputable def sl110 : SemL := [(102, (.shr, .shr, .shr, sem102))]
def D110 : Draws := fun _ => .nil
noncomputable def L110 {R : Type} : Loops R := fun _ _ _ _ => none
noncomputable def spec_l01PickInt (c0c0 : List (Int × Unit)) (c0c1 : Int) (c0c2 : Int) (list1 : List (Int × Unit)) : Option (Int × (List (Int × Unit)) × Int × Int × Unit) :=
  Option.bind (spec_l01Below c0c0 c0c1 c0c2 ((List.length list1 : Nat) : Int)) fun y1 =>
  bif decide ((0 : Int) ≤ y1.1) then Option.bind ((list1)[Int.toNat y1.1]?) fun r2 =>
    some (r2.1, y1.2.1, y1.2.2.1, y1.2.2.2.1, ())
  else none
noncomputable def x110 (x : (List (Int × Unit)) × Int × Int × (List (Int × Unit)) × Unit) : Option (Int × (List (Int × Unit)) × Int × Int × Unit) := spec_l01PickInt x.1 x.2.1 x.2.2.1 x.2.2.2.1
noncomputable def sem110 : Sem1 := semOf ps110 rs110 x110
theorem so110 : SemsOk Try.prog (semsOf sl110) := sems_cons k102 (sems_nil)
theorem t110_eq (x : denR (headRT (ps110.map some))) : codeK (tabOf tr) (semsOf sl110) D110 L110 code110 (start 12 ps110 x) (finK rs110 ps110) = x110 x := by kernel_rfl
theorem k110 : Known Try.prog 110 sem110 :=
  fn_auto tr_ok eq_ok mixed_ok so110 (D := D110) (code := code110) (n := 12) Try.func110 (by kernel_rfl) (by kernel_rfl) (by kernel_rfl) (fun w0 mu _ hs => (loops_of (l := []) (by kernel_rfl) (List.forall_mem_nil _))) t110_eq

/-! ### f94: spec.l05AnyToken -/
noncomputable def code94 : Code := match Try.f94.body with | some c => c | none => .skip
def ps94 : List AP := [.box true [.shr (.cons (.int .u8) .nil), .int .i64, .int .i64]]
def rs94 : List RP := [{ src := .cell 2, agg := true, ps := [.int .i64, .int .i64, .int .i64, .int .i64, .int .i64, .own (.cons (.int .i64) .nil)] }]
noncomputable def sl94 : SemL := [(109, (.shr, .shr, .shr, sem109)), (102, (.shr, .shr, .shr, sem102)), (110, (.shr, .shr, .shr, sem110))]
def D94 : Draws := fun id => bif Nat.beq id 14 then .op 0 .any (.op 2 .any (.op 3 .any (.op 4 .take (.op 5 .any (.op 6 .take (.op 7 .any (.alt (.op 1 .one (.op 8 .one (.op 9 .last (.op 10 .one (.op 11 .last (.op 12 .any (.op 13 .last (.nil)))))))) (.op 8 .one (.alt (.op 1 .one (.op 9 .last (.op 10 .one (.op 11 .last (.op 12 .any (.op 13 .last (.nil))))))) (.op 9 .last (.op 1 .take (.op 10 .one (.op 11 .last (.op 12 .any (.op 13 .last (.nil)))))))))))))))) else .nil
noncomputable def L94 {R : Type} : Loops R := fun _ _ _ _ => none
noncomputable def spec_l05AnyToken (c0c0 : List (Int × Unit)) (c0c1 : Int) (c0c2 : Int) : Option (Int × Int × Int × Int × Int × (List (Int × Unit)) × (List (Int × Unit)) × Int × Int × Unit) :=
  Option.bind (spec_l05Token c0c0 c0c1 c0c2) fun y1 =>
  Option.bind (spec_l01Below y1.2.2.2.2.2.2.1 y1.2.2.2.2.2.2.2.1 y1.2.2.2.2.2.2.2.2.1 (24 : Int)) fun y2 =>
  bif decide (y2.1 = (0 : Int)) then
    Option.bind (spec_l01PickInt y2.2.1 y2.2.2.1 y2.2.2.2.1 [((0 : Int), ()), ((9 : Int), ()), ((10 : Int), ())]) fun y3 =>
    some (y3.1, y1.2.1, y1.2.2.1, y1.2.2.2.1, y1.2.2.2.2.1, y1.2.2.2.2.2.1, y3.2.1, y3.2.2.1, y3.2.2.2.1, ())
  else bif decide (y2.1 = (1 : Int)) then
    Option.bind (spec_l01PickInt y2.2.1 y2.2.2.1 y2.2.2.2.1 [((0 : Int), ()), ((-1 : Int), ()), ((1000000000 : Int), ()), ((1000000001 : Int), ())]) fun y4 =>
    some (y1.1, y4.1, y1.2.2.1, y1.2.2.2.1, y1.2.2.2.2.1, y1.2.2.2.2.2.1, y4.2.1, y4.2.2.1, y4.2.2.2.1, ())
  else bif decide (y2.1 = (2 : Int)) then
    Option.bind (spec_l01PickInt y2.2.1 y2.2.2.1 y2.2.2.2.1 [((-1 : Int), ()), ((60 : Int), ()), ((61 : Int), ())]) fun y5 =>
    some (y1.1, y1.2.1, y5.1, y1.2.2.2.1, y1.2.2.2.2.1, y1.2.2.2.2.2.1, y5.2.1, y5.2.2.1, y5.2.2.2.1, ())
  else bif decide (y2.1 = (3 : Int)) then
    Option.bind (spec_l01PickInt y2.2.1 y2.2.2.1 y2.2.2.2.1 [((-1 : Int), ()), (y1.2.2.1, ()), (IntKind.i64.wrap (y1.2.2.1 + (1 : Int)), ())]) fun y6 =>
    some (y1.1, y1.2.1, y1.2.2.1, y6.1, y1.2.2.2.2.1, y1.2.2.2.2.2.1, y6.2.1, y6.2.2.1, y6.2.2.2.1, ())
  else bif decide (y2.1 = (4 : Int)) then
    Option.bind (spec_l01PickInt y2.2.1 y2.2.2.1 y2.2.2.2.1 [((-1 : Int), ()), ((5 : Int), ()), ((6 : Int), ())]) fun y7 =>
    some (y1.1, y1.2.1, y1.2.2.1, y1.2.2.2.1, y7.1, y1.2.2.2.2.2.1, y7.2.1, y7.2.2.1, y7.2.2.2.1, ())
  else bif decide (y2.1 = (5 : Int)) then
    Option.bind (spec_l01PickInt y2.2.1 y2.2.2.1 y2.2.2.2.1 [((0 : Int), ()), ((1 : Int), ()), (y1.2.2.1, ()), (IntKind.i64.wrap (y1.2.2.1 + (1 : Int)), ())]) fun y8 =>
    bif Nat.ble (((List.length y1.2.2.2.2.2.1) + 1) * 8) lim then some (y1.1, y1.2.1, y1.2.2.1, y1.2.2.2.1, y1.2.2.2.2.1, y1.2.2.2.2.2.1 ++ [(y8.1, ())], y8.2.1, y8.2.2.1, y8.2.2.2.1, ())
    else none
  else
    some (y1.1, y1.2.1, y1.2.2.1, y1.2.2.2.1, y1.2.2.2.2.1, y1.2.2.2.2.2.1, y2.2.1, y2.2.2.1, y2.2.2.2.1, ())
noncomputable def spec_l05AnyToken_o (c0c0 : List (Int × Unit)) (c0c1 : Int) (c0c2 : Int) : Option (Int × Int × Int × Int × Int × (List (Int × Unit)) × (List (Int × Unit)) × Int × Int × Unit) :=
  Option.bind (spec_l05Token c0c0 c0c1 c0c2) fun y1 =>
  Option.bind (spec_l01Below y1.2.2.2.2.2.2.1 y1.2.2.2.2.2.2.2.1 y1.2.2.2.2.2.2.2.2.1 (24 : Int)) fun y2 =>
  bif decide (y2.1 = (0 : Int)) then
    Option.bind (spec_l01PickInt y2.2.1 y2.2.2.1 y2.2.2.2.1 [((0 : Int), ()), ((9 : Int), ()), ((10 : Int), ())]) fun y3 =>
    some (y3.1, y1.2.1, y1.2.2.1, y1.2.2.2.1, y1.2.2.2.2.1, y1.2.2.2.2.2.1, y3.2.1, y3.2.2.1, y3.2.2.2.1, ())
  else bif decide (y2.1 = (1 : Int)) then
    Option.bind (spec_l01PickInt y2.2.1 y2.2.2.1 y2.2.2.2.1 [((0 : Int), ()), ((-1 : Int), ()), ((1000000000 : Int), ()), ((1000000001 : Int), ())]) fun y4 =>
    some (y1.1, y4.1, y1.2.2.1, y1.2.2.2.1, y1.2.2.2.2.1, y1.2.2.2.2.2.1, y4.2.1, y4.2.2.1, y4.2.2.2.1, ())
  else bif decide (y2.1 = (2 : Int)) then
    Option.bind (spec_l01PickInt y2.2.1 y2.2.2.1 y2.2.2.2.1 [((-1 : Int), ()), ((60 : Int), ()), ((61 : Int), ())]) fun y5 =>
    some (y1.1, y1.2.1, y5.1, y1.2.2.2.1, y1.2.2.2.2.1, y1.2.2.2.2.2.1, y5.2.1, y5.2.2.1, y5.2.2.2.1, ())
  else bif decide (y2.1 = (3 : Int)) then
    Option.bind (spec_l01PickInt y2.2.1 y2.2.2.1 y2.2.2.2.1 [((-1 : Int), ()), (y1.2.2.1, ()), (IntKind.i64.wrap (y1.2.2.1 + (1 : Int)), ())]) fun y6 =>
    some (y1.1, y1.2.1, y1.2.2.1, y6.1, y1.2.2.2.2.1, y1.2.2.2.2.2.1, y6.2.1, y6.2.2.1, y6.2.2.2.1, ())
  else bif decide (y2.1 = (4 : Int)) then
    Option.bind (spec_l01PickInt y2.2.1 y2.2.2.1 y2.2.2.2.1 [((-1 : Int), ()), ((5 : Int), ()), ((6 : Int), ())]) fun y7 =>
    some (y1.1, y1.2.1, y1.2.2.1, y1.2.2.2.1, y7.1, y1.2.2.2.2.2.1, y7.2.1, y7.2.2.1, y7.2.2.2.1, ())
  else bif decide (y2.1 = (5 : Int)) then
    both (Option.bind (spec_l01PickInt y2.2.1 y2.2.2.1 y2.2.2.2.1 [((0 : Int), ()), ((1 : Int), ()), (y1.2.2.1, ()), (IntKind.i64.wrap (y1.2.2.1 + (1 : Int)), ())]) fun y8 =>
      bif Nat.ble (((List.length y1.2.2.2.2.2.1) + 1) * 8) lim then some (y1.1, y1.2.1, y1.2.2.1, y1.2.2.2.1, y1.2.2.2.2.1, y1.2.2.2.2.2.1 ++ [(y8.1, ())], y8.2.1, y8.2.2.1, y8.2.2.2.1, ())
      else none) (both (Option.bind (spec_l01PickInt y2.2.1 y2.2.2.1 y2.2.2.2.1 [((0 : Int), ()), ((1 : Int), ()), (y1.2.2.1, ()), (IntKind.i64.wrap (y1.2.2.1 + (1 : Int)), ())]) fun y8 =>
        bif Nat.ble (((List.length y1.2.2.2.2.2.1) + 1) * 8) lim then some (y1.1, y1.2.1, y1.2.2.1, y1.2.2.2.1, y1.2.2.2.2.1, y1.2.2.2.2.2.1 ++ [(y8.1, ())], y8.2.1, y8.2.2.1, y8.2.2.2.1, ())
        else none) (Option.bind (spec_l01PickInt y2.2.1 y2.2.2.1 y2.2.2.2.1 [((0 : Int), ()), ((1 : Int), ()), (y1.2.2.1, ()), (IntKind.i64.wrap (y1.2.2.1 + (1 : Int)), ())]) fun y8 =>
        bif Nat.ble (((List.length y1.2.2.2.2.2.1) + 1) * 8) lim then some (y1.1, y1.2.1, y1.2.2.1, y1.2.2.2.1, y1.2.2.2.2.1, y1.2.2.2.2.2.1 ++ [(y8.1, ())], y8.2.1, y8.2.2.1, y8.2.2.2.1, ())
        else none))
  else
    some (y1.1, y1.2.1, y1.2.2.1, y1.2.2.2.1, y1.2.2.2.2.1, y1.2.2.2.2.2.1, y2.2.1, y2.2.2.1, y2.2.2.2.1, ())
theorem spec_l05AnyToken_o_eq (c0c0 : List (Int × Unit)) (c0c1 : Int) (c0c2 : Int) : spec_l05AnyToken_o c0c0 c0c1 c0c2 = spec_l05AnyToken c0c0 c0c1 c0c2 := by
  simp only [spec_l05AnyToken_o, spec_l05AnyToken, both_self]
noncomputable def x94 (x : (List (Int × Unit)) × Int × Int × Unit) : Option (Int × Int × Int × Int × Int × (List (Int × Unit)) × (List (Int × Unit)) × Int × Int × Unit) := spec_l05AnyToken x.1 x.2.1 x.2.2.1
noncomputable def sem94 : Sem1 := semOf ps94 rs94 x94
theorem so94 : SemsOk Try.prog (semsOf sl94) := sems_cons k109 (sems_cons k102 (sems_cons k110 (sems_nil)))
theorem t94_eq (x : denR (headRT (ps94.map some))) : codeK (tabOf tr) (semsOf sl94) D94 L94 code94 (start 59 ps94 x) (finK rs94 ps94) = x94 x := (show _ = spec_l05AnyToken_o x.1 x.2.1 x.2.2.1 from by kernel_rfl).trans (spec_l05AnyToken_o_eq x.1 x.2.1 x.2.2.1)
theorem k94 : Known Try.prog 94 sem94 :=
  fn_auto tr_ok eq_ok mixed_ok so94 (D := D94) (code := code94) (n := 59) Try.func94 (by kernel_rfl) (by kernel_rfl) (by kernel_rfl) (fun w0 mu _ hs => (loops_of (l := []) (by kernel_rfl) (List.forall_mem_nil _))) t94_eq

/-! ### f95: spec.l01Place -/
noncomputable def code95 : Code := match Try.f95.body with | some c => c | none => .skip
def ps95 : List AP := [.box true [.shr (.cons (.int .u8) .nil), .int .i64, .int .i64], .val false [.int .i64]]
def rs95 : List RP := [{ src := .tmp 4, agg := false, ps := [.int .i64] }]
noncomputable def sl95 : SemL := [(96, (.shr, .shr, .shr, sem96)), (110, (.shr, .shr, .shr, sem110)), (102, (.shr, .shr, .shr, sem102))]
def D95 : Draws := fun _ => .nil
noncomputable def L95 {R : Type} : Loops R := fun _ _ _ _ => none
noncomputable def spec_l01Place (c0c0 : List (Int × Unit)) (c0c1 : Int) (c0c2 : Int) (n1 : Int) : Option (Int × (List (Int × Unit)) × Int × Int × Unit) :=
  Option.bind (spec_l01Once c0c0 c0c1 c0c2 (15 : Int)) fun y1 =>
  bif y1.1 then
    Option.bind (spec_l01PickInt y1.2.1 y1.2.2.1 y1.2.2.2.1 [((-1 : Int), ()), (n1, ()), (IntKind.i64.wrap (n1 + (1 : Int)), ()), ((9223372036854775807 : Int), ()), ((-9223372036854775808 : Int), ())]) fun y2 =>
    some (y2.1, y2.2.1, y2.2.2.1, y2.2.2.2.1, ())
  else
    Option.bind (spec_l01Below y1.2.1 y1.2.2.1 y1.2.2.2.1 n1) fun y3 =>
    some (y3.1, y3.2.1, y3.2.2.1, y3.2.2.2.1, ())
noncomputable def x95 (x : (List (Int × Unit)) × Int × Int × Int × Unit) : Option (Int × (List (Int × Unit)) × Int × Int × Unit) := spec_l01Place x.1 x.2.1 x.2.2.1 x.2.2.2.1
noncomputable def sem95 : Sem1 := semOf ps95 rs95 x95
theorem so95 : SemsOk Try.prog (semsOf sl95) := sems_cons k96 (sems_cons k110 (sems_cons k102 (sems_nil)))
theorem t95_eq (x : denR (headRT (ps95.map some))) : codeK (tabOf tr) (semsOf sl95) D95 L95 code95 (start 16 ps95 x) (finK rs95 ps95) = x95 x := by kernel_rfl
theorem k95 : Known Try.prog 95 sem95 :=
  fn_auto tr_ok eq_ok mixed_ok so95 (D := D95) (code := code95) (n := 16) Try.func95 (by kernel_rfl) (by kernel_rfl) (by kernel_rfl) (fun w0 mu _ hs => (loops_of (l := []) (by kernel_rfl) (List.forall_mem_nil _))) t95_eq

/-! ### f61: spec.DrawMark -/
noncomputable def code61 : Code := match Try.f61.body with | some c => c | none => .skip
def ps61 : List AP := [.val false [.shr (.cons (.int .u8) .nil)]]
def rs61 : List RP := [{ src := .cell 2, agg := true, ps := [.int .i64, .int .i64, .int .i64, .int .i64, .int .i64, .own (.cons (.int .i64) .nil)] }, { src := .tmp 3, agg := false, ps := [.int .i64] }, { src := .tmp 4, agg := false, ps := [.int .i64] }]
noncomputable def sl61 : SemL := [(82, (.shr, .shr, .shr, sem82)), (94, (.shr, .shr, .shr, sem94)), (95, (.shr, .shr, .shr, sem95)), (96, (.shr, .shr, .shr, sem96))]
def D61 : Draws := fun id => bif Nat.beq id 6 then .op 1 .any (.op 2 .any (.alt (.op 0 .one (.op 3 .last (.op 4 .last (.op 5 .any (.op 6 .any (.nil)))))) (.op 3 .last (.op 0 .take (.op 4 .last (.op 5 .any (.op 6 .any (.nil)))))))) else .nil
noncomputable def L61 {R : Type} : Loops R := fun _ _ _ _ => none
noncomputable def spec_DrawMark (code0 : List (Int × Unit)) : Option (Int × Int × Int × Int × Int × (List (Int × Unit)) × Int × Int × Unit) :=
  Option.bind (spec_l01New code0) fun y1 =>
  Option.bind (spec_l05AnyToken y1.1 y1.2.1 y1.2.2.1) fun y2 =>
  Option.bind (spec_l01Place y2.2.2.2.2.2.2.1 y2.2.2.2.2.2.2.2.1 y2.2.2.2.2.2.2.2.2.1 (6 : Int)) fun y3 =>
  Option.bind (spec_l01Once y3.2.1 y3.2.2.1 y3.2.2.2.1 (3 : Int)) fun y4 =>
  bif y4.1 then
    Option.bind (spec_l01Place y4.2.1 y4.2.2.1 y4.2.2.2.1 (14 : Int)) fun y5 =>
    some (y2.1, y2.2.1, y2.2.2.1, y2.2.2.2.1, y2.2.2.2.2.1, y2.2.2.2.2.2.1, y2.2.2.2.2.1, y5.1, ())
  else
    Option.bind (spec_l01Place y4.2.1 y4.2.2.1 y4.2.2.2.1 (14 : Int)) fun y6 =>
    some (y2.1, y2.2.1, y2.2.2.1, y2.2.2.2.1, y2.2.2.2.2.1, y2.2.2.2.2.2.1, y3.1, y6.1, ())
noncomputable def spec_DrawMark_o (code0 : List (Int × Unit)) : Option (Int × Int × Int × Int × Int × (List (Int × Unit)) × Int × Int × Unit) :=
  Option.bind (spec_l01New code0) fun y1 =>
  Option.bind (spec_l05AnyToken y1.1 y1.2.1 y1.2.2.1) fun y2 =>
  Option.bind (spec_l01Place y2.2.2.2.2.2.2.1 y2.2.2.2.2.2.2.2.1 y2.2.2.2.2.2.2.2.2.1 (6 : Int)) fun y3 =>
  Option.bind (spec_l01Once y3.2.1 y3.2.2.1 y3.2.2.2.1 (3 : Int)) fun y4 =>
  bif y4.1 then
    both (Option.bind (spec_l01Place y4.2.1 y4.2.2.1 y4.2.2.2.1 (14 : Int)) fun y5 =>
      some (y2.1, y2.2.1, y2.2.2.1, y2.2.2.2.1, y2.2.2.2.2.1, y2.2.2.2.2.2.1, y2.2.2.2.2.1, y5.1, ())) (Option.bind (spec_l01Place y4.2.1 y4.2.2.1 y4.2.2.2.1 (14 : Int)) fun y5 =>
      some (y2.1, y2.2.1, y2.2.2.1, y2.2.2.2.1, y2.2.2.2.2.1, y2.2.2.2.2.2.1, y2.2.2.2.2.1, y5.1, ()))
  else
    both (Option.bind (spec_l01Place y4.2.1 y4.2.2.1 y4.2.2.2.1 (14 : Int)) fun y6 =>
      some (y2.1, y2.2.1, y2.2.2.1, y2.2.2.2.1, y2.2.2.2.2.1, y2.2.2.2.2.2.1, y3.1, y6.1, ())) (Option.bind (spec_l01Place y4.2.1 y4.2.2.1 y4.2.2.2.1 (14 : Int)) fun y6 =>
      some (y2.1, y2.2.1, y2.2.2.1, y2.2.2.2.1, y2.2.2.2.2.1, y2.2.2.2.2.2.1, y3.1, y6.1, ()))
theorem spec_DrawMark_o_eq (code0 : List (Int × Unit)) : spec_DrawMark_o code0 = spec_DrawMark code0 := by
  simp only [spec_DrawMark_o, spec_DrawMark, both_self]
noncomputable def x61 (x : (List (Int × Unit)) × Unit) : Option (Int × Int × Int × Int × Int × (List (Int × Unit)) × Int × Int × Unit) := spec_DrawMark x.1
noncomputable def sem61 : Sem1 := semOf ps61 rs61 x61
theorem so61 : SemsOk Try.prog (semsOf sl61) := sems_cons k82 (sems_cons k94 (sems_cons k95 (sems_cons k96 (sems_nil))))
theorem t61_eq (x : denR (headRT (ps61.map some))) : codeK (tabOf tr) (semsOf sl61) D61 L61 code61 (start 22 ps61 x) (finK rs61 ps61) = x61 x := (show _ = spec_DrawMark_o x.1 from by kernel_rfl).trans (spec_DrawMark_o_eq x.1)
theorem k61 : Known Try.prog 61 sem61 :=
  fn_auto tr_ok eq_ok mixed_ok so61 (D := D61) (code := code61) (n := 22) Try.func61 (by kernel_rfl) (by kernel_rfl) (by kernel_rfl) (fun w0 mu _ hs => (loops_of (l := []) (by kernel_rfl) (List.forall_mem_nil _))) t61_eq

/-! ### f111: slices.Clone[[]int,int] -/
noncomputable def code111 : Code := match Try.f111.body with | some c => c | none => .skip
def ps111 : List AP := [.val false [.shr (.cons (.int .i64) .nil)]]
def rs111 : List RP := [{ src := .tmp 2, agg := false, ps := [.own (.cons (.int .i64) .nil)] }]
noncomputable def sl111 : SemL := []
def D111 : Draws := fun _ => .nil
noncomputable def L111 {R : Type} : Loops R := fun _ _ _ _ => none
noncomputable def slices_Clone_int (s0 : List (Int × Unit)) : Option ((List (Int × Unit)) × Unit) :=
  bif Nat.ble ((0 + (List.length s0)) * 8) lim then some ([] ++ s0, ())
  else none
noncomputable def x111 (x : (List (Int × Unit)) × Unit) : Option ((List (Int × Unit)) × Unit) := slices_Clone_int x.1
noncomputable def sem111 : Sem1 := semOf ps111 rs111 x111
theorem so111 : SemsOk Try.prog (semsOf sl111) := sems_nil
theorem t111_nn (x : denR (headRT (ps111.map some))) : codeK (tabOf tr) (semsOf sl111) D111 L111 code111 (startNn 8 ((.cons (.int .i64) .nil)) x.1 ps111 x) (finK rs111 ps111) = x111 x := by kernel_rfl
theorem t111_nil (z : Unit) : codeK (tabOf tr) (semsOf sl111) D111 L111 code111 (startNil 8 ps111 (([] : List (denR ((.cons (.int .i64) .nil)))), z)) (finK rs111 ps111) = x111 (([] : List (denR ((.cons (.int .i64) .nil)))), z) := by kernel_rfl
theorem k111 : Known Try.prog 111 sem111 :=
  fn_auto_nil tr_ok eq_ok mixed_ok so111 (D := D111) (code := code111) (n := 8) Try.func111 (by kernel_rfl) (by kernel_rfl) (by kernel_rfl) (fun w0 mu _ hs => (loops_of (l := []) (by kernel_rfl) (List.forall_mem_nil _))) t111_nil t111_nn

/-! ### f97: impl.copyToken -/
noncomputable def code97 : Code := match Try.f97.body with | some c => c | none => .skip
def ps97 : List AP := [.val true [.int .i64, .int .i64, .int .i64, .int .i64, .int .i64, .shr (.cons (.int .i64) .nil)]]
def rs97 : List RP := [{ src := .cell 2, agg := true, ps := [.int .i64, .int .i64, .int .i64, .int .i64, .int .i64, .own (.cons (.int .i64) .nil)] }]
noncomputable def sl97 : SemL := [(111, (.shr, .shr, .shr, sem111))]
def D97 : Draws := fun _ => .nil
noncomputable def L97 {R : Type} : Loops R := fun _ _ _ _ => none
noncomputable def impl_copyToken (t0c0 : Int) (t0c1 : Int) (t0c2 : Int) (t0c3 : Int) (t0c4 : Int) (t0c5 : List (Int × Unit)) : Option (Int × Int × Int × Int × Int × (List (Int × Unit)) × Unit) :=
  Option.bind (slices_Clone_int t0c5) fun y1 =>
  some (t0c0, t0c1, t0c2, t0c3, t0c4, y1.1, ())
noncomputable def x97 (x : Int × Int × Int × Int × Int × (List (Int × Unit)) × Unit) : Option (Int × Int × Int × Int × Int × (List (Int × Unit)) × Unit) := impl_copyToken x.1 x.2.1 x.2.2.1 x.2.2.2.1 x.2.2.2.2.1 x.2.2.2.2.2.1
noncomputable def sem97 : Sem1 := semOf ps97 rs97 x97
theorem so97 : SemsOk Try.prog (semsOf sl97) := sems_cons k111 (sems_nil)
theorem t97_eq (x : denR (headRT (ps97.map some))) : codeK (tabOf tr) (semsOf sl97) D97 L97 code97 (start 8 ps97 x) (finK rs97 ps97) = x97 x := by kernel_rfl
theorem k97 : Known Try.prog 97 sem97 :=
  fn_auto tr_ok eq_ok mixed_ok so97 (D := D97) (code := code97) (n := 8) Try.func97 (by kernel_rfl) (by kernel_rfl) (by kernel_rfl) (fun w0 mu _ hs => (loops_of (l := []) (by kernel_rfl) (List.forall_mem_nil _))) t97_eq

/-! ### f62: impl.Mark -/
noncomputable def code62 : Code := match Try.f62.body with | some c => c | none => .skip
def ps62 : List AP := [.val true [.int .i64, .int .i64, .int .i64, .int .i64, .int .i64, .shr (.cons (.int .i64) .nil)], .val false [.int .i64], .val false [.int .i64]]
def rs62 : List RP := [{ src := .cell 6, agg := true, ps := [.int .i64, .int .i64, .int .i64, .int .i64, .int .i64, .own (.cons (.int .i64) .nil)] }]
noncomputable def sl62 : SemL := [(97, (.shr, .shr, .shr, sem97)), (69, (.shr, .shr, .shr, sem69)), (36, (.shr, .shr, .shr, sem36))]
def D62 : Draws := fun _ => .nil
noncomputable def L62 {R : Type} : Loops R := fun _ _ _ _ => none
noncomputable def impl_Mark (t0c0 : Int) (t0c1 : Int) (t0c2 : Int) (t0c3 : Int) (t0c4 : Int) (t0c5 : List (Int × Unit)) (d1 : Int) (aru2 : Int) : Option (Int × Int × Int × Int × Int × (List (Int × Unit)) × Unit) :=
  Option.bind (impl_copyToken t0c0 t0c1 t0c2 t0c3 t0c4 t0c5) fun y1 =>
  Option.bind (impl_isDaemon d1) fun y2 =>
  bif !y2.1 then
    some (y1.1, y1.2.1, y1.2.2.1, y1.2.2.2.1, y1.2.2.2.2.1, y1.2.2.2.2.2.1, ())
  else bif decide (aru2 < (0 : Int)) then
    some (y1.1, y1.2.1, y1.2.2.1, y1.2.2.2.1, y1.2.2.2.2.1, y1.2.2.2.2.2.1, ())
  else
    Option.bind (impl_TokenOk t0c0 t0c1 t0c2 t0c3 t0c4 t0c5) fun y3 =>
    bif !y3.1 then
      some (y1.1, y1.2.1, y1.2.2.1, y1.2.2.2.1, y1.2.2.2.2.1, y1.2.2.2.2.2.1, ())
    else bif decide (aru2 < t0c3) then
      some (y1.1, y1.2.1, y1.2.2.1, aru2, d1, y1.2.2.2.2.2.1, ())
    else bif decide (t0c4 = d1) then
      bif decide ((if t0c2 < aru2 then t0c2 else aru2) = t0c2) then
        some (y1.1, y1.2.1, y1.2.2.1, (if t0c2 < aru2 then t0c2 else aru2), (0 : Int), y1.2.2.2.2.2.1, ())
      else
        some (y1.1, y1.2.1, y1.2.2.1, (if t0c2 < aru2 then t0c2 else aru2), y1.2.2.2.2.1, y1.2.2.2.2.2.1, ())
    else
      some (y1.1, y1.2.1, y1.2.2.1, y1.2.2.2.1, y1.2.2.2.2.1, y1.2.2.2.2.2.1, ())
noncomputable def x62 (x : Int × Int × Int × Int × Int × (List (Int × Unit)) × Int × Int × Unit) : Option (Int × Int × Int × Int × Int × (List (Int × Unit)) × Unit) := impl_Mark x.1 x.2.1 x.2.2.1 x.2.2.2.1 x.2.2.2.2.1 x.2.2.2.2.2.1 x.2.2.2.2.2.2.1 x.2.2.2.2.2.2.2.1
noncomputable def sem62 : Sem1 := semOf ps62 rs62 x62
theorem so62 : SemsOk Try.prog (semsOf sl62) := sems_cons k97 (sems_cons k69 (sems_cons k36 (sems_nil)))
theorem t62_eq (x : denR (headRT (ps62.map some))) : codeK (tabOf tr) (semsOf sl62) D62 L62 code62 (start 47 ps62 x) (finK rs62 ps62) = x62 x := by kernel_rfl
theorem k62 : Known Try.prog 62 sem62 :=
  fn_auto tr_ok eq_ok mixed_ok so62 (D := D62) (code := code62) (n := 47) Try.func62 (by kernel_rfl) (by kernel_rfl) (by kernel_rfl) (fun w0 mu _ hs => (loops_of (l := []) (by kernel_rfl) (List.forall_mem_nil _))) t62_eq

/-! ### f98: spec.l05CopyToken -/
noncomputable def code98 : Code := match Try.f98.body with | some c => c | none => .skip
def ps98 : List AP := [.val true [.int .i64, .int .i64, .int .i64, .int .i64, .int .i64, .shr (.cons (.int .i64) .nil)]]
def rs98 : List RP := [{ src := .cell 2, agg := true, ps := [.int .i64, .int .i64, .int .i64, .int .i64, .int .i64, .own (.cons (.int .i64) .nil)] }]
noncomputable def sl98 : SemL := []
def D98 : Draws := fun _ => .nil
noncomputable def L98 {R : Type} : Loops R := fun _ _ _ _ => none
noncomputable def spec_l05CopyToken (t0c0 : Int) (t0c1 : Int) (t0c2 : Int) (t0c3 : Int) (t0c4 : Int) (t0c5 : List (Int × Unit)) : Option (Int × Int × Int × Int × Int × (List (Int × Unit)) × Unit) :=
  bif Nat.ble ((0 + (List.length t0c5)) * 8) lim then some (t0c0, t0c1, t0c2, t0c3, t0c4, [] ++ t0c5, ())
  else none
noncomputable def x98 (x : Int × Int × Int × Int × Int × (List (Int × Unit)) × Unit) : Option (Int × Int × Int × Int × Int × (List (Int × Unit)) × Unit) := spec_l05CopyToken x.1 x.2.1 x.2.2.1 x.2.2.2.1 x.2.2.2.2.1 x.2.2.2.2.2.1
noncomputable def sem98 : Sem1 := semOf ps98 rs98 x98
theorem so98 : SemsOk Try.prog (semsOf sl98) := sems_nil
theorem t98_eq (x : denR (headRT (ps98.map some))) : codeK (tabOf tr) (semsOf sl98) D98 L98 code98 (start 9 ps98 x) (finK rs98 ps98) = x98 x := by kernel_rfl
theorem k98 : Known Try.prog 98 sem98 :=
  fn_auto tr_ok eq_ok mixed_ok so98 (D := D98) (code := code98) (n := 9) Try.func98 (by kernel_rfl) (by kernel_rfl) (by kernel_rfl) (fun w0 mu _ hs => (loops_of (l := []) (by kernel_rfl) (List.forall_mem_nil _))) t98_eq

/-! ### f64: spec.TokenOk -/
noncomputable def code64 : Code := match Try.f64.body with | some c => c | none => .skip
def ps64 : List AP := [.val true [.int .i64, .int .i64, .int .i64, .int .i64, .int .i64, .shr (.cons (.int .i64) .nil)]]
def rs64 : List RP := [{ src := .tmp 2, agg := false, ps := [.bool] }]
noncomputable def sl64 : SemL := [(67, (.shr, .shr, .shr, sem67))]
def D64 : Draws := fun id => bif Nat.beq id 6 then .op 0 .any (.op 1 .take (.op 2 .any (.op 3 .any (.op 4 .take (.op 5 .any (.op 6 .take (.op 7 .one (.op 8 .any (.op 9 .any (.op 10 .any (.op 11 .any (.op 12 .any (.op 13 .any (.op 14 .take (.op 15 .any (.op 16 .any (.op 17 .any (.op 18 .take (.op 19 .any (.op 20 .take (.op 21 .any (.op 22 .any (.op 23 .take (.op 24 .any (.op 25 .any (.op 26 .any (.nil))))))))))))))))))))))))))) else .nil
def hp64_0 : List (Option AP) := [none, some (.box false [.int .i64, .int .i64, .int .i64, .int .i64, .int .i64, .shr (.cons (.int .i64) .nil)]), none, some (.val false [.int .i64]), none, none, none, none, none, none, none, none, none, none, none, none, none, none, none, none, none, none, none, none, none, none, none, none, none, none, none, none, none, none, none, none, none, none, none, none, none, none, none, none, none, none, none, none, none, none, none, none, none, none, none, none, none, none, none, none, none, none, none, none, none, none, none, none, none, none, none, none, none, none]
def e64_0 : List (Option AP) := [none, none, none, none, none, none, none, none, none, none, none, none, none, none, none, none, none, none, none, none, none, none, none, none, none, none, none, none, none, none, none, none, none, none, none, none, none, none, none, none, none, none, none, none, none, none, none, none, none, none, none, none, none, none, none, none, none, none, none, none, none, none, none, none, none, none, none, none, none, none, none, none, none, none]
def q64_0 : List (Option AP) := [none, none, some (.val false [.bool]), none, none, none, none, none, none, none, none, none, none, none, none, none, none, none, none, none, none, none, none, none, none, none, none, none, none, none, none, none, none, none, none, none, none, none, none, none, none, none, none, none, none, none, none, none, none, none, none, none, none, none, none, none, none, none, none, none, none, none, none, none, none, none, none, none, none, none, none, none, none, none]
abbrev H64_0 : Type := Int × Int × Int × Int × Int × (List (Int × Unit)) × Int × Unit
abbrev E64_0 : Type := Unit
abbrev Q64_0 : Type := Bool × Unit
noncomputable def spec_TokenOk_c0 (t1c0 : Int) (t1c1 : Int) (t1c2 : Int) (t1c3 : Int) (t1c4 : Int) (t1c5 : List (Int × Unit)) (i3 : Int) : Option (Sum H64_0 (Sum E64_0 Q64_0)) :=
  bif decide (i3 < ((List.length t1c5 : Nat) : Int)) then
    bif decide ((0 : Int) ≤ i3) then Option.bind ((t1c5)[Int.toNat i3]?) fun r6 =>
      Option.bind (spec_l01In r6.1 (1 : Int) t1c2) fun y7 =>
      bif !y7.1 then
        some (.inr (.inr (false, ())))
      else bif decide ((0 : Int) < i3) then
        bif decide ((0 : Int) ≤ IntKind.i64.wrap (i3 - (1 : Int))) then Option.bind ((t1c5)[Int.toNat (IntKind.i64.wrap (i3 - (1 : Int)))]?) fun r8 =>
          bif decide ((0 : Int) ≤ i3) then Option.bind ((t1c5)[Int.toNat i3]?) fun r9 =>
            bif decide (r9.1 ≤ r8.1) then
              some (.inr (.inr (false, ())))
            else
              some (.inl (t1c0, t1c1, t1c2, t1c3, t1c4, t1c5, IntKind.i64.wrap (i3 + (1 : Int)), ()))
          else none
        else none
      else
        some (.inl (t1c0, t1c1, t1c2, t1c3, t1c4, t1c5, IntKind.i64.wrap (i3 + (1 : Int)), ()))
    else none
  else
    some (.inr (.inl (())))
noncomputable def spec_TokenOk_r0 (x : H64_0) : Option (Sum H64_0 (Sum E64_0 Q64_0)) := spec_TokenOk_c0 x.1 x.2.1 x.2.2.1 x.2.2.2.1 x.2.2.2.2.1 x.2.2.2.2.2.1 x.2.2.2.2.2.2.1
noncomputable def L64 {R : Type} : Loops R := fun id _ st k => bif Nat.beq id 0 then loopAt hp64_0 e64_0 q64_0 spec_TokenOk_r0 st k else none
noncomputable def spec_TokenOk (t0c0 : Int) (t0c1 : Int) (t0c2 : Int) (t0c3 : Int) (t0c4 : Int) (t0c5 : List (Int × Unit)) : Option (Bool × Unit) :=
  Option.bind (spec_l01In t0c0 (1 : Int) (9 : Int)) fun y1 =>
  bif !y1.1 then
    some (false, ())
  else
    Option.bind (spec_l01In t0c1 (1 : Int) (1000000000 : Int)) fun y2 =>
    bif !y2.1 then
      some (false, ())
    else
      Option.bind (spec_l01In t0c2 (0 : Int) (60 : Int)) fun y3 =>
      bif !y3.1 then
        some (false, ())
      else
        Option.bind (spec_l01In t0c3 (0 : Int) t0c2) fun y4 =>
        bif !y4.1 then
          some (false, ())
        else
          Option.bind (spec_l01In t0c4 (0 : Int) (5 : Int)) fun y5 =>
          bif !y5.1 then
            some (false, ())
          else bif decide ((20 : Int) < ((List.length t0c5 : Nat) : Int)) then
            some (false, ())
          else
            outK (loopV spec_TokenOk_r0 (t0c0, t0c1, t0c2, t0c3, t0c4, t0c5, (0 : Int), ())) (fun y6 =>
              some (true, ())) (fun y7 =>
              some (y7.1, ()))
noncomputable def x64 (x : Int × Int × Int × Int × Int × (List (Int × Unit)) × Unit) : Option (Bool × Unit) := spec_TokenOk x.1 x.2.1 x.2.2.1 x.2.2.2.1 x.2.2.2.2.1 x.2.2.2.2.2.1
noncomputable def sem64 : Sem1 := semOf ps64 rs64 x64
theorem so64 : SemsOk Try.prog (semsOf sl64) := sems_cons k67 (sems_nil)
noncomputable def b64_0 : Code := nthLoop code64 0
theorem t64_r0_eq (x : denR (headRT hp64_0)) : codeK (tabOf tr) (semsOf sl64) D64 L64 b64_0 (headSt hp64_0 x) (roundK 0 hp64_0 e64_0 q64_0) = spec_TokenOk_r0 x := by kernel_rfl
theorem loop64_0 {R : Type} (r : R) (w0 : World) (mu : Mu) (hs : AnShape ps64 mu) : LoopAt Try.prog w0 mu 74 (L64 : Loops R) r 0 b64_0 :=
  loop_auto tr_ok eq_ok mixed_ok so64 (D := D64) hs (by kernel_rfl) (fun _ => (loops_of (l := []) (by kernel_rfl) (List.forall_mem_nil _))) t64_r0_eq (fun _ _ => rfl)
theorem t64_eq (x : denR (headRT (ps64.map some))) : codeK (tabOf tr) (semsOf sl64) D64 L64 code64 (start 74 ps64 x) (finK rs64 ps64) = x64 x := by kernel_rfl
theorem k64 : Known Try.prog 64 sem64 :=
  fn_auto tr_ok eq_ok mixed_ok so64 (D := D64) (code := code64) (n := 74) Try.func64 (by kernel_rfl) (by kernel_rfl) (by kernel_rfl) (fun w0 mu _ hs => (loops_of (l := [(0, b64_0)]) (by kernel_rfl) (List.forall_mem_cons.2 ⟨loop64_0 _ w0 mu hs, (List.forall_mem_nil _)⟩))) t64_eq

/-! ### f63: spec.Mark -/
noncomputable def code63 : Code := match Try.f63.body with | some c => c | none => .skip
def ps63 : List AP := [.val true [.int .i64, .int .i64, .int .i64, .int .i64, .int .i64, .shr (.cons (.int .i64) .nil)], .val false [.int .i64], .val false [.int .i64]]
def rs63 : List RP := [{ src := .cell 6, agg := true, ps := [.int .i64, .int .i64, .int .i64, .int .i64, .int .i64, .own (.cons (.int .i64) .nil)] }]
noncomputable def sl63 : SemL := [(98, (.shr, .shr, .shr, sem98)), (64, (.shr, .shr, .shr, sem64)), (67, (.shr, .shr, .shr, sem67))]
def D63 : Draws := fun _ => .nil
noncomputable def L63 {R : Type} : Loops R := fun _ _ _ _ => none
noncomputable def spec_Mark (t0c0 : Int) (t0c1 : Int) (t0c2 : Int) (t0c3 : Int) (t0c4 : Int) (t0c5 : List (Int × Unit)) (d1 : Int) (aru2 : Int) : Option (Int × Int × Int × Int × Int × (List (Int × Unit)) × Unit) :=
  Option.bind (spec_l05CopyToken t0c0 t0c1 t0c2 t0c3 t0c4 t0c5) fun y1 =>
  Option.bind (spec_TokenOk t0c0 t0c1 t0c2 t0c3 t0c4 t0c5) fun y2 =>
  bif !y2.1 then
    some (y1.1, y1.2.1, y1.2.2.1, y1.2.2.2.1, y1.2.2.2.2.1, y1.2.2.2.2.2.1, ())
  else
    Option.bind (spec_l01In d1 (1 : Int) (5 : Int)) fun y3 =>
    bif !y3.1 then
      some (y1.1, y1.2.1, y1.2.2.1, y1.2.2.2.1, y1.2.2.2.2.1, y1.2.2.2.2.2.1, ())
    else bif decide (aru2 < (0 : Int)) then
      some (y1.1, y1.2.1, y1.2.2.1, y1.2.2.2.1, y1.2.2.2.2.1, y1.2.2.2.2.2.1, ())
    else bif decide (aru2 < y1.2.2.2.1) then
      some (y1.1, y1.2.1, y1.2.2.1, aru2, d1, y1.2.2.2.2.2.1, ())
    else bif decide (y1.2.2.2.2.1 = d1) then
      bif decide (y1.2.2.1 < aru2) then
        bif decide (y1.2.2.1 = y1.2.2.1) then
          some (y1.1, y1.2.1, y1.2.2.1, y1.2.2.1, (0 : Int), y1.2.2.2.2.2.1, ())
        else
          some (y1.1, y1.2.1, y1.2.2.1, y1.2.2.1, y1.2.2.2.2.1, y1.2.2.2.2.2.1, ())
      else bif decide (aru2 = y1.2.2.1) then
        some (y1.1, y1.2.1, y1.2.2.1, aru2, (0 : Int), y1.2.2.2.2.2.1, ())
      else
        some (y1.1, y1.2.1, y1.2.2.1, aru2, y1.2.2.2.2.1, y1.2.2.2.2.2.1, ())
    else
      some (y1.1, y1.2.1, y1.2.2.1, y1.2.2.2.1, y1.2.2.2.2.1, y1.2.2.2.2.2.1, ())
noncomputable def x63 (x : Int × Int × Int × Int × Int × (List (Int × Unit)) × Int × Int × Unit) : Option (Int × Int × Int × Int × Int × (List (Int × Unit)) × Unit) := spec_Mark x.1 x.2.1 x.2.2.1 x.2.2.2.1 x.2.2.2.2.1 x.2.2.2.2.2.1 x.2.2.2.2.2.2.1 x.2.2.2.2.2.2.2.1
noncomputable def sem63 : Sem1 := semOf ps63 rs63 x63
theorem so63 : SemsOk Try.prog (semsOf sl63) := sems_cons k98 (sems_cons k64 (sems_cons k67 (sems_nil)))
theorem t63_eq (x : denR (headRT (ps63.map some))) : codeK (tabOf tr) (semsOf sl63) D63 L63 code63 (start 53 ps63 x) (finK rs63 ps63) = x63 x := by kernel_rfl
theorem k63 : Known Try.prog 63 sem63 :=
  fn_auto tr_ok eq_ok mixed_ok so63 (D := D63) (code := code63) (n := 53) Try.func63 (by kernel_rfl) (by kernel_rfl) (by kernel_rfl) (fun w0 mu _ hs => (loops_of (l := []) (by kernel_rfl) (List.forall_mem_nil _))) t63_eq

/-! ### f13: laws.FnMarks -/
noncomputable def code13 : Code := match Try.f13.body with | some c => c | none => .skip
def ps13 : List AP := [.val false [.shr (.cons (.int .u8) .nil)]]
def rs13 : List RP := [{ src := .tmp 2, agg := false, ps := [.bool] }]
noncomputable def sl13 : SemL := [(31, (.shr, .shr, .shr, sem31)), (61, (.shr, .shr, .shr, sem61)), (62, (.shr, .shr, .shr, sem62)), (63, (.shr, .shr, .shr, sem63)), (64, (.shr, .shr, .shr, sem64)), (36, (.shr, .shr, .shr, sem36))]
def D13 : Draws := fun _ => .nil
noncomputable def L13 {R : Type} : Loops R := fun _ _ _ _ => none
noncomputable def laws_FnMarks (code0 : List (Int × Unit)) : Option (Bool × Unit) :=
  Option.bind (laws_big code0) fun y1 =>
  bif y1.1 then
    some (true, ())
  else
    Option.bind (spec_DrawMark code0) fun y2 =>
    Option.bind (impl_Mark y2.1 y2.2.1 y2.2.2.1 y2.2.2.2.1 y2.2.2.2.2.1 y2.2.2.2.2.2.1 y2.2.2.2.2.2.2.1 y2.2.2.2.2.2.2.2.1) fun y3 =>
    Option.bind (spec_Mark y2.1 y2.2.1 y2.2.2.1 y2.2.2.2.1 y2.2.2.2.2.1 y2.2.2.2.2.2.1 y2.2.2.2.2.2.2.1 y2.2.2.2.2.2.2.2.1) fun y4 =>
    bif !decide (y3.2.2.2.1 = y4.2.2.2.1) then
      some (false, ())
    else bif !decide (y3.2.2.2.2.1 = y4.2.2.2.2.1) then
      some (false, ())
    else
      Option.bind (spec_TokenOk y2.1 y2.2.1 y2.2.2.1 y2.2.2.2.1 y2.2.2.2.2.1 y2.2.2.2.2.2.1) fun y5 =>
      bif !y5.1 then
        bif decide (y3.2.2.2.1 = y2.2.2.2.1) then
          some (decide (y3.2.2.2.2.1 = y2.2.2.2.2.1), ())
        else
          some (false, ())
      else bif decide (y2.2.2.2.2.2.2.1 < (1 : Int)) then
        bif decide (y3.2.2.2.1 = y2.2.2.2.1) then
          some (decide (y3.2.2.2.2.1 = y2.2.2.2.2.1), ())
        else
          some (false, ())
      else bif decide ((5 : Int) < y2.2.2.2.2.2.2.1) then
        bif decide (y3.2.2.2.1 = y2.2.2.2.1) then
          some (decide (y3.2.2.2.2.1 = y2.2.2.2.2.1), ())
        else
          some (false, ())
      else bif decide (y2.2.2.2.2.2.2.2.1 < (0 : Int)) then
        bif decide (y3.2.2.2.1 = y2.2.2.2.1) then
          some (decide (y3.2.2.2.2.1 = y2.2.2.2.2.1), ())
        else
          some (false, ())
      else
        Option.bind (impl_TokenOk y3.1 y3.2.1 y3.2.2.1 y3.2.2.2.1 y3.2.2.2.2.1 y3.2.2.2.2.2.1) fun y6 =>
        bif y6.1 then
          bif decide (y3.2.2.2.1 ≤ y2.2.2.2.2.2.2.2.1) then
            bif decide (y3.2.2.2.1 ≤ y2.2.2.2.1) then
              bif decide (y3.2.2.2.2.1 = y2.2.2.2.2.1) then
                some (true, ())
              else bif decide (y3.2.2.2.2.1 = y2.2.2.2.2.2.2.1) then
                some (true, ())
              else bif decide (y3.2.2.2.2.1 = (0 : Int)) then
                some (decide (y2.2.2.2.2.1 = y2.2.2.2.2.2.2.1), ())
              else
                some (false, ())
            else bif decide (y2.2.2.2.2.1 = y2.2.2.2.2.2.2.1) then
              bif decide (y3.2.2.2.2.1 = y2.2.2.2.2.1) then
                some (true, ())
              else bif decide (y3.2.2.2.2.1 = y2.2.2.2.2.2.2.1) then
                some (true, ())
              else bif decide (y3.2.2.2.2.1 = (0 : Int)) then
                some (decide (y2.2.2.2.2.1 = y2.2.2.2.2.2.2.1), ())
              else
                some (false, ())
            else
              some (false, ())
          else
            some (false, ())
        else
          some (false, ())
noncomputable def x13 (x : (List (Int × Unit)) × Unit) : Option (Bool × Unit) := laws_FnMarks x.1
noncomputable def sem13 : Sem1 := semOf ps13 rs13 x13
theorem so13 : SemsOk Try.prog (semsOf sl13) := sems_cons k31 (sems_cons k61 (sems_cons k62 (sems_cons k63 (sems_cons k64 (sems_cons k36 (sems_nil))))))
theorem t13_eq (x : denR (headRT (ps13.map some))) : codeK (tabOf tr) (semsOf sl13) D13 L13 code13 (start 108 ps13 x) (finK rs13 ps13) = x13 x := by kernel_rfl
theorem k13 : Known Try.prog 13 sem13 :=
  fn_auto tr_ok eq_ok mixed_ok so13 (D := D13) (code := code13) (n := 108) Try.func13 (by kernel_rfl) (by kernel_rfl) (by kernel_rfl) (fun w0 mu _ hs => (loops_of (l := []) (by kernel_rfl) (List.forall_mem_nil _))) t13_eq

/-! ### f65: laws.szToken -/
noncomputable def code65 : Code := match Try.f65.body with | some c => c | none => .skip
def ps65 : List AP := [.val true [.int .i64, .int .i64, .int .i64, .int .i64, .int .i64, .shr (.cons (.int .i64) .nil)], .val false [.int .i64]]
def rs65 : List RP := [{ src := .tmp 4, agg := false, ps := [.int .i64] }]
noncomputable def sl65 : SemL := [(76, (.shr, .shr, .shr, sem76))]
def D65 : Draws := fun _ => .nil
noncomputable def L65 {R : Type} : Loops R := fun _ _ _ _ => none
noncomputable def laws_szToken (a0c0 : Int) (a0c1 : Int) (a0c2 : Int) (a0c3 : Int) (a0c4 : Int) (a0c5 : List (Int × Unit)) (left1 : Int) : Option (Int × Unit) :=
  Option.bind (laws_szIntS a0c5 left1) fun y1 =>
  bif decide (y1.1 < (0 : Int)) then
    some ((-1 : Int), ())
  else
    some (y1.1, ())
noncomputable def x65 (x : Int × Int × Int × Int × Int × (List (Int × Unit)) × Int × Unit) : Option (Int × Unit) := laws_szToken x.1 x.2.1 x.2.2.1 x.2.2.2.1 x.2.2.2.2.1 x.2.2.2.2.2.1 x.2.2.2.2.2.2.1
noncomputable def sem65 : Sem1 := semOf ps65 rs65 x65
theorem so65 : SemsOk Try.prog (semsOf sl65) := sems_cons k76 (sems_nil)
theorem t65_eq (x : denR (headRT (ps65.map some))) : codeK (tabOf tr) (semsOf sl65) D65 L65 code65 (start 12 ps65 x) (finK rs65 ps65) = x65 x := by kernel_rfl
theorem k65 : Known Try.prog 65 sem65 :=
  fn_auto tr_ok eq_ok mixed_ok so65 (D := D65) (code := code65) (n := 12) Try.func65 (by kernel_rfl) (by kernel_rfl) (by kernel_rfl) (fun w0 mu _ hs => (loops_of (l := []) (by kernel_rfl) (List.forall_mem_nil _))) t65_eq

/-! ### f66: laws.toToken -/
noncomputable def code66 : Code := match Try.f66.body with | some c => c | none => .skip
def ps66 : List AP := [.val true [.int .i64, .int .i64, .int .i64, .int .i64, .int .i64, .shr (.cons (.int .i64) .nil)]]
def rs66 : List RP := [{ src := .cell 2, agg := true, ps := [.int .i64, .int .i64, .int .i64, .int .i64, .int .i64, .own (.cons (.int .i64) .nil)] }]
noncomputable def sl66 : SemL := [(78, (.shr, .shr, .shr, sem78))]
def D66 : Draws := fun _ => .nil
noncomputable def L66 {R : Type} : Loops R := fun _ _ _ _ => none
noncomputable def laws_toToken (a0c0 : Int) (a0c1 : Int) (a0c2 : Int) (a0c3 : Int) (a0c4 : Int) (a0c5 : List (Int × Unit)) : Option (Int × Int × Int × Int × Int × (List (Int × Unit)) × Unit) :=
  Option.bind (laws_toIntS a0c5) fun y1 =>
  some (a0c0, a0c1, a0c2, a0c3, a0c4, y1.1, ())
noncomputable def x66 (x : Int × Int × Int × Int × Int × (List (Int × Unit)) × Unit) : Option (Int × Int × Int × Int × Int × (List (Int × Unit)) × Unit) := laws_toToken x.1 x.2.1 x.2.2.1 x.2.2.2.1 x.2.2.2.2.1 x.2.2.2.2.2.1
noncomputable def sem66 : Sem1 := semOf ps66 rs66 x66
theorem so66 : SemsOk Try.prog (semsOf sl66) := sems_cons k78 (sems_nil)
theorem t66_eq (x : denR (headRT (ps66.map some))) : codeK (tabOf tr) (semsOf sl66) D66 L66 code66 (start 24 ps66 x) (finK rs66 ps66) = x66 x := by kernel_rfl
theorem k66 : Known Try.prog 66 sem66 :=
  fn_auto tr_ok eq_ok mixed_ok so66 (D := D66) (code := code66) (n := 24) Try.func66 (by kernel_rfl) (by kernel_rfl) (by kernel_rfl) (fun w0 mu _ hs => (loops_of (l := []) (by kernel_rfl) (List.forall_mem_nil _))) t66_eq

/-! ### f14: laws.FnExactMark -/
noncomputable def code14 : Code := match Try.f14.body with | some c => c | none => .skip
def ps14 : List AP := [.val true [.int .i64, .int .i64, .int .i64, .int .i64, .int .i64, .shr (.cons (.int .i64) .nil)], .val false [.int .i64], .val false [.int .i64]]
def rs14 : List RP := [{ src := .tmp 6, agg := false, ps := [.bool] }]
noncomputable def sl14 : SemL := [(65, (.shr, .shr, .shr, sem65)), (66, (.shr, .shr, .shr, sem66)), (63, (.shr, .shr, .shr, sem63)), (62, (.shr, .shr, .shr, sem62)), (57, (.shr, .shr, .shr, sem57)), (59, (.lend, .shr, .shr, sem59)), (60, (.shr, .shr, .shr, sem60))]
def D14 : Draws := fun id => bif Nat.beq id 10 then .op 0 .take (.op 1 .take (.op 2 .one (.op 3 .one (.op 4 .any (.nil))))) else .nil
noncomputable def L14 {R : Type} : Loops R := fun _ _ _ _ => none
noncomputable def laws_FnExactMark (aT0c0 : Int) (aT0c1 : Int) (aT0c2 : Int) (aT0c3 : Int) (aT0c4 : Int) (aT0c5 : List (Int × Unit)) (aD1 : Int) (aAru2 : Int) : Option (Bool × Unit) :=
  Option.bind (laws_szToken aT0c0 aT0c1 aT0c2 aT0c3 aT0c4 aT0c5 (1048576 : Int)) fun y1 =>
  bif decide (y1.1 < (0 : Int)) then
    some (true, ())
  else
    Option.bind (laws_toToken aT0c0 aT0c1 aT0c2 aT0c3 aT0c4 aT0c5) fun y2 =>
    Option.bind (spec_Mark y2.1 y2.2.1 y2.2.2.1 y2.2.2.2.1 y2.2.2.2.2.1 y2.2.2.2.2.2.1 aD1 aAru2) fun y3 =>
    Option.bind (laws_toToken aT0c0 aT0c1 aT0c2 aT0c3 aT0c4 aT0c5) fun y4 =>
    Option.bind (impl_Mark y4.1 y4.2.1 y4.2.2.1 y4.2.2.2.1 y4.2.2.2.2.1 y4.2.2.2.2.2.1 aD1 aAru2) fun y5 =>
    Option.bind (laws_eqToken y5.1 y5.2.1 y5.2.2.1 y5.2.2.2.1 y5.2.2.2.2.1 y5.2.2.2.2.2.1 y3.1 y3.2.1 y3.2.2.1 y3.2.2.2.1 y3.2.2.2.2.1 y3.2.2.2.2.2.1) fun y6 =>
    bif !y6.1 then
      some (false, ())
    else
      Option.bind (laws_toToken aT0c0 aT0c1 aT0c2 aT0c3 aT0c4 aT0c5) fun y7 =>
      Option.bind (laws_eqToken y4.1 y4.2.1 y4.2.2.1 y4.2.2.2.1 y4.2.2.2.2.1 y4.2.2.2.2.2.1 y7.1 y7.2.1 y7.2.2.1 y7.2.2.2.1 y7.2.2.2.2.1 y7.2.2.2.2.2.1) fun y8 =>
      bif !y8.1 then
        some (false, ())
      else
        Option.bind (laws_markToken y4.1 y4.2.1 y4.2.2.1 y4.2.2.2.1 y4.2.2.2.2.1 y4.2.2.2.2.2.1 (1 : Int)) fun y9 =>
        bif decide (y9.1 < (0 : Int)) then
          some (false, ())
        else
          Option.bind (laws_eqToken y5.1 y5.2.1 y5.2.2.1 y5.2.2.2.1 y5.2.2.2.2.1 y5.2.2.2.2.2.1 y3.1 y3.2.1 y3.2.2.1 y3.2.2.2.1 y3.2.2.2.2.1 y3.2.2.2.2.2.1) fun y10 =>
          bif !y10.1 then
            some (false, ())
          else
            Option.bind (laws_markToken y5.1 y5.2.1 y5.2.2.1 y5.2.2.2.1 y5.2.2.2.2.1 y5.2.2.2.2.2.1 (1 : Int)) fun y11 =>
            Option.bind (laws_heldToken y5.1 y5.2.1 y5.2.2.1 y5.2.2.2.1 y5.2.2.2.2.1 y11.2.1 (1 : Int)) fun y12 =>
            bif decide (y12.1 < (0 : Int)) then
              some (false, ())
            else bif !decide (y12.1 = y11.1) then
              some (false, ())
            else
              Option.bind (laws_toToken aT0c0 aT0c1 aT0c2 aT0c3 aT0c4 aT0c5) fun y13 =>
              Option.bind (impl_Mark y13.1 y13.2.1 y13.2.2.1 y13.2.2.2.1 y13.2.2.2.2.1 y13.2.2.2.2.2.1 aD1 aAru2) fun y14 =>
              Option.bind (laws_eqToken y14.1 y14.2.1 y14.2.2.1 y14.2.2.2.1 y14.2.2.2.2.1 y14.2.2.2.2.2.1 y3.1 y3.2.1 y3.2.2.1 y3.2.2.2.1 y3.2.2.2.2.1 y3.2.2.2.2.2.1) fun y15 =>
              bif !y15.1 then
                some (false, ())
              else
                Option.bind (laws_heldToken y5.1 y5.2.1 y5.2.2.1 y5.2.2.2.1 y5.2.2.2.2.1 y11.2.1 (1 : Int)) fun y16 =>
                bif decide (y16.1 < (0 : Int)) then
                  some (false, ())
                else bif !decide (y16.1 = y11.1) then
                  some (false, ())
                else
                  some (true, ())
noncomputable def x14 (x : Int × Int × Int × Int × Int × (List (Int × Unit)) × Int × Int × Unit) : Option (Bool × Unit) := laws_FnExactMark x.1 x.2.1 x.2.2.1 x.2.2.2.1 x.2.2.2.2.1 x.2.2.2.2.2.1 x.2.2.2.2.2.2.1 x.2.2.2.2.2.2.2.1
noncomputable def sem14 : Sem1 := semOf ps14 rs14 x14
theorem so14 : SemsOk Try.prog (semsOf sl14) := sems_cons k65 (sems_cons k66 (sems_cons k63 (sems_cons k62 (sems_cons k57 (sems_cons k59 (sems_cons k60 (sems_nil)))))))
theorem t14_eq (x : denR (headRT (ps14.map some))) : codeK (tabOf tr) (semsOf sl14) D14 L14 code14 (start 79 ps14 x) (finK rs14 ps14) = x14 x := by kernel_rfl
theorem k14 : Known Try.prog 14 sem14 :=
  fn_auto tr_ok eq_ok mixed_ok so14 (D := D14) (code := code14) (n := 79) Try.func14 (by kernel_rfl) (by kernel_rfl) (by kernel_rfl) (fun w0 mu _ hs => (loops_of (l := []) (by kernel_rfl) (List.forall_mem_nil _))) t14_eq

end Go.TM
