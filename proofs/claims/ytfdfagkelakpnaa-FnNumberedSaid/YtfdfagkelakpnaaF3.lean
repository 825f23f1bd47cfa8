/- What the functions answer, as terms; their contracts. -/
import Derived.Test.YtfdfagkelakpnaaF2
set_option linter.unusedSimpArgs false
set_option linter.unusedVariables false
namespace Go.TM
open Go Go.RowKit Go.Proofs

/-! ### f83: impl.MateOk -/
noncomputable def code83 : Code := match Try.f83.body with | some c => c | none => .skip
def ps83 : List AP := [.val true [.int .i64, .int .i64, .shr (.cons (.int .i64) .nil), .shr (.cons (.int .i64) (.cons (.int .i64) (.cons (.int .i64) (.cons .str .nil)))), .shr (.cons (.int .i64) .nil), .shr (.cons .str .nil), .int .i64, .int .i64, .int .i64, .int .i64, .int .i64, .int .i64, .int .i64, .int .i64, .int .i64, .shr (.cons (.int .i64) .nil)]]
def rs83 : List RP := [{ src := .tmp 2, agg := false, ps := [.bool] }]
noncomputable def sl83 : SemL := [(100, (.shr, .shr, .shr, sem100)), (128, (.shr, .shr, .shr, sem128)), (136, (.shr, .shr, .shr, sem136)), (137, (.shr, .shr, .shr, sem137)), (138, (.shr, .shr, .shr, sem138)), (139, (.shr, .shr, .shr, sem139)), (95, (.shr, .shr, .shr, sem95)), (140, (.shr, .shr, .shr, sem140)), (21, (.shr, .shr, .shr, sem21))]
def D83 : Draws := fun _ => .nil
def hp83_0 : List (Option AP) := [none, some (.box false [.int .i64, .int .i64, .shr (.cons (.int .i64) .nil), .shr (.cons (.int .i64) (.cons (.int .i64) (.cons (.int .i64) (.cons .str .nil)))), .shr (.cons (.int .i64) .nil), .shr (.cons .str .nil), .int .i64, .int .i64, .int .i64, .int .i64, .int .i64, .int .i64, .int .i64, .int .i64, .int .i64, .shr (.cons (.int .i64) .nil)]), none, none, none, none, none, none, none, none, none, none, none, none, none, none, none, none, none, none, none, none, none, none, none, none, none, none, none, none, none, none, none, none, none, none, none, none, none, none, none, none, none, none, none, some (.val false [.shr (.cons (.int .i64) .nil)]), some (.val false [.int .i64]), some (.val false [.int .i64]), none, none, none, none, none, none, none, none, none, none, none, none, none, none, none, none, none, none, none, none, none, none, none, none, none, none, none, none, none, none, none, none, none, none, none, none, none, none, none, none, none, none]
def e83_0 : List (Option AP) := [none, some (.box false [.int .i64, .int .i64, .shr (.cons (.int .i64) .nil), .shr (.cons (.int .i64) (.cons (.int .i64) (.cons (.int .i64) (.cons .str .nil)))), .shr (.cons (.int .i64) .nil), .shr (.cons .str .nil), .int .i64, .int .i64, .int .i64, .int .i64, .int .i64, .int .i64, .int .i64, .int .i64, .int .i64, .shr (.cons (.int .i64) .nil)]), none, none, none, none, none, none, none, none, none, none, none, none, none, none, none, none, none, none, none, none, none, none, none, none, none, none, none, none, none, none, none, none, none, none, none, none, none, none, none, none, none, none, none, none, none, none, none, none, none, none, none, none, none, none, none, none, none, none, none, none, none, none, none, none, none, none, none, none, none, none, none, none, none, none, none, none, none, none, none, none, none, none, none, none, none, none, none, none]
def q83_0 : List (Option AP) := [none, none, some (.val false [.bool]), none, none, none, none, none, none, none, none, none, none, none, none, none, none, none, none, none, none, none, none, none, none, none, none, none, none, none, none, none, none, none, none, none, none, none, none, none, none, none, none, none, none, none, none, none, none, none, none, none, none, none, none, none, none, none, none, none, none, none, none, none, none, none, none, none, none, none, none, none, none, none, none, none, none, none, none, none, none, none, none, none, none, none, none, none, none, none]
abbrev H83_0 : Type := Int × Int × (List (Int × Unit)) × (List (Int × Int × Int × ByteArray × Unit)) × (List (Int × Unit)) × (List (ByteArray × Unit)) × Int × Int × Int × Int × Int × Int × Int × Int × Int × (List (Int × Unit)) × (List (Int × Unit)) × Int × Int × Unit
abbrev E83_0 : Type := Int × Int × (List (Int × Unit)) × (List (Int × Int × Int × ByteArray × Unit)) × (List (Int × Unit)) × (List (ByteArray × Unit)) × Int × Int × Int × Int × Int × Int × Int × Int × Int × (List (Int × Unit)) × Unit
abbrev Q83_0 : Type := Bool × Unit
noncomputable def impl_MateOk_c0 (m1c0 : Int) (m1c1 : Int) (m1c2 : List (Int × Unit)) (m1c3 : List (Int × Int × Int × ByteArray × Unit)) (m1c4 : List (Int × Unit)) (m1c5 : List (ByteArray × Unit)) (m1c6 : Int) (m1c7 : Int) (m1c8 : Int) (m1c9 : Int) (m1c10 : Int) (m1c11 : Int) (m1c12 : Int) (m1c13 : Int) (m1c14 : Int) (m1c15 : List (Int × Unit)) (t45 : List (Int × Unit)) (t46 : Int) (t47 : Int) : Option (Sum H83_0 (Sum E83_0 Q83_0)) :=
  bif decide (t47 < t46) then
    bif decide ((0 : Int) ≤ t47) then Option.bind ((t45)[Int.toNat t47]?) fun r5 =>
      Option.bind (impl_isLevel r5.1) fun y6 =>
      bif !y6.1 then
        some (.inr (.inr (false, ())))
      else
        some (.inl (m1c0, m1c1, m1c2, m1c3, m1c4, m1c5, m1c6, m1c7, m1c8, m1c9, m1c10, m1c11, m1c12, m1c13, m1c14, m1c15, t45, t46, IntKind.i64.wrap (t47 + (1 : Int)), ()))
    else none
  else
    some (.inr (.inl (m1c0, m1c1, m1c2, m1c3, m1c4, m1c5, m1c6, m1c7, m1c8, m1c9, m1c10, m1c11, m1c12, m1c13, m1c14, m1c15, ())))
noncomputable def impl_MateOk_r0 (x : H83_0) : Option (Sum H83_0 (Sum E83_0 Q83_0)) := impl_MateOk_c0 x.1 x.2.1 x.2.2.1 x.2.2.2.1 x.2.2.2.2.1 x.2.2.2.2.2.1 x.2.2.2.2.2.2.1 x.2.2.2.2.2.2.2.1 x.2.2.2.2.2.2.2.2.1 x.2.2.2.2.2.2.2.2.2.1 x.2.2.2.2.2.2.2.2.2.2.1 x.2.2.2.2.2.2.2.2.2.2.2.1 x.2.2.2.2.2.2.2.2.2.2.2.2.1 x.2.2.2.2.2.2.2.2.2.2.2.2.2.1 x.2.2.2.2.2.2.2.2.2.2.2.2.2.2.1 x.2.2.2.2.2.2.2.2.2.2.2.2.2.2.2.1 x.2.2.2.2.2.2.2.2.2.2.2.2.2.2.2.2.1 x.2.2.2.2.2.2.2.2.2.2.2.2.2.2.2.2.2.1 x.2.2.2.2.2.2.2.2.2.2.2.2.2.2.2.2.2.2.1
noncomputable def L83 {R : Type} : Loops R := fun id _ st k => bif Nat.beq id 0 then loopAt hp83_0 e83_0 q83_0 impl_MateOk_r0 st k else none
noncomputable def impl_MateOk (m0c0 : Int) (m0c1 : Int) (m0c2 : List (Int × Unit)) (m0c3 : List (Int × Int × Int × ByteArray × Unit)) (m0c4 : List (Int × Unit)) (m0c5 : List (ByteArray × Unit)) (m0c6 : Int) (m0c7 : Int) (m0c8 : Int) (m0c9 : Int) (m0c10 : Int) (m0c11 : Int) (m0c12 : Int) (m0c13 : Int) (m0c14 : Int) (m0c15 : List (Int × Unit)) : Option (Bool × Unit) :=
  Option.bind (slices_Contains_int m0c2 m0c0) fun y1 =>
  bif !y1.1 then
    some (false, ())
  else
    Option.bind (impl_RingOk m0c1 m0c2) fun y2 =>
    bif !y2.1 then
      some (false, ())
    else
      Option.bind (impl_ItemsOk m0c3) fun y3 =>
      bif !y3.1 then
        some (false, ())
      else bif decide ((20 : Int) < ((List.length m0c5 : Nat) : Int)) then
        some (false, ())
      else
        Option.bind (impl_areShort m0c5) fun y4 =>
        bif !y4.1 then
          some (false, ())
        else bif !decide (((List.length m0c4 : Nat) : Int) = ((List.length m0c5 : Nat) : Int)) then
          some (false, ())
        else
          outK (loopV impl_MateOk_r0 (m0c0, m0c1, m0c2, m0c3, m0c4, m0c5, m0c6, m0c7, m0c8, m0c9, m0c10, m0c11, m0c12, m0c13, m0c14, m0c15, m0c4, ((List.length m0c4 : Nat) : Int), (0 : Int), ())) (fun y5 =>
            Option.bind (impl_AruOf y5.2.2.2.1) fun y7 =>
            Option.bind (impl_inRange y5.2.2.2.2.2.2.1 (0 : Int) (1000000000 : Int)) fun y8 =>
            bif !y8.1 then
              some (false, ())
            else
              Option.bind (impl_inRange y5.2.2.2.2.2.2.2.1 (0 : Int) (60 : Int)) fun y9 =>
              bif !y9.1 then
                some (false, ())
              else
                Option.bind (impl_inRange y5.2.2.2.2.2.2.2.2.1 (0 : Int) y7.1) fun y10 =>
                bif !y10.1 then
                  some (false, ())
                else
                  Option.bind (impl_inRange y5.2.2.2.2.2.2.2.2.2.1 (0 : Int) y7.1) fun y11 =>
                  bif !y11.1 then
                    some (false, ())
                  else
                    Option.bind (impl_Token_isZero y5.2.2.2.2.2.2.2.2.2.2.1 y5.2.2.2.2.2.2.2.2.2.2.2.1 y5.2.2.2.2.2.2.2.2.2.2.2.2.1 y5.2.2.2.2.2.2.2.2.2.2.2.2.2.1 y5.2.2.2.2.2.2.2.2.2.2.2.2.2.2.1 y5.2.2.2.2.2.2.2.2.2.2.2.2.2.2.2.1) fun y12 =>
                    bif y12.1 then
                      some (true, ())
                    else
                      Option.bind (impl_TokenOk y5.2.2.2.2.2.2.2.2.2.2.1 y5.2.2.2.2.2.2.2.2.2.2.2.1 y5.2.2.2.2.2.2.2.2.2.2.2.2.1 y5.2.2.2.2.2.2.2.2.2.2.2.2.2.1 y5.2.2.2.2.2.2.2.2.2.2.2.2.2.2.1 y5.2.2.2.2.2.2.2.2.2.2.2.2.2.2.2.1) fun y13 =>
                      some (y13.1, ())) (fun y6 =>
            some (y6.1, ()))
noncomputable def x83 (x : Int × Int × (List (Int × Unit)) × (List (Int × Int × Int × ByteArray × Unit)) × (List (Int × Unit)) × (List (ByteArray × Unit)) × Int × Int × Int × Int × Int × Int × Int × Int × Int × (List (Int × Unit)) × Unit) : Option (Bool × Unit) := impl_MateOk x.1 x.2.1 x.2.2.1 x.2.2.2.1 x.2.2.2.2.1 x.2.2.2.2.2.1 x.2.2.2.2.2.2.1 x.2.2.2.2.2.2.2.1 x.2.2.2.2.2.2.2.2.1 x.2.2.2.2.2.2.2.2.2.1 x.2.2.2.2.2.2.2.2.2.2.1 x.2.2.2.2.2.2.2.2.2.2.2.1 x.2.2.2.2.2.2.2.2.2.2.2.2.1 x.2.2.2.2.2.2.2.2.2.2.2.2.2.1 x.2.2.2.2.2.2.2.2.2.2.2.2.2.2.1 x.2.2.2.2.2.2.2.2.2.2.2.2.2.2.2.1
noncomputable def sem83 : Sem1 := semOf ps83 rs83 x83
theorem so83 : SemsOk Try.prog (semsOf sl83) := sems_cons k100 (sems_cons k128 (sems_cons k136 (sems_cons k137 (sems_cons k138 (sems_cons k139 (sems_cons k95 (sems_cons k140 (sems_cons k21 (sems_nil)))))))))
noncomputable def b83_0 : Code := nthLoop code83 0
theorem t83_r0_eq (x : denR (headRT hp83_0)) : codeK (tabOf tr) (semsOf sl83) D83 L83 b83_0 (headSt hp83_0 x) (roundK 0 hp83_0 e83_0 q83_0) = impl_MateOk_r0 x := by kernel_rfl
theorem loop83_0 {R : Type} (r : R) (w0 : World) (mu : Mu) (hs : AnShape ps83 mu) : LoopAt Try.prog w0 mu 90 (L83 : Loops R) r 0 b83_0 :=
  loop_auto tr_ok eq_ok mixed_ok so83 (D := D83) hs (by kernel_rfl) (fun _ => (loops_of (l := []) (by kernel_rfl) (List.forall_mem_nil _))) t83_r0_eq (fun _ _ => rfl)
theorem t83_eq (x : denR (headRT (ps83.map some))) : codeK (tabOf tr) (semsOf sl83) D83 L83 code83 (start 90 ps83 x) (finK rs83 ps83) = x83 x := by kernel_rfl
theorem k83 : Known Try.prog 83 sem83 :=
  fn_auto tr_ok eq_ok mixed_ok so83 (D := D83) (code := code83) (n := 90) Try.func83 (by kernel_rfl) (by kernel_rfl) (by kernel_rfl) (fun w0 mu _ hs => (loops_of (l := [(0, b83_0)]) (by kernel_rfl) (List.forall_mem_cons.2 ⟨loop83_0 _ w0 mu hs, (List.forall_mem_nil _)⟩))) t83_eq

/-! ### f14: laws.FnExactMateOk -/
noncomputable def code14 : Code := match Try.f14.body with | some c => c | none => .skip
def ps14 : List AP := [.val true [.int .i64, .int .i64, .shr (.cons (.int .i64) .nil), .shr (.cons (.int .i64) (.cons (.int .i64) (.cons (.int .i64) (.cons .str .nil)))), .shr (.cons (.int .i64) .nil), .shr (.cons .str .nil), .int .i64, .int .i64, .int .i64, .int .i64, .int .i64, .int .i64, .int .i64, .int .i64, .int .i64, .shr (.cons (.int .i64) .nil)]]
def rs14 : List RP := [{ src := .tmp 2, agg := false, ps := [.bool] }]
noncomputable def sl14 : SemL := [(80, (.shr, .shr, .shr, sem80)), (82, (.shr, .shr, .shr, sem82)), (81, (.shr, .shr, .shr, sem81)), (83, (.shr, .shr, .shr, sem83)), (76, (.shr, .shr, .shr, sem76))]
def D14 : Draws := fun id => bif Nat.beq id 10 then .op 0 .take (.op 1 .take (.op 2 .one (.op 3 .one (.op 4 .any (.nil))))) else .nil
noncomputable def L14 {R : Type} : Loops R := fun _ _ _ _ => none
noncomputable def laws_FnExactMateOk (aM0c0 : Int) (aM0c1 : Int) (aM0c2 : List (Int × Unit)) (aM0c3 : List (Int × Int × Int × ByteArray × Unit)) (aM0c4 : List (Int × Unit)) (aM0c5 : List (ByteArray × Unit)) (aM0c6 : Int) (aM0c7 : Int) (aM0c8 : Int) (aM0c9 : Int) (aM0c10 : Int) (aM0c11 : Int) (aM0c12 : Int) (aM0c13 : Int) (aM0c14 : Int) (aM0c15 : List (Int × Unit)) : Option (Bool × Unit) :=
  Option.bind (laws_szMate aM0c0 aM0c1 aM0c2 aM0c3 aM0c4 aM0c5 aM0c6 aM0c7 aM0c8 aM0c9 aM0c10 aM0c11 aM0c12 aM0c13 aM0c14 aM0c15 (1048576 : Int)) fun y1 =>
  bif decide (y1.1 < (0 : Int)) then
    some (true, ())
  else
    Option.bind (laws_toMate aM0c0 aM0c1 aM0c2 aM0c3 aM0c4 aM0c5 aM0c6 aM0c7 aM0c8 aM0c9 aM0c10 aM0c11 aM0c12 aM0c13 aM0c14 aM0c15) fun y2 =>
    Option.bind (spec_MateOk y2.1 y2.2.1 y2.2.2.1 y2.2.2.2.1 y2.2.2.2.2.1 y2.2.2.2.2.2.1 y2.2.2.2.2.2.2.1 y2.2.2.2.2.2.2.2.1 y2.2.2.2.2.2.2.2.2.1 y2.2.2.2.2.2.2.2.2.2.1 y2.2.2.2.2.2.2.2.2.2.2.1 y2.2.2.2.2.2.2.2.2.2.2.2.1 y2.2.2.2.2.2.2.2.2.2.2.2.2.1 y2.2.2.2.2.2.2.2.2.2.2.2.2.2.1 y2.2.2.2.2.2.2.2.2.2.2.2.2.2.2.1 y2.2.2.2.2.2.2.2.2.2.2.2.2.2.2.2.1) fun y3 =>
    Option.bind (laws_toMate aM0c0 aM0c1 aM0c2 aM0c3 aM0c4 aM0c5 aM0c6 aM0c7 aM0c8 aM0c9 aM0c10 aM0c11 aM0c12 aM0c13 aM0c14 aM0c15) fun y4 =>
    Option.bind (impl_MateOk y4.1 y4.2.1 y4.2.2.1 y4.2.2.2.1 y4.2.2.2.2.1 y4.2.2.2.2.2.1 y4.2.2.2.2.2.2.1 y4.2.2.2.2.2.2.2.1 y4.2.2.2.2.2.2.2.2.1 y4.2.2.2.2.2.2.2.2.2.1 y4.2.2.2.2.2.2.2.2.2.2.1 y4.2.2.2.2.2.2.2.2.2.2.2.1 y4.2.2.2.2.2.2.2.2.2.2.2.2.1 y4.2.2.2.2.2.2.2.2.2.2.2.2.2.1 y4.2.2.2.2.2.2.2.2.2.2.2.2.2.2.1 y4.2.2.2.2.2.2.2.2.2.2.2.2.2.2.2.1) fun y5 =>
    bif !(y5.1 == y3.1) then
      some (false, ())
    else
      Option.bind (laws_toMate aM0c0 aM0c1 aM0c2 aM0c3 aM0c4 aM0c5 aM0c6 aM0c7 aM0c8 aM0c9 aM0c10 aM0c11 aM0c12 aM0c13 aM0c14 aM0c15) fun y6 =>
      Option.bind (laws_eqMate y4.1 y4.2.1 y4.2.2.1 y4.2.2.2.1 y4.2.2.2.2.1 y4.2.2.2.2.2.1 y4.2.2.2.2.2.2.1 y4.2.2.2.2.2.2.2.1 y4.2.2.2.2.2.2.2.2.1 y4.2.2.2.2.2.2.2.2.2.1 y4.2.2.2.2.2.2.2.2.2.2.1 y4.2.2.2.2.2.2.2.2.2.2.2.1 y4.2.2.2.2.2.2.2.2.2.2.2.2.1 y4.2.2.2.2.2.2.2.2.2.2.2.2.2.1 y4.2.2.2.2.2.2.2.2.2.2.2.2.2.2.1 y4.2.2.2.2.2.2.2.2.2.2.2.2.2.2.2.1 y6.1 y6.2.1 y6.2.2.1 y6.2.2.2.1 y6.2.2.2.2.1 y6.2.2.2.2.2.1 y6.2.2.2.2.2.2.1 y6.2.2.2.2.2.2.2.1 y6.2.2.2.2.2.2.2.2.1 y6.2.2.2.2.2.2.2.2.2.1 y6.2.2.2.2.2.2.2.2.2.2.1 y6.2.2.2.2.2.2.2.2.2.2.2.1 y6.2.2.2.2.2.2.2.2.2.2.2.2.1 y6.2.2.2.2.2.2.2.2.2.2.2.2.2.1 y6.2.2.2.2.2.2.2.2.2.2.2.2.2.2.1 y6.2.2.2.2.2.2.2.2.2.2.2.2.2.2.2.1) fun y7 =>
      bif !y7.1 then
        some (false, ())
      else
        some (true, ())
noncomputable def x14 (x : Int × Int × (List (Int × Unit)) × (List (Int × Int × Int × ByteArray × Unit)) × (List (Int × Unit)) × (List (ByteArray × Unit)) × Int × Int × Int × Int × Int × Int × Int × Int × Int × (List (Int × Unit)) × Unit) : Option (Bool × Unit) := laws_FnExactMateOk x.1 x.2.1 x.2.2.1 x.2.2.2.1 x.2.2.2.2.1 x.2.2.2.2.2.1 x.2.2.2.2.2.2.1 x.2.2.2.2.2.2.2.1 x.2.2.2.2.2.2.2.2.1 x.2.2.2.2.2.2.2.2.2.1 x.2.2.2.2.2.2.2.2.2.2.1 x.2.2.2.2.2.2.2.2.2.2.2.1 x.2.2.2.2.2.2.2.2.2.2.2.2.1 x.2.2.2.2.2.2.2.2.2.2.2.2.2.1 x.2.2.2.2.2.2.2.2.2.2.2.2.2.2.1 x.2.2.2.2.2.2.2.2.2.2.2.2.2.2.2.1
noncomputable def sem14 : Sem1 := semOf ps14 rs14 x14
theorem so14 : SemsOk Try.prog (semsOf sl14) := sems_cons k80 (sems_cons k82 (sems_cons k81 (sems_cons k83 (sems_cons k76 (sems_nil)))))
theorem t14_eq (x : denR (headRT (ps14.map some))) : codeK (tabOf tr) (semsOf sl14) D14 L14 code14 (start 27 ps14 x) (finK rs14 ps14) = x14 x := by kernel_rfl
theorem k14 : Known Try.prog 14 sem14 :=
  fn_auto tr_ok eq_ok mixed_ok so14 (D := D14) (code := code14) (n := 27) Try.func14 (by kernel_rfl) (by kernel_rfl) (by kernel_rfl) (fun w0 mu _ hs => (loops_of (l := []) (by kernel_rfl) (List.forall_mem_nil _))) t14_eq

end Go.TM
