/- What the functions answer, as terms; their contracts. -/
import Derived.Test.YtfdfagkelakpnaaF1
set_option linter.unusedSimpArgs false
set_option linter.unusedVariables false
namespace Go.TM
open Go Go.RowKit Go.Proofs

/-! ### f148: spec.l02Four -/
noncomputable def code148 : Code := match Try.f148.body with | some c => c | none => .skip
def ps148 : List AP := [.val false [.int .u32]]
def rs148 : List RP := [{ src := .tmp 2, agg := false, ps := [.str] }]
noncomputable def sl148 : SemL := []
def D148 : Draws := fun _ => .nil
noncomputable def L148 {R : Type} : Loops R := fun _ _ _ _ => none
noncomputable def spec_l02Four (x0 : Int) : Option (ByteArray × Unit) :=
  some (bytesOf [(IntKind.u8.wrap (Int.fdiv x0 (2 ^ (min 24 IntKind.u32.bits))), ()), (IntKind.u8.wrap (Int.fdiv x0 (2 ^ (min 16 IntKind.u32.bits))), ()), (IntKind.u8.wrap (Int.fdiv x0 (2 ^ (min 8 IntKind.u32.bits))), ()), (IntKind.u8.wrap x0, ())], ())
noncomputable def x148 (x : Int × Unit) : Option (ByteArray × Unit) := spec_l02Four x.1
noncomputable def sem148 : Sem1 := semOf ps148 rs148 x148
theorem so148 : SemsOk Try.prog (semsOf sl148) := sems_nil
theorem t148_eq (x : denR (headRT (ps148.map some))) : codeK (tabOf tr) (semsOf sl148) D148 L148 code148 (start 16 ps148 x) (finK rs148 ps148) = x148 x := by kernel_rfl
theorem k148 : Known Try.prog 148 sem148 :=
  fn_auto tr_ok eq_ok mixed_ok so148 (D := D148) (code := code148) (n := 16) Try.func148 (by kernel_rfl) (by kernel_rfl) (by kernel_rfl) (fun w0 mu _ hs => (loops_of (l := []) (by kernel_rfl) (List.forall_mem_nil _))) t148_eq

/-! ### f112: spec.Sealed -/
noncomputable def code112 : Code := match Try.f112.body with | some c => c | none => .skip
def ps112 : List AP := [.val false [.str]]
def rs112 : List RP := [{ src := .tmp 2, agg := false, ps := [.str] }, { src := .tmp 3, agg := false, ps := [.bool] }]
noncomputable def sl112 : SemL := [(149, (.shr, .shr, .shr, sem149)), (148, (.shr, .shr, .shr, sem148))]
def D112 : Draws := fun _ => .nil
noncomputable def L112 {R : Type} : Loops R := fun _ _ _ _ => none
noncomputable def spec_Sealed (text0 : ByteArray) : Option (ByteArray × Bool × Unit) :=
  bif decide ((20000 : Int) < ((ByteArray.size text0 : Nat) : Int)) then
    some ((ByteArray.mk #[]), false, ())
  else
    Option.bind (spec_SumOf text0) fun y1 =>
    Option.bind (spec_l02Four y1.1) fun y2 =>
    bif Nat.ble ((ByteArray.size text0) + (ByteArray.size y2.1)) lim then some (text0 ++ y2.1, true, ())
    else none
noncomputable def x112 (x : ByteArray × Unit) : Option (ByteArray × Bool × Unit) := spec_Sealed x.1
noncomputable def sem112 : Sem1 := semOf ps112 rs112 x112
theorem so112 : SemsOk Try.prog (semsOf sl112) := sems_cons k149 (sems_cons k148 (sems_nil))
theorem t112_eq (x : denR (headRT (ps112.map some))) : codeK (tabOf tr) (semsOf sl112) D112 L112 code112 (start 12 ps112 x) (finK rs112 ps112) = x112 x := by kernel_rfl
theorem k112 : Known Try.prog 112 sem112 :=
  fn_auto tr_ok eq_ok mixed_ok so112 (D := D112) (code := code112) (n := 12) Try.func112 (by kernel_rfl) (by kernel_rfl) (by kernel_rfl) (fun w0 mu _ hs => (loops_of (l := []) (by kernel_rfl) (List.forall_mem_nil _))) t112_eq

/-! ### f138: impl.isLevel -/
noncomputable def code138 : Code := match Try.f138.body with | some c => c | none => .skip
def ps138 : List AP := [.val false [.int .i64]]
def rs138 : List RP := [{ src := .tmp 2, agg := false, ps := [.bool] }]
noncomputable def sl138 : SemL := []
def D138 : Draws := fun _ => .nil
noncomputable def L138 {R : Type} : Loops R := fun _ _ _ _ => none
noncomputable def impl_isLevel (n0 : Int) : Option (Bool × Unit) :=
  bif decide (n0 = (1 : Int)) then
    some (true, ())
  else
    some (decide (n0 = (2 : Int)), ())
noncomputable def x138 (x : Int × Unit) : Option (Bool × Unit) := impl_isLevel x.1
noncomputable def sem138 : Sem1 := semOf ps138 rs138 x138
theorem so138 : SemsOk Try.prog (semsOf sl138) := sems_nil
theorem t138_eq (x : denR (headRT (ps138.map some))) : codeK (tabOf tr) (semsOf sl138) D138 L138 code138 (start 9 ps138 x) (finK rs138 ps138) = x138 x := by kernel_rfl
theorem k138 : Known Try.prog 138 sem138 :=
  fn_auto tr_ok eq_ok mixed_ok so138 (D := D138) (code := code138) (n := 9) Try.func138 (by kernel_rfl) (by kernel_rfl) (by kernel_rfl) (fun w0 mu _ hs => (loops_of (l := []) (by kernel_rfl) (List.forall_mem_nil _))) t138_eq

/-! ### f159: impl.ItemOk -/
noncomputable def code159 : Code := match Try.f159.body with | some c => c | none => .skip
def ps159 : List AP := [.val true [.int .i64, .int .i64, .int .i64, .str]]
def rs159 : List RP := [{ src := .tmp 2, agg := false, ps := [.bool] }]
noncomputable def sl159 : SemL := [(95, (.shr, .shr, .shr, sem95)), (92, (.shr, .shr, .shr, sem92)), (138, (.shr, .shr, .shr, sem138))]
def D159 : Draws := fun _ => .nil
noncomputable def L159 {R : Type} : Loops R := fun _ _ _ _ => none
noncomputable def impl_ItemOk (m0c0 : Int) (m0c1 : Int) (m0c2 : Int) (m0c3 : ByteArray) : Option (Bool × Unit) :=
  Option.bind (impl_inRange m0c0 (1 : Int) (60 : Int)) fun y1 =>
  bif y1.1 then
    Option.bind (impl_isDaemon m0c1) fun y2 =>
    bif y2.1 then
      Option.bind (impl_isLevel m0c2) fun y3 =>
      bif y3.1 then
        some (decide (((ByteArray.size m0c3 : Nat) : Int) ≤ (60 : Int)), ())
      else
        some (false, ())
    else
      some (false, ())
  else
    some (false, ())
noncomputable def x159 (x : Int × Int × Int × ByteArray × Unit) : Option (Bool × Unit) := impl_ItemOk x.1 x.2.1 x.2.2.1 x.2.2.2.1
noncomputable def sem159 : Sem1 := semOf ps159 rs159 x159
theorem so159 : SemsOk Try.prog (semsOf sl159) := sems_cons k95 (sems_cons k92 (sems_cons k138 (sems_nil)))
theorem t159_eq (x : denR (headRT (ps159.map some))) : codeK (tabOf tr) (semsOf sl159) D159 L159 code159 (start 22 ps159 x) (finK rs159 ps159) = x159 x := by kernel_rfl
theorem k159 : Known Try.prog 159 sem159 :=
  fn_auto tr_ok eq_ok mixed_ok so159 (D := D159) (code := code159) (n := 22) Try.func159 (by kernel_rfl) (by kernel_rfl) (by kernel_rfl) (fun w0 mu _ hs => (loops_of (l := []) (by kernel_rfl) (List.forall_mem_nil _))) t159_eq

/-! ### f136: impl.ItemsOk -/
noncomputable def code136 : Code := match Try.f136.body with | some c => c | none => .skip
def ps136 : List AP := [.val false [.shr (.cons (.int .i64) (.cons (.int .i64) (.cons (.int .i64) (.cons .str .nil))))]]
def rs136 : List RP := [{ src := .tmp 2, agg := false, ps := [.bool] }]
noncomputable def sl136 : SemL := [(159, (.shr, .shr, .shr, sem159))]
def D136 : Draws := fun id => bif Nat.beq id 4 then .op 0 .take (.op 1 .one (.op 2 .any (.op 3 .any (.op 4 .any (.op 5 .any (.op 6 .any (.op 7 .any (.op 8 .take (.op 9 .any (.op 10 .any (.op 11 .any (.op 12 .any (.op 13 .any (.op 14 .take (.op 15 .any (.op 16 .any (.op 17 .any (.nil)))))))))))))))))) else .nil
def hp136_0 : List (Option AP) := [some (.val false [.shr (.cons (.int .i64) (.cons (.int .i64) (.cons (.int .i64) (.cons .str .nil))))]), none, none, none, none, some (.val false [.shr (.cons (.int .i64) (.cons (.int .i64) (.cons (.int .i64) (.cons .str .nil))))]), some (.val false [.int .i64]), some (.val false [.int .i64]), none, none, none, none, none, none, none, none, none, none, none, none, none, none, none, none, none, none, none, none, none, none, none]
def e136_0 : List (Option AP) := [none, none, none, none, none, none, none, none, none, none, none, none, none, none, none, none, none, none, none, none, none, none, none, none, none, none, none, none, none, none, none]
def q136_0 : List (Option AP) := [none, none, some (.val false [.bool]), none, none, none, none, none, none, none, none, none, none, none, none, none, none, none, none, none, none, none, none, none, none, none, none, none, none, none, none]
abbrev H136_0 : Type := (List (Int × Int × Int × ByteArray × Unit)) × (List (Int × Int × Int × ByteArray × Unit)) × Int × Int × Unit
abbrev E136_0 : Type := Unit
abbrev Q136_0 : Type := Bool × Unit
noncomputable def impl_ItemsOk_c0 (list0 : List (Int × Int × Int × ByteArray × Unit)) (t5 : List (Int × Int × Int × ByteArray × Unit)) (t6 : Int) (t7 : Int) : Option (Sum H136_0 (Sum E136_0 Q136_0)) :=
  bif decide (t7 < t6) then
    bif decide ((0 : Int) ≤ t7) then Option.bind ((t5)[Int.toNat t7]?) fun r1 =>
      Option.bind (impl_ItemOk r1.1 r1.2.1 r1.2.2.1 r1.2.2.2.1) fun y2 =>
      bif !y2.1 then
        some (.inr (.inr (false, ())))
      else bif decide ((0 : Int) < t7) then
        bif decide ((0 : Int) ≤ IntKind.i64.wrap (t7 - (1 : Int))) then Option.bind ((list0)[Int.toNat (IntKind.i64.wrap (t7 - (1 : Int)))]?) fun r3 =>
          bif decide (r1.1 ≤ r3.1) then
            some (.inr (.inr (false, ())))
          else
            some (.inl (list0, t5, t6, IntKind.i64.wrap (t7 + (1 : Int)), ()))
        else none
      else
        some (.inl (list0, t5, t6, IntKind.i64.wrap (t7 + (1 : Int)), ()))
    else none
  else
    some (.inr (.inl (())))
noncomputable def impl_ItemsOk_r0 (x : H136_0) : Option (Sum H136_0 (Sum E136_0 Q136_0)) := impl_ItemsOk_c0 x.1 x.2.1 x.2.2.1 x.2.2.2.1
noncomputable def L136 {R : Type} : Loops R := fun id _ st k => bif Nat.beq id 0 then loopAt hp136_0 e136_0 q136_0 impl_ItemsOk_r0 st k else none
noncomputable def impl_ItemsOk (list0 : List (Int × Int × Int × ByteArray × Unit)) : Option (Bool × Unit) :=
  outK (loopV impl_ItemsOk_r0 (list0, list0, ((List.length list0 : Nat) : Int), (0 : Int), ())) (fun y1 =>
    some (true, ())) (fun y2 =>
    some (y2.1, ()))
noncomputable def x136 (x : (List (Int × Int × Int × ByteArray × Unit)) × Unit) : Option (Bool × Unit) := impl_ItemsOk x.1
noncomputable def sem136 : Sem1 := semOf ps136 rs136 x136
theorem so136 : SemsOk Try.prog (semsOf sl136) := sems_cons k159 (sems_nil)
noncomputable def b136_0 : Code := nthLoop code136 0
theorem t136_r0_eq (x : denR (headRT hp136_0)) : codeK (tabOf tr) (semsOf sl136) D136 L136 b136_0 (headSt hp136_0 x) (roundK 0 hp136_0 e136_0 q136_0) = impl_ItemsOk_r0 x := by kernel_rfl
theorem loop136_0 {R : Type} (r : R) (w0 : World) (mu : Mu) (hs : AnShape ps136 mu) : LoopAt Try.prog w0 mu 31 (L136 : Loops R) r 0 b136_0 :=
  loop_auto tr_ok eq_ok mixed_ok so136 (D := D136) hs (by kernel_rfl) (fun _ => (loops_of (l := []) (by kernel_rfl) (List.forall_mem_nil _))) t136_r0_eq (fun _ _ => rfl)
theorem t136_eq (x : denR (headRT (ps136.map some))) : codeK (tabOf tr) (semsOf sl136) D136 L136 code136 (start 31 ps136 x) (finK rs136 ps136) = x136 x := by kernel_rfl
theorem k136 : Known Try.prog 136 sem136 :=
  fn_auto tr_ok eq_ok mixed_ok so136 (D := D136) (code := code136) (n := 31) Try.func136 (by kernel_rfl) (by kernel_rfl) (by kernel_rfl) (fun w0 mu _ hs => (loops_of (l := [(0, b136_0)]) (by kernel_rfl) (List.forall_mem_cons.2 ⟨loop136_0 _ w0 mu hs, (List.forall_mem_nil _)⟩))) t136_eq

/-! ### f106: impl.BundleOk -/
noncomputable def code106 : Code := match Try.f106.body with | some c => c | none => .skip
def ps106 : List AP := [.val true [.int .i64, .int .i64, .int .i64, .shr (.cons (.int .i64) (.cons (.int .i64) (.cons (.int .i64) (.cons .str .nil))))]]
def rs106 : List RP := [{ src := .tmp 2, agg := false, ps := [.bool] }]
noncomputable def sl106 : SemL := [(92, (.shr, .shr, .shr, sem92)), (95, (.shr, .shr, .shr, sem95)), (136, (.shr, .shr, .shr, sem136))]
def D106 : Draws := fun _ => .nil
noncomputable def L106 {R : Type} : Loops R := fun _ _ _ _ => none
noncomputable def impl_BundleOk (b0c0 : Int) (b0c1 : Int) (b0c2 : Int) (b0c3 : List (Int × Int × Int × ByteArray × Unit)) : Option (Bool × Unit) :=
  Option.bind (impl_isDaemon b0c0) fun y1 =>
  bif !y1.1 then
    some (false, ())
  else
    Option.bind (impl_inRange b0c1 (1 : Int) (9 : Int)) fun y2 =>
    bif !y2.1 then
      some (false, ())
    else
      Option.bind (impl_inRange b0c2 (0 : Int) (IntKind.i64.wrap (b0c1 - (1 : Int)))) fun y3 =>
      bif !y3.1 then
        some (false, ())
      else
        Option.bind (impl_ItemsOk b0c3) fun y4 =>
        bif y4.1 then
          bif decide ((0 : Int) < b0c2) then
            some (true, ())
          else
            some (decide (((List.length b0c3 : Nat) : Int) = (0 : Int)), ())
        else
          some (false, ())
noncomputable def x106 (x : Int × Int × Int × (List (Int × Int × Int × ByteArray × Unit)) × Unit) : Option (Bool × Unit) := impl_BundleOk x.1 x.2.1 x.2.2.1 x.2.2.2.1
noncomputable def sem106 : Sem1 := semOf ps106 rs106 x106
theorem so106 : SemsOk Try.prog (semsOf sl106) := sems_cons k92 (sems_cons k95 (sems_cons k136 (sems_nil)))
theorem t106_eq (x : denR (headRT (ps106.map some))) : codeK (tabOf tr) (semsOf sl106) D106 L106 code106 (start 36 ps106 x) (finK rs106 ps106) = x106 x := by kernel_rfl
theorem k106 : Known Try.prog 106 sem106 :=
  fn_auto tr_ok eq_ok mixed_ok so106 (D := D106) (code := code106) (n := 36) Try.func106 (by kernel_rfl) (by kernel_rfl) (by kernel_rfl) (fun w0 mu _ hs => (loops_of (l := []) (by kernel_rfl) (List.forall_mem_nil _))) t106_eq

/-! ### f114: impl.octets -/
noncomputable def code114 : Code := match Try.f114.body with | some c => c | none => .skip
def ps114 : List AP := [.val false [.shr (.cons (.int .i64) .nil)]]
def rs114 : List RP := [{ src := .tmp 2, agg := false, ps := [.str] }]
noncomputable def sl114 : SemL := []
def D114 : Draws := fun _ => .nil
def hp114_0 : List (Option AP) := [none, none, none, some (.val false [.own (.cons (.int .u8) .nil)]), none, none, some (.val false [.shr (.cons (.int .i64) .nil)]), some (.val false [.int .i64]), some (.val false [.int .i64]), none, none, none, none, none, none, none, none, none, none, none]
def e114_0 : List (Option AP) := [none, none, none, some (.val false [.own (.cons (.int .u8) .nil)]), none, none, none, none, none, none, none, none, none, none, none, none, none, none, none, none]
def q114_0 : List (Option AP) := [none, none, none, none, none, none, none, none, none, none, none, none, none, none, none, none, none, none, none, none]
abbrev H114_0 : Type := (List (Int × Unit)) × (List (Int × Unit)) × Int × Int × Unit
abbrev E114_0 : Type := (List (Int × Unit)) × Unit
abbrev Q114_0 : Type := Unit
noncomputable def impl_octets_c0 (b3 : List (Int × Unit)) (t6 : List (Int × Unit)) (t7 : Int) (t8 : Int) : Option (Sum H114_0 (Sum E114_0 Q114_0)) :=
  bif decide (t8 < t7) then
    bif decide ((0 : Int) ≤ t8) then Option.bind ((t6)[Int.toNat t8]?) fun r1 =>
      bif Nat.ble (((List.length b3) + 1) * 1) lim then some (.inl (b3 ++ [(IntKind.u8.wrap r1.1, ())], t6, t7, IntKind.i64.wrap (t8 + (1 : Int)), ()))
      else none
    else none
  else
    some (.inr (.inl (b3, ())))
noncomputable def impl_octets_r0 (x : H114_0) : Option (Sum H114_0 (Sum E114_0 Q114_0)) := impl_octets_c0 x.1 x.2.1 x.2.2.1 x.2.2.2.1
noncomputable def L114 {R : Type} : Loops R := fun id _ st k => bif Nat.beq id 0 then loopAt hp114_0 e114_0 q114_0 impl_octets_r0 st k else none
noncomputable def impl_octets (list0 : List (Int × Unit)) : Option (ByteArray × Unit) :=
  outK (loopV impl_octets_r0 ([], list0, ((List.length list0 : Nat) : Int), (0 : Int), ())) (fun y1 =>
    some (bytesOf y1.1, ())) (fun y2 =>
    none)
noncomputable def x114 (x : (List (Int × Unit)) × Unit) : Option (ByteArray × Unit) := impl_octets x.1
noncomputable def sem114 : Sem1 := semOf ps114 rs114 x114
theorem so114 : SemsOk Try.prog (semsOf sl114) := sems_nil
noncomputable def b114_0 : Code := nthLoop code114 0
theorem t114_r0_eq (x : denR (headRT hp114_0)) : codeK (tabOf tr) (semsOf sl114) D114 L114 b114_0 (headSt hp114_0 x) (roundK 0 hp114_0 e114_0 q114_0) = impl_octets_r0 x := by kernel_rfl
theorem loop114_0 {R : Type} (r : R) (w0 : World) (mu : Mu) (hs : AnShape ps114 mu) : LoopAt Try.prog w0 mu 20 (L114 : Loops R) r 0 b114_0 :=
  loop_auto tr_ok eq_ok mixed_ok so114 (D := D114) hs (by kernel_rfl) (fun _ => (loops_of (l := []) (by kernel_rfl) (List.forall_mem_nil _))) t114_r0_eq (fun _ _ => rfl)
theorem t114_eq (x : denR (headRT (ps114.map some))) : codeK (tabOf tr) (semsOf sl114) D114 L114 code114 (start 20 ps114 x) (finK rs114 ps114) = x114 x := by kernel_rfl
theorem k114 : Known Try.prog 114 sem114 :=
  fn_auto tr_ok eq_ok mixed_ok so114 (D := D114) (code := code114) (n := 20) Try.func114 (by kernel_rfl) (by kernel_rfl) (by kernel_rfl) (fun w0 mu _ hs => (loops_of (l := [(0, b114_0)]) (by kernel_rfl) (List.forall_mem_cons.2 ⟨loop114_0 _ w0 mu hs, (List.forall_mem_nil _)⟩))) t114_eq

/-! ### f115: impl.varText -/
noncomputable def code115 : Code := match Try.f115.body with | some c => c | none => .skip
def ps115 : List AP := [.val false [.int .i64]]
def rs115 : List RP := [{ src := .tmp 2, agg := false, ps := [.str] }]
noncomputable def sl115 : SemL := []
def D115 : Draws := fun _ => .nil
def hp115_0 : List (Option AP) := [some (.val false [.int .i64]), none, none, some (.val false [.own (.cons (.int .u8) .nil)]), none, none, none, none, none, none, none, none, none, none, none, none, none, none, none, none, none]
def e115_0 : List (Option AP) := [some (.val false [.int .i64]), none, none, some (.val false [.own (.cons (.int .u8) .nil)]), none, none, none, none, none, none, none, none, none, none, none, none, none, none, none, none, none]
def q115_0 : List (Option AP) := [none, none, none, none, none, none, none, none, none, none, none, none, none, none, none, none, none, none, none, none, none]
abbrev H115_0 : Type := Int × (List (Int × Unit)) × Unit
abbrev E115_0 : Type := Int × (List (Int × Unit)) × Unit
abbrev Q115_0 : Type := Unit
noncomputable def impl_varText_c0 (n0 : Int) (out3 : List (Int × Unit)) : Option (Sum H115_0 (Sum E115_0 Q115_0)) :=
  bif decide ((127 : Int) < n0) then
    bif Nat.ble (((List.length out3) + 1) * 1) lim then some (.inl (IntKind.i64.wrap (Int.tdiv n0 (128 : Int)), out3 ++ [(IntKind.u8.wrap (IntKind.i64.wrap ((128 : Int) + (Int.tmod n0 (128 : Int)))), ())], ()))
    else none
  else
    some (.inr (.inl (n0, out3, ())))
noncomputable def impl_varText_r0 (x : H115_0) : Option (Sum H115_0 (Sum E115_0 Q115_0)) := impl_varText_c0 x.1 x.2.1
noncomputable def L115 {R : Type} : Loops R := fun id _ st k => bif Nat.beq id 0 then loopAt hp115_0 e115_0 q115_0 impl_varText_r0 st k else none
noncomputable def impl_varText (n0 : Int) : Option (ByteArray × Unit) :=
  outK (loopV impl_varText_r0 (n0, [], ())) (fun y1 =>
    bif Nat.ble (((List.length y1.2.1) + 1) * 1) lim then some (bytesOf (y1.2.1 ++ [(IntKind.u8.wrap y1.1, ())]), ())
    else none) (fun y2 =>
    none)
noncomputable def x115 (x : Int × Unit) : Option (ByteArray × Unit) := impl_varText x.1
noncomputable def sem115 : Sem1 := semOf ps115 rs115 x115
theorem so115 : SemsOk Try.prog (semsOf sl115) := sems_nil
noncomputable def b115_0 : Code := nthLoop code115 0
theorem t115_r0_eq (x : denR (headRT hp115_0)) : codeK (tabOf tr) (semsOf sl115) D115 L115 b115_0 (headSt hp115_0 x) (roundK 0 hp115_0 e115_0 q115_0) = impl_varText_r0 x := by kernel_rfl
theorem loop115_0 {R : Type} (r : R) (w0 : World) (mu : Mu) (hs : AnShape ps115 mu) : LoopAt Try.prog w0 mu 21 (L115 : Loops R) r 0 b115_0 :=
  loop_auto tr_ok eq_ok mixed_ok so115 (D := D115) hs (by kernel_rfl) (fun _ => (loops_of (l := []) (by kernel_rfl) (List.forall_mem_nil _))) t115_r0_eq (fun _ _ => rfl)
theorem t115_eq (x : denR (headRT (ps115.map some))) : codeK (tabOf tr) (semsOf sl115) D115 L115 code115 (start 21 ps115 x) (finK rs115 ps115) = x115 x := by kernel_rfl
theorem k115 : Known Try.prog 115 sem115 :=
  fn_auto tr_ok eq_ok mixed_ok so115 (D := D115) (code := code115) (n := 21) Try.func115 (by kernel_rfl) (by kernel_rfl) (by kernel_rfl) (fun w0 mu _ hs => (loops_of (l := [(0, b115_0)]) (by kernel_rfl) (List.forall_mem_cons.2 ⟨loop115_0 _ w0 mu hs, (List.forall_mem_nil _)⟩))) t115_eq

/-! ### f116: impl.shortText -/
noncomputable def code116 : Code := match Try.f116.body with | some c => c | none => .skip
def ps116 : List AP := [.val false [.str]]
def rs116 : List RP := [{ src := .tmp 2, agg := false, ps := [.str] }]
noncomputable def sl116 : SemL := [(115, (.shr, .shr, .shr, sem115))]
def D116 : Draws := fun _ => .nil
noncomputable def L116 {R : Type} : Loops R := fun _ _ _ _ => none
noncomputable def impl_shortText (s0 : ByteArray) : Option (ByteArray × Unit) :=
  Option.bind (impl_varText ((ByteArray.size s0 : Nat) : Int)) fun y1 =>
  bif Nat.ble ((ByteArray.size y1.1) + (ByteArray.size s0)) lim then some (y1.1 ++ s0, ())
  else none
noncomputable def x116 (x : ByteArray × Unit) : Option (ByteArray × Unit) := impl_shortText x.1
noncomputable def sem116 : Sem1 := semOf ps116 rs116 x116
theorem so116 : SemsOk Try.prog (semsOf sl116) := sems_cons k115 (sems_nil)
theorem t116_eq (x : denR (headRT (ps116.map some))) : codeK (tabOf tr) (semsOf sl116) D116 L116 code116 (start 8 ps116 x) (finK rs116 ps116) = x116 x := by kernel_rfl
theorem k116 : Known Try.prog 116 sem116 :=
  fn_auto tr_ok eq_ok mixed_ok so116 (D := D116) (code := code116) (n := 8) Try.func116 (by kernel_rfl) (by kernel_rfl) (by kernel_rfl) (fun w0 mu _ hs => (loops_of (l := []) (by kernel_rfl) (List.forall_mem_nil _))) t116_eq

/-! ### f117: impl.itemText -/
noncomputable def code117 : Code := match Try.f117.body with | some c => c | none => .skip
def ps117 : List AP := [.val true [.int .i64, .int .i64, .int .i64, .str]]
def rs117 : List RP := [{ src := .tmp 2, agg := false, ps := [.str] }]
noncomputable def sl117 : SemL := [(115, (.shr, .shr, .shr, sem115)), (114, (.shr, .shr, .shr, sem114)), (116, (.shr, .shr, .shr, sem116))]
def D117 : Draws := fun id => bif Nat.beq id 1 then .op 0 .any (.op 1 .take (.op 3 .any (.op 4 .take (.op 5 .any (.op 6 .take (.op 10 .any (.op 11 .take (.alt (.op 2 .one (.op 7 .one (.op 8 .one (.op 9 .any (.op 12 .one (.op 13 .any (.op 14 .any (.nil)))))))) (.op 7 .one (.op 2 .one (.op 8 .one (.op 9 .any (.op 12 .one (.op 13 .any (.op 14 .any (.nil)))))))))))))))) else .nil
noncomputable def L117 {R : Type} : Loops R := fun _ _ _ _ => none
noncomputable def impl_itemText (m0c0 : Int) (m0c1 : Int) (m0c2 : Int) (m0c3 : ByteArray) : Option (ByteArray × Unit) :=
  Option.bind (impl_varText m0c0) fun y1 =>
  Option.bind (impl_octets [(m0c1, ()), (m0c2, ())]) fun y2 =>
  bif Nat.ble ((ByteArray.size y1.1) + (ByteArray.size y2.1)) lim then Option.bind (impl_shortText m0c3) fun y3 =>
    bif Nat.ble ((ByteArray.size (y1.1 ++ y2.1)) + (ByteArray.size y3.1)) lim then some ((y1.1 ++ y2.1) ++ y3.1, ())
    else none
  else none
noncomputable def impl_itemText_o (m0c0 : Int) (m0c1 : Int) (m0c2 : Int) (m0c3 : ByteArray) : Option (ByteArray × Unit) :=
  both (Option.bind (impl_varText m0c0) fun y1 =>
    Option.bind (impl_octets [(m0c1, ()), (m0c2, ())]) fun y2 =>
    bif Nat.ble ((ByteArray.size y1.1) + (ByteArray.size y2.1)) lim then Option.bind (impl_shortText m0c3) fun y3 =>
      bif Nat.ble ((ByteArray.size (y1.1 ++ y2.1)) + (ByteArray.size y3.1)) lim then some ((y1.1 ++ y2.1) ++ y3.1, ())
      else none
    else none) (Option.bind (impl_varText m0c0) fun y1 =>
    Option.bind (impl_octets [(m0c1, ()), (m0c2, ())]) fun y2 =>
    bif Nat.ble ((ByteArray.size y1.1) + (ByteArray.size y2.1)) lim then Option.bind (impl_shortText m0c3) fun y3 =>
      bif Nat.ble ((ByteArray.size (y1.1 ++ y2.1)) + (ByteArray.size y3.1)) lim then some ((y1.1 ++ y2.1) ++ y3.1, ())
      else none
    else none)
theorem impl_itemText_o_eq (m0c0 : Int) (m0c1 : Int) (m0c2 : Int) (m0c3 : ByteArray) : impl_itemText_o m0c0 m0c1 m0c2 m0c3 = impl_itemText m0c0 m0c1 m0c2 m0c3 := by
  simp only [impl_itemText_o, impl_itemText, both_self]
noncomputable def x117 (x : Int × Int × Int × ByteArray × Unit) : Option (ByteArray × Unit) := impl_itemText x.1 x.2.1 x.2.2.1 x.2.2.2.1
noncomputable def sem117 : Sem1 := semOf ps117 rs117 x117
theorem so117 : SemsOk Try.prog (semsOf sl117) := sems_cons k115 (sems_cons k114 (sems_cons k116 (sems_nil)))
theorem t117_eq (x : denR (headRT (ps117.map some))) : codeK (tabOf tr) (semsOf sl117) D117 L117 code117 (start 17 ps117 x) (finK rs117 ps117) = x117 x := (show _ = impl_itemText_o x.1 x.2.1 x.2.2.1 x.2.2.2.1 from by kernel_rfl).trans (impl_itemText_o_eq x.1 x.2.1 x.2.2.1 x.2.2.2.1)
theorem k117 : Known Try.prog 117 sem117 :=
  fn_auto tr_ok eq_ok mixed_ok so117 (D := D117) (code := code117) (n := 17) Try.func117 (by kernel_rfl) (by kernel_rfl) (by kernel_rfl) (fun w0 mu _ hs => (loops_of (l := []) (by kernel_rfl) (List.forall_mem_nil _))) t117_eq

/-! ### f167: impl.SumMore -/
noncomputable def code167 : Code := match Try.f167.body with | some c => c | none => .skip
def ps167 : List AP := [.val false [.int .u32], .val false [.str]]
def rs167 : List RP := [{ src := .tmp 4, agg := false, ps := [.int .u32] }]
noncomputable def sl167 : SemL := []
def D167 : Draws := fun _ => .nil
def hp167_2 : List (Option AP) := [some (.val false [.int .u32]), some (.val false [.str]), none, none, none, some (.val false [.int .i64]), none, none, none, none, none, none, none, none, none, none, none, none, none, some (.val false [.int .i64]), none, none, none, none, none, none, none, none, none, none, none]
def e167_2 : List (Option AP) := [some (.val false [.int .u32]), some (.val false [.str]), none, none, none, some (.val false [.int .i64]), none, none, none, none, none, none, none, none, none, none, none, none, none, none, none, none, none, none, none, none, none, none, none, none, none]
def q167_2 : List (Option AP) := [none, none, none, none, none, none, none, none, none, none, none, none, none, none, none, none, none, none, none, none, none, none, none, none, none, none, none, none, none, none, none]
abbrev H167_2 : Type := Int × ByteArray × Int × Int × Unit
abbrev E167_2 : Type := Int × ByteArray × Int × Unit
abbrev Q167_2 : Type := Unit
noncomputable def impl_SumMore_c2 (sum0 : Int) (text1 : ByteArray) (i5 : Int) (t19 : Int) : Option (Sum H167_2 (Sum E167_2 Q167_2)) :=
  bif decide (t19 < (8 : Int)) then
    bif decide (IntKind.u32.wrap ((BitVec.ofInt IntKind.u32.bits sum0 &&& BitVec.ofInt IntKind.u32.bits (1 : Int)).toNat : Int) = (1 : Int)) then
      some (.inl (IntKind.u32.wrap ((BitVec.ofInt IntKind.u32.bits (Int.fdiv sum0 (2 ^ (min 1 IntKind.u32.bits))) ^^^ BitVec.ofInt IntKind.u32.bits (3558460437 : Int)).toNat : Int), text1, i5, IntKind.i64.wrap (t19 + (1 : Int)), ()))
    else
      some (.inl (Int.fdiv sum0 (2 ^ (min 1 IntKind.u32.bits)), text1, i5, IntKind.i64.wrap (t19 + (1 : Int)), ()))
  else
    some (.inr (.inl (sum0, text1, i5, ())))
noncomputable def impl_SumMore_r2 (x : H167_2) : Option (Sum H167_2 (Sum E167_2 Q167_2)) := impl_SumMore_c2 x.1 x.2.1 x.2.2.1 x.2.2.2.1
def hp167_0 : List (Option AP) := [some (.val false [.int .u32]), some (.val false [.str]), none, none, none, some (.val false [.int .i64]), none, none, none, none, none, none, none, none, none, none, none, none, none, none, none, none, none, none, none, none, none, none, none, none, none]
def e167_0 : List (Option AP) := [some (.val false [.int .u32]), none, none, none, none, none, none, none, none, none, none, none, none, none, none, none, none, none, none, none, none, none, none, none, none, none, none, none, none, none, none]
def q167_0 : List (Option AP) := [none, none, none, none, none, none, none, none, none, none, none, none, none, none, none, none, none, none, none, none, none, none, none, none, none, none, none, none, none, none, none]
abbrev H167_0 : Type := Int × ByteArray × Int × Unit
abbrev E167_0 : Type := Int × Unit
abbrev Q167_0 : Type := Unit
noncomputable def impl_SumMore_c0 (sum0 : Int) (text1 : ByteArray) (i5 : Int) : Option (Sum H167_0 (Sum E167_0 Q167_0)) :=
  bif decide (i5 < ((ByteArray.size text1 : Nat) : Int)) then
    bif decide ((0 : Int) ≤ i5) then bif decide (i5 < ((ByteArray.size text1 : Nat) : Int)) then outK (loopV impl_SumMore_r2 (IntKind.u32.wrap ((BitVec.ofInt IntKind.u32.bits sum0 ^^^ BitVec.ofInt IntKind.u32.bits (IntKind.u32.wrap (byteAt text1 i5))).toNat : Int), text1, i5, (0 : Int), ())) (fun y1 =>
          some (.inl (y1.1, y1.2.1, IntKind.i64.wrap (y1.2.2.1 + (1 : Int)), ()))) (fun y2 =>
          some (.inr (.inr (()))))
      else none
    else none
  else
    some (.inr (.inl (sum0, ())))
noncomputable def impl_SumMore_r0 (x : H167_0) : Option (Sum H167_0 (Sum E167_0 Q167_0)) := impl_SumMore_c0 x.1 x.2.1 x.2.2.1
noncomputable def L167 {R : Type} : Loops R := fun id _ st k => bif Nat.beq id 2 then loopAt hp167_2 e167_2 q167_2 impl_SumMore_r2 st k else bif Nat.beq id 0 then loopAt hp167_0 e167_0 q167_0 impl_SumMore_r0 st k else none
noncomputable def impl_SumMore (sum0 : Int) (text1 : ByteArray) : Option (Int × Unit) :=
  outK (loopV impl_SumMore_r0 (sum0, text1, (0 : Int), ())) (fun y1 =>
    some (y1.1, ())) (fun y2 =>
    none)
noncomputable def x167 (x : Int × ByteArray × Unit) : Option (Int × Unit) := impl_SumMore x.1 x.2.1
noncomputable def sem167 : Sem1 := semOf ps167 rs167 x167
theorem so167 : SemsOk Try.prog (semsOf sl167) := sems_nil
noncomputable def b167_0 : Code := nthLoop code167 0
noncomputable def b167_2 : Code := nthLoop b167_0 0
theorem t167_r2_eq (x : denR (headRT hp167_2)) : codeK (tabOf tr) (semsOf sl167) D167 L167 b167_2 (headSt hp167_2 x) (roundK 2 hp167_2 e167_2 q167_2) = impl_SumMore_r2 x := by kernel_rfl
theorem loop167_2 {R : Type} (r : R) (w0 : World) (mu : Mu) (hs : AnShape ps167 mu) : LoopAt Try.prog w0 mu 31 (L167 : Loops R) r 2 b167_2 :=
  loop_auto tr_ok eq_ok mixed_ok so167 (D := D167) hs (by kernel_rfl) (fun _ => (loops_of (l := []) (by kernel_rfl) (List.forall_mem_nil _))) t167_r2_eq (fun _ _ => rfl)
theorem t167_r0_eq (x : denR (headRT hp167_0)) : codeK (tabOf tr) (semsOf sl167) D167 L167 b167_0 (headSt hp167_0 x) (roundK 0 hp167_0 e167_0 q167_0) = impl_SumMore_r0 x := by kernel_rfl
theorem loop167_0 {R : Type} (r : R) (w0 : World) (mu : Mu) (hs : AnShape ps167 mu) : LoopAt Try.prog w0 mu 31 (L167 : Loops R) r 0 b167_0 :=
  loop_auto tr_ok eq_ok mixed_ok so167 (D := D167) hs (by kernel_rfl) (fun _ => (loops_of (l := [(2, b167_2)]) (by kernel_rfl) (List.forall_mem_cons.2 ⟨loop167_2 _ w0 mu hs, (List.forall_mem_nil _)⟩))) t167_r0_eq (fun _ _ => rfl)
theorem t167_eq (x : denR (headRT (ps167.map some))) : codeK (tabOf tr) (semsOf sl167) D167 L167 code167 (start 31 ps167 x) (finK rs167 ps167) = x167 x := by kernel_rfl
theorem k167 : Known Try.prog 167 sem167 :=
  fn_auto tr_ok eq_ok mixed_ok so167 (D := D167) (code := code167) (n := 31) Try.func167 (by kernel_rfl) (by kernel_rfl) (by kernel_rfl) (fun w0 mu _ hs => (loops_of (l := [(0, b167_0)]) (by kernel_rfl) (List.forall_mem_cons.2 ⟨loop167_0 _ w0 mu hs, (List.forall_mem_nil _)⟩))) t167_eq

/-! ### f163: impl.SumOf -/
noncomputable def code163 : Code := match Try.f163.body with | some c => c | none => .skip
def ps163 : List AP := [.val false [.str]]
def rs163 : List RP := [{ src := .tmp 2, agg := false, ps := [.int .u32] }]
noncomputable def sl163 : SemL := [(167, (.shr, .shr, .shr, sem167))]
def D163 : Draws := fun _ => .nil
noncomputable def L163 {R : Type} : Loops R := fun _ _ _ _ => none
noncomputable def impl_SumOf (text0 : ByteArray) : Option (Int × Unit) :=
  Option.bind (impl_SumMore (4294967295 : Int) text0) fun y1 =>
  some (y1.1, ())
noncomputable def x163 (x : ByteArray × Unit) : Option (Int × Unit) := impl_SumOf x.1
noncomputable def sem163 : Sem1 := semOf ps163 rs163 x163
theorem so163 : SemsOk Try.prog (semsOf sl163) := sems_cons k167 (sems_nil)
theorem t163_eq (x : denR (headRT (ps163.map some))) : codeK (tabOf tr) (semsOf sl163) D163 L163 code163 (start 5 ps163 x) (finK rs163 ps163) = x163 x := by kernel_rfl
theorem k163 : Known Try.prog 163 sem163 :=
  fn_auto tr_ok eq_ok mixed_ok so163 (D := D163) (code := code163) (n := 5) Try.func163 (by kernel_rfl) (by kernel_rfl) (by kernel_rfl) (fun w0 mu _ hs => (loops_of (l := []) (by kernel_rfl) (List.forall_mem_nil _))) t163_eq

/-! ### f151: impl.sumText -/
noncomputable def code151 : Code := match Try.f151.body with | some c => c | none => .skip
def ps151 : List AP := [.val false [.str]]
def rs151 : List RP := [{ src := .tmp 2, agg := false, ps := [.str] }]
noncomputable def sl151 : SemL := [(163, (.shr, .shr, .shr, sem163))]
def D151 : Draws := fun _ => .nil
noncomputable def L151 {R : Type} : Loops R := fun _ _ _ _ => none
noncomputable def impl_sumText (text0 : ByteArray) : Option (ByteArray × Unit) :=
  Option.bind (impl_SumOf text0) fun y1 =>
  some (bytesOf [(IntKind.u8.wrap (Int.fdiv y1.1 (2 ^ (min 24 IntKind.u32.bits))), ()), (IntKind.u8.wrap (Int.fdiv y1.1 (2 ^ (min 16 IntKind.u32.bits))), ()), (IntKind.u8.wrap (Int.fdiv y1.1 (2 ^ (min 8 IntKind.u32.bits))), ()), (IntKind.u8.wrap y1.1, ())], ())
noncomputable def x151 (x : ByteArray × Unit) : Option (ByteArray × Unit) := impl_sumText x.1
noncomputable def sem151 : Sem1 := semOf ps151 rs151 x151
theorem so151 : SemsOk Try.prog (semsOf sl151) := sems_cons k163 (sems_nil)
theorem t151_eq (x : denR (headRT (ps151.map some))) : codeK (tabOf tr) (semsOf sl151) D151 L151 code151 (start 19 ps151 x) (finK rs151 ps151) = x151 x := by kernel_rfl
theorem k151 : Known Try.prog 151 sem151 :=
  fn_auto tr_ok eq_ok mixed_ok so151 (D := D151) (code := code151) (n := 19) Try.func151 (by kernel_rfl) (by kernel_rfl) (by kernel_rfl) (fun w0 mu _ hs => (loops_of (l := []) (by kernel_rfl) (List.forall_mem_nil _))) t151_eq

/-! ### f118: impl.Sealed -/
noncomputable def code118 : Code := match Try.f118.body with | some c => c | none => .skip
def ps118 : List AP := [.val false [.str]]
def rs118 : List RP := [{ src := .tmp 2, agg := false, ps := [.str] }, { src := .tmp 3, agg := false, ps := [.bool] }]
noncomputable def sl118 : SemL := [(151, (.shr, .shr, .shr, sem151))]
def D118 : Draws := fun _ => .nil
noncomputable def L118 {R : Type} : Loops R := fun _ _ _ _ => none
noncomputable def impl_Sealed (text0 : ByteArray) : Option (ByteArray × Bool × Unit) :=
  bif decide ((20000 : Int) < ((ByteArray.size text0 : Nat) : Int)) then
    some ((ByteArray.mk #[]), false, ())
  else
    Option.bind (impl_sumText text0) fun y1 =>
    bif Nat.ble ((ByteArray.size text0) + (ByteArray.size y1.1)) lim then some (text0 ++ y1.1, true, ())
    else none
noncomputable def x118 (x : ByteArray × Unit) : Option (ByteArray × Bool × Unit) := impl_Sealed x.1
noncomputable def sem118 : Sem1 := semOf ps118 rs118 x118
theorem so118 : SemsOk Try.prog (semsOf sl118) := sems_cons k151 (sems_nil)
theorem t118_eq (x : denR (headRT (ps118.map some))) : codeK (tabOf tr) (semsOf sl118) D118 L118 code118 (start 11 ps118 x) (finK rs118 ps118) = x118 x := by kernel_rfl
theorem k118 : Known Try.prog 118 sem118 :=
  fn_auto tr_ok eq_ok mixed_ok so118 (D := D118) (code := code118) (n := 11) Try.func118 (by kernel_rfl) (by kernel_rfl) (by kernel_rfl) (fun w0 mu _ hs => (loops_of (l := []) (by kernel_rfl) (List.forall_mem_nil _))) t118_eq

/-! ### f152: spec.l01Text -/
noncomputable def code152 : Code := match Try.f152.body with | some c => c | none => .skip
def ps152 : List AP := [.box true [.shr (.cons (.int .u8) .nil), .int .i64, .int .i64], .val false [.int .i64]]
def rs152 : List RP := [{ src := .tmp 4, agg := false, ps := [.str] }]
noncomputable def sl152 : SemL := [(142, (.shr, .shr, .shr, sem142))]
def D152 : Draws := fun _ => .nil
def hp152_0 : List (Option AP) := [some (.box true [.shr (.cons (.int .u8) .nil), .int .i64, .int .i64]), some (.val false [.int .i64]), none, none, none, some (.val false [.own (.cons (.int .u8) .nil)]), some (.val false [.int .i64]), none, none, none, none, none, none, none, none, none, none, none, none, none, none, none, none]
def e152_0 : List (Option AP) := [some (.box true [.shr (.cons (.int .u8) .nil), .int .i64, .int .i64]), none, none, none, none, some (.val false [.own (.cons (.int .u8) .nil)]), none, none, none, none, none, none, none, none, none, none, none, none, none, none, none, none, none]
def q152_0 : List (Option AP) := [none, none, none, none, none, none, none, none, none, none, none, none, none, none, none, none, none, none, none, none, none, none, none]
abbrev H152_0 : Type := (List (Int × Unit)) × Int × Int × Int × (List (Int × Unit)) × Int × Unit
abbrev E152_0 : Type := (List (Int × Unit)) × Int × Int × (List (Int × Unit)) × Unit
abbrev Q152_0 : Type := Unit
noncomputable def spec_l01Text_c0 (c0c0 : List (Int × Unit)) (c0c1 : Int) (c0c2 : Int) (n1 : Int) (out5 : List (Int × Unit)) (i6 : Int) : Option (Sum H152_0 (Sum E152_0 Q152_0)) :=
  bif decide (i6 < n1) then
    Option.bind (spec_l01Byte c0c0 c0c1 c0c2) fun y1 =>
    bif Nat.ble (((List.length out5) + 1) * 1) lim then some (.inl (y1.2.1, y1.2.2.1, y1.2.2.2.1, n1, out5 ++ [(IntKind.u8.wrap y1.1, ())], IntKind.i64.wrap (i6 + (1 : Int)), ()))
    else none
  else
    some (.inr (.inl (c0c0, c0c1, c0c2, out5, ())))
noncomputable def spec_l01Text_r0 (x : H152_0) : Option (Sum H152_0 (Sum E152_0 Q152_0)) := spec_l01Text_c0 x.1 x.2.1 x.2.2.1 x.2.2.2.1 x.2.2.2.2.1 x.2.2.2.2.2.1
noncomputable def L152 {R : Type} : Loops R := fun id _ st k => bif Nat.beq id 0 then loopAt hp152_0 e152_0 q152_0 spec_l01Text_r0 st k else none
noncomputable def spec_l01Text (c0c0 : List (Int × Unit)) (c0c1 : Int) (c0c2 : Int) (n1 : Int) : Option (ByteArray × (List (Int × Unit)) × Int × Int × Unit) :=
  bif decide ((5000 : Int) < n1) then
    outK (loopV spec_l01Text_r0 (c0c0, c0c1, c0c2, (5000 : Int), [], (0 : Int), ())) (fun y1 =>
      some (bytesOf y1.2.2.2.1, y1.1, y1.2.1, y1.2.2.1, ())) (fun y2 =>
      none)
  else
    outK (loopV spec_l01Text_r0 (c0c0, c0c1, c0c2, n1, [], (0 : Int), ())) (fun y3 =>
      some (bytesOf y3.2.2.2.1, y3.1, y3.2.1, y3.2.2.1, ())) (fun y4 =>
      none)
noncomputable def x152 (x : (List (Int × Unit)) × Int × Int × Int × Unit) : Option (ByteArray × (List (Int × Unit)) × Int × Int × Unit) := spec_l01Text x.1 x.2.1 x.2.2.1 x.2.2.2.1
noncomputable def sem152 : Sem1 := semOf ps152 rs152 x152
theorem so152 : SemsOk Try.prog (semsOf sl152) := sems_cons k142 (sems_nil)
noncomputable def b152_0 : Code := nthLoop code152 0
theorem t152_r0_eq (x : denR (headRT hp152_0)) : codeK (tabOf tr) (semsOf sl152) D152 L152 b152_0 (headSt hp152_0 x) (roundK 0 hp152_0 e152_0 q152_0) = spec_l01Text_r0 x := by kernel_rfl
theorem loop152_0 {R : Type} (r : R) (w0 : World) (mu : Mu) (hs : AnShape ps152 mu) : LoopAt Try.prog w0 mu 23 (L152 : Loops R) r 0 b152_0 :=
  loop_auto tr_ok eq_ok mixed_ok so152 (D := D152) hs (by kernel_rfl) (fun _ => (loops_of (l := []) (by kernel_rfl) (List.forall_mem_nil _))) t152_r0_eq (fun _ _ => rfl)
theorem t152_eq (x : denR (headRT (ps152.map some))) : codeK (tabOf tr) (semsOf sl152) D152 L152 code152 (start 23 ps152 x) (finK rs152 ps152) = x152 x := by kernel_rfl
theorem k152 : Known Try.prog 152 sem152 :=
  fn_auto tr_ok eq_ok mixed_ok so152 (D := D152) (code := code152) (n := 23) Try.func152 (by kernel_rfl) (by kernel_rfl) (by kernel_rfl) (fun w0 mu _ hs => (loops_of (l := [(0, b152_0)]) (by kernel_rfl) (List.forall_mem_cons.2 ⟨loop152_0 _ w0 mu hs, (List.forall_mem_nil _)⟩))) t152_eq

/-! ### f121: spec.l12Long -/
noncomputable def code121 : Code := match Try.f121.body with | some c => c | none => .skip
def ps121 : List AP := [.box true [.shr (.cons (.int .u8) .nil), .int .i64, .int .i64]]
def rs121 : List RP := [{ src := .tmp 2, agg := false, ps := [.str] }]
noncomputable def sl121 : SemL := [(120, (.shr, .shr, .shr, sem120)), (87, (.shr, .shr, .shr, sem87)), (152, (.shr, .shr, .shr, sem152)), (89, (.shr, .shr, .shr, sem89))]
def D121 : Draws := fun _ => .nil
noncomputable def L121 {R : Type} : Loops R := fun _ _ _ _ => none
noncomputable def spec_l12Long (c0c0 : List (Int × Unit)) (c0c1 : Int) (c0c2 : Int) : Option (ByteArray × (List (Int × Unit)) × Int × Int × Unit) :=
  Option.bind (spec_l01PickInt c0c0 c0c1 c0c2 [((0 : Int), ()), ((1 : Int), ()), ((39 : Int), ()), ((40 : Int), ()), ((41 : Int), ()), ((80 : Int), ()), ((95 : Int), ()), ((130 : Int), ()), ((400 : Int), ())]) fun y1 =>
  Option.bind (spec_l01Below y1.2.1 y1.2.2.1 y1.2.2.2.1 (9 : Int)) fun y2 =>
  Option.bind (spec_l01Text y2.2.1 y2.2.2.1 y2.2.2.2.1 y2.1) fun y3 =>
  Option.bind (spec_l01Below y3.2.1 y3.2.2.1 y3.2.2.2.1 (20 : Int)) fun y4 =>
  Option.bind (spec_l01Long y1.1 (IntKind.u8.wrap (IntKind.i64.wrap ((97 : Int) + y4.1)))) fun y5 =>
  bif Nat.ble ((ByteArray.size y3.1) + (ByteArray.size y5.1)) lim then some (y3.1 ++ y5.1, y4.2.1, y4.2.2.1, y4.2.2.2.1, ())
  else none
noncomputable def x121 (x : (List (Int × Unit)) × Int × Int × Unit) : Option (ByteArray × (List (Int × Unit)) × Int × Int × Unit) := spec_l12Long x.1 x.2.1 x.2.2.1
noncomputable def sem121 : Sem1 := semOf ps121 rs121 x121
theorem so121 : SemsOk Try.prog (semsOf sl121) := sems_cons k120 (sems_cons k87 (sems_cons k152 (sems_cons k89 (sems_nil))))
theorem t121_eq (x : denR (headRT (ps121.map some))) : codeK (tabOf tr) (semsOf sl121) D121 L121 code121 (start 18 ps121 x) (finK rs121 ps121) = x121 x := by kernel_rfl
theorem k121 : Known Try.prog 121 sem121 :=
  fn_auto tr_ok eq_ok mixed_ok so121 (D := D121) (code := code121) (n := 18) Try.func121 (by kernel_rfl) (by kernel_rfl) (by kernel_rfl) (fun w0 mu _ hs => (loops_of (l := []) (by kernel_rfl) (List.forall_mem_nil _))) t121_eq

/-! ### f46: spec.DrawPieces -/
noncomputable def code46 : Code := match Try.f46.body with | some c => c | none => .skip
def ps46 : List AP := [.val false [.shr (.cons (.int .u8) .nil)]]
def rs46 : List RP := [{ src := .tmp 2, agg := false, ps := [.int .i64] }, { src := .tmp 3, agg := false, ps := [.str] }]
noncomputable def sl46 : SemL := [(84, (.shr, .shr, .shr, sem84)), (87, (.shr, .shr, .shr, sem87)), (86, (.shr, .shr, .shr, sem86)), (120, (.shr, .shr, .shr, sem120)), (121, (.shr, .shr, .shr, sem121)), (89, (.shr, .shr, .shr, sem89))]
def D46 : Draws := fun _ => .nil
noncomputable def L46 {R : Type} : Loops R := fun _ _ _ _ => none
noncomputable def spec_DrawPieces (code0 : List (Int × Unit)) : Option (Int × ByteArray × Unit) :=
  Option.bind (spec_l01New code0) fun y1 =>
  Option.bind (spec_l01Below y1.1 y1.2.1 y1.2.2.1 (300 : Int)) fun y2 =>
  Option.bind (spec_l01Once y2.2.1 y2.2.2.1 y2.2.2.2.1 (12 : Int)) fun y3 =>
  bif y3.1 then
    Option.bind (spec_l01PickInt y3.2.1 y3.2.2.1 y3.2.2.2.1 [((-1 : Int), ()), ((100000 : Int), ()), ((100001 : Int), ())]) fun y4 =>
    Option.bind (spec_l12Long y4.2.1 y4.2.2.1 y4.2.2.2.1) fun y5 =>
    Option.bind (spec_l01Once y5.2.1 y5.2.2.1 y5.2.2.2.1 (12 : Int)) fun y6 =>
    bif y6.1 then
      Option.bind (spec_l01Below y6.2.1 y6.2.2.1 y6.2.2.2.1 (2 : Int)) fun y7 =>
      Option.bind (spec_l01Long (IntKind.i64.wrap ((400 : Int) + y7.1)) (65 : Int)) fun y8 =>
      some (y4.1, y8.1, ())
    else
      some (y4.1, y5.1, ())
  else
    Option.bind (spec_l12Long y3.2.1 y3.2.2.1 y3.2.2.2.1) fun y9 =>
    Option.bind (spec_l01Once y9.2.1 y9.2.2.1 y9.2.2.2.1 (12 : Int)) fun y10 =>
    bif y10.1 then
      Option.bind (spec_l01Below y10.2.1 y10.2.2.1 y10.2.2.2.1 (2 : Int)) fun y11 =>
      Option.bind (spec_l01Long (IntKind.i64.wrap ((400 : Int) + y11.1)) (65 : Int)) fun y12 =>
      some (y2.1, y12.1, ())
    else
      some (y2.1, y9.1, ())
noncomputable def x46 (x : (List (Int × Unit)) × Unit) : Option (Int × ByteArray × Unit) := spec_DrawPieces x.1
noncomputable def sem46 : Sem1 := semOf ps46 rs46 x46
theorem so46 : SemsOk Try.prog (semsOf sl46) := sems_cons k84 (sems_cons k87 (sems_cons k86 (sems_cons k120 (sems_cons k121 (sems_cons k89 (sems_nil))))))
theorem t46_eq (x : denR (headRT (ps46.map some))) : codeK (tabOf tr) (semsOf sl46) D46 L46 code46 (start 26 ps46 x) (finK rs46 ps46) = x46 x := by kernel_rfl
theorem k46 : Known Try.prog 46 sem46 :=
  fn_auto tr_ok eq_ok mixed_ok so46 (D := D46) (code := code46) (n := 26) Try.func46 (by kernel_rfl) (by kernel_rfl) (by kernel_rfl) (fun w0 mu _ hs => (loops_of (l := []) (by kernel_rfl) (List.forall_mem_nil _))) t46_eq

/-! ### f47: impl.Pieces -/
noncomputable def code47 : Code := match Try.f47.body with | some c => c | none => .skip
def ps47 : List AP := [.val false [.int .i64], .val false [.str]]
def rs47 : List RP := [{ src := .tmp 4, agg := false, ps := [.own (.cons .str .nil)] }, { src := .tmp 5, agg := false, ps := [.bool] }]
noncomputable def sl47 : SemL := [(95, (.shr, .shr, .shr, sem95)), (115, (.shr, .shr, .shr, sem115))]
def D47 : Draws := fun _ => .nil
def hp47_0 : List (Option AP) := [some (.val false [.int .i64]), some (.val false [.str]), none, none, none, none, some (.val false [.int .i64]), some (.val false [.own (.cons .str .nil)]), none, none, none, none, none, none, none, none, none, none, none, none, none, none, none, none, some (.val false [.int .i64]), some (.val false [.int .i64]), none, none, none, none, none, none, none, none, none, none, none, none, none, none, none, none, none, none, none, none, none, none, none, none, none, none, none]
def e47_0 : List (Option AP) := [none, none, none, none, none, none, none, some (.val false [.own (.cons .str .nil)]), none, none, none, none, none, none, none, none, none, none, none, none, none, none, none, none, none, none, none, none, none, none, none, none, none, none, none, none, none, none, none, none, none, none, none, none, none, none, none, none, none, none, none, none, none]
def q47_0 : List (Option AP) := [none, none, none, none, none, none, none, none, none, none, none, none, none, none, none, none, none, none, none, none, none, none, none, none, none, none, none, none, none, none, none, none, none, none, none, none, none, none, none, none, none, none, none, none, none, none, none, none, none, none, none, none, none]
abbrev H47_0 : Type := Int × ByteArray × Int × (List (ByteArray × Unit)) × Int × Int × Unit
abbrev E47_0 : Type := (List (ByteArray × Unit)) × Unit
abbrev Q47_0 : Type := Unit
noncomputable def impl_Pieces_c0 (num0 : Int) (s1 : ByteArray) (count6 : Int) (out7 : List (ByteArray × Unit)) (t24 : Int) (t25 : Int) : Option (Sum H47_0 (Sum E47_0 Q47_0)) :=
  bif decide (t25 < t24) then
    bif decide ((0 : Int) ≤ IntKind.i64.wrap (t25 * (40 : Int))) then bif decide (((Int.toNat (IntKind.i64.wrap (t25 * (40 : Int))) : Nat) : Int) ≤ (if ((ByteArray.size s1 : Nat) : Int) < IntKind.i64.wrap ((IntKind.i64.wrap (t25 + (1 : Int))) * (40 : Int)) then ((ByteArray.size s1 : Nat) : Int) else IntKind.i64.wrap ((IntKind.i64.wrap (t25 + (1 : Int))) * (40 : Int)))) then bif decide ((if ((ByteArray.size s1 : Nat) : Int) < IntKind.i64.wrap ((IntKind.i64.wrap (t25 + (1 : Int))) * (40 : Int)) then ((ByteArray.size s1 : Nat) : Int) else IntKind.i64.wrap ((IntKind.i64.wrap (t25 + (1 : Int))) * (40 : Int))) ≤ ((ByteArray.size s1 : Nat) : Int)) then Option.bind (impl_varText num0) fun y2 =>
          Option.bind (impl_varText t25) fun y3 =>
          bif Nat.ble ((ByteArray.size y2.1) + (ByteArray.size y3.1)) lim then Option.bind (impl_varText count6) fun y4 =>
            bif Nat.ble ((ByteArray.size (y2.1 ++ y3.1)) + (ByteArray.size y4.1)) lim then bif Nat.ble ((ByteArray.size ((y2.1 ++ y3.1) ++ y4.1)) + (ByteArray.size (ByteArray.extract s1 (Int.toNat (IntKind.i64.wrap (t25 * (40 : Int)))) (Int.toNat (if ((ByteArray.size s1 : Nat) : Int) < IntKind.i64.wrap ((IntKind.i64.wrap (t25 + (1 : Int))) * (40 : Int)) then ((ByteArray.size s1 : Nat) : Int) else IntKind.i64.wrap ((IntKind.i64.wrap (t25 + (1 : Int))) * (40 : Int))))))) lim then bif Nat.ble (((List.length out7) + 1) * 16) lim then some (.inl (num0, s1, count6, out7 ++ [(((y2.1 ++ y3.1) ++ y4.1) ++ (ByteArray.extract s1 (Int.toNat (IntKind.i64.wrap (t25 * (40 : Int)))) (Int.toNat (if ((ByteArray.size s1 : Nat) : Int) < IntKind.i64.wrap ((IntKind.i64.wrap (t25 + (1 : Int))) * (40 : Int)) then ((ByteArray.size s1 : Nat) : Int) else IntKind.i64.wrap ((IntKind.i64.wrap (t25 + (1 : Int))) * (40 : Int))))), ())], t24, IntKind.i64.wrap (t25 + (1 : Int)), ()))
                else none
              else none
            else none
          else none
        else none
      else none
    else none
  else
    some (.inr (.inl (out7, ())))
noncomputable def impl_Pieces_r0 (x : H47_0) : Option (Sum H47_0 (Sum E47_0 Q47_0)) := impl_Pieces_c0 x.1 x.2.1 x.2.2.1 x.2.2.2.1 x.2.2.2.2.1 x.2.2.2.2.2.1
noncomputable def L47 {R : Type} : Loops R := fun id _ st k => bif Nat.beq id 0 then loopAt hp47_0 e47_0 q47_0 impl_Pieces_r0 st k else none
noncomputable def impl_Pieces (num0 : Int) (s1 : ByteArray) : Option ((List (ByteArray × Unit)) × Bool × Unit) :=
  Option.bind (impl_inRange num0 (0 : Int) (100000 : Int)) fun y1 =>
  bif !y1.1 then
    some ([], false, ())
  else bif decide ((400 : Int) < ((ByteArray.size s1 : Nat) : Int)) then
    some ([], false, ())
  else
    outK (loopV impl_Pieces_r0 (num0, s1, (if IntKind.i64.wrap (Int.tdiv (IntKind.i64.wrap ((IntKind.i64.wrap (((ByteArray.size s1 : Nat) : Int) + (40 : Int))) - (1 : Int))) (40 : Int)) > (1 : Int) then IntKind.i64.wrap (Int.tdiv (IntKind.i64.wrap ((IntKind.i64.wrap (((ByteArray.size s1 : Nat) : Int) + (40 : Int))) - (1 : Int))) (40 : Int)) else (1 : Int)), [], (if IntKind.i64.wrap (Int.tdiv (IntKind.i64.wrap ((IntKind.i64.wrap (((ByteArray.size s1 : Nat) : Int) + (40 : Int))) - (1 : Int))) (40 : Int)) > (1 : Int) then IntKind.i64.wrap (Int.tdiv (IntKind.i64.wrap ((IntKind.i64.wrap (((ByteArray.size s1 : Nat) : Int) + (40 : Int))) - (1 : Int))) (40 : Int)) else (1 : Int)), (0 : Int), ())) (fun y2 =>
      some (y2.1, true, ())) (fun y3 =>
      none)
noncomputable def x47 (x : Int × ByteArray × Unit) : Option ((List (ByteArray × Unit)) × Bool × Unit) := impl_Pieces x.1 x.2.1
noncomputable def sem47 : Sem1 := semOf ps47 rs47 x47
theorem so47 : SemsOk Try.prog (semsOf sl47) := sems_cons k95 (sems_cons k115 (sems_nil))
noncomputable def b47_0 : Code := nthLoop code47 0
theorem t47_r0_eq (x : denR (headRT hp47_0)) : codeK (tabOf tr) (semsOf sl47) D47 L47 b47_0 (headSt hp47_0 x) (roundK 0 hp47_0 e47_0 q47_0) = impl_Pieces_r0 x := by kernel_rfl
theorem loop47_0 {R : Type} (r : R) (w0 : World) (mu : Mu) (hs : AnShape ps47 mu) : LoopAt Try.prog w0 mu 53 (L47 : Loops R) r 0 b47_0 :=
  loop_auto tr_ok eq_ok mixed_ok so47 (D := D47) hs (by kernel_rfl) (fun _ => (loops_of (l := []) (by kernel_rfl) (List.forall_mem_nil _))) t47_r0_eq (fun _ _ => rfl)
theorem t47_eq (x : denR (headRT (ps47.map some))) : codeK (tabOf tr) (semsOf sl47) D47 L47 code47 (start 53 ps47 x) (finK rs47 ps47) = x47 x := by kernel_rfl
theorem k47 : Known Try.prog 47 sem47 :=
  fn_auto tr_ok eq_ok mixed_ok so47 (D := D47) (code := code47) (n := 53) Try.func47 (by kernel_rfl) (by kernel_rfl) (by kernel_rfl) (fun w0 mu _ hs => (loops_of (l := [(0, b47_0)]) (by kernel_rfl) (List.forall_mem_cons.2 ⟨loop47_0 _ w0 mu hs, (List.forall_mem_nil _)⟩))) t47_eq

/-! ### f48: spec.Pieces -/
noncomputable def code48 : Code := match Try.f48.body with | some c => c | none => .skip
def ps48 : List AP := [.val false [.int .i64], .val false [.str]]
def rs48 : List RP := [{ src := .tmp 4, agg := false, ps := [.own (.cons .str .nil)] }, { src := .tmp 5, agg := false, ps := [.bool] }]
noncomputable def sl48 : SemL := [(94, (.shr, .shr, .shr, sem94)), (109, (.shr, .shr, .shr, sem109))]
def D48 : Draws := fun id => bif Nat.beq id 13 then .op 0 .any (.op 1 .any (.op 3 .any (.op 6 .any (.op 9 .any (.op 10 .any (.op 11 .any (.op 12 .any (.op 13 .any (.op 2 .one (.op 4 .one (.op 5 .any (.op 7 .one (.op 8 .any (.op 14 .any (.op 15 .one (.op 16 .last (.op 17 .any (.nil)))))))))))))))))) else .nil
def hp48_0 : List (Option AP) := [some (.val false [.int .i64]), some (.val false [.str]), none, none, none, none, some (.val false [.own (.cons .str .nil)]), some (.val false [.int .i64]), some (.val false [.int .i64]), none, none, none, none, none, none, none, none, none, none, none, none, none, none, none, none, none, none, none, none, none, none, none, none, none, none, none, none, none, none, none, none, none, none, none, none, none, none, none, none, none, none, none, none, none, none, none, none, none, none]
def e48_0 : List (Option AP) := [none, none, none, none, none, none, some (.val false [.own (.cons .str .nil)]), none, none, none, none, none, none, none, none, none, none, none, none, none, none, none, none, none, none, none, none, none, none, none, none, none, none, none, none, none, none, none, none, none, none, none, none, none, none, none, none, none, none, none, none, none, none, none, none, none, none, none, none]
def q48_0 : List (Option AP) := [none, none, none, none, none, none, none, none, none, none, none, none, none, none, none, none, none, none, none, none, none, none, none, none, none, none, none, none, none, none, none, none, none, none, none, none, none, none, none, none, none, none, none, none, none, none, none, none, none, none, none, none, none, none, none, none, none, none, none]
abbrev H48_0 : Type := Int × ByteArray × (List (ByteArray × Unit)) × Int × Int × Unit
abbrev E48_0 : Type := (List (ByteArray × Unit)) × Unit
abbrev Q48_0 : Type := Unit
noncomputable def spec_Pieces_c0 (num0 : Int) (s1 : ByteArray) (out6 : List (ByteArray × Unit)) (count7 : Int) (i8 : Int) : Option (Sum H48_0 (Sum E48_0 Q48_0)) :=
  bif decide (i8 < count7) then
    bif decide (((ByteArray.size s1 : Nat) : Int) < IntKind.i64.wrap ((IntKind.i64.wrap (i8 + (1 : Int))) * (40 : Int))) then
      bif decide ((0 : Int) ≤ IntKind.i64.wrap (i8 * (40 : Int))) then bif decide (((Int.toNat (IntKind.i64.wrap (i8 * (40 : Int))) : Nat) : Int) ≤ ((ByteArray.size s1 : Nat) : Int)) then bif decide (((ByteArray.size s1 : Nat) : Int) ≤ ((ByteArray.size s1 : Nat) : Int)) then Option.bind (spec_l01Var num0) fun y2 =>
            Option.bind (spec_l01Var i8) fun y3 =>
            bif Nat.ble ((ByteArray.size y2.1) + (ByteArray.size y3.1)) lim then Option.bind (spec_l01Var count7) fun y4 =>
              bif Nat.ble ((ByteArray.size (y2.1 ++ y3.1)) + (ByteArray.size y4.1)) lim then bif Nat.ble ((ByteArray.size ((y2.1 ++ y3.1) ++ y4.1)) + (ByteArray.size (ByteArray.extract s1 (Int.toNat (IntKind.i64.wrap (i8 * (40 : Int)))) (Int.toNat ((ByteArray.size s1 : Nat) : Int))))) lim then bif Nat.ble (((List.length out6) + 1) * 16) lim then some (.inl (num0, s1, out6 ++ [(((y2.1 ++ y3.1) ++ y4.1) ++ (ByteArray.extract s1 (Int.toNat (IntKind.i64.wrap (i8 * (40 : Int)))) (Int.toNat ((ByteArray.size s1 : Nat) : Int))), ())], count7, IntKind.i64.wrap (i8 + (1 : Int)), ()))
                  else none
                else none
              else none
            else none
          else none
        else none
      else none
    else bif decide ((0 : Int) ≤ IntKind.i64.wrap (i8 * (40 : Int))) then bif decide (((Int.toNat (IntKind.i64.wrap (i8 * (40 : Int))) : Nat) : Int) ≤ IntKind.i64.wrap ((IntKind.i64.wrap (i8 + (1 : Int))) * (40 : Int))) then bif decide (IntKind.i64.wrap ((IntKind.i64.wrap (i8 + (1 : Int))) * (40 : Int)) ≤ ((ByteArray.size s1 : Nat) : Int)) then Option.bind (spec_l01Var num0) fun y5 =>
          Option.bind (spec_l01Var i8) fun y6 =>
          bif Nat.ble ((ByteArray.size y5.1) + (ByteArray.size y6.1)) lim then Option.bind (spec_l01Var count7) fun y7 =>
            bif Nat.ble ((ByteArray.size (y5.1 ++ y6.1)) + (ByteArray.size y7.1)) lim then bif Nat.ble ((ByteArray.size ((y5.1 ++ y6.1) ++ y7.1)) + (ByteArray.size (ByteArray.extract s1 (Int.toNat (IntKind.i64.wrap (i8 * (40 : Int)))) (Int.toNat (IntKind.i64.wrap ((IntKind.i64.wrap (i8 + (1 : Int))) * (40 : Int))))))) lim then bif Nat.ble (((List.length out6) + 1) * 16) lim then some (.inl (num0, s1, out6 ++ [(((y5.1 ++ y6.1) ++ y7.1) ++ (ByteArray.extract s1 (Int.toNat (IntKind.i64.wrap (i8 * (40 : Int)))) (Int.toNat (IntKind.i64.wrap ((IntKind.i64.wrap (i8 + (1 : Int))) * (40 : Int))))), ())], count7, IntKind.i64.wrap (i8 + (1 : Int)), ()))
                else none
              else none
            else none
          else none
        else none
      else none
    else none
  else
    some (.inr (.inl (out6, ())))
noncomputable def spec_Pieces_r0 (x : H48_0) : Option (Sum H48_0 (Sum E48_0 Q48_0)) := spec_Pieces_c0 x.1 x.2.1 x.2.2.1 x.2.2.2.1 x.2.2.2.2.1
noncomputable def L48 {R : Type} : Loops R := fun id _ st k => bif Nat.beq id 0 then loopAt hp48_0 e48_0 q48_0 spec_Pieces_r0 st k else none
noncomputable def spec_Pieces (num0 : Int) (s1 : ByteArray) : Option ((List (ByteArray × Unit)) × Bool × Unit) :=
  Option.bind (spec_l01In num0 (0 : Int) (100000 : Int)) fun y1 =>
  bif !y1.1 then
    some ([], false, ())
  else bif decide ((400 : Int) < ((ByteArray.size s1 : Nat) : Int)) then
    some ([], false, ())
  else bif decide (IntKind.i64.wrap (Int.tdiv (IntKind.i64.wrap ((IntKind.i64.wrap (((ByteArray.size s1 : Nat) : Int) + (40 : Int))) - (1 : Int))) (40 : Int)) = (0 : Int)) then
    outK (loopV spec_Pieces_r0 (num0, s1, [], (1 : Int), (0 : Int), ())) (fun y2 =>
      some (y2.1, true, ())) (fun y3 =>
      none)
  else
    outK (loopV spec_Pieces_r0 (num0, s1, [], IntKind.i64.wrap (Int.tdiv (IntKind.i64.wrap ((IntKind.i64.wrap (((ByteArray.size s1 : Nat) : Int) + (40 : Int))) - (1 : Int))) (40 : Int)), (0 : Int), ())) (fun y4 =>
      some (y4.1, true, ())) (fun y5 =>
      none)
noncomputable def x48 (x : Int × ByteArray × Unit) : Option ((List (ByteArray × Unit)) × Bool × Unit) := spec_Pieces x.1 x.2.1
noncomputable def sem48 : Sem1 := semOf ps48 rs48 x48
theorem so48 : SemsOk Try.prog (semsOf sl48) := sems_cons k94 (sems_cons k109 (sems_nil))
noncomputable def b48_0 : Code := nthLoop code48 0
theorem t48_r0_eq (x : denR (headRT hp48_0)) : codeK (tabOf tr) (semsOf sl48) D48 L48 b48_0 (headSt hp48_0 x) (roundK 0 hp48_0 e48_0 q48_0) = spec_Pieces_r0 x := by kernel_rfl
theorem loop48_0 {R : Type} (r : R) (w0 : World) (mu : Mu) (hs : AnShape ps48 mu) : LoopAt Try.prog w0 mu 59 (L48 : Loops R) r 0 b48_0 :=
  loop_auto tr_ok eq_ok mixed_ok so48 (D := D48) hs (by kernel_rfl) (fun _ => (loops_of (l := []) (by kernel_rfl) (List.forall_mem_nil _))) t48_r0_eq (fun _ _ => rfl)
theorem t48_eq (x : denR (headRT (ps48.map some))) : codeK (tabOf tr) (semsOf sl48) D48 L48 code48 (start 59 ps48 x) (finK rs48 ps48) = x48 x := by kernel_rfl
theorem k48 : Known Try.prog 48 sem48 :=
  fn_auto tr_ok eq_ok mixed_ok so48 (D := D48) (code := code48) (n := 59) Try.func48 (by kernel_rfl) (by kernel_rfl) (by kernel_rfl) (fun w0 mu _ hs => (loops_of (l := [(0, b48_0)]) (by kernel_rfl) (List.forall_mem_cons.2 ⟨loop48_0 _ w0 mu hs, (List.forall_mem_nil _)⟩))) t48_eq

/-! ### f153: impl.ReadVar -/
noncomputable def code153 : Code := match Try.f153.body with | some c => c | none => .skip
def ps153 : List AP := [.val false [.str], .val false [.int .i64]]
def rs153 : List RP := [{ src := .tmp 4, agg := false, ps := [.int .i64] }, { src := .tmp 5, agg := false, ps := [.int .i64] }, { src := .tmp 6, agg := false, ps := [.bool] }]
noncomputable def sl153 : SemL := []
def D153 : Draws := fun _ => .nil
def hp153_0 : List (Option AP) := [some (.val false [.str]), some (.val false [.int .i64]), none, none, none, none, none, some (.val false [.int .i64]), some (.val false [.int .i64]), some (.val false [.int .i64]), none, none, none, none, none, none, none, none, none, none, none, none, none, none, none, none, none, none, none, none, none, none, none, none, none, none, none, none, none, none, none, none, none, none, none, none, none, none, none, none, none, none, none, none, none, none, none, none, none, none, none, none]
def e153_0 : List (Option AP) := [none, none, none, none, none, none, none, none, none, none, none, none, none, none, none, none, none, none, none, none, none, none, none, none, none, none, none, none, none, none, none, none, none, none, none, none, none, none, none, none, none, none, none, none, none, none, none, none, none, none, none, none, none, none, none, none, none, none, none, none, none, none]
def q153_0 : List (Option AP) := [none, none, none, none, some (.val false [.int .i64]), some (.val false [.int .i64]), some (.val false [.bool]), none, none, none, none, none, none, none, none, none, none, none, none, none, none, none, none, none, none, none, none, none, none, none, none, none, none, none, none, none, none, none, none, none, none, none, none, none, none, none, none, none, none, none, none, none, none, none, none, none, none, none, none, none, none, none]
abbrev H153_0 : Type := ByteArray × Int × Int × Int × Int × Unit
abbrev E153_0 : Type := Unit
abbrev Q153_0 : Type := Int × Int × Bool × Unit
noncomputable def impl_ReadVar_c0 (text0 : ByteArray) (at_1 : Int) (n7 : Int) (unit8 : Int) (i9 : Int) : Option (Sum H153_0 (Sum E153_0 Q153_0)) :=
  bif decide (i9 < (5 : Int)) then
    bif decide (IntKind.i64.wrap (at_1 + i9) < ((ByteArray.size text0 : Nat) : Int)) then
      bif decide ((0 : Int) ≤ IntKind.i64.wrap (at_1 + i9)) then bif decide (IntKind.i64.wrap (at_1 + i9) < ((ByteArray.size text0 : Nat) : Int)) then bif decide ((128 : Int) ≤ IntKind.i64.wrap (byteAt text0 (IntKind.i64.wrap (at_1 + i9)))) then
            some (.inl (text0, at_1, IntKind.i64.wrap (n7 + (IntKind.i64.wrap ((Int.tmod (IntKind.i64.wrap (byteAt text0 (IntKind.i64.wrap (at_1 + i9)))) (128 : Int)) * unit8))), IntKind.i64.wrap (unit8 * (128 : Int)), IntKind.i64.wrap (i9 + (1 : Int)), ()))
          else bif decide (IntKind.i64.wrap (byteAt text0 (IntKind.i64.wrap (at_1 + i9))) = (0 : Int)) then
            bif decide ((0 : Int) < i9) then
              some (.inr (.inr ((0 : Int), (0 : Int), false, ())))
            else bif decide ((1000000000 : Int) < IntKind.i64.wrap (n7 + (IntKind.i64.wrap ((Int.tmod (IntKind.i64.wrap (byteAt text0 (IntKind.i64.wrap (at_1 + i9)))) (128 : Int)) * unit8)))) then
              some (.inr (.inr ((0 : Int), (0 : Int), false, ())))
            else
              some (.inr (.inr (IntKind.i64.wrap (n7 + (IntKind.i64.wrap ((Int.tmod (IntKind.i64.wrap (byteAt text0 (IntKind.i64.wrap (at_1 + i9)))) (128 : Int)) * unit8))), IntKind.i64.wrap ((IntKind.i64.wrap (at_1 + i9)) + (1 : Int)), true, ())))
          else bif decide ((1000000000 : Int) < IntKind.i64.wrap (n7 + (IntKind.i64.wrap ((Int.tmod (IntKind.i64.wrap (byteAt text0 (IntKind.i64.wrap (at_1 + i9)))) (128 : Int)) * unit8)))) then
            some (.inr (.inr ((0 : Int), (0 : Int), false, ())))
          else
            some (.inr (.inr (IntKind.i64.wrap (n7 + (IntKind.i64.wrap ((Int.tmod (IntKind.i64.wrap (byteAt text0 (IntKind.i64.wrap (at_1 + i9)))) (128 : Int)) * unit8))), IntKind.i64.wrap ((IntKind.i64.wrap (at_1 + i9)) + (1 : Int)), true, ())))
        else none
      else none
    else
      some (.inr (.inl (())))
  else
    some (.inr (.inl (())))
noncomputable def impl_ReadVar_r0 (x : H153_0) : Option (Sum H153_0 (Sum E153_0 Q153_0)) := impl_ReadVar_c0 x.1 x.2.1 x.2.2.1 x.2.2.2.1 x.2.2.2.2.1
noncomputable def L153 {R : Type} : Loops R := fun id _ st k => bif Nat.beq id 0 then loopAt hp153_0 e153_0 q153_0 impl_ReadVar_r0 st k else none
noncomputable def impl_ReadVar (text0 : ByteArray) (at_1 : Int) : Option (Int × Int × Bool × Unit) :=
  bif decide (at_1 < (0 : Int)) then
    some ((0 : Int), (0 : Int), false, ())
  else bif decide (((ByteArray.size text0 : Nat) : Int) < at_1) then
    some ((0 : Int), (0 : Int), false, ())
  else
    outK (loopV impl_ReadVar_r0 (text0, at_1, (0 : Int), (1 : Int), (0 : Int), ())) (fun y1 =>
      some ((0 : Int), (0 : Int), false, ())) (fun y2 =>
      some (y2.1, y2.2.1, y2.2.2.1, ()))
noncomputable def x153 (x : ByteArray × Int × Unit) : Option (Int × Int × Bool × Unit) := impl_ReadVar x.1 x.2.1
noncomputable def sem153 : Sem1 := semOf ps153 rs153 x153
theorem so153 : SemsOk Try.prog (semsOf sl153) := sems_nil
noncomputable def b153_0 : Code := nthLoop code153 0
theorem t153_r0_eq (x : denR (headRT hp153_0)) : codeK (tabOf tr) (semsOf sl153) D153 L153 b153_0 (headSt hp153_0 x) (roundK 0 hp153_0 e153_0 q153_0) = impl_ReadVar_r0 x := by kernel_rfl
theorem loop153_0 {R : Type} (r : R) (w0 : World) (mu : Mu) (hs : AnShape ps153 mu) : LoopAt Try.prog w0 mu 62 (L153 : Loops R) r 0 b153_0 :=
  loop_auto tr_ok eq_ok mixed_ok so153 (D := D153) hs (by kernel_rfl) (fun _ => (loops_of (l := []) (by kernel_rfl) (List.forall_mem_nil _))) t153_r0_eq (fun _ _ => rfl)
theorem t153_eq (x : denR (headRT (ps153.map some))) : codeK (tabOf tr) (semsOf sl153) D153 L153 code153 (start 62 ps153 x) (finK rs153 ps153) = x153 x := by kernel_rfl
theorem k153 : Known Try.prog 153 sem153 :=
  fn_auto tr_ok eq_ok mixed_ok so153 (D := D153) (code := code153) (n := 62) Try.func153 (by kernel_rfl) (by kernel_rfl) (by kernel_rfl) (fun w0 mu _ hs => (loops_of (l := [(0, b153_0)]) (by kernel_rfl) (List.forall_mem_cons.2 ⟨loop153_0 _ w0 mu hs, (List.forall_mem_nil _)⟩))) t153_eq

/-! ### f122: impl.scanner).number -/
noncomputable def code122 : Code := match Try.f122.body with | some c => c | none => .skip
def ps122 : List AP := [.box true [.str, .int .i64, .bool]]
def rs122 : List RP := [{ src := .tmp 2, agg := false, ps := [.int .i64] }]
noncomputable def sl122 : SemL := [(153, (.shr, .shr, .shr, sem153))]
def D122 : Draws := fun id => bif Nat.beq id 1 then .op 0 .any (.op 1 .any (.op 2 .any (.op 3 .take (.op 4 .any (.op 5 .any (.op 6 .any (.op 7 .take (.op 8 .one (.op 9 .any (.op 10 .any (.op 11 .any (.op 12 .any (.op 13 .any (.op 14 .any (.op 15 .any (.nil)))))))))))))))) else .nil
noncomputable def L122 {R : Type} : Loops R := fun _ _ _ _ => none
noncomputable def impl_scanner_number (s0c0 : ByteArray) (s0c1 : Int) (s0c2 : Bool) : Option (Int × ByteArray × Int × Bool × Unit) :=
  Option.bind (impl_ReadVar s0c0 s0c1) fun y1 =>
  bif s0c2 then
    some ((0 : Int), s0c0, s0c1, true, ())
  else bif !y1.2.2.1 then
    some ((0 : Int), s0c0, s0c1, true, ())
  else
    some (y1.1, s0c0, y1.2.1, s0c2, ())
noncomputable def x122 (x : ByteArray × Int × Bool × Unit) : Option (Int × ByteArray × Int × Bool × Unit) := impl_scanner_number x.1 x.2.1 x.2.2.1
noncomputable def sem122 : Sem1 := semOf ps122 rs122 x122
theorem so122 : SemsOk Try.prog (semsOf sl122) := sems_cons k153 (sems_nil)
theorem t122_eq (x : denR (headRT (ps122.map some))) : codeK (tabOf tr) (semsOf sl122) D122 L122 code122 (start 35 ps122 x) (finK rs122 ps122) = x122 x := by kernel_rfl
theorem k122 : Known Try.prog 122 sem122 :=
  fn_auto tr_ok eq_ok mixed_ok so122 (D := D122) (code := code122) (n := 35) Try.func122 (by kernel_rfl) (by kernel_rfl) (by kernel_rfl) (fun w0 mu _ hs => (loops_of (l := []) (by kernel_rfl) (List.forall_mem_nil _))) t122_eq

/-! ### f49: impl.ReadPiece -/
noncomputable def code49 : Code := match Try.f49.body with | some c => c | none => .skip
def ps49 : List AP := [.val false [.str]]
def rs49 : List RP := [{ src := .tmp 2, agg := false, ps := [.int .i64] }, { src := .tmp 3, agg := false, ps := [.int .i64] }, { src := .tmp 4, agg := false, ps := [.int .i64] }, { src := .tmp 5, agg := false, ps := [.str] }, { src := .tmp 6, agg := false, ps := [.bool] }]
noncomputable def sl49 : SemL := [(122, (.shr, .shr, .shr, sem122))]
def D49 : Draws := fun _ => .nil
noncomputable def L49 {R : Type} : Loops R := fun _ _ _ _ => none
noncomputable def impl_ReadPiece (text0 : ByteArray) : Option (Int × Int × Int × ByteArray × Bool × Unit) :=
  Option.bind (impl_scanner_number text0 (0 : Int) false) fun y1 =>
  Option.bind (impl_scanner_number y1.2.1 y1.2.2.1 y1.2.2.2.1) fun y2 =>
  Option.bind (impl_scanner_number y2.2.1 y2.2.2.1 y2.2.2.2.1) fun y3 =>
  bif y3.2.2.2.1 then
    some ((0 : Int), (0 : Int), (0 : Int), (ByteArray.mk #[]), false, ())
  else bif decide ((100000 : Int) < y1.1) then
    some ((0 : Int), (0 : Int), (0 : Int), (ByteArray.mk #[]), false, ())
  else bif decide (y3.1 ≤ y2.1) then
    some ((0 : Int), (0 : Int), (0 : Int), (ByteArray.mk #[]), false, ())
  else bif decide ((10 : Int) < y3.1) then
    some ((0 : Int), (0 : Int), (0 : Int), (ByteArray.mk #[]), false, ())
  else bif decide ((0 : Int) ≤ y3.2.2.1) then bif decide (y3.2.2.1 ≤ ((ByteArray.size text0 : Nat) : Int)) then bif decide ((40 : Int) < ((ByteArray.size (ByteArray.extract text0 (Int.toNat y3.2.2.1) (ByteArray.size text0)) : Nat) : Int)) then
        some ((0 : Int), (0 : Int), (0 : Int), (ByteArray.mk #[]), false, ())
      else bif decide (((ByteArray.size (ByteArray.extract text0 (Int.toNat y3.2.2.1) (ByteArray.size text0)) : Nat) : Int) < (40 : Int)) then
        bif decide (y2.1 < IntKind.i64.wrap (y3.1 - (1 : Int))) then
          some ((0 : Int), (0 : Int), (0 : Int), (ByteArray.mk #[]), false, ())
        else
          some (y1.1, y2.1, y3.1, ByteArray.extract text0 (Int.toNat y3.2.2.1) (ByteArray.size text0), true, ())
      else
        some (y1.1, y2.1, y3.1, ByteArray.extract text0 (Int.toNat y3.2.2.1) (ByteArray.size text0), true, ())
    else none
  else none
noncomputable def x49 (x : ByteArray × Unit) : Option (Int × Int × Int × ByteArray × Bool × Unit) := impl_ReadPiece x.1
noncomputable def sem49 : Sem1 := semOf ps49 rs49 x49
theorem so49 : SemsOk Try.prog (semsOf sl49) := sems_cons k122 (sems_nil)
theorem t49_eq (x : denR (headRT (ps49.map some))) : codeK (tabOf tr) (semsOf sl49) D49 L49 code49 (start 54 ps49 x) (finK rs49 ps49) = x49 x := by kernel_rfl
theorem k49 : Known Try.prog 49 sem49 :=
  fn_auto tr_ok eq_ok mixed_ok so49 (D := D49) (code := code49) (n := 54) Try.func49 (by kernel_rfl) (by kernel_rfl) (by kernel_rfl) (fun w0 mu _ hs => (loops_of (l := []) (by kernel_rfl) (List.forall_mem_nil _))) t49_eq

/-! ### f124: slices.Clone[[]string,string] -/
noncomputable def code124 : Code := match Try.f124.body with | some c => c | none => .skip
def ps124 : List AP := [.val false [.shr (.cons .str .nil)]]
def rs124 : List RP := [{ src := .tmp 2, agg := false, ps := [.own (.cons .str .nil)] }]
noncomputable def sl124 : SemL := []
def D124 : Draws := fun _ => .nil
noncomputable def L124 {R : Type} : Loops R := fun _ _ _ _ => none
noncomputable def slices_Clone_string (s0 : List (ByteArray × Unit)) : Option ((List (ByteArray × Unit)) × Unit) :=
  bif Nat.ble ((0 + (List.length s0)) * 16) lim then some ([] ++ s0, ())
  else none
noncomputable def x124 (x : (List (ByteArray × Unit)) × Unit) : Option ((List (ByteArray × Unit)) × Unit) := slices_Clone_string x.1
noncomputable def sem124 : Sem1 := semOf ps124 rs124 x124
theorem so124 : SemsOk Try.prog (semsOf sl124) := sems_nil
theorem t124_nn (x : denR (headRT (ps124.map some))) : codeK (tabOf tr) (semsOf sl124) D124 L124 code124 (startNn 8 ((.cons .str .nil)) x.1 ps124 x) (finK rs124 ps124) = x124 x := by kernel_rfl
theorem t124_nil (z : Unit) : codeK (tabOf tr) (semsOf sl124) D124 L124 code124 (startNil 8 ps124 (([] : List (denR ((.cons .str .nil)))), z)) (finK rs124 ps124) = x124 (([] : List (denR ((.cons .str .nil)))), z) := by kernel_rfl
theorem k124 : Known Try.prog 124 sem124 :=
  fn_auto_nil tr_ok eq_ok mixed_ok so124 (D := D124) (code := code124) (n := 8) Try.func124 (by kernel_rfl) (by kernel_rfl) (by kernel_rfl) (fun w0 mu _ hs => (loops_of (l := []) (by kernel_rfl) (List.forall_mem_nil _))) t124_nil t124_nn

/-! ### f50: laws.sameTexts -/
noncomputable def code50 : Code := match Try.f50.body with | some c => c | none => .skip
def ps50 : List AP := [.val false [.shr (.cons .str .nil)], .val false [.shr (.cons .str .nil)]]
def rs50 : List RP := [{ src := .tmp 4, agg := false, ps := [.bool] }]
noncomputable def sl50 : SemL := []
def D50 : Draws := fun id => bif Nat.beq id 6 then .op 0 .any (.op 1 .any (.op 2 .any (.op 3 .take (.op 4 .any (.op 5 .any (.op 6 .any (.op 7 .take (.op 8 .any (.nil))))))))) else .nil
def hp50_0 : List (Option AP) := [some (.val false [.shr (.cons .str .nil)]), some (.val false [.shr (.cons .str .nil)]), none, none, none, some (.val false [.int .i64]), none, none, none, none, none, none, none, none, none, none, none, none, none, none, none, none, none, none, none, none]
def e50_0 : List (Option AP) := [none, none, none, none, none, none, none, none, none, none, none, none, none, none, none, none, none, none, none, none, none, none, none, none, none, none]
def q50_0 : List (Option AP) := [none, none, none, none, some (.val false [.bool]), none, none, none, none, none, none, none, none, none, none, none, none, none, none, none, none, none, none, none, none, none]
abbrev H50_0 : Type := (List (ByteArray × Unit)) × (List (ByteArray × Unit)) × Int × Unit
abbrev E50_0 : Type := Unit
abbrev Q50_0 : Type := Bool × Unit
noncomputable def laws_sameTexts_c0 (a0 : List (ByteArray × Unit)) (b1 : List (ByteArray × Unit)) (i5 : Int) : Option (Sum H50_0 (Sum E50_0 Q50_0)) :=
  bif decide (i5 < ((List.length a0 : Nat) : Int)) then
    bif decide ((0 : Int) ≤ i5) then Option.bind ((a0)[Int.toNat i5]?) fun r1 =>
      bif decide ((0 : Int) ≤ i5) then Option.bind ((b1)[Int.toNat i5]?) fun r2 =>
        bif !strEq r1.1 r2.1 then
          some (.inr (.inr (false, ())))
        else
          some (.inl (a0, b1, IntKind.i64.wrap (i5 + (1 : Int)), ()))
      else none
    else none
  else
    some (.inr (.inl (())))
noncomputable def laws_sameTexts_r0 (x : H50_0) : Option (Sum H50_0 (Sum E50_0 Q50_0)) := laws_sameTexts_c0 x.1 x.2.1 x.2.2.1
noncomputable def L50 {R : Type} : Loops R := fun id _ st k => bif Nat.beq id 0 then loopAt hp50_0 e50_0 q50_0 laws_sameTexts_r0 st k else none
noncomputable def laws_sameTexts (a0 : List (ByteArray × Unit)) (b1 : List (ByteArray × Unit)) : Option (Bool × Unit) :=
  bif !decide (((List.length a0 : Nat) : Int) = ((List.length b1 : Nat) : Int)) then
    some (false, ())
  else
    outK (loopV laws_sameTexts_r0 (a0, b1, (0 : Int), ())) (fun y1 =>
      some (true, ())) (fun y2 =>
      some (y2.1, ()))
noncomputable def x50 (x : (List (ByteArray × Unit)) × (List (ByteArray × Unit)) × Unit) : Option (Bool × Unit) := laws_sameTexts x.1 x.2.1
noncomputable def sem50 : Sem1 := semOf ps50 rs50 x50
theorem so50 : SemsOk Try.prog (semsOf sl50) := sems_nil
noncomputable def b50_0 : Code := nthLoop code50 0
theorem t50_r0_eq (x : denR (headRT hp50_0)) : codeK (tabOf tr) (semsOf sl50) D50 L50 b50_0 (headSt hp50_0 x) (roundK 0 hp50_0 e50_0 q50_0) = laws_sameTexts_r0 x := by kernel_rfl
theorem loop50_0 {R : Type} (r : R) (w0 : World) (mu : Mu) (hs : AnShape ps50 mu) : LoopAt Try.prog w0 mu 26 (L50 : Loops R) r 0 b50_0 :=
  loop_auto tr_ok eq_ok mixed_ok so50 (D := D50) hs (by kernel_rfl) (fun _ => (loops_of (l := []) (by kernel_rfl) (List.forall_mem_nil _))) t50_r0_eq (fun _ _ => rfl)
theorem t50_eq (x : denR (headRT (ps50.map some))) : codeK (tabOf tr) (semsOf sl50) D50 L50 code50 (start 26 ps50 x) (finK rs50 ps50) = x50 x := by kernel_rfl
theorem k50 : Known Try.prog 50 sem50 :=
  fn_auto tr_ok eq_ok mixed_ok so50 (D := D50) (code := code50) (n := 26) Try.func50 (by kernel_rfl) (by kernel_rfl) (by kernel_rfl) (fun w0 mu _ hs => (loops_of (l := [(0, b50_0)]) (by kernel_rfl) (List.forall_mem_cons.2 ⟨loop50_0 _ w0 mu hs, (List.forall_mem_nil _)⟩))) t50_eq

/-! ### f52: laws.szStringS -/
noncomputable def code52 : Code := match Try.f52.body with | some c => c | none => .skip
def ps52 : List AP := [.val false [.shr (.cons .str .nil)], .val false [.int .i64]]
def rs52 : List RP := [{ src := .tmp 4, agg := false, ps := [.int .i64] }]
noncomputable def sl52 : SemL := []
def D52 : Draws := fun _ => .nil
def hp52_0 : List (Option AP) := [some (.val false [.shr (.cons .str .nil)]), some (.val false [.int .i64]), none, none, none, some (.val false [.int .i64]), none, none, none, none, none, none, none, none, none, none, none, none, none, none, none, none, none, none, none, none, none, none]
def e52_0 : List (Option AP) := [none, some (.val false [.int .i64]), none, none, none, none, none, none, none, none, none, none, none, none, none, none, none, none, none, none, none, none, none, none, none, none, none, none]
def q52_0 : List (Option AP) := [none, none, none, none, some (.val false [.int .i64]), none, none, none, none, none, none, none, none, none, none, none, none, none, none, none, none, none, none, none, none, none, none, none]
abbrev H52_0 : Type := (List (ByteArray × Unit)) × Int × Int × Unit
abbrev E52_0 : Type := Int × Unit
abbrev Q52_0 : Type := Int × Unit
noncomputable def laws_szStringS_c0 (a0 : List (ByteArray × Unit)) (left1 : Int) (i5 : Int) : Option (Sum H52_0 (Sum E52_0 Q52_0)) :=
  bif decide (i5 < ((List.length a0 : Nat) : Int)) then
    bif decide ((0 : Int) ≤ i5) then Option.bind ((a0)[Int.toNat i5]?) fun r1 =>
      bif decide (IntKind.i64.wrap (left1 - ((ByteArray.size r1.1 : Nat) : Int)) < (0 : Int)) then
        some (.inr (.inr ((-1 : Int), ())))
      else
        some (.inl (a0, IntKind.i64.wrap (left1 - ((ByteArray.size r1.1 : Nat) : Int)), IntKind.i64.wrap (i5 + (1 : Int)), ()))
    else none
  else
    some (.inr (.inl (left1, ())))
noncomputable def laws_szStringS_r0 (x : H52_0) : Option (Sum H52_0 (Sum E52_0 Q52_0)) := laws_szStringS_c0 x.1 x.2.1 x.2.2.1
noncomputable def L52 {R : Type} : Loops R := fun id _ st k => bif Nat.beq id 0 then loopAt hp52_0 e52_0 q52_0 laws_szStringS_r0 st k else none
noncomputable def laws_szStringS (a0 : List (ByteArray × Unit)) (left1 : Int) : Option (Int × Unit) :=
  bif decide (IntKind.i64.wrap (left1 - ((List.length a0 : Nat) : Int)) < (0 : Int)) then
    some ((-1 : Int), ())
  else
    outK (loopV laws_szStringS_r0 (a0, IntKind.i64.wrap (left1 - ((List.length a0 : Nat) : Int)), (0 : Int), ())) (fun y1 =>
      some (y1.1, ())) (fun y2 =>
      some (y2.1, ()))
noncomputable def x52 (x : (List (ByteArray × Unit)) × Int × Unit) : Option (Int × Unit) := laws_szStringS x.1 x.2.1
noncomputable def sem52 : Sem1 := semOf ps52 rs52 x52
theorem so52 : SemsOk Try.prog (semsOf sl52) := sems_nil
noncomputable def b52_0 : Code := nthLoop code52 0
theorem t52_r0_eq (x : denR (headRT hp52_0)) : codeK (tabOf tr) (semsOf sl52) D52 L52 b52_0 (headSt hp52_0 x) (roundK 0 hp52_0 e52_0 q52_0) = laws_szStringS_r0 x := by kernel_rfl
theorem loop52_0 {R : Type} (r : R) (w0 : World) (mu : Mu) (hs : AnShape ps52 mu) : LoopAt Try.prog w0 mu 28 (L52 : Loops R) r 0 b52_0 :=
  loop_auto tr_ok eq_ok mixed_ok so52 (D := D52) hs (by kernel_rfl) (fun _ => (loops_of (l := []) (by kernel_rfl) (List.forall_mem_nil _))) t52_r0_eq (fun _ _ => rfl)
theorem t52_eq (x : denR (headRT (ps52.map some))) : codeK (tabOf tr) (semsOf sl52) D52 L52 code52 (start 28 ps52 x) (finK rs52 ps52) = x52 x := by kernel_rfl
theorem k52 : Known Try.prog 52 sem52 :=
  fn_auto tr_ok eq_ok mixed_ok so52 (D := D52) (code := code52) (n := 28) Try.func52 (by kernel_rfl) (by kernel_rfl) (by kernel_rfl) (fun w0 mu _ hs => (loops_of (l := [(0, b52_0)]) (by kernel_rfl) (List.forall_mem_cons.2 ⟨loop52_0 _ w0 mu hs, (List.forall_mem_nil _)⟩))) t52_eq

/-! ### f54: laws.toStringS -/
noncomputable def code54 : Code := match Try.f54.body with | some c => c | none => .skip
def ps54 : List AP := [.val false [.shr (.cons .str .nil)]]
def rs54 : List RP := [{ src := .tmp 2, agg := false, ps := [.own (.cons .str .nil)] }]
noncomputable def sl54 : SemL := []
def D54 : Draws := fun _ => .nil
def hp54_0 : List (Option AP) := [some (.val false [.shr (.cons .str .nil)]), none, none, some (.val false [.own (.cons .str .nil)]), some (.val false [.int .i64]), none, none, none, none, none, none, none, none, none, none, none, none, none, none, none, none, none]
def e54_0 : List (Option AP) := [none, none, none, some (.val false [.own (.cons .str .nil)]), none, none, none, none, none, none, none, none, none, none, none, none, none, none, none, none, none, none]
def q54_0 : List (Option AP) := [none, none, none, none, none, none, none, none, none, none, none, none, none, none, none, none, none, none, none, none, none, none]
abbrev H54_0 : Type := (List (ByteArray × Unit)) × (List (ByteArray × Unit)) × Int × Unit
abbrev E54_0 : Type := (List (ByteArray × Unit)) × Unit
abbrev Q54_0 : Type := Unit
noncomputable def laws_toStringS_c0 (a0 : List (ByteArray × Unit)) (out3 : List (ByteArray × Unit)) (i4 : Int) : Option (Sum H54_0 (Sum E54_0 Q54_0)) :=
  bif decide (i4 < ((List.length a0 : Nat) : Int)) then
    bif decide ((0 : Int) ≤ i4) then Option.bind ((a0)[Int.toNat i4]?) fun r1 =>
      bif decide ((0 : Int) ≤ i4) then bif Nat.blt (Int.toNat i4) (List.length out3) then Option.bind ((out3)[Int.toNat i4]?) fun r2 =>
          some (.inl (a0, List.set out3 (Int.toNat i4) (r1.1, ()), IntKind.i64.wrap (i4 + (1 : Int)), ()))
        else none
      else none
    else none
  else
    some (.inr (.inl (out3, ())))
noncomputable def laws_toStringS_r0 (x : H54_0) : Option (Sum H54_0 (Sum E54_0 Q54_0)) := laws_toStringS_c0 x.1 x.2.1 x.2.2.1
noncomputable def L54 {R : Type} : Loops R := fun id _ st k => bif Nat.beq id 0 then loopAt hp54_0 e54_0 q54_0 laws_toStringS_r0 st k else none
noncomputable def laws_toStringS (a0 : List (ByteArray × Unit)) : Option ((List (ByteArray × Unit)) × Unit) :=
  bif decide (((List.length a0 : Nat) : Int) = ((List.length a0 : Nat) : Int)) then bif decide ((0 : Int) ≤ ((List.length a0 : Nat) : Int)) then bif Nat.ble ((Int.toNat ((List.length a0 : Nat) : Int)) * 16) lim then outK (loopV laws_toStringS_r0 (a0, List.replicate (Int.toNat ((List.length a0 : Nat) : Int)) (ByteArray.empty, ()), (0 : Int), ())) (fun y1 =>
          some (y1.1, ())) (fun y2 =>
          none)
      else none
    else none
  else none
noncomputable def x54 (x : (List (ByteArray × Unit)) × Unit) : Option ((List (ByteArray × Unit)) × Unit) := laws_toStringS x.1
noncomputable def sem54 : Sem1 := semOf ps54 rs54 x54
theorem so54 : SemsOk Try.prog (semsOf sl54) := sems_nil
noncomputable def b54_0 : Code := nthLoop code54 0
theorem t54_r0_eq (x : denR (headRT hp54_0)) : codeK (tabOf tr) (semsOf sl54) D54 L54 b54_0 (headSt hp54_0 x) (roundK 0 hp54_0 e54_0 q54_0) = laws_toStringS_r0 x := by kernel_rfl
theorem loop54_0 {R : Type} (r : R) (w0 : World) (mu : Mu) (hs : AnShape ps54 mu) : LoopAt Try.prog w0 mu 22 (L54 : Loops R) r 0 b54_0 :=
  loop_auto tr_ok eq_ok mixed_ok so54 (D := D54) hs (by kernel_rfl) (fun _ => (loops_of (l := []) (by kernel_rfl) (List.forall_mem_nil _))) t54_r0_eq (fun _ _ => rfl)
theorem t54_eq (x : denR (headRT (ps54.map some))) : codeK (tabOf tr) (semsOf sl54) D54 L54 code54 (start 22 ps54 x) (finK rs54 ps54) = x54 x := by kernel_rfl
theorem k54 : Known Try.prog 54 sem54 :=
  fn_auto tr_ok eq_ok mixed_ok so54 (D := D54) (code := code54) (n := 22) Try.func54 (by kernel_rfl) (by kernel_rfl) (by kernel_rfl) (fun w0 mu _ hs => (loops_of (l := [(0, b54_0)]) (by kernel_rfl) (List.forall_mem_cons.2 ⟨loop54_0 _ w0 mu hs, (List.forall_mem_nil _)⟩))) t54_eq

/-! ### f56: laws.eqStringS -/
noncomputable def code56 : Code := match Try.f56.body with | some c => c | none => .skip
def ps56 : List AP := [.val false [.shr (.cons .str .nil)], .val false [.shr (.cons .str .nil)]]
def rs56 : List RP := [{ src := .tmp 4, agg := false, ps := [.bool] }]
noncomputable def sl56 : SemL := []
def D56 : Draws := fun id => bif Nat.beq id 6 then .op 0 .any (.op 1 .any (.op 2 .any (.op 3 .take (.op 4 .any (.op 5 .any (.op 6 .any (.op 7 .take (.op 8 .any (.nil))))))))) else .nil
def hp56_0 : List (Option AP) := [some (.val false [.shr (.cons .str .nil)]), some (.val false [.shr (.cons .str .nil)]), none, none, none, some (.val false [.int .i64]), none, none, none, none, none, none, none, none, none, none, none, none, none, none, none, none, none, none, none, none]
def e56_0 : List (Option AP) := [none, none, none, none, none, none, none, none, none, none, none, none, none, none, none, none, none, none, none, none, none, none, none, none, none, none]
def q56_0 : List (Option AP) := [none, none, none, none, some (.val false [.bool]), none, none, none, none, none, none, none, none, none, none, none, none, none, none, none, none, none, none, none, none, none]
abbrev H56_0 : Type := (List (ByteArray × Unit)) × (List (ByteArray × Unit)) × Int × Unit
abbrev E56_0 : Type := Unit
abbrev Q56_0 : Type := Bool × Unit
noncomputable def laws_eqStringS_c0 (a0 : List (ByteArray × Unit)) (b1 : List (ByteArray × Unit)) (i5 : Int) : Option (Sum H56_0 (Sum E56_0 Q56_0)) :=
  bif decide (i5 < ((List.length a0 : Nat) : Int)) then
    bif decide ((0 : Int) ≤ i5) then Option.bind ((a0)[Int.toNat i5]?) fun r1 =>
      bif decide ((0 : Int) ≤ i5) then Option.bind ((b1)[Int.toNat i5]?) fun r2 =>
        bif !strEq r1.1 r2.1 then
          some (.inr (.inr (false, ())))
        else
          some (.inl (a0, b1, IntKind.i64.wrap (i5 + (1 : Int)), ()))
      else none
    else none
  else
    some (.inr (.inl (())))
noncomputable def laws_eqStringS_r0 (x : H56_0) : Option (Sum H56_0 (Sum E56_0 Q56_0)) := laws_eqStringS_c0 x.1 x.2.1 x.2.2.1
noncomputable def L56 {R : Type} : Loops R := fun id _ st k => bif Nat.beq id 0 then loopAt hp56_0 e56_0 q56_0 laws_eqStringS_r0 st k else none
noncomputable def laws_eqStringS (a0 : List (ByteArray × Unit)) (b1 : List (ByteArray × Unit)) : Option (Bool × Unit) :=
  bif !decide (((List.length a0 : Nat) : Int) = ((List.length b1 : Nat) : Int)) then
    some (false, ())
  else
    outK (loopV laws_eqStringS_r0 (a0, b1, (0 : Int), ())) (fun y1 =>
      some (true, ())) (fun y2 =>
      some (y2.1, ()))
noncomputable def x56 (x : (List (ByteArray × Unit)) × (List (ByteArray × Unit)) × Unit) : Option (Bool × Unit) := laws_eqStringS x.1 x.2.1
noncomputable def sem56 : Sem1 := semOf ps56 rs56 x56
theorem so56 : SemsOk Try.prog (semsOf sl56) := sems_nil
noncomputable def b56_0 : Code := nthLoop code56 0
theorem t56_r0_eq (x : denR (headRT hp56_0)) : codeK (tabOf tr) (semsOf sl56) D56 L56 b56_0 (headSt hp56_0 x) (roundK 0 hp56_0 e56_0 q56_0) = laws_eqStringS_r0 x := by kernel_rfl
theorem loop56_0 {R : Type} (r : R) (w0 : World) (mu : Mu) (hs : AnShape ps56 mu) : LoopAt Try.prog w0 mu 26 (L56 : Loops R) r 0 b56_0 :=
  loop_auto tr_ok eq_ok mixed_ok so56 (D := D56) hs (by kernel_rfl) (fun _ => (loops_of (l := []) (by kernel_rfl) (List.forall_mem_nil _))) t56_r0_eq (fun _ _ => rfl)
theorem t56_eq (x : denR (headRT (ps56.map some))) : codeK (tabOf tr) (semsOf sl56) D56 L56 code56 (start 26 ps56 x) (finK rs56 ps56) = x56 x := by kernel_rfl
theorem k56 : Known Try.prog 56 sem56 :=
  fn_auto tr_ok eq_ok mixed_ok so56 (D := D56) (code := code56) (n := 26) Try.func56 (by kernel_rfl) (by kernel_rfl) (by kernel_rfl) (fun w0 mu _ hs => (loops_of (l := [(0, b56_0)]) (by kernel_rfl) (List.forall_mem_cons.2 ⟨loop56_0 _ w0 mu hs, (List.forall_mem_nil _)⟩))) t56_eq

/-! ### f58: laws.markStringS -/
noncomputable def code58 : Code := match Try.f58.body with | some c => c | none => .skip
def ps58 : List AP := [.io (.cons .str .nil), .val false [.int .i64]]
def rs58 : List RP := [{ src := .tmp 4, agg := false, ps := [.int .i64] }]
noncomputable def sl58 : SemL := [(102, (.shr, .shr, .shr, sem102))]
def D58 : Draws := fun _ => .nil
def hp58_0 : List (Option AP) := [some (.io (.cons .str .nil)), some (.val false [.int .i64]), none, none, none, some (.val false [.int .i64]), none, none, none, none, none, none, none, none, none, none, none, none, none, none]
def e58_0 : List (Option AP) := [some (.io (.cons .str .nil)), some (.val false [.int .i64]), none, none, none, none, none, none, none, none, none, none, none, none, none, none, none, none, none, none]
def q58_0 : List (Option AP) := [none, none, none, none, none, none, none, none, none, none, none, none, none, none, none, none, none, none, none, none]
abbrev H58_0 : Type := (List (ByteArray × Unit)) × Int × Int × Unit
abbrev E58_0 : Type := (List (ByteArray × Unit)) × Int × Unit
abbrev Q58_0 : Type := Unit
noncomputable def laws_markStringS_c0 (a0 : List (ByteArray × Unit)) (k1 : Int) (i5 : Int) : Option (Sum H58_0 (Sum E58_0 Q58_0)) :=
  bif decide (i5 < ((List.length a0 : Nat) : Int)) then
    Option.bind (laws_markText k1) fun y1 =>
    bif decide ((0 : Int) ≤ i5) then bif Nat.blt (Int.toNat i5) (List.length a0) then Option.bind ((a0)[Int.toNat i5]?) fun r2 =>
        some (.inl (List.set a0 (Int.toNat i5) (y1.1, ()), IntKind.i64.wrap (k1 + (1 : Int)), IntKind.i64.wrap (i5 + (1 : Int)), ()))
      else none
    else none
  else
    some (.inr (.inl (a0, k1, ())))
noncomputable def laws_markStringS_r0 (x : H58_0) : Option (Sum H58_0 (Sum E58_0 Q58_0)) := laws_markStringS_c0 x.1 x.2.1 x.2.2.1
noncomputable def L58 {R : Type} : Loops R := fun id _ st k => bif Nat.beq id 0 then loopAt hp58_0 e58_0 q58_0 laws_markStringS_r0 st k else none
noncomputable def laws_markStringS (a0 : List (ByteArray × Unit)) (k1 : Int) : Option (Int × (List (ByteArray × Unit)) × Unit) :=
  outK (loopV laws_markStringS_r0 (a0, k1, (0 : Int), ())) (fun y1 =>
    some (y1.2.1, y1.1, ())) (fun y2 =>
    none)
noncomputable def x58 (x : (List (ByteArray × Unit)) × Int × Unit) : Option (Int × (List (ByteArray × Unit)) × Unit) := laws_markStringS x.1 x.2.1
noncomputable def sem58 : Sem1 := semOf ps58 rs58 x58
theorem so58 : SemsOk Try.prog (semsOf sl58) := sems_cons k102 (sems_nil)
noncomputable def b58_0 : Code := nthLoop code58 0
theorem t58_r0_eq (x : denR (headRT hp58_0)) : codeK (tabOf tr) (semsOf sl58) D58 L58 b58_0 (headSt hp58_0 x) (roundK 0 hp58_0 e58_0 q58_0) = laws_markStringS_r0 x := by kernel_rfl
theorem loop58_0 {R : Type} (r : R) (w0 : World) (mu : Mu) (hs : AnShape ps58 mu) : LoopAt Try.prog w0 mu 20 (L58 : Loops R) r 0 b58_0 :=
  loop_auto tr_ok eq_ok mixed_ok so58 (D := D58) hs (by kernel_rfl) (fun _ => (loops_of (l := []) (by kernel_rfl) (List.forall_mem_nil _))) t58_r0_eq (fun _ _ => rfl)
theorem t58_eq (x : denR (headRT (ps58.map some))) : codeK (tabOf tr) (semsOf sl58) D58 L58 code58 (start 20 ps58 x) (finK rs58 ps58) = x58 x := by kernel_rfl
theorem k58 : Known Try.prog 58 sem58 :=
  fn_auto tr_ok eq_ok mixed_ok so58 (D := D58) (code := code58) (n := 20) Try.func58 (by kernel_rfl) (by kernel_rfl) (by kernel_rfl) (fun w0 mu _ hs => (loops_of (l := [(0, b58_0)]) (by kernel_rfl) (List.forall_mem_cons.2 ⟨loop58_0 _ w0 mu hs, (List.forall_mem_nil _)⟩))) t58_eq

/-! ### f73: laws.heldIntS -/
noncomputable def code73 : Code := match Try.f73.body with | some c => c | none => .skip
def ps73 : List AP := [.val false [.shr (.cons (.int .i64) .nil)], .val false [.int .i64]]
def rs73 : List RP := [{ src := .tmp 4, agg := false, ps := [.int .i64] }]
noncomputable def sl73 : SemL := []
def D73 : Draws := fun _ => .nil
def hp73_0 : List (Option AP) := [some (.val false [.shr (.cons (.int .i64) .nil)]), some (.val false [.int .i64]), none, none, none, some (.val false [.int .i64]), none, none, none, none, none, none, none, none, none, none, none, none, none, none, none]
def e73_0 : List (Option AP) := [none, some (.val false [.int .i64]), none, none, none, none, none, none, none, none, none, none, none, none, none, none, none, none, none, none, none]
def q73_0 : List (Option AP) := [none, none, none, none, some (.val false [.int .i64]), none, none, none, none, none, none, none, none, none, none, none, none, none, none, none, none]
abbrev H73_0 : Type := (List (Int × Unit)) × Int × Int × Unit
abbrev E73_0 : Type := Int × Unit
abbrev Q73_0 : Type := Int × Unit
noncomputable def laws_heldIntS_c0 (a0 : List (Int × Unit)) (k1 : Int) (i5 : Int) : Option (Sum H73_0 (Sum E73_0 Q73_0)) :=
  bif decide (i5 < ((List.length a0 : Nat) : Int)) then
    bif decide ((0 : Int) ≤ i5) then Option.bind ((a0)[Int.toNat i5]?) fun r1 =>
      bif !decide (r1.1 = k1) then
        some (.inr (.inr ((-1 : Int), ())))
      else
        some (.inl (a0, IntKind.i64.wrap (k1 + (1 : Int)), IntKind.i64.wrap (i5 + (1 : Int)), ()))
    else none
  else
    some (.inr (.inl (k1, ())))
noncomputable def laws_heldIntS_r0 (x : H73_0) : Option (Sum H73_0 (Sum E73_0 Q73_0)) := laws_heldIntS_c0 x.1 x.2.1 x.2.2.1
noncomputable def L73 {R : Type} : Loops R := fun id _ st k => bif Nat.beq id 0 then loopAt hp73_0 e73_0 q73_0 laws_heldIntS_r0 st k else none
noncomputable def laws_heldIntS (a0 : List (Int × Unit)) (k1 : Int) : Option (Int × Unit) :=
  outK (loopV laws_heldIntS_r0 (a0, k1, (0 : Int), ())) (fun y1 =>
    some (y1.1, ())) (fun y2 =>
    some (y2.1, ()))
noncomputable def x73 (x : (List (Int × Unit)) × Int × Unit) : Option (Int × Unit) := laws_heldIntS x.1 x.2.1
noncomputable def sem73 : Sem1 := semOf ps73 rs73 x73
theorem so73 : SemsOk Try.prog (semsOf sl73) := sems_nil
noncomputable def b73_0 : Code := nthLoop code73 0
theorem t73_r0_eq (x : denR (headRT hp73_0)) : codeK (tabOf tr) (semsOf sl73) D73 L73 b73_0 (headSt hp73_0 x) (roundK 0 hp73_0 e73_0 q73_0) = laws_heldIntS_r0 x := by kernel_rfl
theorem loop73_0 {R : Type} (r : R) (w0 : World) (mu : Mu) (hs : AnShape ps73 mu) : LoopAt Try.prog w0 mu 21 (L73 : Loops R) r 0 b73_0 :=
  loop_auto tr_ok eq_ok mixed_ok so73 (D := D73) hs (by kernel_rfl) (fun _ => (loops_of (l := []) (by kernel_rfl) (List.forall_mem_nil _))) t73_r0_eq (fun _ _ => rfl)
theorem t73_eq (x : denR (headRT (ps73.map some))) : codeK (tabOf tr) (semsOf sl73) D73 L73 code73 (start 21 ps73 x) (finK rs73 ps73) = x73 x := by kernel_rfl
theorem k73 : Known Try.prog 73 sem73 :=
  fn_auto tr_ok eq_ok mixed_ok so73 (D := D73) (code := code73) (n := 21) Try.func73 (by kernel_rfl) (by kernel_rfl) (by kernel_rfl) (fun w0 mu _ hs => (loops_of (l := [(0, b73_0)]) (by kernel_rfl) (List.forall_mem_cons.2 ⟨loop73_0 _ w0 mu hs, (List.forall_mem_nil _)⟩))) t73_eq

/-! ### f59: laws.heldToken -/
noncomputable def code59 : Code := match Try.f59.body with | some c => c | none => .skip
def ps59 : List AP := [.val true [.int .i64, .int .i64, .int .i64, .int .i64, .int .i64, .shr (.cons (.int .i64) .nil)], .val false [.int .i64]]
def rs59 : List RP := [{ src := .tmp 4, agg := false, ps := [.int .i64] }]
noncomputable def sl59 : SemL := [(73, (.shr, .shr, .shr, sem73))]
def D59 : Draws := fun _ => .nil
noncomputable def L59 {R : Type} : Loops R := fun _ _ _ _ => none
noncomputable def laws_heldToken (a0c0 : Int) (a0c1 : Int) (a0c2 : Int) (a0c3 : Int) (a0c4 : Int) (a0c5 : List (Int × Unit)) (k1 : Int) : Option (Int × Unit) :=
  Option.bind (laws_heldIntS a0c5 k1) fun y1 =>
  bif decide (y1.1 < (0 : Int)) then
    some ((-1 : Int), ())
  else
    some (y1.1, ())
noncomputable def x59 (x : Int × Int × Int × Int × Int × (List (Int × Unit)) × Int × Unit) : Option (Int × Unit) := laws_heldToken x.1 x.2.1 x.2.2.1 x.2.2.2.1 x.2.2.2.2.1 x.2.2.2.2.2.1 x.2.2.2.2.2.2.1
noncomputable def sem59 : Sem1 := semOf ps59 rs59 x59
theorem so59 : SemsOk Try.prog (semsOf sl59) := sems_cons k73 (sems_nil)
theorem t59_eq (x : denR (headRT (ps59.map some))) : codeK (tabOf tr) (semsOf sl59) D59 L59 code59 (start 12 ps59 x) (finK rs59 ps59) = x59 x := by kernel_rfl
theorem k59 : Known Try.prog 59 sem59 :=
  fn_auto tr_ok eq_ok mixed_ok so59 (D := D59) (code := code59) (n := 12) Try.func59 (by kernel_rfl) (by kernel_rfl) (by kernel_rfl) (fun w0 mu _ hs => (loops_of (l := []) (by kernel_rfl) (List.forall_mem_nil _))) t59_eq

/-! ### f8: laws.FnExactNumber -/
noncomputable def code8 : Code := match Try.f8.body with | some c => c | none => .skip
def ps8 : List AP := [.val true [.int .i64, .int .i64, .int .i64, .int .i64, .int .i64, .shr (.cons (.int .i64) .nil)], .val false [.int .i64], .val false [.shr (.cons (.int .i64) .nil)], .val false [.shr (.cons .str .nil)]]
def rs8 : List RP := [{ src := .tmp 8, agg := false, ps := [.bool] }]
noncomputable def sl8 : SemL := [(22, (.shr, .shr, .shr, sem22)), (52, (.shr, .shr, .shr, sem52)), (25, (.shr, .shr, .shr, sem25)), (53, (.shr, .shr, .shr, sem53)), (54, (.shr, .shr, .shr, sem54)), (18, (.shr, .shr, .shr, sem18)), (17, (.shr, .shr, .shr, sem17)), (29, (.shr, .shr, .shr, sem29)), (28, (.shr, .shr, .shr, sem28)), (55, (.shr, .shr, .shr, sem55)), (56, (.shr, .shr, .shr, sem56)), (30, (.lend, .shr, .shr, sem30)), (57, (.io, .shr, .shr, sem57)), (58, (.io, .shr, .shr, sem58)), (31, (.io, .shr, .shr, sem31)), (59, (.shr, .shr, .shr, sem59)), (32, (.shr, .shr, .shr, sem32))]
def D8 : Draws := fun id => bif Nat.beq id 17 then .op 0 .take (.op 1 .take (.op 2 .one (.op 3 .one (.op 4 .any (.nil))))) else .nil
noncomputable def L8 {R : Type} : Loops R := fun _ _ _ _ => none
noncomputable def laws_FnExactNumber (aT0c0 : Int) (aT0c1 : Int) (aT0c2 : Int) (aT0c3 : Int) (aT0c4 : Int) (aT0c5 : List (Int × Unit)) (aFrom1 : Int) (aLevel2 : List (Int × Unit)) (aTexts3 : List (ByteArray × Unit)) : Option (Bool × Unit) :=
  bif decide ((1048576 : Int) < ((List.length aLevel2 : Nat) : Int)) then
    some (true, ())
  else
    Option.bind (laws_szToken aT0c0 aT0c1 aT0c2 aT0c3 aT0c4 aT0c5 (1048576 : Int)) fun y1 =>
    bif decide (y1.1 < (0 : Int)) then
      some (true, ())
    else
      Option.bind (laws_szStringS aTexts3 y1.1) fun y2 =>
      bif decide (y2.1 < (0 : Int)) then
        some (true, ())
      else
        Option.bind (laws_toToken aT0c0 aT0c1 aT0c2 aT0c3 aT0c4 aT0c5) fun y3 =>
        Option.bind (laws_toIntS aLevel2) fun y4 =>
        Option.bind (laws_toStringS aTexts3) fun y5 =>
        Option.bind (spec_Number y3.1 y3.2.1 y3.2.2.1 y3.2.2.2.1 y3.2.2.2.2.1 y3.2.2.2.2.2.1 aFrom1 y4.1 y5.1) fun y6 =>
        Option.bind (laws_toToken aT0c0 aT0c1 aT0c2 aT0c3 aT0c4 aT0c5) fun y7 =>
        Option.bind (laws_toIntS aLevel2) fun y8 =>
        Option.bind (laws_toStringS aTexts3) fun y9 =>
        Option.bind (impl_Number y7.1 y7.2.1 y7.2.2.1 y7.2.2.2.1 y7.2.2.2.2.1 y7.2.2.2.2.2.1 aFrom1 y8.1 y9.1) fun y10 =>
        Option.bind (laws_eqToken y10.1 y10.2.1 y10.2.2.1 y10.2.2.2.1 y10.2.2.2.2.1 y10.2.2.2.2.2.1 y6.1 y6.2.1 y6.2.2.1 y6.2.2.2.1 y6.2.2.2.2.1 y6.2.2.2.2.2.1) fun y11 =>
        bif !y11.1 then
          some (false, ())
        else
          Option.bind (laws_eqItemS y10.2.2.2.2.2.2.1 y6.2.2.2.2.2.2.1) fun y12 =>
          bif !y12.1 then
            some (false, ())
          else
            Option.bind (laws_toToken aT0c0 aT0c1 aT0c2 aT0c3 aT0c4 aT0c5) fun y13 =>
            Option.bind (laws_eqToken y7.1 y7.2.1 y7.2.2.1 y7.2.2.2.1 y7.2.2.2.2.1 y7.2.2.2.2.2.1 y13.1 y13.2.1 y13.2.2.1 y13.2.2.2.1 y13.2.2.2.2.1 y13.2.2.2.2.2.1) fun y14 =>
            bif !y14.1 then
              some (false, ())
            else
              Option.bind (laws_toIntS aLevel2) fun y15 =>
              Option.bind (laws_eqIntS y8.1 y15.1) fun y16 =>
              bif !y16.1 then
                some (false, ())
              else
                Option.bind (laws_toStringS aTexts3) fun y17 =>
                Option.bind (laws_eqStringS y9.1 y17.1) fun y18 =>
                bif !y18.1 then
                  some (false, ())
                else
                  Option.bind (laws_markToken y7.1 y7.2.1 y7.2.2.1 y7.2.2.2.1 y7.2.2.2.2.1 y7.2.2.2.2.2.1 (1 : Int)) fun y19 =>
                  Option.bind (laws_markIntS y8.1 y19.1) fun y20 =>
                  Option.bind (laws_markStringS y9.1 y20.1) fun y21 =>
                  bif decide (y21.1 < (0 : Int)) then
                    some (false, ())
                  else
                    Option.bind (laws_eqToken y10.1 y10.2.1 y10.2.2.1 y10.2.2.2.1 y10.2.2.2.2.1 y10.2.2.2.2.2.1 y6.1 y6.2.1 y6.2.2.1 y6.2.2.2.1 y6.2.2.2.2.1 y6.2.2.2.2.2.1) fun y22 =>
                    bif !y22.1 then
                      some (false, ())
                    else
                      Option.bind (laws_eqItemS y10.2.2.2.2.2.2.1 y6.2.2.2.2.2.2.1) fun y23 =>
                      bif !y23.1 then
                        some (false, ())
                      else
                        Option.bind (laws_markToken y10.1 y10.2.1 y10.2.2.1 y10.2.2.2.1 y10.2.2.2.2.1 y10.2.2.2.2.2.1 (1 : Int)) fun y24 =>
                        Option.bind (laws_markItemS y10.2.2.2.2.2.2.1 y24.1) fun y25 =>
                        Option.bind (laws_heldToken y10.1 y10.2.1 y10.2.2.1 y10.2.2.2.1 y10.2.2.2.2.1 y24.2.1 (1 : Int)) fun y26 =>
                        bif decide (y26.1 < (0 : Int)) then
                          some (false, ())
                        else
                          Option.bind (laws_heldItemS y25.2.1 y26.1) fun y27 =>
                          bif decide (y27.1 < (0 : Int)) then
                            some (false, ())
                          else bif !decide (y27.1 = y25.1) then
                            some (false, ())
                          else
                            Option.bind (laws_toToken aT0c0 aT0c1 aT0c2 aT0c3 aT0c4 aT0c5) fun y28 =>
                            Option.bind (laws_toIntS aLevel2) fun y29 =>
                            Option.bind (laws_toStringS aTexts3) fun y30 =>
                            Option.bind (impl_Number y28.1 y28.2.1 y28.2.2.1 y28.2.2.2.1 y28.2.2.2.2.1 y28.2.2.2.2.2.1 aFrom1 y29.1 y30.1) fun y31 =>
                            Option.bind (laws_eqToken y31.1 y31.2.1 y31.2.2.1 y31.2.2.2.1 y31.2.2.2.2.1 y31.2.2.2.2.2.1 y6.1 y6.2.1 y6.2.2.1 y6.2.2.2.1 y6.2.2.2.2.1 y6.2.2.2.2.2.1) fun y32 =>
                            bif !y32.1 then
                              some (false, ())
                            else
                              Option.bind (laws_eqItemS y31.2.2.2.2.2.2.1 y6.2.2.2.2.2.2.1) fun y33 =>
                              bif !y33.1 then
                                some (false, ())
                              else
                                Option.bind (laws_heldToken y10.1 y10.2.1 y10.2.2.1 y10.2.2.2.1 y10.2.2.2.2.1 y24.2.1 (1 : Int)) fun y34 =>
                                bif decide (y34.1 < (0 : Int)) then
                                  some (false, ())
                                else
                                  Option.bind (laws_heldItemS y25.2.1 y34.1) fun y35 =>
                                  bif decide (y35.1 < (0 : Int)) then
                                    some (false, ())
                                  else bif !decide (y35.1 = y25.1) then
                                    some (false, ())
                                  else
                                    some (true, ())
noncomputable def x8 (x : Int × Int × Int × Int × Int × (List (Int × Unit)) × Int × (List (Int × Unit)) × (List (ByteArray × Unit)) × Unit) : Option (Bool × Unit) := laws_FnExactNumber x.1 x.2.1 x.2.2.1 x.2.2.2.1 x.2.2.2.2.1 x.2.2.2.2.2.1 x.2.2.2.2.2.2.1 x.2.2.2.2.2.2.2.1 x.2.2.2.2.2.2.2.2.1
noncomputable def sem8 : Sem1 := semOf ps8 rs8 x8
theorem so8 : SemsOk Try.prog (semsOf sl8) := sems_cons k22 (sems_cons k52 (sems_cons k25 (sems_cons k53 (sems_cons k54 (sems_cons k18 (sems_cons k17 (sems_cons k29 (sems_cons k28 (sems_cons k55 (sems_cons k56 (sems_cons k30 (sems_cons k57 (sems_cons k58 (sems_cons k31 (sems_cons k59 (sems_cons k32 (sems_nil)))))))))))))))))
theorem t8_eq (x : denR (headRT (ps8.map some))) : codeK (tabOf tr) (semsOf sl8) D8 L8 code8 (start 161 ps8 x) (finK rs8 ps8) = x8 x := by kernel_rfl
theorem k8 : Known Try.prog 8 sem8 :=
  fn_auto tr_ok eq_ok mixed_ok so8 (D := D8) (code := code8) (n := 161) Try.func8 (by kernel_rfl) (by kernel_rfl) (by kernel_rfl) (fun w0 mu _ hs => (loops_of (l := []) (by kernel_rfl) (List.forall_mem_nil _))) t8_eq

/-! ### f164: spec.ReadVar -/
noncomputable def code164 : Code := match Try.f164.body with | some c => c | none => .skip
def ps164 : List AP := [.val false [.str], .val false [.int .i64]]
def rs164 : List RP := [{ src := .tmp 4, agg := false, ps := [.int .i64] }, { src := .tmp 5, agg := false, ps := [.int .i64] }, { src := .tmp 6, agg := false, ps := [.bool] }]
noncomputable def sl164 : SemL := [(94, (.shr, .shr, .shr, sem94)), (109, (.shr, .shr, .shr, sem109))]
def D164 : Draws := fun id => bif Nat.beq id 11 then .op 0 .any (.op 1 .any (.op 2 .any (.op 3 .any (.op 5 .any (.op 6 .any (.op 7 .any (.op 8 .any (.op 9 .any (.op 4 .one (.op 10 .any (.op 11 .any (.nil)))))))))))) else .nil
def hp164_0 : List (Option AP) := [some (.val false [.str]), some (.val false [.int .i64]), none, none, none, none, none, some (.val false [.int .i64]), some (.val false [.int .i64]), some (.val false [.int .i64]), none, none, none, none, none, none, none, none, none, none, none, none, none, none, none, none, none, none, none, none, none, none, none, none, none, none, none, none, none, none, none, none, none, none, none, none, none, none, none, none, none, none, none, none, none, none, none, none]
def e164_0 : List (Option AP) := [none, none, none, none, none, none, none, none, none, none, none, none, none, none, none, none, none, none, none, none, none, none, none, none, none, none, none, none, none, none, none, none, none, none, none, none, none, none, none, none, none, none, none, none, none, none, none, none, none, none, none, none, none, none, none, none, none, none]
def q164_0 : List (Option AP) := [none, none, none, none, some (.val false [.int .i64]), some (.val false [.int .i64]), some (.val false [.bool]), none, none, none, none, none, none, none, none, none, none, none, none, none, none, none, none, none, none, none, none, none, none, none, none, none, none, none, none, none, none, none, none, none, none, none, none, none, none, none, none, none, none, none, none, none, none, none, none, none, none, none]
abbrev H164_0 : Type := ByteArray × Int × Int × Int × Int × Unit
abbrev E164_0 : Type := Unit
abbrev Q164_0 : Type := Int × Int × Bool × Unit
noncomputable def spec_ReadVar_c0 (text0 : ByteArray) (at_1 : Int) (n7 : Int) (scale8 : Int) (i9 : Int) : Option (Sum H164_0 (Sum E164_0 Q164_0)) :=
  bif decide (i9 < ((ByteArray.size text0 : Nat) : Int)) then
    bif decide (i9 < IntKind.i64.wrap (at_1 + (5 : Int))) then
      bif decide ((0 : Int) ≤ i9) then bif decide (i9 < ((ByteArray.size text0 : Nat) : Int)) then bif decide ((0 : Int) ≤ i9) then bif decide (i9 < ((ByteArray.size text0 : Nat) : Int)) then bif decide (byteAt text0 i9 < (128 : Int)) then
                bif decide ((1000000000 : Int) < IntKind.i64.wrap (n7 + (IntKind.i64.wrap ((Int.tmod (IntKind.i64.wrap (byteAt text0 i9)) (128 : Int)) * scale8)))) then
                  some (.inr (.inr ((0 : Int), (0 : Int), false, ())))
                else bif decide ((0 : Int) ≤ at_1) then bif decide (((Int.toNat at_1 : Nat) : Int) ≤ IntKind.i64.wrap (i9 + (1 : Int))) then bif decide (IntKind.i64.wrap (i9 + (1 : Int)) ≤ ((ByteArray.size text0 : Nat) : Int)) then Option.bind (spec_l01Var (IntKind.i64.wrap (n7 + (IntKind.i64.wrap ((Int.tmod (IntKind.i64.wrap (byteAt text0 i9)) (128 : Int)) * scale8))))) fun y2 =>
                      bif !strEq y2.1 (ByteArray.extract text0 (Int.toNat at_1) (Int.toNat (IntKind.i64.wrap (i9 + (1 : Int))))) then
                        some (.inr (.inr ((0 : Int), (0 : Int), false, ())))
                      else
                        some (.inr (.inr (IntKind.i64.wrap (n7 + (IntKind.i64.wrap ((Int.tmod (IntKind.i64.wrap (byteAt text0 i9)) (128 : Int)) * scale8))), IntKind.i64.wrap (i9 + (1 : Int)), true, ())))
                    else none
                  else none
                else none
              else
                some (.inl (text0, at_1, IntKind.i64.wrap (n7 + (IntKind.i64.wrap ((Int.tmod (IntKind.i64.wrap (byteAt text0 i9)) (128 : Int)) * scale8))), IntKind.i64.wrap (scale8 * (128 : Int)), IntKind.i64.wrap (i9 + (1 : Int)), ()))
            else none
          else none
        else none
      else none
    else
      some (.inr (.inl (())))
  else
    some (.inr (.inl (())))
noncomputable def spec_ReadVar_r0 (x : H164_0) : Option (Sum H164_0 (Sum E164_0 Q164_0)) := spec_ReadVar_c0 x.1 x.2.1 x.2.2.1 x.2.2.2.1 x.2.2.2.2.1
noncomputable def L164 {R : Type} : Loops R := fun id _ st k => bif Nat.beq id 0 then loopAt hp164_0 e164_0 q164_0 spec_ReadVar_r0 st k else none
noncomputable def spec_ReadVar (text0 : ByteArray) (at_1 : Int) : Option (Int × Int × Bool × Unit) :=
  Option.bind (spec_l01In at_1 (0 : Int) ((ByteArray.size text0 : Nat) : Int)) fun y1 =>
  bif !y1.1 then
    some ((0 : Int), (0 : Int), false, ())
  else
    outK (loopV spec_ReadVar_r0 (text0, at_1, (0 : Int), (1 : Int), at_1, ())) (fun y2 =>
      some ((0 : Int), (0 : Int), false, ())) (fun y3 =>
      some (y3.1, y3.2.1, y3.2.2.1, ()))
noncomputable def x164 (x : ByteArray × Int × Unit) : Option (Int × Int × Bool × Unit) := spec_ReadVar x.1 x.2.1
noncomputable def sem164 : Sem1 := semOf ps164 rs164 x164
theorem so164 : SemsOk Try.prog (semsOf sl164) := sems_cons k94 (sems_cons k109 (sems_nil))
noncomputable def b164_0 : Code := nthLoop code164 0
theorem t164_r0_eq (x : denR (headRT hp164_0)) : codeK (tabOf tr) (semsOf sl164) D164 L164 b164_0 (headSt hp164_0 x) (roundK 0 hp164_0 e164_0 q164_0) = spec_ReadVar_r0 x := by kernel_rfl
theorem loop164_0 {R : Type} (r : R) (w0 : World) (mu : Mu) (hs : AnShape ps164 mu) : LoopAt Try.prog w0 mu 58 (L164 : Loops R) r 0 b164_0 :=
  loop_auto tr_ok eq_ok mixed_ok so164 (D := D164) hs (by kernel_rfl) (fun _ => (loops_of (l := []) (by kernel_rfl) (List.forall_mem_nil _))) t164_r0_eq (fun _ _ => rfl)
theorem t164_eq (x : denR (headRT (ps164.map some))) : codeK (tabOf tr) (semsOf sl164) D164 L164 code164 (start 58 ps164 x) (finK rs164 ps164) = x164 x := by kernel_rfl
theorem k164 : Known Try.prog 164 sem164 :=
  fn_auto tr_ok eq_ok mixed_ok so164 (D := D164) (code := code164) (n := 58) Try.func164 (by kernel_rfl) (by kernel_rfl) (by kernel_rfl) (fun w0 mu _ hs => (loops_of (l := [(0, b164_0)]) (by kernel_rfl) (List.forall_mem_cons.2 ⟨loop164_0 _ w0 mu hs, (List.forall_mem_nil _)⟩))) t164_eq

/-! ### f154: spec.l05Var -/
noncomputable def code154 : Code := match Try.f154.body with | some c => c | none => .skip
def ps154 : List AP := [.box true [.str, .int .i64, .bool]]
def rs154 : List RP := [{ src := .tmp 2, agg := false, ps := [.int .i64] }]
noncomputable def sl154 : SemL := [(164, (.shr, .shr, .shr, sem164))]
def D154 : Draws := fun id => bif Nat.beq id 1 then .op 0 .any (.op 1 .any (.op 2 .any (.op 3 .take (.op 4 .any (.op 5 .any (.op 6 .any (.op 7 .take (.op 8 .one (.op 9 .any (.op 10 .any (.op 11 .any (.op 12 .any (.op 13 .any (.op 14 .any (.op 15 .any (.nil)))))))))))))))) else .nil
noncomputable def L154 {R : Type} : Loops R := fun _ _ _ _ => none
noncomputable def spec_l05Var (c0c0 : ByteArray) (c0c1 : Int) (c0c2 : Bool) : Option (Int × ByteArray × Int × Bool × Unit) :=
  Option.bind (spec_ReadVar c0c0 c0c1) fun y1 =>
  bif c0c2 then
    some ((0 : Int), c0c0, c0c1, true, ())
  else bif !y1.2.2.1 then
    some ((0 : Int), c0c0, c0c1, true, ())
  else
    some (y1.1, c0c0, y1.2.1, c0c2, ())
noncomputable def x154 (x : ByteArray × Int × Bool × Unit) : Option (Int × ByteArray × Int × Bool × Unit) := spec_l05Var x.1 x.2.1 x.2.2.1
noncomputable def sem154 : Sem1 := semOf ps154 rs154 x154
theorem so154 : SemsOk Try.prog (semsOf sl154) := sems_cons k164 (sems_nil)
theorem t154_eq (x : denR (headRT (ps154.map some))) : codeK (tabOf tr) (semsOf sl154) D154 L154 code154 (start 35 ps154 x) (finK rs154 ps154) = x154 x := by kernel_rfl
theorem k154 : Known Try.prog 154 sem154 :=
  fn_auto tr_ok eq_ok mixed_ok so154 (D := D154) (code := code154) (n := 35) Try.func154 (by kernel_rfl) (by kernel_rfl) (by kernel_rfl) (fun w0 mu _ hs => (loops_of (l := []) (by kernel_rfl) (List.forall_mem_nil _))) t154_eq

/-! ### f123: spec.ReadPiece -/
noncomputable def code123 : Code := match Try.f123.body with | some c => c | none => .skip
def ps123 : List AP := [.val false [.str]]
def rs123 : List RP := [{ src := .tmp 2, agg := false, ps := [.int .i64] }, { src := .tmp 3, agg := false, ps := [.int .i64] }, { src := .tmp 4, agg := false, ps := [.int .i64] }, { src := .tmp 5, agg := false, ps := [.str] }, { src := .tmp 6, agg := false, ps := [.bool] }]
noncomputable def sl123 : SemL := [(154, (.shr, .shr, .shr, sem154)), (94, (.shr, .shr, .shr, sem94))]
def D123 : Draws := fun _ => .nil
noncomputable def L123 {R : Type} : Loops R := fun _ _ _ _ => none
noncomputable def spec_ReadPiece (text0 : ByteArray) : Option (Int × Int × Int × ByteArray × Bool × Unit) :=
  Option.bind (spec_l05Var text0 (0 : Int) false) fun y1 =>
  Option.bind (spec_l05Var y1.2.1 y1.2.2.1 y1.2.2.2.1) fun y2 =>
  Option.bind (spec_l05Var y2.2.1 y2.2.2.1 y2.2.2.2.1) fun y3 =>
  bif decide ((0 : Int) ≤ y3.2.2.1) then bif decide (y3.2.2.1 ≤ ((ByteArray.size text0 : Nat) : Int)) then bif y3.2.2.2.1 then
        some ((0 : Int), (0 : Int), (0 : Int), (ByteArray.mk #[]), false, ())
      else bif decide ((100000 : Int) < y1.1) then
        some ((0 : Int), (0 : Int), (0 : Int), (ByteArray.mk #[]), false, ())
      else
        Option.bind (spec_l01In y3.1 (1 : Int) (10 : Int)) fun y4 =>
        bif !y4.1 then
          some ((0 : Int), (0 : Int), (0 : Int), (ByteArray.mk #[]), false, ())
        else bif decide (y3.1 ≤ y2.1) then
          some ((0 : Int), (0 : Int), (0 : Int), (ByteArray.mk #[]), false, ())
        else bif decide ((40 : Int) < ((ByteArray.size (ByteArray.extract text0 (Int.toNat y3.2.2.1) (ByteArray.size text0)) : Nat) : Int)) then
          some ((0 : Int), (0 : Int), (0 : Int), (ByteArray.mk #[]), false, ())
        else bif !(decide (IntKind.i64.wrap (y2.1 + (1 : Int)) = y3.1)) then
          bif !decide (((ByteArray.size (ByteArray.extract text0 (Int.toNat y3.2.2.1) (ByteArray.size text0)) : Nat) : Int) = (40 : Int)) then
            some ((0 : Int), (0 : Int), (0 : Int), (ByteArray.mk #[]), false, ())
          else
            some (y1.1, y2.1, y3.1, ByteArray.extract text0 (Int.toNat y3.2.2.1) (ByteArray.size text0), true, ())
        else
          some (y1.1, y2.1, y3.1, ByteArray.extract text0 (Int.toNat y3.2.2.1) (ByteArray.size text0), true, ())
    else none
  else none
noncomputable def x123 (x : ByteArray × Unit) : Option (Int × Int × Int × ByteArray × Bool × Unit) := spec_ReadPiece x.1
noncomputable def sem123 : Sem1 := semOf ps123 rs123 x123
theorem so123 : SemsOk Try.prog (semsOf sl123) := sems_cons k154 (sems_cons k94 (sems_nil))
theorem t123_eq (x : denR (headRT (ps123.map some))) : codeK (tabOf tr) (semsOf sl123) D123 L123 code123 (start 68 ps123 x) (finK rs123 ps123) = x123 x := by kernel_rfl
theorem k123 : Known Try.prog 123 sem123 :=
  fn_auto tr_ok eq_ok mixed_ok so123 (D := D123) (code := code123) (n := 68) Try.func123 (by kernel_rfl) (by kernel_rfl) (by kernel_rfl) (fun w0 mu _ hs => (loops_of (l := []) (by kernel_rfl) (List.forall_mem_nil _))) t123_eq

/-! ### f61: laws.heldStringS -/
noncomputable def code61 : Code := match Try.f61.body with | some c => c | none => .skip
def ps61 : List AP := [.val false [.shr (.cons .str .nil)], .val false [.int .i64]]
def rs61 : List RP := [{ src := .tmp 4, agg := false, ps := [.int .i64] }]
noncomputable def sl61 : SemL := [(102, (.shr, .shr, .shr, sem102))]
def D61 : Draws := fun id => bif Nat.beq id 4 then .op 0 .any (.op 1 .any (.op 2 .any (.op 3 .take (.op 4 .any (.op 5 .one (.op 6 .any (.nil))))))) else .nil
def hp61_0 : List (Option AP) := [some (.val false [.shr (.cons .str .nil)]), some (.val false [.int .i64]), none, none, none, some (.val false [.int .i64]), none, none, none, none, none, none, none, none, none, none, none, none, none, none, none, none]
def e61_0 : List (Option AP) := [none, some (.val false [.int .i64]), none, none, none, none, none, none, none, none, none, none, none, none, none, none, none, none, none, none, none, none]
def q61_0 : List (Option AP) := [none, none, none, none, some (.val false [.int .i64]), none, none, none, none, none, none, none, none, none, none, none, none, none, none, none, none, none]
abbrev H61_0 : Type := (List (ByteArray × Unit)) × Int × Int × Unit
abbrev E61_0 : Type := Int × Unit
abbrev Q61_0 : Type := Int × Unit
noncomputable def laws_heldStringS_c0 (a0 : List (ByteArray × Unit)) (k1 : Int) (i5 : Int) : Option (Sum H61_0 (Sum E61_0 Q61_0)) :=
  bif decide (i5 < ((List.length a0 : Nat) : Int)) then
    bif decide ((0 : Int) ≤ i5) then Option.bind ((a0)[Int.toNat i5]?) fun r1 =>
      Option.bind (laws_markText k1) fun y2 =>
      bif !strEq r1.1 y2.1 then
        some (.inr (.inr ((-1 : Int), ())))
      else
        some (.inl (a0, IntKind.i64.wrap (k1 + (1 : Int)), IntKind.i64.wrap (i5 + (1 : Int)), ()))
    else none
  else
    some (.inr (.inl (k1, ())))
noncomputable def laws_heldStringS_r0 (x : H61_0) : Option (Sum H61_0 (Sum E61_0 Q61_0)) := laws_heldStringS_c0 x.1 x.2.1 x.2.2.1
noncomputable def L61 {R : Type} : Loops R := fun id _ st k => bif Nat.beq id 0 then loopAt hp61_0 e61_0 q61_0 laws_heldStringS_r0 st k else none
noncomputable def laws_heldStringS (a0 : List (ByteArray × Unit)) (k1 : Int) : Option (Int × Unit) :=
  outK (loopV laws_heldStringS_r0 (a0, k1, (0 : Int), ())) (fun y1 =>
    some (y1.1, ())) (fun y2 =>
    some (y2.1, ()))
noncomputable def x61 (x : (List (ByteArray × Unit)) × Int × Unit) : Option (Int × Unit) := laws_heldStringS x.1 x.2.1
noncomputable def sem61 : Sem1 := semOf ps61 rs61 x61
theorem so61 : SemsOk Try.prog (semsOf sl61) := sems_cons k102 (sems_nil)
noncomputable def b61_0 : Code := nthLoop code61 0
theorem t61_r0_eq (x : denR (headRT hp61_0)) : codeK (tabOf tr) (semsOf sl61) D61 L61 b61_0 (headSt hp61_0 x) (roundK 0 hp61_0 e61_0 q61_0) = laws_heldStringS_r0 x := by kernel_rfl
theorem loop61_0 {R : Type} (r : R) (w0 : World) (mu : Mu) (hs : AnShape ps61 mu) : LoopAt Try.prog w0 mu 22 (L61 : Loops R) r 0 b61_0 :=
  loop_auto tr_ok eq_ok mixed_ok so61 (D := D61) hs (by kernel_rfl) (fun _ => (loops_of (l := []) (by kernel_rfl) (List.forall_mem_nil _))) t61_r0_eq (fun _ _ => rfl)
theorem t61_eq (x : denR (headRT (ps61.map some))) : codeK (tabOf tr) (semsOf sl61) D61 L61 code61 (start 22 ps61 x) (finK rs61 ps61) = x61 x := by kernel_rfl
theorem k61 : Known Try.prog 61 sem61 :=
  fn_auto tr_ok eq_ok mixed_ok so61 (D := D61) (code := code61) (n := 22) Try.func61 (by kernel_rfl) (by kernel_rfl) (by kernel_rfl) (fun w0 mu _ hs => (loops_of (l := [(0, b61_0)]) (by kernel_rfl) (List.forall_mem_cons.2 ⟨loop61_0 _ w0 mu hs, (List.forall_mem_nil _)⟩))) t61_eq

/-! ### f62: laws.szPile -/
noncomputable def code62 : Code := match Try.f62.body with | some c => c | none => .skip
def ps62 : List AP := [.val true [.int .i64, .int .i64, .shr (.cons .str .nil)], .val false [.int .i64]]
def rs62 : List RP := [{ src := .tmp 4, agg := false, ps := [.int .i64] }]
noncomputable def sl62 : SemL := [(52, (.shr, .shr, .shr, sem52))]
def D62 : Draws := fun _ => .nil
noncomputable def L62 {R : Type} : Loops R := fun _ _ _ _ => none
noncomputable def laws_szPile (a0c0 : Int) (a0c1 : Int) (a0c2 : List (ByteArray × Unit)) (left1 : Int) : Option (Int × Unit) :=
  Option.bind (laws_szStringS a0c2 left1) fun y1 =>
  bif decide (y1.1 < (0 : Int)) then
    some ((-1 : Int), ())
  else
    some (y1.1, ())
noncomputable def x62 (x : Int × Int × (List (ByteArray × Unit)) × Int × Unit) : Option (Int × Unit) := laws_szPile x.1 x.2.1 x.2.2.1 x.2.2.2.1
noncomputable def sem62 : Sem1 := semOf ps62 rs62 x62
theorem so62 : SemsOk Try.prog (semsOf sl62) := sems_cons k52 (sems_nil)
theorem t62_eq (x : denR (headRT (ps62.map some))) : codeK (tabOf tr) (semsOf sl62) D62 L62 code62 (start 12 ps62 x) (finK rs62 ps62) = x62 x := by kernel_rfl
theorem k62 : Known Try.prog 62 sem62 :=
  fn_auto tr_ok eq_ok mixed_ok so62 (D := D62) (code := code62) (n := 12) Try.func62 (by kernel_rfl) (by kernel_rfl) (by kernel_rfl) (fun w0 mu _ hs => (loops_of (l := []) (by kernel_rfl) (List.forall_mem_nil _))) t62_eq

/-! ### f64: laws.toPile -/
noncomputable def code64 : Code := match Try.f64.body with | some c => c | none => .skip
def ps64 : List AP := [.val true [.int .i64, .int .i64, .shr (.cons .str .nil)]]
def rs64 : List RP := [{ src := .cell 2, agg := true, ps := [.int .i64, .int .i64, .own (.cons .str .nil)] }]
noncomputable def sl64 : SemL := [(54, (.shr, .shr, .shr, sem54))]
def D64 : Draws := fun _ => .nil
noncomputable def L64 {R : Type} : Loops R := fun _ _ _ _ => none
noncomputable def laws_toPile (a0c0 : Int) (a0c1 : Int) (a0c2 : List (ByteArray × Unit)) : Option (Int × Int × (List (ByteArray × Unit)) × Unit) :=
  Option.bind (laws_toStringS a0c2) fun y1 =>
  some (a0c0, a0c1, y1.1, ())
noncomputable def x64 (x : Int × Int × (List (ByteArray × Unit)) × Unit) : Option (Int × Int × (List (ByteArray × Unit)) × Unit) := laws_toPile x.1 x.2.1 x.2.2.1
noncomputable def sem64 : Sem1 := semOf ps64 rs64 x64
theorem so64 : SemsOk Try.prog (semsOf sl64) := sems_cons k54 (sems_nil)
theorem t64_eq (x : denR (headRT (ps64.map some))) : codeK (tabOf tr) (semsOf sl64) D64 L64 code64 (start 15 ps64 x) (finK rs64 ps64) = x64 x := by kernel_rfl
theorem k64 : Known Try.prog 64 sem64 :=
  fn_auto tr_ok eq_ok mixed_ok so64 (D := D64) (code := code64) (n := 15) Try.func64 (by kernel_rfl) (by kernel_rfl) (by kernel_rfl) (fun w0 mu _ hs => (loops_of (l := []) (by kernel_rfl) (List.forall_mem_nil _))) t64_eq

/-! ### f66: laws.eqPile -/
noncomputable def code66 : Code := match Try.f66.body with | some c => c | none => .skip
def ps66 : List AP := [.val true [.int .i64, .int .i64, .shr (.cons .str .nil)], .val true [.int .i64, .int .i64, .shr (.cons .str .nil)]]
def rs66 : List RP := [{ src := .tmp 4, agg := false, ps := [.bool] }]
noncomputable def sl66 : SemL := [(56, (.shr, .shr, .shr, sem56))]
def D66 : Draws := fun _ => .nil
noncomputable def L66 {R : Type} : Loops R := fun _ _ _ _ => none
noncomputable def laws_eqPile (a0c0 : Int) (a0c1 : Int) (a0c2 : List (ByteArray × Unit)) (b1c0 : Int) (b1c1 : Int) (b1c2 : List (ByteArray × Unit)) : Option (Bool × Unit) :=
  bif !decide (a0c0 = b1c0) then
    some (false, ())
  else bif !decide (a0c1 = b1c1) then
    some (false, ())
  else
    Option.bind (laws_eqStringS a0c2 b1c2) fun y1 =>
    bif !y1.1 then
      some (false, ())
    else
      some (true, ())
noncomputable def x66 (x : Int × Int × (List (ByteArray × Unit)) × Int × Int × (List (ByteArray × Unit)) × Unit) : Option (Bool × Unit) := laws_eqPile x.1 x.2.1 x.2.2.1 x.2.2.2.1 x.2.2.2.2.1 x.2.2.2.2.2.1
noncomputable def sem66 : Sem1 := semOf ps66 rs66 x66
theorem so66 : SemsOk Try.prog (semsOf sl66) := sems_cons k56 (sems_nil)
theorem t66_eq (x : denR (headRT (ps66.map some))) : codeK (tabOf tr) (semsOf sl66) D66 L66 code66 (start 21 ps66 x) (finK rs66 ps66) = x66 x := by kernel_rfl
theorem k66 : Known Try.prog 66 sem66 :=
  fn_auto tr_ok eq_ok mixed_ok so66 (D := D66) (code := code66) (n := 21) Try.func66 (by kernel_rfl) (by kernel_rfl) (by kernel_rfl) (fun w0 mu _ hs => (loops_of (l := []) (by kernel_rfl) (List.forall_mem_nil _))) t66_eq

/-! ### f67: laws.markPile -/
noncomputable def code67 : Code := match Try.f67.body with | some c => c | none => .skip
def ps67 : List AP := [.lend [.int .i64, .int .i64, .own (.cons .str .nil)], .val false [.int .i64]]
def rs67 : List RP := [{ src := .tmp 4, agg := false, ps := [.int .i64] }]
noncomputable def sl67 : SemL := [(58, (.io, .shr, .shr, sem58))]
def D67 : Draws := fun _ => .nil
noncomputable def L67 {R : Type} : Loops R := fun _ _ _ _ => none
noncomputable def laws_markPile (a0c0 : Int) (a0c1 : Int) (a0c2 : List (ByteArray × Unit)) (k1 : Int) : Option (Int × (List (ByteArray × Unit)) × Unit) :=
  Option.bind (laws_markStringS a0c2 k1) fun y1 =>
  some (y1.1, y1.2.1, ())
noncomputable def x67 (x : Int × Int × (List (ByteArray × Unit)) × Int × Unit) : Option (Int × (List (ByteArray × Unit)) × Unit) := laws_markPile x.1 x.2.1 x.2.2.1 x.2.2.2.1
noncomputable def sem67 : Sem1 := semOf ps67 rs67 x67
theorem so67 : SemsOk Try.prog (semsOf sl67) := sems_cons k58 (sems_nil)
theorem t67_eq (x : denR (headRT (ps67.map some))) : codeK (tabOf tr) (semsOf sl67) D67 L67 code67 (start 10 ps67 x) (finK rs67 ps67) = x67 x := by kernel_rfl
theorem k67 : Known Try.prog 67 sem67 :=
  fn_auto tr_ok eq_ok mixed_ok so67 (D := D67) (code := code67) (n := 10) Try.func67 (by kernel_rfl) (by kernel_rfl) (by kernel_rfl) (fun w0 mu _ hs => (loops_of (l := []) (by kernel_rfl) (List.forall_mem_nil _))) t67_eq

/-! ### f68: laws.heldPile -/
noncomputable def code68 : Code := match Try.f68.body with | some c => c | none => .skip
def ps68 : List AP := [.val true [.int .i64, .int .i64, .shr (.cons .str .nil)], .val false [.int .i64]]
def rs68 : List RP := [{ src := .tmp 4, agg := false, ps := [.int .i64] }]
noncomputable def sl68 : SemL := [(61, (.shr, .shr, .shr, sem61))]
def D68 : Draws := fun _ => .nil
noncomputable def L68 {R : Type} : Loops R := fun _ _ _ _ => none
noncomputable def laws_heldPile (a0c0 : Int) (a0c1 : Int) (a0c2 : List (ByteArray × Unit)) (k1 : Int) : Option (Int × Unit) :=
  Option.bind (laws_heldStringS a0c2 k1) fun y1 =>
  bif decide (y1.1 < (0 : Int)) then
    some ((-1 : Int), ())
  else
    some (y1.1, ())
noncomputable def x68 (x : Int × Int × (List (ByteArray × Unit)) × Int × Unit) : Option (Int × Unit) := laws_heldPile x.1 x.2.1 x.2.2.1 x.2.2.2.1
noncomputable def sem68 : Sem1 := semOf ps68 rs68 x68
theorem so68 : SemsOk Try.prog (semsOf sl68) := sems_cons k61 (sems_nil)
theorem t68_eq (x : denR (headRT (ps68.map some))) : codeK (tabOf tr) (semsOf sl68) D68 L68 code68 (start 12 ps68 x) (finK rs68 ps68) = x68 x := by kernel_rfl
theorem k68 : Known Try.prog 68 sem68 :=
  fn_auto tr_ok eq_ok mixed_ok so68 (D := D68) (code := code68) (n := 12) Try.func68 (by kernel_rfl) (by kernel_rfl) (by kernel_rfl) (fun w0 mu _ hs => (loops_of (l := []) (by kernel_rfl) (List.forall_mem_nil _))) t68_eq

/-! ### f69: spec.TogetherWith -/
noncomputable def code69 : Code := match Try.f69.body with | some c => c | none => .skip
def ps69 : List AP := [.val true [.int .i64, .shr (.cons (.int .i64) .nil)], .val false [.shr (.cons (.int .i64) (.cons (.int .i64) (.cons (.int .i64) (.cons (.sl (.cons (.int .i64) (.cons (.int .i64) (.cons (.int .i64) (.cons .str .nil))))) .nil))))], .val false [.int .i64]]
def rs69 : List RP := [{ src := .tmp 6, agg := false, ps := [.own (.cons (.int .i64) .nil)] }]
noncomputable def sl69 : SemL := [(103, (.shr, .shr, .shr, sem103)), (98, (.shr, .shr, .shr, sem98))]
def D69 : Draws := fun id => bif Nat.beq id 8 then .op 0 .take (.op 1 .any (.op 2 .any (.op 3 .take (.op 4 .any (.op 5 .any (.op 6 .take (.alt (.op 7 .one (.op 8 .any (.op 9 .any (.op 10 .any (.op 11 .one (.op 12 .last (.op 13 .any (.nil)))))))) (.op 11 .one (.op 7 .one (.op 8 .any (.op 9 .any (.op 10 .any (.op 12 .last (.op 13 .any (.nil))))))))))))))) else .nil
def hp69_0 : List (Option AP) := [none, some (.val false [.shr (.cons (.int .i64) (.cons (.int .i64) (.cons (.int .i64) (.cons (.sl (.cons (.int .i64) (.cons (.int .i64) (.cons (.int .i64) (.cons .str .nil))))) .nil))))]), some (.val false [.int .i64]), some (.box false [.int .i64, .shr (.cons (.int .i64) .nil)]), none, none, none, some (.val false [.own (.cons (.int .i64) .nil)]), some (.box false [.int .i64, .int .i64, .int .i64, .shr (.cons (.int .i64) (.cons (.int .i64) (.cons (.int .i64) (.cons .str .nil))))]), none, some (.val false [.int .i64]), none, none, none, none, none, none, none, none, none, none, none, none, none, none, none, none, none, none, none, none, none, none, none, none, none, none, none, none, none, none, none, none, none, none, none, none, none, none, none, none, none, none, none, none, none, none, none, none, none, none, none, none, none, none, none, none, none, none, none, none, none, none, none]
def e69_0 : List (Option AP) := [none, none, none, none, none, none, none, some (.val false [.own (.cons (.int .i64) .nil)]), none, none, none, none, none, none, none, none, none, none, none, none, none, none, none, none, none, none, none, none, none, none, none, none, none, none, none, none, none, none, none, none, none, none, none, none, none, none, none, none, none, none, none, none, none, none, none, none, none, none, none, none, none, none, none, none, none, none, none, none, none, none, none, none, none, none]
def q69_0 : List (Option AP) := [none, none, none, none, none, none, none, none, none, none, none, none, none, none, none, none, none, none, none, none, none, none, none, none, none, none, none, none, none, none, none, none, none, none, none, none, none, none, none, none, none, none, none, none, none, none, none, none, none, none, none, none, none, none, none, none, none, none, none, none, none, none, none, none, none, none, none, none, none, none, none, none, none, none]
abbrev H69_0 : Type := (List (Int × Int × Int × (List (Int × Int × Int × ByteArray × Unit)) × Unit)) × Int × Int × (List (Int × Unit)) × (List (Int × Unit)) × Int × Int × Int × (List (Int × Int × Int × ByteArray × Unit)) × Int × Unit
abbrev E69_0 : Type := (List (Int × Unit)) × Unit
abbrev Q69_0 : Type := Unit
noncomputable def spec_TogetherWith_c0 (list1 : List (Int × Int × Int × (List (Int × Int × Int × ByteArray × Unit)) × Unit)) (id2 : Int) (r3c0 : Int) (r3c1 : List (Int × Unit)) (out7 : List (Int × Unit)) (mine8c0 : Int) (mine8c1 : Int) (mine8c2 : Int) (mine8c3 : List (Int × Int × Int × ByteArray × Unit)) (i10 : Int) : Option (Sum H69_0 (Sum E69_0 Q69_0)) :=
  bif decide (i10 < ((List.length r3c1 : Nat) : Int)) then
    bif decide ((0 : Int) ≤ i10) then Option.bind ((r3c1)[Int.toNat i10]?) fun r2 =>
      Option.bind (spec_l13First r3c0 r3c1 list1 r2.1) fun y3 =>
      bif y3.2.2.2.2.1 then
        bif decide (y3.1 = id2) then
          Option.bind (spec_l05In out7 y3.1) fun y4 =>
          bif !y4.1 then
            bif Nat.ble (((List.length out7) + 1) * 8) lim then some (.inl (list1, id2, r3c0, r3c1, out7 ++ [(y3.1, ())], mine8c0, mine8c1, mine8c2, mine8c3, IntKind.i64.wrap (i10 + (1 : Int)), ()))
            else none
          else
            some (.inl (list1, id2, r3c0, r3c1, out7, mine8c0, mine8c1, mine8c2, mine8c3, IntKind.i64.wrap (i10 + (1 : Int)), ()))
        else bif decide (y3.2.2.1 = mine8c2) then
          bif decide ((0 : Int) < y3.2.2.1) then
            Option.bind (spec_l05In out7 y3.1) fun y5 =>
            bif !y5.1 then
              bif Nat.ble (((List.length out7) + 1) * 8) lim then some (.inl (list1, id2, r3c0, r3c1, out7 ++ [(y3.1, ())], mine8c0, mine8c1, mine8c2, mine8c3, IntKind.i64.wrap (i10 + (1 : Int)), ()))
              else none
            else
              some (.inl (list1, id2, r3c0, r3c1, out7, mine8c0, mine8c1, mine8c2, mine8c3, IntKind.i64.wrap (i10 + (1 : Int)), ()))
          else
            some (.inl (list1, id2, r3c0, r3c1, out7, mine8c0, mine8c1, mine8c2, mine8c3, IntKind.i64.wrap (i10 + (1 : Int)), ()))
        else
          some (.inl (list1, id2, r3c0, r3c1, out7, mine8c0, mine8c1, mine8c2, mine8c3, IntKind.i64.wrap (i10 + (1 : Int)), ()))
      else
        some (.inl (list1, id2, r3c0, r3c1, out7, mine8c0, mine8c1, mine8c2, mine8c3, IntKind.i64.wrap (i10 + (1 : Int)), ()))
    else none
  else
    some (.inr (.inl (out7, ())))
noncomputable def spec_TogetherWith_o0 (list1 : List (Int × Int × Int × (List (Int × Int × Int × ByteArray × Unit)) × Unit)) (id2 : Int) (r3c0 : Int) (r3c1 : List (Int × Unit)) (out7 : List (Int × Unit)) (mine8c0 : Int) (mine8c1 : Int) (mine8c2 : Int) (mine8c3 : List (Int × Int × Int × ByteArray × Unit)) (i10 : Int) : Option (Sum H69_0 (Sum E69_0 Q69_0)) :=
  bif decide (i10 < ((List.length r3c1 : Nat) : Int)) then
    bif decide ((0 : Int) ≤ i10) then Option.bind ((r3c1)[Int.toNat i10]?) fun r2 =>
      both (Option.bind (spec_l13First r3c0 r3c1 list1 r2.1) fun y3 =>
        bif y3.2.2.2.2.1 then
          bif decide (y3.1 = id2) then
            Option.bind (spec_l05In out7 y3.1) fun y4 =>
            bif !y4.1 then
              bif Nat.ble (((List.length out7) + 1) * 8) lim then some (.inl (list1, id2, r3c0, r3c1, out7 ++ [(y3.1, ())], mine8c0, mine8c1, mine8c2, mine8c3, IntKind.i64.wrap (i10 + (1 : Int)), ()))
              else none
            else
              some (.inl (list1, id2, r3c0, r3c1, out7, mine8c0, mine8c1, mine8c2, mine8c3, IntKind.i64.wrap (i10 + (1 : Int)), ()))
          else bif decide (y3.2.2.1 = mine8c2) then
            bif decide ((0 : Int) < y3.2.2.1) then
              Option.bind (spec_l05In out7 y3.1) fun y5 =>
              bif !y5.1 then
                bif Nat.ble (((List.length out7) + 1) * 8) lim then some (.inl (list1, id2, r3c0, r3c1, out7 ++ [(y3.1, ())], mine8c0, mine8c1, mine8c2, mine8c3, IntKind.i64.wrap (i10 + (1 : Int)), ()))
                else none
              else
                some (.inl (list1, id2, r3c0, r3c1, out7, mine8c0, mine8c1, mine8c2, mine8c3, IntKind.i64.wrap (i10 + (1 : Int)), ()))
            else
              some (.inl (list1, id2, r3c0, r3c1, out7, mine8c0, mine8c1, mine8c2, mine8c3, IntKind.i64.wrap (i10 + (1 : Int)), ()))
          else
            some (.inl (list1, id2, r3c0, r3c1, out7, mine8c0, mine8c1, mine8c2, mine8c3, IntKind.i64.wrap (i10 + (1 : Int)), ()))
        else
          some (.inl (list1, id2, r3c0, r3c1, out7, mine8c0, mine8c1, mine8c2, mine8c3, IntKind.i64.wrap (i10 + (1 : Int)), ()))) (Option.bind (spec_l13First r3c0 r3c1 list1 r2.1) fun y3 =>
        bif y3.2.2.2.2.1 then
          bif decide (y3.1 = id2) then
            Option.bind (spec_l05In out7 y3.1) fun y4 =>
            bif !y4.1 then
              bif Nat.ble (((List.length out7) + 1) * 8) lim then some (.inl (list1, id2, r3c0, r3c1, out7 ++ [(y3.1, ())], mine8c0, mine8c1, mine8c2, mine8c3, IntKind.i64.wrap (i10 + (1 : Int)), ()))
              else none
            else
              some (.inl (list1, id2, r3c0, r3c1, out7, mine8c0, mine8c1, mine8c2, mine8c3, IntKind.i64.wrap (i10 + (1 : Int)), ()))
          else bif decide (y3.2.2.1 = mine8c2) then
            bif decide ((0 : Int) < y3.2.2.1) then
              Option.bind (spec_l05In out7 y3.1) fun y5 =>
              bif !y5.1 then
                bif Nat.ble (((List.length out7) + 1) * 8) lim then some (.inl (list1, id2, r3c0, r3c1, out7 ++ [(y3.1, ())], mine8c0, mine8c1, mine8c2, mine8c3, IntKind.i64.wrap (i10 + (1 : Int)), ()))
                else none
              else
                some (.inl (list1, id2, r3c0, r3c1, out7, mine8c0, mine8c1, mine8c2, mine8c3, IntKind.i64.wrap (i10 + (1 : Int)), ()))
            else
              some (.inl (list1, id2, r3c0, r3c1, out7, mine8c0, mine8c1, mine8c2, mine8c3, IntKind.i64.wrap (i10 + (1 : Int)), ()))
          else
            some (.inl (list1, id2, r3c0, r3c1, out7, mine8c0, mine8c1, mine8c2, mine8c3, IntKind.i64.wrap (i10 + (1 : Int)), ()))
        else
          some (.inl (list1, id2, r3c0, r3c1, out7, mine8c0, mine8c1, mine8c2, mine8c3, IntKind.i64.wrap (i10 + (1 : Int)), ())))
    else none
  else
    some (.inr (.inl (out7, ())))
theorem spec_TogetherWith_o0_eq (list1 : List (Int × Int × Int × (List (Int × Int × Int × ByteArray × Unit)) × Unit)) (id2 : Int) (r3c0 : Int) (r3c1 : List (Int × Unit)) (out7 : List (Int × Unit)) (mine8c0 : Int) (mine8c1 : Int) (mine8c2 : Int) (mine8c3 : List (Int × Int × Int × ByteArray × Unit)) (i10 : Int) : spec_TogetherWith_o0 list1 id2 r3c0 r3c1 out7 mine8c0 mine8c1 mine8c2 mine8c3 i10 = spec_TogetherWith_c0 list1 id2 r3c0 r3c1 out7 mine8c0 mine8c1 mine8c2 mine8c3 i10 := by
  simp only [spec_TogetherWith_o0, spec_TogetherWith_c0, both_self]
noncomputable def spec_TogetherWith_r0 (x : H69_0) : Option (Sum H69_0 (Sum E69_0 Q69_0)) := spec_TogetherWith_c0 x.1 x.2.1 x.2.2.1 x.2.2.2.1 x.2.2.2.2.1 x.2.2.2.2.2.1 x.2.2.2.2.2.2.1 x.2.2.2.2.2.2.2.1 x.2.2.2.2.2.2.2.2.1 x.2.2.2.2.2.2.2.2.2.1
noncomputable def L69 {R : Type} : Loops R := fun id _ st k => bif Nat.beq id 0 then loopAt hp69_0 e69_0 q69_0 spec_TogetherWith_r0 st k else none
noncomputable def spec_TogetherWith (r0c0 : Int) (r0c1 : List (Int × Unit)) (list1 : List (Int × Int × Int × (List (Int × Int × Int × ByteArray × Unit)) × Unit)) (id2 : Int) : Option ((List (Int × Unit)) × Unit) :=
  Option.bind (spec_l13First r0c0 r0c1 list1 id2) fun y1 =>
  bif !y1.2.2.2.2.1 then
    some ([], ())
  else
    outK (loopV spec_TogetherWith_r0 (list1, id2, r0c0, r0c1, [], y1.1, y1.2.1, y1.2.2.1, y1.2.2.2.1, (0 : Int), ())) (fun y2 =>
      some (y2.1, ())) (fun y3 =>
      none)
noncomputable def x69 (x : Int × (List (Int × Unit)) × (List (Int × Int × Int × (List (Int × Int × Int × ByteArray × Unit)) × Unit)) × Int × Unit) : Option ((List (Int × Unit)) × Unit) := spec_TogetherWith x.1 x.2.1 x.2.2.1 x.2.2.2.1
noncomputable def sem69 : Sem1 := semOf ps69 rs69 x69
theorem so69 : SemsOk Try.prog (semsOf sl69) := sems_cons k103 (sems_cons k98 (sems_nil))
noncomputable def b69_0 : Code := nthLoop code69 0
theorem t69_r0_eq (x : denR (headRT hp69_0)) : codeK (tabOf tr) (semsOf sl69) D69 L69 b69_0 (headSt hp69_0 x) (roundK 0 hp69_0 e69_0 q69_0) = spec_TogetherWith_r0 x := (show _ = spec_TogetherWith_o0 x.1 x.2.1 x.2.2.1 x.2.2.2.1 x.2.2.2.2.1 x.2.2.2.2.2.1 x.2.2.2.2.2.2.1 x.2.2.2.2.2.2.2.1 x.2.2.2.2.2.2.2.2.1 x.2.2.2.2.2.2.2.2.2.1 from by kernel_rfl).trans (spec_TogetherWith_o0_eq x.1 x.2.1 x.2.2.1 x.2.2.2.1 x.2.2.2.2.1 x.2.2.2.2.2.1 x.2.2.2.2.2.2.1 x.2.2.2.2.2.2.2.1 x.2.2.2.2.2.2.2.2.1 x.2.2.2.2.2.2.2.2.2.1)
theorem loop69_0 {R : Type} (r : R) (w0 : World) (mu : Mu) (hs : AnShape ps69 mu) : LoopAt Try.prog w0 mu 74 (L69 : Loops R) r 0 b69_0 :=
  loop_auto tr_ok eq_ok mixed_ok so69 (D := D69) hs (by kernel_rfl) (fun _ => (loops_of (l := []) (by kernel_rfl) (List.forall_mem_nil _))) t69_r0_eq (fun _ _ => rfl)
theorem t69_eq (x : denR (headRT (ps69.map some))) : codeK (tabOf tr) (semsOf sl69) D69 L69 code69 (start 74 ps69 x) (finK rs69 ps69) = x69 x := by kernel_rfl
theorem k69 : Known Try.prog 69 sem69 :=
  fn_auto tr_ok eq_ok mixed_ok so69 (D := D69) (code := code69) (n := 74) Try.func69 (by kernel_rfl) (by kernel_rfl) (by kernel_rfl) (fun w0 mu _ hs => (loops_of (l := [(0, b69_0)]) (by kernel_rfl) (List.forall_mem_cons.2 ⟨loop69_0 _ w0 mu hs, (List.forall_mem_nil _)⟩))) t69_eq

/-! ### f126: impl.bundleOf -/
noncomputable def code126 : Code := match Try.f126.body with | some c => c | none => .skip
def ps126 : List AP := [.val true [.int .i64, .shr (.cons (.int .i64) .nil)], .val false [.shr (.cons (.int .i64) (.cons (.int .i64) (.cons (.int .i64) (.cons (.sl (.cons (.int .i64) (.cons (.int .i64) (.cons (.int .i64) (.cons .str .nil))))) .nil))))], .val false [.int .i64]]
def rs126 : List RP := [{ src := .cell 6, agg := true, ps := [.int .i64, .int .i64, .int .i64, .shr (.cons (.int .i64) (.cons (.int .i64) (.cons (.int .i64) (.cons .str .nil))))] }, { src := .tmp 7, agg := false, ps := [.bool] }]
noncomputable def sl126 : SemL := [(106, (.shr, .shr, .shr, sem106))]
def D126 : Draws := fun _ => .nil
def hp126_0 : List (Option AP) := [none, none, some (.val false [.int .i64]), some (.box false [.int .i64, .shr (.cons (.int .i64) .nil)]), none, none, some (.box false [.int .i64, .int .i64, .int .i64, .own (.cons (.int .i64) (.cons (.int .i64) (.cons (.int .i64) (.cons .str .nil))))]), none, none, none, some (.val false [.shr (.cons (.int .i64) (.cons (.int .i64) (.cons (.int .i64) (.cons (.sl (.cons (.int .i64) (.cons (.int .i64) (.cons (.int .i64) (.cons .str .nil))))) .nil))))]), some (.val false [.int .i64]), some (.val false [.int .i64]), none, none, none, none, none, none, none, none, none, none, none, none, none, none, none, none, none, none, none, none, none]
def e126_0 : List (Option AP) := [none, none, none, none, none, none, some (.box false [.int .i64, .int .i64, .int .i64, .own (.cons (.int .i64) (.cons (.int .i64) (.cons (.int .i64) (.cons .str .nil))))]), none, none, none, none, none, none, none, none, none, none, none, none, none, none, none, none, none, none, none, none, none, none, none, none, none, none, none]
def q126_0 : List (Option AP) := [none, none, none, none, none, none, some (.box false [.int .i64, .int .i64, .int .i64, .shr (.cons (.int .i64) (.cons (.int .i64) (.cons (.int .i64) (.cons .str .nil))))]), some (.val false [.bool]), none, none, none, none, none, none, none, none, none, none, none, none, none, none, none, none, none, none, none, none, none, none, none, none, none, none]
abbrev H126_0 : Type := Int × Int × (List (Int × Unit)) × Int × Int × Int × (List (Int × Int × Int × ByteArray × Unit)) × (List (Int × Int × Int × (List (Int × Int × Int × ByteArray × Unit)) × Unit)) × Int × Int × Unit
abbrev E126_0 : Type := Int × Int × Int × (List (Int × Int × Int × ByteArray × Unit)) × Unit
abbrev Q126_0 : Type := Int × Int × Int × (List (Int × Int × Int × ByteArray × Unit)) × Bool × Unit
noncomputable def impl_bundleOf_c0 (id2 : Int) (r3c0 : Int) (r3c1 : List (Int × Unit)) (t6c0 : Int) (t6c1 : Int) (t6c2 : Int) (t6c3 : List (Int × Int × Int × ByteArray × Unit)) (t10 : List (Int × Int × Int × (List (Int × Int × Int × ByteArray × Unit)) × Unit)) (t11 : Int) (t12 : Int) : Option (Sum H126_0 (Sum E126_0 Q126_0)) :=
  bif decide (t12 < t11) then
    bif decide ((0 : Int) ≤ t12) then Option.bind ((t10)[Int.toNat t12]?) fun r1 =>
      bif decide (r1.1 = id2) then
        bif decide (r1.2.1 = r3c0) then
          Option.bind (impl_BundleOk r1.1 r1.2.1 r1.2.2.1 r1.2.2.2.1) fun y2 =>
          bif y2.1 then
            some (.inr (.inr (r1.1, r1.2.1, r1.2.2.1, r1.2.2.2.1, true, ())))
          else
            some (.inl (id2, r3c0, r3c1, t6c0, t6c1, t6c2, t6c3, t10, t11, IntKind.i64.wrap (t12 + (1 : Int)), ()))
        else
          some (.inl (id2, r3c0, r3c1, t6c0, t6c1, t6c2, t6c3, t10, t11, IntKind.i64.wrap (t12 + (1 : Int)), ()))
      else
        some (.inl (id2, r3c0, r3c1, t6c0, t6c1, t6c2, t6c3, t10, t11, IntKind.i64.wrap (t12 + (1 : Int)), ()))
    else none
  else
    some (.inr (.inl (t6c0, t6c1, t6c2, t6c3, ())))
noncomputable def impl_bundleOf_r0 (x : H126_0) : Option (Sum H126_0 (Sum E126_0 Q126_0)) := impl_bundleOf_c0 x.1 x.2.1 x.2.2.1 x.2.2.2.1 x.2.2.2.2.1 x.2.2.2.2.2.1 x.2.2.2.2.2.2.1 x.2.2.2.2.2.2.2.1 x.2.2.2.2.2.2.2.2.1 x.2.2.2.2.2.2.2.2.2.1
noncomputable def L126 {R : Type} : Loops R := fun id _ st k => bif Nat.beq id 0 then loopAt hp126_0 e126_0 q126_0 impl_bundleOf_r0 st k else none
noncomputable def impl_bundleOf (r0c0 : Int) (r0c1 : List (Int × Unit)) (list1 : List (Int × Int × Int × (List (Int × Int × Int × ByteArray × Unit)) × Unit)) (id2 : Int) : Option (Int × Int × Int × (List (Int × Int × Int × ByteArray × Unit)) × Bool × Unit) :=
  outK (loopV impl_bundleOf_r0 (id2, r0c0, r0c1, (0 : Int), (0 : Int), (0 : Int), [], list1, ((List.length list1 : Nat) : Int), (0 : Int), ())) (fun y1 =>
    some ((0 : Int), (0 : Int), (0 : Int), [], false, ())) (fun y2 =>
    some (y2.1, y2.2.1, y2.2.2.1, y2.2.2.2.1, y2.2.2.2.2.1, ()))
noncomputable def x126 (x : Int × (List (Int × Unit)) × (List (Int × Int × Int × (List (Int × Int × Int × ByteArray × Unit)) × Unit)) × Int × Unit) : Option (Int × Int × Int × (List (Int × Int × Int × ByteArray × Unit)) × Bool × Unit) := impl_bundleOf x.1 x.2.1 x.2.2.1 x.2.2.2.1
noncomputable def sem126 : Sem1 := semOf ps126 rs126 x126
theorem so126 : SemsOk Try.prog (semsOf sl126) := sems_cons k106 (sems_nil)
noncomputable def b126_0 : Code := nthLoop code126 0
theorem t126_r0_eq (x : denR (headRT hp126_0)) : codeK (tabOf tr) (semsOf sl126) D126 L126 b126_0 (headSt hp126_0 x) (roundK 0 hp126_0 e126_0 q126_0) = impl_bundleOf_r0 x := by kernel_rfl
theorem loop126_0 {R : Type} (r : R) (w0 : World) (mu : Mu) (hs : AnShape ps126 mu) : LoopAt Try.prog w0 mu 34 (L126 : Loops R) r 0 b126_0 :=
  loop_auto tr_ok eq_ok mixed_ok so126 (D := D126) hs (by kernel_rfl) (fun _ => (loops_of (l := []) (by kernel_rfl) (List.forall_mem_nil _))) t126_r0_eq (fun _ _ => rfl)
theorem t126_eq (x : denR (headRT (ps126.map some))) : codeK (tabOf tr) (semsOf sl126) D126 L126 code126 (start 34 ps126 x) (finK rs126 ps126) = x126 x := by kernel_rfl
theorem k126 : Known Try.prog 126 sem126 :=
  fn_auto tr_ok eq_ok mixed_ok so126 (D := D126) (code := code126) (n := 34) Try.func126 (by kernel_rfl) (by kernel_rfl) (by kernel_rfl) (fun w0 mu _ hs => (loops_of (l := [(0, b126_0)]) (by kernel_rfl) (List.forall_mem_cons.2 ⟨loop126_0 _ w0 mu hs, (List.forall_mem_nil _)⟩))) t126_eq

/-! ### f70: impl.TogetherWith -/
noncomputable def code70 : Code := match Try.f70.body with | some c => c | none => .skip
def ps70 : List AP := [.val true [.int .i64, .shr (.cons (.int .i64) .nil)], .val false [.shr (.cons (.int .i64) (.cons (.int .i64) (.cons (.int .i64) (.cons (.sl (.cons (.int .i64) (.cons (.int .i64) (.cons (.int .i64) (.cons .str .nil))))) .nil))))], .val false [.int .i64]]
def rs70 : List RP := [{ src := .tmp 6, agg := false, ps := [.own (.cons (.int .i64) .nil)] }]
noncomputable def sl70 : SemL := [(126, (.shr, .shr, .shr, sem126)), (100, (.shr, .shr, .shr, sem100))]
def D70 : Draws := fun _ => .nil
def hp70_0 : List (Option AP) := [none, some (.val false [.shr (.cons (.int .i64) (.cons (.int .i64) (.cons (.int .i64) (.cons (.sl (.cons (.int .i64) (.cons (.int .i64) (.cons (.int .i64) (.cons .str .nil))))) .nil))))]), some (.val false [.int .i64]), some (.box false [.int .i64, .shr (.cons (.int .i64) .nil)]), none, none, none, some (.box false [.int .i64, .int .i64, .int .i64, .shr (.cons (.int .i64) (.cons (.int .i64) (.cons (.int .i64) (.cons .str .nil))))]), none, some (.val false [.own (.cons (.int .i64) .nil)]), none, none, none, none, none, none, none, none, none, none, none, none, none, none, some (.val false [.shr (.cons (.int .i64) .nil)]), some (.val false [.int .i64]), some (.val false [.int .i64]), none, none, none, none, none, none, none, none, none, none, none, none, none, none, none, none, none, none, none, none, none, none, none, none, none, none, none, none, none, none, none, none, none, none, none, none, none, none, none, none]
def e70_0 : List (Option AP) := [none, none, none, none, none, none, none, none, none, some (.val false [.own (.cons (.int .i64) .nil)]), none, none, none, none, none, none, none, none, none, none, none, none, none, none, none, none, none, none, none, none, none, none, none, none, none, none, none, none, none, none, none, none, none, none, none, none, none, none, none, none, none, none, none, none, none, none, none, none, none, none, none, none, none, none, none, none, none]
def q70_0 : List (Option AP) := [none, none, none, none, none, none, none, none, none, none, none, none, none, none, none, none, none, none, none, none, none, none, none, none, none, none, none, none, none, none, none, none, none, none, none, none, none, none, none, none, none, none, none, none, none, none, none, none, none, none, none, none, none, none, none, none, none, none, none, none, none, none, none, none, none, none, none]
abbrev H70_0 : Type := (List (Int × Int × Int × (List (Int × Int × Int × ByteArray × Unit)) × Unit)) × Int × Int × (List (Int × Unit)) × Int × Int × Int × (List (Int × Int × Int × ByteArray × Unit)) × (List (Int × Unit)) × (List (Int × Unit)) × Int × Int × Unit
abbrev E70_0 : Type := (List (Int × Unit)) × Unit
abbrev Q70_0 : Type := Unit
noncomputable def impl_TogetherWith_c0 (list1 : List (Int × Int × Int × (List (Int × Int × Int × ByteArray × Unit)) × Unit)) (id2 : Int) (r3c0 : Int) (r3c1 : List (Int × Unit)) (own7c0 : Int) (own7c1 : Int) (own7c2 : Int) (own7c3 : List (Int × Int × Int × ByteArray × Unit)) (out9 : List (Int × Unit)) (t24 : List (Int × Unit)) (t25 : Int) (t26 : Int) : Option (Sum H70_0 (Sum E70_0 Q70_0)) :=
  bif decide (t26 < t25) then
    bif decide ((0 : Int) ≤ t26) then Option.bind ((t24)[Int.toNat t26]?) fun r2 =>
      Option.bind (impl_bundleOf r3c0 r3c1 list1 r2.1) fun y3 =>
      bif y3.2.2.2.2.1 then
        Option.bind (slices_Contains_int out9 r2.1) fun y4 =>
        bif !y4.1 then
          bif decide (r2.1 = id2) then
            bif Nat.ble (((List.length out9) + 1) * 8) lim then some (.inl (list1, id2, r3c0, r3c1, own7c0, own7c1, own7c2, own7c3, out9 ++ [(r2.1, ())], t24, t25, IntKind.i64.wrap (t26 + (1 : Int)), ()))
            else none
          else bif decide ((0 : Int) < own7c2) then
            bif decide (y3.2.2.1 = own7c2) then
              bif Nat.ble (((List.length out9) + 1) * 8) lim then some (.inl (list1, id2, r3c0, r3c1, own7c0, own7c1, own7c2, own7c3, out9 ++ [(r2.1, ())], t24, t25, IntKind.i64.wrap (t26 + (1 : Int)), ()))
              else none
            else
              some (.inl (list1, id2, r3c0, r3c1, own7c0, own7c1, own7c2, own7c3, out9, t24, t25, IntKind.i64.wrap (t26 + (1 : Int)), ()))
          else
            some (.inl (list1, id2, r3c0, r3c1, own7c0, own7c1, own7c2, own7c3, out9, t24, t25, IntKind.i64.wrap (t26 + (1 : Int)), ()))
        else
          some (.inl (list1, id2, r3c0, r3c1, own7c0, own7c1, own7c2, own7c3, out9, t24, t25, IntKind.i64.wrap (t26 + (1 : Int)), ()))
      else
        some (.inl (list1, id2, r3c0, r3c1, own7c0, own7c1, own7c2, own7c3, out9, t24, t25, IntKind.i64.wrap (t26 + (1 : Int)), ()))
    else none
  else
    some (.inr (.inl (out9, ())))
noncomputable def impl_TogetherWith_r0 (x : H70_0) : Option (Sum H70_0 (Sum E70_0 Q70_0)) := impl_TogetherWith_c0 x.1 x.2.1 x.2.2.1 x.2.2.2.1 x.2.2.2.2.1 x.2.2.2.2.2.1 x.2.2.2.2.2.2.1 x.2.2.2.2.2.2.2.1 x.2.2.2.2.2.2.2.2.1 x.2.2.2.2.2.2.2.2.2.1 x.2.2.2.2.2.2.2.2.2.2.1 x.2.2.2.2.2.2.2.2.2.2.2.1
noncomputable def L70 {R : Type} : Loops R := fun id _ st k => bif Nat.beq id 0 then loopAt hp70_0 e70_0 q70_0 impl_TogetherWith_r0 st k else none
noncomputable def impl_TogetherWith (r0c0 : Int) (r0c1 : List (Int × Unit)) (list1 : List (Int × Int × Int × (List (Int × Int × Int × ByteArray × Unit)) × Unit)) (id2 : Int) : Option ((List (Int × Unit)) × Unit) :=
  Option.bind (impl_bundleOf r0c0 r0c1 list1 id2) fun y1 =>
  bif !y1.2.2.2.2.1 then
    some ([], ())
  else
    outK (loopV impl_TogetherWith_r0 (list1, id2, r0c0, r0c1, y1.1, y1.2.1, y1.2.2.1, y1.2.2.2.1, [], r0c1, ((List.length r0c1 : Nat) : Int), (0 : Int), ())) (fun y2 =>
      some (y2.1, ())) (fun y3 =>
      none)
noncomputable def x70 (x : Int × (List (Int × Unit)) × (List (Int × Int × Int × (List (Int × Int × Int × ByteArray × Unit)) × Unit)) × Int × Unit) : Option ((List (Int × Unit)) × Unit) := impl_TogetherWith x.1 x.2.1 x.2.2.1 x.2.2.2.1
noncomputable def sem70 : Sem1 := semOf ps70 rs70 x70
theorem so70 : SemsOk Try.prog (semsOf sl70) := sems_cons k126 (sems_cons k100 (sems_nil))
noncomputable def b70_0 : Code := nthLoop code70 0
theorem t70_r0_eq (x : denR (headRT hp70_0)) : codeK (tabOf tr) (semsOf sl70) D70 L70 b70_0 (headSt hp70_0 x) (roundK 0 hp70_0 e70_0 q70_0) = impl_TogetherWith_r0 x := by kernel_rfl
theorem loop70_0 {R : Type} (r : R) (w0 : World) (mu : Mu) (hs : AnShape ps70 mu) : LoopAt Try.prog w0 mu 67 (L70 : Loops R) r 0 b70_0 :=
  loop_auto tr_ok eq_ok mixed_ok so70 (D := D70) hs (by kernel_rfl) (fun _ => (loops_of (l := []) (by kernel_rfl) (List.forall_mem_nil _))) t70_r0_eq (fun _ _ => rfl)
theorem t70_eq (x : denR (headRT (ps70.map some))) : codeK (tabOf tr) (semsOf sl70) D70 L70 code70 (start 67 ps70 x) (finK rs70 ps70) = x70 x := by kernel_rfl
theorem k70 : Known Try.prog 70 sem70 :=
  fn_auto tr_ok eq_ok mixed_ok so70 (D := D70) (code := code70) (n := 67) Try.func70 (by kernel_rfl) (by kernel_rfl) (by kernel_rfl) (fun w0 mu _ hs => (loops_of (l := [(0, b70_0)]) (by kernel_rfl) (List.forall_mem_cons.2 ⟨loop70_0 _ w0 mu hs, (List.forall_mem_nil _)⟩))) t70_eq

/-! ### f71: laws.markRing -/
noncomputable def code71 : Code := match Try.f71.body with | some c => c | none => .skip
def ps71 : List AP := [.lend [.int .i64, .own (.cons (.int .i64) .nil)], .val false [.int .i64]]
def rs71 : List RP := [{ src := .tmp 4, agg := false, ps := [.int .i64] }]
noncomputable def sl71 : SemL := [(57, (.io, .shr, .shr, sem57))]
def D71 : Draws := fun _ => .nil
noncomputable def L71 {R : Type} : Loops R := fun _ _ _ _ => none
noncomputable def laws_markRing (a0c0 : Int) (a0c1 : List (Int × Unit)) (k1 : Int) : Option (Int × (List (Int × Unit)) × Unit) :=
  Option.bind (laws_markIntS a0c1 k1) fun y1 =>
  some (y1.1, y1.2.1, ())
noncomputable def x71 (x : Int × (List (Int × Unit)) × Int × Unit) : Option (Int × (List (Int × Unit)) × Unit) := laws_markRing x.1 x.2.1 x.2.2.1
noncomputable def sem71 : Sem1 := semOf ps71 rs71 x71
theorem so71 : SemsOk Try.prog (semsOf sl71) := sems_cons k57 (sems_nil)
theorem t71_eq (x : denR (headRT (ps71.map some))) : codeK (tabOf tr) (semsOf sl71) D71 L71 code71 (start 10 ps71 x) (finK rs71 ps71) = x71 x := by kernel_rfl
theorem k71 : Known Try.prog 71 sem71 :=
  fn_auto tr_ok eq_ok mixed_ok so71 (D := D71) (code := code71) (n := 10) Try.func71 (by kernel_rfl) (by kernel_rfl) (by kernel_rfl) (fun w0 mu _ hs => (loops_of (l := []) (by kernel_rfl) (List.forall_mem_nil _))) t71_eq

/-! ### f127: spec.RingOk -/
noncomputable def code127 : Code := match Try.f127.body with | some c => c | none => .skip
def ps127 : List AP := [.val true [.int .i64, .shr (.cons (.int .i64) .nil)]]
def rs127 : List RP := [{ src := .tmp 2, agg := false, ps := [.bool] }]
noncomputable def sl127 : SemL := [(94, (.shr, .shr, .shr, sem94))]
def D127 : Draws := fun id => bif Nat.beq id 6 then .op 0 .any (.op 1 .take (.op 2 .any (.op 3 .any (.op 4 .take (.op 5 .one (.op 6 .any (.op 7 .any (.op 8 .any (.op 9 .any (.op 10 .any (.op 11 .any (.op 12 .take (.op 13 .any (.op 14 .any (.op 15 .any (.op 16 .take (.op 17 .any (.op 18 .take (.op 19 .any (.op 20 .any (.op 21 .take (.op 22 .any (.op 23 .any (.op 24 .any (.nil))))))))))))))))))))))))) else .nil
def hp127_0 : List (Option AP) := [none, some (.box false [.int .i64, .shr (.cons (.int .i64) .nil)]), none, some (.val false [.int .i64]), none, none, none, none, none, none, none, none, none, none, none, none, none, none, none, none, none, none, none, none, none, none, none, none, none, none, none, none, none, none, none, none, none, none, none, none, none, none, none, none, none, none, none]
def e127_0 : List (Option AP) := [none, none, none, none, none, none, none, none, none, none, none, none, none, none, none, none, none, none, none, none, none, none, none, none, none, none, none, none, none, none, none, none, none, none, none, none, none, none, none, none, none, none, none, none, none, none, none]
def q127_0 : List (Option AP) := [none, none, some (.val false [.bool]), none, none, none, none, none, none, none, none, none, none, none, none, none, none, none, none, none, none, none, none, none, none, none, none, none, none, none, none, none, none, none, none, none, none, none, none, none, none, none, none, none, none, none, none]
abbrev H127_0 : Type := Int × (List (Int × Unit)) × Int × Unit
abbrev E127_0 : Type := Unit
abbrev Q127_0 : Type := Bool × Unit
noncomputable def spec_RingOk_c0 (r1c0 : Int) (r1c1 : List (Int × Unit)) (i3 : Int) : Option (Sum H127_0 (Sum E127_0 Q127_0)) :=
  bif decide (i3 < ((List.length r1c1 : Nat) : Int)) then
    bif decide ((0 : Int) ≤ i3) then Option.bind ((r1c1)[Int.toNat i3]?) fun r3 =>
      Option.bind (spec_l01In r3.1 (1 : Int) (5 : Int)) fun y4 =>
      bif !y4.1 then
        some (.inr (.inr (false, ())))
      else bif decide ((0 : Int) < i3) then
        bif decide ((0 : Int) ≤ IntKind.i64.wrap (i3 - (1 : Int))) then Option.bind ((r1c1)[Int.toNat (IntKind.i64.wrap (i3 - (1 : Int)))]?) fun r5 =>
          bif decide ((0 : Int) ≤ i3) then Option.bind ((r1c1)[Int.toNat i3]?) fun r6 =>
            bif decide (r6.1 ≤ r5.1) then
              some (.inr (.inr (false, ())))
            else
              some (.inl (r1c0, r1c1, IntKind.i64.wrap (i3 + (1 : Int)), ()))
          else none
        else none
      else
        some (.inl (r1c0, r1c1, IntKind.i64.wrap (i3 + (1 : Int)), ()))
    else none
  else
    some (.inr (.inl (())))
noncomputable def spec_RingOk_r0 (x : H127_0) : Option (Sum H127_0 (Sum E127_0 Q127_0)) := spec_RingOk_c0 x.1 x.2.1 x.2.2.1
noncomputable def L127 {R : Type} : Loops R := fun id _ st k => bif Nat.beq id 0 then loopAt hp127_0 e127_0 q127_0 spec_RingOk_r0 st k else none
noncomputable def spec_RingOk (r0c0 : Int) (r0c1 : List (Int × Unit)) : Option (Bool × Unit) :=
  Option.bind (spec_l01In r0c0 (1 : Int) (9 : Int)) fun y1 =>
  bif !y1.1 then
    some (false, ())
  else
    Option.bind (spec_l01In ((List.length r0c1 : Nat) : Int) (1 : Int) (5 : Int)) fun y2 =>
    bif !y2.1 then
      some (false, ())
    else
      outK (loopV spec_RingOk_r0 (r0c0, r0c1, (0 : Int), ())) (fun y3 =>
        some (true, ())) (fun y4 =>
        some (y4.1, ()))
noncomputable def x127 (x : Int × (List (Int × Unit)) × Unit) : Option (Bool × Unit) := spec_RingOk x.1 x.2.1
noncomputable def sem127 : Sem1 := semOf ps127 rs127 x127
theorem so127 : SemsOk Try.prog (semsOf sl127) := sems_cons k94 (sems_nil)
noncomputable def b127_0 : Code := nthLoop code127 0
theorem t127_r0_eq (x : denR (headRT hp127_0)) : codeK (tabOf tr) (semsOf sl127) D127 L127 b127_0 (headSt hp127_0 x) (roundK 0 hp127_0 e127_0 q127_0) = spec_RingOk_r0 x := by kernel_rfl
theorem loop127_0 {R : Type} (r : R) (w0 : World) (mu : Mu) (hs : AnShape ps127 mu) : LoopAt Try.prog w0 mu 47 (L127 : Loops R) r 0 b127_0 :=
  loop_auto tr_ok eq_ok mixed_ok so127 (D := D127) hs (by kernel_rfl) (fun _ => (loops_of (l := []) (by kernel_rfl) (List.forall_mem_nil _))) t127_r0_eq (fun _ _ => rfl)
theorem t127_eq (x : denR (headRT (ps127.map some))) : codeK (tabOf tr) (semsOf sl127) D127 L127 code127 (start 47 ps127 x) (finK rs127 ps127) = x127 x := by kernel_rfl
theorem k127 : Known Try.prog 127 sem127 :=
  fn_auto tr_ok eq_ok mixed_ok so127 (D := D127) (code := code127) (n := 47) Try.func127 (by kernel_rfl) (by kernel_rfl) (by kernel_rfl) (fun w0 mu _ hs => (loops_of (l := [(0, b127_0)]) (by kernel_rfl) (List.forall_mem_cons.2 ⟨loop127_0 _ w0 mu hs, (List.forall_mem_nil _)⟩))) t127_eq

/-! ### f74: spec.MateNew -/
noncomputable def code74 : Code := match Try.f74.body with | some c => c | none => .skip
def ps74 : List AP := [.val false [.int .i64], .val true [.int .i64, .shr (.cons (.int .i64) .nil)]]
def rs74 : List RP := [{ src := .cell 4, agg := true, ps := [.int .i64, .int .i64, .own (.cons (.int .i64) .nil), .own (.cons (.int .i64) (.cons (.int .i64) (.cons (.int .i64) (.cons .str .nil)))), .own (.cons (.int .i64) .nil), .own (.cons .str .nil), .int .i64, .int .i64, .int .i64, .int .i64, .int .i64, .int .i64, .int .i64, .int .i64, .int .i64, .own (.cons (.int .i64) .nil)] }, { src := .tmp 5, agg := false, ps := [.bool] }]
noncomputable def sl74 : SemL := [(127, (.shr, .shr, .shr, sem127)), (98, (.shr, .shr, .shr, sem98))]
def D74 : Draws := fun id => bif Nat.beq id 3 then .op 0 .any (.op 1 .any (.op 4 .any (.op 5 .take (.alt (.op 2 .one (.op 3 .one (.op 6 .last (.op 7 .any (.op 8 .any (.op 9 .last (.op 10 .any (.nil)))))))) (.op 3 .one (.alt (.op 2 .one (.op 6 .last (.op 7 .any (.op 8 .any (.op 9 .last (.op 10 .any (.nil))))))) (.op 6 .last (.op 2 .take (.op 7 .any (.op 8 .any (.op 9 .last (.op 10 .any (.nil))))))))))))) else .nil
noncomputable def L74 {R : Type} : Loops R := fun _ _ _ _ => none
noncomputable def spec_MateNew (id0 : Int) (r1c0 : Int) (r1c1 : List (Int × Unit)) : Option (Int × Int × (List (Int × Unit)) × (List (Int × Int × Int × ByteArray × Unit)) × (List (Int × Unit)) × (List (ByteArray × Unit)) × Int × Int × Int × Int × Int × Int × Int × Int × Int × (List (Int × Unit)) × Bool × Unit) :=
  Option.bind (spec_RingOk r1c0 r1c1) fun y1 =>
  bif !y1.1 then
    some ((0 : Int), (0 : Int), [], [], [], [], (0 : Int), (0 : Int), (0 : Int), (0 : Int), (0 : Int), (0 : Int), (0 : Int), (0 : Int), (0 : Int), [], false, ())
  else
    Option.bind (spec_l05In r1c1 id0) fun y2 =>
    bif !y2.1 then
      some ((0 : Int), (0 : Int), [], [], [], [], (0 : Int), (0 : Int), (0 : Int), (0 : Int), (0 : Int), (0 : Int), (0 : Int), (0 : Int), (0 : Int), [], false, ())
    else bif Nat.ble ((0 + (List.length r1c1)) * 8) lim then some (id0, r1c0, [] ++ r1c1, [], [], [], (0 : Int), (0 : Int), (0 : Int), (0 : Int), (0 : Int), (0 : Int), (0 : Int), (0 : Int), (0 : Int), [], true, ())
    else none
noncomputable def spec_MateNew_o (id0 : Int) (r1c0 : Int) (r1c1 : List (Int × Unit)) : Option (Int × Int × (List (Int × Unit)) × (List (Int × Int × Int × ByteArray × Unit)) × (List (Int × Unit)) × (List (ByteArray × Unit)) × Int × Int × Int × Int × Int × Int × Int × Int × Int × (List (Int × Unit)) × Bool × Unit) :=
  Option.bind (spec_RingOk r1c0 r1c1) fun y1 =>
  bif !y1.1 then
    some ((0 : Int), (0 : Int), [], [], [], [], (0 : Int), (0 : Int), (0 : Int), (0 : Int), (0 : Int), (0 : Int), (0 : Int), (0 : Int), (0 : Int), [], false, ())
  else
    Option.bind (spec_l05In r1c1 id0) fun y2 =>
    bif !y2.1 then
      some ((0 : Int), (0 : Int), [], [], [], [], (0 : Int), (0 : Int), (0 : Int), (0 : Int), (0 : Int), (0 : Int), (0 : Int), (0 : Int), (0 : Int), [], false, ())
    else
      (fun K1 : Option (Int × Int × (List (Int × Unit)) × (List (Int × Int × Int × ByteArray × Unit)) × (List (Int × Unit)) × (List (ByteArray × Unit)) × Int × Int × Int × Int × Int × Int × Int × Int × Int × (List (Int × Unit)) × Bool × Unit) => both (bif Nat.ble ((0 + (List.length r1c1)) * 8) lim then K1
          else none) (both (bif Nat.ble ((0 + (List.length r1c1)) * 8) lim then K1
            else none) (bif Nat.ble ((0 + (List.length r1c1)) * 8) lim then K1
            else none))) (some (id0, r1c0, [] ++ r1c1, [], [], [], (0 : Int), (0 : Int), (0 : Int), (0 : Int), (0 : Int), (0 : Int), (0 : Int), (0 : Int), (0 : Int), [], true, ()))
theorem spec_MateNew_o_eq (id0 : Int) (r1c0 : Int) (r1c1 : List (Int × Unit)) : spec_MateNew_o id0 r1c0 r1c1 = spec_MateNew id0 r1c0 r1c1 := by
  simp only [spec_MateNew_o, spec_MateNew, both_self]
noncomputable def x74 (x : Int × Int × (List (Int × Unit)) × Unit) : Option (Int × Int × (List (Int × Unit)) × (List (Int × Int × Int × ByteArray × Unit)) × (List (Int × Unit)) × (List (ByteArray × Unit)) × Int × Int × Int × Int × Int × Int × Int × Int × Int × (List (Int × Unit)) × Bool × Unit) := spec_MateNew x.1 x.2.1 x.2.2.1
noncomputable def sem74 : Sem1 := semOf ps74 rs74 x74
theorem so74 : SemsOk Try.prog (semsOf sl74) := sems_cons k127 (sems_cons k98 (sems_nil))
theorem t74_eq (x : denR (headRT (ps74.map some))) : codeK (tabOf tr) (semsOf sl74) D74 L74 code74 (start 26 ps74 x) (finK rs74 ps74) = x74 x := (show _ = spec_MateNew_o x.1 x.2.1 x.2.2.1 from by kernel_rfl).trans (spec_MateNew_o_eq x.1 x.2.1 x.2.2.1)
theorem k74 : Known Try.prog 74 sem74 :=
  fn_auto tr_ok eq_ok mixed_ok so74 (D := D74) (code := code74) (n := 26) Try.func74 (by kernel_rfl) (by kernel_rfl) (by kernel_rfl) (fun w0 mu _ hs => (loops_of (l := []) (by kernel_rfl) (List.forall_mem_nil _))) t74_eq

/-! ### f128: impl.RingOk -/
noncomputable def code128 : Code := match Try.f128.body with | some c => c | none => .skip
def ps128 : List AP := [.val true [.int .i64, .shr (.cons (.int .i64) .nil)]]
def rs128 : List RP := [{ src := .tmp 2, agg := false, ps := [.bool] }]
noncomputable def sl128 : SemL := [(95, (.shr, .shr, .shr, sem95)), (92, (.shr, .shr, .shr, sem92))]
def D128 : Draws := fun _ => .nil
def hp128_0 : List (Option AP) := [none, some (.box false [.int .i64, .shr (.cons (.int .i64) .nil)]), none, none, none, none, none, none, none, none, none, none, none, none, none, none, none, some (.val false [.shr (.cons (.int .i64) .nil)]), some (.val false [.int .i64]), some (.val false [.int .i64]), none, none, none, none, none, none, none, none, none, none, none, none, none, none, none, none, none, none, none, none, none, none]
def e128_0 : List (Option AP) := [none, none, none, none, none, none, none, none, none, none, none, none, none, none, none, none, none, none, none, none, none, none, none, none, none, none, none, none, none, none, none, none, none, none, none, none, none, none, none, none, none, none]
def q128_0 : List (Option AP) := [none, none, some (.val false [.bool]), none, none, none, none, none, none, none, none, none, none, none, none, none, none, none, none, none, none, none, none, none, none, none, none, none, none, none, none, none, none, none, none, none, none, none, none, none, none, none]
abbrev H128_0 : Type := Int × (List (Int × Unit)) × (List (Int × Unit)) × Int × Int × Unit
abbrev E128_0 : Type := Unit
abbrev Q128_0 : Type := Bool × Unit
noncomputable def impl_RingOk_c0 (r1c0 : Int) (r1c1 : List (Int × Unit)) (t17 : List (Int × Unit)) (t18 : Int) (t19 : Int) : Option (Sum H128_0 (Sum E128_0 Q128_0)) :=
  bif decide (t19 < t18) then
    bif decide ((0 : Int) ≤ t19) then Option.bind ((t17)[Int.toNat t19]?) fun r3 =>
      Option.bind (impl_isDaemon r3.1) fun y4 =>
      bif !y4.1 then
        some (.inr (.inr (false, ())))
      else bif decide ((0 : Int) < t19) then
        bif decide ((0 : Int) ≤ IntKind.i64.wrap (t19 - (1 : Int))) then Option.bind ((r1c1)[Int.toNat (IntKind.i64.wrap (t19 - (1 : Int)))]?) fun r5 =>
          bif decide (r3.1 ≤ r5.1) then
            some (.inr (.inr (false, ())))
          else
            some (.inl (r1c0, r1c1, t17, t18, IntKind.i64.wrap (t19 + (1 : Int)), ()))
        else none
      else
        some (.inl (r1c0, r1c1, t17, t18, IntKind.i64.wrap (t19 + (1 : Int)), ()))
    else none
  else
    some (.inr (.inl (())))
noncomputable def impl_RingOk_r0 (x : H128_0) : Option (Sum H128_0 (Sum E128_0 Q128_0)) := impl_RingOk_c0 x.1 x.2.1 x.2.2.1 x.2.2.2.1 x.2.2.2.2.1
noncomputable def L128 {R : Type} : Loops R := fun id _ st k => bif Nat.beq id 0 then loopAt hp128_0 e128_0 q128_0 impl_RingOk_r0 st k else none
noncomputable def impl_RingOk (r0c0 : Int) (r0c1 : List (Int × Unit)) : Option (Bool × Unit) :=
  Option.bind (impl_inRange r0c0 (1 : Int) (9 : Int)) fun y1 =>
  bif !y1.1 then
    some (false, ())
  else
    Option.bind (impl_inRange ((List.length r0c1 : Nat) : Int) (1 : Int) (5 : Int)) fun y2 =>
    bif !y2.1 then
      some (false, ())
    else
      outK (loopV impl_RingOk_r0 (r0c0, r0c1, r0c1, ((List.length r0c1 : Nat) : Int), (0 : Int), ())) (fun y3 =>
        some (true, ())) (fun y4 =>
        some (y4.1, ()))
noncomputable def x128 (x : Int × (List (Int × Unit)) × Unit) : Option (Bool × Unit) := impl_RingOk x.1 x.2.1
noncomputable def sem128 : Sem1 := semOf ps128 rs128 x128
theorem so128 : SemsOk Try.prog (semsOf sl128) := sems_cons k95 (sems_cons k92 (sems_nil))
noncomputable def b128_0 : Code := nthLoop code128 0
theorem t128_r0_eq (x : denR (headRT hp128_0)) : codeK (tabOf tr) (semsOf sl128) D128 L128 b128_0 (headSt hp128_0 x) (roundK 0 hp128_0 e128_0 q128_0) = impl_RingOk_r0 x := by kernel_rfl
theorem loop128_0 {R : Type} (r : R) (w0 : World) (mu : Mu) (hs : AnShape ps128 mu) : LoopAt Try.prog w0 mu 42 (L128 : Loops R) r 0 b128_0 :=
  loop_auto tr_ok eq_ok mixed_ok so128 (D := D128) hs (by kernel_rfl) (fun _ => (loops_of (l := []) (by kernel_rfl) (List.forall_mem_nil _))) t128_r0_eq (fun _ _ => rfl)
theorem t128_eq (x : denR (headRT (ps128.map some))) : codeK (tabOf tr) (semsOf sl128) D128 L128 code128 (start 42 ps128 x) (finK rs128 ps128) = x128 x := by kernel_rfl
theorem k128 : Known Try.prog 128 sem128 :=
  fn_auto tr_ok eq_ok mixed_ok so128 (D := D128) (code := code128) (n := 42) Try.func128 (by kernel_rfl) (by kernel_rfl) (by kernel_rfl) (fun w0 mu _ hs => (loops_of (l := [(0, b128_0)]) (by kernel_rfl) (List.forall_mem_cons.2 ⟨loop128_0 _ w0 mu hs, (List.forall_mem_nil _)⟩))) t128_eq

/-! ### f129: impl.copyRing -/
noncomputable def code129 : Code := match Try.f129.body with | some c => c | none => .skip
def ps129 : List AP := [.val true [.int .i64, .shr (.cons (.int .i64) .nil)]]
def rs129 : List RP := [{ src := .cell 2, agg := true, ps := [.int .i64, .own (.cons (.int .i64) .nil)] }]
noncomputable def sl129 : SemL := [(144, (.shr, .shr, .shr, sem144))]
def D129 : Draws := fun id => bif Nat.beq id 1 then .op 0 .any (.op 1 .take (.op 2 .any (.op 3 .take (.op 4 .one (.op 5 .any (.op 6 .last (.nil))))))) else .nil
noncomputable def L129 {R : Type} : Loops R := fun _ _ _ _ => none
noncomputable def impl_copyRing (r0c0 : Int) (r0c1 : List (Int × Unit)) : Option (Int × (List (Int × Unit)) × Unit) :=
  Option.bind (slices_Clone_int r0c1) fun y1 =>
  some (r0c0, y1.1, ())
noncomputable def x129 (x : Int × (List (Int × Unit)) × Unit) : Option (Int × (List (Int × Unit)) × Unit) := impl_copyRing x.1 x.2.1
noncomputable def sem129 : Sem1 := semOf ps129 rs129 x129
theorem so129 : SemsOk Try.prog (semsOf sl129) := sems_cons k144 (sems_nil)
theorem t129_eq (x : denR (headRT (ps129.map some))) : codeK (tabOf tr) (semsOf sl129) D129 L129 code129 (start 9 ps129 x) (finK rs129 ps129) = x129 x := by kernel_rfl
theorem k129 : Known Try.prog 129 sem129 :=
  fn_auto tr_ok eq_ok mixed_ok so129 (D := D129) (code := code129) (n := 9) Try.func129 (by kernel_rfl) (by kernel_rfl) (by kernel_rfl) (fun w0 mu _ hs => (loops_of (l := []) (by kernel_rfl) (List.forall_mem_nil _))) t129_eq

/-! ### f75: impl.MateNew -/
noncomputable def code75 : Code := match Try.f75.body with | some c => c | none => .skip
def ps75 : List AP := [.val false [.int .i64], .val true [.int .i64, .shr (.cons (.int .i64) .nil)]]
def rs75 : List RP := [{ src := .cell 4, agg := true, ps := [.int .i64, .int .i64, .own (.cons (.int .i64) .nil), .own (.cons (.int .i64) (.cons (.int .i64) (.cons (.int .i64) (.cons .str .nil)))), .own (.cons (.int .i64) .nil), .own (.cons .str .nil), .int .i64, .int .i64, .int .i64, .int .i64, .int .i64, .int .i64, .int .i64, .int .i64, .int .i64, .own (.cons (.int .i64) .nil)] }, { src := .tmp 5, agg := false, ps := [.bool] }]
noncomputable def sl75 : SemL := [(100, (.shr, .shr, .shr, sem100)), (128, (.shr, .shr, .shr, sem128)), (129, (.shr, .shr, .shr, sem129))]
def D75 : Draws := fun _ => .nil
noncomputable def L75 {R : Type} : Loops R := fun _ _ _ _ => none
noncomputable def impl_MateNew (id0 : Int) (r1c0 : Int) (r1c1 : List (Int × Unit)) : Option (Int × Int × (List (Int × Unit)) × (List (Int × Int × Int × ByteArray × Unit)) × (List (Int × Unit)) × (List (ByteArray × Unit)) × Int × Int × Int × Int × Int × Int × Int × Int × Int × (List (Int × Unit)) × Bool × Unit) :=
  Option.bind (slices_Contains_int r1c1 id0) fun y1 =>
  bif !y1.1 then
    some ((0 : Int), (0 : Int), [], [], [], [], (0 : Int), (0 : Int), (0 : Int), (0 : Int), (0 : Int), (0 : Int), (0 : Int), (0 : Int), (0 : Int), [], false, ())
  else
    Option.bind (impl_RingOk r1c0 r1c1) fun y2 =>
    bif !y2.1 then
      some ((0 : Int), (0 : Int), [], [], [], [], (0 : Int), (0 : Int), (0 : Int), (0 : Int), (0 : Int), (0 : Int), (0 : Int), (0 : Int), (0 : Int), [], false, ())
    else
      Option.bind (impl_copyRing r1c0 r1c1) fun y3 =>
      some (id0, y3.1, y3.2.1, [], [], [], (0 : Int), (0 : Int), (0 : Int), (0 : Int), (0 : Int), (0 : Int), (0 : Int), (0 : Int), (0 : Int), [], true, ())
noncomputable def x75 (x : Int × Int × (List (Int × Unit)) × Unit) : Option (Int × Int × (List (Int × Unit)) × (List (Int × Int × Int × ByteArray × Unit)) × (List (Int × Unit)) × (List (ByteArray × Unit)) × Int × Int × Int × Int × Int × Int × Int × Int × Int × (List (Int × Unit)) × Bool × Unit) := impl_MateNew x.1 x.2.1 x.2.2.1
noncomputable def sem75 : Sem1 := semOf ps75 rs75 x75
theorem so75 : SemsOk Try.prog (semsOf sl75) := sems_cons k100 (sems_cons k128 (sems_cons k129 (sems_nil)))
theorem t75_eq (x : denR (headRT (ps75.map some))) : codeK (tabOf tr) (semsOf sl75) D75 L75 code75 (start 21 ps75 x) (finK rs75 ps75) = x75 x := by kernel_rfl
theorem k75 : Known Try.prog 75 sem75 :=
  fn_auto tr_ok eq_ok mixed_ok so75 (D := D75) (code := code75) (n := 21) Try.func75 (by kernel_rfl) (by kernel_rfl) (by kernel_rfl) (fun w0 mu _ hs => (loops_of (l := []) (by kernel_rfl) (List.forall_mem_nil _))) t75_eq

/-! ### f76: laws.eqMate -/
noncomputable def code76 : Code := match Try.f76.body with | some c => c | none => .skip
def ps76 : List AP := [.val true [.int .i64, .int .i64, .shr (.cons (.int .i64) .nil), .shr (.cons (.int .i64) (.cons (.int .i64) (.cons (.int .i64) (.cons .str .nil)))), .shr (.cons (.int .i64) .nil), .shr (.cons .str .nil), .int .i64, .int .i64, .int .i64, .int .i64, .int .i64, .int .i64, .int .i64, .int .i64, .int .i64, .shr (.cons (.int .i64) .nil)], .val true [.int .i64, .int .i64, .shr (.cons (.int .i64) .nil), .shr (.cons (.int .i64) (.cons (.int .i64) (.cons (.int .i64) (.cons .str .nil)))), .shr (.cons (.int .i64) .nil), .shr (.cons .str .nil), .int .i64, .int .i64, .int .i64, .int .i64, .int .i64, .int .i64, .int .i64, .int .i64, .int .i64, .shr (.cons (.int .i64) .nil)]]
def rs76 : List RP := [{ src := .tmp 4, agg := false, ps := [.bool] }]
noncomputable def sl76 : SemL := [(39, (.shr, .shr, .shr, sem39)), (28, (.shr, .shr, .shr, sem28)), (55, (.shr, .shr, .shr, sem55)), (56, (.shr, .shr, .shr, sem56)), (29, (.shr, .shr, .shr, sem29))]
def D76 : Draws := fun _ => .nil
noncomputable def L76 {R : Type} : Loops R := fun _ _ _ _ => none
noncomputable def laws_eqMate (a0c0 : Int) (a0c1 : Int) (a0c2 : List (Int × Unit)) (a0c3 : List (Int × Int × Int × ByteArray × Unit)) (a0c4 : List (Int × Unit)) (a0c5 : List (ByteArray × Unit)) (a0c6 : Int) (a0c7 : Int) (a0c8 : Int) (a0c9 : Int) (a0c10 : Int) (a0c11 : Int) (a0c12 : Int) (a0c13 : Int) (a0c14 : Int) (a0c15 : List (Int × Unit)) (b1c0 : Int) (b1c1 : Int) (b1c2 : List (Int × Unit)) (b1c3 : List (Int × Int × Int × ByteArray × Unit)) (b1c4 : List (Int × Unit)) (b1c5 : List (ByteArray × Unit)) (b1c6 : Int) (b1c7 : Int) (b1c8 : Int) (b1c9 : Int) (b1c10 : Int) (b1c11 : Int) (b1c12 : Int) (b1c13 : Int) (b1c14 : Int) (b1c15 : List (Int × Unit)) : Option (Bool × Unit) :=
  bif !decide (a0c0 = b1c0) then
    some (false, ())
  else
    Option.bind (laws_eqRing a0c1 a0c2 b1c1 b1c2) fun y1 =>
    bif !y1.1 then
      some (false, ())
    else
      Option.bind (laws_eqItemS a0c3 b1c3) fun y2 =>
      bif !y2.1 then
        some (false, ())
      else
        Option.bind (laws_eqIntS a0c4 b1c4) fun y3 =>
        bif !y3.1 then
          some (false, ())
        else
          Option.bind (laws_eqStringS a0c5 b1c5) fun y4 =>
          bif !y4.1 then
            some (false, ())
          else bif !decide (a0c6 = b1c6) then
            some (false, ())
          else bif !decide (a0c7 = b1c7) then
            some (false, ())
          else bif !decide (a0c8 = b1c8) then
            some (false, ())
          else bif !decide (a0c9 = b1c9) then
            some (false, ())
          else
            Option.bind (laws_eqToken a0c10 a0c11 a0c12 a0c13 a0c14 a0c15 b1c10 b1c11 b1c12 b1c13 b1c14 b1c15) fun y5 =>
            bif !y5.1 then
              some (false, ())
            else
              some (true, ())
noncomputable def x76 (x : Int × Int × (List (Int × Unit)) × (List (Int × Int × Int × ByteArray × Unit)) × (List (Int × Unit)) × (List (ByteArray × Unit)) × Int × Int × Int × Int × Int × Int × Int × Int × Int × (List (Int × Unit)) × Int × Int × (List (Int × Unit)) × (List (Int × Int × Int × ByteArray × Unit)) × (List (Int × Unit)) × (List (ByteArray × Unit)) × Int × Int × Int × Int × Int × Int × Int × Int × Int × (List (Int × Unit)) × Unit) : Option (Bool × Unit) := laws_eqMate x.1 x.2.1 x.2.2.1 x.2.2.2.1 x.2.2.2.2.1 x.2.2.2.2.2.1 x.2.2.2.2.2.2.1 x.2.2.2.2.2.2.2.1 x.2.2.2.2.2.2.2.2.1 x.2.2.2.2.2.2.2.2.2.1 x.2.2.2.2.2.2.2.2.2.2.1 x.2.2.2.2.2.2.2.2.2.2.2.1 x.2.2.2.2.2.2.2.2.2.2.2.2.1 x.2.2.2.2.2.2.2.2.2.2.2.2.2.1 x.2.2.2.2.2.2.2.2.2.2.2.2.2.2.1 x.2.2.2.2.2.2.2.2.2.2.2.2.2.2.2.1 x.2.2.2.2.2.2.2.2.2.2.2.2.2.2.2.2.1 x.2.2.2.2.2.2.2.2.2.2.2.2.2.2.2.2.2.1 x.2.2.2.2.2.2.2.2.2.2.2.2.2.2.2.2.2.2.1 x.2.2.2.2.2.2.2.2.2.2.2.2.2.2.2.2.2.2.2.1 x.2.2.2.2.2.2.2.2.2.2.2.2.2.2.2.2.2.2.2.2.1 x.2.2.2.2.2.2.2.2.2.2.2.2.2.2.2.2.2.2.2.2.2.1 x.2.2.2.2.2.2.2.2.2.2.2.2.2.2.2.2.2.2.2.2.2.2.1 x.2.2.2.2.2.2.2.2.2.2.2.2.2.2.2.2.2.2.2.2.2.2.2.1 x.2.2.2.2.2.2.2.2.2.2.2.2.2.2.2.2.2.2.2.2.2.2.2.2.1 x.2.2.2.2.2.2.2.2.2.2.2.2.2.2.2.2.2.2.2.2.2.2.2.2.2.1 x.2.2.2.2.2.2.2.2.2.2.2.2.2.2.2.2.2.2.2.2.2.2.2.2.2.2.1 x.2.2.2.2.2.2.2.2.2.2.2.2.2.2.2.2.2.2.2.2.2.2.2.2.2.2.2.1 x.2.2.2.2.2.2.2.2.2.2.2.2.2.2.2.2.2.2.2.2.2.2.2.2.2.2.2.2.1 x.2.2.2.2.2.2.2.2.2.2.2.2.2.2.2.2.2.2.2.2.2.2.2.2.2.2.2.2.2.1 x.2.2.2.2.2.2.2.2.2.2.2.2.2.2.2.2.2.2.2.2.2.2.2.2.2.2.2.2.2.2.1 x.2.2.2.2.2.2.2.2.2.2.2.2.2.2.2.2.2.2.2.2.2.2.2.2.2.2.2.2.2.2.2.1
noncomputable def sem76 : Sem1 := semOf ps76 rs76 x76
theorem so76 : SemsOk Try.prog (semsOf sl76) := sems_cons k39 (sems_cons k28 (sems_cons k55 (sems_cons k56 (sems_cons k29 (sems_nil)))))
theorem t76_eq (x : denR (headRT (ps76.map some))) : codeK (tabOf tr) (semsOf sl76) D76 L76 code76 (start 60 ps76 x) (finK rs76 ps76) = x76 x := by kernel_rfl
theorem k76 : Known Try.prog 76 sem76 :=
  fn_auto tr_ok eq_ok mixed_ok so76 (D := D76) (code := code76) (n := 60) Try.func76 (by kernel_rfl) (by kernel_rfl) (by kernel_rfl) (fun w0 mu _ hs => (loops_of (l := []) (by kernel_rfl) (List.forall_mem_nil _))) t76_eq

/-! ### f77: laws.markMate -/
noncomputable def code77 : Code := match Try.f77.body with | some c => c | none => .skip
def ps77 : List AP := [.lend [.int .i64, .int .i64, .own (.cons (.int .i64) .nil), .own (.cons (.int .i64) (.cons (.int .i64) (.cons (.int .i64) (.cons .str .nil)))), .own (.cons (.int .i64) .nil), .own (.cons .str .nil), .int .i64, .int .i64, .int .i64, .int .i64, .int .i64, .int .i64, .int .i64, .int .i64, .int .i64, .own (.cons (.int .i64) .nil)], .val false [.int .i64]]
def rs77 : List RP := [{ src := .tmp 4, agg := false, ps := [.int .i64] }]
noncomputable def sl77 : SemL := [(71, (.lend, .shr, .shr, sem71)), (31, (.io, .shr, .shr, sem31)), (57, (.io, .shr, .shr, sem57)), (58, (.io, .shr, .shr, sem58)), (30, (.lend, .shr, .shr, sem30))]
def D77 : Draws := fun _ => .nil
noncomputable def L77 {R : Type} : Loops R := fun _ _ _ _ => none
noncomputable def laws_markMate (a0c0 : Int) (a0c1 : Int) (a0c2 : List (Int × Unit)) (a0c3 : List (Int × Int × Int × ByteArray × Unit)) (a0c4 : List (Int × Unit)) (a0c5 : List (ByteArray × Unit)) (a0c6 : Int) (a0c7 : Int) (a0c8 : Int) (a0c9 : Int) (a0c10 : Int) (a0c11 : Int) (a0c12 : Int) (a0c13 : Int) (a0c14 : Int) (a0c15 : List (Int × Unit)) (k1 : Int) : Option (Int × (List (Int × Unit)) × (List (Int × Int × Int × ByteArray × Unit)) × (List (Int × Unit)) × (List (ByteArray × Unit)) × (List (Int × Unit)) × Unit) :=
  Option.bind (laws_markRing a0c1 a0c2 k1) fun y1 =>
  Option.bind (laws_markItemS a0c3 y1.1) fun y2 =>
  Option.bind (laws_markIntS a0c4 y2.1) fun y3 =>
  Option.bind (laws_markStringS a0c5 y3.1) fun y4 =>
  Option.bind (laws_markToken a0c10 a0c11 a0c12 a0c13 a0c14 a0c15 y4.1) fun y5 =>
  some (y5.1, y1.2.1, y2.2.1, y3.2.1, y4.2.1, y5.2.1, ())
noncomputable def x77 (x : Int × Int × (List (Int × Unit)) × (List (Int × Int × Int × ByteArray × Unit)) × (List (Int × Unit)) × (List (ByteArray × Unit)) × Int × Int × Int × Int × Int × Int × Int × Int × Int × (List (Int × Unit)) × Int × Unit) : Option (Int × (List (Int × Unit)) × (List (Int × Int × Int × ByteArray × Unit)) × (List (Int × Unit)) × (List (ByteArray × Unit)) × (List (Int × Unit)) × Unit) := laws_markMate x.1 x.2.1 x.2.2.1 x.2.2.2.1 x.2.2.2.2.1 x.2.2.2.2.2.1 x.2.2.2.2.2.2.1 x.2.2.2.2.2.2.2.1 x.2.2.2.2.2.2.2.2.1 x.2.2.2.2.2.2.2.2.2.1 x.2.2.2.2.2.2.2.2.2.2.1 x.2.2.2.2.2.2.2.2.2.2.2.1 x.2.2.2.2.2.2.2.2.2.2.2.2.1 x.2.2.2.2.2.2.2.2.2.2.2.2.2.1 x.2.2.2.2.2.2.2.2.2.2.2.2.2.2.1 x.2.2.2.2.2.2.2.2.2.2.2.2.2.2.2.1 x.2.2.2.2.2.2.2.2.2.2.2.2.2.2.2.2.1
noncomputable def sem77 : Sem1 := semOf ps77 rs77 x77
theorem so77 : SemsOk Try.prog (semsOf sl77) := sems_cons k71 (sems_cons k31 (sems_cons k57 (sems_cons k58 (sems_cons k30 (sems_nil)))))
theorem t77_eq (x : denR (headRT (ps77.map some))) : codeK (tabOf tr) (semsOf sl77) D77 L77 code77 (start 26 ps77 x) (finK rs77 ps77) = x77 x := by kernel_rfl
theorem k77 : Known Try.prog 77 sem77 :=
  fn_auto tr_ok eq_ok mixed_ok so77 (D := D77) (code := code77) (n := 26) Try.func77 (by kernel_rfl) (by kernel_rfl) (by kernel_rfl) (fun w0 mu _ hs => (loops_of (l := []) (by kernel_rfl) (List.forall_mem_nil _))) t77_eq

/-! ### f130: laws.heldRing -/
noncomputable def code130 : Code := match Try.f130.body with | some c => c | none => .skip
def ps130 : List AP := [.val true [.int .i64, .shr (.cons (.int .i64) .nil)], .val false [.int .i64]]
def rs130 : List RP := [{ src := .tmp 4, agg := false, ps := [.int .i64] }]
noncomputable def sl130 : SemL := [(73, (.shr, .shr, .shr, sem73))]
def D130 : Draws := fun _ => .nil
noncomputable def L130 {R : Type} : Loops R := fun _ _ _ _ => none
noncomputable def laws_heldRing (a0c0 : Int) (a0c1 : List (Int × Unit)) (k1 : Int) : Option (Int × Unit) :=
  Option.bind (laws_heldIntS a0c1 k1) fun y1 =>
  bif decide (y1.1 < (0 : Int)) then
    some ((-1 : Int), ())
  else
    some (y1.1, ())
noncomputable def x130 (x : Int × (List (Int × Unit)) × Int × Unit) : Option (Int × Unit) := laws_heldRing x.1 x.2.1 x.2.2.1
noncomputable def sem130 : Sem1 := semOf ps130 rs130 x130
theorem so130 : SemsOk Try.prog (semsOf sl130) := sems_cons k73 (sems_nil)
theorem t130_eq (x : denR (headRT (ps130.map some))) : codeK (tabOf tr) (semsOf sl130) D130 L130 code130 (start 12 ps130 x) (finK rs130 ps130) = x130 x := by kernel_rfl
theorem k130 : Known Try.prog 130 sem130 :=
  fn_auto tr_ok eq_ok mixed_ok so130 (D := D130) (code := code130) (n := 12) Try.func130 (by kernel_rfl) (by kernel_rfl) (by kernel_rfl) (fun w0 mu _ hs => (loops_of (l := []) (by kernel_rfl) (List.forall_mem_nil _))) t130_eq

/-! ### f78: laws.heldMate -/
noncomputable def code78 : Code := match Try.f78.body with | some c => c | none => .skip
def ps78 : List AP := [.val true [.int .i64, .int .i64, .shr (.cons (.int .i64) .nil), .shr (.cons (.int .i64) (.cons (.int .i64) (.cons (.int .i64) (.cons .str .nil)))), .shr (.cons (.int .i64) .nil), .shr (.cons .str .nil), .int .i64, .int .i64, .int .i64, .int .i64, .int .i64, .int .i64, .int .i64, .int .i64, .int .i64, .shr (.cons (.int .i64) .nil)], .val false [.int .i64]]
def rs78 : List RP := [{ src := .tmp 4, agg := false, ps := [.int .i64] }]
noncomputable def sl78 : SemL := [(130, (.shr, .shr, .shr, sem130)), (32, (.shr, .shr, .shr, sem32)), (73, (.shr, .shr, .shr, sem73)), (61, (.shr, .shr, .shr, sem61)), (59, (.shr, .shr, .shr, sem59))]
def D78 : Draws := fun _ => .nil
noncomputable def L78 {R : Type} : Loops R := fun _ _ _ _ => none
noncomputable def laws_heldMate (a0c0 : Int) (a0c1 : Int) (a0c2 : List (Int × Unit)) (a0c3 : List (Int × Int × Int × ByteArray × Unit)) (a0c4 : List (Int × Unit)) (a0c5 : List (ByteArray × Unit)) (a0c6 : Int) (a0c7 : Int) (a0c8 : Int) (a0c9 : Int) (a0c10 : Int) (a0c11 : Int) (a0c12 : Int) (a0c13 : Int) (a0c14 : Int) (a0c15 : List (Int × Unit)) (k1 : Int) : Option (Int × Unit) :=
  Option.bind (laws_heldRing a0c1 a0c2 k1) fun y1 =>
  bif decide (y1.1 < (0 : Int)) then
    some ((-1 : Int), ())
  else
    Option.bind (laws_heldItemS a0c3 y1.1) fun y2 =>
    bif decide (y2.1 < (0 : Int)) then
      some ((-1 : Int), ())
    else
      Option.bind (laws_heldIntS a0c4 y2.1) fun y3 =>
      bif decide (y3.1 < (0 : Int)) then
        some ((-1 : Int), ())
      else
        Option.bind (laws_heldStringS a0c5 y3.1) fun y4 =>
        bif decide (y4.1 < (0 : Int)) then
          some ((-1 : Int), ())
        else
          Option.bind (laws_heldToken a0c10 a0c11 a0c12 a0c13 a0c14 a0c15 y4.1) fun y5 =>
          bif decide (y5.1 < (0 : Int)) then
            some ((-1 : Int), ())
          else
            some (y5.1, ())
noncomputable def x78 (x : Int × Int × (List (Int × Unit)) × (List (Int × Int × Int × ByteArray × Unit)) × (List (Int × Unit)) × (List (ByteArray × Unit)) × Int × Int × Int × Int × Int × Int × Int × Int × Int × (List (Int × Unit)) × Int × Unit) : Option (Int × Unit) := laws_heldMate x.1 x.2.1 x.2.2.1 x.2.2.2.1 x.2.2.2.2.1 x.2.2.2.2.2.1 x.2.2.2.2.2.2.1 x.2.2.2.2.2.2.2.1 x.2.2.2.2.2.2.2.2.1 x.2.2.2.2.2.2.2.2.2.1 x.2.2.2.2.2.2.2.2.2.2.1 x.2.2.2.2.2.2.2.2.2.2.2.1 x.2.2.2.2.2.2.2.2.2.2.2.2.1 x.2.2.2.2.2.2.2.2.2.2.2.2.2.1 x.2.2.2.2.2.2.2.2.2.2.2.2.2.2.1 x.2.2.2.2.2.2.2.2.2.2.2.2.2.2.2.1 x.2.2.2.2.2.2.2.2.2.2.2.2.2.2.2.2.1
noncomputable def sem78 : Sem1 := semOf ps78 rs78 x78
theorem so78 : SemsOk Try.prog (semsOf sl78) := sems_cons k130 (sems_cons k32 (sems_cons k73 (sems_cons k61 (sems_cons k59 (sems_nil)))))
theorem t78_eq (x : denR (headRT (ps78.map some))) : codeK (tabOf tr) (semsOf sl78) D78 L78 code78 (start 36 ps78 x) (finK rs78 ps78) = x78 x := by kernel_rfl
theorem k78 : Known Try.prog 78 sem78 :=
  fn_auto tr_ok eq_ok mixed_ok so78 (D := D78) (code := code78) (n := 36) Try.func78 (by kernel_rfl) (by kernel_rfl) (by kernel_rfl) (fun w0 mu _ hs => (loops_of (l := []) (by kernel_rfl) (List.forall_mem_nil _))) t78_eq

/-! ### f12: laws.FnExactMateNew -/
noncomputable def code12 : Code := match Try.f12.body with | some c => c | none => .skip
def ps12 : List AP := [.val false [.int .i64], .val true [.int .i64, .shr (.cons (.int .i64) .nil)]]
def rs12 : List RP := [{ src := .tmp 4, agg := false, ps := [.bool] }]
noncomputable def sl12 : SemL := [(33, (.shr, .shr, .shr, sem33)), (36, (.shr, .shr, .shr, sem36)), (74, (.shr, .shr, .shr, sem74)), (75, (.shr, .shr, .shr, sem75)), (76, (.shr, .shr, .shr, sem76)), (39, (.shr, .shr, .shr, sem39)), (71, (.lend, .shr, .shr, sem71)), (77, (.lend, .shr, .shr, sem77)), (78, (.shr, .shr, .shr, sem78))]
def D12 : Draws := fun id => bif Nat.beq id 10 then .op 0 .take (.op 1 .take (.op 2 .one (.op 3 .one (.op 4 .any (.nil))))) else .nil
noncomputable def L12 {R : Type} : Loops R := fun _ _ _ _ => none
noncomputable def laws_FnExactMateNew (aId0 : Int) (aR1c0 : Int) (aR1c1 : List (Int × Unit)) : Option (Bool × Unit) :=
  Option.bind (laws_szRing aR1c0 aR1c1 (1048576 : Int)) fun y1 =>
  bif decide (y1.1 < (0 : Int)) then
    some (true, ())
  else
    Option.bind (laws_toRing aR1c0 aR1c1) fun y2 =>
    Option.bind (spec_MateNew aId0 y2.1 y2.2.1) fun y3 =>
    Option.bind (laws_toRing aR1c0 aR1c1) fun y4 =>
    Option.bind (impl_MateNew aId0 y4.1 y4.2.1) fun y5 =>
    Option.bind (laws_eqMate y5.1 y5.2.1 y5.2.2.1 y5.2.2.2.1 y5.2.2.2.2.1 y5.2.2.2.2.2.1 y5.2.2.2.2.2.2.1 y5.2.2.2.2.2.2.2.1 y5.2.2.2.2.2.2.2.2.1 y5.2.2.2.2.2.2.2.2.2.1 y5.2.2.2.2.2.2.2.2.2.2.1 y5.2.2.2.2.2.2.2.2.2.2.2.1 y5.2.2.2.2.2.2.2.2.2.2.2.2.1 y5.2.2.2.2.2.2.2.2.2.2.2.2.2.1 y5.2.2.2.2.2.2.2.2.2.2.2.2.2.2.1 y5.2.2.2.2.2.2.2.2.2.2.2.2.2.2.2.1 y3.1 y3.2.1 y3.2.2.1 y3.2.2.2.1 y3.2.2.2.2.1 y3.2.2.2.2.2.1 y3.2.2.2.2.2.2.1 y3.2.2.2.2.2.2.2.1 y3.2.2.2.2.2.2.2.2.1 y3.2.2.2.2.2.2.2.2.2.1 y3.2.2.2.2.2.2.2.2.2.2.1 y3.2.2.2.2.2.2.2.2.2.2.2.1 y3.2.2.2.2.2.2.2.2.2.2.2.2.1 y3.2.2.2.2.2.2.2.2.2.2.2.2.2.1 y3.2.2.2.2.2.2.2.2.2.2.2.2.2.2.1 y3.2.2.2.2.2.2.2.2.2.2.2.2.2.2.2.1) fun y6 =>
    bif !y6.1 then
      some (false, ())
    else bif !(y5.2.2.2.2.2.2.2.2.2.2.2.2.2.2.2.2.1 == y3.2.2.2.2.2.2.2.2.2.2.2.2.2.2.2.2.1) then
      some (false, ())
    else
      Option.bind (laws_toRing aR1c0 aR1c1) fun y7 =>
      Option.bind (laws_eqRing y4.1 y4.2.1 y7.1 y7.2.1) fun y8 =>
      bif !y8.1 then
        some (false, ())
      else
        Option.bind (laws_markRing y4.1 y4.2.1 (1 : Int)) fun y9 =>
        bif decide (y9.1 < (0 : Int)) then
          some (false, ())
        else
          Option.bind (laws_eqMate y5.1 y5.2.1 y5.2.2.1 y5.2.2.2.1 y5.2.2.2.2.1 y5.2.2.2.2.2.1 y5.2.2.2.2.2.2.1 y5.2.2.2.2.2.2.2.1 y5.2.2.2.2.2.2.2.2.1 y5.2.2.2.2.2.2.2.2.2.1 y5.2.2.2.2.2.2.2.2.2.2.1 y5.2.2.2.2.2.2.2.2.2.2.2.1 y5.2.2.2.2.2.2.2.2.2.2.2.2.1 y5.2.2.2.2.2.2.2.2.2.2.2.2.2.1 y5.2.2.2.2.2.2.2.2.2.2.2.2.2.2.1 y5.2.2.2.2.2.2.2.2.2.2.2.2.2.2.2.1 y3.1 y3.2.1 y3.2.2.1 y3.2.2.2.1 y3.2.2.2.2.1 y3.2.2.2.2.2.1 y3.2.2.2.2.2.2.1 y3.2.2.2.2.2.2.2.1 y3.2.2.2.2.2.2.2.2.1 y3.2.2.2.2.2.2.2.2.2.1 y3.2.2.2.2.2.2.2.2.2.2.1 y3.2.2.2.2.2.2.2.2.2.2.2.1 y3.2.2.2.2.2.2.2.2.2.2.2.2.1 y3.2.2.2.2.2.2.2.2.2.2.2.2.2.1 y3.2.2.2.2.2.2.2.2.2.2.2.2.2.2.1 y3.2.2.2.2.2.2.2.2.2.2.2.2.2.2.2.1) fun y10 =>
          bif !y10.1 then
            some (false, ())
          else bif !(y5.2.2.2.2.2.2.2.2.2.2.2.2.2.2.2.2.1 == y3.2.2.2.2.2.2.2.2.2.2.2.2.2.2.2.2.1) then
            some (false, ())
          else
            Option.bind (laws_markMate y5.1 y5.2.1 y5.2.2.1 y5.2.2.2.1 y5.2.2.2.2.1 y5.2.2.2.2.2.1 y5.2.2.2.2.2.2.1 y5.2.2.2.2.2.2.2.1 y5.2.2.2.2.2.2.2.2.1 y5.2.2.2.2.2.2.2.2.2.1 y5.2.2.2.2.2.2.2.2.2.2.1 y5.2.2.2.2.2.2.2.2.2.2.2.1 y5.2.2.2.2.2.2.2.2.2.2.2.2.1 y5.2.2.2.2.2.2.2.2.2.2.2.2.2.1 y5.2.2.2.2.2.2.2.2.2.2.2.2.2.2.1 y5.2.2.2.2.2.2.2.2.2.2.2.2.2.2.2.1 (1 : Int)) fun y11 =>
            Option.bind (laws_heldMate y5.1 y5.2.1 y11.2.1 y11.2.2.1 y11.2.2.2.1 y11.2.2.2.2.1 y5.2.2.2.2.2.2.1 y5.2.2.2.2.2.2.2.1 y5.2.2.2.2.2.2.2.2.1 y5.2.2.2.2.2.2.2.2.2.1 y5.2.2.2.2.2.2.2.2.2.2.1 y5.2.2.2.2.2.2.2.2.2.2.2.1 y5.2.2.2.2.2.2.2.2.2.2.2.2.1 y5.2.2.2.2.2.2.2.2.2.2.2.2.2.1 y5.2.2.2.2.2.2.2.2.2.2.2.2.2.2.1 y11.2.2.2.2.2.1 (1 : Int)) fun y12 =>
            bif decide (y12.1 < (0 : Int)) then
              some (false, ())
            else bif !decide (y12.1 = y11.1) then
              some (false, ())
            else
              Option.bind (laws_toRing aR1c0 aR1c1) fun y13 =>
              Option.bind (impl_MateNew aId0 y13.1 y13.2.1) fun y14 =>
              Option.bind (laws_eqMate y14.1 y14.2.1 y14.2.2.1 y14.2.2.2.1 y14.2.2.2.2.1 y14.2.2.2.2.2.1 y14.2.2.2.2.2.2.1 y14.2.2.2.2.2.2.2.1 y14.2.2.2.2.2.2.2.2.1 y14.2.2.2.2.2.2.2.2.2.1 y14.2.2.2.2.2.2.2.2.2.2.1 y14.2.2.2.2.2.2.2.2.2.2.2.1 y14.2.2.2.2.2.2.2.2.2.2.2.2.1 y14.2.2.2.2.2.2.2.2.2.2.2.2.2.1 y14.2.2.2.2.2.2.2.2.2.2.2.2.2.2.1 y14.2.2.2.2.2.2.2.2.2.2.2.2.2.2.2.1 y3.1 y3.2.1 y3.2.2.1 y3.2.2.2.1 y3.2.2.2.2.1 y3.2.2.2.2.2.1 y3.2.2.2.2.2.2.1 y3.2.2.2.2.2.2.2.1 y3.2.2.2.2.2.2.2.2.1 y3.2.2.2.2.2.2.2.2.2.1 y3.2.2.2.2.2.2.2.2.2.2.1 y3.2.2.2.2.2.2.2.2.2.2.2.1 y3.2.2.2.2.2.2.2.2.2.2.2.2.1 y3.2.2.2.2.2.2.2.2.2.2.2.2.2.1 y3.2.2.2.2.2.2.2.2.2.2.2.2.2.2.1 y3.2.2.2.2.2.2.2.2.2.2.2.2.2.2.2.1) fun y15 =>
              bif !y15.1 then
                some (false, ())
              else bif !(y14.2.2.2.2.2.2.2.2.2.2.2.2.2.2.2.2.1 == y3.2.2.2.2.2.2.2.2.2.2.2.2.2.2.2.2.1) then
                some (false, ())
              else
                Option.bind (laws_heldMate y5.1 y5.2.1 y11.2.1 y11.2.2.1 y11.2.2.2.1 y11.2.2.2.2.1 y5.2.2.2.2.2.2.1 y5.2.2.2.2.2.2.2.1 y5.2.2.2.2.2.2.2.2.1 y5.2.2.2.2.2.2.2.2.2.1 y5.2.2.2.2.2.2.2.2.2.2.1 y5.2.2.2.2.2.2.2.2.2.2.2.1 y5.2.2.2.2.2.2.2.2.2.2.2.2.1 y5.2.2.2.2.2.2.2.2.2.2.2.2.2.1 y5.2.2.2.2.2.2.2.2.2.2.2.2.2.2.1 y11.2.2.2.2.2.1 (1 : Int)) fun y16 =>
                bif decide (y16.1 < (0 : Int)) then
                  some (false, ())
                else bif !decide (y16.1 = y11.1) then
                  some (false, ())
                else
                  some (true, ())
noncomputable def x12 (x : Int × Int × (List (Int × Unit)) × Unit) : Option (Bool × Unit) := laws_FnExactMateNew x.1 x.2.1 x.2.2.1
noncomputable def sem12 : Sem1 := semOf ps12 rs12 x12
theorem so12 : SemsOk Try.prog (semsOf sl12) := sems_cons k33 (sems_cons k36 (sems_cons k74 (sems_cons k75 (sems_cons k76 (sems_cons k39 (sems_cons k71 (sems_cons k77 (sems_cons k78 (sems_nil)))))))))
theorem t12_eq (x : denR (headRT (ps12.map some))) : codeK (tabOf tr) (semsOf sl12) D12 L12 code12 (start 101 ps12 x) (finK rs12 ps12) = x12 x := by kernel_rfl
theorem k12 : Known Try.prog 12 sem12 :=
  fn_auto tr_ok eq_ok mixed_ok so12 (D := D12) (code := code12) (n := 101) Try.func12 (by kernel_rfl) (by kernel_rfl) (by kernel_rfl) (fun w0 mu _ hs => (loops_of (l := []) (by kernel_rfl) (List.forall_mem_nil _))) t12_eq

/-! ### f156: spec.l02Spoilt -/
noncomputable def code156 : Code := match Try.f156.body with | some c => c | none => .skip
def ps156 : List AP := [.box true [.shr (.cons (.int .u8) .nil), .int .i64, .int .i64], .val false [.str]]
def rs156 : List RP := [{ src := .tmp 4, agg := false, ps := [.str] }]
noncomputable def sl156 : SemL := [(87, (.shr, .shr, .shr, sem87)), (152, (.shr, .shr, .shr, sem152))]
def D156 : Draws := fun id => bif Nat.beq id 10 then .op 0 .any (.op 1 .any (.op 2 .any (.op 3 .any (.op 6 .any (.op 7 .any (.op 8 .any (.op 9 .any (.op 4 .last (.op 5 .any (.op 10 .any (.op 11 .any (.nil)))))))))))) else .nil
noncomputable def L156 {R : Type} : Loops R := fun _ _ _ _ => none
noncomputable def spec_l02Spoilt (c0c0 : List (Int × Unit)) (c0c1 : Int) (c0c2 : Int) (s1 : ByteArray) : Option (ByteArray × (List (Int × Unit)) × Int × Int × Unit) :=
  Option.bind (spec_l01Below c0c0 c0c1 c0c2 (12 : Int)) fun y1 =>
  bif decide (y1.1 = (0 : Int)) then
    Option.bind (spec_l01Text y1.2.1 y1.2.2.1 y1.2.2.2.1 (1 : Int)) fun y2 =>
    bif Nat.ble ((ByteArray.size s1) + (ByteArray.size y2.1)) lim then some (s1 ++ y2.1, y2.2.1, y2.2.2.1, y2.2.2.2.1, ())
    else none
  else bif decide (y1.1 = (1 : Int)) then
    Option.bind (spec_l01Below y1.2.1 y1.2.2.1 y1.2.2.2.1 (IntKind.i64.wrap (((ByteArray.size s1 : Nat) : Int) + (1 : Int)))) fun y3 =>
    bif decide ((0 : Int) ≤ y3.1) then bif decide (y3.1 ≤ ((ByteArray.size s1 : Nat) : Int)) then some (ByteArray.extract s1 0 (Int.toNat y3.1), y3.2.1, y3.2.2.1, y3.2.2.2.1, ())
      else none
    else none
  else bif decide (y1.1 = (2 : Int)) then
    bif decide ((0 : Int) < ((ByteArray.size s1 : Nat) : Int)) then
      Option.bind (spec_l01Below y1.2.1 y1.2.2.1 y1.2.2.2.1 ((ByteArray.size s1 : Nat) : Int)) fun y4 =>
      bif decide ((0 : Int) ≤ y4.1) then bif decide (y4.1 ≤ ((ByteArray.size s1 : Nat) : Int)) then bif decide ((0 : Int) ≤ IntKind.i64.wrap (y4.1 + (1 : Int))) then bif decide (IntKind.i64.wrap (y4.1 + (1 : Int)) ≤ ((ByteArray.size s1 : Nat) : Int)) then Option.bind (spec_l01Text y4.2.1 y4.2.2.1 y4.2.2.2.1 (1 : Int)) fun y5 =>
              bif Nat.ble ((ByteArray.size (ByteArray.extract s1 0 (Int.toNat y4.1))) + (ByteArray.size y5.1)) lim then bif Nat.ble ((ByteArray.size ((ByteArray.extract s1 0 (Int.toNat y4.1)) ++ y5.1)) + (ByteArray.size (ByteArray.extract s1 (Int.toNat (IntKind.i64.wrap (y4.1 + (1 : Int)))) (ByteArray.size s1)))) lim then some (((ByteArray.extract s1 0 (Int.toNat y4.1)) ++ y5.1) ++ (ByteArray.extract s1 (Int.toNat (IntKind.i64.wrap (y4.1 + (1 : Int)))) (ByteArray.size s1)), y5.2.1, y5.2.2.1, y5.2.2.2.1, ())
                else none
              else none
            else none
          else none
        else none
      else none
    else
      some (s1, y1.2.1, y1.2.2.1, y1.2.2.2.1, ())
  else bif decide (y1.1 = (3 : Int)) then
    bif decide ((0 : Int) < ((ByteArray.size s1 : Nat) : Int)) then
      Option.bind (spec_l01Below y1.2.1 y1.2.2.1 y1.2.2.2.1 ((ByteArray.size s1 : Nat) : Int)) fun y6 =>
      bif decide ((0 : Int) ≤ y6.1) then bif decide (y6.1 ≤ ((ByteArray.size s1 : Nat) : Int)) then bif decide ((0 : Int) ≤ IntKind.i64.wrap (y6.1 + (1 : Int))) then bif decide (IntKind.i64.wrap (y6.1 + (1 : Int)) ≤ ((ByteArray.size s1 : Nat) : Int)) then Option.bind (spec_l01Text y6.2.1 y6.2.2.1 y6.2.2.2.1 (1 : Int)) fun y7 =>
              bif Nat.ble ((ByteArray.size (ByteArray.extract s1 0 (Int.toNat y6.1))) + (ByteArray.size y7.1)) lim then bif Nat.ble ((ByteArray.size ((ByteArray.extract s1 0 (Int.toNat y6.1)) ++ y7.1)) + (ByteArray.size (ByteArray.extract s1 (Int.toNat (IntKind.i64.wrap (y6.1 + (1 : Int)))) (ByteArray.size s1)))) lim then some (((ByteArray.extract s1 0 (Int.toNat y6.1)) ++ y7.1) ++ (ByteArray.extract s1 (Int.toNat (IntKind.i64.wrap (y6.1 + (1 : Int)))) (ByteArray.size s1)), y7.2.1, y7.2.2.1, y7.2.2.2.1, ())
                else none
              else none
            else none
          else none
        else none
      else none
    else
      some (s1, y1.2.1, y1.2.2.1, y1.2.2.2.1, ())
  else
    some (s1, y1.2.1, y1.2.2.1, y1.2.2.2.1, ())
noncomputable def x156 (x : (List (Int × Unit)) × Int × Int × ByteArray × Unit) : Option (ByteArray × (List (Int × Unit)) × Int × Int × Unit) := spec_l02Spoilt x.1 x.2.1 x.2.2.1 x.2.2.2.1
noncomputable def sem156 : Sem1 := semOf ps156 rs156 x156
theorem so156 : SemsOk Try.prog (semsOf sl156) := sems_cons k87 (sems_cons k152 (sems_nil))
theorem t156_eq (x : denR (headRT (ps156.map some))) : codeK (tabOf tr) (semsOf sl156) D156 L156 code156 (start 45 ps156 x) (finK rs156 ps156) = x156 x := by kernel_rfl
theorem k156 : Known Try.prog 156 sem156 :=
  fn_auto tr_ok eq_ok mixed_ok so156 (D := D156) (code := code156) (n := 45) Try.func156 (by kernel_rfl) (by kernel_rfl) (by kernel_rfl) (fun w0 mu _ hs => (loops_of (l := []) (by kernel_rfl) (List.forall_mem_nil _))) t156_eq

/-! ### f131: spec.l12Stream -/
noncomputable def code131 : Code := match Try.f131.body with | some c => c | none => .skip
def ps131 : List AP := [.box true [.shr (.cons (.int .u8) .nil), .int .i64, .int .i64]]
def rs131 : List RP := [{ src := .tmp 2, agg := false, ps := [.own (.cons .str .nil)] }]
noncomputable def sl131 : SemL := [(87, (.shr, .shr, .shr, sem87)), (121, (.shr, .shr, .shr, sem121)), (48, (.shr, .shr, .shr, sem48)), (86, (.shr, .shr, .shr, sem86)), (156, (.shr, .shr, .shr, sem156))]
def D131 : Draws := fun id => bif Nat.beq id 12 then .op 1 .any (.op 2 .any (.op 3 .any (.op 5 .any (.op 6 .any (.op 7 .any (.op 8 .any (.op 0 .one (.op 4 .last (.op 9 .last (.op 10 .any (.nil))))))))))) else .nil
def hp131_0 : List (Option AP) := [some (.box true [.shr (.cons (.int .u8) .nil), .int .i64, .int .i64]), none, none, some (.val false [.own (.cons .str .nil)]), some (.val false [.int .i64]), none, none, none, none, none, none, none, none, none, none, none, none, none, none, none, none, none, none, none, none, none, none, none, none, none, none, none, none, none, none, none, none, none, none, none, none, none, none, none, none, none, none, none, none, none, none, none, none, none, none, none, none, none, none, none, none, none, none, none, none, none, none, none, none, none]
def e131_0 : List (Option AP) := [some (.box true [.shr (.cons (.int .u8) .nil), .int .i64, .int .i64]), none, none, some (.val false [.own (.cons .str .nil)]), none, none, none, none, none, none, none, none, none, none, none, none, none, none, none, none, none, none, none, none, none, none, none, none, none, none, none, none, none, none, none, none, none, none, none, none, none, none, none, none, none, none, none, none, none, none, none, none, none, none, none, none, none, none, none, none, none, none, none, none, none, none, none, none, none, none]
def q131_0 : List (Option AP) := [none, none, none, none, none, none, none, none, none, none, none, none, none, none, none, none, none, none, none, none, none, none, none, none, none, none, none, none, none, none, none, none, none, none, none, none, none, none, none, none, none, none, none, none, none, none, none, none, none, none, none, none, none, none, none, none, none, none, none, none, none, none, none, none, none, none, none, none, none, none]
abbrev H131_0 : Type := (List (Int × Unit)) × Int × Int × (List (ByteArray × Unit)) × Int × Unit
abbrev E131_0 : Type := (List (Int × Unit)) × Int × Int × (List (ByteArray × Unit)) × Unit
abbrev Q131_0 : Type := Unit
noncomputable def spec_l12Stream_c0 (c0c0 : List (Int × Unit)) (c0c1 : Int) (c0c2 : Int) (out3 : List (ByteArray × Unit)) (i4 : Int) : Option (Sum H131_0 (Sum E131_0 Q131_0)) :=
  Option.bind (spec_l01Below c0c0 c0c1 c0c2 (4 : Int)) fun y1 =>
  bif decide (i4 < y1.1) then
    Option.bind (spec_l01Below y1.2.1 y1.2.2.1 y1.2.2.2.1 (9 : Int)) fun y2 =>
    Option.bind (spec_l12Long y2.2.1 y2.2.2.1 y2.2.2.2.1) fun y3 =>
    Option.bind (spec_Pieces y2.1 y3.1) fun y4 =>
    bif Nat.ble (((List.length out3) + (List.length y4.1)) * 16) lim then some (.inl (y3.2.1, y3.2.2.1, y3.2.2.2.1, out3 ++ y4.1, IntKind.i64.wrap (i4 + (1 : Int)), ()))
    else none
  else
    some (.inr (.inl (y1.2.1, y1.2.2.1, y1.2.2.2.1, out3, ())))
noncomputable def spec_l12Stream_r0 (x : H131_0) : Option (Sum H131_0 (Sum E131_0 Q131_0)) := spec_l12Stream_c0 x.1 x.2.1 x.2.2.1 x.2.2.2.1 x.2.2.2.2.1
noncomputable def L131 {R : Type} : Loops R := fun id _ st k => bif Nat.beq id 0 then loopAt hp131_0 e131_0 q131_0 spec_l12Stream_r0 st k else none
noncomputable def spec_l12Stream (c0c0 : List (Int × Unit)) (c0c1 : Int) (c0c2 : Int) : Option ((List (ByteArray × Unit)) × (List (Int × Unit)) × Int × Int × Unit) :=
  outK (loopV spec_l12Stream_r0 (c0c0, c0c1, c0c2, [], (0 : Int), ())) (fun y1 =>
    bif decide ((0 : Int) < ((List.length y1.2.2.2.1 : Nat) : Int)) then
      Option.bind (spec_l01Once y1.1 y1.2.1 y1.2.2.1 (3 : Int)) fun y3 =>
      bif y3.1 then
        Option.bind (spec_l01Below y3.2.1 y3.2.2.1 y3.2.2.2.1 ((List.length y1.2.2.2.1 : Nat) : Int)) fun y4 =>
        Option.bind (spec_l01Below y4.2.1 y4.2.2.1 y4.2.2.2.1 (3 : Int)) fun y5 =>
        bif decide (y5.1 = (0 : Int)) then
          bif decide ((0 : Int) ≤ y4.1) then bif decide (y4.1 ≤ ((List.length y1.2.2.2.1 : Nat) : Int)) then bif decide ((0 : Int) ≤ IntKind.i64.wrap (y4.1 + (1 : Int))) then bif decide (IntKind.i64.wrap (y4.1 + (1 : Int)) ≤ ((List.length y1.2.2.2.1 : Nat) : Int)) then bif Nat.ble ((0 + (List.length (List.take (Int.toNat y4.1) (List.drop 0 y1.2.2.2.1)))) * 16) lim then bif Nat.ble (((List.length ([] ++ (List.take (Int.toNat y4.1) (List.drop 0 y1.2.2.2.1)))) + (List.length (List.drop (Int.toNat (IntKind.i64.wrap (y4.1 + (1 : Int)))) y1.2.2.2.1))) * 16) lim then some (([] ++ (List.take (Int.toNat y4.1) (List.drop 0 y1.2.2.2.1))) ++ (List.drop (Int.toNat (IntKind.i64.wrap (y4.1 + (1 : Int)))) y1.2.2.2.1), y5.2.1, y5.2.2.1, y5.2.2.2.1, ())
                    else none
                  else none
                else none
              else none
            else none
          else none
        else bif decide (y5.1 = (1 : Int)) then
          bif decide ((0 : Int) ≤ y4.1) then bif Nat.blt (Int.toNat y4.1) (List.length y1.2.2.2.1) then Option.bind ((y1.2.2.2.1)[Int.toNat y4.1]?) fun r6 =>
              Option.bind (spec_l02Spoilt y5.2.1 y5.2.2.1 y5.2.2.2.1 r6.1) fun y7 =>
              bif decide ((0 : Int) ≤ y4.1) then bif Nat.blt (Int.toNat y4.1) (List.length y1.2.2.2.1) then Option.bind ((y1.2.2.2.1)[Int.toNat y4.1]?) fun r8 =>
                  some (List.set y1.2.2.2.1 (Int.toNat y4.1) (y7.1, ()), y7.2.1, y7.2.2.1, y7.2.2.2.1, ())
                else none
              else none
            else none
          else none
        else bif decide ((0 : Int) ≤ y4.1) then bif Nat.blt (Int.toNat y4.1) (List.length y1.2.2.2.1) then Option.bind ((y1.2.2.2.1)[Int.toNat y4.1]?) fun r9 =>
            bif Nat.ble (((List.length y1.2.2.2.1) + 1) * 16) lim then some (y1.2.2.2.1 ++ [(r9.1, ())], y5.2.1, y5.2.2.1, y5.2.2.2.1, ())
            else none
          else none
        else none
      else
        some (y1.2.2.2.1, y3.2.1, y3.2.2.1, y3.2.2.2.1, ())
    else
      some (y1.2.2.2.1, y1.1, y1.2.1, y1.2.2.1, ())) (fun y2 =>
    none)
noncomputable def x131 (x : (List (Int × Unit)) × Int × Int × Unit) : Option ((List (ByteArray × Unit)) × (List (Int × Unit)) × Int × Int × Unit) := spec_l12Stream x.1 x.2.1 x.2.2.1
noncomputable def sem131 : Sem1 := semOf ps131 rs131 x131
theorem so131 : SemsOk Try.prog (semsOf sl131) := sems_cons k87 (sems_cons k121 (sems_cons k48 (sems_cons k86 (sems_cons k156 (sems_nil)))))
noncomputable def b131_0 : Code := nthLoop code131 0
theorem t131_r0_eq (x : denR (headRT hp131_0)) : codeK (tabOf tr) (semsOf sl131) D131 L131 b131_0 (headSt hp131_0 x) (roundK 0 hp131_0 e131_0 q131_0) = spec_l12Stream_r0 x := by kernel_rfl
theorem loop131_0 {R : Type} (r : R) (w0 : World) (mu : Mu) (hs : AnShape ps131 mu) : LoopAt Try.prog w0 mu 70 (L131 : Loops R) r 0 b131_0 :=
  loop_auto tr_ok eq_ok mixed_ok so131 (D := D131) hs (by kernel_rfl) (fun _ => (loops_of (l := []) (by kernel_rfl) (List.forall_mem_nil _))) t131_r0_eq (fun _ _ => rfl)
theorem t131_eq (x : denR (headRT (ps131.map some))) : codeK (tabOf tr) (semsOf sl131) D131 L131 code131 (start 70 ps131 x) (finK rs131 ps131) = x131 x := by kernel_rfl
theorem k131 : Known Try.prog 131 sem131 :=
  fn_auto tr_ok eq_ok mixed_ok so131 (D := D131) (code := code131) (n := 70) Try.func131 (by kernel_rfl) (by kernel_rfl) (by kernel_rfl) (fun w0 mu _ hs => (loops_of (l := [(0, b131_0)]) (by kernel_rfl) (List.forall_mem_cons.2 ⟨loop131_0 _ w0 mu hs, (List.forall_mem_nil _)⟩))) t131_eq

/-! ### f79: spec.DrawJoin -/
noncomputable def code79 : Code := match Try.f79.body with | some c => c | none => .skip
def ps79 : List AP := [.val false [.shr (.cons (.int .u8) .nil)]]
def rs79 : List RP := [{ src := .tmp 2, agg := false, ps := [.own (.cons .str .nil)] }]
noncomputable def sl79 : SemL := [(84, (.shr, .shr, .shr, sem84)), (131, (.shr, .shr, .shr, sem131))]
def D79 : Draws := fun _ => .nil
noncomputable def L79 {R : Type} : Loops R := fun _ _ _ _ => none
noncomputable def spec_DrawJoin (code0 : List (Int × Unit)) : Option ((List (ByteArray × Unit)) × Unit) :=
  Option.bind (spec_l01New code0) fun y1 =>
  Option.bind (spec_l12Stream y1.1 y1.2.1 y1.2.2.1) fun y2 =>
  some (y2.1, ())
noncomputable def x79 (x : (List (Int × Unit)) × Unit) : Option ((List (ByteArray × Unit)) × Unit) := spec_DrawJoin x.1
noncomputable def sem79 : Sem1 := semOf ps79 rs79 x79
theorem so79 : SemsOk Try.prog (semsOf sl79) := sems_cons k84 (sems_cons k131 (sems_nil))
theorem t79_eq (x : denR (headRT (ps79.map some))) : codeK (tabOf tr) (semsOf sl79) D79 L79 code79 (start 6 ps79 x) (finK rs79 ps79) = x79 x := by kernel_rfl
theorem k79 : Known Try.prog 79 sem79 :=
  fn_auto tr_ok eq_ok mixed_ok so79 (D := D79) (code := code79) (n := 6) Try.func79 (by kernel_rfl) (by kernel_rfl) (by kernel_rfl) (fun w0 mu _ hs => (loops_of (l := []) (by kernel_rfl) (List.forall_mem_nil _))) t79_eq

/-! ### f80: laws.szMate -/
noncomputable def code80 : Code := match Try.f80.body with | some c => c | none => .skip
def ps80 : List AP := [.val true [.int .i64, .int .i64, .shr (.cons (.int .i64) .nil), .shr (.cons (.int .i64) (.cons (.int .i64) (.cons (.int .i64) (.cons .str .nil)))), .shr (.cons (.int .i64) .nil), .shr (.cons .str .nil), .int .i64, .int .i64, .int .i64, .int .i64, .int .i64, .int .i64, .int .i64, .int .i64, .int .i64, .shr (.cons (.int .i64) .nil)], .val false [.int .i64]]
def rs80 : List RP := [{ src := .tmp 4, agg := false, ps := [.int .i64] }]
noncomputable def sl80 : SemL := [(33, (.shr, .shr, .shr, sem33)), (23, (.shr, .shr, .shr, sem23)), (96, (.shr, .shr, .shr, sem96)), (52, (.shr, .shr, .shr, sem52)), (22, (.shr, .shr, .shr, sem22))]
def D80 : Draws := fun _ => .nil
noncomputable def L80 {R : Type} : Loops R := fun _ _ _ _ => none
noncomputable def laws_szMate (a0c0 : Int) (a0c1 : Int) (a0c2 : List (Int × Unit)) (a0c3 : List (Int × Int × Int × ByteArray × Unit)) (a0c4 : List (Int × Unit)) (a0c5 : List (ByteArray × Unit)) (a0c6 : Int) (a0c7 : Int) (a0c8 : Int) (a0c9 : Int) (a0c10 : Int) (a0c11 : Int) (a0c12 : Int) (a0c13 : Int) (a0c14 : Int) (a0c15 : List (Int × Unit)) (left1 : Int) : Option (Int × Unit) :=
  Option.bind (laws_szRing a0c1 a0c2 left1) fun y1 =>
  bif decide (y1.1 < (0 : Int)) then
    some ((-1 : Int), ())
  else
    Option.bind (laws_szItemS a0c3 y1.1) fun y2 =>
    bif decide (y2.1 < (0 : Int)) then
      some ((-1 : Int), ())
    else
      Option.bind (laws_szIntS a0c4 y2.1) fun y3 =>
      bif decide (y3.1 < (0 : Int)) then
        some ((-1 : Int), ())
      else
        Option.bind (laws_szStringS a0c5 y3.1) fun y4 =>
        bif decide (y4.1 < (0 : Int)) then
          some ((-1 : Int), ())
        else
          Option.bind (laws_szToken a0c10 a0c11 a0c12 a0c13 a0c14 a0c15 y4.1) fun y5 =>
          bif decide (y5.1 < (0 : Int)) then
            some ((-1 : Int), ())
          else
            some (y5.1, ())
noncomputable def x80 (x : Int × Int × (List (Int × Unit)) × (List (Int × Int × Int × ByteArray × Unit)) × (List (Int × Unit)) × (List (ByteArray × Unit)) × Int × Int × Int × Int × Int × Int × Int × Int × Int × (List (Int × Unit)) × Int × Unit) : Option (Int × Unit) := laws_szMate x.1 x.2.1 x.2.2.1 x.2.2.2.1 x.2.2.2.2.1 x.2.2.2.2.2.1 x.2.2.2.2.2.2.1 x.2.2.2.2.2.2.2.1 x.2.2.2.2.2.2.2.2.1 x.2.2.2.2.2.2.2.2.2.1 x.2.2.2.2.2.2.2.2.2.2.1 x.2.2.2.2.2.2.2.2.2.2.2.1 x.2.2.2.2.2.2.2.2.2.2.2.2.1 x.2.2.2.2.2.2.2.2.2.2.2.2.2.1 x.2.2.2.2.2.2.2.2.2.2.2.2.2.2.1 x.2.2.2.2.2.2.2.2.2.2.2.2.2.2.2.1 x.2.2.2.2.2.2.2.2.2.2.2.2.2.2.2.2.1
noncomputable def sem80 : Sem1 := semOf ps80 rs80 x80
theorem so80 : SemsOk Try.prog (semsOf sl80) := sems_cons k33 (sems_cons k23 (sems_cons k96 (sems_cons k52 (sems_cons k22 (sems_nil)))))
theorem t80_eq (x : denR (headRT (ps80.map some))) : codeK (tabOf tr) (semsOf sl80) D80 L80 code80 (start 36 ps80 x) (finK rs80 ps80) = x80 x := by kernel_rfl
theorem k80 : Known Try.prog 80 sem80 :=
  fn_auto tr_ok eq_ok mixed_ok so80 (D := D80) (code := code80) (n := 36) Try.func80 (by kernel_rfl) (by kernel_rfl) (by kernel_rfl) (fun w0 mu _ hs => (loops_of (l := []) (by kernel_rfl) (List.forall_mem_nil _))) t80_eq

/-! ### f82: laws.toMate -/
noncomputable def code82 : Code := match Try.f82.body with | some c => c | none => .skip
def ps82 : List AP := [.val true [.int .i64, .int .i64, .shr (.cons (.int .i64) .nil), .shr (.cons (.int .i64) (.cons (.int .i64) (.cons (.int .i64) (.cons .str .nil)))), .shr (.cons (.int .i64) .nil), .shr (.cons .str .nil), .int .i64, .int .i64, .int .i64, .int .i64, .int .i64, .int .i64, .int .i64, .int .i64, .int .i64, .shr (.cons (.int .i64) .nil)]]
def rs82 : List RP := [{ src := .cell 2, agg := true, ps := [.int .i64, .int .i64, .own (.cons (.int .i64) .nil), .own (.cons (.int .i64) (.cons (.int .i64) (.cons (.int .i64) (.cons .str .nil)))), .own (.cons (.int .i64) .nil), .own (.cons .str .nil), .int .i64, .int .i64, .int .i64, .int .i64, .int .i64, .int .i64, .int .i64, .int .i64, .int .i64, .own (.cons (.int .i64) .nil)] }]
noncomputable def sl82 : SemL := [(36, (.shr, .shr, .shr, sem36)), (26, (.shr, .shr, .shr, sem26)), (53, (.shr, .shr, .shr, sem53)), (54, (.shr, .shr, .shr, sem54)), (25, (.shr, .shr, .shr, sem25))]
def D82 : Draws := fun _ => .nil
noncomputable def L82 {R : Type} : Loops R := fun _ _ _ _ => none
noncomputable def laws_toMate (a0c0 : Int) (a0c1 : Int) (a0c2 : List (Int × Unit)) (a0c3 : List (Int × Int × Int × ByteArray × Unit)) (a0c4 : List (Int × Unit)) (a0c5 : List (ByteArray × Unit)) (a0c6 : Int) (a0c7 : Int) (a0c8 : Int) (a0c9 : Int) (a0c10 : Int) (a0c11 : Int) (a0c12 : Int) (a0c13 : Int) (a0c14 : Int) (a0c15 : List (Int × Unit)) : Option (Int × Int × (List (Int × Unit)) × (List (Int × Int × Int × ByteArray × Unit)) × (List (Int × Unit)) × (List (ByteArray × Unit)) × Int × Int × Int × Int × Int × Int × Int × Int × Int × (List (Int × Unit)) × Unit) :=
  Option.bind (laws_toRing a0c1 a0c2) fun y1 =>
  Option.bind (laws_toItemS a0c3) fun y2 =>
  Option.bind (laws_toIntS a0c4) fun y3 =>
  Option.bind (laws_toStringS a0c5) fun y4 =>
  Option.bind (laws_toToken a0c10 a0c11 a0c12 a0c13 a0c14 a0c15) fun y5 =>
  some (a0c0, y1.1, y1.2.1, y2.1, y3.1, y4.1, a0c6, a0c7, a0c8, a0c9, y5.1, y5.2.1, y5.2.2.1, y5.2.2.2.1, y5.2.2.2.2.1, y5.2.2.2.2.2.1, ())
noncomputable def x82 (x : Int × Int × (List (Int × Unit)) × (List (Int × Int × Int × ByteArray × Unit)) × (List (Int × Unit)) × (List (ByteArray × Unit)) × Int × Int × Int × Int × Int × Int × Int × Int × Int × (List (Int × Unit)) × Unit) : Option (Int × Int × (List (Int × Unit)) × (List (Int × Int × Int × ByteArray × Unit)) × (List (Int × Unit)) × (List (ByteArray × Unit)) × Int × Int × Int × Int × Int × Int × Int × Int × Int × (List (Int × Unit)) × Unit) := laws_toMate x.1 x.2.1 x.2.2.1 x.2.2.2.1 x.2.2.2.2.1 x.2.2.2.2.2.1 x.2.2.2.2.2.2.1 x.2.2.2.2.2.2.2.1 x.2.2.2.2.2.2.2.2.1 x.2.2.2.2.2.2.2.2.2.1 x.2.2.2.2.2.2.2.2.2.2.1 x.2.2.2.2.2.2.2.2.2.2.2.1 x.2.2.2.2.2.2.2.2.2.2.2.2.1 x.2.2.2.2.2.2.2.2.2.2.2.2.2.1 x.2.2.2.2.2.2.2.2.2.2.2.2.2.2.1 x.2.2.2.2.2.2.2.2.2.2.2.2.2.2.2.1
noncomputable def sem82 : Sem1 := semOf ps82 rs82 x82
theorem so82 : SemsOk Try.prog (semsOf sl82) := sems_cons k36 (sems_cons k26 (sems_cons k53 (sems_cons k54 (sems_cons k25 (sems_nil)))))
theorem t82_eq (x : denR (headRT (ps82.map some))) : codeK (tabOf tr) (semsOf sl82) D82 L82 code82 (start 40 ps82 x) (finK rs82 ps82) = x82 x := by kernel_rfl
theorem k82 : Known Try.prog 82 sem82 :=
  fn_auto tr_ok eq_ok mixed_ok so82 (D := D82) (code := code82) (n := 40) Try.func82 (by kernel_rfl) (by kernel_rfl) (by kernel_rfl) (fun w0 mu _ hs => (loops_of (l := []) (by kernel_rfl) (List.forall_mem_nil _))) t82_eq

/-! ### f133: spec.l10Texts -/
noncomputable def code133 : Code := match Try.f133.body with | some c => c | none => .skip
def ps133 : List AP := [.val false [.shr (.cons (.int .i64) .nil)], .val false [.shr (.cons .str .nil)]]
def rs133 : List RP := [{ src := .tmp 4, agg := false, ps := [.bool] }]
noncomputable def sl133 : SemL := [(94, (.shr, .shr, .shr, sem94))]
def D133 : Draws := fun _ => .nil
def hp133_0 : List (Option AP) := [some (.val false [.shr (.cons (.int .i64) .nil)]), some (.val false [.shr (.cons .str .nil)]), none, none, none, some (.val false [.int .i64]), none, none, none, none, none, none, none, none, none, none, none, none, none, none, none, none, none, none, none, none, none, none, none, none, none, none, none, none, none, none, none, none, none, none, none, none]
def e133_0 : List (Option AP) := [some (.val false [.shr (.cons (.int .i64) .nil)]), some (.val false [.shr (.cons .str .nil)]), none, none, none, none, none, none, none, none, none, none, none, none, none, none, none, none, none, none, none, none, none, none, none, none, none, none, none, none, none, none, none, none, none, none, none, none, none, none, none, none]
def q133_0 : List (Option AP) := [none, none, none, none, some (.val false [.bool]), none, none, none, none, none, none, none, none, none, none, none, none, none, none, none, none, none, none, none, none, none, none, none, none, none, none, none, none, none, none, none, none, none, none, none, none, none]
abbrev H133_0 : Type := (List (Int × Unit)) × (List (ByteArray × Unit)) × Int × Unit
abbrev E133_0 : Type := (List (Int × Unit)) × (List (ByteArray × Unit)) × Unit
abbrev Q133_0 : Type := Bool × Unit
noncomputable def spec_l10Texts_c0 (level0 : List (Int × Unit)) (texts1 : List (ByteArray × Unit)) (i5 : Int) : Option (Sum H133_0 (Sum E133_0 Q133_0)) :=
  bif decide (i5 < ((List.length texts1 : Nat) : Int)) then
    bif decide (i5 < ((List.length level0 : Nat) : Int)) then
      bif decide ((0 : Int) ≤ i5) then Option.bind ((level0)[Int.toNat i5]?) fun r1 =>
        Option.bind (spec_l01In r1.1 (1 : Int) (2 : Int)) fun y2 =>
        bif !y2.1 then
          some (.inr (.inr (false, ())))
        else bif decide ((0 : Int) ≤ i5) then Option.bind ((texts1)[Int.toNat i5]?) fun r3 =>
          bif decide ((60 : Int) < ((ByteArray.size r3.1 : Nat) : Int)) then
            some (.inr (.inr (false, ())))
          else
            some (.inl (level0, texts1, IntKind.i64.wrap (i5 + (1 : Int)), ()))
        else none
      else none
    else
      some (.inr (.inl (level0, texts1, ())))
  else
    some (.inr (.inl (level0, texts1, ())))
noncomputable def spec_l10Texts_r0 (x : H133_0) : Option (Sum H133_0 (Sum E133_0 Q133_0)) := spec_l10Texts_c0 x.1 x.2.1 x.2.2.1
noncomputable def L133 {R : Type} : Loops R := fun id _ st k => bif Nat.beq id 0 then loopAt hp133_0 e133_0 q133_0 spec_l10Texts_r0 st k else none
noncomputable def spec_l10Texts (level0 : List (Int × Unit)) (texts1 : List (ByteArray × Unit)) : Option (Bool × Unit) :=
  outK (loopV spec_l10Texts_r0 (level0, texts1, (0 : Int), ())) (fun y1 =>
    bif decide (((List.length y1.2.1 : Nat) : Int) ≤ (20 : Int)) then
      some (decide (((List.length y1.1 : Nat) : Int) = ((List.length y1.2.1 : Nat) : Int)), ())
    else
      some (false, ())) (fun y2 =>
    some (y2.1, ()))
noncomputable def x133 (x : (List (Int × Unit)) × (List (ByteArray × Unit)) × Unit) : Option (Bool × Unit) := spec_l10Texts x.1 x.2.1
noncomputable def sem133 : Sem1 := semOf ps133 rs133 x133
theorem so133 : SemsOk Try.prog (semsOf sl133) := sems_cons k94 (sems_nil)
noncomputable def b133_0 : Code := nthLoop code133 0
theorem t133_r0_eq (x : denR (headRT hp133_0)) : codeK (tabOf tr) (semsOf sl133) D133 L133 b133_0 (headSt hp133_0 x) (roundK 0 hp133_0 e133_0 q133_0) = spec_l10Texts_r0 x := by kernel_rfl
theorem loop133_0 {R : Type} (r : R) (w0 : World) (mu : Mu) (hs : AnShape ps133 mu) : LoopAt Try.prog w0 mu 42 (L133 : Loops R) r 0 b133_0 :=
  loop_auto tr_ok eq_ok mixed_ok so133 (D := D133) hs (by kernel_rfl) (fun _ => (loops_of (l := []) (by kernel_rfl) (List.forall_mem_nil _))) t133_r0_eq (fun _ _ => rfl)
theorem t133_eq (x : denR (headRT (ps133.map some))) : codeK (tabOf tr) (semsOf sl133) D133 L133 code133 (start 42 ps133 x) (finK rs133 ps133) = x133 x := by kernel_rfl
theorem k133 : Known Try.prog 133 sem133 :=
  fn_auto tr_ok eq_ok mixed_ok so133 (D := D133) (code := code133) (n := 42) Try.func133 (by kernel_rfl) (by kernel_rfl) (by kernel_rfl) (fun w0 mu _ hs => (loops_of (l := [(0, b133_0)]) (by kernel_rfl) (List.forall_mem_cons.2 ⟨loop133_0 _ w0 mu hs, (List.forall_mem_nil _)⟩))) t133_eq

/-! ### f157: spec.ItemAt -/
noncomputable def code157 : Code := match Try.f157.body with | some c => c | none => .skip
def ps157 : List AP := [.val false [.shr (.cons (.int .i64) (.cons (.int .i64) (.cons (.int .i64) (.cons .str .nil))))], .val false [.int .i64]]
def rs157 : List RP := [{ src := .cell 4, agg := true, ps := [.int .i64, .int .i64, .int .i64, .str] }, { src := .tmp 5, agg := false, ps := [.bool] }]
noncomputable def sl157 : SemL := []
def D157 : Draws := fun _ => .nil
def hp157_0 : List (Option AP) := [some (.val false [.shr (.cons (.int .i64) (.cons (.int .i64) (.cons (.int .i64) (.cons .str .nil))))]), some (.val false [.int .i64]), none, none, some (.box false [.int .i64, .int .i64, .int .i64, .str]), none, some (.val false [.int .i64]), none, none, none, none, none, none, none, none, none, none, none, none, none, none, none, none, none, none]
def e157_0 : List (Option AP) := [none, none, none, none, some (.box false [.int .i64, .int .i64, .int .i64, .str]), none, none, none, none, none, none, none, none, none, none, none, none, none, none, none, none, none, none, none, none]
def q157_0 : List (Option AP) := [none, none, none, none, some (.box false [.int .i64, .int .i64, .int .i64, .str]), some (.val false [.bool]), none, none, none, none, none, none, none, none, none, none, none, none, none, none, none, none, none, none, none]
abbrev H157_0 : Type := (List (Int × Int × Int × ByteArray × Unit)) × Int × Int × Int × Int × ByteArray × Int × Unit
abbrev E157_0 : Type := Int × Int × Int × ByteArray × Unit
abbrev Q157_0 : Type := Int × Int × Int × ByteArray × Bool × Unit
noncomputable def spec_ItemAt_c0 (list0 : List (Int × Int × Int × ByteArray × Unit)) (seq1 : Int) (t4c0 : Int) (t4c1 : Int) (t4c2 : Int) (t4c3 : ByteArray) (i6 : Int) : Option (Sum H157_0 (Sum E157_0 Q157_0)) :=
  bif decide (i6 < ((List.length list0 : Nat) : Int)) then
    bif decide ((0 : Int) ≤ i6) then Option.bind ((list0)[Int.toNat i6]?) fun r1 =>
      bif decide (r1.1 = seq1) then
        bif decide ((0 : Int) ≤ i6) then Option.bind ((list0)[Int.toNat i6]?) fun r2 =>
          some (.inr (.inr (r2.1, r2.2.1, r2.2.2.1, r2.2.2.2.1, true, ())))
        else none
      else
        some (.inl (list0, seq1, t4c0, t4c1, t4c2, t4c3, IntKind.i64.wrap (i6 + (1 : Int)), ()))
    else none
  else
    some (.inr (.inl (t4c0, t4c1, t4c2, t4c3, ())))
noncomputable def spec_ItemAt_r0 (x : H157_0) : Option (Sum H157_0 (Sum E157_0 Q157_0)) := spec_ItemAt_c0 x.1 x.2.1 x.2.2.1 x.2.2.2.1 x.2.2.2.2.1 x.2.2.2.2.2.1 x.2.2.2.2.2.2.1
noncomputable def L157 {R : Type} : Loops R := fun id _ st k => bif Nat.beq id 0 then loopAt hp157_0 e157_0 q157_0 spec_ItemAt_r0 st k else none
noncomputable def spec_ItemAt (list0 : List (Int × Int × Int × ByteArray × Unit)) (seq1 : Int) : Option (Int × Int × Int × ByteArray × Bool × Unit) :=
  outK (loopV spec_ItemAt_r0 (list0, seq1, (0 : Int), (0 : Int), (0 : Int), ByteArray.empty, (0 : Int), ())) (fun y1 =>
    some ((0 : Int), (0 : Int), (0 : Int), ByteArray.empty, false, ())) (fun y2 =>
    some (y2.1, y2.2.1, y2.2.2.1, y2.2.2.2.1, y2.2.2.2.2.1, ()))
noncomputable def x157 (x : (List (Int × Int × Int × ByteArray × Unit)) × Int × Unit) : Option (Int × Int × Int × ByteArray × Bool × Unit) := spec_ItemAt x.1 x.2.1
noncomputable def sem157 : Sem1 := semOf ps157 rs157 x157
theorem so157 : SemsOk Try.prog (semsOf sl157) := sems_nil
noncomputable def b157_0 : Code := nthLoop code157 0
theorem t157_r0_eq (x : denR (headRT hp157_0)) : codeK (tabOf tr) (semsOf sl157) D157 L157 b157_0 (headSt hp157_0 x) (roundK 0 hp157_0 e157_0 q157_0) = spec_ItemAt_r0 x := by kernel_rfl
theorem loop157_0 {R : Type} (r : R) (w0 : World) (mu : Mu) (hs : AnShape ps157 mu) : LoopAt Try.prog w0 mu 25 (L157 : Loops R) r 0 b157_0 :=
  loop_auto tr_ok eq_ok mixed_ok so157 (D := D157) hs (by kernel_rfl) (fun _ => (loops_of (l := []) (by kernel_rfl) (List.forall_mem_nil _))) t157_r0_eq (fun _ _ => rfl)
theorem t157_eq (x : denR (headRT (ps157.map some))) : codeK (tabOf tr) (semsOf sl157) D157 L157 code157 (start 25 ps157 x) (finK rs157 ps157) = x157 x := by kernel_rfl
theorem k157 : Known Try.prog 157 sem157 :=
  fn_auto tr_ok eq_ok mixed_ok so157 (D := D157) (code := code157) (n := 25) Try.func157 (by kernel_rfl) (by kernel_rfl) (by kernel_rfl) (fun w0 mu _ hs => (loops_of (l := [(0, b157_0)]) (by kernel_rfl) (List.forall_mem_cons.2 ⟨loop157_0 _ w0 mu hs, (List.forall_mem_nil _)⟩))) t157_eq

/-! ### f134: spec.AruOf -/
noncomputable def code134 : Code := match Try.f134.body with | some c => c | none => .skip
def ps134 : List AP := [.val false [.shr (.cons (.int .i64) (.cons (.int .i64) (.cons (.int .i64) (.cons .str .nil))))]]
def rs134 : List RP := [{ src := .tmp 2, agg := false, ps := [.int .i64] }]
noncomputable def sl134 : SemL := [(157, (.shr, .shr, .shr, sem157))]
def D134 : Draws := fun _ => .nil
def hp134_0 : List (Option AP) := [some (.val false [.shr (.cons (.int .i64) (.cons (.int .i64) (.cons (.int .i64) (.cons .str .nil))))]), none, none, some (.val false [.int .i64]), some (.val false [.int .i64]), none, none, none, none, none, none, none, none, none, none, none, none, none, none, none, none, none, none, none, none, none]
def e134_0 : List (Option AP) := [none, none, none, some (.val false [.int .i64]), none, none, none, none, none, none, none, none, none, none, none, none, none, none, none, none, none, none, none, none, none, none]
def q134_0 : List (Option AP) := [none, none, some (.val false [.int .i64]), none, none, none, none, none, none, none, none, none, none, none, none, none, none, none, none, none, none, none, none, none, none, none]
abbrev H134_0 : Type := (List (Int × Int × Int × ByteArray × Unit)) × Int × Int × Unit
abbrev E134_0 : Type := Int × Unit
abbrev Q134_0 : Type := Int × Unit
noncomputable def spec_AruOf_c0 (list0 : List (Int × Int × Int × ByteArray × Unit)) (n3 : Int) (i4 : Int) : Option (Sum H134_0 (Sum E134_0 Q134_0)) :=
  bif decide (i4 < ((List.length list0 : Nat) : Int)) then
    Option.bind (spec_ItemAt list0 (IntKind.i64.wrap (n3 + (1 : Int)))) fun y1 =>
    bif !y1.2.2.2.2.1 then
      some (.inr (.inr (n3, ())))
    else
      some (.inl (list0, IntKind.i64.wrap (n3 + (1 : Int)), IntKind.i64.wrap (i4 + (1 : Int)), ()))
  else
    some (.inr (.inl (n3, ())))
noncomputable def spec_AruOf_r0 (x : H134_0) : Option (Sum H134_0 (Sum E134_0 Q134_0)) := spec_AruOf_c0 x.1 x.2.1 x.2.2.1
noncomputable def L134 {R : Type} : Loops R := fun id _ st k => bif Nat.beq id 0 then loopAt hp134_0 e134_0 q134_0 spec_AruOf_r0 st k else none
noncomputable def spec_AruOf (list0 : List (Int × Int × Int × ByteArray × Unit)) : Option (Int × Unit) :=
  outK (loopV spec_AruOf_r0 (list0, (0 : Int), (0 : Int), ())) (fun y1 =>
    some (y1.1, ())) (fun y2 =>
    some (y2.1, ()))
noncomputable def x134 (x : (List (Int × Int × Int × ByteArray × Unit)) × Unit) : Option (Int × Unit) := spec_AruOf x.1
noncomputable def sem134 : Sem1 := semOf ps134 rs134 x134
theorem so134 : SemsOk Try.prog (semsOf sl134) := sems_cons k157 (sems_nil)
noncomputable def b134_0 : Code := nthLoop code134 0
theorem t134_r0_eq (x : denR (headRT hp134_0)) : codeK (tabOf tr) (semsOf sl134) D134 L134 b134_0 (headSt hp134_0 x) (roundK 0 hp134_0 e134_0 q134_0) = spec_AruOf_r0 x := by kernel_rfl
theorem loop134_0 {R : Type} (r : R) (w0 : World) (mu : Mu) (hs : AnShape ps134 mu) : LoopAt Try.prog w0 mu 26 (L134 : Loops R) r 0 b134_0 :=
  loop_auto tr_ok eq_ok mixed_ok so134 (D := D134) hs (by kernel_rfl) (fun _ => (loops_of (l := []) (by kernel_rfl) (List.forall_mem_nil _))) t134_r0_eq (fun _ _ => rfl)
theorem t134_eq (x : denR (headRT (ps134.map some))) : codeK (tabOf tr) (semsOf sl134) D134 L134 code134 (start 26 ps134 x) (finK rs134 ps134) = x134 x := by kernel_rfl
theorem k134 : Known Try.prog 134 sem134 :=
  fn_auto tr_ok eq_ok mixed_ok so134 (D := D134) (code := code134) (n := 26) Try.func134 (by kernel_rfl) (by kernel_rfl) (by kernel_rfl) (fun w0 mu _ hs => (loops_of (l := [(0, b134_0)]) (by kernel_rfl) (List.forall_mem_cons.2 ⟨loop134_0 _ w0 mu hs, (List.forall_mem_nil _)⟩))) t134_eq

/-! ### f166: spec.l05SameInts -/
noncomputable def code166 : Code := match Try.f166.body with | some c => c | none => .skip
def ps166 : List AP := [.val false [.shr (.cons (.int .i64) .nil)], .val false [.shr (.cons (.int .i64) .nil)]]
def rs166 : List RP := [{ src := .tmp 4, agg := false, ps := [.bool] }]
noncomputable def sl166 : SemL := []
def D166 : Draws := fun id => bif Nat.beq id 6 then .op 0 .any (.op 1 .any (.op 2 .any (.op 3 .take (.op 4 .any (.op 5 .any (.op 6 .any (.op 7 .take (.op 8 .any (.nil))))))))) else .nil
def hp166_0 : List (Option AP) := [some (.val false [.shr (.cons (.int .i64) .nil)]), some (.val false [.shr (.cons (.int .i64) .nil)]), none, none, none, some (.val false [.int .i64]), none, none, none, none, none, none, none, none, none, none, none, none, none, none, none, none, none, none, none, none]
def e166_0 : List (Option AP) := [none, none, none, none, none, none, none, none, none, none, none, none, none, none, none, none, none, none, none, none, none, none, none, none, none, none]
def q166_0 : List (Option AP) := [none, none, none, none, some (.val false [.bool]), none, none, none, none, none, none, none, none, none, none, none, none, none, none, none, none, none, none, none, none, none]
abbrev H166_0 : Type := (List (Int × Unit)) × (List (Int × Unit)) × Int × Unit
abbrev E166_0 : Type := Unit
abbrev Q166_0 : Type := Bool × Unit
noncomputable def spec_l05SameInts_c0 (a0 : List (Int × Unit)) (b1 : List (Int × Unit)) (i5 : Int) : Option (Sum H166_0 (Sum E166_0 Q166_0)) :=
  bif decide (i5 < ((List.length a0 : Nat) : Int)) then
    bif decide ((0 : Int) ≤ i5) then Option.bind ((a0)[Int.toNat i5]?) fun r1 =>
      bif decide ((0 : Int) ≤ i5) then Option.bind ((b1)[Int.toNat i5]?) fun r2 =>
        bif !decide (r1.1 = r2.1) then
          some (.inr (.inr (false, ())))
        else
          some (.inl (a0, b1, IntKind.i64.wrap (i5 + (1 : Int)), ()))
      else none
    else none
  else
    some (.inr (.inl (())))
noncomputable def spec_l05SameInts_r0 (x : H166_0) : Option (Sum H166_0 (Sum E166_0 Q166_0)) := spec_l05SameInts_c0 x.1 x.2.1 x.2.2.1
noncomputable def L166 {R : Type} : Loops R := fun id _ st k => bif Nat.beq id 0 then loopAt hp166_0 e166_0 q166_0 spec_l05SameInts_r0 st k else none
noncomputable def spec_l05SameInts (a0 : List (Int × Unit)) (b1 : List (Int × Unit)) : Option (Bool × Unit) :=
  bif !decide (((List.length a0 : Nat) : Int) = ((List.length b1 : Nat) : Int)) then
    some (false, ())
  else
    outK (loopV spec_l05SameInts_r0 (a0, b1, (0 : Int), ())) (fun y1 =>
      some (true, ())) (fun y2 =>
      some (y2.1, ()))
noncomputable def x166 (x : (List (Int × Unit)) × (List (Int × Unit)) × Unit) : Option (Bool × Unit) := spec_l05SameInts x.1 x.2.1
noncomputable def sem166 : Sem1 := semOf ps166 rs166 x166
theorem so166 : SemsOk Try.prog (semsOf sl166) := sems_nil
noncomputable def b166_0 : Code := nthLoop code166 0
theorem t166_r0_eq (x : denR (headRT hp166_0)) : codeK (tabOf tr) (semsOf sl166) D166 L166 b166_0 (headSt hp166_0 x) (roundK 0 hp166_0 e166_0 q166_0) = spec_l05SameInts_r0 x := by kernel_rfl
theorem loop166_0 {R : Type} (r : R) (w0 : World) (mu : Mu) (hs : AnShape ps166 mu) : LoopAt Try.prog w0 mu 26 (L166 : Loops R) r 0 b166_0 :=
  loop_auto tr_ok eq_ok mixed_ok so166 (D := D166) hs (by kernel_rfl) (fun _ => (loops_of (l := []) (by kernel_rfl) (List.forall_mem_nil _))) t166_r0_eq (fun _ _ => rfl)
theorem t166_eq (x : denR (headRT (ps166.map some))) : codeK (tabOf tr) (semsOf sl166) D166 L166 code166 (start 26 ps166 x) (finK rs166 ps166) = x166 x := by kernel_rfl
theorem k166 : Known Try.prog 166 sem166 :=
  fn_auto tr_ok eq_ok mixed_ok so166 (D := D166) (code := code166) (n := 26) Try.func166 (by kernel_rfl) (by kernel_rfl) (by kernel_rfl) (fun w0 mu _ hs => (loops_of (l := [(0, b166_0)]) (by kernel_rfl) (List.forall_mem_cons.2 ⟨loop166_0 _ w0 mu hs, (List.forall_mem_nil _)⟩))) t166_eq

/-! ### f158: spec.l05SameToken -/
noncomputable def code158 : Code := match Try.f158.body with | some c => c | none => .skip
def ps158 : List AP := [.val true [.int .i64, .int .i64, .int .i64, .int .i64, .int .i64, .shr (.cons (.int .i64) .nil)], .val true [.int .i64, .int .i64, .int .i64, .int .i64, .int .i64, .shr (.cons (.int .i64) .nil)]]
def rs158 : List RP := [{ src := .tmp 4, agg := false, ps := [.bool] }]
noncomputable def sl158 : SemL := [(166, (.shr, .shr, .shr, sem166))]
def D158 : Draws := fun _ => .nil
noncomputable def L158 {R : Type} : Loops R := fun _ _ _ _ => none
noncomputable def spec_l05SameToken (a0c0 : Int) (a0c1 : Int) (a0c2 : Int) (a0c3 : Int) (a0c4 : Int) (a0c5 : List (Int × Unit)) (b1c0 : Int) (b1c1 : Int) (b1c2 : Int) (b1c3 : Int) (b1c4 : Int) (b1c5 : List (Int × Unit)) : Option (Bool × Unit) :=
  bif decide (a0c0 = b1c0) then
    bif decide (a0c1 = b1c1) then
      bif decide (a0c2 = b1c2) then
        bif decide (a0c3 = b1c3) then
          bif decide (a0c4 = b1c4) then
            Option.bind (spec_l05SameInts a0c5 b1c5) fun y1 =>
            some (y1.1, ())
          else
            some (false, ())
        else
          some (false, ())
      else
        some (false, ())
    else
      some (false, ())
  else
    some (false, ())
noncomputable def x158 (x : Int × Int × Int × Int × Int × (List (Int × Unit)) × Int × Int × Int × Int × Int × (List (Int × Unit)) × Unit) : Option (Bool × Unit) := spec_l05SameToken x.1 x.2.1 x.2.2.1 x.2.2.2.1 x.2.2.2.2.1 x.2.2.2.2.2.1 x.2.2.2.2.2.2.1 x.2.2.2.2.2.2.2.1 x.2.2.2.2.2.2.2.2.1 x.2.2.2.2.2.2.2.2.2.1 x.2.2.2.2.2.2.2.2.2.2.1 x.2.2.2.2.2.2.2.2.2.2.2.1
noncomputable def sem158 : Sem1 := semOf ps158 rs158 x158
theorem so158 : SemsOk Try.prog (semsOf sl158) := sems_cons k166 (sems_nil)
theorem t158_eq (x : denR (headRT (ps158.map some))) : codeK (tabOf tr) (semsOf sl158) D158 L158 code158 (start 45 ps158 x) (finK rs158 ps158) = x158 x := by kernel_rfl
theorem k158 : Known Try.prog 158 sem158 :=
  fn_auto tr_ok eq_ok mixed_ok so158 (D := D158) (code := code158) (n := 45) Try.func158 (by kernel_rfl) (by kernel_rfl) (by kernel_rfl) (fun w0 mu _ hs => (loops_of (l := []) (by kernel_rfl) (List.forall_mem_nil _))) t158_eq

/-! ### f135: spec.l10Blank -/
noncomputable def code135 : Code := match Try.f135.body with | some c => c | none => .skip
def ps135 : List AP := [.val true [.int .i64, .int .i64, .int .i64, .int .i64, .int .i64, .shr (.cons (.int .i64) .nil)]]
def rs135 : List RP := [{ src := .tmp 2, agg := false, ps := [.bool] }]
noncomputable def sl135 : SemL := [(158, (.shr, .shr, .shr, sem158))]
def D135 : Draws := fun _ => .nil
noncomputable def L135 {R : Type} : Loops R := fun _ _ _ _ => none
noncomputable def spec_l10Blank (t0c0 : Int) (t0c1 : Int) (t0c2 : Int) (t0c3 : Int) (t0c4 : Int) (t0c5 : List (Int × Unit)) : Option (Bool × Unit) :=
  Option.bind (spec_l05SameToken t0c0 t0c1 t0c2 t0c3 t0c4 t0c5 (0 : Int) (0 : Int) (0 : Int) (0 : Int) (0 : Int) []) fun y1 =>
  some (y1.1, ())
noncomputable def x135 (x : Int × Int × Int × Int × Int × (List (Int × Unit)) × Unit) : Option (Bool × Unit) := spec_l10Blank x.1 x.2.1 x.2.2.1 x.2.2.2.1 x.2.2.2.2.1 x.2.2.2.2.2.1
noncomputable def sem135 : Sem1 := semOf ps135 rs135 x135
theorem so135 : SemsOk Try.prog (semsOf sl135) := sems_cons k158 (sems_nil)
theorem t135_eq (x : denR (headRT (ps135.map some))) : codeK (tabOf tr) (semsOf sl135) D135 L135 code135 (start 6 ps135 x) (finK rs135 ps135) = x135 x := by kernel_rfl
theorem k135 : Known Try.prog 135 sem135 :=
  fn_auto tr_ok eq_ok mixed_ok so135 (D := D135) (code := code135) (n := 6) Try.func135 (by kernel_rfl) (by kernel_rfl) (by kernel_rfl) (fun w0 mu _ hs => (loops_of (l := []) (by kernel_rfl) (List.forall_mem_nil _))) t135_eq

/-! ### f81: spec.MateOk -/
noncomputable def code81 : Code := match Try.f81.body with | some c => c | none => .skip
def ps81 : List AP := [.val true [.int .i64, .int .i64, .shr (.cons (.int .i64) .nil), .shr (.cons (.int .i64) (.cons (.int .i64) (.cons (.int .i64) (.cons .str .nil)))), .shr (.cons (.int .i64) .nil), .shr (.cons .str .nil), .int .i64, .int .i64, .int .i64, .int .i64, .int .i64, .int .i64, .int .i64, .int .i64, .int .i64, .shr (.cons (.int .i64) .nil)]]
def rs81 : List RP := [{ src := .tmp 2, agg := false, ps := [.bool] }]
noncomputable def sl81 : SemL := [(127, (.shr, .shr, .shr, sem127)), (98, (.shr, .shr, .shr, sem98)), (132, (.shr, .shr, .shr, sem132)), (133, (.shr, .shr, .shr, sem133)), (94, (.shr, .shr, .shr, sem94)), (134, (.shr, .shr, .shr, sem134)), (135, (.shr, .shr, .shr, sem135)), (20, (.shr, .shr, .shr, sem20))]
def D81 : Draws := fun _ => .nil
noncomputable def L81 {R : Type} : Loops R := fun _ _ _ _ => none
noncomputable def spec_MateOk (m0c0 : Int) (m0c1 : Int) (m0c2 : List (Int × Unit)) (m0c3 : List (Int × Int × Int × ByteArray × Unit)) (m0c4 : List (Int × Unit)) (m0c5 : List (ByteArray × Unit)) (m0c6 : Int) (m0c7 : Int) (m0c8 : Int) (m0c9 : Int) (m0c10 : Int) (m0c11 : Int) (m0c12 : Int) (m0c13 : Int) (m0c14 : Int) (m0c15 : List (Int × Unit)) : Option (Bool × Unit) :=
  Option.bind (spec_RingOk m0c1 m0c2) fun y1 =>
  bif !y1.1 then
    some (false, ())
  else
    Option.bind (spec_l05In m0c2 m0c0) fun y2 =>
    bif !y2.1 then
      some (false, ())
    else
      Option.bind (spec_ItemsOk m0c3) fun y3 =>
      bif !y3.1 then
        some (false, ())
      else
        Option.bind (spec_l10Texts m0c4 m0c5) fun y4 =>
        bif !y4.1 then
          some (false, ())
        else
          Option.bind (spec_l01In m0c6 (0 : Int) (1000000000 : Int)) fun y5 =>
          bif !y5.1 then
            some (false, ())
          else
            Option.bind (spec_l01In m0c7 (0 : Int) (60 : Int)) fun y6 =>
            bif !y6.1 then
              some (false, ())
            else
              Option.bind (spec_AruOf m0c3) fun y7 =>
              Option.bind (spec_l01In m0c8 (0 : Int) y7.1) fun y8 =>
              bif y8.1 then
                Option.bind (spec_l01In m0c9 (0 : Int) y7.1) fun y9 =>
                bif y9.1 then
                  Option.bind (spec_l10Blank m0c10 m0c11 m0c12 m0c13 m0c14 m0c15) fun y10 =>
                  bif y10.1 then
                    some (true, ())
                  else
                    Option.bind (spec_TokenOk m0c10 m0c11 m0c12 m0c13 m0c14 m0c15) fun y11 =>
                    some (y11.1, ())
                else
                  some (false, ())
              else
                some (false, ())
noncomputable def x81 (x : Int × Int × (List (Int × Unit)) × (List (Int × Int × Int × ByteArray × Unit)) × (List (Int × Unit)) × (List (ByteArray × Unit)) × Int × Int × Int × Int × Int × Int × Int × Int × Int × (List (Int × Unit)) × Unit) : Option (Bool × Unit) := spec_MateOk x.1 x.2.1 x.2.2.1 x.2.2.2.1 x.2.2.2.2.1 x.2.2.2.2.2.1 x.2.2.2.2.2.2.1 x.2.2.2.2.2.2.2.1 x.2.2.2.2.2.2.2.2.1 x.2.2.2.2.2.2.2.2.2.1 x.2.2.2.2.2.2.2.2.2.2.1 x.2.2.2.2.2.2.2.2.2.2.2.1 x.2.2.2.2.2.2.2.2.2.2.2.2.1 x.2.2.2.2.2.2.2.2.2.2.2.2.2.1 x.2.2.2.2.2.2.2.2.2.2.2.2.2.2.1 x.2.2.2.2.2.2.2.2.2.2.2.2.2.2.2.1
noncomputable def sem81 : Sem1 := semOf ps81 rs81 x81
theorem so81 : SemsOk Try.prog (semsOf sl81) := sems_cons k127 (sems_cons k98 (sems_cons k132 (sems_cons k133 (sems_cons k94 (sems_cons k134 (sems_cons k135 (sems_cons k20 (sems_nil))))))))
theorem t81_eq (x : denR (headRT (ps81.map some))) : codeK (tabOf tr) (semsOf sl81) D81 L81 code81 (start 66 ps81 x) (finK rs81 ps81) = x81 x := by kernel_rfl
theorem k81 : Known Try.prog 81 sem81 :=
  fn_auto tr_ok eq_ok mixed_ok so81 (D := D81) (code := code81) (n := 66) Try.func81 (by kernel_rfl) (by kernel_rfl) (by kernel_rfl) (fun w0 mu _ hs => (loops_of (l := []) (by kernel_rfl) (List.forall_mem_nil _))) t81_eq

/-! ### f137: impl.areShort -/
noncomputable def code137 : Code := match Try.f137.body with | some c => c | none => .skip
def ps137 : List AP := [.val false [.shr (.cons .str .nil)]]
def rs137 : List RP := [{ src := .tmp 2, agg := false, ps := [.bool] }]
noncomputable def sl137 : SemL := []
def D137 : Draws := fun _ => .nil
def hp137_0 : List (Option AP) := [none, none, none, none, none, some (.val false [.shr (.cons .str .nil)]), some (.val false [.int .i64]), some (.val false [.int .i64]), none, none, none, none, none, none, none]
def e137_0 : List (Option AP) := [none, none, none, none, none, none, none, none, none, none, none, none, none, none, none]
def q137_0 : List (Option AP) := [none, none, some (.val false [.bool]), none, none, none, none, none, none, none, none, none, none, none, none]
abbrev H137_0 : Type := (List (ByteArray × Unit)) × Int × Int × Unit
abbrev E137_0 : Type := Unit
abbrev Q137_0 : Type := Bool × Unit
noncomputable def impl_areShort_c0 (t5 : List (ByteArray × Unit)) (t6 : Int) (t7 : Int) : Option (Sum H137_0 (Sum E137_0 Q137_0)) :=
  bif decide (t7 < t6) then
    bif decide ((0 : Int) ≤ t7) then Option.bind ((t5)[Int.toNat t7]?) fun r1 =>
      bif decide ((60 : Int) < ((ByteArray.size r1.1 : Nat) : Int)) then
        some (.inr (.inr (false, ())))
      else
        some (.inl (t5, t6, IntKind.i64.wrap (t7 + (1 : Int)), ()))
    else none
  else
    some (.inr (.inl (())))
noncomputable def impl_areShort_r0 (x : H137_0) : Option (Sum H137_0 (Sum E137_0 Q137_0)) := impl_areShort_c0 x.1 x.2.1 x.2.2.1
noncomputable def L137 {R : Type} : Loops R := fun id _ st k => bif Nat.beq id 0 then loopAt hp137_0 e137_0 q137_0 impl_areShort_r0 st k else none
noncomputable def impl_areShort (list0 : List (ByteArray × Unit)) : Option (Bool × Unit) :=
  outK (loopV impl_areShort_r0 (list0, ((List.length list0 : Nat) : Int), (0 : Int), ())) (fun y1 =>
    some (true, ())) (fun y2 =>
    some (y2.1, ()))
noncomputable def x137 (x : (List (ByteArray × Unit)) × Unit) : Option (Bool × Unit) := impl_areShort x.1
noncomputable def sem137 : Sem1 := semOf ps137 rs137 x137
theorem so137 : SemsOk Try.prog (semsOf sl137) := sems_nil
noncomputable def b137_0 : Code := nthLoop code137 0
theorem t137_r0_eq (x : denR (headRT hp137_0)) : codeK (tabOf tr) (semsOf sl137) D137 L137 b137_0 (headSt hp137_0 x) (roundK 0 hp137_0 e137_0 q137_0) = impl_areShort_r0 x := by kernel_rfl
theorem loop137_0 {R : Type} (r : R) (w0 : World) (mu : Mu) (hs : AnShape ps137 mu) : LoopAt Try.prog w0 mu 15 (L137 : Loops R) r 0 b137_0 :=
  loop_auto tr_ok eq_ok mixed_ok so137 (D := D137) hs (by kernel_rfl) (fun _ => (loops_of (l := []) (by kernel_rfl) (List.forall_mem_nil _))) t137_r0_eq (fun _ _ => rfl)
theorem t137_eq (x : denR (headRT (ps137.map some))) : codeK (tabOf tr) (semsOf sl137) D137 L137 code137 (start 15 ps137 x) (finK rs137 ps137) = x137 x := by kernel_rfl
theorem k137 : Known Try.prog 137 sem137 :=
  fn_auto tr_ok eq_ok mixed_ok so137 (D := D137) (code := code137) (n := 15) Try.func137 (by kernel_rfl) (by kernel_rfl) (by kernel_rfl) (fun w0 mu _ hs => (loops_of (l := [(0, b137_0)]) (by kernel_rfl) (List.forall_mem_cons.2 ⟨loop137_0 _ w0 mu hs, (List.forall_mem_nil _)⟩))) t137_eq

/-! ### f160: impl.ItemAt -/
noncomputable def code160 : Code := match Try.f160.body with | some c => c | none => .skip
def ps160 : List AP := [.val false [.shr (.cons (.int .i64) (.cons (.int .i64) (.cons (.int .i64) (.cons .str .nil))))], .val false [.int .i64]]
def rs160 : List RP := [{ src := .cell 4, agg := true, ps := [.int .i64, .int .i64, .int .i64, .str] }, { src := .tmp 5, agg := false, ps := [.bool] }]
noncomputable def sl160 : SemL := []
def D160 : Draws := fun _ => .nil
def hp160_0 : List (Option AP) := [none, some (.val false [.int .i64]), none, none, some (.box false [.int .i64, .int .i64, .int .i64, .str]), none, none, none, some (.val false [.shr (.cons (.int .i64) (.cons (.int .i64) (.cons (.int .i64) (.cons .str .nil))))]), some (.val false [.int .i64]), some (.val false [.int .i64]), none, none, none, none, none, none, none, none, none, none]
def e160_0 : List (Option AP) := [none, none, none, none, some (.box false [.int .i64, .int .i64, .int .i64, .str]), none, none, none, none, none, none, none, none, none, none, none, none, none, none, none, none]
def q160_0 : List (Option AP) := [none, none, none, none, some (.box false [.int .i64, .int .i64, .int .i64, .str]), some (.val false [.bool]), none, none, none, none, none, none, none, none, none, none, none, none, none, none, none]
abbrev H160_0 : Type := Int × Int × Int × Int × ByteArray × (List (Int × Int × Int × ByteArray × Unit)) × Int × Int × Unit
abbrev E160_0 : Type := Int × Int × Int × ByteArray × Unit
abbrev Q160_0 : Type := Int × Int × Int × ByteArray × Bool × Unit
noncomputable def impl_ItemAt_c0 (seq1 : Int) (t4c0 : Int) (t4c1 : Int) (t4c2 : Int) (t4c3 : ByteArray) (t8 : List (Int × Int × Int × ByteArray × Unit)) (t9 : Int) (t10 : Int) : Option (Sum H160_0 (Sum E160_0 Q160_0)) :=
  bif decide (t10 < t9) then
    bif decide ((0 : Int) ≤ t10) then Option.bind ((t8)[Int.toNat t10]?) fun r1 =>
      bif decide (r1.1 = seq1) then
        some (.inr (.inr (r1.1, r1.2.1, r1.2.2.1, r1.2.2.2.1, true, ())))
      else
        some (.inl (seq1, t4c0, t4c1, t4c2, t4c3, t8, t9, IntKind.i64.wrap (t10 + (1 : Int)), ()))
    else none
  else
    some (.inr (.inl (t4c0, t4c1, t4c2, t4c3, ())))
noncomputable def impl_ItemAt_r0 (x : H160_0) : Option (Sum H160_0 (Sum E160_0 Q160_0)) := impl_ItemAt_c0 x.1 x.2.1 x.2.2.1 x.2.2.2.1 x.2.2.2.2.1 x.2.2.2.2.2.1 x.2.2.2.2.2.2.1 x.2.2.2.2.2.2.2.1
noncomputable def L160 {R : Type} : Loops R := fun id _ st k => bif Nat.beq id 0 then loopAt hp160_0 e160_0 q160_0 impl_ItemAt_r0 st k else none
noncomputable def impl_ItemAt (list0 : List (Int × Int × Int × ByteArray × Unit)) (seq1 : Int) : Option (Int × Int × Int × ByteArray × Bool × Unit) :=
  outK (loopV impl_ItemAt_r0 (seq1, (0 : Int), (0 : Int), (0 : Int), ByteArray.empty, list0, ((List.length list0 : Nat) : Int), (0 : Int), ())) (fun y1 =>
    some ((0 : Int), (0 : Int), (0 : Int), ByteArray.empty, false, ())) (fun y2 =>
    some (y2.1, y2.2.1, y2.2.2.1, y2.2.2.2.1, y2.2.2.2.2.1, ()))
noncomputable def x160 (x : (List (Int × Int × Int × ByteArray × Unit)) × Int × Unit) : Option (Int × Int × Int × ByteArray × Bool × Unit) := impl_ItemAt x.1 x.2.1
noncomputable def sem160 : Sem1 := semOf ps160 rs160 x160
theorem so160 : SemsOk Try.prog (semsOf sl160) := sems_nil
noncomputable def b160_0 : Code := nthLoop code160 0
theorem t160_r0_eq (x : denR (headRT hp160_0)) : codeK (tabOf tr) (semsOf sl160) D160 L160 b160_0 (headSt hp160_0 x) (roundK 0 hp160_0 e160_0 q160_0) = impl_ItemAt_r0 x := by kernel_rfl
theorem loop160_0 {R : Type} (r : R) (w0 : World) (mu : Mu) (hs : AnShape ps160 mu) : LoopAt Try.prog w0 mu 21 (L160 : Loops R) r 0 b160_0 :=
  loop_auto tr_ok eq_ok mixed_ok so160 (D := D160) hs (by kernel_rfl) (fun _ => (loops_of (l := []) (by kernel_rfl) (List.forall_mem_nil _))) t160_r0_eq (fun _ _ => rfl)
theorem t160_eq (x : denR (headRT (ps160.map some))) : codeK (tabOf tr) (semsOf sl160) D160 L160 code160 (start 21 ps160 x) (finK rs160 ps160) = x160 x := by kernel_rfl
theorem k160 : Known Try.prog 160 sem160 :=
  fn_auto tr_ok eq_ok mixed_ok so160 (D := D160) (code := code160) (n := 21) Try.func160 (by kernel_rfl) (by kernel_rfl) (by kernel_rfl) (fun w0 mu _ hs => (loops_of (l := [(0, b160_0)]) (by kernel_rfl) (List.forall_mem_cons.2 ⟨loop160_0 _ w0 mu hs, (List.forall_mem_nil _)⟩))) t160_eq

/-! ### f139: impl.AruOf -/
noncomputable def code139 : Code := match Try.f139.body with | some c => c | none => .skip
def ps139 : List AP := [.val false [.shr (.cons (.int .i64) (.cons (.int .i64) (.cons (.int .i64) (.cons .str .nil))))]]
def rs139 : List RP := [{ src := .tmp 2, agg := false, ps := [.int .i64] }]
noncomputable def sl139 : SemL := [(160, (.shr, .shr, .shr, sem160))]
def D139 : Draws := fun _ => .nil
def hp139_0 : List (Option AP) := [some (.val false [.shr (.cons (.int .i64) (.cons (.int .i64) (.cons (.int .i64) (.cons .str .nil))))]), none, none, some (.val false [.int .i64]), none, none, none, none, none, none, none, none, none, none, none, none, none, none]
def e139_0 : List (Option AP) := [none, none, none, none, none, none, none, none, none, none, none, none, none, none, none, none, none, none]
def q139_0 : List (Option AP) := [none, none, some (.val false [.int .i64]), none, none, none, none, none, none, none, none, none, none, none, none, none, none, none]
abbrev H139_0 : Type := (List (Int × Int × Int × ByteArray × Unit)) × Int × Unit
abbrev E139_0 : Type := Unit
abbrev Q139_0 : Type := Int × Unit
noncomputable def impl_AruOf_c0 (list0 : List (Int × Int × Int × ByteArray × Unit)) (aru3 : Int) : Option (Sum H139_0 (Sum E139_0 Q139_0)) :=
  Option.bind (impl_ItemAt list0 (IntKind.i64.wrap (aru3 + (1 : Int)))) fun y1 =>
  bif !y1.2.2.2.2.1 then
    some (.inr (.inr (aru3, ())))
  else
    some (.inl (list0, IntKind.i64.wrap (aru3 + (1 : Int)), ()))
noncomputable def impl_AruOf_r0 (x : H139_0) : Option (Sum H139_0 (Sum E139_0 Q139_0)) := impl_AruOf_c0 x.1 x.2.1
noncomputable def L139 {R : Type} : Loops R := fun id _ st k => bif Nat.beq id 0 then loopAt hp139_0 e139_0 q139_0 impl_AruOf_r0 st k else none
noncomputable def impl_AruOf (list0 : List (Int × Int × Int × ByteArray × Unit)) : Option (Int × Unit) :=
  outK (loopV impl_AruOf_r0 (list0, (0 : Int), ())) (fun y1 =>
    none) (fun y2 =>
    some (y2.1, ()))
noncomputable def x139 (x : (List (Int × Int × Int × ByteArray × Unit)) × Unit) : Option (Int × Unit) := impl_AruOf x.1
noncomputable def sem139 : Sem1 := semOf ps139 rs139 x139
theorem so139 : SemsOk Try.prog (semsOf sl139) := sems_cons k160 (sems_nil)
noncomputable def b139_0 : Code := nthLoop code139 0
theorem t139_r0_eq (x : denR (headRT hp139_0)) : codeK (tabOf tr) (semsOf sl139) D139 L139 b139_0 (headSt hp139_0 x) (roundK 0 hp139_0 e139_0 q139_0) = impl_AruOf_r0 x := by kernel_rfl
theorem loop139_0 {R : Type} (r : R) (w0 : World) (mu : Mu) (hs : AnShape ps139 mu) : LoopAt Try.prog w0 mu 18 (L139 : Loops R) r 0 b139_0 :=
  loop_auto tr_ok eq_ok mixed_ok so139 (D := D139) hs (by kernel_rfl) (fun _ => (loops_of (l := []) (by kernel_rfl) (List.forall_mem_nil _))) t139_r0_eq (fun _ _ => rfl)
theorem t139_eq (x : denR (headRT (ps139.map some))) : codeK (tabOf tr) (semsOf sl139) D139 L139 code139 (start 18 ps139 x) (finK rs139 ps139) = x139 x := by kernel_rfl
theorem k139 : Known Try.prog 139 sem139 :=
  fn_auto tr_ok eq_ok mixed_ok so139 (D := D139) (code := code139) (n := 18) Try.func139 (by kernel_rfl) (by kernel_rfl) (by kernel_rfl) (fun w0 mu _ hs => (loops_of (l := [(0, b139_0)]) (by kernel_rfl) (List.forall_mem_cons.2 ⟨loop139_0 _ w0 mu hs, (List.forall_mem_nil _)⟩))) t139_eq

/-! ### f140: impl.Token).isZero -/
noncomputable def code140 : Code := match Try.f140.body with | some c => c | none => .skip
def ps140 : List AP := [.val true [.int .i64, .int .i64, .int .i64, .int .i64, .int .i64, .shr (.cons (.int .i64) .nil)]]
def rs140 : List RP := [{ src := .tmp 2, agg := false, ps := [.bool] }]
noncomputable def sl140 : SemL := []
def D140 : Draws := fun _ => .nil
noncomputable def L140 {R : Type} : Loops R := fun _ _ _ _ => none
noncomputable def impl_Token_isZero (t0c0 : Int) (t0c1 : Int) (t0c2 : Int) (t0c3 : Int) (t0c4 : Int) (t0c5 : List (Int × Unit)) : Option (Bool × Unit) :=
  bif decide (t0c0 = (0 : Int)) then
    bif decide (t0c1 = (0 : Int)) then
      bif decide (t0c2 = (0 : Int)) then
        bif decide (t0c3 = (0 : Int)) then
          bif decide (t0c4 = (0 : Int)) then
            some (decide (((List.length t0c5 : Nat) : Int) = (0 : Int)), ())
          else
            some (false, ())
        else
          some (false, ())
      else
        some (false, ())
    else
      some (false, ())
  else
    some (false, ())
noncomputable def x140 (x : Int × Int × Int × Int × Int × (List (Int × Unit)) × Unit) : Option (Bool × Unit) := impl_Token_isZero x.1 x.2.1 x.2.2.1 x.2.2.2.1 x.2.2.2.2.1 x.2.2.2.2.2.1
noncomputable def sem140 : Sem1 := semOf ps140 rs140 x140
theorem so140 : SemsOk Try.prog (semsOf sl140) := sems_nil
theorem t140_eq (x : denR (headRT (ps140.map some))) : codeK (tabOf tr) (semsOf sl140) D140 L140 code140 (start 32 ps140 x) (finK rs140 ps140) = x140 x := by kernel_rfl
theorem k140 : Known Try.prog 140 sem140 :=
  fn_auto tr_ok eq_ok mixed_ok so140 (D := D140) (code := code140) (n := 32) Try.func140 (by kernel_rfl) (by kernel_rfl) (by kernel_rfl) (fun w0 mu _ hs => (loops_of (l := []) (by kernel_rfl) (List.forall_mem_nil _))) t140_eq

end Go.TM
