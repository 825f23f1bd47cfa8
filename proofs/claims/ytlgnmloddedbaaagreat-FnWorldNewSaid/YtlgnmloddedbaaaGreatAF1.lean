/- What the functions answer, as terms; their contracts. -/
import Derived.Test.YtlgnmloddedbaaaGreatABase
set_option linter.unusedSimpArgs false
set_option linter.unusedVariables false
namespace Go.TM
open Go Go.RowKit Go.Proofs
open Go.IntKind (i64)
noncomputable section
def F10 : FC Tryz.prog := ⟨TK_, [], noD, Tryz.f10, [vl [.shr T_ku8]]⟩
noncomputable def laws_big (code0 : L_ku8) : Option (Bool × Unit) := some (decide (1048576 < (code0.length : Int)), ())
theorem k10 : F10.Kn [⟨.tmp 2, false, [.bool]⟩] 10 laws_big := F10.kf0 Tryz.func10 fun x => by kernel_rfl
def K10 := kw k10
def F63 : FC Tryz.prog := ⟨TK_, [], noD, Tryz.f63, [vl [.shr T_ku8]]⟩
noncomputable def spec_l01New_c0 (code0 : L_ku8) (h3 i4 : Int) : Option (Sum R_Lku8Eii (Sum (L_ku8 × Int × Unit) Unit)) := bif decide (i4 < (code0.length : Int)) then bif decide (i4 < 4000) then bif decide (0 ≤ i4) then Option.bind ((code0)[i4.toNat]?) fun r1 => some (.inl (code0, i64.wrap ((BitVec.ofInt IntKind.i64.bits (i64.wrap ((i64.wrap ((i64.wrap (h3 * 131)) + (i64.wrap r1.1))) + 7)) &&& BitVec.ofInt IntKind.i64.bits 1073741823).toNat : Int), i64.wrap (i4 + 1), ())) else none else some (.inr (.inl (code0, h3, ()))) else some (.inr (.inl (code0, h3, ())))
noncomputable def spec_l01New_r0 (x : R_Lku8Eii) : Option (Sum R_Lku8Eii (Sum (L_ku8 × Int × Unit) Unit)) := spec_l01New_c0 x.1 x.2.1 x.2.2.1
def d63_0 : LD := ⟨0, F63.lp 0, sp [(0, vl [.shr T_ku8]), (2, vl [.int .i64]), (0, vl [.int .i64])] 28, sp [(0, vl [.shr T_ku8]), (2, vl [.int .i64])] 29, sp [] 33, spec_l01New_r0⟩
theorem m63_0 : F63.Ok d63_0 := F63.kl0 fun x => by kernel_rfl
def l63_0 : F63.KL := ⟨_, m63_0⟩
noncomputable def spec_l01New (code0 : L_ku8) : Option (R_Lku8Eii) := outK (loopV spec_l01New_r0 (code0, i64.wrap (27101 + (code0.length : Int)), 0, ())) (fun y1 => some (y1.1, 0, y1.2.1, ())) (fun y2 => none)
theorem k63 : F63.Kn [⟨.ptr 2, false, po1⟩] 63 spec_l01New := F63.kf [l63_0] Tryz.func63 (by kernel_rfl) (by kernel_rfl) fun x => by kernel_rfl
def K63 := kw k63
def F155 : FC Tryz.prog := ⟨TK_, [], dr 2 (.a 0 (.a 1 (.a 2 (.t 3 (.a 4 (.a 5 (.a 6 (.a 7 (.t 8 (.a 9 (.a 10 (.a 11 (.a 12 .nil))))))))))))) (dr 3 (.a 0 (.a 1 (.a 2 (.t 3 (.a 4 (.a 5 (.a 6 (.t 7 (.a 8 (.a 9 .nil)))))))))) (dr 4 (.a 0 (.a 1 (.a 2 (.a 3 (.t 4 (.a 5 (.a 6 (.a 7 (.t 8 (.a 9 (.t 10 (.a 11 (.a 12 (.a 13 (.a 14 .nil))))))))))))))))), Tryz.f155, [.box true po1]⟩
noncomputable def spec_l01Byte (c0c0 : L_ku8) (c0c1 c0c2 : Int) : Option (U1) := bif decide (c0c1 < (c0c0.length : Int)) then bif decide (0 ≤ c0c1) then Option.bind ((c0c0)[c0c1.toNat]?) fun r1 => some (i64.wrap ((BitVec.ofInt IntKind.i64.bits (i64.wrap ((i64.wrap ((BitVec.ofInt IntKind.i64.bits (i64.wrap ((BitVec.ofInt IntKind.i64.bits (Int.fdiv (i64.wrap ((i64.wrap (c0c2 * 6364136223846793005)) + 1442695040888963407)) (2 ^ (min 33 IntKind.i64.bits))) ^^^ BitVec.ofInt IntKind.i64.bits (Int.fdiv (i64.wrap ((i64.wrap (c0c2 * 6364136223846793005)) + 1442695040888963407)) (2 ^ (min 45 IntKind.i64.bits)))).toNat : Int)) &&& BitVec.ofInt IntKind.i64.bits 255).toNat : Int)) + (i64.wrap r1.1))) &&& BitVec.ofInt IntKind.i64.bits 255).toNat : Int), c0c0, i64.wrap (c0c1 + 1), i64.wrap ((i64.wrap (c0c2 * 6364136223846793005)) + 1442695040888963407), ()) else none else some (i64.wrap ((BitVec.ofInt IntKind.i64.bits (i64.wrap ((BitVec.ofInt IntKind.i64.bits (Int.fdiv (i64.wrap ((i64.wrap (c0c2 * 6364136223846793005)) + 1442695040888963407)) (2 ^ (min 33 IntKind.i64.bits))) ^^^ BitVec.ofInt IntKind.i64.bits (Int.fdiv (i64.wrap ((i64.wrap (c0c2 * 6364136223846793005)) + 1442695040888963407)) (2 ^ (min 45 IntKind.i64.bits)))).toNat : Int)) &&& BitVec.ofInt IntKind.i64.bits 255).toNat : Int), c0c0, c0c1, i64.wrap ((i64.wrap (c0c2 * 6364136223846793005)) + 1442695040888963407), ())
theorem k155 : F155.Kn [⟨.tmp 2, false, [.int .i64]⟩] 155 spec_l01Byte := F155.kf0 Tryz.func155 fun x => by kernel_rfl
def K155 := kv (.own, .shr, .shr) k155
def F65 : FC Tryz.prog := ⟨TK_, [K155], noD, Tryz.f65, [.box true po1, vl [.int .i64]]⟩
noncomputable def spec_l01Below (c0c0 : L_ku8) (c0c1 c0c2 n1 : Int) : Option (U1) := bif decide (n1 ≤ 0) then some (0, c0c0, c0c1, c0c2, ()) else bif decide (n1 ≤ 256) then Option.bind (spec_l01Byte c0c0 c0c1 c0c2) fun y1 => bif decide (n1 = 0) then none else some (Int.tmod y1.1 n1, y1.2) else Option.bind (spec_l01Byte c0c0 c0c1 c0c2) fun y2 => Option.bind (spec_l01Byte y2.2.1 y2.2.2.1 y2.2.2.2.1) fun y3 => Option.bind (spec_l01Byte y3.2.1 y3.2.2.1 y3.2.2.2.1) fun y4 => Option.bind (spec_l01Byte y4.2.1 y4.2.2.1 y4.2.2.2.1) fun y5 => bif decide (n1 = 0) then none else some (Int.tmod (i64.wrap ((i64.wrap ((i64.wrap ((i64.wrap (y2.1 * 16777216)) + (i64.wrap (y3.1 * 65536)))) + (i64.wrap (y4.1 * 256)))) + y5.1)) n1, y5.2)
theorem k65 : F65.Kn [⟨.tmp 4, false, [.int .i64]⟩] 65 spec_l01Below := F65.kf0 Tryz.func65 fun x => by kernel_rfl
def K65 := kv (.own, .shr, .shr) k65
def F154 : FC Tryz.prog := ⟨TK_, [K65], noD, Tryz.f154, [.box true po1, vl [.int .i64]]⟩
noncomputable def spec_l01Once (c0c0 : L_ku8) (c0c1 c0c2 n1 : Int) : Option (U2) := Option.bind (spec_l01Below c0c0 c0c1 c0c2 n1) fun y1 => some (decide (y1.1 = 0), y1.2)
theorem k154 : F154.Kn [⟨.tmp 4, false, [.bool]⟩] 154 spec_l01Once := F154.kf0 Tryz.func154 fun x => by kernel_rfl
def K154 := kv (.own, .shr, .shr) k154
def F64 : FC Tryz.prog := ⟨TK_0, [K65, K154], noD, Tryz.f64, [.box true po1]⟩
noncomputable def spec_l15DrawRings_c2 (c0c0 : L_ku8) (c0c1 c0c2 : Int) (out3 : L_iLiE) (i4 r5c0 : Int) (r5c1 : L_i) (d6 : Int) : Option (Sum U21 (Sum U22 Unit)) := bif decide (d6 ≤ 3) then Option.bind (spec_l01Once c0c0 c0c1 c0c2 4) fun y2 => bif !y2.1 then bif Nat.ble (((List.length r5c1) + 1) * 8) lim then some (.inl (y2.2.1, y2.2.2.1, y2.2.2.2.1, out3, i4, r5c0, r5c1 ++ [(d6, ())], i64.wrap (d6 + 1), ())) else none else some (.inl (y2.2.1, y2.2.2.1, y2.2.2.2.1, out3, i4, r5c0, r5c1, i64.wrap (d6 + 1), ())) else some (.inr (.inl (c0c0, c0c1, c0c2, out3, i4, r5c0, r5c1, ())))
noncomputable def spec_l15DrawRings_r2 (x : U21) : Option (Sum U21 (Sum U22 Unit)) := spec_l15DrawRings_c2 x.1 x.2.1 x.2.2.1 x.2.2.2.1 x.2.2.2.2.1 x.2.2.2.2.2.1 x.2.2.2.2.2.2.1 x.2.2.2.2.2.2.2.1
def d64_2 : LD := ⟨2, nthLoop (F64.lp 0) 0, sp [(0, .box true po1), (2, vl [.own T_iLiE]), (0, vl [.int .i64]), (0, .box false po2), (0, vl [.int .i64])] 39, sp [(0, .box true po1), (2, vl [.own T_iLiE]), (0, vl [.int .i64]), (0, .box false po2)] 40, sp [] 46, spec_l15DrawRings_r2⟩
theorem m64_2 : F64.Ok d64_2 := F64.kl0 fun x => by kernel_rfl
def l64_2 : F64.KL := ⟨_, m64_2⟩
noncomputable def spec_l15DrawRings_c0 (c0c0 : L_ku8) (c0c1 c0c2 : Int) (out3 : L_iLiE) (i4 : Int) : Option (Sum U23 (Sum U24 Unit)) := Option.bind (spec_l01Below c0c0 c0c1 c0c2 5) fun y1 => bif decide (i4 < i64.wrap (1 + y1.1)) then outK (loopV spec_l15DrawRings_r2 (y1.2.1, y1.2.2.1, y1.2.2.2.1, out3, i4, i64.wrap (i4 + 1), [], 1, ())) (fun y3 => bif decide ((y3.2.2.2.2.2.2.1.length : Int) = 0) then Option.bind (spec_l01Below y3.1 y3.2.1 y3.2.2.1 3) fun y5 => bif Nat.ble (((List.length y3.2.2.2.1) + 1) * 32) lim then some (.inl (y5.2.1, y5.2.2.1, y5.2.2.2.1, y3.2.2.2.1 ++ ([(y3.2.2.2.2.2.1, [(i64.wrap (1 + y5.1), ())], ())]), i64.wrap (y3.2.2.2.2.1 + 1), ())) else none else bif Nat.ble (((List.length y3.2.2.2.1) + 1) * 32) lim then some (.inl (y3.1, y3.2.1, y3.2.2.1, y3.2.2.2.1 ++ [(y3.2.2.2.2.2.1, y3.2.2.2.2.2.2.1, ())], i64.wrap (y3.2.2.2.2.1 + 1), ())) else none) (fun y4 => some (.inr (.inr (())))) else some (.inr (.inl (y1.2.1, y1.2.2.1, y1.2.2.2.1, out3, ())))
noncomputable def spec_l15DrawRings_r0 (x : U23) : Option (Sum U23 (Sum U24 Unit)) := spec_l15DrawRings_c0 x.1 x.2.1 x.2.2.1 x.2.2.2.1 x.2.2.2.2.1
def d64_0 : LD := ⟨0, F64.lp 0, sp [(0, .box true po1), (2, vl [.own T_iLiE]), (0, vl [.int .i64])] 41, sp [(0, .box true po1), (2, vl [.own T_iLiE])] 42, sp [] 46, spec_l15DrawRings_r0⟩
theorem m64_0 : F64.Ok d64_0 := F64.kl [l64_2] (by kernel_rfl) (by kernel_rfl) fun x => by kernel_rfl
def l64_0 : F64.KL := ⟨_, m64_0⟩
noncomputable def spec_l15DrawRings (c0c0 : L_ku8) (c0c1 c0c2 : Int) : Option (U5) := outK (loopV spec_l15DrawRings_r0 (c0c0, c0c1, c0c2, [], 0, ())) (fun y1 => some (y1.2.2.2.1, y1.1, y1.2.1, y1.2.2.1, ())) (fun y2 => none)
theorem k64 : F64.Kn [⟨.tmp 2, false, [.own T_iLiE]⟩] 64 spec_l15DrawRings := F64.kf [l64_0] Tryz.func64 (by kernel_rfl) (by kernel_rfl) fun x => by kernel_rfl
def K64 := kv (.own, .shr, .shr) k64
def F156 : FC Tryz.prog := ⟨TK_, [K65, K154], noD, Tryz.f156, [.box true po1]⟩
noncomputable def spec_l09Ring_c0 (c0c0 : L_ku8) (c0c1 c0c2 t2c0 : Int) (t2c1 : L_i) (r3c0 : Int) (r3c1 : L_i) (d4 : Int) : Option (Sum U25 (Sum U26 Unit)) := bif decide (d4 ≤ 4) then Option.bind (spec_l01Once c0c0 c0c1 c0c2 3) fun y2 => bif !y2.1 then bif Nat.ble (((List.length r3c1) + 1) * 8) lim then some (.inl (y2.2.1, y2.2.2.1, y2.2.2.2.1, t2c0, t2c1, r3c0, r3c1 ++ [(d4, ())], i64.wrap (d4 + 1), ())) else none else some (.inl (y2.2.1, y2.2.2.1, y2.2.2.2.1, t2c0, t2c1, r3c0, r3c1, i64.wrap (d4 + 1), ())) else some (.inr (.inl (c0c0, c0c1, c0c2, t2c0, t2c1, r3c0, r3c1, ())))
noncomputable def spec_l09Ring_r0 (x : U25) : Option (Sum U25 (Sum U26 Unit)) := spec_l09Ring_c0 x.1 x.2.1 x.2.2.1 x.2.2.2.1 x.2.2.2.2.1 x.2.2.2.2.2.1 x.2.2.2.2.2.2.1 x.2.2.2.2.2.2.2.1
def d156_0 : LD := ⟨0, F156.lp 0, sp [(0, .box true po1), (1, .box false po2), (0, .box false po2), (0, vl [.int .i64])] 25, sp [(0, .box true po1), (1, .box false po2), (0, .box false po2)] 26, sp [] 30, spec_l09Ring_r0⟩
theorem m156_0 : F156.Ok d156_0 := F156.kl0 fun x => by kernel_rfl
def l156_0 : F156.KL := ⟨_, m156_0⟩
noncomputable def spec_l09Ring (c0c0 : L_ku8) (c0c1 c0c2 : Int) : Option (U3) := Option.bind (spec_l01Below c0c0 c0c1 c0c2 3) fun y1 => outK (loopV spec_l09Ring_r0 (y1.2.1, y1.2.2.1, y1.2.2.2.1, 0, [], i64.wrap (1 + y1.1), [], 1, ())) (fun y2 => bif decide ((y2.2.2.2.2.2.2.1.length : Int) = 0) then some (y2.2.2.2.2.2.1, [(2, ())], y2.1, y2.2.1, y2.2.2.1, ()) else some (y2.2.2.2.2.2.1, y2.2.2.2.2.2.2.1, y2.1, y2.2.1, y2.2.2.1, ())) (fun y3 => none)
theorem k156 : F156.Kn [⟨.cell 2, true, po2⟩] 156 spec_l09Ring := F156.kf [l156_0] Tryz.func156 (by kernel_rfl) (by kernel_rfl) fun x => by kernel_rfl
def K156 := kv (.own, .shr, .shr) k156
def F157 : FC Tryz.prog := ⟨TK_, [K65], noD, Tryz.f157, [.box true po1, vl [.shr T_i]]⟩
noncomputable def spec_l01PickInt (c0c0 : L_ku8) (c0c1 c0c2 : Int) (list1 : L_i) : Option (U1) := Option.bind (spec_l01Below c0c0 c0c1 c0c2 (list1.length : Int)) fun y1 => bif decide (0 ≤ y1.1) then Option.bind ((list1)[y1.1.toNat]?) fun r2 => some (r2.1, y1.2) else none
theorem k157 : F157.Kn [⟨.tmp 4, false, [.int .i64]⟩] 157 spec_l01PickInt := F157.kf0 Tryz.func157 fun x => by kernel_rfl
def K157 := kv (.own, .shr, .shr) k157
def F66 : FC Tryz.prog := ⟨TK_, [K156, K65, K157], dr 6 (.a 0 (.a 2 (.alt (.o 1 (.o 3 (.l 4 (.o 5 (.l 6 (.a 7 (.l 8 .nil))))))) (.o 3 (.alt (.o 1 (.l 4 (.o 5 (.l 6 (.a 7 (.l 8 .nil)))))) (.l 4 (.t 1 (.o 5 (.l 6 (.a 7 (.l 8 .nil))))))))))), Tryz.f66, [.box true po1]⟩
noncomputable def spec_l09AnyRing (c0c0 : L_ku8) (c0c1 c0c2 : Int) : Option (U3) := Option.bind (spec_l09Ring c0c0 c0c1 c0c2) fun y1 => Option.bind (spec_l01Below y1.2.2.1 y1.2.2.2.1 y1.2.2.2.2.1 16) fun y2 => bif decide (y2.1 = 0) then Option.bind (spec_l01PickInt y2.2.1 y2.2.2.1 y2.2.2.2.1 [(0, ()), (9, ()), (10, ())]) fun y3 => some (y3.1, y1.2.1, y3.2) else bif decide (y2.1 = 1) then Option.bind (spec_l01PickInt y2.2.1 y2.2.2.1 y2.2.2.2.1 [(0, ()), (1, ()), (5, ()), (6, ())]) fun y3o4 => bif Nat.ble (((List.length y1.2.1) + 1) * 8) lim then some (y1.1, y1.2.1 ++ [(y3o4.1, ())], y3o4.2) else none else bif decide (y2.1 = 2) then some (y1.1, [], y2.2) else some (y1.1, y1.2.1, y2.2)
noncomputable def spec_l09AnyRing_o (c0c0 : L_ku8) (c0c1 c0c2 : Int) : Option (U3) := let u1 := fun (y2 : U1) => spec_l01PickInt y2.2.1 y2.2.2.1 y2.2.2.2.1 [(0, ()), (1, ()), (5, ()), (6, ())]; Option.bind (spec_l09Ring c0c0 c0c1 c0c2) fun y1 => Option.bind (spec_l01Below y1.2.2.1 y1.2.2.2.1 y1.2.2.2.2.1 16) fun y2 => bif decide (y2.1 = 0) then Option.bind (spec_l01PickInt y2.2.1 y2.2.2.1 y2.2.2.2.1 [(0, ()), (9, ()), (10, ())]) fun y3 => some (y3.1, y1.2.1, y3.2) else bif decide (y2.1 = 1) then (fun K4 : (U1) → Option (U3) => both (Option.bind (u1 y2) fun y3o4 => bif Nat.ble (((List.length y1.2.1) + 1) * 8) lim then K4 y3o4 else none) (both (Option.bind (u1 y2) fun y3o4 => bif Nat.ble (((List.length y1.2.1) + 1) * 8) lim then K4 y3o4 else none) (Option.bind (u1 y2) fun y3o4 => bif Nat.ble (((List.length y1.2.1) + 1) * 8) lim then K4 y3o4 else none))) (fun y3o4 => some (y1.1, y1.2.1 ++ [(y3o4.1, ())], y3o4.2)) else bif decide (y2.1 = 2) then some (y1.1, [], y2.2) else some (y1.1, y1.2.1, y2.2)
theorem spec_l09AnyRing_o_eq : spec_l09AnyRing_o = spec_l09AnyRing := by delta spec_l09AnyRing_o spec_l09AnyRing; simp only [both_self]
noncomputable def spec_l09AnyRing_q (x : R_Lku8Eii) : Option (U3) := unc (headRT (F66.ps.map some)) spec_l09AnyRing_o x
theorem spec_l09AnyRing_q_eq : spec_l09AnyRing_q = unc (headRT (F66.ps.map some)) spec_l09AnyRing := congrArg (unc (headRT (F66.ps.map some))) spec_l09AnyRing_o_eq
theorem k66 : F66.Kn [⟨.cell 2, true, po2⟩] 66 spec_l09AnyRing := F66.kf1 Tryz.func66 (by kernel_rfl) fun x => Eq.trans (b := spec_l09AnyRing_q x) (by kernel_rfl) (congrFun spec_l09AnyRing_q_eq x)
def K66 := kv (.own, .shr, .shr) k66
def F11 : FC Tryz.prog := ⟨TK_0, [K63, K64, K65, K66], noD, Tryz.f11, [vl [.shr T_ku8]]⟩
noncomputable def spec_DrawRingsOk_c1 (c3c0 : L_ku8) (c3c1 c3c2 : Int) (out4 : L_iLiE) : Option (Sum U24 (Sum (L_iLiE × Unit) Unit)) := Option.bind (spec_l01Below c3c0 c3c1 c3c2 2) fun y6 => bif decide ((out4.length : Int) < i64.wrap (9 + y6.1)) then bif Nat.ble (((List.length out4) + 1) * 32) lim then some (.inl (y6.2.1, y6.2.2.1, y6.2.2.2.1, out4 ++ ([(i64.wrap ((out4.length : Int) + 1), [(1, ())], ())]), ())) else none else some (.inr (.inl (out4, ())))
noncomputable def spec_DrawRingsOk_r1 (x : U24) : Option (Sum U24 (Sum (L_iLiE × Unit) Unit)) := spec_DrawRingsOk_c1 x.1 x.2.1 x.2.2.1 x.2.2.2.1
def d11_1 : LD := ⟨1, F11.lp 0, sp [(3, .box false po1), (0, vl [.own T_iLiE])] 36, sp [(4, vl [.own T_iLiE])] 36, sp [] 41, spec_DrawRingsOk_r1⟩
theorem m11_1 : F11.Ok d11_1 := F11.kl0 fun x => by kernel_rfl
def l11_1 : F11.KL := ⟨_, m11_1⟩
noncomputable def spec_DrawRingsOk (code0 : L_ku8) : Option (L_iLiE × Unit) := Option.bind (spec_l01New code0) fun y1 => Option.bind (spec_l15DrawRings y1.1 y1.2.1 y1.2.2.1) fun y2 => Option.bind (spec_l01Below y2.2.1 y2.2.2.1 y2.2.2.2.1 8) fun y3 => bif decide (y3.1 = 0) then Option.bind (spec_l09AnyRing y3.2.1 y3.2.2.1 y3.2.2.2.1) fun y4 => bif Nat.ble (((List.length y2.1) + 1) * 32) lim then some (y2.1 ++ [(y4.1, y4.2.1, ())], ()) else none else bif decide (y3.1 = 1) then bif Nat.blt 0 (List.length y2.1) then Option.bind ((y2.1)[0]?) fun r5 => some (List.set y2.1 0 (2, r5.2.1, ()), ()) else none else bif decide (y3.1 = 2) then outK (loopV spec_DrawRingsOk_r1 (y3.2.1, y3.2.2.1, y3.2.2.2.1, y2.1, ())) (fun y6 => some (y6.1, ())) (fun y7 => none) else some (y2.1, ())
theorem k11 : F11.Kn [⟨.tmp 2, false, [.own T_iLiE]⟩] 11 spec_DrawRingsOk := F11.kf [l11_1] Tryz.func11 (by kernel_rfl) (by kernel_rfl) fun x => by kernel_rfl
def K11 := kw k11
def F75 : FC Tryz.prog := ⟨TK_, [], noD, Tryz.f75, [vl [.int .i64], vl [.int .i64], vl [.int .i64]]⟩
noncomputable def impl_inRange (n0 least1 most2 : Int) : Option (Bool × Unit) := bif decide (least1 ≤ n0) then some (decide (n0 ≤ most2), ()) else some (false, ())
theorem k75 : F75.Kn [⟨.tmp 6, false, [.bool]⟩] 75 impl_inRange := F75.kf0 Tryz.func75 fun x => by kernel_rfl
def K75 := kw k75
def F149 : FC Tryz.prog := ⟨TK_, [K75], noD, Tryz.f149, [vl [.int .i64]]⟩
noncomputable def impl_isDaemon (n0 : Int) : Option (Bool × Unit) := Option.bind (impl_inRange n0 1 5) fun y1 => some (y1.1, ())
theorem k149 : F149.Kn [⟨.tmp 2, false, [.bool]⟩] 149 impl_isDaemon := F149.kf0 Tryz.func149 fun x => by kernel_rfl
def K149 := kw k149
def F74 : FC Tryz.prog := ⟨TK_, [K75, K149], noD, Tryz.f74, [va po3]⟩
noncomputable def impl_RingOk_c0 (r1c0 : Int) (r1c1 t17 : L_i) (t18 t19 : Int) : Option (Sum U27 (Sum Unit (Bool × Unit))) := bif decide (t19 < t18) then bif decide (0 ≤ t19) then Option.bind ((t17)[t19.toNat]?) fun r3 => Option.bind (impl_isDaemon r3.1) fun y4 => bif !y4.1 then some (.inr (.inr (false, ()))) else bif decide (0 < t19) then bif decide (0 ≤ i64.wrap (t19 - 1)) then Option.bind ((r1c1)[(i64.wrap (t19 - 1)).toNat]?) fun r5 => bif decide (r3.1 ≤ r5.1) then some (.inr (.inr (false, ()))) else some (.inl (r1c0, r1c1, t17, t18, i64.wrap (t19 + 1), ())) else none else some (.inl (r1c0, r1c1, t17, t18, i64.wrap (t19 + 1), ())) else none else some (.inr (.inl (())))
noncomputable def impl_RingOk_r0 (x : U27) : Option (Sum U27 (Sum Unit (Bool × Unit))) := impl_RingOk_c0 x.1 x.2.1 x.2.2.1 x.2.2.2.1 x.2.2.2.2.1
def d74_0 : LD := ⟨0, F74.lp 0, sp [(1, .box false po3), (15, vl [.shr T_i]), (0, vl [.int .i64]), (0, vl [.int .i64])] 23, sp [] 43, sp [(2, vl [.bool])] 40, impl_RingOk_r0⟩
theorem m74_0 : F74.Ok d74_0 := F74.kl0 fun x => by kernel_rfl
def l74_0 : F74.KL := ⟨_, m74_0⟩
noncomputable def impl_RingOk (r0c0 : Int) (r0c1 : L_i) : Option (Bool × Unit) := Option.bind (impl_inRange r0c0 1 9) fun y1 => bif !y1.1 then some (false, ()) else Option.bind (impl_inRange (r0c1.length : Int) 1 5) fun y2 => bif !y2.1 then some (false, ()) else outK (loopV impl_RingOk_r0 (r0c0, r0c1, r0c1, (r0c1.length : Int), 0, ())) (fun y3 => some (true, ())) (fun y4 => some (y4.1, ()))
theorem k74 : F74.Kn [⟨.tmp 2, false, [.bool]⟩] 74 impl_RingOk := F74.kf [l74_0] Tryz.func74 (by kernel_rfl) (by kernel_rfl) fun x => by kernel_rfl
def K74 := kw k74
def F15 : FC Tryz.prog := ⟨TK_, [K74, K75], noD, Tryz.f15, [vl [.shr T_iLiE]]⟩
noncomputable def impl_RingsOk_c0 (rings0 t5 : L_iLiE) (t6 t7 : Int) : Option (Sum U28 (Sum (L_iLiE × Unit) (Bool × Unit))) := bif decide (t7 < t6) then bif decide (0 ≤ t7) then Option.bind ((t5)[t7.toNat]?) fun r1 => Option.bind (impl_RingOk r1.1 r1.2.1) fun y2 => bif !y2.1 then some (.inr (.inr (false, ()))) else bif !decide (r1.1 = i64.wrap (t7 + 1)) then some (.inr (.inr (false, ()))) else some (.inl (rings0, t5, t6, i64.wrap (t7 + 1), ())) else none else some (.inr (.inl (rings0, ())))
noncomputable def impl_RingsOk_r0 (x : U28) : Option (Sum U28 (Sum (L_iLiE × Unit) (Bool × Unit))) := impl_RingsOk_c0 x.1 x.2.1 x.2.2.1 x.2.2.2.1
def d15_0 : LD := ⟨0, F15.lp 0, sp [(0, vl [.shr T_iLiE]), (4, vl [.shr T_iLiE]), (0, vl [.int .i64]), (0, vl [.int .i64])] 19, sp [(0, vl [.shr T_iLiE])] 26, sp [(2, vl [.bool])] 24, impl_RingsOk_r0⟩
theorem m15_0 : F15.Ok d15_0 := F15.kl0 fun x => by kernel_rfl
def l15_0 : F15.KL := ⟨_, m15_0⟩
noncomputable def impl_RingsOk (rings0 : L_iLiE) : Option (Bool × Unit) := outK (loopV impl_RingsOk_r0 (rings0, rings0, (rings0.length : Int), 0, ())) (fun y1 => Option.bind (impl_inRange (y1.1.length : Int) 1 9) fun y3 => some (y3.1, ())) (fun y2 => some (y2.1, ()))
theorem k15 : F15.Kn [⟨.tmp 2, false, [.bool]⟩] 15 impl_RingsOk := F15.kf [l15_0] Tryz.func15 (by kernel_rfl) (by kernel_rfl) fun x => by kernel_rfl
def K15 := kw k15
def F158 : FC Tryz.prog := ⟨TK_, [], noD, Tryz.f158, [vl [.shr T_i]]⟩
noncomputable def slices_Clone_int (s0 : L_i) : Option (L_i × Unit) := bif Nat.ble ((0 + (List.length s0)) * 8) lim then some ([] ++ s0, ()) else none
theorem k158 : F158.Kn [⟨.tmp 2, false, [.own T_i]⟩] 158 slices_Clone_int := F158.kfn [] Tryz.func158 (T_i) [] rfl (by kernel_rfl) (by kernel_rfl) (fun x => by kernel_rfl) fun x => by kernel_rfl
def K158 := kw k158
def F67 : FC Tryz.prog := ⟨TK_, [K158], dr 1 (.a 0 (.t 1 (.a 2 (.t 3 (.o 4 (.a 5 (.l 6 .nil))))))), Tryz.f67, [va po3]⟩
noncomputable def impl_copyRing (r0c0 : Int) (r0c1 : L_i) : Option (Int × L_i × Unit) := Option.bind (slices_Clone_int r0c1) fun y1 => some (r0c0, y1.1, ())
theorem k67 : F67.Kn [⟨.cell 2, true, po2⟩] 67 impl_copyRing := F67.kf0 Tryz.func67 fun x => by kernel_rfl
def K67 := kw k67
def F68 : FC Tryz.prog := ⟨TK_, [K149], noD, Tryz.f68, [vl [.int .i64]]⟩
noncomputable def impl_DaemonNew (id0 : Int) : Option (U6) := Option.bind (impl_isDaemon id0) fun y1 => bif !y1.1 then some (0, false, 0, 0, [], [], [], [], 0, 0, 0, 0, 0, 0, 0, 0, 0, [], 0, 0, 0, [], [], [], false, ()) else some (id0, false, 0, 0, [], [], [], [], 0, 0, 0, 0, 0, 0, 0, 0, 0, [], 0, 0, 0, [], [], [], true, ())
theorem k68 : F68.Kn [⟨.cell 2, true, po4⟩, ⟨.tmp 3, false, [.bool]⟩] 68 impl_DaemonNew := F68.kf0 Tryz.func68 fun x => by kernel_rfl
def K68 := kw k68
def F12 : FC Tryz.prog := ⟨TK_0, [K15, K67, K68], dr 7 (.a 0 (.t 1 (.t 2 (.o 3 (.o 4 (.l 5 (.a 6 (.l 7 .nil)))))))), Tryz.f12, [vl [.shr T_iLiE]]⟩
noncomputable def impl_WorldNew_c0 (t2c0 : L_iLiE) (t2c1 : L_ibiiLiELiiisELiELsEiiiiiiiiiLiEiiiLiELiiiLiiisEELiiLiEiiisLiEE) (t2c2 : L_iiiiiisiiiiiLiEiiiLiiisE) (t2c3 : L_iiLiEiiisLiE) (w4c0 : L_iLiE) (w4c1 : L_ibiiLiELiiisELiELsEiiiiiiiiiLiEiiiLiELiiiLiiisEELiiLiEiiisLiEE) (w4c2 : L_iiiiiisiiiiiLiEiiiLiiisE) (w4c3 : L_iiLiEiiisLiE) (t14 : L_iLiE) (t15 t16 : Int) : Option (Sum U29 (Sum U30 Unit)) := bif decide (t16 < t15) then bif decide (0 ≤ t16) then Option.bind ((t14)[t16.toNat]?) fun r2 => Option.bind (impl_copyRing r2.1 r2.2.1) fun y3 => bif Nat.ble (((List.length w4c0) + 1) * 32) lim then some (.inl (t2c0, t2c1, t2c2, t2c3, w4c0 ++ [(y3.1, y3.2.1, ())], w4c1, w4c2, w4c3, t14, t15, i64.wrap (t16 + 1), ())) else none else none else some (.inr (.inl (t2c0, t2c1, t2c2, t2c3, w4c0, w4c1, w4c2, w4c3, ())))
noncomputable def impl_WorldNew_r0 (x : U29) : Option (Sum U29 (Sum U30 Unit)) := impl_WorldNew_c0 x.1 x.2.1 x.2.2.1 x.2.2.2.1 x.2.2.2.2.1 x.2.2.2.2.2.1 x.2.2.2.2.2.2.1 x.2.2.2.2.2.2.2.1 x.2.2.2.2.2.2.2.2.1 x.2.2.2.2.2.2.2.2.2.1 x.2.2.2.2.2.2.2.2.2.2.1
def d12_0 : LD := ⟨0, F12.lp 0, sp [(2, .box false po5), (1, .box false po5), (9, vl [.shr T_iLiE]), (0, vl [.int .i64]), (0, vl [.int .i64])] 28, sp [(2, .box false po5), (1, .box false po5)] 40, sp [] 45, impl_WorldNew_r0⟩
theorem m12_0 : F12.Ok d12_0 := F12.kl0 fun x => by kernel_rfl
def l12_0 : F12.KL := ⟨_, m12_0⟩
noncomputable def impl_WorldNew_c2 (t2c0 : L_iLiE) (t2c1 : L_ibiiLiELiiisELiELsEiiiiiiiiiLiEiiiLiELiiiLiiisEELiiLiEiiisLiEE) (t2c2 : L_iiiiiisiiiiiLiEiiiLiiisE) (t2c3 : L_iiLiEiiisLiE) (w4c0 : L_iLiE) (w4c1 : L_ibiiLiELiiisELiELsEiiiiiiiiiLiEiiiLiELiiiLiiisEELiiLiEiiisLiEE) (w4c2 : L_iiiiiisiiiiiLiEiiiLiiisE) (w4c3 : L_iiLiEiiisLiE) (id7 : Int) : Option (Sum U31 (Sum U30 Unit)) := bif decide (id7 ≤ 5) then Option.bind (impl_DaemonNew id7) fun y6 => bif Nat.ble (((List.length w4c1) + 1) * 320) lim then some (.inl (t2c0, t2c1, t2c2, t2c3, w4c0, w4c1 ++ [(y6.1, y6.2.1, y6.2.2.1, y6.2.2.2.1, y6.2.2.2.2.1, y6.2.2.2.2.2.1, y6.2.2.2.2.2.2.1, y6.2.2.2.2.2.2.2.1, y6.2.2.2.2.2.2.2.2.1, y6.2.2.2.2.2.2.2.2.2.1, y6.2.2.2.2.2.2.2.2.2.2.1, y6.2.2.2.2.2.2.2.2.2.2.2.1, y6.2.2.2.2.2.2.2.2.2.2.2.2.1, y6.2.2.2.2.2.2.2.2.2.2.2.2.2.1, y6.2.2.2.2.2.2.2.2.2.2.2.2.2.2.1, y6.2.2.2.2.2.2.2.2.2.2.2.2.2.2.2.1, y6.2.2.2.2.2.2.2.2.2.2.2.2.2.2.2.2.1, y6.2.2.2.2.2.2.2.2.2.2.2.2.2.2.2.2.2.1, y6.2.2.2.2.2.2.2.2.2.2.2.2.2.2.2.2.2.2.1, y6.2.2.2.2.2.2.2.2.2.2.2.2.2.2.2.2.2.2.2.1, y6.2.2.2.2.2.2.2.2.2.2.2.2.2.2.2.2.2.2.2.2.1, y6.2.2.2.2.2.2.2.2.2.2.2.2.2.2.2.2.2.2.2.2.2.1, y6.2.2.2.2.2.2.2.2.2.2.2.2.2.2.2.2.2.2.2.2.2.2.1, y6.2.2.2.2.2.2.2.2.2.2.2.2.2.2.2.2.2.2.2.2.2.2.2.1, ())], w4c2, w4c3, i64.wrap (id7 + 1), ())) else none else some (.inr (.inl (t2c0, t2c1, t2c2, t2c3, w4c0, w4c1, w4c2, w4c3, ())))
noncomputable def impl_WorldNew_r2 (x : U31) : Option (Sum U31 (Sum U30 Unit)) := impl_WorldNew_c2 x.1 x.2.1 x.2.2.1 x.2.2.2.1 x.2.2.2.2.1 x.2.2.2.2.2.1 x.2.2.2.2.2.2.1 x.2.2.2.2.2.2.2.1 x.2.2.2.2.2.2.2.2.1
def d12_2 : LD := ⟨2, F12.lp 1, sp [(2, .box false po5), (1, .box false po5), (2, vl [.int .i64])] 37, sp [(2, .box false po5), (1, .box false po5)] 40, sp [] 45, impl_WorldNew_r2⟩
theorem m12_2 : F12.Ok d12_2 := F12.kl0 fun x => by kernel_rfl
def l12_2 : F12.KL := ⟨_, m12_2⟩
noncomputable def impl_WorldNew (rings0 : L_iLiE) : Option (U18) := Option.bind (impl_RingsOk rings0) fun y1 => bif !y1.1 then some ([], [], [], [], false, ()) else outK (loopV impl_WorldNew_r0 ([], [], [], [], [], [], [], [], rings0, (rings0.length : Int), 0, ())) (fun y2 => outK (loopV impl_WorldNew_r2 (y2.1, y2.2.1, y2.2.2.1, y2.2.2.2.1, y2.2.2.2.2.1, y2.2.2.2.2.2.1, y2.2.2.2.2.2.2.1, y2.2.2.2.2.2.2.2.1, 1, ())) (fun y4 => some (y4.2.2.2.2.1, y4.2.2.2.2.2.1, y4.2.2.2.2.2.2.1, y4.2.2.2.2.2.2.2.1, true, ())) (fun y5 => none)) (fun y3 => none)
theorem k12 : F12.Kn [⟨.cell 2, true, po5⟩, ⟨.tmp 3, false, [.bool]⟩] 12 impl_WorldNew := F12.kf [l12_0, l12_2] Tryz.func12 (by kernel_rfl) (by kernel_rfl) fun x => by kernel_rfl
def K12 := kw k12
def F160 : FC Tryz.prog := ⟨TK_, [], noD, Tryz.f160, [vl [.int .i64], vl [.int .i64], vl [.int .i64]]⟩
noncomputable def spec_l01In (x0 least1 most2 : Int) : Option (Bool × Unit) := bif decide (least1 ≤ x0) then some (decide (x0 ≤ most2), ()) else some (false, ())
theorem k160 : F160.Kn [⟨.tmp 6, false, [.bool]⟩] 160 spec_l01In := F160.kf0 Tryz.func160 fun x => by kernel_rfl
def K160 := kw k160
def F159 : FC Tryz.prog := ⟨TK_, [K160], dr 6 (.a 0 (.t 1 (.a 2 (.a 3 (.t 4 (.o 5 (.a 6 (.a 7 (.a 8 (.a 9 (.a 10 (.a 11 (.t 12 (.a 13 (.a 14 (.a 15 (.t 16 (.a 17 (.t 18 (.a 19 (.a 20 (.t 21 (.a 22 (.a 23 (.a 24 .nil))))))))))))))))))))))))), Tryz.f159, [va po3]⟩
noncomputable def spec_RingOk_c0 (r1c0 : Int) (r1c1 : L_i) (i3 : Int) : Option (Sum U32 (Sum Unit (Bool × Unit))) := bif decide (i3 < (r1c1.length : Int)) then bif decide (0 ≤ i3) then Option.bind ((r1c1)[i3.toNat]?) fun r3 => Option.bind (spec_l01In r3.1 1 5) fun y4 => bif !y4.1 then some (.inr (.inr (false, ()))) else bif decide (0 < i3) then bif decide (0 ≤ i64.wrap (i3 - 1)) then Option.bind ((r1c1)[(i64.wrap (i3 - 1)).toNat]?) fun r5 => bif decide (0 ≤ i3) then Option.bind ((r1c1)[i3.toNat]?) fun r6 => bif decide (r6.1 ≤ r5.1) then some (.inr (.inr (false, ()))) else some (.inl (r1c0, r1c1, i64.wrap (i3 + 1), ())) else none else none else some (.inl (r1c0, r1c1, i64.wrap (i3 + 1), ())) else none else some (.inr (.inl (())))
noncomputable def spec_RingOk_r0 (x : U32) : Option (Sum U32 (Sum Unit (Bool × Unit))) := spec_RingOk_c0 x.1 x.2.1 x.2.2.1
def d159_0 : LD := ⟨0, F159.lp 0, sp [(1, .box false po3), (1, vl [.int .i64])] 44, sp [] 48, sp [(2, vl [.bool])] 45, spec_RingOk_r0⟩
theorem m159_0 : F159.Ok d159_0 := F159.kl0 fun x => by kernel_rfl
def l159_0 : F159.KL := ⟨_, m159_0⟩
noncomputable def spec_RingOk (r0c0 : Int) (r0c1 : L_i) : Option (Bool × Unit) := Option.bind (spec_l01In r0c0 1 9) fun y1 => bif !y1.1 then some (false, ()) else Option.bind (spec_l01In (r0c1.length : Int) 1 5) fun y2 => bif !y2.1 then some (false, ()) else outK (loopV spec_RingOk_r0 (r0c0, r0c1, 0, ())) (fun y3 => some (true, ())) (fun y4 => some (y4.1, ()))
theorem k159 : F159.Kn [⟨.tmp 2, false, [.bool]⟩] 159 spec_RingOk := F159.kf [l159_0] Tryz.func159 (by kernel_rfl) (by kernel_rfl) fun x => by kernel_rfl
def K159 := kw k159
def F69 : FC Tryz.prog := ⟨TK_, [K159, K160], noD, Tryz.f69, [vl [.shr T_iLiE]]⟩
noncomputable def spec_RingsOk_c0 (rings0 : L_iLiE) (i3 : Int) : Option (Sum (L_iLiE × Int × Unit) (Sum (L_iLiE × Unit) (Bool × Unit))) := bif decide (i3 < (rings0.length : Int)) then bif decide (0 ≤ i3) then Option.bind ((rings0)[i3.toNat]?) fun r1 => Option.bind (spec_RingOk r1.1 r1.2.1) fun y2 => bif !y2.1 then some (.inr (.inr (false, ()))) else bif decide (0 ≤ i3) then Option.bind ((rings0)[i3.toNat]?) fun r3 => bif !decide (r3.1 = i64.wrap (i3 + 1)) then some (.inr (.inr (false, ()))) else some (.inl (rings0, i64.wrap (i3 + 1), ())) else none else none else some (.inr (.inl (rings0, ())))
noncomputable def spec_RingsOk_r0 (x : L_iLiE × Int × Unit) : Option (Sum (L_iLiE × Int × Unit) (Sum (L_iLiE × Unit) (Bool × Unit))) := spec_RingsOk_c0 x.1 x.2.1
def d69_0 : LD := ⟨0, F69.lp 0, sp [(0, vl [.shr T_iLiE]), (2, vl [.int .i64])] 26, sp [(0, vl [.shr T_iLiE])] 29, sp [(2, vl [.bool])] 27, spec_RingsOk_r0⟩
theorem m69_0 : F69.Ok d69_0 := F69.kl0 fun x => by kernel_rfl
def l69_0 : F69.KL := ⟨_, m69_0⟩
noncomputable def spec_RingsOk (rings0 : L_iLiE) : Option (Bool × Unit) := outK (loopV spec_RingsOk_r0 (rings0, 0, ())) (fun y1 => Option.bind (spec_l01In (y1.1.length : Int) 1 9) fun y3 => some (y3.1, ())) (fun y2 => some (y2.1, ()))
theorem k69 : F69.Kn [⟨.tmp 2, false, [.bool]⟩] 69 spec_RingsOk := F69.kf [l69_0] Tryz.func69 (by kernel_rfl) (by kernel_rfl) fun x => by kernel_rfl
def K69 := kw k69
def F161 : FC Tryz.prog := ⟨TK_, [], dr 1 (.a 0 (.a 3 (.t 4 (.alt (.o 1 (.o 2 (.l 5 (.a 6 (.l 7 .nil))))) (.o 2 (.alt (.o 1 (.l 5 (.a 6 (.l 7 .nil)))) (.l 5 (.t 1 (.a 6 (.l 7 .nil)))))))))), Tryz.f161, [va po3]⟩
noncomputable def spec_l14CopyRing (r0c0 : Int) (r0c1 : L_i) : Option (Int × L_i × Unit) := bif Nat.ble ((0 + (List.length r0c1)) * 8) lim then some (r0c0, [] ++ r0c1, ()) else none
noncomputable def spec_l14CopyRing_o (r0c0 : Int) (r0c1 : L_i) : Option (Int × L_i × Unit) := (fun K5 : Option (Int × L_i × Unit) => both (bif Nat.ble ((0 + (List.length r0c1)) * 8) lim then K5 else none) (both (bif Nat.ble ((0 + (List.length r0c1)) * 8) lim then K5 else none) (bif Nat.ble ((0 + (List.length r0c1)) * 8) lim then K5 else none))) (some (r0c0, [] ++ r0c1, ()))
theorem spec_l14CopyRing_o_eq : spec_l14CopyRing_o = spec_l14CopyRing := by delta spec_l14CopyRing_o spec_l14CopyRing; simp only [both_self]
noncomputable def spec_l14CopyRing_q (x : Int × L_i × Unit) : Option (Int × L_i × Unit) := unc (headRT (F161.ps.map some)) spec_l14CopyRing_o x
theorem spec_l14CopyRing_q_eq : spec_l14CopyRing_q = unc (headRT (F161.ps.map some)) spec_l14CopyRing := congrArg (unc (headRT (F161.ps.map some))) spec_l14CopyRing_o_eq
theorem k161 : F161.Kn [⟨.cell 2, true, po2⟩] 161 spec_l14CopyRing := F161.kf1 Tryz.func161 (by kernel_rfl) fun x => Eq.trans (b := spec_l14CopyRing_q x) (by kernel_rfl) (congrFun spec_l14CopyRing_q_eq x)
def K161 := kw k161
def F70 : FC Tryz.prog := ⟨TK_0, [K161], noD, Tryz.f70, [vl [.shr T_iLiE]]⟩
noncomputable def spec_l15Rings_c0 (rings0 out3 : L_iLiE) (i4 : Int) : Option (Sum U33 (Sum (L_iLiE × Unit) Unit)) := bif decide (i4 < (rings0.length : Int)) then bif decide (0 ≤ i4) then Option.bind ((rings0)[i4.toNat]?) fun r1 => Option.bind (spec_l14CopyRing r1.1 r1.2.1) fun y2 => bif Nat.ble (((List.length out3) + 1) * 32) lim then some (.inl (rings0, out3 ++ [(y2.1, y2.2.1, ())], i64.wrap (i4 + 1), ())) else none else none else some (.inr (.inl (out3, ())))
noncomputable def spec_l15Rings_r0 (x : U33) : Option (Sum U33 (Sum (L_iLiE × Unit) Unit)) := spec_l15Rings_c0 x.1 x.2.1 x.2.2.1
def d70_0 : LD := ⟨0, F70.lp 0, sp [(0, vl [.shr T_iLiE]), (2, vl [.own T_iLiE]), (0, vl [.int .i64])] 17, sp [(3, vl [.own T_iLiE])] 18, sp [] 22, spec_l15Rings_r0⟩
theorem m70_0 : F70.Ok d70_0 := F70.kl0 fun x => by kernel_rfl
def l70_0 : F70.KL := ⟨_, m70_0⟩
noncomputable def spec_l15Rings (rings0 : L_iLiE) : Option (L_iLiE × Unit) := outK (loopV spec_l15Rings_r0 (rings0, [], 0, ())) (fun y1 => some (y1.1, ())) (fun y2 => none)
theorem k70 : F70.Kn [⟨.tmp 2, false, [.own T_iLiE]⟩] 70 spec_l15Rings := F70.kf [l70_0] Tryz.func70 (by kernel_rfl) (by kernel_rfl) fun x => by kernel_rfl
def K70 := kw k70
def F71 : FC Tryz.prog := ⟨TK_, [K160], noD, Tryz.f71, [vl [.int .i64]]⟩
noncomputable def spec_DaemonNew (id0 : Int) : Option (U6) := Option.bind (spec_l01In id0 1 5) fun y1 => bif !y1.1 then some (0, false, 0, 0, [], [], [], [], 0, 0, 0, 0, 0, 0, 0, 0, 0, [], 0, 0, 0, [], [], [], false, ()) else some (id0, false, 0, 0, [], [], [], [], 0, 0, 0, 0, 0, 0, 0, 0, 0, [], 0, 0, 0, [], [], [], true, ())
theorem k71 : F71.Kn [⟨.cell 2, true, po4⟩, ⟨.tmp 3, false, [.bool]⟩] 71 spec_DaemonNew := F71.kf0 Tryz.func71 fun x => by kernel_rfl
def K71 := kw k71
def F13 : FC Tryz.prog := ⟨TK_0, [K69, K70, K71], noD, Tryz.f13, [vl [.shr T_iLiE]]⟩
noncomputable def spec_WorldNew_c0 (t2c0 : L_iLiE) (t2c1 : L_ibiiLiELiiisELiELsEiiiiiiiiiLiEiiiLiELiiiLiiisEELiiLiEiiisLiEE) (t2c2 : L_iiiiiisiiiiiLiEiiiLiiisE) (t2c3 : L_iiLiEiiisLiE) (w4c0 : L_iLiE) (w4c1 : L_ibiiLiELiiisELiELsEiiiiiiiiiLiEiiiLiELiiiLiiisEELiiLiEiiisLiEE) (w4c2 : L_iiiiiisiiiiiLiEiiiLiiisE) (w4c3 : L_iiLiEiiisLiE) (i5 : Int) : Option (Sum U31 (Sum U30 Unit)) := bif decide (i5 ≤ 5) then Option.bind (spec_DaemonNew i5) fun y3 => bif Nat.ble (((List.length w4c1) + 1) * 320) lim then some (.inl (t2c0, t2c1, t2c2, t2c3, w4c0, w4c1 ++ [(y3.1, y3.2.1, y3.2.2.1, y3.2.2.2.1, y3.2.2.2.2.1, y3.2.2.2.2.2.1, y3.2.2.2.2.2.2.1, y3.2.2.2.2.2.2.2.1, y3.2.2.2.2.2.2.2.2.1, y3.2.2.2.2.2.2.2.2.2.1, y3.2.2.2.2.2.2.2.2.2.2.1, y3.2.2.2.2.2.2.2.2.2.2.2.1, y3.2.2.2.2.2.2.2.2.2.2.2.2.1, y3.2.2.2.2.2.2.2.2.2.2.2.2.2.1, y3.2.2.2.2.2.2.2.2.2.2.2.2.2.2.1, y3.2.2.2.2.2.2.2.2.2.2.2.2.2.2.2.1, y3.2.2.2.2.2.2.2.2.2.2.2.2.2.2.2.2.1, y3.2.2.2.2.2.2.2.2.2.2.2.2.2.2.2.2.2.1, y3.2.2.2.2.2.2.2.2.2.2.2.2.2.2.2.2.2.2.1, y3.2.2.2.2.2.2.2.2.2.2.2.2.2.2.2.2.2.2.2.1, y3.2.2.2.2.2.2.2.2.2.2.2.2.2.2.2.2.2.2.2.2.1, y3.2.2.2.2.2.2.2.2.2.2.2.2.2.2.2.2.2.2.2.2.2.1, y3.2.2.2.2.2.2.2.2.2.2.2.2.2.2.2.2.2.2.2.2.2.2.1, y3.2.2.2.2.2.2.2.2.2.2.2.2.2.2.2.2.2.2.2.2.2.2.2.1, ())], w4c2, w4c3, i64.wrap (i5 + 1), ())) else none else some (.inr (.inl (t2c0, t2c1, t2c2, t2c3, w4c0, w4c1, w4c2, w4c3, ())))
noncomputable def spec_WorldNew_r0 (x : U31) : Option (Sum U31 (Sum U30 Unit)) := spec_WorldNew_c0 x.1 x.2.1 x.2.2.1 x.2.2.2.1 x.2.2.2.2.1 x.2.2.2.2.2.1 x.2.2.2.2.2.2.1 x.2.2.2.2.2.2.2.1 x.2.2.2.2.2.2.2.2.1
def d13_0 : LD := ⟨0, F13.lp 0, sp [(2, .box false po5), (1, .box false po5), (0, vl [.int .i64])] 26, sp [(2, .box false po5), (1, .box false po5)] 27, sp [] 32, spec_WorldNew_r0⟩
theorem m13_0 : F13.Ok d13_0 := F13.kl0 fun x => by kernel_rfl
def l13_0 : F13.KL := ⟨_, m13_0⟩
noncomputable def spec_WorldNew (rings0 : L_iLiE) : Option (U18) := Option.bind (spec_RingsOk rings0) fun y1 => bif !y1.1 then some ([], [], [], [], false, ()) else Option.bind (spec_l15Rings rings0) fun y2 => outK (loopV spec_WorldNew_r0 ([], [], [], [], y2.1, [], [], [], 1, ())) (fun y3 => some (y3.2.2.2.2.1, y3.2.2.2.2.2.1, y3.2.2.2.2.2.2.1, y3.2.2.2.2.2.2.2.1, true, ())) (fun y4 => none)
theorem k13 : F13.Kn [⟨.cell 2, true, po5⟩, ⟨.tmp 3, false, [.bool]⟩] 13 spec_WorldNew := F13.kf [l13_0] Tryz.func13 (by kernel_rfl) (by kernel_rfl) fun x => by kernel_rfl
def K13 := kw k13
def F128 : FC Tryz.prog := ⟨TK_, [], noD, Tryz.f128, [vl [.int .i64]]⟩
noncomputable def impl_isLevel (n0 : Int) : Option (Bool × Unit) := bif decide (n0 = 1) then some (true, ()) else some (decide (n0 = 2), ())
theorem k128 : F128.Kn [⟨.tmp 2, false, [.bool]⟩] 128 impl_isLevel := F128.kf0 Tryz.func128 fun x => by kernel_rfl
def K128 := kw k128
def F162 : FC Tryz.prog := ⟨TK_, [K128], noD, Tryz.f162, [vl [.bool], vl [.int .i64], vl [.str]]⟩
noncomputable def impl_wordsOk (says0 : Bool) (level1 : Int) (text2 : ByteArray) : Option (Bool × Unit) := bif says0 then Option.bind (impl_isLevel level1) fun y1 => bif y1.1 then some (decide ((text2.size : Int) ≤ 60), ()) else some (false, ()) else bif decide (level1 = 0) then some (strEq text2 (ByteArray.mk #[]), ()) else some (false, ())
theorem k162 : F162.Kn [⟨.tmp 6, false, [.bool]⟩] 162 impl_wordsOk := F162.kf0 Tryz.func162 fun x => by kernel_rfl
def K162 := kw k162
def F72 : FC Tryz.prog := ⟨TK_, [K75, K149, K162], noD, Tryz.f72, [va po6]⟩
noncomputable def impl_DeedOk (e0c0 e0c1 e0c2 e0c3 : Int) (e0c4 : ByteArray) : Option (Bool × Unit) := Option.bind (impl_inRange e0c0 1 9) fun y1 => bif !y1.1 then some (false, ()) else Option.bind (impl_isDaemon e0c1) fun y2 => bif !y2.1 then some (false, ()) else bif decide (e0c2 < 0) then some (false, ()) else Option.bind (impl_wordsOk (decide (e0c0 = 1)) e0c3 e0c4) fun y3 => some (y3.1, ())
theorem k72 : F72.Kn [⟨.tmp 2, false, [.bool]⟩] 72 impl_DeedOk := F72.kf0 Tryz.func72 fun x => by kernel_rfl
def K72 := kw k72
def F14 : FC Tryz.prog := ⟨TK_, [K12, K72], noD, Tryz.f14, [vl [.shr T_iLiE], vl po30]⟩
noncomputable def impl_RunWorld_c0 (deeds1 : L_iiiis) (t4c0 : L_iLiE) (t4c1 : L_ibiiLiELiiisELiELsEiiiiiiiiiLiEiiiLiELiiiLiiisEELiiLiEiiisLiEE) (t4c2 : L_iiiiiisiiiiiLiEiiiLiiisE) (t4c3 : L_iiLiEiiisLiE) (w7c0 : L_iLiE) (w7c1 : L_ibiiLiELiiisELiELsEiiiiiiiiiLiEiiiLiELiiiLiiisEELiiLiEiiisLiEE) (w7c2 : L_iiiiiisiiiiiLiEiiiLiiisE) (w7c3 : L_iiLiEiiisLiE) (t28 : L_iiiis) (t29 t30 : Int) : Option (Sum U67 (Sum U68 U20)) := bif decide (t30 < t29) then bif decide (0 ≤ t30) then Option.bind ((t28)[t30.toNat]?) fun r2 => Option.bind (impl_DeedOk r2.1 r2.2.1 r2.2.2.1 r2.2.2.2.1 r2.2.2.2.2.1) fun y3 => bif !y3.1 then some (.inr (.inr ([], [], [], [], [], false, ()))) else some (.inl (deeds1, t4c0, t4c1, t4c2, t4c3, w7c0, w7c1, w7c2, w7c3, t28, t29, i64.wrap (t30 + 1), ())) else none else some (.inr (.inl (deeds1, t4c0, t4c1, t4c2, t4c3, w7c0, w7c1, w7c2, w7c3, ())))
noncomputable def impl_RunWorld_r0 (x : U67) : Option (Sum U67 (Sum U68 U20)) := impl_RunWorld_c0 x.1 x.2.1 x.2.2.1 x.2.2.2.1 x.2.2.2.2.1 x.2.2.2.2.2.1 x.2.2.2.2.2.2.1 x.2.2.2.2.2.2.2.1 x.2.2.2.2.2.2.2.2.1 x.2.2.2.2.2.2.2.2.2.1 x.2.2.2.2.2.2.2.2.2.2.1 x.2.2.2.2.2.2.2.2.2.2.2.1
def d14_0 : LD := ⟨0, F14.lp 0, sp [(1, vl po30), (2, .box false po31), (2, .box false po5), (20, vl po30), (0, vl [.int .i64]), (0, vl [.int .i64])] 24, sp [(1, vl po30), (2, .box false po31), (2, .box false po5)] 47, sp [(4, .box false po31), (0, vl [.own T_i]), (0, vl [.bool])] 48, impl_RunWorld_r0⟩
theorem m14_0 : F14.Ok d14_0 := F14.kl0 fun x => by kernel_rfl
def l14_0 : F14.KL := ⟨_, m14_0⟩
noncomputable def impl_RunWorld_c2 (t4c0 : L_iLiE) (t4c1 : L_ibiiLiELiiisELiELsEiiiiiiiiiLiEiiiLiELiiiLiiisEELiiLiEiiisLiEE) (t4c2 : L_iiiiiisiiiiiLiEiiiLiiisE) (t4c3 : L_iiLiEiiisLiE) (w7c0 : L_iLiE) (w7c1 : L_ibiiLiELiiisELiELsEiiiiiiiiiLiEiiiLiELiiiLiiisEELiiLiEiiisLiEE) (w7c2 : L_iiiiiisiiiiiLiEiiiLiiisE) (w7c3 : L_iiLiEiiisLiE) (codes11 : L_i) (t39 : L_iiiis) (t40 t41 : Int) : Option (Sum U69 (Sum U70 Unit)) := bif decide (t41 < t40) then bif decide (0 ≤ t41) then Option.bind ((t39)[t41.toNat]?) fun r6 => none else none else some (.inr (.inl (t4c0, t4c1, t4c2, t4c3, w7c0, w7c1, w7c2, w7c3, codes11, ())))
noncomputable def impl_RunWorld_r2 (x : U69) : Option (Sum U69 (Sum U70 Unit)) := impl_RunWorld_c2 x.1 x.2.1 x.2.2.1 x.2.2.2.1 x.2.2.2.2.1 x.2.2.2.2.2.1 x.2.2.2.2.2.2.1 x.2.2.2.2.2.2.2.1 x.2.2.2.2.2.2.2.2.1 x.2.2.2.2.2.2.2.2.2.1 x.2.2.2.2.2.2.2.2.2.2.1 x.2.2.2.2.2.2.2.2.2.2.2.1
def d14_2 : LD := ⟨2, F14.lp 1, sp [(4, .box false po31), (2, .box false po5), (3, vl [.own T_i]), (27, vl po30), (0, vl [.int .i64]), (0, vl [.int .i64])] 13, sp [(4, .box false po31), (2, .box false po5), (3, vl [.own T_i])] 43, sp [] 55, impl_RunWorld_r2⟩
theorem m14_2 : F14.Ok d14_2 := F14.kl0 fun x => by kernel_rfl
def l14_2 : F14.KL := ⟨_, m14_2⟩
noncomputable def impl_RunWorld (rings0 : L_iLiE) (deeds1 : L_iiiis) : Option (U20) := Option.bind (impl_WorldNew rings0) fun y1 => bif !y1.2.2.2.2.1 then some ([], [], [], [], [], false, ()) else bif decide (90 < (deeds1.length : Int)) then some ([], [], [], [], [], false, ()) else outK (loopV impl_RunWorld_r0 (deeds1, [], [], [], [], y1.1, y1.2.1, y1.2.2.1, y1.2.2.2.1, deeds1, (deeds1.length : Int), 0, ())) (fun y2 => outK (loopV impl_RunWorld_r2 (y2.2.1, y2.2.2.1, y2.2.2.2.1, y2.2.2.2.2.1, y2.2.2.2.2.2.1, y2.2.2.2.2.2.2.1, y2.2.2.2.2.2.2.2.1, y2.2.2.2.2.2.2.2.2.1, [], y2.1, (y2.1.length : Int), 0, ())) (fun y4 => some (y4.2.2.2.2.1, y4.2.2.2.2.2.1, y4.2.2.2.2.2.2.1, y4.2.2.2.2.2.2.2.1, y4.2.2.2.2.2.2.2.2.1, true, ())) (fun y5 => none)) (fun y3 => some y3)
theorem k14 : F14.Kn [⟨.cell 4, true, po32⟩, ⟨.tmp 5, false, [.own T_i]⟩, ⟨.tmp 6, false, [.bool]⟩] 14 impl_RunWorld := F14.kf [l14_0, l14_2] Tryz.func14 (by kernel_rfl) (by kernel_rfl) fun x => by kernel_rfl
def K14 := kw k14
def F3 : FC Tryz.prog := ⟨TK_, [K10, K11, K12, K13, K14, K15], noD, Tryz.f3, [vl [.shr T_ku8]]⟩
noncomputable def laws_FnWorldNew (code0 : L_ku8) : Option (Bool × Unit) := Option.bind (laws_big code0) fun y1 => bif y1.1 then some (true, ()) else Option.bind (spec_DrawRingsOk code0) fun y2 => Option.bind (impl_WorldNew y2.1) fun y3 => Option.bind (spec_WorldNew y2.1) fun y4 => Option.bind (impl_RunWorld y2.1 []) fun y5 => bif !(y3.2.2.2.2.1 == y4.2.2.2.2.1) then some (false, ()) else bif !(y5.2.2.2.2.2.1 == y3.2.2.2.2.1) then some (false, ()) else Option.bind (impl_RingsOk y2.1) fun y6 => bif !(y6.1 == y3.2.2.2.2.1) then some (false, ()) else bif !decide ((y5.2.2.2.2.1.length : Int) = 0) then some (false, ()) else bif !y3.2.2.2.2.1 then some (decide ((y3.2.1.length : Int) = 0), ()) else bif decide ((y3.2.1.length : Int) = 5) then bif decide ((y3.2.2.2.1.length : Int) = 0) then bif decide ((y5.2.2.1.length : Int) = 0) then bif Nat.blt 0 (List.length y3.2.1) then Option.bind ((y3.2.1)[0]?) fun r7 => some (decide ((r7.2.2.2.2.2.2.2.2.2.2.2.2.2.2.2.2.2.2.2.2.2.2.2.1.length : Int) = 0), ()) else none else some (false, ()) else some (false, ()) else some (false, ())
theorem k3 : F3.Kn [⟨.tmp 2, false, [.bool]⟩] 3 laws_FnWorldNew := F3.kf0 Tryz.func3 fun x => by kernel_rfl
end
end Go.TM
