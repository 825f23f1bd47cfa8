/- What the functions answer, as terms; their contracts. -/
import Derived.Test.YtiljcjnnhkidbaaABase
set_option linter.unusedSimpArgs false
set_option linter.unusedVariables false
namespace Go.TM
open Go Go.RowKit Go.Proofs
open Go.IntKind (i64)
noncomputable def F7 : FC Try.prog := ⟨TK_, [], noD, Try.f7, [vl [.shr T_ku8]]⟩
noncomputable def laws_big (code0 : L_ku8) : Option (Bool × Unit) := some (decide (1048576 < (code0.length : Int)), ())
theorem k7 : F7.Kn [⟨.tmp 2, false, [.bool]⟩] 7 laws_big := F7.kf0 Try.func7 (by kernel_rfl) fun x => by kernel_rfl
noncomputable def K7 := kw k7
noncomputable def F33 : FC Try.prog := ⟨TK_, [], noD, Try.f33, [vl [.shr T_ku8]]⟩
noncomputable def spec_l01New_c0 (code0 : L_ku8) (h3 i4 : Int) : Option (Sum R_Lku8Eii (Sum (L_ku8 × Int × Unit) Unit)) := bif decide (i4 < (code0.length : Int)) then bif decide (i4 < 4000) then bif decide (0 ≤ i4) then Option.bind ((code0)[i4.toNat]?) fun r1 => some (.inl (code0, i64.wrap ((BitVec.ofInt IntKind.i64.bits (i64.wrap ((i64.wrap ((i64.wrap (h3 * 131)) + (i64.wrap r1.1))) + 7)) &&& BitVec.ofInt IntKind.i64.bits 1073741823).toNat : Int), i64.wrap (i4 + 1), ())) else none else some (.inr (.inl (code0, h3, ()))) else some (.inr (.inl (code0, h3, ())))
noncomputable def spec_l01New_r0 (x : R_Lku8Eii) : Option (Sum R_Lku8Eii (Sum (L_ku8 × Int × Unit) Unit)) := spec_l01New_c0 x.1 x.2.1 x.2.2.1
noncomputable def d33_0 : LD := ⟨0, F33.lp 0, sp [(0, vl [.shr T_ku8]), (2, vl [.int .i64]), (0, vl [.int .i64])] 28, sp [(0, vl [.shr T_ku8]), (2, vl [.int .i64])] 29, sp [] 33, spec_l01New_r0⟩
theorem m33_0 : F33.Ok d33_0 := F33.kl0 (by kernel_rfl) fun x => by kernel_rfl
noncomputable def l33_0 : F33.KL := ⟨_, m33_0⟩
noncomputable def spec_l01New (code0 : L_ku8) : Option (R_Lku8Eii) := outK (loopV spec_l01New_r0 (code0, i64.wrap (27101 + (code0.length : Int)), 0, ())) (fun y1 => some (y1.1, 0, y1.2.1, ())) (fun y2 => none)
theorem k33 : F33.Kn [⟨.ptr 2, false, po1⟩] 33 spec_l01New := F33.kf [l33_0] Try.func33 (by kernel_rfl) (by kernel_rfl) fun x => by kernel_rfl
noncomputable def K33 := kw k33
noncomputable def F67 : FC Try.prog := ⟨TK_, [], dr 2 (.a 0 (.a 1 (.a 2 (.t 3 (.a 4 (.a 5 (.a 6 (.a 7 (.t 8 (.a 9 (.a 10 (.a 11 (.a 12 .nil))))))))))))) (dr 3 (.a 0 (.a 1 (.a 2 (.t 3 (.a 4 (.a 5 (.a 6 (.t 7 (.a 8 (.a 9 .nil)))))))))) (dr 4 (.a 0 (.a 1 (.a 2 (.a 3 (.t 4 (.a 5 (.a 6 (.a 7 (.t 8 (.a 9 (.t 10 (.a 11 (.a 12 (.a 13 (.a 14 .nil))))))))))))))))), Try.f67, [.box true po1]⟩
noncomputable def spec_l01Byte (c0c0 : L_ku8) (c0c1 c0c2 : Int) : Option (U1) := bif decide (c0c1 < (c0c0.length : Int)) then bif decide (0 ≤ c0c1) then Option.bind ((c0c0)[c0c1.toNat]?) fun r1 => some (i64.wrap ((BitVec.ofInt IntKind.i64.bits (i64.wrap ((i64.wrap ((BitVec.ofInt IntKind.i64.bits (i64.wrap ((BitVec.ofInt IntKind.i64.bits (Int.fdiv (i64.wrap ((i64.wrap (c0c2 * 6364136223846793005)) + 1442695040888963407)) (2 ^ (min 33 IntKind.i64.bits))) ^^^ BitVec.ofInt IntKind.i64.bits (Int.fdiv (i64.wrap ((i64.wrap (c0c2 * 6364136223846793005)) + 1442695040888963407)) (2 ^ (min 45 IntKind.i64.bits)))).toNat : Int)) &&& BitVec.ofInt IntKind.i64.bits 255).toNat : Int)) + (i64.wrap r1.1))) &&& BitVec.ofInt IntKind.i64.bits 255).toNat : Int), c0c0, i64.wrap (c0c1 + 1), i64.wrap ((i64.wrap (c0c2 * 6364136223846793005)) + 1442695040888963407), ()) else none else some (i64.wrap ((BitVec.ofInt IntKind.i64.bits (i64.wrap ((BitVec.ofInt IntKind.i64.bits (Int.fdiv (i64.wrap ((i64.wrap (c0c2 * 6364136223846793005)) + 1442695040888963407)) (2 ^ (min 33 IntKind.i64.bits))) ^^^ BitVec.ofInt IntKind.i64.bits (Int.fdiv (i64.wrap ((i64.wrap (c0c2 * 6364136223846793005)) + 1442695040888963407)) (2 ^ (min 45 IntKind.i64.bits)))).toNat : Int)) &&& BitVec.ofInt IntKind.i64.bits 255).toNat : Int), c0c0, c0c1, i64.wrap ((i64.wrap (c0c2 * 6364136223846793005)) + 1442695040888963407), ())
theorem k67 : F67.Kn [⟨.tmp 2, false, [.int .i64]⟩] 67 spec_l01Byte := F67.kf0 Try.func67 (by kernel_rfl) fun x => by kernel_rfl
noncomputable def K67 := kv (.own, .shr, .shr) k67
noncomputable def F34 : FC Try.prog := ⟨TK_, [K67], noD, Try.f34, [.box true po1, vl [.int .i64]]⟩
noncomputable def spec_l01Below (c0c0 : L_ku8) (c0c1 c0c2 n1 : Int) : Option (U1) := bif decide (n1 ≤ 0) then some (0, c0c0, c0c1, c0c2, ()) else bif decide (n1 ≤ 256) then Option.bind (spec_l01Byte c0c0 c0c1 c0c2) fun y1 => bif decide (n1 = 0) then none else some (Int.tmod y1.1 n1, y1.2) else Option.bind (spec_l01Byte c0c0 c0c1 c0c2) fun y2 => Option.bind (spec_l01Byte y2.2.1 y2.2.2.1 y2.2.2.2.1) fun y3 => Option.bind (spec_l01Byte y3.2.1 y3.2.2.1 y3.2.2.2.1) fun y4 => Option.bind (spec_l01Byte y4.2.1 y4.2.2.1 y4.2.2.2.1) fun y5 => bif decide (n1 = 0) then none else some (Int.tmod (i64.wrap ((i64.wrap ((i64.wrap ((i64.wrap (y2.1 * 16777216)) + (i64.wrap (y3.1 * 65536)))) + (i64.wrap (y4.1 * 256)))) + y5.1)) n1, y5.2)
theorem k34 : F34.Kn [⟨.tmp 4, false, [.int .i64]⟩] 34 spec_l01Below := F34.kf0 Try.func34 (by kernel_rfl) fun x => by kernel_rfl
noncomputable def K34 := kv (.own, .shr, .shr) k34
noncomputable def F50 : FC Try.prog := ⟨TK_, [K34], noD, Try.f50, [.box true po1, vl [.int .i64]]⟩
noncomputable def spec_l01Once (c0c0 : L_ku8) (c0c1 c0c2 n1 : Int) : Option (U2) := Option.bind (spec_l01Below c0c0 c0c1 c0c2 n1) fun y1 => some (decide (y1.1 = 0), y1.2)
theorem k50 : F50.Kn [⟨.tmp 4, false, [.bool]⟩] 50 spec_l01Once := F50.kf0 Try.func50 (by kernel_rfl) fun x => by kernel_rfl
noncomputable def K50 := kv (.own, .shr, .shr) k50
noncomputable def F32 : FC Try.prog := ⟨TK_, [K34, K50], noD, Try.f32, [.box true po1]⟩
noncomputable def spec_l09Ring_c0 (c0c0 : L_ku8) (c0c1 c0c2 t2c0 : Int) (t2c1 : L_i) (r3c0 : Int) (r3c1 : L_i) (d4 : Int) : Option (Sum U15 (Sum U16 Unit)) := bif decide (d4 ≤ 4) then Option.bind (spec_l01Once c0c0 c0c1 c0c2 3) fun y2 => bif !y2.1 then bif Nat.ble (((List.length r3c1) + 1) * 8) lim then some (.inl (y2.2.1, y2.2.2.1, y2.2.2.2.1, t2c0, t2c1, r3c0, r3c1 ++ [(d4, ())], i64.wrap (d4 + 1), ())) else none else some (.inl (y2.2.1, y2.2.2.1, y2.2.2.2.1, t2c0, t2c1, r3c0, r3c1, i64.wrap (d4 + 1), ())) else some (.inr (.inl (c0c0, c0c1, c0c2, t2c0, t2c1, r3c0, r3c1, ())))
noncomputable def spec_l09Ring_r0 (x : U15) : Option (Sum U15 (Sum U16 Unit)) := spec_l09Ring_c0 x.1 x.2.1 x.2.2.1 x.2.2.2.1 x.2.2.2.2.1 x.2.2.2.2.2.1 x.2.2.2.2.2.2.1 x.2.2.2.2.2.2.2.1
noncomputable def d32_0 : LD := ⟨0, F32.lp 0, sp [(0, .box true po1), (1, .box false po2), (0, .box false po2), (0, vl [.int .i64])] 25, sp [(0, .box true po1), (1, .box false po2), (0, .box false po2)] 26, sp [] 30, spec_l09Ring_r0⟩
theorem m32_0 : F32.Ok d32_0 := F32.kl0 (by kernel_rfl) fun x => by kernel_rfl
noncomputable def l32_0 : F32.KL := ⟨_, m32_0⟩
noncomputable def spec_l09Ring (c0c0 : L_ku8) (c0c1 c0c2 : Int) : Option (U7) := Option.bind (spec_l01Below c0c0 c0c1 c0c2 3) fun y1 => outK (loopV spec_l09Ring_r0 (y1.2.1, y1.2.2.1, y1.2.2.2.1, 0, [], i64.wrap (1 + y1.1), [], 1, ())) (fun y2 => bif decide ((y2.2.2.2.2.2.2.1.length : Int) = 0) then some (y2.2.2.2.2.2.1, [(2, ())], y2.1, y2.2.1, y2.2.2.1, ()) else some (y2.2.2.2.2.2.1, y2.2.2.2.2.2.2.1, y2.1, y2.2.1, y2.2.2.1, ())) (fun y3 => none)
theorem k32 : F32.Kn [⟨.cell 2, true, po2⟩] 32 spec_l09Ring := F32.kf [l32_0] Try.func32 (by kernel_rfl) (by kernel_rfl) fun x => by kernel_rfl
noncomputable def K32 := kv (.own, .shr, .shr) k32
noncomputable def F122 : FC Try.prog := ⟨TK_, [], noD, Try.f122, [vl [.int .i64]]⟩
noncomputable def spec_l01Figure (x0 : Int) : Option (Int × Unit) := bif decide (x0 < 10) then some (IntKind.u8.wrap (i64.wrap (48 + x0)), ()) else some (IntKind.u8.wrap (i64.wrap ((i64.wrap (97 + x0)) - 10)), ())
theorem k122 : F122.Kn [⟨.tmp 2, false, [.int .u8]⟩] 122 spec_l01Figure := F122.kf0 Try.func122 (by kernel_rfl) fun x => by kernel_rfl
noncomputable def K122 := kw k122
noncomputable def F107 : FC Try.prog := ⟨TK_, [K122], noD, Try.f107, [vl [.int .i64]]⟩
noncomputable def spec_Decimal_c0 (n0 : Int) (below3 : Bool) (s4 : ByteArray) : Option (Sum U17 (Sum (Bool × ByteArray × Unit) Unit)) := bif !decide (n0 = 0) then bif decide (Int.tmod n0 10 < 0) then none else Option.bind (spec_l01Figure (Int.tmod n0 10)) fun y1 => bif Nat.ble ((ByteArray.size (bytesOf [(y1.1, ())])) + (ByteArray.size s4)) lim then some (.inl (i64.wrap (Int.tdiv n0 10), below3, (bytesOf [(y1.1, ())]) ++ s4, ())) else none else some (.inr (.inl (below3, s4, ())))
noncomputable def spec_Decimal_r0 (x : U17) : Option (Sum U17 (Sum (Bool × ByteArray × Unit) Unit)) := spec_Decimal_c0 x.1 x.2.1 x.2.2.1
noncomputable def d107_0 : LD := ⟨0, F107.lp 0, sp [(0, vl [.int .i64]), (2, vl [.bool]), (0, vl [.str])] 26, sp [(3, vl [.bool]), (0, vl [.str])] 26, sp [] 31, spec_Decimal_r0⟩
theorem m107_0 : F107.Ok d107_0 := F107.kl0 (by kernel_rfl) fun x => by kernel_rfl
noncomputable def l107_0 : F107.KL := ⟨_, m107_0⟩
noncomputable def spec_Decimal (n0 : Int) : Option (ByteArray × Unit) := bif decide (n0 = 0) then some ((ByteArray.mk #[48]), ()) else outK (loopV spec_Decimal_r0 (n0, decide (n0 < 0), (ByteArray.mk #[]), ())) (fun y1 => bif y1.1 then bif Nat.ble (1 + (ByteArray.size y1.2.1)) lim then some ((ByteArray.mk #[45]) ++ y1.2.1, ()) else none else some (y1.2.1, ())) (fun y2 => none)
theorem k107 : F107.Kn [⟨.tmp 2, false, [.str]⟩] 107 spec_Decimal := F107.kf [l107_0] Try.func107 (by kernel_rfl) (by kernel_rfl) fun x => by kernel_rfl
noncomputable def K107 := kw k107
noncomputable def F91 : FC Try.prog := ⟨TK_, [K50, K34, K107], dr 13 (.a 0 (.t 1 (.a 2 (.a 3 (.a 4 (.t 5 (.o 6 (.l 7 (.a 8 (.l 9 .nil)))))))))), Try.f91, [.box true po1, va po3, vl [.int .i64]]⟩
noncomputable def spec_l13Bundle_c0 (c0c0 : L_ku8) (c0c1 c0c2 t6c0 t6c1 t6c2 : Int) (t6c3 : L_iiis) (b7c0 b7c1 b7c2 : Int) (b7c3 all_8 : L_iiis) (i9 : Int) : Option (Sum U18 (Sum U19 Unit)) := bif decide (i9 ≤ 6) then Option.bind (spec_Decimal i9) fun y3 => bif Nat.ble (((List.length all_8) + 1) * 40) lim then some (.inl (c0c0, c0c1, c0c2, t6c0, t6c1, t6c2, t6c3, b7c0, b7c1, b7c2, b7c3, all_8 ++ [(i9, i64.wrap (1 + (Int.tmod i9 3)), i64.wrap (1 + (Int.tmod i9 2)), y3.1, ())], i64.wrap (i9 + 1), ())) else none else some (.inr (.inl (c0c0, c0c1, c0c2, t6c0, t6c1, t6c2, t6c3, b7c0, b7c1, b7c2, b7c3, all_8, ())))
noncomputable def spec_l13Bundle_r0 (x : U18) : Option (Sum U18 (Sum U19 Unit)) := spec_l13Bundle_c0 x.1 x.2.1 x.2.2.1 x.2.2.2.1 x.2.2.2.2.1 x.2.2.2.2.2.1 x.2.2.2.2.2.2.1 x.2.2.2.2.2.2.2.1 x.2.2.2.2.2.2.2.2.1 x.2.2.2.2.2.2.2.2.2.1 x.2.2.2.2.2.2.2.2.2.2.1 x.2.2.2.2.2.2.2.2.2.2.2.1 x.2.2.2.2.2.2.2.2.2.2.2.2.1
noncomputable def d91_0 : LD := ⟨0, F91.lp 0, sp [(0, .box true po1), (5, .box false po4), (0, .box false po4), (0, vl [.own T_iiis]), (0, vl [.int .i64])] 58, sp [(0, .box true po1), (5, .box false po4), (0, .box false po4), (0, vl [.own T_iiis])] 59, sp [] 68, spec_l13Bundle_r0⟩
theorem m91_0 : F91.Ok d91_0 := F91.kl0 (by kernel_rfl) fun x => by kernel_rfl
noncomputable def l91_0 : F91.KL := ⟨_, m91_0⟩
noncomputable def spec_l13Bundle_c2 (c0c0 : L_ku8) (c0c1 c0c2 t6c0 t6c1 t6c2 : Int) (t6c3 : L_iiis) (b7c0 b7c1 b7c2 : Int) (b7c3 all_8 : L_iiis) (i10 : Int) : Option (Sum U18 (Sum U20 Unit)) := bif decide (i10 < (all_8.length : Int)) then Option.bind (spec_l01Once c0c0 c0c1 c0c2 3) fun y6 => bif !y6.1 then bif decide (0 ≤ i10) then bif Nat.blt (i10.toNat) (List.length all_8) then Option.bind ((all_8)[i10.toNat]?) fun r7 => bif Nat.ble (((List.length b7c3) + 1) * 40) lim then some (.inl (y6.2.1, y6.2.2.1, y6.2.2.2.1, t6c0, t6c1, t6c2, t6c3, b7c0, b7c1, b7c2, b7c3 ++ [(r7.1, r7.2.1, r7.2.2.1, r7.2.2.2.1, ())], all_8, i64.wrap (i10 + 1), ())) else none else none else none else some (.inl (y6.2.1, y6.2.2.1, y6.2.2.2.1, t6c0, t6c1, t6c2, t6c3, b7c0, b7c1, b7c2, b7c3, all_8, i64.wrap (i10 + 1), ())) else some (.inr (.inl (c0c0, c0c1, c0c2, t6c0, t6c1, t6c2, t6c3, b7c0, b7c1, b7c2, b7c3, ())))
noncomputable def spec_l13Bundle_r2 (x : U18) : Option (Sum U18 (Sum U20 Unit)) := spec_l13Bundle_c2 x.1 x.2.1 x.2.2.1 x.2.2.2.1 x.2.2.2.2.1 x.2.2.2.2.2.1 x.2.2.2.2.2.2.1 x.2.2.2.2.2.2.2.1 x.2.2.2.2.2.2.2.2.1 x.2.2.2.2.2.2.2.2.2.1 x.2.2.2.2.2.2.2.2.2.2.1 x.2.2.2.2.2.2.2.2.2.2.2.1 x.2.2.2.2.2.2.2.2.2.2.2.2.1
noncomputable def d91_2 : LD := ⟨2, F91.lp 1, sp [(0, .box true po1), (5, .box false po4), (0, .box false po4), (0, vl [.own T_iiis]), (1, vl [.int .i64])] 57, sp [(0, .box true po1), (5, .box false po4), (0, .box false po4)] 60, sp [] 68, spec_l13Bundle_r2⟩
theorem m91_2 : F91.Ok d91_2 := F91.kl0 (by kernel_rfl) fun x => by kernel_rfl
noncomputable def l91_2 : F91.KL := ⟨_, m91_2⟩
noncomputable def spec_l13Bundle (c0c0 : L_ku8) (c0c1 c0c2 r1c0 : Int) (r1c1 : L_i) (from_2 : Int) : Option (U8) := bif decide (1 < r1c0) then Option.bind (spec_l01Once c0c0 c0c1 c0c2 4) fun y1 => bif !y1.1 then Option.bind (spec_l01Below y1.2.1 y1.2.2.1 y1.2.2.2.1 (i64.wrap (r1c0 - 1))) fun y2 => outK (loopV spec_l13Bundle_r0 (y2.2.1, y2.2.2.1, y2.2.2.2.1, 0, 0, 0, [], from_2, r1c0, i64.wrap (1 + y2.1), [], [], 1, ())) (fun y3 => outK (loopV spec_l13Bundle_r2 (y3.1, y3.2.1, y3.2.2.1, y3.2.2.2.1, y3.2.2.2.2.1, y3.2.2.2.2.2.1, y3.2.2.2.2.2.2.1, y3.2.2.2.2.2.2.2.1, y3.2.2.2.2.2.2.2.2.1, y3.2.2.2.2.2.2.2.2.2.1, y3.2.2.2.2.2.2.2.2.2.2.1, y3.2.2.2.2.2.2.2.2.2.2.2.1, 0, ())) (fun y5 => some (y5.2.2.2.2.2.2.2.1, y5.2.2.2.2.2.2.2.2.1, y5.2.2.2.2.2.2.2.2.2.1, y5.2.2.2.2.2.2.2.2.2.2.1, y5.1, y5.2.1, y5.2.2.1, ())) (fun y6 => none)) (fun y4 => none) else some (from_2, r1c0, 0, [], y1.2) else some (from_2, r1c0, 0, [], c0c0, c0c1, c0c2, ())
theorem k91 : F91.Kn [⟨.cell 6, true, po4⟩] 91 spec_l13Bundle := F91.kf [l91_0, l91_2] Try.func91 (by kernel_rfl) (by kernel_rfl) fun x => by kernel_rfl
noncomputable def K91 := kv (.own, .shr, .shr) k91
noncomputable def F83 : FC Try.prog := ⟨TK_, [K34], noD, Try.f83, [.box true po1, vl [.shr T_i]]⟩
noncomputable def spec_l01PickInt (c0c0 : L_ku8) (c0c1 c0c2 : Int) (list1 : L_i) : Option (U1) := Option.bind (spec_l01Below c0c0 c0c1 c0c2 (list1.length : Int)) fun y1 => bif decide (0 ≤ y1.1) then Option.bind ((list1)[y1.1.toNat]?) fun r2 => some (r2.1, y1.2) else none
theorem k83 : F83.Kn [⟨.tmp 4, false, [.int .i64]⟩] 83 spec_l01PickInt := F83.kf0 Try.func83 (by kernel_rfl) fun x => by kernel_rfl
noncomputable def K83 := kv (.own, .shr, .shr) k83
noncomputable def F105 : FC Try.prog := ⟨TK_, [K34], noD, Try.f105, [.box true po1, vl [.shr T_s]]⟩
noncomputable def spec_l01Pick (c0c0 : L_ku8) (c0c1 c0c2 : Int) (list1 : L_s) : Option (U4) := Option.bind (spec_l01Below c0c0 c0c1 c0c2 (list1.length : Int)) fun y1 => bif decide (0 ≤ y1.1) then Option.bind ((list1)[y1.1.toNat]?) fun r2 => some (r2.1, y1.2) else none
theorem k105 : F105.Kn [⟨.tmp 4, false, [.str]⟩] 105 spec_l01Pick := F105.kf0 Try.func105 (by kernel_rfl) fun x => by kernel_rfl
noncomputable def K105 := kv (.own, .shr, .shr) k105
noncomputable def F82 : FC Try.prog := ⟨TK_, [K34, K105], noD, Try.f82, [.box true po1, vl [.int .i64]]⟩
noncomputable def spec_l05Of (c0c0 : L_ku8) (c0c1 c0c2 seq1 : Int) : Option (U5) := Option.bind (spec_l01Below c0c0 c0c1 c0c2 2) fun y1 => Option.bind (spec_l01Pick y1.2.1 y1.2.2.1 y1.2.2.2.1 ([((ByteArray.mk #[]), ()), ((ByteArray.mk #[120]), ()), ((ByteArray.mk #[121, 121]), ()), ((ByteArray.mk #[122, 122, 122]), ())])) fun y2 => some (seq1, i64.wrap (1 + (Int.tmod seq1 3)), i64.wrap (1 + y1.1), y2)
theorem k82 : F82.Kn [⟨.cell 4, true, po5⟩] 82 spec_l05Of := F82.kf0 Try.func82 (by kernel_rfl) fun x => by kernel_rfl
noncomputable def K82 := kv (.own, .shr, .shr) k82
noncomputable def F123 : FC Try.prog := ⟨TK_, [K34, K50, K82], noD, Try.f123, [.box true po1]⟩
noncomputable def spec_l05Items_c0 (c0c0 : L_ku8) (c0c1 c0c2 : Int) (out3 : L_iiis) (i4 : Int) : Option (Sum U21 (Sum U22 Unit)) := Option.bind (spec_l01Below c0c0 c0c1 c0c2 10) fun y1 => bif decide (i4 ≤ y1.1) then Option.bind (spec_l01Once y1.2.1 y1.2.2.1 y1.2.2.2.1 4) fun y2 => bif !y2.1 then Option.bind (spec_l05Of y2.2.1 y2.2.2.1 y2.2.2.2.1 i4) fun y3 => bif Nat.ble (((List.length out3) + 1) * 40) lim then some (.inl (y3.2.2.2.2.1, y3.2.2.2.2.2.1, y3.2.2.2.2.2.2.1, out3 ++ [(y3.1, y3.2.1, y3.2.2.1, y3.2.2.2.1, ())], i64.wrap (i4 + 1), ())) else none else some (.inl (y2.2.1, y2.2.2.1, y2.2.2.2.1, out3, i64.wrap (i4 + 1), ())) else some (.inr (.inl (y1.2.1, y1.2.2.1, y1.2.2.2.1, out3, ())))
noncomputable def spec_l05Items_r0 (x : U21) : Option (Sum U21 (Sum U22 Unit)) := spec_l05Items_c0 x.1 x.2.1 x.2.2.1 x.2.2.2.1 x.2.2.2.2.1
noncomputable def d123_0 : LD := ⟨0, F123.lp 0, sp [(0, .box true po1), (2, vl [.own T_iiis]), (0, vl [.int .i64])] 18, sp [(0, .box true po1), (2, vl [.own T_iiis])] 19, sp [] 23, spec_l05Items_r0⟩
theorem m123_0 : F123.Ok d123_0 := F123.kl0 (by kernel_rfl) fun x => by kernel_rfl
noncomputable def l123_0 : F123.KL := ⟨_, m123_0⟩
noncomputable def spec_l05Items (c0c0 : L_ku8) (c0c1 c0c2 : Int) : Option (U6) := outK (loopV spec_l05Items_r0 (c0c0, c0c1, c0c2, [], 1, ())) (fun y1 => some (y1.2.2.2.1, y1.1, y1.2.1, y1.2.2.1, ())) (fun y2 => none)
theorem k123 : F123.Kn [⟨.tmp 2, false, [.own T_iiis]⟩] 123 spec_l05Items := F123.kf [l123_0] Try.func123 (by kernel_rfl) (by kernel_rfl) fun x => by kernel_rfl
noncomputable def K123 := kv (.own, .shr, .shr) k123
noncomputable def F84 : FC Try.prog := ⟨TK_, [], noD, Try.f84, [vl [.int .i64], vl [.int .u8]]⟩
noncomputable def spec_l01Long_c0 (n0 x1 : Int) (out5 : L_ku8) (i6 : Int) : Option (Sum U23 (Sum (L_ku8 × Unit) Unit)) := bif decide (i6 < n0) then bif decide (0 ≤ i6) then bif Nat.blt (i6.toNat) (List.length out5) then Option.bind ((out5)[i6.toNat]?) fun r1 => some (.inl (n0, x1, List.set out5 (i6.toNat) (x1, ()), i64.wrap (i6 + 1), ())) else none else none else some (.inr (.inl (out5, ())))
noncomputable def spec_l01Long_r0 (x : U23) : Option (Sum U23 (Sum (L_ku8 × Unit) Unit)) := spec_l01Long_c0 x.1 x.2.1 x.2.2.1 x.2.2.2.1
noncomputable def d84_0 : LD := ⟨0, F84.lp 0, sp [(0, vl [.int .i64]), (0, vl [.int .u8]), (3, vl [.own T_ku8]), (0, vl [.int .i64])] 14, sp [(5, vl [.own T_ku8])] 15, sp [] 21, spec_l01Long_r0⟩
theorem m84_0 : F84.Ok d84_0 := F84.kl0 (by kernel_rfl) fun x => by kernel_rfl
noncomputable def l84_0 : F84.KL := ⟨_, m84_0⟩
noncomputable def spec_l01Long (n0 x1 : Int) : Option (ByteArray × Unit) := bif decide (n0 = n0) then bif decide (0 ≤ n0) then bif Nat.ble ((n0.toNat) * 1) lim then outK (loopV spec_l01Long_r0 (n0, x1, List.replicate (n0.toNat) (0, ()), 0, ())) (fun y1 => some (bytesOf y1.1, ())) (fun y2 => none) else none else none else none
theorem k84 : F84.Kn [⟨.tmp 4, false, [.str]⟩] 84 spec_l01Long := F84.kf [l84_0] Try.func84 (by kernel_rfl) (by kernel_rfl) fun x => by kernel_rfl
noncomputable def K84 := kw k84
noncomputable def F51 : FC Try.prog := ⟨TK_, [K34, K82, K83, K84], noD, Try.f51, [.box true po1]⟩
noncomputable def spec_l05AnyItem (c0c0 : L_ku8) (c0c1 c0c2 : Int) : Option (U5) := Option.bind (spec_l01Below c0c0 c0c1 c0c2 12) fun y1 => Option.bind (spec_l05Of y1.2.1 y1.2.2.1 y1.2.2.2.1 (i64.wrap (1 + y1.1))) fun y2 => Option.bind (spec_l01Below y2.2.2.2.2.1 y2.2.2.2.2.2.1 y2.2.2.2.2.2.2.1 16) fun y3 => bif decide (y3.1 = 0) then Option.bind (spec_l01PickInt y3.2.1 y3.2.2.1 y3.2.2.2.1 [(0, ()), ((-1), ()), (60, ()), (61, ())]) fun y4 => some (y4.1, y2.2.1, y2.2.2.1, y2.2.2.2.1, y4.2) else bif decide (y3.1 = 1) then Option.bind (spec_l01PickInt y3.2.1 y3.2.2.1 y3.2.2.2.1 [(0, ()), (5, ()), (6, ())]) fun y5 => some (y2.1, y5.1, y2.2.2.1, y2.2.2.2.1, y5.2) else bif decide (y3.1 = 2) then Option.bind (spec_l01PickInt y3.2.1 y3.2.2.1 y3.2.2.2.1 [(0, ()), (3, ())]) fun y6 => some (y2.1, y2.2.1, y6.1, y2.2.2.2.1, y6.2) else bif decide (y3.1 = 3) then Option.bind (spec_l01Below y3.2.1 y3.2.2.1 y3.2.2.2.1 2) fun y7 => Option.bind (spec_l01Long (i64.wrap (60 + y7.1)) 65) fun y8 => some (y2.1, y2.2.1, y2.2.2.1, y8.1, y7.2) else some (y2.1, y2.2.1, y2.2.2.1, y2.2.2.2.1, y3.2)
theorem k51 : F51.Kn [⟨.cell 2, true, po5⟩] 51 spec_l05AnyItem := F51.kf0 Try.func51 (by kernel_rfl) fun x => by kernel_rfl
noncomputable def K51 := kv (.own, .shr, .shr) k51
noncomputable def F108 : FC Try.prog := ⟨TK_, [K123, K34, K51, K83], noD, Try.f108, [.box true po1]⟩
noncomputable def spec_l05AnyItems (c0c0 : L_ku8) (c0c1 c0c2 : Int) : Option (U6) := Option.bind (spec_l05Items c0c0 c0c1 c0c2) fun y1 => Option.bind (spec_l01Below y1.2.1 y1.2.2.1 y1.2.2.2.1 16) fun y2 => bif decide (y2.1 = 0) then Option.bind (spec_l05AnyItem y2.2.1 y2.2.2.1 y2.2.2.2.1) fun y3 => bif Nat.ble (((List.length y1.1) + 1) * 40) lim then some (y1.1 ++ [(y3.1, y3.2.1, y3.2.2.1, y3.2.2.2.1, ())], y3.2.2.2.2) else none else bif decide (y2.1 = 1) then bif decide (0 < (y1.1.length : Int)) then Option.bind (spec_l01Below y2.2.1 y2.2.2.1 y2.2.2.2.1 (y1.1.length : Int)) fun y4 => Option.bind (spec_l01PickInt y4.2.1 y4.2.2.1 y4.2.2.2.1 [(0, ()), ((-1), ()), (3, ()), (61, ())]) fun y5 => bif decide (0 ≤ y4.1) then bif Nat.blt (y4.1.toNat) (List.length y1.1) then Option.bind ((y1.1)[y4.1.toNat]?) fun r6 => some (List.set y1.1 (y4.1.toNat) (y5.1, r6.2.1, r6.2.2.1, r6.2.2.2.1, ()), y5.2) else none else none else some (y1.1, y2.2) else some (y1.1, y2.2)
theorem k108 : F108.Kn [⟨.tmp 2, false, [.own T_iiis]⟩] 108 spec_l05AnyItems := F108.kf0 Try.func108 (by kernel_rfl) fun x => by kernel_rfl
noncomputable def K108 := kv (.own, .shr, .shr) k108
noncomputable def F92 : FC Try.prog := ⟨TK_, [K32, K34, K91, K83, K108], dr 3 (.a 0 (.t 1 (.a 2 (.t 3 (.a 4 (.t 5 (.alt (.l 6 (.o 7 (.l 8 .nil))) (.o 7 (.l 6 (.l 8 .nil)))))))))), Try.f92, [.box true po1]⟩
noncomputable def spec_l13AnyBundle (c0c0 : L_ku8) (c0c1 c0c2 : Int) : Option (U8) := Option.bind (spec_l09Ring c0c0 c0c1 c0c2) fun y1 => Option.bind (spec_l01Below y1.2.2.1 y1.2.2.2.1 y1.2.2.2.2.1 4) fun y2 => bif Nat.blt 0 (List.length y1.2.1) then Option.bind ((y1.2.1)[0]?) fun r3 => Option.bind (spec_l13Bundle y2.2.1 y2.2.2.1 y2.2.2.2.1 (i64.wrap (1 + y2.1)) y1.2.1 r3.1) fun y3o6 => Option.bind (spec_l01Below y3o6.2.2.2.2.1 y3o6.2.2.2.2.2.1 y3o6.2.2.2.2.2.2.1 20) fun y5 => bif decide (y5.1 = 0) then Option.bind (spec_l01PickInt y5.2.1 y5.2.2.1 y5.2.2.2.1 [(0, ()), (5, ()), (6, ())]) fun y6 => some (y6.1, y3o6.2.1, y3o6.2.2.1, y3o6.2.2.2.1, y6.2) else bif decide (y5.1 = 1) then Option.bind (spec_l01PickInt y5.2.1 y5.2.2.1 y5.2.2.2.1 [(0, ()), (9, ()), (10, ())]) fun y7 => some (y3o6.1, y7.1, y3o6.2.2.1, y3o6.2.2.2.1, y7.2) else bif decide (y5.1 = 2) then Option.bind (spec_l01PickInt y5.2.1 y5.2.2.1 y5.2.2.2.1 [((-1), ()), (0, ()), (y3o6.2.1, ())]) fun y8 => some (y3o6.1, y3o6.2.1, y8.1, y3o6.2.2.2.1, y8.2) else bif decide (y5.1 = 3) then Option.bind (spec_l05AnyItems y5.2.1 y5.2.2.1 y5.2.2.2.1) fun y9 => some (y3o6.1, y3o6.2.1, y3o6.2.2.1, y9) else some (y3o6.1, y3o6.2.1, y3o6.2.2.1, y3o6.2.2.2.1, y5.2) else none
noncomputable def spec_l13AnyBundle_o (c0c0 : L_ku8) (c0c1 c0c2 : Int) : Option (U8) := let u1 := fun (y2 : U1) (y1 : U7) (r3 : Int × Unit) => spec_l13Bundle y2.2.1 y2.2.2.1 y2.2.2.2.1 (i64.wrap (1 + y2.1)) y1.2.1 r3.1; Option.bind (spec_l09Ring c0c0 c0c1 c0c2) fun y1 => Option.bind (spec_l01Below y1.2.2.1 y1.2.2.2.1 y1.2.2.2.2.1 4) fun y2 => bif Nat.blt 0 (List.length y1.2.1) then Option.bind ((y1.2.1)[0]?) fun r3 => (fun K4 : (U8) → Option (U8) => both (Option.bind (u1 y2 y1 r3) fun y3o6 => K4 y3o6) (Option.bind (u1 y2 y1 r3) fun y3o6 => K4 y3o6)) (fun y3o6 => Option.bind (spec_l01Below y3o6.2.2.2.2.1 y3o6.2.2.2.2.2.1 y3o6.2.2.2.2.2.2.1 20) fun y5 => bif decide (y5.1 = 0) then Option.bind (spec_l01PickInt y5.2.1 y5.2.2.1 y5.2.2.2.1 [(0, ()), (5, ()), (6, ())]) fun y6 => some (y6.1, y3o6.2.1, y3o6.2.2.1, y3o6.2.2.2.1, y6.2) else bif decide (y5.1 = 1) then Option.bind (spec_l01PickInt y5.2.1 y5.2.2.1 y5.2.2.2.1 [(0, ()), (9, ()), (10, ())]) fun y7 => some (y3o6.1, y7.1, y3o6.2.2.1, y3o6.2.2.2.1, y7.2) else bif decide (y5.1 = 2) then Option.bind (spec_l01PickInt y5.2.1 y5.2.2.1 y5.2.2.2.1 [((-1), ()), (0, ()), (y3o6.2.1, ())]) fun y8 => some (y3o6.1, y3o6.2.1, y8.1, y3o6.2.2.2.1, y8.2) else bif decide (y5.1 = 3) then Option.bind (spec_l05AnyItems y5.2.1 y5.2.2.1 y5.2.2.2.1) fun y9 => some (y3o6.1, y3o6.2.1, y3o6.2.2.1, y9) else some (y3o6.1, y3o6.2.1, y3o6.2.2.1, y3o6.2.2.2.1, y5.2)) else none
theorem spec_l13AnyBundle_o_eq : spec_l13AnyBundle_o = spec_l13AnyBundle := by delta spec_l13AnyBundle_o spec_l13AnyBundle; simp only [both_self]
noncomputable def spec_l13AnyBundle_q (x : R_Lku8Eii) : Option (U8) := unc (headRT (F92.ps.map some)) spec_l13AnyBundle_o x
theorem spec_l13AnyBundle_q_eq : spec_l13AnyBundle_q = unc (headRT (F92.ps.map some)) spec_l13AnyBundle := congrArg (unc (headRT (F92.ps.map some))) spec_l13AnyBundle_o_eq
theorem k92 : F92.Kn [⟨.cell 2, true, po4⟩] 92 spec_l13AnyBundle := F92.kf0 Try.func92 (by kernel_rfl) fun x => Eq.trans (b := spec_l13AnyBundle_q x) (by kernel_rfl) (congrFun spec_l13AnyBundle_q_eq x)
noncomputable def K92 := kv (.own, .shr, .shr) k92
noncomputable def F58 : FC Try.prog := ⟨TK_, [K32, K34, K50, K91, K92], dr 8 (.a 0 (.a 1 (.t 2 (.a 3 (.t 4 (.a 5 (.a 6 (.t 7 (.l 8 (.o 9 (.l 10 (.a 11 .nil)))))))))))), Try.f58, [.box true po1]⟩
noncomputable def spec_l13Bundles_c0 (c0c0 : L_ku8) (c0c1 c0c2 t2c0 : Int) (t2c1 : L_i) (r4c0 : Int) (r4c1 : L_i) (list5 : L_iiiLiiisE) (i6 : Int) : Option (Sum U24 (Sum U25 Unit)) := bif decide (i6 < (r4c1.length : Int)) then Option.bind (spec_l01Once c0c0 c0c1 c0c2 8) fun y3 => bif !y3.1 then bif decide (0 ≤ i6) then Option.bind ((r4c1)[i6.toNat]?) fun r4 => Option.bind (spec_l13Bundle y3.2.1 y3.2.2.1 y3.2.2.2.1 r4c0 r4c1 r4.1) fun y5 => bif Nat.ble (((List.length list5) + 1) * 48) lim then Option.bind (spec_l01Once y5.2.2.2.2.1 y5.2.2.2.2.2.1 y5.2.2.2.2.2.2.1 8) fun y6 => bif y6.1 then Option.bind (spec_l13AnyBundle y6.2.1 y6.2.2.1 y6.2.2.2.1) fun y7 => bif Nat.ble (((List.length (list5 ++ [(y5.1, y5.2.1, y5.2.2.1, y5.2.2.2.1, ())])) + 1) * 48) lim then some (.inl (y7.2.2.2.2.1, y7.2.2.2.2.2.1, y7.2.2.2.2.2.2.1, t2c0, t2c1, r4c0, r4c1, (list5 ++ [(y5.1, y5.2.1, y5.2.2.1, y5.2.2.2.1, ())]) ++ [(y7.1, y7.2.1, y7.2.2.1, y7.2.2.2.1, ())], i64.wrap (i6 + 1), ())) else none else some (.inl (y6.2.1, y6.2.2.1, y6.2.2.2.1, t2c0, t2c1, r4c0, r4c1, list5 ++ [(y5.1, y5.2.1, y5.2.2.1, y5.2.2.2.1, ())], i64.wrap (i6 + 1), ())) else none else none else Option.bind (spec_l01Once y3.2.1 y3.2.2.1 y3.2.2.2.1 8) fun y8 => bif y8.1 then Option.bind (spec_l13AnyBundle y8.2.1 y8.2.2.1 y8.2.2.2.1) fun y9 => bif Nat.ble (((List.length list5) + 1) * 48) lim then some (.inl (y9.2.2.2.2.1, y9.2.2.2.2.2.1, y9.2.2.2.2.2.2.1, t2c0, t2c1, r4c0, r4c1, list5 ++ [(y9.1, y9.2.1, y9.2.2.1, y9.2.2.2.1, ())], i64.wrap (i6 + 1), ())) else none else some (.inl (y8.2.1, y8.2.2.1, y8.2.2.2.1, t2c0, t2c1, r4c0, r4c1, list5, i64.wrap (i6 + 1), ())) else some (.inr (.inl (c0c0, c0c1, c0c2, t2c0, t2c1, r4c0, r4c1, list5, ())))
noncomputable def spec_l13Bundles_r0 (x : U24) : Option (Sum U24 (Sum U25 Unit)) := spec_l13Bundles_c0 x.1 x.2.1 x.2.2.1 x.2.2.2.1 x.2.2.2.2.1 x.2.2.2.2.2.1 x.2.2.2.2.2.2.1 x.2.2.2.2.2.2.2.1 x.2.2.2.2.2.2.2.2.1
noncomputable def d58_0 : LD := ⟨0, F58.lp 0, sp [(0, .box true po1), (1, .box false po2), (1, .box false po3), (0, vl po6), (0, vl [.int .i64])] 38, sp [(0, .box true po1), (1, .box false po2), (1, .box false po3), (0, vl po6)] 39, sp [] 45, spec_l13Bundles_r0⟩
theorem m58_0 : F58.Ok d58_0 := F58.kl0 (by kernel_rfl) fun x => by kernel_rfl
noncomputable def l58_0 : F58.KL := ⟨_, m58_0⟩
noncomputable def spec_l13Bundles (c0c0 : L_ku8) (c0c1 c0c2 : Int) : Option (U10) := Option.bind (spec_l09Ring c0c0 c0c1 c0c2) fun y1 => Option.bind (spec_l01Below y1.2.2.1 y1.2.2.2.1 y1.2.2.2.2.1 3) fun y2 => outK (loopV spec_l13Bundles_r0 (y2.2.1, y2.2.2.1, y2.2.2.2.1, 0, [], i64.wrap (1 + y2.1), y1.2.1, [], 0, ())) (fun y3 => some (y3.2.2.2.2.2.1, y3.2.2.2.2.2.2.1, y3.2.2.2.2.2.2.2.1, y3.1, y3.2.1, y3.2.2.1, ())) (fun y4 => none)
theorem k58 : F58.Kn [⟨.cell 2, true, po3⟩, ⟨.tmp 3, false, po6⟩] 58 spec_l13Bundles := F58.kf [l58_0] Try.func58 (by kernel_rfl) (by kernel_rfl) fun x => by kernel_rfl
noncomputable def K58 := kv (.own, .shr, .shr) k58
noncomputable def F24 : FC Try.prog := ⟨TK_, [K33, K58], noD, Try.f24, [vl [.shr T_ku8]]⟩
noncomputable def spec_DrawTogether (code0 : L_ku8) : Option (U13) := Option.bind (spec_l01New code0) fun y1 => Option.bind (spec_l13Bundles y1.1 y1.2.1 y1.2.2.1) fun y2 => some (y2.1, y2.2.1, y2.2.2.1, ())
theorem k24 : F24.Kn [⟨.cell 2, true, po3⟩, ⟨.tmp 3, false, po6⟩] 24 spec_DrawTogether := F24.kf0 Try.func24 (by kernel_rfl) fun x => by kernel_rfl
noncomputable def K24 := kw k24
noncomputable def F46 : FC Try.prog := ⟨TK_, [], noD, Try.f46, [vl [.int .i64], vl [.int .i64], vl [.int .i64]]⟩
noncomputable def impl_inRange (n0 least1 most2 : Int) : Option (Bool × Unit) := bif decide (least1 ≤ n0) then some (decide (n0 ≤ most2), ()) else some (false, ())
theorem k46 : F46.Kn [⟨.tmp 6, false, [.bool]⟩] 46 impl_inRange := F46.kf0 Try.func46 (by kernel_rfl) fun x => by kernel_rfl
noncomputable def K46 := kw k46
noncomputable def F69 : FC Try.prog := ⟨TK_, [K46], noD, Try.f69, [vl [.int .i64]]⟩
noncomputable def impl_isDaemon (n0 : Int) : Option (Bool × Unit) := Option.bind (impl_inRange n0 1 5) fun y1 => some (y1.1, ())
theorem k69 : F69.Kn [⟨.tmp 2, false, [.bool]⟩] 69 impl_isDaemon := F69.kf0 Try.func69 (by kernel_rfl) fun x => by kernel_rfl
noncomputable def K69 := kw k69
noncomputable def F39 : FC Try.prog := ⟨TK_, [], noD, Try.f39, [vl [.int .i64]]⟩
noncomputable def impl_isLevel (n0 : Int) : Option (Bool × Unit) := bif decide (n0 = 1) then some (true, ()) else some (decide (n0 = 2), ())
theorem k39 : F39.Kn [⟨.tmp 2, false, [.bool]⟩] 39 impl_isLevel := F39.kf0 Try.func39 (by kernel_rfl) fun x => by kernel_rfl
noncomputable def K39 := kw k39
noncomputable def F79 : FC Try.prog := ⟨TK_, [K46, K69, K39], noD, Try.f79, [va po5]⟩
noncomputable def impl_ItemOk (m0c0 m0c1 m0c2 : Int) (m0c3 : ByteArray) : Option (Bool × Unit) := Option.bind (impl_inRange m0c0 1 60) fun y1 => bif y1.1 then Option.bind (impl_isDaemon m0c1) fun y2 => bif y2.1 then Option.bind (impl_isLevel m0c2) fun y3 => bif y3.1 then some (decide ((m0c3.size : Int) ≤ 60), ()) else some (false, ()) else some (false, ()) else some (false, ())
theorem k79 : F79.Kn [⟨.tmp 2, false, [.bool]⟩] 79 impl_ItemOk := F79.kf0 Try.func79 (by kernel_rfl) fun x => by kernel_rfl
noncomputable def K79 := kw k79
noncomputable def F44 : FC Try.prog := ⟨TK_, [K79], dr 4 (.t 0 (.o 1 (.a 2 (.a 3 (.a 4 (.a 5 (.a 6 (.a 7 (.t 8 (.a 9 (.a 10 (.a 11 (.a 12 (.a 13 (.t 14 (.a 15 (.a 16 (.a 17 .nil)))))))))))))))))), Try.f44, [vl [.shr T_iiis]]⟩
noncomputable def impl_ItemsOk_c0 (list0 t5 : L_iiis) (t6 t7 : Int) : Option (Sum U26 (Sum Unit (Bool × Unit))) := bif decide (t7 < t6) then bif decide (0 ≤ t7) then Option.bind ((t5)[t7.toNat]?) fun r1 => Option.bind (impl_ItemOk r1.1 r1.2.1 r1.2.2.1 r1.2.2.2.1) fun y2 => bif !y2.1 then some (.inr (.inr (false, ()))) else bif decide (0 < t7) then bif decide (0 ≤ i64.wrap (t7 - 1)) then Option.bind ((list0)[(i64.wrap (t7 - 1)).toNat]?) fun r3 => bif decide (r1.1 ≤ r3.1) then some (.inr (.inr (false, ()))) else some (.inl (list0, t5, t6, i64.wrap (t7 + 1), ())) else none else some (.inl (list0, t5, t6, i64.wrap (t7 + 1), ())) else none else some (.inr (.inl (())))
noncomputable def impl_ItemsOk_r0 (x : U26) : Option (Sum U26 (Sum Unit (Bool × Unit))) := impl_ItemsOk_c0 x.1 x.2.1 x.2.2.1 x.2.2.2.1
noncomputable def d44_0 : LD := ⟨0, F44.lp 0, sp [(0, vl [.shr T_iiis]), (4, vl [.shr T_iiis]), (0, vl [.int .i64]), (0, vl [.int .i64])] 24, sp [] 32, sp [(2, vl [.bool])] 29, impl_ItemsOk_r0⟩
theorem m44_0 : F44.Ok d44_0 := F44.kl0 (by kernel_rfl) fun x => by kernel_rfl
noncomputable def l44_0 : F44.KL := ⟨_, m44_0⟩
noncomputable def impl_ItemsOk (list0 : L_iiis) : Option (Bool × Unit) := outK (loopV impl_ItemsOk_r0 (list0, list0, (list0.length : Int), 0, ())) (fun y1 => some (true, ())) (fun y2 => some (y2.1, ()))
theorem k44 : F44.Kn [⟨.tmp 2, false, [.bool]⟩] 44 impl_ItemsOk := F44.kf [l44_0] Try.func44 (by kernel_rfl) (by kernel_rfl) fun x => by kernel_rfl
noncomputable def K44 := kw k44
noncomputable def F66 : FC Try.prog := ⟨TK_, [K69, K46, K44], noD, Try.f66, [va po7]⟩
noncomputable def impl_BundleOk (b0c0 b0c1 b0c2 : Int) (b0c3 : L_iiis) : Option (Bool × Unit) := Option.bind (impl_isDaemon b0c0) fun y1 => bif !y1.1 then some (false, ()) else Option.bind (impl_inRange b0c1 1 9) fun y2 => bif !y2.1 then some (false, ()) else Option.bind (impl_inRange b0c2 0 (i64.wrap (b0c1 - 1))) fun y3 => bif !y3.1 then some (false, ()) else Option.bind (impl_ItemsOk b0c3) fun y4 => bif y4.1 then bif decide (0 < b0c2) then some (true, ()) else some (decide ((b0c3.length : Int) = 0), ()) else some (false, ())
theorem k66 : F66.Kn [⟨.tmp 2, false, [.bool]⟩] 66 impl_BundleOk := F66.kf0 Try.func66 (by kernel_rfl) fun x => by kernel_rfl
noncomputable def K66 := kw k66
noncomputable def F59 : FC Try.prog := ⟨TK_, [K66], noD, Try.f59, [va po3, vl po8, vl [.int .i64]]⟩
noncomputable def impl_bundleOf_c0 (id2 r3c0 : Int) (r3c1 : L_i) (t6c0 t6c1 t6c2 : Int) (t6c3 : L_iiis) (t10 : L_iiiLiiisE) (t11 t12 : Int) : Option (Sum U27 (Sum R_iiiLiiisE U11)) := bif decide (t12 < t11) then bif decide (0 ≤ t12) then Option.bind ((t10)[t12.toNat]?) fun r1 => bif decide (r1.1 = id2) then bif decide (r1.2.1 = r3c0) then Option.bind (impl_BundleOk r1.1 r1.2.1 r1.2.2.1 r1.2.2.2.1) fun y2 => bif y2.1 then some (.inr (.inr (r1.1, r1.2.1, r1.2.2.1, r1.2.2.2.1, true, ()))) else some (.inl (id2, r3c0, r3c1, t6c0, t6c1, t6c2, t6c3, t10, t11, i64.wrap (t12 + 1), ())) else some (.inl (id2, r3c0, r3c1, t6c0, t6c1, t6c2, t6c3, t10, t11, i64.wrap (t12 + 1), ())) else some (.inl (id2, r3c0, r3c1, t6c0, t6c1, t6c2, t6c3, t10, t11, i64.wrap (t12 + 1), ())) else none else some (.inr (.inl (t6c0, t6c1, t6c2, t6c3, ())))
noncomputable def impl_bundleOf_r0 (x : U27) : Option (Sum U27 (Sum R_iiiLiiisE U11)) := impl_bundleOf_c0 x.1 x.2.1 x.2.2.1 x.2.2.2.1 x.2.2.2.2.1 x.2.2.2.2.2.1 x.2.2.2.2.2.2.1 x.2.2.2.2.2.2.2.1 x.2.2.2.2.2.2.2.2.1 x.2.2.2.2.2.2.2.2.2.1
noncomputable def d59_0 : LD := ⟨0, F59.lp 0, sp [(2, vl [.int .i64]), (0, .box false po3), (2, .box false po4), (3, vl po8), (0, vl [.int .i64]), (0, vl [.int .i64])] 22, sp [(6, .box false po4)] 28, sp [(6, .box false po7), (0, vl [.bool])] 27, impl_bundleOf_r0⟩
theorem m59_0 : F59.Ok d59_0 := F59.kl0 (by kernel_rfl) fun x => by kernel_rfl
noncomputable def l59_0 : F59.KL := ⟨_, m59_0⟩
noncomputable def impl_bundleOf (r0c0 : Int) (r0c1 : L_i) (list1 : L_iiiLiiisE) (id2 : Int) : Option (U11) := outK (loopV impl_bundleOf_r0 (id2, r0c0, r0c1, 0, 0, 0, [], list1, (list1.length : Int), 0, ())) (fun y1 => some (0, 0, 0, [], false, ())) (fun y2 => some y2)
theorem k59 : F59.Kn [⟨.cell 6, true, po7⟩, ⟨.tmp 7, false, [.bool]⟩] 59 impl_bundleOf := F59.kf [l59_0] Try.func59 (by kernel_rfl) (by kernel_rfl) fun x => by kernel_rfl
noncomputable def K59 := kw k59
noncomputable def F68 : FC Try.prog := ⟨TK_, [], noD, Try.f68, [vl [.shr T_i], vl [.int .i64]]⟩
noncomputable def slices_Index_int_c0 (s0 : L_i) (v1 t7 t8 : Int) : Option (Sum U28 (Sum Unit (Int × Unit))) := bif decide (t8 < t7) then bif decide (0 ≤ t8) then Option.bind ((s0)[t8.toNat]?) fun r1 => bif decide (v1 = r1.1) then some (.inr (.inr (t8, ()))) else some (.inl (s0, v1, t7, i64.wrap (t8 + 1), ())) else none else some (.inr (.inl (())))
noncomputable def slices_Index_int_r0 (x : U28) : Option (Sum U28 (Sum Unit (Int × Unit))) := slices_Index_int_c0 x.1 x.2.1 x.2.2.1 x.2.2.2.1
noncomputable def d68_0 : LD := ⟨0, F68.lp 0, sp [(0, vl [.shr T_i]), (0, vl [.int .i64]), (5, vl [.int .i64]), (0, vl [.int .i64])] 11, sp [] 20, sp [(4, vl [.int .i64])] 15, slices_Index_int_r0⟩
theorem m68_0 : F68.Ok d68_0 := F68.kl0 (by kernel_rfl) fun x => by kernel_rfl
noncomputable def l68_0 : F68.KL := ⟨_, m68_0⟩
noncomputable def slices_Index_int (s0 : L_i) (v1 : Int) : Option (Int × Unit) := outK (loopV slices_Index_int_r0 (s0, v1, (s0.length : Int), 0, ())) (fun y1 => some ((-1), ())) (fun y2 => some (y2.1, ()))
theorem k68 : F68.Kn [⟨.tmp 4, false, [.int .i64]⟩] 68 slices_Index_int := F68.kf [l68_0] Try.func68 (by kernel_rfl) (by kernel_rfl) fun x => by kernel_rfl
noncomputable def K68 := kw k68
noncomputable def F36 : FC Try.prog := ⟨TK_, [K68], noD, Try.f36, [vl [.shr T_i], vl [.int .i64]]⟩
noncomputable def slices_Contains_int (s0 : L_i) (v1 : Int) : Option (Bool × Unit) := Option.bind (slices_Index_int s0 v1) fun y1 => some (decide (0 ≤ y1.1), ())
theorem k36 : F36.Kn [⟨.tmp 4, false, [.bool]⟩] 36 slices_Contains_int := F36.kf0 Try.func36 (by kernel_rfl) fun x => by kernel_rfl
noncomputable def K36 := kw k36
noncomputable def F25 : FC Try.prog := ⟨TK_, [K59, K36], noD, Try.f25, [va po3, vl po8, vl [.int .i64]]⟩
noncomputable def impl_TogetherWith_c0 (list1 : L_iiiLiiisE) (id2 r3c0 : Int) (r3c1 : L_i) (own7c0 own7c1 own7c2 : Int) (own7c3 : L_iiis) (out9 t24 : L_i) (t25 t26 : Int) : Option (Sum U29 (Sum (L_i × Unit) Unit)) := bif decide (t26 < t25) then bif decide (0 ≤ t26) then Option.bind ((t24)[t26.toNat]?) fun r2 => Option.bind (impl_bundleOf r3c0 r3c1 list1 r2.1) fun y3 => bif y3.2.2.2.2.1 then Option.bind (slices_Contains_int out9 r2.1) fun y4 => bif !y4.1 then bif decide (r2.1 = id2) then bif Nat.ble (((List.length out9) + 1) * 8) lim then some (.inl (list1, id2, r3c0, r3c1, own7c0, own7c1, own7c2, own7c3, out9 ++ [(r2.1, ())], t24, t25, i64.wrap (t26 + 1), ())) else none else bif decide (0 < own7c2) then bif decide (y3.2.2.1 = own7c2) then bif Nat.ble (((List.length out9) + 1) * 8) lim then some (.inl (list1, id2, r3c0, r3c1, own7c0, own7c1, own7c2, own7c3, out9 ++ [(r2.1, ())], t24, t25, i64.wrap (t26 + 1), ())) else none else some (.inl (list1, id2, r3c0, r3c1, own7c0, own7c1, own7c2, own7c3, out9, t24, t25, i64.wrap (t26 + 1), ())) else some (.inl (list1, id2, r3c0, r3c1, own7c0, own7c1, own7c2, own7c3, out9, t24, t25, i64.wrap (t26 + 1), ())) else some (.inl (list1, id2, r3c0, r3c1, own7c0, own7c1, own7c2, own7c3, out9, t24, t25, i64.wrap (t26 + 1), ())) else some (.inl (list1, id2, r3c0, r3c1, own7c0, own7c1, own7c2, own7c3, out9, t24, t25, i64.wrap (t26 + 1), ())) else none else some (.inr (.inl (out9, ())))
noncomputable def impl_TogetherWith_r0 (x : U29) : Option (Sum U29 (Sum (L_i × Unit) Unit)) := impl_TogetherWith_c0 x.1 x.2.1 x.2.2.1 x.2.2.2.1 x.2.2.2.2.1 x.2.2.2.2.2.1 x.2.2.2.2.2.2.1 x.2.2.2.2.2.2.2.1 x.2.2.2.2.2.2.2.2.1 x.2.2.2.2.2.2.2.2.2.1 x.2.2.2.2.2.2.2.2.2.2.1 x.2.2.2.2.2.2.2.2.2.2.2.1
noncomputable def d25_0 : LD := ⟨0, F25.lp 0, sp [(1, vl po8), (0, vl [.int .i64]), (0, .box false po3), (3, .box false po7), (1, vl [.own T_i]), (14, vl [.shr T_i]), (0, vl [.int .i64]), (0, vl [.int .i64])] 41, sp [(9, vl [.own T_i])] 58, sp [] 68, impl_TogetherWith_r0⟩
theorem m25_0 : F25.Ok d25_0 := F25.kl0 (by kernel_rfl) fun x => by kernel_rfl
noncomputable def l25_0 : F25.KL := ⟨_, m25_0⟩
noncomputable def impl_TogetherWith (r0c0 : Int) (r0c1 : L_i) (list1 : L_iiiLiiisE) (id2 : Int) : Option (L_i × Unit) := Option.bind (impl_bundleOf r0c0 r0c1 list1 id2) fun y1 => bif !y1.2.2.2.2.1 then some ([], ()) else outK (loopV impl_TogetherWith_r0 (list1, id2, r0c0, r0c1, y1.1, y1.2.1, y1.2.2.1, y1.2.2.2.1, [], r0c1, (r0c1.length : Int), 0, ())) (fun y2 => some (y2.1, ())) (fun y3 => none)
theorem k25 : F25.Kn [⟨.tmp 6, false, [.own T_i]⟩] 25 impl_TogetherWith := F25.kf [l25_0] Try.func25 (by kernel_rfl) (by kernel_rfl) fun x => by kernel_rfl
noncomputable def K25 := kw k25
noncomputable def F53 : FC Try.prog := ⟨TK_, [], noD, Try.f53, [vl [.int .i64], vl [.int .i64], vl [.int .i64]]⟩
noncomputable def spec_l01In (x0 least1 most2 : Int) : Option (Bool × Unit) := bif decide (least1 ≤ x0) then some (decide (x0 ≤ most2), ()) else some (false, ())
theorem k53 : F53.Kn [⟨.tmp 6, false, [.bool]⟩] 53 spec_l01In := F53.kf0 Try.func53 (by kernel_rfl) fun x => by kernel_rfl
noncomputable def K53 := kw k53
noncomputable def F20 : FC Try.prog := ⟨TK_, [K53], noD, Try.f20, [va po5]⟩
noncomputable def spec_ItemOk (m0c0 m0c1 m0c2 : Int) (m0c3 : ByteArray) : Option (Bool × Unit) := Option.bind (spec_l01In m0c0 1 60) fun y1 => bif y1.1 then Option.bind (spec_l01In m0c1 1 5) fun y2 => bif y2.1 then Option.bind (spec_l01In m0c2 1 2) fun y3 => bif y3.1 then some (decide ((m0c3.size : Int) ≤ 60), ()) else some (false, ()) else some (false, ()) else some (false, ())
theorem k20 : F20.Kn [⟨.tmp 2, false, [.bool]⟩] 20 spec_ItemOk := F20.kf0 Try.func20 (by kernel_rfl) fun x => by kernel_rfl
noncomputable def K20 := kw k20
noncomputable def F87 : FC Try.prog := ⟨TK_, [K20], dr 4 (.a 0 (.a 1 (.a 2 (.t 3 (.o 4 (.a 5 (.a 6 (.a 7 (.a 8 (.a 9 (.a 10 (.a 11 (.a 12 (.a 13 (.a 14 (.t 15 (.a 16 (.a 17 (.a 18 (.a 19 (.t 20 (.a 21 (.a 22 (.a 23 .nil)))))))))))))))))))))))), Try.f87, [vl [.shr T_iiis]]⟩
noncomputable def spec_ItemsOk_c0 (list0 : L_iiis) (i3 : Int) : Option (Sum (L_iiis × Int × Unit) (Sum Unit (Bool × Unit))) := bif decide (i3 < (list0.length : Int)) then bif decide (0 ≤ i3) then Option.bind ((list0)[i3.toNat]?) fun r1 => Option.bind (spec_ItemOk r1.1 r1.2.1 r1.2.2.1 r1.2.2.2.1) fun y2 => bif !y2.1 then some (.inr (.inr (false, ()))) else bif decide (0 < i3) then bif decide (0 ≤ i64.wrap (i3 - 1)) then Option.bind ((list0)[(i64.wrap (i3 - 1)).toNat]?) fun r3 => bif decide (0 ≤ i3) then Option.bind ((list0)[i3.toNat]?) fun r4 => bif decide (r4.1 ≤ r3.1) then some (.inr (.inr (false, ()))) else some (.inl (list0, i64.wrap (i3 + 1), ())) else none else none else some (.inl (list0, i64.wrap (i3 + 1), ())) else none else some (.inr (.inl (())))
noncomputable def spec_ItemsOk_r0 (x : L_iiis × Int × Unit) : Option (Sum (L_iiis × Int × Unit) (Sum Unit (Bool × Unit))) := spec_ItemsOk_c0 x.1 x.2.1
noncomputable def d87_0 : LD := ⟨0, F87.lp 0, sp [(0, vl [.shr T_iiis]), (2, vl [.int .i64])] 31, sp [] 35, sp [(2, vl [.bool])] 32, spec_ItemsOk_r0⟩
theorem m87_0 : F87.Ok d87_0 := F87.kl0 (by kernel_rfl) fun x => by kernel_rfl
noncomputable def l87_0 : F87.KL := ⟨_, m87_0⟩
noncomputable def spec_ItemsOk (list0 : L_iiis) : Option (Bool × Unit) := outK (loopV spec_ItemsOk_r0 (list0, 0, ())) (fun y1 => some (true, ())) (fun y2 => some (y2.1, ()))
theorem k87 : F87.Kn [⟨.tmp 2, false, [.bool]⟩] 87 spec_ItemsOk := F87.kf [l87_0] Try.func87 (by kernel_rfl) (by kernel_rfl) fun x => by kernel_rfl
noncomputable def K87 := kw k87
noncomputable def F93 : FC Try.prog := ⟨TK_, [K53, K87], noD, Try.f93, [va po7]⟩
noncomputable def spec_BundleOk (b0c0 b0c1 b0c2 : Int) (b0c3 : L_iiis) : Option (Bool × Unit) := Option.bind (spec_l01In b0c0 1 5) fun y1 => bif y1.1 then Option.bind (spec_l01In b0c1 1 9) fun y2 => bif y2.1 then Option.bind (spec_l01In b0c2 0 (i64.wrap (b0c1 - 1))) fun y3 => bif y3.1 then Option.bind (spec_ItemsOk b0c3) fun y4 => bif y4.1 then bif decide (0 < b0c2) then some (true, ()) else some (decide ((b0c3.length : Int) = 0), ()) else some (false, ()) else some (false, ()) else some (false, ()) else some (false, ())
theorem k93 : F93.Kn [⟨.tmp 2, false, [.bool]⟩] 93 spec_BundleOk := F93.kf0 Try.func93 (by kernel_rfl) fun x => by kernel_rfl
noncomputable def K93 := kw k93
noncomputable def F60 : FC Try.prog := ⟨TK_, [K93], dr 4 (.a 0 (.a 1 (.a 2 (.a 3 (.t 4 (.a 5 (.a 6 (.a 7 (.a 8 (.a 9 (.a 10 (.a 11 (.t 12 (.a 13 (.t 14 (.a 15 (.a 16 (.a 17 (.a 18 (.a 19 (.a 20 (.t 21 (.o 22 (.a 23 .nil)))))))))))))))))))))))), Try.f60, [va po3, vl po8, vl [.int .i64]]⟩
noncomputable def spec_l13First_c0 (list1 : L_iiiLiiisE) (id2 r3c0 : Int) (r3c1 : L_i) (t6c0 t6c1 t6c2 : Int) (t6c3 : L_iiis) (i8 : Int) : Option (Sum U30 (Sum R_iiiLiiisE U11)) := bif decide (i8 < (list1.length : Int)) then bif decide (0 ≤ i8) then Option.bind ((list1)[i8.toNat]?) fun r1 => bif decide (r1.1 = id2) then bif decide (0 ≤ i8) then Option.bind ((list1)[i8.toNat]?) fun r2 => bif decide (r2.2.1 = r3c0) then bif decide (0 ≤ i8) then Option.bind ((list1)[i8.toNat]?) fun r3 => Option.bind (spec_BundleOk r3.1 r3.2.1 r3.2.2.1 r3.2.2.2.1) fun y4 => bif y4.1 then bif decide (0 ≤ i8) then Option.bind ((list1)[i8.toNat]?) fun r5 => some (.inr (.inr (r5.1, r5.2.1, r5.2.2.1, r5.2.2.2.1, true, ()))) else none else some (.inl (list1, id2, r3c0, r3c1, t6c0, t6c1, t6c2, t6c3, i64.wrap (i8 + 1), ())) else none else some (.inl (list1, id2, r3c0, r3c1, t6c0, t6c1, t6c2, t6c3, i64.wrap (i8 + 1), ())) else none else some (.inl (list1, id2, r3c0, r3c1, t6c0, t6c1, t6c2, t6c3, i64.wrap (i8 + 1), ())) else none else some (.inr (.inl (t6c0, t6c1, t6c2, t6c3, ())))
noncomputable def spec_l13First_r0 (x : U30) : Option (Sum U30 (Sum R_iiiLiiisE U11)) := spec_l13First_c0 x.1 x.2.1 x.2.2.1 x.2.2.2.1 x.2.2.2.2.1 x.2.2.2.2.2.1 x.2.2.2.2.2.2.1 x.2.2.2.2.2.2.2.1 x.2.2.2.2.2.2.2.2.1
noncomputable def d60_0 : LD := ⟨0, F60.lp 0, sp [(1, vl po8), (0, vl [.int .i64]), (0, .box false po3), (2, .box false po4), (1, vl [.int .i64])] 36, sp [(6, .box false po4)] 38, sp [(6, .box false po7), (0, vl [.bool])] 37, spec_l13First_r0⟩
theorem m60_0 : F60.Ok d60_0 := F60.kl0 (by kernel_rfl) fun x => by kernel_rfl
noncomputable def l60_0 : F60.KL := ⟨_, m60_0⟩
noncomputable def spec_l13First (r0c0 : Int) (r0c1 : L_i) (list1 : L_iiiLiiisE) (id2 : Int) : Option (U11) := outK (loopV spec_l13First_r0 (list1, id2, r0c0, r0c1, 0, 0, 0, [], 0, ())) (fun y1 => some (0, 0, 0, [], false, ())) (fun y2 => some y2)
theorem k60 : F60.Kn [⟨.cell 6, true, po7⟩, ⟨.tmp 7, false, [.bool]⟩] 60 spec_l13First := F60.kf [l60_0] Try.func60 (by kernel_rfl) (by kernel_rfl) fun x => by kernel_rfl
noncomputable def K60 := kw k60
noncomputable def F61 : FC Try.prog := ⟨TK_, [], noD, Try.f61, [vl [.shr T_i], vl [.int .i64]]⟩
noncomputable def spec_l05In_c0 (list0 : L_i) (x1 i5 : Int) : Option (Sum U31 (Sum Unit (Bool × Unit))) := bif decide (i5 < (list0.length : Int)) then bif decide (0 ≤ i5) then Option.bind ((list0)[i5.toNat]?) fun r1 => bif decide (r1.1 = x1) then some (.inr (.inr (true, ()))) else some (.inl (list0, x1, i64.wrap (i5 + 1), ())) else none else some (.inr (.inl (())))
noncomputable def spec_l05In_r0 (x : U31) : Option (Sum U31 (Sum Unit (Bool × Unit))) := spec_l05In_c0 x.1 x.2.1 x.2.2.1
noncomputable def d61_0 : LD := ⟨0, F61.lp 0, sp [(0, vl [.shr T_i]), (0, vl [.int .i64]), (3, vl [.int .i64])] 13, sp [] 19, sp [(4, vl [.bool])] 14, spec_l05In_r0⟩
theorem m61_0 : F61.Ok d61_0 := F61.kl0 (by kernel_rfl) fun x => by kernel_rfl
noncomputable def l61_0 : F61.KL := ⟨_, m61_0⟩
noncomputable def spec_l05In (list0 : L_i) (x1 : Int) : Option (Bool × Unit) := outK (loopV spec_l05In_r0 (list0, x1, 0, ())) (fun y1 => some (false, ())) (fun y2 => some (y2.1, ()))
theorem k61 : F61.Kn [⟨.tmp 4, false, [.bool]⟩] 61 spec_l05In := F61.kf [l61_0] Try.func61 (by kernel_rfl) (by kernel_rfl) fun x => by kernel_rfl
noncomputable def K61 := kw k61
noncomputable def F27 : FC Try.prog := ⟨TK_, [K60, K61], dr 8 (.t 0 (.a 1 (.a 2 (.t 3 (.a 4 (.a 5 (.t 6 (.alt (.o 7 (.a 8 (.a 9 (.a 10 (.o 11 (.l 12 (.a 13 .nil))))))) (.o 11 (.o 7 (.a 8 (.a 9 (.a 10 (.l 12 (.a 13 .nil))))))))))))))), Try.f27, [va po3, vl po8, vl [.int .i64]]⟩
noncomputable def spec_TogetherWith_c0 (list1 : L_iiiLiiisE) (id2 r3c0 : Int) (r3c1 out7 : L_i) (mine8c0 mine8c1 mine8c2 : Int) (mine8c3 : L_iiis) (i10 : Int) : Option (Sum U32 (Sum (L_i × Unit) Unit)) := bif decide (i10 < (r3c1.length : Int)) then bif decide (0 ≤ i10) then Option.bind ((r3c1)[i10.toNat]?) fun r2 => Option.bind (spec_l13First r3c0 r3c1 list1 r2.1) fun y2o7 => bif y2o7.2.2.2.2.1 then bif decide (y2o7.1 = id2) then Option.bind (spec_l05In out7 y2o7.1) fun y4 => bif !y4.1 then bif Nat.ble (((List.length out7) + 1) * 8) lim then some (.inl (list1, id2, r3c0, r3c1, out7 ++ [(y2o7.1, ())], mine8c0, mine8c1, mine8c2, mine8c3, i64.wrap (i10 + 1), ())) else none else some (.inl (list1, id2, r3c0, r3c1, out7, mine8c0, mine8c1, mine8c2, mine8c3, i64.wrap (i10 + 1), ())) else bif decide (y2o7.2.2.1 = mine8c2) then bif decide (0 < y2o7.2.2.1) then Option.bind (spec_l05In out7 y2o7.1) fun y5 => bif !y5.1 then bif Nat.ble (((List.length out7) + 1) * 8) lim then some (.inl (list1, id2, r3c0, r3c1, out7 ++ [(y2o7.1, ())], mine8c0, mine8c1, mine8c2, mine8c3, i64.wrap (i10 + 1), ())) else none else some (.inl (list1, id2, r3c0, r3c1, out7, mine8c0, mine8c1, mine8c2, mine8c3, i64.wrap (i10 + 1), ())) else some (.inl (list1, id2, r3c0, r3c1, out7, mine8c0, mine8c1, mine8c2, mine8c3, i64.wrap (i10 + 1), ())) else some (.inl (list1, id2, r3c0, r3c1, out7, mine8c0, mine8c1, mine8c2, mine8c3, i64.wrap (i10 + 1), ())) else some (.inl (list1, id2, r3c0, r3c1, out7, mine8c0, mine8c1, mine8c2, mine8c3, i64.wrap (i10 + 1), ())) else none else some (.inr (.inl (out7, ())))
noncomputable def spec_TogetherWith_o0 (list1 : L_iiiLiiisE) (id2 r3c0 : Int) (r3c1 out7 : L_i) (mine8c0 mine8c1 mine8c2 : Int) (mine8c3 : L_iiis) (i10 : Int) : Option (Sum U32 (Sum (L_i × Unit) Unit)) := bif decide (i10 < (r3c1.length : Int)) then bif decide (0 ≤ i10) then Option.bind ((r3c1)[i10.toNat]?) fun r2 => (fun K5 : (U11) → Option (Sum U32 (Sum (L_i × Unit) Unit)) => both (Option.bind (spec_l13First r3c0 r3c1 list1 r2.1) fun y2o7 => K5 y2o7) (Option.bind (spec_l13First r3c0 r3c1 list1 r2.1) fun y2o7 => K5 y2o7)) (fun y2o7 => bif y2o7.2.2.2.2.1 then bif decide (y2o7.1 = id2) then Option.bind (spec_l05In out7 y2o7.1) fun y4 => bif !y4.1 then bif Nat.ble (((List.length out7) + 1) * 8) lim then some (.inl (list1, id2, r3c0, r3c1, out7 ++ [(y2o7.1, ())], mine8c0, mine8c1, mine8c2, mine8c3, i64.wrap (i10 + 1), ())) else none else some (.inl (list1, id2, r3c0, r3c1, out7, mine8c0, mine8c1, mine8c2, mine8c3, i64.wrap (i10 + 1), ())) else bif decide (y2o7.2.2.1 = mine8c2) then bif decide (0 < y2o7.2.2.1) then Option.bind (spec_l05In out7 y2o7.1) fun y5 => bif !y5.1 then bif Nat.ble (((List.length out7) + 1) * 8) lim then some (.inl (list1, id2, r3c0, r3c1, out7 ++ [(y2o7.1, ())], mine8c0, mine8c1, mine8c2, mine8c3, i64.wrap (i10 + 1), ())) else none else some (.inl (list1, id2, r3c0, r3c1, out7, mine8c0, mine8c1, mine8c2, mine8c3, i64.wrap (i10 + 1), ())) else some (.inl (list1, id2, r3c0, r3c1, out7, mine8c0, mine8c1, mine8c2, mine8c3, i64.wrap (i10 + 1), ())) else some (.inl (list1, id2, r3c0, r3c1, out7, mine8c0, mine8c1, mine8c2, mine8c3, i64.wrap (i10 + 1), ())) else some (.inl (list1, id2, r3c0, r3c1, out7, mine8c0, mine8c1, mine8c2, mine8c3, i64.wrap (i10 + 1), ()))) else none else some (.inr (.inl (out7, ())))
theorem spec_TogetherWith_o0_eq : spec_TogetherWith_o0 = spec_TogetherWith_c0 := by delta spec_TogetherWith_o0 spec_TogetherWith_c0; simp only [both_self]
noncomputable def spec_TogetherWith_r0 (x : U32) : Option (Sum U32 (Sum (L_i × Unit) Unit)) := spec_TogetherWith_c0 x.1 x.2.1 x.2.2.1 x.2.2.2.1 x.2.2.2.2.1 x.2.2.2.2.2.1 x.2.2.2.2.2.2.1 x.2.2.2.2.2.2.2.1 x.2.2.2.2.2.2.2.2.1 x.2.2.2.2.2.2.2.2.2.1
def hp27_0 : List (Option AP) := sp [(1, vl po8), (0, vl [.int .i64]), (0, .box false po3), (3, vl [.own T_i]), (0, .box false po7), (1, vl [.int .i64])] 64
noncomputable def spec_TogetherWith_q0 (x : U32) : Option (Sum U32 (Sum (L_i × Unit) Unit)) := unc (headRT hp27_0) spec_TogetherWith_o0 x
theorem spec_TogetherWith_q0_eq : spec_TogetherWith_q0 = spec_TogetherWith_r0 := congrArg (unc (headRT hp27_0)) spec_TogetherWith_o0_eq
noncomputable def d27_0 : LD := ⟨0, F27.lp 0, hp27_0, sp [(7, vl [.own T_i])] 67, sp [] 75, spec_TogetherWith_r0⟩
theorem m27_0 : F27.Ok d27_0 := F27.kl0 (l := d27_0) (by kernel_rfl) fun x => Eq.trans (b := spec_TogetherWith_q0 x) (by kernel_rfl) (congrFun spec_TogetherWith_q0_eq x)
noncomputable def l27_0 : F27.KL := ⟨_, m27_0⟩
noncomputable def spec_TogetherWith (r0c0 : Int) (r0c1 : L_i) (list1 : L_iiiLiiisE) (id2 : Int) : Option (L_i × Unit) := Option.bind (spec_l13First r0c0 r0c1 list1 id2) fun y1 => bif !y1.2.2.2.2.1 then some ([], ()) else outK (loopV spec_TogetherWith_r0 (list1, id2, r0c0, r0c1, [], y1.1, y1.2.1, y1.2.2.1, y1.2.2.2.1, 0, ())) (fun y2 => some (y2.1, ())) (fun y3 => none)
theorem k27 : F27.Kn [⟨.tmp 6, false, [.own T_i]⟩] 27 spec_TogetherWith := F27.kf [l27_0] Try.func27 (by kernel_rfl) (by kernel_rfl) fun x => by kernel_rfl
noncomputable def K27 := kw k27
noncomputable def F26 : FC Try.prog := ⟨TK_, [], dr 6 (.a 0 (.a 1 (.a 2 (.t 3 (.a 4 (.a 5 (.a 6 (.t 7 (.a 8 .nil))))))))), Try.f26, [vl [.shr T_i], vl [.shr T_i]]⟩
noncomputable def laws_sameInts_c0 (a0 b1 : L_i) (i5 : Int) : Option (Sum U33 (Sum Unit (Bool × Unit))) := bif decide (i5 < (a0.length : Int)) then bif decide (0 ≤ i5) then Option.bind ((a0)[i5.toNat]?) fun r1 => bif decide (0 ≤ i5) then Option.bind ((b1)[i5.toNat]?) fun r2 => bif !decide (r1.1 = r2.1) then some (.inr (.inr (false, ()))) else some (.inl (a0, b1, i64.wrap (i5 + 1), ())) else none else none else some (.inr (.inl (())))
noncomputable def laws_sameInts_r0 (x : U33) : Option (Sum U33 (Sum Unit (Bool × Unit))) := laws_sameInts_c0 x.1 x.2.1 x.2.2.1
noncomputable def d26_0 : LD := ⟨0, F26.lp 0, sp [(0, vl [.shr T_i]), (0, vl [.shr T_i]), (3, vl [.int .i64])] 21, sp [] 27, sp [(4, vl [.bool])] 22, laws_sameInts_r0⟩
theorem m26_0 : F26.Ok d26_0 := F26.kl0 (by kernel_rfl) fun x => by kernel_rfl
noncomputable def l26_0 : F26.KL := ⟨_, m26_0⟩
noncomputable def laws_sameInts (a0 b1 : L_i) : Option (Bool × Unit) := bif !decide ((a0.length : Int) = (b1.length : Int)) then some (false, ()) else outK (loopV laws_sameInts_r0 (a0, b1, 0, ())) (fun y1 => some (true, ())) (fun y2 => some (y2.1, ()))
theorem k26 : F26.Kn [⟨.tmp 4, false, [.bool]⟩] 26 laws_sameInts := F26.kf [l26_0] Try.func26 (by kernel_rfl) (by kernel_rfl) fun x => by kernel_rfl
noncomputable def K26 := kw k26
noncomputable def F28 : FC Try.prog := ⟨TK_, [], dr 4 (.a 0 (.a 1 (.a 2 (.a 3 (.t 4 (.a 5 (.a 6 (.a 7 (.t 8 (.a 9 .nil)))))))))), Try.f28, [vl [.shr T_i]]⟩
noncomputable def laws_rises_c0 (list0 : L_i) (i3 : Int) : Option (Sum (L_i × Int × Unit) (Sum Unit (Bool × Unit))) := bif decide (i3 < (list0.length : Int)) then bif decide (0 ≤ i64.wrap (i3 - 1)) then Option.bind ((list0)[(i64.wrap (i3 - 1)).toNat]?) fun r1 => bif decide (0 ≤ i3) then Option.bind ((list0)[i3.toNat]?) fun r2 => bif decide (r2.1 ≤ r1.1) then some (.inr (.inr (false, ()))) else some (.inl (list0, i64.wrap (i3 + 1), ())) else none else none else some (.inr (.inl (())))
noncomputable def laws_rises_r0 (x : L_i × Int × Unit) : Option (Sum (L_i × Int × Unit) (Sum Unit (Bool × Unit))) := laws_rises_c0 x.1 x.2.1
noncomputable def d28_0 : LD := ⟨0, F28.lp 0, sp [(0, vl [.shr T_i]), (2, vl [.int .i64])] 17, sp [] 21, sp [(2, vl [.bool])] 18, laws_rises_r0⟩
theorem m28_0 : F28.Ok d28_0 := F28.kl0 (by kernel_rfl) fun x => by kernel_rfl
noncomputable def l28_0 : F28.KL := ⟨_, m28_0⟩
noncomputable def laws_rises (list0 : L_i) : Option (Bool × Unit) := outK (loopV laws_rises_r0 (list0, 1, ())) (fun y1 => some (true, ())) (fun y2 => some (y2.1, ()))
theorem k28 : F28.Kn [⟨.tmp 2, false, [.bool]⟩] 28 laws_rises := F28.kf [l28_0] Try.func28 (by kernel_rfl) (by kernel_rfl) fun x => by kernel_rfl
noncomputable def K28 := kw k28
set_option maxHeartbeats 4000000 in
set_option maxRecDepth 100000 in
theorem ins_shift (b off n c i vb voff vc : Nat) (cs vs : List Value) (w : World) (hi : i < n) (hroom : n + 1 ≤ c) (hn63 : n ≤ 140737488355328) (hvb : vb ≠ b)
    (hcl : cs.length = n * 4) (hvl : vs.length = 4)
    (hcs : ∀ j v, cs[j]? = some v → w.cell? ⟨b, off + j, none⟩ = some v) (hsp : ∀ j, j < (n + 1) * 4 → (w.cell? ⟨b, off + j, none⟩).isSome = true) (hfz : ∀ j, j < (n + 1) * 4 → w.frozen? ⟨b, off + j, none⟩ = false)
    (hvs : ∀ j v, vs[j]? = some v → w.cell? ⟨vb, voff + j, none⟩ = some v) (h1c : ∀ v ∈ cs, v.oneCell' = true) (h1v : ∀ v ∈ vs, v.oneCell' = true)
    (tA tB : TypeId) (kA kB : Nat) (hsa : w.shape? vb = some (tA, kA)) (hsb : w.shape? b = some (tB, kB)) (hkB : kB ≠ 0) (hfa : w.frozen? ⟨vb, voff, none⟩ = false) (hfe : w.frozen? ⟨vb, kA, none⟩ = false) :
    Calls Try.prog 95 #[.slice (some ⟨b, off, none⟩) n c, .int .i64 i, .slice (some ⟨vb, voff, none⟩) 1 vc] w fun e w' =>
      e = .returned (.slice (some ⟨b, off, none⟩) (n + 1) c) ∧ w' = (w.drew.setCells b (off + (i + 1) * 4) (cs.drop (i * 4))).setCells b (off + i * 4) vs := by
  have mixed : Try.prog.follows .mixedOrders = true := by kernel_rfl
  have hz2 : ¬ ((i : Int) = (n : Int)) := by omega
  have hsz : (Try.prog.info? 42).map (·.size) = some 4 := by kernel_rfl
  have hov : ∀ lb cb, (callFunc 109 #[.slice (some ⟨vb, voff, none⟩) 1 vc, .slice (some ⟨b, off + (i + 1) * 4, none⟩) lb cb]).run Try.prog w = .ok (.value (.bool false)) w := fun lb cb => by
    rw [run_callFunc_extern Try.func109 (by kernel_rfl) (by kernel_rfl) (by kernel_rfl) (e := Extern.SlicesOverlaps.overlaps #[30, 30] #[4]) (by kernel_rfl),
      Lib.run_overlaps_apart w 30 4 42 Try.underlying30 4 Try.sizeOf42 ⟨vb, voff, none⟩ ⟨b, off + (i + 1) * 4, none⟩ 1 vc lb cb hvb tA tB kA kB hsa hsb hkB hfa hfe]
    rfl
  have hdl : (cs.drop (i * 4)).length = (n - i) * 4 := by rw [List.length_drop, hcl]; omega
  have hw1 : IntKind.i64.wrap ((i : Int) + (1 : Int)) = (i : Int) + (1 : Int) := by rw [IntKind.wrap_i64]; omega
  have hb1 : (0 : Int) ≤ (i : Int) + (1 : Int) := by omega
  have hin : i ≤ n := by omega
  have htn : ((i : Int) + (1 : Int)).toNat = i + 1 := by omega
  have hb2 : ¬ (c = i + 1) := by omega
  have hb3 : (i : Int) ≤ (n : Int) + (1 : Int) := by omega
  have hb4 : ¬ (c = i) := by omega
  have hcp1 : ∀ ty dc sc, (Builtin.copy_ #[30, 30] ty #[.slice (some ⟨b, off + (i + 1) * 4, none⟩) (n - i) dc, .slice (some ⟨b, off + i * 4, none⟩) (n + 1 - i) sc]).run Try.prog w.drew = .ok (goInt (Nat.min (n + 1 - i) (n - i))) (w.drew.setCells b (off + (i + 1) * 4) (cs.drop (i * 4))) := fun ty dc sc =>
    run_copy_wide w.drew _ _ ty 42 4 b (off + (i + 1) * 4) (n - i) dc ⟨b, off + i * 4, none⟩ (n + 1 - i) sc (cs.drop (i * 4)) Try.underlying30 hsz (by rw [hdl]; simp only [Nat.min_def]; split <;> omega)
      (fun j v hj => by rw [Addr.add_lit, Nat.add_assoc]; exact hcs (i * 4 + j) v (by rwa [List.getElem?_drop] at hj))
      (fun j hj => by rw [Nat.add_assoc]; exact hsp _ (by omega)) (fun j hj => by rw [Nat.add_assoc]; exact hfz _ (by omega)) (fun v hv => h1c v (List.mem_of_mem_drop hv))
  obtain ⟨W1, hW1⟩ : ∃ W1, W1 = w.drew.setCells b (off + (i + 1) * 4) (cs.drop (i * 4)) := ⟨_, rfl⟩; have hsp1 : ∀ k, k < (n + 1) * 4 → (W1.cell? ⟨b, off + k, none⟩).isSome = true := fun k hk => by
    rw [hW1]; exact isSome_setCells b _ _ _ (fun j hj => by rw [Nat.add_assoc]; exact hsp _ (by omega)) _ (hsp k hk)
  have hcp2 : ∀ (W : World), (∀ x, W.cell? x = W1.cell? x) → (∀ x, W.frozen? x = W1.frozen? x) → ∀ ty dc, (Builtin.copy_ #[30, 30] ty #[.slice (some ⟨b, off + i * 4, none⟩) (n + 1 - i) dc, .slice (some ⟨vb, voff, none⟩) 1 vc]).run Try.prog W = .ok (goInt (Nat.min 1 (n + 1 - i))) (W.setCells b (off + i * 4) vs) := fun W hWc hWf ty dc =>
    run_copy_wide W _ _ ty 42 4 b (off + i * 4) (n + 1 - i) dc ⟨vb, voff, none⟩ 1 vc vs Try.underlying30 hsz (by rw [hvl]; simp only [Nat.min_def]; split <;> omega)
      (fun j v hj => by
        rw [Addr.add_lit, hWc, hW1, World.cell?_setCells_out b _ _ _ _ (fun h _ => absurd h hvb)]; exact hvs j v hj)
      (fun j hj => by rw [hWc, Nat.add_assoc]; exact hsp1 _ (by omega)) (fun j hj => by rw [hWf, hW1, World.frozen?_setCells, Nat.add_assoc]; exact hfz _ (by omega)) h1v
  rw [← hW1] at hcp1
  go_enter Try.func95, Try.ntmps95
  go_wp2_with (simp only [hov])
  go_region_law_o (refine step_copy_runI rfl _ _ 30 30 rfl _ _ (by simp [Act.eval, Act.put]) (by simp [Act.eval, Act.put]) (hcp1 _ _ _) ?_)
  go_wp2_with (at_builtin; refine wpList_copy_runI _ rfl _ _ 30 30 rfl _ _ rfl rfl (hcp2 _ (fun _ => rfl) (fun _ => rfl) _ _) ?_)
  go_ret
  first | exact ⟨rfl, rfl⟩ | exact ⟨rfl, by rw [hW1]⟩
set_option maxHeartbeats 4000000 in
set_option maxRecDepth 100000 in
theorem ins_grow (b off n c i vb voff vc : Nat) (cs vs : List Value) (w : World) (hi : i < n) (hnc : n ≤ c) (hroom : c < n + 1) (hbig : (n + 1) * 40 ≤ 140737488355328)
    (hcl : cs.length = n * 4) (hvl : vs.length = 4)
    (hcs : ∀ j v, cs[j]? = some v → w.cell? ⟨b, off + j, none⟩ = some v)
    (hvs : ∀ j v, vs[j]? = some v → w.cell? ⟨vb, voff + j, none⟩ = some v) (h1c : ∀ v ∈ cs, v.oneCell' = true) (h1v : ∀ v ∈ vs, v.oneCell' = true) :
    ∃ (ROW : Array Value) (G : Nat), n + 1 ≤ G ∧ ROW.size = G * 4 ∧ (∀ (j : Nat) (v : Value), (cs.take (i * 4))[j]? = some v → ROW[j]? = some v) ∧
    Calls Try.prog 95 #[.slice (some ⟨b, off, none⟩) n c, .int .i64 i, .slice (some ⟨vb, voff, none⟩) 1 vc] w fun e w' =>
      e = .returned (.slice (some ⟨w.heap.size, 0, none⟩) (n + 1) G) ∧
      w' = (((w.alloc (.cells ROW 42)).drew.setCells w.heap.size (i * 4) vs).drew).setCells w.heap.size ((i + 1) * 4) (cs.drop (i * 4)) := by
  have mixed : Try.prog.follows .mixedOrders = true := by kernel_rfl
  obtain ⟨i0, hi0, hz0, hzs, hzb⟩ : ∃ i0, Try.prog.info? 42 = some i0 ∧ i0.zero = some (Value.agg #[Value.int .i64 0, Value.int .i64 0, Value.int .i64 0, Value.string ⟨#[]⟩]) ∧ i0.size = 4 ∧ i0.bytes = 40 := ⟨_, rfl, by kernel_rfl, by kernel_rfl, by kernel_rfl⟩; have hz2 : ¬ ((i : Int) = (n : Int)) := by omega
  have hz3 : (c : Int) < (n : Int) + (1 : Int) := by omega
  have hsz : (Try.prog.info? 42).map (·.size) = some 4 := by rw [hi0]; simp [hzs]
  have hbw : b < w.heap.size := block_lt_of_cell (hcs 0 _ (List.getElem?_eq_getElem (by omega))); have hvw : vb < w.heap.size := block_lt_of_cell (hvs 0 _ (List.getElem?_eq_getElem (by omega))); have hkk : (n : Int) + (1 : Int) - (i : Int) = ((n + 1 - i : Nat) : Int) := by omega
  have hik : i + (n + 1 - i) = n + 1 := by omega
  have hold : (Builtin.firstCells i0.size i (.slice (some ⟨b, off, none⟩) i c)).run Try.prog w.drew = .ok (cs.take (i * 4)).toArray w.drew := by
    rw [hzs]; exact run_firstCells_some w.drew 4 i ⟨b, off, none⟩ i c (cs.take (i * 4)) (by rw [List.length_take]; omega) (fun j v hj => by
      rw [Addr.add_lit]; rw [List.getElem?_take] at hj
      split at hj
      · exact hcs j v hj
      · cases hj)
  have hrz : ∀ ty, (Builtin.append_ #[30, 3] ty #[.slice (some ⟨b, off, none⟩) i c, .int .i64 ((n : Int) + (1 : Int) - (i : Int))]).run Try.prog w =
      .ok (.slice (some ⟨w.heap.size, 0, none⟩) (n + 1) (grownCap w (n + 1) c 42)) (w.drew.alloc (.cells ((cs.take (i * 4)).toArray ++ Builtin.zeroCells (Value.agg #[Value.int .i64 0, Value.int .i64 0, Value.int .i64 0, Value.string ⟨#[]⟩]).cells (n + 1 - i) ++ Builtin.zeroCells (Value.agg #[Value.int .i64 0, Value.int .i64 0, Value.int .i64 0, Value.string ⟨#[]⟩]).cells (grownCap w (n + 1) c 42 - (n + 1))) 42)) := fun ty => by
    have h := Lib.run_append_grow_zeros w 30 3 ty 42 i0 _ .i64 .i64 Try.underlying30 Try.underlying3 hi0 hz0 (some ⟨b, off, none⟩) i c (cs.take (i * 4)) hold (n + 1 - i) (by omega) (by omega) (by omega) (by omega) (by rw [hzb]; omega) (by rw [hzb, hik]; exact growslice_fits hroom hbig); rw [hik] at h; rw [hkk]; exact h
  obtain ⟨G, hG⟩ : ∃ G, G = grownCap w (n + 1) c 42 := ⟨_, rfl⟩; obtain ⟨ROW, hROW⟩ : ∃ ROW : Array Value, ROW = (cs.take (i * 4)).toArray ++ Builtin.zeroCells (Value.agg #[Value.int .i64 0, Value.int .i64 0, Value.int .i64 0, Value.string ⟨#[]⟩]).cells (n + 1 - i) ++ Builtin.zeroCells (Value.agg #[Value.int .i64 0, Value.int .i64 0, Value.int .i64 0, Value.string ⟨#[]⟩]).cells (G - (n + 1)) := ⟨_, rfl⟩; rw [← hG] at hrz; rw [← hROW] at hrz; have hGn : n + 1 ≤ G := by rw [hG]; exact grownCap_ge w _ _ _
  have hRs : ROW.size = G * 4 := by
    rw [hROW]; simp [Builtin.zeroCells, Value.cells]; omega
  have hRl : (n + 1) * 4 ≤ ROW.size := by omega
  have hRt : ∀ (j : Nat) (v : Value), (cs.take (i * 4))[j]? = some v → ROW[j]? = some v := fun j v hj => by
    have hlt : j < (cs.take (i * 4)).length := (List.getElem?_eq_some_iff.1 hj).1; rw [hROW, Array.append_assoc, Array.getElem?_append_left (by simpa using hlt)]; simpa using hj
  refine ⟨ROW, G, hGn, hRs, hRt, ?_⟩; obtain ⟨W1, hW1⟩ : ∃ W1, W1 = w.drew.alloc (.cells ROW 42) := ⟨_, rfl⟩; rw [← hW1] at hrz; have hN : ∀ j, j < (n + 1) * 4 → (W1.cell? ⟨w.heap.size, j, none⟩).isSome = true := fun j hj => by
    rw [hW1, World.cell?_alloc_at (w := w.drew) ROW _ w.heap.size j rfl, Array.getElem?_eq_getElem (by omega)]; rfl
  have hNf : ∀ j, W1.frozen? ⟨w.heap.size, j, none⟩ = false := fun j => by rw [hW1]; exact World.frozen?_alloc_at (w := w.drew) ROW _ w.heap.size j rfl
  have hOb : ∀ j v, w.cell? ⟨b, j, none⟩ = some v → W1.cell? ⟨b, j, none⟩ = some v := fun j v h => by rw [hW1, World.cell?_alloc_past (w := w.drew) _ b j hbw]; exact h
  have hOv : ∀ j v, w.cell? ⟨vb, j, none⟩ = some v → W1.cell? ⟨vb, j, none⟩ = some v := fun j v h => by rw [hW1, World.cell?_alloc_past (w := w.drew) _ vb j hvw]; exact h
  have hcpA : ∀ (W : World), (∀ x, W.cell? x = W1.cell? x) → (∀ x, W.frozen? x = W1.frozen? x) → ∀ ty dc, (Builtin.copy_ #[30, 30] ty #[.slice (some ⟨w.heap.size, i * 4, none⟩) (n + 1 - i) dc, .slice (some ⟨vb, voff, none⟩) 1 vc]).run Try.prog W = .ok (goInt (Nat.min 1 (n + 1 - i))) (W.setCells w.heap.size (i * 4) vs) := fun W hWc hWf ty dc =>
    run_copy_wide W _ _ ty 42 4 w.heap.size (i * 4) (n + 1 - i) dc ⟨vb, voff, none⟩ 1 vc vs Try.underlying30 hsz (by rw [hvl]; simp only [Nat.min_def]; split <;> omega)
      (fun j v hj => by rw [Addr.add_lit, hWc]; exact hOv _ v (hvs j v hj))
      (fun j hj => by rw [hWc]; exact hN _ (by omega)) (fun j hj => by rw [hWf]; exact hNf _) h1v
  have hG63 : G ≤ 9223372036854775807 := by
    have := grownCap_le_maxLen w (n + 1) c 42 (by unfold maxLen; omega); rw [← hG] at this; unfold maxLen at this; omega
  have hGi : ¬ (G = i) := by omega
  have hGim : ¬ (G = i + 1) := by omega
  have hci : ¬ (c = i) := by omega
  have hbN : b ≠ w.heap.size := by omega
  have hdl : (cs.drop (i * 4)).length = (n - i) * 4 := by rw [List.length_drop, hcl]; omega
  have hcpB : ∀ (W : World), (∀ x, W.cell? x = (W1.setCells w.heap.size (i * 4) vs).cell? x) → (∀ x, W.frozen? x = (W1.setCells w.heap.size (i * 4) vs).frozen? x) → ∀ ty dc sc, (Builtin.copy_ #[30, 30] ty #[.slice (some ⟨w.heap.size, (i + 1) * 4, none⟩) (n - i) dc, .slice (some ⟨b, off + i * 4, none⟩) (n - i) sc]).run Try.prog W = .ok (goInt (Nat.min (n - i) (n - i))) (W.setCells w.heap.size ((i + 1) * 4) (cs.drop (i * 4))) := fun W hWc hWf ty dc sc =>
    run_copy_wide W _ _ ty 42 4 w.heap.size ((i + 1) * 4) (n - i) dc ⟨b, off + i * 4, none⟩ (n - i) sc (cs.drop (i * 4)) Try.underlying30 hsz (by rw [hdl]; simp only [Nat.min_def]; split <;> omega)
      (fun j v hj => by
        rw [Addr.add_lit, hWc, World.cell?_setCells_out _ _ _ _ _ (fun h _ => absurd h hbN), Nat.add_assoc]; exact hOb _ v (hcs (i * 4 + j) v (by rwa [List.getElem?_drop] at hj)))
      (fun j hj => by rw [hWc]; exact isSome_setCells _ _ _ _ (fun t ht => hN _ (by omega)) _ (hN _ (by omega)))
      (fun j hj => by rw [hWf, World.frozen?_setCells]; exact hNf _) (fun v hv => h1c v (List.mem_of_mem_drop hv))
  subst hW1; have hE1 : ∀ x, ((w.alloc (.cells ROW 42)).drew).cell? x = (w.drew.alloc (.cells ROW 42)).cell? x := fun x => rfl
  have hE2 : ∀ x, ((w.alloc (.cells ROW 42)).drew).frozen? x = (w.drew.alloc (.cells ROW 42)).frozen? x := fun x => rfl
  have hF1 : ∀ x, (((w.alloc (.cells ROW 42)).drew.setCells w.heap.size (i * 4) vs).drew).cell? x = ((w.drew.alloc (.cells ROW 42)).setCells w.heap.size (i * 4) vs).cell? x := fun x => rfl
  have hF2 : ∀ x, (((w.alloc (.cells ROW 42)).drew.setCells w.heap.size (i * 4) vs).drew).frozen? x = ((w.drew.alloc (.cells ROW 42)).setCells w.heap.size (i * 4) vs).frozen? x := fun x => rfl
  have hw1 : IntKind.i64.wrap ((i : Int) + (1 : Int)) = (i : Int) + (1 : Int) := by rw [IntKind.wrap_i64]; omega
  have hb1 : (0 : Int) ≤ (i : Int) + (1 : Int) := by omega
  have hin : i ≤ n := by omega
  have htn : ((i : Int) + (1 : Int)).toNat = i + 1 := by omega
  have hb3 : (i : Int) ≤ (n : Int) := by omega
  clear hkk hik hold hROW hG hRl hi0 hz0 hzs hzb hRt
  go_enter Try.func95, Try.ntmps95
  go_wp2_with (first
    | (at_builtin; refine Lib.wpList_append_run _ rfl _ _ _ _ rfl _ _ rfl rfl _ _ (hrz _) ?_)
    | (at_builtin; refine wpList_copy_runI _ rfl _ _ 30 30 rfl _ _ rfl rfl (hcpA _ hE1 hE2 _ _) ?_)
    | (at_builtin; refine wpList_copy_runI _ rfl _ _ 30 30 rfl _ _ rfl rfl (hcpB _ (fun _ => rfl) (fun _ => rfl) _ _ _) ?_))
  go_region_law_o (refine step_copy_runI rfl _ _ 30 30 rfl (.slice (some ⟨w.heap.size, (i + 1) * 4, none⟩) (n - i) (G - (i + 1))) (.slice (some ⟨b, off + i * 4, none⟩) (n - i) (c - i)) (by simp [Act.eval, Act.put]) (by simp [Act.eval, Act.put]) (hcpB _ hF1 hF2 3 (G - (i + 1)) (c - i)) ?_)
  go_wp2
  go_ret
  exact ⟨rfl, rfl⟩
set_option maxHeartbeats 4000000 in
set_option maxRecDepth 100000 in
theorem ins_end (base : Option Addr) (n c vb voff vc : Nat) (w w' : World) (v : Value) (hnc : n ≤ c) (hnil : base = none → n = 0 ∧ c = 0)
    (hrun : (Builtin.append_ #[30, 30] 30 #[.slice base n c, .slice (some ⟨vb, voff, none⟩) 1 vc]).run Try.prog w = .ok v w') :
    Calls Try.prog 95 #[.slice base n c, .int .i64 n, .slice (some ⟨vb, voff, none⟩) 1 vc] w fun e w'' => e = .returned v ∧ w'' = w' := by
  have mixed : Try.prog.follows .mixedOrders = true := by kernel_rfl
  go_enter Try.func95, Try.ntmps95
  cases base with
  | none =>
    obtain ⟨h0, h1⟩ := hnil rfl; subst h0 h1
    go_wp2_with (at_builtin; refine Lib.wpList_append_run _ rfl _ _ _ _ rfl _ _ rfl rfl _ _ hrun ?_)
    go_ret
    exact ⟨rfl, rfl⟩
  | some a =>
    obtain ⟨ab, ao, asp⟩ := a
    go_wp2_with (at_builtin; refine Lib.wpList_append_run _ rfl _ _ _ _ rfl _ _ rfl rfl _ _ hrun ?_)
    all_goals (go_ret; exact ⟨rfl, rfl⟩)
def insT (s : List R_iiis) (i : Int) (v : List R_iiis) : Option ((List R_iiis) × Unit) :=
  bif decide (0 ≤ i) && (decide (i ≤ ((List.length s : Nat) : Int)) && (Nat.beq v.length 1 && Nat.ble ((s.length + 1) * 40) lim)) then some (s.take i.toNat ++ (v ++ s.drop i.toNat), ()) else none
theorem insert_answer {T : Tab} (hT : TabOk Try.prog T) (hE : T.elem 30 = some (T_iiis, 40)) {c : Cz} {w : World} {mu : Mu} (hH : Handed c w mu) {s x : List (denR T_iiis)} {i : Nat} {v0 v2 : Value} {l0 l2 : Loc}
    (h0 : OwnAt c w (.pend 0 0) l0 { r := T_iiis, own := true, xs := s } v0) (h2 : OwnAt c w (.pend 2 0) l2 { r := T_iiis, own := true, xs := x } v2) (hi : i ≤ s.length) (hx : x.length = 1) (hb : (s.length + 1) * 40 ≤ lim) :
    Calls Try.prog 95 #[v0, .int .i64 i, v2] w fun e w' => ∃ v, e = .returned v ∧ ∃ c', Bas w mu c' w' ∧ HoldL c' w' .pres 0 [.own { r := T_iiis, own := true, xs := s.take i ++ (x ++ s.drop i) }] [v] := by
  obtain ⟨q1, q2, _, q4⟩ := h2; have hlim : (s.length + 1) * 40 ≤ 140737488355328 := by unfold lim at hb; omega
  cases l2 with
  | nil =>
    have q4 : x = [] := q4; rw [q4] at hx; simp at hx
  | «at» vb voff vcap =>
  obtain ⟨g1, g2, ⟨vcur, vty, g3, g4⟩, g5⟩ := q4; obtain ⟨va, vc, rfl, k1, k2, k3⟩ := q2; have k1 : x.length ≤ vc := k1; have ha := k3 (by omega); have ha : va = ⟨vb, voff, none⟩ := ha.trans (by rw [Nat.zero_mul]; rfl); subst ha; have hx' : ({ r := T_iiis, own := true, xs := x } : Arr).xs.length = 1 := hx; rw [hx']; obtain ⟨vs, hvr, hvs⟩ := rows_of_rep vb voff x ((RowsOk.sh rfl).1 g5); have hvl : vs.length = 4 := by
    have := RowsVs.length vs x hvs; rw [hx] at this; exact this
  have h1v := RowsVs.ones vs x hvs; have hvm : mu.m vb := (hH.m vb).2 ⟨_, g1, rfl⟩; obtain ⟨p1, p2, _, p4⟩ := h0; have hwid : RT.width T_iiis = 4 := rfl
  by_cases hin : i = s.length
  · -- at the end
    subst hin; have hnew : s.take s.length ++ (x ++ s.drop s.length) = s ++ x := by rw [List.take_length, List.drop_length, List.append_nil]
    rw [hnew]; have fin : ∀ (base : Option Addr) (n cc : Nat) (us : List Value) (xb : Option Nat), v0 = .slice base n cc → n = s.length → n ≤ cc → (base = none → n = 0 ∧ cc = 0) → (∀ b, xb = some b → mu.m b) → RowsVs w c.ok T_iiis us s →
        ((xb = none ∧ v0 = .slice none 0 0 ∧ s.length = 0) ∨ ∃ b off lo cap n ad cur te, xb = some b ∧ v0 = .slice (some ad) s.length n ∧ s.length ≤ n ∧ lo + n ≤ cap ∧ (n ≠ 0 → ad = ⟨b, off + lo * T_iiis.width, none⟩) ∧
          w.heap[b]? = some (.cells cur te (0, 0)) ∧ off + cap * T_iiis.width ≤ cur.size ∧ w.rangeAt b (off + lo * T_iiis.width) us) →
        Calls Try.prog 95 #[v0, .int .i64 s.length, .slice (some ⟨vb, voff, none⟩) 1 vc] w fun e w' => ∃ v, e = .returned v ∧ ∃ c', Bas w mu c' w' ∧ HoldL c' w' .pres 0 [.own { r := T_iiis, own := true, xs := s ++ x }] [v] := by
      intro base n cc us xb e0 en hncc hnil hxb hus hx0; obtain ⟨v, w', hrun, hos, hres⟩ := append_raw (P := Try.prog) hT (t := 30) (ty := 30) hE (nx := s.length) (ny := 1) (vx := us) (vy := vs) (uy := .slice (some ⟨vb, voff, none⟩) 1 vc) hb (RowsVs.length us s hus) (by rw [hvl, hwid]) h1v
        (.inr ⟨by omega, _, _, rfl, fun j v hj => by rw [Addr.add_mid]; exact hvr j v hj⟩) hx0
      subst en; rw [e0] at hrun ⊢; have hcall := ins_end base _ cc vb voff vc w w' v hncc hnil hrun; refine hcall.mono fun e w'' ⟨he, hw⟩ => ?_
      subst he; subst hw; refine ⟨v, rfl, ?_⟩; rcases hres with ⟨_, e2, _, _⟩ | ⟨B, o, cp, cur, te, v1, v2, hle, hg, hsz, hr, hoth, hB⟩
      · cases e2
      · exact own_answer hH (hB.imp id (hxb B)) hoth hos v1 (by rw [List.length_append, hx]; exact v2) (by rw [List.length_append, hx]; exact hle) hg hsz hr (RowsVs.append us vs s x hus hvs)
    cases l0 with
    | nil =>
      have p4 : s = [] := p4; obtain ⟨rfl, _⟩ := p2; subst p4; exact fin none 0 0 [] none rfl rfl (by omega) (fun _ => ⟨rfl, rfl⟩) (fun b h => by cases h) rfl (.inl ⟨rfl, rfl, rfl⟩)
    | «at» b off cap =>
      obtain ⟨f1, f2, ⟨cur, te, f3, f4⟩, f5⟩ := p4; obtain ⟨a, cc, rfl, m1, m2, m3⟩ := p2; obtain ⟨us, hur, hus⟩ := rows_of_rep b off s ((RowsOk.sh rfl).1 f5); have m1 : s.length ≤ cc := m1; have m2 : cc ≤ cap := by omega
      exact fin (some a) s.length cc us (some b) rfl rfl m1 (fun h => by cases h) (fun b' h => by cases h; exact (hH.m b).2 ⟨_, f1, rfl⟩) hus (.inr ⟨b, off, 0, cap, cc, a, cur, te, rfl, rfl, m1, by omega, m3, f3, f4, by rw [Nat.zero_mul, Nat.add_zero]; exact hur⟩)
  · -- in the middle
    have hlt : i < s.length := by omega
    cases l0 with
    | nil =>
      have p4 : s = [] := p4; rw [p4] at hlt; simp at hlt
    | «at» b off cap =>
      obtain ⟨f1, f2, ⟨cur, te, f3, f4⟩, f5⟩ := p4; obtain ⟨a, cc, rfl, m1, m2, m3⟩ := p2; have m1 : s.length ≤ cc := m1; have m2 : cc ≤ cap := by omega
      have ha := m3 (by omega); have ha : a = ⟨b, off, none⟩ := ha.trans (by rw [Nat.zero_mul]; rfl); subst ha; obtain ⟨us, hur, hus⟩ := rows_of_rep b off s ((RowsOk.sh rfl).1 f5); have hul : us.length = s.length * 4 := RowsVs.length us s hus; have h1u := RowsVs.ones us s hus; have hbm : mu.m b := (hH.m b).2 ⟨_, f1, rfl⟩; have hne : vb ≠ b := by
        rintro rfl
        rw [f1] at g1
        cases g1
      have f4 : off + cap * 4 ≤ cur.size := f4; have g4 : voff + vcap * 4 ≤ vcur.size := g4; obtain ⟨ct, cd⟩ := RowsVs.cut i us s hus; have hrows : RowsVs w c.ok T_iiis (us.take (i * 4) ++ (vs ++ us.drop (i * 4))) (s.take i ++ (x ++ s.drop i)) := RowsVs.append _ _ _ _ ct (RowsVs.append _ _ _ _ hvs cd); have hlen : (s.take i ++ (x ++ s.drop i)).length = s.length + 1 := by
        rw [List.length_append, List.length_append, List.length_take, List.length_drop, hx]; omega
      have htl : (us.take (i * 4)).length = i * 4 := by rw [List.length_take, hul]; omega
      have hdl : (us.drop (i * 4)).length = (s.length - i) * 4 := by rw [List.length_drop, hul]; omega
      have hsl : ({ r := T_iiis, own := true, xs := s } : Arr).xs.length = s.length := rfl; rw [hsl]
      have fin : ∀ (X : World) (B o : Nat), (∀ j v, (us.take (i * 4))[j]? = some v → X.cell? ⟨B, o + j, none⟩ = some v) → (∀ j v, vs[j]? = some v → X.cell? ⟨B, o + i * 4 + j, none⟩ = some v) →
          (∀ j v, (us.drop (i * 4))[j]? = some v → X.cell? ⟨B, o + (i + 1) * 4 + j, none⟩ = some v) → X.rangeAt B o (us.take (i * 4) ++ (vs ++ us.drop (i * 4))) := by
        intro X B o e1 e2 e3 q v hq; rw [List.getElem?_append] at hq
        by_cases q1 : q < (us.take (i * 4)).length
        · rw [if_pos q1] at hq; exact e1 q v hq
        · rw [if_neg q1, htl, List.getElem?_append] at hq; rw [htl] at q1
          by_cases q2 : q - i * 4 < vs.length
          · rw [if_pos q2] at hq; have := e2 _ v hq
            rwa [show o + i * 4 + (q - i * 4) = o + q by omega] at this
          · rw [if_neg q2, hvl] at hq; rw [hvl] at q2; have := e3 _ v hq
            rwa [show o + (i + 1) * 4 + (q - i * 4 - 4) = o + q by omega] at this
      have cellb : ∀ k, k < cap * 4 → (w.cell? ⟨b, off + k, none⟩).isSome = true := fun k hk => by
        rw [cell_of_row w b _ cur te (0, 0) f3, Array.getElem?_eq_getElem (by omega)]; rfl
      have hxl : x.length = 1 := hx
      by_cases hroom : s.length + 1 ≤ cc
      · have hcall := ins_shift b off s.length cc i vb voff vc us vs w hlt hroom (by omega) hne hul hvl (fun j v hj => hur j v hj) (fun j hj => cellb j (by omega)) (fun j hj => by unfold World.frozen?; simp [f3])
          (fun j v hj => hvr j v hj) h1u h1v vty te vcur.size cur.size (by unfold World.shape?; simp [g3]) (by unfold World.shape?; simp [f3]) (by omega) (by unfold World.frozen?; simp [g3]) (by unfold World.frozen?; simp [g3])
        refine hcall.mono fun e w' ⟨he, hw⟩ => ?_
        subst he; subst hw; refine ⟨_, rfl, ?_⟩; obtain ⟨c1, h1, s1⟩ := heap_setCells (us.drop (i * 4)) (off + (i + 1) * 4) (w := w.drew) f3; obtain ⟨c2, h2, s2⟩ := heap_setCells vs (off + i * 4) h1; obtain ⟨t1, t2, t3⟩ := cells_two w.drew b (off + (i + 1) * 4) (us.drop (i * 4)) (off + i * 4) vs (fun j hj => by rw [Nat.add_assoc]; exact cellb _ (by omega)) (fun j hj => by rw [Nat.add_assoc]; exact cellb _ (by omega)) (.inr (by omega)); have hk1 := kept_setCells (b := b) (us.drop (i * 4)) (off + (i + 1) * 4) w.drew; have hk2 := kept_setCells (b := b) vs (off + i * 4) (w.drew.setCells b (off + (i + 1) * 4) (us.drop (i * 4))); have hsz1 : (w.drew.setCells b (off + (i + 1) * 4) (us.drop (i * 4))).heap.size = w.heap.size := hk1.2.2.2; refine own_answer (B := b) (o := off) (cp := cc) (vs := us.take (i * 4) ++ (vs ++ us.drop (i * 4))) hH (.inr hbm) (fun k hk hkb => ?_) ⟨hk2.1.trans hk1.1, hk2.2.1.trans hk1.2.1, hk2.2.2.1.trans hk1.2.2.1, by rw [hk2.2.2.2, hsz1]; exact Nat.le_refl _⟩ rfl
          (by rw [hlen]; exact ⟨_, cc, rfl, hroom, by omega, fun _ => by rw [Nat.zero_mul]; rfl⟩) (by rw [hlen]; exact hroom) h2 (by rw [s2, s1]; show off + cc * 4 ≤ cur.size; omega)
          (fin _ _ _ (fun j v hj => ?_) t2 t1) hrows
        · rw [World.heap_setCells_other _ _ _ _ (by rw [hsz1]; exact hk) hkb, World.heap_setCells_other w.drew _ _ _ hk hkb]; rfl
        · have hjl : j < i * 4 := by rw [← htl]; exact (List.getElem?_eq_some_iff.1 hj).1
          rw [t3 _ (.inl (by omega)) (.inl (by omega))]; rw [List.getElem?_take, if_pos hjl] at hj; exact hur j v hj
      · obtain ⟨ROW, G, r1, r2, r3, hcall⟩ := ins_grow b off s.length cc i vb voff vc us vs w hlt m1 (by omega) hlim hul hvl (fun j v hj => hur j v hj) (fun j v hj => hvr j v hj) h1u h1v; refine hcall.mono fun e w' ⟨he, hw⟩ => ?_
        rw [drew_setCells] at hw; subst he; subst hw; refine ⟨_, rfl, ?_⟩; have hnew := heap_alloc_new w (.cells ROW 42 (0, 0)); have cellN : ∀ k, k < G * 4 → ((w.alloc (.cells ROW 42)).drew.drew.cell? ⟨w.heap.size, k, none⟩) = ROW[k]? := fun k hk => cell_of_row _ _ _ ROW 42 (0, 0) hnew
        obtain ⟨c1, h1, s1⟩ := heap_setCells vs (i * 4) (w := (w.alloc (.cells ROW 42)).drew.drew) hnew; obtain ⟨c2, h2, s2⟩ := heap_setCells (us.drop (i * 4)) ((i + 1) * 4) h1; obtain ⟨t1, t2, t3⟩ := cells_two (w.alloc (.cells ROW 42)).drew.drew w.heap.size (i * 4) vs ((i + 1) * 4) (us.drop (i * 4)) (fun j hj => by rw [cellN _ (by omega), Array.getElem?_eq_getElem (by omega)]; rfl) (fun j hj => by rw [cellN _ (by omega), Array.getElem?_eq_getElem (by omega)]; rfl) (.inl (by omega)); have hk1 := kept_setCells (b := w.heap.size) vs (i * 4) (w.alloc (.cells ROW 42)).drew.drew; have hk2 := kept_setCells (b := w.heap.size) (us.drop (i * 4)) ((i + 1) * 4) ((w.alloc (.cells ROW 42)).drew.drew.setCells w.heap.size (i * 4) vs); have hsa : (w.alloc (.cells ROW 42)).drew.drew.heap.size = w.heap.size + 1 := Array.size_push ..; have hsz1 : ((w.alloc (.cells ROW 42)).drew.drew.setCells w.heap.size (i * 4) vs).heap.size = w.heap.size + 1 := hk1.2.2.2.trans hsa; refine own_answer (B := w.heap.size) (o := 0) (cp := G) (vs := us.take (i * 4) ++ (vs ++ us.drop (i * 4))) hH (.inl (Nat.le_refl _)) (fun k hk hkb => ?_) ⟨hk2.1.trans hk1.1, hk2.2.1.trans hk1.2.1, hk2.2.2.1.trans hk1.2.2.1, by rw [hk2.2.2.2, hsz1]; omega⟩ rfl
          (by rw [hlen]; exact ⟨_, G, rfl, r1, by omega, fun _ => by rw [Nat.zero_mul]⟩) (by rw [hlen]; exact r1) h2 (by rw [s2, s1, r2]; show 0 + G * 4 ≤ G * 4; omega)
          (fin _ _ _ (fun j v hj => ?_) (fun j v hj => by rw [Nat.zero_add]; exact t1 j v hj) (fun j v hj => by rw [Nat.zero_add]; exact t2 j v hj)) hrows
        · rw [World.heap_setCells_other _ _ _ _ (by rw [hsz1]; omega) hkb, World.heap_setCells_other (w.alloc (.cells ROW 42)).drew.drew _ _ _ (by rw [hsa]; omega) hkb]; show (w.alloc _).heap[k]? = w.heap[k]?
          first | exact heap_alloc_old w _ k hk | exact heap_alloc_old w _ hk
        · have hjl : j < i * 4 := by rw [← htl]; exact (List.getElem?_eq_some_iff.1 hj).1
          rw [Nat.zero_add, t3 j (.inl hjl) (.inl (by omega)), cellN _ (by omega)]; exact r3 j v hj
theorem insert_held {T : Tab} (hT : TabOk Try.prog T) (hE : T.elem 30 = some (T_iiis, 40)) {c : Cz} {w : World} {mu : Mu} (hH : Handed c w mu) {s x : List (denR T_iiis)} {i : Int} {v0 v2 : Value} {l0 l2 : Loc} {y : (List R_iiis) × Unit}
    (h0 : OwnAt c w (.pend 0 0) l0 { r := T_iiis, own := true, xs := s } v0) (h2 : OwnAt c w (.pend 2 0) l2 { r := T_iiis, own := true, xs := x } v2) (ht : insT s i x = some y) :
    Calls Try.prog 95 #[v0, .int .i64 i, v2] w fun e w' => ∃ v, e = .returned v ∧ ∃ c', Bas w mu c' w' ∧ HoldL c' w' .pres 0 [.own { r := T_iiis, own := true, xs := y.1 }] [v] := by
  unfold insT at ht; obtain ⟨hc, ht2⟩ := bif_some ht; injection ht2 with ht2; subst ht2; simp only [Bool.and_eq_true, decide_eq_true_eq] at hc; obtain ⟨c1, c2, c3, c4⟩ := hc; have hi : ((i.toNat : Nat) : Int) = i := Int.toNat_of_nonneg c1; have hi2 : i.toNat ≤ s.length := Int.ofNat_le.1 (by rw [hi]; exact c2); have := insert_answer hT hE hH (s := s) (x := x) (i := i.toNat) h0 h2 hi2 (Nat.eq_of_beq_eq_true c3) (Nat.le_of_ble_eq_true c4); rw [hi] at this; exact this
theorem insert_known {T : Tab} (hT : TabOk Try.prog T) (hE : T.elem 30 = some (T_iiis, 40)) : Known Try.prog 95 (semOf [.val false [.own T_iiis], .val false [.int .i64], .val false [.own T_iiis]] [{ src := .tmp 0, agg := false, ps := [.own T_iiis] }] (fun x => insT x.1 x.2.1 x.2.2.1)) := by
  refine known_vals rfl rfl ⟨_, Try.func95, rfl, rfl⟩ (fun c w mu args x y hH hn hold ht => ?_); obtain ⟨s, i, v, u⟩ := x; have hn : 3 = args.size := hn; obtain ⟨v0, e0, h0⟩ := hold 0 _ rfl; obtain ⟨v1, e1, h1⟩ := hold 1 _ rfl; obtain ⟨v2, e2, h2⟩ := hold 2 _ rfl; have ha : args = #[v0, v1, v2] := by
    apply Array.toList_inj.1; have hl : args.toList.length = 3 := by rw [Array.length_toList]; exact hn.symm
    match hq : args.toList, hl with
    | [a, b, d], _ =>
      rw [hq] at e0 e1 e2; simp only [List.getElem?_cons_zero, List.getElem?_cons_succ, Option.some.injEq] at e0 e1 e2; rw [e0, e1, e2]
  subst ha; obtain ⟨z0, l0, hz0, ⟨lc0, o0⟩, _⟩ := h0; injection hz0 with hz0 _; subst hz0; obtain ⟨l1, hz1, _⟩ := h1; injection hz1 with hz1 _; subst hz1; obtain ⟨z2, l2, hz2, ⟨lc2, o2⟩, _⟩ := h2; injection hz2 with hz2 _; subst hz2; exact insert_held hT hE hH o0 o2 ht
noncomputable def sem95 : Sem1 := semOf [vl [.own T_iiis], vl [.int .i64], vl [.own T_iiis]] [{ src := .tmp 0, agg := false, ps := [.own T_iiis] }] (fun x => insT x.1 x.2.1 x.2.2.1)
theorem k95 : Known Try.prog 95 sem95 := insert_known (tab_ok tr_ok) (by kernel_rfl)
noncomputable def K95 : KF Try.prog := ⟨95, (.own, .shr, .own), sem95, k95⟩
noncomputable def F76 : FC Try.prog := ⟨TK_, [K95], dr 2 (.a 0 (.a 1 (.a 2 (.a 3 (.a 4 (.a 5 (.a 6 (.a 7 (.a 8 (.t 9 (.a 10 (.t 11 (.a 12 (.a 13 .nil)))))))))))))) (dr 4 (.a 0 (.a 1 (.a 2 (.a 3 (.a 4 (.a 5 (.a 6 (.a 7 (.a 8 (.t 9 (.a 10 (.t 11 (.a 12 (.a 13 .nil))))))))))))))), Try.f76, [vl [.own T_iiis], va po5]⟩
noncomputable def impl_putItem_c0 (list0 : L_iiis) (m3c0 m3c1 m3c2 : Int) (m3c3 : ByteArray) (at_5 : Int) : Option (Sum U34 (Sum U34 Unit)) := bif decide (at_5 < (list0.length : Int)) then bif decide (0 ≤ at_5) then bif Nat.blt (at_5.toNat) (List.length list0) then Option.bind ((list0)[at_5.toNat]?) fun r1 => bif decide (r1.1 < m3c0) then some (.inl (list0, m3c0, m3c1, m3c2, m3c3, i64.wrap (at_5 + 1), ())) else some (.inr (.inl (list0, m3c0, m3c1, m3c2, m3c3, at_5, ()))) else none else none else some (.inr (.inl (list0, m3c0, m3c1, m3c2, m3c3, at_5, ())))
noncomputable def impl_putItem_r0 (x : U34) : Option (Sum U34 (Sum U34 Unit)) := impl_putItem_c0 x.1 x.2.1 x.2.2.1 x.2.2.2.1 x.2.2.2.2.1 x.2.2.2.2.2.1
noncomputable def d76_0 : LD := ⟨0, F76.lp 0, sp [(0, vl [.own T_iiis]), (2, .box false po5), (1, vl [.int .i64])] 37, sp [(0, vl [.own T_iiis]), (2, .box false po5), (1, vl [.int .i64])] 37, sp [] 43, impl_putItem_r0⟩
theorem m76_0 : F76.Ok d76_0 := F76.kl0 (by kernel_rfl) fun x => by kernel_rfl
noncomputable def l76_0 : F76.KL := ⟨_, m76_0⟩
noncomputable def impl_putItem (list0 : L_iiis) (m1c0 m1c1 m1c2 : Int) (m1c3 : ByteArray) : Option (L_iiis × Unit) := outK (loopV impl_putItem_r0 (list0, m1c0, m1c1, m1c2, m1c3, 0, ())) (fun y1 => bif decide (y1.2.2.2.2.2.1 < (y1.1.length : Int)) then bif decide (0 ≤ y1.2.2.2.2.2.1) then bif Nat.blt (y1.2.2.2.2.2.1.toNat) (List.length y1.1) then Option.bind ((y1.1)[y1.2.2.2.2.2.1.toNat]?) fun r3 => bif decide (r3.1 = y1.2.1) then some (y1.1, ()) else Option.bind (insT y1.1 y1.2.2.2.2.2.1 [(y1.2.1, y1.2.2.1, y1.2.2.2.1, y1.2.2.2.2.1, ())]) fun y4 => some (y4.1, ()) else none else none else Option.bind (insT y1.1 y1.2.2.2.2.2.1 [(y1.2.1, y1.2.2.1, y1.2.2.2.1, y1.2.2.2.2.1, ())]) fun y5 => some (y5.1, ())) (fun y2 => none)
theorem k76 : F76.Kn [⟨.tmp 4, false, [.own T_iiis]⟩] 76 impl_putItem := F76.kf [l76_0] Try.func76 (by kernel_rfl) (by kernel_rfl) fun x => by kernel_rfl
noncomputable def K76 := kv (.own, .shr, .shr) k76
noncomputable def F63 : FC Try.prog := ⟨TK_0, [K44, K76], noD, Try.f63, [vl po9]⟩
noncomputable def impl_Union_c2 (out3 : L_iiis) (t8 : L_LiiisE) (t9 t10 : Int) (t17 : L_iiis) (t18 t19 : Int) : Option (Sum U35 (Sum U36 Unit)) := bif decide (t19 < t18) then bif decide (0 ≤ t19) then Option.bind ((t17)[t19.toNat]?) fun r3 => Option.bind (impl_putItem out3 r3.1 r3.2.1 r3.2.2.1 r3.2.2.2.1) fun y4 => some (.inl (y4.1, t8, t9, t10, t17, t18, i64.wrap (t19 + 1), ())) else none else some (.inr (.inl (out3, t8, t9, t10, ())))
noncomputable def impl_Union_r2 (x : U35) : Option (Sum U35 (Sum U36 Unit)) := impl_Union_c2 x.1 x.2.1 x.2.2.1 x.2.2.2.1 x.2.2.2.2.1 x.2.2.2.2.2.1 x.2.2.2.2.2.2.1
noncomputable def d63_2 : LD := ⟨2, nthLoop (F63.lp 0) 0, sp [(3, vl [.own T_iiis]), (4, vl po9), (0, vl [.int .i64]), (0, vl [.int .i64]), (6, vl [.shr T_iiis]), (0, vl [.int .i64]), (0, vl [.int .i64])] 10, sp [(3, vl [.own T_iiis]), (4, vl po9), (0, vl [.int .i64]), (0, vl [.int .i64])] 19, sp [] 30, impl_Union_r2⟩
theorem m63_2 : F63.Ok d63_2 := F63.kl0 (by kernel_rfl) fun x => by kernel_rfl
noncomputable def l63_2 : F63.KL := ⟨_, m63_2⟩
noncomputable def impl_Union_c0 (out3 : L_iiis) (t8 : L_LiiisE) (t9 t10 : Int) : Option (Sum U36 (Sum (L_iiis × Unit) Unit)) := bif decide (t10 < t9) then bif decide (0 ≤ t10) then Option.bind ((t8)[t10.toNat]?) fun r1 => Option.bind (impl_ItemsOk r1.1) fun y2 => bif !y2.1 then some (.inl (out3, t8, t9, i64.wrap (t10 + 1), ())) else outK (loopV impl_Union_r2 (out3, t8, t9, t10, r1.1, (r1.1.length : Int), 0, ())) (fun y5 => some (.inl (y5.1, y5.2.1, y5.2.2.1, i64.wrap (y5.2.2.2.1 + 1), ()))) (fun y6 => some (.inr (.inr (())))) else none else some (.inr (.inl (out3, ())))
noncomputable def impl_Union_r0 (x : U36) : Option (Sum U36 (Sum (L_iiis × Unit) Unit)) := impl_Union_c0 x.1 x.2.1 x.2.2.1 x.2.2.2.1
noncomputable def d63_0 : LD := ⟨0, F63.lp 0, sp [(3, vl [.own T_iiis]), (4, vl po9), (0, vl [.int .i64]), (0, vl [.int .i64])] 19, sp [(3, vl [.own T_iiis])] 26, sp [] 30, impl_Union_r0⟩
theorem m63_0 : F63.Ok d63_0 := F63.kl [l63_2] (by kernel_rfl) (by kernel_rfl) fun x => by kernel_rfl
noncomputable def l63_0 : F63.KL := ⟨_, m63_0⟩
noncomputable def impl_Union (lists0 : L_LiiisE) : Option (L_iiis × Unit) := outK (loopV impl_Union_r0 ([], lists0, (lists0.length : Int), 0, ())) (fun y1 => some (y1.1, ())) (fun y2 => none)
theorem k63 : F63.Kn [⟨.tmp 2, false, [.own T_iiis]⟩] 63 impl_Union := F63.kf [l63_0] Try.func63 (by kernel_rfl) (by kernel_rfl) fun x => by kernel_rfl
noncomputable def K63 := kw k63
noncomputable def F43 : FC Try.prog := ⟨TK_, [], noD, Try.f43, [vl [.shr T_iiis], vl [.int .i64]]⟩
noncomputable def impl_ItemAt_c0 (seq1 t4c0 t4c1 t4c2 : Int) (t4c3 : ByteArray) (t8 : L_iiis) (t9 t10 : Int) : Option (Sum U37 (Sum R_iiis U12)) := bif decide (t10 < t9) then bif decide (0 ≤ t10) then Option.bind ((t8)[t10.toNat]?) fun r1 => bif decide (r1.1 = seq1) then some (.inr (.inr (r1.1, r1.2.1, r1.2.2.1, r1.2.2.2.1, true, ()))) else some (.inl (seq1, t4c0, t4c1, t4c2, t4c3, t8, t9, i64.wrap (t10 + 1), ())) else none else some (.inr (.inl (t4c0, t4c1, t4c2, t4c3, ())))
noncomputable def impl_ItemAt_r0 (x : U37) : Option (Sum U37 (Sum R_iiis U12)) := impl_ItemAt_c0 x.1 x.2.1 x.2.2.1 x.2.2.2.1 x.2.2.2.2.1 x.2.2.2.2.2.1 x.2.2.2.2.2.2.1 x.2.2.2.2.2.2.2.1
noncomputable def d43_0 : LD := ⟨0, F43.lp 0, sp [(1, vl [.int .i64]), (2, .box false po5), (3, vl [.shr T_iiis]), (0, vl [.int .i64]), (0, vl [.int .i64])] 11, sp [(4, .box false po5)] 17, sp [(4, .box false po5), (0, vl [.bool])] 16, impl_ItemAt_r0⟩
theorem m43_0 : F43.Ok d43_0 := F43.kl0 (by kernel_rfl) fun x => by kernel_rfl
noncomputable def l43_0 : F43.KL := ⟨_, m43_0⟩
noncomputable def impl_ItemAt (list0 : L_iiis) (seq1 : Int) : Option (U12) := outK (loopV impl_ItemAt_r0 (seq1, 0, 0, 0, ByteArray.empty, list0, (list0.length : Int), 0, ())) (fun y1 => some (0, 0, 0, ByteArray.empty, false, ())) (fun y2 => some y2)
theorem k43 : F43.Kn [⟨.cell 4, true, po5⟩, ⟨.tmp 5, false, [.bool]⟩] 43 impl_ItemAt := F43.kf [l43_0] Try.func43 (by kernel_rfl) (by kernel_rfl) fun x => by kernel_rfl
noncomputable def K43 := kw k43
noncomputable def F42 : FC Try.prog := ⟨TK_, [K43], noD, Try.f42, [vl [.shr T_iiis]]⟩
noncomputable def impl_AruOf_c0 (list0 : L_iiis) (aru3 : Int) : Option (Sum (L_iiis × Int × Unit) (Sum Unit (Int × Unit))) := Option.bind (impl_ItemAt list0 (i64.wrap (aru3 + 1))) fun y1 => bif !y1.2.2.2.2.1 then some (.inr (.inr (aru3, ()))) else some (.inl (list0, i64.wrap (aru3 + 1), ()))
noncomputable def impl_AruOf_r0 (x : L_iiis × Int × Unit) : Option (Sum (L_iiis × Int × Unit) (Sum Unit (Int × Unit))) := impl_AruOf_c0 x.1 x.2.1
noncomputable def d42_0 : LD := ⟨0, F42.lp 0, sp [(0, vl [.shr T_iiis]), (2, vl [.int .i64])] 15, sp [] 19, sp [(2, vl [.int .i64])] 16, impl_AruOf_r0⟩
theorem m42_0 : F42.Ok d42_0 := F42.kl0 (by kernel_rfl) fun x => by kernel_rfl
noncomputable def l42_0 : F42.KL := ⟨_, m42_0⟩
noncomputable def impl_AruOf (list0 : L_iiis) : Option (Int × Unit) := outK (loopV impl_AruOf_r0 (list0, 0, ())) (fun y1 => none) (fun y2 => some (y2.1, ()))
theorem k42 : F42.Kn [⟨.tmp 2, false, [.int .i64]⟩] 42 impl_AruOf := F42.kf [l42_0] Try.func42 (by kernel_rfl) (by kernel_rfl) fun x => by kernel_rfl
noncomputable def K42 := kw k42
noncomputable def F62 : FC Try.prog := ⟨TK_, [K42], noD, Try.f62, [vl [.shr T_iiis]]⟩
noncomputable def impl_Whole_c0 (aru3 : Int) (out4 t9 : L_iiis) (t10 t11 : Int) : Option (Sum U38 (Sum (L_iiis × Unit) Unit)) := bif decide (t11 < t10) then bif decide (0 ≤ t11) then Option.bind ((t9)[t11.toNat]?) fun r2 => bif decide (r2.1 ≤ aru3) then bif Nat.ble (((List.length out4) + 1) * 40) lim then some (.inl (aru3, out4 ++ [(r2.1, r2.2.1, r2.2.2.1, r2.2.2.2.1, ())], t9, t10, i64.wrap (t11 + 1), ())) else none else some (.inl (aru3, out4, t9, t10, i64.wrap (t11 + 1), ())) else none else some (.inr (.inl (out4, ())))
noncomputable def impl_Whole_r0 (x : U38) : Option (Sum U38 (Sum (L_iiis × Unit) Unit)) := impl_Whole_c0 x.1 x.2.1 x.2.2.1 x.2.2.2.1 x.2.2.2.2.1
noncomputable def d62_0 : LD := ⟨0, F62.lp 0, sp [(3, vl [.int .i64]), (0, vl [.own T_iiis]), (4, vl [.shr T_iiis]), (0, vl [.int .i64]), (0, vl [.int .i64])] 14, sp [(4, vl [.own T_iiis])] 21, sp [] 26, impl_Whole_r0⟩
theorem m62_0 : F62.Ok d62_0 := F62.kl0 (by kernel_rfl) fun x => by kernel_rfl
noncomputable def l62_0 : F62.KL := ⟨_, m62_0⟩
noncomputable def impl_Whole (list0 : L_iiis) : Option (L_iiis × Unit) := Option.bind (impl_AruOf list0) fun y1 => outK (loopV impl_Whole_r0 (y1.1, [], list0, (list0.length : Int), 0, ())) (fun y2 => some (y2.1, ())) (fun y3 => none)
theorem k62 : F62.Kn [⟨.tmp 2, false, [.own T_iiis]⟩] 62 impl_Whole := F62.kf [l62_0] Try.func62 (by kernel_rfl) (by kernel_rfl) fun x => by kernel_rfl
noncomputable def K62 := kw k62
noncomputable def F29 : FC Try.prog := ⟨TK_0, [K59, K25, K63, K62], noD, Try.f29, [va po3, vl po8, vl [.int .i64], vl [.int .i64]]⟩
noncomputable def impl_Rest_c0 (list1 : L_iiiLiiisE) (heard3 r4c0 : Int) (r4c1 : L_i) (lists11 : L_LiiisE) (t36 : L_i) (t37 t38 : Int) : Option (Sum U39 (Sum (Int × L_LiiisE × Unit) Unit)) := bif decide (t38 < t37) then bif decide (0 ≤ t38) then bif Nat.blt (t38.toNat) (List.length t36) then Option.bind ((t36)[t38.toNat]?) fun r3 => Option.bind (impl_bundleOf r4c0 r4c1 list1 r3.1) fun y4 => bif Nat.ble (((List.length lists11) + 1) * 24) lim then some (.inl (list1, heard3, r4c0, r4c1, lists11 ++ [(y4.2.2.2.1, ())], t36, t37, i64.wrap (t38 + 1), ())) else none else none else none else some (.inr (.inl (heard3, lists11, ())))
noncomputable def impl_Rest_r0 (x : U39) : Option (Sum U39 (Sum (Int × L_LiiisE × Unit) Unit)) := impl_Rest_c0 x.1 x.2.1 x.2.2.1 x.2.2.2.1 x.2.2.2.2.1 x.2.2.2.2.2.1 x.2.2.2.2.2.2.1 x.2.2.2.2.2.2.2.1
noncomputable def d29_0 : LD := ⟨0, F29.lp 0, sp [(1, vl po8), (1, vl [.int .i64]), (0, .box false po3), (6, vl po10), (24, vl [.own T_i]), (0, vl [.int .i64]), (0, vl [.int .i64])] 35, sp [(3, vl [.int .i64]), (7, vl po10)] 62, sp [] 74, impl_Rest_r0⟩
theorem m29_0 : F29.Ok d29_0 := F29.kl0 (by kernel_rfl) fun x => by kernel_rfl
noncomputable def l29_0 : F29.KL := ⟨_, m29_0⟩
noncomputable def impl_Rest_c2 (heard3 : Int) (out16 t57 : L_iiis) (t58 t59 : Int) : Option (Sum U38 (Sum (L_iiis × Unit) Unit)) := bif decide (t59 < t58) then bif decide (0 ≤ t59) then bif Nat.blt (t59.toNat) (List.length t57) then Option.bind ((t57)[t59.toNat]?) fun r9 => bif decide (heard3 < r9.1) then bif Nat.ble (((List.length out16) + 1) * 40) lim then some (.inl (heard3, out16 ++ [(r9.1, r9.2.1, r9.2.2.1, r9.2.2.2.1, ())], t57, t58, i64.wrap (t59 + 1), ())) else none else some (.inl (heard3, out16, t57, t58, i64.wrap (t59 + 1), ())) else none else none else some (.inr (.inl (out16, ())))
noncomputable def impl_Rest_r2 (x : U38) : Option (Sum U38 (Sum (L_iiis × Unit) Unit)) := impl_Rest_c2 x.1 x.2.1 x.2.2.1 x.2.2.2.1 x.2.2.2.2.1
noncomputable def d29_2 : LD := ⟨2, F29.lp 1, sp [(3, vl [.int .i64]), (12, vl [.own T_iiis]), (40, vl [.own T_iiis]), (0, vl [.int .i64]), (0, vl [.int .i64])] 14, sp [(16, vl [.own T_iiis])] 57, sp [] 74, impl_Rest_r2⟩
theorem m29_2 : F29.Ok d29_2 := F29.kl0 (by kernel_rfl) fun x => by kernel_rfl
noncomputable def l29_2 : F29.KL := ⟨_, m29_2⟩
noncomputable def impl_Rest (r0c0 : Int) (r0c1 : L_i) (list1 : L_iiiLiiisE) (id2 heard3 : Int) : Option (L_iiis × Unit) := Option.bind (impl_bundleOf r0c0 r0c1 list1 id2) fun y1 => bif !y1.2.2.2.2.1 then some ([], ()) else bif decide (y1.2.2.1 = 0) then some ([], ()) else Option.bind (impl_TogetherWith r0c0 r0c1 list1 id2) fun y2 => outK (loopV impl_Rest_r0 (list1, heard3, r0c0, r0c1, [], y2.1, (y2.1.length : Int), 0, ())) (fun y3 => Option.bind (impl_Union y3.2.1) fun y5 => Option.bind (impl_Whole y5.1) fun y6 => outK (loopV impl_Rest_r2 (y3.1, [], y6.1, (y6.1.length : Int), 0, ())) (fun y7 => some (y7.1, ())) (fun y8 => none)) (fun y4 => none)
theorem k29 : F29.Kn [⟨.tmp 8, false, [.own T_iiis]⟩] 29 impl_Rest := F29.kf [l29_0, l29_2] Try.func29 (by kernel_rfl) (by kernel_rfl) fun x => by kernel_rfl
noncomputable def K29 := kw k29
noncomputable def F21 : FC Try.prog := ⟨TK_, [], dr 6 (.a 0 (.a 1 (.a 2 (.t 3 (.a 4 (.a 5 (.a 6 (.t 7 (.a 8 .nil))))))))), Try.f21, [vl [.shr T_iiis], vl [.shr T_iiis]]⟩
noncomputable def laws_sameItems_c0 (a0 b1 : L_iiis) (i5 : Int) : Option (Sum U40 (Sum Unit (Bool × Unit))) := bif decide (i5 < (a0.length : Int)) then bif decide (0 ≤ i5) then Option.bind ((a0)[i5.toNat]?) fun r1 => bif decide (0 ≤ i5) then Option.bind ((b1)[i5.toNat]?) fun r2 => bif !(decide (r1.1 = r2.1) && (decide (r1.2.1 = r2.2.1) && (decide (r1.2.2.1 = r2.2.2.1) && (strEq r1.2.2.2.1 r2.2.2.2.1 && true)))) then some (.inr (.inr (false, ()))) else some (.inl (a0, b1, i64.wrap (i5 + 1), ())) else none else none else some (.inr (.inl (())))
noncomputable def laws_sameItems_r0 (x : U40) : Option (Sum U40 (Sum Unit (Bool × Unit))) := laws_sameItems_c0 x.1 x.2.1 x.2.2.1
noncomputable def d21_0 : LD := ⟨0, F21.lp 0, sp [(0, vl [.shr T_iiis]), (0, vl [.shr T_iiis]), (3, vl [.int .i64])] 21, sp [] 27, sp [(4, vl [.bool])] 22, laws_sameItems_r0⟩
theorem m21_0 : F21.Ok d21_0 := F21.kl0 (by kernel_rfl) fun x => by kernel_rfl
noncomputable def l21_0 : F21.KL := ⟨_, m21_0⟩
noncomputable def laws_sameItems (a0 b1 : L_iiis) : Option (Bool × Unit) := bif !decide ((a0.length : Int) = (b1.length : Int)) then some (false, ()) else outK (loopV laws_sameItems_r0 (a0, b1, 0, ())) (fun y1 => some (true, ())) (fun y2 => some (y2.1, ()))
theorem k21 : F21.Kn [⟨.tmp 4, false, [.bool]⟩] 21 laws_sameItems := F21.kf [l21_0] Try.func21 (by kernel_rfl) (by kernel_rfl) fun x => by kernel_rfl
noncomputable def K21 := kw k21
noncomputable def F65 : FC Try.prog := ⟨TK_, [K66], noD, Try.f65, [va po7, vl [.rpt T_i], vl [.rpt T_iLiE]]⟩
noncomputable def impl_AllHere_1 (b0c0 b0c1 b0c2 : Int) (b0c3 : L_iiis) (t1p : L_i) (t2p : L_iLiE) : Option (Bool × Unit) := Option.bind ((t1p)[0]?) fun r1 => bif decide (b0c0 = r1.1) then Option.bind ((t2p)[0]?) fun r2 => bif decide (b0c1 = r2.1) then Option.bind (impl_BundleOk b0c0 b0c1 b0c2 b0c3) fun y3 => some (y3.1, ()) else some (false, ()) else some (false, ())
theorem k65 : F65.Kn [⟨.tmp 4, false, [.bool]⟩] 65 impl_AllHere_1 := F65.kf0 Try.func65 (by kernel_rfl) fun x => by kernel_rfl
noncomputable def K65 := kw k65
noncomputable def F94 : FC Try.prog := ⟨TK_, [K65], noD, Try.f94, [vl po8, vl po11]⟩
noncomputable def slices_IndexFunc_impl_Bundle_c0 (s0 : L_iiiLiiisE) (f1p : L_LiELiLiEE) (t7 t8 : Int) : Option (Sum U41 (Sum Unit (Int × Unit))) := bif decide (t8 < t7) then bif decide (0 ≤ t8) then Option.bind ((s0)[t8.toNat]?) fun r1 => Option.bind ((f1p)[0]?) fun r2 => Option.bind (impl_AllHere_1 r1.1 r1.2.1 r1.2.2.1 r1.2.2.2.1 r2.1 r2.2.1) fun y3 => bif y3.1 then some (.inr (.inr (t8, ()))) else some (.inl (s0, f1p, t7, i64.wrap (t8 + 1), ())) else none else some (.inr (.inl (())))
noncomputable def slices_IndexFunc_impl_Bundle_r0 (x : U41) : Option (Sum U41 (Sum Unit (Int × Unit))) := slices_IndexFunc_impl_Bundle_c0 x.1 x.2.1 x.2.2.1 x.2.2.2.1
noncomputable def d94_0 : LD := ⟨0, F94.lp 0, sp [(0, vl po8), (0, vl po11), (5, vl [.int .i64]), (0, vl [.int .i64])] 11, sp [] 20, sp [(4, vl [.int .i64])] 15, slices_IndexFunc_impl_Bundle_r0⟩
theorem m94_0 : F94.Ok d94_0 := F94.kl0 (by kernel_rfl) fun x => by kernel_rfl
noncomputable def l94_0 : F94.KL := ⟨_, m94_0⟩
noncomputable def slices_IndexFunc_impl_Bundle (s0 : L_iiiLiiisE) (f1p : L_LiELiLiEE) : Option (Int × Unit) := outK (loopV slices_IndexFunc_impl_Bundle_r0 (s0, f1p, (s0.length : Int), 0, ())) (fun y1 => some ((-1), ())) (fun y2 => some (y2.1, ()))
theorem k94 : F94.Kn [⟨.tmp 4, false, [.int .i64]⟩] 94 slices_IndexFunc_impl_Bundle := F94.kf [l94_0] Try.func94 (by kernel_rfl) (by kernel_rfl) fun x => by kernel_rfl
noncomputable def K94 := kw k94
noncomputable def F64 : FC Try.prog := ⟨TK_, [K94], noD, Try.f64, [vl po8, vl po11]⟩
noncomputable def slices_ContainsFunc_impl_Bundle (s0 : L_iiiLiiisE) (f1p : L_LiELiLiEE) : Option (Bool × Unit) := Option.bind (slices_IndexFunc_impl_Bundle s0 f1p) fun y1 => some (decide (0 ≤ y1.1), ())
theorem k64 : F64.Kn [⟨.tmp 4, false, [.bool]⟩] 64 slices_ContainsFunc_impl_Bundle := F64.kf0 Try.func64 (by kernel_rfl) fun x => by kernel_rfl
noncomputable def K64 := kw k64
noncomputable def F30 : FC Try.prog := ⟨TK_c, [K64], noD, Try.f30, [va po3, vl po8]⟩
noncomputable def impl_AllHere_c0 (list1 : L_iiiLiiisE) (r2p : L_iLiE) (t9 : L_i) (t10 t11 : Int) : Option (Sum U42 (Sum Unit (Bool × Unit))) := bif decide (t11 < t10) then bif decide (0 ≤ t11) then Option.bind ((t9)[t11.toNat]?) fun r1 => Option.bind (slices_ContainsFunc_impl_Bundle list1 ([([(r1.1, ())], r2p, ())])) fun y2 => bif !y2.1 then some (.inr (.inr (false, ()))) else some (.inl (list1, r2p, t9, t10, i64.wrap (t11 + 1), ())) else none else some (.inr (.inl (())))
noncomputable def impl_AllHere_r0 (x : U42) : Option (Sum U42 (Sum Unit (Bool × Unit))) := impl_AllHere_c0 x.1 x.2.1 x.2.2.1 x.2.2.2.1 x.2.2.2.2.1
noncomputable def d30_0 : LD := ⟨0, F30.lp 0, sp [(1, vl po8), (0, vl [.rpt T_iLiE]), (6, vl [.shr T_i]), (0, vl [.int .i64]), (0, vl [.int .i64])] 10, sp [] 22, sp [(4, vl [.bool])] 17, impl_AllHere_r0⟩
theorem m30_0 : F30.Ok d30_0 := F30.kl0 (by kernel_rfl) fun x => by kernel_rfl
noncomputable def l30_0 : F30.KL := ⟨_, m30_0⟩
noncomputable def impl_AllHere (r0c0 : Int) (r0c1 : L_i) (list1 : L_iiiLiiisE) : Option (Bool × Unit) := outK (loopV impl_AllHere_r0 (list1, [(r0c0, r0c1, ())], r0c1, (r0c1.length : Int), 0, ())) (fun y1 => some (true, ())) (fun y2 => some (y2.1, ()))
theorem k30 : F30.Kn [⟨.tmp 4, false, [.bool]⟩] 30 impl_AllHere := F30.kf [l30_0] Try.func30 (by kernel_rfl) (by kernel_rfl) fun x => by kernel_rfl
noncomputable def K30 := kw k30
noncomputable def F31 : FC Try.prog := ⟨TK_, [K60], dr 4 (.t 0 (.a 1 (.a 2 (.t 3 (.a 4 (.a 5 (.t 6 (.alt (.o 7 (.a 8 (.a 9 (.a 10 (.o 11 (.l 12 (.a 13 .nil))))))) (.o 11 (.o 7 (.a 8 (.a 9 (.a 10 (.l 12 (.a 13 .nil))))))))))))))), Try.f31, [va po3, vl po8]⟩
noncomputable def spec_AllHere_c0 (list1 : L_iiiLiiisE) (r2c0 : Int) (r2c1 : L_i) (i5 : Int) : Option (Sum U43 (Sum Unit (Bool × Unit))) := bif decide (i5 < (r2c1.length : Int)) then bif decide (0 ≤ i5) then Option.bind ((r2c1)[i5.toNat]?) fun r1 => Option.bind (spec_l13First r2c0 r2c1 list1 r1.1) fun y1o7 => bif !y1o7.2.2.2.2.1 then some (.inr (.inr (false, ()))) else some (.inl (list1, r2c0, r2c1, i64.wrap (i5 + 1), ())) else none else some (.inr (.inl (())))
noncomputable def spec_AllHere_o0 (list1 : L_iiiLiiisE) (r2c0 : Int) (r2c1 : L_i) (i5 : Int) : Option (Sum U43 (Sum Unit (Bool × Unit))) := bif decide (i5 < (r2c1.length : Int)) then bif decide (0 ≤ i5) then Option.bind ((r2c1)[i5.toNat]?) fun r1 => (fun K6 : (U11) → Option (Sum U43 (Sum Unit (Bool × Unit))) => both (Option.bind (spec_l13First r2c0 r2c1 list1 r1.1) fun y1o7 => K6 y1o7) (Option.bind (spec_l13First r2c0 r2c1 list1 r1.1) fun y1o7 => K6 y1o7)) (fun y1o7 => bif !y1o7.2.2.2.2.1 then some (.inr (.inr (false, ()))) else some (.inl (list1, r2c0, r2c1, i64.wrap (i5 + 1), ()))) else none else some (.inr (.inl (())))
theorem spec_AllHere_o0_eq : spec_AllHere_o0 = spec_AllHere_c0 := by delta spec_AllHere_o0 spec_AllHere_c0; simp only [both_self]
noncomputable def spec_AllHere_r0 (x : U43) : Option (Sum U43 (Sum Unit (Bool × Unit))) := spec_AllHere_c0 x.1 x.2.1 x.2.2.1 x.2.2.2.1
def hp31_0 : List (Option AP) := sp [(1, vl po8), (0, .box false po3), (2, vl [.int .i64])] 23
noncomputable def spec_AllHere_q0 (x : U43) : Option (Sum U43 (Sum Unit (Bool × Unit))) := unc (headRT hp31_0) spec_AllHere_o0 x
theorem spec_AllHere_q0_eq : spec_AllHere_q0 = spec_AllHere_r0 := congrArg (unc (headRT hp31_0)) spec_AllHere_o0_eq
noncomputable def d31_0 : LD := ⟨0, F31.lp 0, hp31_0, sp [] 29, sp [(4, vl [.bool])] 24, spec_AllHere_r0⟩
theorem m31_0 : F31.Ok d31_0 := F31.kl0 (l := d31_0) (by kernel_rfl) fun x => Eq.trans (b := spec_AllHere_q0 x) (by kernel_rfl) (congrFun spec_AllHere_q0_eq x)
noncomputable def l31_0 : F31.KL := ⟨_, m31_0⟩
noncomputable def spec_AllHere (r0c0 : Int) (r0c1 : L_i) (list1 : L_iiiLiiisE) : Option (Bool × Unit) := outK (loopV spec_AllHere_r0 (list1, r0c0, r0c1, 0, ())) (fun y1 => some (true, ())) (fun y2 => some (y2.1, ()))
theorem k31 : F31.Kn [⟨.tmp 4, false, [.bool]⟩] 31 spec_AllHere := F31.kf [l31_0] Try.func31 (by kernel_rfl) (by kernel_rfl) fun x => by kernel_rfl
noncomputable def K31 := kw k31
noncomputable def F6 : FC Try.prog := ⟨TK_, [K7, K24, K25, K27, K26, K28, K29, K21, K30, K31], dr 15 (.a 0 (.a 1 (.a 2 (.t 3 (.a 4 (.a 5 (.a 6 (.t 7 (.a 8 (.a 9 (.a 10 (.a 11 (.t 12 (.a 14 (.o 13 (.o 15 (.a 16 (.a 17 (.t 18 (.a 19 (.a 20 (.a 21 (.a 22 (.t 23 (.a 25 (.o 24 (.o 26 (.a 27 (.a 28 (.a 29 .nil)))))))))))))))))))))))))))))) (dr 20 (.t 0 (.a 1 (.a 2 (.a 3 (.a 5 (.a 6 (.a 7 (.o 4 (.o 8 (.a 9 .nil)))))))))) (dr 24 (.t 0 (.a 1 (.t 3 (.a 4 (.o 2 (.o 5 (.a 6 (.a 7 (.t 8 (.o 9 (.o 10 (.a 11 (.a 12 (.a 13 (.a 14 .nil))))))))))))))))), Try.f6, [vl [.shr T_ku8]]⟩
noncomputable def laws_FnTogether_c2 (r3c0 : Int) (r3c1 : L_i) (list4 : L_iiiLiiisE) (i5 id6 : Int) (who7 : L_i) (mine8 : L_iiis) (k9 : Int) : Option (Sum U44 (Sum U45 (Bool × Unit))) := bif decide (k9 < (who7.length : Int)) then bif decide (0 ≤ k9) then bif Nat.blt (k9.toNat) (List.length who7) then Option.bind ((who7)[k9.toNat]?) fun r9 => bif !decide (r9.1 = id6) then bif decide (0 ≤ k9) then bif Nat.blt (k9.toNat) (List.length who7) then Option.bind ((who7)[k9.toNat]?) fun r10 => Option.bind (impl_TogetherWith r3c0 r3c1 list4 r10.1) fun y11 => Option.bind (laws_sameInts y11.1 who7) fun y12 => bif !y12.1 then some (.inr (.inr (false, ()))) else bif decide (0 ≤ k9) then bif Nat.blt (k9.toNat) (List.length who7) then Option.bind ((who7)[k9.toNat]?) fun r13 => Option.bind (impl_Rest r3c0 r3c1 list4 r13.1 0) fun y14 => Option.bind (laws_sameItems y14.1 mine8) fun y15 => bif !y15.1 then some (.inr (.inr (false, ()))) else some (.inl (r3c0, r3c1, list4, i5, id6, who7, mine8, i64.wrap (k9 + 1), ())) else none else none else none else none else some (.inl (r3c0, r3c1, list4, i5, id6, who7, mine8, i64.wrap (k9 + 1), ())) else none else none else some (.inr (.inl (r3c0, r3c1, list4, i5, id6, who7, mine8, ())))
noncomputable def laws_FnTogether_r2 (x : U44) : Option (Sum U44 (Sum U45 (Bool × Unit))) := laws_FnTogether_c2 x.1 x.2.1 x.2.2.1 x.2.2.2.1 x.2.2.2.2.1 x.2.2.2.2.2.1 x.2.2.2.2.2.2.1 x.2.2.2.2.2.2.2.1
noncomputable def d6_2 : LD := ⟨2, nthLoop (F6.lp 0) 0, sp [(3, .box false po3), (0, vl po6), (0, vl [.int .i64]), (0, vl [.int .i64]), (0, vl [.own T_i]), (0, vl [.own T_iiis]), (0, vl [.int .i64])] 120, sp [(3, .box false po3), (0, vl po6), (0, vl [.int .i64]), (0, vl [.int .i64]), (0, vl [.own T_i]), (0, vl [.own T_iiis])] 121, sp [(2, vl [.bool])] 127, laws_FnTogether_r2⟩
theorem m6_2 : F6.Ok d6_2 := F6.kl0 (by kernel_rfl) fun x => by kernel_rfl
noncomputable def l6_2 : F6.KL := ⟨_, m6_2⟩
noncomputable def laws_FnTogether_c4 (r3c0 : Int) (r3c1 : L_i) (list4 : L_iiiLiiisE) (i5 id6 : Int) (who7 : L_i) (mine8 : L_iiis) (h10 : Int) : Option (Sum U44 (Sum U46 (Bool × Unit))) := bif decide (h10 ≤ (mine8.length : Int)) then bif decide (0 ≤ h10) then bif decide (h10 ≤ (mine8.length : Int)) then Option.bind (impl_Rest r3c0 r3c1 list4 id6 h10) fun y18 => Option.bind (laws_sameItems y18.1 (List.drop (h10.toNat) mine8)) fun y19 => bif !y19.1 then some (.inr (.inr (false, ()))) else some (.inl (r3c0, r3c1, list4, i5, id6, who7, mine8, i64.wrap (h10 + 1), ())) else none else none else some (.inr (.inl (r3c0, r3c1, list4, i5, who7, ())))
noncomputable def laws_FnTogether_r4 (x : U44) : Option (Sum U44 (Sum U46 (Bool × Unit))) := laws_FnTogether_c4 x.1 x.2.1 x.2.2.1 x.2.2.2.1 x.2.2.2.2.1 x.2.2.2.2.2.1 x.2.2.2.2.2.2.1 x.2.2.2.2.2.2.2.1
noncomputable def d6_4 : LD := ⟨4, nthLoop (F6.lp 0) 1, sp [(3, .box false po3), (0, vl po6), (0, vl [.int .i64]), (0, vl [.int .i64]), (0, vl [.own T_i]), (0, vl [.own T_iiis]), (1, vl [.int .i64])] 119, sp [(3, .box false po3), (0, vl po6), (0, vl [.int .i64]), (1, vl [.own T_i])] 122, sp [(2, vl [.bool])] 127, laws_FnTogether_r4⟩
theorem m6_4 : F6.Ok d6_4 := F6.kl0 (by kernel_rfl) fun x => by kernel_rfl
noncomputable def l6_4 : F6.KL := ⟨_, m6_4⟩
noncomputable def laws_FnTogether_c0 (r3c0 : Int) (r3c1 : L_i) (list4 : L_iiiLiiisE) (i5 : Int) : Option (Sum U47 (Sum U13 (Bool × Unit))) := bif decide (i5 < (r3c1.length : Int)) then bif decide (0 ≤ i5) then Option.bind ((r3c1)[i5.toNat]?) fun r3 => Option.bind (impl_TogetherWith r3c0 r3c1 list4 r3.1) fun y4 => Option.bind (spec_TogetherWith r3c0 r3c1 list4 r3.1) fun y5 => Option.bind (laws_sameInts y4.1 y5.1) fun y6 => bif !y6.1 then some (.inr (.inr (false, ()))) else Option.bind (laws_rises y4.1) fun y7 => bif !y7.1 then bif decide (1 < (y4.1.length : Int)) then some (.inr (.inr (false, ()))) else Option.bind (impl_Rest r3c0 r3c1 list4 r3.1 0) fun y8 => outK (loopV laws_FnTogether_r2 (r3c0, r3c1, list4, i5, r3.1, y4.1, y8.1, 0, ())) (fun y16 => outK (loopV laws_FnTogether_r4 (y16.1, y16.2.1, y16.2.2.1, y16.2.2.2.1, y16.2.2.2.2.1, y16.2.2.2.2.2.1, y16.2.2.2.2.2.2.1, 0, ())) (fun y20 => Option.bind (impl_AllHere y20.1 y20.2.1 y20.2.2.1) fun y22 => bif y22.1 then bif decide ((y20.2.2.2.2.1.length : Int) = 0) then some (.inr (.inr (false, ()))) else some (.inl (y20.1, y20.2.1, y20.2.2.1, i64.wrap (y20.2.2.2.1 + 1), ())) else some (.inl (y20.1, y20.2.1, y20.2.2.1, i64.wrap (y20.2.2.2.1 + 1), ()))) (fun y21 => some (.inr (.inr (y21.1, ()))))) (fun y17 => some (.inr (.inr (y17.1, ())))) else Option.bind (impl_Rest r3c0 r3c1 list4 r3.1 0) fun y23 => outK (loopV laws_FnTogether_r2 (r3c0, r3c1, list4, i5, r3.1, y4.1, y23.1, 0, ())) (fun y24 => outK (loopV laws_FnTogether_r4 (y24.1, y24.2.1, y24.2.2.1, y24.2.2.2.1, y24.2.2.2.2.1, y24.2.2.2.2.2.1, y24.2.2.2.2.2.2.1, 0, ())) (fun y26 => Option.bind (impl_AllHere y26.1 y26.2.1 y26.2.2.1) fun y28 => bif y28.1 then bif decide ((y26.2.2.2.2.1.length : Int) = 0) then some (.inr (.inr (false, ()))) else some (.inl (y26.1, y26.2.1, y26.2.2.1, i64.wrap (y26.2.2.2.1 + 1), ())) else some (.inl (y26.1, y26.2.1, y26.2.2.1, i64.wrap (y26.2.2.2.1 + 1), ()))) (fun y27 => some (.inr (.inr (y27.1, ()))))) (fun y25 => some (.inr (.inr (y25.1, ())))) else none else some (.inr (.inl (r3c0, r3c1, list4, ())))
noncomputable def laws_FnTogether_r0 (x : U47) : Option (Sum U47 (Sum U13 (Bool × Unit))) := laws_FnTogether_c0 x.1 x.2.1 x.2.2.1 x.2.2.2.1
noncomputable def d6_0 : LD := ⟨0, F6.lp 0, sp [(3, .box false po3), (0, vl po6), (0, vl [.int .i64])] 124, sp [(3, .box false po3), (0, vl po6)] 125, sp [(2, vl [.bool])] 127, laws_FnTogether_r0⟩
theorem m6_0 : F6.Ok d6_0 := F6.kl [l6_2, l6_4] (by kernel_rfl) (by kernel_rfl) fun x => by kernel_rfl
noncomputable def l6_0 : F6.KL := ⟨_, m6_0⟩
noncomputable def laws_FnTogether (code0 : L_ku8) : Option (Bool × Unit) := Option.bind (laws_big code0) fun y1 => bif y1.1 then some (true, ()) else Option.bind (spec_DrawTogether code0) fun y2 => outK (loopV laws_FnTogether_r0 (y2.1, y2.2.1, y2.2.2.1, 0, ())) (fun y3 => Option.bind (impl_AllHere y3.1 y3.2.1 y3.2.2.1) fun y5 => Option.bind (spec_AllHere y3.1 y3.2.1 y3.2.2.1) fun y6 => bif y5.1 == y6.1 then Option.bind (impl_TogetherWith y3.1 y3.2.1 [] 1) fun y7 => some (decide ((y7.1.length : Int) = 0), ()) else some (false, ())) (fun y4 => some (y4.1, ()))
theorem k6 : F6.Kn [⟨.tmp 2, false, [.bool]⟩] 6 laws_FnTogether := F6.kf [l6_0] Try.func6 (by kernel_rfl) (by kernel_rfl) fun x => by kernel_rfl
noncomputable def K6 := kw k6
noncomputable def spec_ItemAt_c0 (list0 : L_iiis) (seq1 t4c0 t4c1 t4c2 : Int) (t4c3 : ByteArray) (i6 : Int) : Option (Sum U53 (Sum R_iiis U12)) := bif decide (i6 < (list0.length : Int)) then bif decide (0 ≤ i6) then Option.bind ((list0)[i6.toNat]?) fun r1 => bif decide (r1.1 = seq1) then bif decide (0 ≤ i6) then Option.bind ((list0)[i6.toNat]?) fun r2 => some (.inr (.inr (r2.1, r2.2.1, r2.2.2.1, r2.2.2.2.1, true, ()))) else none else some (.inl (list0, seq1, t4c0, t4c1, t4c2, t4c3, i64.wrap (i6 + 1), ())) else none else some (.inr (.inl (t4c0, t4c1, t4c2, t4c3, ())))
noncomputable def spec_ItemAt_r0 (x : U53) : Option (Sum U53 (Sum R_iiis U12)) := spec_ItemAt_c0 x.1 x.2.1 x.2.2.1 x.2.2.2.1 x.2.2.2.2.1 x.2.2.2.2.2.1 x.2.2.2.2.2.2.1
noncomputable def spec_ItemAt (list0 : L_iiis) (seq1 : Int) : Option (U12) := outK (loopV spec_ItemAt_r0 (list0, seq1, 0, 0, 0, ByteArray.empty, 0, ())) (fun y1 => some (0, 0, 0, ByteArray.empty, false, ())) (fun y2 => some y2)
noncomputable def spec_AruOf_c0 (list0 : L_iiis) (n3 i4 : Int) : Option (Sum U56 (Sum (Int × Unit) (Int × Unit))) := bif decide (i4 < (list0.length : Int)) then Option.bind (spec_ItemAt list0 (i64.wrap (n3 + 1))) fun y1 => bif !y1.2.2.2.2.1 then some (.inr (.inr (n3, ()))) else some (.inl (list0, i64.wrap (n3 + 1), i64.wrap (i4 + 1), ())) else some (.inr (.inl (n3, ())))
noncomputable def spec_AruOf_r0 (x : U56) : Option (Sum U56 (Sum (Int × Unit) (Int × Unit))) := spec_AruOf_c0 x.1 x.2.1 x.2.2.1
noncomputable def spec_AruOf (list0 : L_iiis) : Option (Int × Unit) := outK (loopV spec_AruOf_r0 (list0, 0, 0, ())) (fun y1 => some (y1.1, ())) (fun y2 => some (y2.1, ()))
end Go.TM
