/- What the functions answer, as terms; their contracts. -/
import Derived.Test.YtiljcjnnhkidbaaGreatDBase
set_option linter.unusedSimpArgs false
set_option linter.unusedVariables false
namespace Go.TM
open Go Go.RowKit Go.Proofs
open Go.IntKind (i64)
noncomputable section
def F65 : FC Tryz.prog := ⟨dO, [], fR, Tryz.f65, [vl [.shr im], vl [.int .i64]]⟩
noncomputable def kI (a0 : aG) (dW : Int) : Option (Int × Unit) := bif decide (i64.wrap (dW - (a0.length : Int)) < 0) then some ((-1), ()) else some (i64.wrap (dW - (a0.length : Int)), ())
theorem k65 : F65.Kn [⟨.tmp 4, false, [.int .i64]⟩] 65 kI := F65.mn Tryz.func65 fun x => by kernel_rfl
def Xv := kw k65
def F12 : FC Tryz.prog := ⟨dO, [Xv], fR, Tryz.f12, [va wu, vl [.int .i64]]⟩
noncomputable def mT (aU : Int) (aM : aG) (dW : Int) : Option (Int × Unit) := Option.bind (kI aM dW) fun y1 => bif decide (y1.1 < 0) then some ((-1), ()) else some (y1.1, ())
theorem k12 : F12.Kn [⟨.tmp 4, false, [.int .i64]⟩] 12 mT := F12.mn Tryz.func12 fun x => by kernel_rfl
def Zw := kw k12
def F41 : FC Tryz.prog := ⟨dO, [], fR, Tryz.f41, [va Bi, vl [.int .i64]]⟩
noncomputable def pH (aU aM aN : Int) (aH : ByteArray) (dW : Int) : Option (Int × Unit) := bif decide (i64.wrap (dW - (aH.size : Int)) < 0) then some ((-1), ()) else some (i64.wrap (dW - (aH.size : Int)), ())
theorem k41 : F41.Kn [⟨.tmp 4, false, [.int .i64]⟩] 41 pH := F41.mn Tryz.func41 fun x => by kernel_rfl
def K41 := kw k41
def RN : FC Tryz.prog := ⟨dO, [K41], fR, Tryz.f94, [vl [.shr aC], vl [.int .i64]]⟩
noncomputable def pP (a0 : ak) (dW i5 : Int) : Option (Sum Ju (Sum (Int × Unit) (Int × Unit))) := bif decide (i5 < (a0.length : Int)) then bif decide (0 ≤ i5) then Option.bind ((a0)[i5.toNat]?) fun r1 => Option.bind (pH r1.1 r1.2.1 r1.2.2.1 r1.2.2.2.1 dW) fun y2 => bif decide (y2.1 < 0) then some (.inr (.inr ((-1), ()))) else some (.inl (a0, y2.1, i64.wrap (i5 + 1), ())) else none else some (.inr (.inl (dW, ())))
noncomputable def jP (x : Ju) : Option (Sum Ju (Sum (Int × Unit) (Int × Unit))) := pP x.1 x.2.1 x.2.2.1
def TO : LD := ⟨0, RN.lp 0, sp [(0, vl [.shr aC]), (0, vl [.int .i64]), (3, vl [.int .i64])] 22, sp [(1, vl [.int .i64])] 26, sp [(4, vl [.int .i64])] 23, jP⟩
theorem TP : RN.Ok TO := RN.mm fun x => by kernel_rfl
def TQ : RN.KL := ⟨_, TP⟩
noncomputable def ns (a0 : ak) (dW : Int) : Option (Int × Unit) := bif decide (i64.wrap (dW - (a0.length : Int)) < 0) then some ((-1), ()) else cM (aD jP (a0, i64.wrap (dW - (a0.length : Int)), 0, ())) (fun y1 => some (y1.1, ())) (fun y2 => some (y2.1, ()))
theorem k94 : RN.Kn [⟨.tmp 4, false, [.int .i64]⟩] 94 ns := RN.kf [TQ] Tryz.func94 (by kernel_rfl) (by kernel_rfl) fun x => by kernel_rfl
def K94 := kw k94
def Ii : FC Tryz.prog := ⟨dO, [], fR, Tryz.f146, [vl [.shr uo], vl [.int .i64]]⟩
noncomputable def nt (a0 : hZ) (dW i5 : Int) : Option (Sum Jv (Sum (Int × Unit) (Int × Unit))) := bif decide (i5 < (a0.length : Int)) then bif decide (0 ≤ i5) then Option.bind ((a0)[i5.toNat]?) fun r1 => bif decide (i64.wrap (dW - (r1.1.size : Int)) < 0) then some (.inr (.inr ((-1), ()))) else some (.inl (a0, i64.wrap (dW - (r1.1.size : Int)), i64.wrap (i5 + 1), ())) else none else some (.inr (.inl (dW, ())))
noncomputable def iE (x : Jv) : Option (Sum Jv (Sum (Int × Unit) (Int × Unit))) := nt x.1 x.2.1 x.2.2.1
def OY : LD := ⟨0, Ii.lp 0, sp [(0, vl [.shr uo]), (0, vl [.int .i64]), (3, vl [.int .i64])] 23, sp [(1, vl [.int .i64])] 27, sp [(4, vl [.int .i64])] 24, iE⟩
theorem OZ : Ii.Ok OY := Ii.mm fun x => by kernel_rfl
def O0 : Ii.KL := ⟨_, OZ⟩
noncomputable def nu (a0 : hZ) (dW : Int) : Option (Int × Unit) := bif decide (i64.wrap (dW - (a0.length : Int)) < 0) then some ((-1), ()) else cM (aD iE (a0, i64.wrap (dW - (a0.length : Int)), 0, ())) (fun y1 => some (y1.1, ())) (fun y2 => some (y2.1, ()))
theorem Zx : Ii.Kn [⟨.tmp 4, false, [.int .i64]⟩] 146 nu := Ii.kf [O0] Tryz.func146 (by kernel_rfl) (by kernel_rfl) fun x => by kernel_rfl
def Zy := kw Zx
def F31 : FC Tryz.prog := ⟨dO, [Xv], fR, Tryz.f31, [va Fi, vl [.int .i64]]⟩
noncomputable def qg (aU aM aN aH bc : Int) (aS : aG) (dW : Int) : Option (Int × Unit) := Option.bind (kI aS dW) fun y1 => bif decide (y1.1 < 0) then some ((-1), ()) else some (y1.1, ())
theorem k31 : F31.Kn [⟨.tmp 4, false, [.int .i64]⟩] 31 qg := F31.mn Tryz.func31 fun x => by kernel_rfl
def Xw := kw k31
def F62 : FC Tryz.prog := ⟨dO, [Zw, K94, Xv, Zy, Xw], fR, Tryz.f62, [va Ig, vl [.int .i64]]⟩
noncomputable def rD (aU aM : Int) (aN : aG) (aH : ak) (bc : aG) (aS : hZ) (bS bM fy fA cB cC cD cE cF : Int) (bC : aG) (dW : Int) : Option (Int × Unit) := Option.bind (mT aM aN dW) fun y1 => bif decide (y1.1 < 0) then some ((-1), ()) else Option.bind (ns aH y1.1) fun y2 => bif decide (y2.1 < 0) then some ((-1), ()) else Option.bind (kI bc y2.1) fun y3 => bif decide (y3.1 < 0) then some ((-1), ()) else Option.bind (nu aS y3.1) fun y4 => bif decide (y4.1 < 0) then some ((-1), ()) else Option.bind (qg cB cC cD cE cF bC y4.1) fun y5 => bif decide (y5.1 < 0) then some ((-1), ()) else some (y5.1, ())
theorem k62 : F62.Kn [⟨.tmp 4, false, [.int .i64]⟩] 62 rD := F62.mn Tryz.func62 fun x => by kernel_rfl
def K62 := kw k62
def F25 : FC Tryz.prog := ⟨dO, [K94], fR, Tryz.f25, [va DI, vl [.int .i64]]⟩
noncomputable def j1 (aU aM aN : Int) (aH : ak) (dW : Int) : Option (Int × Unit) := Option.bind (ns aH dW) fun y1 => bif decide (y1.1 < 0) then some ((-1), ()) else some (y1.1, ())
theorem k25 : F25.Kn [⟨.tmp 4, false, [.int .i64]⟩] 25 j1 := F25.mn Tryz.func25 fun x => by kernel_rfl
def TR := kw k25
def RO : FC Tryz.prog := ⟨dO, [TR], fR, Tryz.f63, [vl vB, vl [.int .i64]]⟩
noncomputable def nv (a0 : af) (dW i5 : Int) : Option (Sum MB (Sum (Int × Unit) (Int × Unit))) := bif decide (i5 < (a0.length : Int)) then bif decide (0 ≤ i5) then Option.bind ((a0)[i5.toNat]?) fun r1 => Option.bind (j1 r1.1 r1.2.1 r1.2.2.1 r1.2.2.2.1 dW) fun y2 => bif decide (y2.1 < 0) then some (.inr (.inr ((-1), ()))) else some (.inl (a0, y2.1, i64.wrap (i5 + 1), ())) else none else some (.inr (.inl (dW, ())))
noncomputable def iF (x : MB) : Option (Sum MB (Sum (Int × Unit) (Int × Unit))) := nv x.1 x.2.1 x.2.2.1
def TS : LD := ⟨0, RO.lp 0, sp [(0, vl vB), (0, vl [.int .i64]), (3, vl [.int .i64])] 22, sp [(1, vl [.int .i64])] 26, sp [(4, vl [.int .i64])] 23, iF⟩
theorem TT : RO.Ok TS := RO.mm fun x => by kernel_rfl
def TU : RO.KL := ⟨_, TT⟩
noncomputable def nw (a0 : af) (dW : Int) : Option (Int × Unit) := bif decide (i64.wrap (dW - (a0.length : Int)) < 0) then some ((-1), ()) else cM (aD iF (a0, i64.wrap (dW - (a0.length : Int)), 0, ())) (fun y1 => some (y1.1, ())) (fun y2 => some (y2.1, ()))
theorem k63 : RO.Kn [⟨.tmp 4, false, [.int .i64]⟩] 63 nw := RO.kf [TU] Tryz.func63 (by kernel_rfl) (by kernel_rfl) fun x => by kernel_rfl
def K63 := kw k63
def TV : FC Tryz.prog := ⟨dO, [Zw, K41, Xv], fR, Tryz.f147, [va TI, vl [.int .i64]]⟩
noncomputable def qh (aU aM : Int) (aN : aG) (aH bc aS : Int) (bS : ByteArray) (bM : aG) (dW : Int) : Option (Int × Unit) := Option.bind (mT aM aN dW) fun y1 => bif decide (y1.1 < 0) then some ((-1), ()) else Option.bind (pH aH bc aS bS y1.1) fun y2 => bif decide (y2.1 < 0) then some ((-1), ()) else Option.bind (kI bM y2.1) fun y3 => bif decide (y3.1 < 0) then some ((-1), ()) else some (y3.1, ())
theorem Zz : TV.Kn [⟨.tmp 4, false, [.int .i64]⟩] 147 qh := TV.mn Tryz.func147 fun x => by kernel_rfl
def ZA := kw Zz
def RQ : FC Tryz.prog := ⟨dO, [ZA], fR, Tryz.f64, [vl Hg, vl [.int .i64]]⟩
noncomputable def oP (a0 : ah) (dW i5 : Int) : Option (Sum MC (Sum (Int × Unit) (Int × Unit))) := bif decide (i5 < (a0.length : Int)) then bif decide (0 ≤ i5) then Option.bind ((a0)[i5.toNat]?) fun r1 => Option.bind (qh r1.1 r1.2.1 r1.2.2.1 r1.2.2.2.1 r1.2.2.2.2.1 r1.2.2.2.2.2.1 r1.2.2.2.2.2.2.1 r1.2.2.2.2.2.2.2.1 dW) fun y2 => bif decide (y2.1 < 0) then some (.inr (.inr ((-1), ()))) else some (.inl (a0, y2.1, i64.wrap (i5 + 1), ())) else none else some (.inr (.inl (dW, ())))
noncomputable def jg (x : MC) : Option (Sum MC (Sum (Int × Unit) (Int × Unit))) := oP x.1 x.2.1 x.2.2.1
def TW : LD := ⟨0, RQ.lp 0, sp [(0, vl Hg), (0, vl [.int .i64]), (3, vl [.int .i64])] 22, sp [(1, vl [.int .i64])] 26, sp [(4, vl [.int .i64])] 23, jg⟩
theorem TX : RQ.Ok TW := RQ.mm fun x => by kernel_rfl
def TY : RQ.KL := ⟨_, TX⟩
noncomputable def pk (a0 : ah) (dW : Int) : Option (Int × Unit) := bif decide (i64.wrap (dW - (a0.length : Int)) < 0) then some ((-1), ()) else cM (aD jg (a0, i64.wrap (dW - (a0.length : Int)), 0, ())) (fun y1 => some (y1.1, ())) (fun y2 => some (y2.1, ()))
theorem k64 : RQ.Kn [⟨.tmp 4, false, [.int .i64]⟩] 64 pk := RQ.kf [TY] Tryz.func64 (by kernel_rfl) (by kernel_rfl) fun x => by kernel_rfl
def K64 := kw k64
def F11 : FC Tryz.prog := ⟨dO, [K62, Zw, K63, K64], fR, Tryz.f11, [va EL, vl [.int .i64]]⟩
noncomputable def lZ (aU : Int) (aM : Bool) (aN aH : Int) (bc : aG) (aS : ak) (bS : aG) (bM : hZ) (fy fA cB cC cD cE cF bC ic : Int) (cW : aG) (kJ kK ie : Int) (db : aG) (de : af) (dq : ah) (dW : Int) : Option (Int × Unit) := Option.bind (rD aN aH bc aS bS bM fy fA cB cC cD cE cF bC ic cW dW) fun y1 => bif decide (y1.1 < 0) then some ((-1), ()) else Option.bind (mT ie db y1.1) fun y2 => bif decide (y2.1 < 0) then some ((-1), ()) else Option.bind (nw de y2.1) fun y3 => bif decide (y3.1 < 0) then some ((-1), ()) else Option.bind (pk dq y3.1) fun y4 => bif decide (y4.1 < 0) then some ((-1), ()) else some (y4.1, ())
theorem k11 : F11.Kn [⟨.tmp 4, false, [.int .i64]⟩] 11 lZ := F11.mn Tryz.func11 fun x => by kernel_rfl
def K11 := kw k11
def RR : FC Tryz.prog := ⟨dO, [], fR, Tryz.f77, [vl [.shr im]]⟩
noncomputable def qR (a0 dY : aG) (i4 : Int) : Option (Sum MD (Sum (aG × Unit) Unit)) := bif decide (i4 < (a0.length : Int)) then bif decide (0 ≤ i4) then Option.bind ((a0)[i4.toNat]?) fun r1 => bif decide (0 ≤ i4) then bif Nat.blt (i4.toNat) (List.length dY) then Option.bind ((dY)[i4.toNat]?) fun r2 => some (.inl (a0, List.set dY (i4.toNat) (r1.1, ()), i64.wrap (i4 + 1), ())) else none else none else none else some (.inr (.inl (dY, ())))
noncomputable def jh (x : MD) : Option (Sum MD (Sum (aG × Unit) Unit)) := qR x.1 x.2.1 x.2.2.1
def TZ : LD := ⟨0, RR.lp 0, sp [(0, vl [.shr im]), (2, vl [.own im]), (0, vl [.int .i64])] 18, sp [(3, vl [.own im])] 19, sp [] 23, jh⟩
theorem T0 : RR.Ok TZ := RR.mm fun x => by kernel_rfl
def T1 : RR.KL := ⟨_, T0⟩
noncomputable def kL (a0 : aG) : Option (aG × Unit) := bif decide ((a0.length : Int) = (a0.length : Int)) then bif decide (0 ≤ (a0.length : Int)) then bif Nat.ble (((a0.length : Int).toNat) * 8) lim then cM (aD jh (a0, List.replicate ((a0.length : Int).toNat) (0, ()), 0, ())) (fun y1 => some (y1.1, ())) (fun y2 => none) else none else none else none
theorem k77 : RR.Kn [⟨.tmp 2, false, [.own im]⟩] 77 kL := RR.kf [T1] Tryz.func77 (by kernel_rfl) (by kernel_rfl) fun x => by kernel_rfl
def Xx := kw k77
def F15 : FC Tryz.prog := ⟨dO, [Xx], fR, Tryz.f15, [va wu]⟩
noncomputable def mU (aU : Int) (aM : aG) : Option (Int × aG × Unit) := Option.bind (kL aM) fun y1 => some (aU, y1.1, ())
theorem k15 : F15.Kn [⟨.cell 2, true, MH⟩] 15 mU := F15.mn Tryz.func15 fun x => by kernel_rfl
def ZB := kw k15
def F43 : FC Tryz.prog := ⟨dO, [], fR, Tryz.f43, [va Bi]⟩
noncomputable def rE (aU aM aN : Int) (aH : ByteArray) : Option (mD) := some (aU, aM, aN, aH, ())
theorem k43 : F43.Kn [⟨.cell 2, true, Bi⟩] 43 rE := F43.mn Tryz.func43 fun x => by kernel_rfl
def K43 := kw k43
def RS : FC Tryz.prog := ⟨dO, [K43], fR, Tryz.f98, [vl [.shr aC]]⟩
noncomputable def pQ (a0 dY : ak) (i4 : Int) : Option (Sum RJ (Sum (ak × Unit) Unit)) := bif decide (i4 < (a0.length : Int)) then bif decide (0 ≤ i4) then Option.bind ((a0)[i4.toNat]?) fun r1 => Option.bind (rE r1.1 r1.2.1 r1.2.2.1 r1.2.2.2.1) fun y2 => bif decide (0 ≤ i4) then bif Nat.blt (i4.toNat) (List.length dY) then Option.bind ((dY)[i4.toNat]?) fun r3 => some (.inl (a0, List.set dY (i4.toNat) (y2.1, y2.2.1, y2.2.2.1, y2.2.2.2.1, ()), i64.wrap (i4 + 1), ())) else none else none else none else some (.inr (.inl (dY, ())))
noncomputable def iq (x : RJ) : Option (Sum RJ (Sum (ak × Unit) Unit)) := pQ x.1 x.2.1 x.2.2.1
def T2 : LD := ⟨0, RS.lp 0, sp [(0, vl [.shr aC]), (2, vl [.own aC]), (0, vl [.int .i64])] 19, sp [(3, vl [.own aC])] 20, sp [] 24, iq⟩
theorem T3 : RS.Ok T2 := RS.mm fun x => by kernel_rfl
def T4 : RS.KL := ⟨_, T3⟩
noncomputable def nz (a0 : ak) : Option (ak × Unit) := bif decide ((a0.length : Int) = (a0.length : Int)) then bif decide (0 ≤ (a0.length : Int)) then bif Nat.ble (((a0.length : Int).toNat) * 40) lim then cM (aD iq (a0, List.replicate ((a0.length : Int).toNat) (0, 0, 0, ByteArray.empty, ()), 0, ())) (fun y1 => some (y1.1, ())) (fun y2 => none) else none else none else none
theorem k98 : RS.Kn [⟨.tmp 2, false, [.own aC]⟩] 98 nz := RS.kf [T4] Tryz.func98 (by kernel_rfl) (by kernel_rfl) fun x => by kernel_rfl
def K98 := kw k98
def Ij : FC Tryz.prog := ⟨dO, [], fR, Tryz.f154, [vl [.shr uo]]⟩
noncomputable def nA (a0 dY : hZ) (i4 : Int) : Option (Sum RK (Sum (hZ × Unit) Unit)) := bif decide (i4 < (a0.length : Int)) then bif decide (0 ≤ i4) then Option.bind ((a0)[i4.toNat]?) fun r1 => bif decide (0 ≤ i4) then bif Nat.blt (i4.toNat) (List.length dY) then Option.bind ((dY)[i4.toNat]?) fun r2 => some (.inl (a0, List.set dY (i4.toNat) (r1.1, ()), i64.wrap (i4 + 1), ())) else none else none else none else some (.inr (.inl (dY, ())))
noncomputable def fV (x : RK) : Option (Sum RK (Sum (hZ × Unit) Unit)) := nA x.1 x.2.1 x.2.2.1
def O1 : LD := ⟨0, Ij.lp 0, sp [(0, vl [.shr uo]), (2, vl [.own uo]), (0, vl [.int .i64])] 18, sp [(3, vl [.own uo])] 19, sp [] 23, fV⟩
theorem O2 : Ij.Ok O1 := Ij.mm fun x => by kernel_rfl
def O3 : Ij.KL := ⟨_, O2⟩
noncomputable def nB (a0 : hZ) : Option (hZ × Unit) := bif decide ((a0.length : Int) = (a0.length : Int)) then bif decide (0 ≤ (a0.length : Int)) then bif Nat.ble (((a0.length : Int).toNat) * 16) lim then cM (aD fV (a0, List.replicate ((a0.length : Int).toNat) (ByteArray.empty, ()), 0, ())) (fun y1 => some (y1.1, ())) (fun y2 => none) else none else none else none
theorem ZC : Ij.Kn [⟨.tmp 2, false, [.own uo]⟩] 154 nB := Ij.kf [O3] Tryz.func154 (by kernel_rfl) (by kernel_rfl) fun x => by kernel_rfl
def ZD := kw ZC
def F33 : FC Tryz.prog := ⟨dO, [Xx], fR, Tryz.f33, [va Fi]⟩
noncomputable def qi (aU aM aN aH bc : Int) (aS : aG) : Option (mE) := Option.bind (kL aS) fun y1 => some (aU, aM, aN, aH, bc, y1.1, ())
theorem k33 : F33.Kn [⟨.cell 2, true, MI⟩] 33 qi := F33.mn Tryz.func33 fun x => by kernel_rfl
def Xy := kw k33
def F74 : FC Tryz.prog := ⟨dO, [ZB, K98, Xx, ZD, Xy], fR, Tryz.f74, [va Ig]⟩
noncomputable def rF (aU aM : Int) (aN : aG) (aH : ak) (bc : aG) (aS : hZ) (bS bM fy fA cB cC cD cE cF : Int) (bC : aG) : Option (bE) := Option.bind (mU aM aN) fun y1 => Option.bind (nz aH) fun y2 => Option.bind (kL bc) fun y3 => Option.bind (nB aS) fun y4 => Option.bind (qi cB cC cD cE cF bC) fun y5 => some (aU, y1.1, y1.2.1, y2.1, y3.1, y4.1, bS, bM, fy, fA, y5)
theorem k74 : F74.Kn [⟨.cell 2, true, Ih⟩] 74 rF := F74.mn Tryz.func74 fun x => by kernel_rfl
def K74 := kw k74
def F27 : FC Tryz.prog := ⟨dO, [K98], fR, Tryz.f27, [va DI]⟩
noncomputable def cw (aU aM aN : Int) (aH : ak) : Option (bw) := Option.bind (nz aH) fun y1 => some (aU, aM, aN, y1.1, ())
theorem k27 : F27.Kn [⟨.cell 2, true, EM⟩] 27 cw := F27.mn Tryz.func27 fun x => by kernel_rfl
def T5 := kw k27
def RU : FC Tryz.prog := ⟨dO, [T5], fR, Tryz.f75, [vl vB]⟩
noncomputable def nC (a0 dY : af) (i4 : Int) : Option (Sum ME (Sum (af × Unit) Unit)) := bif decide (i4 < (a0.length : Int)) then bif decide (0 ≤ i4) then Option.bind ((a0)[i4.toNat]?) fun r1 => Option.bind (cw r1.1 r1.2.1 r1.2.2.1 r1.2.2.2.1) fun y2 => bif decide (0 ≤ i4) then bif Nat.blt (i4.toNat) (List.length dY) then Option.bind ((dY)[i4.toNat]?) fun _ => some (.inl (a0, List.set dY (i4.toNat) (y2.1, y2.2.1, y2.2.2.1, y2.2.2.2.1, ()), i64.wrap (i4 + 1), ())) else none else none else none else some (.inr (.inl (dY, ())))
noncomputable def fW (x : ME) : Option (Sum ME (Sum (af × Unit) Unit)) := nC x.1 x.2.1 x.2.2.1
def T6 : LD := ⟨0, RU.lp 0, sp [(0, vl vB), (2, vl C1), (0, vl [.int .i64])] 19, sp [(3, vl C1)] 20, sp [] 24, fW⟩
theorem T7 : RU.Ok T6 := RU.mm fun x => by kernel_rfl
def T8 : RU.KL := ⟨_, T7⟩
noncomputable def nD (a0 : af) : Option (af × Unit) := bif decide ((a0.length : Int) = (a0.length : Int)) then bif decide (0 ≤ (a0.length : Int)) then bif Nat.ble (((a0.length : Int).toNat) * 48) lim then cM (aD fW (a0, List.replicate ((a0.length : Int).toNat) (0, 0, 0, [], ()), 0, ())) (fun y1 => some (y1.1, ())) (fun y2 => none) else none else none else none
theorem k75 : RU.Kn [⟨.tmp 2, false, C1⟩] 75 nD := RU.kf [T8] Tryz.func75 (by kernel_rfl) (by kernel_rfl) fun x => by kernel_rfl
def K75 := kw k75
def T9 : FC Tryz.prog := ⟨dO, [ZB, K43, Xx], fR, Tryz.f155, [va TI]⟩
noncomputable def qj (aU aM : Int) (aN : aG) (aH bc aS : Int) (bS : ByteArray) (bM : aG) : Option (bF) := Option.bind (mU aM aN) fun y1 => Option.bind (rE aH bc aS bS) fun y2 => Option.bind (kL bM) fun y3 => some (aU, y1.1, y1.2.1, y2.1, y2.2.1, y2.2.2.1, y2.2.2.2.1, y3.1, ())
theorem ZE : T9.Kn [⟨.cell 2, true, TJ⟩] 155 qj := T9.mn Tryz.func155 fun x => by kernel_rfl
def ZF := kw ZE
def RW : FC Tryz.prog := ⟨dO, [ZF], fR, Tryz.f76, [vl Hg]⟩
noncomputable def oQ (a0 dY : ah) (i4 : Int) : Option (Sum MF (Sum (ah × Unit) Unit)) := bif decide (i4 < (a0.length : Int)) then bif decide (0 ≤ i4) then Option.bind ((a0)[i4.toNat]?) fun r1 => Option.bind (qj r1.1 r1.2.1 r1.2.2.1 r1.2.2.2.1 r1.2.2.2.2.1 r1.2.2.2.2.2.1 r1.2.2.2.2.2.2.1 r1.2.2.2.2.2.2.2.1) fun y2 => bif decide (0 ≤ i4) then bif Nat.blt (i4.toNat) (List.length dY) then Option.bind ((dY)[i4.toNat]?) fun _ => some (.inl (a0, List.set dY (i4.toNat) (y2.1, y2.2.1, y2.2.2.1, y2.2.2.2.1, y2.2.2.2.2.1, y2.2.2.2.2.2.1, y2.2.2.2.2.2.2.1, y2.2.2.2.2.2.2.2.1, ()), i64.wrap (i4 + 1), ())) else none else none else none else some (.inr (.inl (dY, ())))
noncomputable def gS (x : MF) : Option (Sum MF (Sum (ah × Unit) Unit)) := oQ x.1 x.2.1 x.2.2.1
def Ua : LD := ⟨0, RW.lp 0, sp [(0, vl Hg), (2, vl C2), (0, vl [.int .i64])] 19, sp [(3, vl C2)] 20, sp [] 24, gS⟩
theorem Ub : RW.Ok Ua := RW.mm fun x => by kernel_rfl
def Uc : RW.KL := ⟨_, Ub⟩
noncomputable def pn (a0 : ah) : Option (ah × Unit) := bif decide ((a0.length : Int) = (a0.length : Int)) then bif decide (0 ≤ (a0.length : Int)) then bif Nat.ble (((a0.length : Int).toNat) * 104) lim then cM (aD gS (a0, List.replicate ((a0.length : Int).toNat) (0, 0, [], 0, 0, 0, ByteArray.empty, [], ()), 0, ())) (fun y1 => some (y1.1, ())) (fun y2 => none) else none else none else none
theorem k76 : RW.Kn [⟨.tmp 2, false, C2⟩] 76 pn := RW.kf [Uc] Tryz.func76 (by kernel_rfl) (by kernel_rfl) fun x => by kernel_rfl
def K76 := kw k76
def F14 : FC Tryz.prog := ⟨dO, [K74, ZB, K75, K76], fR, Tryz.f14, [va EL]⟩
noncomputable def gL (aU : Int) (aM : Bool) (aN aH : Int) (bc : aG) (aS : ak) (bS : aG) (bM : hZ) (fy fA cB cC cD cE cF bC ic : Int) (cW : aG) (kJ kK ie : Int) (db : aG) (de : af) (dq : ah) : Option (ae) := Option.bind (rF aN aH bc aS bS bM fy fA cB cC cD cE cF bC ic cW) fun y1 => Option.bind (mU ie db) fun y2 => Option.bind (nD de) fun y3 => Option.bind (pn dq) fun y4 => some (aU, aM, y1.1, y1.2.1, y1.2.2.1, y1.2.2.2.1, y1.2.2.2.2.1, y1.2.2.2.2.2.1, y1.2.2.2.2.2.2.1, y1.2.2.2.2.2.2.2.1, y1.2.2.2.2.2.2.2.2.1, y1.2.2.2.2.2.2.2.2.2.1, y1.2.2.2.2.2.2.2.2.2.2.1, y1.2.2.2.2.2.2.2.2.2.2.2.1, y1.2.2.2.2.2.2.2.2.2.2.2.2.1, y1.2.2.2.2.2.2.2.2.2.2.2.2.2.1, y1.2.2.2.2.2.2.2.2.2.2.2.2.2.2.1, y1.2.2.2.2.2.2.2.2.2.2.2.2.2.2.2.1, kJ, kK, y2.1, y2.2.1, y3.1, y4.1, ())
theorem k14 : F14.Kn [⟨.cell 2, true, EN⟩] 14 gL := F14.mn Tryz.func14 fun x => by kernel_rfl
def K14 := kw k14
def Ud : FC Tryz.prog := ⟨dO, [], fR, Tryz.f126, [va Fi]⟩
noncomputable def kx (yf yh xv zn zo : Int) (wv : aG) : Option (mE) := bif Nat.ble ((0 + (List.length wv)) * 8) lim then some (yf, yh, xv, zn, zo, [] ++ wv, ()) else none
theorem ZG : Ud.Kn [⟨.cell 2, true, MI⟩] 126 kx := Ud.mn Tryz.func126 fun x => by kernel_rfl
def ZH := kw ZG
def Ue : FC Tryz.prog := ⟨dO, [ZH], fR, Tryz.f118, [va Ig]⟩
noncomputable def lk (jQ jz : Int) (fS : aG) (gr : ak) (eX : aG) (gT : hZ) (kM kN kO kP ff fh fi fj fk : Int) (dH : aG) : Option (bE) := bif Nat.ble ((0 + (List.length fS)) * 8) lim then bif Nat.ble ((0 + (List.length gr)) * 40) lim then bif Nat.ble ((0 + (List.length eX)) * 8) lim then bif Nat.ble ((0 + (List.length gT)) * 16) lim then Option.bind (kx ff fh fi fj fk dH) fun y1 => some (jQ, jz, [] ++ fS, [] ++ gr, [] ++ eX, [] ++ gT, kM, kN, kO, kP, y1) else none else none else none else none
theorem ZI : Ue.Kn [⟨.cell 2, true, Ih⟩] 118 lk := Ue.mn Tryz.func118 fun x => by kernel_rfl
def ZJ := kw ZI
def F71 : FC Tryz.prog := ⟨dO, [], fR, Tryz.f71, [va DI]⟩
noncomputable def ia (Bq zp AQ : Int) (zq : ak) : Option (bw) := bif Nat.ble ((0 + (List.length zq)) * 40) lim then some (Bq, zp, AQ, [] ++ zq, ()) else none
theorem k71 : F71.Kn [⟨.cell 2, true, EM⟩] 71 ia := F71.mn Tryz.func71 fun x => by kernel_rfl
def K71 := kw k71
def Ik : FC Tryz.prog := ⟨dO, [K71], fR, Tryz.f150, [vl vB]⟩
noncomputable def eI (aV dY : af) (i4 : Int) : Option (Sum ME (Sum (af × Unit) Unit)) := bif decide (i4 < (aV.length : Int)) then bif decide (0 ≤ i4) then Option.bind ((aV)[i4.toNat]?) fun r1 => Option.bind (ia r1.1 r1.2.1 r1.2.2.1 r1.2.2.2.1) fun y2 => bif Nat.ble (((List.length dY) + 1) * 48) lim then some (.inl (aV, dY ++ [(y2.1, y2.2.1, y2.2.2.1, y2.2.2.2.1, ())], i64.wrap (i4 + 1), ())) else none else none else some (.inr (.inl (dY, ())))
noncomputable def bN (x : ME) : Option (Sum ME (Sum (af × Unit) Unit)) := eI x.1 x.2.1 x.2.2.1
def O4 : LD := ⟨0, Ik.lp 0, sp [(0, vl vB), (2, vl C1), (0, vl [.int .i64])] 17, sp [(3, vl C1)] 18, sp [] 22, bN⟩
theorem O5 : Ik.Ok O4 := Ik.mm fun x => by kernel_rfl
def O6 : Ik.KL := ⟨_, O5⟩
noncomputable def eO (aV : af) : Option (af × Unit) := cM (aD bN (aV, [], 0, ())) (fun y1 => some (y1.1, ())) (fun y2 => none)
theorem ZK : Ik.Kn [⟨.tmp 2, false, C1⟩] 150 eO := Ik.kf [O6] Tryz.func150 (by kernel_rfl) (by kernel_rfl) fun x => by kernel_rfl
def ZL := kw ZK
def Il : FC Tryz.prog := ⟨dO, [], fR, Tryz.f144, [vl Hg]⟩
noncomputable def fl (aV dY : ah) (i4 : Int) : Option (Sum MF (Sum (ah × Unit) Unit)) := bif decide (i4 < (aV.length : Int)) then bif decide (0 ≤ i4) then Option.bind ((aV)[i4.toNat]?) fun r1 => bif Nat.ble ((0 + (List.length r1.2.2.1)) * 8) lim then bif Nat.ble ((0 + (List.length r1.2.2.2.2.2.2.2.1)) * 8) lim then bif Nat.ble (((List.length dY) + 1) * 104) lim then some (.inl (aV, dY ++ ([(r1.1, r1.2.1, [] ++ r1.2.2.1, r1.2.2.2.1, r1.2.2.2.2.1, r1.2.2.2.2.2.1, r1.2.2.2.2.2.2.1, [] ++ r1.2.2.2.2.2.2.2.1, ())]), i64.wrap (i4 + 1), ())) else none else none else none else none else some (.inr (.inl (dY, ())))
noncomputable def bZ (x : MF) : Option (Sum MF (Sum (ah × Unit) Unit)) := fl x.1 x.2.1 x.2.2.1
def O7 : LD := ⟨0, Il.lp 0, sp [(0, vl Hg), (2, vl C2), (0, vl [.int .i64])] 30, sp [(3, vl C2)] 31, sp [] 35, bZ⟩
theorem O8 : Il.Ok O7 := Il.mm fun x => by kernel_rfl
def O9 : Il.KL := ⟨_, O8⟩
noncomputable def ft (aV : ah) : Option (ah × Unit) := cM (aD bZ (aV, [], 0, ())) (fun y1 => some (y1.1, ())) (fun y2 => none)
theorem ZM : Il.Kn [⟨.tmp 2, false, C2⟩] 144 ft := Il.kf [O9] Tryz.func144 (by kernel_rfl) (by kernel_rfl) fun x => by kernel_rfl
def ZN := kw ZM
def F69 : FC Tryz.prog := ⟨dO, [ZJ, ZL, ZN], fR, Tryz.f69, [va EL]⟩
noncomputable def fB (cJ : Int) (dI : Bool) (dj cO : Int) (cS : aG) (di : ak) (cT : aG) (cU : hZ) (dx dy bT bL bU bV bW bX bY : Int) (bG : aG) (bo bk aO : Int) (aJ : aG) (ba : af) (bp : ah) : Option (ae) := Option.bind (lk dj cO cS di cT cU dx dy bT bL bU bV bW bX bY bG) fun y1 => bif Nat.ble ((0 + (List.length aJ)) * 8) lim then Option.bind (eO ba) fun y2 => Option.bind (ft bp) fun y3 => some (cJ, dI, y1.1, y1.2.1, y1.2.2.1, y1.2.2.2.1, y1.2.2.2.2.1, y1.2.2.2.2.2.1, y1.2.2.2.2.2.2.1, y1.2.2.2.2.2.2.2.1, y1.2.2.2.2.2.2.2.2.1, y1.2.2.2.2.2.2.2.2.2.1, y1.2.2.2.2.2.2.2.2.2.2.1, y1.2.2.2.2.2.2.2.2.2.2.2.1, y1.2.2.2.2.2.2.2.2.2.2.2.2.1, y1.2.2.2.2.2.2.2.2.2.2.2.2.2.1, y1.2.2.2.2.2.2.2.2.2.2.2.2.2.2.1, y1.2.2.2.2.2.2.2.2.2.2.2.2.2.2.2.1, bo, bk, aO, [] ++ aJ, y2.1, y3.1, ()) else none
theorem k69 : F69.Kn [⟨.cell 2, true, EN⟩] 69 fB := F69.mn Tryz.func69 fun x => by kernel_rfl
def K69 := kw k69
def Uf : FC Tryz.prog := ⟨dO, [], fR, Tryz.f148, [vl [.int .i64], vl [.int .i64], vl [.int .i64]]⟩
noncomputable def bJ (x0 F6 KO : Int) : Option (Bool × Unit) := bif decide (F6 ≤ x0) then some (decide (x0 ≤ KO), ()) else some (false, ())
theorem ZO : Uf.Kn [⟨.tmp 6, false, [.bool]⟩] 148 bJ := Uf.mn Tryz.func148 fun x => by kernel_rfl
def F7 := kw ZO
def F96 : FC Tryz.prog := ⟨dO, [], fR, Tryz.f96, [va wu]⟩
noncomputable def fK (aX : Int) (aY : aG) : Option (Bool × Unit) := bif decide (aX = 0) then some (decide ((aY.length : Int) = 0), ()) else some (false, ())
theorem k96 : F96.Kn [⟨.tmp 2, false, [.bool]⟩] 96 fK := F96.mn Tryz.func96 fun x => by kernel_rfl
def ZP := kw k96
def Im : FC Tryz.prog := ⟨dO, [], dr 6 (.a 0 (.a 1 (.a 2 (.t 3 (.a 4 (.a 5 (.a 6 (.t 7 (.a 8 .nil))))))))), Tryz.f234, [vl [.shr im], vl [.shr im]]⟩
noncomputable def qa (a0 b1 : aG) (i5 : Int) : Option (Sum MD (Sum Unit (Bool × Unit))) := bif decide (i5 < (a0.length : Int)) then bif decide (0 ≤ i5) then Option.bind ((a0)[i5.toNat]?) fun r1 => bif decide (0 ≤ i5) then Option.bind ((b1)[i5.toNat]?) fun r2 => bif !decide (r1.1 = r2.1) then some (.inr (.inr (false, ()))) else some (.inl (a0, b1, i64.wrap (i5 + 1), ())) else none else none else some (.inr (.inl (())))
noncomputable def gu (x : MD) : Option (Sum MD (Sum Unit (Bool × Unit))) := qa x.1 x.2.1 x.2.2.1
def Pb : LD := ⟨0, Im.lp 0, sp [(0, vl [.shr im]), (0, vl [.shr im]), (3, vl [.int .i64])] 21, sp [] 27, sp [(4, vl [.bool])] 22, gu⟩
theorem Pc : Im.Ok Pb := Im.mm fun x => by kernel_rfl
def Pd : Im.KL := ⟨_, Pc⟩
noncomputable def ll (a0 b1 : aG) : Option (Bool × Unit) := bif !decide ((a0.length : Int) = (b1.length : Int)) then some (false, ()) else cM (aD gu (a0, b1, 0, ())) (fun y1 => some (true, ())) (fun y2 => some (y2.1, ()))
theorem ZQ : Im.Kn [⟨.tmp 4, false, [.bool]⟩] 234 ll := Im.kf [Pd] Tryz.func234 (by kernel_rfl) (by kernel_rfl) fun x => by kernel_rfl
def ZR := kw ZQ
def Ug : FC Tryz.prog := ⟨dO, [ZR], fR, Tryz.f213, [va Fi, va Fi]⟩
noncomputable def nE (aU aM aN aH bc : Int) (aS : aG) (n7 n8 qk oR C3 : Int) (C4 : aG) : Option (Bool × Unit) := bif decide (aU = n7) then bif decide (aM = n8) then bif decide (aN = qk) then bif decide (aH = oR) then bif decide (bc = C3) then Option.bind (ll aS C4) fun y1 => some (y1.1, ()) else some (false, ()) else some (false, ()) else some (false, ()) else some (false, ()) else some (false, ())
theorem ZS : Ug.Kn [⟨.tmp 4, false, [.bool]⟩] 213 nE := Ug.mn Tryz.func213 fun x => by kernel_rfl
def ZT := kw ZS
def Uh : FC Tryz.prog := ⟨dO, [ZT], fR, Tryz.f184, [va Fi]⟩
noncomputable def eB (yf yh xv zn zo : Int) (wv : aG) : Option (Bool × Unit) := Option.bind (nE yf yh xv zn zo wv 0 0 0 0 0 []) fun y1 => some (y1.1, ())
theorem ZU : Uh.Kn [⟨.tmp 2, false, [.bool]⟩] 184 eB := Uh.mn Tryz.func184 fun x => by kernel_rfl
def Ui := kw ZU
def Uj : FC Tryz.prog := ⟨dO, [ZP, Ui], fR, Tryz.f149, [va Ig]⟩
noncomputable def eJ (jQ jz : Int) (fS : aG) (gr : ak) (eX : aG) (gT : hZ) (kM kN kO kP ff fh fi fj fk : Int) (dH : aG) : Option (Bool × Unit) := bif decide (jQ = 0) then Option.bind (fK jz fS) fun y1 => bif y1.1 then bif decide ((gr.length : Int) = 0) then bif decide ((eX.length : Int) = 0) then bif decide ((gT.length : Int) = 0) then bif decide (kM = 0) then bif decide (kN = 0) then bif decide (kO = 0) then bif decide (kP = 0) then Option.bind (eB ff fh fi fj fk dH) fun y2 => some (y2.1, ()) else some (false, ()) else some (false, ()) else some (false, ()) else some (false, ()) else some (false, ()) else some (false, ()) else some (false, ()) else some (false, ()) else some (false, ())
theorem ZV : Uj.Kn [⟨.tmp 2, false, [.bool]⟩] 149 eJ := Uj.mn Tryz.func149 fun x => by kernel_rfl
def ZW := kw ZV
def RX : FC Tryz.prog := ⟨dO, [F7], dr 6 (.a 0 (.t 1 (.a 2 (.a 3 (.t 4 (.o 5 (.a 6 (.a 7 (.a 8 (.a 9 (.a 10 (.a 11 (.t 12 (.a 13 (.a 14 (.a 15 (.t 16 (.a 17 (.t 18 (.a 19 (.a 20 (.t 21 (.a 22 (.a 23 (.a 24 .nil))))))))))))))))))))))))), Tryz.f67, [va wu]⟩
noncomputable def kQ (xw : Int) (pI : aG) (i3 : Int) : Option (Sum Y3 (Sum Unit (Bool × Unit))) := bif decide (i3 < (pI.length : Int)) then bif decide (0 ≤ i3) then Option.bind ((pI)[i3.toNat]?) fun r3 => Option.bind (bJ r3.1 1 5) fun y4 => bif !y4.1 then some (.inr (.inr (false, ()))) else bif decide (0 < i3) then bif decide (0 ≤ i64.wrap (i3 - 1)) then Option.bind ((pI)[(i64.wrap (i3 - 1)).toNat]?) fun r5 => bif decide (0 ≤ i3) then Option.bind ((pI)[i3.toNat]?) fun r6 => bif decide (r6.1 ≤ r5.1) then some (.inr (.inr (false, ()))) else some (.inl (xw, pI, i64.wrap (i3 + 1), ())) else none else none else some (.inl (xw, pI, i64.wrap (i3 + 1), ())) else none else some (.inr (.inl (())))
noncomputable def eK (x : Y3) : Option (Sum Y3 (Sum Unit (Bool × Unit))) := kQ x.1 x.2.1 x.2.2.1
def Uk : LD := ⟨0, RX.lp 0, sp [(1, .box false wu), (1, vl [.int .i64])] 44, sp [] 48, sp [(2, vl [.bool])] 45, eK⟩
theorem Ul : RX.Ok Uk := RX.mm fun x => by kernel_rfl
def Um : RX.KL := ⟨_, Ul⟩
noncomputable def ee (aX : Int) (aY : aG) : Option (Bool × Unit) := Option.bind (bJ aX 1 9) fun y1 => bif !y1.1 then some (false, ()) else Option.bind (bJ (aY.length : Int) 1 5) fun y2 => bif !y2.1 then some (false, ()) else cM (aD eK (aX, aY, 0, ())) (fun y3 => some (true, ())) (fun y4 => some (y4.1, ()))
theorem k67 : RX.Kn [⟨.tmp 2, false, [.bool]⟩] 67 ee := RX.kf [Um] Tryz.func67 (by kernel_rfl) (by kernel_rfl) fun x => by kernel_rfl
def ZX := kw k67
def RY : FC Tryz.prog := ⟨dO, [], fR, Tryz.f68, [vl [.shr im], vl [.int .i64]]⟩
noncomputable def l9 (aV : aG) (x1 i5 : Int) : Option (Sum MG (Sum Unit (Bool × Unit))) := bif decide (i5 < (aV.length : Int)) then bif decide (0 ≤ i5) then Option.bind ((aV)[i5.toNat]?) fun r1 => bif decide (r1.1 = x1) then some (.inr (.inr (true, ()))) else some (.inl (aV, x1, i64.wrap (i5 + 1), ())) else none else some (.inr (.inl (())))
noncomputable def fC (x : MG) : Option (Sum MG (Sum Unit (Bool × Unit))) := l9 x.1 x.2.1 x.2.2.1
def Un : LD := ⟨0, RY.lp 0, sp [(0, vl [.shr im]), (0, vl [.int .i64]), (3, vl [.int .i64])] 13, sp [] 19, sp [(4, vl [.bool])] 14, fC⟩
theorem Uo : RY.Ok Un := RY.mm fun x => by kernel_rfl
def Up : RY.KL := ⟨_, Uo⟩
noncomputable def eL (aV : aG) (x1 : Int) : Option (Bool × Unit) := cM (aD fC (aV, x1, 0, ())) (fun y1 => some (false, ())) (fun y2 => some (y2.1, ()))
theorem k68 : RY.Kn [⟨.tmp 4, false, [.bool]⟩] 68 eL := RY.kf [Up] Tryz.func68 (by kernel_rfl) (by kernel_rfl) fun x => by kernel_rfl
def Xz := kw k68
def Uq : FC Tryz.prog := ⟨dO, [F7], fR, Tryz.f185, [va Bi]⟩
noncomputable def iG (jQ jz fS : Int) (gr : ByteArray) : Option (Bool × Unit) := Option.bind (bJ jQ 1 60) fun y1 => bif y1.1 then Option.bind (bJ jz 1 5) fun y2 => bif y2.1 then Option.bind (bJ fS 1 2) fun y3 => bif y3.1 then some (decide ((gr.size : Int) ≤ 60), ()) else some (false, ()) else some (false, ()) else some (false, ())
theorem ZY : Uq.Kn [⟨.tmp 2, false, [.bool]⟩] 185 iG := Uq.mn Tryz.func185 fun x => by kernel_rfl
def Ur := kw ZY
def Io : FC Tryz.prog := ⟨dO, [Ur], dr 4 (.a 0 (.a 1 (.a 2 (.t 3 (.o 4 (.a 5 (.a 6 (.a 7 (.a 8 (.a 9 (.a 10 (.a 11 (.a 12 (.a 13 (.a 14 (.t 15 (.a 16 (.a 17 (.a 18 (.a 19 (.t 20 (.a 21 (.a 22 (.a 23 .nil)))))))))))))))))))))))), Tryz.f168, [vl [.shr aC]]⟩
noncomputable def jR (aV : ak) (i3 : Int) : Option (Sum (ak × Int × Unit) (Sum Unit (Bool × Unit))) := bif decide (i3 < (aV.length : Int)) then bif decide (0 ≤ i3) then Option.bind ((aV)[i3.toNat]?) fun r1 => Option.bind (iG r1.1 r1.2.1 r1.2.2.1 r1.2.2.2.1) fun y2 => bif !y2.1 then some (.inr (.inr (false, ()))) else bif decide (0 < i3) then bif decide (0 ≤ i64.wrap (i3 - 1)) then Option.bind ((aV)[(i64.wrap (i3 - 1)).toNat]?) fun r3 => bif decide (0 ≤ i3) then Option.bind ((aV)[i3.toNat]?) fun r4 => bif decide (r4.1 ≤ r3.1) then some (.inr (.inr (false, ()))) else some (.inl (aV, i64.wrap (i3 + 1), ())) else none else none else some (.inl (aV, i64.wrap (i3 + 1), ())) else none else some (.inr (.inl (())))
noncomputable def dQ (x : ak × Int × Unit) : Option (Sum (ak × Int × Unit) (Sum Unit (Bool × Unit))) := jR x.1 x.2.1
def Pe : LD := ⟨0, Io.lp 0, sp [(0, vl [.shr aC]), (2, vl [.int .i64])] 31, sp [] 35, sp [(2, vl [.bool])] 32, dQ⟩
theorem Pf : Io.Ok Pe := Io.mm fun x => by kernel_rfl
def Pg : Io.KL := ⟨_, Pf⟩
noncomputable def eM (aV : ak) : Option (Bool × Unit) := cM (aD dQ (aV, 0, ())) (fun y1 => some (true, ())) (fun y2 => some (y2.1, ()))
theorem ZZ : Io.Kn [⟨.tmp 2, false, [.bool]⟩] 168 eM := Io.kf [Pg] Tryz.func168 (by kernel_rfl) (by kernel_rfl) fun x => by kernel_rfl
def MM := kw ZZ
def Ip : FC Tryz.prog := ⟨dO, [F7], fR, Tryz.f183, [vl [.shr im], vl [.shr uo]]⟩
noncomputable def ln (wx : aG) (wy : hZ) (i5 : Int) : Option (Sum Y4 (Sum (aG × hZ × Unit) (Bool × Unit))) := bif decide (i5 < (wy.length : Int)) then bif decide (i5 < (wx.length : Int)) then bif decide (0 ≤ i5) then Option.bind ((wx)[i5.toNat]?) fun r1 => Option.bind (bJ r1.1 1 2) fun y2 => bif !y2.1 then some (.inr (.inr (false, ()))) else bif decide (0 ≤ i5) then Option.bind ((wy)[i5.toNat]?) fun r3 => bif decide (60 < (r3.1.size : Int)) then some (.inr (.inr (false, ()))) else some (.inl (wx, wy, i64.wrap (i5 + 1), ())) else none else none else some (.inr (.inl (wx, wy, ()))) else some (.inr (.inl (wx, wy, ())))
noncomputable def gU (x : Y4) : Option (Sum Y4 (Sum (aG × hZ × Unit) (Bool × Unit))) := ln x.1 x.2.1 x.2.2.1
def Ph : LD := ⟨0, Ip.lp 0, sp [(0, vl [.shr im]), (0, vl [.shr uo]), (3, vl [.int .i64])] 37, sp [(0, vl [.shr im]), (0, vl [.shr uo])] 41, sp [(4, vl [.bool])] 38, gU⟩
theorem Pj : Ip.Ok Ph := Ip.mm fun x => by kernel_rfl
def Pk : Ip.KL := ⟨_, Pj⟩
noncomputable def po (wx : aG) (wy : hZ) : Option (Bool × Unit) := cM (aD gU (wx, wy, 0, ())) (fun y1 => bif decide ((y1.2.1.length : Int) ≤ 20) then some (decide ((y1.1.length : Int) = (y1.2.1.length : Int)), ()) else some (false, ())) (fun y2 => some (y2.1, ()))
theorem Z0 : Ip.Kn [⟨.tmp 4, false, [.bool]⟩] 183 po := Ip.kf [Pk] Tryz.func183 (by kernel_rfl) (by kernel_rfl) fun x => by kernel_rfl
def Z1 := kw Z0
def RZ : FC Tryz.prog := ⟨dO, [], fR, Tryz.f52, [vl [.shr aC], vl [.int .i64]]⟩
noncomputable def qS (aV : ak) (seq1 KP KQ KR : Int) (KS : ByteArray) (i6 : Int) : Option (Sum Y5 (Sum mD U6)) := bif decide (i6 < (aV.length : Int)) then bif decide (0 ≤ i6) then Option.bind ((aV)[i6.toNat]?) fun r1 => bif decide (r1.1 = seq1) then bif decide (0 ≤ i6) then Option.bind ((aV)[i6.toNat]?) fun r2 => some (.inr (.inr (r2.1, r2.2.1, r2.2.2.1, r2.2.2.2.1, true, ()))) else none else some (.inl (aV, seq1, KP, KQ, KR, KS, i64.wrap (i6 + 1), ())) else none else some (.inr (.inl (KP, KQ, KR, KS, ())))
noncomputable def ji (x : Y5) : Option (Sum Y5 (Sum mD U6)) := qS x.1 x.2.1 x.2.2.1 x.2.2.2.1 x.2.2.2.2.1 x.2.2.2.2.2.1 x.2.2.2.2.2.2.1
def Us : LD := ⟨0, RZ.lp 0, sp [(0, vl [.shr aC]), (0, vl [.int .i64]), (2, .box false Bi), (1, vl [.int .i64])] 19, sp [(4, .box false Bi)] 21, sp [(4, .box false Bi), (0, vl [.bool])] 20, ji⟩
theorem Ut : RZ.Ok Us := RZ.mm fun x => by kernel_rfl
def Uu : RZ.KL := ⟨_, Ut⟩
noncomputable def rG (aV : ak) (seq1 : Int) : Option (U6) := cM (aD ji (aV, seq1, 0, 0, 0, ByteArray.empty, 0, ())) (fun y1 => some (0, 0, 0, ByteArray.empty, false, ())) (fun y2 => some y2)
theorem k52 : RZ.Kn [⟨.cell 4, true, Bi⟩, ⟨.tmp 5, false, [.bool]⟩] 52 rG := RZ.kf [Uu] Tryz.func52 (by kernel_rfl) (by kernel_rfl) fun x => by kernel_rfl
def K52 := kw k52
def R0 : FC Tryz.prog := ⟨dO, [K52], fR, Tryz.f53, [vl [.shr aC]]⟩
noncomputable def vU (aV : ak) (n3 i4 : Int) : Option (Sum Ju (Sum (Int × Unit) (Int × Unit))) := bif decide (i4 < (aV.length : Int)) then Option.bind (rG aV (i64.wrap (n3 + 1))) fun y1 => bif !y1.2.2.2.2.1 then some (.inr (.inr (n3, ()))) else some (.inl (aV, i64.wrap (n3 + 1), i64.wrap (i4 + 1), ())) else some (.inr (.inl (n3, ())))
noncomputable def pr (x : Ju) : Option (Sum Ju (Sum (Int × Unit) (Int × Unit))) := vU x.1 x.2.1 x.2.2.1
def Uv : LD := ⟨0, R0.lp 0, sp [(0, vl [.shr aC]), (2, vl [.int .i64]), (0, vl [.int .i64])] 22, sp [(3, vl [.int .i64])] 23, sp [(2, vl [.int .i64])] 24, pr⟩
theorem Uw : R0.Ok Uv := R0.mm fun x => by kernel_rfl
def Ux : R0.KL := ⟨_, Uw⟩
noncomputable def kR (aV : ak) : Option (Int × Unit) := cM (aD pr (aV, 0, 0, ())) (fun y1 => some (y1.1, ())) (fun y2 => some (y2.1, ()))
theorem k53 : R0.Kn [⟨.tmp 2, false, [.int .i64]⟩] 53 kR := R0.kf [Ux] Tryz.func53 (by kernel_rfl) (by kernel_rfl) fun x => by kernel_rfl
def K53 := kw k53
def Iq : FC Tryz.prog := ⟨dO, [F7], dr 6 (.a 0 (.t 1 (.a 2 (.a 3 (.t 4 (.a 5 (.t 6 (.o 7 (.a 8 (.a 9 (.a 10 (.a 11 (.a 12 (.a 13 (.t 14 (.a 15 (.a 16 (.a 17 (.t 18 (.a 19 (.t 20 (.a 21 (.a 22 (.t 23 (.a 24 (.a 25 (.a 26 .nil))))))))))))))))))))))))))), Tryz.f120, [va Fi]⟩
noncomputable def jS (Ir Is EP It Iu : Int) (AR : aG) (i3 : Int) : Option (Sum Y6 (Sum Unit (Bool × Unit))) := bif decide (i3 < (AR.length : Int)) then bif decide (0 ≤ i3) then Option.bind ((AR)[i3.toNat]?) fun r6 => Option.bind (bJ r6.1 1 EP) fun y7 => bif !y7.1 then some (.inr (.inr (false, ()))) else bif decide (0 < i3) then bif decide (0 ≤ i64.wrap (i3 - 1)) then Option.bind ((AR)[(i64.wrap (i3 - 1)).toNat]?) fun r8 => bif decide (0 ≤ i3) then Option.bind ((AR)[i3.toNat]?) fun r9 => bif decide (r9.1 ≤ r8.1) then some (.inr (.inr (false, ()))) else some (.inl (Ir, Is, EP, It, Iu, AR, i64.wrap (i3 + 1), ())) else none else none else some (.inl (Ir, Is, EP, It, Iu, AR, i64.wrap (i3 + 1), ())) else none else some (.inr (.inl (())))
noncomputable def dR (x : Y6) : Option (Sum Y6 (Sum Unit (Bool × Unit))) := jS x.1 x.2.1 x.2.2.1 x.2.2.2.1 x.2.2.2.2.1 x.2.2.2.2.2.1 x.2.2.2.2.2.2.1
def Pn : LD := ⟨0, Iq.lp 0, sp [(1, .box false Fi), (1, vl [.int .i64])] 71, sp [] 75, sp [(2, vl [.bool])] 72, dR⟩
theorem Po : Iq.Ok Pn := Iq.mm fun x => by kernel_rfl
def Pp : Iq.KL := ⟨_, Po⟩
noncomputable def gH (yf yh xv zn zo : Int) (wv : aG) : Option (Bool × Unit) := Option.bind (bJ yf 1 9) fun y1 => bif !y1.1 then some (false, ()) else Option.bind (bJ yh 1 1000000000) fun y2 => bif !y2.1 then some (false, ()) else Option.bind (bJ xv 0 60) fun y3 => bif !y3.1 then some (false, ()) else Option.bind (bJ zn 0 xv) fun y4 => bif !y4.1 then some (false, ()) else Option.bind (bJ zo 0 5) fun y5 => bif !y5.1 then some (false, ()) else bif decide (20 < (wv.length : Int)) then some (false, ()) else cM (aD dR (yf, yh, xv, zn, zo, wv, 0, ())) (fun y6 => some (true, ())) (fun y7 => some (y7.1, ()))
theorem Z2 : Iq.Kn [⟨.tmp 2, false, [.bool]⟩] 120 gH := Iq.kf [Pp] Tryz.func120 (by kernel_rfl) (by kernel_rfl) fun x => by kernel_rfl
def Z3 := kw Z2
def Uy : FC Tryz.prog := ⟨dO, [ZX, Xz, MM, Z1, F7, K53, Ui, Z3], fR, Tryz.f119, [va Ig]⟩
noncomputable def gM (jQ jz : Int) (fS : aG) (gr : ak) (eX : aG) (gT : hZ) (kM kN kO kP ff fh fi fj fk : Int) (dH : aG) : Option (Bool × Unit) := Option.bind (ee jz fS) fun y1 => bif !y1.1 then some (false, ()) else Option.bind (eL fS jQ) fun y2 => bif !y2.1 then some (false, ()) else Option.bind (eM gr) fun y3 => bif !y3.1 then some (false, ()) else Option.bind (po eX gT) fun y4 => bif !y4.1 then some (false, ()) else Option.bind (bJ kM 0 1000000000) fun y5 => bif !y5.1 then some (false, ()) else Option.bind (bJ kN 0 60) fun y6 => bif !y6.1 then some (false, ()) else Option.bind (kR gr) fun y7 => Option.bind (bJ kO 0 y7.1) fun y8 => bif y8.1 then Option.bind (bJ kP 0 y7.1) fun y9 => bif y9.1 then Option.bind (eB ff fh fi fj fk dH) fun qT => bif qT.1 then some (true, ()) else Option.bind (gH ff fh fi fj fk dH) fun Iv => some (Iv.1, ()) else some (false, ()) else some (false, ())
theorem Z4 : Uy.Kn [⟨.tmp 2, false, [.bool]⟩] 119 gM := Uy.mn Tryz.func119 fun x => by kernel_rfl
def Z5 := kw Z4
def F95 : FC Tryz.prog := ⟨dO, [F7, MM], fR, Tryz.f95, [va DI]⟩
noncomputable def fD (Bq zp AQ : Int) (zq : ak) : Option (Bool × Unit) := Option.bind (bJ Bq 1 5) fun y1 => bif y1.1 then Option.bind (bJ zp 1 9) fun y2 => bif y2.1 then Option.bind (bJ AQ 0 (i64.wrap (zp - 1))) fun y3 => bif y3.1 then Option.bind (eM zq) fun y4 => bif y4.1 then bif decide (0 < AQ) then some (true, ()) else some (decide ((zq.length : Int) = 0), ()) else some (false, ()) else some (false, ()) else some (false, ()) else some (false, ())
theorem k95 : F95.Kn [⟨.tmp 2, false, [.bool]⟩] 95 fD := F95.mn Tryz.func95 fun x => by kernel_rfl
def Z6 := kw k95
def R1 : FC Tryz.prog := ⟨dO, [F7, ZW, ZP, Z5, ZX, Xz, Z6], dr 14 (.a 0 (.t 1 (.a 2 (.a 3 (.t 4 (.o 5 (.a 6 (.a 7 (.a 8 (.t 9 (.a 10 (.a 11 (.a 12 (.t 13 (.a 14 (.a 15 (.t 16 (.a 17 (.a 18 .nil))))))))))))))))))), Tryz.f66, [va EL]⟩
noncomputable def jj (Z7 : Int) (Z8 : Bool) (Z9 aaa : Int) (aab : aG) (aac : ak) (aad : aG) (aae : hZ) (aaf aag Uz UA UB UC UD UE UF : Int) (UG : aG) (UH UI NC : Int) (UJ : aG) (Hh : af) (UK : ah) (i3 : Int) : Option (Sum Y7 (Sum Unit (Bool × Unit))) := bif decide (i3 < (Hh.length : Int)) then bif decide (0 ≤ i3) then Option.bind ((Hh)[i3.toNat]?) fun vJ => Option.bind (fD vJ.1 vJ.2.1 vJ.2.2.1 vJ.2.2.2.1) fun KT => bif !KT.1 then some (.inr (.inr (false, ()))) else bif decide (0 ≤ i3) then Option.bind ((Hh)[i3.toNat]?) fun r13 => bif !decide (r13.2.1 = NC) then some (.inr (.inr (false, ()))) else some (.inl (Z7, Z8, Z9, aaa, aab, aac, aad, aae, aaf, aag, Uz, UA, UB, UC, UD, UE, UF, UG, UH, UI, NC, UJ, Hh, UK, i64.wrap (i3 + 1), ())) else none else none else some (.inr (.inl (())))
noncomputable def cY (x : Y7) : Option (Sum Y7 (Sum Unit (Bool × Unit))) := jj x.1 x.2.1 x.2.2.1 x.2.2.2.1 x.2.2.2.2.1 x.2.2.2.2.2.1 x.2.2.2.2.2.2.1 x.2.2.2.2.2.2.2.1 x.2.2.2.2.2.2.2.2.1 x.2.2.2.2.2.2.2.2.2.1 x.2.2.2.2.2.2.2.2.2.2.1 x.2.2.2.2.2.2.2.2.2.2.2.1 x.2.2.2.2.2.2.2.2.2.2.2.2.1 x.2.2.2.2.2.2.2.2.2.2.2.2.2.1 x.2.2.2.2.2.2.2.2.2.2.2.2.2.2.1 x.2.2.2.2.2.2.2.2.2.2.2.2.2.2.2.1 x.2.2.2.2.2.2.2.2.2.2.2.2.2.2.2.2.1 x.2.2.2.2.2.2.2.2.2.2.2.2.2.2.2.2.2.1 x.2.2.2.2.2.2.2.2.2.2.2.2.2.2.2.2.2.2.1 x.2.2.2.2.2.2.2.2.2.2.2.2.2.2.2.2.2.2.2.1 x.2.2.2.2.2.2.2.2.2.2.2.2.2.2.2.2.2.2.2.2.1 x.2.2.2.2.2.2.2.2.2.2.2.2.2.2.2.2.2.2.2.2.2.1 x.2.2.2.2.2.2.2.2.2.2.2.2.2.2.2.2.2.2.2.2.2.2.1 x.2.2.2.2.2.2.2.2.2.2.2.2.2.2.2.2.2.2.2.2.2.2.2.1 x.2.2.2.2.2.2.2.2.2.2.2.2.2.2.2.2.2.2.2.2.2.2.2.2.1
def UL : LD := ⟨0, R1.lp 0, sp [(1, .box false EL), (1, vl [.int .i64])] 124, sp [] 128, sp [(2, vl [.bool])] 125, cY⟩
theorem UM : R1.Ok UL := R1.mm fun x => by kernel_rfl
def UN : R1.KL := ⟨_, UM⟩
noncomputable def iQ (cJ : Int) (dI : Bool) (dj cO : Int) (cS : aG) (di : ak) (cT : aG) (cU : hZ) (dx dy bT bL bU bV bW bX bY : Int) (bG : aG) (bo bk aO : Int) (aJ : aG) (ba : af) (bp : ah) : Option (Bool × Unit) := Option.bind (bJ cJ 1 5) fun y1 => bif !y1.1 then some (false, ()) else Option.bind (bJ bo 0 9) fun y2 => bif !y2.1 then some (false, ()) else bif dI then Option.bind (eJ dj cO cS di cT cU dx dy bT bL bU bV bW bX bY bG) fun y3 => bif y3.1 then bif decide (bk = 0) then Option.bind (fK aO aJ) fun y4 => bif y4.1 then some (decide ((ba.length : Int) = 0), ()) else some (false, ()) else some (false, ()) else some (false, ()) else Option.bind (eJ dj cO cS di cT cU dx dy bT bL bU bV bW bX bY bG) fun y5 => bif !y5.1 then Option.bind (gM dj cO cS di cT cU dx dy bT bL bU bV bW bX bY bG) fun y6 => bif !y6.1 then some (false, ()) else bif !decide (dj = cJ) then some (false, ()) else bif !decide (bk = cO) then some (false, ()) else bif decide (bo < bk) then some (false, ()) else Option.bind (fK aO aJ) fun y7 => bif y7.1 then some (decide ((ba.length : Int) = 0), ()) else Option.bind (ee aO aJ) fun y8 => bif !y8.1 then some (false, ()) else Option.bind (eL aJ cJ) fun y9 => bif !y9.1 then some (false, ()) else Option.bind (bJ aO (i64.wrap (bk + 1)) bo) fun qT => bif !qT.1 then some (false, ()) else cM (aD cY (cJ, dI, dj, cO, cS, di, cT, cU, dx, dy, bT, bL, bU, bV, bW, bX, bY, bG, bo, bk, aO, aJ, ba, bp, 0, ())) (fun Iv => some (true, ())) (fun KT => some (KT.1, ())) else bif !decide (bk = cO) then some (false, ()) else bif decide (bo < bk) then some (false, ()) else Option.bind (fK aO aJ) fun LW => bif LW.1 then some (decide ((ba.length : Int) = 0), ()) else Option.bind (ee aO aJ) fun UO => bif !UO.1 then some (false, ()) else Option.bind (eL aJ cJ) fun vC => bif !vC.1 then some (false, ()) else Option.bind (bJ aO (i64.wrap (bk + 1)) bo) fun Pq => bif !Pq.1 then some (false, ()) else cM (aD cY (cJ, dI, dj, cO, cS, di, cT, cU, dx, dy, bT, bL, bU, bV, bW, bX, bY, bG, bo, bk, aO, aJ, ba, bp, 0, ())) (fun y17 => some (true, ())) (fun UP => some (UP.1, ()))
theorem k66 : R1.Kn [⟨.tmp 2, false, [.bool]⟩] 66 iQ := R1.kf [UN] Tryz.func66 (by kernel_rfl) (by kernel_rfl) fun x => by kernel_rfl
def K66 := kw k66
def R2 : FC Tryz.prog := ⟨dO, [Z6], dr 4 (.a 0 (.a 1 (.a 2 (.a 3 (.t 4 (.a 5 (.a 6 (.a 7 (.a 8 (.a 9 (.a 10 (.a 11 (.t 12 (.a 13 (.t 14 (.a 15 (.a 16 (.a 17 (.a 18 (.a 19 (.a 20 (.t 21 (.o 22 (.a 23 .nil)))))))))))))))))))))))), Tryz.f97, [va wu, vl vB, vl [.int .i64]]⟩
noncomputable def oS (bB : af) (pR kz : Int) (jT : aG) (C5 C6 C7 : Int) (C8 : ak) (i8 : Int) : Option (Sum Y8 (Sum bw U7)) := bif decide (i8 < (bB.length : Int)) then bif decide (0 ≤ i8) then Option.bind ((bB)[i8.toNat]?) fun r1 => bif decide (r1.1 = pR) then bif decide (0 ≤ i8) then Option.bind ((bB)[i8.toNat]?) fun r2 => bif decide (r2.2.1 = kz) then bif decide (0 ≤ i8) then Option.bind ((bB)[i8.toNat]?) fun r3 => Option.bind (fD r3.1 r3.2.1 r3.2.2.1 r3.2.2.2.1) fun y4 => bif y4.1 then bif decide (0 ≤ i8) then Option.bind ((bB)[i8.toNat]?) fun r5 => some (.inr (.inr (r5.1, r5.2.1, r5.2.2.1, r5.2.2.2.1, true, ()))) else none else some (.inl (bB, pR, kz, jT, C5, C6, C7, C8, i64.wrap (i8 + 1), ())) else none else some (.inl (bB, pR, kz, jT, C5, C6, C7, C8, i64.wrap (i8 + 1), ())) else none else some (.inl (bB, pR, kz, jT, C5, C6, C7, C8, i64.wrap (i8 + 1), ())) else none else some (.inr (.inl (C5, C6, C7, C8, ())))
noncomputable def gV (x : Y8) : Option (Sum Y8 (Sum bw U7)) := oS x.1 x.2.1 x.2.2.1 x.2.2.2.1 x.2.2.2.2.1 x.2.2.2.2.2.1 x.2.2.2.2.2.2.1 x.2.2.2.2.2.2.2.1 x.2.2.2.2.2.2.2.2.1
def UQ : LD := ⟨0, R2.lp 0, sp [(1, vl vB), (0, vl [.int .i64]), (0, .box false wu), (2, .box false EM), (1, vl [.int .i64])] 36, sp [(6, .box false EM)] 38, sp [(6, .box false DI), (0, vl [.bool])] 37, gV⟩
theorem UR : R2.Ok UQ := R2.mm fun x => by kernel_rfl
def US : R2.KL := ⟨_, UR⟩
noncomputable def cN (aX : Int) (aY : aG) (bB : af) (pR : Int) : Option (U7) := cM (aD gV (bB, pR, aX, aY, 0, 0, 0, [], 0, ())) (fun y1 => some (0, 0, 0, [], false, ())) (fun y2 => some y2)
theorem k97 : R2.Kn [⟨.cell 6, true, DI⟩, ⟨.tmp 7, false, [.bool]⟩] 97 cN := R2.kf [US] Tryz.func97 (by kernel_rfl) (by kernel_rfl) fun x => by kernel_rfl
def XA := kw k97
def R3 : FC Tryz.prog := ⟨dO, [XA], dr 4 (.t 0 (.a 1 (.a 2 (.t 3 (.a 4 (.a 5 (.t 6 (.alt (.o 7 (.a 8 (.a 9 (.a 10 (.o 11 (.l 12 (.a 13 .nil))))))) (.o 11 (.o 7 (.a 8 (.a 9 (.a 10 (.l 12 (.a 13 .nil))))))))))))))), Tryz.f72, [va wu, vl vB]⟩
noncomputable def jU (bB : af) (Iw : Int) (Br : aG) (i5 : Int) : Option (Sum OM (Sum Unit (Bool × Unit))) := bif decide (i5 < (Br.length : Int)) then bif decide (0 ≤ i5) then Option.bind ((Br)[i5.toNat]?) fun r1 => Option.bind (cN Iw Br bB r1.1) fun F8 => bif !F8.2.2.2.2.1 then some (.inr (.inr (false, ()))) else some (.inl (bB, Iw, Br, i64.wrap (i5 + 1), ())) else none else some (.inr (.inl (())))
noncomputable def pS (bB : af) (Iw : Int) (Br : aG) (i5 : Int) : Option (Sum OM (Sum Unit (Bool × Unit))) := bif decide (i5 < (Br.length : Int)) then bif decide (0 ≤ i5) then Option.bind ((Br)[i5.toNat]?) fun r1 => (fun R4 : (U7) → Option (Sum OM (Sum Unit (Bool × Unit))) => both (Option.bind (cN Iw Br bB r1.1) fun F8 => R4 F8) (Option.bind (cN Iw Br bB r1.1) fun F8 => R4 F8)) (fun F8 => bif !F8.2.2.2.2.1 then some (.inr (.inr (false, ()))) else some (.inl (bB, Iw, Br, i64.wrap (i5 + 1), ()))) else none else some (.inr (.inl (())))
theorem wz : pS = jU := by delta pS jU; simp only [mK]
noncomputable def gl (x : OM) : Option (Sum OM (Sum Unit (Bool × Unit))) := jU x.1 x.2.1 x.2.2.1 x.2.2.2.1
def F9 : List (Option AP) := sp [(1, vl vB), (0, .box false wu), (2, vl [.int .i64])] 23
noncomputable def ub (x : OM) : Option (Sum OM (Sum Unit (Bool × Unit))) := xN (aE F9) pS x
theorem wA : ub = gl := congrArg (xN (aE F9)) wz
def ND : LD := ⟨0, R3.lp 0, F9, sp [] 29, sp [(4, vl [.bool])] 24, gl⟩
theorem UT : R3.Ok ND := R3.YZ (l := ND) (by kernel_rfl) fun x => Eq.trans (b := ub x) (by kernel_rfl) (congrFun wA x)
def UU : R3.KL := ⟨_, UT⟩
noncomputable def nF (aX : Int) (aY : aG) (bB : af) : Option (Bool × Unit) := cM (aD gl (bB, aX, aY, 0, ())) (fun y1 => some (true, ())) (fun y2 => some (y2.1, ()))
theorem k72 : R3.Kn [⟨.tmp 4, false, [.bool]⟩] 72 nF := R3.kf [UU] Tryz.func72 (by kernel_rfl) (by kernel_rfl) fun x => by kernel_rfl
def K72 := kw k72
def UW : FC Tryz.prog := ⟨dO, [], dr 1 (.a 0 (.a 3 (.t 4 (.alt (.o 1 (.o 2 (.l 5 (.a 6 (.l 7 .nil))))) (.o 2 (.alt (.o 1 (.l 5 (.a 6 (.l 7 .nil)))) (.l 5 (.t 1 (.a 6 (.l 7 .nil)))))))))), Tryz.f70, [va wu]⟩
noncomputable def aZ (aX : Int) (aY : aG) : Option (Int × aG × Unit) := bif Nat.ble ((0 + (List.length aY)) * 8) lim then some (aX, [] ++ aY, ()) else none
noncomputable def mF (aX : Int) (aY : aG) : Option (Int × aG × Unit) := (fun UX : Option (Int × aG × Unit) => both (bif Nat.ble ((0 + (List.length aY)) * 8) lim then UX else none) (both (bif Nat.ble ((0 + (List.length aY)) * 8) lim then UX else none) (bif Nat.ble ((0 + (List.length aY)) * 8) lim then UX else none))) (some (aX, [] ++ aY, ()))
theorem uf : mF = aZ := by delta mF aZ; simp only [mK]
noncomputable def qU (x : Int × aG × Unit) : Option (Int × aG × Unit) := xN (aE (UW.ps.map some)) mF x
theorem ug : qU = xN (aE (UW.ps.map some)) aZ := congrArg (xN (aE (UW.ps.map some))) uf
theorem k70 : UW.Kn [⟨.cell 2, true, MH⟩] 70 aZ := UW.Xu Tryz.func70 (by kernel_rfl) fun x => Eq.trans (b := qU x) (by kernel_rfl) (congrFun ug x)
def K70 := kw k70
def Ix : FC Tryz.prog := ⟨dO, [XA, Xz], dr 8 (.t 0 (.a 1 (.a 2 (.t 3 (.a 4 (.a 5 (.t 6 (.alt (.o 7 (.a 8 (.a 9 (.a 10 (.o 11 (.l 12 (.a 13 .nil))))))) (.o 11 (.o 7 (.a 8 (.a 9 (.a 10 (.l 12 (.a 13 .nil))))))))))))))), Tryz.f151, [va wu, vl vB, vl [.int .i64]]⟩
noncomputable def fL (bB : af) (pR kz : Int) (jT pT : aG) (jI jJ iH : Int) (jK : ak) (i10 : Int) : Option (Sum ON (Sum (aG × Unit) Unit)) := bif decide (i10 < (jT.length : Int)) then bif decide (0 ≤ i10) then Option.bind ((jT)[i10.toNat]?) fun r2 => Option.bind (cN kz jT bB r2.1) fun rZ => bif rZ.2.2.2.2.1 then bif decide (rZ.1 = pR) then Option.bind (eL pT rZ.1) fun y4 => bif !y4.1 then bif Nat.ble (((List.length pT) + 1) * 8) lim then some (.inl (bB, pR, kz, jT, pT ++ [(rZ.1, ())], jI, jJ, iH, jK, i64.wrap (i10 + 1), ())) else none else some (.inl (bB, pR, kz, jT, pT, jI, jJ, iH, jK, i64.wrap (i10 + 1), ())) else bif decide (rZ.2.2.1 = iH) then bif decide (0 < rZ.2.2.1) then Option.bind (eL pT rZ.1) fun y5 => bif !y5.1 then bif Nat.ble (((List.length pT) + 1) * 8) lim then some (.inl (bB, pR, kz, jT, pT ++ [(rZ.1, ())], jI, jJ, iH, jK, i64.wrap (i10 + 1), ())) else none else some (.inl (bB, pR, kz, jT, pT, jI, jJ, iH, jK, i64.wrap (i10 + 1), ())) else some (.inl (bB, pR, kz, jT, pT, jI, jJ, iH, jK, i64.wrap (i10 + 1), ())) else some (.inl (bB, pR, kz, jT, pT, jI, jJ, iH, jK, i64.wrap (i10 + 1), ())) else some (.inl (bB, pR, kz, jT, pT, jI, jJ, iH, jK, i64.wrap (i10 + 1), ())) else none else some (.inr (.inl (pT, ())))
noncomputable def kS (bB : af) (pR kz : Int) (jT pT : aG) (jI jJ iH : Int) (jK : ak) (i10 : Int) : Option (Sum ON (Sum (aG × Unit) Unit)) := bif decide (i10 < (jT.length : Int)) then bif decide (0 ≤ i10) then Option.bind ((jT)[i10.toNat]?) fun r2 => (fun UY : (U7) → Option (Sum ON (Sum (aG × Unit) Unit)) => both (Option.bind (cN kz jT bB r2.1) fun rZ => UY rZ) (Option.bind (cN kz jT bB r2.1) fun rZ => UY rZ)) (fun rZ => bif rZ.2.2.2.2.1 then bif decide (rZ.1 = pR) then Option.bind (eL pT rZ.1) fun y4 => bif !y4.1 then bif Nat.ble (((List.length pT) + 1) * 8) lim then some (.inl (bB, pR, kz, jT, pT ++ [(rZ.1, ())], jI, jJ, iH, jK, i64.wrap (i10 + 1), ())) else none else some (.inl (bB, pR, kz, jT, pT, jI, jJ, iH, jK, i64.wrap (i10 + 1), ())) else bif decide (rZ.2.2.1 = iH) then bif decide (0 < rZ.2.2.1) then Option.bind (eL pT rZ.1) fun y5 => bif !y5.1 then bif Nat.ble (((List.length pT) + 1) * 8) lim then some (.inl (bB, pR, kz, jT, pT ++ [(rZ.1, ())], jI, jJ, iH, jK, i64.wrap (i10 + 1), ())) else none else some (.inl (bB, pR, kz, jT, pT, jI, jJ, iH, jK, i64.wrap (i10 + 1), ())) else some (.inl (bB, pR, kz, jT, pT, jI, jJ, iH, jK, i64.wrap (i10 + 1), ())) else some (.inl (bB, pR, kz, jT, pT, jI, jJ, iH, jK, i64.wrap (i10 + 1), ())) else some (.inl (bB, pR, kz, jT, pT, jI, jJ, iH, jK, i64.wrap (i10 + 1), ()))) else none else some (.inr (.inl (pT, ())))
theorem sP : kS = fL := by delta kS fL; simp only [mK]
noncomputable def dw (x : ON) : Option (Sum ON (Sum (aG × Unit) Unit)) := fL x.1 x.2.1 x.2.2.1 x.2.2.2.1 x.2.2.2.2.1 x.2.2.2.2.2.1 x.2.2.2.2.2.2.1 x.2.2.2.2.2.2.2.1 x.2.2.2.2.2.2.2.2.1 x.2.2.2.2.2.2.2.2.2.1
def C9 : List (Option AP) := sp [(1, vl vB), (0, vl [.int .i64]), (0, .box false wu), (3, vl [.own im]), (0, .box false DI), (1, vl [.int .i64])] 64
noncomputable def pJ (x : ON) : Option (Sum ON (Sum (aG × Unit) Unit)) := xN (aE C9) kS x
theorem sQ : pJ = dw := congrArg (xN (aE C9)) sP
def KU : LD := ⟨0, Ix.lp 0, C9, sp [(7, vl [.own im])] 67, sp [] 75, dw⟩
theorem Ps : Ix.Ok KU := Ix.YZ (l := KU) (by kernel_rfl) fun x => Eq.trans (b := pJ x) (by kernel_rfl) (congrFun sQ x)
def Pt : Ix.KL := ⟨_, Ps⟩
noncomputable def fX (aX : Int) (aY : aG) (bB : af) (pR : Int) : Option (aG × Unit) := Option.bind (cN aX aY bB pR) fun y1 => bif !y1.2.2.2.2.1 then some ([], ()) else cM (aD dw (bB, pR, aX, aY, [], y1.1, y1.2.1, y1.2.2.1, y1.2.2.2.1, 0, ())) (fun y2 => some (y2.1, ())) (fun y3 => none)
theorem aah : Ix.Kn [⟨.tmp 6, false, [.own im]⟩] 151 fX := Ix.kf [Pt] Tryz.func151 (by kernel_rfl) (by kernel_rfl) fun x => by kernel_rfl
def UZ := kw aah
def Bs : FC Tryz.prog := ⟨dO, [MM, Ur], dr 8 (.a 0 (.a 1 (.a 2 (.a 3 (.t 4 (.a 5 (.t 6 (.a 7 .nil)))))))) (dr 10 (.a 0 (.a 1 (.a 2 (.a 3 (.t 4 (.a 5 (.t 6 (.a 7 .nil)))))))) (dr 16 (.a 0 (.a 1 (.a 2 (.a 3 (.t 4 (.a 5 (.t 6 (.a 7 .nil)))))))))), Tryz.f123, [vl [.shr aC], va Bi]⟩
noncomputable def pU (aV : ak) (xx Bt Bu : Int) (Bv : ByteArray) (KV Da : ak) (i7 : Int) : Option (Sum Y9 (Sum U33 (ak × Unit))) := bif decide (i7 < (aV.length : Int)) then bif decide (0 ≤ i7) then Option.bind ((aV)[i7.toNat]?) fun r3 => bif decide (r3.1 = xx) then some (.inr (.inr (KV, ()))) else bif decide (0 ≤ i7) then Option.bind ((aV)[i7.toNat]?) fun r4 => bif decide (r4.1 < xx) then bif decide (0 ≤ i7) then Option.bind ((aV)[i7.toNat]?) fun r5 => bif Nat.ble (((List.length Da) + 1) * 40) lim then some (.inl (aV, xx, Bt, Bu, Bv, KV, Da ++ [(r5.1, r5.2.1, r5.2.2.1, r5.2.2.2.1, ())], i64.wrap (i7 + 1), ())) else none else none else some (.inl (aV, xx, Bt, Bu, Bv, KV, Da, i64.wrap (i7 + 1), ())) else none else none else some (.inr (.inl (aV, xx, Bt, Bu, Bv, Da, ())))
noncomputable def ir (x : Y9) : Option (Sum Y9 (Sum U33 (ak × Unit))) := pU x.1 x.2.1 x.2.2.1 x.2.2.2.1 x.2.2.2.2.1 x.2.2.2.2.2.1 x.2.2.2.2.2.2.1 x.2.2.2.2.2.2.2.1
def Pu : LD := ⟨0, Bs.lp 0, sp [(0, vl [.shr aC]), (2, .box false Bi), (1, vl [.own aC]), (0, vl [.own aC]), (0, vl [.int .i64])] 71, sp [(0, vl [.shr aC]), (2, .box false Bi), (2, vl [.own aC])] 72, sp [(4, vl [.own aC])] 74, ir⟩
theorem Pv : Bs.Ok Pu := Bs.mm fun x => by kernel_rfl
def Pw : Bs.KL := ⟨_, Pv⟩
noncomputable def pV (aV : ak) (xx Bt Bu : Int) (Bv : ByteArray) (Da : ak) (i8 : Int) : Option (Sum Za (Sum (ak × Unit) Unit)) := bif decide (i8 < (aV.length : Int)) then bif decide (0 ≤ i8) then Option.bind ((aV)[i8.toNat]?) fun r8 => bif decide (xx < r8.1) then bif decide (0 ≤ i8) then Option.bind ((aV)[i8.toNat]?) fun r9 => bif Nat.ble (((List.length Da) + 1) * 40) lim then some (.inl (aV, xx, Bt, Bu, Bv, Da ++ [(r9.1, r9.2.1, r9.2.2.1, r9.2.2.2.1, ())], i64.wrap (i8 + 1), ())) else none else none else some (.inl (aV, xx, Bt, Bu, Bv, Da, i64.wrap (i8 + 1), ())) else none else some (.inr (.inl (Da, ())))
noncomputable def gm (x : Za) : Option (Sum Za (Sum (ak × Unit) Unit)) := pV x.1 x.2.1 x.2.2.1 x.2.2.2.1 x.2.2.2.2.1 x.2.2.2.2.2.1 x.2.2.2.2.2.2.1
def Px : LD := ⟨2, Bs.lp 1, sp [(0, vl [.shr aC]), (2, .box false Bi), (2, vl [.own aC]), (1, vl [.int .i64])] 70, sp [(6, vl [.own aC])] 72, sp [] 79, gm⟩
theorem Py : Bs.Ok Px := Bs.mm fun x => by kernel_rfl
def Pz : Bs.KL := ⟨_, Py⟩
noncomputable def ql (aV : ak) (Ga Gb Gc : Int) (Gd : ByteArray) : Option (ak × Unit) := bif Nat.ble ((0 + (List.length aV)) * 40) lim then Option.bind (eM aV) fun y1 => bif !y1.1 then some ([] ++ aV, ()) else Option.bind (iG Ga Gb Gc Gd) fun y2 => bif !y2.1 then some ([] ++ aV, ()) else cM (aD ir (aV, Ga, Gb, Gc, Gd, [] ++ aV, [], 0, ())) (fun y3 => bif Nat.ble (((List.length y3.2.2.2.2.2.1) + 1) * 40) lim then cM (aD gm (y3.1, y3.2.1, y3.2.2.1, y3.2.2.2.1, y3.2.2.2.2.1, y3.2.2.2.2.2.1 ++ [(y3.2.1, y3.2.2.1, y3.2.2.2.1, y3.2.2.2.2.1, ())], 0, ())) (fun y5 => some (y5.1, ())) (fun y6 => none) else none) (fun y4 => some (y4.1, ())) else none
theorem aai : Bs.Kn [⟨.tmp 4, false, [.own aC]⟩] 123 ql := Bs.kf [Pw, Pz] Tryz.func123 (by kernel_rfl) (by kernel_rfl) fun x => by kernel_rfl
def aaj := kw aai
def Bw : FC Tryz.prog := ⟨MK, [MM, aaj], fR, Tryz.f198, [vl EO]⟩
noncomputable def ma (nG : fe) (dY : ak) (i4 k5 : Int) : Option (Sum Zb (Sum TE Unit)) := bif decide (0 ≤ i4) then Option.bind ((nG)[i4.toNat]?) fun r1 => bif decide (k5 < (r1.1.length : Int)) then bif decide (0 ≤ i4) then Option.bind ((nG)[i4.toNat]?) fun r2 => Option.bind (eM r2.1) fun y3 => bif y3.1 then bif decide (0 ≤ i4) then Option.bind ((nG)[i4.toNat]?) fun r4 => bif decide (0 ≤ k5) then Option.bind ((r4.1)[k5.toNat]?) fun r5 => Option.bind (ql dY r5.1 r5.2.1 r5.2.2.1 r5.2.2.2.1) fun y6 => some (.inl (nG, y6.1, i4, i64.wrap (k5 + 1), ())) else none else none else some (.inr (.inl (nG, dY, i4, ()))) else none else some (.inr (.inl (nG, dY, i4, ()))) else none
noncomputable def fE (x : Zb) : Option (Sum Zb (Sum TE Unit)) := ma x.1 x.2.1 x.2.2.1 x.2.2.2.1
def PA : LD := ⟨2, CX (Bw.lp 0) 0, sp [(0, vl EO), (2, vl [.own aC]), (0, vl [.int .i64]), (0, vl [.int .i64])] 34, sp [(0, vl EO), (2, vl [.own aC]), (0, vl [.int .i64])] 35, sp [] 40, fE⟩
theorem PB : Bw.Ok PA := Bw.mm fun x => by kernel_rfl
def PC : Bw.KL := ⟨_, PB⟩
noncomputable def sa (nG : fe) (dY : ak) (i4 : Int) : Option (Sum TE (Sum (ak × Unit) Unit)) := bif decide (i4 < (nG.length : Int)) then cM (aD fE (nG, dY, i4, 0, ())) (fun y7 => some (.inl (y7.1, y7.2.1, i64.wrap (y7.2.2.1 + 1), ()))) (fun y8 => some (.inr (.inr (())))) else some (.inr (.inl (dY, ())))
noncomputable def j2 (x : TE) : Option (Sum TE (Sum (ak × Unit) Unit)) := sa x.1 x.2.1 x.2.2.1
def PD : LD := ⟨0, Bw.lp 0, sp [(0, vl EO), (2, vl [.own aC]), (0, vl [.int .i64])] 35, sp [(3, vl [.own aC])] 36, sp [] 40, j2⟩
theorem PE : Bw.Ok PD := Bw.kl [PC] (by kernel_rfl) (by kernel_rfl) fun x => by kernel_rfl
def PF : Bw.KL := ⟨_, PE⟩
noncomputable def tw (nG : fe) : Option (ak × Unit) := cM (aD j2 (nG, [], 0, ())) (fun y1 => some (y1.1, ())) (fun y2 => none)
theorem aak : Bw.Kn [⟨.tmp 2, false, [.own aC]⟩] 198 tw := Bw.kf [PF] Tryz.func198 (by kernel_rfl) (by kernel_rfl) fun x => by kernel_rfl
def aal := kw aak
def Iy : FC Tryz.prog := ⟨dO, [K53], fR, Tryz.f197, [vl [.shr aC]]⟩
noncomputable def sb (aV dY : ak) (n4 i5 : Int) : Option (Sum RL (Sum (ak × Unit) Unit)) := bif decide (i5 < (aV.length : Int)) then bif decide (0 ≤ i5) then Option.bind ((aV)[i5.toNat]?) fun r2 => bif decide (r2.1 ≤ n4) then bif decide (0 ≤ i5) then Option.bind ((aV)[i5.toNat]?) fun r3 => bif Nat.ble (((List.length dY) + 1) * 40) lim then some (.inl (aV, dY ++ [(r3.1, r3.2.1, r3.2.2.1, r3.2.2.2.1, ())], n4, i64.wrap (i5 + 1), ())) else none else none else some (.inl (aV, dY, n4, i64.wrap (i5 + 1), ())) else none else some (.inr (.inl (dY, ())))
noncomputable def j3 (x : RL) : Option (Sum RL (Sum (ak × Unit) Unit)) := sb x.1 x.2.1 x.2.2.1 x.2.2.2.1
def PG : LD := ⟨0, Iy.lp 0, sp [(0, vl [.shr aC]), (2, vl [.own aC]), (0, vl [.int .i64]), (0, vl [.int .i64])] 25, sp [(3, vl [.own aC])] 27, sp [] 31, j3⟩
theorem PH : Iy.Ok PG := Iy.mm fun x => by kernel_rfl
def PI : Iy.KL := ⟨_, PH⟩
noncomputable def tz (aV : ak) : Option (ak × Unit) := Option.bind (kR aV) fun y1 => cM (aD j3 (aV, [], y1.1, 0, ())) (fun y2 => some (y2.1, ())) (fun y3 => none)
theorem aam : Iy.Kn [⟨.tmp 2, false, [.own aC]⟩] 197 tz := Iy.kf [PI] Tryz.func197 (by kernel_rfl) (by kernel_rfl) fun x => by kernel_rfl
def aan := kw aam
def Bx : FC Tryz.prog := ⟨MK, [XA, UZ, aal, aan], dr 10 (.t 0 (.a 1 (.a 2 (.a 3 (.a 4 (.t 5 (.alt (.o 6 (.a 7 (.a 8 (.a 9 (.o 10 (.l 11 (.a 12 .nil))))))) (.o 10 (.o 6 (.a 7 (.a 8 (.a 9 (.l 11 (.a 12 .nil)))))))))))))), Tryz.f152, [va wu, vl vB, vl [.int .i64], vl [.int .i64]]⟩
noncomputable def nH (bB : af) (jk Db : Int) (Dc : aG) (sd : ak) (tC : fe) (xy : aG) (i14 : Int) : Option (Sum OO (Sum TF Unit)) := bif decide (i14 < (xy.length : Int)) then bif decide (0 ≤ i14) then bif Nat.blt (i14.toNat) (List.length xy) then Option.bind ((xy)[i14.toNat]?) fun r3 => Option.bind (cN Db Dc bB r3.1) fun Ge => bif Nat.ble (((List.length tC) + 1) * 24) lim then some (.inl (bB, jk, Db, Dc, sd, tC ++ [(Ge.2.2.2.1, ())], xy, i64.wrap (i14 + 1), ())) else none else none else none else some (.inr (.inl (jk, sd, tC, ())))
noncomputable def tD (bB : af) (jk Db : Int) (Dc : aG) (sd : ak) (tC : fe) (xy : aG) (i14 : Int) : Option (Sum OO (Sum TF Unit)) := bif decide (i14 < (xy.length : Int)) then bif decide (0 ≤ i14) then bif Nat.blt (i14.toNat) (List.length xy) then Option.bind ((xy)[i14.toNat]?) fun r3 => (fun XB : (U7) → Option (Sum OO (Sum TF Unit)) => both (Option.bind (cN Db Dc bB r3.1) fun Ge => XB Ge) (Option.bind (cN Db Dc bB r3.1) fun Ge => XB Ge)) (fun Ge => bif Nat.ble (((List.length tC) + 1) * 24) lim then some (.inl (bB, jk, Db, Dc, sd, tC ++ [(Ge.2.2.2.1, ())], xy, i64.wrap (i14 + 1), ())) else none) else none else none else some (.inr (.inl (jk, sd, tC, ())))
theorem zr : tD = nH := by delta tD nH; simp only [mK]
noncomputable def jL (x : OO) : Option (Sum OO (Sum TF Unit)) := nH x.1 x.2.1 x.2.2.1 x.2.2.2.1 x.2.2.2.2.1 x.2.2.2.2.2.1 x.2.2.2.2.2.2.1 x.2.2.2.2.2.2.2.1
def Dd : List (Option AP) := sp [(1, vl vB), (1, vl [.int .i64]), (0, .box false wu), (4, vl [.own aC]), (2, vl MJ), (0, vl [.own im]), (0, vl [.int .i64])] 71
noncomputable def xz (x : OO) : Option (Sum OO (Sum TF Unit)) := xN (aE Dd) tD x
theorem zt : xz = jL := congrArg (xN (aE Dd)) zr
def KW : LD := ⟨0, Bx.lp 0, Dd, sp [(3, vl [.int .i64]), (5, vl [.own aC]), (2, vl MJ)] 73, sp [] 86, jL⟩
theorem PJ : Bx.Ok KW := Bx.YZ (l := KW) (by kernel_rfl) fun x => Eq.trans (b := xz x) (by kernel_rfl) (congrFun zt x)
def PK : Bx.KL := ⟨_, PJ⟩
noncomputable def tE (jk : Int) (sd wB : ak) (i18 : Int) : Option (Sum Zc (Sum (ak × Unit) Unit)) := bif decide (i18 < (wB.length : Int)) then bif decide (0 ≤ i18) then bif Nat.blt (i18.toNat) (List.length wB) then Option.bind ((wB)[i18.toNat]?) fun r9 => bif decide (jk < r9.1) then bif decide (0 ≤ i18) then bif Nat.blt (i18.toNat) (List.length wB) then Option.bind ((wB)[i18.toNat]?) fun R5 => bif Nat.ble (((List.length sd) + 1) * 40) lim then some (.inl (jk, sd ++ [(R5.1, R5.2.1, R5.2.2.1, R5.2.2.2.1, ())], wB, i64.wrap (i18 + 1), ())) else none else none else none else some (.inl (jk, sd, wB, i64.wrap (i18 + 1), ())) else none else none else some (.inr (.inl (sd, ())))
noncomputable def lq (x : Zc) : Option (Sum Zc (Sum (ak × Unit) Unit)) := tE x.1 x.2.1 x.2.2.1 x.2.2.2.1
def PL : LD := ⟨2, Bx.lp 1, sp [(3, vl [.int .i64]), (5, vl [.own aC]), (7, vl [.own aC]), (0, vl [.int .i64])] 67, sp [(9, vl [.own aC])] 76, sp [] 86, lq⟩
theorem PM : Bx.Ok PL := Bx.mm fun x => by kernel_rfl
def PN : Bx.KL := ⟨_, PM⟩
noncomputable def qC (aX : Int) (aY : aG) (bB : af) (pR jk : Int) : Option (ak × Unit) := Option.bind (cN aX aY bB pR) fun y1 => bif !y1.2.2.2.2.1 then some ([], ()) else bif decide (y1.2.2.1 = 0) then some ([], ()) else Option.bind (fX aX aY bB pR) fun y2 => cM (aD jL (bB, jk, aX, aY, [], [], y2.1, 0, ())) (fun y3 => Option.bind (tw y3.2.2.1) fun y5 => Option.bind (tz y5.1) fun y6 => cM (aD lq (y3.1, y3.2.1, y6.1, 0, ())) (fun y7 => some (y7.1, ())) (fun y8 => none)) (fun y4 => none)
theorem aao : Bx.Kn [⟨.tmp 8, false, [.own aC]⟩] 152 qC := Bx.kf [PK, PN] Tryz.func152 (by kernel_rfl) (by kernel_rfl) fun x => by kernel_rfl
def aap := kw aao
def KX : FC Tryz.prog := ⟨dO, [ZX, Xz], dr 3 (.a 0 (.a 1 (.a 4 (.t 5 (.alt (.o 2 (.o 3 (.l 6 (.a 7 (.a 8 (.l 9 (.a 10 .nil))))))) (.o 3 (.alt (.o 2 (.l 6 (.a 7 (.a 8 (.l 9 (.a 10 .nil)))))) (.l 6 (.t 2 (.a 7 (.a 8 (.l 9 (.a 10 .nil))))))))))))), Tryz.f153, [vl [.int .i64], va wu]⟩
noncomputable def dS (NF xw : Int) (pI : aG) : Option (U8) := Option.bind (ee xw pI) fun y1 => bif !y1.1 then some (0, 0, [], [], [], [], 0, 0, 0, 0, 0, 0, 0, 0, 0, [], false, ()) else Option.bind (eL pI NF) fun y2 => bif !y2.1 then some (0, 0, [], [], [], [], 0, 0, 0, 0, 0, 0, 0, 0, 0, [], false, ()) else bif Nat.ble ((0 + (List.length pI)) * 8) lim then some (NF, xw, [] ++ pI, [], [], [], 0, 0, 0, 0, 0, 0, 0, 0, 0, [], true, ()) else none
noncomputable def qV (NF xw : Int) (pI : aG) : Option (U8) := Option.bind (ee xw pI) fun y1 => bif !y1.1 then some (0, 0, [], [], [], [], 0, 0, 0, 0, 0, 0, 0, 0, 0, [], false, ()) else Option.bind (eL pI NF) fun y2 => bif !y2.1 then some (0, 0, [], [], [], [], 0, 0, 0, 0, 0, 0, 0, 0, 0, [], false, ()) else (fun U0 : Option (U8) => both (bif Nat.ble ((0 + (List.length pI)) * 8) lim then U0 else none) (both (bif Nat.ble ((0 + (List.length pI)) * 8) lim then U0 else none) (bif Nat.ble ((0 + (List.length pI)) * 8) lim then U0 else none))) (some (NF, xw, [] ++ pI, [], [], [], 0, 0, 0, 0, 0, 0, 0, 0, 0, [], true, ()))
theorem xA : qV = dS := by delta qV dS; simp only [mK]
noncomputable def u7 (x : U41) : Option (U8) := xN (aE (KX.ps.map some)) qV x
theorem xB : u7 = xN (aE (KX.ps.map some)) dS := congrArg (xN (aE (KX.ps.map some))) xA
theorem aaq : KX.Kn [⟨.cell 4, true, Ih⟩, ⟨.tmp 5, false, [.bool]⟩] 153 dS := KX.Xu Tryz.func153 (by kernel_rfl) fun x => Eq.trans (b := u7 x) (by kernel_rfl) (congrFun xB x)
def aar := kw aaq
def MN : FC Tryz.prog := ⟨dO, [K70, UZ, aap, aar], dr 2 (.a 0 (.a 1 (.a 2 (.a 3 (.t 4 (.t 5 (.a 7 (.a 8 (.a 9 (.t 10 (.a 11 (.a 12 (.a 13 (.t 14 (.a 15 (.a 16 (.a 17 (.t 18 (.o 6 (.o 19 (.a 20 (.o 21 (.l 22 (.a 23 (.a 24 (.l 25 .nil)))))))))))))))))))))))))) (dr 3 (.a 0 (.a 1 (.a 2 (.t 3 (.a 4 (.a 5 (.a 6 (.t 7 (.a 8 (.a 9 (.a 10 (.t 11 (.a 12 (.a 13 (.a 14 (.a 15 (.t 16 (.o 17 (.a 18 .nil))))))))))))))))))) (dr 7 (.a 0 (.a 1 (.a 2 (.a 3 (.t 4 (.t 5 (.a 7 (.a 8 (.a 9 (.t 10 (.o 6 (.a 11 (.o 12 (.l 13 (.a 14 (.a 15 (.l 16 .nil))))))))))))))))) (dr 8 (.a 0 (.a 1 (.a 2 (.a 3 (.a 5 (.a 6 (.a 7 (.t 8 (.a 11 (.a 12 (.a 13 (.a 14 (.t 15 (.alt (.o 4 (.alt (.o 9 (.o 10 (.l 16 (.a 17 (.o 18 (.l 19 (.a 20 (.a 21 (.l 22 .nil))))))))) (.o 10 (.o 9 (.l 16 (.a 17 (.o 18 (.l 19 (.a 20 (.a 21 (.l 22 .nil))))))))))) (.alt (.o 9 (.alt (.o 4 (.o 10 (.l 16 (.a 17 (.o 18 (.l 19 (.a 20 (.a 21 (.l 22 .nil))))))))) (.o 10 (.alt (.o 4 (.l 16 (.a 17 (.o 18 (.l 19 (.a 20 (.a 21 (.l 22 .nil)))))))) (.l 16 (.t 4 (.a 17 (.o 18 (.l 19 (.a 20 (.a 21 (.l 22 .nil)))))))))))) (.o 10 (.alt (.o 4 (.o 9 (.l 16 (.a 17 (.o 18 (.l 19 (.a 20 (.a 21 (.l 22 .nil))))))))) (.o 9 (.alt (.o 4 (.l 16 (.a 17 (.o 18 (.l 19 (.a 20 (.a 21 (.l 22 .nil)))))))) (.l 16 (.t 4 (.a 17 (.o 18 (.l 19 (.a 20 (.a 21 (.l 22 .nil))))))))))))))))))))))))))) (dr 9 (.a 0 (.a 1 (.a 2 (.t 3 (.a 4 (.a 5 (.a 6 (.t 7 (.alt (.o 8 (.a 9 (.a 10 (.a 11 (.o 12 (.l 13 (.a 14 .nil))))))) (.o 12 (.o 8 (.a 9 (.a 10 (.a 11 (.l 13 (.a 14 .nil)))))))))))))))))))), Tryz.f73, [.box true EN]⟩
noncomputable def mG (cJ : Int) (dI : Bool) (dj cO : Int) (cS : aG) (di : ak) (cT : aG) (cU : hZ) (dx dy bT bL bU bV bW bX bY : Int) (bG : aG) (bo bk aO : Int) (aJ : aG) (ba : af) (bp : ah) (KY : Int) (KZ : aG) (Hi : ak) (i4 : Int) : Option (Sum Zd (Sum ae Unit)) := bif decide (i4 < (Hi.length : Int)) then bif decide (0 ≤ i4) then bif Nat.blt (i4.toNat) (List.length Hi) then Option.bind ((Hi)[i4.toNat]?) fun r4 => Option.bind (aZ KY KZ) fun y5 => bif Nat.ble (((List.length bp) + 1) * 104) lim then some (.inl (cJ, dI, dj, cO, cS, di, cT, cU, dx, dy, bT, bL, bU, bV, bW, bX, bY, bG, bo, bk, aO, aJ, ba, bp ++ ([(1, y5.1, y5.2.1, r4.1, r4.2.1, r4.2.2.1, r4.2.2.2.1, [], ())]), KY, KZ, Hi, i64.wrap (i4 + 1), ())) else none else none else none else some (.inr (.inl (cJ, dI, dj, cO, cS, di, cT, cU, dx, dy, bT, bL, bU, bV, bW, bX, bY, bG, bo, bk, aO, aJ, ba, bp, ())))
noncomputable def cV (x : Zd) : Option (Sum Zd (Sum ae Unit)) := mG x.1 x.2.1 x.2.2.1 x.2.2.2.1 x.2.2.2.2.1 x.2.2.2.2.2.1 x.2.2.2.2.2.2.1 x.2.2.2.2.2.2.2.1 x.2.2.2.2.2.2.2.2.1 x.2.2.2.2.2.2.2.2.2.1 x.2.2.2.2.2.2.2.2.2.2.1 x.2.2.2.2.2.2.2.2.2.2.2.1 x.2.2.2.2.2.2.2.2.2.2.2.2.1 x.2.2.2.2.2.2.2.2.2.2.2.2.2.1 x.2.2.2.2.2.2.2.2.2.2.2.2.2.2.1 x.2.2.2.2.2.2.2.2.2.2.2.2.2.2.2.1 x.2.2.2.2.2.2.2.2.2.2.2.2.2.2.2.2.1 x.2.2.2.2.2.2.2.2.2.2.2.2.2.2.2.2.2.1 x.2.2.2.2.2.2.2.2.2.2.2.2.2.2.2.2.2.2.1 x.2.2.2.2.2.2.2.2.2.2.2.2.2.2.2.2.2.2.2.1 x.2.2.2.2.2.2.2.2.2.2.2.2.2.2.2.2.2.2.2.2.1 x.2.2.2.2.2.2.2.2.2.2.2.2.2.2.2.2.2.2.2.2.2.1 x.2.2.2.2.2.2.2.2.2.2.2.2.2.2.2.2.2.2.2.2.2.2.1 x.2.2.2.2.2.2.2.2.2.2.2.2.2.2.2.2.2.2.2.2.2.2.2.1 x.2.2.2.2.2.2.2.2.2.2.2.2.2.2.2.2.2.2.2.2.2.2.2.2.1 x.2.2.2.2.2.2.2.2.2.2.2.2.2.2.2.2.2.2.2.2.2.2.2.2.2.1 x.2.2.2.2.2.2.2.2.2.2.2.2.2.2.2.2.2.2.2.2.2.2.2.2.2.2.1 x.2.2.2.2.2.2.2.2.2.2.2.2.2.2.2.2.2.2.2.2.2.2.2.2.2.2.2.1
def U1 : LD := ⟨0, MN.lp 0, sp [(0, .box true TL), (1, .box false wu), (0, vl [.own aC]), (0, vl [.int .i64])] 144, sp [(0, .box true TL)] 148, sp [] 149, cV⟩
theorem U2 : MN.Ok U1 := MN.mm fun x => by kernel_rfl
def U3 : MN.KL := ⟨_, U2⟩
noncomputable def dU (cJ : Int) (dI : Bool) (dj cO : Int) (cS : aG) (di : ak) (cT : aG) (cU : hZ) (dx dy bT bL bU bV bW bX bY : Int) (bG : aG) (bo bk aO : Int) (aJ : aG) (ba : af) (bp : ah) : Option (ae) := bif decide (0 < bk) then Option.bind (aZ cO cS) fun y1 => Option.bind (fX aO aJ ba cJ) fun y2 => bif Nat.ble (((List.length bp) + 1) * 104) lim then Option.bind (qC aO aJ ba cJ bL) fun y3 => cM (aD cV (cJ, dI, dj, cO, cS, di, cT, cU, dx, dy, bT, bL, bU, bV, bW, bX, bY, bG, bo, bk, aO, aJ, ba, bp ++ [(2, y1.1, y1.2.1, 0, 0, 0, ByteArray.empty, y2.1, ())], cO, cS, y3.1, 0, ())) (fun y4 => Option.bind (aZ y4.2.2.2.2.2.2.2.2.2.2.2.2.2.2.2.2.2.2.2.2.1 y4.2.2.2.2.2.2.2.2.2.2.2.2.2.2.2.2.2.2.2.2.2.1) fun ui => bif Nat.ble ((0 + (List.length y4.2.2.2.2.2.2.2.2.2.2.2.2.2.2.2.2.2.2.2.2.2.1)) * 8) lim then bif Nat.ble (((List.length y4.2.2.2.2.2.2.2.2.2.2.2.2.2.2.2.2.2.2.2.2.2.2.2.1) + 1) * 104) lim then Option.bind (dS y4.1 y4.2.2.2.2.2.2.2.2.2.2.2.2.2.2.2.2.2.2.2.2.1 y4.2.2.2.2.2.2.2.2.2.2.2.2.2.2.2.2.2.2.2.2.2.1) fun lG => some (y4.1, y4.2.1, lG.1, lG.2.1, lG.2.2.1, lG.2.2.2.1, y4.2.2.2.2.2.2.1, y4.2.2.2.2.2.2.2.1, lG.2.2.2.2.2.2.1, lG.2.2.2.2.2.2.2.1, lG.2.2.2.2.2.2.2.2.1, lG.2.2.2.2.2.2.2.2.2.1, lG.2.2.2.2.2.2.2.2.2.2.1, lG.2.2.2.2.2.2.2.2.2.2.2.1, lG.2.2.2.2.2.2.2.2.2.2.2.2.1, lG.2.2.2.2.2.2.2.2.2.2.2.2.2.1, lG.2.2.2.2.2.2.2.2.2.2.2.2.2.2.1, lG.2.2.2.2.2.2.2.2.2.2.2.2.2.2.2.1, y4.2.2.2.2.2.2.2.2.2.2.2.2.2.2.2.2.2.2.1, y4.2.2.2.2.2.2.2.2.2.2.2.2.2.2.2.2.2.2.2.2.1, 0, [], [], y4.2.2.2.2.2.2.2.2.2.2.2.2.2.2.2.2.2.2.2.2.2.2.2.1 ++ ([(3, ui.1, ui.2.1, 0, 0, 0, ByteArray.empty, [] ++ y4.2.2.2.2.2.2.2.2.2.2.2.2.2.2.2.2.2.2.2.2.2.1, ())]), ()) else none else none) (fun y5 => none) else none else Option.bind (aZ aO aJ) fun uj => bif Nat.ble ((0 + (List.length aJ)) * 8) lim then bif Nat.ble (((List.length bp) + 1) * 104) lim then Option.bind (dS cJ aO aJ) fun lH => some (cJ, dI, lH.1, lH.2.1, lH.2.2.1, lH.2.2.2.1, cT, cU, lH.2.2.2.2.2.2.1, lH.2.2.2.2.2.2.2.1, lH.2.2.2.2.2.2.2.2.1, lH.2.2.2.2.2.2.2.2.2.1, lH.2.2.2.2.2.2.2.2.2.2.1, lH.2.2.2.2.2.2.2.2.2.2.2.1, lH.2.2.2.2.2.2.2.2.2.2.2.2.1, lH.2.2.2.2.2.2.2.2.2.2.2.2.2.1, lH.2.2.2.2.2.2.2.2.2.2.2.2.2.2.1, lH.2.2.2.2.2.2.2.2.2.2.2.2.2.2.2.1, bo, aO, 0, [], [], bp ++ ([(3, uj.1, uj.2.1, 0, 0, 0, ByteArray.empty, [] ++ aJ, ())]), ()) else none else none
noncomputable def nI (cJ : Int) (dI : Bool) (dj cO : Int) (cS : aG) (di : ak) (cT : aG) (cU : hZ) (dx dy bT bL bU bV bW bX bY : Int) (bG : aG) (bo bk aO : Int) (aJ : aG) (ba : af) (bp : ah) : Option (ae) := bif decide (0 < bk) then Option.bind (aZ cO cS) fun y1 => Option.bind (fX aO aJ ba cJ) fun y2 => bif Nat.ble (((List.length bp) + 1) * 104) lim then Option.bind (qC aO aJ ba cJ bL) fun y3 => cM (aD cV (cJ, dI, dj, cO, cS, di, cT, cU, dx, dy, bT, bL, bU, bV, bW, bX, bY, bG, bo, bk, aO, aJ, ba, bp ++ [(2, y1.1, y1.2.1, 0, 0, 0, ByteArray.empty, y2.1, ())], cO, cS, y3.1, 0, ())) (fun y4 => (fun LX : (Int × aG × Unit) → Option (ae) => both (both (Option.bind (aZ y4.2.2.2.2.2.2.2.2.2.2.2.2.2.2.2.2.2.2.2.2.1 y4.2.2.2.2.2.2.2.2.2.2.2.2.2.2.2.2.2.2.2.2.2.1) fun ui => bif Nat.ble ((0 + (List.length y4.2.2.2.2.2.2.2.2.2.2.2.2.2.2.2.2.2.2.2.2.2.1)) * 8) lim then bif Nat.ble (((List.length y4.2.2.2.2.2.2.2.2.2.2.2.2.2.2.2.2.2.2.2.2.2.2.2.1) + 1) * 104) lim then LX ui else none else none) (Option.bind (aZ y4.2.2.2.2.2.2.2.2.2.2.2.2.2.2.2.2.2.2.2.2.1 y4.2.2.2.2.2.2.2.2.2.2.2.2.2.2.2.2.2.2.2.2.2.1) fun ui => bif Nat.ble ((0 + (List.length y4.2.2.2.2.2.2.2.2.2.2.2.2.2.2.2.2.2.2.2.2.2.1)) * 8) lim then bif Nat.ble (((List.length y4.2.2.2.2.2.2.2.2.2.2.2.2.2.2.2.2.2.2.2.2.2.2.2.1) + 1) * 104) lim then LX ui else none else none)) (both (Option.bind (aZ y4.2.2.2.2.2.2.2.2.2.2.2.2.2.2.2.2.2.2.2.2.1 y4.2.2.2.2.2.2.2.2.2.2.2.2.2.2.2.2.2.2.2.2.2.1) fun ui => both (bif Nat.ble ((0 + (List.length y4.2.2.2.2.2.2.2.2.2.2.2.2.2.2.2.2.2.2.2.2.2.1)) * 8) lim then bif Nat.ble (((List.length y4.2.2.2.2.2.2.2.2.2.2.2.2.2.2.2.2.2.2.2.2.2.2.2.1) + 1) * 104) lim then LX ui else none else none) (both (bif Nat.ble ((0 + (List.length y4.2.2.2.2.2.2.2.2.2.2.2.2.2.2.2.2.2.2.2.2.2.1)) * 8) lim then bif Nat.ble (((List.length y4.2.2.2.2.2.2.2.2.2.2.2.2.2.2.2.2.2.2.2.2.2.2.2.1) + 1) * 104) lim then LX ui else none else none) (bif Nat.ble ((0 + (List.length y4.2.2.2.2.2.2.2.2.2.2.2.2.2.2.2.2.2.2.2.2.2.1)) * 8) lim then bif Nat.ble (((List.length y4.2.2.2.2.2.2.2.2.2.2.2.2.2.2.2.2.2.2.2.2.2.2.2.1) + 1) * 104) lim then LX ui else none else none))) (both (Option.bind (aZ y4.2.2.2.2.2.2.2.2.2.2.2.2.2.2.2.2.2.2.2.2.1 y4.2.2.2.2.2.2.2.2.2.2.2.2.2.2.2.2.2.2.2.2.2.1) fun ui => bif Nat.ble ((0 + (List.length y4.2.2.2.2.2.2.2.2.2.2.2.2.2.2.2.2.2.2.2.2.2.1)) * 8) lim then bif Nat.ble (((List.length y4.2.2.2.2.2.2.2.2.2.2.2.2.2.2.2.2.2.2.2.2.2.2.2.1) + 1) * 104) lim then LX ui else none else none) (Option.bind (aZ y4.2.2.2.2.2.2.2.2.2.2.2.2.2.2.2.2.2.2.2.2.1 y4.2.2.2.2.2.2.2.2.2.2.2.2.2.2.2.2.2.2.2.2.2.1) fun ui => both (bif Nat.ble ((0 + (List.length y4.2.2.2.2.2.2.2.2.2.2.2.2.2.2.2.2.2.2.2.2.2.1)) * 8) lim then bif Nat.ble (((List.length y4.2.2.2.2.2.2.2.2.2.2.2.2.2.2.2.2.2.2.2.2.2.2.2.1) + 1) * 104) lim then LX ui else none else none) (bif Nat.ble ((0 + (List.length y4.2.2.2.2.2.2.2.2.2.2.2.2.2.2.2.2.2.2.2.2.2.1)) * 8) lim then bif Nat.ble (((List.length y4.2.2.2.2.2.2.2.2.2.2.2.2.2.2.2.2.2.2.2.2.2.2.2.1) + 1) * 104) lim then LX ui else none else none))))) (fun ui => (fun TR : (U8) → Option (ae) => both (Option.bind (dS y4.1 y4.2.2.2.2.2.2.2.2.2.2.2.2.2.2.2.2.2.2.2.2.1 y4.2.2.2.2.2.2.2.2.2.2.2.2.2.2.2.2.2.2.2.2.2.1) fun lG => TR lG) (Option.bind (dS y4.1 y4.2.2.2.2.2.2.2.2.2.2.2.2.2.2.2.2.2.2.2.2.1 y4.2.2.2.2.2.2.2.2.2.2.2.2.2.2.2.2.2.2.2.2.2.1) fun lG => TR lG)) (fun lG => some (y4.1, y4.2.1, lG.1, lG.2.1, lG.2.2.1, lG.2.2.2.1, y4.2.2.2.2.2.2.1, y4.2.2.2.2.2.2.2.1, lG.2.2.2.2.2.2.1, lG.2.2.2.2.2.2.2.1, lG.2.2.2.2.2.2.2.2.1, lG.2.2.2.2.2.2.2.2.2.1, lG.2.2.2.2.2.2.2.2.2.2.1, lG.2.2.2.2.2.2.2.2.2.2.2.1, lG.2.2.2.2.2.2.2.2.2.2.2.2.1, lG.2.2.2.2.2.2.2.2.2.2.2.2.2.1, lG.2.2.2.2.2.2.2.2.2.2.2.2.2.2.1, lG.2.2.2.2.2.2.2.2.2.2.2.2.2.2.2.1, y4.2.2.2.2.2.2.2.2.2.2.2.2.2.2.2.2.2.2.1, y4.2.2.2.2.2.2.2.2.2.2.2.2.2.2.2.2.2.2.2.2.1, 0, [], [], y4.2.2.2.2.2.2.2.2.2.2.2.2.2.2.2.2.2.2.2.2.2.2.2.1 ++ ([(3, ui.1, ui.2.1, 0, 0, 0, ByteArray.empty, [] ++ y4.2.2.2.2.2.2.2.2.2.2.2.2.2.2.2.2.2.2.2.2.2.1, ())]), ())))) (fun y5 => none) else none else (fun LY : (Int × aG × Unit) → Option (ae) => both (both (Option.bind (aZ aO aJ) fun uj => bif Nat.ble ((0 + (List.length aJ)) * 8) lim then bif Nat.ble (((List.length bp) + 1) * 104) lim then LY uj else none else none) (Option.bind (aZ aO aJ) fun uj => bif Nat.ble ((0 + (List.length aJ)) * 8) lim then bif Nat.ble (((List.length bp) + 1) * 104) lim then LY uj else none else none)) (both (Option.bind (aZ aO aJ) fun uj => both (bif Nat.ble ((0 + (List.length aJ)) * 8) lim then bif Nat.ble (((List.length bp) + 1) * 104) lim then LY uj else none else none) (both (bif Nat.ble ((0 + (List.length aJ)) * 8) lim then bif Nat.ble (((List.length bp) + 1) * 104) lim then LY uj else none else none) (bif Nat.ble ((0 + (List.length aJ)) * 8) lim then bif Nat.ble (((List.length bp) + 1) * 104) lim then LY uj else none else none))) (both (Option.bind (aZ aO aJ) fun uj => bif Nat.ble ((0 + (List.length aJ)) * 8) lim then bif Nat.ble (((List.length bp) + 1) * 104) lim then LY uj else none else none) (Option.bind (aZ aO aJ) fun uj => both (bif Nat.ble ((0 + (List.length aJ)) * 8) lim then bif Nat.ble (((List.length bp) + 1) * 104) lim then LY uj else none else none) (bif Nat.ble ((0 + (List.length aJ)) * 8) lim then bif Nat.ble (((List.length bp) + 1) * 104) lim then LY uj else none else none))))) (fun uj => (fun T5 : (U8) → Option (ae) => both (Option.bind (dS cJ aO aJ) fun lH => T5 lH) (Option.bind (dS cJ aO aJ) fun lH => T5 lH)) (fun lH => some (cJ, dI, lH.1, lH.2.1, lH.2.2.1, lH.2.2.2.1, cT, cU, lH.2.2.2.2.2.2.1, lH.2.2.2.2.2.2.2.1, lH.2.2.2.2.2.2.2.2.1, lH.2.2.2.2.2.2.2.2.2.1, lH.2.2.2.2.2.2.2.2.2.2.1, lH.2.2.2.2.2.2.2.2.2.2.2.1, lH.2.2.2.2.2.2.2.2.2.2.2.2.1, lH.2.2.2.2.2.2.2.2.2.2.2.2.2.1, lH.2.2.2.2.2.2.2.2.2.2.2.2.2.2.1, lH.2.2.2.2.2.2.2.2.2.2.2.2.2.2.2.1, bo, aO, 0, [], [], bp ++ ([(3, uj.1, uj.2.1, 0, 0, 0, ByteArray.empty, [] ++ aJ, ())]), ())))
theorem u9 : nI = dU := by delta nI dU; simp only [mK]
noncomputable def rH (x : ae) : Option (ae) := xN (aE (MN.ps.map some)) nI x
theorem vd : rH = xN (aE (MN.ps.map some)) dU := congrArg (xN (aE (MN.ps.map some))) u9
theorem k73 : MN.Kn [] 73 dU := MN.kf [U3] Tryz.func73 (by kernel_rfl) (by kernel_rfl) fun x => Eq.trans (b := rH x) (by kernel_rfl) (congrFun vd x)
def K73 := kw k73
def F26 : FC Tryz.prog := ⟨dO, [K69, K66, Z6, ZP, XA, K71, K72, K73], dr 7 (.a 0 (.t 1 (.t 2 (.o 3 (.o 4 (.l 5 (.a 6 (.l 7 .nil)))))))), Tryz.f26, [va EL, va DI]⟩
noncomputable def iu (cJ : Int) (dI : Bool) (dj cO : Int) (cS : aG) (di : ak) (cT : aG) (cU : hZ) (dx dy bT bL bU bV bW bX bY : Int) (bG : aG) (bo bk aO : Int) (aJ : aG) (ba : af) (bp : ah) (n7 n8 qk : Int) (oR : ak) : Option (MA) := Option.bind (fB cJ dI dj cO cS di cT cU dx dy bT bL bU bV bW bX bY bG bo bk aO aJ ba bp) fun y1 => Option.bind (iQ cJ dI dj cO cS di cT cU dx dy bT bL bU bV bW bX bY bG bo bk aO aJ ba bp) fun y2 => bif !y2.1 then some (y1.1, y1.2.1, y1.2.2.1, y1.2.2.2.1, y1.2.2.2.2.1, y1.2.2.2.2.2.1, y1.2.2.2.2.2.2.1, y1.2.2.2.2.2.2.2.1, y1.2.2.2.2.2.2.2.2.1, y1.2.2.2.2.2.2.2.2.2.1, y1.2.2.2.2.2.2.2.2.2.2.1, y1.2.2.2.2.2.2.2.2.2.2.2.1, y1.2.2.2.2.2.2.2.2.2.2.2.2.1, y1.2.2.2.2.2.2.2.2.2.2.2.2.2.1, y1.2.2.2.2.2.2.2.2.2.2.2.2.2.2.1, y1.2.2.2.2.2.2.2.2.2.2.2.2.2.2.2.1, y1.2.2.2.2.2.2.2.2.2.2.2.2.2.2.2.2.1, y1.2.2.2.2.2.2.2.2.2.2.2.2.2.2.2.2.2.1, y1.2.2.2.2.2.2.2.2.2.2.2.2.2.2.2.2.2.2.1, y1.2.2.2.2.2.2.2.2.2.2.2.2.2.2.2.2.2.2.2.1, y1.2.2.2.2.2.2.2.2.2.2.2.2.2.2.2.2.2.2.2.2.1, y1.2.2.2.2.2.2.2.2.2.2.2.2.2.2.2.2.2.2.2.2.2.1, y1.2.2.2.2.2.2.2.2.2.2.2.2.2.2.2.2.2.2.2.2.2.2.1, y1.2.2.2.2.2.2.2.2.2.2.2.2.2.2.2.2.2.2.2.2.2.2.2.1, false, ()) else Option.bind (fD n7 n8 qk oR) fun y3 => bif !y3.1 then some (y1.1, y1.2.1, y1.2.2.1, y1.2.2.2.1, y1.2.2.2.2.1, y1.2.2.2.2.2.1, y1.2.2.2.2.2.2.1, y1.2.2.2.2.2.2.2.1, y1.2.2.2.2.2.2.2.2.1, y1.2.2.2.2.2.2.2.2.2.1, y1.2.2.2.2.2.2.2.2.2.2.1, y1.2.2.2.2.2.2.2.2.2.2.2.1, y1.2.2.2.2.2.2.2.2.2.2.2.2.1, y1.2.2.2.2.2.2.2.2.2.2.2.2.2.1, y1.2.2.2.2.2.2.2.2.2.2.2.2.2.2.1, y1.2.2.2.2.2.2.2.2.2.2.2.2.2.2.2.1, y1.2.2.2.2.2.2.2.2.2.2.2.2.2.2.2.2.1, y1.2.2.2.2.2.2.2.2.2.2.2.2.2.2.2.2.2.1, y1.2.2.2.2.2.2.2.2.2.2.2.2.2.2.2.2.2.2.1, y1.2.2.2.2.2.2.2.2.2.2.2.2.2.2.2.2.2.2.2.1, y1.2.2.2.2.2.2.2.2.2.2.2.2.2.2.2.2.2.2.2.2.1, y1.2.2.2.2.2.2.2.2.2.2.2.2.2.2.2.2.2.2.2.2.2.1, y1.2.2.2.2.2.2.2.2.2.2.2.2.2.2.2.2.2.2.2.2.2.2.1, y1.2.2.2.2.2.2.2.2.2.2.2.2.2.2.2.2.2.2.2.2.2.2.2.1, false, ()) else Option.bind (fK aO aJ) fun y4 => bif y4.1 then some (y1.1, y1.2.1, y1.2.2.1, y1.2.2.2.1, y1.2.2.2.2.1, y1.2.2.2.2.2.1, y1.2.2.2.2.2.2.1, y1.2.2.2.2.2.2.2.1, y1.2.2.2.2.2.2.2.2.1, y1.2.2.2.2.2.2.2.2.2.1, y1.2.2.2.2.2.2.2.2.2.2.1, y1.2.2.2.2.2.2.2.2.2.2.2.1, y1.2.2.2.2.2.2.2.2.2.2.2.2.1, y1.2.2.2.2.2.2.2.2.2.2.2.2.2.1, y1.2.2.2.2.2.2.2.2.2.2.2.2.2.2.1, y1.2.2.2.2.2.2.2.2.2.2.2.2.2.2.2.1, y1.2.2.2.2.2.2.2.2.2.2.2.2.2.2.2.2.1, y1.2.2.2.2.2.2.2.2.2.2.2.2.2.2.2.2.2.1, y1.2.2.2.2.2.2.2.2.2.2.2.2.2.2.2.2.2.2.1, y1.2.2.2.2.2.2.2.2.2.2.2.2.2.2.2.2.2.2.2.1, y1.2.2.2.2.2.2.2.2.2.2.2.2.2.2.2.2.2.2.2.2.1, y1.2.2.2.2.2.2.2.2.2.2.2.2.2.2.2.2.2.2.2.2.2.1, y1.2.2.2.2.2.2.2.2.2.2.2.2.2.2.2.2.2.2.2.2.2.2.1, y1.2.2.2.2.2.2.2.2.2.2.2.2.2.2.2.2.2.2.2.2.2.2.2.1, false, ()) else bif !decide (n8 = aO) then some (y1.1, y1.2.1, y1.2.2.1, y1.2.2.2.1, y1.2.2.2.2.1, y1.2.2.2.2.2.1, y1.2.2.2.2.2.2.1, y1.2.2.2.2.2.2.2.1, y1.2.2.2.2.2.2.2.2.1, y1.2.2.2.2.2.2.2.2.2.1, y1.2.2.2.2.2.2.2.2.2.2.1, y1.2.2.2.2.2.2.2.2.2.2.2.1, y1.2.2.2.2.2.2.2.2.2.2.2.2.1, y1.2.2.2.2.2.2.2.2.2.2.2.2.2.1, y1.2.2.2.2.2.2.2.2.2.2.2.2.2.2.1, y1.2.2.2.2.2.2.2.2.2.2.2.2.2.2.2.1, y1.2.2.2.2.2.2.2.2.2.2.2.2.2.2.2.2.1, y1.2.2.2.2.2.2.2.2.2.2.2.2.2.2.2.2.2.1, y1.2.2.2.2.2.2.2.2.2.2.2.2.2.2.2.2.2.2.1, y1.2.2.2.2.2.2.2.2.2.2.2.2.2.2.2.2.2.2.2.1, y1.2.2.2.2.2.2.2.2.2.2.2.2.2.2.2.2.2.2.2.2.1, y1.2.2.2.2.2.2.2.2.2.2.2.2.2.2.2.2.2.2.2.2.2.1, y1.2.2.2.2.2.2.2.2.2.2.2.2.2.2.2.2.2.2.2.2.2.2.1, y1.2.2.2.2.2.2.2.2.2.2.2.2.2.2.2.2.2.2.2.2.2.2.2.1, false, ()) else Option.bind (cN aO aJ ba n7) fun y5 => bif y5.2.2.2.2.1 then some (y1.1, y1.2.1, y1.2.2.1, y1.2.2.2.1, y1.2.2.2.2.1, y1.2.2.2.2.2.1, y1.2.2.2.2.2.2.1, y1.2.2.2.2.2.2.2.1, y1.2.2.2.2.2.2.2.2.1, y1.2.2.2.2.2.2.2.2.2.1, y1.2.2.2.2.2.2.2.2.2.2.1, y1.2.2.2.2.2.2.2.2.2.2.2.1, y1.2.2.2.2.2.2.2.2.2.2.2.2.1, y1.2.2.2.2.2.2.2.2.2.2.2.2.2.1, y1.2.2.2.2.2.2.2.2.2.2.2.2.2.2.1, y1.2.2.2.2.2.2.2.2.2.2.2.2.2.2.2.1, y1.2.2.2.2.2.2.2.2.2.2.2.2.2.2.2.2.1, y1.2.2.2.2.2.2.2.2.2.2.2.2.2.2.2.2.2.1, y1.2.2.2.2.2.2.2.2.2.2.2.2.2.2.2.2.2.2.1, y1.2.2.2.2.2.2.2.2.2.2.2.2.2.2.2.2.2.2.2.1, y1.2.2.2.2.2.2.2.2.2.2.2.2.2.2.2.2.2.2.2.2.1, y1.2.2.2.2.2.2.2.2.2.2.2.2.2.2.2.2.2.2.2.2.2.1, y1.2.2.2.2.2.2.2.2.2.2.2.2.2.2.2.2.2.2.2.2.2.2.1, y1.2.2.2.2.2.2.2.2.2.2.2.2.2.2.2.2.2.2.2.2.2.2.2.1, false, ()) else Option.bind (ia n7 n8 qk oR) fun y6 => bif Nat.ble (((List.length y1.2.2.2.2.2.2.2.2.2.2.2.2.2.2.2.2.2.2.2.2.2.2.1) + 1) * 48) lim then Option.bind (nF y1.2.2.2.2.2.2.2.2.2.2.2.2.2.2.2.2.2.2.2.2.1 y1.2.2.2.2.2.2.2.2.2.2.2.2.2.2.2.2.2.2.2.2.2.1 (y1.2.2.2.2.2.2.2.2.2.2.2.2.2.2.2.2.2.2.2.2.2.2.1 ++ [(y6.1, y6.2.1, y6.2.2.1, y6.2.2.2.1, ())])) fun y7 => bif y7.1 then Option.bind (dU y1.1 y1.2.1 y1.2.2.1 y1.2.2.2.1 y1.2.2.2.2.1 y1.2.2.2.2.2.1 y1.2.2.2.2.2.2.1 y1.2.2.2.2.2.2.2.1 y1.2.2.2.2.2.2.2.2.1 y1.2.2.2.2.2.2.2.2.2.1 y1.2.2.2.2.2.2.2.2.2.2.1 y1.2.2.2.2.2.2.2.2.2.2.2.1 y1.2.2.2.2.2.2.2.2.2.2.2.2.1 y1.2.2.2.2.2.2.2.2.2.2.2.2.2.1 y1.2.2.2.2.2.2.2.2.2.2.2.2.2.2.1 y1.2.2.2.2.2.2.2.2.2.2.2.2.2.2.2.1 y1.2.2.2.2.2.2.2.2.2.2.2.2.2.2.2.2.1 y1.2.2.2.2.2.2.2.2.2.2.2.2.2.2.2.2.2.1 y1.2.2.2.2.2.2.2.2.2.2.2.2.2.2.2.2.2.2.1 y1.2.2.2.2.2.2.2.2.2.2.2.2.2.2.2.2.2.2.2.1 y1.2.2.2.2.2.2.2.2.2.2.2.2.2.2.2.2.2.2.2.2.1 y1.2.2.2.2.2.2.2.2.2.2.2.2.2.2.2.2.2.2.2.2.2.1 (y1.2.2.2.2.2.2.2.2.2.2.2.2.2.2.2.2.2.2.2.2.2.2.1 ++ [(y6.1, y6.2.1, y6.2.2.1, y6.2.2.2.1, ())]) y1.2.2.2.2.2.2.2.2.2.2.2.2.2.2.2.2.2.2.2.2.2.2.2.1) fun y8 => Option.bind (fB y8.1 y8.2.1 y8.2.2.1 y8.2.2.2.1 y8.2.2.2.2.1 y8.2.2.2.2.2.1 y8.2.2.2.2.2.2.1 y8.2.2.2.2.2.2.2.1 y8.2.2.2.2.2.2.2.2.1 y8.2.2.2.2.2.2.2.2.2.1 y8.2.2.2.2.2.2.2.2.2.2.1 y8.2.2.2.2.2.2.2.2.2.2.2.1 y8.2.2.2.2.2.2.2.2.2.2.2.2.1 y8.2.2.2.2.2.2.2.2.2.2.2.2.2.1 y8.2.2.2.2.2.2.2.2.2.2.2.2.2.2.1 y8.2.2.2.2.2.2.2.2.2.2.2.2.2.2.2.1 y8.2.2.2.2.2.2.2.2.2.2.2.2.2.2.2.2.1 y8.2.2.2.2.2.2.2.2.2.2.2.2.2.2.2.2.2.1 y8.2.2.2.2.2.2.2.2.2.2.2.2.2.2.2.2.2.2.1 y8.2.2.2.2.2.2.2.2.2.2.2.2.2.2.2.2.2.2.2.1 y8.2.2.2.2.2.2.2.2.2.2.2.2.2.2.2.2.2.2.2.2.1 y8.2.2.2.2.2.2.2.2.2.2.2.2.2.2.2.2.2.2.2.2.2.1 y8.2.2.2.2.2.2.2.2.2.2.2.2.2.2.2.2.2.2.2.2.2.2.1 y8.2.2.2.2.2.2.2.2.2.2.2.2.2.2.2.2.2.2.2.2.2.2.2.1) fun y9 => some (y9.1, y9.2.1, y9.2.2.1, y9.2.2.2.1, y9.2.2.2.2.1, y9.2.2.2.2.2.1, y9.2.2.2.2.2.2.1, y9.2.2.2.2.2.2.2.1, y9.2.2.2.2.2.2.2.2.1, y9.2.2.2.2.2.2.2.2.2.1, y9.2.2.2.2.2.2.2.2.2.2.1, y9.2.2.2.2.2.2.2.2.2.2.2.1, y9.2.2.2.2.2.2.2.2.2.2.2.2.1, y9.2.2.2.2.2.2.2.2.2.2.2.2.2.1, y9.2.2.2.2.2.2.2.2.2.2.2.2.2.2.1, y9.2.2.2.2.2.2.2.2.2.2.2.2.2.2.2.1, y9.2.2.2.2.2.2.2.2.2.2.2.2.2.2.2.2.1, y9.2.2.2.2.2.2.2.2.2.2.2.2.2.2.2.2.2.1, y9.2.2.2.2.2.2.2.2.2.2.2.2.2.2.2.2.2.2.1, y9.2.2.2.2.2.2.2.2.2.2.2.2.2.2.2.2.2.2.2.1, y9.2.2.2.2.2.2.2.2.2.2.2.2.2.2.2.2.2.2.2.2.1, y9.2.2.2.2.2.2.2.2.2.2.2.2.2.2.2.2.2.2.2.2.2.1, y9.2.2.2.2.2.2.2.2.2.2.2.2.2.2.2.2.2.2.2.2.2.2.1, y9.2.2.2.2.2.2.2.2.2.2.2.2.2.2.2.2.2.2.2.2.2.2.2.1, true, ()) else Option.bind (fB y1.1 y1.2.1 y1.2.2.1 y1.2.2.2.1 y1.2.2.2.2.1 y1.2.2.2.2.2.1 y1.2.2.2.2.2.2.1 y1.2.2.2.2.2.2.2.1 y1.2.2.2.2.2.2.2.2.1 y1.2.2.2.2.2.2.2.2.2.1 y1.2.2.2.2.2.2.2.2.2.2.1 y1.2.2.2.2.2.2.2.2.2.2.2.1 y1.2.2.2.2.2.2.2.2.2.2.2.2.1 y1.2.2.2.2.2.2.2.2.2.2.2.2.2.1 y1.2.2.2.2.2.2.2.2.2.2.2.2.2.2.1 y1.2.2.2.2.2.2.2.2.2.2.2.2.2.2.2.1 y1.2.2.2.2.2.2.2.2.2.2.2.2.2.2.2.2.1 y1.2.2.2.2.2.2.2.2.2.2.2.2.2.2.2.2.2.1 y1.2.2.2.2.2.2.2.2.2.2.2.2.2.2.2.2.2.2.1 y1.2.2.2.2.2.2.2.2.2.2.2.2.2.2.2.2.2.2.2.1 y1.2.2.2.2.2.2.2.2.2.2.2.2.2.2.2.2.2.2.2.2.1 y1.2.2.2.2.2.2.2.2.2.2.2.2.2.2.2.2.2.2.2.2.2.1 (y1.2.2.2.2.2.2.2.2.2.2.2.2.2.2.2.2.2.2.2.2.2.2.1 ++ [(y6.1, y6.2.1, y6.2.2.1, y6.2.2.2.1, ())]) y1.2.2.2.2.2.2.2.2.2.2.2.2.2.2.2.2.2.2.2.2.2.2.2.1) fun qT => some (qT.1, qT.2.1, qT.2.2.1, qT.2.2.2.1, qT.2.2.2.2.1, qT.2.2.2.2.2.1, qT.2.2.2.2.2.2.1, qT.2.2.2.2.2.2.2.1, qT.2.2.2.2.2.2.2.2.1, qT.2.2.2.2.2.2.2.2.2.1, qT.2.2.2.2.2.2.2.2.2.2.1, qT.2.2.2.2.2.2.2.2.2.2.2.1, qT.2.2.2.2.2.2.2.2.2.2.2.2.1, qT.2.2.2.2.2.2.2.2.2.2.2.2.2.1, qT.2.2.2.2.2.2.2.2.2.2.2.2.2.2.1, qT.2.2.2.2.2.2.2.2.2.2.2.2.2.2.2.1, qT.2.2.2.2.2.2.2.2.2.2.2.2.2.2.2.2.1, qT.2.2.2.2.2.2.2.2.2.2.2.2.2.2.2.2.2.1, qT.2.2.2.2.2.2.2.2.2.2.2.2.2.2.2.2.2.2.1, qT.2.2.2.2.2.2.2.2.2.2.2.2.2.2.2.2.2.2.2.1, qT.2.2.2.2.2.2.2.2.2.2.2.2.2.2.2.2.2.2.2.2.1, qT.2.2.2.2.2.2.2.2.2.2.2.2.2.2.2.2.2.2.2.2.2.1, qT.2.2.2.2.2.2.2.2.2.2.2.2.2.2.2.2.2.2.2.2.2.2.1, qT.2.2.2.2.2.2.2.2.2.2.2.2.2.2.2.2.2.2.2.2.2.2.2.1, true, ()) else none
theorem k26 : F26.Kn [⟨.cell 4, true, EN⟩, ⟨.tmp 5, false, [.bool]⟩] 26 iu := F26.mn Tryz.func26 fun x => by kernel_rfl
def LY := kw k26
def U4 : FC Tryz.prog := ⟨dO, [], fR, Tryz.f159, [vl [.shr im]]⟩
noncomputable def cR (s0 : aG) : Option (aG × Unit) := bif Nat.ble ((0 + (List.length s0)) * 8) lim then some ([] ++ s0, ()) else none
theorem aas : U4.Kn [⟨.tmp 2, false, [.own im]⟩] 159 cR := U4.Y0 [] Tryz.func159 (im) [] rfl (by kernel_rfl) (by kernel_rfl) (fun x => by kernel_rfl) fun x => by kernel_rfl
def K0 := kw aas
def F82 : FC Tryz.prog := ⟨dO, [K0], dr 1 (.a 0 (.t 1 (.a 2 (.t 3 (.o 4 (.a 5 (.l 6 .nil))))))), Tryz.f82, [va wu]⟩
noncomputable def cj (aX : Int) (aY : aG) : Option (Int × aG × Unit) := Option.bind (cR aY) fun y1 => some (aX, y1.1, ())
theorem k82 : F82.Kn [⟨.cell 2, true, MH⟩] 82 cj := F82.mn Tryz.func82 fun x => by kernel_rfl
def R6 := kw k82
def F81 : FC Tryz.prog := ⟨dO, [], fR, Tryz.f81, [vl [.shr aC]]⟩
noncomputable def eN (s0 : ak) : Option (ak × Unit) := bif Nat.ble ((0 + (List.length s0)) * 40) lim then some ([] ++ s0, ()) else none
theorem k81 : F81.Kn [⟨.tmp 2, false, [.own aC]⟩] 81 eN := F81.Y0 [] Tryz.func81 (aC) [] rfl (by kernel_rfl) (by kernel_rfl) (fun x => by kernel_rfl) fun x => by kernel_rfl
def K81 := kw k81
def U5 : FC Tryz.prog := ⟨dO, [], fR, Tryz.f199, [vl [.shr uo]]⟩
noncomputable def jb (s0 : hZ) : Option (hZ × Unit) := bif Nat.ble ((0 + (List.length s0)) * 16) lim then some ([] ++ s0, ()) else none
theorem aat : U5.Kn [⟨.tmp 2, false, [.own uo]⟩] 199 jb := U5.Y0 [] Tryz.func199 (uo) [] rfl (by kernel_rfl) (by kernel_rfl) (fun x => by kernel_rfl) fun x => by kernel_rfl
def aau := kw aat
def Va : FC Tryz.prog := ⟨dO, [K0], fR, Tryz.f182, [va Fi]⟩
noncomputable def nJ (yf yh xv zn zo : Int) (wv : aG) : Option (mE) := Option.bind (cR wv) fun y1 => some (yf, yh, xv, zn, zo, y1.1, ())
theorem aav : Va.Kn [⟨.cell 2, true, MI⟩] 182 nJ := Va.mn Tryz.func182 fun x => by kernel_rfl
def aaw := kw aav
def Vb : FC Tryz.prog := ⟨dO, [R6, K81, K0, aau, aaw], fR, Tryz.f157, [va Ig]⟩
noncomputable def j4 (jQ jz : Int) (fS : aG) (gr : ak) (eX : aG) (gT : hZ) (kM kN kO kP ff fh fi fj fk : Int) (dH : aG) : Option (bE) := Option.bind (cj jz fS) fun y1 => Option.bind (eN gr) fun y2 => Option.bind (cR eX) fun y3 => Option.bind (jb gT) fun y4 => Option.bind (nJ ff fh fi fj fk dH) fun y5 => some (jQ, y1.1, y1.2.1, y2.1, y3.1, y4.1, kM, kN, kO, kP, y5)
theorem aax : Vb.Kn [⟨.cell 2, true, Ih⟩] 157 j4 := Vb.mn Tryz.func157 fun x => by kernel_rfl
def aay := kw aax
def F83 : FC Tryz.prog := ⟨dO, [K81], fR, Tryz.f83, [va DI]⟩
noncomputable def jV (Bq zp AQ : Int) (zq : ak) : Option (bw) := Option.bind (eN zq) fun y1 => some (Bq, zp, AQ, y1.1, ())
theorem k83 : F83.Kn [⟨.cell 2, true, EM⟩] 83 jV := F83.mn Tryz.func83 fun x => by kernel_rfl
def K83 := kw k83
def Iz : FC Tryz.prog := ⟨dO, [K83], fR, Tryz.f158, [vl vB]⟩
noncomputable def lI (dY t6 : af) (t7 t8 : Int) : Option (Sum Ze (Sum (af × Unit) Unit)) := bif decide (t8 < t7) then bif decide (0 ≤ t8) then Option.bind ((t6)[t8.toNat]?) fun r1 => Option.bind (jV r1.1 r1.2.1 r1.2.2.1 r1.2.2.2.1) fun y2 => bif Nat.ble (((List.length dY) + 1) * 48) lim then some (.inl (dY ++ [(y2.1, y2.2.1, y2.2.2.1, y2.2.2.2.1, ())], t6, t7, i64.wrap (t8 + 1), ())) else none else none else some (.inr (.inl (dY, ())))
noncomputable def eP (x : Ze) : Option (Sum Ze (Sum (af × Unit) Unit)) := lI x.1 x.2.1 x.2.2.1 x.2.2.2.1
def PO : LD := ⟨0, Iz.lp 0, sp [(3, vl C1), (2, vl vB), (0, vl [.int .i64]), (0, vl [.int .i64])] 11, sp [(3, vl C1)] 16, sp [] 20, eP⟩
theorem PQ : Iz.Ok PO := Iz.mm fun x => by kernel_rfl
def PR : Iz.KL := ⟨_, PQ⟩
noncomputable def lr (aV : af) : Option (af × Unit) := cM (aD eP ([], aV, (aV.length : Int), 0, ())) (fun y1 => some (y1.1, ())) (fun y2 => none)
theorem aaz : Iz.Kn [⟨.tmp 2, false, C1⟩] 158 lr := Iz.kf [PR] Tryz.func158 (by kernel_rfl) (by kernel_rfl) fun x => by kernel_rfl
def aaA := kw aaz
def Vc : FC Tryz.prog := ⟨dO, [R6, K0], fR, Tryz.f196, [va TI]⟩
noncomputable def qW (aaB aaC : Int) (aaD : aG) (aaE aaF aaG : Int) (aaH : ByteArray) (aaI : aG) : Option (bF) := Option.bind (cj aaC aaD) fun y1 => Option.bind (cR aaI) fun y2 => some (aaB, y1.1, y1.2.1, aaE, aaF, aaG, aaH, y2.1, ())
theorem aaJ : Vc.Kn [⟨.cell 2, true, TJ⟩] 196 qW := Vc.mn Tryz.func196 fun x => by kernel_rfl
def aaK := kw aaJ
def IA : FC Tryz.prog := ⟨dO, [aaK], fR, Tryz.f143, [vl Hg]⟩
noncomputable def pW (dY t6 : ah) (t7 t8 : Int) : Option (Sum Zf (Sum (ah × Unit) Unit)) := bif decide (t8 < t7) then bif decide (0 ≤ t8) then Option.bind ((t6)[t8.toNat]?) fun r1 => Option.bind (qW r1.1 r1.2.1 r1.2.2.1 r1.2.2.2.1 r1.2.2.2.2.1 r1.2.2.2.2.2.1 r1.2.2.2.2.2.2.1 r1.2.2.2.2.2.2.2.1) fun y2 => bif Nat.ble (((List.length dY) + 1) * 104) lim then some (.inl (dY ++ [(y2.1, y2.2.1, y2.2.2.1, y2.2.2.2.1, y2.2.2.2.2.1, y2.2.2.2.2.2.1, y2.2.2.2.2.2.2.1, y2.2.2.2.2.2.2.2.1, ())], t6, t7, i64.wrap (t8 + 1), ())) else none else none else some (.inr (.inl (dY, ())))
noncomputable def iv (x : Zf) : Option (Sum Zf (Sum (ah × Unit) Unit)) := pW x.1 x.2.1 x.2.2.1 x.2.2.2.1
def PS : LD := ⟨0, IA.lp 0, sp [(3, vl C2), (2, vl Hg), (0, vl [.int .i64]), (0, vl [.int .i64])] 11, sp [(3, vl C2)] 16, sp [] 20, iv⟩
theorem PT : IA.Ok PS := IA.mm fun x => by kernel_rfl
def PU : IA.KL := ⟨_, PT⟩
noncomputable def qm (Vd : ah) : Option (ah × Unit) := cM (aD iv ([], Vd, (Vd.length : Int), 0, ())) (fun y1 => some (y1.1, ())) (fun y2 => none)
theorem aaL : IA.Kn [⟨.tmp 2, false, C2⟩] 143 qm := IA.kf [PU] Tryz.func143 (by kernel_rfl) (by kernel_rfl) fun x => by kernel_rfl
def aaM := kw aaL
def F80 : FC Tryz.prog := ⟨dO, [aay, R6, aaA, aaM], fR, Tryz.f80, [va EL]⟩
noncomputable def mo (cJ : Int) (dI : Bool) (dj cO : Int) (cS : aG) (di : ak) (cT : aG) (cU : hZ) (dx dy bT bL bU bV bW bX bY : Int) (bG : aG) (bo bk aO : Int) (aJ : aG) (ba : af) (bp : ah) : Option (ae) := Option.bind (j4 dj cO cS di cT cU dx dy bT bL bU bV bW bX bY bG) fun y1 => Option.bind (cj aO aJ) fun y2 => Option.bind (lr ba) fun y3 => Option.bind (qm bp) fun y4 => some (cJ, dI, y1.1, y1.2.1, y1.2.2.1, y1.2.2.2.1, y1.2.2.2.2.1, y1.2.2.2.2.2.1, y1.2.2.2.2.2.2.1, y1.2.2.2.2.2.2.2.1, y1.2.2.2.2.2.2.2.2.1, y1.2.2.2.2.2.2.2.2.2.1, y1.2.2.2.2.2.2.2.2.2.2.1, y1.2.2.2.2.2.2.2.2.2.2.2.1, y1.2.2.2.2.2.2.2.2.2.2.2.2.1, y1.2.2.2.2.2.2.2.2.2.2.2.2.2.1, y1.2.2.2.2.2.2.2.2.2.2.2.2.2.2.1, y1.2.2.2.2.2.2.2.2.2.2.2.2.2.2.2.1, bo, bk, y2.1, y2.2.1, y3.1, y4.1, ())
theorem k80 : F80.Kn [⟨.cell 2, true, EN⟩] 80 mo := F80.mn Tryz.func80 fun x => by kernel_rfl
def K80 := kw k80
def Ve : FC Tryz.prog := ⟨dO, [], fR, Tryz.f131, [vl [.int .i64], vl [.int .i64], vl [.int .i64]]⟩
noncomputable def bO (n0 F6 KO : Int) : Option (Bool × Unit) := bif decide (F6 ≤ n0) then some (decide (n0 ≤ KO), ()) else some (false, ())
theorem aaN : Ve.Kn [⟨.tmp 6, false, [.bool]⟩] 131 bO := Ve.mn Tryz.func131 fun x => by kernel_rfl
def ER := kw aaN
def Vf : FC Tryz.prog := ⟨dO, [ER], fR, Tryz.f139, [vl [.int .i64]]⟩
noncomputable def iR (n0 : Int) : Option (Bool × Unit) := Option.bind (bO n0 1 5) fun y1 => some (y1.1, ())
theorem aaO : Vf.Kn [⟨.tmp 2, false, [.bool]⟩] 139 iR := Vf.mn Tryz.func139 fun x => by kernel_rfl
def MO := kw aaO
def Vg : FC Tryz.prog := ⟨dO, [], fR, Tryz.f129, [vl [.int .i64]]⟩
noncomputable def nK (n0 : Int) : Option (Bool × Unit) := bif decide (n0 = 1) then some (true, ()) else some (decide (n0 = 2), ())
theorem aaP : Vg.Kn [⟨.tmp 2, false, [.bool]⟩] 129 nK := Vg.mn Tryz.func129 fun x => by kernel_rfl
def Vh := kw aaP
def Vi : FC Tryz.prog := ⟨dO, [ER, MO, Vh], fR, Tryz.f187, [va Bi]⟩
noncomputable def kT (jQ jz fS : Int) (gr : ByteArray) : Option (Bool × Unit) := Option.bind (bO jQ 1 60) fun y1 => bif y1.1 then Option.bind (iR jz) fun y2 => bif y2.1 then Option.bind (nK fS) fun y3 => bif y3.1 then some (decide ((gr.size : Int) ≤ 60), ()) else some (false, ()) else some (false, ()) else some (false, ())
theorem aaQ : Vi.Kn [⟨.tmp 2, false, [.bool]⟩] 187 kT := Vi.mn Tryz.func187 fun x => by kernel_rfl
def aaR := kw aaQ
def IB : FC Tryz.prog := ⟨dO, [aaR], dr 4 (.t 0 (.o 1 (.a 2 (.a 3 (.a 4 (.a 5 (.a 6 (.a 7 (.t 8 (.a 9 (.a 10 (.a 11 (.a 12 (.a 13 (.t 14 (.a 15 (.a 16 (.a 17 .nil)))))))))))))))))), Tryz.f127, [vl [.shr aC]]⟩
noncomputable def pX (aV t5 : ak) (t6 t7 : Int) : Option (Sum RL (Sum Unit (Bool × Unit))) := bif decide (t7 < t6) then bif decide (0 ≤ t7) then Option.bind ((t5)[t7.toNat]?) fun r1 => Option.bind (kT r1.1 r1.2.1 r1.2.2.1 r1.2.2.2.1) fun y2 => bif !y2.1 then some (.inr (.inr (false, ()))) else bif decide (0 < t7) then bif decide (0 ≤ i64.wrap (t7 - 1)) then Option.bind ((aV)[(i64.wrap (t7 - 1)).toNat]?) fun r3 => bif decide (r1.1 ≤ r3.1) then some (.inr (.inr (false, ()))) else some (.inl (aV, t5, t6, i64.wrap (t7 + 1), ())) else none else some (.inl (aV, t5, t6, i64.wrap (t7 + 1), ())) else none else some (.inr (.inl (())))
noncomputable def jW (x : RL) : Option (Sum RL (Sum Unit (Bool × Unit))) := pX x.1 x.2.1 x.2.2.1 x.2.2.2.1
def PV : LD := ⟨0, IB.lp 0, sp [(0, vl [.shr aC]), (4, vl [.shr aC]), (0, vl [.int .i64]), (0, vl [.int .i64])] 24, sp [] 32, sp [(2, vl [.bool])] 29, jW⟩
theorem PW : IB.Ok PV := IB.mm fun x => by kernel_rfl
def PZ : IB.KL := ⟨_, PW⟩
noncomputable def iI (aV : ak) : Option (Bool × Unit) := cM (aD jW (aV, aV, (aV.length : Int), 0, ())) (fun y1 => some (true, ())) (fun y2 => some (y2.1, ()))
theorem aaS : IB.Kn [⟨.tmp 2, false, [.bool]⟩] 127 iI := IB.kf [PZ] Tryz.func127 (by kernel_rfl) (by kernel_rfl) fun x => by kernel_rfl
def P0 := kw aaS
def F99 : FC Tryz.prog := ⟨dO, [MO, ER, P0], fR, Tryz.f99, [va DI]⟩
noncomputable def gN (Bq zp AQ : Int) (zq : ak) : Option (Bool × Unit) := Option.bind (iR Bq) fun y1 => bif !y1.1 then some (false, ()) else Option.bind (bO zp 1 9) fun y2 => bif !y2.1 then some (false, ()) else Option.bind (bO AQ 0 (i64.wrap (zp - 1))) fun y3 => bif !y3.1 then some (false, ()) else Option.bind (iI zq) fun y4 => bif y4.1 then bif decide (0 < AQ) then some (true, ()) else some (decide ((zq.length : Int) = 0), ()) else some (false, ())
theorem k99 : F99.Kn [⟨.tmp 2, false, [.bool]⟩] 99 gN := F99.mn Tryz.func99 fun x => by kernel_rfl
def XC := kw k99
def Vj : FC Tryz.prog := ⟨dO, [], fR, Tryz.f141, [va wu]⟩
noncomputable def gW (aX : Int) (aY : aG) : Option (Bool × Unit) := bif decide (aX = 0) then some (decide ((aY.length : Int) = 0), ()) else some (false, ())
theorem aaT : Vj.Kn [⟨.tmp 2, false, [.bool]⟩] 141 gW := Vj.mn Tryz.func141 fun x => by kernel_rfl
def P1 := kw aaT
def Vk : FC Tryz.prog := ⟨dO, [], fR, Tryz.f132, [va Fi]⟩
noncomputable def cK (yf yh xv zn zo : Int) (wv : aG) : Option (Bool × Unit) := bif decide (yf = 0) then bif decide (yh = 0) then bif decide (xv = 0) then bif decide (zn = 0) then bif decide (zo = 0) then some (decide ((wv.length : Int) = 0), ()) else some (false, ()) else some (false, ()) else some (false, ()) else some (false, ()) else some (false, ())
theorem aaU : Vk.Kn [⟨.tmp 2, false, [.bool]⟩] 132 cK := Vk.mn Tryz.func132 fun x => by kernel_rfl
def Vl := kw aaU
def Vm : FC Tryz.prog := ⟨dO, [P1, Vl], fR, Tryz.f140, [va Ig]⟩
noncomputable def fu (jQ jz : Int) (fS : aG) (gr : ak) (eX : aG) (gT : hZ) (kM kN kO kP ff fh fi fj fk : Int) (dH : aG) : Option (Bool × Unit) := bif !decide (jQ = 0) then some (false, ()) else Option.bind (gW jz fS) fun y1 => bif !y1.1 then some (false, ()) else bif !decide (kM = 0) then some (false, ()) else bif !decide (kN = 0) then some (false, ()) else bif !decide (kO = 0) then some (false, ()) else bif !decide (kP = 0) then some (false, ()) else bif decide ((gr.length : Int) = 0) then bif decide ((eX.length : Int) = 0) then bif decide ((gT.length : Int) = 0) then Option.bind (cK ff fh fi fj fk dH) fun y2 => some (y2.1, ()) else some (false, ()) else some (false, ()) else some (false, ())
theorem aaV : Vm.Kn [⟨.tmp 2, false, [.bool]⟩] 140 fu := Vm.mn Tryz.func140 fun x => by kernel_rfl
def aaW := kw aaV
def IC : FC Tryz.prog := ⟨dO, [], fR, Tryz.f156, [vl [.shr im], vl [.int .i64]]⟩
noncomputable def lJ (s0 : aG) (v1 t7 t8 : Int) : Option (Sum Zg (Sum Unit (Int × Unit))) := bif decide (t8 < t7) then bif decide (0 ≤ t8) then Option.bind ((s0)[t8.toNat]?) fun r1 => bif decide (v1 = r1.1) then some (.inr (.inr (t8, ()))) else some (.inl (s0, v1, t7, i64.wrap (t8 + 1), ())) else none else some (.inr (.inl (())))
noncomputable def gv (x : Zg) : Option (Sum Zg (Sum Unit (Int × Unit))) := lJ x.1 x.2.1 x.2.2.1 x.2.2.2.1
def P2 : LD := ⟨0, IC.lp 0, sp [(0, vl [.shr im]), (0, vl [.int .i64]), (5, vl [.int .i64]), (0, vl [.int .i64])] 11, sp [] 20, sp [(4, vl [.int .i64])] 15, gv⟩
theorem P3 : IC.Ok P2 := IC.mm fun x => by kernel_rfl
def P4 : IC.KL := ⟨_, P3⟩
noncomputable def oT (s0 : aG) (v1 : Int) : Option (Int × Unit) := cM (aD gv (s0, v1, (s0.length : Int), 0, ())) (fun y1 => some ((-1), ())) (fun y2 => some (y2.1, ()))
theorem aaX : IC.Kn [⟨.tmp 4, false, [.int .i64]⟩] 156 oT := IC.kf [P4] Tryz.func156 (by kernel_rfl) (by kernel_rfl) fun x => by kernel_rfl
def aaY := kw aaX
def F78 : FC Tryz.prog := ⟨dO, [aaY], fR, Tryz.f78, [vl [.shr im], vl [.int .i64]]⟩
noncomputable def dg (s0 : aG) (v1 : Int) : Option (Bool × Unit) := Option.bind (oT s0 v1) fun y1 => some (decide (0 ≤ y1.1), ())
theorem k78 : F78.Kn [⟨.tmp 4, false, [.bool]⟩] 78 dg := F78.mn Tryz.func78 fun x => by kernel_rfl
def XD := kw k78
def R7 : FC Tryz.prog := ⟨dO, [ER, MO], fR, Tryz.f79, [va wu]⟩
noncomputable def qX (xw : Int) (pI t17 : aG) (t18 t19 : Int) : Option (Sum Zh (Sum Unit (Bool × Unit))) := bif decide (t19 < t18) then bif decide (0 ≤ t19) then Option.bind ((t17)[t19.toNat]?) fun r3 => Option.bind (iR r3.1) fun y4 => bif !y4.1 then some (.inr (.inr (false, ()))) else bif decide (0 < t19) then bif decide (0 ≤ i64.wrap (t19 - 1)) then Option.bind ((pI)[(i64.wrap (t19 - 1)).toNat]?) fun r5 => bif decide (r3.1 ≤ r5.1) then some (.inr (.inr (false, ()))) else some (.inl (xw, pI, t17, t18, i64.wrap (t19 + 1), ())) else none else some (.inl (xw, pI, t17, t18, i64.wrap (t19 + 1), ())) else none else some (.inr (.inl (())))
noncomputable def kU (x : Zh) : Option (Sum Zh (Sum Unit (Bool × Unit))) := qX x.1 x.2.1 x.2.2.1 x.2.2.2.1 x.2.2.2.2.1
def Vn : LD := ⟨0, R7.lp 0, sp [(1, .box false wu), (15, vl [.shr im]), (0, vl [.int .i64]), (0, vl [.int .i64])] 23, sp [] 43, sp [(2, vl [.bool])] 40, kU⟩
theorem Vo : R7.Ok Vn := R7.mm fun x => by kernel_rfl
def Vp : R7.KL := ⟨_, Vo⟩
noncomputable def iJ (aX : Int) (aY : aG) : Option (Bool × Unit) := Option.bind (bO aX 1 9) fun y1 => bif !y1.1 then some (false, ()) else Option.bind (bO (aY.length : Int) 1 5) fun y2 => bif !y2.1 then some (false, ()) else cM (aD kU (aX, aY, aY, (aY.length : Int), 0, ())) (fun y3 => some (true, ())) (fun y4 => some (y4.1, ()))
theorem k79 : R7.Kn [⟨.tmp 2, false, [.bool]⟩] 79 iJ := R7.kf [Vp] Tryz.func79 (by kernel_rfl) (by kernel_rfl) fun x => by kernel_rfl
def K79 := kw k79
def ID : FC Tryz.prog := ⟨dO, [], fR, Tryz.f128, [vl [.shr uo]]⟩
noncomputable def oU (t5 : hZ) (t6 t7 : Int) : Option (Sum Jv (Sum Unit (Bool × Unit))) := bif decide (t7 < t6) then bif decide (0 ≤ t7) then Option.bind ((t5)[t7.toNat]?) fun r1 => bif decide (60 < (r1.1.size : Int)) then some (.inr (.inr (false, ()))) else some (.inl (t5, t6, i64.wrap (t7 + 1), ())) else none else some (.inr (.inl (())))
noncomputable def jl (x : Jv) : Option (Sum Jv (Sum Unit (Bool × Unit))) := oU x.1 x.2.1 x.2.2.1
def P5 : LD := ⟨0, ID.lp 0, sp [(5, vl [.shr uo]), (0, vl [.int .i64]), (0, vl [.int .i64])] 8, sp [] 16, sp [(2, vl [.bool])] 13, jl⟩
theorem P6 : ID.Ok P5 := ID.mm fun x => by kernel_rfl
def P7 : ID.KL := ⟨_, P6⟩
noncomputable def pt (aV : hZ) : Option (Bool × Unit) := cM (aD jl (aV, (aV.length : Int), 0, ())) (fun y1 => some (true, ())) (fun y2 => some (y2.1, ()))
theorem aa0 : ID.Kn [⟨.tmp 2, false, [.bool]⟩] 128 pt := ID.kf [P7] Tryz.func128 (by kernel_rfl) (by kernel_rfl) fun x => by kernel_rfl
def aa1 := kw aa0
def IE : FC Tryz.prog := ⟨dO, [], fR, Tryz.f188, [vl [.shr aC], vl [.int .i64]]⟩
noncomputable def qY (seq1 KP KQ KR : Int) (KS : ByteArray) (t8 : ak) (t9 t10 : Int) : Option (Sum Zi (Sum mD U6)) := bif decide (t10 < t9) then bif decide (0 ≤ t10) then Option.bind ((t8)[t10.toNat]?) fun r1 => bif decide (r1.1 = seq1) then some (.inr (.inr (r1.1, r1.2.1, r1.2.2.1, r1.2.2.2.1, true, ()))) else some (.inl (seq1, KP, KQ, KR, KS, t8, t9, i64.wrap (t10 + 1), ())) else none else some (.inr (.inl (KP, KQ, KR, KS, ())))
noncomputable def jm (x : Zi) : Option (Sum Zi (Sum mD U6)) := qY x.1 x.2.1 x.2.2.1 x.2.2.2.1 x.2.2.2.2.1 x.2.2.2.2.2.1 x.2.2.2.2.2.2.1 x.2.2.2.2.2.2.2.1
def P8 : LD := ⟨0, IE.lp 0, sp [(1, vl [.int .i64]), (2, .box false Bi), (3, vl [.shr aC]), (0, vl [.int .i64]), (0, vl [.int .i64])] 11, sp [(4, .box false Bi)] 17, sp [(4, .box false Bi), (0, vl [.bool])] 16, jm⟩
theorem P9 : IE.Ok P8 := IE.mm fun x => by kernel_rfl
def Qa : IE.KL := ⟨_, P9⟩
noncomputable def rI (aV : ak) (seq1 : Int) : Option (U6) := cM (aD jm (seq1, 0, 0, 0, ByteArray.empty, aV, (aV.length : Int), 0, ())) (fun y1 => some (0, 0, 0, ByteArray.empty, false, ())) (fun y2 => some y2)
theorem aa2 : IE.Kn [⟨.cell 4, true, Bi⟩, ⟨.tmp 5, false, [.bool]⟩] 188 rI := IE.kf [Qa] Tryz.func188 (by kernel_rfl) (by kernel_rfl) fun x => by kernel_rfl
def aa3 := kw aa2
def IF : FC Tryz.prog := ⟨dO, [aa3], fR, Tryz.f130, [vl [.shr aC]]⟩
noncomputable def vV (aV : ak) (Gf : Int) : Option (Sum (ak × Int × Unit) (Sum Unit (Int × Unit))) := Option.bind (rI aV (i64.wrap (Gf + 1))) fun y1 => bif !y1.2.2.2.2.1 then some (.inr (.inr (Gf, ()))) else some (.inl (aV, i64.wrap (Gf + 1), ()))
noncomputable def pv (x : ak × Int × Unit) : Option (Sum (ak × Int × Unit) (Sum Unit (Int × Unit))) := vV x.1 x.2.1
def Qb : LD := ⟨0, IF.lp 0, sp [(0, vl [.shr aC]), (2, vl [.int .i64])] 15, sp [] 19, sp [(2, vl [.int .i64])] 16, pv⟩
theorem Qc : IF.Ok Qb := IF.mm fun x => by kernel_rfl
def Qd : IF.KL := ⟨_, Qc⟩
noncomputable def mH (aV : ak) : Option (Int × Unit) := cM (aD pv (aV, 0, ())) (fun y1 => none) (fun y2 => some (y2.1, ()))
theorem aa4 : IF.Kn [⟨.tmp 2, false, [.int .i64]⟩] 130 mH := IF.kf [Qd] Tryz.func130 (by kernel_rfl) (by kernel_rfl) fun x => by kernel_rfl
def Vq := kw aa4
def R8 : FC Tryz.prog := ⟨dO, [ER], fR, Tryz.f51, [va Fi]⟩
noncomputable def pY (Ir Is EP It Iu : Int) (AR t22 : aG) (t23 t24 : Int) : Option (Sum Zj (Sum mE (Bool × Unit))) := bif decide (t24 < t23) then bif decide (0 ≤ t24) then Option.bind ((t22)[t24.toNat]?) fun r4 => Option.bind (bO r4.1 1 EP) fun y5 => bif !y5.1 then some (.inr (.inr (false, ()))) else bif decide (0 < t24) then bif decide (0 ≤ i64.wrap (t24 - 1)) then Option.bind ((AR)[(i64.wrap (t24 - 1)).toNat]?) fun r6 => bif decide (r4.1 ≤ r6.1) then some (.inr (.inr (false, ()))) else some (.inl (Ir, Is, EP, It, Iu, AR, t22, t23, i64.wrap (t24 + 1), ())) else none else some (.inl (Ir, Is, EP, It, Iu, AR, t22, t23, i64.wrap (t24 + 1), ())) else none else some (.inr (.inl (Ir, Is, EP, It, Iu, AR, ())))
noncomputable def jX (x : Zj) : Option (Sum Zj (Sum mE (Bool × Unit))) := pY x.1 x.2.1 x.2.2.1 x.2.2.2.1 x.2.2.2.2.1 x.2.2.2.2.2.1 x.2.2.2.2.2.2.1 x.2.2.2.2.2.2.2.1 x.2.2.2.2.2.2.2.2.1
def Vr : LD := ⟨0, R8.lp 0, sp [(1, .box false Fi), (20, vl [.shr im]), (0, vl [.int .i64]), (0, vl [.int .i64])] 41, sp [(1, .box false Fi)] 64, sp [(2, vl [.bool])] 63, jX⟩
theorem Vs : R8.Ok Vr := R8.mm fun x => by kernel_rfl
def Vt : R8.KL := ⟨_, Vs⟩
noncomputable def lu (yf yh xv zn zo : Int) (wv : aG) : Option (Bool × Unit) := Option.bind (bO yf 1 9) fun y1 => bif !y1.1 then some (false, ()) else Option.bind (bO yh 1 1000000000) fun y2 => bif !y2.1 then some (false, ()) else Option.bind (bO xv 0 60) fun y3 => bif !y3.1 then some (false, ()) else cM (aD jX (yf, yh, xv, zn, zo, wv, wv, (wv.length : Int), 0, ())) (fun y4 => Option.bind (bO y4.2.2.2.1 0 y4.2.2.1) fun y6 => bif y6.1 then Option.bind (bO y4.2.2.2.2.1 0 5) fun y7 => bif y7.1 then some (decide ((y4.2.2.2.2.2.1.length : Int) ≤ 20), ()) else some (false, ()) else some (false, ())) (fun y5 => some (y5.1, ()))
theorem k51 : R8.Kn [⟨.tmp 2, false, [.bool]⟩] 51 lu := R8.kf [Vt] Tryz.func51 (by kernel_rfl) (by kernel_rfl) fun x => by kernel_rfl
def K51 := kw k51
def R9 : FC Tryz.prog := ⟨dO, [XD, K79, P0, aa1, Vh, Vq, ER, Vl, K51], fR, Tryz.f50, [va Ig]⟩
noncomputable def qZ (Ga Gb : Int) (Gc : aG) (Gd : ak) (Vu : aG) (Vv : hZ) (Vw Vx Vy Vz NG NH NI NJ NK : Int) (NL t45 : aG) (t46 t47 : Int) : Option (Sum Zk (Sum bE (Bool × Unit))) := bif decide (t47 < t46) then bif decide (0 ≤ t47) then Option.bind ((t45)[t47.toNat]?) fun r5 => Option.bind (nK r5.1) fun y6 => bif !y6.1 then some (.inr (.inr (false, ()))) else some (.inl (Ga, Gb, Gc, Gd, Vu, Vv, Vw, Vx, Vy, Vz, NG, NH, NI, NJ, NK, NL, t45, t46, i64.wrap (t47 + 1), ())) else none else some (.inr (.inl (Ga, Gb, Gc, Gd, Vu, Vv, Vw, Vx, Vy, Vz, NG, NH, NI, NJ, NK, NL, ())))
noncomputable def jn (x : Zk) : Option (Sum Zk (Sum bE (Bool × Unit))) := qZ x.1 x.2.1 x.2.2.1 x.2.2.2.1 x.2.2.2.2.1 x.2.2.2.2.2.1 x.2.2.2.2.2.2.1 x.2.2.2.2.2.2.2.1 x.2.2.2.2.2.2.2.2.1 x.2.2.2.2.2.2.2.2.2.1 x.2.2.2.2.2.2.2.2.2.2.1 x.2.2.2.2.2.2.2.2.2.2.2.1 x.2.2.2.2.2.2.2.2.2.2.2.2.1 x.2.2.2.2.2.2.2.2.2.2.2.2.2.1 x.2.2.2.2.2.2.2.2.2.2.2.2.2.2.1 x.2.2.2.2.2.2.2.2.2.2.2.2.2.2.2.1 x.2.2.2.2.2.2.2.2.2.2.2.2.2.2.2.2.1 x.2.2.2.2.2.2.2.2.2.2.2.2.2.2.2.2.2.1 x.2.2.2.2.2.2.2.2.2.2.2.2.2.2.2.2.2.2.1
def VA : LD := ⟨0, R9.lp 0, sp [(1, .box false Ig), (43, vl [.shr im]), (0, vl [.int .i64]), (0, vl [.int .i64])] 43, sp [(1, .box false Ig)] 89, sp [(2, vl [.bool])] 88, jn⟩
theorem VB : R9.Ok VA := R9.mm fun x => by kernel_rfl
def VC : R9.KL := ⟨_, VB⟩
noncomputable def kV (jQ jz : Int) (fS : aG) (gr : ak) (eX : aG) (gT : hZ) (kM kN kO kP ff fh fi fj fk : Int) (dH : aG) : Option (Bool × Unit) := Option.bind (dg fS jQ) fun y1 => bif !y1.1 then some (false, ()) else Option.bind (iJ jz fS) fun y2 => bif !y2.1 then some (false, ()) else Option.bind (iI gr) fun y3 => bif !y3.1 then some (false, ()) else bif decide (20 < (gT.length : Int)) then some (false, ()) else Option.bind (pt gT) fun y4 => bif !y4.1 then some (false, ()) else bif !decide ((eX.length : Int) = (gT.length : Int)) then some (false, ()) else cM (aD jn (jQ, jz, fS, gr, eX, gT, kM, kN, kO, kP, ff, fh, fi, fj, fk, dH, eX, (eX.length : Int), 0, ())) (fun y5 => Option.bind (mH y5.2.2.2.1) fun y7 => Option.bind (bO y5.2.2.2.2.2.2.1 0 1000000000) fun y8 => bif !y8.1 then some (false, ()) else Option.bind (bO y5.2.2.2.2.2.2.2.1 0 60) fun y9 => bif !y9.1 then some (false, ()) else Option.bind (bO y5.2.2.2.2.2.2.2.2.1 0 y7.1) fun qT => bif !qT.1 then some (false, ()) else Option.bind (bO y5.2.2.2.2.2.2.2.2.2.1 0 y7.1) fun Iv => bif !Iv.1 then some (false, ()) else Option.bind (cK y5.2.2.2.2.2.2.2.2.2.2.1 y5.2.2.2.2.2.2.2.2.2.2.2.1 y5.2.2.2.2.2.2.2.2.2.2.2.2.1 y5.2.2.2.2.2.2.2.2.2.2.2.2.2.1 y5.2.2.2.2.2.2.2.2.2.2.2.2.2.2.1 y5.2.2.2.2.2.2.2.2.2.2.2.2.2.2.2.1) fun KT => bif KT.1 then some (true, ()) else Option.bind (lu y5.2.2.2.2.2.2.2.2.2.2.1 y5.2.2.2.2.2.2.2.2.2.2.2.1 y5.2.2.2.2.2.2.2.2.2.2.2.2.1 y5.2.2.2.2.2.2.2.2.2.2.2.2.2.1 y5.2.2.2.2.2.2.2.2.2.2.2.2.2.2.1 y5.2.2.2.2.2.2.2.2.2.2.2.2.2.2.2.1) fun LW => some (LW.1, ())) (fun y6 => some (y6.1, ()))
theorem k50 : R9.Kn [⟨.tmp 2, false, [.bool]⟩] 50 kV := R9.kf [VC] Tryz.func50 (by kernel_rfl) (by kernel_rfl) fun x => by kernel_rfl
def K50 := kw k50
def IG : FC Tryz.prog := ⟨dO, [P1, K79, XD, ER, XC], dr 3 (.a 0 (.a 1 (.a 2 (.t 3 (.o 4 (.a 5 (.a 6 (.a 7 (.a 8 (.a 9 (.a 10 (.t 11 (.a 12 (.a 13 (.a 14 (.t 15 (.o 16 (.a 17 (.a 18 (.a 19 (.a 20 (.a 21 (.a 22 (.a 23 (.t 24 (.a 25 (.a 26 (.a 27 (.t 28 (.a 29 (.a 30 (.a 31 (.a 32 (.t 33 (.o 34 (.a 35 (.a 36 .nil))))))))))))))))))))))))))))))))))))) (dr 8 (.t 0 (.o 1 (.a 2 (.a 3 (.a 4 (.t 5 (.a 6 (.a 7 (.a 8 (.a 9 (.t 10 (.a 11 (.a 12 .nil)))))))))))))), Tryz.f142, [.box true EL]⟩
noncomputable def iS (cJ : Int) (dI : Bool) (dj cO : Int) (cS : aG) (di : ak) (cT : aG) (cU : hZ) (dx dy bT bL bU bV bW bX bY : Int) (bG : aG) (bo bk aO : Int) (aJ : aG) (ba : af) (bp : ah) (t56 : af) (t57 t58 : Int) : Option (Sum Zl (Sum ae MA)) := bif decide (t58 < t57) then bif decide (0 ≤ t58) then Option.bind ((t56)[t58.toNat]?) fun r5 => Option.bind (gN r5.1 r5.2.1 r5.2.2.1 r5.2.2.2.1) fun y6 => bif !y6.1 then some (.inr (.inr (cJ, dI, dj, cO, cS, di, cT, cU, dx, dy, bT, bL, bU, bV, bW, bX, bY, bG, bo, bk, aO, aJ, ba, bp, false, ()))) else bif !decide (r5.2.1 = aO) then some (.inr (.inr (cJ, dI, dj, cO, cS, di, cT, cU, dx, dy, bT, bL, bU, bV, bW, bX, bY, bG, bo, bk, aO, aJ, ba, bp, false, ()))) else some (.inl (cJ, dI, dj, cO, cS, di, cT, cU, dx, dy, bT, bL, bU, bV, bW, bX, bY, bG, bo, bk, aO, aJ, ba, bp, t56, t57, i64.wrap (t58 + 1), ())) else none else some (.inr (.inl (cJ, dI, dj, cO, cS, di, cT, cU, dx, dy, bT, bL, bU, bV, bW, bX, bY, bG, bo, bk, aO, aJ, ba, bp, ())))
noncomputable def dL (x : Zl) : Option (Sum Zl (Sum ae MA)) := iS x.1 x.2.1 x.2.2.1 x.2.2.2.1 x.2.2.2.2.1 x.2.2.2.2.2.1 x.2.2.2.2.2.2.1 x.2.2.2.2.2.2.2.1 x.2.2.2.2.2.2.2.2.1 x.2.2.2.2.2.2.2.2.2.1 x.2.2.2.2.2.2.2.2.2.2.1 x.2.2.2.2.2.2.2.2.2.2.2.1 x.2.2.2.2.2.2.2.2.2.2.2.2.1 x.2.2.2.2.2.2.2.2.2.2.2.2.2.1 x.2.2.2.2.2.2.2.2.2.2.2.2.2.2.1 x.2.2.2.2.2.2.2.2.2.2.2.2.2.2.2.1 x.2.2.2.2.2.2.2.2.2.2.2.2.2.2.2.2.1 x.2.2.2.2.2.2.2.2.2.2.2.2.2.2.2.2.2.1 x.2.2.2.2.2.2.2.2.2.2.2.2.2.2.2.2.2.2.1 x.2.2.2.2.2.2.2.2.2.2.2.2.2.2.2.2.2.2.2.1 x.2.2.2.2.2.2.2.2.2.2.2.2.2.2.2.2.2.2.2.2.1 x.2.2.2.2.2.2.2.2.2.2.2.2.2.2.2.2.2.2.2.2.2.1 x.2.2.2.2.2.2.2.2.2.2.2.2.2.2.2.2.2.2.2.2.2.2.1 x.2.2.2.2.2.2.2.2.2.2.2.2.2.2.2.2.2.2.2.2.2.2.2.1 x.2.2.2.2.2.2.2.2.2.2.2.2.2.2.2.2.2.2.2.2.2.2.2.2.1 x.2.2.2.2.2.2.2.2.2.2.2.2.2.2.2.2.2.2.2.2.2.2.2.2.2.1 x.2.2.2.2.2.2.2.2.2.2.2.2.2.2.2.2.2.2.2.2.2.2.2.2.2.2.1
def Qe : LD := ⟨0, IG.lp 0, sp [(0, .box true EL), (55, vl vB), (0, vl [.int .i64]), (0, vl [.int .i64])] 18, sp [(0, .box true EL)] 76, sp [(0, .box true EL), (1, vl [.bool])] 74, dL⟩
theorem Qf : IG.Ok Qe := IG.mm fun x => by kernel_rfl
def Qg : IG.KL := ⟨_, Qf⟩
noncomputable def dK (cJ : Int) (dI : Bool) (dj cO : Int) (cS : aG) (di : ak) (cT : aG) (cU : hZ) (dx dy bT bL bU bV bW bX bY : Int) (bG : aG) (bo bk aO : Int) (aJ : aG) (ba : af) (bp : ah) : Option (U10) := Option.bind (gW aO aJ) fun y1 => bif y1.1 then some (decide ((ba.length : Int) = 0), cJ, dI, dj, cO, cS, di, cT, cU, dx, dy, bT, bL, bU, bV, bW, bX, bY, bG, bo, bk, aO, aJ, ba, bp, ()) else Option.bind (iJ aO aJ) fun y2 => bif !y2.1 then some (false, cJ, dI, dj, cO, cS, di, cT, cU, dx, dy, bT, bL, bU, bV, bW, bX, bY, bG, bo, bk, aO, aJ, ba, bp, ()) else Option.bind (dg aJ cJ) fun y3 => bif !y3.1 then some (false, cJ, dI, dj, cO, cS, di, cT, cU, dx, dy, bT, bL, bU, bV, bW, bX, bY, bG, bo, bk, aO, aJ, ba, bp, ()) else Option.bind (bO aO (i64.wrap (bk + 1)) bo) fun y4 => bif !y4.1 then some (false, cJ, dI, dj, cO, cS, di, cT, cU, dx, dy, bT, bL, bU, bV, bW, bX, bY, bG, bo, bk, aO, aJ, ba, bp, ()) else cM (aD dL (cJ, dI, dj, cO, cS, di, cT, cU, dx, dy, bT, bL, bU, bV, bW, bX, bY, bG, bo, bk, aO, aJ, ba, bp, ba, (ba.length : Int), 0, ())) (fun y5 => some (true, y5)) (fun y6 => some (y6.2.2.2.2.2.2.2.2.2.2.2.2.2.2.2.2.2.2.2.2.2.2.2.2.1, y6.1, y6.2.1, y6.2.2.1, y6.2.2.2.1, y6.2.2.2.2.1, y6.2.2.2.2.2.1, y6.2.2.2.2.2.2.1, y6.2.2.2.2.2.2.2.1, y6.2.2.2.2.2.2.2.2.1, y6.2.2.2.2.2.2.2.2.2.1, y6.2.2.2.2.2.2.2.2.2.2.1, y6.2.2.2.2.2.2.2.2.2.2.2.1, y6.2.2.2.2.2.2.2.2.2.2.2.2.1, y6.2.2.2.2.2.2.2.2.2.2.2.2.2.1, y6.2.2.2.2.2.2.2.2.2.2.2.2.2.2.1, y6.2.2.2.2.2.2.2.2.2.2.2.2.2.2.2.1, y6.2.2.2.2.2.2.2.2.2.2.2.2.2.2.2.2.1, y6.2.2.2.2.2.2.2.2.2.2.2.2.2.2.2.2.2.1, y6.2.2.2.2.2.2.2.2.2.2.2.2.2.2.2.2.2.2.1, y6.2.2.2.2.2.2.2.2.2.2.2.2.2.2.2.2.2.2.2.1, y6.2.2.2.2.2.2.2.2.2.2.2.2.2.2.2.2.2.2.2.2.1, y6.2.2.2.2.2.2.2.2.2.2.2.2.2.2.2.2.2.2.2.2.2.1, y6.2.2.2.2.2.2.2.2.2.2.2.2.2.2.2.2.2.2.2.2.2.2.1, y6.2.2.2.2.2.2.2.2.2.2.2.2.2.2.2.2.2.2.2.2.2.2.2.1, ()))
theorem aa5 : IG.Kn [⟨.tmp 2, false, [.bool]⟩] 142 dK := IG.kf [Qg] Tryz.func142 (by kernel_rfl) (by kernel_rfl) fun x => by kernel_rfl
def aa6 := kv (.own, .shr, .shr) aa5
def F57 : FC Tryz.prog := ⟨dO, [MO, ER, aaW, P1, K50, aa6], fR, Tryz.f57, [va EL]⟩
noncomputable def mb (cJ : Int) (dI : Bool) (dj cO : Int) (cS : aG) (di : ak) (cT : aG) (cU : hZ) (dx dy bT bL bU bV bW bX bY : Int) (bG : aG) (bo bk aO : Int) (aJ : aG) (ba : af) (bp : ah) : Option (Bool × Unit) := Option.bind (iR cJ) fun y1 => bif !y1.1 then some (false, ()) else Option.bind (bO bo 0 9) fun y2 => bif !y2.1 then some (false, ()) else bif dI then Option.bind (fu dj cO cS di cT cU dx dy bT bL bU bV bW bX bY bG) fun y3 => bif !y3.1 then some (false, ()) else bif !decide (bk = 0) then some (false, ()) else Option.bind (gW aO aJ) fun y4 => bif !y4.1 then some (false, ()) else bif decide (0 < (ba.length : Int)) then some (false, ()) else Option.bind (fu dj cO cS di cT cU dx dy bT bL bU bV bW bX bY bG) fun y5 => bif !y5.1 then bif !decide (dj = cJ) then some (false, ()) else Option.bind (kV dj cO cS di cT cU dx dy bT bL bU bV bW bX bY bG) fun y6 => bif !y6.1 then some (false, ()) else bif decide (bk = cO) then bif decide (bk ≤ bo) then Option.bind (dK cJ dI dj cO cS di cT cU dx dy bT bL bU bV bW bX bY bG bo bk aO aJ ba bp) fun y7 => some (y7.1, ()) else some (false, ()) else some (false, ()) else bif decide (bk = cO) then bif decide (bk ≤ bo) then Option.bind (dK cJ dI dj cO cS di cT cU dx dy bT bL bU bV bW bX bY bG bo bk aO aJ ba bp) fun y8 => some (y8.1, ()) else some (false, ()) else some (false, ()) else Option.bind (fu dj cO cS di cT cU dx dy bT bL bU bV bW bX bY bG) fun y9 => bif !y9.1 then bif !decide (dj = cJ) then some (false, ()) else Option.bind (kV dj cO cS di cT cU dx dy bT bL bU bV bW bX bY bG) fun qT => bif !qT.1 then some (false, ()) else bif decide (bk = cO) then bif decide (bk ≤ bo) then Option.bind (dK cJ dI dj cO cS di cT cU dx dy bT bL bU bV bW bX bY bG bo bk aO aJ ba bp) fun Iv => some (Iv.1, ()) else some (false, ()) else some (false, ()) else bif decide (bk = cO) then bif decide (bk ≤ bo) then Option.bind (dK cJ dI dj cO cS di cT cU dx dy bT bL bU bV bW bX bY bG bo bk aO aJ ba bp) fun KT => some (KT.1, ()) else some (false, ()) else some (false, ())
theorem k57 : F57.Kn [⟨.tmp 2, false, [.bool]⟩] 57 mb := F57.mn Tryz.func57 fun x => by kernel_rfl
def K57 := kw k57
def IH : FC Tryz.prog := ⟨dO, [XC], fR, Tryz.f100, [va wu, vl vB, vl [.int .i64]]⟩
noncomputable def oV (pR kz : Int) (jT : aG) (C5 C6 C7 : Int) (C8 : ak) (t10 : af) (t11 t12 : Int) : Option (Sum Zm (Sum bw U7)) := bif decide (t12 < t11) then bif decide (0 ≤ t12) then Option.bind ((t10)[t12.toNat]?) fun r1 => bif decide (r1.1 = pR) then bif decide (r1.2.1 = kz) then Option.bind (gN r1.1 r1.2.1 r1.2.2.1 r1.2.2.2.1) fun y2 => bif y2.1 then some (.inr (.inr (r1.1, r1.2.1, r1.2.2.1, r1.2.2.2.1, true, ()))) else some (.inl (pR, kz, jT, C5, C6, C7, C8, t10, t11, i64.wrap (t12 + 1), ())) else some (.inl (pR, kz, jT, C5, C6, C7, C8, t10, t11, i64.wrap (t12 + 1), ())) else some (.inl (pR, kz, jT, C5, C6, C7, C8, t10, t11, i64.wrap (t12 + 1), ())) else none else some (.inr (.inl (C5, C6, C7, C8, ())))
noncomputable def gX (x : Zm) : Option (Sum Zm (Sum bw U7)) := oV x.1 x.2.1 x.2.2.1 x.2.2.2.1 x.2.2.2.2.1 x.2.2.2.2.2.1 x.2.2.2.2.2.2.1 x.2.2.2.2.2.2.2.1 x.2.2.2.2.2.2.2.2.1 x.2.2.2.2.2.2.2.2.2.1
def Qh : LD := ⟨0, IH.lp 0, sp [(2, vl [.int .i64]), (0, .box false wu), (2, .box false EM), (3, vl vB), (0, vl [.int .i64]), (0, vl [.int .i64])] 22, sp [(6, .box false EM)] 28, sp [(6, .box false DI), (0, vl [.bool])] 27, gX⟩
theorem Qi : IH.Ok Qh := IH.mm fun x => by kernel_rfl
def Qj : IH.KL := ⟨_, Qi⟩
noncomputable def gO (aX : Int) (aY : aG) (bB : af) (pR : Int) : Option (U7) := cM (aD gX (pR, aX, aY, 0, 0, 0, [], bB, (bB.length : Int), 0, ())) (fun y1 => some (0, 0, 0, [], false, ())) (fun y2 => some y2)
theorem aa7 : IH.Kn [⟨.cell 6, true, DI⟩, ⟨.tmp 7, false, [.bool]⟩] 100 gO := IH.kf [Qj] Tryz.func100 (by kernel_rfl) (by kernel_rfl) fun x => by kernel_rfl
def Qk := kw aa7
def VD : FC Tryz.prog := ⟨dO, [XC], fR, Tryz.f170, [va DI, vl [.k9 im], vl [.k9 AM]]⟩
noncomputable def nL (Bq zp AQ : Int) (zq : ak) (t1p : aG) (t2p : C0) : Option (Bool × Unit) := Option.bind ((t1p)[0]?) fun r1 => bif decide (Bq = r1.1) then Option.bind ((t2p)[0]?) fun r2 => bif decide (zp = r2.1) then Option.bind (gN Bq zp AQ zq) fun y3 => some (y3.1, ()) else some (false, ()) else some (false, ())
theorem aa8 : VD.Kn [⟨.tmp 4, false, [.bool]⟩] 170 nL := VD.mn Tryz.func170 fun x => by kernel_rfl
def aa9 := kw aa8
def II : FC Tryz.prog := ⟨dO, [aa9], fR, Tryz.f202, [vl vB, vl OQ]⟩
noncomputable def eY (s0 : af) (Sa : rC) (t7 t8 : Int) : Option (Sum Zn (Sum Unit (Int × Unit))) := bif decide (t8 < t7) then bif decide (0 ≤ t8) then Option.bind ((s0)[t8.toNat]?) fun r1 => Option.bind ((Sa)[0]?) fun r2 => Option.bind (nL r1.1 r1.2.1 r1.2.2.1 r1.2.2.2.1 r2.1 r2.2.1) fun y3 => bif y3.1 then some (.inr (.inr (t8, ()))) else some (.inl (s0, Sa, t7, i64.wrap (t8 + 1), ())) else none else some (.inr (.inl (())))
noncomputable def cf (x : Zn) : Option (Sum Zn (Sum Unit (Int × Unit))) := eY x.1 x.2.1 x.2.2.1 x.2.2.2.1
def Ql : LD := ⟨0, II.lp 0, sp [(0, vl vB), (0, vl OQ), (5, vl [.int .i64]), (0, vl [.int .i64])] 11, sp [] 20, sp [(4, vl [.int .i64])] 15, cf⟩
theorem Qm : II.Ok Ql := II.mm fun x => by kernel_rfl
def Qn : II.KL := ⟨_, Qm⟩
noncomputable def gn (s0 : af) (Sa : rC) : Option (Int × Unit) := cM (aD cf (s0, Sa, (s0.length : Int), 0, ())) (fun y1 => some ((-1), ())) (fun y2 => some (y2.1, ()))
theorem aba : II.Kn [⟨.tmp 4, false, [.int .i64]⟩] 202 gn := II.kf [Qn] Tryz.func202 (by kernel_rfl) (by kernel_rfl) fun x => by kernel_rfl
def abb := kw aba
def VE : FC Tryz.prog := ⟨dO, [abb], fR, Tryz.f169, [vl vB, vl OQ]⟩
noncomputable def du (s0 : af) (Sa : rC) : Option (Bool × Unit) := Option.bind (gn s0 Sa) fun y1 => some (decide (0 ≤ y1.1), ())
theorem abc : VE.Kn [⟨.tmp 4, false, [.bool]⟩] 169 du := VE.mn Tryz.func169 fun x => by kernel_rfl
def abd := kw abc
def IJ : FC Tryz.prog := ⟨Zv, [abd], fR, Tryz.f101, [va wu, vl vB]⟩
noncomputable def pZ (bB : af) (r2p : C0) (t9 : aG) (t10 t11 : Int) : Option (Sum Zo (Sum Unit (Bool × Unit))) := bif decide (t11 < t10) then bif decide (0 ≤ t11) then Option.bind ((t9)[t11.toNat]?) fun r1 => Option.bind (du bB ([([(r1.1, ())], r2p, ())])) fun y2 => bif !y2.1 then some (.inr (.inr (false, ()))) else some (.inl (bB, r2p, t9, t10, i64.wrap (t11 + 1), ())) else none else some (.inr (.inl (())))
noncomputable def iw (x : Zo) : Option (Sum Zo (Sum Unit (Bool × Unit))) := pZ x.1 x.2.1 x.2.2.1 x.2.2.2.1 x.2.2.2.2.1
def Qo : LD := ⟨0, IJ.lp 0, sp [(1, vl vB), (0, vl [.k9 AM]), (6, vl [.shr im]), (0, vl [.int .i64]), (0, vl [.int .i64])] 10, sp [] 22, sp [(4, vl [.bool])] 17, iw⟩
theorem Qp : IJ.Ok Qo := IJ.mm fun x => by kernel_rfl
def Qq : IJ.KL := ⟨_, Qp⟩
noncomputable def nM (aX : Int) (aY : aG) (bB : af) : Option (Bool × Unit) := cM (aD iw (bB, [(aX, aY, ())], aY, (aY.length : Int), 0, ())) (fun y1 => some (true, ())) (fun y2 => some (y2.1, ()))
theorem abe : IJ.Kn [⟨.tmp 4, false, [.bool]⟩] 101 nM := IJ.kf [Qq] Tryz.func101 (by kernel_rfl) (by kernel_rfl) fun x => by kernel_rfl
def abf := kw abe
def vD : FC Tryz.prog := ⟨dO, [R6], dr 3 (.a 0 (.a 1 (.a 2 (.a 3 (.t 4 (.a 5 (.a 6 (.a 7 (.a 8 (.t 9 (.t 11 (.o 10 (.a 12 (.o 13 (.l 14 (.a 15 (.a 16 (.l 17 .nil)))))))))))))))))), Tryz.f161, [.box true OR, vl [.shr aC]]⟩
noncomputable def lK (cJ : Int) (dI : Bool) (dj cO : Int) (cS : aG) (di : ak) (cT : aG) (cU : hZ) (dx dy bT bL bU bV bW bX bY : Int) (bG : aG) (bo bk aO : Int) (aJ : aG) (ba : af) (bp : ah) (t6 : ak) (t7 t8 : Int) : Option (Sum Zp (Sum ae Unit)) := bif decide (t8 < t7) then bif decide (0 ≤ t8) then Option.bind ((t6)[t8.toNat]?) fun r1 => Option.bind (cj cO cS) fun y2 => bif Nat.ble (((List.length bp) + 1) * 104) lim then some (.inl (cJ, dI, dj, cO, cS, di, cT, cU, dx, dy, bT, bL, bU, bV, bW, bX, bY, bG, bo, bk, aO, aJ, ba, bp ++ ([(1, y2.1, y2.2.1, r1.1, r1.2.1, r1.2.2.1, r1.2.2.2.1, [], ())]), t6, t7, i64.wrap (t8 + 1), ())) else none else none else some (.inr (.inl (cJ, dI, dj, cO, cS, di, cT, cU, dx, dy, bT, bL, bU, bV, bW, bX, bY, bG, bo, bk, aO, aJ, ba, bp, ())))
noncomputable def eQ (x : Zp) : Option (Sum Zp (Sum ae Unit)) := lK x.1 x.2.1 x.2.2.1 x.2.2.2.1 x.2.2.2.2.1 x.2.2.2.2.2.1 x.2.2.2.2.2.2.1 x.2.2.2.2.2.2.2.1 x.2.2.2.2.2.2.2.2.1 x.2.2.2.2.2.2.2.2.2.1 x.2.2.2.2.2.2.2.2.2.2.1 x.2.2.2.2.2.2.2.2.2.2.2.1 x.2.2.2.2.2.2.2.2.2.2.2.2.1 x.2.2.2.2.2.2.2.2.2.2.2.2.2.1 x.2.2.2.2.2.2.2.2.2.2.2.2.2.2.1 x.2.2.2.2.2.2.2.2.2.2.2.2.2.2.2.1 x.2.2.2.2.2.2.2.2.2.2.2.2.2.2.2.2.1 x.2.2.2.2.2.2.2.2.2.2.2.2.2.2.2.2.2.1 x.2.2.2.2.2.2.2.2.2.2.2.2.2.2.2.2.2.2.1 x.2.2.2.2.2.2.2.2.2.2.2.2.2.2.2.2.2.2.2.1 x.2.2.2.2.2.2.2.2.2.2.2.2.2.2.2.2.2.2.2.2.1 x.2.2.2.2.2.2.2.2.2.2.2.2.2.2.2.2.2.2.2.2.2.1 x.2.2.2.2.2.2.2.2.2.2.2.2.2.2.2.2.2.2.2.2.2.2.1 x.2.2.2.2.2.2.2.2.2.2.2.2.2.2.2.2.2.2.2.2.2.2.2.1 x.2.2.2.2.2.2.2.2.2.2.2.2.2.2.2.2.2.2.2.2.2.2.2.2.1 x.2.2.2.2.2.2.2.2.2.2.2.2.2.2.2.2.2.2.2.2.2.2.2.2.2.1 x.2.2.2.2.2.2.2.2.2.2.2.2.2.2.2.2.2.2.2.2.2.2.2.2.2.2.1
def IK : LD := ⟨0, vD.lp 0, sp [(0, .box true OR), (5, vl [.shr aC]), (0, vl [.int .i64]), (0, vl [.int .i64])] 22, sp [(0, .box true OR)] 30, sp [] 31, eQ⟩
theorem IL : vD.Ok IK := vD.mm fun x => by kernel_rfl
def IM : vD.KL := ⟨_, IL⟩
noncomputable def gY (cJ : Int) (dI : Bool) (dj cO : Int) (cS : aG) (di : ak) (cT : aG) (cU : hZ) (dx dy bT bL bU bV bW bX bY : Int) (bG : aG) (bo bk aO : Int) (aJ : aG) (ba : af) (bp : ah) (K1 : ak) : Option (ae) := cM (aD eQ (cJ, dI, dj, cO, cS, di, cT, cU, dx, dy, bT, bL, bU, bV, bW, bX, bY, bG, bo, bk, aO, aJ, ba, bp, K1, (K1.length : Int), 0, ())) (fun y1 => some y1) (fun y2 => none)
theorem MP : vD.Kn [] 161 gY := vD.kf [IM] Tryz.func161 (by kernel_rfl) (by kernel_rfl) fun x => by kernel_rfl
def MQ := kv (.pick [4, 21], .shr, .shr) MP
def IN : FC Tryz.prog := ⟨dO, [Qk, XD], fR, Tryz.f160, [va wu, vl vB, vl [.int .i64]]⟩
noncomputable def kW (bB : af) (pR kz : Int) (jT : aG) (yl ym ve : Int) (yn : ak) (sd t24 : aG) (t25 t26 : Int) : Option (Sum Zq (Sum (aG × Unit) Unit)) := bif decide (t26 < t25) then bif decide (0 ≤ t26) then Option.bind ((t24)[t26.toNat]?) fun r2 => Option.bind (gO kz jT bB r2.1) fun y3 => bif y3.2.2.2.2.1 then Option.bind (dg sd r2.1) fun y4 => bif !y4.1 then bif decide (r2.1 = pR) then bif Nat.ble (((List.length sd) + 1) * 8) lim then some (.inl (bB, pR, kz, jT, yl, ym, ve, yn, sd ++ [(r2.1, ())], t24, t25, i64.wrap (t26 + 1), ())) else none else bif decide (0 < ve) then bif decide (y3.2.2.1 = ve) then bif Nat.ble (((List.length sd) + 1) * 8) lim then some (.inl (bB, pR, kz, jT, yl, ym, ve, yn, sd ++ [(r2.1, ())], t24, t25, i64.wrap (t26 + 1), ())) else none else some (.inl (bB, pR, kz, jT, yl, ym, ve, yn, sd, t24, t25, i64.wrap (t26 + 1), ())) else some (.inl (bB, pR, kz, jT, yl, ym, ve, yn, sd, t24, t25, i64.wrap (t26 + 1), ())) else some (.inl (bB, pR, kz, jT, yl, ym, ve, yn, sd, t24, t25, i64.wrap (t26 + 1), ())) else some (.inl (bB, pR, kz, jT, yl, ym, ve, yn, sd, t24, t25, i64.wrap (t26 + 1), ())) else none else some (.inr (.inl (sd, ())))
noncomputable def ef (x : Zq) : Option (Sum Zq (Sum (aG × Unit) Unit)) := kW x.1 x.2.1 x.2.2.1 x.2.2.2.1 x.2.2.2.2.1 x.2.2.2.2.2.1 x.2.2.2.2.2.2.1 x.2.2.2.2.2.2.2.1 x.2.2.2.2.2.2.2.2.1 x.2.2.2.2.2.2.2.2.2.1 x.2.2.2.2.2.2.2.2.2.2.1 x.2.2.2.2.2.2.2.2.2.2.2.1
def Qr : LD := ⟨0, IN.lp 0, sp [(1, vl vB), (0, vl [.int .i64]), (0, .box false wu), (3, .box false DI), (1, vl [.own im]), (14, vl [.shr im]), (0, vl [.int .i64]), (0, vl [.int .i64])] 41, sp [(9, vl [.own im])] 58, sp [] 68, ef⟩
theorem Qs : IN.Ok Qr := IN.mm fun x => by kernel_rfl
def Qt : IN.KL := ⟨_, Qs⟩
noncomputable def fY (aX : Int) (aY : aG) (bB : af) (pR : Int) : Option (aG × Unit) := Option.bind (gO aX aY bB pR) fun y1 => bif !y1.2.2.2.2.1 then some ([], ()) else cM (aD ef (bB, pR, aX, aY, y1.1, y1.2.1, y1.2.2.1, y1.2.2.2.1, [], aY, (aY.length : Int), 0, ())) (fun y2 => some (y2.1, ())) (fun y3 => none)
theorem abg : IN.Kn [⟨.tmp 6, false, [.own im]⟩] 160 fY := IN.kf [Qt] Tryz.func160 (by kernel_rfl) (by kernel_rfl) fun x => by kernel_rfl
def VF := kw abg
set_option maxHeartbeats 4000000 in
set_option maxRecDepth 100000 in
theorem IP (b off n c i vb qn vc : Nat) (cs vs : List Value) (w : World) (hi : i < n) (sA : n + 1 ≤ c) (agL : n ≤ 140737488355328) (hvb : vb ≠ b)
    (sB : cs.length = n * 4) (wG : vs.length = 4)
    (uB : ∀ j v, cs[j]? = some v → w.cell? ⟨b, off + j, none⟩ = some v) (ss : ∀ j, j < (n + 1) * 4 → (w.cell? ⟨b, off + j, none⟩).isSome = true) (hfz : ∀ j, j < (n + 1) * 4 → w.frozen? ⟨b, off + j, none⟩ = false)
    (wT : ∀ j v, vs[j]? = some v → w.cell? ⟨vb, qn + j, none⟩ = some v) (h1c : ∀ v ∈ cs, v.oneCell' = true) (Qu : ∀ v ∈ vs, v.oneCell' = true)
    (tA tB : TypeId) (kA kB : Nat) (XE : w.shape? vb = some (tA, kA)) (hsb : w.shape? b = some (tB, kB)) (hkB : kB ≠ 0) (YC : w.frozen? ⟨vb, qn, none⟩ = false) (hfe : w.frozen? ⟨vb, kA, none⟩ = false) :
    Calls Tryz.prog 209 #[.slice (some ⟨b, off, none⟩) n c, .int .i64 i, .slice (some ⟨vb, qn, none⟩) 1 vc] w fun e w' =>
      e = .returned (.slice (some ⟨b, off, none⟩) (n + 1) c) ∧ w' = (w.drew.setCells b (off + (i + 1) * 4) (cs.drop (i * 4))).setCells b (off + i * 4) vs := by
  have mixed : Tryz.prog.follows .mixedOrders = true := by kernel_rfl
  have Mo : ¬ ((i : Int) = (n : Int)) := by omega
  have mj : (Tryz.prog.info? 81).map (·.size) = some 4 := by kernel_rfl
  have hov : ∀ lb cb, (callFunc 230 #[.slice (some ⟨vb, qn, none⟩) 1 vc, .slice (some ⟨b, off + (i + 1) * 4, none⟩) lb cb]).run Tryz.prog w = .ok (.value (.bool false)) w := fun lb cb => by
    rw [run_callFunc_extern Tryz.func230 (by kernel_rfl) (by kernel_rfl) (by kernel_rfl) (e := Extern.SlicesOverlaps.overlaps #[38, 38] #[4]) (by kernel_rfl),
      Lib.run_overlaps_apart w 38 4 81 Tryz.underlying38 4 Tryz.sizeOf81 ⟨vb, qn, none⟩ ⟨b, off + (i + 1) * 4, none⟩ 1 vc lb cb hvb tA tB kA kB XE hsb hkB YC hfe]
    rfl
  have XF : (cs.drop (i * 4)).length = (n - i) * 4 := by rw [List.length_drop, sB]; omega
  have hw1 : IntKind.i64.wrap ((i : Int) + (1 : Int)) = (i : Int) + (1 : Int) := by rw [IntKind.wrap_i64]; omega
  have LS : (0 : Int) ≤ (i : Int) + (1 : Int) := by omega
  have yI : i ≤ n := by omega
  have htn : ((i : Int) + (1 : Int)).toNat = i + 1 := by omega
  have Jr : ¬ (c = i + 1) := by omega
  have XG : (i : Int) ≤ (n : Int) + (1 : Int) := by omega
  have hb4 : ¬ (c = i) := by omega
  have VG : ∀ ty dc sc, (Builtin.copy_ #[38, 38] ty #[.slice (some ⟨b, off + (i + 1) * 4, none⟩) (n - i) dc, .slice (some ⟨b, off + i * 4, none⟩) (n + 1 - i) sc]).run Tryz.prog w.drew = .ok (goInt (Nat.min (n + 1 - i) (n - i))) (w.drew.setCells b (off + (i + 1) * 4) (cs.drop (i * 4))) := fun ty dc sc =>
    pj w.drew _ _ ty 81 4 b (off + (i + 1) * 4) (n - i) dc ⟨b, off + i * 4, none⟩ (n + 1 - i) sc (cs.drop (i * 4)) Tryz.underlying38 mj (by rw [XF]; simp only [Nat.min_def]; split <;> omega)
      (fun j v hj => by rw [Addr.add_lit, Nat.add_assoc]; exact uB (i * 4 + j) v (by rwa [List.getElem?_drop] at hj))
      (fun j hj => by rw [Nat.add_assoc]; exact ss _ (by omega)) (fun j hj => by rw [Nat.add_assoc]; exact hfz _ (by omega)) (fun v hv => h1c v (List.mem_of_mem_drop hv))
  obtain ⟨W1, Jw⟩ : ∃ W1, W1 = w.drew.setCells b (off + (i + 1) * 4) (cs.drop (i * 4)) := ⟨_, rfl⟩; have abj : ∀ k, k < (n + 1) * 4 → (W1.cell? ⟨b, off + k, none⟩).isSome = true := fun k hk => by
    rw [Jw]; exact isSome_setCells b _ _ _ (fun j hj => by rw [Nat.add_assoc]; exact ss _ (by omega)) _ (ss k hk)
  have abk : ∀ (W : World), (∀ x, W.cell? x = W1.cell? x) → (∀ x, W.frozen? x = W1.frozen? x) → ∀ ty dc, (Builtin.copy_ #[38, 38] ty #[.slice (some ⟨b, off + i * 4, none⟩) (n + 1 - i) dc, .slice (some ⟨vb, qn, none⟩) 1 vc]).run Tryz.prog W = .ok (goInt (Nat.min 1 (n + 1 - i))) (W.setCells b (off + i * 4) vs) := fun W NM VH ty dc =>
    pj W _ _ ty 81 4 b (off + i * 4) (n + 1 - i) dc ⟨vb, qn, none⟩ 1 vc vs Tryz.underlying38 mj (by rw [wG]; simp only [Nat.min_def]; split <;> omega)
      (fun j v hj => by
        rw [Addr.add_lit, NM, Jw, World.cell?_setCells_out b _ _ _ _ (fun h _ => absurd h hvb)]; exact wT j v hj)
      (fun j hj => by rw [NM, Nat.add_assoc]; exact abj _ (by omega)) (fun j hj => by rw [VH, Jw, World.frozen?_setCells, Nat.add_assoc]; exact hfz _ (by omega)) Qu
  rw [← Jw] at VG
  go_enter Tryz.func209, Tryz.ntmps209
  go_wp2_with (simp only [hov])
  go_region_law_o (refine step_copy_runI rfl _ _ 38 38 rfl _ _ (by simp [Act.eval, Act.put]) (by simp [Act.eval, Act.put]) (VG _ _ _) ?_)
  go_wp2_with (at_builtin; refine wpList_copy_runI _ rfl _ _ 38 38 rfl _ _ rfl rfl (abk _ (fun _ => rfl) (fun _ => rfl) _ _) ?_)
  go_ret
  first | exact ⟨rfl, rfl⟩ | exact ⟨rfl, by rw [Jw]⟩
set_option maxHeartbeats 4000000 in
set_option maxRecDepth 100000 in
theorem K2 (b off n c i vb qn vc : Nat) (cs vs : List Value) (w : World) (hi : i < n) (hnc : n ≤ c) (sA : c < n + 1) (CI : (n + 1) * 40 ≤ 140737488355328)
    (sB : cs.length = n * 4) (wG : vs.length = 4)
    (uB : ∀ j v, cs[j]? = some v → w.cell? ⟨b, off + j, none⟩ = some v)
    (wT : ∀ j v, vs[j]? = some v → w.cell? ⟨vb, qn + j, none⟩ = some v) (h1c : ∀ v ∈ cs, v.oneCell' = true) (Qu : ∀ v ∈ vs, v.oneCell' = true) :
    ∃ (vK : Array Value) (G : Nat), n + 1 ≤ G ∧ vK.size = G * 4 ∧ (∀ (j : Nat) (v : Value), (cs.take (i * 4))[j]? = some v → vK[j]? = some v) ∧
    Calls Tryz.prog 209 #[.slice (some ⟨b, off, none⟩) n c, .int .i64 i, .slice (some ⟨vb, qn, none⟩) 1 vc] w fun e w' =>
      e = .returned (.slice (some ⟨w.heap.size, 0, none⟩) (n + 1) G) ∧
      w' = (((w.alloc (.cells vK 81)).drew.setCells w.heap.size (i * 4) vs).drew).setCells w.heap.size ((i + 1) * 4) (cs.drop (i * 4)) := by
  have mixed : Tryz.prog.follows .mixedOrders = true := by kernel_rfl
  obtain ⟨i0, SP, LR, Te, hzb⟩ : ∃ i0, Tryz.prog.info? 81 = some i0 ∧ i0.zero = some (Value.agg #[Value.int .i64 0, Value.int .i64 0, Value.int .i64 0, Value.string ⟨#[]⟩]) ∧ i0.size = 4 ∧ i0.bytes = 40 := ⟨_, rfl, by kernel_rfl, by kernel_rfl, by kernel_rfl⟩; have Mo : ¬ ((i : Int) = (n : Int)) := by omega
  have hz3 : (c : Int) < (n : Int) + (1 : Int) := by omega
  have mj : (Tryz.prog.info? 81).map (·.size) = some 4 := by rw [SP]; simp [Te]
  have Tf : b < w.heap.size := block_lt_of_cell (uB 0 _ (List.getElem?_eq_getElem (by omega))); have Bg : vb < w.heap.size := block_lt_of_cell (wT 0 _ (List.getElem?_eq_getElem (by omega))); have LV : (n : Int) + (1 : Int) - (i : Int) = ((n + 1 - i : Nat) : Int) := by omega
  have hik : i + (n + 1 - i) = n + 1 := by omega
  have hold : (Builtin.firstCells i0.size i (.slice (some ⟨b, off, none⟩) i c)).run Tryz.prog w.drew = .ok (cs.take (i * 4)).toArray w.drew := by
    rw [Te]; exact run_firstCells_some w.drew 4 i ⟨b, off, none⟩ i c (cs.take (i * 4)) (by rw [List.length_take]; omega) (fun j v hj => by
      rw [Addr.add_lit]; rw [List.getElem?_take] at hj
      split at hj
      · exact uB j v hj
      · cases hj)
  have XH : ∀ ty, (Builtin.append_ #[38, 3] ty #[.slice (some ⟨b, off, none⟩) i c, .int .i64 ((n : Int) + (1 : Int) - (i : Int))]).run Tryz.prog w =
      .ok (.slice (some ⟨w.heap.size, 0, none⟩) (n + 1) (grownCap w (n + 1) c 81)) (w.drew.alloc (.cells ((cs.take (i * 4)).toArray ++ Builtin.zeroCells (Value.agg #[Value.int .i64 0, Value.int .i64 0, Value.int .i64 0, Value.string ⟨#[]⟩]).cells (n + 1 - i) ++ Builtin.zeroCells (Value.agg #[Value.int .i64 0, Value.int .i64 0, Value.int .i64 0, Value.string ⟨#[]⟩]).cells (grownCap w (n + 1) c 81 - (n + 1))) 81)) := fun ty => by
    have h := Lib.run_append_grow_zeros w 38 3 ty 81 i0 _ .i64 .i64 Tryz.underlying38 Tryz.underlying3 SP LR (some ⟨b, off, none⟩) i c (cs.take (i * 4)) hold (n + 1 - i) (by omega) (by omega) (by omega) (by omega) (by rw [hzb]; omega) (by rw [hzb, hik]; exact growslice_fits sA CI); rw [hik] at h; rw [LV]; exact h
  obtain ⟨G, hG⟩ : ∃ G, G = grownCap w (n + 1) c 81 := ⟨_, rfl⟩; obtain ⟨vK, MR⟩ : ∃ vK : Array Value, vK = (cs.take (i * 4)).toArray ++ Builtin.zeroCells (Value.agg #[Value.int .i64 0, Value.int .i64 0, Value.int .i64 0, Value.string ⟨#[]⟩]).cells (n + 1 - i) ++ Builtin.zeroCells (Value.agg #[Value.int .i64 0, Value.int .i64 0, Value.int .i64 0, Value.string ⟨#[]⟩]).cells (G - (n + 1)) := ⟨_, rfl⟩; rw [← hG] at XH; rw [← MR] at XH; have hGn : n + 1 ≤ G := by rw [hG]; exact grownCap_ge w _ _ _
  have hRs : vK.size = G * 4 := by
    rw [MR]; simp [Builtin.zeroCells, Value.cells]; omega
  have hRl : (n + 1) * 4 ≤ vK.size := by omega
  have hRt : ∀ (j : Nat) (v : Value), (cs.take (i * 4))[j]? = some v → vK[j]? = some v := fun j v hj => by
    have dC : j < (cs.take (i * 4)).length := (List.getElem?_eq_some_iff.1 hj).1; rw [MR, Array.append_assoc, Array.getElem?_append_left (by simpa using dC)]; simpa using hj
  refine ⟨vK, G, hGn, hRs, hRt, ?_⟩; obtain ⟨W1, Jw⟩ : ∃ W1, W1 = w.drew.alloc (.cells vK 81) := ⟨_, rfl⟩; rw [← Jw] at XH; have hN : ∀ j, j < (n + 1) * 4 → (W1.cell? ⟨w.heap.size, j, none⟩).isSome = true := fun j hj => by
    rw [Jw, World.cell?_alloc_at (w := w.drew) vK _ w.heap.size j rfl, Array.getElem?_eq_getElem (by omega)]; rfl
  have hNf : ∀ j, W1.frozen? ⟨w.heap.size, j, none⟩ = false := fun j => by rw [Jw]; exact World.frozen?_alloc_at (w := w.drew) vK _ w.heap.size j rfl
  have hOb : ∀ j v, w.cell? ⟨b, j, none⟩ = some v → W1.cell? ⟨b, j, none⟩ = some v := fun j v h => by rw [Jw, World.cell?_alloc_past (w := w.drew) _ b j Tf]; exact h
  have hOv : ∀ j v, w.cell? ⟨vb, j, none⟩ = some v → W1.cell? ⟨vb, j, none⟩ = some v := fun j v h => by rw [Jw, World.cell?_alloc_past (w := w.drew) _ vb j Bg]; exact h
  have abn : ∀ (W : World), (∀ x, W.cell? x = W1.cell? x) → (∀ x, W.frozen? x = W1.frozen? x) → ∀ ty dc, (Builtin.copy_ #[38, 38] ty #[.slice (some ⟨w.heap.size, i * 4, none⟩) (n + 1 - i) dc, .slice (some ⟨vb, qn, none⟩) 1 vc]).run Tryz.prog W = .ok (goInt (Nat.min 1 (n + 1 - i))) (W.setCells w.heap.size (i * 4) vs) := fun W NM VH ty dc =>
    pj W _ _ ty 81 4 w.heap.size (i * 4) (n + 1 - i) dc ⟨vb, qn, none⟩ 1 vc vs Tryz.underlying38 mj (by rw [wG]; simp only [Nat.min_def]; split <;> omega)
      (fun j v hj => by rw [Addr.add_lit, NM]; exact hOv _ v (wT j v hj))
      (fun j hj => by rw [NM]; exact hN _ (by omega)) (fun j hj => by rw [VH]; exact hNf _) Qu
  have agY : G ≤ 9223372036854775807 := by
    have := grownCap_le_maxLen w (n + 1) c 81 (by unfold maxLen; omega); rw [← hG] at this; unfold maxLen at this; omega
  have hGi : ¬ (G = i) := by omega
  have agZ : ¬ (G = i + 1) := by omega
  have hci : ¬ (c = i) := by omega
  have hbN : b ≠ w.heap.size := by omega
  have XF : (cs.drop (i * 4)).length = (n - i) * 4 := by rw [List.length_drop, sB]; omega
  have VI : ∀ (W : World), (∀ x, W.cell? x = (W1.setCells w.heap.size (i * 4) vs).cell? x) → (∀ x, W.frozen? x = (W1.setCells w.heap.size (i * 4) vs).frozen? x) → ∀ ty dc sc, (Builtin.copy_ #[38, 38] ty #[.slice (some ⟨w.heap.size, (i + 1) * 4, none⟩) (n - i) dc, .slice (some ⟨b, off + i * 4, none⟩) (n - i) sc]).run Tryz.prog W = .ok (goInt (Nat.min (n - i) (n - i))) (W.setCells w.heap.size ((i + 1) * 4) (cs.drop (i * 4))) := fun W NM VH ty dc sc =>
    pj W _ _ ty 81 4 w.heap.size ((i + 1) * 4) (n - i) dc ⟨b, off + i * 4, none⟩ (n - i) sc (cs.drop (i * 4)) Tryz.underlying38 mj (by rw [XF]; simp only [Nat.min_def]; split <;> omega)
      (fun j v hj => by
        rw [Addr.add_lit, NM, World.cell?_setCells_out _ _ _ _ _ (fun h _ => absurd h hbN), Nat.add_assoc]; exact hOb _ v (uB (i * 4 + j) v (by rwa [List.getElem?_drop] at hj)))
      (fun j hj => by rw [NM]; exact isSome_setCells _ _ _ _ (fun t ht => hN _ (by omega)) _ (hN _ (by omega)))
      (fun j hj => by rw [VH, World.frozen?_setCells]; exact hNf _) (fun v hv => h1c v (List.mem_of_mem_drop hv))
  subst Jw; have hE1 : ∀ x, ((w.alloc (.cells vK 81)).drew).cell? x = (w.drew.alloc (.cells vK 81)).cell? x := fun x => rfl
  have hE2 : ∀ x, ((w.alloc (.cells vK 81)).drew).frozen? x = (w.drew.alloc (.cells vK 81)).frozen? x := fun x => rfl
  have Xp : ∀ x, (((w.alloc (.cells vK 81)).drew.setCells w.heap.size (i * 4) vs).drew).cell? x = ((w.drew.alloc (.cells vK 81)).setCells w.heap.size (i * 4) vs).cell? x := fun x => rfl
  have Yv : ∀ x, (((w.alloc (.cells vK 81)).drew.setCells w.heap.size (i * 4) vs).drew).frozen? x = ((w.drew.alloc (.cells vK 81)).setCells w.heap.size (i * 4) vs).frozen? x := fun x => rfl
  have hw1 : IntKind.i64.wrap ((i : Int) + (1 : Int)) = (i : Int) + (1 : Int) := by rw [IntKind.wrap_i64]; omega
  have LS : (0 : Int) ≤ (i : Int) + (1 : Int) := by omega
  have yI : i ≤ n := by omega
  have htn : ((i : Int) + (1 : Int)).toNat = i + 1 := by omega
  have XG : (i : Int) ≤ (n : Int) := by omega
  clear LV hik hold MR hG hRl SP LR Te hzb hRt
  go_enter Tryz.func209, Tryz.ntmps209
  go_wp2_with (first
    | (at_builtin; refine Lib.wpList_append_run _ rfl _ _ _ _ rfl _ _ rfl rfl _ _ (XH _) ?_)
    | (at_builtin; refine wpList_copy_runI _ rfl _ _ 38 38 rfl _ _ rfl rfl (abn _ hE1 hE2 _ _) ?_)
    | (at_builtin; refine wpList_copy_runI _ rfl _ _ 38 38 rfl _ _ rfl rfl (VI _ (fun _ => rfl) (fun _ => rfl) _ _ _) ?_))
  go_region_law_o (refine step_copy_runI rfl _ _ 38 38 rfl (.slice (some ⟨w.heap.size, (i + 1) * 4, none⟩) (n - i) (G - (i + 1))) (.slice (some ⟨b, off + i * 4, none⟩) (n - i) (c - i)) (by simp [Act.eval, Act.put]) (by simp [Act.eval, Act.put]) (VI _ Xp Yv 3 (G - (i + 1)) (c - i)) ?_)
  go_wp2
  go_ret
  exact ⟨rfl, rfl⟩
set_option maxHeartbeats 4000000 in
set_option maxRecDepth 100000 in
theorem MS (base : Option Addr) (n c vb qn vc : Nat) (w w' : World) (v : Value) (hnc : n ≤ c) (KJ : base = none → n = 0 ∧ c = 0)
    (rh : (Builtin.append_ #[38, 38] 38 #[.slice base n c, .slice (some ⟨vb, qn, none⟩) 1 vc]).run Tryz.prog w = .ok v w') :
    Calls Tryz.prog 209 #[.slice base n c, .int .i64 n, .slice (some ⟨vb, qn, none⟩) 1 vc] w fun e SG => e = .returned v ∧ SG = w' := by
  have mixed : Tryz.prog.follows .mixedOrders = true := by kernel_rfl
  go_enter Tryz.func209, Tryz.ntmps209
  cases base with
  | none =>
    obtain ⟨h0, h1⟩ := KJ rfl; subst h0 h1
    go_wp2_with (at_builtin; refine Lib.wpList_append_run _ rfl _ _ _ _ rfl _ _ rfl rfl _ _ rh ?_)
    go_ret
    exact ⟨rfl, rfl⟩
  | some a =>
    obtain ⟨ab, ao, asp⟩ := a
    go_wp2_with (at_builtin; refine Lib.wpList_append_run _ rfl _ _ _ _ rfl _ _ rfl rfl _ _ rh ?_)
    all_goals (go_ret; exact ⟨rfl, rfl⟩)
def ES (s : List mD) (i : Int) (v : List mD) : Option ((List mD) × Unit) :=
  bif decide (0 ≤ i) && (decide (i ≤ ((List.length s : Nat) : Int)) && (Nat.beq v.length 1 && Nat.ble ((s.length + 1) * 40) lim)) then some (s.take i.toNat ++ (v ++ s.drop i.toNat), ()) else none
theorem By {T : la} (hT : gq Tryz.prog T) (hE : T.elem 38 = some (aC, 40)) {c : Cz} {w : World} {mu : Mu} (hH : Handed c w mu) {s x : List (ar aC)} {i : Nat} {v0 v2 : Value} {l0 l2 : Loc}
    (h0 : OwnAt c w (.cI 0 0) l0 { r := aC, own := true, xs := s } v0) (h2 : OwnAt c w (.cI 2 0) l2 { r := aC, own := true, xs := x } v2) (hi : i ≤ s.length) (hx : x.length = 1) (hb : (s.length + 1) * 40 ≤ lim) :
    Calls Tryz.prog 209 #[v0, .int .i64 i, v2] w fun e w' => ∃ v, e = .returned v ∧ ∃ c', HP w mu c' w' ∧ bI c' w' .jw 0 [.own { r := aC, own := true, xs := s.take i ++ (x ++ s.drop i) }] [v] := by
  obtain ⟨q1, q2, _, q4⟩ := h2; have Ma : (s.length + 1) * 40 ≤ 140737488355328 := by unfold lim at hb; omega
  cases l2 with
  | nil =>
    have q4 : x = [] := q4; rw [q4] at hx; simp at hx
  | «at» vb qn abo =>
  obtain ⟨g1, g2, ⟨VJ, vty, g3, g4⟩, g5⟩ := q4; obtain ⟨va, vc, rfl, k1, k2, k3⟩ := q2; have k1 : x.length ≤ vc := k1; have ha := k3 (by omega); have ha : va = ⟨vb, qn, none⟩ := ha.trans (by rw [Nat.zero_mul]; rfl); subst ha; have vn : ({ r := aC, own := true, xs := x } : ig).xs.length = 1 := hx; rw [vn]; obtain ⟨vs, hvr, wT⟩ := mN vb qn x ((cg.sh rfl).1 g5); have wG : vs.length = 4 := by
    have := bt.length vs x wT; rw [hx] at this; exact this
  have Qu := bt.jc vs x wT; have hvm : mu.m vb := (hH.m vb).2 ⟨_, g1, rfl⟩; obtain ⟨p1, p2, _, p4⟩ := h0; have Bo : RT.width aC = 4 := rfl
  by_cases yI : i = s.length
  · -- at Fk end
    subst yI; have ud : s.take s.length ++ (x ++ s.drop s.length) = s ++ x := by rw [List.take_length, List.drop_length, List.append_nil]
    rw [ud]; have fin : ∀ (base : Option Addr) (n cc : Nat) (us : List Value) (xb : Option Nat), v0 = .slice base n cc → n = s.length → n ≤ cc → (base = none → n = 0 ∧ cc = 0) → (∀ b, xb = some b → mu.m b) → bt w c.ok aC us s →
        ((xb = none ∧ v0 = .slice none 0 0 ∧ s.length = 0) ∨ ∃ b off lo cap n ad cur te, xb = some b ∧ v0 = .slice (some ad) s.length n ∧ s.length ≤ n ∧ lo + n ≤ cap ∧ (n ≠ 0 → ad = ⟨b, off + lo * aC.width, none⟩) ∧
          w.heap[b]? = some (.cells cur te (0, 0)) ∧ off + cap * aC.width ≤ cur.size ∧ w.rangeAt b (off + lo * aC.width) us) →
        Calls Tryz.prog 209 #[v0, .int .i64 s.length, .slice (some ⟨vb, qn, none⟩) 1 vc] w fun e w' => ∃ v, e = .returned v ∧ ∃ c', HP w mu c' w' ∧ bI c' w' .jw 0 [.own { r := aC, own := true, xs := s ++ x }] [v] := by
      intro base n cc us xb e0 en abq KJ HI FE JM; obtain ⟨v, w', rh, rQ, Aa⟩ := wa (P := Tryz.prog) hT (t := 38) (ty := 38) hE (nx := s.length) (ny := 1) (vx := us) (vy := vs) (uy := .slice (some ⟨vb, qn, none⟩) 1 vc) hb (bt.length us s FE) (by rw [wG, Bo]) Qu
        (.inr ⟨by omega, _, _, rfl, fun j v hj => by rw [Addr.add_mid]; exact hvr j v hj⟩) JM
      subst en; rw [e0] at rh ⊢; have yO := MS base _ cc vb qn vc w w' v abq KJ rh; refine yO.mono fun e SG ⟨he, hw⟩ => ?_
      subst he; subst hw; refine ⟨v, rfl, ?_⟩; rcases Aa with ⟨_, e2, _, _⟩ | ⟨B, o, cp, cur, te, v1, v2, hle, hg, mj, hr, rf, hB⟩
      · cases e2
      · exact wq hH (hB.imp id (HI B)) rf rQ v1 (by rw [List.length_append, hx]; exact v2) (by rw [List.length_append, hx]; exact hle) hg mj hr (bt.append us vs s x FE wT)
    cases l0 with
    | nil =>
      have p4 : s = [] := p4; obtain ⟨rfl, _⟩ := p2; subst p4; exact fin none 0 0 [] none rfl rfl (by omega) (fun _ => ⟨rfl, rfl⟩) (fun b h => by cases h) rfl (.inl ⟨rfl, rfl, rfl⟩)
    | «at» b off cap =>
      obtain ⟨f1, f2, ⟨cur, te, f3, f4⟩, f5⟩ := p4; obtain ⟨a, cc, rfl, m1, m2, m3⟩ := p2; obtain ⟨us, VK, FE⟩ := mN b off s ((cg.sh rfl).1 f5); have m1 : s.length ≤ cc := m1; have m2 : cc ≤ cap := by omega
      exact fin (some a) s.length cc us (some b) rfl rfl m1 (fun h => by cases h) (fun b' h => by cases h; exact (hH.m b).2 ⟨_, f1, rfl⟩) FE (.inr ⟨b, off, 0, cap, cc, a, cur, te, rfl, rfl, m1, by omega, m3, f3, f4, by rw [Nat.zero_mul, Nat.add_zero]; exact VK⟩)
  · -- in Fk middle
    have dC : i < s.length := by omega
    cases l0 with
    | nil =>
      have p4 : s = [] := p4; rw [p4] at dC; simp at dC
    | «at» b off cap =>
      obtain ⟨f1, f2, ⟨cur, te, f3, f4⟩, f5⟩ := p4; obtain ⟨a, cc, rfl, m1, m2, m3⟩ := p2; have m1 : s.length ≤ cc := m1; have m2 : cc ≤ cap := by omega
      have ha := m3 (by omega); have ha : a = ⟨b, off, none⟩ := ha.trans (by rw [Nat.zero_mul]; rfl); subst ha; obtain ⟨us, VK, FE⟩ := mN b off s ((cg.sh rfl).1 f5); have Ff : us.length = s.length * 4 := bt.length us s FE; have h1u := bt.jc us s FE; have hbm : mu.m b := (hH.m b).2 ⟨_, f1, rfl⟩; have ik : vb ≠ b := by
        rintro rfl
        rw [f1] at g1
        cases g1
      have f4 : off + cap * 4 ≤ cur.size := f4; have g4 : qn + abo * 4 ≤ VJ.size := g4; obtain ⟨ct, cd⟩ := bt.cut i us s FE; have vO : bt w c.ok aC (us.take (i * 4) ++ (vs ++ us.drop (i * 4))) (s.take i ++ (x ++ s.drop i)) := bt.append _ _ _ _ ct (bt.append _ _ _ _ wT cd); have hlen : (s.take i ++ (x ++ s.drop i)).length = s.length + 1 := by
        rw [List.length_append, List.length_append, List.length_take, List.length_drop, hx]; omega
      have XI : (us.take (i * 4)).length = i * 4 := by rw [List.length_take, Ff]; omega
      have XF : (us.drop (i * 4)).length = (s.length - i) * 4 := by rw [List.length_drop, Ff]; omega
      have Td : ({ r := aC, own := true, xs := s } : ig).xs.length = s.length := rfl; rw [Td]
      have fin : ∀ (X : World) (B o : Nat), (∀ j v, (us.take (i * 4))[j]? = some v → X.cell? ⟨B, o + j, none⟩ = some v) → (∀ j v, vs[j]? = some v → X.cell? ⟨B, o + i * 4 + j, none⟩ = some v) →
          (∀ j v, (us.drop (i * 4))[j]? = some v → X.cell? ⟨B, o + (i + 1) * 4 + j, none⟩ = some v) → X.rangeAt B o (us.take (i * 4) ++ (vs ++ us.drop (i * 4))) := by
        intro X B o e1 e2 e3 q v hq; rw [List.getElem?_append] at hq
        by_cases q1 : q < (us.take (i * 4)).length
        · rw [if_pos q1] at hq; exact e1 q v hq
        · rw [if_neg q1, XI, List.getElem?_append] at hq; rw [XI] at q1
          by_cases q2 : q - i * 4 < vs.length
          · rw [if_pos q2] at hq; have := e2 _ v hq
            rwa [show o + i * 4 + (q - i * 4) = o + q by omega] at this
          · rw [if_neg q2, wG] at hq; rw [wG] at q2; have := e3 _ v hq
            rwa [show o + (i + 1) * 4 + (q - i * 4 - 4) = o + q by omega] at this
      have K3 : ∀ k, k < cap * 4 → (w.cell? ⟨b, off + k, none⟩).isSome = true := fun k hk => by
        rw [cell_of_row w b _ cur te (0, 0) f3, Array.getElem?_eq_getElem (by omega)]; rfl
      have hxl : x.length = 1 := hx
      by_cases sA : s.length + 1 ≤ cc
      · have yO := IP b off s.length cc i vb qn vc us vs w dC sA (by omega) ik Ff wG (fun j v hj => VK j v hj) (fun j hj => K3 j (by omega)) (fun j hj => by unfold World.frozen?; simp [f3])
          (fun j v hj => hvr j v hj) h1u Qu vty te VJ.size cur.size (by unfold World.shape?; simp [g3]) (by unfold World.shape?; simp [f3]) (by omega) (by unfold World.frozen?; simp [g3]) (by unfold World.frozen?; simp [g3])
        refine yO.mono fun e w' ⟨he, hw⟩ => ?_
        subst he; subst hw; refine ⟨_, rfl, ?_⟩; obtain ⟨c1, h1, s1⟩ := lX (us.drop (i * 4)) (off + (i + 1) * 4) (w := w.drew) f3; obtain ⟨c2, h2, s2⟩ := lX vs (off + i * 4) h1; obtain ⟨t1, t2, t3⟩ := Cf w.drew b (off + (i + 1) * 4) (us.drop (i * 4)) (off + i * 4) vs (fun j hj => by rw [Nat.add_assoc]; exact K3 _ (by omega)) (fun j hj => by rw [Nat.add_assoc]; exact K3 _ (by omega)) (.inr (by omega)); have zk := lY (b := b) (us.drop (i * 4)) (off + (i + 1) * 4) w.drew; have zl := lY (b := b) vs (off + i * 4) (w.drew.setCells b (off + (i + 1) * 4) (us.drop (i * 4))); have K4 : (w.drew.setCells b (off + (i + 1) * 4) (us.drop (i * 4))).heap.size = w.heap.size := zk.2.2.2; refine wq (B := b) (o := off) (cp := cc) (vs := us.take (i * 4) ++ (vs ++ us.drop (i * 4))) hH (.inr hbm) (fun k hk VL => ?_) ⟨zl.1.trans zk.1, zl.2.1.trans zk.2.1, zl.2.2.1.trans zk.2.2.1, by rw [zl.2.2.2, K4]; exact Nat.le_refl _⟩ rfl
          (by rw [hlen]; exact ⟨_, cc, rfl, sA, by omega, fun _ => by rw [Nat.zero_mul]; rfl⟩) (by rw [hlen]; exact sA) h2 (by rw [s2, s1]; show off + cc * 4 ≤ cur.size; omega)
          (fin _ _ _ (fun j v hj => ?_) t2 t1) vO
        · rw [World.heap_setCells_other _ _ _ _ (by rw [K4]; exact hk) VL, World.heap_setCells_other w.drew _ _ _ hk VL]; rfl
        · have hjl : j < i * 4 := by rw [← XI]; exact (List.getElem?_eq_some_iff.1 hj).1
          rw [t3 _ (.inl (by omega)) (.inl (by omega))]; rw [List.getElem?_take, if_pos hjl] at hj; exact VK j v hj
      · obtain ⟨vK, G, r1, r2, r3, yO⟩ := K2 b off s.length cc i vb qn vc us vs w dC m1 (by omega) Ma Ff wG (fun j v hj => VK j v hj) (fun j v hj => hvr j v hj) h1u Qu; refine yO.mono fun e w' ⟨he, hw⟩ => ?_
        rw [drew_setCells] at hw; subst he; subst hw; refine ⟨_, rfl, ?_⟩; have ud := heap_alloc_new w (.cells vK 81 (0, 0)); have K5 : ∀ k, k < G * 4 → ((w.alloc (.cells vK 81)).drew.drew.cell? ⟨w.heap.size, k, none⟩) = vK[k]? := fun k hk => cell_of_row _ _ _ vK 81 (0, 0) ud
        obtain ⟨c1, h1, s1⟩ := lX vs (i * 4) (w := (w.alloc (.cells vK 81)).drew.drew) ud; obtain ⟨c2, h2, s2⟩ := lX (us.drop (i * 4)) ((i + 1) * 4) h1; obtain ⟨t1, t2, t3⟩ := Cf (w.alloc (.cells vK 81)).drew.drew w.heap.size (i * 4) vs ((i + 1) * 4) (us.drop (i * 4)) (fun j hj => by rw [K5 _ (by omega), Array.getElem?_eq_getElem (by omega)]; rfl) (fun j hj => by rw [K5 _ (by omega), Array.getElem?_eq_getElem (by omega)]; rfl) (.inl (by omega)); have zk := lY (b := w.heap.size) vs (i * 4) (w.alloc (.cells vK 81)).drew.drew; have zl := lY (b := w.heap.size) (us.drop (i * 4)) ((i + 1) * 4) ((w.alloc (.cells vK 81)).drew.drew.setCells w.heap.size (i * 4) vs); have XE : (w.alloc (.cells vK 81)).drew.drew.heap.size = w.heap.size + 1 := Array.size_push ..; have K4 : ((w.alloc (.cells vK 81)).drew.drew.setCells w.heap.size (i * 4) vs).heap.size = w.heap.size + 1 := zk.2.2.2.trans XE; refine wq (B := w.heap.size) (o := 0) (cp := G) (vs := us.take (i * 4) ++ (vs ++ us.drop (i * 4))) hH (.inl (Nat.le_refl _)) (fun k hk VL => ?_) ⟨zl.1.trans zk.1, zl.2.1.trans zk.2.1, zl.2.2.1.trans zk.2.2.1, by rw [zl.2.2.2, K4]; omega⟩ rfl
          (by rw [hlen]; exact ⟨_, G, rfl, r1, by omega, fun _ => by rw [Nat.zero_mul]⟩) (by rw [hlen]; exact r1) h2 (by rw [s2, s1, r2]; show 0 + G * 4 ≤ G * 4; omega)
          (fin _ _ _ (fun j v hj => ?_) (fun j v hj => by rw [Nat.zero_add]; exact t1 j v hj) (fun j v hj => by rw [Nat.zero_add]; exact t2 j v hj)) vO
        · rw [World.heap_setCells_other _ _ _ _ (by rw [K4]; omega) VL, World.heap_setCells_other (w.alloc (.cells vK 81)).drew.drew _ _ _ (by rw [XE]; omega) VL]; show (w.alloc _).heap[k]? = w.heap[k]?
          first | exact heap_alloc_old w _ k hk | exact heap_alloc_old w _ hk
        · have hjl : j < i * 4 := by rw [← XI]; exact (List.getElem?_eq_some_iff.1 hj).1
          rw [Nat.zero_add, t3 j (.inl hjl) (.inl (by omega)), K5 _ (by omega)]; exact r3 j v hj
theorem ET {T : la} (hT : gq Tryz.prog T) (hE : T.elem 38 = some (aC, 40)) {c : Cz} {w : World} {mu : Mu} (hH : Handed c w mu) {s x : List (ar aC)} {i : Int} {v0 v2 : Value} {l0 l2 : Loc} {y : (List mD) × Unit}
    (h0 : OwnAt c w (.cI 0 0) l0 { r := aC, own := true, xs := s } v0) (h2 : OwnAt c w (.cI 2 0) l2 { r := aC, own := true, xs := x } v2) (ht : ES s i x = some y) :
    Calls Tryz.prog 209 #[v0, .int .i64 i, v2] w fun e w' => ∃ v, e = .returned v ∧ ∃ c', HP w mu c' w' ∧ bI c' w' .jw 0 [.own { r := aC, own := true, xs := y.1 }] [v] := by
  unfold ES at ht; obtain ⟨hc, ht2⟩ := aI ht; injection ht2 with ht2; subst ht2; simp only [Bool.and_eq_true, decide_eq_true_eq] at hc; obtain ⟨c1, c2, c3, c4⟩ := hc; have hi : ((i.toNat : Nat) : Int) = i := Int.toNat_of_nonneg c1; have Sb : i.toNat ≤ s.length := Int.ofNat_le.1 (by rw [hi]; exact c2); have := By hT hE hH (s := s) (x := x) (i := i.toNat) h0 h2 Sb (Nat.eq_of_beq_eq_true c3) (Nat.le_of_ble_eq_true c4); rw [hi] at this; exact this
theorem De {T : la} (hT : gq Tryz.prog T) (hE : T.elem 38 = some (aC, 40)) : uX Tryz.prog 209 (sI [.val false [.own aC], .val false [.int .i64], .val false [.own aC]] [{ src := .tmp 0, agg := false, ps := [.own aC] }] (fun x => ES x.1 x.2.1 x.2.2.1)) := by
  refine F3 rfl rfl ⟨_, Tryz.func209, rfl, rfl⟩ (fun c w mu args x y hH hn hold ht => ?_); obtain ⟨s, i, v, u⟩ := x; have hn : 3 = args.size := hn; obtain ⟨v0, e0, h0⟩ := hold 0 _ rfl; obtain ⟨v1, e1, h1⟩ := hold 1 _ rfl; obtain ⟨v2, e2, h2⟩ := hold 2 _ rfl; have ha : args = #[v0, v1, v2] := by
    apply Array.toList_inj.1; have hl : args.toList.length = 3 := by rw [Array.length_toList]; exact hn.symm
    match hq : args.toList, hl with
    | [a, b, d], _ =>
      rw [hq] at e0 e1 e2; simp only [List.getElem?_cons_zero, List.getElem?_cons_succ, Option.some.injEq] at e0 e1 e2; rw [e0, e1, e2]
  subst ha; obtain ⟨z0, l0, LR, ⟨lc0, o0⟩, _⟩ := h0; injection LR with LR _; subst LR; obtain ⟨l1, Mn, _⟩ := h1; injection Mn with Mn _; subst Mn; obtain ⟨z2, l2, Mo, ⟨lc2, o2⟩, _⟩ := h2; injection Mo with Mo _; subst Mo; exact ET hT hE hH o0 o2 ht
noncomputable def K6 : vW := sI [vl [.own aC], vl [.int .i64], vl [.own aC]] [{ src := .tmp 0, agg := false, ps := [.own aC] }] (fun x => ES x.1 x.2.1 x.2.2.1)
theorem abu : uX Tryz.prog 209 K6 := De (rY NB) (by kernel_rfl)
def abv : KF Tryz.prog := ⟨209, (.own, .shr, .own), K6, abu⟩
def IQ : FC Tryz.prog := ⟨dO, [abv], dr 2 (.a 0 (.a 1 (.a 2 (.a 3 (.a 4 (.a 5 (.a 6 (.a 7 (.a 8 (.t 9 (.a 10 (.t 11 (.a 12 (.a 13 .nil)))))))))))))) (dr 4 (.a 0 (.a 1 (.a 2 (.a 3 (.a 4 (.a 5 (.a 6 (.a 7 (.a 8 (.t 9 (.a 10 (.t 11 (.a 12 (.a 13 .nil))))))))))))))), Tryz.f179, [vl [.own aC], va Bi]⟩
noncomputable def p5 (aV : ak) (xx Bt Bu : Int) (Bv : ByteArray) (Gg : Int) : Option (Sum TG (Sum TG Unit)) := bif decide (Gg < (aV.length : Int)) then bif decide (0 ≤ Gg) then bif Nat.blt (Gg.toNat) (List.length aV) then Option.bind ((aV)[Gg.toNat]?) fun r1 => bif decide (r1.1 < xx) then some (.inl (aV, xx, Bt, Bu, Bv, i64.wrap (Gg + 1), ())) else some (.inr (.inl (aV, xx, Bt, Bu, Bv, Gg, ()))) else none else none else some (.inr (.inl (aV, xx, Bt, Bu, Bv, Gg, ())))
noncomputable def iy (x : TG) : Option (Sum TG (Sum TG Unit)) := p5 x.1 x.2.1 x.2.2.1 x.2.2.2.1 x.2.2.2.2.1 x.2.2.2.2.2.1
def Qv : LD := ⟨0, IQ.lp 0, sp [(0, vl [.own aC]), (2, .box false Bi), (1, vl [.int .i64])] 37, sp [(0, vl [.own aC]), (2, .box false Bi), (1, vl [.int .i64])] 37, sp [] 43, iy⟩
theorem Qw : IQ.Ok Qv := IQ.mm fun x => by kernel_rfl
def Qx : IQ.KL := ⟨_, Qw⟩
noncomputable def qo (aV : ak) (Ga Gb Gc : Int) (Gd : ByteArray) : Option (ak × Unit) := cM (aD iy (aV, Ga, Gb, Gc, Gd, 0, ())) (fun y1 => bif decide (y1.2.2.2.2.2.1 < (y1.1.length : Int)) then bif decide (0 ≤ y1.2.2.2.2.2.1) then bif Nat.blt (y1.2.2.2.2.2.1.toNat) (List.length y1.1) then Option.bind ((y1.1)[y1.2.2.2.2.2.1.toNat]?) fun r3 => bif decide (r3.1 = y1.2.1) then some (y1.1, ()) else Option.bind (ES y1.1 y1.2.2.2.2.2.1 [(y1.2.1, y1.2.2.1, y1.2.2.2.1, y1.2.2.2.2.1, ())]) fun y4 => some (y4.1, ()) else none else none else Option.bind (ES y1.1 y1.2.2.2.2.2.1 [(y1.2.1, y1.2.2.1, y1.2.2.2.1, y1.2.2.2.2.1, ())]) fun y5 => some (y5.1, ())) (fun y2 => none)
theorem abw : IQ.Kn [⟨.tmp 4, false, [.own aC]⟩] 179 qo := IQ.kf [Qx] Tryz.func179 (by kernel_rfl) (by kernel_rfl) fun x => by kernel_rfl
def abx := kv (.own, .shr, .shr) abw
def Bz : FC Tryz.prog := ⟨MK, [P0, abx], fR, Tryz.f201, [vl EO]⟩
noncomputable def se (dY : ak) (t8 : fe) (t9 t10 : Int) (t17 : ak) (t18 t19 : Int) : Option (Sum Zr (Sum TH Unit)) := bif decide (t19 < t18) then bif decide (0 ≤ t19) then Option.bind ((t17)[t19.toNat]?) fun r3 => Option.bind (qo dY r3.1 r3.2.1 r3.2.2.1 r3.2.2.2.1) fun y4 => some (.inl (y4.1, t8, t9, t10, t17, t18, i64.wrap (t19 + 1), ())) else none else some (.inr (.inl (dY, t8, t9, t10, ())))
noncomputable def j5 (x : Zr) : Option (Sum Zr (Sum TH Unit)) := se x.1 x.2.1 x.2.2.1 x.2.2.2.1 x.2.2.2.2.1 x.2.2.2.2.2.1 x.2.2.2.2.2.2.1
def Qy : LD := ⟨2, CX (Bz.lp 0) 0, sp [(3, vl [.own aC]), (4, vl EO), (0, vl [.int .i64]), (0, vl [.int .i64]), (6, vl [.shr aC]), (0, vl [.int .i64]), (0, vl [.int .i64])] 10, sp [(3, vl [.own aC]), (4, vl EO), (0, vl [.int .i64]), (0, vl [.int .i64])] 19, sp [] 30, j5⟩
theorem Qz : Bz.Ok Qy := Bz.mm fun x => by kernel_rfl
def QA : Bz.KL := ⟨_, Qz⟩
noncomputable def sf (dY : ak) (t8 : fe) (t9 t10 : Int) : Option (Sum TH (Sum (ak × Unit) Unit)) := bif decide (t10 < t9) then bif decide (0 ≤ t10) then Option.bind ((t8)[t10.toNat]?) fun r1 => Option.bind (iI r1.1) fun y2 => bif !y2.1 then some (.inl (dY, t8, t9, i64.wrap (t10 + 1), ())) else cM (aD j5 (dY, t8, t9, t10, r1.1, (r1.1.length : Int), 0, ())) (fun y5 => some (.inl (y5.1, y5.2.1, y5.2.2.1, i64.wrap (y5.2.2.2.1 + 1), ()))) (fun y6 => some (.inr (.inr (())))) else none else some (.inr (.inl (dY, ())))
noncomputable def j6 (x : TH) : Option (Sum TH (Sum (ak × Unit) Unit)) := sf x.1 x.2.1 x.2.2.1 x.2.2.2.1
def QB : LD := ⟨0, Bz.lp 0, sp [(3, vl [.own aC]), (4, vl EO), (0, vl [.int .i64]), (0, vl [.int .i64])] 19, sp [(3, vl [.own aC])] 26, sp [] 30, j6⟩
theorem QC : Bz.Ok QB := Bz.kl [QA] (by kernel_rfl) (by kernel_rfl) fun x => by kernel_rfl
def QD : Bz.KL := ⟨_, QC⟩
noncomputable def tF (nG : fe) : Option (ak × Unit) := cM (aD j6 ([], nG, (nG.length : Int), 0, ())) (fun y1 => some (y1.1, ())) (fun y2 => none)
theorem aby : Bz.Kn [⟨.tmp 2, false, [.own aC]⟩] 201 tF := Bz.kf [QD] Tryz.func201 (by kernel_rfl) (by kernel_rfl) fun x => by kernel_rfl
def abz := kw aby
def IS : FC Tryz.prog := ⟨dO, [Vq], fR, Tryz.f200, [vl [.shr aC]]⟩
noncomputable def sg (Gf : Int) (MT t9 : ak) (t10 t11 : Int) : Option (Sum RM (Sum (ak × Unit) Unit)) := bif decide (t11 < t10) then bif decide (0 ≤ t11) then Option.bind ((t9)[t11.toNat]?) fun r2 => bif decide (r2.1 ≤ Gf) then bif Nat.ble (((List.length MT) + 1) * 40) lim then some (.inl (Gf, MT ++ [(r2.1, r2.2.1, r2.2.2.1, r2.2.2.2.1, ())], t9, t10, i64.wrap (t11 + 1), ())) else none else some (.inl (Gf, MT, t9, t10, i64.wrap (t11 + 1), ())) else none else some (.inr (.inl (MT, ())))
noncomputable def j7 (x : RM) : Option (Sum RM (Sum (ak × Unit) Unit)) := sg x.1 x.2.1 x.2.2.1 x.2.2.2.1 x.2.2.2.2.1
def QE : LD := ⟨0, IS.lp 0, sp [(3, vl [.int .i64]), (0, vl [.own aC]), (4, vl [.shr aC]), (0, vl [.int .i64]), (0, vl [.int .i64])] 14, sp [(4, vl [.own aC])] 21, sp [] 26, j7⟩
theorem QF : IS.Ok QE := IS.mm fun x => by kernel_rfl
def QG : IS.KL := ⟨_, QF⟩
noncomputable def tG (aV : ak) : Option (ak × Unit) := Option.bind (mH aV) fun y1 => cM (aD j7 (y1.1, [], aV, (aV.length : Int), 0, ())) (fun y2 => some (y2.1, ())) (fun y3 => none)
theorem abA : IS.Kn [⟨.tmp 2, false, [.own aC]⟩] 200 tG := IS.kf [QG] Tryz.func200 (by kernel_rfl) (by kernel_rfl) fun x => by kernel_rfl
def abB := kw abA
def BA : FC Tryz.prog := ⟨MK, [Qk, VF, abz, abB], fR, Tryz.f162, [va wu, vl vB, vl [.int .i64], vl [.int .i64]]⟩
noncomputable def tH (bB : af) (jk Db : Int) (Dc : aG) (Df : fe) (t36 : aG) (t37 t38 : Int) : Option (Sum Zs (Sum (Int × fe × Unit) Unit)) := bif decide (t38 < t37) then bif decide (0 ≤ t38) then bif Nat.blt (t38.toNat) (List.length t36) then Option.bind ((t36)[t38.toNat]?) fun r3 => Option.bind (gO Db Dc bB r3.1) fun y4 => bif Nat.ble (((List.length Df) + 1) * 24) lim then some (.inl (bB, jk, Db, Dc, Df ++ [(y4.2.2.2.1, ())], t36, t37, i64.wrap (t38 + 1), ())) else none else none else none else some (.inr (.inl (jk, Df, ())))
noncomputable def lx (x : Zs) : Option (Sum Zs (Sum (Int × fe × Unit) Unit)) := tH x.1 x.2.1 x.2.2.1 x.2.2.2.1 x.2.2.2.2.1 x.2.2.2.2.2.1 x.2.2.2.2.2.2.1 x.2.2.2.2.2.2.2.1
def QH : LD := ⟨0, BA.lp 0, sp [(1, vl vB), (1, vl [.int .i64]), (0, .box false wu), (6, vl MJ), (24, vl [.own im]), (0, vl [.int .i64]), (0, vl [.int .i64])] 35, sp [(3, vl [.int .i64]), (7, vl MJ)] 62, sp [] 74, lx⟩
theorem QI : BA.Ok QH := BA.mm fun x => by kernel_rfl
def QJ : BA.KL := ⟨_, QI⟩
noncomputable def tI (jk : Int) (Hj t57 : ak) (t58 t59 : Int) : Option (Sum RM (Sum (ak × Unit) Unit)) := bif decide (t59 < t58) then bif decide (0 ≤ t59) then bif Nat.blt (t59.toNat) (List.length t57) then Option.bind ((t57)[t59.toNat]?) fun r9 => bif decide (jk < r9.1) then bif Nat.ble (((List.length Hj) + 1) * 40) lim then some (.inl (jk, Hj ++ [(r9.1, r9.2.1, r9.2.2.1, r9.2.2.2.1, ())], t57, t58, i64.wrap (t59 + 1), ())) else none else some (.inl (jk, Hj, t57, t58, i64.wrap (t59 + 1), ())) else none else none else some (.inr (.inl (Hj, ())))
noncomputable def ly (x : RM) : Option (Sum RM (Sum (ak × Unit) Unit)) := tI x.1 x.2.1 x.2.2.1 x.2.2.2.1 x.2.2.2.2.1
def QK : LD := ⟨2, BA.lp 1, sp [(3, vl [.int .i64]), (12, vl [.own aC]), (40, vl [.own aC]), (0, vl [.int .i64]), (0, vl [.int .i64])] 14, sp [(16, vl [.own aC])] 57, sp [] 74, ly⟩
theorem QL : BA.Ok QK := BA.mm fun x => by kernel_rfl
def QM : BA.KL := ⟨_, QL⟩
noncomputable def qD (aX : Int) (aY : aG) (bB : af) (pR jk : Int) : Option (ak × Unit) := Option.bind (gO aX aY bB pR) fun y1 => bif !y1.2.2.2.2.1 then some ([], ()) else bif decide (y1.2.2.1 = 0) then some ([], ()) else Option.bind (fY aX aY bB pR) fun y2 => cM (aD lx (bB, jk, aX, aY, [], y2.1, (y2.1.length : Int), 0, ())) (fun y3 => Option.bind (tF y3.2.1) fun y5 => Option.bind (tG y5.1) fun y6 => cM (aD ly (y3.1, [], y6.1, (y6.1.length : Int), 0, ())) (fun y7 => some (y7.1, ())) (fun y8 => none)) (fun y4 => none)
theorem abC : BA.Kn [⟨.tmp 8, false, [.own aC]⟩] 162 qD := BA.kf [QJ, QM] Tryz.func162 (by kernel_rfl) (by kernel_rfl) fun x => by kernel_rfl
def abD := kw abC
def VM : FC Tryz.prog := ⟨dO, [XD, K79, R6], fR, Tryz.f163, [vl [.int .i64], va wu]⟩
noncomputable def gI (NF xw : Int) (pI : aG) : Option (U8) := Option.bind (dg pI NF) fun y1 => bif !y1.1 then some (0, 0, [], [], [], [], 0, 0, 0, 0, 0, 0, 0, 0, 0, [], false, ()) else Option.bind (iJ xw pI) fun y2 => bif !y2.1 then some (0, 0, [], [], [], [], 0, 0, 0, 0, 0, 0, 0, 0, 0, [], false, ()) else Option.bind (cj xw pI) fun y3 => some (NF, y3.1, y3.2.1, [], [], [], 0, 0, 0, 0, 0, 0, 0, 0, 0, [], true, ())
theorem abE : VM.Kn [⟨.cell 4, true, Ih⟩, ⟨.tmp 5, false, [.bool]⟩] 163 gI := VM.mn Tryz.func163 fun x => by kernel_rfl
def abF := kw abE
def VN : FC Tryz.prog := ⟨dO, [VF, R6, abD, MQ, K0, abF], dr 0 (.a 0 (.a 1 (.a 2 (.a 3 (.t 4 (.a 5 (.a 6 (.a 7 (.alt (.o 8 (.alt (.o 9 (.o 10 (.l 11 (.l 12 .nil)))) (.o 10 (.o 9 (.l 11 (.l 12 .nil)))))) (.alt (.o 9 (.alt (.o 8 (.o 10 (.l 11 (.l 12 .nil)))) (.o 10 (.alt (.o 8 (.l 11 (.l 12 .nil))) (.l 11 (.t 8 (.l 12 .nil))))))) (.o 10 (.alt (.o 8 (.o 9 (.l 11 (.l 12 .nil)))) (.o 9 (.alt (.o 8 (.l 11 (.l 12 .nil))) (.l 11 (.t 8 (.l 12 .nil))))))))))))))))) (dr 2 (.t 0 (.a 1 (.a 2 (.a 3 (.t 4 (.a 5 (.a 6 (.a 7 (.t 8 (.o 9 (.a 10 .nil))))))))))) (dr 3 (.a 0 (.a 1 (.a 2 (.a 3 (.t 4 (.t 5 (.a 7 (.o 6 (.a 8 (.o 9 (.l 10 (.a 11 (.a 12 (.l 13 .nil)))))))))))))) (dr 4 (.a 0 (.t 1 (.a 2 (.a 3 (.a 4 (.t 5 (.a 6 (.a 7 (.a 8 (.t 9 (.a 10 (.a 11 (.a 12 (.a 13 (.t 14 (.o 15 (.l 16 .nil))))))))))))))))) (dr 5 (.a 0 (.a 1 (.a 2 (.a 3 (.t 4 (.t 5 (.a 7 (.t 8 (.o 6 (.o 9 (.a 10 (.o 11 (.l 12 (.a 13 (.a 14 (.l 15 .nil)))))))))))))))) (dr 6 (.a 0 (.a 1 (.a 2 (.t 3 (.t 4 (.alt (.o 5 (.a 6 (.a 7 (.a 8 (.o 9 (.l 10 (.a 11 .nil))))))) (.o 9 (.o 5 (.a 6 (.a 7 (.a 8 (.l 10 (.a 11 .nil))))))))))))) (dr 7 (.a 0 (.a 1 (.a 2 (.a 3 (.t 4 (.a 5 (.a 6 (.a 7 (.a 8 (.a 10 (.alt (.o 9 (.l 11 (.a 12 (.l 13 .nil)))) (.l 11 (.t 9 (.a 12 (.l 13 .nil))))))))))))))) (dr 8 (.a 0 (.a 1 (.t 2 (.a 3 (.a 5 (.a 6 (.alt (.o 4 (.l 7 (.a 8 (.a 9 (.l 10 .nil))))) (.l 7 (.t 4 (.a 8 (.a 9 (.l 10 .nil))))))))))))))))))), Tryz.f84, [.box true EN]⟩
noncomputable def cQ (cJ : Int) (dI : Bool) (dj cO : Int) (cS : aG) (di : ak) (cT : aG) (cU : hZ) (dx dy bT bL bU bV bW bX bY : Int) (bG : aG) (bo bk aO : Int) (aJ : aG) (ba : af) (bp : ah) : Option (ae) := bif decide (0 < bk) then Option.bind (fY aO aJ ba cJ) fun y1 => Option.bind (cj cO cS) fun y2 => bif Nat.ble (((List.length bp) + 1) * 104) lim then Option.bind (qD aO aJ ba cJ bL) fun y3 => Option.bind (gY cJ dI dj cO cS di cT cU dx dy bT bL bU bV bW bX bY bG bo bk aO aJ ba (bp ++ [(2, y2.1, y2.2.1, 0, 0, 0, ByteArray.empty, y1.1, ())]) y3.1) fun y4 => Option.bind (cj aO aJ) fun y5 => Option.bind (cR aJ) fun y6 => bif Nat.ble (((List.length y4.2.2.2.2.2.2.2.2.2.2.2.2.2.2.2.2.2.2.2.2.2.2.2.1) + 1) * 104) lim then Option.bind (gI y4.1 aO aJ) fun lL => some (y4.1, y4.2.1, lL.1, lL.2.1, lL.2.2.1, lL.2.2.2.1, y4.2.2.2.2.2.2.1, y4.2.2.2.2.2.2.2.1, lL.2.2.2.2.2.2.1, lL.2.2.2.2.2.2.2.1, lL.2.2.2.2.2.2.2.2.1, lL.2.2.2.2.2.2.2.2.2.1, lL.2.2.2.2.2.2.2.2.2.2.1, lL.2.2.2.2.2.2.2.2.2.2.2.1, lL.2.2.2.2.2.2.2.2.2.2.2.2.1, lL.2.2.2.2.2.2.2.2.2.2.2.2.2.1, lL.2.2.2.2.2.2.2.2.2.2.2.2.2.2.1, lL.2.2.2.2.2.2.2.2.2.2.2.2.2.2.2.1, y4.2.2.2.2.2.2.2.2.2.2.2.2.2.2.2.2.2.2.1, aO, 0, [], [], y4.2.2.2.2.2.2.2.2.2.2.2.2.2.2.2.2.2.2.2.2.2.2.2.1 ++ [(3, y5.1, y5.2.1, 0, 0, 0, ByteArray.empty, y6.1, ())], ()) else none else none else Option.bind (cj aO aJ) fun y8 => Option.bind (cR aJ) fun y9 => bif Nat.ble (((List.length bp) + 1) * 104) lim then Option.bind (gI cJ aO aJ) fun lM => some (cJ, dI, lM.1, lM.2.1, lM.2.2.1, lM.2.2.2.1, cT, cU, lM.2.2.2.2.2.2.1, lM.2.2.2.2.2.2.2.1, lM.2.2.2.2.2.2.2.2.1, lM.2.2.2.2.2.2.2.2.2.1, lM.2.2.2.2.2.2.2.2.2.2.1, lM.2.2.2.2.2.2.2.2.2.2.2.1, lM.2.2.2.2.2.2.2.2.2.2.2.2.1, lM.2.2.2.2.2.2.2.2.2.2.2.2.2.1, lM.2.2.2.2.2.2.2.2.2.2.2.2.2.2.1, lM.2.2.2.2.2.2.2.2.2.2.2.2.2.2.2.1, bo, aO, 0, [], [], bp ++ [(3, y8.1, y8.2.1, 0, 0, 0, ByteArray.empty, y9.1, ())], ()) else none
noncomputable def ka (cJ : Int) (dI : Bool) (dj cO : Int) (cS : aG) (di : ak) (cT : aG) (cU : hZ) (dx dy bT bL bU bV bW bX bY : Int) (bG : aG) (bo bk aO : Int) (aJ : aG) (ba : af) (bp : ah) : Option (ae) := (fun LZ : Option (ae) => both (both (LZ) (LZ)) (both (both (LZ) (both (LZ) (LZ))) (both (LZ) (both (LZ) (LZ))))) (bif decide (0 < bk) then Option.bind (fY aO aJ ba cJ) fun y1 => Option.bind (cj cO cS) fun y2 => bif Nat.ble (((List.length bp) + 1) * 104) lim then Option.bind (qD aO aJ ba cJ bL) fun y3 => Option.bind (gY cJ dI dj cO cS di cT cU dx dy bT bL bU bV bW bX bY bG bo bk aO aJ ba (bp ++ [(2, y2.1, y2.2.1, 0, 0, 0, ByteArray.empty, y1.1, ())]) y3.1) fun y4 => Option.bind (cj aO aJ) fun y5 => Option.bind (cR aJ) fun y6 => bif Nat.ble (((List.length y4.2.2.2.2.2.2.2.2.2.2.2.2.2.2.2.2.2.2.2.2.2.2.2.1) + 1) * 104) lim then (fun VO : (U8) → Option (ae) => both (Option.bind (gI y4.1 aO aJ) fun lL => VO lL) (Option.bind (gI y4.1 aO aJ) fun lL => VO lL)) (fun lL => (fun XJ : Option (ae) => both (XJ) (XJ)) ((fun Xw : Option (ae) => both (Xw) (Xw)) (some (y4.1, y4.2.1, lL.1, lL.2.1, lL.2.2.1, lL.2.2.2.1, y4.2.2.2.2.2.2.1, y4.2.2.2.2.2.2.2.1, lL.2.2.2.2.2.2.1, lL.2.2.2.2.2.2.2.1, lL.2.2.2.2.2.2.2.2.1, lL.2.2.2.2.2.2.2.2.2.1, lL.2.2.2.2.2.2.2.2.2.2.1, lL.2.2.2.2.2.2.2.2.2.2.2.1, lL.2.2.2.2.2.2.2.2.2.2.2.2.1, lL.2.2.2.2.2.2.2.2.2.2.2.2.2.1, lL.2.2.2.2.2.2.2.2.2.2.2.2.2.2.1, lL.2.2.2.2.2.2.2.2.2.2.2.2.2.2.2.1, y4.2.2.2.2.2.2.2.2.2.2.2.2.2.2.2.2.2.2.1, aO, 0, [], [], y4.2.2.2.2.2.2.2.2.2.2.2.2.2.2.2.2.2.2.2.2.2.2.2.1 ++ [(3, y5.1, y5.2.1, 0, 0, 0, ByteArray.empty, y6.1, ())], ())))) else none else none else Option.bind (cj aO aJ) fun y8 => Option.bind (cR aJ) fun y9 => bif Nat.ble (((List.length bp) + 1) * 104) lim then (fun K32 : (U8) → Option (ae) => both (Option.bind (gI cJ aO aJ) fun lM => K32 lM) (Option.bind (gI cJ aO aJ) fun lM => K32 lM)) (fun lM => (fun Xy : Option (ae) => both (Xy) (Xy)) ((fun K34 : Option (ae) => both (K34) (K34)) (some (cJ, dI, lM.1, lM.2.1, lM.2.2.1, lM.2.2.2.1, cT, cU, lM.2.2.2.2.2.2.1, lM.2.2.2.2.2.2.2.1, lM.2.2.2.2.2.2.2.2.1, lM.2.2.2.2.2.2.2.2.2.1, lM.2.2.2.2.2.2.2.2.2.2.1, lM.2.2.2.2.2.2.2.2.2.2.2.1, lM.2.2.2.2.2.2.2.2.2.2.2.2.1, lM.2.2.2.2.2.2.2.2.2.2.2.2.2.1, lM.2.2.2.2.2.2.2.2.2.2.2.2.2.2.1, lM.2.2.2.2.2.2.2.2.2.2.2.2.2.2.2.1, bo, aO, 0, [], [], bp ++ [(3, y8.1, y8.2.1, 0, 0, 0, ByteArray.empty, y9.1, ())], ())))) else none)
theorem si : ka = cQ := by delta ka cQ; simp only [mK]
noncomputable def oh (x : ae) : Option (ae) := xN (aE (VN.ps.map some)) ka x
theorem sj : oh = xN (aE (VN.ps.map some)) cQ := congrArg (xN (aE (VN.ps.map some))) si
theorem k84 : VN.Kn [] 84 cQ := VN.Xu Tryz.func84 (by kernel_rfl) fun x => Eq.trans (b := oh x) (by kernel_rfl) (congrFun sj x)
def K84 := kw k84
def F28 : FC Tryz.prog := ⟨dO, [K80, XC, K57, Qk, K83, abf, K84], dr 7 (.a 0 (.t 1 (.t 2 (.o 3 (.o 4 (.l 5 (.a 6 (.l 7 .nil)))))))), Tryz.f28, [va EL, va DI]⟩
noncomputable def eV (cJ : Int) (dI : Bool) (dj cO : Int) (cS : aG) (di : ak) (cT : aG) (cU : hZ) (dx dy bT bL bU bV bW bX bY : Int) (bG : aG) (bo bk aO : Int) (aJ : aG) (ba : af) (bp : ah) (n7 n8 qk : Int) (oR : ak) : Option (MA) := Option.bind (mo cJ dI dj cO cS di cT cU dx dy bT bL bU bV bW bX bY bG bo bk aO aJ ba bp) fun y1 => bif decide (aO = 0) then some (y1.1, y1.2.1, y1.2.2.1, y1.2.2.2.1, y1.2.2.2.2.1, y1.2.2.2.2.2.1, y1.2.2.2.2.2.2.1, y1.2.2.2.2.2.2.2.1, y1.2.2.2.2.2.2.2.2.1, y1.2.2.2.2.2.2.2.2.2.1, y1.2.2.2.2.2.2.2.2.2.2.1, y1.2.2.2.2.2.2.2.2.2.2.2.1, y1.2.2.2.2.2.2.2.2.2.2.2.2.1, y1.2.2.2.2.2.2.2.2.2.2.2.2.2.1, y1.2.2.2.2.2.2.2.2.2.2.2.2.2.2.1, y1.2.2.2.2.2.2.2.2.2.2.2.2.2.2.2.1, y1.2.2.2.2.2.2.2.2.2.2.2.2.2.2.2.2.1, y1.2.2.2.2.2.2.2.2.2.2.2.2.2.2.2.2.2.1, y1.2.2.2.2.2.2.2.2.2.2.2.2.2.2.2.2.2.2.1, y1.2.2.2.2.2.2.2.2.2.2.2.2.2.2.2.2.2.2.2.1, y1.2.2.2.2.2.2.2.2.2.2.2.2.2.2.2.2.2.2.2.2.1, y1.2.2.2.2.2.2.2.2.2.2.2.2.2.2.2.2.2.2.2.2.2.1, y1.2.2.2.2.2.2.2.2.2.2.2.2.2.2.2.2.2.2.2.2.2.2.1, y1.2.2.2.2.2.2.2.2.2.2.2.2.2.2.2.2.2.2.2.2.2.2.2.1, false, ()) else bif !decide (n8 = aO) then some (y1.1, y1.2.1, y1.2.2.1, y1.2.2.2.1, y1.2.2.2.2.1, y1.2.2.2.2.2.1, y1.2.2.2.2.2.2.1, y1.2.2.2.2.2.2.2.1, y1.2.2.2.2.2.2.2.2.1, y1.2.2.2.2.2.2.2.2.2.1, y1.2.2.2.2.2.2.2.2.2.2.1, y1.2.2.2.2.2.2.2.2.2.2.2.1, y1.2.2.2.2.2.2.2.2.2.2.2.2.1, y1.2.2.2.2.2.2.2.2.2.2.2.2.2.1, y1.2.2.2.2.2.2.2.2.2.2.2.2.2.2.1, y1.2.2.2.2.2.2.2.2.2.2.2.2.2.2.2.1, y1.2.2.2.2.2.2.2.2.2.2.2.2.2.2.2.2.1, y1.2.2.2.2.2.2.2.2.2.2.2.2.2.2.2.2.2.1, y1.2.2.2.2.2.2.2.2.2.2.2.2.2.2.2.2.2.2.1, y1.2.2.2.2.2.2.2.2.2.2.2.2.2.2.2.2.2.2.2.1, y1.2.2.2.2.2.2.2.2.2.2.2.2.2.2.2.2.2.2.2.2.1, y1.2.2.2.2.2.2.2.2.2.2.2.2.2.2.2.2.2.2.2.2.2.1, y1.2.2.2.2.2.2.2.2.2.2.2.2.2.2.2.2.2.2.2.2.2.2.1, y1.2.2.2.2.2.2.2.2.2.2.2.2.2.2.2.2.2.2.2.2.2.2.2.1, false, ()) else Option.bind (gN n7 n8 qk oR) fun y2 => bif !y2.1 then some (y1.1, y1.2.1, y1.2.2.1, y1.2.2.2.1, y1.2.2.2.2.1, y1.2.2.2.2.2.1, y1.2.2.2.2.2.2.1, y1.2.2.2.2.2.2.2.1, y1.2.2.2.2.2.2.2.2.1, y1.2.2.2.2.2.2.2.2.2.1, y1.2.2.2.2.2.2.2.2.2.2.1, y1.2.2.2.2.2.2.2.2.2.2.2.1, y1.2.2.2.2.2.2.2.2.2.2.2.2.1, y1.2.2.2.2.2.2.2.2.2.2.2.2.2.1, y1.2.2.2.2.2.2.2.2.2.2.2.2.2.2.1, y1.2.2.2.2.2.2.2.2.2.2.2.2.2.2.2.1, y1.2.2.2.2.2.2.2.2.2.2.2.2.2.2.2.2.1, y1.2.2.2.2.2.2.2.2.2.2.2.2.2.2.2.2.2.1, y1.2.2.2.2.2.2.2.2.2.2.2.2.2.2.2.2.2.2.1, y1.2.2.2.2.2.2.2.2.2.2.2.2.2.2.2.2.2.2.2.1, y1.2.2.2.2.2.2.2.2.2.2.2.2.2.2.2.2.2.2.2.2.1, y1.2.2.2.2.2.2.2.2.2.2.2.2.2.2.2.2.2.2.2.2.2.1, y1.2.2.2.2.2.2.2.2.2.2.2.2.2.2.2.2.2.2.2.2.2.2.1, y1.2.2.2.2.2.2.2.2.2.2.2.2.2.2.2.2.2.2.2.2.2.2.2.1, false, ()) else Option.bind (mb cJ dI dj cO cS di cT cU dx dy bT bL bU bV bW bX bY bG bo bk aO aJ ba bp) fun y3 => bif !y3.1 then some (y1.1, y1.2.1, y1.2.2.1, y1.2.2.2.1, y1.2.2.2.2.1, y1.2.2.2.2.2.1, y1.2.2.2.2.2.2.1, y1.2.2.2.2.2.2.2.1, y1.2.2.2.2.2.2.2.2.1, y1.2.2.2.2.2.2.2.2.2.1, y1.2.2.2.2.2.2.2.2.2.2.1, y1.2.2.2.2.2.2.2.2.2.2.2.1, y1.2.2.2.2.2.2.2.2.2.2.2.2.1, y1.2.2.2.2.2.2.2.2.2.2.2.2.2.1, y1.2.2.2.2.2.2.2.2.2.2.2.2.2.2.1, y1.2.2.2.2.2.2.2.2.2.2.2.2.2.2.2.1, y1.2.2.2.2.2.2.2.2.2.2.2.2.2.2.2.2.1, y1.2.2.2.2.2.2.2.2.2.2.2.2.2.2.2.2.2.1, y1.2.2.2.2.2.2.2.2.2.2.2.2.2.2.2.2.2.2.1, y1.2.2.2.2.2.2.2.2.2.2.2.2.2.2.2.2.2.2.2.1, y1.2.2.2.2.2.2.2.2.2.2.2.2.2.2.2.2.2.2.2.2.1, y1.2.2.2.2.2.2.2.2.2.2.2.2.2.2.2.2.2.2.2.2.2.1, y1.2.2.2.2.2.2.2.2.2.2.2.2.2.2.2.2.2.2.2.2.2.2.1, y1.2.2.2.2.2.2.2.2.2.2.2.2.2.2.2.2.2.2.2.2.2.2.2.1, false, ()) else Option.bind (gO aO aJ ba n7) fun y4 => bif y4.2.2.2.2.1 then some (y1.1, y1.2.1, y1.2.2.1, y1.2.2.2.1, y1.2.2.2.2.1, y1.2.2.2.2.2.1, y1.2.2.2.2.2.2.1, y1.2.2.2.2.2.2.2.1, y1.2.2.2.2.2.2.2.2.1, y1.2.2.2.2.2.2.2.2.2.1, y1.2.2.2.2.2.2.2.2.2.2.1, y1.2.2.2.2.2.2.2.2.2.2.2.1, y1.2.2.2.2.2.2.2.2.2.2.2.2.1, y1.2.2.2.2.2.2.2.2.2.2.2.2.2.1, y1.2.2.2.2.2.2.2.2.2.2.2.2.2.2.1, y1.2.2.2.2.2.2.2.2.2.2.2.2.2.2.2.1, y1.2.2.2.2.2.2.2.2.2.2.2.2.2.2.2.2.1, y1.2.2.2.2.2.2.2.2.2.2.2.2.2.2.2.2.2.1, y1.2.2.2.2.2.2.2.2.2.2.2.2.2.2.2.2.2.2.1, y1.2.2.2.2.2.2.2.2.2.2.2.2.2.2.2.2.2.2.2.1, y1.2.2.2.2.2.2.2.2.2.2.2.2.2.2.2.2.2.2.2.2.1, y1.2.2.2.2.2.2.2.2.2.2.2.2.2.2.2.2.2.2.2.2.2.1, y1.2.2.2.2.2.2.2.2.2.2.2.2.2.2.2.2.2.2.2.2.2.2.1, y1.2.2.2.2.2.2.2.2.2.2.2.2.2.2.2.2.2.2.2.2.2.2.2.1, false, ()) else Option.bind (jV n7 n8 qk oR) fun y5 => bif Nat.ble (((List.length y1.2.2.2.2.2.2.2.2.2.2.2.2.2.2.2.2.2.2.2.2.2.2.1) + 1) * 48) lim then Option.bind (nM y1.2.2.2.2.2.2.2.2.2.2.2.2.2.2.2.2.2.2.2.2.1 y1.2.2.2.2.2.2.2.2.2.2.2.2.2.2.2.2.2.2.2.2.2.1 (y1.2.2.2.2.2.2.2.2.2.2.2.2.2.2.2.2.2.2.2.2.2.2.1 ++ [(y5.1, y5.2.1, y5.2.2.1, y5.2.2.2.1, ())])) fun y6 => bif y6.1 then Option.bind (cQ y1.1 y1.2.1 y1.2.2.1 y1.2.2.2.1 y1.2.2.2.2.1 y1.2.2.2.2.2.1 y1.2.2.2.2.2.2.1 y1.2.2.2.2.2.2.2.1 y1.2.2.2.2.2.2.2.2.1 y1.2.2.2.2.2.2.2.2.2.1 y1.2.2.2.2.2.2.2.2.2.2.1 y1.2.2.2.2.2.2.2.2.2.2.2.1 y1.2.2.2.2.2.2.2.2.2.2.2.2.1 y1.2.2.2.2.2.2.2.2.2.2.2.2.2.1 y1.2.2.2.2.2.2.2.2.2.2.2.2.2.2.1 y1.2.2.2.2.2.2.2.2.2.2.2.2.2.2.2.1 y1.2.2.2.2.2.2.2.2.2.2.2.2.2.2.2.2.1 y1.2.2.2.2.2.2.2.2.2.2.2.2.2.2.2.2.2.1 y1.2.2.2.2.2.2.2.2.2.2.2.2.2.2.2.2.2.2.1 y1.2.2.2.2.2.2.2.2.2.2.2.2.2.2.2.2.2.2.2.1 y1.2.2.2.2.2.2.2.2.2.2.2.2.2.2.2.2.2.2.2.2.1 y1.2.2.2.2.2.2.2.2.2.2.2.2.2.2.2.2.2.2.2.2.2.1 (y1.2.2.2.2.2.2.2.2.2.2.2.2.2.2.2.2.2.2.2.2.2.2.1 ++ [(y5.1, y5.2.1, y5.2.2.1, y5.2.2.2.1, ())]) y1.2.2.2.2.2.2.2.2.2.2.2.2.2.2.2.2.2.2.2.2.2.2.2.1) fun y7 => some (y7.1, y7.2.1, y7.2.2.1, y7.2.2.2.1, y7.2.2.2.2.1, y7.2.2.2.2.2.1, y7.2.2.2.2.2.2.1, y7.2.2.2.2.2.2.2.1, y7.2.2.2.2.2.2.2.2.1, y7.2.2.2.2.2.2.2.2.2.1, y7.2.2.2.2.2.2.2.2.2.2.1, y7.2.2.2.2.2.2.2.2.2.2.2.1, y7.2.2.2.2.2.2.2.2.2.2.2.2.1, y7.2.2.2.2.2.2.2.2.2.2.2.2.2.1, y7.2.2.2.2.2.2.2.2.2.2.2.2.2.2.1, y7.2.2.2.2.2.2.2.2.2.2.2.2.2.2.2.1, y7.2.2.2.2.2.2.2.2.2.2.2.2.2.2.2.2.1, y7.2.2.2.2.2.2.2.2.2.2.2.2.2.2.2.2.2.1, y7.2.2.2.2.2.2.2.2.2.2.2.2.2.2.2.2.2.2.1, y7.2.2.2.2.2.2.2.2.2.2.2.2.2.2.2.2.2.2.2.1, y7.2.2.2.2.2.2.2.2.2.2.2.2.2.2.2.2.2.2.2.2.1, y7.2.2.2.2.2.2.2.2.2.2.2.2.2.2.2.2.2.2.2.2.2.1, y7.2.2.2.2.2.2.2.2.2.2.2.2.2.2.2.2.2.2.2.2.2.2.1, y7.2.2.2.2.2.2.2.2.2.2.2.2.2.2.2.2.2.2.2.2.2.2.2.1, true, ()) else some (y1.1, y1.2.1, y1.2.2.1, y1.2.2.2.1, y1.2.2.2.2.1, y1.2.2.2.2.2.1, y1.2.2.2.2.2.2.1, y1.2.2.2.2.2.2.2.1, y1.2.2.2.2.2.2.2.2.1, y1.2.2.2.2.2.2.2.2.2.1, y1.2.2.2.2.2.2.2.2.2.2.1, y1.2.2.2.2.2.2.2.2.2.2.2.1, y1.2.2.2.2.2.2.2.2.2.2.2.2.1, y1.2.2.2.2.2.2.2.2.2.2.2.2.2.1, y1.2.2.2.2.2.2.2.2.2.2.2.2.2.2.1, y1.2.2.2.2.2.2.2.2.2.2.2.2.2.2.2.1, y1.2.2.2.2.2.2.2.2.2.2.2.2.2.2.2.2.1, y1.2.2.2.2.2.2.2.2.2.2.2.2.2.2.2.2.2.1, y1.2.2.2.2.2.2.2.2.2.2.2.2.2.2.2.2.2.2.1, y1.2.2.2.2.2.2.2.2.2.2.2.2.2.2.2.2.2.2.2.1, y1.2.2.2.2.2.2.2.2.2.2.2.2.2.2.2.2.2.2.2.2.1, y1.2.2.2.2.2.2.2.2.2.2.2.2.2.2.2.2.2.2.2.2.2.1, y1.2.2.2.2.2.2.2.2.2.2.2.2.2.2.2.2.2.2.2.2.2.2.1 ++ [(y5.1, y5.2.1, y5.2.2.1, y5.2.2.2.1, ())], y1.2.2.2.2.2.2.2.2.2.2.2.2.2.2.2.2.2.2.2.2.2.2.2.1, true, ()) else none
theorem k28 : F28.Kn [⟨.cell 4, true, EN⟩, ⟨.tmp 5, false, [.bool]⟩] 28 eV := F28.mn Tryz.func28 fun x => by kernel_rfl
def LZ := kw k28
def Sc : FC Tryz.prog := ⟨dO, [], dr 6 (.a 0 (.a 1 (.a 2 (.t 3 (.a 4 (.a 5 (.a 6 (.t 7 (.a 8 .nil))))))))), Tryz.f87, [vl [.shr im], vl [.shr im]]⟩
noncomputable def q7 (a0 b1 : aG) (i5 : Int) : Option (Sum MD (Sum Unit (Bool × Unit))) := bif decide (i5 < (a0.length : Int)) then bif decide (0 ≤ i5) then Option.bind ((a0)[i5.toNat]?) fun r1 => bif decide (0 ≤ i5) then Option.bind ((b1)[i5.toNat]?) fun r2 => bif !decide (r1.1 = r2.1) then some (.inr (.inr (false, ()))) else some (.inl (a0, b1, i64.wrap (i5 + 1), ())) else none else none else some (.inr (.inl (())))
noncomputable def jo (x : MD) : Option (Sum MD (Sum Unit (Bool × Unit))) := q7 x.1 x.2.1 x.2.2.1
def VP : LD := ⟨0, Sc.lp 0, sp [(0, vl [.shr im]), (0, vl [.shr im]), (3, vl [.int .i64])] 21, sp [] 27, sp [(4, vl [.bool])] 22, jo⟩
theorem VQ : Sc.Ok VP := Sc.mm fun x => by kernel_rfl
def VR : Sc.KL := ⟨_, VQ⟩
noncomputable def kX (a0 b1 : aG) : Option (Bool × Unit) := bif !decide ((a0.length : Int) = (b1.length : Int)) then some (false, ()) else cM (aD jo (a0, b1, 0, ())) (fun y1 => some (true, ())) (fun y2 => some (y2.1, ()))
theorem k87 : Sc.Kn [⟨.tmp 4, false, [.bool]⟩] 87 kX := Sc.kf [VR] Tryz.func87 (by kernel_rfl) (by kernel_rfl) fun x => by kernel_rfl
def XK := kw k87
def F19 : FC Tryz.prog := ⟨dO, [XK], fR, Tryz.f19, [va wu, va wu]⟩
noncomputable def mV (aU : Int) (aM : aG) (n7 : Int) (n8 : aG) : Option (Bool × Unit) := bif !decide (aU = n7) then some (false, ()) else Option.bind (kX aM n8) fun y1 => bif !y1.1 then some (false, ()) else some (true, ())
theorem k19 : F19.Kn [⟨.tmp 4, false, [.bool]⟩] 19 mV := F19.mn Tryz.func19 fun x => by kernel_rfl
def R4 := kw k19
def VS : FC Tryz.prog := ⟨dO, [], fR, Tryz.f105, [va Bi, va Bi]⟩
noncomputable def pK (aU aM aN : Int) (aH : ByteArray) (n7 n8 qk : Int) (oR : ByteArray) : Option (Bool × Unit) := bif !decide (aU = n7) then some (false, ()) else bif !decide (aM = n8) then some (false, ()) else bif !decide (aN = qk) then some (false, ()) else bif !pC aH oR then some (false, ()) else some (true, ())
theorem abG : VS.Kn [⟨.tmp 4, false, [.bool]⟩] 105 pK := VS.mn Tryz.func105 fun x => by kernel_rfl
def VT := kw abG
def Sd : FC Tryz.prog := ⟨dO, [VT], dr 6 (.a 0 (.a 1 (.a 2 (.t 3 (.a 4 (.a 5 (.a 6 (.t 7 (.o 8 (.a 9 .nil)))))))))), Tryz.f35, [vl [.shr aC], vl [.shr aC]]⟩
noncomputable def p6 (a0 b1 : ak) (i5 : Int) : Option (Sum RJ (Sum Unit (Bool × Unit))) := bif decide (i5 < (a0.length : Int)) then bif decide (0 ≤ i5) then Option.bind ((a0)[i5.toNat]?) fun r1 => bif decide (0 ≤ i5) then Option.bind ((b1)[i5.toNat]?) fun r2 => Option.bind (pK r1.1 r1.2.1 r1.2.2.1 r1.2.2.2.1 r2.1 r2.2.1 r2.2.2.1 r2.2.2.2.1) fun y3 => bif !y3.1 then some (.inr (.inr (false, ()))) else some (.inl (a0, b1, i64.wrap (i5 + 1), ())) else none else none else some (.inr (.inl (())))
noncomputable def iz (x : RJ) : Option (Sum RJ (Sum Unit (Bool × Unit))) := p6 x.1 x.2.1 x.2.2.1
def VU : LD := ⟨0, Sd.lp 0, sp [(0, vl [.shr aC]), (0, vl [.shr aC]), (3, vl [.int .i64])] 22, sp [] 28, sp [(4, vl [.bool])] 23, iz⟩
theorem VV : Sd.Ok VU := Sd.mm fun x => by kernel_rfl
def VW : Sd.KL := ⟨_, VV⟩
noncomputable def nN (a0 b1 : ak) : Option (Bool × Unit) := bif !decide ((a0.length : Int) = (b1.length : Int)) then some (false, ()) else cM (aD iz (a0, b1, 0, ())) (fun y1 => some (true, ())) (fun y2 => some (y2.1, ()))
theorem k35 : Sd.Kn [⟨.tmp 4, false, [.bool]⟩] 35 nN := Sd.kf [VW] Tryz.func35 (by kernel_rfl) (by kernel_rfl) fun x => by kernel_rfl
def QN := kw k35
def IT : FC Tryz.prog := ⟨dO, [], dr 6 (.a 0 (.a 1 (.a 2 (.t 3 (.a 4 (.a 5 (.a 6 (.t 7 (.a 8 .nil))))))))), Tryz.f164, [vl [.shr uo], vl [.shr uo]]⟩
noncomputable def nO (a0 b1 : hZ) (i5 : Int) : Option (Sum RK (Sum Unit (Bool × Unit))) := bif decide (i5 < (a0.length : Int)) then bif decide (0 ≤ i5) then Option.bind ((a0)[i5.toNat]?) fun r1 => bif decide (0 ≤ i5) then Option.bind ((b1)[i5.toNat]?) fun r2 => bif !pC r1.1 r2.1 then some (.inr (.inr (false, ()))) else some (.inl (a0, b1, i64.wrap (i5 + 1), ())) else none else none else some (.inr (.inl (())))
noncomputable def fZ (x : RK) : Option (Sum RK (Sum Unit (Bool × Unit))) := nO x.1 x.2.1 x.2.2.1
def QO : LD := ⟨0, IT.lp 0, sp [(0, vl [.shr uo]), (0, vl [.shr uo]), (3, vl [.int .i64])] 21, sp [] 27, sp [(4, vl [.bool])] 22, fZ⟩
theorem QP : IT.Ok QO := IT.mm fun x => by kernel_rfl
def QQ : IT.KL := ⟨_, QP⟩
noncomputable def nP (a0 b1 : hZ) : Option (Bool × Unit) := bif !decide ((a0.length : Int) = (b1.length : Int)) then some (false, ()) else cM (aD fZ (a0, b1, 0, ())) (fun y1 => some (true, ())) (fun y2 => some (y2.1, ()))
theorem abH : IT.Kn [⟨.tmp 4, false, [.bool]⟩] 164 nP := IT.kf [QQ] Tryz.func164 (by kernel_rfl) (by kernel_rfl) fun x => by kernel_rfl
def abI := kw abH
def F36 : FC Tryz.prog := ⟨dO, [XK], fR, Tryz.f36, [va Fi, va Fi]⟩
noncomputable def qp (aU aM aN aH bc : Int) (aS : aG) (n7 n8 qk oR C3 : Int) (C4 : aG) : Option (Bool × Unit) := bif !decide (aU = n7) then some (false, ()) else bif !decide (aM = n8) then some (false, ()) else bif !decide (aN = qk) then some (false, ()) else bif !decide (aH = oR) then some (false, ()) else bif !decide (bc = C3) then some (false, ()) else Option.bind (kX aS C4) fun y1 => bif !y1.1 then some (false, ()) else some (true, ())
theorem k36 : F36.Kn [⟨.tmp 4, false, [.bool]⟩] 36 qp := F36.mn Tryz.func36 fun x => by kernel_rfl
def Se := kw k36
def F85 : FC Tryz.prog := ⟨dO, [R4, QN, XK, abI, Se], fR, Tryz.f85, [va Ig, va Ig]⟩
noncomputable def rJ (aU aM : Int) (aN : aG) (aH : ak) (bc : aG) (aS : hZ) (bS bM fy fA cB cC cD cE cF : Int) (bC : aG) (n7 n8 : Int) (qk : aG) (oR : ak) (C3 : aG) (C4 : hZ) (K7 K8 QR QS K9 La Lc Ld Le : Int) (Lf : aG) : Option (Bool × Unit) := bif !decide (aU = n7) then some (false, ()) else Option.bind (mV aM aN n8 qk) fun y1 => bif !y1.1 then some (false, ()) else Option.bind (nN aH oR) fun y2 => bif !y2.1 then some (false, ()) else Option.bind (kX bc C3) fun y3 => bif !y3.1 then some (false, ()) else Option.bind (nP aS C4) fun y4 => bif !y4.1 then some (false, ()) else bif !decide (bS = K7) then some (false, ()) else bif !decide (bM = K8) then some (false, ()) else bif !decide (fy = QR) then some (false, ()) else bif !decide (fA = QS) then some (false, ()) else Option.bind (qp cB cC cD cE cF bC K9 La Lc Ld Le Lf) fun y5 => bif !y5.1 then some (false, ()) else some (true, ())
theorem k85 : F85.Kn [⟨.tmp 4, false, [.bool]⟩] 85 rJ := F85.mn Tryz.func85 fun x => by kernel_rfl
def K85 := kw k85
def F29 : FC Tryz.prog := ⟨dO, [QN], fR, Tryz.f29, [va DI, va DI]⟩
noncomputable def j8 (aU aM aN : Int) (aH : ak) (n7 n8 qk : Int) (oR : ak) : Option (Bool × Unit) := bif !decide (aU = n7) then some (false, ()) else bif !decide (aM = n8) then some (false, ()) else bif !decide (aN = qk) then some (false, ()) else Option.bind (nN aH oR) fun y1 => bif !y1.1 then some (false, ()) else some (true, ())
theorem k29 : F29.Kn [⟨.tmp 4, false, [.bool]⟩] 29 j8 := F29.mn Tryz.func29 fun x => by kernel_rfl
def VO := kw k29
def Sf : FC Tryz.prog := ⟨dO, [VO], dr 6 (.a 0 (.a 1 (.a 2 (.t 3 (.a 4 (.a 5 (.a 6 (.t 7 (.o 8 (.a 9 .nil)))))))))), Tryz.f18, [vl vB, vl vB]⟩
noncomputable def nQ (a0 b1 : af) (i5 : Int) : Option (Sum ME (Sum Unit (Bool × Unit))) := bif decide (i5 < (a0.length : Int)) then bif decide (0 ≤ i5) then Option.bind ((a0)[i5.toNat]?) fun r1 => bif decide (0 ≤ i5) then Option.bind ((b1)[i5.toNat]?) fun r2 => Option.bind (j8 r1.1 r1.2.1 r1.2.2.1 r1.2.2.2.1 r2.1 r2.2.1 r2.2.2.1 r2.2.2.2.1) fun y3 => bif !y3.1 then some (.inr (.inr (false, ()))) else some (.inl (a0, b1, i64.wrap (i5 + 1), ())) else none else none else some (.inr (.inl (())))
noncomputable def ga (x : ME) : Option (Sum ME (Sum Unit (Bool × Unit))) := nQ x.1 x.2.1 x.2.2.1
def VX : LD := ⟨0, Sf.lp 0, sp [(0, vl vB), (0, vl vB), (3, vl [.int .i64])] 22, sp [] 28, sp [(4, vl [.bool])] 23, ga⟩
theorem VY : Sf.Ok VX := Sf.mm fun x => by kernel_rfl
def VZ : Sf.KL := ⟨_, VY⟩
noncomputable def nR (a0 b1 : af) : Option (Bool × Unit) := bif !decide ((a0.length : Int) = (b1.length : Int)) then some (false, ()) else cM (aD ga (a0, b1, 0, ())) (fun y1 => some (true, ())) (fun y2 => some (y2.1, ()))
theorem k18 : Sf.Kn [⟨.tmp 4, false, [.bool]⟩] 18 nR := Sf.kf [VZ] Tryz.func18 (by kernel_rfl) (by kernel_rfl) fun x => by kernel_rfl
def K18 := kw k18
def V1 : FC Tryz.prog := ⟨dO, [R4, VT, XK], fR, Tryz.f165, [va TI, va TI]⟩
noncomputable def qt (aU aM : Int) (aN : aG) (aH bc aS : Int) (bS : ByteArray) (bM : aG) (n7 n8 : Int) (qk : aG) (oR C3 C4 : Int) (K7 : ByteArray) (K8 : aG) : Option (Bool × Unit) := bif !decide (aU = n7) then some (false, ()) else Option.bind (mV aM aN n8 qk) fun y1 => bif !y1.1 then some (false, ()) else Option.bind (pK aH bc aS bS oR C3 C4 K7) fun y2 => bif !y2.1 then some (false, ()) else Option.bind (kX bM K8) fun y3 => bif !y3.1 then some (false, ()) else some (true, ())
theorem abJ : V1.Kn [⟨.tmp 4, false, [.bool]⟩] 165 qt := V1.mn Tryz.func165 fun x => by kernel_rfl
def abK := kw abJ
def Sg : FC Tryz.prog := ⟨dO, [abK], dr 6 (.a 0 (.a 1 (.a 2 (.t 3 (.a 4 (.a 5 (.a 6 (.t 7 (.o 8 (.a 9 .nil)))))))))), Tryz.f86, [vl Hg, vl Hg]⟩
noncomputable def oW (a0 b1 : ah) (i5 : Int) : Option (Sum MF (Sum Unit (Bool × Unit))) := bif decide (i5 < (a0.length : Int)) then bif decide (0 ≤ i5) then Option.bind ((a0)[i5.toNat]?) fun r1 => bif decide (0 ≤ i5) then Option.bind ((b1)[i5.toNat]?) fun r2 => Option.bind (qt r1.1 r1.2.1 r1.2.2.1 r1.2.2.2.1 r1.2.2.2.2.1 r1.2.2.2.2.2.1 r1.2.2.2.2.2.2.1 r1.2.2.2.2.2.2.2.1 r2.1 r2.2.1 r2.2.2.1 r2.2.2.2.1 r2.2.2.2.2.1 r2.2.2.2.2.2.1 r2.2.2.2.2.2.2.1 r2.2.2.2.2.2.2.2.1) fun y3 => bif !y3.1 then some (.inr (.inr (false, ()))) else some (.inl (a0, b1, i64.wrap (i5 + 1), ())) else none else none else some (.inr (.inl (())))
noncomputable def gZ (x : MF) : Option (Sum MF (Sum Unit (Bool × Unit))) := oW x.1 x.2.1 x.2.2.1
def V2 : LD := ⟨0, Sg.lp 0, sp [(0, vl Hg), (0, vl Hg), (3, vl [.int .i64])] 22, sp [] 28, sp [(4, vl [.bool])] 23, gZ⟩
theorem V3 : Sg.Ok V2 := Sg.mm fun x => by kernel_rfl
def V4 : Sg.KL := ⟨_, V3⟩
noncomputable def pw (a0 b1 : ah) : Option (Bool × Unit) := bif !decide ((a0.length : Int) = (b1.length : Int)) then some (false, ()) else cM (aD gZ (a0, b1, 0, ())) (fun y1 => some (true, ())) (fun y2 => some (y2.1, ()))
theorem k86 : Sg.Kn [⟨.tmp 4, false, [.bool]⟩] 86 pw := Sg.kf [V4] Tryz.func86 (by kernel_rfl) (by kernel_rfl) fun x => by kernel_rfl
def K86 := kw k86
def F17 : FC Tryz.prog := ⟨dO, [K85, R4, K18, K86], fR, Tryz.f17, [va EL, va EL]⟩
noncomputable def eC (aU : Int) (aM : Bool) (aN aH : Int) (bc : aG) (aS : ak) (bS : aG) (bM : hZ) (fy fA cB cC cD cE cF bC ic : Int) (cW : aG) (kJ kK ie : Int) (db : aG) (de : af) (dq : ah) (n7 : Int) (n8 : Bool) (qk oR : Int) (C3 : aG) (C4 : ak) (K7 : aG) (K8 : hZ) (QR QS K9 La Lc Ld Le Lf V5 : Int) (V6 : aG) (V7 V8 V9 : Int) (Wa : aG) (Wb : af) (Wc : ah) : Option (Bool × Unit) := bif !decide (aU = n7) then some (false, ()) else bif !(aM == n8) then some (false, ()) else Option.bind (rJ aN aH bc aS bS bM fy fA cB cC cD cE cF bC ic cW qk oR C3 C4 K7 K8 QR QS K9 La Lc Ld Le Lf V5 V6) fun y1 => bif !y1.1 then some (false, ()) else bif !decide (kJ = V7) then some (false, ()) else bif !decide (kK = V8) then some (false, ()) else Option.bind (mV ie db V9 Wa) fun y2 => bif !y2.1 then some (false, ()) else Option.bind (nR de Wb) fun y3 => bif !y3.1 then some (false, ()) else Option.bind (pw dq Wc) fun y4 => bif !y4.1 then some (false, ()) else some (true, ())
theorem k17 : F17.Kn [⟨.tmp 4, false, [.bool]⟩] 17 eC := F17.mn Tryz.func17 fun x => by kernel_rfl
def K17 := kw k17
def Sh : FC Tryz.prog := ⟨dO, [], fR, Tryz.f90, [.io im, vl [.int .i64]]⟩
noncomputable def oX (a0 : aG) (k1 i5 : Int) : Option (Sum MG (Sum (aG × Int × Unit) Unit)) := bif decide (i5 < (a0.length : Int)) then bif decide (0 ≤ i5) then bif Nat.blt (i5.toNat) (List.length a0) then Option.bind ((a0)[i5.toNat]?) fun r1 => some (.inl (List.set a0 (i5.toNat) (k1, ()), i64.wrap (k1 + 1), i64.wrap (i5 + 1), ())) else none else none else some (.inr (.inl (a0, k1, ())))
noncomputable def jq (x : MG) : Option (Sum MG (Sum (aG × Int × Unit) Unit)) := oX x.1 x.2.1 x.2.2.1
def Wd : LD := ⟨0, Sh.lp 0, sp [(0, .io im), (0, vl [.int .i64]), (3, vl [.int .i64])] 14, sp [(0, .io im), (0, vl [.int .i64])] 18, sp [] 20, jq⟩
theorem We : Sh.Ok Wd := Sh.mm fun x => by kernel_rfl
def Wf : Sh.KL := ⟨_, We⟩
noncomputable def gP (a0 : aG) (k1 : Int) : Option (Int × aG × Unit) := cM (aD jq (a0, k1, 0, ())) (fun y1 => some (y1.2.1, y1.1, ())) (fun y2 => none)
theorem k90 : Sh.Kn [⟨.tmp 4, false, [.int .i64]⟩] 90 gP := Sh.kf [Wf] Tryz.func90 (by kernel_rfl) (by kernel_rfl) fun x => by kernel_rfl
def XL := kv (.io, .shr, .shr) k90
def F21 : FC Tryz.prog := ⟨dO, [XL], fR, Tryz.f21, [.bQ MH, vl [.int .i64]]⟩
noncomputable def mc (aU : Int) (aM : aG) (k1 : Int) : Option (Int × aG × Unit) := Option.bind (gP aM k1) fun y1 => some y1
theorem k21 : F21.Kn [⟨.tmp 4, false, [.int .i64]⟩] 21 mc := F21.mn Tryz.func21 fun x => by kernel_rfl
def UY := kv (.bQ, .shr, .shr) k21
def IU : FC Tryz.prog := ⟨dO, [], fR, Tryz.f106, [vl [.int .i64]]⟩
noncomputable def lz (k0 : Int) (dY : ByteArray) : Option (Sum (Int × ByteArray × Unit) (Sum (ByteArray × Unit) Unit)) := bif decide (0 < k0) then bif Nat.ble ((ByteArray.size (bytesOf [(IntKind.u8.wrap (i64.wrap (48 + (Int.tmod k0 10))), ())])) + (ByteArray.size dY)) lim then some (.inl (i64.wrap (Int.tdiv k0 10), (bytesOf [(IntKind.u8.wrap (i64.wrap (48 + (Int.tmod k0 10))), ())]) ++ dY, ())) else none else some (.inr (.inl (dY, ())))
noncomputable def hC (x : Int × ByteArray × Unit) : Option (Sum (Int × ByteArray × Unit) (Sum (ByteArray × Unit) Unit)) := lz x.1 x.2.1
def QT : LD := ⟨0, IU.lp 0, sp [(0, vl [.int .i64]), (2, vl [.str])] 17, sp [(3, vl [.str])] 17, sp [] 21, hC⟩
theorem QU : IU.Ok QT := IU.mm fun x => by kernel_rfl
def QV : IU.KL := ⟨_, QU⟩
noncomputable def dM (k0 : Int) : Option (ByteArray × Unit) := bif decide (k0 ≤ 0) then some ((ByteArray.mk #[109, 48]), ()) else cM (aD hC (k0, (ByteArray.mk #[]), ())) (fun y1 => bif Nat.ble (1 + (ByteArray.size y1.1)) lim then some ((ByteArray.mk #[109]) ++ y1.1, ()) else none) (fun y2 => none)
theorem abL : IU.Kn [⟨.tmp 2, false, [.str]⟩] 106 dM := IU.kf [QV] Tryz.func106 (by kernel_rfl) (by kernel_rfl) fun x => by kernel_rfl
def IV := kw abL
def Si : FC Tryz.prog := ⟨dO, [IV], fR, Tryz.f38, [.io aC, vl [.int .i64]]⟩
noncomputable def nS (a0 : ak) (k1 i5 : Int) : Option (Sum Ju (Sum (ak × Int × Unit) Unit)) := bif decide (i5 < (a0.length : Int)) then bif decide (0 ≤ i5) then bif Nat.blt (i5.toNat) (List.length a0) then Option.bind ((a0)[i5.toNat]?) fun r1 => bif decide (0 ≤ i5) then bif Nat.blt (i5.toNat) (List.length (List.set a0 (i5.toNat) (k1, r1.2.1, r1.2.2.1, r1.2.2.2.1, ()))) then Option.bind ((List.set a0 (i5.toNat) (k1, r1.2.1, r1.2.2.1, r1.2.2.2.1, ()))[i5.toNat]?) fun r2 => bif decide (0 ≤ i5) then bif Nat.blt (i5.toNat) (List.length (List.set (List.set a0 (i5.toNat) (k1, r1.2.1, r1.2.2.1, r1.2.2.2.1, ())) (i5.toNat) (r2.1, i64.wrap (k1 + 1), r2.2.2.1, r2.2.2.2.1, ()))) then Option.bind ((List.set (List.set a0 (i5.toNat) (k1, r1.2.1, r1.2.2.1, r1.2.2.2.1, ())) (i5.toNat) (r2.1, i64.wrap (k1 + 1), r2.2.2.1, r2.2.2.2.1, ()))[i5.toNat]?) fun r3 => Option.bind (dM (i64.wrap ((i64.wrap ((i64.wrap (k1 + 1)) + 1)) + 1))) fun y4 => bif decide (0 ≤ i5) then bif Nat.blt (i5.toNat) (List.length (List.set (List.set (List.set a0 (i5.toNat) (k1, r1.2.1, r1.2.2.1, r1.2.2.2.1, ())) (i5.toNat) (r2.1, i64.wrap (k1 + 1), r2.2.2.1, r2.2.2.2.1, ())) (i5.toNat) (r3.1, r3.2.1, i64.wrap ((i64.wrap (k1 + 1)) + 1), r3.2.2.2.1, ()))) then Option.bind ((List.set (List.set (List.set a0 (i5.toNat) (k1, r1.2.1, r1.2.2.1, r1.2.2.2.1, ())) (i5.toNat) (r2.1, i64.wrap (k1 + 1), r2.2.2.1, r2.2.2.2.1, ())) (i5.toNat) (r3.1, r3.2.1, i64.wrap ((i64.wrap (k1 + 1)) + 1), r3.2.2.2.1, ()))[i5.toNat]?) fun r5 => some (.inl (List.set (List.set (List.set (List.set a0 (i5.toNat) (k1, r1.2.1, r1.2.2.1, r1.2.2.2.1, ())) (i5.toNat) (r2.1, i64.wrap (k1 + 1), r2.2.2.1, r2.2.2.2.1, ())) (i5.toNat) (r3.1, r3.2.1, i64.wrap ((i64.wrap (k1 + 1)) + 1), r3.2.2.2.1, ())) (i5.toNat) (r5.1, r5.2.1, r5.2.2.1, y4.1, ()), i64.wrap ((i64.wrap ((i64.wrap ((i64.wrap (k1 + 1)) + 1)) + 1)) + 1), i64.wrap (i5 + 1), ())) else none else none else none else none else none else none else none else none else some (.inr (.inl (a0, k1, ())))
noncomputable def iK (x : Ju) : Option (Sum Ju (Sum (ak × Int × Unit) Unit)) := nS x.1 x.2.1 x.2.2.1
def Wg : LD := ⟨0, Si.lp 0, sp [(0, .io aC), (0, vl [.int .i64]), (3, vl [.int .i64])] 37, sp [(0, .io aC), (0, vl [.int .i64])] 41, sp [] 43, iK⟩
theorem Wh : Si.Ok Wg := Si.mm fun x => by kernel_rfl
def Wi : Si.KL := ⟨_, Wh⟩
noncomputable def jr (a0 : ak) (k1 : Int) : Option (Int × ak × Unit) := cM (aD iK (a0, k1, 0, ())) (fun y1 => some (y1.2.1, y1.1, ())) (fun y2 => none)
theorem k38 : Si.Kn [⟨.tmp 4, false, [.int .i64]⟩] 38 jr := Si.kf [Wi] Tryz.func38 (by kernel_rfl) (by kernel_rfl) fun x => by kernel_rfl
def K38 := kv (.io, .shr, .shr) k38
def IW : FC Tryz.prog := ⟨dO, [IV], fR, Tryz.f166, [.io uo, vl [.int .i64]]⟩
noncomputable def lN (a0 : hZ) (k1 i5 : Int) : Option (Sum Jv (Sum (hZ × Int × Unit) Unit)) := bif decide (i5 < (a0.length : Int)) then Option.bind (dM k1) fun y1 => bif decide (0 ≤ i5) then bif Nat.blt (i5.toNat) (List.length a0) then Option.bind ((a0)[i5.toNat]?) fun r2 => some (.inl (List.set a0 (i5.toNat) (y1.1, ()), i64.wrap (k1 + 1), i64.wrap (i5 + 1), ())) else none else none else some (.inr (.inl (a0, k1, ())))
noncomputable def gw (x : Jv) : Option (Sum Jv (Sum (hZ × Int × Unit) Unit)) := lN x.1 x.2.1 x.2.2.1
def QW : LD := ⟨0, IW.lp 0, sp [(0, .io uo), (0, vl [.int .i64]), (3, vl [.int .i64])] 15, sp [(0, .io uo), (0, vl [.int .i64])] 19, sp [] 21, gw⟩
theorem QX : IW.Ok QW := IW.mm fun x => by kernel_rfl
def QY : IW.KL := ⟨_, QX⟩
noncomputable def lA (a0 : hZ) (k1 : Int) : Option (Int × hZ × Unit) := cM (aD gw (a0, k1, 0, ())) (fun y1 => some (y1.2.1, y1.1, ())) (fun y2 => none)
theorem abN : IW.Kn [⟨.tmp 4, false, [.int .i64]⟩] 166 lA := IW.kf [QY] Tryz.func166 (by kernel_rfl) (by kernel_rfl) fun x => by kernel_rfl
def abO := kv (.io, .shr, .shr) abN
def F37 : FC Tryz.prog := ⟨dO, [XL], fR, Tryz.f37, [.bQ MI, vl [.int .i64]]⟩
noncomputable def nT (aU aM aN aH bc : Int) (aS : aG) (k1 : Int) : Option (Int × aG × Unit) := Option.bind (gP aS k1) fun y1 => some y1
theorem k37 : F37.Kn [⟨.tmp 4, false, [.int .i64]⟩] 37 nT := F37.mn Tryz.func37 fun x => by kernel_rfl
def K37 := kv (.bQ, .shr, .shr) k37
def F88 : FC Tryz.prog := ⟨dO, [UY, K38, XL, abO, K37], fR, Tryz.f88, [.bQ Ih, vl [.int .i64]]⟩
noncomputable def px (aU aM : Int) (aN : aG) (aH : ak) (bc : aG) (aS : hZ) (bS bM fy fA cB cC cD cE cF : Int) (bC : aG) (k1 : Int) : Option (U11) := Option.bind (mc aM aN k1) fun y1 => Option.bind (jr aH y1.1) fun y2 => Option.bind (gP bc y2.1) fun y3 => Option.bind (lA aS y3.1) fun y4 => Option.bind (nT cB cC cD cE cF bC y4.1) fun y5 => some (y5.1, y1.2.1, y2.2.1, y3.2.1, y4.2.1, y5.2.1, ())
theorem k88 : F88.Kn [⟨.tmp 4, false, [.int .i64]⟩] 88 px := F88.mn Tryz.func88 fun x => by kernel_rfl
def K88 := kv (.bQ, .shr, .shr) k88
def Sj : FC Tryz.prog := ⟨dO, [K38], fR, Tryz.f22, [.io da .dp, vl [.int .i64]]⟩
noncomputable def lO (a0 : af) (k1 i5 : Int) : Option (Sum MB (Sum (af × Int × Unit) Unit)) := bif decide (i5 < (a0.length : Int)) then bif decide (0 ≤ i5) then bif Nat.blt (i5.toNat) (List.length a0) then Option.bind ((a0)[i5.toNat]?) fun r1 => bif decide (0 ≤ i5) then bif Nat.blt (i5.toNat) (List.length (List.set a0 (i5.toNat) (k1, r1.2.1, r1.2.2.1, r1.2.2.2.1, ()))) then Option.bind ((List.set a0 (i5.toNat) (k1, r1.2.1, r1.2.2.1, r1.2.2.2.1, ()))[i5.toNat]?) fun r2 => bif decide (0 ≤ i5) then bif Nat.blt (i5.toNat) (List.length (List.set (List.set a0 (i5.toNat) (k1, r1.2.1, r1.2.2.1, r1.2.2.2.1, ())) (i5.toNat) (r2.1, i64.wrap (k1 + 1), r2.2.2.1, r2.2.2.2.1, ()))) then Option.bind ((List.set (List.set a0 (i5.toNat) (k1, r1.2.1, r1.2.2.1, r1.2.2.2.1, ())) (i5.toNat) (r2.1, i64.wrap (k1 + 1), r2.2.2.1, r2.2.2.2.1, ()))[i5.toNat]?) fun r3 => bif decide (0 ≤ i5) then bif Nat.blt (i5.toNat) (List.length (List.set (List.set (List.set a0 (i5.toNat) (k1, r1.2.1, r1.2.2.1, r1.2.2.2.1, ())) (i5.toNat) (r2.1, i64.wrap (k1 + 1), r2.2.2.1, r2.2.2.2.1, ())) (i5.toNat) (r3.1, r3.2.1, i64.wrap ((i64.wrap (k1 + 1)) + 1), r3.2.2.2.1, ()))) then Option.bind ((List.set (List.set (List.set a0 (i5.toNat) (k1, r1.2.1, r1.2.2.1, r1.2.2.2.1, ())) (i5.toNat) (r2.1, i64.wrap (k1 + 1), r2.2.2.1, r2.2.2.2.1, ())) (i5.toNat) (r3.1, r3.2.1, i64.wrap ((i64.wrap (k1 + 1)) + 1), r3.2.2.2.1, ()))[i5.toNat]?) fun r4 => Option.bind (jr r4.2.2.2.1 (i64.wrap ((i64.wrap ((i64.wrap (k1 + 1)) + 1)) + 1))) fun y5 => Option.bind ((List.set (List.set (List.set a0 (i5.toNat) (k1, r1.2.1, r1.2.2.1, r1.2.2.2.1, ())) (i5.toNat) (r2.1, i64.wrap (k1 + 1), r2.2.2.1, r2.2.2.2.1, ())) (i5.toNat) (r3.1, r3.2.1, i64.wrap ((i64.wrap (k1 + 1)) + 1), r3.2.2.2.1, ()))[i5.toNat]?) fun r6 => some (.inl (List.set (List.set (List.set (List.set a0 (i5.toNat) (k1, r1.2.1, r1.2.2.1, r1.2.2.2.1, ())) (i5.toNat) (r2.1, i64.wrap (k1 + 1), r2.2.2.1, r2.2.2.2.1, ())) (i5.toNat) (r3.1, r3.2.1, i64.wrap ((i64.wrap (k1 + 1)) + 1), r3.2.2.2.1, ())) (i5.toNat) (r6.1, r6.2.1, r6.2.2.1, y5.2.1, ()), y5.1, i64.wrap (i5 + 1), ())) else none else none else none else none else none else none else none else none else some (.inr (.inl (a0, k1, ())))
noncomputable def eR (x : MB) : Option (Sum MB (Sum (af × Int × Unit) Unit)) := lO x.1 x.2.1 x.2.2.1
def Wj : LD := ⟨0, Sj.lp 0, sp [(0, .io da .dp), (0, vl [.int .i64]), (3, vl [.int .i64])] 36, sp [(0, .io da .dp), (0, vl [.int .i64])] 40, sp [] 42, eR⟩
theorem Wk : Sj.Ok Wj := Sj.mm fun x => by kernel_rfl
def Wl : Sj.KL := ⟨_, Wk⟩
noncomputable def lB (a0 : af) (k1 : Int) : Option (Int × af × Unit) := cM (aD eR (a0, k1, 0, ())) (fun y1 => some (y1.2.1, y1.1, ())) (fun y2 => none)
theorem k22 : Sj.Kn [⟨.tmp 4, false, [.int .i64]⟩] 22 lB := Sj.kf [Wl] Tryz.func22 (by kernel_rfl) (by kernel_rfl) fun x => by kernel_rfl
def XB := kv (.io, .shr, .shr) k22
def Sk : FC Tryz.prog := ⟨dO, [XL, IV], fR, Tryz.f89, [.io ca .dp, vl [.int .i64]]⟩
noncomputable def mI (a0 : ah) (k1 i5 : Int) : Option (Sum MC (Sum (ah × Int × Unit) Unit)) := bif decide (i5 < (a0.length : Int)) then bif decide (0 ≤ i5) then bif Nat.blt (i5.toNat) (List.length a0) then Option.bind ((a0)[i5.toNat]?) fun r1 => bif decide (0 ≤ i5) then bif Nat.blt (i5.toNat) (List.length (List.set a0 (i5.toNat) (k1, r1.2.1, r1.2.2.1, r1.2.2.2.1, r1.2.2.2.2.1, r1.2.2.2.2.2.1, r1.2.2.2.2.2.2.1, r1.2.2.2.2.2.2.2.1, ()))) then Option.bind ((List.set a0 (i5.toNat) (k1, r1.2.1, r1.2.2.1, r1.2.2.2.1, r1.2.2.2.2.1, r1.2.2.2.2.2.1, r1.2.2.2.2.2.2.1, r1.2.2.2.2.2.2.2.1, ()))[i5.toNat]?) fun r2 => bif decide (0 ≤ i5) then bif Nat.blt (i5.toNat) (List.length (List.set (List.set a0 (i5.toNat) (k1, r1.2.1, r1.2.2.1, r1.2.2.2.1, r1.2.2.2.2.1, r1.2.2.2.2.2.1, r1.2.2.2.2.2.2.1, r1.2.2.2.2.2.2.2.1, ())) (i5.toNat) (r2.1, i64.wrap (k1 + 1), r2.2.2.1, r2.2.2.2.1, r2.2.2.2.2.1, r2.2.2.2.2.2.1, r2.2.2.2.2.2.2.1, r2.2.2.2.2.2.2.2.1, ()))) then Option.bind ((List.set (List.set a0 (i5.toNat) (k1, r1.2.1, r1.2.2.1, r1.2.2.2.1, r1.2.2.2.2.1, r1.2.2.2.2.2.1, r1.2.2.2.2.2.2.1, r1.2.2.2.2.2.2.2.1, ())) (i5.toNat) (r2.1, i64.wrap (k1 + 1), r2.2.2.1, r2.2.2.2.1, r2.2.2.2.2.1, r2.2.2.2.2.2.1, r2.2.2.2.2.2.2.1, r2.2.2.2.2.2.2.2.1, ()))[i5.toNat]?) fun r3 => Option.bind (gP r3.2.2.1 (i64.wrap ((i64.wrap (k1 + 1)) + 1))) fun y4 => Option.bind ((List.set (List.set a0 (i5.toNat) (k1, r1.2.1, r1.2.2.1, r1.2.2.2.1, r1.2.2.2.2.1, r1.2.2.2.2.2.1, r1.2.2.2.2.2.2.1, r1.2.2.2.2.2.2.2.1, ())) (i5.toNat) (r2.1, i64.wrap (k1 + 1), r2.2.2.1, r2.2.2.2.1, r2.2.2.2.2.1, r2.2.2.2.2.2.1, r2.2.2.2.2.2.2.1, r2.2.2.2.2.2.2.2.1, ()))[i5.toNat]?) fun r5 => bif decide (0 ≤ i5) then bif Nat.blt (i5.toNat) (List.length (List.set (List.set (List.set a0 (i5.toNat) (k1, r1.2.1, r1.2.2.1, r1.2.2.2.1, r1.2.2.2.2.1, r1.2.2.2.2.2.1, r1.2.2.2.2.2.2.1, r1.2.2.2.2.2.2.2.1, ())) (i5.toNat) (r2.1, i64.wrap (k1 + 1), r2.2.2.1, r2.2.2.2.1, r2.2.2.2.2.1, r2.2.2.2.2.2.1, r2.2.2.2.2.2.2.1, r2.2.2.2.2.2.2.2.1, ())) (i5.toNat) (r5.1, r5.2.1, y4.2.1, r5.2.2.2.1, r5.2.2.2.2.1, r5.2.2.2.2.2.1, r5.2.2.2.2.2.2.1, r5.2.2.2.2.2.2.2.1, ()))) then Option.bind ((List.set (List.set (List.set a0 (i5.toNat) (k1, r1.2.1, r1.2.2.1, r1.2.2.2.1, r1.2.2.2.2.1, r1.2.2.2.2.2.1, r1.2.2.2.2.2.2.1, r1.2.2.2.2.2.2.2.1, ())) (i5.toNat) (r2.1, i64.wrap (k1 + 1), r2.2.2.1, r2.2.2.2.1, r2.2.2.2.2.1, r2.2.2.2.2.2.1, r2.2.2.2.2.2.2.1, r2.2.2.2.2.2.2.2.1, ())) (i5.toNat) (r5.1, r5.2.1, y4.2.1, r5.2.2.2.1, r5.2.2.2.2.1, r5.2.2.2.2.2.1, r5.2.2.2.2.2.2.1, r5.2.2.2.2.2.2.2.1, ()))[i5.toNat]?) fun r6 => bif decide (0 ≤ i5) then bif Nat.blt (i5.toNat) (List.length (List.set (List.set (List.set (List.set a0 (i5.toNat) (k1, r1.2.1, r1.2.2.1, r1.2.2.2.1, r1.2.2.2.2.1, r1.2.2.2.2.2.1, r1.2.2.2.2.2.2.1, r1.2.2.2.2.2.2.2.1, ())) (i5.toNat) (r2.1, i64.wrap (k1 + 1), r2.2.2.1, r2.2.2.2.1, r2.2.2.2.2.1, r2.2.2.2.2.2.1, r2.2.2.2.2.2.2.1, r2.2.2.2.2.2.2.2.1, ())) (i5.toNat) (r5.1, r5.2.1, y4.2.1, r5.2.2.2.1, r5.2.2.2.2.1, r5.2.2.2.2.2.1, r5.2.2.2.2.2.2.1, r5.2.2.2.2.2.2.2.1, ())) (i5.toNat) (r6.1, r6.2.1, r6.2.2.1, y4.1, r6.2.2.2.2.1, r6.2.2.2.2.2.1, r6.2.2.2.2.2.2.1, r6.2.2.2.2.2.2.2.1, ()))) then Option.bind ((List.set (List.set (List.set (List.set a0 (i5.toNat) (k1, r1.2.1, r1.2.2.1, r1.2.2.2.1, r1.2.2.2.2.1, r1.2.2.2.2.2.1, r1.2.2.2.2.2.2.1, r1.2.2.2.2.2.2.2.1, ())) (i5.toNat) (r2.1, i64.wrap (k1 + 1), r2.2.2.1, r2.2.2.2.1, r2.2.2.2.2.1, r2.2.2.2.2.2.1, r2.2.2.2.2.2.2.1, r2.2.2.2.2.2.2.2.1, ())) (i5.toNat) (r5.1, r5.2.1, y4.2.1, r5.2.2.2.1, r5.2.2.2.2.1, r5.2.2.2.2.2.1, r5.2.2.2.2.2.2.1, r5.2.2.2.2.2.2.2.1, ())) (i5.toNat) (r6.1, r6.2.1, r6.2.2.1, y4.1, r6.2.2.2.2.1, r6.2.2.2.2.2.1, r6.2.2.2.2.2.2.1, r6.2.2.2.2.2.2.2.1, ()))[i5.toNat]?) fun r7 => (fun l8 : List (bF) => bif decide (0 ≤ i5) then bif Nat.blt (i5.toNat) (List.length l8) then Option.bind ((l8)[i5.toNat]?) fun r9 => Option.bind (dM (i64.wrap ((i64.wrap ((i64.wrap (y4.1 + 1)) + 1)) + 1))) fun qT => bif decide (0 ≤ i5) then bif Nat.blt (i5.toNat) (List.length (List.set l8 (i5.toNat) (r9.1, r9.2.1, r9.2.2.1, r9.2.2.2.1, r9.2.2.2.2.1, i64.wrap ((i64.wrap (y4.1 + 1)) + 1), r9.2.2.2.2.2.2.1, r9.2.2.2.2.2.2.2.1, ()))) then Option.bind ((List.set l8 (i5.toNat) (r9.1, r9.2.1, r9.2.2.1, r9.2.2.2.1, r9.2.2.2.2.1, i64.wrap ((i64.wrap (y4.1 + 1)) + 1), r9.2.2.2.2.2.2.1, r9.2.2.2.2.2.2.2.1, ()))[i5.toNat]?) fun vJ => bif decide (0 ≤ i5) then bif Nat.blt (i5.toNat) (List.length (List.set (List.set l8 (i5.toNat) (r9.1, r9.2.1, r9.2.2.1, r9.2.2.2.1, r9.2.2.2.2.1, i64.wrap ((i64.wrap (y4.1 + 1)) + 1), r9.2.2.2.2.2.2.1, r9.2.2.2.2.2.2.2.1, ())) (i5.toNat) (vJ.1, vJ.2.1, vJ.2.2.1, vJ.2.2.2.1, vJ.2.2.2.2.1, vJ.2.2.2.2.2.1, qT.1, vJ.2.2.2.2.2.2.2.1, ()))) then Option.bind ((List.set (List.set l8 (i5.toNat) (r9.1, r9.2.1, r9.2.2.1, r9.2.2.2.1, r9.2.2.2.2.1, i64.wrap ((i64.wrap (y4.1 + 1)) + 1), r9.2.2.2.2.2.2.1, r9.2.2.2.2.2.2.2.1, ())) (i5.toNat) (vJ.1, vJ.2.1, vJ.2.2.1, vJ.2.2.2.1, vJ.2.2.2.2.1, vJ.2.2.2.2.2.1, qT.1, vJ.2.2.2.2.2.2.2.1, ()))[i5.toNat]?) fun r12 => Option.bind (gP r12.2.2.2.2.2.2.2.1 (i64.wrap ((i64.wrap ((i64.wrap ((i64.wrap (y4.1 + 1)) + 1)) + 1)) + 1))) fun LW => Option.bind ((List.set (List.set l8 (i5.toNat) (r9.1, r9.2.1, r9.2.2.1, r9.2.2.2.1, r9.2.2.2.2.1, i64.wrap ((i64.wrap (y4.1 + 1)) + 1), r9.2.2.2.2.2.2.1, r9.2.2.2.2.2.2.2.1, ())) (i5.toNat) (vJ.1, vJ.2.1, vJ.2.2.1, vJ.2.2.2.1, vJ.2.2.2.2.1, vJ.2.2.2.2.2.1, qT.1, vJ.2.2.2.2.2.2.2.1, ()))[i5.toNat]?) fun QZ => some (.inl (List.set (List.set (List.set l8 (i5.toNat) (r9.1, r9.2.1, r9.2.2.1, r9.2.2.2.1, r9.2.2.2.2.1, i64.wrap ((i64.wrap (y4.1 + 1)) + 1), r9.2.2.2.2.2.2.1, r9.2.2.2.2.2.2.2.1, ())) (i5.toNat) (vJ.1, vJ.2.1, vJ.2.2.1, vJ.2.2.2.1, vJ.2.2.2.2.1, vJ.2.2.2.2.2.1, qT.1, vJ.2.2.2.2.2.2.2.1, ())) (i5.toNat) (QZ.1, QZ.2.1, QZ.2.2.1, QZ.2.2.2.1, QZ.2.2.2.2.1, QZ.2.2.2.2.2.1, QZ.2.2.2.2.2.2.1, LW.2.1, ()), LW.1, i64.wrap (i5 + 1), ())) else none else none else none else none else none else none) (List.set (List.set (List.set (List.set (List.set a0 (i5.toNat) (k1, r1.2.1, r1.2.2.1, r1.2.2.2.1, r1.2.2.2.2.1, r1.2.2.2.2.2.1, r1.2.2.2.2.2.2.1, r1.2.2.2.2.2.2.2.1, ())) (i5.toNat) (r2.1, i64.wrap (k1 + 1), r2.2.2.1, r2.2.2.2.1, r2.2.2.2.2.1, r2.2.2.2.2.2.1, r2.2.2.2.2.2.2.1, r2.2.2.2.2.2.2.2.1, ())) (i5.toNat) (r5.1, r5.2.1, y4.2.1, r5.2.2.2.1, r5.2.2.2.2.1, r5.2.2.2.2.2.1, r5.2.2.2.2.2.2.1, r5.2.2.2.2.2.2.2.1, ())) (i5.toNat) (r6.1, r6.2.1, r6.2.2.1, y4.1, r6.2.2.2.2.1, r6.2.2.2.2.2.1, r6.2.2.2.2.2.2.1, r6.2.2.2.2.2.2.2.1, ())) (i5.toNat) (r7.1, r7.2.1, r7.2.2.1, r7.2.2.2.1, i64.wrap (y4.1 + 1), r7.2.2.2.2.2.1, r7.2.2.2.2.2.2.1, r7.2.2.2.2.2.2.2.1, ())) else none else none else none else none else none else none else none else none else none else none else some (.inr (.inl (a0, k1, ())))
noncomputable def fv (x : MC) : Option (Sum MC (Sum (ah × Int × Unit) Unit)) := mI x.1 x.2.1 x.2.2.1
def Wm : LD := ⟨0, Sk.lp 0, sp [(0, .io ca .dp), (0, vl [.int .i64]), (3, vl [.int .i64])] 71, sp [(0, .io ca .dp), (0, vl [.int .i64])] 75, sp [] 77, fv⟩
theorem Wn : Sk.Ok Wm := Sk.mm fun x => by kernel_rfl
def Wo : Sk.KL := ⟨_, Wn⟩
noncomputable def mq (a0 : ah) (k1 : Int) : Option (Int × ah × Unit) := cM (aD fv (a0, k1, 0, ())) (fun y1 => some (y1.2.1, y1.1, ())) (fun y2 => none)
theorem k89 : Sk.Kn [⟨.tmp 4, false, [.int .i64]⟩] 89 mq := Sk.kf [Wo] Tryz.func89 (by kernel_rfl) (by kernel_rfl) fun x => by kernel_rfl
def K89 := kv (.io, .shr, .shr) k89
def F20 : FC Tryz.prog := ⟨dO, [K88, UY, XB, K89], fR, Tryz.f20, [.bQ EN, vl [.int .i64]]⟩
noncomputable def dV (aU : Int) (aM : Bool) (aN aH : Int) (bc : aG) (aS : ak) (bS : aG) (bM : hZ) (fy fA cB cC cD cE cF bC ic : Int) (cW : aG) (kJ kK ie : Int) (db : aG) (de : af) (dq : ah) (k1 : Int) : Option (U13) := Option.bind (px aN aH bc aS bS bM fy fA cB cC cD cE cF bC ic cW k1) fun y1 => Option.bind (mc ie db y1.1) fun y2 => Option.bind (lB de y2.1) fun y3 => Option.bind (mq dq y3.1) fun y4 => some (y4.1, y1.2.1, y1.2.2.1, y1.2.2.2.1, y1.2.2.2.2.1, y1.2.2.2.2.2.1, y2.2.1, y3.2.1, y4.2.1, ())
theorem k20 : F20.Kn [⟨.tmp 4, false, [.int .i64]⟩] 20 dV := F20.mn Tryz.func20 fun x => by kernel_rfl
def UX := kv (.bQ, .shr, .shr) k20
def F30 : FC Tryz.prog := ⟨dO, [K38], fR, Tryz.f30, [.bQ EM, vl [.int .i64]]⟩
noncomputable def jY (aU aM aN : Int) (aH : ak) (k1 : Int) : Option (Int × ak × Unit) := Option.bind (jr aH k1) fun y1 => some y1
theorem k30 : F30.Kn [⟨.tmp 4, false, [.int .i64]⟩] 30 jY := F30.mn Tryz.func30 fun x => by kernel_rfl
def XJ := kv (.bQ, .shr, .shr) k30
def IX : FC Tryz.prog := ⟨dO, [], fR, Tryz.f107, [vl [.shr im], vl [.int .i64]]⟩
noncomputable def oY (a0 : aG) (k1 i5 : Int) : Option (Sum MG (Sum (Int × Unit) (Int × Unit))) := bif decide (i5 < (a0.length : Int)) then bif decide (0 ≤ i5) then Option.bind ((a0)[i5.toNat]?) fun r1 => bif !decide (r1.1 = k1) then some (.inr (.inr ((-1), ()))) else some (.inl (a0, i64.wrap (k1 + 1), i64.wrap (i5 + 1), ())) else none else some (.inr (.inl (k1, ())))
noncomputable def hF (x : MG) : Option (Sum MG (Sum (Int × Unit) (Int × Unit))) := oY x.1 x.2.1 x.2.2.1
def Q0 : LD := ⟨0, IX.lp 0, sp [(0, vl [.shr im]), (0, vl [.int .i64]), (3, vl [.int .i64])] 16, sp [(1, vl [.int .i64])] 20, sp [(4, vl [.int .i64])] 17, hF⟩
theorem Q1 : IX.Ok Q0 := IX.mm fun x => by kernel_rfl
def Q2 : IX.KL := ⟨_, Q1⟩
noncomputable def eD (a0 : aG) (k1 : Int) : Option (Int × Unit) := cM (aD hF (a0, k1, 0, ())) (fun y1 => some (y1.1, ())) (fun y2 => some (y2.1, ()))
theorem abP : IX.Kn [⟨.tmp 4, false, [.int .i64]⟩] 107 eD := IX.kf [Q2] Tryz.func107 (by kernel_rfl) (by kernel_rfl) fun x => by kernel_rfl
def MU := kw abP
def F92 : FC Tryz.prog := ⟨dO, [MU], fR, Tryz.f92, [va wu, vl [.int .i64]]⟩
noncomputable def me (aU : Int) (aM : aG) (k1 : Int) : Option (Int × Unit) := Option.bind (eD aM k1) fun y1 => bif decide (y1.1 < 0) then some ((-1), ()) else some (y1.1, ())
theorem k92 : F92.Kn [⟨.tmp 4, false, [.int .i64]⟩] 92 me := F92.mn Tryz.func92 fun x => by kernel_rfl
def K92 := kw k92
def Sm : FC Tryz.prog := ⟨dO, [IV], dr 13 (.a 0 (.a 1 (.a 2 (.a 3 (.t 4 (.a 5 (.o 6 (.a 7 .nil)))))))), Tryz.f39, [vl [.shr aC], vl [.int .i64]]⟩
noncomputable def nU (a0 : ak) (k1 i5 : Int) : Option (Sum Ju (Sum (Int × Unit) (Int × Unit))) := bif decide (i5 < (a0.length : Int)) then bif decide (0 ≤ i5) then Option.bind ((a0)[i5.toNat]?) fun r1 => bif !decide (r1.1 = k1) then some (.inr (.inr ((-1), ()))) else bif decide (0 ≤ i5) then Option.bind ((a0)[i5.toNat]?) fun r2 => bif !decide (r2.2.1 = i64.wrap (k1 + 1)) then some (.inr (.inr ((-1), ()))) else bif decide (0 ≤ i5) then Option.bind ((a0)[i5.toNat]?) fun r3 => bif !decide (r3.2.2.1 = i64.wrap ((i64.wrap (k1 + 1)) + 1)) then some (.inr (.inr ((-1), ()))) else bif decide (0 ≤ i5) then Option.bind ((a0)[i5.toNat]?) fun r4 => Option.bind (dM (i64.wrap ((i64.wrap ((i64.wrap (k1 + 1)) + 1)) + 1))) fun y5 => bif !pC r4.2.2.2.1 y5.1 then some (.inr (.inr ((-1), ()))) else some (.inl (a0, i64.wrap ((i64.wrap ((i64.wrap ((i64.wrap (k1 + 1)) + 1)) + 1)) + 1), i64.wrap (i5 + 1), ())) else none else none else none else none else some (.inr (.inl (k1, ())))
noncomputable def gd (x : Ju) : Option (Sum Ju (Sum (Int × Unit) (Int × Unit))) := nU x.1 x.2.1 x.2.2.1
def Wp : LD := ⟨0, Sm.lp 0, sp [(0, vl [.shr aC]), (0, vl [.int .i64]), (3, vl [.int .i64])] 45, sp [(1, vl [.int .i64])] 49, sp [(4, vl [.int .i64])] 46, gd⟩
theorem Wq : Sm.Ok Wp := Sm.mm fun x => by kernel_rfl
def Wr : Sm.KL := ⟨_, Wq⟩
noncomputable def js (a0 : ak) (k1 : Int) : Option (Int × Unit) := cM (aD gd (a0, k1, 0, ())) (fun y1 => some (y1.1, ())) (fun y2 => some (y2.1, ()))
theorem k39 : Sm.Kn [⟨.tmp 4, false, [.int .i64]⟩] 39 js := Sm.kf [Wr] Tryz.func39 (by kernel_rfl) (by kernel_rfl) fun x => by kernel_rfl
def K39 := kw k39
def IY : FC Tryz.prog := ⟨dO, [IV], dr 4 (.a 0 (.a 1 (.a 2 (.t 3 (.a 4 (.o 5 (.a 6 .nil))))))), Tryz.f167, [vl [.shr uo], vl [.int .i64]]⟩
noncomputable def lP (a0 : hZ) (k1 i5 : Int) : Option (Sum Jv (Sum (Int × Unit) (Int × Unit))) := bif decide (i5 < (a0.length : Int)) then bif decide (0 ≤ i5) then Option.bind ((a0)[i5.toNat]?) fun r1 => Option.bind (dM k1) fun y2 => bif !pC r1.1 y2.1 then some (.inr (.inr ((-1), ()))) else some (.inl (a0, i64.wrap (k1 + 1), i64.wrap (i5 + 1), ())) else none else some (.inr (.inl (k1, ())))
noncomputable def eS (x : Jv) : Option (Sum Jv (Sum (Int × Unit) (Int × Unit))) := lP x.1 x.2.1 x.2.2.1
def Q3 : LD := ⟨0, IY.lp 0, sp [(0, vl [.shr uo]), (0, vl [.int .i64]), (3, vl [.int .i64])] 17, sp [(1, vl [.int .i64])] 21, sp [(4, vl [.int .i64])] 18, eS⟩
theorem Q4 : IY.Ok Q3 := IY.mm fun x => by kernel_rfl
def Q5 : IY.KL := ⟨_, Q4⟩
noncomputable def lC (a0 : hZ) (k1 : Int) : Option (Int × Unit) := cM (aD eS (a0, k1, 0, ())) (fun y1 => some (y1.1, ())) (fun y2 => some (y2.1, ()))
theorem abQ : IY.Kn [⟨.tmp 4, false, [.int .i64]⟩] 167 lC := IY.kf [Q5] Tryz.func167 (by kernel_rfl) (by kernel_rfl) fun x => by kernel_rfl
def abR := kw abQ
def F40 : FC Tryz.prog := ⟨dO, [MU], fR, Tryz.f40, [va Fi, vl [.int .i64]]⟩
noncomputable def nV (aU aM aN aH bc : Int) (aS : aG) (k1 : Int) : Option (Int × Unit) := Option.bind (eD aS k1) fun y1 => bif decide (y1.1 < 0) then some ((-1), ()) else some (y1.1, ())
theorem k40 : F40.Kn [⟨.tmp 4, false, [.int .i64]⟩] 40 nV := F40.mn Tryz.func40 fun x => by kernel_rfl
def K40 := kw k40
def F91 : FC Tryz.prog := ⟨dO, [K92, K39, MU, abR, K40], fR, Tryz.f91, [va Ig, vl [.int .i64]]⟩
noncomputable def py (aU aM : Int) (aN : aG) (aH : ak) (bc : aG) (aS : hZ) (bS bM fy fA cB cC cD cE cF : Int) (bC : aG) (k1 : Int) : Option (Int × Unit) := Option.bind (me aM aN k1) fun y1 => bif decide (y1.1 < 0) then some ((-1), ()) else Option.bind (js aH y1.1) fun y2 => bif decide (y2.1 < 0) then some ((-1), ()) else Option.bind (eD bc y2.1) fun y3 => bif decide (y3.1 < 0) then some ((-1), ()) else Option.bind (lC aS y3.1) fun y4 => bif decide (y4.1 < 0) then some ((-1), ()) else Option.bind (nV cB cC cD cE cF bC y4.1) fun y5 => bif decide (y5.1 < 0) then some ((-1), ()) else some (y5.1, ())
theorem k91 : F91.Kn [⟨.tmp 4, false, [.int .i64]⟩] 91 py := F91.mn Tryz.func91 fun x => by kernel_rfl
def K91 := kw k91
def Sn : FC Tryz.prog := ⟨dO, [K39], fR, Tryz.f24, [vl vB, vl [.int .i64]]⟩
noncomputable def lQ (a0 : af) (k1 i5 : Int) : Option (Sum MB (Sum (Int × Unit) (Int × Unit))) := bif decide (i5 < (a0.length : Int)) then bif decide (0 ≤ i5) then Option.bind ((a0)[i5.toNat]?) fun r1 => bif !decide (r1.1 = k1) then some (.inr (.inr ((-1), ()))) else bif decide (0 ≤ i5) then Option.bind ((a0)[i5.toNat]?) fun r2 => bif !decide (r2.2.1 = i64.wrap (k1 + 1)) then some (.inr (.inr ((-1), ()))) else bif decide (0 ≤ i5) then Option.bind ((a0)[i5.toNat]?) fun r3 => bif !decide (r3.2.2.1 = i64.wrap ((i64.wrap (k1 + 1)) + 1)) then some (.inr (.inr ((-1), ()))) else bif decide (0 ≤ i5) then Option.bind ((a0)[i5.toNat]?) fun r4 => Option.bind (js r4.2.2.2.1 (i64.wrap ((i64.wrap ((i64.wrap (k1 + 1)) + 1)) + 1))) fun y5 => bif decide (y5.1 < 0) then some (.inr (.inr ((-1), ()))) else some (.inl (a0, y5.1, i64.wrap (i5 + 1), ())) else none else none else none else none else some (.inr (.inl (k1, ())))
noncomputable def eT (x : MB) : Option (Sum MB (Sum (Int × Unit) (Int × Unit))) := lQ x.1 x.2.1 x.2.2.1
def Ws : LD := ⟨0, Sn.lp 0, sp [(0, vl vB), (0, vl [.int .i64]), (3, vl [.int .i64])] 44, sp [(1, vl [.int .i64])] 48, sp [(4, vl [.int .i64])] 45, eT⟩
theorem Wt : Sn.Ok Ws := Sn.mm fun x => by kernel_rfl
def Wu : Sn.KL := ⟨_, Wt⟩
noncomputable def lD (a0 : af) (k1 : Int) : Option (Int × Unit) := cM (aD eT (a0, k1, 0, ())) (fun y1 => some (y1.1, ())) (fun y2 => some (y2.1, ()))
theorem k24 : Sn.Kn [⟨.tmp 4, false, [.int .i64]⟩] 24 lD := Sn.kf [Wu] Tryz.func24 (by kernel_rfl) (by kernel_rfl) fun x => by kernel_rfl
def LX := kw k24
end
end Go.TM
