/- What the functions answer, as terms; their contracts. -/
import Derived.Test.YtcjjcfjlnhoaoaaGreatMBase
set_option linter.unusedSimpArgs false
set_option linter.unusedVariables false
namespace Go.TM
open Go Go.RowKit Go.Proofs
open Go.IntKind (i64)
noncomputable section
def F21:FC Tryz.prog:=⟨eH,[],gR,Tryz.f21,[vl [.shr fX],vl [.int .i64]]⟩
noncomputable def ln (a0:aH) (ew:Int):Option (Int×Unit):=bif decide (i64.wrap (ew-(a0.length:Int))<0) then some ((-1),()) else some (i64.wrap (ew-(a0.length:Int)),())
theorem k21:F21.Kn [⟨.tmp 4,false,[.int .i64]⟩] 21 ln:=F21.nL Tryz.func21 fun x=>by kernel_rfl
def K21:=kw k21
def F5:FC Tryz.prog:=⟨eH,[K21],gR,Tryz.f5,[va vd,vl [.int .i64]]⟩
noncomputable def jU (bf:Int) (aQ:aH) (ew:Int):Option (Int×Unit):=Option.bind (ln aQ ew) fun y1=>bif decide (y1.1<0) then some ((-1),()) else some (y1.1,())
theorem k5:F5.Kn [⟨.tmp 4,false,[.int .i64]⟩] 5 jU:=F5.nL Tryz.func5 fun x=>by kernel_rfl
def K5:=kw k5
def Xs:FC Tryz.prog:=⟨eH,[],gR,Tryz.f101,[va CJ,vl [.int .i64]]⟩
noncomputable def pQ (bf aQ aS:Int) (aO:ByteArray) (ew:Int):Option (Int×Unit):=bif decide (i64.wrap (ew-(aO.size:Int))<0) then some ((-1),()) else some (i64.wrap (ew-(aO.size:Int)),())
theorem ad8:Xs.Kn [⟨.tmp 4,false,[.int .i64]⟩] 101 pQ:=Xs.nL Tryz.func101 fun x=>by kernel_rfl
def Xt:=kw ad8
def Vf:FC Tryz.prog:=⟨eH,[Xt],gR,Tryz.f54,[vl [.shr aD],vl [.int .i64]]⟩
noncomputable def qb (a0:aj) (ew i5:Int):Option (Sum MH (Sum (Int×Unit) (Int×Unit))):=bif decide (i5<(a0.length:Int)) then bif decide (0≤i5) then Option.bind ((a0)[i5.toNat]?) fun r1=>Option.bind (pQ r1.1 r1.2.1 r1.2.2.1 r1.2.2.2.1 ew) fun y2=>bif decide (y2.1<0) then some (.inr (.inr ((-1),()))) else some (.inl (a0,y2.1,i64.wrap (i5+1),())) else none else some (.inr (.inl (ew,())))
noncomputable def kh (x:MH):Option (Sum MH (Sum (Int×Unit) (Int×Unit))):=qb x.1 x.2.1 x.2.2.1
def Xu:LD:=⟨0,Vf.lp 0,sp [(0,vl [.shr aD]),(0,vl [.int .i64]),(3,vl [.int .i64])] 22,sp [(1,vl [.int .i64])] 26,sp [(4,vl [.int .i64])] 23,kh⟩
theorem Xv:Vf.Ok Xu:=Vf.mY fun x=>by kernel_rfl
def Xw:Vf.KL:=⟨_,Xv⟩
noncomputable def nM (a0:aj) (ew:Int):Option (Int×Unit):=bif decide (i64.wrap (ew-(a0.length:Int))<0) then some ((-1),()) else cT (aG kh (a0,i64.wrap (ew-(a0.length:Int)),0,())) (fun y1=>some (y1.1,())) (fun y2=>some (y2.1,()))
theorem k54:Vf.Kn [⟨.tmp 4,false,[.int .i64]⟩] 54 nM:=Vf.kf [Xw] Tryz.func54 (by kernel_rfl) (by kernel_rfl) fun x=>by kernel_rfl
def K54:=kw k54
def Vg:FC Tryz.prog:=⟨eH,[],gR,Tryz.f55,[vl [.shr tj],vl [.int .i64]]⟩
noncomputable def nN (a0:fE) (ew i5:Int):Option (Sum MI (Sum (Int×Unit) (Int×Unit))):=bif decide (i5<(a0.length:Int)) then bif decide (0≤i5) then Option.bind ((a0)[i5.toNat]?) fun r1=>bif decide (i64.wrap (ew-(r1.1.size:Int))<0) then some (.inr (.inr ((-1),()))) else some (.inl (a0,i64.wrap (ew-(r1.1.size:Int)),i64.wrap (i5+1),())) else none else some (.inr (.inl (ew,())))
noncomputable def iX (x:MI):Option (Sum MI (Sum (Int×Unit) (Int×Unit))):=nN x.1 x.2.1 x.2.2.1
def Xx:LD:=⟨0,Vg.lp 0,sp [(0,vl [.shr tj]),(0,vl [.int .i64]),(3,vl [.int .i64])] 23,sp [(1,vl [.int .i64])] 27,sp [(4,vl [.int .i64])] 24,iX⟩
theorem Xy:Vg.Ok Xx:=Vg.mY fun x=>by kernel_rfl
def Xz:Vg.KL:=⟨_,Xy⟩
noncomputable def nO (a0:fE) (ew:Int):Option (Int×Unit):=bif decide (i64.wrap (ew-(a0.length:Int))<0) then some ((-1),()) else cT (aG iX (a0,i64.wrap (ew-(a0.length:Int)),0,())) (fun y1=>some (y1.1,())) (fun y2=>some (y2.1,()))
theorem k55:Vg.Kn [⟨.tmp 4,false,[.int .i64]⟩] 55 nO:=Vg.kf [Xz] Tryz.func55 (by kernel_rfl) (by kernel_rfl) fun x=>by kernel_rfl
def K55:=kw k55
def F56:FC Tryz.prog:=⟨eH,[K21],gR,Tryz.f56,[va HF,vl [.int .i64]]⟩
noncomputable def qG (bf aQ aS aO bk:Int) (aW:aH) (ew:Int):Option (Int×Unit):=Option.bind (ln aW ew) fun y1=>bif decide (y1.1<0) then some ((-1),()) else some (y1.1,())
theorem k56:F56.Kn [⟨.tmp 4,false,[.int .i64]⟩] 56 qG:=F56.nL Tryz.func56 fun x=>by kernel_rfl
def K56:=kw k56
def F18:FC Tryz.prog:=⟨eH,[K5,K54,K21,K55,K56],gR,Tryz.f18,[va Lw,vl [.int .i64]]⟩
noncomputable def si (bf aQ:Int) (aS:aH) (aO:aj) (bk:aH) (aW:fE) (cu cg fL fM cK cL cM cN cO:Int) (bU:aH) (ew:Int):Option (Int×Unit):=Option.bind (jU aQ aS ew) fun y1=>bif decide (y1.1<0) then some ((-1),()) else Option.bind (nM aO y1.1) fun y2=>bif decide (y2.1<0) then some ((-1),()) else Option.bind (ln bk y2.1) fun y3=>bif decide (y3.1<0) then some ((-1),()) else Option.bind (nO aW y3.1) fun y4=>bif decide (y4.1<0) then some ((-1),()) else Option.bind (qG cK cL cM cN cO bU y4.1) fun y5=>bif decide (y5.1<0) then some ((-1),()) else some (y5.1,())
theorem k18:F18.Kn [⟨.tmp 4,false,[.int .i64]⟩] 18 si:=F18.nL Tryz.func18 fun x=>by kernel_rfl
def K18:=kw k18
def F57:FC Tryz.prog:=⟨eH,[K54],gR,Tryz.f57,[va HG,vl [.int .i64]]⟩
noncomputable def pr (bf aQ aS:Int) (aO:aj) (ew:Int):Option (Int×Unit):=Option.bind (nM aO ew) fun y1=>bif decide (y1.1<0) then some ((-1),()) else some (y1.1,())
theorem k57:F57.Kn [⟨.tmp 4,false,[.int .i64]⟩] 57 pr:=F57.nL Tryz.func57 fun x=>by kernel_rfl
def K57:=kw k57
def Vh:FC Tryz.prog:=⟨eH,[K57],gR,Tryz.f19,[vl yw,vl [.int .i64]]⟩
noncomputable def nP (a0:af) (ew i5:Int):Option (Sum Qp (Sum (Int×Unit) (Int×Unit))):=bif decide (i5<(a0.length:Int)) then bif decide (0≤i5) then Option.bind ((a0)[i5.toNat]?) fun r1=>Option.bind (pr r1.1 r1.2.1 r1.2.2.1 r1.2.2.2.1 ew) fun y2=>bif decide (y2.1<0) then some (.inr (.inr ((-1),()))) else some (.inl (a0,y2.1,i64.wrap (i5+1),())) else none else some (.inr (.inl (ew,())))
noncomputable def iY (x:Qp):Option (Sum Qp (Sum (Int×Unit) (Int×Unit))):=nP x.1 x.2.1 x.2.2.1
def XA:LD:=⟨0,Vh.lp 0,sp [(0,vl yw),(0,vl [.int .i64]),(3,vl [.int .i64])] 22,sp [(1,vl [.int .i64])] 26,sp [(4,vl [.int .i64])] 23,iY⟩
theorem XB:Vh.Ok XA:=Vh.mY fun x=>by kernel_rfl
def XC:Vh.KL:=⟨_,XB⟩
noncomputable def nQ (a0:af) (ew:Int):Option (Int×Unit):=bif decide (i64.wrap (ew-(a0.length:Int))<0) then some ((-1),()) else cT (aG iY (a0,i64.wrap (ew-(a0.length:Int)),0,())) (fun y1=>some (y1.1,())) (fun y2=>some (y2.1,()))
theorem k19:Vh.Kn [⟨.tmp 4,false,[.int .i64]⟩] 19 nQ:=Vh.kf [XC] Tryz.func19 (by kernel_rfl) (by kernel_rfl) fun x=>by kernel_rfl
def K19:=kw k19
def F58:FC Tryz.prog:=⟨eH,[K5,Xt,K21],gR,Tryz.f58,[va Xm,vl [.int .i64]]⟩
noncomputable def qH (bf aQ:Int) (aS:aH) (aO bk aW:Int) (cu:ByteArray) (cg:aH) (ew:Int):Option (Int×Unit):=Option.bind (jU aQ aS ew) fun y1=>bif decide (y1.1<0) then some ((-1),()) else Option.bind (pQ aO bk aW cu y1.1) fun y2=>bif decide (y2.1<0) then some ((-1),()) else Option.bind (ln cg y2.1) fun y3=>bif decide (y3.1<0) then some ((-1),()) else some (y3.1,())
theorem k58:F58.Kn [⟨.tmp 4,false,[.int .i64]⟩] 58 qH:=F58.nL Tryz.func58 fun x=>by kernel_rfl
def K58:=kw k58
def Vi:FC Tryz.prog:=⟨eH,[K58],gR,Tryz.f20,[vl JT,vl [.int .i64]]⟩
noncomputable def oV (a0:ai) (ew i5:Int):Option (Sum Qq (Sum (Int×Unit) (Int×Unit))):=bif decide (i5<(a0.length:Int)) then bif decide (0≤i5) then Option.bind ((a0)[i5.toNat]?) fun r1=>Option.bind (qH r1.1 r1.2.1 r1.2.2.1 r1.2.2.2.1 r1.2.2.2.2.1 r1.2.2.2.2.2.1 r1.2.2.2.2.2.2.1 r1.2.2.2.2.2.2.2.1 ew) fun y2=>bif decide (y2.1<0) then some (.inr (.inr ((-1),()))) else some (.inl (a0,y2.1,i64.wrap (i5+1),())) else none else some (.inr (.inl (ew,())))
noncomputable def jC (x:Qq):Option (Sum Qq (Sum (Int×Unit) (Int×Unit))):=oV x.1 x.2.1 x.2.2.1
def XD:LD:=⟨0,Vi.lp 0,sp [(0,vl JT),(0,vl [.int .i64]),(3,vl [.int .i64])] 22,sp [(1,vl [.int .i64])] 26,sp [(4,vl [.int .i64])] 23,jC⟩
theorem XE:Vi.Ok XD:=Vi.mY fun x=>by kernel_rfl
def XF:Vi.KL:=⟨_,XE⟩
noncomputable def pt (a0:ai) (ew:Int):Option (Int×Unit):=bif decide (i64.wrap (ew-(a0.length:Int))<0) then some ((-1),()) else cT (aG jC (a0,i64.wrap (ew-(a0.length:Int)),0,())) (fun y1=>some (y1.1,())) (fun y2=>some (y2.1,()))
theorem k20:Vi.Kn [⟨.tmp 4,false,[.int .i64]⟩] 20 pt:=Vi.kf [XF] Tryz.func20 (by kernel_rfl) (by kernel_rfl) fun x=>by kernel_rfl
def K20:=kw k20
def F4:FC Tryz.prog:=⟨eH,[K18,K5,K19,K20],gR,Tryz.f4,[va FK,vl [.int .i64]]⟩
noncomputable def mL (bf:Int) (aQ:Bool) (aS aO:Int) (bk:aH) (aW:aj) (cu:aH) (cg:fE) (fL fM cK cL cM cN cO bU iK:Int) (dt:aH) (lq lr iL:Int) (dz:aH) (dA:af) (dJ:ai) (ew:Int):Option (Int×Unit):=Option.bind (si aS aO bk aW cu cg fL fM cK cL cM cN cO bU iK dt ew) fun y1=>bif decide (y1.1<0) then some ((-1),()) else Option.bind (jU iL dz y1.1) fun y2=>bif decide (y2.1<0) then some ((-1),()) else Option.bind (nQ dA y2.1) fun y3=>bif decide (y3.1<0) then some ((-1),()) else Option.bind (pt dJ y3.1) fun y4=>bif decide (y4.1<0) then some ((-1),()) else some (y4.1,())
theorem k4:F4.Kn [⟨.tmp 4,false,[.int .i64]⟩] 4 mL:=F4.nL Tryz.func4 fun x=>by kernel_rfl
def K4:=kw k4
def Vj:FC Tryz.prog:=⟨eH,[],gR,Tryz.f33,[vl [.shr fX]]⟩
noncomputable def rE (a0 eA:aH) (i4:Int):Option (Sum Qr (Sum (aH×Unit) Unit)):=bif decide (i4<(a0.length:Int)) then bif decide (0≤i4) then Option.bind ((a0)[i4.toNat]?) fun r1=>bif decide (0≤i4) then bif Nat.blt (i4.toNat) (List.length eA) then Option.bind ((eA)[i4.toNat]?) fun r2=>some (.inl (a0,List.set eA (i4.toNat) (r1.1,()),i64.wrap (i4+1),())) else none else none else none else some (.inr (.inl (eA,())))
noncomputable def jD (x:Qr):Option (Sum Qr (Sum (aH×Unit) Unit)):=rE x.1 x.2.1 x.2.2.1
def XG:LD:=⟨0,Vj.lp 0,sp [(0,vl [.shr fX]),(2,vl [.own fX]),(0,vl [.int .i64])] 18,sp [(3,vl [.own fX])] 19,sp [] 23,jD⟩
theorem XH:Vj.Ok XG:=Vj.mY fun x=>by kernel_rfl
def XI:Vj.KL:=⟨_,XH⟩
noncomputable def lu (a0:aH):Option (aH×Unit):=bif decide ((a0.length:Int)=(a0.length:Int)) then bif decide (0≤(a0.length:Int)) then bif Nat.ble (((a0.length:Int).toNat)*8) lim then cT (aG jD (a0,List.replicate ((a0.length:Int).toNat) (0,()),0,())) (fun y1=>some (y1.1,())) (fun y2=>none) else none else none else none
theorem k33:Vj.Kn [⟨.tmp 2,false,[.own fX]⟩] 33 lu:=Vj.kf [XI] Tryz.func33 (by kernel_rfl) (by kernel_rfl) fun x=>by kernel_rfl
def S5:=kw k33
def F8:FC Tryz.prog:=⟨eH,[S5],gR,Tryz.f8,[va vd]⟩
noncomputable def db (bf:Int) (aQ:aH):Option (Int×aH×Unit):=Option.bind (lu aQ) fun y1=>some (bf,y1.1,())
theorem k8:F8.Kn [⟨.cell 2,true,Qv⟩] 8 db:=F8.nL Tryz.func8 fun x=>by kernel_rfl
def K8:=kw k8
def XJ:FC Tryz.prog:=⟨eH,[],gR,Tryz.f110,[va CJ]⟩
noncomputable def sj (bf aQ aS:Int) (aO:ByteArray):Option (nd):=some (bf,aQ,aS,aO,())
theorem ad9:XJ.Kn [⟨.cell 2,true,CJ⟩] 110 sj:=XJ.nL Tryz.func110 fun x=>by kernel_rfl
def XK:=kw ad9
def Vk:FC Tryz.prog:=⟨eH,[XK],gR,Tryz.f71,[vl [.shr aD]]⟩
noncomputable def qc (a0 eA:aj) (i4:Int):Option (Sum Vb (Sum (aj×Unit) Unit)):=bif decide (i4<(a0.length:Int)) then bif decide (0≤i4) then Option.bind ((a0)[i4.toNat]?) fun r1=>Option.bind (sj r1.1 r1.2.1 r1.2.2.1 r1.2.2.2.1) fun y2=>bif decide (0≤i4) then bif Nat.blt (i4.toNat) (List.length eA) then Option.bind ((eA)[i4.toNat]?) fun r3=>some (.inl (a0,List.set eA (i4.toNat) (y2.1,y2.2.1,y2.2.2.1,y2.2.2.2.1,()),i64.wrap (i4+1),())) else none else none else none else some (.inr (.inl (eA,())))
noncomputable def iO (x:Vb):Option (Sum Vb (Sum (aj×Unit) Unit)):=qc x.1 x.2.1 x.2.2.1
def XL:LD:=⟨0,Vk.lp 0,sp [(0,vl [.shr aD]),(2,vl [.own aD]),(0,vl [.int .i64])] 19,sp [(3,vl [.own aD])] 20,sp [] 24,iO⟩
theorem XM:Vk.Ok XL:=Vk.mY fun x=>by kernel_rfl
def XN:Vk.KL:=⟨_,XM⟩
noncomputable def nR (a0:aj):Option (aj×Unit):=bif decide ((a0.length:Int)=(a0.length:Int)) then bif decide (0≤(a0.length:Int)) then bif Nat.ble (((a0.length:Int).toNat)*40) lim then cT (aG iO (a0,List.replicate ((a0.length:Int).toNat) (0,0,0,ByteArray.empty,()),0,())) (fun y1=>some (y1.1,())) (fun y2=>none) else none else none else none
theorem k71:Vk.Kn [⟨.tmp 2,false,[.own aD]⟩] 71 nR:=Vk.kf [XN] Tryz.func71 (by kernel_rfl) (by kernel_rfl) fun x=>by kernel_rfl
def K71:=kw k71
def Vl:FC Tryz.prog:=⟨eH,[],gR,Tryz.f72,[vl [.shr tj]]⟩
noncomputable def nS (a0 eA:fE) (i4:Int):Option (Sum Vc (Sum (fE×Unit) Unit)):=bif decide (i4<(a0.length:Int)) then bif decide (0≤i4) then Option.bind ((a0)[i4.toNat]?) fun r1=>bif decide (0≤i4) then bif Nat.blt (i4.toNat) (List.length eA) then Option.bind ((eA)[i4.toNat]?) fun r2=>some (.inl (a0,List.set eA (i4.toNat) (r1.1,()),i64.wrap (i4+1),())) else none else none else none else some (.inr (.inl (eA,())))
noncomputable def gu (x:Vc):Option (Sum Vc (Sum (fE×Unit) Unit)):=nS x.1 x.2.1 x.2.2.1
def XO:LD:=⟨0,Vl.lp 0,sp [(0,vl [.shr tj]),(2,vl [.own tj]),(0,vl [.int .i64])] 18,sp [(3,vl [.own tj])] 19,sp [] 23,gu⟩
theorem XP:Vl.Ok XO:=Vl.mY fun x=>by kernel_rfl
def XQ:Vl.KL:=⟨_,XP⟩
noncomputable def nT (a0:fE):Option (fE×Unit):=bif decide ((a0.length:Int)=(a0.length:Int)) then bif decide (0≤(a0.length:Int)) then bif Nat.ble (((a0.length:Int).toNat)*16) lim then cT (aG gu (a0,List.replicate ((a0.length:Int).toNat) (ByteArray.empty,()),0,())) (fun y1=>some (y1.1,())) (fun y2=>none) else none else none else none
theorem k72:Vl.Kn [⟨.tmp 2,false,[.own tj]⟩] 72 nT:=Vl.kf [XQ] Tryz.func72 (by kernel_rfl) (by kernel_rfl) fun x=>by kernel_rfl
def K72:=kw k72
def F73:FC Tryz.prog:=⟨eH,[S5],gR,Tryz.f73,[va HF]⟩
noncomputable def qI (bf aQ aS aO bk:Int) (aW:aH):Option (nf):=Option.bind (lu aW) fun y1=>some (bf,aQ,aS,aO,bk,y1.1,())
theorem k73:F73.Kn [⟨.cell 2,true,Qw⟩] 73 qI:=F73.nL Tryz.func73 fun x=>by kernel_rfl
def K73:=kw k73
def F30:FC Tryz.prog:=⟨eH,[K8,K71,S5,K72,K73],gR,Tryz.f30,[va Lw]⟩
noncomputable def sk (bf aQ:Int) (aS:aH) (aO:aj) (bk:aH) (aW:fE) (cu cg fL fM cK cL cM cN cO:Int) (bU:aH):Option (bV):=Option.bind (db aQ aS) fun y1=>Option.bind (nR aO) fun y2=>Option.bind (lu bk) fun y3=>Option.bind (nT aW) fun y4=>Option.bind (qI cK cL cM cN cO bU) fun y5=>some (bf,y1.1,y1.2.1,y2.1,y3.1,y4.1,cu,cg,fL,fM,y5)
theorem k30:F30.Kn [⟨.cell 2,true,Lx⟩] 30 sk:=F30.nL Tryz.func30 fun x=>by kernel_rfl
def K30:=kw k30
def F74:FC Tryz.prog:=⟨eH,[K71],gR,Tryz.f74,[va HG]⟩
noncomputable def pv (bf aQ aS:Int) (aO:aj):Option (cB):=Option.bind (nR aO) fun y1=>some (bf,aQ,aS,y1.1,())
theorem k74:F74.Kn [⟨.cell 2,true,It⟩] 74 pv:=F74.nL Tryz.func74 fun x=>by kernel_rfl
def K74:=kw k74
def Vm:FC Tryz.prog:=⟨eH,[K74],gR,Tryz.f31,[vl yw]⟩
noncomputable def nU (a0 eA:af) (i4:Int):Option (Sum Qs (Sum (af×Unit) Unit)):=bif decide (i4<(a0.length:Int)) then bif decide (0≤i4) then Option.bind ((a0)[i4.toNat]?) fun r1=>Option.bind (pv r1.1 r1.2.1 r1.2.2.1 r1.2.2.2.1) fun y2=>bif decide (0≤i4) then bif Nat.blt (i4.toNat) (List.length eA) then Option.bind ((eA)[i4.toNat]?) fun _=>some (.inl (a0,List.set eA (i4.toNat) (y2.1,y2.2.1,y2.2.2.1,y2.2.2.2.1,()),i64.wrap (i4+1),())) else none else none else none else some (.inr (.inl (eA,())))
noncomputable def gv (x:Qs):Option (Sum Qs (Sum (af×Unit) Unit)):=nU x.1 x.2.1 x.2.2.1
def XR:LD:=⟨0,Vm.lp 0,sp [(0,vl yw),(2,vl zo),(0,vl [.int .i64])] 19,sp [(3,vl zo)] 20,sp [] 24,gv⟩
theorem XS:Vm.Ok XR:=Vm.mY fun x=>by kernel_rfl
def XT:Vm.KL:=⟨_,XS⟩
noncomputable def nV (a0:af):Option (af×Unit):=bif decide ((a0.length:Int)=(a0.length:Int)) then bif decide (0≤(a0.length:Int)) then bif Nat.ble (((a0.length:Int).toNat)*48) lim then cT (aG gv (a0,List.replicate ((a0.length:Int).toNat) (0,0,0,[],()),0,())) (fun y1=>some (y1.1,())) (fun y2=>none) else none else none else none
theorem k31:Vm.Kn [⟨.tmp 2,false,zo⟩] 31 nV:=Vm.kf [XT] Tryz.func31 (by kernel_rfl) (by kernel_rfl) fun x=>by kernel_rfl
def bB:=kw k31
def F75:FC Tryz.prog:=⟨eH,[K8,XK,S5],gR,Tryz.f75,[va Xm]⟩
noncomputable def qJ (bf aQ:Int) (aS:aH) (aO bk aW:Int) (cu:ByteArray) (cg:aH):Option (bX):=Option.bind (db aQ aS) fun y1=>Option.bind (sj aO bk aW cu) fun y2=>Option.bind (lu cg) fun y3=>some (bf,y1.1,y1.2.1,y2.1,y2.2.1,y2.2.2.1,y2.2.2.2.1,y3.1,())
theorem k75:F75.Kn [⟨.cell 2,true,Xn⟩] 75 qJ:=F75.nL Tryz.func75 fun x=>by kernel_rfl
def K75:=kw k75
def Vn:FC Tryz.prog:=⟨eH,[K75],gR,Tryz.f32,[vl JT]⟩
noncomputable def oW (a0 eA:ai) (i4:Int):Option (Sum Qt (Sum (ai×Unit) Unit)):=bif decide (i4<(a0.length:Int)) then bif decide (0≤i4) then Option.bind ((a0)[i4.toNat]?) fun r1=>Option.bind (qJ r1.1 r1.2.1 r1.2.2.1 r1.2.2.2.1 r1.2.2.2.2.1 r1.2.2.2.2.2.1 r1.2.2.2.2.2.2.1 r1.2.2.2.2.2.2.2.1) fun y2=>bif decide (0≤i4) then bif Nat.blt (i4.toNat) (List.length eA) then Option.bind ((eA)[i4.toNat]?) fun _=>some (.inl (a0,List.set eA (i4.toNat) (y2.1,y2.2.1,y2.2.2.1,y2.2.2.2.1,y2.2.2.2.2.1,y2.2.2.2.2.2.1,y2.2.2.2.2.2.2.1,y2.2.2.2.2.2.2.2.1,()),i64.wrap (i4+1),())) else none else none else none else some (.inr (.inl (eA,())))
noncomputable def ib (x:Qt):Option (Sum Qt (Sum (ai×Unit) Unit)):=oW x.1 x.2.1 x.2.2.1
def XU:LD:=⟨0,Vn.lp 0,sp [(0,vl JT),(2,vl EJ),(0,vl [.int .i64])] 19,sp [(3,vl EJ)] 20,sp [] 24,ib⟩
theorem XW:Vn.Ok XU:=Vn.mY fun x=>by kernel_rfl
def XX:Vn.KL:=⟨_,XW⟩
noncomputable def pw (a0:ai):Option (ai×Unit):=bif decide ((a0.length:Int)=(a0.length:Int)) then bif decide (0≤(a0.length:Int)) then bif Nat.ble (((a0.length:Int).toNat)*104) lim then cT (aG ib (a0,List.replicate ((a0.length:Int).toNat) (0,0,[],0,0,0,ByteArray.empty,[],()),0,())) (fun y1=>some (y1.1,())) (fun y2=>none) else none else none else none
theorem k32:Vn.Kn [⟨.tmp 2,false,EJ⟩] 32 pw:=Vn.kf [XX] Tryz.func32 (by kernel_rfl) (by kernel_rfl) fun x=>by kernel_rfl
def PA:=kw k32
def F7:FC Tryz.prog:=⟨eH,[K30,K8,bB,PA],gR,Tryz.f7,[va FK]⟩
noncomputable def hF (bf:Int) (aQ:Bool) (aS aO:Int) (bk:aH) (aW:aj) (cu:aH) (cg:fE) (fL fM cK cL cM cN cO bU iK:Int) (dt:aH) (lq lr iL:Int) (dz:aH) (dA:af) (dJ:ai):Option (ae):=Option.bind (sk aS aO bk aW cu cg fL fM cK cL cM cN cO bU iK dt) fun y1=>Option.bind (db iL dz) fun y2=>Option.bind (nV dA) fun y3=>Option.bind (pw dJ) fun y4=>some (bf,aQ,y1.1,y1.2.1,y1.2.2.1,y1.2.2.2.1,y1.2.2.2.2.1,y1.2.2.2.2.2.1,y1.2.2.2.2.2.2.1,y1.2.2.2.2.2.2.2.1,y1.2.2.2.2.2.2.2.2.1,y1.2.2.2.2.2.2.2.2.2.1,y1.2.2.2.2.2.2.2.2.2.2.1,y1.2.2.2.2.2.2.2.2.2.2.2.1,y1.2.2.2.2.2.2.2.2.2.2.2.2.1,y1.2.2.2.2.2.2.2.2.2.2.2.2.2.1,y1.2.2.2.2.2.2.2.2.2.2.2.2.2.2.1,y1.2.2.2.2.2.2.2.2.2.2.2.2.2.2.2.1,lq,lr,y2.1,y2.2.1,y3.1,y4.1,())
theorem k7:F7.Kn [⟨.cell 2,true,Iu⟩] 7 hF:=F7.nL Tryz.func7 fun x=>by kernel_rfl
def K7:=kw k7
def F59:FC Tryz.prog:=⟨eH,[],gR,Tryz.f59,[vl [.int .i64],vl [.int .i64],vl [.int .i64]]⟩
noncomputable def bZ (x0 Iv Oh:Int):Option (Bool×Unit):=bif decide (Iv≤x0) then some (decide (x0≤Oh),()) else some (false,())
theorem k59:F59.Kn [⟨.tmp 6,false,[.bool]⟩] 59 bZ:=F59.nL Tryz.func59 fun x=>by kernel_rfl
def S6:=kw k59
def F61:FC Tryz.prog:=⟨eH,[],gR,Tryz.f61,[va vd]⟩
noncomputable def iC (bj:Int) (bl:aH):Option (Bool×Unit):=bif decide (bj=0) then some (decide ((bl.length:Int)=0),()) else some (false,())
theorem k61:F61.Kn [⟨.tmp 2,false,[.bool]⟩] 61 iC:=F61.nL Tryz.func61 fun x=>by kernel_rfl
def K61:=kw k61
def Ly:FC Tryz.prog:=⟨eH,[],dr 6 (.a 0 (.a 1 (.a 2 (.t 3 (.a 4 (.a 5 (.a 6 (.t 7 (.a 8 .nil))))))))),Tryz.f132,[vl [.shr fX],vl [.shr fX]]⟩
noncomputable def qy (a0 b1:aH) (i5:Int):Option (Sum Qr (Sum Unit (Bool×Unit))):=bif decide (i5<(a0.length:Int)) then bif decide (0≤i5) then Option.bind ((a0)[i5.toNat]?) fun r1=>bif decide (0≤i5) then Option.bind ((b1)[i5.toNat]?) fun r2=>bif !decide (r1.1=r2.1) then some (.inr (.inr (false,()))) else some (.inl (a0,b1,i64.wrap (i5+1),())) else none else none else some (.inr (.inl (())))
noncomputable def gS (x:Qr):Option (Sum Qr (Sum Unit (Bool×Unit))):=qy x.1 x.2.1 x.2.2.1
def S7:LD:=⟨0,Ly.lp 0,sp [(0,vl [.shr fX]),(0,vl [.shr fX]),(3,vl [.int .i64])] 21,sp [] 27,sp [(4,vl [.bool])] 22,gS⟩
theorem S8:Ly.Ok S7:=Ly.mY fun x=>by kernel_rfl
def S9:Ly.KL:=⟨_,S8⟩
noncomputable def lR (a0 b1:aH):Option (Bool×Unit):=bif !decide ((a0.length:Int)=(b1.length:Int)) then some (false,()) else cT (aG gS (a0,b1,0,())) (fun y1=>some (true,())) (fun y2=>some (y2.1,()))
theorem aea:Ly.Kn [⟨.tmp 4,false,[.bool]⟩] 132 lR:=Ly.kf [S9] Tryz.func132 (by kernel_rfl) (by kernel_rfl) fun x=>by kernel_rfl
def aeb:=kw aea
def XY:FC Tryz.prog:=⟨eH,[aeb],gR,Tryz.f125,[va HF,va HF]⟩
noncomputable def nW (bf aQ aS aO bk:Int) (aW:aH) (xp xq zp zq EK:Int) (EL:aH):Option (Bool×Unit):=bif decide (bf=xp) then bif decide (aQ=xq) then bif decide (aS=zp) then bif decide (aO=zq) then bif decide (bk=EK) then Option.bind (lR aW EL) fun y1=>some (y1.1,()) else some (false,()) else some (false,()) else some (false,()) else some (false,()) else some (false,())
theorem aec:XY.Kn [⟨.tmp 4,false,[.bool]⟩] 125 nW:=XY.nL Tryz.func125 fun x=>by kernel_rfl
def aed:=kw aec
def XZ:FC Tryz.prog:=⟨eH,[aed],gR,Tryz.f102,[va HF]⟩
noncomputable def eN (zr zt yx AB AD:Int) (xr:aH):Option (Bool×Unit):=Option.bind (nW zr zt yx AB AD xr 0 0 0 0 0 []) fun y1=>some (y1.1,())
theorem aee:XZ.Kn [⟨.tmp 2,false,[.bool]⟩] 102 eN:=XZ.nL Tryz.func102 fun x=>by kernel_rfl
def X0:=kw aee
def F60:FC Tryz.prog:=⟨eH,[K61,X0],gR,Tryz.f60,[va Lw]⟩
noncomputable def eS (ki jQ:Int) (gn:aH) (gT:aj) (fo:aH) (ic:fE) (lx ly lA lB fv fw fx fy fA:Int) (dX:aH):Option (Bool×Unit):=bif decide (ki=0) then Option.bind (iC jQ gn) fun y1=>bif y1.1 then bif decide ((gT.length:Int)=0) then bif decide ((fo.length:Int)=0) then bif decide ((ic.length:Int)=0) then bif decide (lx=0) then bif decide (ly=0) then bif decide (lA=0) then bif decide (lB=0) then Option.bind (eN fv fw fx fy fA dX) fun y2=>some (y2.1,()) else some (false,()) else some (false,()) else some (false,()) else some (false,()) else some (false,()) else some (false,()) else some (false,()) else some (false,()) else some (false,())
theorem k60:F60.Kn [⟨.tmp 2,false,[.bool]⟩] 60 eS:=F60.nL Tryz.func60 fun x=>by kernel_rfl
def K60:=kw k60
def Vo:FC Tryz.prog:=⟨eH,[S6],dr 6 (.a 0 (.t 1 (.a 2 (.a 3 (.t 4 (.o 5 (.a 6 (.a 7 (.a 8 (.a 9 (.a 10 (.a 11 (.t 12 (.a 13 (.a 14 (.a 15 (.t 16 (.a 17 (.t 18 (.a 19 (.a 20 (.t 21 (.a 22 (.a 23 (.a 24 .nil))))))))))))))))))))))))),Tryz.f23,[va vd]⟩
noncomputable def lC (fB:Int) (eB:aH) (i3:Int):Option (Sum U23 (Sum Unit (Bool×Unit))):=bif decide (i3<(eB.length:Int)) then bif decide (0≤i3) then Option.bind ((eB)[i3.toNat]?) fun r3=>Option.bind (bZ r3.1 1 5) fun y4=>bif !y4.1 then some (.inr (.inr (false,()))) else bif decide (0<i3) then bif decide (0≤i64.wrap (i3-1)) then Option.bind ((eB)[(i64.wrap (i3-1)).toNat]?) fun r5=>bif decide (0≤i3) then Option.bind ((eB)[i3.toNat]?) fun r6=>bif decide (r6.1≤r5.1) then some (.inr (.inr (false,()))) else some (.inl (fB,eB,i64.wrap (i3+1),())) else none else none else some (.inl (fB,eB,i64.wrap (i3+1),())) else none else some (.inr (.inl (())))
noncomputable def eT (x:U23):Option (Sum U23 (Sum Unit (Bool×Unit))):=lC x.1 x.2.1 x.2.2.1
def X2:LD:=⟨0,Vo.lp 0,sp [(1,.box false vd),(1,vl [.int .i64])] 44,sp [] 48,sp [(2,vl [.bool])] 45,eT⟩
theorem X3:Vo.Ok X2:=Vo.mY fun x=>by kernel_rfl
def X4:Vo.KL:=⟨_,X3⟩
noncomputable def dN (bj:Int) (bl:aH):Option (Bool×Unit):=Option.bind (bZ bj 1 9) fun y1=>bif !y1.1 then some (false,()) else Option.bind (bZ (bl.length:Int) 1 5) fun y2=>bif !y2.1 then some (false,()) else cT (aG eT (bj,bl,0,())) (fun y3=>some (true,())) (fun y4=>some (y4.1,()))
theorem k23:Vo.Kn [⟨.tmp 2,false,[.bool]⟩] 23 dN:=Vo.kf [X4] Tryz.func23 (by kernel_rfl) (by kernel_rfl) fun x=>by kernel_rfl
def Ta:=kw k23
def Vp:FC Tryz.prog:=⟨eH,[],gR,Tryz.f24,[vl [.shr fX],vl [.int .i64]]⟩
noncomputable def mM (bc:aH) (x1 i5:Int):Option (Sum Qu (Sum Unit (Bool×Unit))):=bif decide (i5<(bc.length:Int)) then bif decide (0≤i5) then Option.bind ((bc)[i5.toNat]?) fun r1=>bif decide (r1.1=x1) then some (.inr (.inr (true,()))) else some (.inl (bc,x1,i64.wrap (i5+1),())) else none else some (.inr (.inl (())))
noncomputable def fN (x:Qu):Option (Sum Qu (Sum Unit (Bool×Unit))):=mM x.1 x.2.1 x.2.2.1
def X5:LD:=⟨0,Vp.lp 0,sp [(0,vl [.shr fX]),(0,vl [.int .i64]),(3,vl [.int .i64])] 13,sp [] 19,sp [(4,vl [.bool])] 14,fN⟩
theorem X6:Vp.Ok X5:=Vp.mY fun x=>by kernel_rfl
def X7:Vp.KL:=⟨_,X6⟩
noncomputable def dV (bc:aH) (x1:Int):Option (Bool×Unit):=cT (aG fN (bc,x1,0,())) (fun y1=>some (false,())) (fun y2=>some (y2.1,()))
theorem k24:Vp.Kn [⟨.tmp 4,false,[.bool]⟩] 24 dV:=Vp.kf [X7] Tryz.func24 (by kernel_rfl) (by kernel_rfl) fun x=>by kernel_rfl
def Rn:=kw k24
def X8:FC Tryz.prog:=⟨eH,[S6],gR,Tryz.f126,[va CJ]⟩
noncomputable def iZ (ki jQ gn:Int) (gT:ByteArray):Option (Bool×Unit):=Option.bind (bZ ki 1 60) fun y1=>bif y1.1 then Option.bind (bZ jQ 1 5) fun y2=>bif y2.1 then Option.bind (bZ gn 1 2) fun y3=>bif y3.1 then some (decide ((gT.size:Int)≤60),()) else some (false,()) else some (false,()) else some (false,())
theorem aef:X8.Kn [⟨.tmp 2,false,[.bool]⟩] 126 iZ:=X8.nL Tryz.func126 fun x=>by kernel_rfl
def X9:=kw aef
def LA:FC Tryz.prog:=⟨eH,[X9],dr 4 (.a 0 (.a 1 (.a 2 (.t 3 (.o 4 (.a 5 (.a 6 (.a 7 (.a 8 (.a 9 (.a 10 (.a 11 (.a 12 (.a 13 (.a 14 (.t 15 (.a 16 (.a 17 (.a 18 (.a 19 (.t 20 (.a 21 (.a 22 (.a 23 .nil)))))))))))))))))))))))),Tryz.f103,[vl [.shr aD]]⟩
noncomputable def kj (bc:aj) (i3:Int):Option (Sum (aj×Int×Unit) (Sum Unit (Bool×Unit))):=bif decide (i3<(bc.length:Int)) then bif decide (0≤i3) then Option.bind ((bc)[i3.toNat]?) fun r1=>Option.bind (iZ r1.1 r1.2.1 r1.2.2.1 r1.2.2.2.1) fun y2=>bif !y2.1 then some (.inr (.inr (false,()))) else bif decide (0<i3) then bif decide (0≤i64.wrap (i3-1)) then Option.bind ((bc)[(i64.wrap (i3-1)).toNat]?) fun r3=>bif decide (0≤i3) then Option.bind ((bc)[i3.toNat]?) fun r4=>bif decide (r4.1≤r3.1) then some (.inr (.inr (false,()))) else some (.inl (bc,i64.wrap (i3+1),())) else none else none else some (.inl (bc,i64.wrap (i3+1),())) else none else some (.inr (.inl (())))
noncomputable def eg (x:aj×Int×Unit):Option (Sum (aj×Int×Unit) (Sum Unit (Bool×Unit))):=kj x.1 x.2.1
def Tb:LD:=⟨0,LA.lp 0,sp [(0,vl [.shr aD]),(2,vl [.int .i64])] 31,sp [] 35,sp [(2,vl [.bool])] 32,eg⟩
theorem Tc:LA.Ok Tb:=LA.mY fun x=>by kernel_rfl
def Td:LA.KL:=⟨_,Tc⟩
noncomputable def eU (bc:aj):Option (Bool×Unit):=cT (aG eg (bc,0,())) (fun y1=>some (true,())) (fun y2=>some (y2.1,()))
theorem aeg:LA.Kn [⟨.tmp 2,false,[.bool]⟩] 103 eU:=LA.kf [Td] Tryz.func103 (by kernel_rfl) (by kernel_rfl) fun x=>by kernel_rfl
def QA:=kw aeg
def LB:FC Tryz.prog:=⟨eH,[S6],gR,Tryz.f104,[vl [.shr fX],vl [.shr tj]]⟩
noncomputable def lS (xt:aH) (xu:fE) (i5:Int):Option (Sum U25 (Sum (aH×fE×Unit) (Bool×Unit))):=bif decide (i5<(xu.length:Int)) then bif decide (i5<(xt.length:Int)) then bif decide (0≤i5) then Option.bind ((xt)[i5.toNat]?) fun r1=>Option.bind (bZ r1.1 1 2) fun y2=>bif !y2.1 then some (.inr (.inr (false,()))) else bif decide (0≤i5) then Option.bind ((xu)[i5.toNat]?) fun r3=>bif decide (60<(r3.1.size:Int)) then some (.inr (.inr (false,()))) else some (.inl (xt,xu,i64.wrap (i5+1),())) else none else none else some (.inr (.inl (xt,xu,()))) else some (.inr (.inl (xt,xu,())))
noncomputable def ie (x:U25):Option (Sum U25 (Sum (aH×fE×Unit) (Bool×Unit))):=lS x.1 x.2.1 x.2.2.1
def Te:LD:=⟨0,LB.lp 0,sp [(0,vl [.shr fX]),(0,vl [.shr tj]),(3,vl [.int .i64])] 37,sp [(0,vl [.shr fX]),(0,vl [.shr tj])] 41,sp [(4,vl [.bool])] 38,ie⟩
theorem Tf:LB.Ok Te:=LB.mY fun x=>by kernel_rfl
def Tg:LB.KL:=⟨_,Tf⟩
noncomputable def px (xt:aH) (xu:fE):Option (Bool×Unit):=cT (aG ie (xt,xu,0,())) (fun y1=>bif decide ((y1.2.1.length:Int)≤20) then some (decide ((y1.1.length:Int)=(y1.2.1.length:Int)),()) else some (false,())) (fun y2=>some (y2.1,()))
theorem aeh:LB.Kn [⟨.tmp 4,false,[.bool]⟩] 104 px:=LB.kf [Tg] Tryz.func104 (by kernel_rfl) (by kernel_rfl) fun x=>by kernel_rfl
def aei:=kw aeh
def LC:FC Tryz.prog:=⟨eH,[],gR,Tryz.f127,[vl [.shr aD],vl [.int .i64]]⟩
noncomputable def rF (bc:aj) (seq1 AE AF AG:Int) (AH:ByteArray) (i6:Int):Option (Sum U26 (Sum nd U6)):=bif decide (i6<(bc.length:Int)) then bif decide (0≤i6) then Option.bind ((bc)[i6.toNat]?) fun r1=>bif decide (r1.1=seq1) then bif decide (0≤i6) then Option.bind ((bc)[i6.toNat]?) fun r2=>some (.inr (.inr (r2.1,r2.2.1,r2.2.2.1,r2.2.2.2.1,true,()))) else none else some (.inl (bc,seq1,AE,AF,AG,AH,i64.wrap (i6+1),())) else none else some (.inr (.inl (AE,AF,AG,AH,())))
noncomputable def jE (x:U26):Option (Sum U26 (Sum nd U6)):=rF x.1 x.2.1 x.2.2.1 x.2.2.2.1 x.2.2.2.2.1 x.2.2.2.2.2.1 x.2.2.2.2.2.2.1
def Th:LD:=⟨0,LC.lp 0,sp [(0,vl [.shr aD]),(0,vl [.int .i64]),(2,.box false CJ),(1,vl [.int .i64])] 19,sp [(4,.box false CJ)] 21,sp [(4,.box false CJ),(0,vl [.bool])] 20,jE⟩
theorem Ti:LC.Ok Th:=LC.mY fun x=>by kernel_rfl
def Tj:LC.KL:=⟨_,Ti⟩
noncomputable def sm (bc:aj) (seq1:Int):Option (U6):=cT (aG jE (bc,seq1,0,0,0,ByteArray.empty,0,())) (fun y1=>some (0,0,0,ByteArray.empty,false,())) (fun y2=>some y2)
theorem aej:LC.Kn [⟨.cell 4,true,CJ⟩,⟨.tmp 5,false,[.bool]⟩] 127 sm:=LC.kf [Tj] Tryz.func127 (by kernel_rfl) (by kernel_rfl) fun x=>by kernel_rfl
def aek:=kw aej
def LF:FC Tryz.prog:=⟨eH,[aek],gR,Tryz.f105,[vl [.shr aD]]⟩
noncomputable def wV (bc:aj) (n3 i4:Int):Option (Sum MH (Sum (Int×Unit) (Int×Unit))):=bif decide (i4<(bc.length:Int)) then Option.bind (sm bc (i64.wrap (n3+1))) fun y1=>bif !y1.2.2.2.2.1 then some (.inr (.inr (n3,()))) else some (.inl (bc,i64.wrap (n3+1),i64.wrap (i4+1),())) else some (.inr (.inl (n3,())))
noncomputable def py (x:MH):Option (Sum MH (Sum (Int×Unit) (Int×Unit))):=wV x.1 x.2.1 x.2.2.1
def Tk:LD:=⟨0,LF.lp 0,sp [(0,vl [.shr aD]),(2,vl [.int .i64]),(0,vl [.int .i64])] 22,sp [(3,vl [.int .i64])] 23,sp [(2,vl [.int .i64])] 24,py⟩
theorem Tl:LF.Ok Tk:=LF.mY fun x=>by kernel_rfl
def Tm:LF.KL:=⟨_,Tl⟩
noncomputable def lD (bc:aj):Option (Int×Unit):=cT (aG py (bc,0,0,())) (fun y1=>some (y1.1,())) (fun y2=>some (y2.1,()))
theorem ael:LF.Kn [⟨.tmp 2,false,[.int .i64]⟩] 105 lD:=LF.kf [Tm] Tryz.func105 (by kernel_rfl) (by kernel_rfl) fun x=>by kernel_rfl
def Ya:=kw ael
def LG:FC Tryz.prog:=⟨eH,[S6],dr 6 (.a 0 (.t 1 (.a 2 (.a 3 (.t 4 (.a 5 (.t 6 (.o 7 (.a 8 (.a 9 (.a 10 (.a 11 (.a 12 (.a 13 (.t 14 (.a 15 (.a 16 (.a 17 (.t 18 (.a 19 (.t 20 (.a 21 (.a 22 (.t 23 (.a 24 (.a 25 (.a 26 .nil))))))))))))))))))))))))))),Tryz.f106,[va HF]⟩
noncomputable def km (LH LI GV LJ LK:Int) (Cc:aH) (i3:Int):Option (Sum U27 (Sum Unit (Bool×Unit))):=bif decide (i3<(Cc.length:Int)) then bif decide (0≤i3) then Option.bind ((Cc)[i3.toNat]?) fun r6=>Option.bind (bZ r6.1 1 GV) fun y7=>bif !y7.1 then some (.inr (.inr (false,()))) else bif decide (0<i3) then bif decide (0≤i64.wrap (i3-1)) then Option.bind ((Cc)[(i64.wrap (i3-1)).toNat]?) fun r8=>bif decide (0≤i3) then Option.bind ((Cc)[i3.toNat]?) fun r9=>bif decide (r9.1≤r8.1) then some (.inr (.inr (false,()))) else some (.inl (LH,LI,GV,LJ,LK,Cc,i64.wrap (i3+1),())) else none else none else some (.inl (LH,LI,GV,LJ,LK,Cc,i64.wrap (i3+1),())) else none else some (.inr (.inl (())))
noncomputable def ej (x:U27):Option (Sum U27 (Sum Unit (Bool×Unit))):=km x.1 x.2.1 x.2.2.1 x.2.2.2.1 x.2.2.2.2.1 x.2.2.2.2.2.1 x.2.2.2.2.2.2.1
def Tn:LD:=⟨0,LG.lp 0,sp [(1,.box false HF),(1,vl [.int .i64])] 71,sp [] 75,sp [(2,vl [.bool])] 72,ej⟩
theorem To:LG.Ok Tn:=LG.mY fun x=>by kernel_rfl
def Tp:LG.KL:=⟨_,To⟩
noncomputable def gZ (zr zt yx AB AD:Int) (xr:aH):Option (Bool×Unit):=Option.bind (bZ zr 1 9) fun y1=>bif !y1.1 then some (false,()) else Option.bind (bZ zt 1 1000000000) fun y2=>bif !y2.1 then some (false,()) else Option.bind (bZ yx 0 60) fun y3=>bif !y3.1 then some (false,()) else Option.bind (bZ AB 0 yx) fun y4=>bif !y4.1 then some (false,()) else Option.bind (bZ AD 0 5) fun y5=>bif !y5.1 then some (false,()) else bif decide (20<(xr.length:Int)) then some (false,()) else cT (aG ej (zr,zt,yx,AB,AD,xr,0,())) (fun y6=>some (true,())) (fun y7=>some (y7.1,()))
theorem aem:LG.Kn [⟨.tmp 2,false,[.bool]⟩] 106 gZ:=LG.kf [Tp] Tryz.func106 (by kernel_rfl) (by kernel_rfl) fun x=>by kernel_rfl
def aen:=kw aem
def F62:FC Tryz.prog:=⟨eH,[Ta,Rn,QA,aei,S6,Ya,X0,aen],gR,Tryz.f62,[va Lw]⟩
noncomputable def hJ (ki jQ:Int) (gn:aH) (gT:aj) (fo:aH) (ic:fE) (lx ly lA lB fv fw fx fy fA:Int) (dX:aH):Option (Bool×Unit):=Option.bind (dN jQ gn) fun y1=>bif !y1.1 then some (false,()) else Option.bind (dV gn ki) fun y2=>bif !y2.1 then some (false,()) else Option.bind (eU gT) fun y3=>bif !y3.1 then some (false,()) else Option.bind (px fo ic) fun y4=>bif !y4.1 then some (false,()) else Option.bind (bZ lx 0 1000000000) fun y5=>bif !y5.1 then some (false,()) else Option.bind (bZ ly 0 60) fun y6=>bif !y6.1 then some (false,()) else Option.bind (lD gT) fun y7=>Option.bind (bZ lA 0 y7.1) fun y8=>bif y8.1 then Option.bind (bZ lB 0 y7.1) fun y9=>bif y9.1 then Option.bind (eN fv fw fx fy fA dX) fun mD=>bif mD.1 then some (true,()) else Option.bind (gZ fv fw fx fy fA dX) fun mN=>some (mN.1,()) else some (false,()) else some (false,())
theorem k62:F62.Kn [⟨.tmp 2,false,[.bool]⟩] 62 hJ:=F62.nL Tryz.func62 fun x=>by kernel_rfl
def K62:=kw k62
def F63:FC Tryz.prog:=⟨eH,[S6,QA],gR,Tryz.f63,[va HG]⟩
noncomputable def hM (Iw EM EN:Int) (CU:aj):Option (Bool×Unit):=Option.bind (bZ Iw 1 5) fun y1=>bif y1.1 then Option.bind (bZ EM 1 9) fun y2=>bif y2.1 then Option.bind (bZ EN 0 (i64.wrap (EM-1))) fun y3=>bif y3.1 then Option.bind (eU CU) fun y4=>bif y4.1 then bif decide (0<EN) then some (true,()) else some (decide ((CU.length:Int)=0),()) else some (false,()) else some (false,()) else some (false,()) else some (false,())
theorem k63:F63.Kn [⟨.tmp 2,false,[.bool]⟩] 63 hM:=F63.nL Tryz.func63 fun x=>by kernel_rfl
def K63:=kw k63
def Vq:FC Tryz.prog:=⟨eH,[S6,K60,K61,K62,Ta,Rn,K63],dr 14 (.a 0 (.t 1 (.a 2 (.a 3 (.t 4 (.o 5 (.a 6 (.a 7 (.a 8 (.t 9 (.a 10 (.a 11 (.a 12 (.t 13 (.a 14 (.a 15 (.t 16 (.a 17 (.a 18 .nil))))))))))))))))))),Tryz.f22,[va FK]⟩
noncomputable def jF (aeo:Int) (aep:Bool) (aeq aer:Int) (aes:aH) (aet:aj) (aeu:aH) (aev:fE) (aew aex Yb Yc Yd Ye Yf Yg Yh:Int) (Yi:aH) (Yj Yk Ro:Int) (Yl:aH) (JU:af) (Ym:ai) (i3:Int):Option (Sum U28 (Sum Unit (Bool×Unit))):=bif decide (i3<(JU.length:Int)) then bif decide (0≤i3) then Option.bind ((JU)[i3.toNat]?) fun wI=>Option.bind (hM wI.1 wI.2.1 wI.2.2.1 wI.2.2.2.1) fun Oi=>bif !Oi.1 then some (.inr (.inr (false,()))) else bif decide (0≤i3) then Option.bind ((JU)[i3.toNat]?) fun r13=>bif !decide (r13.2.1=Ro) then some (.inr (.inr (false,()))) else some (.inl (aeo,aep,aeq,aer,aes,aet,aeu,aev,aew,aex,Yb,Yc,Yd,Ye,Yf,Yg,Yh,Yi,Yj,Yk,Ro,Yl,JU,Ym,i64.wrap (i3+1),())) else none else none else some (.inr (.inl (())))
noncomputable def dy (x:U28):Option (Sum U28 (Sum Unit (Bool×Unit))):=jF x.1 x.2.1 x.2.2.1 x.2.2.2.1 x.2.2.2.2.1 x.2.2.2.2.2.1 x.2.2.2.2.2.2.1 x.2.2.2.2.2.2.2.1 x.2.2.2.2.2.2.2.2.1 x.2.2.2.2.2.2.2.2.2.1 x.2.2.2.2.2.2.2.2.2.2.1 x.2.2.2.2.2.2.2.2.2.2.2.1 x.2.2.2.2.2.2.2.2.2.2.2.2.1 x.2.2.2.2.2.2.2.2.2.2.2.2.2.1 x.2.2.2.2.2.2.2.2.2.2.2.2.2.2.1 x.2.2.2.2.2.2.2.2.2.2.2.2.2.2.2.1 x.2.2.2.2.2.2.2.2.2.2.2.2.2.2.2.2.1 x.2.2.2.2.2.2.2.2.2.2.2.2.2.2.2.2.2.1 x.2.2.2.2.2.2.2.2.2.2.2.2.2.2.2.2.2.2.1 x.2.2.2.2.2.2.2.2.2.2.2.2.2.2.2.2.2.2.2.1 x.2.2.2.2.2.2.2.2.2.2.2.2.2.2.2.2.2.2.2.2.1 x.2.2.2.2.2.2.2.2.2.2.2.2.2.2.2.2.2.2.2.2.2.1 x.2.2.2.2.2.2.2.2.2.2.2.2.2.2.2.2.2.2.2.2.2.2.1 x.2.2.2.2.2.2.2.2.2.2.2.2.2.2.2.2.2.2.2.2.2.2.2.1 x.2.2.2.2.2.2.2.2.2.2.2.2.2.2.2.2.2.2.2.2.2.2.2.2.1
def Yn:LD:=⟨0,Vq.lp 0,sp [(1,.box false FK),(1,vl [.int .i64])] 124,sp [] 128,sp [(2,vl [.bool])] 125,dy⟩
theorem Yo:Vq.Ok Yn:=Vq.mY fun x=>by kernel_rfl
def Yp:Vq.KL:=⟨_,Yo⟩
noncomputable def hU (ca:Int) (dm:Bool) (dg cG:Int) (cR:aH) (aw:aj) (cW:aH) (cX:fE) (du dv bN bG bO bP bQ bR bS:Int) (bD:aH) (bm aZ aP:Int) (aN:aH) (ba:af) (bq:ai):Option (Bool×Unit):=Option.bind (bZ ca 1 5) fun y1=>bif !y1.1 then some (false,()) else Option.bind (bZ bm 0 9) fun y2=>bif !y2.1 then some (false,()) else bif dm then Option.bind (eS dg cG cR aw cW cX du dv bN bG bO bP bQ bR bS bD) fun y3=>bif y3.1 then bif decide (aZ=0) then Option.bind (iC aP aN) fun y4=>bif y4.1 then some (decide ((ba.length:Int)=0),()) else some (false,()) else some (false,()) else some (false,()) else Option.bind (eS dg cG cR aw cW cX du dv bN bG bO bP bQ bR bS bD) fun y5=>bif !y5.1 then Option.bind (hJ dg cG cR aw cW cX du dv bN bG bO bP bQ bR bS bD) fun y6=>bif !y6.1 then some (false,()) else bif !decide (dg=ca) then some (false,()) else bif !decide (aZ=cG) then some (false,()) else bif decide (bm<aZ) then some (false,()) else Option.bind (iC aP aN) fun y7=>bif y7.1 then some (decide ((ba.length:Int)=0),()) else Option.bind (dN aP aN) fun y8=>bif !y8.1 then some (false,()) else Option.bind (dV aN ca) fun y9=>bif !y9.1 then some (false,()) else Option.bind (bZ aP (i64.wrap (aZ+1)) bm) fun mD=>bif !mD.1 then some (false,()) else cT (aG dy (ca,dm,dg,cG,cR,aw,cW,cX,du,dv,bN,bG,bO,bP,bQ,bR,bS,bD,bm,aZ,aP,aN,ba,bq,0,())) (fun mN=>some (true,())) (fun Oi=>some (Oi.1,())) else bif !decide (aZ=cG) then some (false,()) else bif decide (bm<aZ) then some (false,()) else Option.bind (iC aP aN) fun PB=>bif PB.1 then some (decide ((ba.length:Int)=0),()) else Option.bind (dN aP aN) fun Yq=>bif !Yq.1 then some (false,()) else Option.bind (dV aN ca) fun Yr=>bif !Yr.1 then some (false,()) else Option.bind (bZ aP (i64.wrap (aZ+1)) bm) fun Ys=>bif !Ys.1 then some (false,()) else cT (aG dy (ca,dm,dg,cG,cR,aw,cW,cX,du,dv,bN,bG,bO,bP,bQ,bR,bS,bD,bm,aZ,aP,aN,ba,bq,0,())) (fun xv=>some (true,())) (fun Oj=>some (Oj.1,()))
theorem k22:Vq.Kn [⟨.tmp 2,false,[.bool]⟩] 22 hU:=Vq.kf [Yp] Tryz.func22 (by kernel_rfl) (by kernel_rfl) fun x=>by kernel_rfl
def Yt:=kw k22
def Yu:FC Tryz.prog:=⟨eH,[],gR,Tryz.f107,[va HF]⟩
noncomputable def kY (zr zt yx AB AD:Int) (xr:aH):Option (nf):=bif Nat.ble ((0+(List.length xr))*8) lim then some (zr,zt,yx,AB,AD,[]++xr,()) else none
theorem aey:Yu.Kn [⟨.cell 2,true,Qw⟩] 107 kY:=Yu.nL Tryz.func107 fun x=>by kernel_rfl
def aez:=kw aey
def F64:FC Tryz.prog:=⟨eH,[aez],gR,Tryz.f64,[va Lw]⟩
noncomputable def lT (ki jQ:Int) (gn:aH) (gT:aj) (fo:aH) (ic:fE) (lx ly lA lB fv fw fx fy fA:Int) (dX:aH):Option (bV):=bif Nat.ble ((0+(List.length gn))*8) lim then bif Nat.ble ((0+(List.length gT))*40) lim then bif Nat.ble ((0+(List.length fo))*8) lim then bif Nat.ble ((0+(List.length ic))*16) lim then Option.bind (kY fv fw fx fy fA dX) fun y1=>some (ki,jQ,[]++gn,[]++gT,[]++fo,[]++ic,lx,ly,lA,lB,y1) else none else none else none else none
theorem k64:F64.Kn [⟨.cell 2,true,Lx⟩] 64 lT:=F64.nL Tryz.func64 fun x=>by kernel_rfl
def K64:=kw k64
def F27:FC Tryz.prog:=⟨eH,[],gR,Tryz.f27,[va HG]⟩
noncomputable def iD (Iw EM EN:Int) (CU:aj):Option (cB):=bif Nat.ble ((0+(List.length CU))*40) lim then some (Iw,EM,EN,[]++CU,()) else none
theorem k27:F27.Kn [⟨.cell 2,true,It⟩] 27 iD:=F27.nL Tryz.func27 fun x=>by kernel_rfl
def Ol:=kw k27
def Vr:FC Tryz.prog:=⟨eH,[Ol],gR,Tryz.f65,[vl yw]⟩
noncomputable def eV (bc eA:af) (i4:Int):Option (Sum Qs (Sum (af×Unit) Unit)):=bif decide (i4<(bc.length:Int)) then bif decide (0≤i4) then Option.bind ((bc)[i4.toNat]?) fun r1=>Option.bind (iD r1.1 r1.2.1 r1.2.2.1 r1.2.2.2.1) fun y2=>bif Nat.ble (((List.length eA)+1)*48) lim then some (.inl (bc,eA++[(y2.1,y2.2.1,y2.2.2.1,y2.2.2.2.1,())],i64.wrap (i4+1),())) else none else none else some (.inr (.inl (eA,())))
noncomputable def ch (x:Qs):Option (Sum Qs (Sum (af×Unit) Unit)):=eV x.1 x.2.1 x.2.2.1
def Yv:LD:=⟨0,Vr.lp 0,sp [(0,vl yw),(2,vl zo),(0,vl [.int .i64])] 17,sp [(3,vl zo)] 18,sp [] 22,ch⟩
theorem Yw:Vr.Ok Yv:=Vr.mY fun x=>by kernel_rfl
def Yx:Vr.KL:=⟨_,Yw⟩
noncomputable def eX (bc:af):Option (af×Unit):=cT (aG ch (bc,[],0,())) (fun y1=>some (y1.1,())) (fun y2=>none)
theorem k65:Vr.Kn [⟨.tmp 2,false,zo⟩] 65 eX:=Vr.kf [Yx] Tryz.func65 (by kernel_rfl) (by kernel_rfl) fun x=>by kernel_rfl
def K65:=kw k65
def Vs:FC Tryz.prog:=⟨eH,[],gR,Tryz.f66,[vl JT]⟩
noncomputable def fC (bc eA:ai) (i4:Int):Option (Sum Qt (Sum (ai×Unit) Unit)):=bif decide (i4<(bc.length:Int)) then bif decide (0≤i4) then Option.bind ((bc)[i4.toNat]?) fun r1=>bif Nat.ble ((0+(List.length r1.2.2.1))*8) lim then bif Nat.ble ((0+(List.length r1.2.2.2.2.2.2.2.1))*8) lim then bif Nat.ble (((List.length eA)+1)*104) lim then some (.inl (bc,eA++([(r1.1,r1.2.1,[]++r1.2.2.1,r1.2.2.2.1,r1.2.2.2.2.1,r1.2.2.2.2.2.1,r1.2.2.2.2.2.2.1,[]++r1.2.2.2.2.2.2.2.1,())]),i64.wrap (i4+1),())) else none else none else none else none else some (.inr (.inl (eA,())))
noncomputable def cw (x:Qt):Option (Sum Qt (Sum (ai×Unit) Unit)):=fC x.1 x.2.1 x.2.2.1
def Yy:LD:=⟨0,Vs.lp 0,sp [(0,vl JT),(2,vl EJ),(0,vl [.int .i64])] 30,sp [(3,vl EJ)] 31,sp [] 35,cw⟩
theorem Yz:Vs.Ok Yy:=Vs.mY fun x=>by kernel_rfl
def YA:Vs.KL:=⟨_,Yz⟩
noncomputable def fH (bc:ai):Option (ai×Unit):=cT (aG cw (bc,[],0,())) (fun y1=>some (y1.1,())) (fun y2=>none)
theorem k66:Vs.Kn [⟨.tmp 2,false,EJ⟩] 66 fH:=Vs.kf [YA] Tryz.func66 (by kernel_rfl) (by kernel_rfl) fun x=>by kernel_rfl
def K66:=kw k66
def F25:FC Tryz.prog:=⟨eH,[K64,K65,K66],gR,Tryz.f25,[va FK]⟩
noncomputable def ek (ca:Int) (dm:Bool) (dg cG:Int) (cR:aH) (aw:aj) (cW:aH) (cX:fE) (du dv bN bG bO bP bQ bR bS:Int) (bD:aH) (bm aZ aP:Int) (aN:aH) (ba:af) (bq:ai):Option (ae):=Option.bind (lT dg cG cR aw cW cX du dv bN bG bO bP bQ bR bS bD) fun y1=>bif Nat.ble ((0+(List.length aN))*8) lim then Option.bind (eX ba) fun y2=>Option.bind (fH bq) fun y3=>some (ca,dm,y1.1,y1.2.1,y1.2.2.1,y1.2.2.2.1,y1.2.2.2.2.1,y1.2.2.2.2.2.1,y1.2.2.2.2.2.2.1,y1.2.2.2.2.2.2.2.1,y1.2.2.2.2.2.2.2.2.1,y1.2.2.2.2.2.2.2.2.2.1,y1.2.2.2.2.2.2.2.2.2.2.1,y1.2.2.2.2.2.2.2.2.2.2.2.1,y1.2.2.2.2.2.2.2.2.2.2.2.2.1,y1.2.2.2.2.2.2.2.2.2.2.2.2.2.1,y1.2.2.2.2.2.2.2.2.2.2.2.2.2.2.1,y1.2.2.2.2.2.2.2.2.2.2.2.2.2.2.2.1,bm,aZ,aP,[]++aN,y2.1,y3.1,()) else none
theorem k25:F25.Kn [⟨.cell 2,true,Iu⟩] 25 ek:=F25.nL Tryz.func25 fun x=>by kernel_rfl
def K25:=kw k25
def YB:FC Tryz.prog:=⟨eH,[],dr 1 (.a 0 (.a 3 (.t 4 (.alt (.o 1 (.o 2 (.l 5 (.a 6 (.l 7 .nil))))) (.o 2 (.alt (.o 1 (.l 5 (.a 6 (.l 7 .nil)))) (.l 5 (.t 1 (.a 6 (.l 7 .nil)))))))))),Tryz.f26,[va vd]⟩
noncomputable def aY (bj:Int) (bl:aH):Option (Int×aH×Unit):=bif Nat.ble ((0+(List.length bl))*8) lim then some (bj,[]++bl,()) else none
noncomputable def ng (bj:Int) (bl:aH):Option (Int×aH×Unit):=(fun Yt:Option (Int×aH×Unit)=>both (bif Nat.ble ((0+(List.length bl))*8) lim then Yt else none) (both (bif Nat.ble ((0+(List.length bl))*8) lim then Yt else none) (bif Nat.ble ((0+(List.length bl))*8) lim then Yt else none))) (some (bj,[]++bl,()))
theorem uT:ng=aY:=by delta ng aY;simp only [ku]
noncomputable def rG (x:Int×aH×Unit):Option (Int×aH×Unit):=wq (aE (YB.ps.map some)) ng x
theorem uU:rG=wq (aE (YB.ps.map some)) aY:=congrArg (wq (aE (YB.ps.map some))) uT
theorem k26:YB.Kn [⟨.cell 2,true,Qv⟩] 26 aY:=YB.kf1 Tryz.func26 (by kernel_rfl) fun x=>Eq.trans (b:=rG x) (by kernel_rfl) (congrFun uU x)
def Vt:=kw k26
def Vu:FC Tryz.prog:=⟨eH,[K63],dr 4 (.a 0 (.a 1 (.a 2 (.a 3 (.t 4 (.a 5 (.a 6 (.a 7 (.a 8 (.a 9 (.a 10 (.a 11 (.t 12 (.a 13 (.t 14 (.a 15 (.a 16 (.a 17 (.a 18 (.a 19 (.a 20 (.t 21 (.o 22 (.a 23 .nil)))))))))))))))))))))))),Tryz.f67,[va vd,vl yw,vl [.int .i64]]⟩
noncomputable def oX (cf:af) (qd jr:Int) (iG:aH) (EO EP ER:Int) (ES:aj) (i8:Int):Option (Sum U29 (Sum cB U7)):=bif decide (i8<(cf.length:Int)) then bif decide (0≤i8) then Option.bind ((cf)[i8.toNat]?) fun r1=>bif decide (r1.1=qd) then bif decide (0≤i8) then Option.bind ((cf)[i8.toNat]?) fun r2=>bif decide (r2.2.1=jr) then bif decide (0≤i8) then Option.bind ((cf)[i8.toNat]?) fun r3=>Option.bind (hM r3.1 r3.2.1 r3.2.2.1 r3.2.2.2.1) fun y4=>bif y4.1 then bif decide (0≤i8) then Option.bind ((cf)[i8.toNat]?) fun r5=>some (.inr (.inr (r5.1,r5.2.1,r5.2.2.1,r5.2.2.2.1,true,()))) else none else some (.inl (cf,qd,jr,iG,EO,EP,ER,ES,i64.wrap (i8+1),())) else none else some (.inl (cf,qd,jr,iG,EO,EP,ER,ES,i64.wrap (i8+1),())) else none else some (.inl (cf,qd,jr,iG,EO,EP,ER,ES,i64.wrap (i8+1),())) else none else some (.inr (.inl (EO,EP,ER,ES,())))
noncomputable def ig (x:U29):Option (Sum U29 (Sum cB U7)):=oX x.1 x.2.1 x.2.2.1 x.2.2.2.1 x.2.2.2.2.1 x.2.2.2.2.2.1 x.2.2.2.2.2.2.1 x.2.2.2.2.2.2.2.1 x.2.2.2.2.2.2.2.2.1
def YC:LD:=⟨0,Vu.lp 0,sp [(1,vl yw),(0,vl [.int .i64]),(0,.box false vd),(2,.box false It),(1,vl [.int .i64])] 36,sp [(6,.box false It)] 38,sp [(6,.box false HG),(0,vl [.bool])] 37,ig⟩
theorem YD:Vu.Ok YC:=Vu.mY fun x=>by kernel_rfl
def YE:Vu.KL:=⟨_,YD⟩
noncomputable def di (bj:Int) (bl:aH) (cf:af) (qd:Int):Option (U7):=cT (aG ig (cf,qd,bj,bl,0,0,0,[],0,())) (fun y1=>some (0,0,0,[],false,())) (fun y2=>some y2)
theorem k67:Vu.Kn [⟨.cell 6,true,HG⟩,⟨.tmp 7,false,[.bool]⟩] 67 di:=Vu.kf [YE] Tryz.func67 (by kernel_rfl) (by kernel_rfl) fun x=>by kernel_rfl
def K67:=kw k67
def Vv:FC Tryz.prog:=⟨eH,[K67],dr 4 (.t 0 (.a 1 (.a 2 (.t 3 (.a 4 (.a 5 (.t 6 (.alt (.o 7 (.a 8 (.a 9 (.a 10 (.o 11 (.l 12 (.a 13 .nil))))))) (.o 11 (.o 7 (.a 8 (.a 9 (.a 10 (.l 12 (.a 13 .nil))))))))))))))),Tryz.f28,[va vd,vl yw]⟩
noncomputable def kn (cf:af) (LL:Int) (CW:aH) (i5:Int):Option (Sum SW (Sum Unit (Bool×Unit))):=bif decide (i5<(CW.length:Int)) then bif decide (0≤i5) then Option.bind ((CW)[i5.toNat]?) fun r1=>Option.bind (di LL CW cf r1.1) fun Ix=>bif !Ix.2.2.2.2.1 then some (.inr (.inr (false,()))) else some (.inl (cf,LL,CW,i64.wrap (i5+1),())) else none else some (.inr (.inl (())))
noncomputable def qe (cf:af) (LL:Int) (CW:aH) (i5:Int):Option (Sum SW (Sum Unit (Bool×Unit))):=bif decide (i5<(CW.length:Int)) then bif decide (0≤i5) then Option.bind ((CW)[i5.toNat]?) fun r1=>(fun Ta:(U7)→Option (Sum SW (Sum Unit (Bool×Unit)))=>both (Option.bind (di LL CW cf r1.1) fun Ix=>Ta Ix) (Option.bind (di LL CW cf r1.1) fun Ix=>Ta Ix)) (fun Ix=>bif !Ix.2.2.2.2.1 then some (.inr (.inr (false,()))) else some (.inl (cf,LL,CW,i64.wrap (i5+1),()))) else none else some (.inr (.inl (())))
theorem xw:qe=kn:=by delta qe kn;simp only [ku]
noncomputable def gJ (x:SW):Option (Sum SW (Sum Unit (Bool×Unit))):=kn x.1 x.2.1 x.2.2.1 x.2.2.2.1
def Iy:List (Option AP):=sp [(1,vl yw),(0,.box false vd),(2,vl [.int .i64])] 23
noncomputable def uR (x:SW):Option (Sum SW (Sum Unit (Bool×Unit))):=wq (aE Iy) qe x
theorem xx:uR=gJ:=congrArg (wq (aE Iy)) xw
def Rp:LD:=⟨0,Vv.lp 0,Iy,sp [] 29,sp [(4,vl [.bool])] 24,gJ⟩
theorem YF:Vv.Ok Rp:=Vv.kl1 (l:=Rp) (by kernel_rfl) fun x=>Eq.trans (b:=uR x) (by kernel_rfl) (congrFun xx x)
def YG:Vv.KL:=⟨_,YF⟩
noncomputable def lU (bj:Int) (bl:aH) (cf:af):Option (Bool×Unit):=cT (aG gJ (cf,bj,bl,0,())) (fun y1=>some (true,())) (fun y2=>some (y2.1,()))
theorem k28:Vv.Kn [⟨.tmp 4,false,[.bool]⟩] 28 lU:=Vv.kf [YG] Tryz.func28 (by kernel_rfl) (by kernel_rfl) fun x=>by kernel_rfl
def K28:=kw k28
def Vw:FC Tryz.prog:=⟨eH,[K67,Rn],dr 8 (.t 0 (.a 1 (.a 2 (.t 3 (.a 4 (.a 5 (.t 6 (.alt (.o 7 (.a 8 (.a 9 (.a 10 (.o 11 (.l 12 (.a 13 .nil))))))) (.o 11 (.o 7 (.a 8 (.a 9 (.a 10 (.l 12 (.a 13 .nil))))))))))))))),Tryz.f68,[va vd,vl yw,vl [.int .i64]]⟩
noncomputable def fY (cf:af) (qd jr:Int) (iG qf:aH) (j6 j7 ja:Int) (j8:aj) (i10:Int):Option (Sum SX (Sum (aH×Unit) Unit)):=bif decide (i10<(iG.length:Int)) then bif decide (0≤i10) then Option.bind ((iG)[i10.toNat]?) fun r2=>Option.bind (di jr iG cf r2.1) fun sF=>bif sF.2.2.2.2.1 then bif decide (sF.1=qd) then Option.bind (dV qf sF.1) fun y4=>bif !y4.1 then bif Nat.ble (((List.length qf)+1)*8) lim then some (.inl (cf,qd,jr,iG,qf++[(sF.1,())],j6,j7,ja,j8,i64.wrap (i10+1),())) else none else some (.inl (cf,qd,jr,iG,qf,j6,j7,ja,j8,i64.wrap (i10+1),())) else bif decide (sF.2.2.1=ja) then bif decide (0<sF.2.2.1) then Option.bind (dV qf sF.1) fun y5=>bif !y5.1 then bif Nat.ble (((List.length qf)+1)*8) lim then some (.inl (cf,qd,jr,iG,qf++[(sF.1,())],j6,j7,ja,j8,i64.wrap (i10+1),())) else none else some (.inl (cf,qd,jr,iG,qf,j6,j7,ja,j8,i64.wrap (i10+1),())) else some (.inl (cf,qd,jr,iG,qf,j6,j7,ja,j8,i64.wrap (i10+1),())) else some (.inl (cf,qd,jr,iG,qf,j6,j7,ja,j8,i64.wrap (i10+1),())) else some (.inl (cf,qd,jr,iG,qf,j6,j7,ja,j8,i64.wrap (i10+1),())) else none else some (.inr (.inl (qf,())))
noncomputable def lE (cf:af) (qd jr:Int) (iG qf:aH) (j6 j7 ja:Int) (j8:aj) (i10:Int):Option (Sum SX (Sum (aH×Unit) Unit)):=bif decide (i10<(iG.length:Int)) then bif decide (0≤i10) then Option.bind ((iG)[i10.toNat]?) fun r2=>(fun Rn:(U7)→Option (Sum SX (Sum (aH×Unit) Unit))=>both (Option.bind (di jr iG cf r2.1) fun sF=>Rn sF) (Option.bind (di jr iG cf r2.1) fun sF=>Rn sF)) (fun sF=>bif sF.2.2.2.2.1 then bif decide (sF.1=qd) then Option.bind (dV qf sF.1) fun y4=>bif !y4.1 then bif Nat.ble (((List.length qf)+1)*8) lim then some (.inl (cf,qd,jr,iG,qf++[(sF.1,())],j6,j7,ja,j8,i64.wrap (i10+1),())) else none else some (.inl (cf,qd,jr,iG,qf,j6,j7,ja,j8,i64.wrap (i10+1),())) else bif decide (sF.2.2.1=ja) then bif decide (0<sF.2.2.1) then Option.bind (dV qf sF.1) fun y5=>bif !y5.1 then bif Nat.ble (((List.length qf)+1)*8) lim then some (.inl (cf,qd,jr,iG,qf++[(sF.1,())],j6,j7,ja,j8,i64.wrap (i10+1),())) else none else some (.inl (cf,qd,jr,iG,qf,j6,j7,ja,j8,i64.wrap (i10+1),())) else some (.inl (cf,qd,jr,iG,qf,j6,j7,ja,j8,i64.wrap (i10+1),())) else some (.inl (cf,qd,jr,iG,qf,j6,j7,ja,j8,i64.wrap (i10+1),())) else some (.inl (cf,qd,jr,iG,qf,j6,j7,ja,j8,i64.wrap (i10+1),()))) else none else some (.inr (.inl (qf,())))
theorem tn:lE=fY:=by delta lE fY;simp only [ku]
noncomputable def dO (x:SX):Option (Sum SX (Sum (aH×Unit) Unit)):=fY x.1 x.2.1 x.2.2.1 x.2.2.2.1 x.2.2.2.2.1 x.2.2.2.2.2.1 x.2.2.2.2.2.2.1 x.2.2.2.2.2.2.2.1 x.2.2.2.2.2.2.2.2.1 x.2.2.2.2.2.2.2.2.2.1
def Iz:List (Option AP):=sp [(1,vl yw),(0,vl [.int .i64]),(0,.box false vd),(3,vl [.own fX]),(0,.box false HG),(1,vl [.int .i64])] 64
noncomputable def pR (x:SX):Option (Sum SX (Sum (aH×Unit) Unit)):=wq (aE Iz) lE x
theorem tp:pR=dO:=congrArg (wq (aE Iz)) tn
def Rq:LD:=⟨0,Vw.lp 0,Iz,sp [(7,vl [.own fX])] 67,sp [] 75,dO⟩
theorem YH:Vw.Ok Rq:=Vw.kl1 (l:=Rq) (by kernel_rfl) fun x=>Eq.trans (b:=pR x) (by kernel_rfl) (congrFun tp x)
def YI:Vw.KL:=⟨_,YH⟩
noncomputable def gw (bj:Int) (bl:aH) (cf:af) (qd:Int):Option (aH×Unit):=Option.bind (di bj bl cf qd) fun y1=>bif !y1.2.2.2.2.1 then some ([],()) else cT (aG dO (cf,qd,bj,bl,[],y1.1,y1.2.1,y1.2.2.1,y1.2.2.2.1,0,())) (fun y2=>some (y2.1,())) (fun y3=>none)
theorem k68:Vw.Kn [⟨.tmp 6,false,[.own fX]⟩] 68 gw:=Vw.kf [YI] Tryz.func68 (by kernel_rfl) (by kernel_rfl) fun x=>by kernel_rfl
def K68:=kw k68
def CX:FC Tryz.prog:=⟨eH,[QA,X9],dr 8 (.a 0 (.a 1 (.a 2 (.a 3 (.t 4 (.a 5 (.t 6 (.a 7 .nil)))))))) (dr 10 (.a 0 (.a 1 (.a 2 (.a 3 (.t 4 (.a 5 (.t 6 (.a 7 .nil)))))))) (dr 16 (.a 0 (.a 1 (.a 2 (.a 3 (.t 4 (.a 5 (.t 6 (.a 7 .nil)))))))))),Tryz.f128,[vl [.shr aD],va CJ]⟩
noncomputable def qg (bc:aj) (yy CY CZ:Int) (C0:ByteArray) (Om ET:aj) (i7:Int):Option (Sum U32 (Sum U33 (aj×Unit))):=bif decide (i7<(bc.length:Int)) then bif decide (0≤i7) then Option.bind ((bc)[i7.toNat]?) fun r3=>bif decide (r3.1=yy) then some (.inr (.inr (Om,()))) else bif decide (0≤i7) then Option.bind ((bc)[i7.toNat]?) fun r4=>bif decide (r4.1<yy) then bif decide (0≤i7) then Option.bind ((bc)[i7.toNat]?) fun r5=>bif Nat.ble (((List.length ET)+1)*40) lim then some (.inl (bc,yy,CY,CZ,C0,Om,ET++[(r5.1,r5.2.1,r5.2.2.1,r5.2.2.2.1,())],i64.wrap (i7+1),())) else none else none else some (.inl (bc,yy,CY,CZ,C0,Om,ET,i64.wrap (i7+1),())) else none else none else some (.inr (.inl (bc,yy,CY,CZ,C0,ET,())))
noncomputable def iP (x:U32):Option (Sum U32 (Sum U33 (aj×Unit))):=qg x.1 x.2.1 x.2.2.1 x.2.2.2.1 x.2.2.2.2.1 x.2.2.2.2.2.1 x.2.2.2.2.2.2.1 x.2.2.2.2.2.2.2.1
def Tq:LD:=⟨0,CX.lp 0,sp [(0,vl [.shr aD]),(2,.box false CJ),(1,vl [.own aD]),(0,vl [.own aD]),(0,vl [.int .i64])] 71,sp [(0,vl [.shr aD]),(2,.box false CJ),(2,vl [.own aD])] 72,sp [(4,vl [.own aD])] 74,iP⟩
theorem Ts:CX.Ok Tq:=CX.mY fun x=>by kernel_rfl
def Tt:CX.KL:=⟨_,Ts⟩
noncomputable def qh (bc:aj) (yy CY CZ:Int) (C0:ByteArray) (ET:aj) (i8:Int):Option (Sum U34 (Sum (aj×Unit) Unit)):=bif decide (i8<(bc.length:Int)) then bif decide (0≤i8) then Option.bind ((bc)[i8.toNat]?) fun r8=>bif decide (yy<r8.1) then bif decide (0≤i8) then Option.bind ((bc)[i8.toNat]?) fun r9=>bif Nat.ble (((List.length ET)+1)*40) lim then some (.inl (bc,yy,CY,CZ,C0,ET++[(r9.1,r9.2.1,r9.2.2.1,r9.2.2.2.1,())],i64.wrap (i8+1),())) else none else none else some (.inl (bc,yy,CY,CZ,C0,ET,i64.wrap (i8+1),())) else none else some (.inr (.inl (ET,())))
noncomputable def gK (x:U34):Option (Sum U34 (Sum (aj×Unit) Unit)):=qh x.1 x.2.1 x.2.2.1 x.2.2.2.1 x.2.2.2.2.1 x.2.2.2.2.2.1 x.2.2.2.2.2.2.1
def Tu:LD:=⟨2,CX.lp 1,sp [(0,vl [.shr aD]),(2,.box false CJ),(2,vl [.own aD]),(1,vl [.int .i64])] 70,sp [(6,vl [.own aD])] 72,sp [] 79,gK⟩
theorem Tv:CX.Ok Tu:=CX.mY fun x=>by kernel_rfl
def Tw:CX.KL:=⟨_,Tv⟩
noncomputable def qK (bc:aj) (IA IB IC:Int) (ID:ByteArray):Option (aj×Unit):=bif Nat.ble ((0+(List.length bc))*40) lim then Option.bind (eU bc) fun y1=>bif !y1.1 then some ([]++bc,()) else Option.bind (iZ IA IB IC ID) fun y2=>bif !y2.1 then some ([]++bc,()) else cT (aG iP (bc,IA,IB,IC,ID,[]++bc,[],0,())) (fun y3=>bif Nat.ble (((List.length y3.2.2.2.2.2.1)+1)*40) lim then cT (aG gK (y3.1,y3.2.1,y3.2.2.1,y3.2.2.2.1,y3.2.2.2.2.1,y3.2.2.2.2.2.1++[(y3.2.1,y3.2.2.1,y3.2.2.2.1,y3.2.2.2.2.1,())],0,())) (fun y5=>some (y5.1,())) (fun y6=>none) else none) (fun y4=>some (y4.1,())) else none
theorem aeB:CX.Kn [⟨.tmp 4,false,[.own aD]⟩] 128 qK:=CX.kf [Tt,Tw] Tryz.func128 (by kernel_rfl) (by kernel_rfl) fun x=>by kernel_rfl
def aeC:=kw aeB
def C1:FC Tryz.prog:=⟨Og,[QA,aeC],gR,Tryz.f109,[vl GU]⟩
noncomputable def mO (nX:fu) (eA:aj) (i4 k5:Int):Option (Sum U35 (Sum Xi Unit)):=bif decide (0≤i4) then Option.bind ((nX)[i4.toNat]?) fun r1=>bif decide (k5<(r1.1.length:Int)) then bif decide (0≤i4) then Option.bind ((nX)[i4.toNat]?) fun r2=>Option.bind (eU r2.1) fun y3=>bif y3.1 then bif decide (0≤i4) then Option.bind ((nX)[i4.toNat]?) fun r4=>bif decide (0≤k5) then Option.bind ((r4.1)[k5.toNat]?) fun r5=>Option.bind (qK eA r5.1 r5.2.1 r5.2.2.1 r5.2.2.2.1) fun y6=>some (.inl (nX,y6.1,i4,i64.wrap (k5+1),())) else none else none else some (.inr (.inl (nX,eA,i4,()))) else none else some (.inr (.inl (nX,eA,i4,()))) else none
noncomputable def fO (x:U35):Option (Sum U35 (Sum Xi Unit)):=mO x.1 x.2.1 x.2.2.1 x.2.2.2.1
def Tx:LD:=⟨2,EG (C1.lp 0) 0,sp [(0,vl GU),(2,vl [.own aD]),(0,vl [.int .i64]),(0,vl [.int .i64])] 34,sp [(0,vl GU),(2,vl [.own aD]),(0,vl [.int .i64])] 35,sp [] 40,fO⟩
theorem Tz:C1.Ok Tx:=C1.mY fun x=>by kernel_rfl
def TA:C1.KL:=⟨_,Tz⟩
noncomputable def sG (nX:fu) (eA:aj) (i4:Int):Option (Sum Xi (Sum (aj×Unit) Unit)):=bif decide (i4<(nX.length:Int)) then cT (aG fO (nX,eA,i4,0,())) (fun y7=>some (.inl (y7.1,y7.2.1,i64.wrap (y7.2.2.1+1),()))) (fun y8=>some (.inr (.inr (())))) else some (.inr (.inl (eA,())))
noncomputable def ky (x:Xi):Option (Sum Xi (Sum (aj×Unit) Unit)):=sG x.1 x.2.1 x.2.2.1
def TB:LD:=⟨0,C1.lp 0,sp [(0,vl GU),(2,vl [.own aD]),(0,vl [.int .i64])] 35,sp [(3,vl [.own aD])] 36,sp [] 40,ky⟩
theorem TC:C1.Ok TB:=C1.kl [TA] (by kernel_rfl) (by kernel_rfl) fun x=>by kernel_rfl
def TD:C1.KL:=⟨_,TC⟩
noncomputable def uc (nX:fu):Option (aj×Unit):=cT (aG ky (nX,[],0,())) (fun y1=>some (y1.1,())) (fun y2=>none)
theorem aeD:C1.Kn [⟨.tmp 2,false,[.own aD]⟩] 109 uc:=C1.kf [TD] Tryz.func109 (by kernel_rfl) (by kernel_rfl) fun x=>by kernel_rfl
def aeE:=kw aeD
def LM:FC Tryz.prog:=⟨eH,[Ya],gR,Tryz.f108,[vl [.shr aD]]⟩
noncomputable def sH (bc eA:aj) (n4 i5:Int):Option (Sum Vd (Sum (aj×Unit) Unit)):=bif decide (i5<(bc.length:Int)) then bif decide (0≤i5) then Option.bind ((bc)[i5.toNat]?) fun r2=>bif decide (r2.1≤n4) then bif decide (0≤i5) then Option.bind ((bc)[i5.toNat]?) fun r3=>bif Nat.ble (((List.length eA)+1)*40) lim then some (.inl (bc,eA++[(r3.1,r3.2.1,r3.2.2.1,r3.2.2.2.1,())],n4,i64.wrap (i5+1),())) else none else none else some (.inl (bc,eA,n4,i64.wrap (i5+1),())) else none else some (.inr (.inl (eA,())))
noncomputable def kz (x:Vd):Option (Sum Vd (Sum (aj×Unit) Unit)):=sH x.1 x.2.1 x.2.2.1 x.2.2.2.1
def TE:LD:=⟨0,LM.lp 0,sp [(0,vl [.shr aD]),(2,vl [.own aD]),(0,vl [.int .i64]),(0,vl [.int .i64])] 25,sp [(3,vl [.own aD])] 27,sp [] 31,kz⟩
theorem TF:LM.Ok TE:=LM.mY fun x=>by kernel_rfl
def TG:LM.KL:=⟨_,TF⟩
noncomputable def ud (bc:aj):Option (aj×Unit):=Option.bind (lD bc) fun y1=>cT (aG kz (bc,[],y1.1,0,())) (fun y2=>some (y2.1,())) (fun y3=>none)
theorem aeF:LM.Kn [⟨.tmp 2,false,[.own aD]⟩] 108 ud:=LM.kf [TG] Tryz.func108 (by kernel_rfl) (by kernel_rfl) fun x=>by kernel_rfl
def aeG:=kw aeF
def PC:FC Tryz.prog:=⟨Og,[K67,K68,aeE,aeG],dr 10 (.t 0 (.a 1 (.a 2 (.a 3 (.a 4 (.t 5 (.alt (.o 6 (.a 7 (.a 8 (.a 9 (.o 10 (.l 11 (.a 12 .nil))))))) (.o 10 (.o 6 (.a 7 (.a 8 (.a 9 (.l 11 (.a 12 .nil)))))))))))))),Tryz.f69,[va vd,vl yw,vl [.int .i64],vl [.int .i64]]⟩
noncomputable def nY (cf:af) (jG EU:Int) (EV:aH) (sI:aj) (ue:fu) (yz:aH) (i14:Int):Option (Sum SY (Sum Xj Unit)):=bif decide (i14<(yz.length:Int)) then bif decide (0≤i14) then bif Nat.blt (i14.toNat) (List.length yz) then Option.bind ((yz)[i14.toNat]?) fun r3=>Option.bind (di EU EV cf r3.1) fun IE=>bif Nat.ble (((List.length ue)+1)*24) lim then some (.inl (cf,jG,EU,EV,sI,ue++[(IE.2.2.2.1,())],yz,i64.wrap (i14+1),())) else none else none else none else some (.inr (.inl (jG,sI,ue,())))
noncomputable def uf (cf:af) (jG EU:Int) (EV:aH) (sI:aj) (ue:fu) (yz:aH) (i14:Int):Option (Sum SY (Sum Xj Unit)):=bif decide (i14<(yz.length:Int)) then bif decide (0≤i14) then bif Nat.blt (i14.toNat) (List.length yz) then Option.bind ((yz)[i14.toNat]?) fun r3=>(fun K25:(U7)→Option (Sum SY (Sum Xj Unit))=>both (Option.bind (di EU EV cf r3.1) fun IE=>K25 IE) (Option.bind (di EU EV cf r3.1) fun IE=>K25 IE)) (fun IE=>bif Nat.ble (((List.length ue)+1)*24) lim then some (.inl (cf,jG,EU,EV,sI,ue++[(IE.2.2.2.1,())],yz,i64.wrap (i14+1),())) else none) else none else none else some (.inr (.inl (jG,sI,ue,())))
theorem AI:uf=nY:=by delta uf nY;simp only [ku]
noncomputable def j9 (x:SY):Option (Sum SY (Sum Xj Unit)):=nY x.1 x.2.1 x.2.2.1 x.2.2.2.1 x.2.2.2.2.1 x.2.2.2.2.2.1 x.2.2.2.2.2.2.1 x.2.2.2.2.2.2.2.1
def IF:List (Option AP):=sp [(1,vl yw),(1,vl [.int .i64]),(0,.box false vd),(4,vl [.own aD]),(2,vl Qx),(0,vl [.own fX]),(0,vl [.int .i64])] 71
noncomputable def yA (x:SY):Option (Sum SY (Sum Xj Unit)):=wq (aE IF) uf x
theorem AJ:yA=j9:=congrArg (wq (aE IF)) AI
def Rr:LD:=⟨0,PC.lp 0,IF,sp [(3,vl [.int .i64]),(5,vl [.own aD]),(2,vl Qx)] 73,sp [] 86,j9⟩
theorem YJ:PC.Ok Rr:=PC.kl1 (l:=Rr) (by kernel_rfl) fun x=>Eq.trans (b:=yA x) (by kernel_rfl) (congrFun AJ x)
def YK:PC.KL:=⟨_,YJ⟩
noncomputable def ug (jG:Int) (sI xy:aj) (i18:Int):Option (Sum U40 (Sum (aj×Unit) Unit)):=bif decide (i18<(xy.length:Int)) then bif decide (0≤i18) then bif Nat.blt (i18.toNat) (List.length xy) then Option.bind ((xy)[i18.toNat]?) fun r9=>bif decide (jG<r9.1) then bif decide (0≤i18) then bif Nat.blt (i18.toNat) (List.length xy) then Option.bind ((xy)[i18.toNat]?) fun Vx=>bif Nat.ble (((List.length sI)+1)*40) lim then some (.inl (jG,sI++[(Vx.1,Vx.2.1,Vx.2.2.1,Vx.2.2.2.1,())],xy,i64.wrap (i18+1),())) else none else none else none else some (.inl (jG,sI,xy,i64.wrap (i18+1),())) else none else none else some (.inr (.inl (sI,())))
noncomputable def lV (x:U40):Option (Sum U40 (Sum (aj×Unit) Unit)):=ug x.1 x.2.1 x.2.2.1 x.2.2.2.1
def YL:LD:=⟨2,PC.lp 1,sp [(3,vl [.int .i64]),(5,vl [.own aD]),(7,vl [.own aD]),(0,vl [.int .i64])] 67,sp [(9,vl [.own aD])] 76,sp [] 86,lV⟩
theorem YM:PC.Ok YL:=PC.mY fun x=>by kernel_rfl
def YN:PC.KL:=⟨_,YM⟩
noncomputable def qW (bj:Int) (bl:aH) (cf:af) (qd jG:Int):Option (aj×Unit):=Option.bind (di bj bl cf qd) fun y1=>bif !y1.2.2.2.2.1 then some ([],()) else bif decide (y1.2.2.1=0) then some ([],()) else Option.bind (gw bj bl cf qd) fun y2=>cT (aG j9 (cf,jG,bj,bl,[],[],y2.1,0,())) (fun y3=>Option.bind (uc y3.2.2.1) fun y5=>Option.bind (ud y5.1) fun y6=>cT (aG lV (y3.1,y3.2.1,y6.1,0,())) (fun y7=>some (y7.1,())) (fun y8=>none)) (fun y4=>none)
theorem k69:PC.Kn [⟨.tmp 8,false,[.own aD]⟩] 69 qW:=PC.kf [YK,YN] Tryz.func69 (by kernel_rfl) (by kernel_rfl) fun x=>by kernel_rfl
def K69:=kw k69
def YO:FC Tryz.prog:=⟨eH,[Ta,Rn],dr 3 (.a 0 (.a 1 (.a 4 (.t 5 (.alt (.o 2 (.o 3 (.l 6 (.a 7 (.a 8 (.l 9 (.a 10 .nil))))))) (.o 3 (.alt (.o 2 (.l 6 (.a 7 (.a 8 (.l 9 (.a 10 .nil)))))) (.l 6 (.t 2 (.a 7 (.a 8 (.l 9 (.a 10 .nil))))))))))))),Tryz.f70,[vl [.int .i64],va vd]⟩
noncomputable def eo (Rs fB:Int) (eB:aH):Option (U8):=Option.bind (dN fB eB) fun y1=>bif !y1.1 then some (0,0,[],[],[],[],0,0,0,0,0,0,0,0,0,[],false,()) else Option.bind (dV eB Rs) fun y2=>bif !y2.1 then some (0,0,[],[],[],[],0,0,0,0,0,0,0,0,0,[],false,()) else bif Nat.ble ((0+(List.length eB))*8) lim then some (Rs,fB,[]++eB,[],[],[],0,0,0,0,0,0,0,0,0,[],true,()) else none
noncomputable def rH (Rs fB:Int) (eB:aH):Option (U8):=Option.bind (dN fB eB) fun y1=>bif !y1.1 then some (0,0,[],[],[],[],0,0,0,0,0,0,0,0,0,[],false,()) else Option.bind (dV eB Rs) fun y2=>bif !y2.1 then some (0,0,[],[],[],[],0,0,0,0,0,0,0,0,0,[],false,()) else (fun Vt:Option (U8)=>both (bif Nat.ble ((0+(List.length eB))*8) lim then Vt else none) (both (bif Nat.ble ((0+(List.length eB))*8) lim then Vt else none) (bif Nat.ble ((0+(List.length eB))*8) lim then Vt else none))) (some (Rs,fB,[]++eB,[],[],[],0,0,0,0,0,0,0,0,0,[],true,()))
theorem yB:rH=eo:=by delta rH eo;simp only [ku]
noncomputable def vN (x:U41):Option (U8):=wq (aE (YO.ps.map some)) rH x
theorem yC:vN=wq (aE (YO.ps.map some)) eo:=congrArg (wq (aE (YO.ps.map some))) yB
theorem k70:YO.Kn [⟨.cell 4,true,Lx⟩,⟨.tmp 5,false,[.bool]⟩] 70 eo:=YO.kf1 Tryz.func70 (by kernel_rfl) fun x=>Eq.trans (b:=vN x) (by kernel_rfl) (congrFun yC x)
def K70:=kw k70
def QB:FC Tryz.prog:=⟨eH,[Vt,K68,K69,K70],dr 2 (.a 0 (.a 1 (.a 2 (.a 3 (.t 4 (.t 5 (.a 7 (.a 8 (.a 9 (.t 10 (.a 11 (.a 12 (.a 13 (.t 14 (.a 15 (.a 16 (.a 17 (.t 18 (.o 6 (.o 19 (.a 20 (.o 21 (.l 22 (.a 23 (.a 24 (.l 25 .nil)))))))))))))))))))))))))) (dr 3 (.a 0 (.a 1 (.a 2 (.t 3 (.a 4 (.a 5 (.a 6 (.t 7 (.a 8 (.a 9 (.a 10 (.t 11 (.a 12 (.a 13 (.a 14 (.a 15 (.t 16 (.o 17 (.a 18 .nil))))))))))))))))))) (dr 7 (.a 0 (.a 1 (.a 2 (.a 3 (.t 4 (.t 5 (.a 7 (.a 8 (.a 9 (.t 10 (.o 6 (.a 11 (.o 12 (.l 13 (.a 14 (.a 15 (.l 16 .nil))))))))))))))))) (dr 8 (.a 0 (.a 1 (.a 2 (.a 3 (.a 5 (.a 6 (.a 7 (.t 8 (.a 11 (.a 12 (.a 13 (.a 14 (.t 15 (.alt (.o 4 (.alt (.o 9 (.o 10 (.l 16 (.a 17 (.o 18 (.l 19 (.a 20 (.a 21 (.l 22 .nil))))))))) (.o 10 (.o 9 (.l 16 (.a 17 (.o 18 (.l 19 (.a 20 (.a 21 (.l 22 .nil))))))))))) (.alt (.o 9 (.alt (.o 4 (.o 10 (.l 16 (.a 17 (.o 18 (.l 19 (.a 20 (.a 21 (.l 22 .nil))))))))) (.o 10 (.alt (.o 4 (.l 16 (.a 17 (.o 18 (.l 19 (.a 20 (.a 21 (.l 22 .nil)))))))) (.l 16 (.t 4 (.a 17 (.o 18 (.l 19 (.a 20 (.a 21 (.l 22 .nil)))))))))))) (.o 10 (.alt (.o 4 (.o 9 (.l 16 (.a 17 (.o 18 (.l 19 (.a 20 (.a 21 (.l 22 .nil))))))))) (.o 9 (.alt (.o 4 (.l 16 (.a 17 (.o 18 (.l 19 (.a 20 (.a 21 (.l 22 .nil)))))))) (.l 16 (.t 4 (.a 17 (.o 18 (.l 19 (.a 20 (.a 21 (.l 22 .nil))))))))))))))))))))))))))) (dr 9 (.a 0 (.a 1 (.a 2 (.t 3 (.a 4 (.a 5 (.a 6 (.t 7 (.alt (.o 8 (.a 9 (.a 10 (.a 11 (.o 12 (.l 13 (.a 14 .nil))))))) (.o 12 (.o 8 (.a 9 (.a 10 (.a 11 (.l 13 (.a 14 .nil)))))))))))))))))))),Tryz.f29,[.box true ad5]⟩
noncomputable def nh (ca:Int) (dm:Bool) (dg cG:Int) (cR:aH) (aw:aj) (cW:aH) (cX:fE) (du dv bN bG bO bP bQ bR bS:Int) (bD:aH) (bm aZ aP:Int) (aN:aH) (ba:af) (bq:ai) (On:Int) (Oo:aH) (JV:aj) (i4:Int):Option (Sum U42 (Sum ae Unit)):=bif decide (i4<(JV.length:Int)) then bif decide (0≤i4) then bif Nat.blt (i4.toNat) (List.length JV) then Option.bind ((JV)[i4.toNat]?) fun r4=>Option.bind (aY On Oo) fun y5=>bif Nat.ble (((List.length bq)+1)*104) lim then some (.inl (ca,dm,dg,cG,cR,aw,cW,cX,du,dv,bN,bG,bO,bP,bQ,bR,bS,bD,bm,aZ,aP,aN,ba,bq++([(1,y5.1,y5.2.1,r4.1,r4.2.1,r4.2.2.1,r4.2.2.2.1,[],())]),On,Oo,JV,i64.wrap (i4+1),())) else none else none else none else some (.inr (.inl (ca,dm,dg,cG,cR,aw,cW,cX,du,dv,bN,bG,bO,bP,bQ,bR,bS,bD,bm,aZ,aP,aN,ba,bq,())))
noncomputable def dn (x:U42):Option (Sum U42 (Sum ae Unit)):=nh x.1 x.2.1 x.2.2.1 x.2.2.2.1 x.2.2.2.2.1 x.2.2.2.2.2.1 x.2.2.2.2.2.2.1 x.2.2.2.2.2.2.2.1 x.2.2.2.2.2.2.2.2.1 x.2.2.2.2.2.2.2.2.2.1 x.2.2.2.2.2.2.2.2.2.2.1 x.2.2.2.2.2.2.2.2.2.2.2.1 x.2.2.2.2.2.2.2.2.2.2.2.2.1 x.2.2.2.2.2.2.2.2.2.2.2.2.2.1 x.2.2.2.2.2.2.2.2.2.2.2.2.2.2.1 x.2.2.2.2.2.2.2.2.2.2.2.2.2.2.2.1 x.2.2.2.2.2.2.2.2.2.2.2.2.2.2.2.2.1 x.2.2.2.2.2.2.2.2.2.2.2.2.2.2.2.2.2.1 x.2.2.2.2.2.2.2.2.2.2.2.2.2.2.2.2.2.2.1 x.2.2.2.2.2.2.2.2.2.2.2.2.2.2.2.2.2.2.2.1 x.2.2.2.2.2.2.2.2.2.2.2.2.2.2.2.2.2.2.2.2.1 x.2.2.2.2.2.2.2.2.2.2.2.2.2.2.2.2.2.2.2.2.2.1 x.2.2.2.2.2.2.2.2.2.2.2.2.2.2.2.2.2.2.2.2.2.2.1 x.2.2.2.2.2.2.2.2.2.2.2.2.2.2.2.2.2.2.2.2.2.2.2.1 x.2.2.2.2.2.2.2.2.2.2.2.2.2.2.2.2.2.2.2.2.2.2.2.2.1 x.2.2.2.2.2.2.2.2.2.2.2.2.2.2.2.2.2.2.2.2.2.2.2.2.2.1 x.2.2.2.2.2.2.2.2.2.2.2.2.2.2.2.2.2.2.2.2.2.2.2.2.2.2.1 x.2.2.2.2.2.2.2.2.2.2.2.2.2.2.2.2.2.2.2.2.2.2.2.2.2.2.2.1
def YP:LD:=⟨0,QB.lp 0,sp [(0,.box true Xo),(1,.box false vd),(0,vl [.own aD]),(0,vl [.int .i64])] 144,sp [(0,.box true Xo)] 148,sp [] 149,dn⟩
theorem YQ:QB.Ok YP:=QB.mY fun x=>by kernel_rfl
def YR:QB.KL:=⟨_,YQ⟩
noncomputable def et (ca:Int) (dm:Bool) (dg cG:Int) (cR:aH) (aw:aj) (cW:aH) (cX:fE) (du dv bN bG bO bP bQ bR bS:Int) (bD:aH) (bm aZ aP:Int) (aN:aH) (ba:af) (bq:ai):Option (ae):=bif decide (0<aZ) then Option.bind (aY cG cR) fun y1=>Option.bind (gw aP aN ba ca) fun y2=>bif Nat.ble (((List.length bq)+1)*104) lim then Option.bind (qW aP aN ba ca bG) fun y3=>cT (aG dn (ca,dm,dg,cG,cR,aw,cW,cX,du,dv,bN,bG,bO,bP,bQ,bR,bS,bD,bm,aZ,aP,aN,ba,bq++[(2,y1.1,y1.2.1,0,0,0,ByteArray.empty,y2.1,())],cG,cR,y3.1,0,())) (fun y4=>Option.bind (aY y4.2.2.2.2.2.2.2.2.2.2.2.2.2.2.2.2.2.2.2.2.1 y4.2.2.2.2.2.2.2.2.2.2.2.2.2.2.2.2.2.2.2.2.2.1) fun uV=>bif Nat.ble ((0+(List.length y4.2.2.2.2.2.2.2.2.2.2.2.2.2.2.2.2.2.2.2.2.2.1))*8) lim then bif Nat.ble (((List.length y4.2.2.2.2.2.2.2.2.2.2.2.2.2.2.2.2.2.2.2.2.2.2.2.1)+1)*104) lim then Option.bind (eo y4.1 y4.2.2.2.2.2.2.2.2.2.2.2.2.2.2.2.2.2.2.2.2.1 y4.2.2.2.2.2.2.2.2.2.2.2.2.2.2.2.2.2.2.2.2.2.1) fun mi=>some (y4.1,y4.2.1,mi.1,mi.2.1,mi.2.2.1,mi.2.2.2.1,y4.2.2.2.2.2.2.1,y4.2.2.2.2.2.2.2.1,mi.2.2.2.2.2.2.1,mi.2.2.2.2.2.2.2.1,mi.2.2.2.2.2.2.2.2.1,mi.2.2.2.2.2.2.2.2.2.1,mi.2.2.2.2.2.2.2.2.2.2.1,mi.2.2.2.2.2.2.2.2.2.2.2.1,mi.2.2.2.2.2.2.2.2.2.2.2.2.1,mi.2.2.2.2.2.2.2.2.2.2.2.2.2.1,mi.2.2.2.2.2.2.2.2.2.2.2.2.2.2.1,mi.2.2.2.2.2.2.2.2.2.2.2.2.2.2.2.1,y4.2.2.2.2.2.2.2.2.2.2.2.2.2.2.2.2.2.2.1,y4.2.2.2.2.2.2.2.2.2.2.2.2.2.2.2.2.2.2.2.2.1,0,[],[],y4.2.2.2.2.2.2.2.2.2.2.2.2.2.2.2.2.2.2.2.2.2.2.2.1++([(3,uV.1,uV.2.1,0,0,0,ByteArray.empty,[]++y4.2.2.2.2.2.2.2.2.2.2.2.2.2.2.2.2.2.2.2.2.2.1,())]),()) else none else none) (fun y5=>none) else none else Option.bind (aY aP aN) fun uW=>bif Nat.ble ((0+(List.length aN))*8) lim then bif Nat.ble (((List.length bq)+1)*104) lim then Option.bind (eo ca aP aN) fun mj=>some (ca,dm,mj.1,mj.2.1,mj.2.2.1,mj.2.2.2.1,cW,cX,mj.2.2.2.2.2.2.1,mj.2.2.2.2.2.2.2.1,mj.2.2.2.2.2.2.2.2.1,mj.2.2.2.2.2.2.2.2.2.1,mj.2.2.2.2.2.2.2.2.2.2.1,mj.2.2.2.2.2.2.2.2.2.2.2.1,mj.2.2.2.2.2.2.2.2.2.2.2.2.1,mj.2.2.2.2.2.2.2.2.2.2.2.2.2.1,mj.2.2.2.2.2.2.2.2.2.2.2.2.2.2.1,mj.2.2.2.2.2.2.2.2.2.2.2.2.2.2.2.1,bm,aP,0,[],[],bq++([(3,uW.1,uW.2.1,0,0,0,ByteArray.empty,[]++aN,())]),()) else none else none
noncomputable def nZ (ca:Int) (dm:Bool) (dg cG:Int) (cR:aH) (aw:aj) (cW:aH) (cX:fE) (du dv bN bG bO bP bQ bR bS:Int) (bD:aH) (bm aZ aP:Int) (aN:aH) (ba:af) (bq:ai):Option (ae):=bif decide (0<aZ) then Option.bind (aY cG cR) fun y1=>Option.bind (gw aP aN ba ca) fun y2=>bif Nat.ble (((List.length bq)+1)*104) lim then Option.bind (qW aP aN ba ca bG) fun y3=>cT (aG dn (ca,dm,dg,cG,cR,aw,cW,cX,du,dv,bN,bG,bO,bP,bQ,bR,bS,bD,bm,aZ,aP,aN,ba,bq++[(2,y1.1,y1.2.1,0,0,0,ByteArray.empty,y2.1,())],cG,cR,y3.1,0,())) (fun y4=>(fun Ol:(Int×aH×Unit)→Option (ae)=>both (both (Option.bind (aY y4.2.2.2.2.2.2.2.2.2.2.2.2.2.2.2.2.2.2.2.2.1 y4.2.2.2.2.2.2.2.2.2.2.2.2.2.2.2.2.2.2.2.2.2.1) fun uV=>bif Nat.ble ((0+(List.length y4.2.2.2.2.2.2.2.2.2.2.2.2.2.2.2.2.2.2.2.2.2.1))*8) lim then bif Nat.ble (((List.length y4.2.2.2.2.2.2.2.2.2.2.2.2.2.2.2.2.2.2.2.2.2.2.2.1)+1)*104) lim then Ol uV else none else none) (Option.bind (aY y4.2.2.2.2.2.2.2.2.2.2.2.2.2.2.2.2.2.2.2.2.1 y4.2.2.2.2.2.2.2.2.2.2.2.2.2.2.2.2.2.2.2.2.2.1) fun uV=>bif Nat.ble ((0+(List.length y4.2.2.2.2.2.2.2.2.2.2.2.2.2.2.2.2.2.2.2.2.2.1))*8) lim then bif Nat.ble (((List.length y4.2.2.2.2.2.2.2.2.2.2.2.2.2.2.2.2.2.2.2.2.2.2.2.1)+1)*104) lim then Ol uV else none else none)) (both (Option.bind (aY y4.2.2.2.2.2.2.2.2.2.2.2.2.2.2.2.2.2.2.2.2.1 y4.2.2.2.2.2.2.2.2.2.2.2.2.2.2.2.2.2.2.2.2.2.1) fun uV=>both (bif Nat.ble ((0+(List.length y4.2.2.2.2.2.2.2.2.2.2.2.2.2.2.2.2.2.2.2.2.2.1))*8) lim then bif Nat.ble (((List.length y4.2.2.2.2.2.2.2.2.2.2.2.2.2.2.2.2.2.2.2.2.2.2.2.1)+1)*104) lim then Ol uV else none else none) (both (bif Nat.ble ((0+(List.length y4.2.2.2.2.2.2.2.2.2.2.2.2.2.2.2.2.2.2.2.2.2.1))*8) lim then bif Nat.ble (((List.length y4.2.2.2.2.2.2.2.2.2.2.2.2.2.2.2.2.2.2.2.2.2.2.2.1)+1)*104) lim then Ol uV else none else none) (bif Nat.ble ((0+(List.length y4.2.2.2.2.2.2.2.2.2.2.2.2.2.2.2.2.2.2.2.2.2.1))*8) lim then bif Nat.ble (((List.length y4.2.2.2.2.2.2.2.2.2.2.2.2.2.2.2.2.2.2.2.2.2.2.2.1)+1)*104) lim then Ol uV else none else none))) (both (Option.bind (aY y4.2.2.2.2.2.2.2.2.2.2.2.2.2.2.2.2.2.2.2.2.1 y4.2.2.2.2.2.2.2.2.2.2.2.2.2.2.2.2.2.2.2.2.2.1) fun uV=>bif Nat.ble ((0+(List.length y4.2.2.2.2.2.2.2.2.2.2.2.2.2.2.2.2.2.2.2.2.2.1))*8) lim then bif Nat.ble (((List.length y4.2.2.2.2.2.2.2.2.2.2.2.2.2.2.2.2.2.2.2.2.2.2.2.1)+1)*104) lim then Ol uV else none else none) (Option.bind (aY y4.2.2.2.2.2.2.2.2.2.2.2.2.2.2.2.2.2.2.2.2.1 y4.2.2.2.2.2.2.2.2.2.2.2.2.2.2.2.2.2.2.2.2.2.1) fun uV=>both (bif Nat.ble ((0+(List.length y4.2.2.2.2.2.2.2.2.2.2.2.2.2.2.2.2.2.2.2.2.2.1))*8) lim then bif Nat.ble (((List.length y4.2.2.2.2.2.2.2.2.2.2.2.2.2.2.2.2.2.2.2.2.2.2.2.1)+1)*104) lim then Ol uV else none else none) (bif Nat.ble ((0+(List.length y4.2.2.2.2.2.2.2.2.2.2.2.2.2.2.2.2.2.2.2.2.2.1))*8) lim then bif Nat.ble (((List.length y4.2.2.2.2.2.2.2.2.2.2.2.2.2.2.2.2.2.2.2.2.2.2.2.1)+1)*104) lim then Ol uV else none else none))))) (fun uV=>(fun K28:(U8)→Option (ae)=>both (Option.bind (eo y4.1 y4.2.2.2.2.2.2.2.2.2.2.2.2.2.2.2.2.2.2.2.2.1 y4.2.2.2.2.2.2.2.2.2.2.2.2.2.2.2.2.2.2.2.2.2.1) fun mi=>K28 mi) (Option.bind (eo y4.1 y4.2.2.2.2.2.2.2.2.2.2.2.2.2.2.2.2.2.2.2.2.1 y4.2.2.2.2.2.2.2.2.2.2.2.2.2.2.2.2.2.2.2.2.2.1) fun mi=>K28 mi)) (fun mi=>some (y4.1,y4.2.1,mi.1,mi.2.1,mi.2.2.1,mi.2.2.2.1,y4.2.2.2.2.2.2.1,y4.2.2.2.2.2.2.2.1,mi.2.2.2.2.2.2.1,mi.2.2.2.2.2.2.2.1,mi.2.2.2.2.2.2.2.2.1,mi.2.2.2.2.2.2.2.2.2.1,mi.2.2.2.2.2.2.2.2.2.2.1,mi.2.2.2.2.2.2.2.2.2.2.2.1,mi.2.2.2.2.2.2.2.2.2.2.2.2.1,mi.2.2.2.2.2.2.2.2.2.2.2.2.2.1,mi.2.2.2.2.2.2.2.2.2.2.2.2.2.2.1,mi.2.2.2.2.2.2.2.2.2.2.2.2.2.2.2.1,y4.2.2.2.2.2.2.2.2.2.2.2.2.2.2.2.2.2.2.1,y4.2.2.2.2.2.2.2.2.2.2.2.2.2.2.2.2.2.2.2.2.1,0,[],[],y4.2.2.2.2.2.2.2.2.2.2.2.2.2.2.2.2.2.2.2.2.2.2.2.1++([(3,uV.1,uV.2.1,0,0,0,ByteArray.empty,[]++y4.2.2.2.2.2.2.2.2.2.2.2.2.2.2.2.2.2.2.2.2.2.1,())]),())))) (fun y5=>none) else none else (fun PD:(Int×aH×Unit)→Option (ae)=>both (both (Option.bind (aY aP aN) fun uW=>bif Nat.ble ((0+(List.length aN))*8) lim then bif Nat.ble (((List.length bq)+1)*104) lim then PD uW else none else none) (Option.bind (aY aP aN) fun uW=>bif Nat.ble ((0+(List.length aN))*8) lim then bif Nat.ble (((List.length bq)+1)*104) lim then PD uW else none else none)) (both (Option.bind (aY aP aN) fun uW=>both (bif Nat.ble ((0+(List.length aN))*8) lim then bif Nat.ble (((List.length bq)+1)*104) lim then PD uW else none else none) (both (bif Nat.ble ((0+(List.length aN))*8) lim then bif Nat.ble (((List.length bq)+1)*104) lim then PD uW else none else none) (bif Nat.ble ((0+(List.length aN))*8) lim then bif Nat.ble (((List.length bq)+1)*104) lim then PD uW else none else none))) (both (Option.bind (aY aP aN) fun uW=>bif Nat.ble ((0+(List.length aN))*8) lim then bif Nat.ble (((List.length bq)+1)*104) lim then PD uW else none else none) (Option.bind (aY aP aN) fun uW=>both (bif Nat.ble ((0+(List.length aN))*8) lim then bif Nat.ble (((List.length bq)+1)*104) lim then PD uW else none else none) (bif Nat.ble ((0+(List.length aN))*8) lim then bif Nat.ble (((List.length bq)+1)*104) lim then PD uW else none else none))))) (fun uW=>(fun K30:(U8)→Option (ae)=>both (Option.bind (eo ca aP aN) fun mj=>K30 mj) (Option.bind (eo ca aP aN) fun mj=>K30 mj)) (fun mj=>some (ca,dm,mj.1,mj.2.1,mj.2.2.1,mj.2.2.2.1,cW,cX,mj.2.2.2.2.2.2.1,mj.2.2.2.2.2.2.2.1,mj.2.2.2.2.2.2.2.2.1,mj.2.2.2.2.2.2.2.2.2.1,mj.2.2.2.2.2.2.2.2.2.2.1,mj.2.2.2.2.2.2.2.2.2.2.2.1,mj.2.2.2.2.2.2.2.2.2.2.2.2.1,mj.2.2.2.2.2.2.2.2.2.2.2.2.2.1,mj.2.2.2.2.2.2.2.2.2.2.2.2.2.2.1,mj.2.2.2.2.2.2.2.2.2.2.2.2.2.2.2.1,bm,aP,0,[],[],bq++([(3,uW.1,uW.2.1,0,0,0,ByteArray.empty,[]++aN,())]),())))
theorem vO:nZ=et:=by delta nZ et;simp only [ku]
noncomputable def sn (x:ae):Option (ae):=wq (aE (QB.ps.map some)) nZ x
theorem vP:sn=wq (aE (QB.ps.map some)) et:=congrArg (wq (aE (QB.ps.map some))) vO
theorem k29:QB.Kn [] 29 et:=QB.kf [YR] Tryz.func29 (by kernel_rfl) (by kernel_rfl) fun x=>Eq.trans (b:=sn x) (by kernel_rfl) (congrFun vP x)
def PD:=kv (.pick [22],.shr,.shr) k29
def n5:Pl:=.a 11 (.l 13 .nil)
def JW:Pl:=.t 3 (.t 5 n5)
def AX:Pl:=.alt (.o 1 (.l 10 n5)) (.l 10 (.t 1 n5))
def AY:Pl:=.alt (.o 3 (.l 10 n5)) (.l 10 (.t 3 n5))
def EW:Pl:=.alt (.o 1 AY) (.alt (.o 3 AX) (.l 10 (.t 1 (.t 3 n5))))
def AZ:Pl:=.alt (.o 5 (.l 10 n5)) (.l 10 (.t 5 n5))
def EX:Pl:=.alt (.o 1 AZ) (.alt (.o 5 AX) (.l 10 (.t 1 (.t 5 n5))))
def EY:Pl:=.alt (.o 3 AZ) (.alt (.o 5 AY) (.l 10 JW))
def JX:Pl:=.alt (.o 1 EY) (.alt (.o 3 EX) (.alt (.o 5 EW) (.l 10 (.t 1 JW))))
def A3:Pl:=.o 6 (.l 10 n5)
def Cd:Pl:=.alt (.o 1 A3) (.o 6 AX)
def Ce:Pl:=.alt (.o 3 A3) (.o 6 AY)
def GW:Pl:=.alt (.o 1 Ce) (.alt (.o 3 Cd) (.o 6 EW))
def Cf:Pl:=.alt (.o 5 A3) (.o 6 AZ)
def GX:Pl:=.alt (.o 1 Cf) (.alt (.o 5 Cd) (.o 6 EX))
def GY:Pl:=.alt (.o 3 Cf) (.alt (.o 5 Ce) (.o 6 EY))
def rI:Pl:=.a 11 (.o 12 (.l 13 .nil))
def GZ:Pl:=.t 3 (.t 5 rI)
def yD:Pl:=.alt (.l 10 rI) (.o 12 (.l 10 n5))
def Cg:Pl:=.alt (.o 1 yD) (.alt (.l 10 (.t 1 rI)) (.o 12 AX))
def Ch:Pl:=.alt (.o 3 yD) (.alt (.l 10 (.t 3 rI)) (.o 12 AY))
def G0:Pl:=.alt (.o 1 Ch) (.alt (.o 3 Cg) (.alt (.l 10 (.t 1 (.t 3 rI))) (.o 12 EW)))
def Ci:Pl:=.alt (.o 5 yD) (.alt (.l 10 (.t 5 rI)) (.o 12 AZ))
def G1:Pl:=.alt (.o 1 Ci) (.alt (.o 5 Cg) (.alt (.l 10 (.t 1 (.t 5 rI))) (.o 12 EX)))
def G2:Pl:=.alt (.o 3 Ci) (.alt (.o 5 Ch) (.alt (.l 10 GZ) (.o 12 EY)))
def Cj:Pl:=.alt (.o 6 yD) (.o 12 A3)
def G3:Pl:=.alt (.o 1 Cj) (.alt (.o 6 Cg) (.o 12 Cd))
def G4:Pl:=.alt (.o 3 Cj) (.alt (.o 6 Ch) (.o 12 Ce))
def G5:Pl:=.alt (.o 5 Cj) (.alt (.o 6 Ci) (.o 12 Cf))
def F6:FC Tryz.prog:=⟨Og,[Yt,Ta,Rn,K25,Vt,Ol,K28,PD],dr 7 (.a 0 (.a 2 (.a 4 (.a 7 (.a 8 (.t 9 (.alt (.o 1 (.alt (.o 3 G5) (.alt (.o 5 G4) (.alt (.o 6 G2) (.o 12 GY))))) (.alt (.o 3 (.alt (.o 1 G5) (.alt (.o 5 G3) (.alt (.o 6 G1) (.o 12 GX))))) (.alt (.o 5 (.alt (.o 1 G4) (.alt (.o 3 G3) (.alt (.o 6 G0) (.o 12 GW))))) (.alt (.o 6 (.alt (.o 1 G2) (.alt (.o 3 G1) (.alt (.o 5 G0) (.alt (.l 10 (.t 1 GZ)) (.o 12 JX)))))) (.o 12 (.alt (.o 1 GY) (.alt (.o 3 GX) (.alt (.o 5 GW) (.o 6 JX))))))))))))))) (dr 12 (.a 0 (.t 1 (.a 2 (.a 3 (.t 4 (.a 5 (.t 6 (.a 7 .nil))))))))),Tryz.f6,[va FK,va vd]⟩
noncomputable def ui (TH:Int) (YS:Bool) (YT YU:Int) (YV:aH) (YW:aj) (YX:aH) (YY:fE) (YZ Y0 Rt Ru Rv Rw Rx Ry Rz:Int) (RA:aH) (RB RC RD:Int) (RE:aH) (RF:af) (RG:ai) (jr:Int) (iG:aH) (AE:Int) (AF:Bool) (AG AH:Int) (LN:aH) (LO:aj) (LP:aH) (LQ:fE) (LR LS DP DQ DR DS DT DU DV:Int) (DW:aH) (DX DY DZ:Int) (D0:aH) (D1:af) (D2:ai) (JY:af) (IG:Int) (IH:Bool) (II IJ:Int) (IK:aH) (IL:aj) (IM:aH) (IN:fE) (IP IQ EZ E0 E1 E2 E3 E4 E5:Int) (E6:aH) (E7 E8 E9:Int) (Fa:aH) (Fb:af) (Fc:ai) (TI TJ TL:Int) (TN:aj) (i10:Int):Option (Sum U43 (Sum U44 Unit)):=bif decide (i10<(iG.length:Int)) then bif decide (0≤i10) then Option.bind ((iG)[i10.toNat]?) fun r6=>bif !decide (r6.1=TH) then Option.bind (iD TI TJ TL TN) fun y7=>bif Nat.ble (((List.length JY)+1)*48) lim then some (.inl (TH,YS,YT,YU,YV,YW,YX,YY,YZ,Y0,Rt,Ru,Rv,Rw,Rx,Ry,Rz,RA,RB,RC,RD,RE,RF,RG,jr,iG,AE,AF,AG,AH,LN,LO,LP,LQ,LR,LS,DP,DQ,DR,DS,DT,DU,DV,DW,DX,DY,DZ,D0,D1,D2,JY++[(y7.1,y7.2.1,y7.2.2.1,y7.2.2.2.1,())],IG,IH,II,IJ,IK,IL,IM,IN,IP,IQ,EZ,E0,E1,E2,E3,E4,E5,E6,E7,E8,E9,Fa,Fb,Fc,TI,TJ,TL,TN,i64.wrap (i10+1),())) else none else some (.inl (TH,YS,YT,YU,YV,YW,YX,YY,YZ,Y0,Rt,Ru,Rv,Rw,Rx,Ry,Rz,RA,RB,RC,RD,RE,RF,RG,jr,iG,AE,AF,AG,AH,LN,LO,LP,LQ,LR,LS,DP,DQ,DR,DS,DT,DU,DV,DW,DX,DY,DZ,D0,D1,D2,JY,IG,IH,II,IJ,IK,IL,IM,IN,IP,IQ,EZ,E0,E1,E2,E3,E4,E5,E6,E7,E8,E9,Fa,Fb,Fc,TI,TJ,TL,TN,i64.wrap (i10+1),())) else none else some (.inr (.inl (AE,AF,AG,AH,LN,LO,LP,LQ,LR,LS,DP,DQ,DR,DS,DT,DU,DV,DW,DX,DY,DZ,D0,D1,D2,JY,IG,IH,II,IJ,IK,IL,IM,IN,IP,IQ,EZ,E0,E1,E2,E3,E4,E5,E6,E7,E8,E9,Fa,Fb,Fc,())))
noncomputable def jb (x:U43):Option (Sum U43 (Sum U44 Unit)):=ui x.1 x.2.1 x.2.2.1 x.2.2.2.1 x.2.2.2.2.1 x.2.2.2.2.2.1 x.2.2.2.2.2.2.1 x.2.2.2.2.2.2.2.1 x.2.2.2.2.2.2.2.2.1 x.2.2.2.2.2.2.2.2.2.1 x.2.2.2.2.2.2.2.2.2.2.1 x.2.2.2.2.2.2.2.2.2.2.2.1 x.2.2.2.2.2.2.2.2.2.2.2.2.1 x.2.2.2.2.2.2.2.2.2.2.2.2.2.1 x.2.2.2.2.2.2.2.2.2.2.2.2.2.2.1 x.2.2.2.2.2.2.2.2.2.2.2.2.2.2.2.1 x.2.2.2.2.2.2.2.2.2.2.2.2.2.2.2.2.1 x.2.2.2.2.2.2.2.2.2.2.2.2.2.2.2.2.2.1 x.2.2.2.2.2.2.2.2.2.2.2.2.2.2.2.2.2.2.1 x.2.2.2.2.2.2.2.2.2.2.2.2.2.2.2.2.2.2.2.1 x.2.2.2.2.2.2.2.2.2.2.2.2.2.2.2.2.2.2.2.2.1 x.2.2.2.2.2.2.2.2.2.2.2.2.2.2.2.2.2.2.2.2.2.1 x.2.2.2.2.2.2.2.2.2.2.2.2.2.2.2.2.2.2.2.2.2.2.1 x.2.2.2.2.2.2.2.2.2.2.2.2.2.2.2.2.2.2.2.2.2.2.2.1 x.2.2.2.2.2.2.2.2.2.2.2.2.2.2.2.2.2.2.2.2.2.2.2.2.1 x.2.2.2.2.2.2.2.2.2.2.2.2.2.2.2.2.2.2.2.2.2.2.2.2.2.1 x.2.2.2.2.2.2.2.2.2.2.2.2.2.2.2.2.2.2.2.2.2.2.2.2.2.2.1 x.2.2.2.2.2.2.2.2.2.2.2.2.2.2.2.2.2.2.2.2.2.2.2.2.2.2.2.1 x.2.2.2.2.2.2.2.2.2.2.2.2.2.2.2.2.2.2.2.2.2.2.2.2.2.2.2.2.1 x.2.2.2.2.2.2.2.2.2.2.2.2.2.2.2.2.2.2.2.2.2.2.2.2.2.2.2.2.2.1 x.2.2.2.2.2.2.2.2.2.2.2.2.2.2.2.2.2.2.2.2.2.2.2.2.2.2.2.2.2.2.1 x.2.2.2.2.2.2.2.2.2.2.2.2.2.2.2.2.2.2.2.2.2.2.2.2.2.2.2.2.2.2.2.1 x.2.2.2.2.2.2.2.2.2.2.2.2.2.2.2.2.2.2.2.2.2.2.2.2.2.2.2.2.2.2.2.2.1 x.2.2.2.2.2.2.2.2.2.2.2.2.2.2.2.2.2.2.2.2.2.2.2.2.2.2.2.2.2.2.2.2.2.1 x.2.2.2.2.2.2.2.2.2.2.2.2.2.2.2.2.2.2.2.2.2.2.2.2.2.2.2.2.2.2.2.2.2.2.1 x.2.2.2.2.2.2.2.2.2.2.2.2.2.2.2.2.2.2.2.2.2.2.2.2.2.2.2.2.2.2.2.2.2.2.2.1 x.2.2.2.2.2.2.2.2.2.2.2.2.2.2.2.2.2.2.2.2.2.2.2.2.2.2.2.2.2.2.2.2.2.2.2.2.1 x.2.2.2.2.2.2.2.2.2.2.2.2.2.2.2.2.2.2.2.2.2.2.2.2.2.2.2.2.2.2.2.2.2.2.2.2.2.1 x.2.2.2.2.2.2.2.2.2.2.2.2.2.2.2.2.2.2.2.2.2.2.2.2.2.2.2.2.2.2.2.2.2.2.2.2.2.2.1 x.2.2.2.2.2.2.2.2.2.2.2.2.2.2.2.2.2.2.2.2.2.2.2.2.2.2.2.2.2.2.2.2.2.2.2.2.2.2.2.1 x.2.2.2.2.2.2.2.2.2.2.2.2.2.2.2.2.2.2.2.2.2.2.2.2.2.2.2.2.2.2.2.2.2.2.2.2.2.2.2.2.1 x.2.2.2.2.2.2.2.2.2.2.2.2.2.2.2.2.2.2.2.2.2.2.2.2.2.2.2.2.2.2.2.2.2.2.2.2.2.2.2.2.2.1 x.2.2.2.2.2.2.2.2.2.2.2.2.2.2.2.2.2.2.2.2.2.2.2.2.2.2.2.2.2.2.2.2.2.2.2.2.2.2.2.2.2.2.1 x.2.2.2.2.2.2.2.2.2.2.2.2.2.2.2.2.2.2.2.2.2.2.2.2.2.2.2.2.2.2.2.2.2.2.2.2.2.2.2.2.2.2.2.1 x.2.2.2.2.2.2.2.2.2.2.2.2.2.2.2.2.2.2.2.2.2.2.2.2.2.2.2.2.2.2.2.2.2.2.2.2.2.2.2.2.2.2.2.2.1 x.2.2.2.2.2.2.2.2.2.2.2.2.2.2.2.2.2.2.2.2.2.2.2.2.2.2.2.2.2.2.2.2.2.2.2.2.2.2.2.2.2.2.2.2.2.1 x.2.2.2.2.2.2.2.2.2.2.2.2.2.2.2.2.2.2.2.2.2.2.2.2.2.2.2.2.2.2.2.2.2.2.2.2.2.2.2.2.2.2.2.2.2.2.1 x.2.2.2.2.2.2.2.2.2.2.2.2.2.2.2.2.2.2.2.2.2.2.2.2.2.2.2.2.2.2.2.2.2.2.2.2.2.2.2.2.2.2.2.2.2.2.2.1 x.2.2.2.2.2.2.2.2.2.2.2.2.2.2.2.2.2.2.2.2.2.2.2.2.2.2.2.2.2.2.2.2.2.2.2.2.2.2.2.2.2.2.2.2.2.2.2.2.1 x.2.2.2.2.2.2.2.2.2.2.2.2.2.2.2.2.2.2.2.2.2.2.2.2.2.2.2.2.2.2.2.2.2.2.2.2.2.2.2.2.2.2.2.2.2.2.2.2.2.1 x.2.2.2.2.2.2.2.2.2.2.2.2.2.2.2.2.2.2.2.2.2.2.2.2.2.2.2.2.2.2.2.2.2.2.2.2.2.2.2.2.2.2.2.2.2.2.2.2.2.2.1 x.2.2.2.2.2.2.2.2.2.2.2.2.2.2.2.2.2.2.2.2.2.2.2.2.2.2.2.2.2.2.2.2.2.2.2.2.2.2.2.2.2.2.2.2.2.2.2.2.2.2.2.1 x.2.2.2.2.2.2.2.2.2.2.2.2.2.2.2.2.2.2.2.2.2.2.2.2.2.2.2.2.2.2.2.2.2.2.2.2.2.2.2.2.2.2.2.2.2.2.2.2.2.2.2.2.1 x.2.2.2.2.2.2.2.2.2.2.2.2.2.2.2.2.2.2.2.2.2.2.2.2.2.2.2.2.2.2.2.2.2.2.2.2.2.2.2.2.2.2.2.2.2.2.2.2.2.2.2.2.2.1 x.2.2.2.2.2.2.2.2.2.2.2.2.2.2.2.2.2.2.2.2.2.2.2.2.2.2.2.2.2.2.2.2.2.2.2.2.2.2.2.2.2.2.2.2.2.2.2.2.2.2.2.2.2.2.1 x.2.2.2.2.2.2.2.2.2.2.2.2.2.2.2.2.2.2.2.2.2.2.2.2.2.2.2.2.2.2.2.2.2.2.2.2.2.2.2.2.2.2.2.2.2.2.2.2.2.2.2.2.2.2.2.1 x.2.2.2.2.2.2.2.2.2.2.2.2.2.2.2.2.2.2.2.2.2.2.2.2.2.2.2.2.2.2.2.2.2.2.2.2.2.2.2.2.2.2.2.2.2.2.2.2.2.2.2.2.2.2.2.2.1 x.2.2.2.2.2.2.2.2.2.2.2.2.2.2.2.2.2.2.2.2.2.2.2.2.2.2.2.2.2.2.2.2.2.2.2.2.2.2.2.2.2.2.2.2.2.2.2.2.2.2.2.2.2.2.2.2.2.1 x.2.2.2.2.2.2.2.2.2.2.2.2.2.2.2.2.2.2.2.2.2.2.2.2.2.2.2.2.2.2.2.2.2.2.2.2.2.2.2.2.2.2.2.2.2.2.2.2.2.2.2.2.2.2.2.2.2.2.1 x.2.2.2.2.2.2.2.2.2.2.2.2.2.2.2.2.2.2.2.2.2.2.2.2.2.2.2.2.2.2.2.2.2.2.2.2.2.2.2.2.2.2.2.2.2.2.2.2.2.2.2.2.2.2.2.2.2.2.2.1 x.2.2.2.2.2.2.2.2.2.2.2.2.2.2.2.2.2.2.2.2.2.2.2.2.2.2.2.2.2.2.2.2.2.2.2.2.2.2.2.2.2.2.2.2.2.2.2.2.2.2.2.2.2.2.2.2.2.2.2.2.1 x.2.2.2.2.2.2.2.2.2.2.2.2.2.2.2.2.2.2.2.2.2.2.2.2.2.2.2.2.2.2.2.2.2.2.2.2.2.2.2.2.2.2.2.2.2.2.2.2.2.2.2.2.2.2.2.2.2.2.2.2.2.1 x.2.2.2.2.2.2.2.2.2.2.2.2.2.2.2.2.2.2.2.2.2.2.2.2.2.2.2.2.2.2.2.2.2.2.2.2.2.2.2.2.2.2.2.2.2.2.2.2.2.2.2.2.2.2.2.2.2.2.2.2.2.2.1 x.2.2.2.2.2.2.2.2.2.2.2.2.2.2.2.2.2.2.2.2.2.2.2.2.2.2.2.2.2.2.2.2.2.2.2.2.2.2.2.2.2.2.2.2.2.2.2.2.2.2.2.2.2.2.2.2.2.2.2.2.2.2.2.1 x.2.2.2.2.2.2.2.2.2.2.2.2.2.2.2.2.2.2.2.2.2.2.2.2.2.2.2.2.2.2.2.2.2.2.2.2.2.2.2.2.2.2.2.2.2.2.2.2.2.2.2.2.2.2.2.2.2.2.2.2.2.2.2.2.1 x.2.2.2.2.2.2.2.2.2.2.2.2.2.2.2.2.2.2.2.2.2.2.2.2.2.2.2.2.2.2.2.2.2.2.2.2.2.2.2.2.2.2.2.2.2.2.2.2.2.2.2.2.2.2.2.2.2.2.2.2.2.2.2.2.2.1 x.2.2.2.2.2.2.2.2.2.2.2.2.2.2.2.2.2.2.2.2.2.2.2.2.2.2.2.2.2.2.2.2.2.2.2.2.2.2.2.2.2.2.2.2.2.2.2.2.2.2.2.2.2.2.2.2.2.2.2.2.2.2.2.2.2.2.1 x.2.2.2.2.2.2.2.2.2.2.2.2.2.2.2.2.2.2.2.2.2.2.2.2.2.2.2.2.2.2.2.2.2.2.2.2.2.2.2.2.2.2.2.2.2.2.2.2.2.2.2.2.2.2.2.2.2.2.2.2.2.2.2.2.2.2.2.1 x.2.2.2.2.2.2.2.2.2.2.2.2.2.2.2.2.2.2.2.2.2.2.2.2.2.2.2.2.2.2.2.2.2.2.2.2.2.2.2.2.2.2.2.2.2.2.2.2.2.2.2.2.2.2.2.2.2.2.2.2.2.2.2.2.2.2.2.2.1 x.2.2.2.2.2.2.2.2.2.2.2.2.2.2.2.2.2.2.2.2.2.2.2.2.2.2.2.2.2.2.2.2.2.2.2.2.2.2.2.2.2.2.2.2.2.2.2.2.2.2.2.2.2.2.2.2.2.2.2.2.2.2.2.2.2.2.2.2.2.1 x.2.2.2.2.2.2.2.2.2.2.2.2.2.2.2.2.2.2.2.2.2.2.2.2.2.2.2.2.2.2.2.2.2.2.2.2.2.2.2.2.2.2.2.2.2.2.2.2.2.2.2.2.2.2.2.2.2.2.2.2.2.2.2.2.2.2.2.2.2.2.1 x.2.2.2.2.2.2.2.2.2.2.2.2.2.2.2.2.2.2.2.2.2.2.2.2.2.2.2.2.2.2.2.2.2.2.2.2.2.2.2.2.2.2.2.2.2.2.2.2.2.2.2.2.2.2.2.2.2.2.2.2.2.2.2.2.2.2.2.2.2.2.2.1 x.2.2.2.2.2.2.2.2.2.2.2.2.2.2.2.2.2.2.2.2.2.2.2.2.2.2.2.2.2.2.2.2.2.2.2.2.2.2.2.2.2.2.2.2.2.2.2.2.2.2.2.2.2.2.2.2.2.2.2.2.2.2.2.2.2.2.2.2.2.2.2.2.1 x.2.2.2.2.2.2.2.2.2.2.2.2.2.2.2.2.2.2.2.2.2.2.2.2.2.2.2.2.2.2.2.2.2.2.2.2.2.2.2.2.2.2.2.2.2.2.2.2.2.2.2.2.2.2.2.2.2.2.2.2.2.2.2.2.2.2.2.2.2.2.2.2.2.1 x.2.2.2.2.2.2.2.2.2.2.2.2.2.2.2.2.2.2.2.2.2.2.2.2.2.2.2.2.2.2.2.2.2.2.2.2.2.2.2.2.2.2.2.2.2.2.2.2.2.2.2.2.2.2.2.2.2.2.2.2.2.2.2.2.2.2.2.2.2.2.2.2.2.2.1 x.2.2.2.2.2.2.2.2.2.2.2.2.2.2.2.2.2.2.2.2.2.2.2.2.2.2.2.2.2.2.2.2.2.2.2.2.2.2.2.2.2.2.2.2.2.2.2.2.2.2.2.2.2.2.2.2.2.2.2.2.2.2.2.2.2.2.2.2.2.2.2.2.2.2.2.1 x.2.2.2.2.2.2.2.2.2.2.2.2.2.2.2.2.2.2.2.2.2.2.2.2.2.2.2.2.2.2.2.2.2.2.2.2.2.2.2.2.2.2.2.2.2.2.2.2.2.2.2.2.2.2.2.2.2.2.2.2.2.2.2.2.2.2.2.2.2.2.2.2.2.2.2.2.1 x.2.2.2.2.2.2.2.2.2.2.2.2.2.2.2.2.2.2.2.2.2.2.2.2.2.2.2.2.2.2.2.2.2.2.2.2.2.2.2.2.2.2.2.2.2.2.2.2.2.2.2.2.2.2.2.2.2.2.2.2.2.2.2.2.2.2.2.2.2.2.2.2.2.2.2.2.2.1 x.2.2.2.2.2.2.2.2.2.2.2.2.2.2.2.2.2.2.2.2.2.2.2.2.2.2.2.2.2.2.2.2.2.2.2.2.2.2.2.2.2.2.2.2.2.2.2.2.2.2.2.2.2.2.2.2.2.2.2.2.2.2.2.2.2.2.2.2.2.2.2.2.2.2.2.2.2.2.1 x.2.2.2.2.2.2.2.2.2.2.2.2.2.2.2.2.2.2.2.2.2.2.2.2.2.2.2.2.2.2.2.2.2.2.2.2.2.2.2.2.2.2.2.2.2.2.2.2.2.2.2.2.2.2.2.2.2.2.2.2.2.2.2.2.2.2.2.2.2.2.2.2.2.2.2.2.2.2.2.1
def aeH:LD:=⟨0,F6.lp 0,sp [(2,.box false FK),(0,.box false vd),(0,.box false Xp),(2,vl SZ),(0,.box false Xq),(0,.box false HG),(0,vl [.int .i64])] 83,sp [(4,.box false Xp),(2,vl SZ),(0,.box false Xq)] 85,sp [] 94,jb⟩
theorem aeI:F6.Ok aeH:=F6.mY fun x=>by kernel_rfl
def aeJ:F6.KL:=⟨_,aeI⟩
noncomputable def lW (ca:Int) (dm:Bool) (dg cG:Int) (cR:aH) (aw:aj) (cW:aH) (cX:fE) (du dv bN bG bO bP bQ bR bS:Int) (bD:aH) (bm aZ aP:Int) (aN:aH) (ba:af) (bq:ai) (fB:Int) (eB:aH):Option (HE):=Option.bind (hU ca dm dg cG cR aw cW cX du dv bN bG bO bP bQ bR bS bD bm aZ aP aN ba bq) fun y1=>bif !y1.1 then some (0,false,0,0,[],[],[],[],0,0,0,0,0,0,0,0,0,[],0,0,0,[],[],[],[],false,()) else bif dm then some (0,false,0,0,[],[],[],[],0,0,0,0,0,0,0,0,0,[],0,0,0,[],[],[],[],false,()) else Option.bind (dN fB eB) fun y2=>bif !y2.1 then some (0,false,0,0,[],[],[],[],0,0,0,0,0,0,0,0,0,[],0,0,0,[],[],[],[],false,()) else Option.bind (dV eB ca) fun y3=>bif !y3.1 then some (0,false,0,0,[],[],[],[],0,0,0,0,0,0,0,0,0,[],0,0,0,[],[],[],[],false,()) else bif decide (fB≤bm) then some (0,false,0,0,[],[],[],[],0,0,0,0,0,0,0,0,0,[],0,0,0,[],[],[],[],false,()) else Option.bind (ek ca dm dg cG cR aw cW cX du dv bN bG bO bP bQ bR bS bD bm aZ aP aN ba bq) fun y4=>Option.bind (aY fB eB) fun y5=>bif Nat.ble ((0+(List.length aw))*40) lim then cT (aG jb (ca,dm,dg,cG,cR,aw,cW,cX,du,dv,bN,bG,bO,bP,bQ,bR,bS,bD,bm,aZ,aP,aN,ba,bq,fB,eB,0,false,0,0,[],[],[],[],0,0,0,0,0,0,0,0,0,[],0,0,0,[],[],[],[],y4.1,y4.2.1,y4.2.2.1,y4.2.2.2.1,y4.2.2.2.2.1,y4.2.2.2.2.2.1,y4.2.2.2.2.2.2.1,y4.2.2.2.2.2.2.2.1,y4.2.2.2.2.2.2.2.2.1,y4.2.2.2.2.2.2.2.2.2.1,y4.2.2.2.2.2.2.2.2.2.2.1,y4.2.2.2.2.2.2.2.2.2.2.2.1,y4.2.2.2.2.2.2.2.2.2.2.2.2.1,y4.2.2.2.2.2.2.2.2.2.2.2.2.2.1,y4.2.2.2.2.2.2.2.2.2.2.2.2.2.2.1,y4.2.2.2.2.2.2.2.2.2.2.2.2.2.2.2.1,y4.2.2.2.2.2.2.2.2.2.2.2.2.2.2.2.2.1,y4.2.2.2.2.2.2.2.2.2.2.2.2.2.2.2.2.2.1,fB,y4.2.2.2.2.2.2.2.2.2.2.2.2.2.2.2.2.2.2.2.1,y5.1,y5.2.1,[(ca,fB,aZ,[]++aw,())],y4.2.2.2.2.2.2.2.2.2.2.2.2.2.2.2.2.2.2.2.2.2.2.2.1,ca,fB,aZ,[]++aw,0,())) (fun y6=>Option.bind (lU y6.2.2.2.2.2.2.2.2.2.2.2.2.2.2.2.2.2.2.2.2.2.2.2.2.2.2.2.2.2.2.2.2.2.2.2.2.2.2.2.2.2.2.2.2.2.1 y6.2.2.2.2.2.2.2.2.2.2.2.2.2.2.2.2.2.2.2.2.2.2.2.2.2.2.2.2.2.2.2.2.2.2.2.2.2.2.2.2.2.2.2.2.2.2.1 y6.2.2.2.2.2.2.2.2.2.2.2.2.2.2.2.2.2.2.2.2.2.2.2.2.2.2.2.2.2.2.2.2.2.2.2.2.2.2.2.2.2.2.2.2.2.2.2.1) fun y8=>bif y8.1 then Option.bind (et y6.2.2.2.2.2.2.2.2.2.2.2.2.2.2.2.2.2.2.2.2.2.2.2.2.2.1 y6.2.2.2.2.2.2.2.2.2.2.2.2.2.2.2.2.2.2.2.2.2.2.2.2.2.2.1 y6.2.2.2.2.2.2.2.2.2.2.2.2.2.2.2.2.2.2.2.2.2.2.2.2.2.2.2.1 y6.2.2.2.2.2.2.2.2.2.2.2.2.2.2.2.2.2.2.2.2.2.2.2.2.2.2.2.2.1 y6.2.2.2.2.2.2.2.2.2.2.2.2.2.2.2.2.2.2.2.2.2.2.2.2.2.2.2.2.2.1 y6.2.2.2.2.2.2.2.2.2.2.2.2.2.2.2.2.2.2.2.2.2.2.2.2.2.2.2.2.2.2.1 y6.2.2.2.2.2.2.2.2.2.2.2.2.2.2.2.2.2.2.2.2.2.2.2.2.2.2.2.2.2.2.2.1 y6.2.2.2.2.2.2.2.2.2.2.2.2.2.2.2.2.2.2.2.2.2.2.2.2.2.2.2.2.2.2.2.2.1 y6.2.2.2.2.2.2.2.2.2.2.2.2.2.2.2.2.2.2.2.2.2.2.2.2.2.2.2.2.2.2.2.2.2.1 y6.2.2.2.2.2.2.2.2.2.2.2.2.2.2.2.2.2.2.2.2.2.2.2.2.2.2.2.2.2.2.2.2.2.2.1 y6.2.2.2.2.2.2.2.2.2.2.2.2.2.2.2.2.2.2.2.2.2.2.2.2.2.2.2.2.2.2.2.2.2.2.2.1 y6.2.2.2.2.2.2.2.2.2.2.2.2.2.2.2.2.2.2.2.2.2.2.2.2.2.2.2.2.2.2.2.2.2.2.2.2.1 y6.2.2.2.2.2.2.2.2.2.2.2.2.2.2.2.2.2.2.2.2.2.2.2.2.2.2.2.2.2.2.2.2.2.2.2.2.2.1 y6.2.2.2.2.2.2.2.2.2.2.2.2.2.2.2.2.2.2.2.2.2.2.2.2.2.2.2.2.2.2.2.2.2.2.2.2.2.2.1 y6.2.2.2.2.2.2.2.2.2.2.2.2.2.2.2.2.2.2.2.2.2.2.2.2.2.2.2.2.2.2.2.2.2.2.2.2.2.2.2.1 y6.2.2.2.2.2.2.2.2.2.2.2.2.2.2.2.2.2.2.2.2.2.2.2.2.2.2.2.2.2.2.2.2.2.2.2.2.2.2.2.2.1 y6.2.2.2.2.2.2.2.2.2.2.2.2.2.2.2.2.2.2.2.2.2.2.2.2.2.2.2.2.2.2.2.2.2.2.2.2.2.2.2.2.2.1 y6.2.2.2.2.2.2.2.2.2.2.2.2.2.2.2.2.2.2.2.2.2.2.2.2.2.2.2.2.2.2.2.2.2.2.2.2.2.2.2.2.2.2.1 y6.2.2.2.2.2.2.2.2.2.2.2.2.2.2.2.2.2.2.2.2.2.2.2.2.2.2.2.2.2.2.2.2.2.2.2.2.2.2.2.2.2.2.2.1 y6.2.2.2.2.2.2.2.2.2.2.2.2.2.2.2.2.2.2.2.2.2.2.2.2.2.2.2.2.2.2.2.2.2.2.2.2.2.2.2.2.2.2.2.2.1 y6.2.2.2.2.2.2.2.2.2.2.2.2.2.2.2.2.2.2.2.2.2.2.2.2.2.2.2.2.2.2.2.2.2.2.2.2.2.2.2.2.2.2.2.2.2.1 y6.2.2.2.2.2.2.2.2.2.2.2.2.2.2.2.2.2.2.2.2.2.2.2.2.2.2.2.2.2.2.2.2.2.2.2.2.2.2.2.2.2.2.2.2.2.2.1 y6.2.2.2.2.2.2.2.2.2.2.2.2.2.2.2.2.2.2.2.2.2.2.2.2.2.2.2.2.2.2.2.2.2.2.2.2.2.2.2.2.2.2.2.2.2.2.2.1 y6.2.2.2.2.2.2.2.2.2.2.2.2.2.2.2.2.2.2.2.2.2.2.2.2.2.2.2.2.2.2.2.2.2.2.2.2.2.2.2.2.2.2.2.2.2.2.2.2.1) fun y9=>Option.bind (ek y9.1 y9.2.1 y9.2.2.1 y9.2.2.2.1 y9.2.2.2.2.1 y9.2.2.2.2.2.1 y9.2.2.2.2.2.2.1 y9.2.2.2.2.2.2.2.1 y9.2.2.2.2.2.2.2.2.1 y9.2.2.2.2.2.2.2.2.2.1 y9.2.2.2.2.2.2.2.2.2.2.1 y9.2.2.2.2.2.2.2.2.2.2.2.1 y9.2.2.2.2.2.2.2.2.2.2.2.2.1 y9.2.2.2.2.2.2.2.2.2.2.2.2.2.1 y9.2.2.2.2.2.2.2.2.2.2.2.2.2.2.1 y9.2.2.2.2.2.2.2.2.2.2.2.2.2.2.2.1 y9.2.2.2.2.2.2.2.2.2.2.2.2.2.2.2.2.1 y9.2.2.2.2.2.2.2.2.2.2.2.2.2.2.2.2.2.1 y9.2.2.2.2.2.2.2.2.2.2.2.2.2.2.2.2.2.2.1 y9.2.2.2.2.2.2.2.2.2.2.2.2.2.2.2.2.2.2.2.1 y9.2.2.2.2.2.2.2.2.2.2.2.2.2.2.2.2.2.2.2.2.1 y9.2.2.2.2.2.2.2.2.2.2.2.2.2.2.2.2.2.2.2.2.2.1 y9.2.2.2.2.2.2.2.2.2.2.2.2.2.2.2.2.2.2.2.2.2.2.1 y9.2.2.2.2.2.2.2.2.2.2.2.2.2.2.2.2.2.2.2.2.2.2.2.1) fun mD=>some (mD.1,mD.2.1,mD.2.2.1,mD.2.2.2.1,mD.2.2.2.2.1,mD.2.2.2.2.2.1,mD.2.2.2.2.2.2.1,mD.2.2.2.2.2.2.2.1,mD.2.2.2.2.2.2.2.2.1,mD.2.2.2.2.2.2.2.2.2.1,mD.2.2.2.2.2.2.2.2.2.2.1,mD.2.2.2.2.2.2.2.2.2.2.2.1,mD.2.2.2.2.2.2.2.2.2.2.2.2.1,mD.2.2.2.2.2.2.2.2.2.2.2.2.2.1,mD.2.2.2.2.2.2.2.2.2.2.2.2.2.2.1,mD.2.2.2.2.2.2.2.2.2.2.2.2.2.2.2.1,mD.2.2.2.2.2.2.2.2.2.2.2.2.2.2.2.2.1,mD.2.2.2.2.2.2.2.2.2.2.2.2.2.2.2.2.2.1,mD.2.2.2.2.2.2.2.2.2.2.2.2.2.2.2.2.2.2.1,mD.2.2.2.2.2.2.2.2.2.2.2.2.2.2.2.2.2.2.2.1,mD.2.2.2.2.2.2.2.2.2.2.2.2.2.2.2.2.2.2.2.2.1,mD.2.2.2.2.2.2.2.2.2.2.2.2.2.2.2.2.2.2.2.2.2.1,mD.2.2.2.2.2.2.2.2.2.2.2.2.2.2.2.2.2.2.2.2.2.2.1,mD.2.2.2.2.2.2.2.2.2.2.2.2.2.2.2.2.2.2.2.2.2.2.2.1,y6.2.2.2.2.2.2.2.2.2.2.2.2.2.2.2.2.2.2.2.2.2.2.2.2.1,true,()) else Option.bind (ek y6.2.2.2.2.2.2.2.2.2.2.2.2.2.2.2.2.2.2.2.2.2.2.2.2.2.1 y6.2.2.2.2.2.2.2.2.2.2.2.2.2.2.2.2.2.2.2.2.2.2.2.2.2.2.1 y6.2.2.2.2.2.2.2.2.2.2.2.2.2.2.2.2.2.2.2.2.2.2.2.2.2.2.2.1 y6.2.2.2.2.2.2.2.2.2.2.2.2.2.2.2.2.2.2.2.2.2.2.2.2.2.2.2.2.1 y6.2.2.2.2.2.2.2.2.2.2.2.2.2.2.2.2.2.2.2.2.2.2.2.2.2.2.2.2.2.1 y6.2.2.2.2.2.2.2.2.2.2.2.2.2.2.2.2.2.2.2.2.2.2.2.2.2.2.2.2.2.2.1 y6.2.2.2.2.2.2.2.2.2.2.2.2.2.2.2.2.2.2.2.2.2.2.2.2.2.2.2.2.2.2.2.1 y6.2.2.2.2.2.2.2.2.2.2.2.2.2.2.2.2.2.2.2.2.2.2.2.2.2.2.2.2.2.2.2.2.1 y6.2.2.2.2.2.2.2.2.2.2.2.2.2.2.2.2.2.2.2.2.2.2.2.2.2.2.2.2.2.2.2.2.2.1 y6.2.2.2.2.2.2.2.2.2.2.2.2.2.2.2.2.2.2.2.2.2.2.2.2.2.2.2.2.2.2.2.2.2.2.1 y6.2.2.2.2.2.2.2.2.2.2.2.2.2.2.2.2.2.2.2.2.2.2.2.2.2.2.2.2.2.2.2.2.2.2.2.1 y6.2.2.2.2.2.2.2.2.2.2.2.2.2.2.2.2.2.2.2.2.2.2.2.2.2.2.2.2.2.2.2.2.2.2.2.2.1 y6.2.2.2.2.2.2.2.2.2.2.2.2.2.2.2.2.2.2.2.2.2.2.2.2.2.2.2.2.2.2.2.2.2.2.2.2.2.1 y6.2.2.2.2.2.2.2.2.2.2.2.2.2.2.2.2.2.2.2.2.2.2.2.2.2.2.2.2.2.2.2.2.2.2.2.2.2.2.1 y6.2.2.2.2.2.2.2.2.2.2.2.2.2.2.2.2.2.2.2.2.2.2.2.2.2.2.2.2.2.2.2.2.2.2.2.2.2.2.2.1 y6.2.2.2.2.2.2.2.2.2.2.2.2.2.2.2.2.2.2.2.2.2.2.2.2.2.2.2.2.2.2.2.2.2.2.2.2.2.2.2.2.1 y6.2.2.2.2.2.2.2.2.2.2.2.2.2.2.2.2.2.2.2.2.2.2.2.2.2.2.2.2.2.2.2.2.2.2.2.2.2.2.2.2.2.1 y6.2.2.2.2.2.2.2.2.2.2.2.2.2.2.2.2.2.2.2.2.2.2.2.2.2.2.2.2.2.2.2.2.2.2.2.2.2.2.2.2.2.2.1 y6.2.2.2.2.2.2.2.2.2.2.2.2.2.2.2.2.2.2.2.2.2.2.2.2.2.2.2.2.2.2.2.2.2.2.2.2.2.2.2.2.2.2.2.1 y6.2.2.2.2.2.2.2.2.2.2.2.2.2.2.2.2.2.2.2.2.2.2.2.2.2.2.2.2.2.2.2.2.2.2.2.2.2.2.2.2.2.2.2.2.1 y6.2.2.2.2.2.2.2.2.2.2.2.2.2.2.2.2.2.2.2.2.2.2.2.2.2.2.2.2.2.2.2.2.2.2.2.2.2.2.2.2.2.2.2.2.2.1 y6.2.2.2.2.2.2.2.2.2.2.2.2.2.2.2.2.2.2.2.2.2.2.2.2.2.2.2.2.2.2.2.2.2.2.2.2.2.2.2.2.2.2.2.2.2.2.1 y6.2.2.2.2.2.2.2.2.2.2.2.2.2.2.2.2.2.2.2.2.2.2.2.2.2.2.2.2.2.2.2.2.2.2.2.2.2.2.2.2.2.2.2.2.2.2.2.1 y6.2.2.2.2.2.2.2.2.2.2.2.2.2.2.2.2.2.2.2.2.2.2.2.2.2.2.2.2.2.2.2.2.2.2.2.2.2.2.2.2.2.2.2.2.2.2.2.2.1) fun mN=>some (mN.1,mN.2.1,mN.2.2.1,mN.2.2.2.1,mN.2.2.2.2.1,mN.2.2.2.2.2.1,mN.2.2.2.2.2.2.1,mN.2.2.2.2.2.2.2.1,mN.2.2.2.2.2.2.2.2.1,mN.2.2.2.2.2.2.2.2.2.1,mN.2.2.2.2.2.2.2.2.2.2.1,mN.2.2.2.2.2.2.2.2.2.2.2.1,mN.2.2.2.2.2.2.2.2.2.2.2.2.1,mN.2.2.2.2.2.2.2.2.2.2.2.2.2.1,mN.2.2.2.2.2.2.2.2.2.2.2.2.2.2.1,mN.2.2.2.2.2.2.2.2.2.2.2.2.2.2.2.1,mN.2.2.2.2.2.2.2.2.2.2.2.2.2.2.2.2.1,mN.2.2.2.2.2.2.2.2.2.2.2.2.2.2.2.2.2.1,mN.2.2.2.2.2.2.2.2.2.2.2.2.2.2.2.2.2.2.1,mN.2.2.2.2.2.2.2.2.2.2.2.2.2.2.2.2.2.2.2.1,mN.2.2.2.2.2.2.2.2.2.2.2.2.2.2.2.2.2.2.2.2.1,mN.2.2.2.2.2.2.2.2.2.2.2.2.2.2.2.2.2.2.2.2.2.1,mN.2.2.2.2.2.2.2.2.2.2.2.2.2.2.2.2.2.2.2.2.2.2.1,mN.2.2.2.2.2.2.2.2.2.2.2.2.2.2.2.2.2.2.2.2.2.2.2.1,y6.2.2.2.2.2.2.2.2.2.2.2.2.2.2.2.2.2.2.2.2.2.2.2.2.1,true,())) (fun y7=>none) else none
noncomputable def vQ (ca:Int) (dm:Bool) (dg cG:Int) (cR:aH) (aw:aj) (cW:aH) (cX:fE) (du dv bN bG bO bP bQ bR bS:Int) (bD:aH) (bm aZ aP:Int) (aN:aH) (ba:af) (bq:ai) (fB:Int) (eB:aH):Option (HE):=Option.bind (hU ca dm dg cG cR aw cW cX du dv bN bG bO bP bQ bR bS bD bm aZ aP aN ba bq) fun y1=>bif !y1.1 then some (0,false,0,0,[],[],[],[],0,0,0,0,0,0,0,0,0,[],0,0,0,[],[],[],[],false,()) else bif dm then some (0,false,0,0,[],[],[],[],0,0,0,0,0,0,0,0,0,[],0,0,0,[],[],[],[],false,()) else Option.bind (dN fB eB) fun y2=>bif !y2.1 then some (0,false,0,0,[],[],[],[],0,0,0,0,0,0,0,0,0,[],0,0,0,[],[],[],[],false,()) else Option.bind (dV eB ca) fun y3=>bif !y3.1 then some (0,false,0,0,[],[],[],[],0,0,0,0,0,0,0,0,0,[],0,0,0,[],[],[],[],false,()) else bif decide (fB≤bm) then some (0,false,0,0,[],[],[],[],0,0,0,0,0,0,0,0,0,[],0,0,0,[],[],[],[],false,()) else Option.bind (ek ca dm dg cG cR aw cW cX du dv bN bG bO bP bQ bR bS bD bm aZ aP aN ba bq) fun y4=>Option.bind (aY fB eB) fun y5=>(fun bB:Option (HE)=>both (both (both (both (both (bif Nat.ble ((0+(List.length aw))*40) lim then bB else none) (bif Nat.ble ((0+(List.length aw))*40) lim then bB else none)) (bif Nat.ble ((0+(List.length aw))*40) lim then bB else none)) (both (both (both (bif Nat.ble ((0+(List.length aw))*40) lim then bB else none) (bif Nat.ble ((0+(List.length aw))*40) lim then bB else none)) (both (bif Nat.ble ((0+(List.length aw))*40) lim then bB else none) (both (bif Nat.ble ((0+(List.length aw))*40) lim then bB else none) (bif Nat.ble ((0+(List.length aw))*40) lim then bB else none)))) (both (bif Nat.ble ((0+(List.length aw))*40) lim then bB else none) (both (bif Nat.ble ((0+(List.length aw))*40) lim then bB else none) (bif Nat.ble ((0+(List.length aw))*40) lim then bB else none))))) (both (both (both (both (bif Nat.ble ((0+(List.length aw))*40) lim then bB else none) (bif Nat.ble ((0+(List.length aw))*40) lim then bB else none)) (bif Nat.ble ((0+(List.length aw))*40) lim then bB else none)) (both (both (both (bif Nat.ble ((0+(List.length aw))*40) lim then bB else none) (bif Nat.ble ((0+(List.length aw))*40) lim then bB else none)) (both (bif Nat.ble ((0+(List.length aw))*40) lim then bB else none) (both (bif Nat.ble ((0+(List.length aw))*40) lim then bB else none) (bif Nat.ble ((0+(List.length aw))*40) lim then bB else none)))) (both (bif Nat.ble ((0+(List.length aw))*40) lim then bB else none) (both (bif Nat.ble ((0+(List.length aw))*40) lim then bB else none) (bif Nat.ble ((0+(List.length aw))*40) lim then bB else none))))) (both (both (both (both (bif Nat.ble ((0+(List.length aw))*40) lim then bB else none) (bif Nat.ble ((0+(List.length aw))*40) lim then bB else none)) (both (bif Nat.ble ((0+(List.length aw))*40) lim then bB else none) (both (bif Nat.ble ((0+(List.length aw))*40) lim then bB else none) (bif Nat.ble ((0+(List.length aw))*40) lim then bB else none)))) (both (both (both (bif Nat.ble ((0+(List.length aw))*40) lim then bB else none) (bif Nat.ble ((0+(List.length aw))*40) lim then bB else none)) (both (bif Nat.ble ((0+(List.length aw))*40) lim then bB else none) (both (bif Nat.ble ((0+(List.length aw))*40) lim then bB else none) (bif Nat.ble ((0+(List.length aw))*40) lim then bB else none)))) (both (bif Nat.ble ((0+(List.length aw))*40) lim then bB else none) (both (both (bif Nat.ble ((0+(List.length aw))*40) lim then bB else none) (bif Nat.ble ((0+(List.length aw))*40) lim then bB else none)) (both (both (bif Nat.ble ((0+(List.length aw))*40) lim then bB else none) (bif Nat.ble ((0+(List.length aw))*40) lim then bB else none)) (bif Nat.ble ((0+(List.length aw))*40) lim then bB else none)))))) (both (both (bif Nat.ble ((0+(List.length aw))*40) lim then bB else none) (both (bif Nat.ble ((0+(List.length aw))*40) lim then bB else none) (bif Nat.ble ((0+(List.length aw))*40) lim then bB else none))) (both (both (bif Nat.ble ((0+(List.length aw))*40) lim then bB else none) (both (bif Nat.ble ((0+(List.length aw))*40) lim then bB else none) (bif Nat.ble ((0+(List.length aw))*40) lim then bB else none))) (both (both (bif Nat.ble ((0+(List.length aw))*40) lim then bB else none) (bif Nat.ble ((0+(List.length aw))*40) lim then bB else none)) (both (both (bif Nat.ble ((0+(List.length aw))*40) lim then bB else none) (bif Nat.ble ((0+(List.length aw))*40) lim then bB else none)) (bif Nat.ble ((0+(List.length aw))*40) lim then bB else none)))))))) (both (both (both (both (both (bif Nat.ble ((0+(List.length aw))*40) lim then bB else none) (bif Nat.ble ((0+(List.length aw))*40) lim then bB else none)) (bif Nat.ble ((0+(List.length aw))*40) lim then bB else none)) (both (both (both (bif Nat.ble ((0+(List.length aw))*40) lim then bB else none) (bif Nat.ble ((0+(List.length aw))*40) lim then bB else none)) (both (bif Nat.ble ((0+(List.length aw))*40) lim then bB else none) (both (bif Nat.ble ((0+(List.length aw))*40) lim then bB else none) (bif Nat.ble ((0+(List.length aw))*40) lim then bB else none)))) (both (bif Nat.ble ((0+(List.length aw))*40) lim then bB else none) (both (bif Nat.ble ((0+(List.length aw))*40) lim then bB else none) (bif Nat.ble ((0+(List.length aw))*40) lim then bB else none))))) (both (both (both (both (bif Nat.ble ((0+(List.length aw))*40) lim then bB else none) (bif Nat.ble ((0+(List.length aw))*40) lim then bB else none)) (bif Nat.ble ((0+(List.length aw))*40) lim then bB else none)) (both (both (both (bif Nat.ble ((0+(List.length aw))*40) lim then bB else none) (bif Nat.ble ((0+(List.length aw))*40) lim then bB else none)) (both (bif Nat.ble ((0+(List.length aw))*40) lim then bB else none) (both (bif Nat.ble ((0+(List.length aw))*40) lim then bB else none) (bif Nat.ble ((0+(List.length aw))*40) lim then bB else none)))) (both (bif Nat.ble ((0+(List.length aw))*40) lim then bB else none) (both (bif Nat.ble ((0+(List.length aw))*40) lim then bB else none) (bif Nat.ble ((0+(List.length aw))*40) lim then bB else none))))) (both (both (both (both (bif Nat.ble ((0+(List.length aw))*40) lim then bB else none) (bif Nat.ble ((0+(List.length aw))*40) lim then bB else none)) (both (bif Nat.ble ((0+(List.length aw))*40) lim then bB else none) (both (bif Nat.ble ((0+(List.length aw))*40) lim then bB else none) (bif Nat.ble ((0+(List.length aw))*40) lim then bB else none)))) (both (both (both (bif Nat.ble ((0+(List.length aw))*40) lim then bB else none) (bif Nat.ble ((0+(List.length aw))*40) lim then bB else none)) (both (bif Nat.ble ((0+(List.length aw))*40) lim then bB else none) (both (bif Nat.ble ((0+(List.length aw))*40) lim then bB else none) (bif Nat.ble ((0+(List.length aw))*40) lim then bB else none)))) (both (bif Nat.ble ((0+(List.length aw))*40) lim then bB else none) (both (both (bif Nat.ble ((0+(List.length aw))*40) lim then bB else none) (bif Nat.ble ((0+(List.length aw))*40) lim then bB else none)) (both (both (bif Nat.ble ((0+(List.length aw))*40) lim then bB else none) (bif Nat.ble ((0+(List.length aw))*40) lim then bB else none)) (bif Nat.ble ((0+(List.length aw))*40) lim then bB else none)))))) (both (both (bif Nat.ble ((0+(List.length aw))*40) lim then bB else none) (both (bif Nat.ble ((0+(List.length aw))*40) lim then bB else none) (bif Nat.ble ((0+(List.length aw))*40) lim then bB else none))) (both (both (bif Nat.ble ((0+(List.length aw))*40) lim then bB else none) (both (bif Nat.ble ((0+(List.length aw))*40) lim then bB else none) (bif Nat.ble ((0+(List.length aw))*40) lim then bB else none))) (both (both (bif Nat.ble ((0+(List.length aw))*40) lim then bB else none) (bif Nat.ble ((0+(List.length aw))*40) lim then bB else none)) (both (both (bif Nat.ble ((0+(List.length aw))*40) lim then bB else none) (bif Nat.ble ((0+(List.length aw))*40) lim then bB else none)) (bif Nat.ble ((0+(List.length aw))*40) lim then bB else none)))))))) (both (both (both (both (both (bif Nat.ble ((0+(List.length aw))*40) lim then bB else none) (bif Nat.ble ((0+(List.length aw))*40) lim then bB else none)) (bif Nat.ble ((0+(List.length aw))*40) lim then bB else none)) (both (both (both (bif Nat.ble ((0+(List.length aw))*40) lim then bB else none) (bif Nat.ble ((0+(List.length aw))*40) lim then bB else none)) (both (bif Nat.ble ((0+(List.length aw))*40) lim then bB else none) (both (bif Nat.ble ((0+(List.length aw))*40) lim then bB else none) (bif Nat.ble ((0+(List.length aw))*40) lim then bB else none)))) (both (bif Nat.ble ((0+(List.length aw))*40) lim then bB else none) (both (bif Nat.ble ((0+(List.length aw))*40) lim then bB else none) (bif Nat.ble ((0+(List.length aw))*40) lim then bB else none))))) (both (both (both (both (bif Nat.ble ((0+(List.length aw))*40) lim then bB else none) (bif Nat.ble ((0+(List.length aw))*40) lim then bB else none)) (bif Nat.ble ((0+(List.length aw))*40) lim then bB else none)) (both (both (both (bif Nat.ble ((0+(List.length aw))*40) lim then bB else none) (bif Nat.ble ((0+(List.length aw))*40) lim then bB else none)) (both (bif Nat.ble ((0+(List.length aw))*40) lim then bB else none) (both (bif Nat.ble ((0+(List.length aw))*40) lim then bB else none) (bif Nat.ble ((0+(List.length aw))*40) lim then bB else none)))) (both (bif Nat.ble ((0+(List.length aw))*40) lim then bB else none) (both (bif Nat.ble ((0+(List.length aw))*40) lim then bB else none) (bif Nat.ble ((0+(List.length aw))*40) lim then bB else none))))) (both (both (both (both (bif Nat.ble ((0+(List.length aw))*40) lim then bB else none) (bif Nat.ble ((0+(List.length aw))*40) lim then bB else none)) (both (bif Nat.ble ((0+(List.length aw))*40) lim then bB else none) (both (bif Nat.ble ((0+(List.length aw))*40) lim then bB else none) (bif Nat.ble ((0+(List.length aw))*40) lim then bB else none)))) (both (both (both (bif Nat.ble ((0+(List.length aw))*40) lim then bB else none) (bif Nat.ble ((0+(List.length aw))*40) lim then bB else none)) (both (bif Nat.ble ((0+(List.length aw))*40) lim then bB else none) (both (bif Nat.ble ((0+(List.length aw))*40) lim then bB else none) (bif Nat.ble ((0+(List.length aw))*40) lim then bB else none)))) (both (bif Nat.ble ((0+(List.length aw))*40) lim then bB else none) (both (both (bif Nat.ble ((0+(List.length aw))*40) lim then bB else none) (bif Nat.ble ((0+(List.length aw))*40) lim then bB else none)) (both (both (bif Nat.ble ((0+(List.length aw))*40) lim then bB else none) (bif Nat.ble ((0+(List.length aw))*40) lim then bB else none)) (bif Nat.ble ((0+(List.length aw))*40) lim then bB else none)))))) (both (both (bif Nat.ble ((0+(List.length aw))*40) lim then bB else none) (both (bif Nat.ble ((0+(List.length aw))*40) lim then bB else none) (bif Nat.ble ((0+(List.length aw))*40) lim then bB else none))) (both (both (bif Nat.ble ((0+(List.length aw))*40) lim then bB else none) (both (bif Nat.ble ((0+(List.length aw))*40) lim then bB else none) (bif Nat.ble ((0+(List.length aw))*40) lim then bB else none))) (both (both (bif Nat.ble ((0+(List.length aw))*40) lim then bB else none) (bif Nat.ble ((0+(List.length aw))*40) lim then bB else none)) (both (both (bif Nat.ble ((0+(List.length aw))*40) lim then bB else none) (bif Nat.ble ((0+(List.length aw))*40) lim then bB else none)) (bif Nat.ble ((0+(List.length aw))*40) lim then bB else none)))))))) (both (both (both (both (both (bif Nat.ble ((0+(List.length aw))*40) lim then bB else none) (bif Nat.ble ((0+(List.length aw))*40) lim then bB else none)) (both (bif Nat.ble ((0+(List.length aw))*40) lim then bB else none) (both (bif Nat.ble ((0+(List.length aw))*40) lim then bB else none) (bif Nat.ble ((0+(List.length aw))*40) lim then bB else none)))) (both (both (both (bif Nat.ble ((0+(List.length aw))*40) lim then bB else none) (bif Nat.ble ((0+(List.length aw))*40) lim then bB else none)) (both (bif Nat.ble ((0+(List.length aw))*40) lim then bB else none) (both (bif Nat.ble ((0+(List.length aw))*40) lim then bB else none) (bif Nat.ble ((0+(List.length aw))*40) lim then bB else none)))) (both (bif Nat.ble ((0+(List.length aw))*40) lim then bB else none) (both (both (bif Nat.ble ((0+(List.length aw))*40) lim then bB else none) (bif Nat.ble ((0+(List.length aw))*40) lim then bB else none)) (both (both (bif Nat.ble ((0+(List.length aw))*40) lim then bB else none) (bif Nat.ble ((0+(List.length aw))*40) lim then bB else none)) (bif Nat.ble ((0+(List.length aw))*40) lim then bB else none)))))) (both (both (both (both (bif Nat.ble ((0+(List.length aw))*40) lim then bB else none) (bif Nat.ble ((0+(List.length aw))*40) lim then bB else none)) (both (bif Nat.ble ((0+(List.length aw))*40) lim then bB else none) (both (bif Nat.ble ((0+(List.length aw))*40) lim then bB else none) (bif Nat.ble ((0+(List.length aw))*40) lim then bB else none)))) (both (both (both (bif Nat.ble ((0+(List.length aw))*40) lim then bB else none) (bif Nat.ble ((0+(List.length aw))*40) lim then bB else none)) (both (bif Nat.ble ((0+(List.length aw))*40) lim then bB else none) (both (bif Nat.ble ((0+(List.length aw))*40) lim then bB else none) (bif Nat.ble ((0+(List.length aw))*40) lim then bB else none)))) (both (bif Nat.ble ((0+(List.length aw))*40) lim then bB else none) (both (both (bif Nat.ble ((0+(List.length aw))*40) lim then bB else none) (bif Nat.ble ((0+(List.length aw))*40) lim then bB else none)) (both (both (bif Nat.ble ((0+(List.length aw))*40) lim then bB else none) (bif Nat.ble ((0+(List.length aw))*40) lim then bB else none)) (bif Nat.ble ((0+(List.length aw))*40) lim then bB else none)))))) (both (both (both (both (bif Nat.ble ((0+(List.length aw))*40) lim then bB else none) (bif Nat.ble ((0+(List.length aw))*40) lim then bB else none)) (both (bif Nat.ble ((0+(List.length aw))*40) lim then bB else none) (both (bif Nat.ble ((0+(List.length aw))*40) lim then bB else none) (bif Nat.ble ((0+(List.length aw))*40) lim then bB else none)))) (both (both (both (bif Nat.ble ((0+(List.length aw))*40) lim then bB else none) (bif Nat.ble ((0+(List.length aw))*40) lim then bB else none)) (both (bif Nat.ble ((0+(List.length aw))*40) lim then bB else none) (both (bif Nat.ble ((0+(List.length aw))*40) lim then bB else none) (bif Nat.ble ((0+(List.length aw))*40) lim then bB else none)))) (both (bif Nat.ble ((0+(List.length aw))*40) lim then bB else none) (both (both (bif Nat.ble ((0+(List.length aw))*40) lim then bB else none) (bif Nat.ble ((0+(List.length aw))*40) lim then bB else none)) (both (both (bif Nat.ble ((0+(List.length aw))*40) lim then bB else none) (bif Nat.ble ((0+(List.length aw))*40) lim then bB else none)) (bif Nat.ble ((0+(List.length aw))*40) lim then bB else none)))))) (both (bif Nat.ble ((0+(List.length aw))*40) lim then bB else none) (both (both (both (bif Nat.ble ((0+(List.length aw))*40) lim then bB else none) (bif Nat.ble ((0+(List.length aw))*40) lim then bB else none)) (both (both (bif Nat.ble ((0+(List.length aw))*40) lim then bB else none) (bif Nat.ble ((0+(List.length aw))*40) lim then bB else none)) (bif Nat.ble ((0+(List.length aw))*40) lim then bB else none))) (both (both (both (bif Nat.ble ((0+(List.length aw))*40) lim then bB else none) (bif Nat.ble ((0+(List.length aw))*40) lim then bB else none)) (both (both (bif Nat.ble ((0+(List.length aw))*40) lim then bB else none) (bif Nat.ble ((0+(List.length aw))*40) lim then bB else none)) (bif Nat.ble ((0+(List.length aw))*40) lim then bB else none))) (both (both (both (bif Nat.ble ((0+(List.length aw))*40) lim then bB else none) (bif Nat.ble ((0+(List.length aw))*40) lim then bB else none)) (both (both (bif Nat.ble ((0+(List.length aw))*40) lim then bB else none) (bif Nat.ble ((0+(List.length aw))*40) lim then bB else none)) (bif Nat.ble ((0+(List.length aw))*40) lim then bB else none))) (bif Nat.ble ((0+(List.length aw))*40) lim then bB else none)))))))) (both (both (both (bif Nat.ble ((0+(List.length aw))*40) lim then bB else none) (both (bif Nat.ble ((0+(List.length aw))*40) lim then bB else none) (bif Nat.ble ((0+(List.length aw))*40) lim then bB else none))) (both (both (bif Nat.ble ((0+(List.length aw))*40) lim then bB else none) (both (bif Nat.ble ((0+(List.length aw))*40) lim then bB else none) (bif Nat.ble ((0+(List.length aw))*40) lim then bB else none))) (both (both (bif Nat.ble ((0+(List.length aw))*40) lim then bB else none) (bif Nat.ble ((0+(List.length aw))*40) lim then bB else none)) (both (both (bif Nat.ble ((0+(List.length aw))*40) lim then bB else none) (bif Nat.ble ((0+(List.length aw))*40) lim then bB else none)) (bif Nat.ble ((0+(List.length aw))*40) lim then bB else none))))) (both (both (both (bif Nat.ble ((0+(List.length aw))*40) lim then bB else none) (both (bif Nat.ble ((0+(List.length aw))*40) lim then bB else none) (bif Nat.ble ((0+(List.length aw))*40) lim then bB else none))) (both (both (bif Nat.ble ((0+(List.length aw))*40) lim then bB else none) (both (bif Nat.ble ((0+(List.length aw))*40) lim then bB else none) (bif Nat.ble ((0+(List.length aw))*40) lim then bB else none))) (both (both (bif Nat.ble ((0+(List.length aw))*40) lim then bB else none) (bif Nat.ble ((0+(List.length aw))*40) lim then bB else none)) (both (both (bif Nat.ble ((0+(List.length aw))*40) lim then bB else none) (bif Nat.ble ((0+(List.length aw))*40) lim then bB else none)) (bif Nat.ble ((0+(List.length aw))*40) lim then bB else none))))) (both (both (both (bif Nat.ble ((0+(List.length aw))*40) lim then bB else none) (both (bif Nat.ble ((0+(List.length aw))*40) lim then bB else none) (bif Nat.ble ((0+(List.length aw))*40) lim then bB else none))) (both (both (bif Nat.ble ((0+(List.length aw))*40) lim then bB else none) (both (bif Nat.ble ((0+(List.length aw))*40) lim then bB else none) (bif Nat.ble ((0+(List.length aw))*40) lim then bB else none))) (both (both (bif Nat.ble ((0+(List.length aw))*40) lim then bB else none) (bif Nat.ble ((0+(List.length aw))*40) lim then bB else none)) (both (both (bif Nat.ble ((0+(List.length aw))*40) lim then bB else none) (bif Nat.ble ((0+(List.length aw))*40) lim then bB else none)) (bif Nat.ble ((0+(List.length aw))*40) lim then bB else none))))) (both (both (both (bif Nat.ble ((0+(List.length aw))*40) lim then bB else none) (bif Nat.ble ((0+(List.length aw))*40) lim then bB else none)) (both (both (bif Nat.ble ((0+(List.length aw))*40) lim then bB else none) (bif Nat.ble ((0+(List.length aw))*40) lim then bB else none)) (bif Nat.ble ((0+(List.length aw))*40) lim then bB else none))) (both (both (both (bif Nat.ble ((0+(List.length aw))*40) lim then bB else none) (bif Nat.ble ((0+(List.length aw))*40) lim then bB else none)) (both (both (bif Nat.ble ((0+(List.length aw))*40) lim then bB else none) (bif Nat.ble ((0+(List.length aw))*40) lim then bB else none)) (bif Nat.ble ((0+(List.length aw))*40) lim then bB else none))) (both (both (both (bif Nat.ble ((0+(List.length aw))*40) lim then bB else none) (bif Nat.ble ((0+(List.length aw))*40) lim then bB else none)) (both (both (bif Nat.ble ((0+(List.length aw))*40) lim then bB else none) (bif Nat.ble ((0+(List.length aw))*40) lim then bB else none)) (bif Nat.ble ((0+(List.length aw))*40) lim then bB else none))) (bif Nat.ble ((0+(List.length aw))*40) lim then bB else none))))))))))) (cT (aG jb (ca,dm,dg,cG,cR,aw,cW,cX,du,dv,bN,bG,bO,bP,bQ,bR,bS,bD,bm,aZ,aP,aN,ba,bq,fB,eB,0,false,0,0,[],[],[],[],0,0,0,0,0,0,0,0,0,[],0,0,0,[],[],[],[],y4.1,y4.2.1,y4.2.2.1,y4.2.2.2.1,y4.2.2.2.2.1,y4.2.2.2.2.2.1,y4.2.2.2.2.2.2.1,y4.2.2.2.2.2.2.2.1,y4.2.2.2.2.2.2.2.2.1,y4.2.2.2.2.2.2.2.2.2.1,y4.2.2.2.2.2.2.2.2.2.2.1,y4.2.2.2.2.2.2.2.2.2.2.2.1,y4.2.2.2.2.2.2.2.2.2.2.2.2.1,y4.2.2.2.2.2.2.2.2.2.2.2.2.2.1,y4.2.2.2.2.2.2.2.2.2.2.2.2.2.2.1,y4.2.2.2.2.2.2.2.2.2.2.2.2.2.2.2.1,y4.2.2.2.2.2.2.2.2.2.2.2.2.2.2.2.2.1,y4.2.2.2.2.2.2.2.2.2.2.2.2.2.2.2.2.2.1,fB,y4.2.2.2.2.2.2.2.2.2.2.2.2.2.2.2.2.2.2.2.1,y5.1,y5.2.1,[(ca,fB,aZ,[]++aw,())],y4.2.2.2.2.2.2.2.2.2.2.2.2.2.2.2.2.2.2.2.2.2.2.2.1,ca,fB,aZ,[]++aw,0,())) (fun y6=>Option.bind (lU y6.2.2.2.2.2.2.2.2.2.2.2.2.2.2.2.2.2.2.2.2.2.2.2.2.2.2.2.2.2.2.2.2.2.2.2.2.2.2.2.2.2.2.2.2.2.1 y6.2.2.2.2.2.2.2.2.2.2.2.2.2.2.2.2.2.2.2.2.2.2.2.2.2.2.2.2.2.2.2.2.2.2.2.2.2.2.2.2.2.2.2.2.2.2.1 y6.2.2.2.2.2.2.2.2.2.2.2.2.2.2.2.2.2.2.2.2.2.2.2.2.2.2.2.2.2.2.2.2.2.2.2.2.2.2.2.2.2.2.2.2.2.2.2.1) fun y8=>bif y8.1 then Option.bind (et y6.2.2.2.2.2.2.2.2.2.2.2.2.2.2.2.2.2.2.2.2.2.2.2.2.2.1 y6.2.2.2.2.2.2.2.2.2.2.2.2.2.2.2.2.2.2.2.2.2.2.2.2.2.2.1 y6.2.2.2.2.2.2.2.2.2.2.2.2.2.2.2.2.2.2.2.2.2.2.2.2.2.2.2.1 y6.2.2.2.2.2.2.2.2.2.2.2.2.2.2.2.2.2.2.2.2.2.2.2.2.2.2.2.2.1 y6.2.2.2.2.2.2.2.2.2.2.2.2.2.2.2.2.2.2.2.2.2.2.2.2.2.2.2.2.2.1 y6.2.2.2.2.2.2.2.2.2.2.2.2.2.2.2.2.2.2.2.2.2.2.2.2.2.2.2.2.2.2.1 y6.2.2.2.2.2.2.2.2.2.2.2.2.2.2.2.2.2.2.2.2.2.2.2.2.2.2.2.2.2.2.2.1 y6.2.2.2.2.2.2.2.2.2.2.2.2.2.2.2.2.2.2.2.2.2.2.2.2.2.2.2.2.2.2.2.2.1 y6.2.2.2.2.2.2.2.2.2.2.2.2.2.2.2.2.2.2.2.2.2.2.2.2.2.2.2.2.2.2.2.2.2.1 y6.2.2.2.2.2.2.2.2.2.2.2.2.2.2.2.2.2.2.2.2.2.2.2.2.2.2.2.2.2.2.2.2.2.2.1 y6.2.2.2.2.2.2.2.2.2.2.2.2.2.2.2.2.2.2.2.2.2.2.2.2.2.2.2.2.2.2.2.2.2.2.2.1 y6.2.2.2.2.2.2.2.2.2.2.2.2.2.2.2.2.2.2.2.2.2.2.2.2.2.2.2.2.2.2.2.2.2.2.2.2.1 y6.2.2.2.2.2.2.2.2.2.2.2.2.2.2.2.2.2.2.2.2.2.2.2.2.2.2.2.2.2.2.2.2.2.2.2.2.2.1 y6.2.2.2.2.2.2.2.2.2.2.2.2.2.2.2.2.2.2.2.2.2.2.2.2.2.2.2.2.2.2.2.2.2.2.2.2.2.2.1 y6.2.2.2.2.2.2.2.2.2.2.2.2.2.2.2.2.2.2.2.2.2.2.2.2.2.2.2.2.2.2.2.2.2.2.2.2.2.2.2.1 y6.2.2.2.2.2.2.2.2.2.2.2.2.2.2.2.2.2.2.2.2.2.2.2.2.2.2.2.2.2.2.2.2.2.2.2.2.2.2.2.2.1 y6.2.2.2.2.2.2.2.2.2.2.2.2.2.2.2.2.2.2.2.2.2.2.2.2.2.2.2.2.2.2.2.2.2.2.2.2.2.2.2.2.2.1 y6.2.2.2.2.2.2.2.2.2.2.2.2.2.2.2.2.2.2.2.2.2.2.2.2.2.2.2.2.2.2.2.2.2.2.2.2.2.2.2.2.2.2.1 y6.2.2.2.2.2.2.2.2.2.2.2.2.2.2.2.2.2.2.2.2.2.2.2.2.2.2.2.2.2.2.2.2.2.2.2.2.2.2.2.2.2.2.2.1 y6.2.2.2.2.2.2.2.2.2.2.2.2.2.2.2.2.2.2.2.2.2.2.2.2.2.2.2.2.2.2.2.2.2.2.2.2.2.2.2.2.2.2.2.2.1 y6.2.2.2.2.2.2.2.2.2.2.2.2.2.2.2.2.2.2.2.2.2.2.2.2.2.2.2.2.2.2.2.2.2.2.2.2.2.2.2.2.2.2.2.2.2.1 y6.2.2.2.2.2.2.2.2.2.2.2.2.2.2.2.2.2.2.2.2.2.2.2.2.2.2.2.2.2.2.2.2.2.2.2.2.2.2.2.2.2.2.2.2.2.2.1 y6.2.2.2.2.2.2.2.2.2.2.2.2.2.2.2.2.2.2.2.2.2.2.2.2.2.2.2.2.2.2.2.2.2.2.2.2.2.2.2.2.2.2.2.2.2.2.2.1 y6.2.2.2.2.2.2.2.2.2.2.2.2.2.2.2.2.2.2.2.2.2.2.2.2.2.2.2.2.2.2.2.2.2.2.2.2.2.2.2.2.2.2.2.2.2.2.2.2.1) fun y9=>Option.bind (ek y9.1 y9.2.1 y9.2.2.1 y9.2.2.2.1 y9.2.2.2.2.1 y9.2.2.2.2.2.1 y9.2.2.2.2.2.2.1 y9.2.2.2.2.2.2.2.1 y9.2.2.2.2.2.2.2.2.1 y9.2.2.2.2.2.2.2.2.2.1 y9.2.2.2.2.2.2.2.2.2.2.1 y9.2.2.2.2.2.2.2.2.2.2.2.1 y9.2.2.2.2.2.2.2.2.2.2.2.2.1 y9.2.2.2.2.2.2.2.2.2.2.2.2.2.1 y9.2.2.2.2.2.2.2.2.2.2.2.2.2.2.1 y9.2.2.2.2.2.2.2.2.2.2.2.2.2.2.2.1 y9.2.2.2.2.2.2.2.2.2.2.2.2.2.2.2.2.1 y9.2.2.2.2.2.2.2.2.2.2.2.2.2.2.2.2.2.1 y9.2.2.2.2.2.2.2.2.2.2.2.2.2.2.2.2.2.2.1 y9.2.2.2.2.2.2.2.2.2.2.2.2.2.2.2.2.2.2.2.1 y9.2.2.2.2.2.2.2.2.2.2.2.2.2.2.2.2.2.2.2.2.1 y9.2.2.2.2.2.2.2.2.2.2.2.2.2.2.2.2.2.2.2.2.2.1 y9.2.2.2.2.2.2.2.2.2.2.2.2.2.2.2.2.2.2.2.2.2.2.1 y9.2.2.2.2.2.2.2.2.2.2.2.2.2.2.2.2.2.2.2.2.2.2.2.1) fun mD=>some (mD.1,mD.2.1,mD.2.2.1,mD.2.2.2.1,mD.2.2.2.2.1,mD.2.2.2.2.2.1,mD.2.2.2.2.2.2.1,mD.2.2.2.2.2.2.2.1,mD.2.2.2.2.2.2.2.2.1,mD.2.2.2.2.2.2.2.2.2.1,mD.2.2.2.2.2.2.2.2.2.2.1,mD.2.2.2.2.2.2.2.2.2.2.2.1,mD.2.2.2.2.2.2.2.2.2.2.2.2.1,mD.2.2.2.2.2.2.2.2.2.2.2.2.2.1,mD.2.2.2.2.2.2.2.2.2.2.2.2.2.2.1,mD.2.2.2.2.2.2.2.2.2.2.2.2.2.2.2.1,mD.2.2.2.2.2.2.2.2.2.2.2.2.2.2.2.2.1,mD.2.2.2.2.2.2.2.2.2.2.2.2.2.2.2.2.2.1,mD.2.2.2.2.2.2.2.2.2.2.2.2.2.2.2.2.2.2.1,mD.2.2.2.2.2.2.2.2.2.2.2.2.2.2.2.2.2.2.2.1,mD.2.2.2.2.2.2.2.2.2.2.2.2.2.2.2.2.2.2.2.2.1,mD.2.2.2.2.2.2.2.2.2.2.2.2.2.2.2.2.2.2.2.2.2.1,mD.2.2.2.2.2.2.2.2.2.2.2.2.2.2.2.2.2.2.2.2.2.2.1,mD.2.2.2.2.2.2.2.2.2.2.2.2.2.2.2.2.2.2.2.2.2.2.2.1,y6.2.2.2.2.2.2.2.2.2.2.2.2.2.2.2.2.2.2.2.2.2.2.2.2.1,true,()) else Option.bind (ek y6.2.2.2.2.2.2.2.2.2.2.2.2.2.2.2.2.2.2.2.2.2.2.2.2.2.1 y6.2.2.2.2.2.2.2.2.2.2.2.2.2.2.2.2.2.2.2.2.2.2.2.2.2.2.1 y6.2.2.2.2.2.2.2.2.2.2.2.2.2.2.2.2.2.2.2.2.2.2.2.2.2.2.2.1 y6.2.2.2.2.2.2.2.2.2.2.2.2.2.2.2.2.2.2.2.2.2.2.2.2.2.2.2.2.1 y6.2.2.2.2.2.2.2.2.2.2.2.2.2.2.2.2.2.2.2.2.2.2.2.2.2.2.2.2.2.1 y6.2.2.2.2.2.2.2.2.2.2.2.2.2.2.2.2.2.2.2.2.2.2.2.2.2.2.2.2.2.2.1 y6.2.2.2.2.2.2.2.2.2.2.2.2.2.2.2.2.2.2.2.2.2.2.2.2.2.2.2.2.2.2.2.1 y6.2.2.2.2.2.2.2.2.2.2.2.2.2.2.2.2.2.2.2.2.2.2.2.2.2.2.2.2.2.2.2.2.1 y6.2.2.2.2.2.2.2.2.2.2.2.2.2.2.2.2.2.2.2.2.2.2.2.2.2.2.2.2.2.2.2.2.2.1 y6.2.2.2.2.2.2.2.2.2.2.2.2.2.2.2.2.2.2.2.2.2.2.2.2.2.2.2.2.2.2.2.2.2.2.1 y6.2.2.2.2.2.2.2.2.2.2.2.2.2.2.2.2.2.2.2.2.2.2.2.2.2.2.2.2.2.2.2.2.2.2.2.1 y6.2.2.2.2.2.2.2.2.2.2.2.2.2.2.2.2.2.2.2.2.2.2.2.2.2.2.2.2.2.2.2.2.2.2.2.2.1 y6.2.2.2.2.2.2.2.2.2.2.2.2.2.2.2.2.2.2.2.2.2.2.2.2.2.2.2.2.2.2.2.2.2.2.2.2.2.1 y6.2.2.2.2.2.2.2.2.2.2.2.2.2.2.2.2.2.2.2.2.2.2.2.2.2.2.2.2.2.2.2.2.2.2.2.2.2.2.1 y6.2.2.2.2.2.2.2.2.2.2.2.2.2.2.2.2.2.2.2.2.2.2.2.2.2.2.2.2.2.2.2.2.2.2.2.2.2.2.2.1 y6.2.2.2.2.2.2.2.2.2.2.2.2.2.2.2.2.2.2.2.2.2.2.2.2.2.2.2.2.2.2.2.2.2.2.2.2.2.2.2.2.1 y6.2.2.2.2.2.2.2.2.2.2.2.2.2.2.2.2.2.2.2.2.2.2.2.2.2.2.2.2.2.2.2.2.2.2.2.2.2.2.2.2.2.1 y6.2.2.2.2.2.2.2.2.2.2.2.2.2.2.2.2.2.2.2.2.2.2.2.2.2.2.2.2.2.2.2.2.2.2.2.2.2.2.2.2.2.2.1 y6.2.2.2.2.2.2.2.2.2.2.2.2.2.2.2.2.2.2.2.2.2.2.2.2.2.2.2.2.2.2.2.2.2.2.2.2.2.2.2.2.2.2.2.1 y6.2.2.2.2.2.2.2.2.2.2.2.2.2.2.2.2.2.2.2.2.2.2.2.2.2.2.2.2.2.2.2.2.2.2.2.2.2.2.2.2.2.2.2.2.1 y6.2.2.2.2.2.2.2.2.2.2.2.2.2.2.2.2.2.2.2.2.2.2.2.2.2.2.2.2.2.2.2.2.2.2.2.2.2.2.2.2.2.2.2.2.2.1 y6.2.2.2.2.2.2.2.2.2.2.2.2.2.2.2.2.2.2.2.2.2.2.2.2.2.2.2.2.2.2.2.2.2.2.2.2.2.2.2.2.2.2.2.2.2.2.1 y6.2.2.2.2.2.2.2.2.2.2.2.2.2.2.2.2.2.2.2.2.2.2.2.2.2.2.2.2.2.2.2.2.2.2.2.2.2.2.2.2.2.2.2.2.2.2.2.1 y6.2.2.2.2.2.2.2.2.2.2.2.2.2.2.2.2.2.2.2.2.2.2.2.2.2.2.2.2.2.2.2.2.2.2.2.2.2.2.2.2.2.2.2.2.2.2.2.2.1) fun mN=>some (mN.1,mN.2.1,mN.2.2.1,mN.2.2.2.1,mN.2.2.2.2.1,mN.2.2.2.2.2.1,mN.2.2.2.2.2.2.1,mN.2.2.2.2.2.2.2.1,mN.2.2.2.2.2.2.2.2.1,mN.2.2.2.2.2.2.2.2.2.1,mN.2.2.2.2.2.2.2.2.2.2.1,mN.2.2.2.2.2.2.2.2.2.2.2.1,mN.2.2.2.2.2.2.2.2.2.2.2.2.1,mN.2.2.2.2.2.2.2.2.2.2.2.2.2.1,mN.2.2.2.2.2.2.2.2.2.2.2.2.2.2.1,mN.2.2.2.2.2.2.2.2.2.2.2.2.2.2.2.1,mN.2.2.2.2.2.2.2.2.2.2.2.2.2.2.2.2.1,mN.2.2.2.2.2.2.2.2.2.2.2.2.2.2.2.2.2.1,mN.2.2.2.2.2.2.2.2.2.2.2.2.2.2.2.2.2.2.1,mN.2.2.2.2.2.2.2.2.2.2.2.2.2.2.2.2.2.2.2.1,mN.2.2.2.2.2.2.2.2.2.2.2.2.2.2.2.2.2.2.2.2.1,mN.2.2.2.2.2.2.2.2.2.2.2.2.2.2.2.2.2.2.2.2.2.1,mN.2.2.2.2.2.2.2.2.2.2.2.2.2.2.2.2.2.2.2.2.2.2.1,mN.2.2.2.2.2.2.2.2.2.2.2.2.2.2.2.2.2.2.2.2.2.2.2.1,y6.2.2.2.2.2.2.2.2.2.2.2.2.2.2.2.2.2.2.2.2.2.2.2.2.1,true,())) (fun y7=>none))
theorem Ck:vQ=lW:=by delta vQ lW;simp only [ku]
noncomputable def Ai (x:U45):Option (HE):=wq (aE (F6.ps.map some)) vQ x
theorem Cl:Ai=wq (aE (F6.ps.map some)) lW:=congrArg (wq (aE (F6.ps.map some))) Ck
theorem k6:F6.Kn [⟨.cell 4,true,ad6⟩,⟨.tmp 5,false,SZ⟩,⟨.tmp 6,false,[.bool]⟩] 6 lW:=F6.kf [aeJ] Tryz.func6 (by kernel_rfl) (by kernel_rfl) fun x=>Eq.trans (b:=Ai x) (by kernel_rfl) (congrFun Cl x)
def K6:=kw k6
def Vy:FC Tryz.prog:=⟨eH,[],gR,Tryz.f76,[vl [.shr fX],vl [.int .i64]]⟩
noncomputable def ml (s0:aH) (v1 t7 t8:Int):Option (Sum U46 (Sum Unit (Int×Unit))):=bif decide (t8<t7) then bif decide (0≤t8) then Option.bind ((s0)[t8.toNat]?) fun r1=>bif decide (v1=r1.1) then some (.inr (.inr (t8,()))) else some (.inl (s0,v1,t7,i64.wrap (t8+1),())) else none else some (.inr (.inl (())))
noncomputable def gU (x:U46):Option (Sum U46 (Sum Unit (Int×Unit))):=ml x.1 x.2.1 x.2.2.1 x.2.2.2.1
def Y1:LD:=⟨0,Vy.lp 0,sp [(0,vl [.shr fX]),(0,vl [.int .i64]),(5,vl [.int .i64]),(0,vl [.int .i64])] 11,sp [] 20,sp [(4,vl [.int .i64])] 15,gU⟩
theorem Y2:Vy.Ok Y1:=Vy.mY fun x=>by kernel_rfl
def Y3:Vy.KL:=⟨_,Y2⟩
noncomputable def oY (s0:aH) (v1:Int):Option (Int×Unit):=cT (aG gU (s0,v1,(s0.length:Int),0,())) (fun y1=>some ((-1),())) (fun y2=>some (y2.1,()))
theorem k76:Vy.Kn [⟨.tmp 4,false,[.int .i64]⟩] 76 oY:=Vy.kf [Y3] Tryz.func76 (by kernel_rfl) (by kernel_rfl) fun x=>by kernel_rfl
def K76:=kw k76
def F34:FC Tryz.prog:=⟨eH,[K76],gR,Tryz.f34,[vl [.shr fX],vl [.int .i64]]⟩
noncomputable def cI (s0:aH) (v1:Int):Option (Bool×Unit):=Option.bind (oY s0 v1) fun y1=>some (decide (0≤y1.1),())
theorem k34:F34.Kn [⟨.tmp 4,false,[.bool]⟩] 34 cI:=F34.nL Tryz.func34 fun x=>by kernel_rfl
def RH:=kw k34
def F77:FC Tryz.prog:=⟨eH,[],gR,Tryz.f77,[vl [.int .i64],vl [.int .i64],vl [.int .i64]]⟩
noncomputable def cj (n0 Iv Oh:Int):Option (Bool×Unit):=bif decide (Iv≤n0) then some (decide (n0≤Oh),()) else some (false,())
theorem k77:F77.Kn [⟨.tmp 6,false,[.bool]⟩] 77 cj:=F77.nL Tryz.func77 fun x=>by kernel_rfl
def RI:=kw k77
def F78:FC Tryz.prog:=⟨eH,[RI],gR,Tryz.f78,[vl [.int .i64]]⟩
noncomputable def ji (n0:Int):Option (Bool×Unit):=Option.bind (cj n0 1 5) fun y1=>some (y1.1,())
theorem k78:F78.Kn [⟨.tmp 2,false,[.bool]⟩] 78 ji:=F78.nL Tryz.func78 fun x=>by kernel_rfl
def K78:=kw k78
def Vz:FC Tryz.prog:=⟨eH,[RI,K78],gR,Tryz.f35,[va vd]⟩
noncomputable def rJ (fB:Int) (eB t17:aH) (t18 t19:Int):Option (Sum U47 (Sum Unit (Bool×Unit))):=bif decide (t19<t18) then bif decide (0≤t19) then Option.bind ((t17)[t19.toNat]?) fun r3=>Option.bind (ji r3.1) fun y4=>bif !y4.1 then some (.inr (.inr (false,()))) else bif decide (0<t19) then bif decide (0≤i64.wrap (t19-1)) then Option.bind ((eB)[(i64.wrap (t19-1)).toNat]?) fun r5=>bif decide (r3.1≤r5.1) then some (.inr (.inr (false,()))) else some (.inl (fB,eB,t17,t18,i64.wrap (t19+1),())) else none else some (.inl (fB,eB,t17,t18,i64.wrap (t19+1),())) else none else some (.inr (.inl (())))
noncomputable def lF (x:U47):Option (Sum U47 (Sum Unit (Bool×Unit))):=rJ x.1 x.2.1 x.2.2.1 x.2.2.2.1 x.2.2.2.2.1
def Y4:LD:=⟨0,Vz.lp 0,sp [(1,.box false vd),(15,vl [.shr fX]),(0,vl [.int .i64]),(0,vl [.int .i64])] 23,sp [] 43,sp [(2,vl [.bool])] 40,lF⟩
theorem Y5:Vz.Ok Y4:=Vz.mY fun x=>by kernel_rfl
def Y6:Vz.KL:=⟨_,Y5⟩
noncomputable def fZ (bj:Int) (bl:aH):Option (Bool×Unit):=Option.bind (cj bj 1 9) fun y1=>bif !y1.1 then some (false,()) else Option.bind (cj (bl.length:Int) 1 5) fun y2=>bif !y2.1 then some (false,()) else cT (aG lF (bj,bl,bl,(bl.length:Int),0,())) (fun y3=>some (true,())) (fun y4=>some (y4.1,()))
theorem k35:Vz.Kn [⟨.tmp 2,false,[.bool]⟩] 35 fZ:=Vz.kf [Y6] Tryz.func35 (by kernel_rfl) (by kernel_rfl) fun x=>by kernel_rfl
def TO:=kw k35
def F80:FC Tryz.prog:=⟨eH,[],gR,Tryz.f80,[va vd]⟩
noncomputable def ij (bj:Int) (bl:aH):Option (Bool×Unit):=bif decide (bj=0) then some (decide ((bl.length:Int)=0),()) else some (false,())
theorem k80:F80.Kn [⟨.tmp 2,false,[.bool]⟩] 80 ij:=F80.nL Tryz.func80 fun x=>by kernel_rfl
def K80:=kw k80
def Y7:FC Tryz.prog:=⟨eH,[],gR,Tryz.f111,[va HF]⟩
noncomputable def cU (zr zt yx AB AD:Int) (xr:aH):Option (Bool×Unit):=bif decide (zr=0) then bif decide (zt=0) then bif decide (yx=0) then bif decide (AB=0) then bif decide (AD=0) then some (decide ((xr.length:Int)=0),()) else some (false,()) else some (false,()) else some (false,()) else some (false,()) else some (false,())
theorem aeL:Y7.Kn [⟨.tmp 2,false,[.bool]⟩] 111 cU:=Y7.nL Tryz.func111 fun x=>by kernel_rfl
def Y8:=kw aeL
def F79:FC Tryz.prog:=⟨eH,[K80,Y8],gR,Tryz.f79,[va Lw]⟩
noncomputable def fI (ki jQ:Int) (gn:aH) (gT:aj) (fo:aH) (ic:fE) (lx ly lA lB fv fw fx fy fA:Int) (dX:aH):Option (Bool×Unit):=bif !decide (ki=0) then some (false,()) else Option.bind (ij jQ gn) fun y1=>bif !y1.1 then some (false,()) else bif !decide (lx=0) then some (false,()) else bif !decide (ly=0) then some (false,()) else bif !decide (lA=0) then some (false,()) else bif !decide (lB=0) then some (false,()) else bif decide ((gT.length:Int)=0) then bif decide ((fo.length:Int)=0) then bif decide ((ic.length:Int)=0) then Option.bind (cU fv fw fx fy fA dX) fun y2=>some (y2.1,()) else some (false,()) else some (false,()) else some (false,())
theorem k79:F79.Kn [⟨.tmp 2,false,[.bool]⟩] 79 fI:=F79.nL Tryz.func79 fun x=>by kernel_rfl
def K79:=kw k79
def Y9:FC Tryz.prog:=⟨eH,[],gR,Tryz.f114,[vl [.int .i64]]⟩
noncomputable def n6 (n0:Int):Option (Bool×Unit):=bif decide (n0=1) then some (true,()) else some (decide (n0=2),())
theorem aeM:Y9.Kn [⟨.tmp 2,false,[.bool]⟩] 114 n6:=Y9.nL Tryz.func114 fun x=>by kernel_rfl
def Za:=kw aeM
def Zb:FC Tryz.prog:=⟨eH,[RI,K78,Za],gR,Tryz.f129,[va CJ]⟩
noncomputable def lG (ki jQ gn:Int) (gT:ByteArray):Option (Bool×Unit):=Option.bind (cj ki 1 60) fun y1=>bif y1.1 then Option.bind (ji jQ) fun y2=>bif y2.1 then Option.bind (n6 gn) fun y3=>bif y3.1 then some (decide ((gT.size:Int)≤60),()) else some (false,()) else some (false,()) else some (false,())
theorem aeN:Zb.Kn [⟨.tmp 2,false,[.bool]⟩] 129 lG:=Zb.nL Tryz.func129 fun x=>by kernel_rfl
def aeO:=kw aeN
def LU:FC Tryz.prog:=⟨eH,[aeO],dr 4 (.t 0 (.o 1 (.a 2 (.a 3 (.a 4 (.a 5 (.a 6 (.a 7 (.t 8 (.a 9 (.a 10 (.a 11 (.a 12 (.a 13 (.t 14 (.a 15 (.a 16 (.a 17 .nil)))))))))))))))))),Tryz.f112,[vl [.shr aD]]⟩
noncomputable def qi (bc t5:aj) (t6 t7:Int):Option (Sum Vd (Sum Unit (Bool×Unit))):=bif decide (t7<t6) then bif decide (0≤t7) then Option.bind ((t5)[t7.toNat]?) fun r1=>Option.bind (lG r1.1 r1.2.1 r1.2.2.1 r1.2.2.2.1) fun y2=>bif !y2.1 then some (.inr (.inr (false,()))) else bif decide (0<t7) then bif decide (0≤i64.wrap (t7-1)) then Option.bind ((bc)[(i64.wrap (t7-1)).toNat]?) fun r3=>bif decide (r1.1≤r3.1) then some (.inr (.inr (false,()))) else some (.inl (bc,t5,t6,i64.wrap (t7+1),())) else none else some (.inl (bc,t5,t6,i64.wrap (t7+1),())) else none else some (.inr (.inl (())))
noncomputable def ko (x:Vd):Option (Sum Vd (Sum Unit (Bool×Unit))):=qi x.1 x.2.1 x.2.2.1 x.2.2.2.1
def TP:LD:=⟨0,LU.lp 0,sp [(0,vl [.shr aD]),(4,vl [.shr aD]),(0,vl [.int .i64]),(0,vl [.int .i64])] 24,sp [] 32,sp [(2,vl [.bool])] 29,ko⟩
theorem TQ:LU.Ok TP:=LU.mY fun x=>by kernel_rfl
def TR:LU.KL:=⟨_,TQ⟩
noncomputable def jc (bc:aj):Option (Bool×Unit):=cT (aG ko (bc,bc,(bc.length:Int),0,())) (fun y1=>some (true,())) (fun y2=>some (y2.1,()))
theorem aeP:LU.Kn [⟨.tmp 2,false,[.bool]⟩] 112 jc:=LU.kf [TR] Tryz.func112 (by kernel_rfl) (by kernel_rfl) fun x=>by kernel_rfl
def TS:=kw aeP
def LV:FC Tryz.prog:=⟨eH,[],gR,Tryz.f113,[vl [.shr tj]]⟩
noncomputable def oZ (t5:fE) (t6 t7:Int):Option (Sum MI (Sum Unit (Bool×Unit))):=bif decide (t7<t6) then bif decide (0≤t7) then Option.bind ((t5)[t7.toNat]?) fun r1=>bif decide (60<(r1.1.size:Int)) then some (.inr (.inr (false,()))) else some (.inl (t5,t6,i64.wrap (t7+1),())) else none else some (.inr (.inl (())))
noncomputable def jH (x:MI):Option (Sum MI (Sum Unit (Bool×Unit))):=oZ x.1 x.2.1 x.2.2.1
def TT:LD:=⟨0,LV.lp 0,sp [(5,vl [.shr tj]),(0,vl [.int .i64]),(0,vl [.int .i64])] 8,sp [] 16,sp [(2,vl [.bool])] 13,jH⟩
theorem TU:LV.Ok TT:=LV.mY fun x=>by kernel_rfl
def TV:LV.KL:=⟨_,TU⟩
noncomputable def pz (bc:fE):Option (Bool×Unit):=cT (aG jH (bc,(bc.length:Int),0,())) (fun y1=>some (true,())) (fun y2=>some (y2.1,()))
theorem aeQ:LV.Kn [⟨.tmp 2,false,[.bool]⟩] 113 pz:=LV.kf [TV] Tryz.func113 (by kernel_rfl) (by kernel_rfl) fun x=>by kernel_rfl
def aeR:=kw aeQ
def LW:FC Tryz.prog:=⟨eH,[],gR,Tryz.f130,[vl [.shr aD],vl [.int .i64]]⟩
noncomputable def rK (seq1 AE AF AG:Int) (AH:ByteArray) (t8:aj) (t9 t10:Int):Option (Sum U48 (Sum nd U6)):=bif decide (t10<t9) then bif decide (0≤t10) then Option.bind ((t8)[t10.toNat]?) fun r1=>bif decide (r1.1=seq1) then some (.inr (.inr (r1.1,r1.2.1,r1.2.2.1,r1.2.2.2.1,true,()))) else some (.inl (seq1,AE,AF,AG,AH,t8,t9,i64.wrap (t10+1),())) else none else some (.inr (.inl (AE,AF,AG,AH,())))
noncomputable def jI (x:U48):Option (Sum U48 (Sum nd U6)):=rK x.1 x.2.1 x.2.2.1 x.2.2.2.1 x.2.2.2.2.1 x.2.2.2.2.2.1 x.2.2.2.2.2.2.1 x.2.2.2.2.2.2.2.1
def TW:LD:=⟨0,LW.lp 0,sp [(1,vl [.int .i64]),(2,.box false CJ),(3,vl [.shr aD]),(0,vl [.int .i64]),(0,vl [.int .i64])] 11,sp [(4,.box false CJ)] 17,sp [(4,.box false CJ),(0,vl [.bool])] 16,jI⟩
theorem TX:LW.Ok TW:=LW.mY fun x=>by kernel_rfl
def TY:LW.KL:=⟨_,TX⟩
noncomputable def so (bc:aj) (seq1:Int):Option (U6):=cT (aG jI (seq1,0,0,0,ByteArray.empty,bc,(bc.length:Int),0,())) (fun y1=>some (0,0,0,ByteArray.empty,false,())) (fun y2=>some y2)
theorem aeS:LW.Kn [⟨.cell 4,true,CJ⟩,⟨.tmp 5,false,[.bool]⟩] 130 so:=LW.kf [TY] Tryz.func130 (by kernel_rfl) (by kernel_rfl) fun x=>by kernel_rfl
def aeT:=kw aeS
def LX:FC Tryz.prog:=⟨eH,[aeT],gR,Tryz.f115,[vl [.shr aD]]⟩
noncomputable def wW (bc:aj) (IS:Int):Option (Sum (aj×Int×Unit) (Sum Unit (Int×Unit))):=Option.bind (so bc (i64.wrap (IS+1))) fun y1=>bif !y1.2.2.2.2.1 then some (.inr (.inr (IS,()))) else some (.inl (bc,i64.wrap (IS+1),()))
noncomputable def pA (x:aj×Int×Unit):Option (Sum (aj×Int×Unit) (Sum Unit (Int×Unit))):=wW x.1 x.2.1
def TZ:LD:=⟨0,LX.lp 0,sp [(0,vl [.shr aD]),(2,vl [.int .i64])] 15,sp [] 19,sp [(2,vl [.int .i64])] 16,pA⟩
theorem T0:LX.Ok TZ:=LX.mY fun x=>by kernel_rfl
def T1:LX.KL:=⟨_,T0⟩
noncomputable def ni (bc:aj):Option (Int×Unit):=cT (aG pA (bc,0,())) (fun y1=>none) (fun y2=>some (y2.1,()))
theorem aeU:LX.Kn [⟨.tmp 2,false,[.int .i64]⟩] 115 ni:=LX.kf [T1] Tryz.func115 (by kernel_rfl) (by kernel_rfl) fun x=>by kernel_rfl
def Zc:=kw aeU
def LY:FC Tryz.prog:=⟨eH,[RI],gR,Tryz.f116,[va HF]⟩
noncomputable def qj (LH LI GV LJ LK:Int) (Cc t22:aH) (t23 t24:Int):Option (Sum U49 (Sum nf (Bool×Unit))):=bif decide (t24<t23) then bif decide (0≤t24) then Option.bind ((t22)[t24.toNat]?) fun r4=>Option.bind (cj r4.1 1 GV) fun y5=>bif !y5.1 then some (.inr (.inr (false,()))) else bif decide (0<t24) then bif decide (0≤i64.wrap (t24-1)) then Option.bind ((Cc)[(i64.wrap (t24-1)).toNat]?) fun r6=>bif decide (r4.1≤r6.1) then some (.inr (.inr (false,()))) else some (.inl (LH,LI,GV,LJ,LK,Cc,t22,t23,i64.wrap (t24+1),())) else none else some (.inl (LH,LI,GV,LJ,LK,Cc,t22,t23,i64.wrap (t24+1),())) else none else some (.inr (.inl (LH,LI,GV,LJ,LK,Cc,())))
noncomputable def kq (x:U49):Option (Sum U49 (Sum nf (Bool×Unit))):=qj x.1 x.2.1 x.2.2.1 x.2.2.2.1 x.2.2.2.2.1 x.2.2.2.2.2.1 x.2.2.2.2.2.2.1 x.2.2.2.2.2.2.2.1 x.2.2.2.2.2.2.2.2.1
def T2:LD:=⟨0,LY.lp 0,sp [(1,.box false HF),(20,vl [.shr fX]),(0,vl [.int .i64]),(0,vl [.int .i64])] 41,sp [(1,.box false HF)] 64,sp [(2,vl [.bool])] 63,kq⟩
theorem T3:LY.Ok T2:=LY.mY fun x=>by kernel_rfl
def T4:LY.KL:=⟨_,T3⟩
noncomputable def lX (zr zt yx AB AD:Int) (xr:aH):Option (Bool×Unit):=Option.bind (cj zr 1 9) fun y1=>bif !y1.1 then some (false,()) else Option.bind (cj zt 1 1000000000) fun y2=>bif !y2.1 then some (false,()) else Option.bind (cj yx 0 60) fun y3=>bif !y3.1 then some (false,()) else cT (aG kq (zr,zt,yx,AB,AD,xr,xr,(xr.length:Int),0,())) (fun y4=>Option.bind (cj y4.2.2.2.1 0 y4.2.2.1) fun y6=>bif y6.1 then Option.bind (cj y4.2.2.2.2.1 0 5) fun y7=>bif y7.1 then some (decide ((y4.2.2.2.2.2.1.length:Int)≤20),()) else some (false,()) else some (false,())) (fun y5=>some (y5.1,()))
theorem aeV:LY.Kn [⟨.tmp 2,false,[.bool]⟩] 116 lX:=LY.kf [T4] Tryz.func116 (by kernel_rfl) (by kernel_rfl) fun x=>by kernel_rfl
def aeW:=kw aeV
def VA:FC Tryz.prog:=⟨eH,[RH,TO,TS,aeR,Za,Zc,RI,Y8,aeW],gR,Tryz.f81,[va Lw]⟩
noncomputable def rL (IA IB:Int) (IC:aH) (ID:aj) (Zd:aH) (Ze:fE) (Zf Zg Zh Zi RJ RK RL RM RN:Int) (RO t45:aH) (t46 t47:Int):Option (Sum U50 (Sum bV (Bool×Unit))):=bif decide (t47<t46) then bif decide (0≤t47) then Option.bind ((t45)[t47.toNat]?) fun r5=>Option.bind (n6 r5.1) fun y6=>bif !y6.1 then some (.inr (.inr (false,()))) else some (.inl (IA,IB,IC,ID,Zd,Ze,Zf,Zg,Zh,Zi,RJ,RK,RL,RM,RN,RO,t45,t46,i64.wrap (t47+1),())) else none else some (.inr (.inl (IA,IB,IC,ID,Zd,Ze,Zf,Zg,Zh,Zi,RJ,RK,RL,RM,RN,RO,())))
noncomputable def jJ (x:U50):Option (Sum U50 (Sum bV (Bool×Unit))):=rL x.1 x.2.1 x.2.2.1 x.2.2.2.1 x.2.2.2.2.1 x.2.2.2.2.2.1 x.2.2.2.2.2.2.1 x.2.2.2.2.2.2.2.1 x.2.2.2.2.2.2.2.2.1 x.2.2.2.2.2.2.2.2.2.1 x.2.2.2.2.2.2.2.2.2.2.1 x.2.2.2.2.2.2.2.2.2.2.2.1 x.2.2.2.2.2.2.2.2.2.2.2.2.1 x.2.2.2.2.2.2.2.2.2.2.2.2.2.1 x.2.2.2.2.2.2.2.2.2.2.2.2.2.2.1 x.2.2.2.2.2.2.2.2.2.2.2.2.2.2.2.1 x.2.2.2.2.2.2.2.2.2.2.2.2.2.2.2.2.1 x.2.2.2.2.2.2.2.2.2.2.2.2.2.2.2.2.2.1 x.2.2.2.2.2.2.2.2.2.2.2.2.2.2.2.2.2.2.1
def Zj:LD:=⟨0,VA.lp 0,sp [(1,.box false Lw),(43,vl [.shr fX]),(0,vl [.int .i64]),(0,vl [.int .i64])] 43,sp [(1,.box false Lw)] 89,sp [(2,vl [.bool])] 88,jJ⟩
theorem Zk:VA.Ok Zj:=VA.mY fun x=>by kernel_rfl
def Zl:VA.KL:=⟨_,Zk⟩
noncomputable def lH (ki jQ:Int) (gn:aH) (gT:aj) (fo:aH) (ic:fE) (lx ly lA lB fv fw fx fy fA:Int) (dX:aH):Option (Bool×Unit):=Option.bind (cI gn ki) fun y1=>bif !y1.1 then some (false,()) else Option.bind (fZ jQ gn) fun y2=>bif !y2.1 then some (false,()) else Option.bind (jc gT) fun y3=>bif !y3.1 then some (false,()) else bif decide (20<(ic.length:Int)) then some (false,()) else Option.bind (pz ic) fun y4=>bif !y4.1 then some (false,()) else bif !decide ((fo.length:Int)=(ic.length:Int)) then some (false,()) else cT (aG jJ (ki,jQ,gn,gT,fo,ic,lx,ly,lA,lB,fv,fw,fx,fy,fA,dX,fo,(fo.length:Int),0,())) (fun y5=>Option.bind (ni y5.2.2.2.1) fun y7=>Option.bind (cj y5.2.2.2.2.2.2.1 0 1000000000) fun y8=>bif !y8.1 then some (false,()) else Option.bind (cj y5.2.2.2.2.2.2.2.1 0 60) fun y9=>bif !y9.1 then some (false,()) else Option.bind (cj y5.2.2.2.2.2.2.2.2.1 0 y7.1) fun mD=>bif !mD.1 then some (false,()) else Option.bind (cj y5.2.2.2.2.2.2.2.2.2.1 0 y7.1) fun mN=>bif !mN.1 then some (false,()) else Option.bind (cU y5.2.2.2.2.2.2.2.2.2.2.1 y5.2.2.2.2.2.2.2.2.2.2.2.1 y5.2.2.2.2.2.2.2.2.2.2.2.2.1 y5.2.2.2.2.2.2.2.2.2.2.2.2.2.1 y5.2.2.2.2.2.2.2.2.2.2.2.2.2.2.1 y5.2.2.2.2.2.2.2.2.2.2.2.2.2.2.2.1) fun Oi=>bif Oi.1 then some (true,()) else Option.bind (lX y5.2.2.2.2.2.2.2.2.2.2.1 y5.2.2.2.2.2.2.2.2.2.2.2.1 y5.2.2.2.2.2.2.2.2.2.2.2.2.1 y5.2.2.2.2.2.2.2.2.2.2.2.2.2.1 y5.2.2.2.2.2.2.2.2.2.2.2.2.2.2.1 y5.2.2.2.2.2.2.2.2.2.2.2.2.2.2.2.1) fun PB=>some (PB.1,())) (fun y6=>some (y6.1,()))
theorem k81:VA.Kn [⟨.tmp 2,false,[.bool]⟩] 81 lH:=VA.kf [Zl] Tryz.func81 (by kernel_rfl) (by kernel_rfl) fun x=>by kernel_rfl
def K81:=kw k81
def Zm:FC Tryz.prog:=⟨eH,[K78,RI,TS],gR,Tryz.f117,[va HG]⟩
noncomputable def kC (Iw EM EN:Int) (CU:aj):Option (Bool×Unit):=Option.bind (ji Iw) fun y1=>bif !y1.1 then some (false,()) else Option.bind (cj EM 1 9) fun y2=>bif !y2.1 then some (false,()) else Option.bind (cj EN 0 (i64.wrap (EM-1))) fun y3=>bif !y3.1 then some (false,()) else Option.bind (jc CU) fun y4=>bif y4.1 then bif decide (0<EN) then some (true,()) else some (decide ((CU.length:Int)=0),()) else some (false,())
theorem aeX:Zm.Kn [⟨.tmp 2,false,[.bool]⟩] 117 kC:=Zm.nL Tryz.func117 fun x=>by kernel_rfl
def Zn:=kw aeX
def VB:FC Tryz.prog:=⟨eH,[K80,TO,RH,RI,Zn],dr 3 (.a 0 (.a 1 (.a 2 (.t 3 (.o 4 (.a 5 (.a 6 (.a 7 (.a 8 (.a 9 (.a 10 (.t 11 (.a 12 (.a 13 (.a 14 (.t 15 (.o 16 (.a 17 (.a 18 (.a 19 (.a 20 (.a 21 (.a 22 (.a 23 (.t 24 (.a 25 (.a 26 (.a 27 (.t 28 (.a 29 (.a 30 (.a 31 (.a 32 (.t 33 (.o 34 (.a 35 (.a 36 .nil))))))))))))))))))))))))))))))))))))) (dr 8 (.t 0 (.o 1 (.a 2 (.a 3 (.a 4 (.t 5 (.a 6 (.a 7 (.a 8 (.a 9 (.t 10 (.a 11 (.a 12 .nil)))))))))))))),Tryz.f82,[.box true FK]⟩
noncomputable def jj (ca:Int) (dm:Bool) (dg cG:Int) (cR:aH) (aw:aj) (cW:aH) (cX:fE) (du dv bN bG bO bP bQ bR bS:Int) (bD:aH) (bm aZ aP:Int) (aN:aH) (ba:af) (bq:ai) (t56:af) (t57 t58:Int):Option (Sum U51 (Sum ae U52)):=bif decide (t58<t57) then bif decide (0≤t58) then Option.bind ((t56)[t58.toNat]?) fun r5=>Option.bind (kC r5.1 r5.2.1 r5.2.2.1 r5.2.2.2.1) fun y6=>bif !y6.1 then some (.inr (.inr (ca,dm,dg,cG,cR,aw,cW,cX,du,dv,bN,bG,bO,bP,bQ,bR,bS,bD,bm,aZ,aP,aN,ba,bq,false,()))) else bif !decide (r5.2.1=aP) then some (.inr (.inr (ca,dm,dg,cG,cR,aw,cW,cX,du,dv,bN,bG,bO,bP,bQ,bR,bS,bD,bm,aZ,aP,aN,ba,bq,false,()))) else some (.inl (ca,dm,dg,cG,cR,aw,cW,cX,du,dv,bN,bG,bO,bP,bQ,bR,bS,bD,bm,aZ,aP,aN,ba,bq,t56,t57,i64.wrap (t58+1),())) else none else some (.inr (.inl (ca,dm,dg,cG,cR,aw,cW,cX,du,dv,bN,bG,bO,bP,bQ,bR,bS,bD,bm,aZ,aP,aN,ba,bq,())))
noncomputable def ec (x:U51):Option (Sum U51 (Sum ae U52)):=jj x.1 x.2.1 x.2.2.1 x.2.2.2.1 x.2.2.2.2.1 x.2.2.2.2.2.1 x.2.2.2.2.2.2.1 x.2.2.2.2.2.2.2.1 x.2.2.2.2.2.2.2.2.1 x.2.2.2.2.2.2.2.2.2.1 x.2.2.2.2.2.2.2.2.2.2.1 x.2.2.2.2.2.2.2.2.2.2.2.1 x.2.2.2.2.2.2.2.2.2.2.2.2.1 x.2.2.2.2.2.2.2.2.2.2.2.2.2.1 x.2.2.2.2.2.2.2.2.2.2.2.2.2.2.1 x.2.2.2.2.2.2.2.2.2.2.2.2.2.2.2.1 x.2.2.2.2.2.2.2.2.2.2.2.2.2.2.2.2.1 x.2.2.2.2.2.2.2.2.2.2.2.2.2.2.2.2.2.1 x.2.2.2.2.2.2.2.2.2.2.2.2.2.2.2.2.2.2.1 x.2.2.2.2.2.2.2.2.2.2.2.2.2.2.2.2.2.2.2.1 x.2.2.2.2.2.2.2.2.2.2.2.2.2.2.2.2.2.2.2.2.1 x.2.2.2.2.2.2.2.2.2.2.2.2.2.2.2.2.2.2.2.2.2.1 x.2.2.2.2.2.2.2.2.2.2.2.2.2.2.2.2.2.2.2.2.2.2.1 x.2.2.2.2.2.2.2.2.2.2.2.2.2.2.2.2.2.2.2.2.2.2.2.1 x.2.2.2.2.2.2.2.2.2.2.2.2.2.2.2.2.2.2.2.2.2.2.2.2.1 x.2.2.2.2.2.2.2.2.2.2.2.2.2.2.2.2.2.2.2.2.2.2.2.2.2.1 x.2.2.2.2.2.2.2.2.2.2.2.2.2.2.2.2.2.2.2.2.2.2.2.2.2.2.1
def Zo:LD:=⟨0,VB.lp 0,sp [(0,.box true FK),(55,vl yw),(0,vl [.int .i64]),(0,vl [.int .i64])] 18,sp [(0,.box true FK)] 76,sp [(0,.box true FK),(1,vl [.bool])] 74,ec⟩
theorem Zp:VB.Ok Zo:=VB.mY fun x=>by kernel_rfl
def Zq:VB.KL:=⟨_,Zp⟩
noncomputable def ea (ca:Int) (dm:Bool) (dg cG:Int) (cR:aH) (aw:aj) (cW:aH) (cX:fE) (du dv bN bG bO bP bQ bR bS:Int) (bD:aH) (bm aZ aP:Int) (aN:aH) (ba:af) (bq:ai):Option (U10):=Option.bind (ij aP aN) fun y1=>bif y1.1 then some (decide ((ba.length:Int)=0),ca,dm,dg,cG,cR,aw,cW,cX,du,dv,bN,bG,bO,bP,bQ,bR,bS,bD,bm,aZ,aP,aN,ba,bq,()) else Option.bind (fZ aP aN) fun y2=>bif !y2.1 then some (false,ca,dm,dg,cG,cR,aw,cW,cX,du,dv,bN,bG,bO,bP,bQ,bR,bS,bD,bm,aZ,aP,aN,ba,bq,()) else Option.bind (cI aN ca) fun y3=>bif !y3.1 then some (false,ca,dm,dg,cG,cR,aw,cW,cX,du,dv,bN,bG,bO,bP,bQ,bR,bS,bD,bm,aZ,aP,aN,ba,bq,()) else Option.bind (cj aP (i64.wrap (aZ+1)) bm) fun y4=>bif !y4.1 then some (false,ca,dm,dg,cG,cR,aw,cW,cX,du,dv,bN,bG,bO,bP,bQ,bR,bS,bD,bm,aZ,aP,aN,ba,bq,()) else cT (aG ec (ca,dm,dg,cG,cR,aw,cW,cX,du,dv,bN,bG,bO,bP,bQ,bR,bS,bD,bm,aZ,aP,aN,ba,bq,ba,(ba.length:Int),0,())) (fun y5=>some (true,y5)) (fun y6=>some (y6.2.2.2.2.2.2.2.2.2.2.2.2.2.2.2.2.2.2.2.2.2.2.2.2.1,y6.1,y6.2.1,y6.2.2.1,y6.2.2.2.1,y6.2.2.2.2.1,y6.2.2.2.2.2.1,y6.2.2.2.2.2.2.1,y6.2.2.2.2.2.2.2.1,y6.2.2.2.2.2.2.2.2.1,y6.2.2.2.2.2.2.2.2.2.1,y6.2.2.2.2.2.2.2.2.2.2.1,y6.2.2.2.2.2.2.2.2.2.2.2.1,y6.2.2.2.2.2.2.2.2.2.2.2.2.1,y6.2.2.2.2.2.2.2.2.2.2.2.2.2.1,y6.2.2.2.2.2.2.2.2.2.2.2.2.2.2.1,y6.2.2.2.2.2.2.2.2.2.2.2.2.2.2.2.1,y6.2.2.2.2.2.2.2.2.2.2.2.2.2.2.2.2.1,y6.2.2.2.2.2.2.2.2.2.2.2.2.2.2.2.2.2.1,y6.2.2.2.2.2.2.2.2.2.2.2.2.2.2.2.2.2.2.1,y6.2.2.2.2.2.2.2.2.2.2.2.2.2.2.2.2.2.2.2.1,y6.2.2.2.2.2.2.2.2.2.2.2.2.2.2.2.2.2.2.2.2.1,y6.2.2.2.2.2.2.2.2.2.2.2.2.2.2.2.2.2.2.2.2.2.1,y6.2.2.2.2.2.2.2.2.2.2.2.2.2.2.2.2.2.2.2.2.2.2.1,y6.2.2.2.2.2.2.2.2.2.2.2.2.2.2.2.2.2.2.2.2.2.2.2.1,()))
theorem k82:VB.Kn [⟨.tmp 2,false,[.bool]⟩] 82 ea:=VB.kf [Zq] Tryz.func82 (by kernel_rfl) (by kernel_rfl) fun x=>by kernel_rfl
def K82:=kv (.own,.shr,.shr) k82
def F36:FC Tryz.prog:=⟨eH,[K78,RI,K79,K80,K81,K82],gR,Tryz.f36,[va FK]⟩
noncomputable def kD (ca:Int) (dm:Bool) (dg cG:Int) (cR:aH) (aw:aj) (cW:aH) (cX:fE) (du dv bN bG bO bP bQ bR bS:Int) (bD:aH) (bm aZ aP:Int) (aN:aH) (ba:af) (bq:ai):Option (Bool×Unit):=Option.bind (ji ca) fun y1=>bif !y1.1 then some (false,()) else Option.bind (cj bm 0 9) fun y2=>bif !y2.1 then some (false,()) else bif dm then Option.bind (fI dg cG cR aw cW cX du dv bN bG bO bP bQ bR bS bD) fun y3=>bif !y3.1 then some (false,()) else bif !decide (aZ=0) then some (false,()) else Option.bind (ij aP aN) fun y4=>bif !y4.1 then some (false,()) else bif decide (0<(ba.length:Int)) then some (false,()) else Option.bind (fI dg cG cR aw cW cX du dv bN bG bO bP bQ bR bS bD) fun y5=>bif !y5.1 then bif !decide (dg=ca) then some (false,()) else Option.bind (lH dg cG cR aw cW cX du dv bN bG bO bP bQ bR bS bD) fun y6=>bif !y6.1 then some (false,()) else bif decide (aZ=cG) then bif decide (aZ≤bm) then Option.bind (ea ca dm dg cG cR aw cW cX du dv bN bG bO bP bQ bR bS bD bm aZ aP aN ba bq) fun y7=>some (y7.1,()) else some (false,()) else some (false,()) else bif decide (aZ=cG) then bif decide (aZ≤bm) then Option.bind (ea ca dm dg cG cR aw cW cX du dv bN bG bO bP bQ bR bS bD bm aZ aP aN ba bq) fun y8=>some (y8.1,()) else some (false,()) else some (false,()) else Option.bind (fI dg cG cR aw cW cX du dv bN bG bO bP bQ bR bS bD) fun y9=>bif !y9.1 then bif !decide (dg=ca) then some (false,()) else Option.bind (lH dg cG cR aw cW cX du dv bN bG bO bP bQ bR bS bD) fun mD=>bif !mD.1 then some (false,()) else bif decide (aZ=cG) then bif decide (aZ≤bm) then Option.bind (ea ca dm dg cG cR aw cW cX du dv bN bG bO bP bQ bR bS bD bm aZ aP aN ba bq) fun mN=>some (mN.1,()) else some (false,()) else some (false,()) else bif decide (aZ=cG) then bif decide (aZ≤bm) then Option.bind (ea ca dm dg cG cR aw cW cX du dv bN bG bO bP bQ bR bS bD bm aZ aP aN ba bq) fun Oi=>some (Oi.1,()) else some (false,()) else some (false,())
theorem k36:F36.Kn [⟨.tmp 2,false,[.bool]⟩] 36 kD:=F36.nL Tryz.func36 fun x=>by kernel_rfl
def K36:=kw k36
def F86:FC Tryz.prog:=⟨eH,[],gR,Tryz.f86,[vl [.shr fX]]⟩
noncomputable def dh (s0:aH):Option (aH×Unit):=bif Nat.ble ((0+(List.length s0))*8) lim then some ([]++s0,()) else none
theorem k86:F86.Kn [⟨.tmp 2,false,[.own fX]⟩] 86 dh:=F86.kfn [] Tryz.func86 (fX) [] rfl (by kernel_rfl) (by kernel_rfl) (fun x=>by kernel_rfl) fun x=>by kernel_rfl
def Zr:=kw k86
def F39:FC Tryz.prog:=⟨eH,[Zr],dr 1 (.a 0 (.t 1 (.a 2 (.t 3 (.o 4 (.a 5 (.l 6 .nil))))))),Tryz.f39,[va vd]⟩
noncomputable def bw (bj:Int) (bl:aH):Option (Int×aH×Unit):=Option.bind (dh bl) fun y1=>some (bj,y1.1,())
theorem k39:F39.Kn [⟨.cell 2,true,Qv⟩] 39 bw:=F39.nL Tryz.func39 fun x=>by kernel_rfl
def PE:=kw k39
def F38:FC Tryz.prog:=⟨eH,[],gR,Tryz.f38,[vl [.shr aD]]⟩
noncomputable def cV (s0:aj):Option (aj×Unit):=bif Nat.ble ((0+(List.length s0))*40) lim then some ([]++s0,()) else none
theorem k38:F38.Kn [⟨.tmp 2,false,[.own aD]⟩] 38 cV:=F38.kfn [] Tryz.func38 (aD) [] rfl (by kernel_rfl) (by kernel_rfl) (fun x=>by kernel_rfl) fun x=>by kernel_rfl
def VC:=kw k38
def Zs:FC Tryz.prog:=⟨eH,[],gR,Tryz.f118,[vl [.shr tj]]⟩
noncomputable def ju (s0:fE):Option (fE×Unit):=bif Nat.ble ((0+(List.length s0))*16) lim then some ([]++s0,()) else none
theorem aeY:Zs.Kn [⟨.tmp 2,false,[.own tj]⟩] 118 ju:=Zs.kfn [] Tryz.func118 (tj) [] rfl (by kernel_rfl) (by kernel_rfl) (fun x=>by kernel_rfl) fun x=>by kernel_rfl
def aeZ:=kw aeY
def Zt:FC Tryz.prog:=⟨eH,[Zr],gR,Tryz.f119,[va HF]⟩
noncomputable def n7 (zr zt yx AB AD:Int) (xr:aH):Option (nf):=Option.bind (dh xr) fun y1=>some (zr,zt,yx,AB,AD,y1.1,())
theorem ae0:Zt.Kn [⟨.cell 2,true,Qw⟩] 119 n7:=Zt.nL Tryz.func119 fun x=>by kernel_rfl
def ae1:=kw ae0
def F83:FC Tryz.prog:=⟨eH,[PE,VC,Zr,aeZ,ae1],gR,Tryz.f83,[va Lw]⟩
noncomputable def kE (ki jQ:Int) (gn:aH) (gT:aj) (fo:aH) (ic:fE) (lx ly lA lB fv fw fx fy fA:Int) (dX:aH):Option (bV):=Option.bind (bw jQ gn) fun y1=>Option.bind (cV gT) fun y2=>Option.bind (dh fo) fun y3=>Option.bind (ju ic) fun y4=>Option.bind (n7 fv fw fx fy fA dX) fun y5=>some (ki,y1.1,y1.2.1,y2.1,y3.1,y4.1,lx,ly,lA,lB,y5)
theorem k83:F83.Kn [⟨.cell 2,true,Lx⟩] 83 kE:=F83.nL Tryz.func83 fun x=>by kernel_rfl
def K83:=kw k83
def F40:FC Tryz.prog:=⟨eH,[VC],gR,Tryz.f40,[va HG]⟩
noncomputable def kr (Iw EM EN:Int) (CU:aj):Option (cB):=Option.bind (cV CU) fun y1=>some (Iw,EM,EN,y1.1,())
theorem k40:F40.Kn [⟨.cell 2,true,It⟩] 40 kr:=F40.nL Tryz.func40 fun x=>by kernel_rfl
def RQ:=kw k40
def VD:FC Tryz.prog:=⟨eH,[RQ],gR,Tryz.f84,[vl yw]⟩
noncomputable def mm (eA t6:af) (t7 t8:Int):Option (Sum U53 (Sum (af×Unit) Unit)):=bif decide (t8<t7) then bif decide (0≤t8) then Option.bind ((t6)[t8.toNat]?) fun r1=>Option.bind (kr r1.1 r1.2.1 r1.2.2.1 r1.2.2.2.1) fun y2=>bif Nat.ble (((List.length eA)+1)*48) lim then some (.inl (eA++[(y2.1,y2.2.1,y2.2.2.1,y2.2.2.2.1,())],t6,t7,i64.wrap (t8+1),())) else none else none else some (.inr (.inl (eA,())))
noncomputable def eY (x:U53):Option (Sum U53 (Sum (af×Unit) Unit)):=mm x.1 x.2.1 x.2.2.1 x.2.2.2.1
def Zu:LD:=⟨0,VD.lp 0,sp [(3,vl zo),(2,vl yw),(0,vl [.int .i64]),(0,vl [.int .i64])] 11,sp [(3,vl zo)] 16,sp [] 20,eY⟩
theorem Zv:VD.Ok Zu:=VD.mY fun x=>by kernel_rfl
def Zw:VD.KL:=⟨_,Zv⟩
noncomputable def lY (bc:af):Option (af×Unit):=cT (aG eY ([],bc,(bc.length:Int),0,())) (fun y1=>some (y1.1,())) (fun y2=>none)
theorem k84:VD.Kn [⟨.tmp 2,false,zo⟩] 84 lY:=VD.kf [Zw] Tryz.func84 (by kernel_rfl) (by kernel_rfl) fun x=>by kernel_rfl
def K84:=kw k84
def Zx:FC Tryz.prog:=⟨eH,[PE,Zr],gR,Tryz.f120,[va Xm]⟩
noncomputable def rM (ae2 ae3:Int) (ae4:aH) (ae5 ae6 ae7:Int) (ae8:ByteArray) (ae9:aH):Option (bX):=Option.bind (bw ae3 ae4) fun y1=>Option.bind (dh ae9) fun y2=>some (ae2,y1.1,y1.2.1,ae5,ae6,ae7,ae8,y2.1,())
theorem afa:Zx.Kn [⟨.cell 2,true,Xn⟩] 120 rM:=Zx.nL Tryz.func120 fun x=>by kernel_rfl
def afb:=kw afa
def VE:FC Tryz.prog:=⟨eH,[afb],gR,Tryz.f85,[vl JT]⟩
noncomputable def qk (eA t6:ai) (t7 t8:Int):Option (Sum U54 (Sum (ai×Unit) Unit)):=bif decide (t8<t7) then bif decide (0≤t8) then Option.bind ((t6)[t8.toNat]?) fun r1=>Option.bind (rM r1.1 r1.2.1 r1.2.2.1 r1.2.2.2.1 r1.2.2.2.2.1 r1.2.2.2.2.2.1 r1.2.2.2.2.2.2.1 r1.2.2.2.2.2.2.2.1) fun y2=>bif Nat.ble (((List.length eA)+1)*104) lim then some (.inl (eA++[(y2.1,y2.2.1,y2.2.2.1,y2.2.2.2.1,y2.2.2.2.2.1,y2.2.2.2.2.2.1,y2.2.2.2.2.2.2.1,y2.2.2.2.2.2.2.2.1,())],t6,t7,i64.wrap (t8+1),())) else none else none else some (.inr (.inl (eA,())))
noncomputable def iQ (x:U54):Option (Sum U54 (Sum (ai×Unit) Unit)):=qk x.1 x.2.1 x.2.2.1 x.2.2.2.1
def Zy:LD:=⟨0,VE.lp 0,sp [(3,vl EJ),(2,vl JT),(0,vl [.int .i64]),(0,vl [.int .i64])] 11,sp [(3,vl EJ)] 16,sp [] 20,iQ⟩
theorem Zz:VE.Ok Zy:=VE.mY fun x=>by kernel_rfl
def ZA:VE.KL:=⟨_,Zz⟩
noncomputable def qL (ZB:ai):Option (ai×Unit):=cT (aG iQ ([],ZB,(ZB.length:Int),0,())) (fun y1=>some (y1.1,())) (fun y2=>none)
theorem k85:VE.Kn [⟨.tmp 2,false,EJ⟩] 85 qL:=VE.kf [ZA] Tryz.func85 (by kernel_rfl) (by kernel_rfl) fun x=>by kernel_rfl
def K85:=kw k85
def F37:FC Tryz.prog:=⟨eH,[K83,PE,K84,K85],gR,Tryz.f37,[va FK]⟩
noncomputable def kt (ca:Int) (dm:Bool) (dg cG:Int) (cR:aH) (aw:aj) (cW:aH) (cX:fE) (du dv bN bG bO bP bQ bR bS:Int) (bD:aH) (bm aZ aP:Int) (aN:aH) (ba:af) (bq:ai):Option (ae):=Option.bind (kE dg cG cR aw cW cX du dv bN bG bO bP bQ bR bS bD) fun y1=>Option.bind (bw aP aN) fun y2=>Option.bind (lY ba) fun y3=>Option.bind (qL bq) fun y4=>some (ca,dm,y1.1,y1.2.1,y1.2.2.1,y1.2.2.2.1,y1.2.2.2.2.1,y1.2.2.2.2.2.1,y1.2.2.2.2.2.2.1,y1.2.2.2.2.2.2.2.1,y1.2.2.2.2.2.2.2.2.1,y1.2.2.2.2.2.2.2.2.2.1,y1.2.2.2.2.2.2.2.2.2.2.1,y1.2.2.2.2.2.2.2.2.2.2.2.1,y1.2.2.2.2.2.2.2.2.2.2.2.2.1,y1.2.2.2.2.2.2.2.2.2.2.2.2.2.1,y1.2.2.2.2.2.2.2.2.2.2.2.2.2.2.1,y1.2.2.2.2.2.2.2.2.2.2.2.2.2.2.2.1,bm,aZ,y2.1,y2.2.1,y3.1,y4.1,())
theorem k37:F37.Kn [⟨.cell 2,true,Iu⟩] 37 kt:=F37.nL Tryz.func37 fun x=>by kernel_rfl
def K37:=kw k37
def wv:FC Tryz.prog:=⟨eH,[PE],dr 3 (.a 0 (.a 1 (.a 2 (.a 3 (.t 4 (.a 5 (.a 6 (.a 7 (.a 8 (.t 9 (.t 11 (.o 10 (.a 12 (.o 13 (.l 14 (.a 15 (.a 16 (.l 17 .nil)))))))))))))))))),Tryz.f88,[.box true S0,vl [.shr aD]]⟩
noncomputable def mn (ca:Int) (dm:Bool) (dg cG:Int) (cR:aH) (aw:aj) (cW:aH) (cX:fE) (du dv bN bG bO bP bQ bR bS:Int) (bD:aH) (bm aZ aP:Int) (aN:aH) (ba:af) (bq:ai) (t6:aj) (t7 t8:Int):Option (Sum U55 (Sum ae Unit)):=bif decide (t8<t7) then bif decide (0≤t8) then Option.bind ((t6)[t8.toNat]?) fun r1=>Option.bind (bw cG cR) fun y2=>bif Nat.ble (((List.length bq)+1)*104) lim then some (.inl (ca,dm,dg,cG,cR,aw,cW,cX,du,dv,bN,bG,bO,bP,bQ,bR,bS,bD,bm,aZ,aP,aN,ba,bq++([(1,y2.1,y2.2.1,r1.1,r1.2.1,r1.2.2.1,r1.2.2.2.1,[],())]),t6,t7,i64.wrap (t8+1),())) else none else none else some (.inr (.inl (ca,dm,dg,cG,cR,aw,cW,cX,du,dv,bN,bG,bO,bP,bQ,bR,bS,bD,bm,aZ,aP,aN,ba,bq,())))
noncomputable def eZ (x:U55):Option (Sum U55 (Sum ae Unit)):=mn x.1 x.2.1 x.2.2.1 x.2.2.2.1 x.2.2.2.2.1 x.2.2.2.2.2.1 x.2.2.2.2.2.2.1 x.2.2.2.2.2.2.2.1 x.2.2.2.2.2.2.2.2.1 x.2.2.2.2.2.2.2.2.2.1 x.2.2.2.2.2.2.2.2.2.2.1 x.2.2.2.2.2.2.2.2.2.2.2.1 x.2.2.2.2.2.2.2.2.2.2.2.2.1 x.2.2.2.2.2.2.2.2.2.2.2.2.2.1 x.2.2.2.2.2.2.2.2.2.2.2.2.2.2.1 x.2.2.2.2.2.2.2.2.2.2.2.2.2.2.2.1 x.2.2.2.2.2.2.2.2.2.2.2.2.2.2.2.2.1 x.2.2.2.2.2.2.2.2.2.2.2.2.2.2.2.2.2.1 x.2.2.2.2.2.2.2.2.2.2.2.2.2.2.2.2.2.2.1 x.2.2.2.2.2.2.2.2.2.2.2.2.2.2.2.2.2.2.2.1 x.2.2.2.2.2.2.2.2.2.2.2.2.2.2.2.2.2.2.2.2.1 x.2.2.2.2.2.2.2.2.2.2.2.2.2.2.2.2.2.2.2.2.2.1 x.2.2.2.2.2.2.2.2.2.2.2.2.2.2.2.2.2.2.2.2.2.2.1 x.2.2.2.2.2.2.2.2.2.2.2.2.2.2.2.2.2.2.2.2.2.2.2.1 x.2.2.2.2.2.2.2.2.2.2.2.2.2.2.2.2.2.2.2.2.2.2.2.2.1 x.2.2.2.2.2.2.2.2.2.2.2.2.2.2.2.2.2.2.2.2.2.2.2.2.2.1 x.2.2.2.2.2.2.2.2.2.2.2.2.2.2.2.2.2.2.2.2.2.2.2.2.2.2.1
def LZ:LD:=⟨0,wv.lp 0,sp [(0,.box true S0),(5,vl [.shr aD]),(0,vl [.int .i64]),(0,vl [.int .i64])] 22,sp [(0,.box true S0)] 30,sp [] 31,eZ⟩
theorem L0:wv.Ok LZ:=wv.mY fun x=>by kernel_rfl
def L1:wv.KL:=⟨_,L0⟩
noncomputable def ik (ca:Int) (dm:Bool) (dg cG:Int) (cR:aH) (aw:aj) (cW:aH) (cX:fE) (du dv bN bG bO bP bQ bR bS:Int) (bD:aH) (bm aZ aP:Int) (aN:aH) (ba:af) (bq:ai) (Oq:aj):Option (ae):=cT (aG eZ (ca,dm,dg,cG,cR,aw,cW,cX,du,dv,bN,bG,bO,bP,bQ,bR,bS,bD,bm,aZ,aP,aN,ba,bq,Oq,(Oq.length:Int),0,())) (fun y1=>some y1) (fun y2=>none)
theorem QC:wv.Kn [] 88 ik:=wv.kf [L1] Tryz.func88 (by kernel_rfl) (by kernel_rfl) fun x=>by kernel_rfl
def QD:=kv (.pick [4,21,22],.shr,.shr) QC
def L2:FC Tryz.prog:=⟨eH,[Zn],gR,Tryz.f121,[va vd,vl yw,vl [.int .i64]]⟩
noncomputable def pa (qd jr:Int) (iG:aH) (EO EP ER:Int) (ES:aj) (t10:af) (t11 t12:Int):Option (Sum U56 (Sum cB U7)):=bif decide (t12<t11) then bif decide (0≤t12) then Option.bind ((t10)[t12.toNat]?) fun r1=>bif decide (r1.1=qd) then bif decide (r1.2.1=jr) then Option.bind (kC r1.1 r1.2.1 r1.2.2.1 r1.2.2.2.1) fun y2=>bif y2.1 then some (.inr (.inr (r1.1,r1.2.1,r1.2.2.1,r1.2.2.2.1,true,()))) else some (.inl (qd,jr,iG,EO,EP,ER,ES,t10,t11,i64.wrap (t12+1),())) else some (.inl (qd,jr,iG,EO,EP,ER,ES,t10,t11,i64.wrap (t12+1),())) else some (.inl (qd,jr,iG,EO,EP,ER,ES,t10,t11,i64.wrap (t12+1),())) else none else some (.inr (.inl (EO,EP,ER,ES,())))
noncomputable def il (x:U56):Option (Sum U56 (Sum cB U7)):=pa x.1 x.2.1 x.2.2.1 x.2.2.2.1 x.2.2.2.2.1 x.2.2.2.2.2.1 x.2.2.2.2.2.2.1 x.2.2.2.2.2.2.2.1 x.2.2.2.2.2.2.2.2.1 x.2.2.2.2.2.2.2.2.2.1
def T5:LD:=⟨0,L2.lp 0,sp [(2,vl [.int .i64]),(0,.box false vd),(2,.box false It),(3,vl yw),(0,vl [.int .i64]),(0,vl [.int .i64])] 22,sp [(6,.box false It)] 28,sp [(6,.box false HG),(0,vl [.bool])] 27,il⟩
theorem T6:L2.Ok T5:=L2.mY fun x=>by kernel_rfl
def T7:L2.KL:=⟨_,T6⟩
noncomputable def jk (bj:Int) (bl:aH) (cf:af) (qd:Int):Option (U7):=cT (aG il (qd,bj,bl,0,0,0,[],cf,(cf.length:Int),0,())) (fun y1=>some (0,0,0,[],false,())) (fun y2=>some y2)
theorem afc:L2.Kn [⟨.cell 6,true,HG⟩,⟨.tmp 7,false,[.bool]⟩] 121 jk:=L2.kf [T7] Tryz.func121 (by kernel_rfl) (by kernel_rfl) fun x=>by kernel_rfl
def ZC:=kw afc
def VF:FC Tryz.prog:=⟨eH,[ZC,RH],gR,Tryz.f87,[va vd,vl yw,vl [.int .i64]]⟩
noncomputable def lI (cf:af) (qd jr:Int) (iG:aH) (zu zv vR:Int) (zw:aj) (sI t24:aH) (t25 t26:Int):Option (Sum U57 (Sum (aH×Unit) Unit)):=bif decide (t26<t25) then bif decide (0≤t26) then Option.bind ((t24)[t26.toNat]?) fun r2=>Option.bind (jk jr iG cf r2.1) fun y3=>bif y3.2.2.2.2.1 then Option.bind (cI sI r2.1) fun y4=>bif !y4.1 then bif decide (r2.1=qd) then bif Nat.ble (((List.length sI)+1)*8) lim then some (.inl (cf,qd,jr,iG,zu,zv,vR,zw,sI++[(r2.1,())],t24,t25,i64.wrap (t26+1),())) else none else bif decide (0<vR) then bif decide (y3.2.2.1=vR) then bif Nat.ble (((List.length sI)+1)*8) lim then some (.inl (cf,qd,jr,iG,zu,zv,vR,zw,sI++[(r2.1,())],t24,t25,i64.wrap (t26+1),())) else none else some (.inl (cf,qd,jr,iG,zu,zv,vR,zw,sI,t24,t25,i64.wrap (t26+1),())) else some (.inl (cf,qd,jr,iG,zu,zv,vR,zw,sI,t24,t25,i64.wrap (t26+1),())) else some (.inl (cf,qd,jr,iG,zu,zv,vR,zw,sI,t24,t25,i64.wrap (t26+1),())) else some (.inl (cf,qd,jr,iG,zu,zv,vR,zw,sI,t24,t25,i64.wrap (t26+1),())) else none else some (.inr (.inl (sI,())))
noncomputable def eF (x:U57):Option (Sum U57 (Sum (aH×Unit) Unit)):=lI x.1 x.2.1 x.2.2.1 x.2.2.2.1 x.2.2.2.2.1 x.2.2.2.2.2.1 x.2.2.2.2.2.2.1 x.2.2.2.2.2.2.2.1 x.2.2.2.2.2.2.2.2.1 x.2.2.2.2.2.2.2.2.2.1 x.2.2.2.2.2.2.2.2.2.2.1 x.2.2.2.2.2.2.2.2.2.2.2.1
def ZD:LD:=⟨0,VF.lp 0,sp [(1,vl yw),(0,vl [.int .i64]),(0,.box false vd),(3,.box false HG),(1,vl [.own fX]),(14,vl [.shr fX]),(0,vl [.int .i64]),(0,vl [.int .i64])] 41,sp [(9,vl [.own fX])] 58,sp [] 68,eF⟩
theorem ZE:VF.Ok ZD:=VF.mY fun x=>by kernel_rfl
def ZF:VF.KL:=⟨_,ZE⟩
noncomputable def gz (bj:Int) (bl:aH) (cf:af) (qd:Int):Option (aH×Unit):=Option.bind (jk bj bl cf qd) fun y1=>bif !y1.2.2.2.2.1 then some ([],()) else cT (aG eF (cf,qd,bj,bl,y1.1,y1.2.1,y1.2.2.1,y1.2.2.2.1,[],bl,(bl.length:Int),0,())) (fun y2=>some (y2.1,())) (fun y3=>none)
theorem k87:VF.Kn [⟨.tmp 6,false,[.own fX]⟩] 87 gz:=VF.kf [ZF] Tryz.func87 (by kernel_rfl) (by kernel_rfl) fun x=>by kernel_rfl
def K87:=kw k87
set_option maxHeartbeats 4000000 in
set_option maxRecDepth 100000 in
theorem L3 (b off n c i vb qM vc:Nat) (cs vs:List Value) (w:World) (hi:i<n) (sY:n+1≤c) (akT:n≤140737488355328) (hvb:vb≠b)
  (oz:cs.length=n*4) (u7:vs.length=4)
  (uZ:∀j v,cs[j]?=some v→w.cell? ⟨b,off+j,none⟩=some v) (sR:∀j,j<(n+1)*4→(w.cell? ⟨b,off+j,none⟩).isSome=true) (hfz:∀j,j<(n+1)*4→w.frozen? ⟨b,off+j,none⟩=false)
  (vm:∀j v,vs[j]?=some v→w.cell? ⟨vb,qM+j,none⟩=some v) (h1c:∀v∈cs,v.oneCell'=true) (T8:∀v∈vs,v.oneCell'=true)
  (tA tB:TypeId) (kA kB:Nat) (hsa:w.shape? vb=some (tA,kA)) (hsb:w.shape? b=some (tB,kB)) (hkB:kB≠0) (Wu:w.frozen? ⟨vb,qM,none⟩=false) (hfe:w.frozen? ⟨vb,kA,none⟩=false) :
  Calls Tryz.prog 133 #[.slice (some ⟨b,off,none⟩) n c,.int .i64 i,.slice (some ⟨vb,qM,none⟩) 1 vc] w fun e w'=>
   e=.returned (.slice (some ⟨b,off,none⟩) (n+1) c)∧w'=(w.drew.setCells b (off+(i+1)*4) (cs.drop (i*4))).setCells b (off+i*4) vs:=by
 have mixed:Tryz.prog.follows .mixedOrders=true:=by kernel_rfl
 have Qc:¬((i:Int)=(n:Int)):=by omega
 have kg:(Tryz.prog.info? 78).map (·.size)=some 4:=by kernel_rfl
 have hov:∀lb cb,(callFunc 134 #[.slice (some ⟨vb,qM,none⟩) 1 vc,.slice (some ⟨b,off+(i+1)*4,none⟩) lb cb]).run Tryz.prog w=.ok (.value (.bool false)) w:=fun lb cb=>by
  rw [run_callFunc_extern Tryz.func134 (by kernel_rfl) (by kernel_rfl) (by kernel_rfl) (e:=Extern.SlicesOverlaps.overlaps #[38,38] #[4]) (by kernel_rfl),
   Lib.run_overlaps_apart w 38 4 78 Tryz.underlying38 4 Tryz.sizeOf78 ⟨vb,qM,none⟩ ⟨b,off+(i+1)*4,none⟩ 1 vc lb cb hvb tA tB kA kB hsa hsb hkB Wu hfe]
  rfl
 have hdl:(cs.drop (i*4)).length=(n-i)*4:=by rw [List.length_drop,oz];omega
 have hw1:IntKind.i64.wrap ((i:Int)+(1:Int))=(i:Int)+(1:Int):=by rw [IntKind.wrap_i64];omega
 have MF:(0:Int)≤(i:Int)+(1:Int):=by omega
 have zR:i≤n:=by omega
 have htn:((i:Int)+(1:Int)).toNat=i+1:=by omega
 have H6:¬(c=i+1):=by omega
 have hb3:(i:Int)≤(n:Int)+(1:Int):=by omega
 have hb4:¬(c=i):=by omega
 have ZG:∀ty dc sc,(Builtin.copy_ #[38,38] ty #[.slice (some ⟨b,off+(i+1)*4,none⟩) (n-i) dc,.slice (some ⟨b,off+i*4,none⟩) (n+1-i) sc]).run Tryz.prog w.drew=.ok (goInt (Nat.min (n+1-i) (n-i))) (w.drew.setCells b (off+(i+1)*4) (cs.drop (i*4))):=fun ty dc sc=>
  po w.drew _ _ ty 78 4 b (off+(i+1)*4) (n-i) dc ⟨b,off+i*4,none⟩ (n+1-i) sc (cs.drop (i*4)) Tryz.underlying38 kg (by rw [hdl];simp only [Nat.min_def];split<;>omega)
   (fun j v hj=>by rw [Addr.add_lit,Nat.add_assoc];exact uZ (i*4+j) v (by rwa [List.getElem?_drop] at hj))
   (fun j hj=>by rw [Nat.add_assoc];exact sR _ (by omega)) (fun j hj=>by rw [Nat.add_assoc];exact hfz _ (by omega)) (fun v hv=>h1c v (List.mem_of_mem_drop hv))
 obtain ⟨W1,MJ⟩:∃W1,W1=w.drew.setCells b (off+(i+1)*4) (cs.drop (i*4)):=⟨_,rfl⟩;have aff:∀k,k<(n+1)*4→(W1.cell? ⟨b,off+k,none⟩).isSome=true:=fun k hk=>by
  rw [MJ];exact isSome_setCells b _ _ _ (fun j hj=>by rw [Nat.add_assoc];exact sR _ (by omega)) _ (sR k hk)
 have afg:∀(W:World),(∀x,W.cell? x=W1.cell? x)→(∀x,W.frozen? x=W1.frozen? x)→∀ty dc,(Builtin.copy_ #[38,38] ty #[.slice (some ⟨b,off+i*4,none⟩) (n+1-i) dc,.slice (some ⟨vb,qM,none⟩) 1 vc]).run Tryz.prog W=.ok (goInt (Nat.min 1 (n+1-i))) (W.setCells b (off+i*4) vs):=fun W RR ZH ty dc=>
  po W _ _ ty 78 4 b (off+i*4) (n+1-i) dc ⟨vb,qM,none⟩ 1 vc vs Tryz.underlying38 kg (by rw [u7];simp only [Nat.min_def];split<;>omega)
   (fun j v hj=>by
    rw [Addr.add_lit,RR,MJ,World.cell?_setCells_out b _ _ _ _ (fun h _=>absurd h hvb)];exact vm j v hj)
   (fun j hj=>by rw [RR,Nat.add_assoc];exact aff _ (by omega)) (fun j hj=>by rw [ZH,MJ,World.frozen?_setCells,Nat.add_assoc];exact hfz _ (by omega)) T8
 rw [←MJ] at ZG
 go_enter Tryz.func133,Tryz.ntmps133
 go_wp2_with (simp only [hov])
 go_region_law_o (refine step_copy_runI rfl _ _ 38 38 rfl _ _ (by simp [Act.eval,Act.put]) (by simp [Act.eval,Act.put]) (ZG _ _ _) ?_)
 go_wp2_with (at_builtin;refine wpList_copy_runI _ rfl _ _ 38 38 rfl _ _ rfl rfl (afg _ (fun _=>rfl) (fun _=>rfl) _ _) ?_)
 go_ret
 first | exact ⟨rfl,rfl⟩ | exact ⟨rfl,by rw [MJ]⟩
set_option maxHeartbeats 4000000 in
set_option maxRecDepth 100000 in
theorem Ot (b off n c i vb qM vc:Nat) (cs vs:List Value) (w:World) (hi:i<n) (hnc:n≤c) (sY:c<n+1) (Aw:(n+1)*40≤140737488355328)
  (oz:cs.length=n*4) (u7:vs.length=4)
  (uZ:∀j v,cs[j]?=some v→w.cell? ⟨b,off+j,none⟩=some v)
  (vm:∀j v,vs[j]?=some v→w.cell? ⟨vb,qM+j,none⟩=some v) (h1c:∀v∈cs,v.oneCell'=true) (T8:∀v∈vs,v.oneCell'=true) :
  ∃(wJ:Array Value) (G:Nat),n+1≤G∧wJ.size=G*4∧(∀(j:Nat) (v:Value),(cs.take (i*4))[j]?=some v→wJ[j]?=some v)∧
  Calls Tryz.prog 133 #[.slice (some ⟨b,off,none⟩) n c,.int .i64 i,.slice (some ⟨vb,qM,none⟩) 1 vc] w fun e w'=>
   e=.returned (.slice (some ⟨w.heap.size,0,none⟩) (n+1) G)∧
   w'=(((w.alloc (.cells wJ 78)).drew.setCells w.heap.size (i*4) vs).drew).setCells w.heap.size ((i+1)*4) (cs.drop (i*4)):=by
 have mixed:Tryz.prog.follows .mixedOrders=true:=by kernel_rfl
 obtain ⟨i0,Sk,Px,WT,hzb⟩:∃i0,Tryz.prog.info? 78=some i0∧i0.zero=some (Value.agg #[Value.int .i64 0,Value.int .i64 0,Value.int .i64 0,Value.string ⟨#[]⟩])∧i0.size=4∧i0.bytes=40:=⟨_,rfl,by kernel_rfl,by kernel_rfl,by kernel_rfl⟩;have Qc:¬((i:Int)=(n:Int)):=by omega
 have hz3:(c:Int)<(n:Int)+(1:Int):=by omega
 have kg:(Tryz.prog.info? 78).map (·.size)=some 4:=by rw [Sk];simp [WT]
 have WU:b<w.heap.size:=block_lt_of_cell (uZ 0 _ (List.getElem?_eq_getElem (by omega)));have yZ:vb<w.heap.size:=block_lt_of_cell (vm 0 _ (List.getElem?_eq_getElem (by omega)));have Pz:(n:Int)+(1:Int)-(i:Int)=((n+1-i:Nat):Int):=by omega
 have Wy:i+(n+1-i)=n+1:=by omega
 have hold:(Builtin.firstCells i0.size i (.slice (some ⟨b,off,none⟩) i c)).run Tryz.prog w.drew=.ok (cs.take (i*4)).toArray w.drew:=by
  rw [WT];exact run_firstCells_some w.drew 4 i ⟨b,off,none⟩ i c (cs.take (i*4)) (by rw [List.length_take];omega) (fun j v hj=>by
   rw [Addr.add_lit];rw [List.getElem?_take] at hj
   split at hj
   ·exact uZ j v hj
   ·cases hj)
 have hrz:∀ty,(Builtin.append_ #[38,3] ty #[.slice (some ⟨b,off,none⟩) i c,.int .i64 ((n:Int)+(1:Int)-(i:Int))]).run Tryz.prog w=
   .ok (.slice (some ⟨w.heap.size,0,none⟩) (n+1) (grownCap w (n+1) c 78)) (w.drew.alloc (.cells ((cs.take (i*4)).toArray++Builtin.zeroCells (Value.agg #[Value.int .i64 0,Value.int .i64 0,Value.int .i64 0,Value.string ⟨#[]⟩]).cells (n+1-i)++Builtin.zeroCells (Value.agg #[Value.int .i64 0,Value.int .i64 0,Value.int .i64 0,Value.string ⟨#[]⟩]).cells (grownCap w (n+1) c 78-(n+1))) 78)):=fun ty=>by
  have h:=Lib.run_append_grow_zeros w 38 3 ty 78 i0 _ .i64 .i64 Tryz.underlying38 Tryz.underlying3 Sk Px (some ⟨b,off,none⟩) i c (cs.take (i*4)) hold (n+1-i) (by omega) (by omega) (by omega) (by omega) (by rw [hzb];omega) (by rw [hzb,Wy];exact growslice_fits sY Aw);rw [Wy] at h;rw [Pz];exact h
 obtain ⟨G,hG⟩:∃G,G=grownCap w (n+1) c 78:=⟨_,rfl⟩;obtain ⟨wJ,QE⟩:∃wJ:Array Value,wJ=(cs.take (i*4)).toArray++Builtin.zeroCells (Value.agg #[Value.int .i64 0,Value.int .i64 0,Value.int .i64 0,Value.string ⟨#[]⟩]).cells (n+1-i)++Builtin.zeroCells (Value.agg #[Value.int .i64 0,Value.int .i64 0,Value.int .i64 0,Value.string ⟨#[]⟩]).cells (G-(n+1)):=⟨_,rfl⟩;rw [←hG] at hrz;rw [←QE] at hrz;have hGn:n+1≤G:=by rw [hG];exact grownCap_ge w _ _ _
 have hRs:wJ.size=G*4:=by
  rw [QE];simp [Builtin.zeroCells,Value.cells];omega
 have hRl:(n+1)*4≤wJ.size:=by omega
 have hRt:∀(j:Nat) (v:Value),(cs.take (i*4))[j]?=some v→wJ[j]?=some v:=fun j v hj=>by
  have dG:j<(cs.take (i*4)).length:=(List.getElem?_eq_some_iff.1 hj).1;rw [QE,Array.append_assoc,Array.getElem?_append_left (by simpa using dG)];simpa using hj
 refine ⟨wJ,G,hGn,hRs,hRt,?_⟩;obtain ⟨W1,MJ⟩:∃W1,W1=w.drew.alloc (.cells wJ 78):=⟨_,rfl⟩;rw [←MJ] at hrz;have hN:∀j,j<(n+1)*4→(W1.cell? ⟨w.heap.size,j,none⟩).isSome=true:=fun j hj=>by
  rw [MJ,World.cell?_alloc_at (w:=w.drew) wJ _ w.heap.size j rfl,Array.getElem?_eq_getElem (by omega)];rfl
 have hNf:∀j,W1.frozen? ⟨w.heap.size,j,none⟩=false:=fun j=>by rw [MJ];exact World.frozen?_alloc_at (w:=w.drew) wJ _ w.heap.size j rfl
 have hOb:∀j v,w.cell? ⟨b,j,none⟩=some v→W1.cell? ⟨b,j,none⟩=some v:=fun j v h=>by rw [MJ,World.cell?_alloc_past (w:=w.drew) _ b j WU];exact h
 have hOv:∀j v,w.cell? ⟨vb,j,none⟩=some v→W1.cell? ⟨vb,j,none⟩=some v:=fun j v h=>by rw [MJ,World.cell?_alloc_past (w:=w.drew) _ vb j yZ];exact h
 have afi:∀(W:World),(∀x,W.cell? x=W1.cell? x)→(∀x,W.frozen? x=W1.frozen? x)→∀ty dc,(Builtin.copy_ #[38,38] ty #[.slice (some ⟨w.heap.size,i*4,none⟩) (n+1-i) dc,.slice (some ⟨vb,qM,none⟩) 1 vc]).run Tryz.prog W=.ok (goInt (Nat.min 1 (n+1-i))) (W.setCells w.heap.size (i*4) vs):=fun W RR ZH ty dc=>
  po W _ _ ty 78 4 w.heap.size (i*4) (n+1-i) dc ⟨vb,qM,none⟩ 1 vc vs Tryz.underlying38 kg (by rw [u7];simp only [Nat.min_def];split<;>omega)
   (fun j v hj=>by rw [Addr.add_lit,RR];exact hOv _ v (vm j v hj))
   (fun j hj=>by rw [RR];exact hN _ (by omega)) (fun j hj=>by rw [ZH];exact hNf _) T8
 have ak6:G≤9223372036854775807:=by
  have:=grownCap_le_maxLen w (n+1) c 78 (by unfold maxLen;omega);rw [←hG] at this;unfold maxLen at this;omega
 have hGi:¬(G=i):=by omega
 have ak7:¬(G=i+1):=by omega
 have hci:¬(c=i):=by omega
 have hbN:b≠w.heap.size:=by omega
 have hdl:(cs.drop (i*4)).length=(n-i)*4:=by rw [List.length_drop,oz];omega
 have ZI:∀(W:World),(∀x,W.cell? x=(W1.setCells w.heap.size (i*4) vs).cell? x)→(∀x,W.frozen? x=(W1.setCells w.heap.size (i*4) vs).frozen? x)→∀ty dc sc,(Builtin.copy_ #[38,38] ty #[.slice (some ⟨w.heap.size,(i+1)*4,none⟩) (n-i) dc,.slice (some ⟨b,off+i*4,none⟩) (n-i) sc]).run Tryz.prog W=.ok (goInt (Nat.min (n-i) (n-i))) (W.setCells w.heap.size ((i+1)*4) (cs.drop (i*4))):=fun W RR ZH ty dc sc=>
  po W _ _ ty 78 4 w.heap.size ((i+1)*4) (n-i) dc ⟨b,off+i*4,none⟩ (n-i) sc (cs.drop (i*4)) Tryz.underlying38 kg (by rw [hdl];simp only [Nat.min_def];split<;>omega)
   (fun j v hj=>by
    rw [Addr.add_lit,RR,World.cell?_setCells_out _ _ _ _ _ (fun h _=>absurd h hbN),Nat.add_assoc];exact hOb _ v (uZ (i*4+j) v (by rwa [List.getElem?_drop] at hj)))
   (fun j hj=>by rw [RR];exact isSome_setCells _ _ _ _ (fun t ht=>hN _ (by omega)) _ (hN _ (by omega)))
   (fun j hj=>by rw [ZH,World.frozen?_setCells];exact hNf _) (fun v hv=>h1c v (List.mem_of_mem_drop hv))
 subst MJ;have hE1:∀x,((w.alloc (.cells wJ 78)).drew).cell? x=(w.drew.alloc (.cells wJ 78)).cell? x:=fun x=>rfl
 have hE2:∀x,((w.alloc (.cells wJ 78)).drew).frozen? x=(w.drew.alloc (.cells wJ 78)).frozen? x:=fun x=>rfl
 have hF1:∀x,(((w.alloc (.cells wJ 78)).drew.setCells w.heap.size (i*4) vs).drew).cell? x=((w.drew.alloc (.cells wJ 78)).setCells w.heap.size (i*4) vs).cell? x:=fun x=>rfl
 have hF2:∀x,(((w.alloc (.cells wJ 78)).drew.setCells w.heap.size (i*4) vs).drew).frozen? x=((w.drew.alloc (.cells wJ 78)).setCells w.heap.size (i*4) vs).frozen? x:=fun x=>rfl
 have hw1:IntKind.i64.wrap ((i:Int)+(1:Int))=(i:Int)+(1:Int):=by rw [IntKind.wrap_i64];omega
 have MF:(0:Int)≤(i:Int)+(1:Int):=by omega
 have zR:i≤n:=by omega
 have htn:((i:Int)+(1:Int)).toNat=i+1:=by omega
 have hb3:(i:Int)≤(n:Int):=by omega
 clear Pz Wy hold QE hG hRl Sk Px WT hzb hRt
 go_enter Tryz.func133,Tryz.ntmps133
 go_wp2_with (first
  |(at_builtin;refine Lib.wpList_append_run _ rfl _ _ _ _ rfl _ _ rfl rfl _ _ (hrz _) ?_)
  |(at_builtin;refine wpList_copy_runI _ rfl _ _ 38 38 rfl _ _ rfl rfl (afi _ hE1 hE2 _ _) ?_)
  |(at_builtin;refine wpList_copy_runI _ rfl _ _ 38 38 rfl _ _ rfl rfl (ZI _ (fun _=>rfl) (fun _=>rfl) _ _ _) ?_))
 go_region_law_o (refine step_copy_runI rfl _ _ 38 38 rfl (.slice (some ⟨w.heap.size,(i+1)*4,none⟩) (n-i) (G-(i+1))) (.slice (some ⟨b,off+i*4,none⟩) (n-i) (c-i)) (by simp [Act.eval,Act.put]) (by simp [Act.eval,Act.put]) (ZI _ hF1 hF2 3 (G-(i+1)) (c-i)) ?_)
 go_wp2
 go_ret
 exact ⟨rfl,rfl⟩
set_option maxHeartbeats 4000000 in
set_option maxRecDepth 100000 in
theorem QF (base:Option Addr) (n c vb qM vc:Nat) (w w':World) (v:Value) (hnc:n≤c) (N7:base=none→n=0∧c=0)
  (qD:(Builtin.append_ #[38,38] 38 #[.slice base n c,.slice (some ⟨vb,qM,none⟩) 1 vc]).run Tryz.prog w=.ok v w') :
  Calls Tryz.prog 133 #[.slice base n c,.int .i64 n,.slice (some ⟨vb,qM,none⟩) 1 vc] w fun e Wg=>e=.returned v∧Wg=w':=by
 have mixed:Tryz.prog.follows .mixedOrders=true:=by kernel_rfl
 go_enter Tryz.func133,Tryz.ntmps133
 cases base with
 |none=>
  obtain ⟨h0,h1⟩:=N7 rfl;subst h0 h1
  go_wp2_with (at_builtin;refine Lib.wpList_append_run _ rfl _ _ _ _ rfl _ _ rfl rfl _ _ qD ?_)
  go_ret
  exact ⟨rfl,rfl⟩
 |some a=>
  obtain ⟨ab,ao,asp⟩:=a
  go_wp2_with (at_builtin;refine Lib.wpList_append_run _ rfl _ _ _ _ rfl _ _ rfl rfl _ _ qD ?_)
  all_goals (go_ret;exact ⟨rfl,rfl⟩)
def G6 (s:List nd) (i:Int) (v:List nd):Option ((List nd)×Unit):=
 bif decide (0≤i)&&(decide (i≤((List.length s:Nat):Int))&&(Nat.beq v.length 1&&Nat.ble ((s.length+1)*40) lim)) then some (s.take i.toNat++(v++s.drop i.toNat),()) else none
theorem C2 {T:lf} (hT:fQ Tryz.prog T) (hE:T.elem 38=some (aD,40)) {c:Cz} {w:World} {mu:Mu} (hH:Handed c w mu) {s x:List (ar aD)} {i:Nat} {v0 v2:Value} {l0 l2:Loc}
  (h0:OwnAt c w (.cH 0 0) l0 { r:=aD,own:=true,xs:=s } v0) (h2:OwnAt c w (.cH 2 0) l2 { r:=aD,own:=true,xs:=x } v2) (hi:i≤s.length) (hx:x.length=1) (hb:(s.length+1)*40≤lim) :
  Calls Tryz.prog 133 #[v0,.int .i64 i,v2] w fun e w'=>∃v,e=.returned v∧∃c',K0 w mu c' w'∧bo c' w' .gO 0 [.own { r:=aD,own:=true,xs:=s.take i++(x++s.drop i) }] [v]:=by
 obtain ⟨q1,q2,_,q4⟩:=h2;have PS:(s.length+1)*40≤140737488355328:=by unfold lim at hb;omega
 cases l2 with
 |nil=>
  have q4:x=[]:=q4;rw [q4] at hx;simp at hx
 |«at» vb qM afj=>
 obtain ⟨g1,g2,⟨ZJ,vty,g3,g4⟩,g5⟩:=q4;obtain ⟨va,vc,rfl,k1,k2,k3⟩:=q2;have k1:x.length≤vc:=k1;have ha:=k3 (by omega);have ha:va=⟨vb,qM,none⟩:=ha.trans (by rw [Nat.zero_mul];rfl);subst ha;have uM:({ r:=aD,own:=true,xs:=x }:gM).xs.length=1:=hx;rw [uM];obtain ⟨vs,hvr,vm⟩:=nr vb qM x ((bF.sh rfl).1 g5);have u7:vs.length=4:=by
  have:=bI.length vs x vm;rw [hx] at this;exact this
 have T8:=bI.jq vs x vm;have hvm:mu.m vb:=(hH.m vb).2 ⟨_,g1,rfl⟩;obtain ⟨p1,p2,_,p4⟩:=h0;have Ax:RT.width aD=4:=rfl
 by_cases zR:i=s.length
 ·-- at Hy end
  subst zR;have sX:s.take s.length++(x++s.drop s.length)=s++x:=by rw [List.take_length,List.drop_length,List.append_nil]
  rw [sX];have fin:∀(base:Option Addr) (n cc:Nat) (us:List Value) (xb:Option Nat),v0=.slice base n cc→n=s.length→n≤cc→(base=none→n=0∧cc=0)→(∀b,xb=some b→mu.m b)→bI w c.ok aD us s→
    ((xb=none∧v0=.slice none 0 0∧s.length=0)∨∃b off lo cap n ad cur te,xb=some b∧v0=.slice (some ad) s.length n∧s.length≤n∧lo+n≤cap∧(n≠0→ad=⟨b,off+lo*aD.width,none⟩)∧
     w.heap[b]?=some (.cells cur te (0,0))∧off+cap*aD.width≤cur.size∧w.rangeAt b (off+lo*aD.width) us)→
    Calls Tryz.prog 133 #[v0,.int .i64 s.length,.slice (some ⟨vb,qM,none⟩) 1 vc] w fun e w'=>∃v,e=.returned v∧∃c',K0 w mu c' w'∧bo c' w' .gO 0 [.own { r:=aD,own:=true,xs:=s++x }] [v]:=by
   intro base n cc us xb e0 en afl N7 FG Dk KI;obtain ⟨v,w',qD,ri,yT⟩:=tR (P:=Tryz.prog) hT (t:=38) (ty:=38) hE (nx:=s.length) (ny:=1) (vx:=us) (vy:=vs) (uy:=.slice (some ⟨vb,qM,none⟩) 1 vc) hb (bI.length us s Dk) (by rw [u7,Ax]) T8
    (.inr ⟨by omega,_,_,rfl,fun j v hj=>by rw [Addr.add_mid];exact hvr j v hj⟩) KI
   subst en;rw [e0] at qD ⊢;have Aa:=QF base _ cc vb qM vc w w' v afl N7 qD;refine Aa.mono fun e Wg ⟨he,hw⟩ => ?_
   subst he;subst hw;refine ⟨v,rfl,?_⟩;rcases yT with ⟨_,e2,_,_⟩ | ⟨B,o,cp,cur,te,v1,v2,hle,hg,kg,hr,pY,hB⟩
   ·cases e2
   ·exact xo hH (hB.imp id (FG B)) pY ri v1 (by rw [List.length_append,hx];exact v2) (by rw [List.length_append,hx];exact hle) hg kg hr (bI.append us vs s x Dk vm)
  cases l0 with
  |nil=>
   have p4:s=[]:=p4;obtain ⟨rfl,_⟩:=p2;subst p4;exact fin none 0 0 [] none rfl rfl (by omega) (fun _=>⟨rfl,rfl⟩) (fun b h=>by cases h) rfl (.inl ⟨rfl,rfl,rfl⟩)
  |«at» b off cap=>
   obtain ⟨f1,f2,⟨cur,te,f3,f4⟩,f5⟩:=p4;obtain ⟨a,cc,rfl,m1,m2,m3⟩:=p2;obtain ⟨us,ZK,Dk⟩:=nr b off s ((bF.sh rfl).1 f5);have m1:s.length≤cc:=m1;have m2:cc≤cap:=by omega
   exact fin (some a) s.length cc us (some b) rfl rfl m1 (fun h=>by cases h) (fun b' h=>by cases h;exact (hH.m b).2 ⟨_,f1,rfl⟩) Dk (.inr ⟨b,off,0,cap,cc,a,cur,te,rfl,rfl,m1,by omega,m3,f3,f4,by rw [Nat.zero_mul,Nat.add_zero];exact ZK⟩)
 ·-- in Hy middle
  have dG:i<s.length:=by omega
  cases l0 with
  |nil=>
   have p4:s=[]:=p4;rw [p4] at dG;simp at dG
  |«at» b off cap=>
   obtain ⟨f1,f2,⟨cur,te,f3,f4⟩,f5⟩:=p4;obtain ⟨a,cc,rfl,m1,m2,m3⟩:=p2;have m1:s.length≤cc:=m1;have m2:cc≤cap:=by omega
   have ha:=m3 (by omega);have ha:a=⟨b,off,none⟩:=ha.trans (by rw [Nat.zero_mul];rfl);subst ha;obtain ⟨us,ZK,Dk⟩:=nr b off s ((bF.sh rfl).1 f5);have CP:us.length=s.length*4:=bI.length us s Dk;have h1u:=bI.jq us s Dk;have hbm:mu.m b:=(hH.m b).2 ⟨_,f1,rfl⟩;have gr:vb≠b:=by
    rintro rfl
    rw [f1] at g1
    cases g1
   have f4:off+cap*4≤cur.size:=f4;have g4:qM+afj*4≤ZJ.size:=g4;obtain ⟨ct,cd⟩:=bI.cut i us s Dk;have wN:bI w c.ok aD (us.take (i*4)++(vs++us.drop (i*4))) (s.take i++(x++s.drop i)):=bI.append _ _ _ _ ct (bI.append _ _ _ _ vm cd);have hlen:(s.take i++(x++s.drop i)).length=s.length+1:=by
    rw [List.length_append,List.length_append,List.length_take,List.length_drop,hx];omega
   have htl:(us.take (i*4)).length=i*4:=by rw [List.length_take,CP];omega
   have hdl:(us.drop (i*4)).length=(s.length-i)*4:=by rw [List.length_drop,CP];omega
   have Sx:({ r:=aD,own:=true,xs:=s }:gM).xs.length=s.length:=rfl;rw [Sx]
   have fin:∀(X:World) (B o:Nat),(∀j v,(us.take (i*4))[j]?=some v→X.cell? ⟨B,o+j,none⟩=some v)→(∀j v,vs[j]?=some v→X.cell? ⟨B,o+i*4+j,none⟩=some v)→
     (∀j v,(us.drop (i*4))[j]?=some v→X.cell? ⟨B,o+(i+1)*4+j,none⟩=some v)→X.rangeAt B o (us.take (i*4)++(vs++us.drop (i*4))):=by
    intro X B o e1 e2 e3 q v hq;rw [List.getElem?_append] at hq
    by_cases q1:q<(us.take (i*4)).length
    ·rw [if_pos q1] at hq;exact e1 q v hq
    ·rw [if_neg q1,htl,List.getElem?_append] at hq;rw [htl] at q1
     by_cases q2:q-i*4<vs.length
     ·rw [if_pos q2] at hq;have:=e2 _ v hq
      rwa [show o+i*4+(q-i*4)=o+q by omega] at this
     ·rw [if_neg q2,u7] at hq;rw [u7] at q2;have:=e3 _ v hq
      rwa [show o+(i+1)*4+(q-i*4-4)=o+q by omega] at this
   have Ou:∀k,k<cap*4→(w.cell? ⟨b,off+k,none⟩).isSome=true:=fun k hk=>by
    rw [cell_of_row w b _ cur te (0,0) f3,Array.getElem?_eq_getElem (by omega)];rfl
   have hxl:x.length=1:=hx
   by_cases sY:s.length+1≤cc
   ·have Aa:=L3 b off s.length cc i vb qM vc us vs w dG sY (by omega) gr CP u7 (fun j v hj=>ZK j v hj) (fun j hj=>Ou j (by omega)) (fun j hj=>by unfold World.frozen?;simp [f3])
     (fun j v hj=>hvr j v hj) h1u T8 vty te ZJ.size cur.size (by unfold World.shape?;simp [g3]) (by unfold World.shape?;simp [f3]) (by omega) (by unfold World.frozen?;simp [g3]) (by unfold World.frozen?;simp [g3])
    refine Aa.mono fun e w' ⟨he,hw⟩ => ?_
    subst he;subst hw;refine ⟨_,rfl,?_⟩;obtain ⟨c1,h1,s1⟩:=mJ (us.drop (i*4)) (off+(i+1)*4) (w:=w.drew) f3;obtain ⟨c2,h2,s2⟩:=mJ vs (off+i*4) h1;obtain ⟨t1,t2,t3⟩:=DO w.drew b (off+(i+1)*4) (us.drop (i*4)) (off+i*4) vs (fun j hj=>by rw [Nat.add_assoc];exact Ou _ (by omega)) (fun j hj=>by rw [Nat.add_assoc];exact Ou _ (by omega)) (.inr (by omega));have yS:=mK (b:=b) (us.drop (i*4)) (off+(i+1)*4) w.drew;have yM:=mK (b:=b) vs (off+i*4) (w.drew.setCells b (off+(i+1)*4) (us.drop (i*4)));have Ov:(w.drew.setCells b (off+(i+1)*4) (us.drop (i*4))).heap.size=w.heap.size:=yS.2.2.2;refine xo (B:=b) (o:=off) (cp:=cc) (vs:=us.take (i*4)++(vs++us.drop (i*4))) hH (.inr hbm) (fun k hk SU => ?_) ⟨yM.1.trans yS.1,yM.2.1.trans yS.2.1,yM.2.2.1.trans yS.2.2.1,by rw [yM.2.2.2,Ov];exact Nat.le_refl _⟩ rfl
     (by rw [hlen];exact ⟨_,cc,rfl,sY,by omega,fun _=>by rw [Nat.zero_mul];rfl⟩) (by rw [hlen];exact sY) h2 (by rw [s2,s1];show off+cc*4≤cur.size;omega)
     (fin _ _ _ (fun j v hj => ?_) t2 t1) wN
    ·rw [World.heap_setCells_other _ _ _ _ (by rw [Ov];exact hk) SU,World.heap_setCells_other w.drew _ _ _ hk SU];rfl
    ·have hjl:j<i*4:=by rw [←htl];exact (List.getElem?_eq_some_iff.1 hj).1
     rw [t3 _ (.inl (by omega)) (.inl (by omega))];rw [List.getElem?_take,if_pos hjl] at hj;exact ZK j v hj
   ·obtain ⟨wJ,G,r1,r2,r3,Aa⟩:=Ot b off s.length cc i vb qM vc us vs w dG m1 (by omega) PS CP u7 (fun j v hj=>ZK j v hj) (fun j v hj=>hvr j v hj) h1u T8;refine Aa.mono fun e w' ⟨he,hw⟩ => ?_
    rw [drew_setCells] at hw;subst he;subst hw;refine ⟨_,rfl,?_⟩;have sX:=heap_alloc_new w (.cells wJ 78 (0,0));have Ow:∀k,k<G*4→((w.alloc (.cells wJ 78)).drew.drew.cell? ⟨w.heap.size,k,none⟩)=wJ[k]?:=fun k hk=>cell_of_row _ _ _ wJ 78 (0,0) sX
    obtain ⟨c1,h1,s1⟩:=mJ vs (i*4) (w:=(w.alloc (.cells wJ 78)).drew.drew) sX;obtain ⟨c2,h2,s2⟩:=mJ (us.drop (i*4)) ((i+1)*4) h1;obtain ⟨t1,t2,t3⟩:=DO (w.alloc (.cells wJ 78)).drew.drew w.heap.size (i*4) vs ((i+1)*4) (us.drop (i*4)) (fun j hj=>by rw [Ow _ (by omega),Array.getElem?_eq_getElem (by omega)];rfl) (fun j hj=>by rw [Ow _ (by omega),Array.getElem?_eq_getElem (by omega)];rfl) (.inl (by omega));have yS:=mK (b:=w.heap.size) vs (i*4) (w.alloc (.cells wJ 78)).drew.drew;have yM:=mK (b:=w.heap.size) (us.drop (i*4)) ((i+1)*4) ((w.alloc (.cells wJ 78)).drew.drew.setCells w.heap.size (i*4) vs);have hsa:(w.alloc (.cells wJ 78)).drew.drew.heap.size=w.heap.size+1:=Array.size_push ..;have Ov:((w.alloc (.cells wJ 78)).drew.drew.setCells w.heap.size (i*4) vs).heap.size=w.heap.size+1:=yS.2.2.2.trans hsa;refine xo (B:=w.heap.size) (o:=0) (cp:=G) (vs:=us.take (i*4)++(vs++us.drop (i*4))) hH (.inl (Nat.le_refl _)) (fun k hk SU => ?_) ⟨yM.1.trans yS.1,yM.2.1.trans yS.2.1,yM.2.2.1.trans yS.2.2.1,by rw [yM.2.2.2,Ov];omega⟩ rfl
     (by rw [hlen];exact ⟨_,G,rfl,r1,by omega,fun _=>by rw [Nat.zero_mul]⟩) (by rw [hlen];exact r1) h2 (by rw [s2,s1,r2];show 0+G*4≤G*4;omega)
     (fin _ _ _ (fun j v hj => ?_) (fun j v hj=>by rw [Nat.zero_add];exact t1 j v hj) (fun j v hj=>by rw [Nat.zero_add];exact t2 j v hj)) wN
    ·rw [World.heap_setCells_other _ _ _ _ (by rw [Ov];omega) SU,World.heap_setCells_other (w.alloc (.cells wJ 78)).drew.drew _ _ _ (by rw [hsa];omega) SU];show (w.alloc _).heap[k]?=w.heap[k]?
     first | exact heap_alloc_old w _ k hk | exact heap_alloc_old w _ hk
    ·have hjl:j<i*4:=by rw [←htl];exact (List.getElem?_eq_some_iff.1 hj).1
     rw [Nat.zero_add,t3 j (.inl hjl) (.inl (by omega)),Ow _ (by omega)];exact r3 j v hj
theorem G7 {T:lf} (hT:fQ Tryz.prog T) (hE:T.elem 38=some (aD,40)) {c:Cz} {w:World} {mu:Mu} (hH:Handed c w mu) {s x:List (ar aD)} {i:Int} {v0 v2:Value} {l0 l2:Loc} {y:(List nd)×Unit}
  (h0:OwnAt c w (.cH 0 0) l0 { r:=aD,own:=true,xs:=s } v0) (h2:OwnAt c w (.cH 2 0) l2 { r:=aD,own:=true,xs:=x } v2) (ht:G6 s i x=some y) :
  Calls Tryz.prog 133 #[v0,.int .i64 i,v2] w fun e w'=>∃v,e=.returned v∧∃c',K0 w mu c' w'∧bo c' w' .gO 0 [.own { r:=aD,own:=true,xs:=y.1 }] [v]:=by
 unfold G6 at ht;obtain ⟨hc,ht2⟩:=aJ ht;injection ht2 with ht2;subst ht2;simp only [Bool.and_eq_true,decide_eq_true_eq] at hc;obtain ⟨c1,c2,c3,c4⟩:=hc;have hi:((i.toNat:Nat):Int)=i:=Int.toNat_of_nonneg c1;have P2:i.toNat≤s.length:=Int.ofNat_le.1 (by rw [hi];exact c2);have:=C2 hT hE hH (s:=s) (x:=x) (i:=i.toNat) h0 h2 P2 (Nat.eq_of_beq_eq_true c3) (Nat.le_of_ble_eq_true c4);rw [hi] at this;exact this
theorem Fe {T:lf} (hT:fQ Tryz.prog T) (hE:T.elem 38=some (aD,40)):th Tryz.prog 133 (qw [.val false [.own aD],.val false [.int .i64],.val false [.own aD]] [{ src:=.tmp 0,agg:=false,ps:=[.own aD] }] (fun x=>G6 x.1 x.2.1 x.2.2.1)):=by
 refine Ir rfl rfl ⟨_,Tryz.func133,rfl,rfl⟩ (fun c w mu args x y hH hn hold ht => ?_);obtain ⟨s,i,v,u⟩:=x;have hn:3=args.size:=hn;obtain ⟨v0,e0,h0⟩:=hold 0 _ rfl;obtain ⟨v1,e1,h1⟩:=hold 1 _ rfl;obtain ⟨v2,e2,h2⟩:=hold 2 _ rfl;have ha:args = #[v0,v1,v2]:=by
  apply Array.toList_inj.1;have hl:args.toList.length=3:=by rw [Array.length_toList];exact hn.symm
  match hq:args.toList,hl with
  | [a,b,d],_=>
   rw [hq] at e0 e1 e2;simp only [List.getElem?_cons_zero,List.getElem?_cons_succ,Option.some.injEq] at e0 e1 e2;rw [e0,e1,e2]
 subst ha;obtain ⟨z0,l0,Px,⟨lc0,o0⟩,_⟩:=h0;injection Px with Px _;subst Px;obtain ⟨l1,Qb,_⟩:=h1;injection Qb with Qb _;subst Qb;obtain ⟨z2,l2,Qc,⟨lc2,o2⟩,_⟩:=h2;injection Qc with Qc _;subst Qc;exact G7 hT hE hH o0 o2 ht
noncomputable def Ox:wE:=qw [vl [.own aD],vl [.int .i64],vl [.own aD]] [{ src:=.tmp 0,agg:=false,ps:=[.own aD] }] (fun x=>G6 x.1 x.2.1 x.2.2.1)
theorem afo:th Tryz.prog 133 Ox:=Fe (sE Rm) (by kernel_rfl)
def afp:KF Tryz.prog:=⟨133,(.own,.shr,.own),Ox,afo⟩
def L4:FC Tryz.prog:=⟨eH,[afp],dr 2 (.a 0 (.a 1 (.a 2 (.a 3 (.a 4 (.a 5 (.a 6 (.a 7 (.a 8 (.t 9 (.a 10 (.t 11 (.a 12 (.a 13 .nil)))))))))))))) (dr 4 (.a 0 (.a 1 (.a 2 (.a 3 (.a 4 (.a 5 (.a 6 (.a 7 (.a 8 (.t 9 (.a 10 (.t 11 (.a 12 (.a 13 .nil))))))))))))))),Tryz.f131,[vl [.own aD],va CJ]⟩
noncomputable def ql (bc:aj) (yy CY CZ:Int) (C0:ByteArray) (IT:Int):Option (Sum Xk (Sum Xk Unit)):=bif decide (IT<(bc.length:Int)) then bif decide (0≤IT) then bif Nat.blt (IT.toNat) (List.length bc) then Option.bind ((bc)[IT.toNat]?) fun r1=>bif decide (r1.1<yy) then some (.inl (bc,yy,CY,CZ,C0,i64.wrap (IT+1),())) else some (.inr (.inl (bc,yy,CY,CZ,C0,IT,()))) else none else none else some (.inr (.inl (bc,yy,CY,CZ,C0,IT,())))
noncomputable def iR (x:Xk):Option (Sum Xk (Sum Xk Unit)):=ql x.1 x.2.1 x.2.2.1 x.2.2.2.1 x.2.2.2.2.1 x.2.2.2.2.2.1
def T9:LD:=⟨0,L4.lp 0,sp [(0,vl [.own aD]),(2,.box false CJ),(1,vl [.int .i64])] 37,sp [(0,vl [.own aD]),(2,.box false CJ),(1,vl [.int .i64])] 37,sp [] 43,iR⟩
theorem Ua:L4.Ok T9:=L4.mY fun x=>by kernel_rfl
def Ub:L4.KL:=⟨_,Ua⟩
noncomputable def qN (bc:aj) (IA IB IC:Int) (ID:ByteArray):Option (aj×Unit):=cT (aG iR (bc,IA,IB,IC,ID,0,())) (fun y1=>bif decide (y1.2.2.2.2.2.1<(y1.1.length:Int)) then bif decide (0≤y1.2.2.2.2.2.1) then bif Nat.blt (y1.2.2.2.2.2.1.toNat) (List.length y1.1) then Option.bind ((y1.1)[y1.2.2.2.2.2.1.toNat]?) fun r3=>bif decide (r3.1=y1.2.1) then some (y1.1,()) else Option.bind (G6 y1.1 y1.2.2.2.2.2.1 [(y1.2.1,y1.2.2.1,y1.2.2.2.1,y1.2.2.2.2.1,())]) fun y4=>some (y4.1,()) else none else none else Option.bind (G6 y1.1 y1.2.2.2.2.2.1 [(y1.2.1,y1.2.2.1,y1.2.2.2.1,y1.2.2.2.2.1,())]) fun y5=>some (y5.1,())) (fun y2=>none)
theorem afq:L4.Kn [⟨.tmp 4,false,[.own aD]⟩] 131 qN:=L4.kf [Ub] Tryz.func131 (by kernel_rfl) (by kernel_rfl) fun x=>by kernel_rfl
def afr:=kv (.own,.shr,.shr) afq
def C3:FC Tryz.prog:=⟨Og,[TS,afr],gR,Tryz.f123,[vl GU]⟩
noncomputable def sJ (eA:aj) (t8:fu) (t9 t10:Int) (t17:aj) (t18 t19:Int):Option (Sum U59 (Sum Xl Unit)):=bif decide (t19<t18) then bif decide (0≤t19) then Option.bind ((t17)[t19.toNat]?) fun r3=>Option.bind (qN eA r3.1 r3.2.1 r3.2.2.1 r3.2.2.2.1) fun y4=>some (.inl (y4.1,t8,t9,t10,t17,t18,i64.wrap (t19+1),())) else none else some (.inr (.inl (eA,t8,t9,t10,())))
noncomputable def kF (x:U59):Option (Sum U59 (Sum Xl Unit)):=sJ x.1 x.2.1 x.2.2.1 x.2.2.2.1 x.2.2.2.2.1 x.2.2.2.2.2.1 x.2.2.2.2.2.2.1
def Uc:LD:=⟨2,EG (C3.lp 0) 0,sp [(3,vl [.own aD]),(4,vl GU),(0,vl [.int .i64]),(0,vl [.int .i64]),(6,vl [.shr aD]),(0,vl [.int .i64]),(0,vl [.int .i64])] 10,sp [(3,vl [.own aD]),(4,vl GU),(0,vl [.int .i64]),(0,vl [.int .i64])] 19,sp [] 30,kF⟩
theorem Ud:C3.Ok Uc:=C3.mY fun x=>by kernel_rfl
def Ue:C3.KL:=⟨_,Ud⟩
noncomputable def sK (eA:aj) (t8:fu) (t9 t10:Int):Option (Sum Xl (Sum (aj×Unit) Unit)):=bif decide (t10<t9) then bif decide (0≤t10) then Option.bind ((t8)[t10.toNat]?) fun r1=>Option.bind (jc r1.1) fun y2=>bif !y2.1 then some (.inl (eA,t8,t9,i64.wrap (t10+1),())) else cT (aG kF (eA,t8,t9,t10,r1.1,(r1.1.length:Int),0,())) (fun y5=>some (.inl (y5.1,y5.2.1,y5.2.2.1,i64.wrap (y5.2.2.2.1+1),()))) (fun y6=>some (.inr (.inr (())))) else none else some (.inr (.inl (eA,())))
noncomputable def kG (x:Xl):Option (Sum Xl (Sum (aj×Unit) Unit)):=sK x.1 x.2.1 x.2.2.1 x.2.2.2.1
def Uf:LD:=⟨0,C3.lp 0,sp [(3,vl [.own aD]),(4,vl GU),(0,vl [.int .i64]),(0,vl [.int .i64])] 19,sp [(3,vl [.own aD])] 26,sp [] 30,kG⟩
theorem Ug:C3.Ok Uf:=C3.kl [Ue] (by kernel_rfl) (by kernel_rfl) fun x=>by kernel_rfl
def Uh:C3.KL:=⟨_,Ug⟩
noncomputable def uj (nX:fu):Option (aj×Unit):=cT (aG kG ([],nX,(nX.length:Int),0,())) (fun y1=>some (y1.1,())) (fun y2=>none)
theorem afs:C3.Kn [⟨.tmp 2,false,[.own aD]⟩] 123 uj:=C3.kf [Uh] Tryz.func123 (by kernel_rfl) (by kernel_rfl) fun x=>by kernel_rfl
def aft:=kw afs
def L5:FC Tryz.prog:=⟨eH,[Zc],gR,Tryz.f122,[vl [.shr aD]]⟩
noncomputable def sL (IS:Int) (QG t9:aj) (t10 t11:Int):Option (Sum Ve (Sum (aj×Unit) Unit)):=bif decide (t11<t10) then bif decide (0≤t11) then Option.bind ((t9)[t11.toNat]?) fun r2=>bif decide (r2.1≤IS) then bif Nat.ble (((List.length QG)+1)*40) lim then some (.inl (IS,QG++[(r2.1,r2.2.1,r2.2.2.1,r2.2.2.2.1,())],t9,t10,i64.wrap (t11+1),())) else none else some (.inl (IS,QG,t9,t10,i64.wrap (t11+1),())) else none else some (.inr (.inl (QG,())))
noncomputable def kH (x:Ve):Option (Sum Ve (Sum (aj×Unit) Unit)):=sL x.1 x.2.1 x.2.2.1 x.2.2.2.1 x.2.2.2.2.1
def Ui:LD:=⟨0,L5.lp 0,sp [(3,vl [.int .i64]),(0,vl [.own aD]),(4,vl [.shr aD]),(0,vl [.int .i64]),(0,vl [.int .i64])] 14,sp [(4,vl [.own aD])] 21,sp [] 26,kH⟩
theorem Uj:L5.Ok Ui:=L5.mY fun x=>by kernel_rfl
def Uk:L5.KL:=⟨_,Uj⟩
noncomputable def uk (bc:aj):Option (aj×Unit):=Option.bind (ni bc) fun y1=>cT (aG kH (y1.1,[],bc,(bc.length:Int),0,())) (fun y2=>some (y2.1,())) (fun y3=>none)
theorem afu:L5.Kn [⟨.tmp 2,false,[.own aD]⟩] 122 uk:=L5.kf [Uk] Tryz.func122 (by kernel_rfl) (by kernel_rfl) fun x=>by kernel_rfl
def afv:=kw afu
def PF:FC Tryz.prog:=⟨Og,[ZC,K87,aft,afv],gR,Tryz.f89,[va vd,vl yw,vl [.int .i64],vl [.int .i64]]⟩
noncomputable def um (cf:af) (jG EU:Int) (EV:aH) (Ff:fu) (t36:aH) (t37 t38:Int):Option (Sum U62 (Sum (Int×fu×Unit) Unit)):=bif decide (t38<t37) then bif decide (0≤t38) then bif Nat.blt (t38.toNat) (List.length t36) then Option.bind ((t36)[t38.toNat]?) fun r3=>Option.bind (jk EU EV cf r3.1) fun y4=>bif Nat.ble (((List.length Ff)+1)*24) lim then some (.inl (cf,jG,EU,EV,Ff++[(y4.2.2.2.1,())],t36,t37,i64.wrap (t38+1),())) else none else none else none else some (.inr (.inl (jG,Ff,())))
noncomputable def lZ (x:U62):Option (Sum U62 (Sum (Int×fu×Unit) Unit)):=um x.1 x.2.1 x.2.2.1 x.2.2.2.1 x.2.2.2.2.1 x.2.2.2.2.2.1 x.2.2.2.2.2.2.1 x.2.2.2.2.2.2.2.1
def ZL:LD:=⟨0,PF.lp 0,sp [(1,vl yw),(1,vl [.int .i64]),(0,.box false vd),(6,vl Qx),(24,vl [.own fX]),(0,vl [.int .i64]),(0,vl [.int .i64])] 35,sp [(3,vl [.int .i64]),(7,vl Qx)] 62,sp [] 74,lZ⟩
theorem ZM:PF.Ok ZL:=PF.mY fun x=>by kernel_rfl
def ZN:PF.KL:=⟨_,ZM⟩
noncomputable def uo (jG:Int) (JZ t57:aj) (t58 t59:Int):Option (Sum Ve (Sum (aj×Unit) Unit)):=bif decide (t59<t58) then bif decide (0≤t59) then bif Nat.blt (t59.toNat) (List.length t57) then Option.bind ((t57)[t59.toNat]?) fun r9=>bif decide (jG<r9.1) then bif Nat.ble (((List.length JZ)+1)*40) lim then some (.inl (jG,JZ++[(r9.1,r9.2.1,r9.2.2.1,r9.2.2.2.1,())],t57,t58,i64.wrap (t59+1),())) else none else some (.inl (jG,JZ,t57,t58,i64.wrap (t59+1),())) else none else none else some (.inr (.inl (JZ,())))
noncomputable def l9 (x:Ve):Option (Sum Ve (Sum (aj×Unit) Unit)):=uo x.1 x.2.1 x.2.2.1 x.2.2.2.1 x.2.2.2.2.1
def ZO:LD:=⟨2,PF.lp 1,sp [(3,vl [.int .i64]),(12,vl [.own aD]),(40,vl [.own aD]),(0,vl [.int .i64]),(0,vl [.int .i64])] 14,sp [(16,vl [.own aD])] 57,sp [] 74,l9⟩
theorem ZP:PF.Ok ZO:=PF.mY fun x=>by kernel_rfl
def ZQ:PF.KL:=⟨_,ZP⟩
noncomputable def qX (bj:Int) (bl:aH) (cf:af) (qd jG:Int):Option (aj×Unit):=Option.bind (jk bj bl cf qd) fun y1=>bif !y1.2.2.2.2.1 then some ([],()) else bif decide (y1.2.2.1=0) then some ([],()) else Option.bind (gz bj bl cf qd) fun y2=>cT (aG lZ (cf,jG,bj,bl,[],y2.1,(y2.1.length:Int),0,())) (fun y3=>Option.bind (uj y3.2.1) fun y5=>Option.bind (uk y5.1) fun y6=>cT (aG l9 (y3.1,[],y6.1,(y6.1.length:Int),0,())) (fun y7=>some (y7.1,())) (fun y8=>none)) (fun y4=>none)
theorem k89:PF.Kn [⟨.tmp 8,false,[.own aD]⟩] 89 qX:=PF.kf [ZN,ZQ] Tryz.func89 (by kernel_rfl) (by kernel_rfl) fun x=>by kernel_rfl
def K89:=kw k89
def F90:FC Tryz.prog:=⟨eH,[RH,TO,PE],gR,Tryz.f90,[vl [.int .i64],va vd]⟩
noncomputable def hC (Rs fB:Int) (eB:aH):Option (U8):=Option.bind (cI eB Rs) fun y1=>bif !y1.1 then some (0,0,[],[],[],[],0,0,0,0,0,0,0,0,0,[],false,()) else Option.bind (fZ fB eB) fun y2=>bif !y2.1 then some (0,0,[],[],[],[],0,0,0,0,0,0,0,0,0,[],false,()) else Option.bind (bw fB eB) fun y3=>some (Rs,y3.1,y3.2.1,[],[],[],0,0,0,0,0,0,0,0,0,[],true,())
theorem k90:F90.Kn [⟨.cell 4,true,Lx⟩,⟨.tmp 5,false,[.bool]⟩] 90 hC:=F90.nL Tryz.func90 fun x=>by kernel_rfl
def K90:=kw k90
def ZR:FC Tryz.prog:=⟨eH,[K87,PE,K89,QD,Zr,K90],dr 0 (.a 0 (.a 1 (.a 2 (.a 3 (.t 4 (.a 5 (.a 6 (.a 7 (.alt (.o 8 (.alt (.o 9 (.o 10 (.l 11 (.l 12 .nil)))) (.o 10 (.o 9 (.l 11 (.l 12 .nil)))))) (.alt (.o 9 (.alt (.o 8 (.o 10 (.l 11 (.l 12 .nil)))) (.o 10 (.alt (.o 8 (.l 11 (.l 12 .nil))) (.l 11 (.t 8 (.l 12 .nil))))))) (.o 10 (.alt (.o 8 (.o 9 (.l 11 (.l 12 .nil)))) (.o 9 (.alt (.o 8 (.l 11 (.l 12 .nil))) (.l 11 (.t 8 (.l 12 .nil))))))))))))))))) (dr 2 (.t 0 (.a 1 (.a 2 (.a 3 (.t 4 (.a 5 (.a 6 (.a 7 (.t 8 (.o 9 (.a 10 .nil))))))))))) (dr 3 (.a 0 (.a 1 (.a 2 (.a 3 (.t 4 (.t 5 (.a 7 (.o 6 (.a 8 (.o 9 (.l 10 (.a 11 (.a 12 (.l 13 .nil)))))))))))))) (dr 4 (.a 0 (.t 1 (.a 2 (.a 3 (.a 4 (.t 5 (.a 6 (.a 7 (.a 8 (.t 9 (.a 10 (.a 11 (.a 12 (.a 13 (.t 14 (.o 15 (.l 16 .nil))))))))))))))))) (dr 5 (.a 0 (.a 1 (.a 2 (.a 3 (.t 4 (.t 5 (.a 7 (.t 8 (.o 6 (.o 9 (.a 10 (.o 11 (.l 12 (.a 13 (.a 14 (.l 15 .nil)))))))))))))))) (dr 6 (.a 0 (.a 1 (.a 2 (.t 3 (.t 4 (.alt (.o 5 (.a 6 (.a 7 (.a 8 (.o 9 (.l 10 (.a 11 .nil))))))) (.o 9 (.o 5 (.a 6 (.a 7 (.a 8 (.l 10 (.a 11 .nil))))))))))))) (dr 7 (.a 0 (.a 1 (.a 2 (.a 3 (.t 4 (.a 5 (.a 6 (.a 7 (.a 8 (.a 10 (.alt (.o 9 (.l 11 (.a 12 (.l 13 .nil)))) (.l 11 (.t 9 (.a 12 (.l 13 .nil))))))))))))))) (dr 8 (.a 0 (.a 1 (.t 2 (.a 3 (.a 5 (.a 6 (.alt (.o 4 (.l 7 (.a 8 (.a 9 (.l 10 .nil))))) (.l 7 (.t 4 (.a 8 (.a 9 (.l 10 .nil))))))))))))))))))),Tryz.f41,[.box true Qy]⟩
noncomputable def de (ca:Int) (dm:Bool) (dg cG:Int) (cR:aH) (aw:aj) (cW:aH) (cX:fE) (du dv bN bG bO bP bQ bR bS:Int) (bD:aH) (bm aZ aP:Int) (aN:aH) (ba:af) (bq:ai):Option (ae):=bif decide (0<aZ) then Option.bind (gz aP aN ba ca) fun y1=>Option.bind (bw cG cR) fun y2=>bif Nat.ble (((List.length bq)+1)*104) lim then Option.bind (qX aP aN ba ca bG) fun y3=>Option.bind (ik ca dm dg cG cR aw cW cX du dv bN bG bO bP bQ bR bS bD bm aZ aP aN ba (bq++[(2,y2.1,y2.2.1,0,0,0,ByteArray.empty,y1.1,())]) y3.1) fun y4=>Option.bind (bw aP aN) fun y5=>Option.bind (dh aN) fun y6=>bif Nat.ble (((List.length y4.2.2.2.2.2.2.2.2.2.2.2.2.2.2.2.2.2.2.2.2.2.2.2.1)+1)*104) lim then Option.bind (hC y4.1 aP aN) fun mo=>some (y4.1,y4.2.1,mo.1,mo.2.1,mo.2.2.1,mo.2.2.2.1,y4.2.2.2.2.2.2.1,y4.2.2.2.2.2.2.2.1,mo.2.2.2.2.2.2.1,mo.2.2.2.2.2.2.2.1,mo.2.2.2.2.2.2.2.2.1,mo.2.2.2.2.2.2.2.2.2.1,mo.2.2.2.2.2.2.2.2.2.2.1,mo.2.2.2.2.2.2.2.2.2.2.2.1,mo.2.2.2.2.2.2.2.2.2.2.2.2.1,mo.2.2.2.2.2.2.2.2.2.2.2.2.2.1,mo.2.2.2.2.2.2.2.2.2.2.2.2.2.2.1,mo.2.2.2.2.2.2.2.2.2.2.2.2.2.2.2.1,y4.2.2.2.2.2.2.2.2.2.2.2.2.2.2.2.2.2.2.1,aP,0,[],[],y4.2.2.2.2.2.2.2.2.2.2.2.2.2.2.2.2.2.2.2.2.2.2.2.1++[(3,y5.1,y5.2.1,0,0,0,ByteArray.empty,y6.1,())],()) else none else none else Option.bind (bw aP aN) fun y8=>Option.bind (dh aN) fun y9=>bif Nat.ble (((List.length bq)+1)*104) lim then Option.bind (hC ca aP aN) fun mq=>some (ca,dm,mq.1,mq.2.1,mq.2.2.1,mq.2.2.2.1,cW,cX,mq.2.2.2.2.2.2.1,mq.2.2.2.2.2.2.2.1,mq.2.2.2.2.2.2.2.2.1,mq.2.2.2.2.2.2.2.2.2.1,mq.2.2.2.2.2.2.2.2.2.2.1,mq.2.2.2.2.2.2.2.2.2.2.2.1,mq.2.2.2.2.2.2.2.2.2.2.2.2.1,mq.2.2.2.2.2.2.2.2.2.2.2.2.2.1,mq.2.2.2.2.2.2.2.2.2.2.2.2.2.2.1,mq.2.2.2.2.2.2.2.2.2.2.2.2.2.2.2.1,bm,aP,0,[],[],bq++[(3,y8.1,y8.2.1,0,0,0,ByteArray.empty,y9.1,())],()) else none
noncomputable def kK (ca:Int) (dm:Bool) (dg cG:Int) (cR:aH) (aw:aj) (cW:aH) (cX:fE) (du dv bN bG bO bP bQ bR bS:Int) (bD:aH) (bm aZ aP:Int) (aN:aH) (ba:af) (bq:ai):Option (ae):=(fun PA:Option (ae)=>both (both (PA) (PA)) (both (both (PA) (both (PA) (PA))) (both (PA) (both (PA) (PA))))) (bif decide (0<aZ) then Option.bind (gz aP aN ba ca) fun y1=>Option.bind (bw cG cR) fun y2=>bif Nat.ble (((List.length bq)+1)*104) lim then Option.bind (qX aP aN ba ca bG) fun y3=>Option.bind (ik ca dm dg cG cR aw cW cX du dv bN bG bO bP bQ bR bS bD bm aZ aP aN ba (bq++[(2,y2.1,y2.2.1,0,0,0,ByteArray.empty,y1.1,())]) y3.1) fun y4=>Option.bind (bw aP aN) fun y5=>Option.bind (dh aN) fun y6=>bif Nat.ble (((List.length y4.2.2.2.2.2.2.2.2.2.2.2.2.2.2.2.2.2.2.2.2.2.2.2.1)+1)*104) lim then (fun S5:(U8)→Option (ae)=>both (Option.bind (hC y4.1 aP aN) fun mo=>S5 mo) (Option.bind (hC y4.1 aP aN) fun mo=>S5 mo)) (fun mo=>(fun RH:Option (ae)=>both (RH) (RH)) ((fun TO:Option (ae)=>both (TO) (TO)) (some (y4.1,y4.2.1,mo.1,mo.2.1,mo.2.2.1,mo.2.2.2.1,y4.2.2.2.2.2.2.1,y4.2.2.2.2.2.2.2.1,mo.2.2.2.2.2.2.1,mo.2.2.2.2.2.2.2.1,mo.2.2.2.2.2.2.2.2.1,mo.2.2.2.2.2.2.2.2.2.1,mo.2.2.2.2.2.2.2.2.2.2.1,mo.2.2.2.2.2.2.2.2.2.2.2.1,mo.2.2.2.2.2.2.2.2.2.2.2.2.1,mo.2.2.2.2.2.2.2.2.2.2.2.2.2.1,mo.2.2.2.2.2.2.2.2.2.2.2.2.2.2.1,mo.2.2.2.2.2.2.2.2.2.2.2.2.2.2.2.1,y4.2.2.2.2.2.2.2.2.2.2.2.2.2.2.2.2.2.2.1,aP,0,[],[],y4.2.2.2.2.2.2.2.2.2.2.2.2.2.2.2.2.2.2.2.2.2.2.2.1++[(3,y5.1,y5.2.1,0,0,0,ByteArray.empty,y6.1,())],())))) else none else none else Option.bind (bw aP aN) fun y8=>Option.bind (dh aN) fun y9=>bif Nat.ble (((List.length bq)+1)*104) lim then (fun K36:(U8)→Option (ae)=>both (Option.bind (hC ca aP aN) fun mq=>K36 mq) (Option.bind (hC ca aP aN) fun mq=>K36 mq)) (fun mq=>(fun K37:Option (ae)=>both (K37) (K37)) ((fun VC:Option (ae)=>both (VC) (VC)) (some (ca,dm,mq.1,mq.2.1,mq.2.2.1,mq.2.2.2.1,cW,cX,mq.2.2.2.2.2.2.1,mq.2.2.2.2.2.2.2.1,mq.2.2.2.2.2.2.2.2.1,mq.2.2.2.2.2.2.2.2.2.1,mq.2.2.2.2.2.2.2.2.2.2.1,mq.2.2.2.2.2.2.2.2.2.2.2.1,mq.2.2.2.2.2.2.2.2.2.2.2.2.1,mq.2.2.2.2.2.2.2.2.2.2.2.2.2.1,mq.2.2.2.2.2.2.2.2.2.2.2.2.2.2.1,mq.2.2.2.2.2.2.2.2.2.2.2.2.2.2.2.1,bm,aP,0,[],[],bq++[(3,y8.1,y8.2.1,0,0,0,ByteArray.empty,y9.1,())],())))) else none)
theorem sM:kK=de:=by delta kK de;simp only [ku]
noncomputable def oC (x:ae):Option (ae):=wq (aE (ZR.ps.map some)) kK x
theorem sN:oC=wq (aE (ZR.ps.map some)) de:=congrArg (wq (aE (ZR.ps.map some))) sM
theorem k41:ZR.Kn [] 41 de:=ZR.kf1 Tryz.func41 (by kernel_rfl) fun x=>Eq.trans (b:=oC x) (by kernel_rfl) (congrFun sN x)
def VG:=kv (.soft [22],.shr,.shr) k41
end
end Go.TM
