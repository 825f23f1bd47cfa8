/- What the functions know of the types, checked against the program. -/
import Derived.Test.YtcjjcfjlnhoaoaaGreatLibWide
import Derived.Test.YtcjjcfjlnhoaoaaGreatProg
namespace Go.TM
open Go Go.RowKit Go.Proofs
abbrev _root_.Prod.q {A B C D E F:Type} (x:A×B×C×D×E×F):F:=x.2.2.2.2.2
abbrev aD:RT:=(.cons (.int .i64) (.cons (.int .i64) (.cons (.int .i64) (.cons .str .nil))))
abbrev nd:Type:=Int×Int×Int×ByteArray×Unit
abbrev aj:Type:=List (nd)
abbrev fX:RT:=(.cons (.int .i64) .nil)
abbrev aH:Type:=List (Int×Unit)
abbrev tj:RT:=(.cons .str .nil)
abbrev fE:Type:=List (ByteArray×Unit)
abbrev cA:RT:=(.cons (.int .i64) (.cons (.int .i64) (.cons (.int .i64) (.cons (.sl aD) .nil))))
abbrev cB:Type:=Int×Int×Int×aj×Unit
abbrev af:Type:=List (cB)
abbrev bA:RT:=(.cons (.int .i64) (.cons (.int .i64) (.cons (.sl fX) (.cons (.int .i64) (.cons (.int .i64) (.cons (.int .i64) (.cons .str (.cons (.sl fX) .nil))))))))
abbrev bX:Type:=Int×Int×aH×Int×Int×Int×ByteArray×aH×Unit
abbrev ai:Type:=List (bX)
abbrev tk:RT:=(.cons (.sl aD) .nil)
abbrev fu:Type:=List (aj×Unit)
abbrev Ob:RT:=(.cons (.int .i64) (.cons (.sl fX) .nil))
abbrev Ca:RT:=(.cons (.int .i64) (.cons (.int .i64) (.cons (.int .i64) (.cons (.int .i64) (.cons (.int .i64) (.cons (.sl fX) .nil))))))
abbrev nf:Type:=Int×Int×Int×Int×Int×aH×Unit
abbrev jm:RT:=(.cons (.int .i64) (.cons (.int .i64) (.cons (.sl fX) (.cons (.sl aD) (.cons (.sl fX) (.cons (.sl tj) (.cons (.int .i64) (.cons (.int .i64) (.cons (.int .i64) (.cons (.int .i64) (.cons (.int .i64) (.cons (.int .i64) (.cons (.int .i64) (.cons (.int .i64) (.cons (.int .i64) (.cons (.sl fX) .nil))))))))))))))))
abbrev bV:Type:=Int×Int×aH×aj×aH×fE×Int×Int×Int×Int×Int×Int×Int×Int×Int×aH×Unit
abbrev cJ:RT:=(.cons (.int .i64) (.cons .bool (.cons (.int .i64) (.cons (.int .i64) (.cons (.sl fX) (.cons (.sl aD) (.cons (.sl fX) (.cons (.sl tj) (.cons (.int .i64) (.cons (.int .i64) (.cons (.int .i64) (.cons (.int .i64) (.cons (.int .i64) (.cons (.int .i64) (.cons (.int .i64) (.cons (.int .i64) (.cons (.int .i64) (.cons (.sl fX) (.cons (.int .i64) (.cons (.int .i64) (.cons (.int .i64) (.cons (.sl fX) (.cons (.sl cA) (.cons (.sl bA) .nil))))))))))))))))))))))))
abbrev ae:Type:=Int×Bool×Int×Int×aH×aj×aH×fE×Int×Int×Int×Int×Int×Int×Int×Int×Int×aH×Int×Int×Int×aH×af×ai×Unit
abbrev T_b:RT:=(.cons .bool .nil)
abbrev Oc:RT:=(.cons (.int .u8) .nil)
abbrev Xg:RT:=(.cons (.sl fX) .nil)
abbrev Xh:RT:=(.cons (.sl tj) .nil)
abbrev wU:RT:=(.cons (.sl cA) .nil)
abbrev tl:RT:=(.cons (.sl bA) .nil)
abbrev Is:RT:=(.cons (.sl tk) .nil)
abbrev Qo:RT:=(.cons (.sl Oc) .nil)
abbrev U6:Type:=Int×Int×Int×ByteArray×Bool×Unit
abbrev U7:Type:=Int×Int×Int×aj×Bool×Unit
abbrev U8:Type:=Int×Int×aH×aj×aH×fE×Int×Int×Int×Int×Int×Int×Int×Int×Int×aH×Bool×Unit
abbrev U9:Type:=Int×Bool×Int×Int×aH×aj×aH×fE×Int×Int×Int×Int×Int×Int×Int×Int×Int×aH×Int×Int×Int×aH×af×ai×Unit
abbrev U10:Type:=Bool×Int×Bool×Int×Int×aH×aj×aH×fE×Int×Int×Int×Int×Int×Int×Int×Int×Int×aH×Int×Int×Int×aH×af×ai×Unit
abbrev U11:Type:=Int×aH×aj×aH×fE×aH×Unit
abbrev HE:Type:=Int×Bool×Int×Int×aH×aj×aH×fE×Int×Int×Int×Int×Int×Int×Int×Int×Int×aH×Int×Int×Int×aH×af×ai×af×Bool×Unit
abbrev U13:Type:=Int×aH×aj×aH×fE×aH×aH×af×ai×Unit
abbrev MH:Type:=aj×Int×Int×Unit
abbrev MI:Type:=fE×Int×Int×Unit
abbrev Qp:Type:=af×Int×Int×Unit
abbrev Qq:Type:=ai×Int×Int×Unit
abbrev Qr:Type:=aH×aH×Int×Unit
abbrev Vb:Type:=aj×aj×Int×Unit
abbrev Vc:Type:=fE×fE×Int×Unit
abbrev Qs:Type:=af×af×Int×Unit
abbrev Qt:Type:=ai×ai×Int×Unit
abbrev U23:Type:=Int×aH×Int×Unit
abbrev Qu:Type:=aH×Int×Int×Unit
abbrev U25:Type:=aH×fE×Int×Unit
abbrev U26:Type:=aj×Int×Int×Int×Int×ByteArray×Int×Unit
abbrev U27:Type:=Int×Int×Int×Int×Int×aH×Int×Unit
abbrev U28:Type:=Int×Bool×Int×Int×aH×aj×aH×fE×Int×Int×Int×Int×Int×Int×Int×Int×Int×aH×Int×Int×Int×aH×af×ai×Int×Unit
abbrev U29:Type:=af×Int×Int×aH×Int×Int×Int×aj×Int×Unit
abbrev SW:Type:=af×Int×aH×Int×Unit
abbrev SX:Type:=af×Int×Int×aH×aH×Int×Int×Int×aj×Int×Unit
abbrev U32:Type:=aj×Int×Int×Int×ByteArray×aj×aj×Int×Unit
abbrev U33:Type:=aj×Int×Int×Int×ByteArray×aj×Unit
abbrev U34:Type:=aj×Int×Int×Int×ByteArray×aj×Int×Unit
abbrev U35:Type:=fu×aj×Int×Int×Unit
abbrev Xi:Type:=fu×aj×Int×Unit
abbrev Vd:Type:=aj×aj×Int×Int×Unit
abbrev SY:Type:=af×Int×Int×aH×aj×fu×aH×Int×Unit
abbrev Xj:Type:=Int×aj×fu×Unit
abbrev U40:Type:=Int×aj×aj×Int×Unit
abbrev U41:Type:=Int×Int×aH×Unit
abbrev U42:Type:=Int×Bool×Int×Int×aH×aj×aH×fE×Int×Int×Int×Int×Int×Int×Int×Int×Int×aH×Int×Int×Int×aH×af×ai×Int×aH×aj×Int×Unit
abbrev U43:Type:=Int×Bool×Int×Int×aH×aj×aH×fE×Int×Int×Int×Int×Int×Int×Int×Int×Int×aH×Int×Int×Int×aH×af×ai×Int×aH×Int×Bool×Int×Int×aH×aj×aH×fE×Int×Int×Int×Int×Int×Int×Int×Int×Int×aH×Int×Int×Int×aH×af×ai×af×Int×Bool×Int×Int×aH×aj×aH×fE×Int×Int×Int×Int×Int×Int×Int×Int×Int×aH×Int×Int×Int×aH×af×ai×Int×Int×Int×aj×Int×Unit
abbrev U44:Type:=Int×Bool×Int×Int×aH×aj×aH×fE×Int×Int×Int×Int×Int×Int×Int×Int×Int×aH×Int×Int×Int×aH×af×ai×af×Int×Bool×Int×Int×aH×aj×aH×fE×Int×Int×Int×Int×Int×Int×Int×Int×Int×aH×Int×Int×Int×aH×af×ai×Unit
abbrev U45:Type:=Int×Bool×Int×Int×aH×aj×aH×fE×Int×Int×Int×Int×Int×Int×Int×Int×Int×aH×Int×Int×Int×aH×af×ai×Int×aH×Unit
abbrev U46:Type:=aH×Int×Int×Int×Unit
abbrev U47:Type:=Int×aH×aH×Int×Int×Unit
abbrev U48:Type:=Int×Int×Int×Int×ByteArray×aj×Int×Int×Unit
abbrev U49:Type:=Int×Int×Int×Int×Int×aH×aH×Int×Int×Unit
abbrev U50:Type:=Int×Int×aH×aj×aH×fE×Int×Int×Int×Int×Int×Int×Int×Int×Int×aH×aH×Int×Int×Unit
abbrev U51:Type:=Int×Bool×Int×Int×aH×aj×aH×fE×Int×Int×Int×Int×Int×Int×Int×Int×Int×aH×Int×Int×Int×aH×af×ai×af×Int×Int×Unit
abbrev U52:Type:=Int×Bool×Int×Int×aH×aj×aH×fE×Int×Int×Int×Int×Int×Int×Int×Int×Int×aH×Int×Int×Int×aH×af×ai×Bool×Unit
abbrev U53:Type:=af×af×Int×Int×Unit
abbrev U54:Type:=ai×ai×Int×Int×Unit
abbrev U55:Type:=Int×Bool×Int×Int×aH×aj×aH×fE×Int×Int×Int×Int×Int×Int×Int×Int×Int×aH×Int×Int×Int×aH×af×ai×aj×Int×Int×Unit
abbrev U56:Type:=Int×Int×aH×Int×Int×Int×aj×af×Int×Int×Unit
abbrev U57:Type:=af×Int×Int×aH×Int×Int×Int×aj×aH×aH×Int×Int×Unit
abbrev Xk:Type:=aj×Int×Int×Int×ByteArray×Int×Unit
abbrev U59:Type:=aj×fu×Int×Int×aj×Int×Int×Unit
abbrev Xl:Type:=aj×fu×Int×Int×Unit
abbrev Ve:Type:=Int×aj×aj×Int×Int×Unit
abbrev U62:Type:=af×Int×Int×aH×fu×aH×Int×Int×Unit
abbrev U63:Type:=Int×aH×Int×Bool×Int×Int×aH×aj×aH×fE×Int×Int×Int×Int×Int×Int×Int×Int×Int×aH×Int×Int×Int×aH×af×ai×Int×Bool×Int×Int×aH×aj×aH×fE×Int×Int×Int×Int×Int×Int×Int×Int×Int×aH×Int×Int×Int×aH×af×ai×Int×Int×Int×aj×af×Int×Int×Unit
abbrev U64:Type:=Int×aH×Int×Bool×Int×Int×aH×aj×aH×fE×Int×Int×Int×Int×Int×Int×Int×Int×Int×aH×Int×Int×Int×aH×af×ai×Int×Bool×Int×Int×aH×aj×aH×fE×Int×Int×Int×Int×Int×Int×Int×Int×Int×aH×Int×Int×Int×aH×af×ai×af×Unit
def vd:List OP:=[.int .i64,.shr fX]
def CJ:List OP:=[.int .i64,.int .i64,.int .i64,.str]
def HF:List OP:=[.int .i64,.int .i64,.int .i64,.int .i64,.int .i64,.shr fX]
def Lw:List OP:=[.int .i64,.int .i64,.shr fX,.shr aD,.shr fX,.shr tj,.int .i64,.int .i64,.int .i64,.int .i64,.int .i64,.int .i64,.int .i64,.int .i64,.int .i64,.shr fX]
def HG:List OP:=[.int .i64,.int .i64,.int .i64,.shr aD]
def yw:List OP:=[.shr cA]
def Xm:List OP:=[.int .i64,.int .i64,.shr fX,.int .i64,.int .i64,.int .i64,.str,.shr fX]
def JT:List OP:=[.shr bA]
def FK:List OP:=[.int .i64,.bool,.int .i64,.int .i64,.shr fX,.shr aD,.shr fX,.shr tj,.int .i64,.int .i64,.int .i64,.int .i64,.int .i64,.int .i64,.int .i64,.int .i64,.int .i64,.shr fX,.int .i64,.int .i64,.int .i64,.shr fX,.shr cA,.shr bA]
def Qv:List OP:=[.int .i64,.own fX]
def Qw:List OP:=[.int .i64,.int .i64,.int .i64,.int .i64,.int .i64,.own fX]
def Lx:List OP:=[.int .i64,.int .i64,.own fX,.own aD,.own fX,.own tj,.int .i64,.int .i64,.int .i64,.int .i64,.int .i64,.int .i64,.int .i64,.int .i64,.int .i64,.own fX]
def It:List OP:=[.int .i64,.int .i64,.int .i64,.own aD]
def zo:List OP:=[.own cA .dp]
def Xn:List OP:=[.int .i64,.int .i64,.own fX,.int .i64,.int .i64,.int .i64,.str,.own fX]
def EJ:List OP:=[.own bA .dp]
def Iu:List OP:=[.int .i64,.bool,.int .i64,.int .i64,.own fX,.own aD,.own fX,.own tj,.int .i64,.int .i64,.int .i64,.int .i64,.int .i64,.int .i64,.int .i64,.int .i64,.int .i64,.own fX,.int .i64,.int .i64,.int .i64,.own fX,.own cA .dp,.own bA .dp]
def GU:List OP:=[.shr tk]
def Qx:List OP:=[.own tk]
def ad5:List OP:=[.int .i64,.bool,.int .i64,.int .i64,.own fX,.own aD,.own fX,.own tj,.int .i64,.int .i64,.int .i64,.int .i64,.int .i64,.int .i64,.int .i64,.int .i64,.int .i64,.own fX,.int .i64,.int .i64,.int .i64,.own fX,.shr cA,.own bA .dp]
def Xo:List OP:=[.int .i64,.bool,.int .i64,.int .i64,.shr fX,.own aD,.own fX,.own tj,.int .i64,.int .i64,.int .i64,.int .i64,.int .i64,.int .i64,.int .i64,.int .i64,.int .i64,.own fX,.int .i64,.int .i64,.int .i64,.own fX,.shr cA,.own bA .dp]
def Xp:List OP:=[.int .i64,.bool,.int .i64,.int .i64,.own fX,.own aD,.own fX,.own tj,.int .i64,.int .i64,.int .i64,.int .i64,.int .i64,.int .i64,.int .i64,.int .i64,.int .i64,.own fX,.int .i64,.int .i64,.int .i64,.own fX,.own cA,.own bA]
def SZ:List OP:=[.own cA]
def Xq:List OP:=[.int .i64,.bool,.int .i64,.int .i64,.own fX,.own aD,.own fX,.own tj,.int .i64,.int .i64,.int .i64,.int .i64,.int .i64,.int .i64,.int .i64,.int .i64,.int .i64,.own fX,.int .i64,.int .i64,.int .i64,.own fX,.own cA,.own bA .dp]
def ad6:List OP:=[.int .i64,.bool,.int .i64,.int .i64,.own fX,.own aD,.own fX,.own tj,.int .i64,.int .i64,.int .i64,.int .i64,.int .i64,.int .i64,.int .i64,.int .i64,.int .i64,.own fX,.int .i64,.int .i64,.int .i64,.own fX,.shr cA,.shr bA]
def S0:List OP:=[.int .i64,.bool,.int .i64,.int .i64,.shr fX,.own aD,.own fX,.own tj,.int .i64,.int .i64,.int .i64,.int .i64,.int .i64,.int .i64,.int .i64,.int .i64,.int .i64,.own fX,.int .i64,.int .i64,.int .i64,.shr fX,.shr cA,.own bA .dp]
def Qy:List OP:=[.int .i64,.bool,.int .i64,.int .i64,.own fX,.own aD,.own fX,.own tj,.int .i64,.int .i64,.int .i64,.int .i64,.int .i64,.int .i64,.int .i64,.int .i64,.int .i64,.own fX,.int .i64,.int .i64,.int .i64,.own fX,.own cA .lz,.own bA .dp]
def tr:Tr:=(.node (.node (.node (.node (.node .leaf 3 { size:=1,agg:=false,cD:=[],row:=some fX,elem:=none,kind:=some (.int .i64),jq:=[],eq:=false } .leaf) 4 { size:=1,agg:=false,cD:=[],row:=some T_b,elem:=none,kind:=some .bool,jq:=[],eq:=false } (.node .leaf 5 { size:=1,agg:=false,cD:=[],row:=some Oc,elem:=none,kind:=some (.int .u8),jq:=[],eq:=false } .leaf)) 9 { size:=1,agg:=false,cD:=[],row:=some tj,elem:=none,kind:=some .str,jq:=[],eq:=false } (.node (.node .leaf 22 { size:=1,agg:=false,cD:=[],row:=some Xg,elem:=some (fX,8),kind:=none,jq:=[],eq:=false } .leaf) 24 { size:=2,agg:=true,cD:=[(0,1),(1,1)],row:=some Ob,elem:=none,kind:=none,jq:=[0,1],eq:=false } (.node .leaf 25 { size:=1,agg:=false,cD:=[],row:=some tk,elem:=some (aD,40),kind:=none,jq:=[],eq:=false } .leaf))) 26 { size:=1,agg:=false,cD:=[],row:=some Xh,elem:=some (tj,16),kind:=none,jq:=[],eq:=false } (.node (.node (.node .leaf 28 { size:=6,agg:=true,cD:=[(0,1),(1,1),(2,1),(3,1),(4,1),(5,1)],row:=some Ca,elem:=none,kind:=none,jq:=[0,1,2,3,4,5],eq:=false } .leaf) 30 { size:=16,agg:=true,cD:=[(0,1),(1,2),(3,1),(4,1),(5,1),(6,1),(7,1),(8,1),(9,1),(10,6)],row:=some jm,elem:=none,kind:=none,jq:=[0,2,3,4,5,6,7,8],eq:=false } (.node .leaf 31 { size:=1,agg:=false,cD:=[],row:=some wU,elem:=some (cA,48),kind:=none,jq:=[],eq:=false } .leaf)) 32 { size:=1,agg:=false,cD:=[],row:=some tl,elem:=some (bA,104),kind:=none,jq:=[],eq:=false } (.node (.node .leaf 34 { size:=24,agg:=true,cD:=[(0,1),(1,1),(2,16),(18,1),(19,1),(20,2),(22,1),(23,1)],row:=some cJ,elem:=none,kind:=none,jq:=[0,1,3,4,6,7],eq:=false } .leaf) 37 { size:=2,agg:=true,cD:=[(0,1),(1,1)],row:=some Ob,elem:=none,kind:=none,jq:=[0,1],eq:=false } .leaf))) 38 { size:=1,agg:=false,cD:=[],row:=some tk,elem:=some (aD,40),kind:=none,jq:=[],eq:=false } (.node (.node (.node (.node .leaf 39 { size:=6,agg:=true,cD:=[(0,1),(1,1),(2,1),(3,1),(4,1),(5,1)],row:=some Ca,elem:=none,kind:=none,jq:=[0,1,2,3,4,5],eq:=false } .leaf) 41 { size:=16,agg:=true,cD:=[(0,1),(1,2),(3,1),(4,1),(5,1),(6,1),(7,1),(8,1),(9,1),(10,6)],row:=some jm,elem:=none,kind:=none,jq:=[0,2,3,4,5,6,7,8],eq:=false } (.node .leaf 42 { size:=1,agg:=false,cD:=[],row:=some wU,elem:=some (cA,48),kind:=none,jq:=[],eq:=false,dp:=true } .leaf)) 43 { size:=1,agg:=false,cD:=[],row:=some tl,elem:=some (bA,104),kind:=none,jq:=[],eq:=false,dp:=true } (.node (.node .leaf 45 { size:=24,agg:=true,cD:=[(0,1),(1,1),(2,16),(18,1),(19,1),(20,2),(22,1),(23,1)],row:=some cJ,elem:=none,kind:=none,jq:=[0,1,3,4,6,7],eq:=false } .leaf) 67 { size:=4,agg:=true,cD:=[(0,1),(1,1),(2,1),(3,1)],row:=some cA,elem:=none,kind:=none,jq:=[0,1,2,3],eq:=false } .leaf)) 78 { size:=4,agg:=true,cD:=[(0,1),(1,1),(2,1),(3,1)],row:=some aD,elem:=none,kind:=none,jq:=[0,1,2,3],eq:=true } (.node (.node (.node .leaf 91 { size:=4,agg:=true,cD:=[(0,1),(1,1),(2,1),(3,1)],row:=some cA,elem:=none,kind:=none,jq:=[0,1,2,3],eq:=false } .leaf) 93 { size:=4,agg:=true,cD:=[(0,1),(1,1),(2,1),(3,1)],row:=some aD,elem:=none,kind:=none,jq:=[0,1,2,3],eq:=true } (.node .leaf 95 { size:=8,agg:=true,cD:=[(0,1),(1,2),(3,4),(7,1)],row:=some bA,elem:=none,kind:=none,jq:=[0,3],eq:=false } .leaf)) 106 { size:=8,agg:=true,cD:=[(0,1),(1,2),(3,4),(7,1)],row:=some bA,elem:=none,kind:=none,jq:=[0,3],eq:=false } (.node (.node .leaf 130 { size:=1,agg:=false,cD:=[],row:=some Is,elem:=some (tk,24),kind:=none,jq:=[],eq:=false,dp:=true } .leaf) 136 { size:=1,agg:=false,cD:=[],row:=some Qo,elem:=some (Oc,1),kind:=none,jq:=[],eq:=false } .leaf))))
theorem Rm:tr.all (yo Tryz.prog)=true:=by kernel_rfl
theorem Xr:xg Tryz.prog (oB tr):=Io (by kernel_rfl)
theorem Cb:Tryz.prog.follows .mixedOrders=true:=by kernel_rfl
noncomputable def eH:TK Tryz.prog:=⟨tr,Rm,Xr,Cb⟩
def Od:Tr:=tr.lzb [56]
theorem Oe:Od.all (yo Tryz.prog)=true:=by kernel_rfl
theorem Of:xg Tryz.prog (oB Od):=Io (by kernel_rfl)
noncomputable def S1:TK Tryz.prog:=⟨Od,Oe,Of,Cb⟩
def tr0:Tr:=tr.flat
theorem S2:tr0.all (yo Tryz.prog)=true:=by kernel_rfl
theorem S3:xg Tryz.prog (oB tr0):=Io (by kernel_rfl)
noncomputable def Og:TK Tryz.prog:=⟨tr0,S2,S3,Cb⟩
theorem Qz:laidOutB Tryz.prog=true:=by kernel_rfl
theorem S4:ownKnob Tryz.prog.godebug=none:=by kernel_rfl
def N.first:N→St
 |.done st=>st
 |.fail=>[]
 |.br _ t _=>t.first
 |.row _ _ _=>[]
end Go.TM
