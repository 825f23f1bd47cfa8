/- What the functions know of the types, checked against the program. -/
import Derived.Test.YtlgnmloddedbaaaGreatLibSort
import Derived.Test.YtlgnmloddedbaaaGreatProg
namespace Go.TM
open Go Go.RowKit Go.Proofs
abbrev _root_.Prod.q {A B C D E F:Type} (x:A×B×C×D×E×F):F:=x.2.2.2.2.2
abbrev jT:RT:=(.cons (.int .i64) .nil)
abbrev aJ:Type:=List (Int×Unit)
abbrev aG:RT:=(.cons (.int .i64) (.cons (.int .i64) (.cons (.int .i64) (.cons .str .nil))))
abbrev lS:Type:=Int×Int×Int×ByteArray×Unit
abbrev ah:Type:=List (lS)
abbrev xo:RT:=(.cons .str .nil)
abbrev fA:Type:=List (ByteArray×Unit)
abbrev aI:RT:=(.cons (.int .i64) (.cons (.int .i64) (.cons (.sl jT) (.cons (.sl aG) (.cons (.sl jT) (.cons (.sl xo) (.cons (.int .i64) (.cons (.int .i64) (.cons (.int .i64) (.cons (.int .i64) (.cons (.int .i64) (.cons (.int .i64) (.cons (.int .i64) (.cons (.int .i64) (.cons (.int .i64) (.cons (.sl jT) .nil))))))))))))))))
abbrev au:Type:=Int×Int×aJ×ah×aJ×fA×Int×Int×Int×Int×Int×Int×Int×Int×Int×aJ×Unit
abbrev aa:Type:=List (au)
abbrev bj:RT:=(.cons (.int .i64) (.cons .bool (.cons (.int .i64) (.cons (.int .i64) (.cons (.int .i64) (.cons (.int .i64) (.cons (.int .i64) (.cons (.sl jT) (.cons (.int .i64) (.cons (.int .i64) (.cons (.int .i64) (.cons .str .nil))))))))))))
abbrev a6:Type:=Int×Bool×Int×Int×Int×Int×Int×aJ×Int×Int×Int×ByteArray×Unit
abbrev ae:Type:=List (a6)
abbrev fp:RT:=(.cons (.sl aG) .nil)
abbrev ax:Type:=List (ah×Unit)
abbrev T5:RT:=(.cons (.sl jT) .nil)
abbrev Qp:Type:=List (aJ×Unit)
abbrev Qq:RT:=(.cons (.int .i64) (.cons (.sl jT) .nil))
abbrev Eo:RT:=(.cons (.int .i64) (.cons (.int .i64) (.cons (.int .i64) (.cons (.int .i64) (.cons (.int .i64) (.cons (.sl jT) .nil))))))
abbrev gS:Type:=Int×Int×Int×Int×Int×aJ×Unit
abbrev bZ:RT:=(.cons (.int .i64) (.cons (.sl jT) (.cons (.sl aI) (.cons (.sl bj) (.cons (.sl fp) (.cons (.sl aG) .nil))))))
abbrev af:Type:=Int×aJ×aa×ae×ax×ah×Unit
abbrev T_b:RT:=(.cons .bool .nil)
abbrev Qr:RT:=(.cons (.int .u8) .nil)
abbrev Sr:RT:=(.cons (.sl Qr) .nil)
abbrev abM:RT:=(.cons (.sl xo) .nil)
abbrev hY:RT:=(.cons (.sl aI) .nil)
abbrev rM:RT:=(.cons (.sl bj) .nil)
abbrev Ep:RT:=(.cons (.sl fp) .nil)
abbrev U4:Type:=Int×Int×Int×Int×Int×aJ×Unit
abbrev U5:Type:=Int×Int×Int×ByteArray×Bool×Unit
abbrev U6:Type:=Int×Int×Int×Int×Int×aJ×ah×Unit
abbrev U7:Type:=Int×Int×aJ×aa×ae×ax×ah×Unit
abbrev U9:Type:=Int×Int×aJ×ah×aJ×fA×Int×Int×Int×Int×Int×Int×Int×Int×Int×aJ×ah×Int×Int×Int×Int×Int×aJ×Bool×Unit
abbrev U10:Type:=Int×Int×aJ×ah×aJ×fA×Int×Int×Int×Int×Int×Int×Int×Int×Int×aJ×ah×Unit
abbrev U11:Type:=Int×Int×aJ×ah×aJ×fA×Int×Int×Int×Int×Int×Int×Int×Int×Int×aJ×ah×Int×Int×Int×Int×Int×Int×aJ×Bool×Unit
abbrev OO:Type:=ah×Int×Int×Unit
abbrev OQ:Type:=fA×Int×Int×Unit
abbrev Ss:Type:=aa×Int×Int×Unit
abbrev Su:Type:=ae×Int×Int×Unit
abbrev Sv:Type:=ax×Int×Int×Unit
abbrev Sw:Type:=aJ×aJ×Int×Unit
abbrev ZY:Type:=ah×ah×Int×Unit
abbrev ZZ:Type:=fA×fA×Int×Unit
abbrev Z0:Type:=aa×aa×Int×Unit
abbrev Z1:Type:=ae×ae×Int×Unit
abbrev Z2:Type:=ax×ax×Int×Unit
abbrev Nn:Type:=Int×aJ×aa×ae×ax×ah×Int×aJ×aa×ae×ax×ah×Int×aJ×aa×ae×ax×ah×Int×Unit
abbrev T6:Type:=Int×aJ×aa×ae×ax×ah×Int×aJ×aa×ae×ax×ah×Int×aJ×aa×ae×ax×ah×Unit
abbrev Ky:Type:=Int×aJ×aa×ae×ax×ah×Int×aJ×aa×ae×ax×ah×Unit
abbrev U26:Type:=Int×aJ×Int×Unit
abbrev Sx:Type:=aJ×Int×Int×Unit
abbrev U28:Type:=aJ×fA×Int×Unit
abbrev U29:Type:=ah×Int×Int×Int×Int×ByteArray×Int×Unit
abbrev U30:Type:=Int×Int×Int×Int×Int×aJ×Int×Unit
abbrev U31:Type:=Int×aJ×aa×ae×ax×ah×Int×Unit
abbrev U32:Type:=Int×aJ×aa×ae×ax×ah×Int×Int×Unit
abbrev U33:Type:=ah×Int×Int×Int×ByteArray×ah×ah×Int×Unit
abbrev U34:Type:=ah×Int×Int×Int×ByteArray×ah×Unit
abbrev U35:Type:=ah×Int×Int×Int×ByteArray×ah×Int×Unit
abbrev U36:Type:=ah×Int×Int×Int×Int×Int×aJ×ah×Int×Unit
abbrev U37:Type:=Int×aJ×fA×Int×Int×Int×Int×Int×aJ×Int×Int×Int×Int×Int×aJ×Int×Int×Int×Int×Int×aJ×ah×Int×Unit
abbrev U38:Type:=Int×Int×Int×Int×Int×aJ×Int×Int×Int×Int×Int×aJ×Int×Int×Int×Int×Int×aJ×ah×Unit
abbrev Z3:Type:=ah×Int×aJ×Int×Unit
abbrev U40:Type:=ah×Int×Int×Int×Int×Int×aJ×Int×Int×Int×Int×Int×aJ×Int×Int×Int×Int×Int×aJ×aJ×Int×Unit
abbrev U41:Type:=Int×Int×Int×Int×Int×aJ×Int×Int×Int×Int×Int×aJ×Unit
abbrev U42:Type:=Int×Int×aJ×ah×aJ×fA×Int×Int×Int×Int×Int×Int×Int×Int×Int×aJ×Int×Int×Int×Int×Int×aJ×Int×Int×aJ×ah×aJ×fA×Int×Int×Int×Int×Int×Int×Int×Int×Int×aJ×Int×Int×Int×Int×Int×aJ×Int×Int×aJ×ah×aJ×fA×Int×Int×Int×Int×Int×Int×Int×Int×Int×aJ×ah×Int×Int×Int×Int×Int×aJ×ah×Int×Unit
abbrev U43:Type:=Int×Int×aJ×ah×aJ×fA×Int×Int×Int×Int×Int×Int×Int×Int×Int×aJ×Int×Int×Int×Int×Int×aJ×Int×Int×aJ×ah×aJ×fA×Int×Int×Int×Int×Int×Int×Int×Int×Int×aJ×Int×Int×Int×Int×Int×aJ×Int×Int×aJ×ah×aJ×fA×Int×Int×Int×Int×Int×Int×Int×Int×Int×aJ×ah×Int×Int×Int×Int×Int×aJ×ah×Unit
abbrev U44:Type:=Int×aJ×aa×ae×ax×ah×Int×ah×ae×Int×Int×Unit
abbrev U45:Type:=Int×aJ×aa×ae×ax×ah×Int×ah×ae×Int×Unit
abbrev U46:Type:=Int×aJ×aa×ae×ax×ah×ae×Unit
abbrev U47:Type:=Int×Int×aJ×Int×Unit
abbrev U48:Type:=Int×aJ×aa×ae×ax×ah×Int×Bool×Int×Int×Int×Int×Int×aJ×Int×Int×Int×ByteArray×ah×Int×Int×Int×Int×Int×aJ×Int×Unit
abbrev U49:Type:=Int×aJ×aa×ae×ax×ah×Int×Bool×Int×Int×Int×Int×Int×aJ×Int×Int×Int×ByteArray×ah×Int×Int×Int×Int×Int×aJ×Unit
abbrev U50:Type:=Int×aJ×aa×ae×ax×ah×Int×Int×aJ×ah×aJ×fA×Int×Int×Int×Int×Int×Int×Int×Int×Int×aJ×ah×Int×Unit
abbrev U51:Type:=Int×aJ×aa×ae×ax×ah×Int×Int×aJ×ah×aJ×fA×Int×Int×Int×Int×Int×Int×Int×Int×Int×aJ×ah×Unit
abbrev U52:Type:=Int×Int×aJ×ah×aJ×fA×Int×Int×Int×Int×Int×Int×Int×Int×Int×aJ×Int×Int×aJ×ah×aJ×fA×Int×Int×Int×Int×Int×Int×Int×Int×Int×aJ×Int×Int×aJ×ah×aJ×fA×Int×Int×Int×Int×Int×Int×Int×Int×Int×aJ×ah×Int×Unit
abbrev U53:Type:=Int×Int×aJ×ah×aJ×fA×Int×Int×Int×Int×Int×Int×Int×Int×Int×aJ×Int×Int×aJ×ah×aJ×fA×Int×Int×Int×Int×Int×Int×Int×Int×Int×aJ×ah×Unit
abbrev U54:Type:=Int×Int×aJ×aa×ae×ax×ah×Int×aJ×aa×ae×ax×ah×Int×Int×Unit
abbrev U55:Type:=Int×Int×aJ×aa×ae×ax×ah×Int×aJ×aa×ae×ax×ah×Int×Unit
abbrev U56:Type:=Int×aJ×aa×ae×ax×ah×Int×aJ×aa×ae×ax×ah×Int×Unit
abbrev U57:Type:=Int×aJ×aa×ae×ax×ah×Int×aJ×aa×ae×ax×ah×Int×aJ×aa×ae×ax×ah×aa×Int×Int×Unit
abbrev U58:Type:=Int×aJ×aa×ae×ax×ah×Int×aJ×aa×ae×ax×ah×Int×aJ×aa×ae×ax×ah×ae×Int×Int×Unit
abbrev U59:Type:=Int×aJ×aa×ae×ax×ah×Int×aJ×aa×ae×ax×ah×ax×Int×Int×Unit
abbrev U60:Type:=Int×aJ×aJ×Int×Int×Unit
abbrev U61:Type:=aJ×Int×Int×Int×Unit
abbrev U62:Type:=ah×ah×Int×Int×Unit
abbrev U63:Type:=Int×Int×Int×Int×ByteArray×ah×Int×Int×Unit
abbrev U64:Type:=Int×Int×Int×Int×Int×aJ×aJ×Int×Int×Unit
abbrev U65:Type:=Int×Int×aJ×ah×aJ×fA×Int×Int×Int×Int×Int×Int×Int×Int×Int×aJ×aJ×Int×Int×Unit
abbrev U66:Type:=Int×aJ×aa×ae×ax×ah×aa×Int×Int×Unit
abbrev U67:Type:=aa×Qp×Int×Int×Unit
abbrev U68:Type:=ah×Int×Int×Int×ByteArray×Int×Unit
abbrev U69:Type:=Int×Int×Int×Int×Int×aJ×ah×ah×Int×Int×Unit
abbrev U70:Type:=Int×aJ×Int×Int×Int×Int×Int×aJ×Int×Int×Int×Int×Int×aJ×Int×Int×Int×Int×Int×aJ×ah×fA×Int×Int×Unit
abbrev U71:Type:=ah×Int×Int×Int×Int×Int×aJ×Int×Int×Int×Int×Int×aJ×aJ×aJ×Int×Int×Unit
abbrev U72:Type:=Int×Int×Int×Int×Int×aJ×Int×Int×Int×Int×Int×aJ×aJ×Unit
abbrev U73:Type:=Int×Int×aJ×ah×aJ×fA×Int×Int×Int×Int×Int×Int×Int×Int×Int×aJ×Int×Int×Int×Int×Int×aJ×Int×Int×aJ×ah×aJ×fA×Int×Int×Int×Int×Int×Int×Int×Int×Int×aJ×Int×Int×Int×Int×Int×aJ×Int×Int×aJ×ah×aJ×fA×Int×Int×Int×Int×Int×Int×Int×Int×Int×aJ×ah×Int×Int×Int×Int×Int×aJ×ah×ah×Int×Int×Unit
abbrev U74:Type:=Int×aJ×aa×ae×ax×ah×Int×Int×Int×Int×ByteArray×ah×Int×Int×aJ×Int×Int×Unit
abbrev U75:Type:=Int×aJ×aa×ae×ax×ah×Int×ah×Int×Int×Unit
abbrev U76:Type:=Int×Int×aJ×ah×aJ×fA×Int×Int×Int×Int×Int×Int×Int×Int×Int×aJ×ah×ah×Int×Int×Unit
abbrev U77:Type:=Int×Int×aJ×ah×aJ×fA×Int×Int×Int×Int×Int×Int×Int×Int×Int×aJ×Int×Int×aJ×ah×aJ×fA×Int×Int×Int×Int×Int×Int×Int×Int×Int×aJ×Int×Int×aJ×ah×aJ×fA×Int×Int×Int×Int×Int×Int×Int×Int×Int×aJ×ah×Unit
abbrev U78:Type:=Int×aJ×aa×ae×ax×ah×Int×aJ×aa×ae×ax×ah×Int×Int×Int×Int×Unit
abbrev T7:Type:=Int×aJ×aa×ae×ax×ah×Int×aJ×aa×ae×ax×ah×Int×Int×Unit
def No:List OP:=[.int .i64,.shr jT]
def CN:List OP:=[.int .i64,.int .i64,.int .i64,.str]
def wq:List OP:=[.int .i64,.int .i64,.int .i64,.int .i64,.int .i64,.shr jT]
def Bt:List OP:=[.int .i64,.int .i64,.shr jT,.shr aG,.shr jT,.shr xo,.int .i64,.int .i64,.int .i64,.int .i64,.int .i64,.int .i64,.int .i64,.int .i64,.int .i64,.shr jT]
def L4:List OP:=[.shr aI]
def Sy:List OP:=[.int .i64,.bool,.int .i64,.int .i64,.int .i64,.int .i64,.int .i64,.shr jT,.int .i64,.int .i64,.int .i64,.str]
def Qs:List OP:=[.shr bj]
def Qt:List OP:=[.shr fp]
def rN:List OP:=[.int .i64,.shr jT,.shr aI,.shr bj,.shr fp,.shr aG]
def VA:List OP:=[.int .i64,.own jT]
def kF:List OP:=[.int .i64,.int .i64,.int .i64,.int .i64,.int .i64,.own jT]
def pA:List OP:=[.int .i64,.int .i64,.own jT,.own aG,.own jT,.own xo,.int .i64,.int .i64,.int .i64,.int .i64,.int .i64,.int .i64,.int .i64,.int .i64,.int .i64,.own jT]
def VB:List OP:=[.own aI .dp]
def abS:List OP:=[.int .i64,.bool,.int .i64,.int .i64,.int .i64,.int .i64,.int .i64,.own jT,.int .i64,.int .i64,.int .i64,.str]
def VC:List OP:=[.own bj .dp]
def VD:List OP:=[.own fp .dp]
def yz:List OP:=[.int .i64,.own jT,.own aI .dp,.own bj .dp,.own fp .dp,.own aG]
def rO:List OP:=[.int .i64,.own jT,.own aI,.own bj,.own fp,.own aG]
def Sz:List OP:=[.own bj]
def abT:List OP:=[.fn 238 T5]
def yA:List OP:=[.int .i64,.shr jT,.own aI .lz,.own bj .lz,.own fp .dp,.own aG]
def Np:List OP:=[.int .i64,.shr jT,.own aI .dp,.own bj .dp,.own fp .dp,.own aG]
def tr:Tr:=(.node (.node (.node (.node (.node .leaf 3 { size:=1,agg:=false,bW:=[],row:=some jT,elem:=none,kind:=some (.int .i64),jf:=[],eq:=false } .leaf) 4 { size:=1,agg:=false,bW:=[],row:=some T_b,elem:=none,kind:=some .bool,jf:=[],eq:=false } (.node .leaf 5 { size:=1,agg:=false,bW:=[],row:=some Qr,elem:=none,kind:=some (.int .u8),jf:=[],eq:=false } .leaf)) 9 { size:=1,agg:=false,bW:=[],row:=some xo,elem:=none,kind:=some .str,jf:=[],eq:=false } (.node (.node .leaf 22 { size:=1,agg:=false,bW:=[],row:=some Sr,elem:=some (Qr,1),kind:=none,jf:=[],eq:=false } .leaf) 33 { size:=1,agg:=false,bW:=[],row:=some T5,elem:=some (jT,8),kind:=none,jf:=[],eq:=false } .leaf)) 39 { size:=2,agg:=true,bW:=[(0,1),(1,1)],row:=some Qq,elem:=none,kind:=none,jf:=[0,1],eq:=false } (.node (.node (.node .leaf 40 { size:=1,agg:=false,bW:=[],row:=some fp,elem:=some (aG,40),kind:=none,jf:=[],eq:=false } .leaf) 41 { size:=1,agg:=false,bW:=[],row:=some abM,elem:=some (xo,16),kind:=none,jf:=[],eq:=false } (.node .leaf 43 { size:=6,agg:=true,bW:=[(0,1),(1,1),(2,1),(3,1),(4,1),(5,1)],row:=some Eo,elem:=none,kind:=none,jf:=[0,1,2,3,4,5],eq:=false } .leaf)) 45 { size:=16,agg:=true,bW:=[(0,1),(1,2),(3,1),(4,1),(5,1),(6,1),(7,1),(8,1),(9,1),(10,6)],row:=some aI,elem:=none,kind:=none,jf:=[0,2,3,4,5,6,7,8],eq:=false } (.node (.node .leaf 49 { size:=2,agg:=true,bW:=[(0,1),(1,1)],row:=some Qq,elem:=none,kind:=none,jf:=[0,1],eq:=false } .leaf) 53 { size:=1,agg:=false,bW:=[],row:=some hY,elem:=some (aI,208),kind:=none,jf:=[],eq:=false,dp:=true } .leaf))) 54 { size:=1,agg:=false,bW:=[],row:=some rM,elem:=some (bj,120),kind:=none,jf:=[],eq:=false,dp:=true } (.node (.node (.node (.node .leaf 55 { size:=1,agg:=false,bW:=[],row:=some Ep,elem:=some (fp,24),kind:=none,jf:=[],eq:=false,dp:=true } .leaf) 57 { size:=6,agg:=true,bW:=[(0,2),(2,1),(3,1),(4,1),(5,1)],row:=some bZ,elem:=none,kind:=none,jf:=[1,2,3,4],eq:=false } (.node .leaf 72 { size:=1,agg:=false,bW:=[],row:=some hY,elem:=some (aI,208),kind:=none,jf:=[],eq:=false } .leaf)) 73 { size:=1,agg:=false,bW:=[],row:=some rM,elem:=some (bj,120),kind:=none,jf:=[],eq:=false } (.node (.node .leaf 74 { size:=1,agg:=false,bW:=[],row:=some Ep,elem:=some (fp,24),kind:=none,jf:=[],eq:=false } .leaf) 75 { size:=1,agg:=false,bW:=[],row:=some fp,elem:=some (aG,40),kind:=none,jf:=[],eq:=false } .leaf)) 77 { size:=6,agg:=true,bW:=[(0,2),(2,1),(3,1),(4,1),(5,1)],row:=some bZ,elem:=none,kind:=none,jf:=[1,2,3,4],eq:=false } (.node (.node (.node .leaf 85 { size:=4,agg:=true,bW:=[(0,1),(1,1),(2,1),(3,1)],row:=some aG,elem:=none,kind:=none,jf:=[0,1,2,3],eq:=true } .leaf) 91 { size:=12,agg:=true,bW:=[(0,1),(1,1),(2,6),(8,4)],row:=some bj,elem:=none,kind:=none,jf:=[0,1],eq:=false } (.node .leaf 209 { size:=6,agg:=true,bW:=[(0,1),(1,1),(2,1),(3,1),(4,1),(5,1)],row:=some Eo,elem:=none,kind:=none,jf:=[0,1,2,3,4,5],eq:=false } .leaf)) 211 { size:=16,agg:=true,bW:=[(0,1),(1,2),(3,1),(4,1),(5,1),(6,1),(7,1),(8,1),(9,1),(10,6)],row:=some aI,elem:=none,kind:=none,jf:=[0,2,3,4,5,6,7,8],eq:=false } (.node (.node .leaf 213 { size:=4,agg:=true,bW:=[(0,1),(1,1),(2,1),(3,1)],row:=some aG,elem:=none,kind:=none,jf:=[0,1,2,3],eq:=true } .leaf) 215 { size:=12,agg:=true,bW:=[(0,1),(1,1),(2,6),(8,4)],row:=some bj,elem:=none,kind:=none,jf:=[0,1],eq:=false } .leaf))))
theorem T8:tr.all (AW Tryz.prog)=true:=by kernel_rfl
theorem abU:ze Tryz.prog (n7 tr):=Kp (by kernel_rfl)
theorem Er:Tryz.prog.follows .mixedOrders=true:=by kernel_rfl
noncomputable def ei:TK Tryz.prog:=⟨tr,T8,abU,Er⟩
def tr0:Tr:=tr.flat
theorem VE:tr0.all (AW Tryz.prog)=true:=by kernel_rfl
theorem VF:ze Tryz.prog (n7 tr0):=Kp (by kernel_rfl)
noncomputable def Fu:TK Tryz.prog:=⟨tr0,VE,VF,Er⟩
def trc:Tr:=tr.wS [3,39]
theorem VG:trc.all (AW Tryz.prog)=true:=by kernel_rfl
theorem VH:ze Tryz.prog (n7 trc):=Kp (by kernel_rfl)
noncomputable def ahO:TK Tryz.prog:=⟨trc,VG,VH,Er⟩
theorem SA:laidOutB Tryz.prog=true:=by kernel_rfl
theorem VI:ownKnob Tryz.prog.godebug=none:=by kernel_rfl
def N.first:N→St
 |.done st=>st
 |.fail=>[]
 |.br _ t _=>t.first
 |.row _ _ _=>[]
noncomputable def I4 (T:kG) (S:kO) (ops:List Oper):List Oper→St→St
 | [],st=>st
 |o::l,st=>I4 T S ops l (wT T S ops st o).first
noncomputable def Hp (T:kG) (S:kO) (ops:List Oper):Pl→St→St
 |.nil,st=>st
 |.op i _ p,st=>match nth ops i with
  |some o=>Hp T S ops p (wT T S ops st o).first
  |none=>st
 |.alt p _,st=>Hp T S ops p st
end Go.TM
