/- A machine over trees: an evaluator of the code, and that what it finds is so; part 1. -/
import GoSem.Core.Value
import GoSem.Core.Code
import GoSem.Core.Program
import GoSem.Core.View
import Derived.Below
import Derived.Laws.AppendOwn
import Derived.Laws.Cells
import Derived.Laws.Rows
import Derived.Deep.MidRow
import Derived.Laws.CopyRow
import Derived.Laws.MakeOwn
import Derived.Great.BuildSlice
import Derived.Laws.Cover3
set_option linter.unusedSimpArgs false
set_option linter.unusedVariables false
namespace Go.TM
open Go
mutual
inductive Ty where
 |int (k:IntKind)
 |bool
 |str
 |sl (r:RT)
inductive RT where
 |nil
 |cons (t:Ty) (r:RT)
end
mutual
def den:Ty→Type
 |.int _=>Int
 |.bool=>Bool
 |.str=>ByteArray
 |.sl r=>List (aO r)
def aO:RT→Type
 |.nil=>Unit
 |.cons t r=>den t×aO r
end
mutual
def Ty.eq?:(a b:Ty)→Option (PLift (a=b))
 |.int k,.int l=>if h:k=l then some ⟨by rw [h]⟩ else none
 |.bool,.bool=>some ⟨rfl⟩
 |.str,.str=>some ⟨rfl⟩
 |.sl r,.sl s=>match RT.eq? r s with | some ⟨h⟩=>some ⟨by rw [h]⟩ | none=>none
 |_,_=>none
def RT.eq?:(a b:RT)→Option (PLift (a=b))
 |.nil,.nil=>some ⟨rfl⟩
 |.cons t r,.cons u s=>match Ty.eq? t u,RT.eq? r s with
  |some ⟨h⟩,some ⟨g⟩=>some ⟨by rw [h,g]⟩
  |_,_=>none
 |_,_=>none
end
def ef {r:RT} (s:RT) (xs:List (aO r)):Option (List (aO s)):=
 match RT.eq? r s with
 |some ⟨h⟩=>some (h▸xs)
 |none=>none
def RT.pE:RT→Bool
 |.nil=>false
 |.cons (.sl _) _=>true
 |.cons _ r=>r.pE
def RT.width:RT→Nat
 |.nil=>0
 |.cons _ r=>r.width+1
inductive View where
 |full
 |from (lo:Nat)
 |sub (lo n:Nat)
def View.app {α:Type}:View→List α→List α
 |.full,xs=>xs
 |.from lo,xs=>xs.drop lo
 |.sub lo n,xs=>(xs.drop lo).take n
def View.lo:View→Nat
 |.full=>0
 |.from l=>l
 |.sub l _=>l
def View.idx (w:View) (i:Nat):Nat:=
 match w with
 |.full=>i
 |.from l=>l+i
 |.sub l _=>l+i
inductive CV where
 |bad
 |int (k:IntKind) (n:Int)
 |bool (b:Bool)
 |str (s:ByteArray)
 |gj
 |Pn
 |shr (r:RT) (xs:List (aO r))
 |nn (r:RT) (xs:List (aO r))  -- as 'auN,and not nil
 |ref (a j g:Nat) (w:View)
 |ptr (b g off:Nat)
 |M6 (a j g i off:Nat)
 |oZ (r:RT) (x:aO r) (off:Nat)
 |xJ (r:RT) (xs:List (aO r)) (off:Nat)  -- as 'auO,Sh row as5 Sh first of a list
 |fn (g:Nat) (rs:RT) (xs:List (aO rs))    -- a function with boxes abS are read alone: each cell of Sh row is one as6 rows
inductive Lb where
 |box (s:Nat)
 |sp (s j:Nat)
 |out
 |dC (i j:Nat)
 |xK (i:Nat)
 |kK (j:Nat)
def Lb.same:Lb→Lb→Bool
 |.box s,.box t=>Nat.beq s t
 |.sp s i,.sp t j=>Nat.beq s t&&Nat.beq i j
 |_,_=>false
inductive V where
 |one (c:CV)
 |agg (cs:List CV)
 |qd (vs:List V)
def V.cells:V→List CV
 |.one c=>[c]
 |.agg cs=>cs
 |.qd _=>[]
inductive Md where
 |sh
 deriving DecidableEq
def Md.is:Md→Md→Bool
 |.sh,.sh=>true
theorem Md.xe {a b:Md}:Md.is a b=true↔a=b:=by
 cases a<;>cases b<;>simp [Md.is]
def Md.Si:Md→Bool
 |_=>false
structure ns where
 r:RT
 own:Bool
 xs:List (aO r)
 md:Md:=.sh
structure Sl where
 v:V
 box:Option (List CV)
 bg:Nat
 bT:List (Option ns)
 ag:Nat
 ep:Nat:=0  -- it ah3 when an array of Sh slot is written,or a call is made
def Sl.none:Sl:={ v:=.one .bad,box:=.none,bg:=0,bT:=[],ag:=0 }
abbrev St:=List Sl
def nth {α:Type}:List α→Nat→Option α
 | [],_=>none
 |x::_,0=>some x
 |_::l,n+1=>nth l n
def sY {α:Type} (f:α→α):List α→Nat→List α
 | [],_=>[]
 |x::l,0=>f x::l
 |x::l,n+1=>x::sY f l n
def dI (st:St) (t:Nat):V:=
 match nth st t with
 |some s=>s.v
 |none=>.one .bad
def bQ (st:St) (d:Option Nat) (v:V):St:=
 match d with
 |some t=>sY (fun s=>{ s with v:=v }) st t
 |none=>st
def cE (st:St) (a j g:Nat):Option ns:=
 match nth st a with
 |some s=>bif Nat.beq s.ag g then (match nth s.bT j with | some (some A)=>some A | _=>none) else none
 |none=>none
def eX (st:St) (a j:Nat) (A:Option ns):St:=
 sY (fun s=>{ s with bT:=sY (fun _=>A) s.bT j,ep:=s.ep+1 }) st a
def wD (st:St) (a:Nat):Nat:=match nth st a with | some s=>s.ep | none=>0
def fM (st:St) (b g:Nat):Option (List CV):=
 match nth st b with
 |some s=>bif Nat.beq s.bg g then s.box else none
 |none=>none
inductive N where
 |done (st:St)
 |fail
 |br (b:Bool) (t e:N)
 |row (r:RT) (o:Option (aO r)) (k:aO r→N)
def N.val:N→Option St
 |.done st=>some st
 |.fail=>none
 |.br b t e=>bif b then t.val else e.val
 |.row _ o k=>match o with | some x=>(k x).val | none=>none
def N.fold {R:Type}:N→(St→Option R)→Option R
 |.done st,k=>k st
 |.fail,_=>none
 |.br b t e,k=>bif b then t.fold k else e.fold k
 |.row _ o f,k=>match o with | some x=>(f x).fold k | none=>none
theorem N.fold_eq {R:Type} (n:N) (k:St→Option R):n.fold k=n.val.bind k:=by
 induction n with
 |done st=>rfl
 |fail=>rfl
 |br b t e iht ihe=>cases b<;>simp [N.fold,N.val,iht,ihe]
 |row r o f ih=>cases o<;>simp [N.fold,N.val,ih]
def Po:(t:Ty)→den t
 |.int _=>(0:Int)
 |.bool=>false
 |.str=>ByteArray.empty
 |.sl _=>([]:List _)
def wL:(r:RT)→aO r
 |.nil=>()
 |.cons t r=>(Po t,wL r)
def Pp:(t:Ty)→den t→CV
 |.int k,n=>.int k n
 |.bool,b=>.bool b
 |.str,s=>.str s
 |.sl r,xs=>.shr r xs
def fW:(r:RT)→aO r→List CV
 |.nil,_=>[]
 |.cons t r,x=>Pp t x.1::fW r x.2
def o7 (st:St) (r:RT) (c:CV) (k:List (aO r)→N):N:=
 match c with
 |.shr _ xs=>match ef r xs with | some ys=>k ys | none=>.fail
 |.nn _ xs=>match ef r xs with | some ys=>k ys | none=>.fail
 |.gj=>k []
 |.ref a j g w=>match cE st a j g with
  |some A=>(match ef r A.xs with | some ys=>k (w.app ys) | none=>.fail)
  |none=>.fail
 |_=>.fail
structure oB where
 cells:Nat→Option Nat          -- how many cells a value of Sh type as7
 agg:Nat→Bool                  -- is it a struct
 off:Nat→Nat→Option Nat      -- a UW field: its first cell
 fsz:Nat→Nat→Option Nat      -- and how many it has
 row:Nat→Option RT             -- Sh yl types
 elem:Nat→Option (RT×Nat)    -- a slice: its ahq cells,and Sh bytes of one
 qd:Nat→Option (List Nat)     -- a amm types
 kind:Nat→Option Ty            -- a type of one cell
 one:Nat→Nat→Bool            -- a UW field abS is no struct am7
 eq:Nat→Bool                   -- a struct of numbers,as8 and strings,ah5 by '=='
 dp:Nat→Bool:=fun _=>false -- a slice aax as9 pE are its own,where auS may be
 cap:Nat→Bool:=fun _=>false -- a aay box abS is read alone
inductive OV where
 |int (k:IntKind) (n:Int)
 |bool (b:Bool)
 |str (s:ByteArray)
 |own (A:ns)
 |shr (r:RT) (xs:List (aO r))
 |gj
 |oZ (r:RT) (xs:List (aO r))
 |fn (g:Nat) (rs:RT) (xs:List (aO rs))
inductive AV where
 |val (agg:Bool) (os:List OV)  -- a value: its UX are Sh ah6 from now on
 |io (A:ns)                     -- an array,LJ: Sh callee may write it
 |box (os:List OV)               -- a struct behind a pointer,LJ
 |dR (os:List OV)              -- a struct aax UX are LJ
inductive RV where
 |one (o:OV)
 |agg (os:List OV)
 |ptr (os:List OV)  -- a new struct,behind a pointer
inductive XV where
 |io (A:ns)
 |box (cs:List OV)
 |dR (As:List (Option ns))
structure Res where
 outs:List RV
 exts:List XV
structure Ans where
 r:RT
 o:Option (aO r)
 res:aO r→Res
abbrev Ap:=List AV→Option Ans
inductive Pm where
 |shr | own | io | dR
 |pick (l:List Nat)  -- a struct behind a pointer,some of aax UX are read alone from then on
abbrev mS:=FuncId→Option (Pm×Pm×Pm×Ap)   -- Sh first three aaz ways;atb mT are shared
def bV (b g:Nat):(j:Nat)→List OV→List CV
 |_,[]=>[]
 |j,.int k n::l=>.int k n::bV b g (j+1) l
 |j,.bool x::l=>.bool x::bV b g (j+1) l
 |j,.str s::l=>.str s::bV b g (j+1) l
 |j,.own _::l=>.ref b j g .full::bV b g (j+1) l
 |j,.shr r xs::l=>.shr r xs::bV b g (j+1) l
 |j,.gj::l=>.gj::bV b g (j+1) l
 |j,.oZ r xs::l=>.xJ r xs 0::bV b g (j+1) l
 |j,.fn f rs xs::l=>.fn f rs xs::bV b g (j+1) l
def OV.arr:OV→Option ns
 |.own A=>some A
 |_=>none
def cj:List OV→List (Option ns)
 | []=>[]
 |o::l=>o.arr::cj l
def RV.An:RV→List OV
 |.one o=>[o]
 |.agg os=>os
 |.ptr os=>.gj::os
def UY (d g j:Nat):RV→V
 |.one o=>match bV d g j [o] with | [c]=>.one c | _=>.one .bad
 |.agg os=>.agg (bV d g j os)
 |.ptr _=>.one .bad
def m8 (d g:Nat):(j:Nat)→List RV→List V
 |_,[]=>[]
 |j,r::l=>UY d g j r::m8 d g (j+r.An.length) l
def Aq (st:St) (d:Option Nat) (outs:List RV):Option St:=
 match d with
 |some d=>match nth st d with
  |some s=>
   let g:=s.ag+1
   match outs with
   | [.ptr os]=>some (sY (fun s=>{ s with v:=.one (.ptr d (s.bg+1) 0),box:=some (bV d (s.ag+1) 1 os),bg:=s.bg+1,bT:=none::cj os,ag:=s.ag+1 }) st d)
   |outs=>
    let v:V:=match m8 d g 0 outs with | [v]=>v | vs=>.qd vs
    some (sY (fun s=>{ s with v:=v,bT:=cj (outs.flatMap RV.An),ag:=g }) st d)
  |none=>none
 |none=>match outs with
  | []=>some st
  |_=>none
def pS (st:St):Operand→V
 |.tmp t=>dI st t
 |.const (.int k n)=>.one (.int k n)
 |.const (.bool b)=>.one (.bool b)
 |.const (.string s)=>.one (.str s)
 |.const (.slice none 0 0)=>.one .gj
 |.const (.pointer none)=>.one .Pn
 |_=>.one .bad
def UZ (op:BinOp) (a b:Int):Option Bool:=
 match op with
 |.lss=>some (decide (a<b))
 |.leq=>some (decide (a≤b))
 |.gtr=>some (decide (b<a))
 |.geq=>some (decide (b≤a))
 |.eql=>some (decide (a=b))
 |.neq=>some (!decide (a=b))
 |_=>none
def GW (op:BinOp) (k:IntKind) (a b:Int):Option Int:=
 match op with
 |.add=>some (k.wrap (a+b))
 |.sub=>some (k.wrap (a-b))
 |.mul=>some (k.wrap (a*b))
 |.and=>some (k.wrap ((BitVec.ofInt k.bits a &&& BitVec.ofInt k.bits b).toNat:Int))
 |.or=>some (k.wrap ((BitVec.ofInt k.bits a ||| BitVec.ofInt k.bits b).toNat:Int))
 |.xor=>some (k.wrap ((BitVec.ofInt k.bits a ^^^ BitVec.ofInt k.bits b).toNat:Int))
 |_=>none
def U0 (op:BinOp) (k:IntKind) (a b:Int):Option Int:=
 match op with
 |.quo=>some (k.wrap (a.tdiv b))
 |.rem=>some (a.tmod b)
 |_=>none
def GX (op:BinOp) (k:IntKind) (a:Int) (n:Nat):Option Int:=
 match op with
 |.shl=>some (k.wrap (a*2 ^ (min n k.bits)))
 |.shr=>some (a.fdiv (2 ^ (min n k.bits)))
 |_=>none
def tW (a b:ByteArray):Bool:=a.toList==b.toList
def ym:CV→CV→Option Bool
 |.int k a,.int l b=>if k=l then some (decide (a=b)) else none
 |.bool a,.bool b=>some (a==b)
 |.str a,.str b=>some (tW a b)
 |_,_=>none
def qe:List CV→List CV→Option Bool
 | [],[]=>some true
 |a::l,b::m=>match ym a b,qe l m with
  |some x,some y=>some (x&&y)
  |_,_=>none
 |_,_=>none
def LK (s:ByteArray) (i:Int):Int:=match s[i.toNat]? with | some b=>(b.toNat:Int) | none=>0
def oL:(r:RT)→aO r→Nat→CV→Option (aO r)
 |.cons (.int k) _,x,0,.int l n=>if k=l then some (n,x.2) else none
 |.cons .bool _,x,0,.bool b=>some (b,x.2)
 |.cons .str _,x,0,.str s=>some (s,x.2)
 |.cons _ r,x,n+1,c=>(oL r x.2 n c).map fun z=>(x.1,z)
 |_,_,_,_=>none
def rowOf (st:St):(r:RT)→List CV→(k:aO r→List (Nat×Nat)→N)→N
 |.nil,[],k=>k () []
 |.cons (.int q) r,.int l n::cs,k=>if q=l then rowOf st r cs (fun x m=>k (n,x) m) else .fail
 |.cons .bool r,.bool b::cs,k=>rowOf st r cs (fun x m=>k (b,x) m)
 |.cons .str r,.str s::cs,k=>rowOf st r cs (fun x m=>k (s,x) m)
 |.cons (.sl q) r,c::cs,k=>
  match c with
  |.gj=>rowOf st r cs (fun x m=>k (([]:List _),x) m)
  |.ref a j g w=>match cE st a j g with
   |some A=>(match ef q A.xs with
    |some ys=>rowOf st r cs (fun x m=>k (w.app ys,x) ((a,j)::m))
    |none=>.fail)
   |none=>.fail
  |.shr _ ys=>match ef q ys with
   |some zs=>rowOf st r cs (fun x m=>k (zs,x) m)
   |none=>.fail
  |_=>.fail
 |_,_,_=>.fail
def Md.fz:Md→Md
 |m=>m
def ns.fz (A:ns):ns:={ A with own:=false,md:=A.md.fz }
def freeze (st:St):List (Nat×Nat)→St
 | []=>st
 |(a,j)::l=>freeze (sY (fun s=>{ s with bT:=sY (fun A=>A.map ns.fz) s.bT j,ep:=s.ep+1 }) st a) l
def lim:Nat:=35184372088832
def vf:RT→List CV→Bool
 |.nil,[]=>true
 |.cons (.int k) r,.int l _::cs=>decide (k=l)&&vf r cs
 |.cons .bool r,.bool _::cs=>vf r cs
 |.cons .str r,.str _::cs=>vf r cs
 |_,_=>false
def oB.fits (T:oB) (t:Nat) (l:List CV):Bool:=match T.row t with | some r=>vf r l | none=>false
def Ac (T:oB) (st:St) (d:Option Nat) (op:BinOp) (t:Nat) (x y:V):N:=
 match x,y with
 |.one (.int k a),.one (.int l b)=>
  match op with
  |.shl | .shr=>match GX op k a b.toNat with
   |some n=>.br (decide (0≤b)) (.done (bQ st d (.one (.int k n)))) .fail
   |none=>.fail
  |_=>if k=l then (match UZ op a b with
   |some t=>.done (bQ st d (.one (.bool t)))
   |none=>match GW op k a b with
    |some n=>.done (bQ st d (.one (.int k n)))
    |none=>match U0 op k a b with
     |some n=>.br (decide (b=0)) .fail (.done (bQ st d (.one (.int k n))))
     |none=>.fail) else .fail
 |.one (.str a),.one (.str b)=>
  match op with
  |.add=>.br (Nat.ble (a.size+b.size) lim) (.done (bQ st d (.one (.str (a++b))))) .fail
  |.eql=>.done (bQ st d (.one (.bool (tW a b))))
  |.neq=>.done (bQ st d (.one (.bool (!tW a b))))
  |_=>.fail
 |.one (.bool a),.one (.bool b)=>
  match op,T.kind t with
  |.eql,some .bool=>.done (bQ st d (.one (.bool (a==b))))
  |.neq,some .bool=>.done (bQ st d (.one (.bool (!(a==b)))))
  |_,_=>.fail
 |.one .gj,.one .gj=>
  match op,T.elem t with
  |.eql,some _=>.done (bQ st d (.one (.bool true)))
  |.neq,some _=>.done (bQ st d (.one (.bool false)))
  |_,_=>.fail
 |.one (.nn _ _),.one .gj=>
  match op,T.elem t with
  |.eql,some _=>.done (bQ st d (.one (.bool false)))
  |.neq,some _=>.done (bQ st d (.one (.bool true)))
  |_,_=>.fail
 |.agg l,.agg m=>
  bif T.eq t&&T.fits t l then (match op,qe l m with
  |.eql,some t=>.done (bQ st d (.one (.bool t)))
  |.neq,some t=>.done (bQ st d (.one (.bool (!t))))
  |_,_=>.fail) else .fail
 |_,_=>.fail
def CV.zU:CV→Bool
 |.bad=>false
 |_=>true
def V.zU:V→Bool
 |.one c=>c.zU
 |.agg cs=>cs.all CV.zU
 |.qd _=>false
def gk (st:St) (d:Option Nat) (A:ns):N:=
 match d with
 |some d=>match nth st d with
  |some s0=>.done (sY (fun s=>{ s with v:=.one (.ref d 0 (s0.ag+1) .full),bT:=[some A],ag:=s0.ag+1 }) st d)
  |none=>.fail
 |none=>.fail
def kL (st:St) (d:Option Nat) (cs:List CV):N:=
 match d with
 |some d=>match nth st d with
  |some s0=>.done (sY (fun s=>{ s with v:=.one (.ptr d (s0.bg+1) 0),box:=some cs,bg:=s0.bg+1 }) st d)
  |none=>.fail
 |none=>.fail
def ru (r:RT):List CV:=(fW r (wL r)).map fun | .shr _ _=>.gj | c=>c
def jZ (n off:Nat) (cs:List CV):Option (List CV):=
 let l:=(cs.drop off).take n
 bif Nat.beq l.length n then some l else none
def putCells (cs:List CV) (off:Nat) (l:List CV):Option (List CV):=
 bif Nat.ble (off+l.length) cs.length then some (cs.take off++l++cs.drop (off+l.length)) else none
def Y1 (T:oB) (t:Nat) (l:List CV):V:=bif T.agg t then .agg l else (match l with | [c]=>.one c | _=>.one .bad)
def zV (T:oB) (st:St) (d:Option Nat) (t:Nat) (a:V):N:=
 match a,T.cells t with
 |.one (.ptr b g off),some n=>match fM st b g with
  |some cs=>match jZ n off cs with
   |some l=>.done (bQ st d (Y1 T t l))
   |none=>.fail
  |none=>.fail
 |.one (.oZ r x off),some n=>match jZ n off (fW r x) with
  |some l=>.done (bQ st d (Y1 T t l))
  |none=>.fail
 |.one (.xJ r xs off),some n=>.row r xs[0]? fun x=>match jZ n off (fW r x) with
  |some l=>.done (bQ st d (Y1 T t l))
  |none=>.fail
 |.one (.M6 a j g i off),some n=>match cE st a j g with
  |some A=>.row A.r A.xs[i]? fun x=>match jZ n off (fW A.r x) with
   |some l=>.done (bQ st d (Y1 T t l))
   |none=>.fail
  |none=>.fail
 |_,_=>.fail
def vg (r:RT) (x:aO r):(off:Nat)→List CV→Option (aO r)
 |_,[]=>some x
 |off,c::l=>match vg r x (off+1) l with
  |some y=>oL r y off c
  |none=>none
def ns.put (A:ns) (ys:List (aO A.r)):ns:={ A with xs:=ys }
def xf (T:oB) (st:St) (t:Nat) (a v:V):N:=
 match a,T.cells t with
 |.one (.ptr b g off),some n=>match fM st b g with
  |some cs=>bif v.zU&&Nat.beq v.cells.length n then (match putCells cs off v.cells with
   |some l=>.done (sY (fun s=>{ s with box:=some l }) st b)
   |none=>.fail) else .fail
  |none=>.fail
 |.one (.M6 a j g i off),some n=>match cE st a j g with
  |some A=>bif v.zU&&A.own&&Nat.beq v.cells.length n&&Nat.blt 0 n then
    (bif Nat.beq n A.r.width&&A.r.pE&&Nat.beq off 0 then
     (rowOf st A.r v.cells fun x m=>bif m.all (fun p => !(Nat.beq p.1 a&&Nat.beq p.2 j)) then
      .row A.r A.xs[i]? (fun _=>.done (eX (freeze st m) a j (some (A.put (A.xs.set i x))))) else .fail)
    else .row A.r A.xs[i]? fun x=>match vg A.r x off v.cells with
     |some y=>.done (eX st a j (some (A.put (A.xs.set i y))))
     |none=>.fail) else .fail
  |none=>.fail
 |_,_=>.fail
def sZ (T:oB) (st:St) (d:Option Nat) (t:Nat) (x ix:V):N:=
 match T.elem t,x,ix with
 |some (q,_),.one (.shr r xs),.one (.int _ i)=>match ef q xs with
  |some ys=>.br (decide (0≤i)) (.row q ys[i.toNat]? fun y=>.done (bQ st d (.one (.oZ q y 0)))) .fail
  |none=>.fail
 |some (q,_),.one (.ref a j g w),.one (.int _ i)=>match cE st a j g with
  |some A=>match ef q A.xs with
   |some ys=>(match A.own with
    |false=>.br (decide (0≤i)) (.row q (w.app ys)[i.toNat]? fun y=>.done (bQ st d (.one (.oZ q y 0)))) .fail
    |true=>.br (decide (0≤i)) (.br (Nat.blt i.toNat (w.app ys).length) (.done (bQ st d (.one (.M6 a j g (w.idx i.toNat) 0)))) .fail) .fail)
   |none=>.fail
  |none=>.fail
 |_,_,_=>.fail
def rz (n:Nat) (lo hi:Option V) (k:Option Nat→Option Nat→N):N:=
 let Pq (l:Option Nat):N:=match hi with
  |none=>k l none
  |some (.one (.int _ h))=>.br (decide ((match l with | some l=>(l:Int) | none=>0)≤h)) (.br (decide (h≤n)) (k l (some h.toNat)) .fail) .fail
  |_=>.fail
 match lo with
 |none=>Pq none
 |some (.one (.int _ l))=>.br (decide (0≤l)) (match hi with
  |none=>.br (decide (l≤n)) (Pq (some l.toNat)) .fail
  |_=>Pq (some l.toNat)) .fail
 |_=>.fail
def Ps (n:Nat):Option Nat→Option Nat→View
 |none,none=>.full
 |some l,none=>.from l
 |none,some h=>.sub 0 h
 |some l,some h=>.sub l (h-l)
def View.of (w:View) (n:Nat) (lo hi:Option Nat):View:=
 match lo,hi with
 |none,none=>w
 |some l,none=>(match w with | .full=>.from l | .from a=>.from (a+l) | .sub a m=>.sub (a+l) (m-l))
 |none,some h=>.sub w.lo h
 |some l,some h=>.sub (w.lo+l) (h-l)
def yn (T:oB) (st:St) (d:Option Nat) (t:Nat) (x:V) (lo hi:Option V):N:=
 match x with
 |.one (.str s)=>match T.kind t with
  |some .str=>rz s.size lo hi fun l h=>
   .done (bQ st d (.one (.str (s.extract (l.getD 0) (h.getD s.size)))))
  |_=>.fail
 |.one .gj=>match T.elem t with
  |some _=>rz 0 lo hi fun _ _=>.done (bQ st d (.one .gj))
  |none=>.fail
 |.one (.shr r xs)=>match T.elem t with
  |some (q,_)=>match ef q xs with
   |some ys=>rz ys.length lo hi fun l h=>.done (bQ st d (.one (.shr q ((Ps ys.length l h).app ys))))
   |none=>.fail
  |none=>.fail
 |.one (.ref a j g w)=>match T.elem t,cE st a j g with
  |some (q,_),some A=>match ef q A.xs with
   |some ys=>rz (w.app ys).length lo hi fun l h=>.done (bQ st d (.one (.ref a j g (w.of (w.app ys).length l h))))
   |none=>.fail
  |_,_=>.fail
 |_=>.fail
def LL (T:oB) (st:St) (d:Option Nat) (t:Nat) (x:V):N:=
 match x with
 |.one (.str s)=>match T.kind t with
  |some .str=>.done (bQ st d (.one (.int .i64 s.size)))
  |_=>.fail
 |.one .gj=>match T.elem t with
  |some _=>.done (bQ st d (.one (.int .i64 0)))
  |none=>.fail
 |.one (.shr _ xs)=>match T.elem t with
  |some _=>.done (bQ st d (.one (.int .i64 xs.length)))
  |none=>.fail
 |.one (.ref a j g w)=>match T.elem t,cE st a j g with
  |some _,some A=>.done (bQ st d (.one (.int .i64 (w.app A.xs).length)))
  |_,_=>.fail
 |_=>.fail
def LM (T:oB) (st:St) (d:Option Nat) (t:Nat) (x y:V):N:=
 match T.elem t with
 |none=>.fail
 |some (r,bytes)=>
  let out (xs:List (aO r)) (used:List (Nat×Nat)):N:=
   match y with
   |.one c=>o7 st r c fun ys=>
     .br (Nat.ble ((xs.length+ys.length)*bytes) lim)
      (gk (used.foldl (fun s p=>eX s p.1 p.2 none) st) d { r:=r,own:=true,xs:=xs++ys }) .fail
   |_=>.fail
  match x with
  |.one .gj=>out [] []
  |.one (.ref a j g w)=>match cE st a j g with
   |some A=>bif A.own then (match ef r A.xs with | some xs=>out (w.app xs) [(a,j)] | none=>.fail) else .fail
   |none=>.fail
  |_=>.fail
def Pt (T:oB) (st:St) (t:Nat) (x:V):N:=
 match T.elem t with
 |none=>.fail
 |some (r,_)=>
  match x with
  |.one .gj=>.done st
  |.one (.ref a j g (.from k))=>match cE st a j g with
   |some A=>bif A.own&&(A.md.is .sh && !A.r.pE) then (match ef r A.xs with
    |some _=>.br (Nat.blt 0 (A.xs.length-k)) (.done (eX st a j (some (A.put (A.xs.take k++List.replicate (A.xs.length-k) (wL A.r)))))) (.done st)
    |none=>.fail) else .fail
   |none=>.fail
  |_=>.fail
def U5 (T:oB) (st:St) (d:Option Nat) (t:Nat) (len cap:V):N:=
 match T.elem t,len,cap with
 |some (r,bytes),.one (.int .i64 n),.one (.int .i64 c)=>
  .br (decide (n=c)) (.br (decide (0≤n)) (.br (Nat.ble (n.toNat*bytes) lim)
   (gk st d { r:=r,own:=true,xs:=List.replicate n.toNat (wL r),md:=.sh }) .fail) .fail) .fail
 |_,_,_=>.fail
def Bv (st:St) (r:RT):(i:Nat)→List (Nat×V)→(k:List (aO r)→List (Nat×Nat)→N)→N
 |_,[],k=>k [] []
 |i,(p,v)::l,k=>bif v.zU&&Nat.beq p i then rowOf st r v.cells fun x m=>Bv st r (i+1) l fun xs m'=>k (x::xs) (m++m') else .fail
def Ar (T:oB) (st:St) (d:Option Nat) (t len:Nat) (parts:List (Nat×V)):N:=
 match T.elem t with
 |some (r,_)=>bif Nat.beq parts.length len&&Nat.ble (len*r.width) 16777216 then
   Bv st r 0 parts fun xs m=>gk (freeze st m) d { r:=r,own:=true,xs:=xs }
  else .fail
 |none=>.fail
def rB (T:oB) (t:Nat) (cs:List CV):List (Nat×V)→Option (List CV)
 | []=>some cs
 |(f,v)::l=>match T.off t f,T.fsz t f with
  |some o,some s=>bif v.zU&&Nat.beq v.cells.length s then (match putCells cs o v.cells with
   |some sj=>rB T t sj l
   |none=>none) else none
  |_,_=>none
def View.isFull:View→Bool
 |.full=>true
 |_=>false
def ld (st:St) (own:Bool):CV→Option (OV×Option Lb×List (Nat×Nat))
 |.int q n=>some (.int q n,none,[])
 |.bool b=>some (.bool b,none,[])
 |.str s=>some (.str s,none,[])
 |.gj=>some (.gj,none,[])
 |.shr r xs=>some (.shr r xs,none,[])
 |.nn r xs=>some (.shr r xs,none,[])
 |.ref a j g w=>match cE st a j g with
  |some A=>bif A.md.Si then none else bif own&&A.own&&(A.md.is .sh||w.isFull) then some (.own { A with xs:=w.app A.xs },some (.sp a j),[]) else some (.shr A.r (w.app A.xs),none,[(a,j)])
  |none=>none
 |.oZ r x off=>bif Nat.beq off 0 then some (.oZ r [x],none,[]) else none
 |.xJ r xs off=>bif Nat.beq off 0 then some (.oZ r xs,none,[]) else none
 |.fn f rs xs=>some (.fn f rs xs,none,[])
 |_=>none
def js (st:St) (own:Bool):List CV→Option (List OV×List (Option Lb)×List (Nat×Nat))
 | []=>some ([],[],[])
 |c::l=>match ld st own c,js st own l with
  |some (o,u,r),some (os,us,rs)=>some (o::os,u::us,r++rs)
  |_,_=>none
def dJ:List (Option Lb)→List Lb
 | []=>[]
 |some l::ls=>l::dJ ls
 |none::ls=>dJ ls
def Pm.rj:Pm→Bool
 |.own=>true
 |_=>false
def U7 (st:St):CV→Bool
 |.ref a j g w=>(match w with | .full=>true | _=>false)&&(match cE st a j g with | some A=>A.own | none=>false)
 |_=>true
def jE (st:St) (m:Pm):V→Option (AV×List Lb×List Lb×List (Nat×Nat))
 |.one (.ptr b g off)=>match fM st b g with
  |some cs=>(match js st true cs with
   |some (os,u,r)=>bif Nat.beq off 0 then some (.box os,.box b::dJ u,dJ u,r) else none
   |none=>none)
  |none=>none
 |.one (.ref a j g w)=>match m with
  |.io=>(match w,cE st a j g with
   |.full,some A=>bif A.own && !A.md.Si then some (.io A,[.sp a j],[],[]) else none
   |_,_=>none)
  |m=>match js st m.rj [.ref a j g w] with
   |some (os,u,r)=>some (.val false os,dJ u,dJ u,r)
   |none=>none
 |.one c=>match js st false [c] with
  |some (os,u,r)=>some (.val false os,dJ u,dJ u,r)
  |none=>none
 |.agg cs=>match m with
  |.dR=>(match js st true cs with
   |some (os,u,r)=>bif cs.all (U7 st) then some (.dR os,dJ u,[],r) else none
   |none=>none)
  |m=>match js st m.rj cs with
   |some (os,u,r)=>some (.val true os,dJ u,dJ u,r)
   |none=>none
 |.qd _=>none
def oM (st:St):List (Pm×V)→Option (List AV×List Lb×List Lb×List (Nat×Nat))
 | []=>some ([],[],[],[])
 |(m,v)::l=>match jE st m v,oM st l with
  |some (a,u,q,r),some (as,us,qs,rs)=>some (a::as,u++us,q++qs,r++rs)
  |_,_=>none
def yo:List Lb→Bool
 | []=>true
 |x::l=>l.all (fun y => !(Lb.same x y))&&yo l
def apart (used:List Lb) (reads:List (Nat×Nat)):Bool:=
 reads.all fun p=>used.all fun q => !(Lb.same q (.sp p.1 p.2))
def sk (st:St):List Lb→St
 | []=>st
 |.sp a j::l=>sk (eX st a j none) l
 |_::l=>sk st l
def OV.plain:OV→Bool
 |.own A => !A.r.pE
 |.shr _ _=>false
 |.oZ _ _=>false
 |.fn _ _ _=>false
 |_=>true
def XV.plain:XV→Bool
 |.io A => !A.r.pE
 |.box os=>os.all OV.plain
 |.dR As=>As.all fun | some A => !A.r.pE | none=>true
def Res.plain (r:Res):Bool:=
 r.outs.all (fun o=>o.An.all OV.plain)&&r.exts.all XV.plain
def GY (st:St):(j:Nat)→List CV→List (Option ns)→Option St
 |_,[],_=>some st
 |j,.ref a k g _::cs,As=>match nth As j,cE st a k g with
  |some (some B),some _=>GY (eX st a k (some B)) (j+1) cs As
  |_,_=>none
 |j,_::cs,As=>GY st (j+1) cs As
def wM (st:St) (m:Pm) (v:V) (xs:List XV):Option (St×List XV):=
 match v with
 |.one (.ptr b g _)=>match xs with
  |.box os::xs=>(match nth st b,fM st b g with
   |some s0,some _=>some (sY (fun s=>{ s with box:=some (bV b (s0.ag+1) 0 os),bT:=cj os,ag:=s0.ag+1 }) st b,xs)
   |_,_=>none)
  |_=>none
 |.one (.ref a j g _)=>match m with
  |.io=>(match xs,cE st a j g with
   |.io A::xs,some _=>some (eX st a j (some A),xs)
   |_,_=>none)
  |_=>some (st,xs)
 |.agg cs=>match m with
  |.dR=>(match xs with
   |.dR As::xs=>(GY st 0 cs As).map fun bP=>(bP,xs)
   |_=>none)
  |_=>some (st,xs)
 |_=>some (st,xs)
def yp (st:St):List (Pm×V)→List XV→Option St
 | [],[]=>some st
 | [],_=>none
 |(m,v)::l,xs=>match wM st m v xs with
  |some (bP,xs')=>yp bP l xs'
  |none=>none
def C9 (a b c:Pm):List V→List (Pm×V)
 | []=>[]
 | [x]=>[(a,x)]
 | [x,y]=>[(a,x),(b,y)]
 |x::y::z::l=>(a,x)::(b,y)::(c,z)::l.map fun v=>(.shr,v)
def refsOf:List CV→List (Nat×Nat)
 | []=>[]
 |.ref a j _ _::l=>(a,j)::refsOf l
 |_::l=>refsOf l
def Jh (st:St):List (Pm×V)→List (Nat×Nat)
 | []=>[]
 |(.own,.one (.ptr b g _))::l=>(match fM st b g with | some cs=>refsOf cs | none=>[])++Jh st l
 |(.pick q,.one (.ptr b g _))::l=>(match fM st b g with | some cs=>refsOf (q.filterMap (nth cs)) | none=>[])++Jh st l
 |_::l=>Jh st l
def qf (u:List Lb) (a:Nat):Bool:=u.any fun | .sp b _=>Nat.beq b a | _=>false
def tX (u:List Lb):Nat→St→St
 |_,[]=>[]
 |a,s::l=>(bif qf u a then { s with ep:=s.ep+1 } else s)::tX u (a+1) l
def U9 (st:St) (d:Option Nat) (Gu:Ap) (ms:List (Pm×V)) (fin:St→N):N:=
  match oM st ms with
  |some (fS,used,ah8,reads)=>bif yo used&&apart used reads then (match Gu fS with
   |some A=>.row A.r A.o fun x=>(match yp (sk (tX used 0 (bif (A.res x).plain then st else freeze st reads)) ah8) ms (A.res x).exts with
    |some bP=>(match Aq bP d (A.res x).outs with
     |some abT=>fin abT
     |none=>.fail)
    |none=>.fail)
   |none=>.fail) else .fail
  |none=>.fail
def aaA (st:St) (d:Option Nat) (Gu:Ap) (ms:List (Pm×V)):N:=U9 st d Gu ms .done
def FH (st:St):CV→CV
 |.ref a j g .full=>match cE st a j g with
  |some A=>bif A.own then .ref a j g .full else bif A.md.is .sh then .shr A.r A.xs else .ref a j g .full
  |none=>.ref a j g .full
 |x=>x
def Va (st:St):V→V
 |.one x=>.one (FH st x)
 |.agg cs=>.agg (cs.map (FH st))
 |x=>x
def aaB (st:St) (s:Sl):Sl:={ s with v:=Va st s.v,box:=s.box.map fun cs=>cs.map (FH st) }
def yq (st:St):St:=st.map (aaB st)
def Pm.Vb:Pm→Bool
 |.pick _=>true
 |_=>false
def GZ (ms:List (Pm×V)) (st:St):St:=bif ms.any (fun m=>m.1.Vb) then yq st else st
def JX (S:mS) (st:St) (d:Option Nat) (f:FuncId) (args:List V):N:=
 match S f with
 |none=>.fail
 |some (a,b,c,Gu)=>aaA (GZ (C9 a b c args) (freeze st (Jh st (C9 a b c args)))) d Gu (C9 a b c args)
def fX:List CV→Option ((r:RT)×aO r)
 | []=>some ⟨.nil,()⟩
 |.int k n::l=>match fX l with | some ⟨r,x⟩=>some ⟨.cons (.int k) r,(n,x)⟩ | none=>none
 |.bool b::l=>match fX l with | some ⟨r,x⟩=>some ⟨.cons .bool r,(b,x)⟩ | none=>none
 |.str s::l=>match fX l with | some ⟨r,x⟩=>some ⟨.cons .str r,(s,x)⟩ | none=>none
 |.shr q xs::l=>match fX l with | some ⟨r,x⟩=>some ⟨.cons (.sl q) r,(xs,x)⟩ | none=>none
 |_=>none
def iH (st:St) (b:Nat):St:=sY (fun s=>{ s with box:=none }) st b
def rnV (b g:Nat) (r:RT) (x:aO r):V→V
 |.one (.ptr b' g' off)=>bif Nat.beq b' b&&Nat.beq g' g then .one (.oZ r x off) else .one (.ptr b' g' off)
 |v=>v
def qg (st:St) (b g:Nat) (r:RT) (x:aO r):St:=st.map fun s=>{ s with v:=rnV b g r x s.v }
def Y2 (st:St) (t:Nat):Option (St×((r:RT)×List (aO r))):=
 match dI st t with
 |.one (.oZ r x off)=>bif Nat.beq off 0 then some (st,⟨r,[x]⟩) else none
 |.one (.xJ r xs off)=>bif Nat.beq off 0 then some (st,⟨r,xs⟩) else none
 |.one (.ptr b g off)=>match fM st b g with
  |some cs=>bif Nat.beq off 0 then (match fX cs with
   |some ⟨r,x⟩=>some (qg (iH st b) b g r x,⟨r,[x]⟩)
   |none=>none) else none
  |none=>none
 |_=>none
def Cc (st:St):List Operand→Option (St×((rs:RT)×aO rs))
 | []=>some (st,⟨.nil,()⟩)
 |.tmp t::l=>match Y2 st t with
  |some (bP,⟨r,ys⟩)=>(match Cc bP l with
   |some (abT,⟨rs,xs⟩)=>some (abT,⟨.cons (.sl r) rs,(ys,xs)⟩)
   |none=>none)
  |none=>none
 |_=>none
def zW:(rs:RT)→aO rs→List V
 |.nil,_=>[]
 |.cons (.sl r) rs,x=>.one (.xJ r x.1 0)::zW rs x.2
 |.cons _ rs,x=>.one .bad::zW rs x.2
def Rh (y:aO (.cons (.int .u8) .nil)):Int:=y.1
def bytesOf (ys:List (aO (.cons (.int .u8) .nil))):ByteArray:=ys.foldl (fun r y=>r.push (UInt8.ofNat (Rh y).toNat)) ByteArray.empty
def Ri (T:oB) (S:mS) (st:St) (o:Oper):N:=
 match o.op with
 |.move x | .assign x=>.done (bQ st o.dst (pS st x))
 |.pick c a b=>match pS st c with
  |.one (.bool x)=>.br x (.done (bQ st o.dst (pS st a))) (.done (bQ st o.dst (pS st b)))
  |_=>.fail
 |.alloc t=>match T.row t with
  |some r=>kL st o.dst (ru r)
  |none=>.fail
 |.box t x=>match T.cells t with
  |some n=>bif (pS st x).zU&&Nat.beq (pS st x).cells.length n then (match (bif T.cap t then fX (pS st x).cells else none) with
   |some ⟨r,y⟩=>.done (bQ st o.dst (.one (.oZ r y 0)))
   |none=>kL st o.dst (pS st x).cells) else .fail
  |none=>.fail
 |.build t parts=>match T.row t,T.agg t with
  |some r,true=>(match rB T t (ru r) (parts.toList.map fun p=>(p.1,pS st p.2)) with
   |some cs=>.done (bQ st o.dst (.agg cs))
   |none=>.fail)
  |_,_=>.fail
 |.buildSlice t len parts=>Ar T st o.dst t len (parts.toList.map fun p=>(p.1,pS st p.2))
 |.load t a=>zV T st o.dst t (pS st a)
 |.store t a v=>(match o.dst with
  |none=>xf T st t (pS st a) (pS st v)
  |some _=>.fail)
 |.nilCheck x=>match pS st x with
  |.one (.ptr b g off)=>(match fM st b g with
   |some _=>.done (bQ st o.dst (.one (.ptr b g off)))
   |none=>.fail)
  |.one (.M6 a j g i off)=>(match cE st a j g with
   |some _=>.done (bQ st o.dst (.one (.M6 a j g i off)))
   |none=>.fail)
  |_=>.fail
 |.binOp op t x y _=>Ac T st o.dst op t (pS st x) (pS st y)
 |.unOp .not _ x=>match pS st x with
  |.one (.bool b)=>.done (bQ st o.dst (.one (.bool (!b))))
  |_=>.fail
 |.convert s t x=>match T.kind s,T.kind t,pS st x with
  |some (.int _),some (.int k),.one (.int _ n)=>.done (bQ st o.dst (.one (.int k (k.wrap n))))
  |some .str,some .str,.one (.str b)=>.done (bQ st o.dst (.one (.str b)))
  |none,some .str,.one c=>(match T.elem s with
   |some (.cons (.int .u8) .nil,_)=>o7 st (.cons (.int .u8) .nil) c fun ys=>.done (bQ st o.dst (.one (.str (bytesOf ys))))
   |_=>.fail)
  |_,_,_=>.fail
 |.makeSlice t l c=>U5 T st o.dst t (pS st l) (pS st c)
 |.slice t x lo hi none=>yn T st o.dst t (pS st x) (lo.map (pS st)) (hi.map (pS st))
 |.fieldAddr t x f=>match pS st x,T.off t f with
  |.one (.ptr b g off),some k=>(match fM st b g with
   |some _=>.done (bQ st o.dst (.one (.ptr b g (off+k))))
   |none=>.fail)
  |.one (.M6 a j g i off),some k=>(match cE st a j g with
   |some _=>.done (bQ st o.dst (.one (.M6 a j g i (off+k))))
   |none=>.fail)
  |.one (.oZ r x off),some k=>.done (bQ st o.dst (.one (.oZ r x (off+k))))
  |.one (.xJ r xs off),some k=>.done (bQ st o.dst (.one (.xJ r xs (off+k))))
  |_,_=>.fail
 |.field t x f=>match pS st x,T.off t f with
  |.agg cs,some k=>bif T.one t f then (match nth cs k with
   |some c=>.done (bQ st o.dst (.one c))
   |none=>.fail) else .fail
  |_,_=>.fail
 |.indexAddr t x i=>sZ T st o.dst t (pS st x) (pS st i)
 |.index t x i=>match T.kind t,pS st x,pS st i with
  |some .str,.one (.str s),.one (.int _ n)=>.br (decide (0≤n)) (.br (decide (n<s.size)) (.done (bQ st o.dst (.one (.int .u8 (LK s n))))) .fail) .fail
  |_,_,_=>.fail
 |.extract t i=>match pS st t with
  |.qd vs=>match nth vs i with
   |some v=>.done (bQ st o.dst v)
   |none=>.fail
  |_=>.fail
 |.call { callee:=.value (.func f),args:=args,argTypes:=_ }=>JX S st o.dst f (args.toList.map (pS st))
 |.call { callee:=.value (.tmp t),args:=args,argTypes:=_ }=>(match dI st t with
  |.one (.fn g rs xs)=>.row rs xs[0]? fun x=>JX S st o.dst g (args.toList.map (pS st)++zW rs x)
  |_=>.fail)
 |.makeFunc (.func g) first BT=>bif first.isEmpty then (match Cc st BT.toList with
  |some (bP,⟨rs,x⟩)=>.done (bQ bP o.dst (.one (.fn g rs [x])))
  |none=>.fail) else .fail
 |.call { callee:=.builtin b,args:=args,argTypes:=ts }=>match b,args.toList,ts.toList with
  |.len,[x],[t]=>LL T st o.dst t (pS st x)
  |.append,[x,y],[t,u]=>bif Nat.beq t u then LM T st o.dst t (pS st x) (pS st y) else .fail
  |.min,[x,y],_=>(match pS st x,pS st y with
   |.one (.int k a),.one (.int _ b)=>.done (bQ st o.dst (.one (.int k (if b<a then b else a))))
   |_,_=>.fail)
  |.max,[x,y],_=>(match pS st x,pS st y with
   |.one (.int k a),.one (.int _ b)=>.done (bQ st o.dst (.one (.int k (if b>a then b else a))))
   |_,_=>.fail)
  |.min,[x,y,z],_=>(match pS st x,pS st y,pS st z with
   |.one (.int k a),.one (.int _ b),.one (.int _ c)=>.done (bQ st o.dst (.one (.int k (if c<(if b<a then b else a) then c else (if b<a then b else a)))))
   |_,_,_=>.fail)
  |.clear,[x],[t]=>(match o.dst with | none=>Pt T st t (pS st x) | some _=>.fail)
  |_,_,_=>.fail
 |_=>.fail
def EH (T:oB) (S:mS) (ops:List Oper) (st:St) (o:Oper):N:=
 match o.guard with
 |none=>Ri T S st o
 |some (j,want)=>match (nth ops j).bind (·.dst) with
  |some d=>match dI st d with
   |.one (.bool b)=>
    let yes (x:Bool):N:=Ri T S (bQ st (some d) (.one (.bool x))) o
    let no (x:Bool):N:=.done (bQ (bQ st (some d) (.one (.bool x))) o.dst (.qd []))
    .br b (bif want then yes true else no true) (bif want then no false else yes false)
   |.qd []=>.done (bQ st o.dst (.qd []))
   |_=>.fail
  |none=>.fail
inductive Ex where
 |normal
 |exit (n:Nat)
 |ret
open Classical in
noncomputable def both {R:Type} (a b:Option R):Option R:=if a=b then a else none
theorem dg {R:Type} (a:Option R):both a a=a:=by unfold both;rw [if_pos rfl]
theorem Sj {R:Type} {a b:Option R} {r:R} (h:both a b=some r):a=some r∧b=some r:=by
 unfold both at h
 split at h
 ·rename_i e;exact ⟨h,e▸h⟩
 ·cases h
section
variable {R:Type} (T:oB) (S:mS)
def Y3 (ops:List Oper):List Oper→St→(St→Option R)→Option R
 | [],st,k=>k st
 |o::r,st,k=>(EH T S ops st o).fold fun bP=>Y3 ops r bP k
inductive Kd where
 |any | take | one | last
inductive Pl where
 |nil
 |op (i:Nat) (kd:Kd) (p:Pl)
 |alt (p q:Pl)
def Pu (st:St) (ms:List (Pm×V)):Bool:=
 match oM st ms with
  |some (_,used,_,_)=>used.isEmpty
  |none=>true
def uU (S:mS) (st:St) (f:FuncId) (args:List V):Bool:=
 match S f with
 |some (a,b,c,_)=>Pu (GZ (C9 a b c args) (freeze st (Jh st (C9 a b c args)))) (C9 a b c args)
 |none=>true
def kindOk (S:mS) (st:St) (o:Oper):Kd→Bool
 |.any=>match o.op with
  |.move _ | .assign _ | .pick _ _ _ | .nilCheck _ | .binOp _ _ _ _ _ | .unOp _ _ _ | .slice _ _ _ _ _ | .fieldAddr _ _ _ | .indexAddr _ _ _ | .index _ _ _ | .extract _ _ | .build _ _ | .field _ _ _=>true
  |.convert _ _ x=>(match pS st x with | .one (.shr _ _)=>false | .one (.nn _ _)=>false | .one (.ref _ _ _ _)=>false | .one .gj=>false | _=>true)
  |.call { callee:=.builtin b,.. }=>(match b with | .len | .min | .max=>true | _=>false)
  |_=>false
 |.take=>match o.op with
  |.load _ _=>true
  |_=>false
 |.one=>match o.op with
  |.store _ _ _=>false
  |.call { callee:=.builtin b,.. }=>(match b with | .len | .min | .max=>true | _=>false)
  |.call { callee:=.value (.func f),args:=args,.. }=>uU S st f (args.toList.map (pS st))
  |.call { callee:=.value (.tmp t),args:=args,.. }=>(match dI st t with
   |.one (.fn g rs xs)=>(match xs[0]? with | some x=>uU S st g (args.toList.map (pS st)++zW rs x) | none=>true)
   |_=>true)
  |_=>true
 |.last=>true
noncomputable def xg (ops:List Oper):Pl→St→(St→Option R)→Option R
 |.nil,st,k=>k st
 |.op i kd r,st,k=>match nth ops i with
  |some o=>bif kindOk S st o kd then (EH T S ops st o).fold fun bP=>xg ops r bP k else none
  |none=>none
 |.alt p q,st,k=>both (xg ops p st k) (xg ops q st k)
abbrev pT (R:Type):=Nat→Code→St→(Ex→St→Option R)→Option R
abbrev m9:=Nat→Pl
noncomputable def gL (D:m9) (L:pT R):Code→St→(Ex→St→Option R)→Option R
 |.skip,st,k=>k .normal st
 |.region _ ops false,st,k=>Y3 T S ops.toList ops.toList st fun bP=>k .normal bP
 |.region id ops true,st,k=>xg T S ops.toList (D id) st fun bP=>k .normal bP
 |.seq a b,st,k=>gL D L a st fun e bP=>match e with
  |.normal=>gL D L b bP k
  |e=>k e bP
 |.cond (.tmp c) a b,st,k=>match dI st c with
  |.one (.bool x)=>bif x then gL D L a (bQ st (some c) (.one (.bool true))) k else gL D L b (bQ st (some c) (.one (.bool false))) k
  |_=>none
 |.block id (.loop b),st,k=>L id b st k
 |.block id b,st,k=>gL D L b st fun e bP=>match e with
  |.exit n=>bif Nat.beq n id then k .normal bP else k (.exit n) bP
  |e=>k e bP
 |.exit id,st,k=>k (.exit id) st
 |.ret,st,k=>k .ret st
 |_,_,_=>none
end
end Go.TM
namespace Go.TM
open Go Go.RowKit
@[simp] theorem amo {α:Type} (n:Nat):nth ([]:List α) n=none:=rfl
theorem nt {α:Type} (l:List α) (n:Nat):nth l n=l[n]?:=by
 induction l generalizing n with
 |nil=>simp
 |cons x l ih=>cases n<;>simp [nth,ih]
theorem qh {α:Type} (f:α→α) (l:List α) (n:Nat):nth (sY f l n) n=(nth l n).map f:=by
 induction l generalizing n with
 |nil=>rfl
 |cons x l ih=>cases n<;>simp [sY,nth,ih]
theorem vh {α:Type} (f:α→α) (l:List α) {n m:Nat} (h:m≠n):nth (sY f l n) m=nth l m:=by
 induction l generalizing n m with
 |nil=>rfl
 |cons x l ih=>
  cases n with
  |zero=>cases m with
   |zero=>exact absurd rfl h
   |succ m=>rfl
  |succ n=>cases m with
   |zero=>rfl
   |succ m=>simp only [sY,nth];exact ih (by omega)
theorem kZ {α:Type} (f:α→α) (l:List α) (n m:Nat):nth (sY f l n) m=if m=n then (nth l m).map f else nth l m:=by
 by_cases h:m=n
 ·subst h;simp [qh]
 ·simp [h,vh f l h]
theorem Vc {α:Type} {l:List α} {n:Nat} {x:α} (h:nth l n=some x):n<l.length:=by
 rw [nt] at h;exact (List.getElem?_eq_some_iff.1 h).1
def Y4 {r:RT} (xs:den (.sl r)):List (aO r):=xs
mutual
def ev (w:World) (ok:Nat→Prop):(t:Ty)→Value→den t→Prop
 |.int k,v,n=>v=.int k n
 |.bool,v,b=>v=.bool b
 |.str,v,s=>v=.string s
 |.sl r,v,xs=>(v=.slice none 0 0∧Y4 xs=[])∨
   ∃a cap,v=.slice (some a) (Y4 xs).length cap∧(Y4 xs).length≤cap∧
    (Y4 xs≠[]→a.spot=none∧a.block<w.heap.size∧ok a.block)∧
    ∀i x,(Y4 xs)[i]?=some x→fx w ok r a.block (a.off+i*r.width) x
def fx (w:World) (ok:Nat→Prop):(r:RT)→(b off:Nat)→aO r→Prop
 |.nil,_,_,_=>True
 |.cons t r,b,off,x=>(∃v,w.cell? ⟨b,off,none⟩=some v∧ev w ok t v x.1)∧fx w ok r b (off+1) x.2
end
theorem rk (w:World) (ok:Nat→Prop) (r:RT) (v:Value) (xs:List (aO r)):ev w ok (.sl r) v xs↔
  ((v=.slice none 0 0∧xs=[])∨∃a cap,v=.slice (some a) xs.length cap∧xs.length≤cap∧
    (xs≠[]→a.spot=none∧a.block<w.heap.size∧ok a.block)∧∀i x,xs[i]?=some x→fx w ok r a.block (a.off+i*r.width) x):=by
 have:=ev.eq_4 w ok v r xs;exact this▸Iff.rfl
theorem yr {w:World} {ok:Nat→Prop} {k:IntKind} {v:Value} {n:Int}:ev w ok (.int k) v n↔v=.int k n:=ev.eq_1 w ok v k n▸Iff.rfl
theorem Bw {w:World} {ok:Nat→Prop} {v:Value} {b:Bool}:ev w ok .bool v b↔v=.bool b:=ev.eq_2 w ok v b▸Iff.rfl
theorem EI {w:World} {ok:Nat→Prop} {v:Value} {s:ByteArray}:ev w ok .str v s↔v=.string s:=ev.eq_3 w ok v s▸Iff.rfl
structure lf (w w':World) (ok Da:Nat→Prop):Prop where
 size:w.heap.size≤w'.heap.size
 block:∀b,b<w.heap.size→ok b→w'.heap[b]?=w.heap[b]?
 ok:∀b,b<w.heap.size→ok b→Da b
theorem Rj {w:World} {a:Addr} {v:Value} (h:w.cell? a=some v):a.block<w.heap.size:=World.block_lt_of_cell? w a h
mutual
theorem ev.stays {w w':World} {ok Da:Nat→Prop} (h:lf w w' ok Da):(t:Ty)→(v:Value)→(x:den t)→ev w ok t v x→ev w' Da t v x
 |.int _,_,_,hr=>by unfold ev at hr ⊢;exact hr
 |.bool,_,_,hr=>by unfold ev at hr ⊢;exact hr
 |.str,_,_,hr=>by unfold ev at hr ⊢;exact hr
 |.sl r,v,xs,hr=>by
  unfold ev at hr ⊢;rcases hr with hr | ⟨a,cap,hv,hc,ha,hx⟩
  ·exact .inl hr
  ·refine .inr ⟨a,cap,hv,hc,fun mU => ?_,fun i x hi => ?_⟩
   ·obtain ⟨hs,hb,iN⟩:=ha mU;exact ⟨hs,Nat.lt_of_lt_of_le hb h.size,h.ok _ hb iN⟩
   ·have mU:Y4 xs≠[]:=by intro e;rw [e] at hi;simp at hi
    obtain ⟨hs,hb,iN⟩:=ha mU;exact fx.stays h r _ _ x (h.block _ hb iN) (hx i x hi)
theorem fx.stays {w w':World} {ok Da:Nat→Prop} (h:lf w w' ok Da):(r:RT)→(b off:Nat)→(x:aO r)→w'.heap[b]?=w.heap[b]?→fx w ok r b off x→fx w' Da r b off x
 |.nil,_,_,_,_,_=>by unfold fx;trivial
 |.cons t r,b,off,x,iN,hr=>by
  unfold fx at hr ⊢;obtain ⟨⟨v,hv,hx⟩,hr⟩:=hr;refine ⟨⟨v,?_,ev.stays h t v x.1 hx⟩,fx.stays h r b (off+1) x.2 iN hr⟩;rw [World.cell?_of_block (w:=w) iN];exact hv
end
inductive Loc where
 |nil
 |at (b off cap:Nat)
structure Cz where
 bx:Nat→Nat
 lc:Nat→Nat→Loc
 own:Nat→Option Lb
def Cz.ok (c:Cz) (b:Nat):Prop:=c.own b=none
def jW (st:St) (s:Nat):Nat:=match nth st s with | some x=>x.bg | none=>0
def gJ (st:St) (s:Nat):Nat:=match nth st s with | some x=>x.ag | none=>0
def o8 (l:Loc) (W lo n:Nat) (v:Value):Prop:=
 match l with
 |.nil=>v=.slice none 0 0∧n=0
 |.at b off cap=>∃a c,v=.slice (some a) n c∧n≤c∧lo+c≤cap∧(c≠0→a=⟨b,off+lo*W,none⟩)
def dZ (c:Cz) (w:World) (l:Lb) (A:ns) (b off:Nat):Prop:=
 match A.md with
 |.sh=>∀(i:Nat) x,A.xs[i]?=some x→fx w c.ok A.r b (off+i*A.r.width) x
theorem dZ.go {c c':Cz} {w w':World} {l l':Lb} {A:ns} {b off:Nat} (h:dZ c w l A b off) (hs:A.md=.sh→lf w w' c.ok c'.ok) (hb:w'.heap[b]?=w.heap[b]?)
  (hd:A.md≠.sh→∀k,c.own k=some l→w'.heap[k]?=w.heap[k]?∧c'.own k=some l'):dZ c' w' l' A b off:=by
 unfold dZ at h ⊢
 cases hm:A.md with
 |sh=>rw [hm] at h;exact fun i x hx=>fx.stays (hs hm) _ _ _ _ hb (h i x hx)
theorem dZ.sh {c:Cz} {w:World} {l:Lb} {A:ns} {b off:Nat} (hm:A.md=.sh):dZ c w l A b off↔∀(i:Nat) x,A.xs[i]?=some x→fx w c.ok A.r b (off+i*A.r.width) x:=by
 unfold dZ;rw [hm]
def JY (w:World) (ok:Nat→Prop) (r:RT) (v:Value) (xs:List (aO r)):Prop:=
 ∃b o,v=.pointer (some ⟨b,o,none⟩)∧b<w.heap.size∧ok b∧∀x,xs[0]?=some x→fx w ok r b o x
def yt (w:World) (ok:Nat→Prop):(rs:RT)→List Value→aO rs→Prop
 |.nil,vs,_=>vs=[]
 |.cons (.sl r) rs,vs,x=>∃v l,vs=v::l∧JY w ok r v (Y4 x.1)∧yt w ok rs l x.2
 |.cons _ _,_,_=>False
def FnAt (w:World) (ok:Nat→Prop) (g:Nat) (rs:RT) (v:Value) (xs:List (aO rs)):Prop:=
 ∃BT,v=.func (.func g) #[] BT∧∀x,xs[0]?=some x→yt w ok rs BT.toList x
theorem JY.stays {w w':World} {ok Da:Nat→Prop} (h:lf w w' ok Da) {r:RT} {v:Value} {xs:List (aO r)} (hp:JY w ok r v xs):JY w' Da r v xs:=by
 obtain ⟨b,o,h1,h2,h3,h4⟩:=hp;exact ⟨b,o,h1,Nat.lt_of_lt_of_le h2 h.size,h.ok b h2 h3,fun x hx=>fx.stays h r b o x (h.block b h2 h3) (h4 x hx)⟩
theorem yt.stays {w w':World} {ok Da:Nat→Prop} (h:lf w w' ok Da):(rs:RT)→(vs:List Value)→(x:aO rs)→yt w ok rs vs x→yt w' Da rs vs x
 |.nil,_,_,hc=>hc
 |.cons (.sl r) rs,vs,x,hc=>by
  obtain ⟨v,l,h1,h2,h3⟩:=hc;exact ⟨v,l,h1,h2.stays h,yt.stays h rs l x.2 h3⟩
 |.cons (.int _) _,_,_,hc=>hc.elim
 |.cons .bool _,_,_,hc=>hc.elim
 |.cons .str _,_,_,hc=>hc.elim
theorem FnAt.stays {w w':World} {ok Da:Nat→Prop} (h:lf w w' ok Da) {g:Nat} {rs:RT} {v:Value} {xs:List (aO rs)} (hf:FnAt w ok g rs v xs):FnAt w' Da g rs v xs:=by
 obtain ⟨BT,h1,h2⟩:=hf;exact ⟨BT,h1,fun x hx=>yt.stays h rs _ x (h2 x hx)⟩
def qi (c:Cz) (st:St) (w:World):CV→Value→Prop
 |.bad,_=>True
 |.int k n,v=>v=.int k n
 |.bool b,v=>v=.bool b
 |.str s,v=>v=.string s
 |.gj,v=>v=.slice none 0 0
 |.Pn,v=>v=.pointer none
 |.shr r xs,v=>ev w c.ok (.sl r) v xs
 |.nn r xs,v=>ev w c.ok (.sl r) v xs∧v≠.slice none 0 0
 |.ref a j g vw,v=>v.oneCell'=true∧g≤gJ st a∧∀A,cE st a j g=some A→o8 (c.lc a j) A.r.width vw.lo (vw.app A.xs).length v
 |.ptr b g off,v=>v.oneCell'=true∧g≤jW st b∧∀cs,fM st b g=some cs→v=.pointer (some ⟨c.bx b,off,none⟩)
 |.M6 a j g i off,v=>v.oneCell'=true∧g≤gJ st a∧∀A,cE st a j g=some A→i<A.xs.length∧∃b o cap,c.lc a j=.at b o cap∧v=.pointer (some ⟨b,o+i*A.r.width+off,none⟩)
 |.oZ r x off,v=>∃b o,v=.pointer (some ⟨b,o+off,none⟩)∧b<w.heap.size∧c.ok b∧fx w c.ok r b o x
 |.xJ r xs off,v=>∃b o,v=.pointer (some ⟨b,o+off,none⟩)∧b<w.heap.size∧c.ok b∧∀x,xs[0]?=some x→fx w c.ok r b o x
 |.fn g rs xs,v=>FnAt w c.ok g rs v xs
def iO (c:Cz) (st:St) (w:World) (cs:List CV) (vs:List Value):Prop:=
 cs.length=vs.length∧∀(i:Nat) x v,cs[i]?=some x→vs[i]?=some v→qi c st w x v
def Db (c:Cz) (st:St) (w:World):V→Value→Prop
 |.one x,v=>qi c st w x v
 |.agg cs,v=>∃vs,v=.agg vs∧iO c st w cs vs.toList
 |.qd _,_=>False
def hU (c:Cz) (st:St) (w:World):V→Value→Prop
 |.qd us,v=>∃vs,v=.tuple vs∧us.length=vs.size∧∀(i:Nat) x y,us[i]?=some x→vs[i]?=some y→Db c st w x y
 |x,v=>Db c st w x v
def Au (c:Cz) (st:St) (w:World) (s:Nat) (cs:List CV):Prop:=
 c.own (c.bx s)=some (.box s)∧∃vs ty,w.heap[c.bx s]?=some (.cells vs ty (0,0))∧iO c st w cs vs.toList
def fy (c:Cz) (w:World) (s j:Nat) (A:ns):Prop:=
 match c.lc s j with
 |.nil=>A.xs=[]
 |.at b off cap=>(match A.own with | true=>c.own b=some (.sp s j) | false=>c.own b=none)∧A.xs.length≤cap∧
   (∃cur ty,w.heap[b]?=some (.cells cur ty (0,0))∧off+cap*A.r.width≤cur.size)∧
   dZ c w (.sp s j) A b off
inductive Sk where
 |arr (a j g W n:Nat) (l:Loc)
 |box (b g rn:Nat)
def Y5 (c:Cz) (st:St):Sk→Prop
 |.arr a j g W n l=>g≤gJ st a∧∀A,cE st a j g=some A→A.r.width=W∧A.xs.length=n∧c.lc a j=l
 |.box b g rn=>g≤jW st b∧∀cs,fM st b g=some cs→c.bx b=rn
structure Mu where
 m:Nat→Prop
 ok:Nat→Prop
 an:List Sk
structure Rel (w0:World) (mu:Mu) (c:Cz) (st:St) (a:Act) (w:World):Prop where
 je:∀t,hU c st w (dI st t) (a.eval (.tmp t))
 boxes:∀s sl cs,nth st s=some sl→sl.box=some cs→Au c st w s cs
 bT:∀s j sl A,nth st s=some sl→nth sl.bT j=some (some A)→fy c w s j A
 owned:∀b l,c.own b=some l→b<w.heap.size∧(l=.out∨w0.heap.size≤b∨mu.m b)
 free:∀b,b<w0.heap.size→c.own b=none→mu.m b∨mu.ok b
 kept:w.os=w0.os∧w.tape=w0.tape∧w.output=w0.output∧w0.heap.size≤w.heap.size
 old:∀k,k<w0.heap.size→¬mu.m k→w.heap[k]?=w0.heap[k]?
 plain:a.defers=[]
 hY:∀p∈mu.an,Y5 c st p
end Go.TM
namespace Go.TM
open Go Go.RowKit
theorem bI {α:Type} {b:Bool} {x:Option α} {y:α} (h:(bif b then x else none)=some y):b=true∧x=some y:=by
 cases b
 ·simp at h
 ·exact ⟨rfl,h⟩
theorem jt {b:Bool} {x:N} {y:St} (h:(bif b then x else N.fail).val=some y):b=true∧x.val=some y:=by
 cases b
 ·simp [N.val] at h
 ·exact ⟨rfl,h⟩
theorem dB {st:St} {a j g:Nat} {A:ns} (h:cE st a j g=some A):∃sl,nth st a=some sl∧sl.ag=g∧nth sl.bT j=some (some A):=by
 unfold cE at h
 cases hs:nth st a with
 |none=>simp [hs] at h
 |some sl=>
  simp only [hs] at h;obtain ⟨h1,h2⟩:=bI h;refine ⟨sl,rfl,Nat.eq_of_beq_eq_true h1,?_⟩
  cases hj:nth sl.bT j with
  |none=>simp [hj] at h2
  |some o=>cases o with
   |none=>simp [hj] at h2
   |some B=>simp [hj] at h2;rw [h2]
theorem j5 {st:St} {b g:Nat} {cs:List CV} (h:fM st b g=some cs):∃sl,nth st b=some sl∧sl.bg=g∧sl.box=some cs:=by
 unfold fM at h
 cases hs:nth st b with
 |none=>simp [hs] at h
 |some sl=>
  simp only [hs] at h;obtain ⟨h1,h2⟩:=bI h;exact ⟨sl,rfl,Nat.eq_of_beq_eq_true h1,h2⟩
theorem View.Pv {r s:RT} (w:View) (xs:List (aO r)) (ys:List (aO s)) (h:xs.length=ys.length):(w.app xs).length=(w.app ys).length:=by
 cases w<;>simp [View.app,h]
structure Fw (c:Cz) (st:St) (w:World) (c':Cz) (bP:St) (w':World):Prop where
 stays:lf w w' c.ok c'.ok
 refs:∀a j g A',g≤gJ st a→cE bP a j g=some A'→∃A,cE st a j g=some A∧A'.r.width=A.r.width∧A'.xs.length=A.xs.length∧c'.lc a j=c.lc a j∧
  (wD bP a=wD st a→A'=A∧∀b o cap,c.lc a j=.at b o cap→w'.heap[b]?=w.heap[b]?)
 G0:∀b g sj,g≤jW st b→fM bP b g=some sj→(∃cs,fM st b g=some cs)∧c'.bx b=c.bx b
 gA:∀a,gJ st a≤gJ bP a
 gB:∀b,jW st b≤jW bP b
 gE:∀a,wD st a≤wD bP a
theorem Fw.Y6 {c:Cz} {st:St} {w:World} {c':Cz} {bP:St} {w':World} (h:Fw c st w c' bP w') {x:CV} {v:Value} (hr:qi c st w x v):qi c' bP w' x v:=by
 cases x with
 |bad=>trivial
 |int k n=>exact hr
 |bool b=>exact hr
 |str s=>exact hr
 |gj=>exact hr
 |Pn=>exact hr
 |shr r xs=>exact ev.stays h.stays _ _ _ hr
 |nn r xs=>exact ⟨ev.stays h.stays _ _ _ hr.1,hr.2⟩
 |ref a j g vw=>
  refine ⟨hr.1,Nat.le_trans hr.2.1 (h.gA a),fun A' iy => ?_⟩;obtain ⟨A,hA,hw,hl,nk,_⟩:=h.refs a j g A' hr.2.1 iy;have:=hr.2.2 A hA;rw [nk,hw,View.Pv vw A'.xs A.xs hl];exact this
 |ptr b g off=>
  refine ⟨hr.1,Nat.le_trans hr.2.1 (h.gB b),fun cs Ao => ?_⟩;obtain ⟨⟨UL,h0⟩,hb⟩:=h.G0 b g cs hr.2.1 Ao;rw [hb];exact hr.2.2 UL h0
 |M6 a j g i off=>
  refine ⟨hr.1,Nat.le_trans hr.2.1 (h.gA a),fun A' iy => ?_⟩;obtain ⟨A,hA,hw,hl,nk,_⟩:=h.refs a j g A' hr.2.1 iy;have:=hr.2.2 A hA;rw [nk,hw,hl];exact this
 |oZ r x off=>
  obtain ⟨b,o,hv,hb,iN,hx⟩:=hr;exact ⟨b,o,hv,Nat.lt_of_lt_of_le hb h.stays.size,h.stays.ok b hb iN,fx.stays h.stays r b o x (h.stays.block b hb iN) hx⟩
 |xJ r xs off=>
  obtain ⟨b,o,hv,hb,iN,hx⟩:=hr;exact ⟨b,o,hv,Nat.lt_of_lt_of_le hb h.stays.size,h.stays.ok b hb iN,fun x Rk=>fx.stays h.stays r b o x (h.stays.block b hb iN) (hx x Rk)⟩
 |fn g rs xs=>exact FnAt.stays h.stays hr
theorem Fw.Y7 {c:Cz} {st:St} {w:World} {c':Cz} {bP:St} {w':World} (h:Fw c st w c' bP w') {cs:List CV} {vs:List Value} (hr:iO c st w cs vs):iO c' bP w' cs vs:=
 ⟨hr.1,fun i x v hx hv=>h.Y6 (hr.2 i x v hx hv)⟩
theorem Fw.Vd {c:Cz} {st:St} {w:World} {c':Cz} {bP:St} {w':World} (h:Fw c st w c' bP w') {x:V} {v:Value} (hr:Db c st w x v):Db c' bP w' x v:=by
 cases x with
 |one x=>exact h.Y6 hr
 |agg cs=>obtain ⟨vs,hv,hl⟩:=hr;exact ⟨vs,hv,h.Y7 hl⟩
 |qd us=>exact hr
theorem Fw.vi {c:Cz} {st:St} {w:World} {c':Cz} {bP:St} {w':World} (h:Fw c st w c' bP w') {x:V} {v:Value} (hr:hU c st w x v):hU c' bP w' x v:=by
 cases x with
 |one x=>exact h.Vd (x:=.one x) hr
 |agg cs=>exact h.Vd (x:=.agg cs) hr
 |qd us=>
  obtain ⟨vs,hv,hl,he⟩:=hr;exact ⟨vs,hv,hl,fun i x y hx hy=>h.Vd (he i x y hx hy)⟩
theorem Fw.hY {c:Cz} {st:St} {w:World} {c':Cz} {bP:St} {w':World} (h:Fw c st w c' bP w') {p:Sk} (hp:Y5 c st p):Y5 c' bP p:=by
 cases p with
 |arr a j g W n l=>
  refine ⟨Nat.le_trans hp.1 (h.gA a),fun A' iy => ?_⟩;obtain ⟨A,hA,hw,hl,nk,_⟩:=h.refs a j g A' hp.1 iy;obtain ⟨h1,h2,h3⟩:=hp.2 A hA;exact ⟨hw.trans h1,hl.trans h2,nk.trans h3⟩
 |box b g rn=>
  refine ⟨Nat.le_trans hp.1 (h.gB b),fun cs Ao => ?_⟩;obtain ⟨⟨UL,h0⟩,hb⟩:=h.G0 b g cs hp.1 Ao;exact hb.trans (hp.2 UL h0)
theorem fy.go {c c':Cz} {w w':World} {s j:Nat} {A:ns} (h:fy c w s j A) (hs:lf w w' c.ok c'.ok) (hl:c'.lc s j=c.lc s j)
  (hb:∀b,c.own b=some (.sp s j)→w'.heap[b]?=w.heap[b]?∧c'.own b=c.own b):fy c' w' s j A:=by
 unfold fy at h ⊢;rw [hl]
 cases hc:c.lc s j with
 |nil=>simpa [hc] using h
 |«at» b off cap=>
  rw [hc] at h;obtain ⟨h1,h2,⟨cur,ty,h3,h4⟩,h5⟩:=h;have dO:b<w.heap.size:=(Array.getElem?_eq_some_iff.1 h3).1;have hwo:w'.heap[b]?=w.heap[b]?∧c'.own b=c.own b:=by
   cases ho:A.own with
   |true=>rw [ho] at h1;exact hb b h1
   |false=>rw [ho] at h1;exact ⟨hs.block b dO h1,(hs.ok b dO h1:c'.own b=none).trans h1.symm⟩
  refine ⟨?_,h2,⟨cur,ty,by rw [hwo.1];exact h3,h4⟩,h5.go (fun _=>hs) hwo.1 (fun _ k hk=>⟨(hb k hk).1,(hb k hk).2.trans hk⟩)⟩;rw [hwo.2];exact h1
theorem Au.go {c:Cz} {st:St} {w:World} {c':Cz} {bP:St} {w':World} (h:Fw c st w c' bP w') {s:Nat} {cs:List CV} (hb:Au c st w s cs)
  (hx:c'.bx s=c.bx s) (ho:c'.own (c.bx s)=c.own (c.bx s)) (hw:w'.heap[c.bx s]?=w.heap[c.bx s]?):Au c' bP w' s cs:=by
 obtain ⟨h1,vs,ty,h2,h3⟩:=hb;exact ⟨by rw [hx,ho];exact h1,vs,ty,by rw [hx,hw];exact h2,h.Y7 h3⟩
theorem Sm (st:St) (d:Option Nat) (v:V) (t:Nat):dI (bQ st d v) t=if d=some t∧t<st.length then v else dI st t:=by
 cases d with
 |none=>simp [bQ]
 |some u=>
  unfold dI bQ;rw [kZ]
  by_cases h:t=u
  ·subst h;simp only [if_true,true_and]
   by_cases hl:t<st.length
   ·have:nth st t=some st[t]:=by rw [nt];exact List.getElem?_eq_getElem hl
    simp [this,hl]
   ·have:nth st t=none:=by rw [nt];exact List.getElem?_eq_none (by omega)
    simp [this,hl]
  ·have:¬(some u=some t∧t<st.length):=by rintro ⟨e,_⟩;exact h (Option.some.inj e).symm
   rw [if_neg h,if_neg this]
theorem vj (st:St) (d:Option Nat) (v:V) (s:Nat):∃f:Sl→Sl,(∀x,(f x).box=x.box∧(f x).bg=x.bg∧(f x).bT=x.bT∧(f x).ag=x.ag∧(f x).ep=x.ep)∧nth (bQ st d v) s=(nth st s).map f:=by
 cases d with
 |none=>exact ⟨id,fun _=>⟨rfl,rfl,rfl,rfl,rfl⟩,by simp [bQ]⟩
 |some t=>
  unfold bQ
  by_cases h:s=t
  ·subst h;exact ⟨fun x=>{ x with v:=v },fun _=>⟨rfl,rfl,rfl,rfl,rfl⟩,qh _ _ _⟩
  ·exact ⟨id,fun _=>⟨rfl,rfl,rfl,rfl,rfl⟩,by simp [vh _ _ h]⟩
theorem Sn (st:St) (d:Option Nat) (v:V) (a j g:Nat):cE (bQ st d v) a j g=cE st a j g:=by
 obtain ⟨f,hf,hn⟩:=vj st d v a;unfold cE;rw [hn]
 cases nth st a with
 |none=>rfl
 |some s=>obtain ⟨_,_,h3,h4,_⟩:=hf s;simp [h3,h4]
theorem Sp (st:St) (d:Option Nat) (v:V) (b g:Nat):fM (bQ st d v) b g=fM st b g:=by
 obtain ⟨f,hf,hn⟩:=vj st d v b;unfold fM;rw [hn]
 cases nth st b with
 |none=>rfl
 |some s=>obtain ⟨h1,h2,_,_,_⟩:=hf s;simp [h1,h2]
theorem Sq (st:St) (d:Option Nat) (v:V) (a:Nat):gJ (bQ st d v) a=gJ st a:=by
 obtain ⟨f,hf,hn⟩:=vj st d v a;unfold gJ;rw [hn]
 cases nth st a with
 |none=>rfl
 |some s=>exact (hf s).2.2.2.1
theorem Ve (st:St) (d:Option Nat) (v:V) (a:Nat):wD (bQ st d v) a=wD st a:=by
 obtain ⟨f,hf,hn⟩:=vj st d v a;unfold wD;rw [hn]
 cases nth st a with
 |none=>rfl
 |some s=>exact (hf s).2.2.2.2
theorem Sr (st:St) (d:Option Nat) (v:V) (a:Nat):jW (bQ st d v) a=jW st a:=by
 obtain ⟨f,hf,hn⟩:=vj st d v a;unfold jW;rw [hn]
 cases nth st a with
 |none=>rfl
 |some s=>exact (hf s).2.1
theorem lf.refl (w:World) (ok:Nat→Prop):lf w w ok ok:=⟨Nat.le_refl _,fun _ _ _=>rfl,fun _ _ h=>h⟩
theorem Fw.bQ (c:Cz) (st:St) (w:World) (d:Option Nat) (v:V):Fw c st w c (bQ st d v) w where
 stays:=lf.refl w _
 refs a j g A' _ h:=⟨A',by rwa [Sn] at h,rfl,rfl,rfl,fun _=>⟨rfl,fun _ _ _ _=>rfl⟩⟩
 G0 b g sj _ h:=⟨⟨sj,by rwa [Sp] at h⟩,rfl⟩
 gA a:=by rw [Sq];exact Nat.le_refl _
 gB a:=by rw [Sr];exact Nat.le_refl _
 gE a:=by rw [Ve];exact Nat.le_refl _
theorem eval_put (a:Act) (d:Option Tmp) (v:Value) (t:Nat):(a.put d v).eval (.tmp t)=if d=some t∧t<a.tmps.size then v else a.eval (.tmp t):=by
 cases d with
 |none=>simp [Act.put]
 |some u=>
  simp only [Act.put,Act.eval,Array.getD_eq_getD_getElem?,Array.getElem?_setIfInBounds]
  by_cases h:u=t
  ·subst h
   by_cases hl:u<a.tmps.size<;>simp [hl]
  ·have:¬(some u=some t∧t<a.tmps.size):=by rintro ⟨e,_⟩;exact h (Option.some.inj e)
   rw [if_neg this];simp [h]
theorem Rel.bQ {w0:World} {mu:Mu} {c:Cz} {st:St} {a:Act} {w:World} (h:Rel w0 mu c st a w) {d:Option Nat} {v:V} {u:Value}
  (hv:hU c st w v u) (hd:∀t,d=some t→t<a.tmps.size):Rel w0 mu c (bQ st d v) (a.put d u) w where
 je t:=by
  have hg:=Fw.bQ c st w d v;rw [Sm,eval_put]
  by_cases hdt:d=some t
  ·have:=hd t hdt
   by_cases hl:t<st.length
   ·rw [if_pos ⟨hdt,hl⟩,if_pos ⟨hdt,this⟩];exact hg.vi hv
   ·have e:dI st t=.one .bad:=by
     unfold dI;rw [nt,List.getElem?_eq_none (by omega)]
    rw [if_neg (fun h=>hl h.2),e];trivial
  ·rw [if_neg (fun h=>hdt h.1),if_neg (fun h=>hdt h.1)];exact hg.vi (h.je t)
 boxes s sl cs hs hb:=by
  obtain ⟨f,hf,hn⟩:=vj st d v s;rw [hn] at hs
  cases hx:nth st s with
  |none=>rw [hx] at hs;simp at hs
  |some s0=>
   rw [hx] at hs;simp at hs;subst hs;rw [(hf s0).1] at hb;exact (h.boxes s s0 cs hx hb).go (Fw.bQ c st w d v) rfl rfl rfl
 bT s j sl A hs hb:=by
  obtain ⟨f,hf,hn⟩:=vj st d v s;rw [hn] at hs
  cases hx:nth st s with
  |none=>rw [hx] at hs;simp at hs
  |some s0=>
   rw [hx] at hs;simp at hs;subst hs;rw [(hf s0).2.2.1] at hb;exact h.bT s j s0 A hx hb
 owned:=h.owned
 free:=h.free
 kept:=h.kept
 old:=h.old
 hY p hp:=(Fw.bQ c st w d v).hY (h.hY p hp)
 plain:=by
  have:=h.plain
  cases d<;>simpa [Act.put] using this
theorem Rel.JZ {w0:World} {mu:Mu} {c:Cz} {st:St} {a:Act} {w:World} (h:Rel w0 mu c st a w) {s j g:Nat} {A:ns} (hA:cE st s j g=some A):fy c w s j A:=by
 obtain ⟨sl,h1,_,h3⟩:=dB hA;exact h.bT s j sl A h1 h3
theorem fy.lt {c:Cz} {w:World} {s j:Nat} {A:ns} (h:fy c w s j A) {b off cap:Nat} (hl:c.lc s j=.at b off cap):b<w.heap.size:=by
 unfold fy at h;rw [hl] at h;obtain ⟨_,_,⟨cur,t,h3,_⟩,_⟩:=h;exact (Array.getElem?_eq_some_iff.1 h3).1
end Go.TM
namespace Go.TM
open Go Go.RowKit
def kX:RT→List Value→Prop
 |.nil,vs=>vs=[]
 |.cons (.int k) r,vs=>∃l,vs=.int k 0::l∧kX r l
 |.cons .bool r,vs=>∃l,vs=.bool false::l∧kX r l
 |.cons .str r,vs=>∃l,vs=.string ByteArray.empty::l∧kX r l
 |.cons (.sl _) r,vs=>∃l,vs=.slice none 0 0::l∧kX r l
def descOf:Ty→TypeDesc→Prop
 |.int k,d=>d=.int k
 |.bool,d=>d=.bool
 |.str,d=>d=.string
 |.sl _,_=>False
structure jF (P:Program) (T:oB):Prop where
 cells:∀t n,T.cells t=some n→(P.info? t).map (·.size)=some n
 agg:∀t n,T.cells t=some n→∃d,P.underlying t=some d∧d.isRow=T.agg t∧(T.agg t=false→n=1)
 off:∀t f k,T.off t f=some k→∃fs J0 n,P.underlying t=some (.struct fs)∧fs[f]?=some J0∧J0.offset=k∧(P.info? J0.type).map (·.size)=some (n+1)
 bld:∀t,T.agg t=true→∃fs dn,P.underlying t=some (.struct fs)∧fs.toList.mapM (fun f=>(P.info? f.type).map fun i=>(f.offset,i.size))=some dn∧
  ∀f o s,T.off t f=some o→T.fsz t f=some s→dn[f]?=some (o,s)
 row:∀t r,T.row t=some r→∃i z,P.info? t=some i∧i.zero=some z∧kX r z.cells.toList
 elem:∀t r b,T.elem t=some (r,b)→∃e i z,P.underlying t=some (.slice e)∧P.info? e=some i∧i.size=r.width∧0<r.width∧i.bytes=b∧0<b∧i.zero=some z∧kX r z.cells.toList
 u8:∀t e b,T.elem t=some (.cons (.int .u8) .nil,b)→P.underlying t=some (.slice e)→P.underlying e=some (.int .u8)
 kind:∀t y,T.kind t=some y→∃d,P.underlying t=some d∧descOf y d
 one:∀t f,T.one t f=true→∃fs J0 d,P.underlying t=some (.struct fs)∧fs[f]?=some J0∧P.underlying J0.type=some d∧d.isRow=false
theorem qi.one {c:Cz} {st:St} {w:World} {x:CV} {v:Value} (h:qi c st w x v) (hs:x.zU=true):v.oneCell'=true:=by
 cases x with
 |bad=>simp [CV.zU] at hs
 |int k n=>simp only [qi] at h;subst h;rfl
 |bool b=>simp only [qi] at h;subst h;rfl
 |str s=>simp only [qi] at h;subst h;rfl
 |gj=>simp only [qi] at h;subst h;rfl
 |Pn=>simp only [qi] at h;subst h;rfl
 |shr r xs=>
  rcases (rk _ _ _ _ _).1 h with ⟨rfl,_⟩ | ⟨a,cap,rfl,_⟩<;>rfl
 |nn r xs=>
  rcases (rk _ _ _ _ _).1 h.1 with ⟨rfl,_⟩ | ⟨a,cap,rfl,_⟩<;>rfl
 |ref a j g vw=>exact h.1
 |ptr b g off=>exact h.1
 |M6 a j g i off=>exact h.1
 |oZ r x off=>obtain ⟨b,o,rfl,_⟩:=h;rfl
 |xJ r x off=>obtain ⟨b,o,rfl,_⟩:=h;rfl
 |fn g rs xs=>obtain ⟨BT,rfl,_⟩:=h;rfl
theorem Ss {v:Value} (h:v.oneCell'=true):v.cells = #[v]:=by cases v<;>first | rfl | simp [Value.oneCell'] at h
theorem hU.cells {c:Cz} {st:St} {w:World} {x:V} {v:Value} (h:hU c st w x v) (hs:x.zU=true) :
  iO c st w x.cells v.cells.toList∧∀u∈v.cells.toList,u.oneCell'=true:=by
 cases x with
 |one x=>
  have h1:v.oneCell'=true:=qi.one (x:=x) h hs;rw [Ss h1];refine ⟨⟨rfl,fun i y u hy hu => ?_⟩,fun u hu=>by simp at hu;rw [hu];exact h1⟩
  cases i with
  |zero=>simp [V.cells] at hy hu;rw [←hy,←hu];exact h
  |succ i=>simp [V.cells] at hy
 |agg cs=>
  obtain ⟨vs,rfl,hl⟩:=h;refine ⟨hl,fun u hu => ?_⟩;obtain ⟨i,hi,hu⟩:=List.mem_iff_getElem.1 hu;have Y8:i<cs.length:=by rw [hl.1];exact hi
  have:=hl.2 i cs[i] u (List.getElem?_eq_getElem Y8) (by rw [←hu];exact List.getElem?_eq_getElem hi);exact this.one (List.all_eq_true.1 hs _ (List.getElem_mem Y8))
 |qd us=>simp [V.zU] at hs
def Cz.kL (c:Cz) (d b:Nat):Cz:=
 { bx:=fun s=>if s=d then b else c.bx s,lc:=c.lc,own:=fun k=>if k=b then some (.box d) else c.own k }
theorem Av (w:World) (o:Obj) (ok Da:Nat→Prop) (h:∀b,b<w.heap.size→ok b→Da b):lf w (w.alloc o) ok Da where
 size:=by simp
 block b hb _:=heap_alloc_old w o b hb
 ok:=h
theorem Rel.yu {w0:World} {mu:Mu} {c:Cz} {st:St} {a:Act} {w:World} (h:Rel w0 mu c st a w) {b:Nat} {l:Lb} (hb:c.own b=some l):b<w.heap.size:=(h.owned b l hb).1
theorem Rel.kL {w0:World} {mu:Mu} {c:Cz} {st:St} {a:Act} {w:World} (h:Rel w0 mu c st a w) {d:Nat} {s0:Sl} {cs:List CV} {vs:Array Value} {ty:TypeId}
  (mV:nth st d=some s0) (hd:d<a.tmps.size) (hl:iO c st w cs vs.toList) :
  Rel w0 mu (c.kL d w.heap.size) (sY (fun s=>{ s with v:=.one (.ptr d (s0.bg+1) 0),box:=some cs,bg:=s0.bg+1 }) st d)
   (a.put (some d) (.pointer (some ⟨w.heap.size,0,none⟩))) (w.alloc (.cells vs ty (0,0))):=by
 have hn:∀s,nth (sY (fun s=>{ s with v:=.one (.ptr d (s0.bg+1) 0),box:=some cs,bg:=s0.bg+1 }) st d) s=
   if s=d then some { s0 with v:=.one (.ptr d (s0.bg+1) 0),box:=some cs,bg:=s0.bg+1 } else nth st s:=by
  intro s;rw [kZ]
  by_cases e:s=d
  ·subst e;simp [mV]
  ·simp [e]
 generalize sY (fun s=>{ s with v:=.one (.ptr d (s0.bg+1) 0),box:=some cs,bg:=s0.bg+1 }) st d=bP at hn ⊢;have iN:∀b,b<w.heap.size→c.ok b→(c.kL d w.heap.size).ok b:=by
  intro b hb hc;unfold Cz.ok Cz.kL;simp only [if_neg (show b≠w.heap.size by omega)];exact hc
 have hA:∀a' j g,cE bP a' j g=cE st a' j g:=by
  intro a' j g;unfold cE;rw [hn]
  by_cases e:a'=d
  ·subst e;simp [mV]
  ·simp [e]
 have hgA:∀a',gJ bP a'=gJ st a':=by
  intro a';unfold gJ;rw [hn]
  by_cases e:a'=d
  ·subst e;simp [mV]
  ·simp [e]
 have lN:Fw c st w (c.kL d w.heap.size) bP (w.alloc (.cells vs ty (0,0))):={
  stays:=Av w _ _ _ iN
  refs:=fun a' j g A' _ iy=>⟨A',by rw [←hA];exact iy,rfl,rfl,rfl,fun _=>⟨rfl,fun b o cap nk=>by
   exact heap_alloc_old w _ b ((h.JZ (g:=g) (by rw [←hA];exact iy)).lt nk)⟩⟩
  G0:=fun b g sj hg hb=>by
   unfold fM at hb ⊢;rw [hn] at hb
   by_cases e:b=d
   ·subst e;simp only [if_true] at hb;unfold jW at hg;rw [mV] at hg;have:Nat.beq (s0.bg+1) g=false:=by
     cases hq:Nat.beq (s0.bg+1) g
     ·rfl
     ·have:=Nat.eq_of_beq_eq_true hq;simp at hg;omega
    simp [this] at hb
   ·simp only [e,if_false] at hb;exact ⟨⟨sj,hb⟩,by simp [Cz.kL,e]⟩
  gA:=fun a'=>by rw [hgA];exact Nat.le_refl _
  gB:=fun b=>by
   unfold jW;rw [hn]
   by_cases e:b=d
   ·subst e;simp [mV]
   ·simp [e]
  gE:=fun a'=>by
   unfold wD;rw [hn]
   by_cases e:a'=d
   ·subst e;simp [mV]
   ·simp [e] }
 exact {
  je:=fun t=>by
   have e1:dI bP t=if t=d then .one (.ptr d (s0.bg+1) 0) else dI st t:=by
    unfold dI;rw [hn]
    by_cases e:t=d<;>simp [e]
   rw [e1,eval_put]
   by_cases e:t=d
   ·subst e;simp only [if_true,true_and,hd];refine ⟨rfl,?_,fun sj Pw=>by simp [Cz.kL]⟩;unfold jW;rw [hn];simp
   ·simp only [e,if_false];rw [if_neg (fun h=>e (Option.some.inj h.1).symm)];exact lN.vi (h.je t)
  boxes:=fun s sl sj hs hb=>by
   rw [hn] at hs
   by_cases e:s=d
   ·subst e;simp only [if_true,Option.some.injEq] at hs;subst hs;simp only [Option.some.injEq] at hb;subst hb;exact ⟨by simp [Cz.kL],vs,ty,by simp only [Cz.kL,if_true];exact heap_alloc_new w _,lN.Y7 hl⟩
   ·simp only [e,if_false] at hs;have hb0:=h.boxes s sl sj hs hb;have dO:=h.yu hb0.1;exact hb0.go lN (by simp [Cz.kL,e]) (by simp only [Cz.kL];rw [if_neg (by omega)]) (heap_alloc_old w _ _ dO)
  bT:=fun s j sl A hs iy=>by
   rw [hn] at hs;have ha:fy c w s j A:=by
    by_cases e:s=d
    ·subst e;simp only [if_true,Option.some.injEq] at hs;subst hs;exact h.bT s j s0 A mV iy
    ·simp only [e,if_false] at hs;exact h.bT s j sl A hs iy
   refine ha.go lN.stays rfl (fun b hb => ?_);have dO:b<w.heap.size:=h.yu hb;exact ⟨heap_alloc_old w _ b dO,by simp only [Cz.kL];rw [if_neg (by omega)]⟩
  owned:=fun b l hb=>by
   simp only [Cz.kL] at hb
   by_cases e:b=w.heap.size
   ·subst e;exact ⟨by simp,.inr (.inl h.kept.2.2.2)⟩
   ·rw [if_neg e] at hb;have:=h.owned b l hb;exact ⟨Nat.lt_of_lt_of_le this.1 (by simp),this.2⟩
  free:=fun b hb h1=>by
   simp only [Cz.kL] at h1
   by_cases e:b=w.heap.size
   ·rw [if_pos e] at h1;cases h1
   ·rw [if_neg e] at h1;exact h.free b hb h1
  kept:=⟨h.kept.1,h.kept.2.1,h.kept.2.2.1,Nat.le_trans h.kept.2.2.2 (by simp)⟩
  old:=fun k hk hm=>by
   rw [heap_alloc_old w _ k (Nat.lt_of_lt_of_le hk h.kept.2.2.2)];exact h.old k hk hm
  hY:=fun p hp=>lN.hY (h.hY p hp)
  plain:=h.plain }
end Go.TM
namespace Go.TM
open Go Go.RowKit
theorem cR {w0:World} {mu:Mu} {c:Cz} {st:St} {a:Act} {w:World} (h:Rel w0 mu c st a w) (x:Operand):hU c st w (pS st x) (a.eval x):=by
 unfold pS
 split<;>first | exact h.je _ | rfl | trivial
theorem iO.take {c:Cz} {st:St} {w:World} {cs:List CV} {vs:List Value} (h:iO c st w cs vs) (off n:Nat):iO c st w ((cs.drop off).take n) ((vs.drop off).take n):=by
 refine ⟨by simp [h.1],fun i x v hx hv => ?_⟩;rw [List.getElem?_take] at hx hv
 by_cases hi:i<n
 ·rw [if_pos hi,List.getElem?_drop] at hx hv;exact h.2 _ x v hx hv
 ·rw [if_neg hi] at hx;simp at hx
theorem qj {n off:Nat} {cs l:List CV} (h:jZ n off cs=some l):l=(cs.drop off).take n∧l.length=n:=by
 unfold jZ at h;obtain ⟨h1,h2⟩:=bI h;have:=Option.some.inj h2;subst this;exact ⟨rfl,Nat.eq_of_beq_eq_true h1⟩
def valOf (agg:Bool) (vs:List Value):Value:=if agg then .agg vs.toArray else vs.headD undef
theorem wN {P:Program} {T:oB} (hT:jF P T) {t n:Nat} (ht:T.cells t=some n) (w:World) (b o:Nat) (vs:List Value) (hv:w.rangeAt b o vs) (hn:vs.length=n) :
  (loadVar t ⟨b,o,none⟩).run P w=.ok (valOf (T.agg t) vs) w:=by
 obtain ⟨d,hu,hd,h1⟩:=hT.agg t n ht
 cases hg:T.agg t with
 |true=>
  rw [hg] at hd;have:=run_loadVar_mid (P:=P) w b o t vs d hv hu hd (by rw [hT.cells t n ht,hn]);simpa [valOf] using this
 |false=>
  have hn1:=h1 hg;obtain ⟨v,rfl⟩:∃v,vs=[v]:=by
   cases vs with
   |nil=>simp at hn;omega
   |cons v l=>cases l with
    |nil=>exact ⟨v,rfl⟩
    |cons _ _=>simp at hn;omega
  have abU:(isAgg t).run P w=.ok false w:=by
   unfold isAgg;rw [Sem.run_bind,run_underlying hu w];rw [hg] at hd
   cases d<;>simp_all [TypeDesc.isRow]
  have hc:w.cell? ⟨b,o,none⟩=some v:=by have:=hv 0 v rfl;simpa using this
  simp [loadVar,Sem.run_bind,abU,valOf,run_load,hc]
theorem Y9 {c:Cz} {st:St} {w:World} {T:oB} {t:Nat} {l:List CV} {vs:List Value} (h:iO c st w l vs) (h1:T.agg t=false→l.length=1) :
  hU c st w (Y1 T t l) (valOf (T.agg t) vs):=by
 unfold Y1 valOf
 cases hg:T.agg t with
 |true=>exact ⟨vs.toArray,rfl,by simpa using h⟩
 |false=>
  have hl:=h1 hg
  cases l with
  |nil=>simp at hl
  |cons x l=>cases l with
   |cons _ _=>simp at hl
   |nil=>cases vs with
    |nil=>have:=h.1;simp at this
    |cons v vs=>exact h.2 0 x v rfl rfl
theorem FI {w:World} {b off:Nat} {vs:Array Value} {ty:TypeId} {fr:Nat×Nat} (h:w.heap[b]?=some (.cells vs ty fr)) (n:Nat):w.rangeAt b off ((vs.toList.drop off).take n):=by
 intro j v hv;rw [cell_of_row w b (off+j) vs ty fr h];rw [List.getElem?_take] at hv
 by_cases hj:j<n
 ·rw [if_pos hj,List.getElem?_drop] at hv;simpa using hv
 ·rw [if_neg hj] at hv;simp at hv
theorem yv {w:World} {c:Cz} {st:St}:(r:RT)→(b off:Nat)→(x:aO r)→fx w c.ok r b off x→
  ∃vs,vs.length=r.width∧w.rangeAt b off vs∧iO c st w (fW r x) vs
 |.nil,_,_,_,_=>⟨[],rfl,fun j v h=>by simp at h,rfl,fun i x v h=>by simp [fW] at h⟩
 |.cons t r,b,off,x,h=>by
  unfold fx at h;obtain ⟨⟨v,hv,hx⟩,hr⟩:=h;obtain ⟨vs,h1,h2,h3,h4⟩:=yv r b (off+1) x.2 hr;refine ⟨v::vs,by simp [RT.width,h1],fun j u hu => ?_,by simp [fW,h3],fun i y u hy hu => ?_⟩
  ·cases j with
   |zero=>simp at hu;rw [←hu];exact hv
   |succ j=>
    simp at hu;have:=h2 j u hu;rw [show off+(j+1)=off+1+j by omega];exact this
  ·cases i with
   |zero=>
    simp [fW] at hy hu;subst hy hu
    cases t with
    |int k=>unfold ev at hx;exact hx
    |bool=>unfold ev at hx;exact hx
    |str=>unfold ev at hx;exact hx
    |sl q=>exact hx
   |succ i=>
    simp [fW] at hy hu;exact h4 i y u hy hu
theorem Aw {w:World} {b off:Nat} {vs:List Value} (h:w.rangeAt b off vs) (k n:Nat):w.rangeAt b (off+k) ((vs.drop k).take n):=by
 intro j v hv;rw [List.getElem?_take] at hv
 by_cases hj:j<n
 ·rw [if_pos hj,List.getElem?_drop] at hv;rw [Nat.add_assoc];exact h _ v hv
 ·rw [if_neg hj] at hv;simp at hv
def lh (w w':World):Prop:=w.heap.size≤w'.heap.size∧∀b,b<w.heap.size→w'.heap[b]?=w.heap[b]?
theorem lh.refl (w:World):lh w w:=⟨Nat.le_refl _,fun _ _=>rfl⟩
theorem lh.trans {w w' w'':World} (h:lh w w') (h':lh w' w''):lh w w'':=
 ⟨Nat.le_trans h.1 h'.1,fun b hb=>(h'.2 b (Nat.lt_of_lt_of_le hb h.1)).trans (h.2 b hb)⟩
theorem lh.alloc (w:World) (b:Obj):lh w (w.alloc b):=⟨by simp,fun k hk=>heap_alloc_old w b k hk⟩
theorem lh.range {w w':World} (h:lh w w') {b o:Nat} {vs:List Value} (hr:w.rangeAt b o vs):w'.rangeAt b o vs:=by
 intro j v hj;have h1:=hr j v hj;rw [World.cell?_of_block (w:=w) (h.2 b (Rj h1))];exact h1
theorem M7 {P:Program} {T:oB} (hT:jF P T) {w0:World} {mu:Mu} {c:Cz} {st:St} {a:Act} {w:World} (h:Rel w0 mu c st a w)
  {d:Option Nat} {t:Nat} {x:V} {u:Value} (hx:hU c st w x u) {bP:St} (hv:(zV T st d t x).val=some bP) (hd:∀k,d=some k→k<a.tmps.size) :
  ∃v,(∀w':World,lh w w'→(Instr.loadAt t u).run P w'=.ok v w')∧Rel w0 mu c bP (a.put d v) w:=by
 have key:∀(b o n:Nat) (l:List CV) (vs:List Value),T.cells t=some n→u=.pointer (some ⟨b,o,none⟩)→w.rangeAt b o vs→vs.length=n→iO c st w l vs→
   (N.done (TM.bQ st d (Y1 T t l))).val=some bP→∃v,(∀w':World,lh w w'→(Instr.loadAt t u).run P w'=.ok v w')∧Rel w0 mu c bP (a.put d v) w:=by
  intro b o n l vs hn hu hr hlen hl wE;simp only [N.val,Option.some.injEq] at wE;subst wE;obtain ⟨dd,_,_,h1⟩:=hT.agg t n hn;refine ⟨valOf (T.agg t) vs,fun w' hk => ?_,h.bQ (Y9 hl (fun hg=>by rw [hl.1,hlen];exact h1 hg)) hd⟩;subst hu;have hr':w'.rangeAt b o vs:=hk.range hr;simp only [Instr.loadAt,Instr.sureAddr,Sem.run_bind,Sem.run_pure,Result.andThen_ok,wN hT hn w' b o vs hr' hlen]
 cases hn:T.cells t with
 |none=>cases x with
  |one y=>cases y<;>simp [zV,hn,N.val] at hv
  |agg _=>simp [zV,N.val] at hv
  |qd _=>simp [zV,N.val] at hv
 |some n=>cases x with
  |agg _=>simp [zV,N.val] at hv
  |qd _=>simp [zV,N.val] at hv
  |one y=>cases y with
   |bad | int _ _ | bool _ | str _ | gj | Pn | shr _ _ | nn _ _ | ref _ _ _ _ | fn _ _ _=>simp [zV,N.val] at hv
   |ptr b g off=>
    simp only [zV,hn] at hv
    cases hb:fM st b g with
    |none=>simp [hb,N.val] at hv
    |some cs=>
     simp only [hb] at hv
     cases Ji:jZ n off cs with
     |none=>simp [Ji,N.val] at hv
     |some l=>
      simp only [Ji] at hv;obtain ⟨rfl,hlen⟩:=qj Ji;obtain ⟨sl,G1,Su,G2⟩:=j5 hb;obtain ⟨ho,vs,ty,hh,hl⟩:=h.boxes b sl cs G1 G2;have hu:=hx.2.2 cs hb;refine key _ _ n _ ((vs.toList.drop off).take n) hn hu (FI hh n) ?_ (hl.take off n) hv;rw [←(hl.take off n).1];exact hlen
   |oZ r y off=>
    simp only [zV,hn] at hv
    cases Ji:jZ n off (fW r y) with
    |none=>simp [Ji,N.val] at hv
    |some l=>
     simp only [Ji] at hv;obtain ⟨rfl,hlen⟩:=qj Ji;obtain ⟨b,o,hu,dO,iN,G3⟩:=hx;obtain ⟨vs,h1,h2,h3⟩:=yv (st:=st) r b o y G3;refine key _ _ n _ ((vs.drop off).take n) hn hu (Aw h2 off n) ?_ (h3.take off n) hv;rw [←(h3.take off n).1];exact hlen
   |xJ r ys off=>
    simp only [zV,hn] at hv
    cases hy:ys[0]? with
    |none=>simp [hy,N.val] at hv
    |some y=>
    simp only [hy] at hv;change (match jZ n off (fW r y) with | some l=>N.done (TM.bQ st d (Y1 T t l)) | none=>N.fail).val=some bP at hv
    cases Ji:jZ n off (fW r y) with
    |none=>simp [Ji,N.val] at hv
    |some l=>
     simp only [Ji] at hv;obtain ⟨rfl,hlen⟩:=qj Ji;obtain ⟨b,o,hu,dO,iN,G3⟩:=hx;obtain ⟨vs,h1,h2,h3⟩:=yv (st:=st) r b o y (G3 y hy);refine key _ _ n _ ((vs.drop off).take n) hn hu (Aw h2 off n) ?_ (h3.take off n) hv;rw [←(h3.take off n).1];exact hlen
   |M6 a' j g i off=>
    simp only [zV,hn] at hv
    cases hA:cE st a' j g with
    |none=>simp [hA,N.val] at hv
    |some A=>
     simp only [hA] at hv;obtain ⟨sl,G1,Su,G2⟩:=dB hA;have Jj:=h.bT a' j sl A G1 G2;obtain ⟨hi,b,o,cap,nk,hu⟩:=hx.2.2 A hA;unfold fy at Jj;rw [nk] at Jj;obtain ⟨_,_,_,s7⟩:=Jj
     cases hm:A.md with
     |sh=>
      cases Vf:A.xs[i]? with
      |none=>simp [Vf,N.val] at hv
      |some y=>
       simp only [Vf] at hv;change (match jZ n off (fW A.r y) with | some l=>N.done (TM.bQ st d (Y1 T t l)) | none=>N.fail).val=some bP at hv
       cases Ji:jZ n off (fW A.r y) with
       |none=>simp [Ji,N.val] at hv
       |some l=>
        simp only [Ji] at hv;obtain ⟨rfl,hlen⟩:=qj Ji;obtain ⟨vs,h1,h2,h3⟩:=yv (st:=st) A.r b _ y ((dZ.sh hm).1 s7 i y Vf);refine key _ _ n _ ((vs.drop off).take n) hn hu (Aw h2 off n) ?_ (h3.take off n) hv;rw [←(h3.take off n).1];exact hlen
end Go.TM
namespace Go.TM
open Go Go.RowKit
def eA (w:World) (ok:Nat→Prop):(r:RT)→List Value→aO r→Prop
 |.nil,vs,_=>vs=[]
 |.cons t r,vs,x=>∃v l,vs=v::l∧ev w ok t v x.1∧eA w ok r l x.2
theorem eA.length {w:World} {ok:Nat→Prop}:(r:RT)→(vs:List Value)→(x:aO r)→eA w ok r vs x→vs.length=r.width
 |.nil,vs,_,h=>by simp only [eA] at h;subst h;rfl
 |.cons t r,vs,x,h=>by
  obtain ⟨v,l,rfl,_,h⟩:=h;simp [RT.width,eA.length r l x.2 h]
theorem mm {w:World} {ok:Nat→Prop}:(r:RT)→(b off:Nat)→(x:aO r)→(fx w ok r b off x↔∃vs,w.rangeAt b off vs∧eA w ok r vs x)
 |.nil,_,_,_=>by
  unfold fx;exact ⟨fun _=>⟨[],fun j v h=>by simp at h,rfl⟩,fun _=>trivial⟩
 |.cons t r,b,off,x=>by
  unfold fx
  constructor
  ·rintro ⟨⟨v,hv,hx⟩,hr⟩
   obtain ⟨vs,h1,h2⟩:=(mm r b (off+1) x.2).1 hr;refine ⟨v::vs,fun j u hu => ?_,v,vs,rfl,hx,h2⟩
   cases j with
   |zero=>simp at hu;rw [←hu];exact hv
   |succ j=>
    simp at hu;rw [show off+(j+1)=off+1+j by omega];exact h1 j u hu
  ·rintro ⟨vs,h1,v,l,rfl,hx,h2⟩
   refine ⟨⟨v,h1 0 v rfl,hx⟩,(mm r b (off+1) x.2).2 ⟨l,fun j u hu => ?_,h2⟩⟩;have:=h1 (j+1) u (by simpa using hu);rw [show off+1+j=off+(j+1) by omega];exact this
theorem eA.stays {w w':World} {ok Da:Nat→Prop} (h:lf w w' ok Da):(r:RT)→(vs:List Value)→(x:aO r)→eA w ok r vs x→eA w' Da r vs x
 |.nil,_,_,hr=>hr
 |.cons t r,_,x,⟨v,l,e,hx,hr⟩=>⟨v,l,e,ev.stays h t v x.1 hx,eA.stays h r l x.2 hr⟩
theorem G4 {w:World} {c:Cz} {st:St}:(r:RT)→(x:aO r)→(k:Nat)→(y:CV)→(z:aO r)→(vs:List Value)→(u:Value)→
  oL r x k y=some z→qi c st w y u→eA w c.ok r vs x→eA w c.ok r (vs.set k u) z
 |.nil,_,_,_,_,_,_,h,_,_=>by simp [oL] at h
 |.cons t r,x,0,y,z,vs,u,h,hu,hv=>by
  obtain ⟨v,l,rfl,hx,hr⟩:=hv
  cases t with
  |int k=>
   cases y<;>simp [oL] at h
   obtain ⟨rfl,h⟩:=h;obtain rfl:=Option.some.inj h;refine ⟨u,l,rfl,?_,hr⟩;unfold ev;exact hu
  |bool=>
   cases y<;>simp [oL] at h
   obtain rfl:=Option.some.inj h;refine ⟨u,l,rfl,?_,hr⟩;unfold ev;exact hu
  |str=>
   cases y<;>simp [oL] at h
   obtain rfl:=Option.some.inj h;refine ⟨u,l,rfl,?_,hr⟩;unfold ev;exact hu
  |sl q=>cases y<;>simp [oL] at h
 |.cons t r,x,k+1,y,z,vs,u,h,hu,hv=>by
  obtain ⟨v,l,rfl,hx,hr⟩:=hv;have h':(oL r x.2 k y).map (fun z=>((x.1,z):aO (.cons t r)))=some z:=by cases t<;>(simp only [oL] at h;exact h)
  cases hq:oL r x.2 k y with
  |none=>simp [hq] at h'
  |some z'=>
   rw [hq] at h';obtain rfl:=Option.some.inj h';exact ⟨v,l.set k u,rfl,hx,G4 r x.2 k y z' l u hq hu hr⟩
def eg (vs:List Value) (off:Nat) (us:List Value):List Value:=vs.take off++us++vs.drop (off+us.length)
theorem M8 {vs:List Value} {off:Nat} {u:Value} {us:List Value} (h:off<vs.length):eg vs off (u::us)=(eg vs (off+1) us).set off u:=by
 unfold eg;apply List.ext_getElem?;intro k;simp only [List.getElem?_set,List.getElem?_append,List.length_append,List.length_take,List.length_cons,List.getElem?_drop,List.getElem?_cons]
 by_cases h1:k<off
 ·have a1:min off vs.length=off:=by omega
  have a2:min (off+1) vs.length=off+1:=by omega
  have a3:off≠k:=by omega
  simp only [a1,a2,a3,if_false,h1,show k<off+(us.length+1) by omega,show k<off+1+us.length by omega,show k<off+1 by omega,if_true,List.getElem?_take]
 ·by_cases h2:k=off
  ·subst h2;have a1:min k vs.length=k:=by omega
   have a2:min (k+1) vs.length=k+1:=by omega
   have a3:min k vs.length-k=0:=by omega
   simp [a1,a2,h];omega
  ·have a1:min off vs.length=off:=by omega
   have a2:min (off+1) vs.length=off+1:=by omega
   obtain ⟨m,rfl⟩:∃m,k=off+1+m:=⟨k-(off+1),by omega⟩;have a3:off≠off+1+m:=by omega
   simp only [a1,a2,a3,if_false,show ¬off+1+m<off by omega,show off+1+m-off=m+1 by omega,show ¬off+1+m<off+1 by omega,show off+1+m-(off+1)=m by omega,
    Nat.add_one_ne_zero,Nat.add_sub_cancel]
   by_cases h3:m<us.length
   ·rw [if_pos (by omega),if_pos (by omega)]
   ·rw [if_neg (by omega),if_neg (by omega)]
    congr 1
    omega
theorem mG {vs:List Value} {off:Nat} {us:List Value} (h:off+us.length≤vs.length):(eg vs off us).length=vs.length:=by
 unfold eg;simp;omega
theorem G5 {w:World} {c:Cz} {st:St} (r:RT) (x:aO r):(off:Nat)→(cs:List CV)→(z:aO r)→(vs us:List Value)→off+us.length≤vs.length→
  vg r x off cs=some z→iO c st w cs us→eA w c.ok r vs x→eA w c.ok r (eg vs off us) z
 |off,[],z,vs,us,_,h,hl,hv=>by
  have:us=[]:=by have:=hl.1;simp at this;exact List.length_eq_zero_iff.1 this.symm
  subst this;simp [vg] at h;subst h;simp [eg];exact hv
 |off,y::l,z,vs,us,hle,h,hl,hv=>by
  cases us with
  |nil=>have:=hl.1;simp at this
  |cons u us=>
   simp only [vg] at h
   cases hq:vg r x (off+1) l with
   |none=>simp [hq] at h
   |some y'=>
    simp only [hq] at h;simp at hle;have ih:=G5 r x (off+1) l y' vs us (by omega) hq ⟨by have:=hl.1;simpa using this,fun i a b ha hb=>hl.2 (i+1) a b (by simpa using ha) (by simpa using hb)⟩ hv;rw [M8 (by omega)];exact G4 r y' off y z _ u h (hl.2 0 y u rfl rfl) ih
theorem ue {w:World} {c:Cz} {b:Nat} {l:Lb} (hb:c.own b=some l) (cur:Array Value):lf w (w.setRow b cur) c.ok c.ok where
 size:=by simp [World.setRow]
 block k _ hk:=setRow_other w b k cur (fun e=>by subst e;unfold Cz.ok at hk;rw [hb] at hk;cases hk)
 ok _ _ h:=h
theorem Ax {P:Program} {T:oB} (hT:jF P T) {t n:Nat} (ht:T.cells t=some n) (w:World) (b o:Nat) (v:Value) (hn:v.cells.toList.length=n) (h1:∀u∈v.cells.toList,u.oneCell'=true)
  {cur:Array Value} {ty:TypeId} (hg:w.heap[b]?=some (.cells cur ty (0,0))) (hle:o+n≤cur.size) :
  (Instr.storeAt t (.pointer (some ⟨b,o,none⟩)) v).run P w=.ok () (w.setRow b (eg cur.toList o v.cells.toList).toArray):=by
 have hs:=run_storeCells_at P b o ty v.cells.toList 0 cur w hg (by omega) h1;have hi:=hT.cells t n ht
 cases hq:P.info? t with
 |none=>simp [hq] at hi
 |some i=>
  have oN:v.cells.size=i.size:=by simp [hq] at hi;rw [hi,←hn];simp
  simp only [Nat.add_zero] at hs;simp [Instr.storeAt,Instr.sureAddr,storeVar,sizeOf,typeInfo,hq,oN,hs,eg]
end Go.TM
namespace Go.TM
open Go Go.RowKit
theorem View.Bx {α:Type} (vw:View) (xs:List α) {i:Nat} {x:α} (h:(vw.app xs)[i]?=some x):xs[vw.lo+i]?=some x:=by
 cases vw with
 |full=>simpa [View.app,View.lo] using h
 |«from» lo=>simpa [View.app,View.lo,List.getElem?_drop] using h
 |sub lo n=>
  simp only [View.app,View.lo,List.getElem?_take,List.getElem?_drop] at h ⊢
  by_cases hi:i<n
  ·rwa [if_pos hi] at h
  ·rw [if_neg hi] at h;simp at h
theorem Dc {c:Cz} {w:World} {s j:Nat} {A:ns} (h:fy c w s j A) {vw:View} {u:Value} (hu:o8 (c.lc s j) A.r.width vw.lo (vw.app A.xs).length u)
  {ok:Nat→Prop} (h1:∀b,c.ok b→ok b) (h2:∀b,A.own=true∨A.md.Si=true→c.own b=some (.sp s j)→ok b) (GN:A.md.Si=false):ev w ok (.sl A.r) u (vw.app A.xs):=by
 rw [rk]
 cases hl:c.lc s j with
 |nil=>
  unfold o8 at hu;rw [hl] at hu;obtain ⟨rfl,hn⟩:=hu;exact .inl ⟨rfl,List.length_eq_zero_iff.1 hn⟩
 |«at» b off cap=>
  unfold o8 at hu;rw [hl] at hu;obtain ⟨a,k,rfl,hk,BU,ha⟩:=hu;unfold fy at h;rw [hl] at h;obtain ⟨h0,_,⟨cur,ty,h3,_⟩,h5⟩:=h;have h5:∀(i:Nat) x,A.xs[i]?=some x→fx w ok A.r b (off+i*A.r.width) x:=by
   unfold dZ at h5
   cases hm:A.md with
   |sh=>rw [hm] at h5;exact fun i x hx=>fx.stays ⟨Nat.le_refl _,fun _ _ _=>rfl,fun b _ hb=>h1 b hb⟩ _ _ _ x rfl (h5 i x hx)
  have hob:ok b:=by
   cases ho:A.own with
   |true=>rw [ho] at h0;exact h2 b (.inl ho) h0
   |false=>rw [ho] at h0;exact h1 b h0
  have hs:lf w w c.ok ok:=⟨Nat.le_refl _,fun _ _ _=>rfl,fun b _ hb=>h1 b hb⟩;refine .inr ⟨a,k,rfl,hk,fun mU => ?_,fun i x hi => ?_⟩
  ·have:k≠0:=by
    have:=List.length_pos_iff.2 mU;omega
   rw [ha this];exact ⟨rfl,(Array.getElem?_eq_some_iff.1 h3).1,hob⟩
  ·have hk0:k≠0:=by
    have:=(List.getElem?_eq_some_iff.1 hi).1;omega
   rw [ha hk0];have:=h5 _ x (View.Bx vw A.xs hi);have e:off+vw.lo*A.r.width+i*A.r.width=off+(vw.lo+i)*A.r.width:=by rw [Nat.add_mul];omega
   show fx w ok A.r b (off+vw.lo*A.r.width+i*A.r.width) x;rw [e];exact this
theorem cU {r s:RT} {xs:List (aO r)} {ys:List (aO s)} (h:ef s xs=some ys):∃e:r=s,ys=e▸xs:=by
 unfold ef at h
 cases hq:RT.eq? r s with
 |none=>simp [hq] at h
 |some p=>obtain ⟨e⟩:=p;simp [hq] at h;exact ⟨e,h.symm⟩
def Cz.drop1 (c:Cz) (a j:Nat):Cz:=
 { c with own:=fun k=>match c.own k with | some (.sp s i)=>if s=a∧i=j then none else some (.sp s i) | l=>l }
theorem Cz.G6 {c:Cz} {a j b:Nat} (h:c.ok b):(c.drop1 a j).ok b:=by
 unfold Cz.ok Cz.drop1 at *;simp [h]
theorem Cz.M9 {c:Cz} {a j b:Nat} (h:c.own b=some (.sp a j)):(c.drop1 a j).ok b:=by
 unfold Cz.ok Cz.drop1;simp [h]
theorem Cz.Px {c:Cz} {a j b:Nat} {l:Lb} (h:(c.drop1 a j).own b=some l):c.own b=some l:=by
 unfold Cz.drop1 at h;simp only at h
 cases hc:c.own b with
 |none=>simp [hc] at h
 |some l'=>cases l' with
  |box s=>simp [hc] at h;rw [h]
  |out=>simp [hc] at h;rw [h]
  |dC i k=>simp [hc] at h;rw [h]
  |xK i=>simp [hc] at h;rw [h]
  |kK k=>simp [hc] at h;rw [h]
  |sp s i=>
   simp only [hc] at h
   by_cases e:s=a∧i=j
   ·simp [e] at h
   ·rw [if_neg e] at h;exact h
theorem Cz.vk {c:Cz} {a j b:Nat} {l:Lb} (h:c.own b=some l) (mU:l≠.sp a j):(c.drop1 a j).own b=some l:=by
 unfold Cz.drop1;simp only [h]
 cases l with
 |box s=>rfl
 |out=>rfl
 |dC i k=>rfl
 |xK i=>rfl
 |kK k=>rfl
 |sp s i=>
  simp only;rw [if_neg]
  rintro ⟨rfl,rfl⟩
  exact mU rfl
def gX (st:St) (a j:Nat):St:=sY (fun s=>{ s with bT:=sY (fun A=>A.map ns.fz) s.bT j,ep:=s.ep+1 }) st a
theorem Na (st:St) (a j:Nat) (l:List (Nat×Nat)):freeze st ((a,j)::l)=freeze (gX st a j) l:=rfl
theorem kt (st:St) (a j s:Nat):∃f:Sl→Sl,(∀x,(f x).v=x.v∧(f x).box=x.box∧(f x).bg=x.bg∧(f x).ag=x.ag∧
   (∀i,nth (f x).bT i=if s=a∧i=j then (nth x.bT i).map (fun A=>A.map ns.fz) else nth x.bT i)∧(f x).ep=if s=a then x.ep+1 else x.ep)∧nth (gX st a j) s=(nth st s).map f:=by
 unfold gX
 by_cases h:s=a
 ·subst h;refine ⟨fun s=>{ s with bT:=sY (fun A=>A.map ns.fz) s.bT j,ep:=s.ep+1 },fun x=>⟨rfl,rfl,rfl,rfl,fun i => ?_,by simp⟩,qh _ _ _⟩;simp only [kZ,true_and]
 ·refine ⟨id,fun x=>⟨rfl,rfl,rfl,rfl,fun i => ?_,by simp [h]⟩,by rw [vh _ _ h];simp⟩;simp [h]
theorem FJ (st:St) (a j b:Nat):wD st b≤wD (gX st a j) b∧(wD (gX st a j) b=wD st b→b≠a∨nth st b=none):=by
 obtain ⟨f,hf,hn⟩:=kt st a j b;unfold wD;rw [hn]
 cases hx:nth st b with
 |none=>simp
 |some x=>
  simp only [Option.map_some];rw [(hf x).2.2.2.2.2]
  by_cases e:b=a
  ·rw [if_pos e];exact ⟨by omega,fun h=>by omega⟩
  ·rw [if_neg e];exact ⟨Nat.le_refl _,fun _=>.inl e⟩
theorem LN (st:St) (a j t:Nat):dI (gX st a j) t=dI st t:=by
 obtain ⟨f,hf,hn⟩:=kt st a j t;unfold dI;rw [hn]
 cases nth st t with
 |none=>rfl
 |some x=>exact (hf x).1
theorem LO {st:St} {a j a' j' g:Nat} {A':ns} (h:cE (gX st a j) a' j' g=some A'):∃A,cE st a' j' g=some A∧A'.r.width=A.r.width∧A'.xs.length=A.xs.length∧(a'≠a→A'=A):=by
 obtain ⟨sl,h1,h2,h3⟩:=dB h;obtain ⟨f,hf,hn⟩:=kt st a j a';rw [hn] at h1
 cases hx:nth st a' with
 |none=>rw [hx] at h1;simp at h1
 |some x=>
  rw [hx] at h1;simp at h1;subst h1;obtain ⟨_,_,_,f4,f5,_⟩:=hf x;rw [f5] at h3;rw [f4] at h2;have key:∃A,nth x.bT j'=some (some A)∧A'.r.width=A.r.width∧A'.xs.length=A.xs.length∧(a'≠a→A'=A):=by
   by_cases e:a'=a∧j'=j
   ·rw [if_pos e] at h3
    cases hj:nth x.bT j' with
    |none=>simp [hj] at h3
    |some o=>cases o with
     |none=>simp [hj] at h3
     |some A=>simp [hj] at h3;subst h3;exact ⟨A,rfl,rfl,rfl,fun h=>absurd e.1 h⟩
   ·rw [if_neg e] at h3;exact ⟨A',h3,rfl,rfl,fun _=>rfl⟩
  obtain ⟨A,k1,k2,k3⟩:=key;refine ⟨A,?_,k2,k3⟩;unfold cE;rw [hx];have:Nat.beq x.ag g=true:=by rw [h2];exact Nat.beq_refl g
  simp [this,k1]
theorem LP (st:St) (a j b g:Nat):fM (gX st a j) b g=fM st b g:=by
 obtain ⟨f,hf,hn⟩:=kt st a j b;unfold fM;rw [hn]
 cases nth st b with
 |none=>rfl
 |some x=>obtain ⟨_,h2,h3,_⟩:=hf x;simp [h2,h3]
theorem LQ (st:St) (a j b:Nat):gJ (gX st a j) b=gJ st b:=by
 obtain ⟨f,hf,hn⟩:=kt st a j b;unfold gJ;rw [hn]
 cases nth st b with
 |none=>rfl
 |some x=>exact (hf x).2.2.2.1
theorem LR (st:St) (a j b:Nat):jW (gX st a j) b=jW st b:=by
 obtain ⟨f,hf,hn⟩:=kt st a j b;unfold jW;rw [hn]
 cases nth st b with
 |none=>rfl
 |some x=>exact (hf x).2.2.1
theorem Fw.gX (c:Cz) (st:St) (w:World) (a j:Nat):Fw c st w (c.drop1 a j) (gX st a j) w where
 stays:=⟨Nat.le_refl _,fun _ _ _=>rfl,fun _ _ h=>Cz.G6 h⟩
 refs a' j' g A' _ iy:=by
  obtain ⟨A,h1,h2,h3,h4⟩:=LO iy;refine ⟨A,h1,h2,h3,rfl,fun he=>⟨?_,fun _ _ _ _=>rfl⟩⟩;rcases (FJ st a j a').2 he with e | e
  ·exact h4 e
  ·unfold cE at h1;rw [e] at h1;cases h1
 G0 b g sj _ h:=⟨⟨sj,by rwa [LP] at h⟩,rfl⟩
 gA b:=by rw [LQ];exact Nat.le_refl _
 gB b:=by rw [LR];exact Nat.le_refl _
 gE b:=(FJ st a j b).1
theorem Rel.gX {w0:World} {mu:Mu} {c:Cz} {st:St} {a:Act} {w:World} (h:Rel w0 mu c st a w) (s j:Nat):Rel w0 mu (c.drop1 s j) (gX st s j) a w where
 je t:=by rw [LN];exact (Fw.gX c st w s j).vi (h.je t)
 boxes b sl cs hs hb:=by
  obtain ⟨f,hf,hn⟩:=kt st s j b;rw [hn] at hs
  cases hx:nth st b with
  |none=>rw [hx] at hs;simp at hs
  |some x=>
   rw [hx] at hs;simp at hs;subst hs;rw [(hf x).2.1] at hb;have h0:=h.boxes b x cs hx hb;exact h0.go (Fw.gX c st w s j) rfl (by rw [h0.1];exact Cz.vk h0.1 (by simp)) rfl
 bT b i sl A hs hb:=by
  obtain ⟨f,hf,hn⟩:=kt st s j b;rw [hn] at hs
  cases hx:nth st b with
  |none=>rw [hx] at hs;simp at hs
  |some x=>
   rw [hx] at hs;simp at hs;subst hs;rw [(hf x).2.2.2.2.1 i] at hb
   by_cases e:b=s∧i=j
   ·rw [if_pos e] at hb
    cases hj:nth x.bT i with
    |none=>simp [hj] at hb
    |some o=>cases o with
     |none=>simp [hj] at hb
     |some B=>
      simp [hj] at hb;subst hb;have h0:=h.bT b i x B hx hj;unfold fy at h0 ⊢;show match c.lc b i with | .nil=>_ | .at b off cap=>_
      cases hl:c.lc b i with
      |nil=>rw [hl] at h0;exact h0
      |«at» k off cap=>
       rw [hl] at h0;obtain ⟨h1,h2,h3,h4⟩:=h0;refine ⟨?_,h2,h3,?_⟩
       ·show (c.drop1 s j).own k=none
        cases ho:B.own with
        |true=>rw [ho] at h1;obtain ⟨rfl,rfl⟩:=e;exact Cz.M9 h1
        |false=>rw [ho] at h1;exact Cz.G6 h1
       ·unfold dZ at h4 ⊢;show match B.md.fz with | .sh=>_
        cases hm:B.md with
        |sh=>rw [hm] at h4;exact fun i x hi=>fx.stays (Fw.gX c st w s j).stays _ _ _ x rfl (h4 i x hi)
   ·rw [if_neg e] at hb;have h0:=h.bT b i x A hx hb;refine h0.go (Fw.gX c st w s j).stays rfl (fun k h1=>⟨rfl,?_⟩);rw [h1];exact Cz.vk h1 (by rintro e';injection e' with e1 e2;exact e ⟨e1,e2⟩)
 owned b l hb:=h.owned b l (Cz.Px hb)
 free b hb h1:=by
  cases hc:c.own b with
  |none=>exact h.free b hb hc
  |some l=>
   rcases (h.owned b l hc).2 with h2 | h2 | h2
   ·subst h2;unfold Cz.drop1 at h1;simp [hc] at h1
   ·omega
   ·exact .inl h2
 kept:=h.kept
 old:=h.old
 hY p hp:=(Fw.gX c st w s j).hY (h.hY p hp)
 plain:=h.plain
def Cz.drop (c:Cz):List (Nat×Nat)→Cz
 | []=>c
 |(a,j)::l=>(c.drop1 a j).drop l
theorem Rel.freeze {w0:World} {mu:Mu} {a:Act} {w:World}:(m:List (Nat×Nat))→{c:Cz}→{st:St}→Rel w0 mu c st a w→Rel w0 mu (c.drop m) (freeze st m) a w
 | [],_,_,h=>h
 |(s,j)::m,_,_,h=>Rel.freeze m (h.gX s j)
theorem Cz.Dd:(m:List (Nat×Nat))→(c:Cz)→(b:Nat)→c.ok b→(c.drop m).ok b
 | [],_,_,h=>h
 |(a,j)::m,c,b,h=>Cz.Dd m (c.drop1 a j) b (Cz.G6 h)
theorem Cz.GO:(m:List (Nat×Nat))→(c:Cz)→(b:Nat)→{a j:Nat}→c.own b=some (.sp a j)→(a,j)∈m→(c.drop m).ok b
 | [],_,_,_,_,_,h=>by simp at h
 |(a',j')::m,c,b,a,j,h,hm=>by
  by_cases e:a'=a∧j'=j
  ·obtain ⟨rfl,rfl⟩:=e;exact Cz.Dd m _ b (Cz.M9 h)
  ·refine Cz.GO m (c.drop1 a' j') b (Cz.vk h (by rintro e';injection e' with e1 e2;exact e ⟨e1.symm,e2.symm⟩)) ?_;rcases List.mem_cons.1 hm with h' | h'
   ·injection h' with e1 e2;exact absurd ⟨e1.symm,e2.symm⟩ e
   ·exact h'
theorem Cz.Rl:(m:List (Nat×Nat))→(c:Cz)→(c.drop m).lc=c.lc∧(c.drop m).bx=c.bx
 | [],_=>⟨rfl,rfl⟩
 |(a,j)::m,c=>Cz.Rl m (c.drop1 a j)
theorem Cz.J1:(m:List (Nat×Nat))→(c:Cz)→(b:Nat)→{l:Lb}→c.own b=some l→(∀p∈m,l≠.sp p.1 p.2)→(c.drop m).own b=some l
 | [],_,_,_,h,_=>h
 |(a,j)::m,c,b,l,h,hm=>Cz.J1 m (c.drop1 a j) b (Cz.vk h (hm (a,j) (by simp))) (fun p hp=>hm p (by simp [hp]))
theorem Fw.trans {c c1 c2:Cz} {st G7 lO:St} {w w1 w2:World} (h:Fw c st w c1 G7 w1) (k:Fw c1 G7 w1 c2 lO w2):Fw c st w c2 lO w2 where
 stays:=⟨Nat.le_trans h.stays.size k.stays.size,fun b hb ho=>(k.stays.block b (Nat.lt_of_lt_of_le hb h.stays.size) (h.stays.ok b hb ho)).trans (h.stays.block b hb ho),
  fun b hb ho=>k.stays.ok b (Nat.lt_of_lt_of_le hb h.stays.size) (h.stays.ok b hb ho)⟩
 refs a j g A' hg iy:=by
  obtain ⟨A1,h1,h2,h3,h4,h5⟩:=k.refs a j g A' (Nat.le_trans hg (h.gA a)) iy;obtain ⟨A,k1,k2,k3,k4,k5⟩:=h.refs a j g A1 hg h1;refine ⟨A,k1,h2.trans k2,h3.trans k3,h4.trans k4,fun he => ?_⟩;have g1:=h.gE a;have g2:=k.gE a;obtain ⟨e1,e2⟩:=h5 (by omega);obtain ⟨e3,e4⟩:=k5 (by omega);exact ⟨e1.trans e3,fun b o cap hl=>(e2 b o cap (by rw [k4];exact hl)).trans (e4 b o cap hl)⟩
 G0 b g sj hg hb:=by
  obtain ⟨⟨cs1,h1⟩,h2⟩:=k.G0 b g sj (Nat.le_trans hg (h.gB b)) hb;obtain ⟨h3,h4⟩:=h.G0 b g cs1 hg h1;exact ⟨h3,h2.trans h4⟩
 gA a:=Nat.le_trans (h.gA a) (k.gA a)
 gB b:=Nat.le_trans (h.gB b) (k.gB b)
 gE b:=Nat.le_trans (h.gE b) (k.gE b)
theorem Fw.refl (c:Cz) (st:St) (w:World):Fw c st w c st w:=⟨lf.refl w _,fun _ _ _ A' _ h=>⟨A',h,rfl,rfl,rfl,fun _=>⟨rfl,fun _ _ _ _=>rfl⟩⟩,fun _ _ sj _ h=>⟨⟨sj,h⟩,rfl⟩,fun _=>Nat.le_refl _,fun _=>Nat.le_refl _,fun _=>Nat.le_refl _⟩
theorem Fw.freeze (w:World):(m:List (Nat×Nat))→(c:Cz)→(st:St)→Fw c st w (c.drop m) (freeze st m) w
 | [],c,st=>Fw.refl c st w
 |(a,j)::m,c,st=>(Fw.gX c st w a j).trans (Fw.freeze w m (c.drop1 a j) (TM.gX st a j))
theorem De {w0:World} {mu:Mu} {c:Cz} {st:St} {a:Act} {w:World} (h:Rel w0 mu c st a w):(r:RT)→(cs:List CV)→(us:List Value)→iO c st w cs us→
  (k:aO r→List (Nat×Nat)→N)→{bP:St}→(rowOf st r cs k).val=some bP→
  ∃x m,(k x m).val=some bP∧(∀p∈m,∃g A,cE st p.1 p.2 g=some A)∧
   ∀ok:Nat→Prop,(∀b,c.ok b→ok b)→(∀p∈m,∀b,c.own b=some (.sp p.1 p.2)→ok b)→eA w ok r us x
 |.nil,cs,us,hl,k,bP,hv=>by
  cases cs with
  |cons _ _=>simp [rowOf,N.val] at hv
  |nil=>
   have:us=[]:=by have:=hl.1;simp at this;exact List.length_eq_zero_iff.1 this.symm
   subst this;exact ⟨(),[],hv,fun p hp=>by simp at hp,fun _ _ _=>rfl⟩
 |.cons t r,cs,us,hl,k,bP,hv=>by
  cases cs with
  |nil=>cases t<;>simp [rowOf,N.val] at hv
  |cons y cs=>
   cases us with
   |nil=>have:=hl.1;simp at this
   |cons u us=>
    have hu:qi c st w y u:=hl.2 0 y u rfl rfl;have By:iO c st w cs us:=⟨by have:=hl.1;simpa using this,fun i a b ha hb=>hl.2 (i+1) a b (by simpa using ha) (by simpa using hb)⟩;have plain:∀(d:den t),(∀ok:Nat→Prop,(∀b,c.ok b→ok b)→ev w ok t u d)→(rowOf st r cs (fun x m=>k (d,x) m)).val=some bP→
      ∃x m,(k x m).val=some bP∧(∀p∈m,∃g A,cE st p.1 p.2 g=some A)∧
       ∀ok:Nat→Prop,(∀b,c.ok b→ok b)→(∀p∈m,∀b,c.own b=some (.sp p.1 p.2)→ok b)→eA w ok (.cons t r) (u::us) x:=by
     intro d hd hv;obtain ⟨x,m,h1,h2,h3⟩:=De h r cs us By _ hv;exact ⟨(d,x),m,h1,h2,fun ok ho hm=>⟨u,us,rfl,hd ok ho,h3 ok ho hm⟩⟩
    cases t with
    |int q=>
     cases y with
     |int l n=>
      simp only [rowOf] at hv
      by_cases e:q=l
      ·rw [if_pos e] at hv;exact plain n (fun ok _=>yr.2 (by rw [e];exact hu)) hv
      ·rw [if_neg e] at hv;simp [N.val] at hv
     |_=>simp [rowOf,N.val] at hv
    |bool=>
     cases y with
     |bool b=>exact plain b (fun ok _=>Bw.2 hu) (by simpa only [rowOf] using hv)
     |_=>simp [rowOf,N.val] at hv
    |str=>
     cases y with
     |str s=>exact plain s (fun ok _=>EI.2 hu) (by simpa only [rowOf] using hv)
     |_=>simp [rowOf,N.val] at hv
    |sl q=>
     cases y with
     |gj=>exact plain ([]:List (aO q)) (fun ok _=>(rk _ _ _ _ _).2 (.inl ⟨hu,rfl⟩)) (by simpa only [rowOf] using hv)
     |shr r' ys=>
      simp only [rowOf] at hv
      cases hc:ef q ys with
      |none=>simp [hc,N.val] at hv
      |some zs=>
       simp only [hc] at hv;obtain ⟨rfl,rfl⟩:=cU hc;exact plain _ (fun ok ho=>ev.stays ⟨Nat.le_refl _,fun _ _ _=>rfl,fun b _ hb=>ho b hb⟩ _ _ _ hu) hv
     |ref a' j g vw=>
      simp only [rowOf] at hv
      cases hA:cE st a' j g with
      |none=>simp [hA,N.val] at hv
      |some A=>
       simp only [hA] at hv;have GN:A.md.Si=false:=by cases A.md;rfl
       cases hc:ef q A.xs with
       |none=>simp [hc,N.val] at hv
       |some ys=>
        simp only [hc] at hv;obtain ⟨e,he⟩:=cU hc;subst e;simp only at he;subst he;obtain ⟨sl,G1,Su,G2⟩:=dB hA;have Jj:=h.bT a' j sl A G1 G2;obtain ⟨x,m,h1,h2,h3⟩:=De h r cs us By _ hv;refine ⟨(vw.app A.xs,x),(a',j)::m,h1,fun p hp => ?_,fun ok ho hm=>⟨u,us,rfl,?_,h3 ok ho (fun p hp=>hm p (by simp [hp]))⟩⟩
        ·rcases List.mem_cons.1 hp with rfl | hp
         ·exact ⟨g,A,hA⟩
         ·exact h2 p hp
        ·exact Dc Jj (hu.2.2 A hA) ho (fun k _ hk=>hm (a',j) (by simp) k hk) GN
     |_=>simp [rowOf,N.val] at hv
end Go.TM
namespace Go.TM
open Go Go.RowKit
theorem Cd {cs l m:List CV} {off:Nat} (h:putCells cs off l=some m):off+l.length≤cs.length∧m=cs.take off++l++cs.drop (off+l.length):=by
 unfold putCells at h;obtain ⟨h1,h2⟩:=bI h;exact ⟨Nat.le_of_ble_eq_true h1,(Option.some.inj h2).symm⟩
theorem iO.eg {c:Cz} {st:St} {w:World} {cs l:List CV} {vs us:List Value} (h:iO c st w cs vs) (hl:iO c st w l us) (off:Nat) (hle:off+l.length≤cs.length) :
  iO c st w (cs.take off++l++cs.drop (off+l.length)) (TM.eg vs off us):=by
 have e1:=h.1;have e2:=hl.1;refine ⟨by rw [mG (by omega)];simp;omega,fun i x v hx hv => ?_⟩;unfold TM.eg at hv;rw [List.getElem?_append,List.getElem?_append] at hx hv;simp only [List.length_append,List.length_take] at hx hv;have a1:min off cs.length=off:=by omega
 have a2:min off vs.length=off:=by omega
 rw [a1] at hx;rw [a2,←e2] at hv
 by_cases h1:i<off+l.length
 ·rw [if_pos h1] at hx hv
  by_cases h2:i<off
  ·rw [if_pos h2,List.getElem?_take,if_pos h2] at hx hv;exact h.2 i x v hx hv
  ·rw [if_neg h2] at hx hv;exact hl.2 _ x v hx hv
 ·rw [if_neg h1,List.getElem?_drop] at hx hv;exact h.2 _ x v hx hv
theorem Rel.Vg {w0:World} {mu:Mu} {c:Cz} {st:St} {a:Act} {w:World} (h:Rel w0 mu c st a w) {b:Nat} {s0:Sl} {cs l:List CV} {vs cur':Array Value} {ty:TypeId}
  (hs:nth st b=some s0) (hb:s0.box=some cs) (hg:w.heap[c.bx b]?=some (.cells vs ty (0,0))) (hl:iO c st w l cur'.toList) :
  Rel w0 mu c (sY (fun s=>{ s with box:=some l }) st b) a (w.setRow (c.bx b) cur'):=by
 have ku:=(h.boxes b s0 cs hs hb).1;have hn:∀s,nth (sY (fun s=>{ s with box:=some l }) st b) s=if s=b then some { s0 with box:=some l } else nth st s:=by
  intro s;rw [kZ]
  by_cases e:s=b
  ·subst e;simp [hs]
  ·simp [e]
 generalize sY (fun s=>{ s with box:=some l }) st b=bP at hn ⊢;have wE:=ue (w:=w) ku cur';have yw:∀k,k≠c.bx b→(w.setRow (c.bx b) cur').heap[k]?=w.heap[k]?:=fun k hk=>setRow_other w _ k cur' hk
 have lN:Fw c st w c bP (w.setRow (c.bx b) cur'):={
  stays:=wE
  refs:=fun a' j g A' _ iy=>by
   have Sv:cE st a' j g=some A':=by
    unfold cE at iy ⊢;rw [hn] at iy
    by_cases e:a'=b
    ·subst e;simpa [hs] using iy
    ·simpa [e] using iy
   refine ⟨A',Sv,rfl,rfl,rfl,fun _=>⟨rfl,fun k o cap hl=>yw k ?_⟩⟩;have ha:=h.JZ Sv;unfold fy at ha;rw [hl] at ha;intro e;subst e;obtain ⟨h1,_⟩:=ha;rw [ku] at h1
   cases ho:A'.own<;>simp [ho] at h1
  G0:=fun b' g sj _ uf=>by
   refine ⟨?_,rfl⟩;unfold fM at uf ⊢;rw [hn] at uf
   by_cases e:b'=b
   ·subst e;simp only [if_true] at uf;obtain ⟨h1,_⟩:=bI uf;exact ⟨cs,by simp [hs,h1,hb]⟩
   ·simp only [e,if_false] at uf;exact ⟨sj,uf⟩
  gA:=fun a'=>by
   unfold gJ;rw [hn]
   by_cases e:a'=b
   ·subst e;simp [hs]
   ·simp [e]
  gB:=fun a'=>by
   unfold jW;rw [hn]
   by_cases e:a'=b
   ·subst e;simp [hs]
   ·simp [e]
  gE:=fun a'=>by
   unfold wD;rw [hn]
   by_cases e:a'=b
   ·subst e;simp [hs]
   ·simp [e] }
 exact {
  je:=fun t=>by
   have e1:dI bP t=dI st t:=by
    unfold dI;rw [hn]
    by_cases e:t=b
    ·subst e;simp [hs]
    ·simp [e]
   rw [e1];exact lN.vi (h.je t)
  boxes:=fun s sl sj Df uf=>by
   rw [hn] at Df
   by_cases e:s=b
   ·subst e;simp only [if_true,Option.some.injEq] at Df;subst Df;simp only [Option.some.injEq] at uf;subst uf;exact ⟨ku,cur',ty,setRow_heap w _ vs cur' ty (0,0) hg,lN.Y7 hl⟩
   ·simp only [e,if_false] at Df;have h0:=h.boxes s sl sj Df uf;refine h0.go lN rfl rfl (yw _ ?_);intro e';have:=h0.1;rw [e',ku] at this;injection this with this;injection this with this;exact e this.symm
  bT:=fun s j sl A Df iy=>by
   rw [hn] at Df;have ha:fy c w s j A:=by
    by_cases e:s=b
    ·subst e;simp only [if_true,Option.some.injEq] at Df;subst Df;exact h.bT s j s0 A hs iy
    ·simp only [e,if_false] at Df;exact h.bT s j sl A Df iy
   refine ha.go wE rfl (fun k h1=>⟨yw k ?_,rfl⟩);intro e;subst e;rw [ku] at h1
   cases h1
  owned:=fun k l hk=>by
   have:=h.owned k l hk;exact ⟨by simpa [World.setRow] using this.1,this.2⟩
  free:=h.free
  kept:=⟨h.kept.1,h.kept.2.1,h.kept.2.2.1,by simpa [World.setRow] using h.kept.2.2.2⟩
  old:=fun k hk hm=>by
   rw [yw k (fun e=>by
    have:=(h.owned _ _ ku).2;rcases this with this | this | this
    ·cases this
    ·subst e;omega
    ·subst e;exact hm this)]
   exact h.old k hk hm
  hY:=fun p hp=>lN.hY (h.hY p hp)
  plain:=h.plain }
theorem Rel.Sw {w0:World} {mu:Mu} {c:Cz} {st:St} {a:Act} {w:World} (h:Rel w0 mu c st a w) {s j:Nat} {s0:Sl} {A:ns} {b off cap:Nat} {cur cur':Array Value} {ty:TypeId}
  {md':Md} {ys:List (aO A.r)} (hs:nth st s=some s0) (hA:nth s0.bT j=some (some A)) (ku:A.own=true) (nk:c.lc s j=.at b off cap)
  (hg:w.heap[b]?=some (.cells cur ty (0,0))) (oN:cur'.size=cur.size) (hlen:ys.length=A.xs.length)
  (s7:dZ c (w.setRow b cur') (.sp s j) { A with xs:=ys,md:=md' } b off) :
  Rel w0 mu c (eX st s j (some { A with xs:=ys,md:=md' })) a (w.setRow b cur'):=by
 have h0:=h.bT s j s0 A hs hA;unfold fy at h0;rw [nk] at h0;obtain ⟨h1,h2,⟨aid,ty0,h3,h4⟩,h5⟩:=h0;rw [ku] at h1;have hc0:aid=cur:=by rw [hg] at h3;injection h3 with h3;injection h3 with h3;exact h3.symm
 subst hc0;have hn:∀k,nth (eX st s j (some { A with xs:=ys,md:=md' })) k=if k=s then some { s0 with bT:=sY (fun _=>some { A with xs:=ys,md:=md' }) s0.bT j,ep:=s0.ep+1 } else nth st k:=by
  intro k;unfold eX;rw [kZ]
  by_cases e:k=s
  ·subst e;simp [hs]
  ·simp [e]
 generalize eX st s j (some { A with xs:=ys,md:=md' })=bP at hn ⊢;have wE:=ue (w:=w) h1 cur';have yw:∀k,k≠b→(w.setRow b cur').heap[k]?=w.heap[k]?:=fun k hk=>setRow_other w _ k cur' hk
 have lN:Fw c st w c bP (w.setRow b cur'):={
  stays:=wE
  refs:=fun a' j' g A' _ iy=>by
   obtain ⟨sl,k1,k2,k3⟩:=dB iy;rw [hn] at k1
   by_cases e:a'=s
   ·subst e;simp only [if_true,Option.some.injEq] at k1;subst k1;simp only at k2 k3;rw [kZ] at k3
    by_cases e2:j'=j
    ·subst e2;rw [if_pos rfl,hA] at k3;simp only [Option.map_some,Option.some.injEq] at k3;subst k3;refine ⟨A,?_,rfl,hlen,rfl,fun he => ?_⟩
     ·unfold cE;rw [hs];have:Nat.beq s0.ag g=true:=by rw [k2];exact Nat.beq_refl g
      simp [this,hA]
     ·unfold wD at he;rw [hn,if_pos rfl,hs] at he;simp at he
    ·rw [if_neg e2] at k3;refine ⟨A',?_,rfl,rfl,rfl,fun he => ?_⟩
     ·unfold cE;rw [hs];have:Nat.beq s0.ag g=true:=by rw [k2];exact Nat.beq_refl g
      simp [this,k3]
     ·unfold wD at he;rw [hn,if_pos rfl,hs] at he;simp at he
   ·rw [if_neg e] at k1;have Sv:cE st a' j' g=some A':=by
     unfold cE;rw [k1];have:Nat.beq sl.ag g=true:=by rw [k2];exact Nat.beq_refl g
     simp [this,k3]
    refine ⟨A',Sv,rfl,rfl,rfl,fun _=>⟨rfl,fun k o auW hl=>yw k ?_⟩⟩;have ha:=h.JZ Sv;unfold fy at ha;rw [hl] at ha
    rintro rfl
    obtain ⟨g1,_⟩:=ha;rw [h1] at g1
    cases ho:A'.own with
    |true=>simp [ho] at g1;exact e g1.1.symm
    |false=>simp [ho] at g1
  G0:=fun b' g sj _ uf=>by
   refine ⟨⟨sj,?_⟩,rfl⟩;unfold fM at uf ⊢;rw [hn] at uf
   by_cases e:b'=s
   ·subst e;simpa [hs] using uf
   ·simpa [e] using uf
  gA:=fun a'=>by
   unfold gJ;rw [hn]
   by_cases e:a'=s
   ·subst e;simp [hs]
   ·simp [e]
  gB:=fun a'=>by
   unfold jW;rw [hn]
   by_cases e:a'=s
   ·subst e;simp [hs]
   ·simp [e]
  gE:=fun a'=>by
   unfold wD;rw [hn]
   by_cases e:a'=s
   ·subst e;simp [hs]
   ·simp [e] }
 exact {
  je:=fun t=>by
   have e1:dI bP t=dI st t:=by
    unfold dI;rw [hn]
    by_cases e:t=s
    ·subst e;simp [hs]
    ·simp [e]
   rw [e1];exact lN.vi (h.je t)
  boxes:=fun k sl sj Df uf=>by
   rw [hn] at Df;have G8:Au c st w k sj:=by
    by_cases e:k=s
    ·subst e;simp only [if_true,Option.some.injEq] at Df;subst Df;exact h.boxes k s0 sj hs uf
    ·simp only [e,if_false] at Df;exact h.boxes k sl sj Df uf
   refine G8.go lN rfl rfl (yw _ ?_);intro e;have:=G8.1;rw [e,h1] at this;simp at this
  bT:=fun k i sl B Df hB=>by
   rw [hn] at Df
   by_cases e:k=s∧i=j
   ·obtain ⟨rfl,rfl⟩:=e;simp only [if_true,Option.some.injEq] at Df;subst Df;simp only at hB;rw [kZ,if_pos rfl,hA] at hB;simp only [Option.map_some,Option.some.injEq] at hB;subst hB;unfold fy;rw [nk];refine ⟨by rw [ku];exact h1,by simp only;rw [hlen];exact h2,⟨cur',ty,setRow_heap w b aid cur' ty (0,0) hg,by simp only;rw [oN];exact h4⟩,s7⟩
   ·have ha:fy c w k i B:=by
     by_cases e2:k=s
     ·subst e2;simp only [if_true,Option.some.injEq] at Df;subst Df;simp only at hB;rw [kZ,if_neg (fun e3=>e ⟨rfl,e3⟩)] at hB;exact h.bT k i s0 B hs hB
     ·rw [if_neg e2] at Df;exact h.bT k i sl B Df hB
    refine ha.go wE rfl (fun k' g1=>⟨yw k' ?_,rfl⟩)
    rintro rfl
    rw [h1] at g1;simp at g1;exact e ⟨g1.1.symm,g1.2.symm⟩
  owned:=fun k l hk=>by
   have:=h.owned k l hk;exact ⟨by simpa [World.setRow] using this.1,this.2⟩
  free:=h.free
  kept:=⟨h.kept.1,h.kept.2.1,h.kept.2.2.1,by simpa [World.setRow] using h.kept.2.2.2⟩
  old:=fun k hk hm=>by
   rw [yw k (fun e=>by
    have:=(h.owned _ _ h1).2;rcases this with this | this | this
    ·cases this
    ·subst e;omega
    ·subst e;exact hm this)]
   exact h.old k hk hm
  hY:=fun p hp=>lN.hY (h.hY p hp)
  plain:=h.plain }
theorem Rel.G9 {w0:World} {mu:Mu} {c:Cz} {st:St} {a:Act} {w:World} (h:Rel w0 mu c st a w) {s j:Nat} {s0:Sl} {A:ns} {b off cap:Nat} {cur cur':Array Value} {ty:TypeId}
  {ys:List (aO A.r)} (hs:nth st s=some s0) (hA:nth s0.bT j=some (some A)) (ku:A.own=true) (nk:c.lc s j=.at b off cap)
  (hg:w.heap[b]?=some (.cells cur ty (0,0))) (oN:cur'.size=cur.size) (hlen:ys.length=A.xs.length)
  (s7:dZ c (w.setRow b cur') (.sp s j) { A with xs:=ys } b off) :
  Rel w0 mu c (eX st s j (some { A with xs:=ys })) a (w.setRow b cur'):=h.Sw hs hA ku nk hg oN hlen s7
end Go.TM
namespace Go.TM
open Go Go.RowKit
theorem Dg:(r:RT)→(x:aO r)→(k:Nat)→(y:CV)→{z:aO r}→oL r x k y=some z→k<r.width
 |.nil,_,_,_,_,h=>by simp [oL] at h
 |.cons t r,x,0,y,z,_=>by simp [RT.width]
 |.cons t r,x,k+1,y,z,h=>by
  have h':(oL r x.2 k y).map (fun z=>((x.1,z):aO (.cons t r)))=some z:=by cases t<;>(simp only [oL] at h;exact h)
  cases hq:oL r x.2 k y with
  |none=>rw [hq] at h';cases h'
  |some z'=>have:=Dg r x.2 k y hq;simp [RT.width];omega
theorem Dh (r:RT) (x:aO r):(off:Nat)→(cs:List CV)→{z:aO r}→vg r x off cs=some z→cs≠[]→off+cs.length≤r.width
 |_,[],_,_,h=>absurd rfl h
 |off,y::l,z,h,_=>by
  simp only [vg] at h
  cases hq:vg r x (off+1) l with
  |none=>simp [hq] at h
  |some y'=>
   simp only [hq] at h;have h1:=Dg r y' off y h
   cases l with
   |nil=>simp;omega
   |cons y2 l2=>have:=Dh r x (off+1) (y2::l2) hq (by simp);simp at this ⊢;omega
theorem rC {vs us:List Value} {off k:Nat} (hle:off+us.length≤vs.length):(eg vs off us)[k]?=if off≤k∧k<off+us.length then us[k-off]? else vs[k]?:=by
 unfold eg;simp only [List.getElem?_append,List.length_append,List.length_take,List.getElem?_take,List.getElem?_drop];have a1:min off vs.length=off:=by omega
 rw [a1]
 by_cases h1:k<off
 ·rw [if_pos (by omega),if_pos h1,if_pos h1,if_neg (by omega)]
 ·by_cases h2:k<off+us.length
  ·rw [if_pos h2,if_neg h1,if_pos ⟨by omega,h2⟩]
  ·rw [if_neg h2,if_neg (by omega)]
   congr 1
   omega
theorem Ha:(m:List (Nat×Nat))→{st:St}→{a j:Nat}→{sl:Sl}→{A:ns}→nth st a=some sl→nth sl.bT j=some (some A)→(a,j)∉m→
  ∃sl',nth (freeze st m) a=some sl'∧nth sl'.bT j=some (some A)
 | [],_,_,_,sl,_,h1,h2,_=>⟨sl,h1,h2⟩
 |(b,i)::m,st,a,j,sl,A,h1,h2,hm=>by
  rw [Na];obtain ⟨f,hf,hn⟩:=kt st b i a;refine Ha m (sl:=f sl) (A:=A) (by rw [hn,h1];rfl) ?_ (fun h=>hm (by simp [h]));rw [(hf sl).2.2.2.2.1 j,if_neg]
  ·exact h2
  ·rintro ⟨rfl,rfl⟩;exact hm (by simp)
theorem Di {c:Cz} {w:World} {b off:Nat} {r:RT} {xs:List (aO r)} {cur:Array Value} {ty:TypeId} {l:Lb} (ku:c.own b=some l)
  (hg:w.heap[b]?=some (.cells cur ty (0,0))) (s7:∀(i:Nat) x,xs[i]?=some x→fx w c.ok r b (off+i*r.width) x)
  {i k:Nat} {x y:aO r} {us:List Value} (hx:xs[i]?=some x) (hle:k+us.length≤r.width) (oN:off+i*r.width+r.width≤cur.size)
  (hy:∀vs,eA w c.ok r vs x→eA w c.ok r (eg vs k us) y) :
  ∀(i':Nat) x',(xs.set i y)[i']?=some x'→fx (w.setRow b (eg cur.toList (off+i*r.width+k) us).toArray) c.ok r b (off+i'*r.width) x':=by
 have wE:=ue (w:=w) ku (eg cur.toList (off+i*r.width+k) us).toArray;have hg':=setRow_heap w b cur (eg cur.toList (off+i*r.width+k) us).toArray ty (0,0) hg;have Hb:∀q,(w.setRow b (eg cur.toList (off+i*r.width+k) us).toArray).cell? ⟨b,q,none⟩=
   if off+i*r.width+k≤q∧q<off+i*r.width+k+us.length then us[q-(off+i*r.width+k)]? else w.cell? ⟨b,q,none⟩:=by
  intro q;rw [cell_of_row _ b q _ ty (0,0) hg',cell_of_row w b q cur ty (0,0) hg];simp only [List.getElem?_toArray];rw [rC (by simp;omega)];simp
 intro i' x' Rk;rw [List.getElem?_set] at Rk
 by_cases e:i=i'
 ·subst e;rw [if_pos rfl] at Rk;have hi:i<xs.length:=(List.getElem?_eq_some_iff.1 hx).1;rw [if_pos hi] at Rk;obtain rfl:=Option.some.inj Rk;obtain ⟨vs,h1,h2⟩:=(mm r b _ x).1 (s7 i x hx);have J2:=eA.length r vs x h2;refine (mm r b _ y).2 ⟨eg vs k us,fun q v hv => ?_,eA.stays wE r _ y (hy vs h2)⟩;rw [rC (by omega)] at hv;rw [Hb]
  by_cases hq:k≤q∧q<k+us.length
  ·rw [if_pos hq] at hv;rw [if_pos (by omega),show off+i*r.width+q-(off+i*r.width+k)=q-k by omega];exact hv
  ·rw [if_neg hq] at hv;rw [if_neg (by omega)];exact h1 q v hv
 ·rw [if_neg e] at Rk;obtain ⟨vs,h1,h2⟩:=(mm r b _ x').1 (s7 i' x' Rk);have J2:=eA.length r vs x' h2;refine (mm r b _ x').2 ⟨vs,fun q v hv => ?_,eA.stays wE r _ x' h2⟩;have hq:q<r.width:=by rw [←J2];exact (List.getElem?_eq_some_iff.1 hv).1
  rw [Hb,if_neg]
  ·exact h1 q v hv
  ·rintro ⟨g1,g2⟩
   rcases Nat.lt_or_gt_of_ne e with h | h
   ·have:(i+1)*r.width≤i'*r.width:=Nat.mul_le_mul_right _ h;rw [Nat.add_mul] at this;omega
   ·have:(i'+1)*r.width≤i*r.width:=Nat.mul_le_mul_right _ h;rw [Nat.add_mul] at this;omega
end Go.TM
namespace Go.TM
open Go Go.RowKit
def RdS (w:World) (ok:Nat→Prop) (r:RT) (u:Value) (ys:List (aO r)):Prop:=
 (u=.slice none 0 0∧ys=[])∨∃a cap,u=.slice (some a) ys.length cap∧(ys≠[]→a.spot=none)∧∀(i:Nat) y,ys[i]?=some y→fx w ok r a.block (a.off+i*r.width) y
def cu (w:World) (ok:Nat→Prop) (r:RT):List Value→List (aO r)→Prop
 |vs,[]=>vs=[]
 |vs,x::xs=>∃l1 l2,vs=l1++l2∧eA w ok r l1 x∧cu w ok r l2 xs
theorem cu.length {w:World} {ok:Nat→Prop} {r:RT}:(vs:List Value)→(xs:List (aO r))→cu w ok r vs xs→vs.length=xs.length*r.width
 |vs,[],h=>by simp only [cu] at h;subst h;simp
 |vs,x::xs,h=>by
  obtain ⟨l1,l2,rfl,h1,h2⟩:=h;have a1:=eA.length r l1 x h1;have a2:=cu.length l2 xs h2;simp [a1,a2,Nat.add_mul];omega
theorem cu.stays {w w':World} {ok Da:Nat→Prop} (h:lf w w' ok Da) {r:RT}:(vs:List Value)→(xs:List (aO r))→cu w ok r vs xs→cu w' Da r vs xs
 |_,[],hr=>hr
 |_,x::xs,⟨l1,l2,e,h1,h2⟩=>⟨l1,l2,e,eA.stays h r l1 x h1,cu.stays h l2 xs h2⟩
theorem cu.append {w:World} {ok:Nat→Prop} {r:RT}:(vs us:List Value)→(xs ys:List (aO r))→cu w ok r vs xs→cu w ok r us ys→cu w ok r (vs++us) (xs++ys)
 |vs,us,[],ys,h,k=>by simp only [cu] at h;subst h;simpa using k
 |vs,us,x::xs,ys,⟨l1,l2,e,h1,h2⟩,k=>⟨l1,l2++us,by rw [e,List.append_assoc],h1,cu.append l2 us xs ys h2 k⟩
theorem cu.one {w:World} {ok:Nat→Prop} {r:RT} {vs:List Value} {x:aO r} (h:eA w ok r vs x):cu w ok r vs [x]:=⟨vs,[],by simp,h,rfl⟩
theorem pU {w:World} {ok:Nat→Prop} {r:RT} (b:Nat):(off:Nat)→(xs:List (aO r))→(∀(i:Nat) x,xs[i]?=some x→fx w ok r b (off+i*r.width) x)→
  ∃vs,w.rangeAt b off vs∧cu w ok r vs xs
 |_,[],_=>⟨[],fun j v h=>by simp at h,rfl⟩
 |off,x::xs,h=>by
  obtain ⟨l1,h1,h2⟩:=(mm r b off x).1 (by have:=h 0 x rfl;simpa using this);obtain ⟨l2,h3,h4⟩:=pU b (off+r.width) xs (fun i y hy=>by
   have:=h (i+1) y (by simpa using hy);rw [Nat.add_mul,Nat.one_mul] at this;rw [show off+r.width+i*r.width=off+(i*r.width+r.width) by omega];exact this)
  have hl:=eA.length r l1 x h2;refine ⟨l1++l2,fun j v hv => ?_,l1,l2,rfl,h2,h4⟩;rw [List.getElem?_append] at hv
  by_cases hj:j<l1.length
  ·rw [if_pos hj] at hv;exact h1 j v hv
  ·rw [if_neg hj] at hv;have:=h3 _ v hv;rw [show off+r.width+(j-l1.length)=off+j by omega] at this;exact this
theorem wO {w:World} {ok:Nat→Prop} {r:RT} {b:Nat}:(off:Nat)→(vs:List Value)→(xs:List (aO r))→cu w ok r vs xs→w.rangeAt b off vs→
  ∀(i:Nat) x,xs[i]?=some x→fx w ok r b (off+i*r.width) x
 |_,_,[],_,_,i,x,h=>by simp at h
 |off,vs,y::xs,⟨l1,l2,e,h1,h2⟩,hr,i,x,h=>by
  subst e;have hl:=eA.length r l1 y h1
  cases i with
  |zero=>
   simp at h;subst h;rw [mm];refine ⟨l1,fun j v hv => ?_,h1⟩;have hj:j<l1.length:=(List.getElem?_eq_some_iff.1 hv).1;have:=hr j v (by rw [List.getElem?_append,if_pos hj];exact hv);simpa using this
  |succ i=>
   have:=wO (off+r.width) l2 xs h2 (fun j v hv=>by
    have:=hr (l1.length+j) v (by rw [List.getElem?_append,if_neg (by omega)];simpa using hv);rw [show off+r.width+j=off+(l1.length+j) by omega];exact this) i x (by simpa using h)
   rw [Nat.add_mul,Nat.one_mul];rw [show off+(i*r.width+r.width)=off+r.width+i*r.width by omega];exact this
theorem ev.one {w:World} {ok:Nat→Prop} {t:Ty} {v:Value} {x:den t} (h:ev w ok t v x):v.oneCell'=true:=by
 cases t with
 |int k=>rw [yr.1 h];rfl
 |bool=>rw [Bw.1 h];rfl
 |str=>rw [EI.1 h];rfl
 |sl r=>
  rcases (rk w ok r v x).1 h with ⟨rfl,_⟩ | ⟨a,cap,rfl,_⟩<;>rfl
theorem eA.one {w:World} {ok:Nat→Prop}:(r:RT)→(vs:List Value)→(x:aO r)→eA w ok r vs x→∀v∈vs,v.oneCell'=true
 |.nil,vs,_,h,v,hv=>by simp only [eA] at h;subst h;simp at hv
 |.cons t r,vs,x,⟨u,l,e,hx,hr⟩,v,hv=>by
  subst e;rcases List.mem_cons.1 hv with rfl | hv
  ·exact hx.one
  ·exact eA.one r l x.2 hr v hv
theorem cu.mT {w:World} {ok:Nat→Prop} {r:RT}:(vs:List Value)→(xs:List (aO r))→cu w ok r vs xs→∀v∈vs,v.oneCell'=true
 |vs,[],h,v,hv=>by simp only [cu] at h;subst h;simp at hv
 |vs,x::xs,⟨l1,l2,e,h1,h2⟩,v,hv=>by
  subst e;rcases List.mem_append.1 hv with hv | hv
  ·exact eA.one r l1 x h1 v hv
  ·exact cu.mT l2 xs h2 v hv
theorem FK {w0:World} {mu:Mu} {c:Cz} {st:St} {a:Act} {w:World} (h:Rel w0 mu c st a w) {r:RT} {x:CV} {u:Value} (hx:qi c st w x u)
  {k:List (aO r)→N} {bP:St} (hv:(o7 st r x k).val=some bP):∃ys,(k ys).val=some bP∧RdS w c.ok r u ys:=by
 cases x with
 |shr r' xs=>
  simp only [o7] at hv
  cases hc:ef r xs with
  |none=>simp [hc,N.val] at hv
  |some ys=>
   simp only [hc] at hv;obtain ⟨rfl,rfl⟩:=cU hc;refine ⟨_,hv,?_⟩;rcases (rk _ _ _ _ _).1 hx with h1 | ⟨a',cap,h1,h2,h3,h4⟩
   ·exact .inl h1
   ·exact .inr ⟨a',cap,h1,fun mU=>(h3 mU).1,h4⟩
 |nn r' xs=>
  simp only [o7] at hv
  cases hc:ef r xs with
  |none=>simp [hc,N.val] at hv
  |some ys=>
   simp only [hc] at hv;obtain ⟨rfl,rfl⟩:=cU hc;refine ⟨_,hv,?_⟩;rcases (rk _ _ _ _ _).1 hx.1 with h1 | ⟨a',cap,h1,h2,h3,h4⟩
   ·exact .inl h1
   ·exact .inr ⟨a',cap,h1,fun mU=>(h3 mU).1,h4⟩
 |gj=>exact ⟨[],by simpa only [o7] using hv,.inl ⟨hx,rfl⟩⟩
 |ref a' j g vw=>
  simp only [o7] at hv
  cases hA:cE st a' j g with
  |none=>simp [hA,N.val] at hv
  |some A=>
   simp only [hA] at hv;have GN:A.md=.sh:=by cases A.md;rfl
   cases hc:ef r A.xs with
   |none=>simp [hc,N.val] at hv
   |some ys=>
    simp only [hc] at hv;obtain ⟨e,he⟩:=cU hc;subst e;simp only at he;subst he;obtain ⟨sl,G1,Su,G2⟩:=dB hA;have Jj:=h.bT a' j sl A G1 G2;refine ⟨vw.app A.xs,hv,?_⟩;clear hv;have hs:=hx.2.2 A hA
    cases hl:c.lc a' j with
    |nil=>
     unfold o8 at hs;rw [hl] at hs;exact .inl ⟨hs.1,List.length_eq_zero_iff.1 hs.2⟩
    |«at» b off cap=>
     unfold o8 at hs;rw [hl] at hs;obtain ⟨ad,k',rfl,hk,BU,ha⟩:=hs;unfold fy at Jj;rw [hl] at Jj;obtain ⟨_,_,_,h5⟩:=Jj;have mU:vw.app A.xs≠[]→k'≠0:=by
      intro mU;have:=List.length_pos_iff.2 mU;omega
     refine .inr ⟨ad,k',rfl,fun h=>by rw [ha (mU h)],fun i y hy => ?_⟩;have hk0:k'≠0:=mU (by intro e;rw [e] at hy;simp at hy);rw [ha hk0];have:=(dZ.sh GN).1 h5 _ y (View.Bx vw A.xs hy);have e:off+vw.lo*A.r.width+i*A.r.width=off+(vw.lo+i)*A.r.width:=by rw [Nat.add_mul];omega
     show fx w c.ok A.r b (off+vw.lo*A.r.width+i*A.r.width) y;rw [e];exact this
 |_=>simp [o7,N.val] at hv
theorem Rel.place {w0:World} {mu:Mu} {c c':Cz} {st:St} {a:Act} {w w':World} (h:Rel w0 mu c st a w) {d B:Nat} {s0:Sl} {A:ns} {v:Value}
  (mV:nth st d=some s0) (hd:d<a.tmps.size)
  (G8:c'.bx=c.bx) (nk:∀s j,¬(s=d∧j=0)→c'.lc s j=c.lc s j) (ku:∀k,k≠B→c'.own k=c.own k)
  (hoB:c'.own B=some (.sp d 0)∨(c'.own B=c.own B∧w'.heap[B]?=w.heap[B]?))
  (hB:w.heap.size≤B∨∃s j,c.own B=some (.sp s j)∧(s=d∨∀sl A,nth st s=some sl→nth sl.bT j≠some (some A)))
  (hBn:c'.own B=some (.sp d 0)→B<w'.heap.size)
  (hw:∀k,k<w.heap.size→k≠B→w'.heap[k]?=w.heap[k]?) (xL:w'.os=w.os∧w'.tape=w.tape∧w'.output=w.output∧w.heap.size≤w'.heap.size)
  (hA:fy c' w' d 0 A) (Hc:v.oneCell'=true) (hv:o8 (c'.lc d 0) A.r.width 0 A.xs.length v) :
  Rel w0 mu c' (sY (fun s=>{ s with v:=.one (.ref d 0 (s0.ag+1) .full),bT:=[some A],ag:=s0.ag+1 }) st d) (a.put (some d) v) w':=by
 have hn:∀s,nth (sY (fun s=>{ s with v:=.one (.ref d 0 (s0.ag+1) .full),bT:=[some A],ag:=s0.ag+1 }) st d) s=
   if s=d then some { s0 with v:=.one (.ref d 0 (s0.ag+1) .full),bT:=[some A],ag:=s0.ag+1 } else nth st s:=by
  intro s;rw [kZ]
  by_cases e:s=d
  ·subst e;simp [mV]
  ·simp [e]
 generalize sY (fun s=>{ s with v:=.one (.ref d 0 (s0.ag+1) .full),bT:=[some A],ag:=s0.ag+1 }) st d=bP at hn ⊢;have hnB:∀k,k<w.heap.size→c.ok k→k≠B:=by
  rintro k hk iN rfl
  rcases hB with hB | ⟨s,j,hB,_⟩
  ·omega
  ·unfold Cz.ok at iN;rw [hB] at iN;cases iN
 have wE:lf w w' c.ok c'.ok:=⟨xL.2.2.2,fun k hk iN=>hw k hk (hnB k hk iN),fun k hk iN=>by unfold Cz.ok;rw [ku k (hnB k hk iN)];exact iN⟩;have lN:Fw c st w c' bP w':={
  stays:=wE
  refs:=fun a' j g A' hg iy=>by
   by_cases e:a'=d
   ·subst e;obtain ⟨sl,k1,k2,k3⟩:=dB iy;rw [hn,if_pos rfl] at k1;obtain rfl:=Option.some.inj k1;simp only at k2;unfold gJ at hg;rw [mV] at hg;simp only at hg;omega
   ·have Sv:cE st a' j g=some A':=by
     unfold cE at iy ⊢;rw [hn,if_neg e] at iy;exact iy
    refine ⟨A',Sv,rfl,rfl,nk a' j (fun h=>e h.1),fun _=>⟨rfl,fun k off cap hl => ?_⟩⟩;have ha:=h.JZ Sv;have dO:=ha.lt hl;unfold fy at ha;rw [hl] at ha;obtain ⟨g1,_⟩:=ha;refine hw k dO ?_
    rintro rfl
    rcases hB with hB | ⟨s',j',hB,Vh⟩
    ·omega
    ·rw [hB] at g1
     cases ho:A'.own with
     |true=>
      simp [ho] at g1;obtain ⟨rfl,rfl⟩:=g1;obtain ⟨sl,q1,_,q3⟩:=dB Sv;rcases Vh with Vh | Vh
      ·exact e Vh
      ·exact Vh sl A' q1 q3
     |false=>simp [ho] at g1
  G0:=fun b' g sj _ uf=>by
   refine ⟨⟨sj,?_⟩,by rw [G8]⟩;unfold fM at uf ⊢;rw [hn] at uf
   by_cases e:b'=d
   ·subst e;simpa [mV] using uf
   ·simpa [e] using uf
  gA:=fun a'=>by
   unfold gJ;rw [hn]
   by_cases e:a'=d
   ·subst e;simp [mV]
   ·simp [e]
  gB:=fun a'=>by
   unfold jW;rw [hn]
   by_cases e:a'=d
   ·subst e;simp [mV]
   ·simp [e]
  gE:=fun a'=>by
   unfold wD;rw [hn]
   by_cases e:a'=d
   ·subst e;simp [mV]
   ·simp [e] }
 exact {
  je:=fun t=>by
   have e1:dI bP t=if t=d then .one (.ref d 0 (s0.ag+1) .full) else dI st t:=by
    unfold dI;rw [hn]
    by_cases e:t=d<;>simp [e]
   rw [e1,eval_put]
   by_cases e:t=d
   ·subst e;simp only [if_true,true_and,hd];refine ⟨Hc,?_,fun A' iy => ?_⟩
    ·unfold gJ;rw [hn];simp
    ·obtain ⟨sl,k1,k2,k3⟩:=dB iy;rw [hn,if_pos rfl] at k1;obtain rfl:=Option.some.inj k1;simp [nth] at k3;subst k3;exact hv
   ·simp only [e,if_false];rw [if_neg (fun h=>e (Option.some.inj h.1).symm)];exact lN.vi (h.je t)
  boxes:=fun s sl sj hs hb=>by
   rw [hn] at hs;have abX:Au c st w s sj:=by
    by_cases e:s=d
    ·subst e;rw [if_pos rfl] at hs;obtain rfl:=Option.some.inj hs;exact h.boxes s s0 sj mV hb
    ·rw [if_neg e] at hs;exact h.boxes s sl sj hs hb
   have dO:=h.yu abX.1;have mU:c.bx s≠B:=by
    intro e;rcases hB with hB | ⟨s',j,hB,_⟩
    ·omega
    ·rw [←e,abX.1] at hB;cases hB
   exact abX.go lN (by rw [G8]) (ku _ mU) (hw _ dO mU)
  bT:=fun s j sl A' hs iy=>by
   rw [hn] at hs
   by_cases e:s=d
   ·subst e;rw [if_pos rfl] at hs;obtain rfl:=Option.some.inj hs
    cases j with
    |zero=>simp [nth] at iy;subst iy;exact hA
    |succ j=>simp [nth] at iy
   ·rw [if_neg e] at hs;have ha:=h.bT s j sl A' hs iy;refine ha.go wE (nk s j (fun h=>e h.1)) (fun k g1 => ?_);have dO:k<w.heap.size:=h.yu g1;have mU:k≠B:=by
     rintro rfl
     rcases hB with hB | ⟨s',j',hB,Vh⟩
     ·omega
     ·rw [hB] at g1;simp at g1;obtain ⟨rfl,rfl⟩:=g1;rcases Vh with Vh | Vh
      ·exact e Vh
      ·exact Vh sl A' hs iy
    exact ⟨hw k dO mU,ku k mU⟩
  owned:=fun b l hb=>by
   by_cases e:b=B
   ·subst e;rcases hoB with hoB | ⟨hoB,_⟩
    ·refine ⟨hBn hoB,?_⟩;rcases hB with hB | ⟨s',j',hB,_⟩
     ·exact .inr (.inl (Nat.le_trans h.kept.2.2.2 hB))
     ·rcases (h.owned _ _ hB).2 with h2 | h2
      ·cases h2
      ·exact .inr h2
    ·rw [hoB] at hb;have:=h.owned b l hb;exact ⟨Nat.lt_of_lt_of_le this.1 xL.2.2.2,this.2⟩
   ·rw [ku b e] at hb;have:=h.owned b l hb;exact ⟨Nat.lt_of_lt_of_le this.1 xL.2.2.2,this.2⟩
  free:=fun b hb h1=>by
   by_cases e:b=B
   ·subst e;rcases hB with hB | ⟨s',j',hB,_⟩
    ·have:=h.kept.2.2.2;omega
    ·rcases (h.owned _ _ hB).2 with h2 | h2 | h2
     ·cases h2
     ·omega
     ·exact .inl h2
   ·rw [ku b e] at h1;exact h.free b hb h1
  kept:=⟨xL.1.trans h.kept.1,xL.2.1.trans h.kept.2.1,xL.2.2.1.trans h.kept.2.2.1,Nat.le_trans h.kept.2.2.2 xL.2.2.2⟩
  old:=fun k hk hm=>by
   have Jf:=Nat.lt_of_lt_of_le hk h.kept.2.2.2;rw [hw k Jf (fun e => ?_)]
   ·exact h.old k hk hm
   ·subst e;rcases hB with hB | ⟨s',j',hB,_⟩
    ·omega
    ·rcases (h.owned _ _ hB).2 with h2 | h2 | h2
     ·cases h2
     ·omega
     ·exact hm h2
  hY:=fun p hp=>lN.hY (h.hY p hp)
  plain:=h.plain }
end Go.TM
namespace Go.TM
open Go Go.RowKit
theorem Rel.kill {w0:World} {mu:Mu} {c:Cz} {st:St} {a:Act} {w:World} (h:Rel w0 mu c st a w) (s j:Nat) :
  Rel w0 mu c (eX st s j none) a w∧∀sl A,nth (eX st s j none) s=some sl→nth sl.bT j≠some (some A):=by
 have hn:∀k,∃f:Sl→Sl,(∀x,(f x).v=x.v∧(f x).box=x.box∧(f x).bg=x.bg∧(f x).ag=x.ag∧
   (∀i,nth (f x).bT i=if k=s∧i=j then (nth x.bT i).map (fun _=>none) else nth x.bT i)∧(f x).ep=if k=s then x.ep+1 else x.ep)∧nth (eX st s j none) k=(nth st k).map f:=by
  intro k;unfold eX
  by_cases e:k=s
  ·subst e;refine ⟨fun s=>{ s with bT:=sY (fun _=>none) s.bT j,ep:=s.ep+1 },fun x=>⟨rfl,rfl,rfl,rfl,fun i => ?_,by simp⟩,qh _ _ _⟩;simp only [kZ,true_and]
  ·refine ⟨id,fun x=>⟨rfl,rfl,rfl,rfl,fun i => ?_,by simp [e]⟩,by rw [vh _ _ e];simp⟩;simp [e]
 generalize eX st s j none=bP at hn ⊢;have lN:Fw c st w c bP w:={
  stays:=lf.refl w _
  refs:=fun a' j' g A' _ iy=>by
   obtain ⟨sl,k1,k2,k3⟩:=dB iy;obtain ⟨f,hf,hk⟩:=hn a';rw [hk] at k1
   cases hx:nth st a' with
   |none=>rw [hx] at k1;simp at k1
   |some x=>
    rw [hx] at k1;simp at k1;subst k1;rw [(hf x).2.2.2.2.1 j'] at k3;rw [(hf x).2.2.2.1] at k2;refine ⟨A',?_,rfl,rfl,rfl,fun _=>⟨rfl,fun _ _ _ _=>rfl⟩⟩
    by_cases e:a'=s∧j'=j
    ·rw [if_pos e] at k3
     cases hq:nth x.bT j'<;>simp [hq] at k3
    ·rw [if_neg e] at k3;unfold cE;rw [hx];have:Nat.beq x.ag g=true:=by rw [k2];exact Nat.beq_refl g
     simp [this,k3]
  G0:=fun b g sj _ hb=>by
   refine ⟨⟨sj,?_⟩,rfl⟩;obtain ⟨f,hf,hk⟩:=hn b;unfold fM at hb ⊢;rw [hk] at hb
   cases hx:nth st b with
   |none=>rw [hx] at hb;simp at hb
   |some x=>rw [hx] at hb;simpa [(hf x).2.1,(hf x).2.2.1] using hb
  gA:=fun b=>by
   obtain ⟨f,hf,hk⟩:=hn b;unfold gJ;rw [hk]
   cases hx:nth st b with
   |none=>simp
   |some x=>simp [(hf x).2.2.2.1]
  gB:=fun b=>by
   obtain ⟨f,hf,hk⟩:=hn b;unfold jW;rw [hk]
   cases hx:nth st b with
   |none=>simp
   |some x=>simp [(hf x).2.2.1]
  gE:=fun b=>by
   obtain ⟨f,hf,hk⟩:=hn b;unfold wD;rw [hk]
   cases hx:nth st b with
   |none=>simp
   |some x=>
    simp only [Option.map_some];rw [(hf x).2.2.2.2.2]
    split<;>omega }
 refine ⟨{
  je:=fun t=>by
   obtain ⟨f,hf,hk⟩:=hn t;have:dI bP t=dI st t:=by
    unfold dI;rw [hk]
    cases hx:nth st t with
    |none=>rfl
    |some x=>exact (hf x).1
   rw [this];exact lN.vi (h.je t)
  boxes:=fun b sl cs hs hb=>by
   obtain ⟨f,hf,hk⟩:=hn b;rw [hk] at hs
   cases hx:nth st b with
   |none=>rw [hx] at hs;simp at hs
   |some x=>
    rw [hx] at hs;simp at hs;subst hs;rw [(hf x).2.1] at hb;exact (h.boxes b x cs hx hb).go lN rfl rfl rfl
  bT:=fun b i sl A hs hA=>by
   obtain ⟨f,hf,hk⟩:=hn b;rw [hk] at hs
   cases hx:nth st b with
   |none=>rw [hx] at hs;simp at hs
   |some x=>
    rw [hx] at hs;simp at hs;subst hs;rw [(hf x).2.2.2.2.1 i] at hA
    by_cases e:b=s∧i=j
    ·rw [if_pos e] at hA
     cases hq:nth x.bT i<;>simp [hq] at hA
    ·rw [if_neg e] at hA;exact h.bT b i x A hx hA
  owned:=h.owned
  free:=h.free
  kept:=h.kept
  old:=h.old
  hY:=fun p hp=>lN.hY (h.hY p hp)
  plain:=h.plain },fun sl A hs => ?_⟩
 obtain ⟨f,hf,hk⟩:=hn s;rw [hk] at hs
 cases hx:nth st s with
 |none=>rw [hx] at hs;simp at hs
 |some x=>
  rw [hx] at hs;simp at hs;subst hs;rw [(hf x).2.2.2.2.1 j,if_pos ⟨rfl,rfl⟩]
  cases nth x.bT j<;>simp
def Cz.gk (c:Cz) (d:Nat) (L:Loc) (B:Option Nat):Cz:=
 { bx:=c.bx,lc:=fun s j=>if s=d∧j=0 then L else c.lc s j,own:=fun k=>if B=some k then some (.sp d 0) else c.own k }
theorem Ay {st:St} {d:Option Nat} {A:ns} {bP:St} (h:(gk st d A).val=some bP) :
  ∃k s0,d=some k∧nth st k=some s0∧bP=sY (fun s=>{ s with v:=.one (.ref k 0 (s0.ag+1) .full),bT:=[some A],ag:=s0.ag+1 }) st k:=by
 unfold gk at h
 cases d with
 |none=>simp [N.val] at h
 |some k=>
  cases hs:nth st k with
  |none=>simp [hs,N.val] at h
  |some s0=>
   simp only [hs,N.val,Option.some.injEq] at h;exact ⟨k,s0,rfl,hs,h.symm⟩
theorem FL {st:St} {d:Option Nat} {cs:List CV} {bP:St} (h:(kL st d cs).val=some bP) :
  ∃k s0,d=some k∧nth st k=some s0∧bP=sY (fun s=>{ s with v:=.one (.ptr k (s0.bg+1) 0),box:=some cs,bg:=s0.bg+1 }) st k:=by
 unfold kL at h
 cases d with
 |none=>simp [N.val] at h
 |some k=>
  cases hs:nth st k with
  |none=>simp [hs,N.val] at h
  |some s0=>
   simp only [hs,N.val,Option.some.injEq] at h;exact ⟨k,s0,rfl,hs,h.symm⟩
theorem Rel.fresh {w0:World} {mu:Mu} {c:Cz} {st:St} {a:Act} {w:World} (h:Rel w0 mu c st a w) {d:Nat} {s0:Sl} {r:RT} {xs:List (aO r)} {cur:Array Value} {ty cap:Nat}
  (mV:nth st d=some s0) (hd:d<a.tmps.size) (hle:xs.length≤cap) (oN:cap*r.width≤cur.size) {vs:List Value} (Gv:cu w c.ok r vs xs) (ane:cur.toList.take vs.length=vs) :
  ∃c',Rel w0 mu c' (sY (fun s=>{ s with v:=.one (.ref d 0 (s0.ag+1) .full),bT:=[some { r:=r,own:=true,xs:=xs }],ag:=s0.ag+1 }) st d)
   (a.put (some d) (.slice (some ⟨w.heap.size,0,none⟩) xs.length cap)) (w.alloc (.cells cur ty (0,0))):=by
 have Cm:=heap_alloc_new w (.cells cur ty (0,0));refine ⟨c.gk d (.at w.heap.size 0 cap) (some w.heap.size),h.place (B:=w.heap.size) (A:={ r:=r,own:=true,xs:=xs }) mV hd rfl ?_ ?_ (.inl ?_) (.inl (Nat.le_refl _)) (fun _=>by simp) (fun k hk _=>heap_alloc_old w _ k hk)
  ⟨rfl,rfl,rfl,by simp⟩ ?_ rfl ?_⟩
 ·intro s j mU;simp [Cz.gk,mU]
 ·intro k hk;simp only [Cz.gk];rw [if_neg (by intro e;exact hk (Option.some.inj e).symm)]
 ·simp [Cz.gk]
 ·have wE:lf w (w.alloc (.cells cur ty (0,0))) c.ok (c.gk d (.at w.heap.size 0 cap) (some w.heap.size)).ok:=Av w _ _ _ (fun b hb iN=>by
   unfold Cz.ok Cz.gk;simp only;rw [if_neg (by intro e;have:=Option.some.inj e;omega)];exact iN)
  unfold fy;simp only [Cz.gk,and_self,if_true];refine ⟨trivial,hle,⟨cur,ty,Cm,by simpa using oN⟩,?_⟩;refine (dZ.sh rfl).2 ?_;refine wO 0 vs xs (cu.stays wE vs xs Gv) (fun j v hv => ?_);rw [cell_of_row _ _ _ cur ty (0,0) Cm,Nat.zero_add];have hj:j<vs.length:=(List.getElem?_eq_some_iff.1 hv).1;rw [←ane,List.getElem?_take,if_pos hj] at hv;simpa using hv
 ·simp only [Cz.gk,and_self,if_true];exact ⟨_,cap,rfl,hle,by omega,fun _=>by simp⟩
theorem Jk {P:Program} {t ty e:TypeId} {i:TypeInfo} (ht:P.underlying t=some (.slice e)) (hi:P.info? e=some i) (w:World)
  (g o Dj LS:Nat) (cur:Array Value) (te:TypeId) (hg:w.heap[g]?=some (.cells cur te (0,0)))
  (a:Addr) (m c:Nat) (news:List Value) (hl:news.length=m*i.size) (aif:∀j u,news[j]?=some u→w.cell? (a.add j)=some u) (h1:∀u∈news,u.oneCell'=true)
  (xM:Dj+m≤LS) (rD:o+Dj*i.size+news.length≤cur.size) :
  (Builtin.append_ #[t,t] ty #[.slice (some ⟨g,o,none⟩) Dj LS,.slice (some a) m c]).run P w=
   .ok (.slice (some ⟨g,o,none⟩) (Dj+m) LS) (w.setRow g (eg cur.toList (o+Dj*i.size) news).toArray):=by
 have hf:=run_firstCells_some (P:=P) w i.size m a m c news hl aif;have wE:=run_storeCells_at P g (o+Dj*i.size) te news 0 cur w hg (by simpa using rD) h1;simp only [Nat.add_zero] at wE;simp [Builtin.append_,run_underlying ht,sizeOf,typeInfo,hi,Builtin.lenOf,xM,hf,Addr.add_mid,wE,eg]
theorem run_append_nothing {P:Program} {t ty e:TypeId} {i:TypeInfo} (ht:P.underlying t=some (.slice e)) (hi:P.info? e=some i) (w:World) (base:Option Addr) (Dj LS:Nat) (hle:Dj≤LS)
  (x:Value) (hx:(x=.slice none 0 0)∨∃a c,x=.slice (some a) 0 c) :
  (Builtin.append_ #[t,t] ty #[.slice base Dj LS,x]).run P w=.ok (.slice base Dj LS) w:=by
 rcases hx with rfl | ⟨a,c,rfl⟩
 ·cases base<;>simp [Builtin.append_,run_underlying ht,sizeOf,typeInfo,hi,Builtin.lenOf,Builtin.firstCells,hle,storeCells]
 ·cases base<;>simp [Builtin.append_,run_underlying ht,sizeOf,typeInfo,hi,Builtin.lenOf,Builtin.firstCells,hle,storeCells,loadCells,loadCellsFrom]
end Go.TM
namespace Go.TM
open Go Go.RowKit
theorem dZ.Vi {c:Cz} {w:World} {l:Lb} {A:ns} {b off:Nat} (hm:A.md=.sh) {ys:List (aO A.r)} (h:∀(i:Nat) x,ys[i]?=some x→fx w c.ok A.r b (off+i*A.r.width) x):dZ c w l { A with xs:=ys } b off:=by
 unfold dZ;show match A.md with | .sh=>_
 rw [hm];exact h
theorem Sx {P:Program} {T:oB} (hT:jF P T) {w0:World} {mu:Mu} {c:Cz} {st:St} {a:Act} {w:World} (h:Rel w0 mu c st a w)
  {t:Nat} {x v:V} {ux uv:Value} (hx:hU c st w x ux) (hv:hU c st w v uv) {bP:St} (hs:(xf T st t x v).val=some bP) :
  ∃w',(Instr.storeAt t ux uv).run P w=.ok () w'∧∃c',Rel w0 mu c' bP a w':=by
 cases hn:T.cells t with
 |none=>cases x with
  |one y=>cases y<;>simp [xf,hn,N.val] at hs
  |agg _=>simp [xf,N.val] at hs
  |qd _=>simp [xf,N.val] at hs
 |some n=>cases x with
  |agg _=>simp [xf,N.val] at hs
  |qd _=>simp [xf,N.val] at hs
  |one y=>cases y with
   |bad | int _ _ | bool _ | str _ | gj | Pn | shr _ _ | nn _ _ | ref _ _ _ _ | oZ _ _ _ | xJ _ _ _ | fn _ _ _=>simp [xf,N.val] at hs
   |ptr b g off=>
    simp only [xf,hn] at hs
    cases hb:fM st b g with
    |none=>simp [hb,N.val] at hs
    |some cs=>
     simp only [hb] at hs;obtain ⟨hc,hs⟩:=jt hs;rw [Bool.and_eq_true] at hc
     cases hp:putCells cs off v.cells with
     |none=>simp [hp,N.val] at hs
     |some l=>
      simp only [hp,N.val,Option.some.injEq] at hs;subst hs;obtain ⟨hle,rfl⟩:=Cd hp;obtain ⟨sl,G1,Su,G2⟩:=j5 hb;obtain ⟨ho,vs,ty,hh,hl⟩:=h.boxes b sl cs G1 G2;obtain ⟨Az,Nb⟩:=hv.cells hc.1;have hu:=hx.2.2 cs hb;subst hu;have hlen:uv.cells.toList.length=n:=by rw [←Az.1];exact Nat.eq_of_beq_eq_true hc.2
      have J2:=hl.1;have Za:=Az.1;refine ⟨_,Ax hT hn w (c.bx b) off uv hlen Nb hh (by simp at J2 ⊢;omega),c,?_⟩;refine h.Vg G1 G2 hh ?_;simpa using hl.eg Az off hle
   |M6 a' j g i off=>
    simp only [xf,hn] at hs
    cases hA:cE st a' j g with
    |none=>simp [hA,N.val] at hs
    |some A=>
     simp only [hA] at hs;obtain ⟨hc,hz⟩:=jt hs;clear hs;rw [Bool.and_eq_true,Bool.and_eq_true,Bool.and_eq_true] at hc;obtain ⟨⟨⟨anf,ku⟩,aaC⟩,Py⟩:=hc;have Py:0<n:=by simp [Nat.blt] at Py;omega
     obtain ⟨sl,G1,Su,G2⟩:=dB hA;have Jj:=h.bT a' j sl A G1 G2;obtain ⟨hi,b,o,cap,nk,hu⟩:=hx.2.2 A hA;have abY:=Jj;unfold fy at abY;rw [nk] at abY;obtain ⟨ho,BU,⟨cur,ty,hg,oN⟩,s7⟩:=abY;rw [ku] at ho;obtain ⟨Az,Nb⟩:=hv.cells anf;have hlen:uv.cells.toList.length=n:=by rw [←Az.1];exact Nat.eq_of_beq_eq_true aaC
     have Pz:o+i*A.r.width+A.r.width≤cur.size:=by
      have:(i+1)*A.r.width≤cap*A.r.width:=Nat.mul_le_mul_right _ (by omega);rw [Nat.add_mul] at this;omega
     subst hu
     cases hw:Nat.beq n A.r.width&&A.r.pE&&Nat.beq off 0 with
     |false=>
      rw [hw] at hz;simp only [cond_false] at hz
      cases hm:A.md with
      |sh=>
       have s7:=(dZ.sh hm).1 s7
       cases Vf:A.xs[i]? with
       |none=>simp [Vf,N.val] at hz
       |some x0=>
        simp only [Vf] at hz;change (match vg A.r x0 off v.cells with | some y=>N.done (eX st a' j (some (A.put (A.xs.set i y)))) | none=>N.fail).val=some bP at hz
        cases hp:vg A.r x0 off v.cells with
        |none=>simp [hp,N.val] at hz
        |some y=>
         simp only [hp,N.val,Option.some.injEq] at hz;subst hz;have Za:=Az.1;have hbd:off+uv.cells.toList.length≤A.r.width:=by
          rw [←Za];exact Dh A.r x0 off v.cells hp (by intro e;rw [e] at Za;simp at Za;simp at hlen;omega)
         refine ⟨_,Ax hT hn w b (o+i*A.r.width+off) uv hlen Nb hg (by omega),c,?_⟩;exact h.G9 G1 G2 ku nk hg (by rw [List.size_toArray,mG (by simp at hbd ⊢;omega)];simp) (by simp)
          (dZ.Vi hm (Di ho hg s7 Vf hbd Pz (fun vs Gv=>G5 A.r x0 off v.cells y vs _ (by rw [eA.length A.r vs x0 Gv];exact hbd) hp Az Gv)))
     |true=>
      rw [hw] at hz;simp only [cond_true] at hz;rw [Bool.and_eq_true,Bool.and_eq_true] at hw;have hnW:=Nat.eq_of_beq_eq_true hw.1.1;have anh:=Nat.eq_of_beq_eq_true hw.2;subst anh;have Zb:uv.cells.toList.length=A.r.width:=by rw [hlen,hnW]
      have ani:∀vs:List Value,vs.length=A.r.width→eg vs 0 uv.cells.toList=uv.cells.toList:=by
       intro vs J2;unfold eg;rw [List.drop_eq_nil_of_le (by omega)];simp
      cases hm:A.md with
      |sh=>
       have s7:=(dZ.sh hm).1 s7;obtain ⟨x1,m,h1,h2,h3⟩:=De h A.r v.cells _ Az _ hz;obtain ⟨hma,h1⟩:=jt h1
       cases Vf:A.xs[i]? with
       |none=>simp [Vf,N.val] at h1
       |some x0=>
        simp only [Vf] at h1;change some _=some bP at h1;obtain rfl:=Option.some.inj h1;have hnm:(a',j)∉m:=by
         intro Gw;have:=List.all_eq_true.1 hma _ Gw;simp at this
        have hf:=h.freeze m;obtain ⟨sl',g1,g2⟩:=Ha m G1 G2 hnm;have abZ:(c.drop m).lc a' j=.at b o cap:=by rw [(Cz.Rl m c).1];exact nk
        have ho':(c.drop m).own b=some (.sp a' j):=Cz.J1 m c b ho (fun p hp=>by
         intro e;injection e with e1 e2;exact hnm (by rw [e1,e2];exact hp))
        have aih:∀(i:Nat) x,A.xs[i]?=some x→fx w (c.drop m).ok A.r b (o+i*A.r.width) x:=fun i x hx=>
         fx.stays (Fw.freeze w m c st).stays _ _ _ x rfl (s7 i x hx)
        have PA:eA w (c.drop m).ok A.r uv.cells.toList x1:=h3 _ (fun k hk=>Cz.Dd m c k hk) (fun p hp k hk=>Cz.GO m c k hk hp);refine ⟨_,Ax hT hn w b (o+i*A.r.width+0) uv hlen Nb hg (by omega),c.drop m,?_⟩;refine hf.G9 g1 g2 ku abZ hg (by rw [List.size_toArray,mG (by simp at Zb ⊢;omega)];simp) (by simp) (dZ.Vi hm ?_);refine Di ho' hg aih Vf (k:=0) (by omega) Pz (fun vs Gv => ?_);rw [ani vs (eA.length A.r vs x0 Gv)];exact PA
end Go.TM
namespace Go.TM
open Go Go.RowKit
theorem Fw.heap {c:Cz} {st:St} {w w':World} (hh:w'.heap=w.heap):Fw c st w c st w' where
 stays:=⟨by rw [hh];exact Nat.le_refl _,fun b _ _=>by rw [hh],fun _ _ h=>h⟩
 refs _ _ _ A' _ h:=⟨A',h,rfl,rfl,rfl,fun _=>⟨rfl,fun _ _ _ _=>by rw [hh]⟩⟩
 G0 _ _ sj _ h:=⟨⟨sj,h⟩,rfl⟩
 gA _:=Nat.le_refl _
 gB _:=Nat.le_refl _
 gE _:=Nat.le_refl _
theorem Rel.heap {w0:World} {mu:Mu} {c:Cz} {st:St} {a:Act} {w w':World} (h:Rel w0 mu c st a w) (hh:w'.heap=w.heap) (ho:w'.os=w.os∧w'.tape=w.tape∧w'.output=w.output) :
  Rel w0 mu c st a w' where
 je t:=(Fw.heap hh).vi (h.je t)
 boxes s sl cs hs hb:=(h.boxes s sl cs hs hb).go (Fw.heap hh) rfl rfl (by rw [hh])
 bT s j sl A hs hA:=(h.bT s j sl A hs hA).go (Fw.heap (c:=c) (st:=st) hh).stays rfl (fun b _=>⟨by rw [hh],rfl⟩)
 owned b l hb:=by rw [hh];exact h.owned b l hb
 free:=h.free
 kept:=⟨ho.1.trans h.kept.1,ho.2.1.trans h.kept.2.1,ho.2.2.trans h.kept.2.2.1,by rw [hh];exact h.kept.2.2.2⟩
 old k hk hm:=by rw [hh];exact h.old k hk hm
 hY p hp:=(Fw.heap hh).hY (h.hY p hp)
 plain:=h.plain
theorem Rel.drew {w0:World} {mu:Mu} {c:Cz} {st:St} {a:Act} {w:World} (h:Rel w0 mu c st a w):Rel w0 mu c st a w.drew:=h.heap rfl ⟨rfl,rfl,rfl⟩
theorem kX.length:(r:RT)→(vs:List Value)→kX r vs→vs.length=r.width
 |.nil,vs,h=>by simp only [kX] at h;subst h;rfl
 |.cons (.int _) r,vs,⟨l,h,h'⟩=>by subst h;simp [RT.width,kX.length r l h']
 |.cons .bool r,vs,⟨l,h,h'⟩=>by subst h;simp [RT.width,kX.length r l h']
 |.cons .str r,vs,⟨l,h,h'⟩=>by subst h;simp [RT.width,kX.length r l h']
 |.cons (.sl _) r,vs,⟨l,h,h'⟩=>by subst h;simp [RT.width,kX.length r l h']
theorem RdS.cells {w:World} {ok:Nat→Prop} {r:RT} {u:Value} {ys:List (aO r)} (h:RdS w ok r u ys) :
  (ys=[]∧(u=.slice none 0 0∨∃a c,u=.slice (some a) 0 c))∨
  (ys≠[]∧∃a c vs,u=.slice (some a) ys.length c∧cu w ok r vs ys∧∀(j:Nat) v,vs[j]?=some v→w.cell? (a.add j)=some v):=by
 rcases h with ⟨rfl,rfl⟩ | ⟨a,c,rfl,hs,hr⟩
 ·exact .inl ⟨rfl,.inl rfl⟩
 ·by_cases e:ys=[]
  ·subst e;exact .inl ⟨rfl,.inr ⟨a,c,rfl⟩⟩
  ·obtain ⟨vs,h1,h2⟩:=pU a.block a.off ys hr;refine .inr ⟨e,a,c,vs,rfl,h2,fun j v hv => ?_⟩;have:a=⟨a.block,a.off,none⟩:=by have:=hs e;cases a;simp at this ⊢;exact this
   rw [this,Addr.add_mid];exact h1 j v hv
theorem Hd {P:Program} {T:oB} (hT:jF P T) {w:World} {t ty:Nat} {r:RT} {bytes:Nat} (ht:T.elem t=some (r,bytes)) {ux uy:Value} {nx ny:Nat} {vx vy:List Value} {xb:Option Nat}
  (hb:(nx+ny)*bytes≤lim) (Vj:vx.length=nx*r.width) (Vk:vy.length=ny*r.width) (oy:∀u∈vy,u.oneCell'=true)
  (hy:(ny=0∧(uy=.slice none 0 0∨∃a c,uy=.slice (some a) 0 c))∨(ny≠0∧∃a c,uy=.slice (some a) ny c∧∀(j:Nat) v,vy[j]?=some v→w.cell? (a.add j)=some v))
  (hx:(xb=none∧ux=.slice none 0 0∧nx=0)∨∃b off lo cap n ad cur te,xb=some b∧ux=.slice (some ad) nx n∧nx≤n∧lo+n≤cap∧(n≠0→ad=⟨b,off+lo*r.width,none⟩)∧
   w.heap[b]?=some (.cells cur te (0,0))∧off+cap*r.width≤cur.size∧w.rangeAt b (off+lo*r.width) vx) :
  ∃v w',(Builtin.append_ #[t,t] ty #[ux,uy]).run P w=.ok v w'∧(w'.os=w.os∧w'.tape=w.tape∧w'.output=w.output∧w.heap.size≤w'.heap.size)∧
   ((nx=0∧ny=0∧w'=w∧v=.slice none 0 0)∨∃B o cp cur te,v.oneCell'=true∧o8 (.at B o cp) r.width 0 (nx+ny) v∧nx+ny≤cp∧w'.heap[B]?=some (.cells cur te (0,0))∧o+cp*r.width≤cur.size∧
    w'.rangeAt B o (vx++vy)∧(∀k,k<w.heap.size→k≠B→w'.heap[k]?=w.heap[k]?)∧(w.heap.size≤B∨xb=some B)):=by
 obtain ⟨e,i,z,hu,hi,oN,He,hby,Nc,hz,Pf⟩:=hT.elem t r bytes ht;have Ce:z.cells.size=r.width:=by have:=kX.length r _ Pf;simpa using this
 have Jl:(nx+ny)*bytes≤140737488355328:=by unfold lim at hb;omega
 have ate:nx+ny≤140737488355328:=by
  have:(nx+ny)*1≤(nx+ny)*bytes:=Nat.mul_le_mul_left _ Nc;omega
 have grown:∀(old:Nat) (run:(Builtin.append_ #[t,t] ty #[ux,uy]).run P w=.ok (.slice (some ⟨w.heap.size,0,none⟩) (nx+ny) (grownCap w (nx+ny) old e)) (w.drew.alloc (.cells (vx.toArray++vy.toArray++Builtin.zeroCells z.cells (grownCap w (nx+ny) old e-(nx+ny))) e (0,0)))),
   ∃v w',(Builtin.append_ #[t,t] ty #[ux,uy]).run P w=.ok v w'∧(w'.os=w.os∧w'.tape=w.tape∧w'.output=w.output∧w.heap.size≤w'.heap.size)∧
   ((nx=0∧ny=0∧w'=w∧v=.slice none 0 0)∨∃B o cp cur te,v.oneCell'=true∧o8 (.at B o cp) r.width 0 (nx+ny) v∧nx+ny≤cp∧w'.heap[B]?=some (.cells cur te (0,0))∧o+cp*r.width≤cur.size∧
    w'.rangeAt B o (vx++vy)∧(∀k,k<w.heap.size→k≠B→w'.heap[k]?=w.heap[k]?)∧(w.heap.size≤B∨xb=some B)):=by
  intro old run;have hge:=grownCap_ge w (nx+ny) old e;have hmul:grownCap w (nx+ny) old e*r.width=(nx+ny)*r.width+(grownCap w (nx+ny) old e-(nx+ny))*r.width:=by
   rw [←Nat.add_mul];congr 1;omega
  have Cm:=heap_alloc_new w.drew (.cells (vx.toArray++vy.toArray++Builtin.zeroCells z.cells (grownCap w (nx+ny) old e-(nx+ny))) e (0,0));refine ⟨_,_,run,⟨rfl,rfl,rfl,by simp⟩,.inr ⟨w.heap.size,0,grownCap w (nx+ny) old e,_,e,rfl,⟨_,_,rfl,hge,by omega,fun _=>by simp⟩,hge,Cm,?_,?_,fun k hk _=>heap_alloc_old w.drew _ k hk,.inl (Nat.le_refl _)⟩⟩
  ·rw [Array.size_append,Array.size_append,List.size_toArray,List.size_toArray,size_zeroCells,Ce,Vj,Vk,hmul,Nat.add_mul];omega
  ·intro q v hv;rw [show w.heap.size=w.drew.heap.size from rfl,cell_of_row _ _ _ _ e (0,0) Cm,Nat.zero_add];have hq:q<(vx++vy).length:=(List.getElem?_eq_some_iff.1 hv).1;have e1:(vx.toArray++vy.toArray++Builtin.zeroCells z.cells (grownCap w (nx+ny) old e-(nx+ny))).toList=
     (vx++vy)++(Builtin.zeroCells z.cells (grownCap w (nx+ny) old e-(nx+ny))).toList:=by simp
   rw [←Array.getElem?_toList,e1,List.getElem?_append_left hq];exact hv
 rcases hy with ⟨rfl,hyn⟩ | ⟨ab0,ay,cy,rfl,hcy⟩
 ·-- nothing is put behind
  have anj:vy=[]:=by simpa using Vk
  subst anj;rcases hx with ⟨_,rfl,rfl⟩ | ⟨b,off,lo,cap,n,ad,cur,te,hxb,rfl,hle,BU,Hf,hg,ab2,hr⟩
  ·exact ⟨_,w,run_append_nothing hu hi w none 0 0 (Nat.le_refl _) uy hyn,⟨rfl,rfl,rfl,Nat.le_refl _⟩,.inl ⟨rfl,rfl,rfl,rfl⟩⟩
  ·refine ⟨_,w,run_append_nothing hu hi w (some ad) nx n hle uy hyn,⟨rfl,rfl,rfl,Nat.le_refl _⟩,.inr ⟨b,off+lo*r.width,n,cur,te,rfl,⟨ad,n,rfl,hle,by omega,fun hn=>by rw [Hf hn];simp⟩,hle,hg,?_,by simpa using hr,fun _ _ _=>rfl,.inr hxb⟩⟩;have:(lo+n)*r.width≤cap*r.width:=Nat.mul_le_mul_right _ BU;rw [Nat.add_mul] at this;omega
 ·have hyl:0<ny:=Nat.pos_of_ne_zero ab0;rcases hx with ⟨_,rfl,rfl⟩ | ⟨b,off,lo,cap,n,ad,cur,te,hxb,rfl,hle,BU,Hf,hg,ab2,hrx⟩
  ·have ank:vx=[]:=by simpa using Vj
   subst ank;have hr:=run_append_nil (P:=P) w t ty e i z hu hi hz ay ny cy vy (by rw [Vk,oN]) hcy hyl (by omega) (by rw [hby];simp at Jl;omega);refine grown 0 ?_;simpa using hr
  ·by_cases xM:nx+ny≤n
   ·-- it au1 au2 Sh room abS there is
    have Py:n≠0:=by omega
    rw [Hf Py];have Pz:off+lo*r.width+n*r.width≤cur.size:=by
     have:(lo+n)*r.width≤cap*r.width:=Nat.mul_le_mul_right _ BU;rw [Nat.add_mul] at this;omega
    have rD:off+lo*r.width+nx*r.width+vy.length≤cur.size:=by
     have:(nx+ny)*r.width≤n*r.width:=Nat.mul_le_mul_right _ xM;rw [Nat.add_mul] at this;omega
    have hr:=Jk (P:=P) (ty:=ty) hu hi w b (off+lo*r.width) nx n cur te hg ay ny cy vy (by rw [Vk,oN]) hcy oy xM (by rw [oN];exact rD);rw [oN] at hr;have hg':=setRow_heap w b cur (eg cur.toList (off+lo*r.width+nx*r.width) vy).toArray te (0,0) hg;have yw:∀k,k≠b→(w.setRow b (eg cur.toList (off+lo*r.width+nx*r.width) vy).toArray).heap[k]?=w.heap[k]?:=fun k hk=>setRow_other w _ k _ hk
    refine ⟨_,_,hr,⟨rfl,rfl,rfl,by simp [World.setRow]⟩,.inr ⟨b,off+lo*r.width,n,_,te,rfl,⟨_,n,rfl,xM,by omega,fun _=>by simp⟩,xM,hg',?_,?_,fun k _ hk=>yw k hk,.inr hxb⟩⟩
    ·rw [List.size_toArray,mG (by simpa using rD)];simpa using Pz
    ·intro q v hv;rw [cell_of_row _ _ _ _ te (0,0) hg'];simp only [List.getElem?_toArray];rw [rC (by simpa using rD)];rw [List.getElem?_append] at hv
     by_cases hq:q<vx.length
     ·rw [if_pos hq] at hv;rw [if_neg (by omega)];have:=hrx q v hv;rw [cell_of_row w b _ cur te (0,0) hg] at this;simpa using this
     ·rw [if_neg hq] at hv;have Nd:q-vx.length<vy.length:=(List.getElem?_eq_some_iff.1 hv).1;rw [if_pos (by omega),show off+lo*r.width+q-(off+lo*r.width+nx*r.width)=q-vx.length by omega];exact hv
   ·-- it ah3
    have hr:=run_append_grow (P:=P) w t ty e i z hu hi hz ad nx n vx (by rw [Vj,oN]) (fun q v hv=>by
      have hq:q<vx.length:=(List.getElem?_eq_some_iff.1 hv).1;have Py:n≠0:=by
       intro e0;have:nx=0:=by omega
       rw [this] at Vj;simp at Vj;rw [Vj] at hq;simp at hq
      rw [Hf Py,Addr.add_mid];exact hrx q v hv)
     ay ny cy vy (by rw [Vk,oN]) hcy (by omega) (by omega) (growslice_fits (by omega) (by rw [hby];exact Jl))
    exact grown n hr
theorem J3 {P:Program} {T:oB} (hT:jF P T) {w0:World} {mu:Mu} {c:Cz} {G7:St} {a:Act} {w:World} (h1:Rel w0 mu c G7 a w)
  {t ty:Nat} {r:RT} {bytes:Nat} (ht:T.elem t=some (r,bytes)) {ux uy:Value} {xs ys:List (aO r)} {d:Nat} {s0:Sl} (mV:nth G7 d=some s0) (hd:d<a.tmps.size)
  (hb:(xs.length+ys.length)*bytes≤lim) (hy:RdS w c.ok r uy ys)
  (hx:(ux=.slice none 0 0∧xs=[])∨∃s j b off lo cap n ad,c.own b=some (.sp s j)∧(∀sl A,nth G7 s=some sl→nth sl.bT j≠some (some A))∧
   ux=.slice (some ad) xs.length n∧xs.length≤n∧lo+n≤cap∧(n≠0→ad=⟨b,off+lo*r.width,none⟩)∧
   (∃cur ty,w.heap[b]?=some (.cells cur ty (0,0))∧off+cap*r.width≤cur.size)∧∀(i:Nat) x,xs[i]?=some x→fx w c.ok r b (off+(lo+i)*r.width) x) :
  ∃v w',(Builtin.append_ #[t,t] ty #[ux,uy]).run P w=.ok v w'∧
   ∃c',Rel w0 mu c' (sY (fun s=>{ s with v:=.one (.ref d 0 (s0.ag+1) .full),bT:=[some { r:=r,own:=true,xs:=xs++ys }],ag:=s0.ag+1 }) G7 d) (a.put (some d) v) w':=by
 obtain ⟨vy,Vk,hy'⟩:∃vy,cu w c.ok r vy ys∧((ys.length=0∧(uy=.slice none 0 0∨∃a c,uy=.slice (some a) 0 c))∨(ys.length≠0∧∃a c,uy=.slice (some a) ys.length c∧∀(j:Nat) v,vy[j]?=some v→w.cell? (a.add j)=some v)):=by
  rcases hy.cells with ⟨rfl,hyn⟩ | ⟨ab0,ay,cy,vy,rfl,Vk,hcy⟩
  ·exact ⟨[],rfl,.inl ⟨rfl,hyn⟩⟩
  ·exact ⟨vy,Vk,.inr ⟨fun h=>ab0 (List.length_eq_zero_iff.1 h),ay,cy,rfl,hcy⟩⟩
 obtain ⟨vx,xb,Vj,hxb,Rk⟩:∃(vx:List Value) (xb:Option Nat),cu w c.ok r vx xs∧(∀b,xb=some b→∃s j,c.own b=some (.sp s j)∧∀sl A,nth G7 s=some sl→nth sl.bT j≠some (some A))∧
   ((xb=none∧ux=.slice none 0 0∧xs.length=0)∨∃b off lo cap n ad cur te,xb=some b∧ux=.slice (some ad) xs.length n∧xs.length≤n∧lo+n≤cap∧(n≠0→ad=⟨b,off+lo*r.width,none⟩)∧
   w.heap[b]?=some (.cells cur te (0,0))∧off+cap*r.width≤cur.size∧w.rangeAt b (off+lo*r.width) vx):=by
  rcases hx with ⟨rfl,rfl⟩ | ⟨s,j,b,off,lo,cap,n,ad,ku,aij,rfl,hle,BU,Hf,⟨cur,te,hg,ab2⟩,s7⟩
  ·exact ⟨[],none,rfl,(fun _ e=>by cases e),.inl ⟨rfl,rfl,rfl⟩⟩
  ·obtain ⟨vx,hrx,Vj⟩:=pU b (off+lo*r.width) xs (fun i x hx=>by
    have:=s7 i x hx;rw [Nat.add_mul] at this;rw [show off+lo*r.width+i*r.width=off+(lo*r.width+i*r.width) by omega];exact this)
   exact ⟨vx,some b,Vj,fun b' e=>by cases e;exact ⟨s,j,ku,aij⟩,.inr ⟨b,off,lo,cap,n,ad,cur,te,rfl,rfl,hle,BU,Hf,hg,ab2,hrx⟩⟩
 obtain ⟨v,w',vm,xL,LU⟩:=Hd hT (ty:=ty) ht hb (cu.length vx xs Vj) (cu.length vy ys Vk) (cu.mT vy ys Vk) hy' Rk;refine ⟨v,w',vm,?_⟩;rcases LU with ⟨e1,e2,rfl,rfl⟩ | ⟨B,o,cp,cur,te,v1,v2,hle,hg,oN,hr,yw,hB⟩
 ·have:xs=[]:=List.length_eq_zero_iff.1 e1;subst this;have:ys=[]:=List.length_eq_zero_iff.1 e2;subst this;refine ⟨c.gk d .nil none,h1.place (B:=w'.heap.size) (A:={ r:=r,own:=true,xs:=[]++[] }) mV hd rfl ?_ (fun k _=>by simp [Cz.gk]) (.inr ⟨by simp [Cz.gk],rfl⟩) (.inl (Nat.le_refl _)) ?_ (fun _ _ _=>rfl) ⟨rfl,rfl,rfl,Nat.le_refl _⟩ ?_ rfl ?_⟩
  ·intro s j mU;simp [Cz.gk,mU]
  ·intro hc;simp [Cz.gk] at hc;have:=h1.yu hc;omega
  ·unfold fy;simp [Cz.gk]
  ·simp [Cz.gk,o8]
 ·have ab3:B<w'.heap.size:=(Array.getElem?_eq_some_iff.1 hg).1;have aaD:w.heap.size≤B∨∃s j,c.own B=some (.sp s j)∧(s=d∨∀sl A,nth G7 s=some sl→nth sl.bT j≠some (some A)):=by
   rcases hB with hB | hB
   ·exact .inl hB
   ·obtain ⟨s,j,q1,q2⟩:=hxb B hB;exact .inr ⟨s,j,q1,.inr q2⟩
  have hnB:∀k,k<w.heap.size→c.ok k→k≠B:=by
   rintro k hk iN rfl
   rcases aaD with hB | ⟨s,j,hB,_⟩
   ·omega
   ·unfold Cz.ok at iN;rw [hB] at iN;cases iN
  have wE:lf w w' c.ok (c.gk d (.at B o cp) (some B)).ok:=⟨xL.2.2.2,fun k hk iN=>yw k hk (hnB k hk iN),fun k hk iN=>by
   unfold Cz.ok Cz.gk;simp only;rw [if_neg]
   ·exact iN
   ·intro e';exact hnB k hk iN (Option.some.inj e').symm⟩
  refine ⟨c.gk d (.at B o cp) (some B),h1.place (B:=B) (A:={ r:=r,own:=true,xs:=xs++ys }) mV hd rfl ?_ ?_ (.inl (by simp [Cz.gk])) aaD (fun _=>ab3) yw xL ?_ v1 ?_⟩
  ·intro s j mU;simp [Cz.gk,mU]
  ·intro k hk;simp only [Cz.gk];rw [if_neg (by intro e';exact hk (Option.some.inj e').symm)]
  ·unfold fy;simp only [Cz.gk,and_self,if_true];refine ⟨trivial,by simpa using hle,⟨cur,te,hg,oN⟩,(dZ.sh rfl).2 ?_⟩;exact wO _ (vx++vy) (xs++ys) (cu.append vx vy xs ys (cu.stays wE _ _ Vj) (cu.stays wE _ _ Vk)) hr
  ·simp only [Cz.gk,and_self,if_true,List.length_append];exact v2
end Go.TM
namespace Go.TM
open Go Go.RowKit
theorem xN {b:Bool} {t e:N} {y:St} (h:(N.br b t e).val=some y):(b=true∧t.val=some y)∨(b=false∧e.val=some y):=by
 cases b
 ·exact .inr ⟨rfl,h⟩
 ·exact .inl ⟨rfl,h⟩
theorem jG {b:Bool} {t:N} {y:St} (h:(N.br b t N.fail).val=some y):b=true∧t.val=some y:=by
 rcases xN h with h | ⟨_,h⟩
 ·exact h
 ·simp [N.val] at h
theorem PB {P:Program} {T:oB} (hT:jF P T) {w0:World} {mu:Mu} {c:Cz} {st:St} {a:Act} {w:World} (h:Rel w0 mu c st a w)
  {d:Option Nat} {t ty:Nat} {x y:V} {ux uy:Value} (hx:hU c st w x ux) (hy:hU c st w y uy) {bP:St} (hv:(LM T st d t x y).val=some bP) (hd:∀k,d=some k→k<a.tmps.size) :
  ∃v w',(Builtin.append_ #[t,t] ty #[ux,uy]).run P w=.ok v w'∧∃c',Rel w0 mu c' bP (a.put d v) w':=by
 unfold LM at hv
 cases ht:T.elem t with
 |none=>simp [ht,N.val] at hv
 |some p=>
  obtain ⟨r,bytes⟩:=p;simp only [ht] at hv;have tail:∀(xs:List (aO r)) (used:List (Nat×Nat)),(match y with
     |.one c=>o7 st r c fun ys=>N.br (Nat.ble ((xs.length+ys.length)*bytes) lim)
       (gk (used.foldl (fun (s:St) (p:Nat×Nat)=>eX s p.1 p.2 none) st) d { r:=r,own:=true,xs:=xs++ys }) .fail
     |_=>N.fail).val=some bP→
    ∃ys k s0,d=some k∧nth (used.foldl (fun (s:St) (p:Nat×Nat)=>eX s p.1 p.2 none) st) k=some s0∧(xs.length+ys.length)*bytes≤lim∧RdS w c.ok r uy ys∧
     bP=sY (fun s=>{ s with v:=.one (.ref k 0 (s0.ag+1) .full),bT:=[some { r:=r,own:=true,xs:=xs++ys }],ag:=s0.ag+1 }) (used.foldl (fun (s:St) (p:Nat×Nat)=>eX s p.1 p.2 none) st) k:=by
   intro xs used hv
   cases y with
   |agg _=>simp [N.val] at hv
   |qd _=>simp [N.val] at hv
   |one cy=>
    obtain ⟨ys,hv,hr⟩:=FK h hy hv;obtain ⟨hb,hv⟩:=jG hv;obtain ⟨k,s0,hk,mV,wE⟩:=Ay hv;exact ⟨ys,k,s0,hk,mV,Nat.le_of_ble_eq_true hb,hr,wE⟩
  cases x with
  |agg _=>simp [N.val] at hv
  |qd _=>simp [N.val] at hv
  |one cx=>cases cx with
   |gj=>
    obtain ⟨ys,k,s0,rfl,mV,hb,hr,rfl⟩:=tail [] [] hv;exact J3 hT h ht mV (hd k rfl) hb hr (.inl ⟨hx,rfl⟩)
   |ref a' j g vw=>
    simp only at hv
    cases hA:cE st a' j g with
    |none=>simp [hA,N.val] at hv
    |some A=>
     simp only [hA] at hv;obtain ⟨ku,hv⟩:=jt hv;have GN:A.md=.sh:=by cases A.md;rfl
     cases hc:ef r A.xs with
     |none=>simp [hc,N.val] at hv
     |some xs=>
      simp only [hc] at hv;obtain ⟨e,he⟩:=cU hc;subst e;simp only at he;subst he;obtain ⟨ys,k,s0,rfl,mV,hb,hr,rfl⟩:=tail (vw.app A.xs) [(a',j)] hv;obtain ⟨Vl,LV⟩:=h.kill a' j;obtain ⟨sl,G1,Su,G2⟩:=dB hA;have Jj:=h.bT a' j sl A G1 G2;have hs:=hx.2.2 A hA;refine J3 hT Vl ht mV (hd k rfl) hb hr ?_
      cases hl:c.lc a' j with
      |nil=>
       unfold o8 at hs;rw [hl] at hs;exact .inl ⟨hs.1,List.length_eq_zero_iff.1 hs.2⟩
      |«at» b off cap=>
       unfold o8 at hs;rw [hl] at hs;obtain ⟨ad,n,rfl,hn,BU,Hf⟩:=hs;unfold fy at Jj;rw [hl] at Jj;obtain ⟨ho,_,anl,s7⟩:=Jj;rw [ku] at ho;exact .inr ⟨a',j,b,off,vw.lo,cap,n,ad,ho,LV,rfl,hn,BU,Hf,anl,fun i x hi=>(dZ.sh GN).1 s7 _ x (View.Bx vw A.xs hi)⟩
   |_=>simp [N.val] at hv
theorem vn {w:World} {ok:Nat→Prop}:(r:RT)→(vs:List Value)→kX r vs→eA w ok r vs (wL r)
 |.nil,vs,h=>h
 |.cons (.int k) r,vs,⟨l,h,h'⟩=>⟨.int k 0,l,h,yr.2 rfl,vn r l h'⟩
 |.cons .bool r,vs,⟨l,h,h'⟩=>⟨.bool false,l,h,Bw.2 rfl,vn r l h'⟩
 |.cons .str r,vs,⟨l,h,h'⟩=>⟨.string ByteArray.empty,l,h,EI.2 rfl,vn r l h'⟩
 |.cons (.sl q) r,vs,⟨l,h,h'⟩=>⟨.slice none 0 0,l,h,(rk _ _ _ _ _).2 (.inl ⟨rfl,rfl⟩),vn r l h'⟩
theorem cu.replicate {w:World} {ok:Nat→Prop} {r:RT} {vs:List Value} {x:aO r} (h:eA w ok r vs x):(n:Nat)→cu w ok r ((List.replicate n vs).flatten) (List.replicate n x)
 |0=>rfl
 |n+1=>⟨vs,(List.replicate n vs).flatten,by simp [List.replicate_succ],h,cu.replicate h n⟩
theorem Hg (z:Array Value) (n W:Nat) (hz:z.size=W) (hW:0<W):((Array.range (n*W)).map (z[· % z.size]!)).toList=(List.replicate n z.toList).flatten:=by
 subst hz
 induction n with
 |zero=>simp
 |succ n ih=>
  have e1:((Array.range ((n+1)*z.size)).map (z[· % z.size]!)).toList=((Array.range (n*z.size)).map (z[· % z.size]!)).toList++z.toList:=by
   apply List.ext_getElem
   ·simp [Nat.add_mul]
   ·intro k h1 h2;simp only [Array.getElem_toList,Array.getElem_map,Array.getElem_range];rw [List.getElem_append]
    by_cases hk:k<n*z.size
    ·rw [dif_pos (by simpa using hk)];simp
    ·rw [dif_neg (by simpa using hk)];have LV:k<(n+1)*z.size:=by simpa using h1
     rw [Nat.add_mul,Nat.one_mul] at LV;have hm:k % z.size=k-n*z.size:=by
      have:k=(k-n*z.size)+n*z.size:=by omega
      rw [this,Nat.add_mul_mod_self_right,Nat.mod_eq_of_lt (by omega)];omega
     have dO:k-n*z.size<z.size:=by omega
     simp [hm,dO]
  rw [e1,ih];rw [List.replicate_succ',List.flatten_append];simp
theorem Vm {P:Program} {T:oB} (hT:jF P T) {w0:World} {mu:Mu} {c:Cz} {st:St} {a:Act} {w:World} (h:Rel w0 mu c st a w)
  {d:Option Nat} {t:Nat} {x y:V} {ux uy:Value} (hx:hU c st w x ux) (hy:hU c st w y uy) {bP:St} (hv:(U5 T st d t x y).val=some bP) (hd:∀k,d=some k→k<a.tmps.size) :
  ∃v w',(Instr.makeSlice t ux uy).run P w=.ok v w'∧lh w w'∧∃c',Rel w0 mu c' bP (a.put d v) w':=by
 unfold U5 at hv
 split at hv
 ·rename_i r bytes n m ht;obtain ⟨hnm,hv⟩:=jG hv;obtain ⟨hn,hv⟩:=jG hv;obtain ⟨hb,hv⟩:=jG hv;obtain ⟨k,s0,rfl,mV,rfl⟩:=Ay hv;have hnm:=of_decide_eq_true hnm;have hn:=of_decide_eq_true hn;have hb:=Nat.le_of_ble_eq_true hb;subst hnm;obtain ⟨n,rfl⟩:=Int.eq_ofNat_of_zero_le hn;obtain ⟨e,i,z,hu,hi,oN,He,hby,Nc,hz,Pf⟩:=hT.elem t r bytes ht;have Ce:z.cells.size=r.width:=by have:=kX.length r _ Pf;simpa using this
  have e1:ux=.int .i64 n:=hx;have e2:uy=.int .i64 n:=hy;subst e1 e2;unfold lim at hb;simp only [Int.toNat_natCast] at hb;have hn1:n≤35184372088832:=by
   have:n*1≤n*bytes:=Nat.mul_le_mul_left _ Nc;omega
  have atg:IntKind.i64.wrap (n:Int)=n:=by
   have:=IntKind.wrap_i64 (n:Int);rw [this];omega
  have vm:(Instr.makeSlice t (.int .i64 n) (.int .i64 n)).run P w=
    .ok (.slice (some ⟨w.heap.size,0,none⟩) n n) (w.alloc (.cells ((Array.range (n*r.width)).map (z.cells[· % z.cells.size]!)) e (0,0))):=by
   have:=run_make (P:=P) w t e i z hu hi hz .i64 .i64 n n (by omega) (Int.le_refl _) (by
    have h2:((i.bytes*n:Nat):Int)≤281474976710656:=by rw [hby,Nat.mul_comm];omega
    rwa [Int.natCast_mul] at h2) (by omega)
   simpa [madeCells,oN] using this
  refine ⟨_,_,vm,lh.alloc _ _,?_⟩;have J4:cu w c.ok r ((List.replicate n z.cells.toList).flatten) (List.replicate n (wL r)):=cu.replicate (vn r _ Pf) n;have:=h.fresh (r:=r) (xs:=List.replicate n (wL r)) (cur:=(Array.range (n*r.width)).map (z.cells[· % z.cells.size]!)) (ty:=e) (cap:=n) mV (hd k rfl) (by simp) (by simp) J4 (by
   rw [←Hg z.cells n r.width Ce He,List.take_length])
  simpa using this
 ·simp [N.val] at hv
end Go.TM
namespace Go.TM
open Go Go.RowKit
theorem Dk (off:Nat):(l:List Value)→(k:Nat)→(cells:Array Value)→off+k+l.length≤cells.size→
  ((l.zipIdx k).foldl (fun cs (p:Value×Nat)=>cs.setIfInBounds (off+p.2) p.1) cells).toList=eg cells.toList (off+k) l
 | [],k,cells,_=>by simp [eg]
 |v::l,k,cells,h=>by
  simp only [List.zipIdx_cons,List.foldl_cons,List.length_cons] at h ⊢;rw [Dk off l (k+1) _ (by simp;omega)];rw [Array.toList_setIfInBounds];apply List.ext_getElem?;intro q;rw [rC (by simp;omega),rC (by simp;omega),List.getElem?_set];simp only [List.length_cons]
  by_cases h1:off+(k+1)≤q∧q<off+(k+1)+l.length
  ·rw [if_pos h1,if_pos (by omega)];rw [show q-(off+k)=(q-(off+(k+1)))+1 by omega,List.getElem?_cons_succ]
  ·rw [if_neg h1]
   by_cases h2:off+k=q
   ·subst h2;rw [if_pos rfl,if_pos (by simp;omega),if_pos (by omega)];simp
   ·rw [if_neg h2,if_neg (by omega)]
theorem J5 {place:Nat→Option (Nat×Nat)} {cells:Array Value} {i:Nat} {v:Value} {rest:List (Nat×Value)} {off size:Nat} (hp:place i=some (off,size)) (hv:v.cells.size=size) (hle:off+size≤cells.size) :
  Instr.fill place cells ((i,v)::rest)=Instr.fill place (eg cells.toList off v.cells.toList).toArray rest:=by
 have hf:=Dk off v.cells.toList 0 cells (by simp;omega);have e:(v.cells.zipIdx.foldl (fun cs (p:Value×Nat)=>cs.setIfInBounds (off+p.2) p.1) cells)=(eg cells.toList off v.cells.toList).toArray:=by
  apply Array.ext';rw [←Array.foldl_toList,Array.toList_zipIdx];simpa using hf
 conv=>lhs;unfold Instr.fill
 simp only [hp];rw [if_neg (by simp;omega)];exact congrArg (fun cs=>Instr.fill place cs rest) e
def sH (c:Cz) (st:St) (w:World) (ps:List (Nat×V)) (us:List (Nat×Value)):Prop:=
 ps.length=us.length∧∀(i:Nat) p u,ps[i]?=some p→us[i]?=some u→p.1=u.1∧hU c st w p.2 u.2
theorem sH.cons {c:Cz} {st:St} {w:World} {p:Nat×V} {u:Nat×Value} {ps:List (Nat×V)} {us:List (Nat×Value)} (h:sH c st w (p::ps) (u::us)) :
  (p.1=u.1∧hU c st w p.2 u.2)∧sH c st w ps us:=
 ⟨h.2 0 p u rfl rfl,by have:=h.1;simpa using this,fun i a b ha hb=>h.2 (i+1) a b (by simpa using ha) (by simpa using hb)⟩
theorem Dl {w0:World} {mu:Mu} {c:Cz} {st:St} {a:Act} {w:World} (h:Rel w0 mu c st a w) {r:RT} (hW:0<r.width):(ps:List (Nat×V))→(us:List (Nat×Value))→sH c st w ps us→
  (i:Nat)→(k:List (aO r)→List (Nat×Nat)→N)→{bP:St}→(Bv st r i ps k).val=some bP→(cells:Array Value)→cells.size=(i+ps.length)*r.width→
  ∃xs m,(k xs m).val=some bP∧xs.length=ps.length∧(∀p∈m,∃g A,cE st p.1 p.2 g=some A)∧
   ∃vs:List Value,vs.length=ps.length*r.width∧Instr.fill (fun i=>some (i*r.width,r.width)) cells us=some (cells.toList.take (i*r.width)++vs).toArray∧
   ∀ok:Nat→Prop,(∀b,c.ok b→ok b)→(∀p∈m,∀b,c.own b=some (.sp p.1 p.2)→ok b)→cu w ok r vs xs
 | [],us,hp,i,k,bP,hv,cells,oN=>by
  have:us=[]:=by have:=hp.1;simp at this;exact List.length_eq_zero_iff.1 this.symm
  subst this;refine ⟨[],[],hv,rfl,fun p hp=>by simp at hp,[],by simp,?_,fun _ _ _=>rfl⟩;simp only [Instr.fill,List.append_nil];simp at oN;rw [List.take_of_length_le (by simp;omega)]
 |(p,v)::ps,us,hp,i,k,bP,hv,cells,oN=>by
  cases us with
  |nil=>have:=hp.1;simp at this
  |cons u us=>
   obtain ⟨⟨hpu,hvu⟩,lJ⟩:=hp.cons;simp only [Bv] at hv;obtain ⟨hc,hv⟩:=jt hv;rw [Bool.and_eq_true] at hc;have hpi:=Nat.eq_of_beq_eq_true hc.2;obtain ⟨Az,_⟩:=hvu.cells hc.1;obtain ⟨x,m1,h1,h2,h3⟩:=De h r v.cells _ Az _ hv;have hlen:u.2.cells.toList.length=r.width:=by
    have:=h3 (fun _=>True) (fun _ _=>trivial) (fun _ _ _ _=>trivial);exact eA.length r _ x this
   simp only [List.length_cons] at oN;have hm1:(i+(ps.length+1))*r.width=i*r.width+r.width+ps.length*r.width:=by rw [Nat.add_mul,Nat.add_mul];omega
   have hle:i*r.width+r.width≤cells.size:=by omega
   have Vn:=J5 (place:=fun i=>some (i*r.width,r.width)) (cells:=cells) (i:=i) (v:=u.2) (rest:=us) rfl (by simpa using hlen) hle;obtain ⟨xs,m2,g1,g2,g3,vs,g4,g5,g6⟩:=Dl h hW ps us lJ (i+1) _ h1 (eg cells.toList (i*r.width) u.2.cells.toList).toArray (by
    rw [List.size_toArray,mG (by simp at hlen ⊢;omega)];simp;rw [oN];congr 1;omega)
   refine ⟨x::xs,m1++m2,g1,by simp [g2],fun q hq => ?_,u.2.cells.toList++vs,by simp at hlen ⊢;rw [hlen,g4,Nat.add_mul];omega,?_,fun ok ho hm=>⟨_,vs,rfl,h3 ok ho (fun q hq=>hm q (by simp [hq])),g6 ok ho (fun q hq=>hm q (by simp [hq]))⟩⟩
   ·rcases List.mem_append.1 hq with hq | hq
    ·exact h2 q hq
    ·exact g3 q hq
   ·have e:(u:Nat×Value)=(i,u.2):=by rw [←hpi];simp at hpu;rw [hpu]
    rw [e,Vn,g5]
    congr 2
    rw [←List.append_assoc]
    congr 1
    show List.take ((i+1)*r.width) (eg cells.toList (i*r.width) u.2.cells.toList)=_;unfold eg;rw [Nat.add_mul,Nat.one_mul];rw [List.take_append_of_le_length (by simp at hlen ⊢;omega)];rw [List.take_of_length_le (by simp at hlen ⊢;omega)]
theorem Hh {P:Program} {T:oB} (hT:jF P T) {w0:World} {mu:Mu} {c:Cz} {st:St} {a:Act} {w:World} (h:Rel w0 mu c st a w)
  {d:Option Nat} {t len:Nat} {ps:List (Nat×V)} {us:Array (Nat×Value)} (hp:sH c st w ps us.toList) {bP:St} (hv:(Ar T st d t len ps).val=some bP) (hd:∀k,d=some k→k<a.tmps.size) :
  ∃v w',(Instr.buildSlice t len us).run P w=.ok v w'∧lh w w'∧∃c',Rel w0 mu c' bP (a.put d v) w':=by
 unfold Ar at hv
 cases ht:T.elem t with
 |none=>simp [ht,N.val] at hv
 |some p=>
  obtain ⟨r,bytes⟩:=p;simp only [ht] at hv;obtain ⟨hc,hv⟩:=jt hv;rw [Bool.and_eq_true] at hc;have hlen:=Nat.eq_of_beq_eq_true hc.1;have ann:=Nat.le_of_ble_eq_true hc.2;obtain ⟨e,i,z,hu,hi,oN,He,hby,Nc,hz,Pf⟩:=hT.elem t r bytes ht;have Ce:z.cells.size=r.width:=by have:=kX.length r _ Pf;simpa using this
  obtain ⟨xs,m,h1,h2,h3,vs,h4,h5,h6⟩:=Dl h He ps us.toList hp 0 _ hv ((Array.range (len*r.width)).map (z.cells[· % z.cells.size]!)) (by simp [hlen]);obtain ⟨k,s0,rfl,mV,rfl⟩:=Ay h1;have J4:cu w (c.drop m).ok r vs xs:=h6 _ (fun b hb=>Cz.Dd m c b hb) (fun p hp k hk=>Cz.GO m c k hk hp);have hxl:xs.length=len:=by rw [h2,hlen]
  have ab5:(Instr.buildSlice t len us).run P w=.ok (.slice (some ⟨w.heap.size,0,none⟩) len len) (w.alloc (.cells vs.toArray e (0,0))):=by
   simp only [Nat.zero_mul,List.take_zero,List.nil_append] at h5
   by_cases h0:len=0
   ·subst h0;have Zc:ps=[]:=List.length_eq_zero_iff.1 hlen;subst Zc;have YR:us = #[]:=by have:=hp.1;simp at this;exact Array.eq_empty_of_size_eq_zero this.symm
    subst YR;have Gv:vs=[]:=by simp at h4;exact h4
    subst Gv;simp [Instr.buildSlice,run_underlying hu,sizeOf,typeInfo,hi,Instr.fill,newRow,show Array.range 0 = #[] from rfl]
   ·refine run_buildSlice (P:=P) w t e len us vs.toArray i z hu hi hz (by rw [oN];omega) (by rw [oN];intro h;rcases Nat.mul_eq_zero.1 h with h | h<;>omega) ?_;rw [oN];exact h5
  have hfr:=(h.freeze m).fresh (r:=r) (xs:=xs) (cur:=vs.toArray) (ty:=e) (cap:=len) mV (hd k rfl) (by omega) (by simp [h4,hlen]) J4 (by simp);rw [hxl] at hfr;exact ⟨_,_,ab5,lh.alloc _ _,hfr⟩
theorem kX.rel {c:Cz} {st:St} {w:World}:(r:RT)→(vs:List Value)→kX r vs→iO c st w ((fW r (wL r)).map fun | .shr _ _=>.gj | c=>c) vs
 |.nil,vs,h=>by simp only [kX] at h;subst h;exact ⟨rfl,fun i x v hx=>by simp [fW] at hx⟩
 |.cons t r,vs,h=>by
  have key:∃v l x,vs=v::l∧kX r l∧((fun | .shr _ _=>.gj | c=>c:CV→CV) (Pp t (Po t)))=x∧qi c st w x v:=by
   cases t with
   |int k=>obtain ⟨l,h,h'⟩:=h;exact ⟨_,l,_,h,h',rfl,rfl⟩
   |bool=>obtain ⟨l,h,h'⟩:=h;exact ⟨_,l,_,h,h',rfl,rfl⟩
   |str=>obtain ⟨l,h,h'⟩:=h;exact ⟨_,l,_,h,h',rfl,rfl⟩
   |sl q=>obtain ⟨l,h,h'⟩:=h;exact ⟨_,l,_,h,h',rfl,rfl⟩
  obtain ⟨v,l,x,rfl,hl,hx,hr⟩:=key;obtain ⟨h1,h2⟩:=kX.rel (c:=c) (st:=st) (w:=w) r l hl;refine ⟨by simp [fW] at h1 ⊢;exact h1,fun i y u hy hu => ?_⟩
  cases i with
  |zero=>
   simp [fW,wL] at hy hu;subst hu;rw [←hy];have:(match Pp t (Po t) with | .shr _ _=>CV.gj | c=>c)=x:=hx;rw [this];exact hr
  |succ i=>exact h2 i y u (by simpa [fW,wL] using hy) (by simpa using hu)
theorem AA {c:Cz} {st:St} {w:World} {r:RT} {vs:List Value} (h:kX r vs):iO c st w (ru r) vs:=kX.rel r vs h
theorem Dm {P:Program} {T:oB} {c:Cz} {st:St} {w:World} {t:Nat} {dn:List (Nat×Nat)} (Zd:∀f o s,T.off t f=some o→T.fsz t f=some s→dn[f]?=some (o,s)) :
  (ps:List (Nat×V))→(us:List (Nat×Value))→sH c st w ps us→(cs l:List CV)→(cells:Array Value)→iO c st w cs cells.toList→rB T t cs ps=some l→
  ∃yl,Instr.fill (dn.toArray[·]?) cells us=some yl∧iO c st w l yl.toList
 | [],us,hp,cs,l,cells,hl,h=>by
  have:us=[]:=by have:=hp.1;simp at this;exact List.length_eq_zero_iff.1 this.symm
  subst this;simp only [rB,Option.some.injEq] at h;subst h;exact ⟨cells,rfl,hl⟩
 |(f,v)::ps,us,hp,cs,l,cells,hl,h=>by
  cases us with
  |nil=>have:=hp.1;simp at this
  |cons u us=>
   obtain ⟨⟨hpu,hvu⟩,lJ⟩:=hp.cons;simp only [rB] at h
   cases ho:T.off t f with
   |none=>simp [ho] at h
   |some o=>
    cases hs:T.fsz t f with
    |none=>simp [ho,hs] at h
    |some s=>
     simp only [ho,hs] at h;obtain ⟨hc,h⟩:=bI h;rw [Bool.and_eq_true] at hc;obtain ⟨Az,_⟩:=hvu.cells hc.1;have hlen:v.cells.length=s:=Nat.eq_of_beq_eq_true hc.2
     cases hpc:putCells cs o v.cells with
     |none=>simp [hpc] at h
     |some sj=>
      simp only [hpc] at h;obtain ⟨hle,rfl⟩:=Cd hpc;have h1:=hl.1;have h2:=Az.1;have Vn:=J5 (place:=(dn.toArray[·]?)) (cells:=cells) (i:=f) (v:=u.2) (rest:=us) (off:=o) (size:=s) (by simpa using Zd f o s ho hs) (by simp at h2;omega) (by simp at h1 h2;omega);obtain ⟨yl,g1,g2⟩:=Dm (P:=P) Zd ps us lJ _ l (eg cells.toList o u.2.cells.toList).toArray (by simpa using hl.eg Az o hle) h;refine ⟨yl,?_,g2⟩;have e:(u:Nat×Value)=(f,u.2):=by simp at hpu;rw [hpu]
      rw [e,Vn];exact g1
theorem Vo {P:Program} {T:oB} (hT:jF P T) {w0:World} {mu:Mu} {c:Cz} {st:St} {a:Act} {w:World} (h:Rel w0 mu c st a w)
  {d:Option Nat} {t:Nat} {r:RT} {ps:List (Nat×V)} {us:Array (Nat×Value)} {l:List CV} (hr:T.row t=some r) (hg:T.agg t=true) (hp:sH c st w ps us.toList)
  (hf:rB T t (ru r) ps=some l) (hd:∀k,d=some k→k<a.tmps.size) :
  ∃v,(∀w':World,(Instr.build t us).run P w'=.ok v w')∧Rel w0 mu c (bQ st d (.agg l)) (a.put d v) w:=by
 obtain ⟨i,z,hi,hz,Pf⟩:=hT.row t r hr;obtain ⟨fs,dn,hu,Zd,hpo⟩:=hT.bld t hg;obtain ⟨yl,g1,g2⟩:=Dm (P:=P) (c:=c) (st:=st) (w:=w) hpo ps us.toList hp (ru r) l z.cells (AA Pf) hf;refine ⟨.agg yl,fun w'=>run_build w' t us yl ?_,h.bQ ⟨yl,rfl,g2⟩ hd⟩;unfold Program.built;simp only [hi,hu,hz,Zd];exact g1
end Go.TM
namespace Go.TM
open Go Go.RowKit
theorem Vp {P:Program} {w:World} {op:BinOp} {t:TypeId} {k:IntKind} {a b:Int} {r:Bool} (h:UZ op a b=some r) :
  (binOp op t (.int k a) (.int k b)).run P w=.ok (.bool r) w:=by
 cases op<;>simp only [UZ,Option.some.injEq,reduceCtorEq] at h<;>subst h<;>unfold binOp Op.intCmp<;>simp<;>rfl
theorem PC {P:Program} {w:World} {op:BinOp} {t:TypeId} {k:IntKind} {a b n:Int} (h:GW op k a b=some n) :
  (binOp op t (.int k a) (.int k b)).run P w=.ok (.int k n) w:=by
 cases op<;>simp [GW] at h<;>subst h<;>simp [binOp,Op.intArith,Op.intBits]
theorem Vq {P:Program} {w:World} {op:BinOp} {t:TypeId} {k:IntKind} {a b n:Int} (h:U0 op k a b=some n) (hb:b≠0) :
  (binOp op t (.int k a) (.int k b)).run P w=.ok (.int k n) w:=by
 cases op<;>simp [U0] at h<;>subst h<;>simp [binOp,Op.intDiv,hb]
theorem PD {P:Program} {w:World} {op:BinOp} {t:TypeId} {k l:IntKind} {a b n:Int} (h:GX op k a b.toNat=some n) (hb:0≤b) :
  (binOp op t (.int k a) (.int l b)).run P w=.ok (.int k n) w:=by
 have uf:¬b<0:=by omega
 cases op<;>simp [GX] at h<;>subst h<;>simp [binOp,Op.shift,uf]
theorem o9 {P:Program} {w:World} (op:BinOp) (t:TypeId) (x y:Operand) (a b:Value) (h:¬(a=.nilIface∧b=.nilIface)) (h2:∀l m,¬(a=.agg l∧b=.agg m)) :
  (eqGuard op t x y a b).run P w=.ok () w:=by
 unfold eqGuard
 cases op<;>cases a<;>cases b<;>simp_all
theorem Ze {P:Program} {T:oB} (hT:jF P T) {w0:World} {mu:Mu} {c:Cz} {st:St} {a:Act} {w:World} (h:Rel w0 mu c st a w) (hE:∀t,T.eq t=true→∀(l m:List CV) (us vs:Array Value) (b:Bool) (op:BinOp) (ox oy:Operand),T.fits t l=true→qe l m=some b→
   iO c st w l us.toList→iO c st w m vs.toList→∀w':World,(eqGuard op t ox oy (.agg us) (.agg vs)).run P w'=.ok () w'∧(Op.equal t (.agg us) (.agg vs)).run P w'=.ok b w')
  {d:Option Nat} {t:Nat} {op:BinOp} {ox oy:Operand} {x y:V} {ux uy:Value} (hx:hU c st w x ux) (hy:hU c st w y uy) {bP:St} (hv:(Ac T st d op t x y).val=some bP) (hd:∀k,d=some k→k<a.tmps.size) :
  ∃v,(∀w':World,(do eqGuard op t ox oy ux uy;binOp op t ux uy:Sem Value).run P w'=.ok v w')∧Rel w0 mu c bP (a.put d v) w:=by
 have fin:∀(cv:CV) (v:Value),qi c st w cv v→(N.done (bQ st d (.one cv))).val=some bP→(∀w':World,(eqGuard op t ox oy ux uy).run P w'=.ok () w')→(∀w':World,(binOp op t ux uy).run P w'=.ok v w')→
   ∃v,(∀w':World,(do eqGuard op t ox oy ux uy;binOp op t ux uy:Sem Value).run P w'=.ok v w')∧Rel w0 mu c bP (a.put d v) w:=by
  intro cv v hr wE hg hb;simp only [N.val,Option.some.injEq] at wE;subst wE;refine ⟨v,fun w' => ?_,h.bQ hr hd⟩;simp [Sem.run_bind,hg,hb]
 cases x with
 |qd _=>simp [Ac,N.val] at hv
 |agg l=>cases y with
  |qd _=>simp [Ac,N.val] at hv
  |one _=>simp [Ac,N.val] at hv
  |agg m=>
   obtain ⟨us,rfl,hl⟩:=hx;obtain ⟨vs,rfl,hm⟩:=hy;simp only [Ac] at hv;obtain ⟨ht,hv⟩:=jt hv;rw [Bool.and_eq_true] at ht;obtain ⟨ht,Az⟩:=ht
   cases hc:qe l m with
   |none=>cases op<;>simp [hc,N.val] at hv
   |some b=>
    have g:=hE t ht l m us vs b op ox oy Az hc hl hm
    cases op<;>simp only [hc] at hv<;>try (simp [N.val] at hv;done)
    ·exact fin (.bool b) (.bool b) rfl hv (fun w'=>(g w').1) (fun w'=>by simp [binOp,Sem.run_bind,(g w').2])
    ·exact fin (.bool (!b)) (.bool (!b)) rfl hv (fun w'=>(g w').1) (fun w'=>by simp [binOp,Sem.run_bind,(g w').2])
 |one cx=>cases y with
  |qd _=>cases cx<;>simp [Ac,N.val] at hv
  |agg _=>cases cx<;>simp [Ac,N.val] at hv
  |one cy=>
   cases cx<;>cases cy<;>try (simp [Ac,N.val] at hv;done)
   ·rename_i k p l q;have e1:ux=.int k p:=hx;have e2:uy=.int l q:=hy;subst e1 e2;have hg:=fun w'=>o9 (P:=P) (w:=w') op t ox oy (.int k p) (.int l q) (by simp) (by simp)
    simp only [Ac] at hv
    by_cases hs:op=.shl∨op=.shr
    ·have xh:(match GX op k p q.toNat with | some n=>N.br (decide (0≤q)) (.done (bQ st d (.one (.int k n)))) .fail | none=>.fail).val=some bP:=by
      rcases hs with rfl | rfl<;>exact hv
     cases hsh:GX op k p q.toNat with
     |none=>simp [hsh,N.val] at xh
     |some n=>
      simp only [hsh] at xh;obtain ⟨hq,xh⟩:=jG xh;exact fin (.int k n) (.int k n) rfl xh hg (fun _=>PD hsh (of_decide_eq_true hq))
    ·have xh:(if k=l then (match UZ op p q with
       |some t=>N.done (bQ st d (.one (.bool t)))
       |none=>match GW op k p q with
        |some n=>.done (bQ st d (.one (.int k n)))
        |none=>match U0 op k p q with
         |some n=>.br (decide (q=0)) .fail (.done (bQ st d (.one (.int k n))))
         |none=>.fail) else .fail).val=some bP:=by
      cases op<;>first | exact hv | exact absurd (.inl rfl) hs | exact absurd (.inr rfl) hs
     by_cases hk:k=l
     ·subst hk;rw [if_pos rfl] at xh
      cases hc:UZ op p q with
      |some r=>simp only [hc] at xh;exact fin (.bool r) (.bool r) rfl xh hg (fun _=>Vp hc)
      |none=>
       simp only [hc] at xh
       cases ha:GW op k p q with
       |some n=>simp only [ha] at xh;exact fin (.int k n) (.int k n) rfl xh hg (fun _=>PC ha)
       |none=>
        simp only [ha] at xh
        cases hdv:U0 op k p q with
        |none=>simp [hdv,N.val] at xh
        |some n=>
         simp only [hdv] at xh;rcases xN xh with ⟨_,xh⟩ | ⟨hq,xh⟩
         ·simp [N.val] at xh
         ·exact fin (.int k n) (.int k n) rfl xh hg (fun _=>Vq hdv (of_decide_eq_false hq))
     ·rw [if_neg hk] at xh;simp [N.val] at xh
   ·rename_i p q;have e1:ux=.bool p:=hx;have e2:uy=.bool q:=hy;subst e1 e2;have hg:=fun w'=>o9 (P:=P) (w:=w') op t ox oy (.bool p) (.bool q) (by simp) (by simp)
    have hq:∀u,P.underlying t=some u→u=.bool→∀w':World,(Op.equal t (.bool p) (.bool q)).run P w'=.ok (p==q) w':=by
     rintro u hu rfl w'
     have e:Op.equal t (.bool p) (.bool q)=Op.equalIn ((Op.maxDepth-1)+1) t (.bool p) (.bool q):=rfl;rw [e];simp only [Op.equalIn];simp [run_underlying hu]
    cases hk:T.kind t with
    |none=>cases op<;>simp [Ac,hk,N.val] at hv
    |some ty=>cases ty with
     |int _=>cases op<;>simp [Ac,hk,N.val] at hv
     |str=>cases op<;>simp [Ac,hk,N.val] at hv
     |sl _=>cases op<;>simp [Ac,hk,N.val] at hv
     |bool=>
      obtain ⟨u,hu,hud⟩:=hT.kind t .bool hk;have:=hq u hu hud
      cases op<;>simp only [Ac,hk] at hv<;>try (simp [N.val] at hv;done)
      ·exact fin (.bool (p==q)) (.bool (p==q)) rfl hv hg (fun w'=>by simp [binOp,this w'])
      ·exact fin (.bool (!(p==q))) (.bool (!(p==q))) rfl hv hg (fun w'=>by simp [binOp,this w'])
   ·rename_i p q;have e1:ux=.string p:=hx;have e2:uy=.string q:=hy;subst e1 e2;have hg:=fun w'=>o9 (P:=P) (w:=w') op t ox oy (.string p) (.string q) (by simp) (by simp)
    simp only [Ac] at hv
    cases op<;>simp only at hv<;>try (simp [N.val] at hv;done)
    ·obtain ⟨hb,hv⟩:=jG hv;have hb:=Nat.le_of_ble_eq_true hb;unfold lim at hb;refine fin (.str (p++q)) (.string (p++q)) rfl hv hg (fun w' => ?_);have:¬((p.size+q.size:Nat):Int)>IntKind.i64.max:=by
      have:IntKind.i64.max=9223372036854775807:=by decide
      omega
     simp only [binOp,Op.stringOp];rw [if_neg this];rfl
    ·exact fin (.bool (tW p q)) (.bool (tW p q)) rfl hv hg (fun w'=>by simp [binOp,Op.stringOp,tW])
    ·exact fin (.bool (!tW p q)) (.bool (!tW p q)) rfl hv hg (fun w'=>by simp [binOp,Op.stringOp,tW])
   ·have e1:ux=.slice none 0 0:=hx;have e2:uy=.slice none 0 0:=hy;subst e1 e2;have hg:=fun w'=>o9 (P:=P) (w:=w') op t ox oy (.slice none 0 0) (.slice none 0 0) (by simp) (by simp)
    simp only [Ac] at hv
    cases he:T.elem t with
    |none=>cases op<;>simp [he,N.val] at hv
    |some p=>
     obtain ⟨e,i,z,hu,_⟩:=hT.elem t p.1 p.2 he;have hq:=fun w'=>run_equal_slice_nil (P:=P) w' t e none 0 0 hu
     cases op<;>simp only [he] at hv<;>try (simp [N.val] at hv;done)
     ·exact fin (.bool true) (.bool true) rfl hv hg (fun w'=>by simp [binOp,hq w'])
     ·exact fin (.bool false) (.bool false) rfl hv hg (fun w'=>by simp [binOp,hq w'])
   ·rename_i r xs;have e2:uy=.slice none 0 0:=hy;subst e2;obtain ⟨h1,h2⟩:=hx;rcases (rk _ _ _ _ _).1 h1 with ⟨h3,_⟩ | ⟨a0,cap,h3,_⟩
    ·exact absurd h3 h2
    ·subst h3;have hg:=fun w'=>o9 (P:=P) (w:=w') op t ox oy (.slice (some a0) (List.length xs) cap) (.slice none 0 0) (by simp) (by simp)
     simp only [Ac] at hv
     cases he:T.elem t with
     |none=>cases op<;>simp [he,N.val] at hv
     |some p=>
      obtain ⟨e,i,z,hu,_⟩:=hT.elem t p.1 p.2 he;have hq:=fun w'=>run_equal_slice_nil (P:=P) w' t e (some a0) (List.length xs) cap hu
      cases op<;>simp only [he] at hv<;>try (simp [N.val] at hv;done)
      ·exact fin (.bool false) (.bool false) rfl hv hg (fun w'=>by simp [binOp,hq w'])
      ·exact fin (.bool true) (.bool true) rfl hv hg (fun w'=>by simp [binOp,hq w'])
theorem Rm {P:Program} {T:oB} (hT:jF P T) {t:Nat} (h:T.kind t=some .str):P.underlying t=some .string:=by
 obtain ⟨u,hu,hd⟩:=hT.kind t .str h;simp only [descOf] at hd;rw [hu,hd]
theorem Nf {w0:World} {mu:Mu} {c:Cz} {st:St} {a:Act} {w:World} (_h:Rel w0 mu c st a w) {a' j g:Nat} {vw:View} {A:ns} {u:Value} (hA:cE st a' j g=some A)
  (hu:qi c st w (.ref a' j g vw) u):∃ad k,u=.slice ad (vw.app A.xs).length k:=by
 have hs:=hu.2.2 A hA
 cases hl:c.lc a' j with
 |nil=>unfold o8 at hs;rw [hl] at hs;exact ⟨none,0,by rw [hs.2];exact hs.1⟩
 |«at» b off cap=>unfold o8 at hs;rw [hl] at hs;obtain ⟨ad,k,h1,_⟩:=hs;exact ⟨some ad,k,h1⟩
theorem Zf {P:Program} {T:oB} (hT:jF P T) {w0:World} {mu:Mu} {c:Cz} {st:St} {a:Act} {w:World} (h:Rel w0 mu c st a w)
  {d:Option Nat} {t ty:Nat} {x:V} {ux:Value} (hx:hU c st w x ux) {bP:St} (hv:(LL T st d t x).val=some bP) (hd:∀k,d=some k→k<a.tmps.size) :
  ∃v,(∀w':World,(Builtin.len_ #[t] ty #[ux]).run P w'=.ok v w')∧Rel w0 mu c bP (a.put d v) w:=by
 have sl:∀(n:Nat) (ad:Option Addr) (k:Nat),(T.elem t).isSome=true→ux=.slice ad n k→(N.done (bQ st d (.one (.int .i64 n)))).val=some bP→
   ∃v,(∀w':World,(Builtin.len_ #[t] ty #[ux]).run P w'=.ok v w')∧Rel w0 mu c bP (a.put d v) w:=by
  intro n ad k he hu wE;simp only [N.val,Option.some.injEq] at wE;subst wE
  cases hq:T.elem t with
  |none=>simp [hq] at he
  |some p=>
   obtain ⟨r,b⟩:=p;obtain ⟨e,_,_,hd1,_⟩:=hT.elem t r b hq;subst hu;exact ⟨.int .i64 n,(fun w'=>by simp [Builtin.len_,run_underlying hd1,goInt]),h.bQ (u:=.int .i64 n) rfl hd⟩
 cases x with
 |agg _=>simp [LL,N.val] at hv
 |qd _=>simp [LL,N.val] at hv
 |one cx=>cases cx with
  |str s=>
   simp only [LL] at hv
   cases hk:T.kind t with
   |none=>simp [hk,N.val] at hv
   |some y=>cases y with
    |str=>
     simp only [hk,N.val,Option.some.injEq] at hv;subst hv;have e:ux=.string s:=hx;subst e;exact ⟨.int .i64 s.size,(fun w'=>by simp [Builtin.len_,run_underlying (Rm hT hk),goInt]),h.bQ (u:=.int .i64 s.size) rfl hd⟩
    |_=>simp [hk,N.val] at hv
  |gj=>
   simp only [LL] at hv
   cases hk:T.elem t with
   |none=>simp [hk,N.val] at hv
   |some p=>simp only [hk] at hv;exact sl 0 none 0 (by simp [hk]) hx hv
  |shr r xs=>
   simp only [LL] at hv
   cases hk:T.elem t with
   |none=>simp [hk,N.val] at hv
   |some p=>
    simp only [hk] at hv;rcases (rk _ _ _ _ _).1 hx with ⟨h1,h2⟩ | ⟨ad,k,h1,_⟩
    ·exact sl xs.length none 0 (by simp [hk]) (by rw [h1,h2];rfl) hv
    ·exact sl xs.length (some ad) k (by simp [hk]) h1 hv
  |ref a' j g vw=>
   simp only [LL] at hv
   cases hk:T.elem t with
   |none=>simp [hk,N.val] at hv
   |some p=>
    cases hA:cE st a' j g with
    |none=>simp [hk,hA,N.val] at hv
    |some A=>
     simp only [hk,hA] at hv;obtain ⟨ad,k,hu⟩:=Nf h hA hx;exact sl _ ad k (by simp [hk]) hu hv
  |_=>simp [LL,N.val] at hv
theorem FM {P:Program} {t e:TypeId} {i:TypeInfo} (hu:P.underlying t=some (.slice e)) (hi:P.info? e=some i) (w:World) (k:IntKind) (a:Addr) (n c:Nat) (j:Int) (h0:0≤j) (hj:j<n) :
  (Instr.indexAt t (.slice (some a) n c) (.int k j)).run P w=.ok (.pointer (some (a.add (j.toNat*i.size)))) w:=by
 simp [Instr.indexAt,asIntOf,run_underlying hu,sizeOf,typeInfo,hi,h0,hj]
theorem Sy {P:Program} {T:oB} (hT:jF P T) {w0:World} {mu:Mu} {c:Cz} {st:St} {a:Act} {w:World} (h:Rel w0 mu c st a w)
  {d:Option Nat} {t:Nat} {x y:V} {ux uy:Value} (hx:hU c st w x ux) (hy:hU c st w y uy) {bP:St} (hv:(sZ T st d t x y).val=some bP) (hd:∀k,d=some k→k<a.tmps.size) :
  ∃v,(∀w':World,(Instr.indexAt t ux uy).run P w'=.ok v w')∧Rel w0 mu c bP (a.put d v) w:=by
 cases ht:T.elem t with
 |none=>simp [sZ,ht,N.val] at hv
 |some p=>
  obtain ⟨q,bytes⟩:=p;obtain ⟨e,i,z,hu,hi,oN,He,_,_,_,_⟩:=hT.elem t q bytes ht;have rd:∀(ys:List (aO q)) (k:IntKind) (j:Int),uy=.int k j→ev w c.ok (.sl q) ux ys→(N.br (decide (0≤j)) (.row q ys[j.toNat]? fun y=>.done (bQ st d (.one (.oZ q y 0)))) .fail).val=some bP→
    ∃v,(∀w':World,(Instr.indexAt t ux uy).run P w'=.ok v w')∧Rel w0 mu c bP (a.put d v) w:=by
   intro ys k j huy G3 hv;obtain ⟨hj,hv⟩:=jG hv;have hj:=of_decide_eq_true hj
   cases hr:ys[j.toNat]? with
   |none=>simp [hr,N.val] at hv
   |some y=>
    simp only [hr] at hv;change some _=some bP at hv;obtain rfl:=Option.some.inj hv;have dO:j.toNat<ys.length:=(List.getElem?_eq_some_iff.1 hr).1;rcases (rk _ _ _ _ _).1 G3 with ⟨_,h2⟩ | ⟨ad,cap,h1,h2,h3,h4⟩
    ·rw [h2] at dO;simp at dO
    ·subst h1 huy;have mU:ys≠[]:=by intro e;rw [e] at dO;simp at dO
     obtain ⟨g1,g2,g3⟩:=h3 mU;refine ⟨_,(fun w'=>FM hu hi w' k ad ys.length cap j hj (by omega)),h.bQ (v:=.one (.oZ q y 0)) ?_ hd⟩;have Hf:ad=⟨ad.block,ad.off,none⟩:=by cases ad;simp at g1 ⊢;exact g1
     refine ⟨ad.block,ad.off+j.toNat*q.width,?_,g2,g3,h4 _ y hr⟩;rw [Hf,Addr.add_mid,oN];rfl
  cases x with
  |agg _=>cases y<;>simp [sZ,ht,N.val] at hv
  |qd _=>cases y<;>simp [sZ,ht,N.val] at hv
  |one cx=>cases y with
   |agg _=>cases cx<;>simp [sZ,ht,N.val] at hv
   |qd _=>cases cx<;>simp [sZ,ht,N.val] at hv
   |one cy=>cases cx with
    |shr r xs=>cases cy with
     |int k j=>
      simp only [sZ,ht] at hv
      cases hc:ef q xs with
      |none=>simp [hc,N.val] at hv
      |some ys=>
       simp only [hc] at hv;obtain ⟨rfl,rfl⟩:=cU hc;exact rd _ k j hy hx hv
     |_=>simp [sZ,ht,N.val] at hv
    |ref a' j g vw=>cases cy with
     |int k n=>
      simp only [sZ,ht] at hv
      cases hA:cE st a' j g with
      |none=>simp [hA,N.val] at hv
      |some A=>
       simp only [hA] at hv
       cases hc:ef q A.xs with
       |none=>simp [hc,N.val] at hv
       |some ys=>
        simp only [hc] at hv;obtain ⟨e',he⟩:=cU hc;subst e';simp only at he;subst he;obtain ⟨sl,G1,Su,G2⟩:=dB hA;have Jj:=h.bT a' j sl A G1 G2
        cases ho:A.own with
        |false=>
         simp only [ho] at hv;have GN:A.md=.sh:=by cases A.md;rfl
         refine rd _ k n hy ?_ hv;refine Dc Jj (hx.2.2 A hA) (fun _ h=>h) (fun b hq _ => ?_) (by rw [GN];rfl);rw [ho,GN] at hq;rcases hq with hq | hq<;>cases hq
        |true=>
         simp only [ho] at hv;obtain ⟨hn,hv⟩:=jG hv;obtain ⟨dO,hv⟩:=jG hv;have hn:=of_decide_eq_true hn;have dO:n.toNat<(vw.app A.xs).length:=by simp [Nat.blt] at dO;omega
         simp only [N.val,Option.some.injEq] at hv;subst hv;have hs:=hx.2.2 A hA;have euy:uy=.int k n:=hy;subst euy
         cases hl:c.lc a' j with
         |nil=>unfold o8 at hs;rw [hl] at hs;omega
         |«at» b off cap=>
          unfold o8 at hs;rw [hl] at hs;obtain ⟨ad,cc,rfl,hcc,BU,Hf⟩:=hs;have hc0:cc≠0:=by omega
          refine ⟨_,(fun w'=>FM hu hi w' k ad _ cc n hn (by omega)),h.bQ (v:=.one (.M6 a' j g _ 0)) ?_ hd⟩;have anp:vw.idx n.toNat=vw.lo+n.toNat:=by cases vw<;>simp [View.lo,View.idx]
          rw [anp];have Dn:A.xs[vw.lo+n.toNat]?=some (vw.app A.xs)[n.toNat]:=View.Bx vw A.xs (List.getElem?_eq_getElem dO);refine ⟨rfl,hx.2.1,fun A2 Sz => ?_⟩;rw [hA] at Sz;obtain rfl:=Option.some.inj Sz;refine ⟨(List.getElem?_eq_some_iff.1 Dn).1,b,off,cap,hl,?_⟩;rw [Hf hc0,Addr.add_mid,oN,Nat.add_mul];simp only [Nat.add_zero];rw [Nat.add_assoc]
     |_=>simp [sZ,ht,N.val] at hv
    |_=>cases cy<;>simp [sZ,ht,N.val] at hv
end Go.TM
namespace Go.TM
open Go Go.RowKit
def Ng (c:Cz) (st:St) (w:World):Option V→Option Value→Prop
 |none,u=>u=none
 |some v,u=>∃x,u=some x∧hU c st w v x
def Bd (o:Option Value) (l:Option Nat):Prop:=
 match l with
 |none=>o=none
 |some l=>∃k,o=some (.int k l)
theorem sm {c:Cz} {st:St} {w:World} {n:Nat} {lo hi:Option V} {ul uh:Option Value} (hl:Ng c st w lo ul) (hh:Ng c st w hi uh) {k:Option Nat→Option Nat→N} {bP:St}
  (hv:(rz n lo hi k).val=some bP):∃l h,(k l h).val=some bP∧Bd ul l∧Bd uh h∧l.getD 0≤h.getD n∧h.getD n≤n:=by
 unfold rz at hv;simp only at hv;have hiC:∀(l:Option Nat),(hi=none→l.getD 0≤n)→(match hi with
   |none=>k l none
   |some (.one (.int _ h))=>.br (decide ((match l with | some l=>(l:Int) | none=>0)≤h)) (.br (decide (h≤n)) (k l (some h.toNat)) .fail) .fail
   |_=>.fail).val=some bP→∃h,(k l h).val=some bP∧Bd uh h∧l.getD 0≤h.getD n∧h.getD n≤n:=by
  intro l UM hv
  cases hi with
  |none=>exact ⟨none,hv,hh,UM rfl,Nat.le_refl _⟩
  |some v=>cases v with
   |agg _=>simp [N.val] at hv
   |qd _=>simp [N.val] at hv
   |one x=>cases x with
    |int q h=>
     simp only at hv;obtain ⟨h1,hv⟩:=jG hv;obtain ⟨h2,hv⟩:=jG hv;have h1:=of_decide_eq_true h1;have h2:=of_decide_eq_true h2;obtain ⟨x,rfl,hx⟩:=hh;have e:x=.int q h:=hx;subst e;have h0:0≤h:=by cases l<;>simp at h1<;>omega
     refine ⟨some h.toNat,hv,⟨q,by rw [Int.toNat_of_nonneg h0]⟩,?_,by simp;omega⟩
     cases l<;>simp at h1 ⊢;omega
    |_=>simp [N.val] at hv
 cases lo with
 |none=>
  obtain ⟨h,g1,g2,g3,g4⟩:=hiC none (fun _=>Nat.zero_le _) hv;exact ⟨none,h,g1,hl,g2,g3,g4⟩
 |some v=>cases v with
  |agg _=>simp [N.val] at hv
  |qd _=>simp [N.val] at hv
  |one x=>cases x with
   |int q l=>
    simp only at hv;obtain ⟨h1,hv⟩:=jG hv;have h1:=of_decide_eq_true h1;obtain ⟨x,rfl,hx⟩:=hl;have e:x=.int q l:=hx;subst e;have hb:Bd (some (.int q l)) (some l.toNat):=⟨q,by rw [Int.toNat_of_nonneg h1]⟩
    cases hi with
    |none=>
     simp only at hv;obtain ⟨h2,hv⟩:=jG hv;have h2:=of_decide_eq_true h2;obtain ⟨h,g1,g2,g3,g4⟩:=hiC (some l.toNat) (fun _=>by simp;omega) hv;exact ⟨some l.toNat,h,g1,hb,g2,g3,g4⟩
    |some v=>
     obtain ⟨h,g1,g2,g3,g4⟩:=hiC (some l.toNat) (fun e=>by cases e) hv;exact ⟨some l.toNat,h,g1,hb,g2,g3,g4⟩
   |_=>simp [N.val] at hv
theorem Hi {P:Program} {w:World} {n cap:Nat} {ul uh:Option Value} {l h:Option Nat} (b:Bool) (hl:Bd ul l) (hh:Bd uh h) (h1:l.getD 0≤h.getD n) (h2:h.getD n≤n) (hc:n≤cap) :
  (Instr.sliceBounds b n cap ul uh none).run P w=.ok (l.getD 0,h.getD n,cap) w:=by
 have key:∀(q:IntKind) (y m:Nat) (code:BoundsCode),y≤m→(Instr.sliceBound (.int q y) m code).run P w=.ok y w:=by
  intro q y m code hy;simp [Instr.sliceBound,asIntOf,hy]
 cases l with
 |none=>
  simp only [Bd] at hl;subst hl
  cases h with
  |none=>
   simp only [Bd] at hh;subst hh;simp [Instr.sliceBounds]
  |some h=>
   obtain ⟨q,rfl⟩:=hh;simp at h2;simp [Instr.sliceBounds,key q h cap _ (by omega)]
 |some l=>
  obtain ⟨q,rfl⟩:=hl
  cases h with
  |none=>
   simp only [Bd] at hh;subst hh;simp at h1;simp [Instr.sliceBounds,key q l n _ h1]
  |some h=>
   obtain ⟨q',rfl⟩:=hh;simp at h1 h2;simp [Instr.sliceBounds,key q' h cap _ (by omega),key q l h _ h1]
theorem View.Rn {α:Type} (w:View) (xs:List α) (l h:Option Nat) (h1:l.getD 0≤h.getD (w.app xs).length) (h2:h.getD (w.app xs).length≤(w.app xs).length) :
  (w.of (w.app xs).length l h).lo=w.lo+l.getD 0∧((w.of (w.app xs).length l h).app xs).length=h.getD (w.app xs).length-l.getD 0:=by
 cases w with
 |full=>cases l<;>cases h<;>simp [View.of,View.lo,View.app] at h1 h2 ⊢ <;> omega
 |«from» a=>cases l<;>cases h<;>simp [View.of,View.lo,View.app] at h1 h2 ⊢ <;> omega
 |sub a m=>cases l<;>cases h<;>simp [View.of,View.lo,View.app] at h1 h2 ⊢ <;> omega
theorem SA (n:Nat) (l h:Option Nat):Ps n l h=View.full.of n l h:=by
 cases l<;>cases h<;>simp [Ps,View.of,View.lo]
theorem sI {P:Program} {t e:TypeId} {i:TypeInfo} (hu:P.underlying t=some (.slice e)) (hi:P.info? e=some i) {w:World} {a:Option Addr} {n cap:Nat} {ul uh:Option Value} {l h:Option Nat}
  (hl:Bd ul l) (hh:Bd uh h) (h1:l.getD 0≤h.getD n) (h2:h.getD n≤n) (hc:n≤cap) :
  (Instr.sliceAt t (.slice a n cap) ul uh none).run P w=.ok (.slice (if cap=l.getD 0 then a else a.map (·.add (l.getD 0*i.size))) (h.getD n-l.getD 0) (cap-l.getD 0)) w:=by
 have hb:=Hi (P:=P) (w:=w) true hl hh h1 h2 hc;simp [Instr.sliceAt,Instr.slice,run_underlying hu,sizeOf,typeInfo,hi,hb]
theorem SB {P:Program} {T:oB} (hT:jF P T) {w0:World} {mu:Mu} {c:Cz} {st:St} {a:Act} {w:World} (h:Rel w0 mu c st a w)
  {d:Option Nat} {t:Nat} {x:V} {ux:Value} {lo hi:Option V} {ul uh:Option Value} (hx:hU c st w x ux) (hl:Ng c st w lo ul) (hh:Ng c st w hi uh) {bP:St}
  (hv:(yn T st d t x lo hi).val=some bP) (hd:∀k,d=some k→k<a.tmps.size) :
  ∃v,(∀w':World,(Instr.sliceAt t ux ul uh none).run P w'=.ok v w')∧Rel w0 mu c bP (a.put d v) w:=by
 cases x with
 |agg _=>simp [yn,N.val] at hv
 |qd _=>simp [yn,N.val] at hv
 |one cx=>cases cx with
  |str s=>
   simp only [yn] at hv
   cases hk:T.kind t with
   |none=>simp [hk,N.val] at hv
   |some y=>cases y with
    |str=>
     simp only [hk] at hv;obtain ⟨l,q,hv,g1,g2,g3,g4⟩:=sm hl hh hv;simp only [N.val,Option.some.injEq] at hv;subst hv;have e:ux=.string s:=hx;subst e;have hb:=fun w':World=>Hi (P:=P) (w:=w') false g1 g2 g3 g4 (Nat.le_refl _)
     refine ⟨.string (s.extract (l.getD 0) (q.getD s.size)),(fun w'=>by simp [Instr.sliceAt,Instr.slice,run_underlying (Rm hT hk),hb w']),?_⟩;exact h.bQ (v:=.one (.str _)) rfl hd
    |_=>simp [hk,N.val] at hv
  |gj=>
   simp only [yn] at hv
   cases hk:T.elem t with
   |none=>simp [hk,N.val] at hv
   |some p=>
    obtain ⟨r,b⟩:=p;simp only [hk] at hv;obtain ⟨e,i,z,hu,hi,_⟩:=hT.elem t r b hk;obtain ⟨l,q,hv,g1,g2,g3,g4⟩:=sm hl hh hv;simp only [N.val,Option.some.injEq] at hv;subst hv;have eu:ux=.slice none 0 0:=hx;subst eu;have hr:=fun w':World=>sI (P:=P) (w:=w') (a:=none) hu hi g1 g2 g3 g4 (Nat.le_refl 0)
    have e1:l.getD 0=0:=by omega
    have e2:q.getD 0=0:=by omega
    simp only [e1,e2] at hr;exact ⟨_,hr,h.bQ (v:=.one .gj) rfl hd⟩
  |shr r xs=>
   simp only [yn] at hv
   cases hk:T.elem t with
   |none=>simp [hk,N.val] at hv
   |some p=>
    obtain ⟨r',b⟩:=p;simp only [hk] at hv
    cases hc:ef r' xs with
    |none=>simp [hc,N.val] at hv
    |some ys=>
     simp only [hc] at hv;obtain ⟨rfl,hq⟩:=cU hc
     replace hq:xs=ys:=hq.symm
     subst hq;obtain ⟨e,i,z,hu,hi,oN,He,_⟩:=hT.elem t r b hk;obtain ⟨l,q,hv,g1,g2,g3,g4⟩:=sm hl hh hv;simp only [N.val,Option.some.injEq] at hv;subst hv;have Pg:=View.Rn .full xs l q g3 g4;rw [SA];rcases (rk _ _ _ _ _).1 hx with ⟨rfl,rfl⟩ | ⟨ad,cap,rfl,h2,h3,h4⟩
     ·have hr:=fun w':World=>sI (P:=P) (w:=w') (a:=none) hu hi g1 g2 g3 g4 (Nat.le_refl 0)
      simp at g3 g4;have e1:l.getD 0=0:=by omega
      have e2:q.getD 0=0:=by omega
      simp only [e1,show q.getD ([]:List (aO r)).length=0 from e2] at hr;refine ⟨_,hr,h.bQ (v:=.one (.shr r _)) ?_ hd⟩;refine (rk _ _ _ _ _).2 (.inl ⟨rfl,?_⟩);have:=Pg.2;simp [View.app] at this ⊢
      cases hw:View.full.of 0 l q<;>simp
     ·have hr:=fun w':World=>sI (P:=P) (w:=w') (a:=some ad) hu hi g1 g2 g3 g4 h2
      refine ⟨_,hr,h.bQ (v:=.one (.shr r _)) ?_ hd⟩;have hlen:((View.full.of xs.length l q).app xs).length=q.getD xs.length-l.getD 0:=Pg.2;refine (rk _ _ _ _ _).2 (.inr ⟨if cap=l.getD 0 then ad else ad.add (l.getD 0*i.size),cap-l.getD 0,?_,by rw [hlen];omega,fun mU => ?_,fun j y hy => ?_⟩)
      ·rw [hlen]
       congr 1
       by_cases e:cap=l.getD 0<;>simp [e]
      ·have hp:0<q.getD xs.length-l.getD 0:=by rw [←hlen];exact List.length_pos_iff.2 mU
       have ab6:xs≠[]:=by intro e;subst e;simp at g4 hp;omega
       obtain ⟨k1,k2,k3⟩:=h3 ab6;have Hf:ad=⟨ad.block,ad.off,none⟩:=by cases ad;simp at k1 ⊢;exact k1
       rw [if_neg (by omega),Hf,Addr.add_mid];exact ⟨rfl,k2,k3⟩
      ·have hj:j<q.getD xs.length-l.getD 0:=by rw [←hlen];exact (List.getElem?_eq_some_iff.1 hy).1
       have ab6:xs≠[]:=by intro e;subst e;simp at g4 hj;omega
       obtain ⟨k1,k2,k3⟩:=h3 ab6;have Hf:ad=⟨ad.block,ad.off,none⟩:=by cases ad;simp at k1 ⊢;exact k1
       rw [if_neg (by omega),Hf,Addr.add_mid];have Dn:=View.Bx (View.full.of xs.length l q) xs hy;rw [show (View.full.of xs.length l q).lo=l.getD 0 by have h9:(View.full.of xs.length l q).lo=View.full.lo+l.getD 0:=Pg.1;rw [h9];simp [View.lo]] at Dn;have:=h4 _ y Dn;rw [Nat.add_mul] at this;rw [oN];simp only;rw [Nat.add_assoc];exact this
  |ref a' j g vw=>
   simp only [yn] at hv
   cases hk:T.elem t with
   |none=>simp [hk,N.val] at hv
   |some p=>
    obtain ⟨r',b⟩:=p;simp only [hk] at hv
    cases hA:cE st a' j g with
    |none=>simp [hA,N.val] at hv
    |some A=>
     simp only [hA] at hv
     cases hc:ef r' A.xs with
     |none=>simp [hc,N.val] at hv
     |some ys=>
      simp only [hc] at hv;obtain ⟨e',he⟩:=cU hc;subst e';simp only at he;subst he;obtain ⟨e,i,z,hu,hi,oN,He,_⟩:=hT.elem t A.r b hk;obtain ⟨l,q,hv,g1,g2,g3,g4⟩:=sm hl hh hv;simp only [N.val,Option.some.injEq] at hv;subst hv;have Pg:=View.Rn vw A.xs l q g3 g4;have hs:=hx.2.2 A hA
      cases nk:c.lc a' j with
      |nil=>
       unfold o8 at hs;rw [nk] at hs;obtain ⟨rfl,hn⟩:=hs;rw [hn] at g3 g4;have hr:=fun w':World=>sI (P:=P) (w:=w') (a:=none) hu hi g1 g2 g3 g4 (Nat.le_refl 0)
       have e1:l.getD 0=0:=by omega
       have e2:q.getD 0=0:=by omega
       simp only [e1,e2] at hr;refine ⟨_,hr,h.bQ (v:=.one (.ref a' j g _)) ⟨rfl,hx.2.1,fun A2 Sz => ?_⟩ hd⟩;rw [hA] at Sz;obtain rfl:=Option.some.inj Sz;rw [nk];refine ⟨by simp,?_⟩;rw [Pg.2,hn];omega
      |«at» bb off cap=>
       unfold o8 at hs;rw [nk] at hs;obtain ⟨ad,cc,rfl,hcc,BU,Hf⟩:=hs;have hr:=fun w':World=>sI (P:=P) (w:=w') (a:=some ad) hu hi g1 g2 g3 g4 hcc
       refine ⟨_,hr,h.bQ (v:=.one (.ref a' j g _)) ⟨?_,hx.2.1,fun A2 Sz => ?_⟩ hd⟩
       ·by_cases e:cc=l.getD 0<;>simp [e,Value.oneCell']
       ·rw [hA] at Sz;obtain rfl:=Option.some.inj Sz;rw [nk];refine ⟨if cc=l.getD 0 then ad else ad.add (l.getD 0*i.size),cc-l.getD 0,?_,by rw [Pg.2];omega,by rw [Pg.1];omega,fun mU => ?_⟩
        ·rw [Pg.2]
         congr 1
         by_cases e:cc=l.getD 0<;>simp [e]
        ·rw [if_neg (by omega),Hf (by omega),Addr.add_mid,Pg.1,oN,Nat.add_mul,Nat.add_assoc]
  |_=>simp [yn,N.val] at hv
theorem flat_get {α:Type} (l:List α) (W:Nat) (hW:l.length=W):(n i q:Nat)→i<n→q<W→((List.replicate n l).flatten)[i*W+q]?=l[q]?
 |0,_,_,h,_=>by omega
 |n+1,0,q,_,hq=>by
  rw [List.replicate_succ,List.flatten_cons,Nat.zero_mul,Nat.zero_add,List.getElem?_append_left (by omega)]
 |n+1,i+1,q,h,hq=>by
  rw [List.replicate_succ,List.flatten_cons,List.getElem?_append_right (by rw [Nat.add_mul];omega),hW,show (i+1)*W+q-W=i*W+q by rw [Nat.add_mul];omega];exact flat_get l W hW n i q (by omega) hq
theorem SC {P:Program} {T:oB} (hT:jF P T) {w0:World} {mu:Mu} {c:Cz} {st:St} {a:Act} {w:World} (h:Rel w0 mu c st a w)
  {t ty:Nat} {x:V} {ux:Value} (hx:hU c st w x ux) {bP:St} (hv:(Pt T st t x).val=some bP) :
  ∃w',(Builtin.clear_ #[t] ty #[ux]).run P w=.ok (.tuple #[]) w'∧∃c',Rel w0 mu c' bP a w':=by
 unfold Pt at hv
 cases ht:T.elem t with
 |none=>simp [ht,N.val] at hv
 |some p=>
  obtain ⟨r,bytes⟩:=p;simp only [ht] at hv;obtain ⟨e,i,z,hu,hi,oN,He,hby,Nc,hz,Pf⟩:=hT.elem t r bytes ht;have Ce:z.cells.size=r.width:=by have:=kX.length r _ Pf;simpa using this
  split at hv
  ·simp only [N.val,Option.some.injEq] at hv;subst hv;have e1:ux=.slice none 0 0:=hx;subst e1;exact ⟨w,by simp [Builtin.clear_,run_underlying hu],c,h⟩
  ·rename_i a' j g k
   cases hA:cE st a' j g with
   |none=>simp [hA,N.val] at hv
   |some A=>
    simp only [hA] at hv;obtain ⟨hc,hv⟩:=jt hv;rw [Bool.and_eq_true,Bool.and_eq_true] at hc;obtain ⟨ku,GN,hns⟩:=hc;have GN:=Md.xe.1 GN
    cases Az:ef r A.xs with
    |none=>simp [Az,N.val] at hv
    |some xs=>
     simp only [Az] at hv;obtain ⟨e2,_⟩:=cU Az;obtain ⟨sl,G1,Su,G2⟩:=dB hA;have Jj:=h.bT a' j sl A G1 G2;have hs:=hx.2.2 A hA;have Py:((View.from k).app A.xs).length=A.xs.length-k:=by simp [View.app]
     rcases xN hv with ⟨dO,hv⟩ | ⟨dO,hv⟩
     ·have dO:0<A.xs.length-k:=Nat.le_of_ble_eq_true dO;simp only [N.val,Option.some.injEq] at hv;subst hv
      cases hl:c.lc a' j with
      |nil=>
       unfold o8 at hs;rw [hl,Py] at hs;have:=hs.2;omega
      |«at» b off cap=>
       unfold o8 at hs;rw [hl,Py] at hs;obtain ⟨ad,n,rfl,hn,BU,Hf⟩:=hs;have Hf:=Hf (by omega);subst Hf;unfold fy at Jj;rw [hl] at Jj;obtain ⟨ho,hcp,⟨cur,ct,hg,Ao⟩,s7⟩:=Jj;rw [ku] at ho;have s7:=(dZ.sh GN).1 s7;have hlo:(View.from k).lo=k:=rfl;rw [hlo];have hz':(Builtin.zeroCells z.cells (A.xs.length-k)).toList=(List.replicate (A.xs.length-k) z.cells.toList).flatten:=by
        unfold Builtin.zeroCells;rw [show (A.xs.length-k)*z.cells.size=(A.xs.length-k)*r.width by rw [Ce]];exact Hg z.cells (A.xs.length-k) r.width Ce He
       subst e2;generalize hZ:(Builtin.zeroCells z.cells (A.xs.length-k)).toList=Z at hz';have hZl:Z.length=(A.xs.length-k)*A.r.width:=by
        rw [hz',List.length_flatten,List.map_replicate,List.sum_replicate_nat];simp [Ce]
       have Pz:off+k*A.r.width+(A.xs.length-k)*A.r.width≤cur.size:=by
        have h1:k*A.r.width+(A.xs.length-k)*A.r.width=A.xs.length*A.r.width:=by rw [←Nat.add_mul];congr 1;omega
        have h2:A.xs.length*A.r.width≤cap*A.r.width:=Nat.mul_le_mul_right _ hcp;omega
       have Nb:∀u∈Z,u.oneCell'=true:=by
        rw [hz'];intro u hu;obtain ⟨l,SD,hl2⟩:=List.mem_flatten.1 hu;rw [(List.mem_replicate.1 SD).2] at hl2;exact eA.one A.r _ _ (vn (w:=w) (ok:=c.ok) A.r _ Pf) u hl2
       have wE:=run_storeCells_at P b (off+k*A.r.width) ct Z 0 cur w hg (by omega) Nb;simp only [Nat.add_zero] at wE;have anr:=ue (w:=w) ho (eg cur.toList (off+k*A.r.width) Z).toArray;have hg':=setRow_heap w b cur (eg cur.toList (off+k*A.r.width) Z).toArray ct (0,0) hg;have Hb:∀q,(w.setRow b (eg cur.toList (off+k*A.r.width) Z).toArray).cell? ⟨b,q,none⟩=if off+k*A.r.width≤q∧q<off+k*A.r.width+Z.length then Z[q-(off+k*A.r.width)]? else w.cell? ⟨b,q,none⟩:=by
        intro q;rw [cell_of_row _ b q _ ct (0,0) hg',cell_of_row w b q cur ct (0,0) hg];simp only [List.getElem?_toArray];rw [rC (by simp;omega)];simp
       refine ⟨_,?_,c,h.G9 G1 G2 ku hl hg (cur':=(eg cur.toList (off+k*A.r.width) Z).toArray) (by rw [List.size_toArray,mG (by simp;omega)];simp) (by simp;omega) ((dZ.sh (A:={ A with xs:=A.xs.take k++List.replicate (A.xs.length-k) (wL A.r) }) GN).2 fun i x hx => ?_)⟩
       ·cases hnn:A.xs.length-k with
        |zero=>omega
        |succ q=>
         rw [hnn] at hZ;have hzv:(zeroValue e).run P w=.ok z w:=by simp [zeroValue,typeInfo,hi,hz]
         simp [Builtin.clear_,run_underlying hu,hzv,hZ,wE,eg]
       ·have hx:(A.xs.take k++List.replicate (A.xs.length-k) (wL A.r))[i]?=some x:=hx;show fx _ c.ok A.r b (off+i*A.r.width) x;have hkl:(A.xs.take k).length=k:=by rw [List.length_take];omega
        by_cases hik:i<k
        ·rw [List.getElem?_append_left (by omega),List.getElem?_take,if_pos hik] at hx;obtain ⟨vs,h1,h2⟩:=(mm A.r b _ x).1 (s7 i x hx);have J2:=eA.length A.r vs x h2;refine (mm A.r b _ x).2 ⟨vs,fun q v hv => ?_,eA.stays anr A.r _ x h2⟩;have hq:q<A.r.width:=by rw [←J2];exact (List.getElem?_eq_some_iff.1 hv).1
         have h3:(i+1)*A.r.width≤k*A.r.width:=Nat.mul_le_mul_right _ (by omega);rw [Nat.add_mul] at h3;rw [Hb,if_neg (by omega)];exact h1 q v hv
        ·rw [List.getElem?_append_right (by omega),hkl] at hx;have YS:i-k<A.xs.length-k:=by have:=(List.getElem?_eq_some_iff.1 hx).1;simpa using this
         rw [List.getElem?_replicate,if_pos YS] at hx;obtain rfl:=Option.some.inj hx;refine (mm A.r b _ _).2 ⟨z.cells.toList,fun q v hv => ?_,vn A.r _ Pf⟩;have hq:q<A.r.width:=by
          have:=(List.getElem?_eq_some_iff.1 hv).1;simpa [Ce] using this
         have e3:i*A.r.width=k*A.r.width+(i-k)*A.r.width:=by rw [←Nat.add_mul];congr 1;omega
         have h4:(i-k+1)*A.r.width≤(A.xs.length-k)*A.r.width:=Nat.mul_le_mul_right _ (by omega);rw [Nat.add_mul] at h4;rw [Hb,if_pos (by omega),show off+i*A.r.width+q-(off+k*A.r.width)=(i-k)*A.r.width+q by omega,hz',flat_get z.cells.toList A.r.width (by simpa using Ce) _ _ _ YS hq];exact hv
     ·simp only [N.val,Option.some.injEq] at hv;subst hv;have dO:A.xs.length-k=0:=by
       by_cases e3:0<A.xs.length-k
       ·rw [show Nat.blt 0 (A.xs.length-k)=true from Nat.ble_eq_true_of_le e3] at dO;cases dO
       ·omega
      cases hl:c.lc a' j with
      |nil=>
       unfold o8 at hs;rw [hl,Py] at hs;rw [hs.1];exact ⟨w,by simp [Builtin.clear_,run_underlying hu],c,h⟩
      |«at» b off cap=>
       unfold o8 at hs;rw [hl,Py,dO] at hs;obtain ⟨ad,n,rfl,hn,BU,Hf⟩:=hs;exact ⟨w,by simp [Builtin.clear_,run_underlying hu],c,h⟩
  ·simp [N.val] at hv
end Go.TM
