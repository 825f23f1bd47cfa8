/- A machine over trees: an evaluator of the code, and that what it finds is so; part 1. -/
import GoSem.Core.Value
import GoSem.Core.Code
import GoSem.Core.Program
import GoSem.Core.View
import Derived.Below
import Derived.Laws.AppendOwn
import Derived.Laws.Cells
import Derived.Laws.Rows
import Derived.Deep.MidRow
import Derived.Laws.CopyRow
import Derived.Laws.MakeOwn
import Derived.Great.BuildSlice
import Derived.Laws.Cover3
set_option linter.unusedSimpArgs false
set_option linter.unusedVariables false
namespace Go.TM
open Go
mutual
inductive Ty where
 |int (k:IntKind)
 |bool
 |str
 |sl (r:RT)
inductive RT where
 |nil
 |cons (t:Ty) (r:RT)
end
mutual
def den:Ty→Type
 |.int _=>Int
 |.bool=>Bool
 |.str=>ByteArray
 |.sl r=>List (aO r)
def aO:RT→Type
 |.nil=>Unit
 |.cons t r=>den t×aO r
end
mutual
def Ty.eq?:(a b:Ty)→Option (PLift (a=b))
 |.int k,.int l=>if h:k=l then some ⟨by rw [h]⟩ else none
 |.bool,.bool=>some ⟨rfl⟩
 |.str,.str=>some ⟨rfl⟩
 |.sl r,.sl s=>match RT.eq? r s with | some ⟨h⟩=>some ⟨by rw [h]⟩ | none=>none
 |_,_=>none
def RT.eq?:(a b:RT)→Option (PLift (a=b))
 |.nil,.nil=>some ⟨rfl⟩
 |.cons t r,.cons u s=>match Ty.eq? t u,RT.eq? r s with
  |some ⟨h⟩,some ⟨g⟩=>some ⟨by rw [h,g]⟩
  |_,_=>none
 |_,_=>none
end
def ek {r:RT} (s:RT) (xs:List (aO r)):Option (List (aO s)):=
 match RT.eq? r s with
 |some ⟨h⟩=>some (h▸xs)
 |none=>none
def RT.qq:RT→Bool
 |.nil=>false
 |.cons (.sl _) _=>true
 |.cons _ r=>r.qq
def RT.width:RT→Nat
 |.nil=>0
 |.cons _ r=>r.width+1
inductive View where
 |full
 |from (lo:Nat)
 |sub (lo n:Nat)
def View.app {α:Type}:View→List α→List α
 |.full,xs=>xs
 |.from lo,xs=>xs.drop lo
 |.sub lo n,xs=>(xs.drop lo).take n
def View.lo:View→Nat
 |.full=>0
 |.from l=>l
 |.sub l _=>l
def View.idx (w:View) (i:Nat):Nat:=
 match w with
 |.full=>i
 |.from l=>l+i
 |.sub l _=>l+i
inductive CV where
 |bad
 |int (k:IntKind) (n:Int)
 |bool (b:Bool)
 |str (s:ByteArray)
 |gJ
 |Qk
 |shr (r:RT) (xs:List (aO r))
 |nn (r:RT) (xs:List (aO r))  -- as 'axT,and not nil
 |ref (a j g:Nat) (w:View)
 |ptr (b g off:Nat)
 |N1 (a j g i off:Nat)
 |oe (r:RT) (x:aO r) (off:Nat)
 |yc (r:RT) (xs:List (aO r)) (off:Nat)  -- as 'axU,TG row awp TG first of a list
 |fn (g:Nat) (rs:RT) (xs:List (aO rs))    -- a function with boxes acQ are read alone: each cell of TG row is one awq rows
inductive Lb where
 |box (s:Nat)
 |sp (s j:Nat)
 |out
 |dC (i j:Nat)
 |yd (i:Nat)
 |kK (j:Nat)
def Lb.same:Lb→Lb→Bool
 |.box s,.box t=>Nat.beq s t
 |.sp s i,.sp t j=>Nat.beq s t&&Nat.beq i j
 |_,_=>false
inductive V where
 |one (c:CV)
 |agg (cs:List CV)
 |rb (vs:List V)
def V.cells:V→List CV
 |.one c=>[c]
 |.agg cs=>cs
 |.rb _=>[]
inductive Md where
 |sh
 deriving DecidableEq
def Md.is:Md→Md→Bool
 |.sh,.sh=>true
theorem Md.xJ {a b:Md}:Md.is a b=true↔a=b:=by
 cases a<;>cases b<;>simp [Md.is]
def Md.Qd:Md→Bool
 |_=>false
structure nY where
 r:RT
 own:Bool
 xs:List (aO r)
 md:Md:=.sh
structure Sl where
 v:V
 box:Option (List CV)
 bg:Nat
 ca:List (Option nY)
 ag:Nat
 ep:Nat:=0  -- it ajt when an array of TG slot is written,or a call is made
def Sl.none:Sl:={ v:=.one .bad,box:=.none,bg:=0,ca:=[],ag:=0 }
abbrev St:=List Sl
def nth {α:Type}:List α→Nat→Option α
 | [],_=>none
 |x::_,0=>some x
 |_::l,n+1=>nth l n
def tS {α:Type} (f:α→α):List α→Nat→List α
 | [],_=>[]
 |x::l,0=>f x::l
 |x::l,n+1=>x::tS f l n
def dR (st:St) (t:Nat):V:=
 match nth st t with
 |some s=>s.v
 |none=>.one .bad
def bW (st:St) (d:Option Nat) (v:V):St:=
 match d with
 |some t=>tS (fun s=>{ s with v:=v }) st t
 |none=>st
def cT (st:St) (a j g:Nat):Option nY:=
 match nth st a with
 |some s=>bif Nat.beq s.ag g then (match nth s.ca j with | some (some A)=>some A | _=>none) else none
 |none=>none
def fo (st:St) (a j:Nat) (A:Option nY):St:=
 tS (fun s=>{ s with ca:=tS (fun _=>A) s.ca j,ep:=s.ep+1 }) st a
def w9 (st:St) (a:Nat):Nat:=match nth st a with | some s=>s.ep | none=>0
def gi (st:St) (b g:Nat):Option (List CV):=
 match nth st b with
 |some s=>bif Nat.beq s.bg g then s.box else none
 |none=>none
inductive N where
 |done (st:St)
 |fail
 |br (b:Bool) (t e:N)
 |row (r:RT) (o:Option (aO r)) (k:aO r→N)
def N.val:N→Option St
 |.done st=>some st
 |.fail=>none
 |.br b t e=>bif b then t.val else e.val
 |.row _ o k=>match o with | some x=>(k x).val | none=>none
def N.fold {R:Type}:N→(St→Option R)→Option R
 |.done st,k=>k st
 |.fail,_=>none
 |.br b t e,k=>bif b then t.fold k else e.fold k
 |.row _ o f,k=>match o with | some x=>(f x).fold k | none=>none
theorem N.fold_eq {R:Type} (n:N) (k:St→Option R):n.fold k=n.val.bind k:=by
 induction n with
 |done st=>rfl
 |fail=>rfl
 |br b t e iht ihe=>cases b<;>simp [N.fold,N.val,iht,ihe]
 |row r o f ih=>cases o<;>simp [N.fold,N.val,ih]
def Ql:(t:Ty)→den t
 |.int _=>(0:Int)
 |.bool=>false
 |.str=>ByteArray.empty
 |.sl _=>([]:List _)
def xj:(r:RT)→aO r
 |.nil=>()
 |.cons t r=>(Ql t,xj r)
def Qm:(t:Ty)→den t→CV
 |.int k,n=>.int k n
 |.bool,b=>.bool b
 |.str,s=>.str s
 |.sl r,xs=>.shr r xs
def gy:(r:RT)→aO r→List CV
 |.nil,_=>[]
 |.cons t r,x=>Qm t x.1::gy r x.2
def pW (st:St) (r:RT) (c:CV) (k:List (aO r)→N):N:=
 match c with
 |.shr _ xs=>match ek r xs with | some ys=>k ys | none=>.fail
 |.nn _ xs=>match ek r xs with | some ys=>k ys | none=>.fail
 |.gJ=>k []
 |.ref a j g w=>match cT st a j g with
  |some A=>(match ek r A.xs with | some ys=>k (w.app ys) | none=>.fail)
  |none=>.fail
 |_=>.fail
structure pA where
 cells:Nat→Option Nat          -- how many cells a value of TG type awr
 agg:Nat→Bool                  -- is it a struct
 off:Nat→Nat→Option Nat      -- a Wu field: its first cell
 fsz:Nat→Nat→Option Nat      -- and how many it has
 row:Nat→Option RT             -- TG yM types
 elem:Nat→Option (RT×Nat)    -- a slice: its aiK cells,and TG bytes of one
 rb:Nat→Option (List Nat)     -- a aou types
 kind:Nat→Option Ty            -- a type of one cell
 one:Nat→Nat→Bool            -- a Wu field acQ is no struct apc
 eq:Nat→Bool                   -- a struct of numbers,aws and strings,ajv by '=='
 dp:Nat→Bool:=fun _=>false -- a slice abI awt qq are its own,where axY may be
 cap:Nat→Bool:=fun _=>false -- a abJ box acQ is read alone
inductive OV where
 |int (k:IntKind) (n:Int)
 |bool (b:Bool)
 |str (s:ByteArray)
 |own (A:nY)
 |shr (r:RT) (xs:List (aO r))
 |gJ
 |oe (r:RT) (xs:List (aO r))
 |fn (g:Nat) (rs:RT) (xs:List (aO rs))
inductive AV where
 |val (agg:Bool) (os:List OV)  -- a value: its Wv are TG ajw from now on
 |io (A:nY)                     -- an array,Mq: TG callee may write it
 |box (os:List OV)               -- a struct behind a pointer,Mq
 |dX (os:List OV)              -- a struct abI Wv are Mq
inductive RV where
 |one (o:OV)
 |agg (os:List OV)
 |ptr (os:List OV)  -- a new struct,behind a pointer
inductive XV where
 |io (A:nY)
 |box (cs:List OV)
 |dX (As:List (Option nY))
structure Res where
 outs:List RV
 exts:List XV
structure Ans where
 r:RT
 o:Option (aO r)
 res:aO r→Res
abbrev AS:=List AV→Option Ans
inductive Pm where
 |shr | own | io | dX
 |pick (l:List Nat)  -- a struct behind a pointer,some of abI Wv are read alone from then on
abbrev nF:=FuncId→Option (Pm×Pm×Pm×AS)   -- TG first three abK ways;awv mQ are shared
def ch (b g:Nat):(j:Nat)→List OV→List CV
 |_,[]=>[]
 |j,.int k n::l=>.int k n::ch b g (j+1) l
 |j,.bool x::l=>.bool x::ch b g (j+1) l
 |j,.str s::l=>.str s::ch b g (j+1) l
 |j,.own _::l=>.ref b j g .full::ch b g (j+1) l
 |j,.shr r xs::l=>.shr r xs::ch b g (j+1) l
 |j,.gJ::l=>.gJ::ch b g (j+1) l
 |j,.oe r xs::l=>.yc r xs 0::ch b g (j+1) l
 |j,.fn f rs xs::l=>.fn f rs xs::ch b g (j+1) l
def OV.arr:OV→Option nY
 |.own A=>some A
 |_=>none
def cD:List OV→List (Option nY)
 | []=>[]
 |o::l=>o.arr::cD l
def RV.Bi:RV→List OV
 |.one o=>[o]
 |.agg os=>os
 |.ptr os=>.gJ::os
def Ww (d g j:Nat):RV→V
 |.one o=>match ch d g j [o] with | [c]=>.one c | _=>.one .bad
 |.agg os=>.agg (ch d g j os)
 |.ptr _=>.one .bad
def nN (d g:Nat):(j:Nat)→List RV→List V
 |_,[]=>[]
 |j,r::l=>Ww d g j r::nN d g (j+r.Bi.length) l
def Bj (st:St) (d:Option Nat) (outs:List RV):Option St:=
 match d with
 |some d=>match nth st d with
  |some s=>
   let g:=s.ag+1
   match outs with
   | [.ptr os]=>some (tS (fun s=>{ s with v:=.one (.ptr d (s.bg+1) 0),box:=some (ch d (s.ag+1) 1 os),bg:=s.bg+1,ca:=none::cD os,ag:=s.ag+1 }) st d)
   |outs=>
    let v:V:=match nN d g 0 outs with | [v]=>v | vs=>.rb vs
    some (tS (fun s=>{ s with v:=v,ca:=cD (outs.flatMap RV.Bi),ag:=g }) st d)
  |none=>none
 |none=>match outs with
  | []=>some st
  |_=>none
def qM (st:St):Operand→V
 |.tmp t=>dR st t
 |.const (.int k n)=>.one (.int k n)
 |.const (.bool b)=>.one (.bool b)
 |.const (.string s)=>.one (.str s)
 |.const (.slice none 0 0)=>.one .gJ
 |.const (.pointer none)=>.one .Qk
 |_=>.one .bad
def Wx (op:BinOp) (a b:Int):Option Bool:=
 match op with
 |.lss=>some (decide (a<b))
 |.leq=>some (decide (a≤b))
 |.gtr=>some (decide (b<a))
 |.geq=>some (decide (b≤a))
 |.eql=>some (decide (a=b))
 |.neq=>some (!decide (a=b))
 |_=>none
def HE (op:BinOp) (k:IntKind) (a b:Int):Option Int:=
 match op with
 |.add=>some (k.wrap (a+b))
 |.sub=>some (k.wrap (a-b))
 |.mul=>some (k.wrap (a*b))
 |.and=>some (k.wrap ((BitVec.ofInt k.bits a &&& BitVec.ofInt k.bits b).toNat:Int))
 |.or=>some (k.wrap ((BitVec.ofInt k.bits a ||| BitVec.ofInt k.bits b).toNat:Int))
 |.xor=>some (k.wrap ((BitVec.ofInt k.bits a ^^^ BitVec.ofInt k.bits b).toNat:Int))
 |_=>none
def Wy (op:BinOp) (k:IntKind) (a b:Int):Option Int:=
 match op with
 |.quo=>some (k.wrap (a.tdiv b))
 |.rem=>some (a.tmod b)
 |_=>none
def HF (op:BinOp) (k:IntKind) (a:Int) (n:Nat):Option Int:=
 match op with
 |.shl=>some (k.wrap (a*2 ^ (min n k.bits)))
 |.shr=>some (a.fdiv (2 ^ (min n k.bits)))
 |_=>none
def tE (a b:ByteArray):Bool:=a.toList==b.toList
def yN:CV→CV→Option Bool
 |.int k a,.int l b=>if k=l then some (decide (a=b)) else none
 |.bool a,.bool b=>some (a==b)
 |.str a,.str b=>some (tE a b)
 |_,_=>none
def re:List CV→List CV→Option Bool
 | [],[]=>some true
 |a::l,b::m=>match yN a b,re l m with
  |some x,some y=>some (x&&y)
  |_,_=>none
 |_,_=>none
def Mr (s:ByteArray) (i:Int):Int:=match s[i.toNat]? with | some b=>(b.toNat:Int) | none=>0
def pJ:(r:RT)→aO r→Nat→CV→Option (aO r)
 |.cons (.int k) _,x,0,.int l n=>if k=l then some (n,x.2) else none
 |.cons .bool _,x,0,.bool b=>some (b,x.2)
 |.cons .str _,x,0,.str s=>some (s,x.2)
 |.cons _ r,x,n+1,c=>(pJ r x.2 n c).map fun z=>(x.1,z)
 |_,_,_,_=>none
def rowOf (st:St):(r:RT)→List CV→(k:aO r→List (Nat×Nat)→N)→N
 |.nil,[],k=>k () []
 |.cons (.int q) r,.int l n::cs,k=>if q=l then rowOf st r cs (fun x m=>k (n,x) m) else .fail
 |.cons .bool r,.bool b::cs,k=>rowOf st r cs (fun x m=>k (b,x) m)
 |.cons .str r,.str s::cs,k=>rowOf st r cs (fun x m=>k (s,x) m)
 |.cons (.sl q) r,c::cs,k=>
  match c with
  |.gJ=>rowOf st r cs (fun x m=>k (([]:List _),x) m)
  |.ref a j g w=>match cT st a j g with
   |some A=>(match ek q A.xs with
    |some ys=>rowOf st r cs (fun x m=>k (w.app ys,x) ((a,j)::m))
    |none=>.fail)
   |none=>.fail
  |.shr _ ys=>match ek q ys with
   |some zs=>rowOf st r cs (fun x m=>k (zs,x) m)
   |none=>.fail
  |_=>.fail
 |_,_,_=>.fail
def Md.fz:Md→Md
 |m=>m
def nY.fz (A:nY):nY:={ A with own:=false,md:=A.md.fz }
def freeze (st:St):List (Nat×Nat)→St
 | []=>st
 |(a,j)::l=>freeze (tS (fun s=>{ s with ca:=tS (fun A=>A.map nY.fz) s.ca j,ep:=s.ep+1 }) st a) l
def lim:Nat:=35184372088832
def vS:RT→List CV→Bool
 |.nil,[]=>true
 |.cons (.int k) r,.int l _::cs=>decide (k=l)&&vS r cs
 |.cons .bool r,.bool _::cs=>vS r cs
 |.cons .str r,.str _::cs=>vS r cs
 |_,_=>false
def pA.fits (T:pA) (t:Nat) (l:List CV):Bool:=match T.row t with | some r=>vS r l | none=>false
def AT (T:pA) (st:St) (d:Option Nat) (op:BinOp) (t:Nat) (x y:V):N:=
 match x,y with
 |.one (.int k a),.one (.int l b)=>
  match op with
  |.shl | .shr=>match HF op k a b.toNat with
   |some n=>.br (decide (0≤b)) (.done (bW st d (.one (.int k n)))) .fail
   |none=>.fail
  |_=>if k=l then (match Wx op a b with
   |some t=>.done (bW st d (.one (.bool t)))
   |none=>match HE op k a b with
    |some n=>.done (bW st d (.one (.int k n)))
    |none=>match Wy op k a b with
     |some n=>.br (decide (b=0)) .fail (.done (bW st d (.one (.int k n))))
     |none=>.fail) else .fail
 |.one (.str a),.one (.str b)=>
  match op with
  |.add=>.br (Nat.ble (a.size+b.size) lim) (.done (bW st d (.one (.str (a++b))))) .fail
  |.eql=>.done (bW st d (.one (.bool (tE a b))))
  |.neq=>.done (bW st d (.one (.bool (!tE a b))))
  |_=>.fail
 |.one (.bool a),.one (.bool b)=>
  match op,T.kind t with
  |.eql,some .bool=>.done (bW st d (.one (.bool (a==b))))
  |.neq,some .bool=>.done (bW st d (.one (.bool (!(a==b)))))
  |_,_=>.fail
 |.one .gJ,.one .gJ=>
  match op,T.elem t with
  |.eql,some _=>.done (bW st d (.one (.bool true)))
  |.neq,some _=>.done (bW st d (.one (.bool false)))
  |_,_=>.fail
 |.one (.nn _ _),.one .gJ=>
  match op,T.elem t with
  |.eql,some _=>.done (bW st d (.one (.bool false)))
  |.neq,some _=>.done (bW st d (.one (.bool true)))
  |_,_=>.fail
 |.agg l,.agg m=>
  bif T.eq t&&T.fits t l then (match op,re l m with
  |.eql,some t=>.done (bW st d (.one (.bool t)))
  |.neq,some t=>.done (bW st d (.one (.bool (!t))))
  |_,_=>.fail) else .fail
 |_,_=>.fail
def CV.AD:CV→Bool
 |.bad=>false
 |_=>true
def V.AD:V→Bool
 |.one c=>c.AD
 |.agg cs=>cs.all CV.AD
 |.rb _=>false
def gK (st:St) (d:Option Nat) (A:nY):N:=
 match d with
 |some d=>match nth st d with
  |some s0=>.done (tS (fun s=>{ s with v:=.one (.ref d 0 (s0.ag+1) .full),ca:=[some A],ag:=s0.ag+1 }) st d)
  |none=>.fail
 |none=>.fail
def lh (st:St) (d:Option Nat) (cs:List CV):N:=
 match d with
 |some d=>match nth st d with
  |some s0=>.done (tS (fun s=>{ s with v:=.one (.ptr d (s0.bg+1) 0),box:=some cs,bg:=s0.bg+1 }) st d)
  |none=>.fail
 |none=>.fail
def sq (r:RT):List CV:=(gy r (xj r)).map fun | .shr _ _=>.gJ | c=>c
def kn (n off:Nat) (cs:List CV):Option (List CV):=
 let l:=(cs.drop off).take n
 bif Nat.beq l.length n then some l else none
def putCells (cs:List CV) (off:Nat) (l:List CV):Option (List CV):=
 bif Nat.ble (off+l.length) cs.length then some (cs.take off++l++cs.drop (off+l.length)) else none
def mkV (T:pA) (t:Nat) (l:List CV):V:=bif T.agg t then .agg l else (match l with | [c]=>.one c | _=>.one .bad)
def AE (T:pA) (st:St) (d:Option Nat) (t:Nat) (a:V):N:=
 match a,T.cells t with
 |.one (.ptr b g off),some n=>match gi st b g with
  |some cs=>match kn n off cs with
   |some l=>.done (bW st d (mkV T t l))
   |none=>.fail
  |none=>.fail
 |.one (.oe r x off),some n=>match kn n off (gy r x) with
  |some l=>.done (bW st d (mkV T t l))
  |none=>.fail
 |.one (.yc r xs off),some n=>.row r xs[0]? fun x=>match kn n off (gy r x) with
  |some l=>.done (bW st d (mkV T t l))
  |none=>.fail
 |.one (.N1 a j g i off),some n=>match cT st a j g with
  |some A=>.row A.r A.xs[i]? fun x=>match kn n off (gy A.r x) with
   |some l=>.done (bW st d (mkV T t l))
   |none=>.fail
  |none=>.fail
 |_,_=>.fail
def vT (r:RT) (x:aO r):(off:Nat)→List CV→Option (aO r)
 |_,[]=>some x
 |off,c::l=>match vT r x (off+1) l with
  |some y=>pJ r y off c
  |none=>none
def nY.put (A:nY) (ys:List (aO A.r)):nY:={ A with xs:=ys }
def xK (T:pA) (st:St) (t:Nat) (a v:V):N:=
 match a,T.cells t with
 |.one (.ptr b g off),some n=>match gi st b g with
  |some cs=>bif v.AD&&Nat.beq v.cells.length n then (match putCells cs off v.cells with
   |some l=>.done (tS (fun s=>{ s with box:=some l }) st b)
   |none=>.fail) else .fail
  |none=>.fail
 |.one (.N1 a j g i off),some n=>match cT st a j g with
  |some A=>bif v.AD&&A.own&&Nat.beq v.cells.length n&&Nat.blt 0 n then
    (bif Nat.beq n A.r.width&&A.r.qq&&Nat.beq off 0 then
     (rowOf st A.r v.cells fun x m=>bif m.all (fun p => !(Nat.beq p.1 a&&Nat.beq p.2 j)) then
      .row A.r A.xs[i]? (fun _=>.done (fo (freeze st m) a j (some (A.put (A.xs.set i x))))) else .fail)
    else .row A.r A.xs[i]? fun x=>match vT A.r x off v.cells with
     |some y=>.done (fo st a j (some (A.put (A.xs.set i y))))
     |none=>.fail) else .fail
  |none=>.fail
 |_,_=>.fail
def tT (T:pA) (st:St) (d:Option Nat) (t:Nat) (x ix:V):N:=
 match T.elem t,x,ix with
 |some (q,_),.one (.shr r xs),.one (.int _ i)=>match ek q xs with
  |some ys=>.br (decide (0≤i)) (.row q ys[i.toNat]? fun y=>.done (bW st d (.one (.oe q y 0)))) .fail
  |none=>.fail
 |some (q,_),.one (.ref a j g w),.one (.int _ i)=>match cT st a j g with
  |some A=>match ek q A.xs with
   |some ys=>(match A.own with
    |false=>.br (decide (0≤i)) (.row q (w.app ys)[i.toNat]? fun y=>.done (bW st d (.one (.oe q y 0)))) .fail
    |true=>.br (decide (0≤i)) (.br (Nat.blt i.toNat (w.app ys).length) (.done (bW st d (.one (.N1 a j g (w.idx i.toNat) 0)))) .fail) .fail)
   |none=>.fail
  |none=>.fail
 |_,_,_=>.fail
def sr (n:Nat) (lo hi:Option V) (k:Option Nat→Option Nat→N):N:=
 let Qn (l:Option Nat):N:=match hi with
  |none=>k l none
  |some (.one (.int _ h))=>.br (decide ((match l with | some l=>(l:Int) | none=>0)≤h)) (.br (decide (h≤n)) (k l (some h.toNat)) .fail) .fail
  |_=>.fail
 match lo with
 |none=>Qn none
 |some (.one (.int _ l))=>.br (decide (0≤l)) (match hi with
  |none=>.br (decide (l≤n)) (Qn (some l.toNat)) .fail
  |_=>Qn (some l.toNat)) .fail
 |_=>.fail
def Qo (n:Nat):Option Nat→Option Nat→View
 |none,none=>.full
 |some l,none=>.from l
 |none,some h=>.sub 0 h
 |some l,some h=>.sub l (h-l)
def View.of (w:View) (n:Nat) (lo hi:Option Nat):View:=
 match lo,hi with
 |none,none=>w
 |some l,none=>(match w with | .full=>.from l | .from a=>.from (a+l) | .sub a m=>.sub (a+l) (m-l))
 |none,some h=>.sub w.lo h
 |some l,some h=>.sub (w.lo+l) (h-l)
def yO (T:pA) (st:St) (d:Option Nat) (t:Nat) (x:V) (lo hi:Option V):N:=
 match x with
 |.one (.str s)=>match T.kind t with
  |some .str=>sr s.size lo hi fun l h=>
   .done (bW st d (.one (.str (s.extract (l.getD 0) (h.getD s.size)))))
  |_=>.fail
 |.one .gJ=>match T.elem t with
  |some _=>sr 0 lo hi fun _ _=>.done (bW st d (.one .gJ))
  |none=>.fail
 |.one (.shr r xs)=>match T.elem t with
  |some (q,_)=>match ek q xs with
   |some ys=>sr ys.length lo hi fun l h=>.done (bW st d (.one (.shr q ((Qo ys.length l h).app ys))))
   |none=>.fail
  |none=>.fail
 |.one (.ref a j g w)=>match T.elem t,cT st a j g with
  |some (q,_),some A=>match ek q A.xs with
   |some ys=>sr (w.app ys).length lo hi fun l h=>.done (bW st d (.one (.ref a j g (w.of (w.app ys).length l h))))
   |none=>.fail
  |_,_=>.fail
 |_=>.fail
def Ms (T:pA) (st:St) (d:Option Nat) (t:Nat) (x:V):N:=
 match x with
 |.one (.str s)=>match T.kind t with
  |some .str=>.done (bW st d (.one (.int .i64 s.size)))
  |_=>.fail
 |.one .gJ=>match T.elem t with
  |some _=>.done (bW st d (.one (.int .i64 0)))
  |none=>.fail
 |.one (.shr _ xs)=>match T.elem t with
  |some _=>.done (bW st d (.one (.int .i64 xs.length)))
  |none=>.fail
 |.one (.ref a j g w)=>match T.elem t,cT st a j g with
  |some _,some A=>.done (bW st d (.one (.int .i64 (w.app A.xs).length)))
  |_,_=>.fail
 |_=>.fail
def Mt (T:pA) (st:St) (d:Option Nat) (t:Nat) (x y:V):N:=
 match T.elem t with
 |none=>.fail
 |some (r,bytes)=>
  let out (xs:List (aO r)) (used:List (Nat×Nat)):N:=
   match y with
   |.one c=>pW st r c fun ys=>
     .br (Nat.ble ((xs.length+ys.length)*bytes) lim)
      (gK (used.foldl (fun s p=>fo s p.1 p.2 none) st) d { r:=r,own:=true,xs:=xs++ys }) .fail
   |_=>.fail
  match x with
  |.one .gJ=>out [] []
  |.one (.ref a j g w)=>match cT st a j g with
   |some A=>bif A.own then (match ek r A.xs with | some xs=>out (w.app xs) [(a,j)] | none=>.fail) else .fail
   |none=>.fail
  |_=>.fail
def Qp (T:pA) (st:St) (t:Nat) (x:V):N:=
 match T.elem t with
 |none=>.fail
 |some (r,_)=>
  match x with
  |.one .gJ=>.done st
  |.one (.ref a j g (.from k))=>match cT st a j g with
   |some A=>bif A.own&&(A.md.is .sh && !A.r.qq) then (match ek r A.xs with
    |some _=>.br (Nat.blt 0 (A.xs.length-k)) (.done (fo st a j (some (A.put (A.xs.take k++List.replicate (A.xs.length-k) (xj A.r)))))) (.done st)
    |none=>.fail) else .fail
   |none=>.fail
  |_=>.fail
def Wz (T:pA) (st:St) (d:Option Nat) (t:Nat) (len cap:V):N:=
 match T.elem t,len,cap with
 |some (r,bytes),.one (.int .i64 n),.one (.int .i64 c)=>
  .br (decide (n=c)) (.br (decide (0≤n)) (.br (Nat.ble (n.toNat*bytes) lim)
   (gK st d { r:=r,own:=true,xs:=List.replicate n.toNat (xj r),md:=.sh }) .fail) .fail) .fail
 |_,_,_=>.fail
def Cj (st:St) (r:RT):(i:Nat)→List (Nat×V)→(k:List (aO r)→List (Nat×Nat)→N)→N
 |_,[],k=>k [] []
 |i,(p,v)::l,k=>bif v.AD&&Nat.beq p i then rowOf st r v.cells fun x m=>Cj st r (i+1) l fun xs m'=>k (x::xs) (m++m') else .fail
def Bk (T:pA) (st:St) (d:Option Nat) (t len:Nat) (parts:List (Nat×V)):N:=
 match T.elem t with
 |some (r,_)=>bif Nat.beq parts.length len&&Nat.ble (len*r.width) 16777216 then
   Cj st r 0 parts fun xs m=>gK (freeze st m) d { r:=r,own:=true,xs:=xs }
  else .fail
 |none=>.fail
def ss (T:pA) (t:Nat) (cs:List CV):List (Nat×V)→Option (List CV)
 | []=>some cs
 |(f,v)::l=>match T.off t f,T.fsz t f with
  |some o,some s=>bif v.AD&&Nat.beq v.cells.length s then (match putCells cs o v.cells with
   |some s7=>ss T t s7 l
   |none=>none) else none
  |_,_=>none
def View.isFull:View→Bool
 |.full=>true
 |_=>false
def lK (st:St) (own:Bool):CV→Option (OV×Option Lb×List (Nat×Nat))
 |.int q n=>some (.int q n,none,[])
 |.bool b=>some (.bool b,none,[])
 |.str s=>some (.str s,none,[])
 |.gJ=>some (.gJ,none,[])
 |.shr r xs=>some (.shr r xs,none,[])
 |.nn r xs=>some (.shr r xs,none,[])
 |.ref a j g w=>match cT st a j g with
  |some A=>bif A.md.Qd then none else bif own&&A.own&&(A.md.is .sh||w.isFull) then some (.own { A with xs:=w.app A.xs },some (.sp a j),[]) else some (.shr A.r (w.app A.xs),none,[(a,j)])
  |none=>none
 |.oe r x off=>bif Nat.beq off 0 then some (.oe r [x],none,[]) else none
 |.yc r xs off=>bif Nat.beq off 0 then some (.oe r xs,none,[]) else none
 |.fn f rs xs=>some (.fn f rs xs,none,[])
 |_=>none
def jJ (st:St) (own:Bool):List CV→Option (List OV×List (Option Lb)×List (Nat×Nat))
 | []=>some ([],[],[])
 |c::l=>match lK st own c,jJ st own l with
  |some (o,u,r),some (os,us,rs)=>some (o::os,u::us,r++rs)
  |_,_=>none
def dS:List (Option Lb)→List Lb
 | []=>[]
 |some l::ls=>l::dS ls
 |none::ls=>dS ls
def Pm.sg:Pm→Bool
 |.own=>true
 |_=>false
def WA (st:St):CV→Bool
 |.ref a j g w=>(match w with | .full=>true | _=>false)&&(match cT st a j g with | some A=>A.own | none=>false)
 |_=>true
def j5 (st:St) (m:Pm):V→Option (AV×List Lb×List Lb×List (Nat×Nat))
 |.one (.ptr b g off)=>match gi st b g with
  |some cs=>(match jJ st true cs with
   |some (os,u,r)=>bif Nat.beq off 0 then some (.box os,.box b::dS u,dS u,r) else none
   |none=>none)
  |none=>none
 |.one (.ref a j g w)=>match m with
  |.io=>(match w,cT st a j g with
   |.full,some A=>bif A.own && !A.md.Qd then some (.io A,[.sp a j],[],[]) else none
   |_,_=>none)
  |m=>match jJ st m.sg [.ref a j g w] with
   |some (os,u,r)=>some (.val false os,dS u,dS u,r)
   |none=>none
 |.one c=>match jJ st false [c] with
  |some (os,u,r)=>some (.val false os,dS u,dS u,r)
  |none=>none
 |.agg cs=>match m with
  |.dX=>(match jJ st true cs with
   |some (os,u,r)=>bif cs.all (WA st) then some (.dX os,dS u,[],r) else none
   |none=>none)
  |m=>match jJ st m.sg cs with
   |some (os,u,r)=>some (.val true os,dS u,dS u,r)
   |none=>none
 |.rb _=>none
def pK (st:St):List (Pm×V)→Option (List AV×List Lb×List Lb×List (Nat×Nat))
 | []=>some ([],[],[],[])
 |(m,v)::l=>match j5 st m v,pK st l with
  |some (a,u,q,r),some (as,us,qs,rs)=>some (a::as,u++us,q++qs,r++rs)
  |_,_=>none
def yP:List Lb→Bool
 | []=>true
 |x::l=>l.all (fun y => !(Lb.same x y))&&yP l
def apart (used:List Lb) (reads:List (Nat×Nat)):Bool:=
 reads.all fun p=>used.all fun q => !(Lb.same q (.sp p.1 p.2))
def s8 (st:St):List Lb→St
 | []=>st
 |.sp a j::l=>s8 (fo st a j none) l
 |_::l=>s8 st l
def OV.plain:OV→Bool
 |.own A => !A.r.qq
 |.shr _ _=>false
 |.oe _ _=>false
 |.fn _ _ _=>false
 |_=>true
def XV.plain:XV→Bool
 |.io A => !A.r.qq
 |.box os=>os.all OV.plain
 |.dX As=>As.all fun | some A => !A.r.qq | none=>true
def Res.plain (r:Res):Bool:=
 r.outs.all (fun o=>o.Bi.all OV.plain)&&r.exts.all XV.plain
def HG (st:St):(j:Nat)→List CV→List (Option nY)→Option St
 |_,[],_=>some st
 |j,.ref a k g _::cs,As=>match nth As j,cT st a k g with
  |some (some B),some _=>HG (fo st a k (some B)) (j+1) cs As
  |_,_=>none
 |j,_::cs,As=>HG st (j+1) cs As
def xk (st:St) (m:Pm) (v:V) (xs:List XV):Option (St×List XV):=
 match v with
 |.one (.ptr b g _)=>match xs with
  |.box os::xs=>(match nth st b,gi st b g with
   |some s0,some _=>some (tS (fun s=>{ s with box:=some (ch b (s0.ag+1) 0 os),ca:=cD os,ag:=s0.ag+1 }) st b,xs)
   |_,_=>none)
  |_=>none
 |.one (.ref a j g _)=>match m with
  |.io=>(match xs,cT st a j g with
   |.io A::xs,some _=>some (fo st a j (some A),xs)
   |_,_=>none)
  |_=>some (st,xs)
 |.agg cs=>match m with
  |.dX=>(match xs with
   |.dX As::xs=>(HG st 0 cs As).map fun bV=>(bV,xs)
   |_=>none)
  |_=>some (st,xs)
 |_=>some (st,xs)
def yQ (st:St):List (Pm×V)→List XV→Option St
 | [],[]=>some st
 | [],_=>none
 |(m,v)::l,xs=>match xk st m v xs with
  |some (bV,xs')=>yQ bV l xs'
  |none=>none
def D4 (a b c:Pm):List V→List (Pm×V)
 | []=>[]
 | [x]=>[(a,x)]
 | [x,y]=>[(a,x),(b,y)]
 |x::y::z::l=>(a,x)::(b,y)::(c,z)::l.map fun v=>(.shr,v)
def refsOf:List CV→List (Nat×Nat)
 | []=>[]
 |.ref a j _ _::l=>(a,j)::refsOf l
 |_::l=>refsOf l
def Kf (st:St):List (Pm×V)→List (Nat×Nat)
 | []=>[]
 |(.own,.one (.ptr b g _))::l=>(match gi st b g with | some cs=>refsOf cs | none=>[])++Kf st l
 |(.pick q,.one (.ptr b g _))::l=>(match gi st b g with | some cs=>refsOf (q.filterMap (nth cs)) | none=>[])++Kf st l
 |_::l=>Kf st l
def rf (u:List Lb) (a:Nat):Bool:=u.any fun | .sp b _=>Nat.beq b a | _=>false
def uS (u:List Lb):Nat→St→St
 |_,[]=>[]
 |a,s::l=>(bif rf u a then { s with ep:=s.ep+1 } else s)::uS u (a+1) l
def WB (st:St) (d:Option Nat) (Hc:AS) (ms:List (Pm×V)) (fin:St→N):N:=
  match pK st ms with
  |some (gq,used,ajy,reads)=>bif yP used&&apart used reads then (match Hc gq with
   |some A=>.row A.r A.o fun x=>(match yQ (s8 (uS used 0 (bif (A.res x).plain then st else freeze st reads)) ajy) ms (A.res x).exts with
    |some bV=>(match Bj bV d (A.res x).outs with
     |some acR=>fin acR
     |none=>.fail)
    |none=>.fail)
   |none=>.fail) else .fail
  |none=>.fail
def abL (st:St) (d:Option Nat) (Hc:AS) (ms:List (Pm×V)):N:=WB st d Hc ms .done
def Gq (st:St):CV→CV
 |.ref a j g .full=>match cT st a j g with
  |some A=>bif A.own then .ref a j g .full else bif A.md.is .sh then .shr A.r A.xs else .ref a j g .full
  |none=>.ref a j g .full
 |x=>x
def WC (st:St):V→V
 |.one x=>.one (Gq st x)
 |.agg cs=>.agg (cs.map (Gq st))
 |x=>x
def abM (st:St) (s:Sl):Sl:={ s with v:=WC st s.v,box:=s.box.map fun cs=>cs.map (Gq st) }
def yR (st:St):St:=st.map (abM st)
def Pm.WD:Pm→Bool
 |.pick _=>true
 |_=>false
def HH (ms:List (Pm×V)) (st:St):St:=bif ms.any (fun m=>m.1.WD) then yR st else st
def KX (S:nF) (st:St) (d:Option Nat) (f:FuncId) (args:List V):N:=
 match S f with
 |none=>.fail
 |some (a,b,c,Hc)=>abL (HH (D4 a b c args) (freeze st (Kf st (D4 a b c args)))) d Hc (D4 a b c args)
def gz:List CV→Option ((r:RT)×aO r)
 | []=>some ⟨.nil,()⟩
 |.int k n::l=>match gz l with | some ⟨r,x⟩=>some ⟨.cons (.int k) r,(n,x)⟩ | none=>none
 |.bool b::l=>match gz l with | some ⟨r,x⟩=>some ⟨.cons .bool r,(b,x)⟩ | none=>none
 |.str s::l=>match gz l with | some ⟨r,x⟩=>some ⟨.cons .str r,(s,x)⟩ | none=>none
 |.shr q xs::l=>match gz l with | some ⟨r,x⟩=>some ⟨.cons (.sl q) r,(xs,x)⟩ | none=>none
 |_=>none
def ja (st:St) (b:Nat):St:=tS (fun s=>{ s with box:=none }) st b
def rnV (b g:Nat) (r:RT) (x:aO r):V→V
 |.one (.ptr b' g' off)=>bif Nat.beq b' b&&Nat.beq g' g then .one (.oe r x off) else .one (.ptr b' g' off)
 |v=>v
def rh (st:St) (b g:Nat) (r:RT) (x:aO r):St:=st.map fun s=>{ s with v:=rnV b g r x s.v }
def aaf (st:St) (t:Nat):Option (St×((r:RT)×List (aO r))):=
 match dR st t with
 |.one (.oe r x off)=>bif Nat.beq off 0 then some (st,⟨r,[x]⟩) else none
 |.one (.yc r xs off)=>bif Nat.beq off 0 then some (st,⟨r,xs⟩) else none
 |.one (.ptr b g off)=>match gi st b g with
  |some cs=>bif Nat.beq off 0 then (match gz cs with
   |some ⟨r,x⟩=>some (rh (ja st b) b g r x,⟨r,[x]⟩)
   |none=>none) else none
  |none=>none
 |_=>none
def CX (st:St):List Operand→Option (St×((rs:RT)×aO rs))
 | []=>some (st,⟨.nil,()⟩)
 |.tmp t::l=>match aaf st t with
  |some (bV,⟨r,ys⟩)=>(match CX bV l with
   |some (acR,⟨rs,xs⟩)=>some (acR,⟨.cons (.sl r) rs,(ys,xs)⟩)
   |none=>none)
  |none=>none
 |_=>none
def AF:(rs:RT)→aO rs→List V
 |.nil,_=>[]
 |.cons (.sl r) rs,x=>.one (.yc r x.1 0)::AF rs x.2
 |.cons _ rs,x=>.one .bad::AF rs x.2
def Sm (y:aO (.cons (.int .u8) .nil)):Int:=y.1
def bytesOf (ys:List (aO (.cons (.int .u8) .nil))):ByteArray:=ys.foldl (fun r y=>r.push (UInt8.ofNat (Sm y).toNat)) ByteArray.empty
def Sn (T:pA) (S:nF) (st:St) (o:Oper):N:=
 match o.op with
 |.move x | .assign x=>.done (bW st o.dst (qM st x))
 |.pick c a b=>match qM st c with
  |.one (.bool x)=>.br x (.done (bW st o.dst (qM st a))) (.done (bW st o.dst (qM st b)))
  |_=>.fail
 |.alloc t=>match T.row t with
  |some r=>lh st o.dst (sq r)
  |none=>.fail
 |.box t x=>match T.cells t with
  |some n=>bif (qM st x).AD&&Nat.beq (qM st x).cells.length n then (match (bif T.cap t then gz (qM st x).cells else none) with
   |some ⟨r,y⟩=>.done (bW st o.dst (.one (.oe r y 0)))
   |none=>lh st o.dst (qM st x).cells) else .fail
  |none=>.fail
 |.build t parts=>match T.row t,T.agg t with
  |some r,true=>(match ss T t (sq r) (parts.toList.map fun p=>(p.1,qM st p.2)) with
   |some cs=>.done (bW st o.dst (.agg cs))
   |none=>.fail)
  |_,_=>.fail
 |.buildSlice t len parts=>Bk T st o.dst t len (parts.toList.map fun p=>(p.1,qM st p.2))
 |.load t a=>AE T st o.dst t (qM st a)
 |.store t a v=>(match o.dst with
  |none=>xK T st t (qM st a) (qM st v)
  |some _=>.fail)
 |.nilCheck x=>match qM st x with
  |.one (.ptr b g off)=>(match gi st b g with
   |some _=>.done (bW st o.dst (.one (.ptr b g off)))
   |none=>.fail)
  |.one (.N1 a j g i off)=>(match cT st a j g with
   |some _=>.done (bW st o.dst (.one (.N1 a j g i off)))
   |none=>.fail)
  |_=>.fail
 |.binOp op t x y _=>AT T st o.dst op t (qM st x) (qM st y)
 |.unOp .not _ x=>match qM st x with
  |.one (.bool b)=>.done (bW st o.dst (.one (.bool (!b))))
  |_=>.fail
 |.convert s t x=>match T.kind s,T.kind t,qM st x with
  |some (.int _),some (.int k),.one (.int _ n)=>.done (bW st o.dst (.one (.int k (k.wrap n))))
  |some .str,some .str,.one (.str b)=>.done (bW st o.dst (.one (.str b)))
  |none,some .str,.one c=>(match T.elem s with
   |some (.cons (.int .u8) .nil,_)=>pW st (.cons (.int .u8) .nil) c fun ys=>.done (bW st o.dst (.one (.str (bytesOf ys))))
   |_=>.fail)
  |_,_,_=>.fail
 |.makeSlice t l c=>Wz T st o.dst t (qM st l) (qM st c)
 |.slice t x lo hi none=>yO T st o.dst t (qM st x) (lo.map (qM st)) (hi.map (qM st))
 |.fieldAddr t x f=>match qM st x,T.off t f with
  |.one (.ptr b g off),some k=>(match gi st b g with
   |some _=>.done (bW st o.dst (.one (.ptr b g (off+k))))
   |none=>.fail)
  |.one (.N1 a j g i off),some k=>(match cT st a j g with
   |some _=>.done (bW st o.dst (.one (.N1 a j g i (off+k))))
   |none=>.fail)
  |.one (.oe r x off),some k=>.done (bW st o.dst (.one (.oe r x (off+k))))
  |.one (.yc r xs off),some k=>.done (bW st o.dst (.one (.yc r xs (off+k))))
  |_,_=>.fail
 |.field t x f=>match qM st x,T.off t f with
  |.agg cs,some k=>bif T.one t f then (match nth cs k with
   |some c=>.done (bW st o.dst (.one c))
   |none=>.fail) else .fail
  |_,_=>.fail
 |.indexAddr t x i=>tT T st o.dst t (qM st x) (qM st i)
 |.index t x i=>match T.kind t,qM st x,qM st i with
  |some .str,.one (.str s),.one (.int _ n)=>.br (decide (0≤n)) (.br (decide (n<s.size)) (.done (bW st o.dst (.one (.int .u8 (Mr s n))))) .fail) .fail
  |_,_,_=>.fail
 |.extract t i=>match qM st t with
  |.rb vs=>match nth vs i with
   |some v=>.done (bW st o.dst v)
   |none=>.fail
  |_=>.fail
 |.call { callee:=.value (.func f),args:=args,argTypes:=_ }=>KX S st o.dst f (args.toList.map (qM st))
 |.call { callee:=.value (.tmp t),args:=args,argTypes:=_ }=>(match dR st t with
  |.one (.fn g rs xs)=>.row rs xs[0]? fun x=>KX S st o.dst g (args.toList.map (qM st)++AF rs x)
  |_=>.fail)
 |.makeFunc (.func g) first AU=>bif first.isEmpty then (match CX st AU.toList with
  |some (bV,⟨rs,x⟩)=>.done (bW bV o.dst (.one (.fn g rs [x])))
  |none=>.fail) else .fail
 |.call { callee:=.builtin b,args:=args,argTypes:=ts }=>match b,args.toList,ts.toList with
  |.len,[x],[t]=>Ms T st o.dst t (qM st x)
  |.append,[x,y],[t,u]=>bif Nat.beq t u then Mt T st o.dst t (qM st x) (qM st y) else .fail
  |.min,[x,y],_=>(match qM st x,qM st y with
   |.one (.int k a),.one (.int _ b)=>.done (bW st o.dst (.one (.int k (if b<a then b else a))))
   |_,_=>.fail)
  |.max,[x,y],_=>(match qM st x,qM st y with
   |.one (.int k a),.one (.int _ b)=>.done (bW st o.dst (.one (.int k (if b>a then b else a))))
   |_,_=>.fail)
  |.min,[x,y,z],_=>(match qM st x,qM st y,qM st z with
   |.one (.int k a),.one (.int _ b),.one (.int _ c)=>.done (bW st o.dst (.one (.int k (if c<(if b<a then b else a) then c else (if b<a then b else a)))))
   |_,_,_=>.fail)
  |.clear,[x],[t]=>(match o.dst with | none=>Qp T st t (qM st x) | some _=>.fail)
  |_,_,_=>.fail
 |_=>.fail
def Fs (T:pA) (S:nF) (ops:List Oper) (st:St) (o:Oper):N:=
 match o.guard with
 |none=>Sn T S st o
 |some (j,want)=>match (nth ops j).bind (·.dst) with
  |some d=>match dR st d with
   |.one (.bool b)=>
    let yes (x:Bool):N:=Sn T S (bW st (some d) (.one (.bool x))) o
    let no (x:Bool):N:=.done (bW (bW st (some d) (.one (.bool x))) o.dst (.rb []))
    .br b (bif want then yes true else no true) (bif want then no false else yes false)
   |.rb []=>.done (bW st o.dst (.rb []))
   |_=>.fail
  |none=>.fail
inductive Ex where
 |normal
 |exit (n:Nat)
 |ret
open Classical in
noncomputable def both {R:Type} (a b:Option R):Option R:=if a=b then a else none
theorem dv {R:Type} (a:Option R):both a a=a:=by unfold both;rw [if_pos rfl]
theorem TH {R:Type} {a b:Option R} {r:R} (h:both a b=some r):a=some r∧b=some r:=by
 unfold both at h
 split at h
 ·rename_i e;exact ⟨h,e▸h⟩
 ·cases h
section
variable {R:Type} (T:pA) (S:nF)
def aag (ops:List Oper):List Oper→St→(St→Option R)→Option R
 | [],st,k=>k st
 |o::r,st,k=>(Fs T S ops st o).fold fun bV=>aag ops r bV k
inductive Kd where
 |any | take | one | last
inductive Pl where
 |nil
 |op (i:Nat) (kd:Kd) (p:Pl)
 |alt (p q:Pl)
def Qq (st:St) (ms:List (Pm×V)):Bool:=
 match pK st ms with
  |some (_,used,_,_)=>used.isEmpty
  |none=>true
def vD (S:nF) (st:St) (f:FuncId) (args:List V):Bool:=
 match S f with
 |some (a,b,c,_)=>Qq (HH (D4 a b c args) (freeze st (Kf st (D4 a b c args)))) (D4 a b c args)
 |none=>true
def kindOk (S:nF) (st:St) (o:Oper):Kd→Bool
 |.any=>match o.op with
  |.move _ | .assign _ | .pick _ _ _ | .nilCheck _ | .binOp _ _ _ _ _ | .unOp _ _ _ | .slice _ _ _ _ _ | .fieldAddr _ _ _ | .indexAddr _ _ _ | .index _ _ _ | .extract _ _ | .build _ _ | .field _ _ _=>true
  |.convert _ _ x=>(match qM st x with | .one (.shr _ _)=>false | .one (.nn _ _)=>false | .one (.ref _ _ _ _)=>false | .one .gJ=>false | _=>true)
  |.call { callee:=.builtin b,.. }=>(match b with | .len | .min | .max=>true | _=>false)
  |_=>false
 |.take=>match o.op with
  |.load _ _=>true
  |_=>false
 |.one=>match o.op with
  |.store _ _ _=>false
  |.call { callee:=.builtin b,.. }=>(match b with | .len | .min | .max=>true | _=>false)
  |.call { callee:=.value (.func f),args:=args,.. }=>vD S st f (args.toList.map (qM st))
  |.call { callee:=.value (.tmp t),args:=args,.. }=>(match dR st t with
   |.one (.fn g rs xs)=>(match xs[0]? with | some x=>vD S st g (args.toList.map (qM st)++AF rs x) | none=>true)
   |_=>true)
  |_=>true
 |.last=>true
noncomputable def xL (ops:List Oper):Pl→St→(St→Option R)→Option R
 |.nil,st,k=>k st
 |.op i kd r,st,k=>match nth ops i with
  |some o=>bif kindOk S st o kd then (Fs T S ops st o).fold fun bV=>xL ops r bV k else none
  |none=>none
 |.alt p q,st,k=>both (xL ops p st k) (xL ops q st k)
abbrev qN (R:Type):=Nat→Code→St→(Ex→St→Option R)→Option R
abbrev nO:=Nat→Pl
noncomputable def ib (D:nO) (L:qN R):Code→St→(Ex→St→Option R)→Option R
 |.skip,st,k=>k .normal st
 |.region _ ops false,st,k=>aag T S ops.toList ops.toList st fun bV=>k .normal bV
 |.region id ops true,st,k=>xL T S ops.toList (D id) st fun bV=>k .normal bV
 |.seq a b,st,k=>ib D L a st fun e bV=>match e with
  |.normal=>ib D L b bV k
  |e=>k e bV
 |.cond (.tmp c) a b,st,k=>match dR st c with
  |.one (.bool x)=>bif x then ib D L a (bW st (some c) (.one (.bool true))) k else ib D L b (bW st (some c) (.one (.bool false))) k
  |_=>none
 |.block id (.loop b),st,k=>L id b st k
 |.block id b,st,k=>ib D L b st fun e bV=>match e with
  |.exit n=>bif Nat.beq n id then k .normal bV else k (.exit n) bV
  |e=>k e bV
 |.exit id,st,k=>k (.exit id) st
 |.ret,st,k=>k .ret st
 |_,_,_=>none
end
end Go.TM
namespace Go.TM
open Go Go.RowKit
@[simp] theorem aow {α:Type} (n:Nat):nth ([]:List α) n=none:=rfl
theorem og {α:Type} (l:List α) (n:Nat):nth l n=l[n]?:=by
 induction l generalizing n with
 |nil=>simp
 |cons x l ih=>cases n<;>simp [nth,ih]
theorem ri {α:Type} (f:α→α) (l:List α) (n:Nat):nth (tS f l n) n=(nth l n).map f:=by
 induction l generalizing n with
 |nil=>rfl
 |cons x l ih=>cases n<;>simp [tS,nth,ih]
theorem vU {α:Type} (f:α→α) (l:List α) {n m:Nat} (h:m≠n):nth (tS f l n) m=nth l m:=by
 induction l generalizing n m with
 |nil=>rfl
 |cons x l ih=>
  cases n with
  |zero=>cases m with
   |zero=>exact absurd rfl h
   |succ m=>rfl
  |succ n=>cases m with
   |zero=>rfl
   |succ m=>simp only [tS,nth];exact ih (by omega)
theorem lG {α:Type} (f:α→α) (l:List α) (n m:Nat):nth (tS f l n) m=if m=n then (nth l m).map f else nth l m:=by
 by_cases h:m=n
 ·subst h;simp [ri]
 ·simp [h,vU f l h]
theorem WE {α:Type} {l:List α} {n:Nat} {x:α} (h:nth l n=some x):n<l.length:=by
 rw [og] at h;exact (List.getElem?_eq_some_iff.1 h).1
def asL {r:RT} (xs:den (.sl r)):List (aO r):=xs
mutual
def eD (w:World) (ok:Nat→Prop):(t:Ty)→Value→den t→Prop
 |.int k,v,n=>v=.int k n
 |.bool,v,b=>v=.bool b
 |.str,v,s=>v=.string s
 |.sl r,v,xs=>(v=.slice none 0 0∧asL xs=[])∨
   ∃a cap,v=.slice (some a) (asL xs).length cap∧(asL xs).length≤cap∧
    (asL xs≠[]→a.spot=none∧a.block<w.heap.size∧ok a.block)∧
    ∀i x,(asL xs)[i]?=some x→fP w ok r a.block (a.off+i*r.width) x
def fP (w:World) (ok:Nat→Prop):(r:RT)→(b off:Nat)→aO r→Prop
 |.nil,_,_,_=>True
 |.cons t r,b,off,x=>(∃v,w.cell? ⟨b,off,none⟩=some v∧eD w ok t v x.1)∧fP w ok r b (off+1) x.2
end
theorem si (w:World) (ok:Nat→Prop) (r:RT) (v:Value) (xs:List (aO r)):eD w ok (.sl r) v xs↔
  ((v=.slice none 0 0∧xs=[])∨∃a cap,v=.slice (some a) xs.length cap∧xs.length≤cap∧
    (xs≠[]→a.spot=none∧a.block<w.heap.size∧ok a.block)∧∀i x,xs[i]?=some x→fP w ok r a.block (a.off+i*r.width) x):=by
 have:=eD.eq_4 w ok v r xs;exact this▸Iff.rfl
theorem yS {w:World} {ok:Nat→Prop} {k:IntKind} {v:Value} {n:Int}:eD w ok (.int k) v n↔v=.int k n:=eD.eq_1 w ok v k n▸Iff.rfl
theorem Ck {w:World} {ok:Nat→Prop} {v:Value} {b:Bool}:eD w ok .bool v b↔v=.bool b:=eD.eq_2 w ok v b▸Iff.rfl
theorem Ft {w:World} {ok:Nat→Prop} {v:Value} {s:ByteArray}:eD w ok .str v s↔v=.string s:=eD.eq_3 w ok v s▸Iff.rfl
structure lL (w w':World) (ok D5:Nat→Prop):Prop where
 size:w.heap.size≤w'.heap.size
 block:∀b,b<w.heap.size→ok b→w'.heap[b]?=w.heap[b]?
 ok:∀b,b<w.heap.size→ok b→D5 b
theorem Sp {w:World} {a:Addr} {v:Value} (h:w.cell? a=some v):a.block<w.heap.size:=World.block_lt_of_cell? w a h
mutual
theorem eD.stays {w w':World} {ok D5:Nat→Prop} (h:lL w w' ok D5):(t:Ty)→(v:Value)→(x:den t)→eD w ok t v x→eD w' D5 t v x
 |.int _,_,_,hr=>by unfold eD at hr ⊢;exact hr
 |.bool,_,_,hr=>by unfold eD at hr ⊢;exact hr
 |.str,_,_,hr=>by unfold eD at hr ⊢;exact hr
 |.sl r,v,xs,hr=>by
  unfold eD at hr ⊢;rcases hr with hr | ⟨a,cap,hv,hc,ha,hx⟩
  ·exact .inl hr
  ·refine .inr ⟨a,cap,hv,hc,fun mn => ?_,fun i x hi => ?_⟩
   ·obtain ⟨hs,hb,je⟩:=ha mn;exact ⟨hs,Nat.lt_of_lt_of_le hb h.size,h.ok _ hb je⟩
   ·have mn:asL xs≠[]:=by intro e;rw [e] at hi;simp at hi
    obtain ⟨hs,hb,je⟩:=ha mn;exact fP.stays h r _ _ x (h.block _ hb je) (hx i x hi)
theorem fP.stays {w w':World} {ok D5:Nat→Prop} (h:lL w w' ok D5):(r:RT)→(b off:Nat)→(x:aO r)→w'.heap[b]?=w.heap[b]?→fP w ok r b off x→fP w' D5 r b off x
 |.nil,_,_,_,_,_=>by unfold fP;trivial
 |.cons t r,b,off,x,je,hr=>by
  unfold fP at hr ⊢;obtain ⟨⟨v,hv,hx⟩,hr⟩:=hr;refine ⟨⟨v,?_,eD.stays h t v x.1 hx⟩,fP.stays h r b (off+1) x.2 je hr⟩;rw [World.cell?_of_block (w:=w) je];exact hv
end
inductive Loc where
 |nil
 |at (b off cap:Nat)
structure Cz where
 bx:Nat→Nat
 lc:Nat→Nat→Loc
 own:Nat→Option Lb
def Cz.ok (c:Cz) (b:Nat):Prop:=c.own b=none
def km (st:St) (s:Nat):Nat:=match nth st s with | some x=>x.bg | none=>0
def hU (st:St) (s:Nat):Nat:=match nth st s with | some x=>x.ag | none=>0
def pX (l:Loc) (W lo n:Nat) (v:Value):Prop:=
 match l with
 |.nil=>v=.slice none 0 0∧n=0
 |.at b off cap=>∃a c,v=.slice (some a) n c∧n≤c∧lo+c≤cap∧(c≠0→a=⟨b,off+lo*W,none⟩)
def dY (c:Cz) (w:World) (l:Lb) (A:nY) (b off:Nat):Prop:=
 match A.md with
 |.sh=>∀(i:Nat) x,A.xs[i]?=some x→fP w c.ok A.r b (off+i*A.r.width) x
theorem dY.go {c c':Cz} {w w':World} {l l':Lb} {A:nY} {b off:Nat} (h:dY c w l A b off) (hs:A.md=.sh→lL w w' c.ok c'.ok) (hb:w'.heap[b]?=w.heap[b]?)
  (hd:A.md≠.sh→∀k,c.own k=some l→w'.heap[k]?=w.heap[k]?∧c'.own k=some l'):dY c' w' l' A b off:=by
 unfold dY at h ⊢
 cases hm:A.md with
 |sh=>rw [hm] at h;exact fun i x hx=>fP.stays (hs hm) _ _ _ _ hb (h i x hx)
theorem dY.sh {c:Cz} {w:World} {l:Lb} {A:nY} {b off:Nat} (hm:A.md=.sh):dY c w l A b off↔∀(i:Nat) x,A.xs[i]?=some x→fP w c.ok A.r b (off+i*A.r.width) x:=by
 unfold dY;rw [hm]
def KY (w:World) (ok:Nat→Prop) (r:RT) (v:Value) (xs:List (aO r)):Prop:=
 ∃b o,v=.pointer (some ⟨b,o,none⟩)∧b<w.heap.size∧ok b∧∀x,xs[0]?=some x→fP w ok r b o x
def yT (w:World) (ok:Nat→Prop):(rs:RT)→List Value→aO rs→Prop
 |.nil,vs,_=>vs=[]
 |.cons (.sl r) rs,vs,x=>∃v l,vs=v::l∧KY w ok r v (asL x.1)∧yT w ok rs l x.2
 |.cons _ _,_,_=>False
def FnAt (w:World) (ok:Nat→Prop) (g:Nat) (rs:RT) (v:Value) (xs:List (aO rs)):Prop:=
 ∃AU,v=.func (.func g) #[] AU∧∀x,xs[0]?=some x→yT w ok rs AU.toList x
theorem KY.stays {w w':World} {ok D5:Nat→Prop} (h:lL w w' ok D5) {r:RT} {v:Value} {xs:List (aO r)} (hp:KY w ok r v xs):KY w' D5 r v xs:=by
 obtain ⟨b,o,h1,h2,h3,h4⟩:=hp;exact ⟨b,o,h1,Nat.lt_of_lt_of_le h2 h.size,h.ok b h2 h3,fun x hx=>fP.stays h r b o x (h.block b h2 h3) (h4 x hx)⟩
theorem yT.stays {w w':World} {ok D5:Nat→Prop} (h:lL w w' ok D5):(rs:RT)→(vs:List Value)→(x:aO rs)→yT w ok rs vs x→yT w' D5 rs vs x
 |.nil,_,_,hc=>hc
 |.cons (.sl r) rs,vs,x,hc=>by
  obtain ⟨v,l,h1,h2,h3⟩:=hc;exact ⟨v,l,h1,h2.stays h,yT.stays h rs l x.2 h3⟩
 |.cons (.int _) _,_,_,hc=>hc.elim
 |.cons .bool _,_,_,hc=>hc.elim
 |.cons .str _,_,_,hc=>hc.elim
theorem FnAt.stays {w w':World} {ok D5:Nat→Prop} (h:lL w w' ok D5) {g:Nat} {rs:RT} {v:Value} {xs:List (aO rs)} (hf:FnAt w ok g rs v xs):FnAt w' D5 g rs v xs:=by
 obtain ⟨AU,h1,h2⟩:=hf;exact ⟨AU,h1,fun x hx=>yT.stays h rs _ x (h2 x hx)⟩
def rj (c:Cz) (st:St) (w:World):CV→Value→Prop
 |.bad,_=>True
 |.int k n,v=>v=.int k n
 |.bool b,v=>v=.bool b
 |.str s,v=>v=.string s
 |.gJ,v=>v=.slice none 0 0
 |.Qk,v=>v=.pointer none
 |.shr r xs,v=>eD w c.ok (.sl r) v xs
 |.nn r xs,v=>eD w c.ok (.sl r) v xs∧v≠.slice none 0 0
 |.ref a j g vw,v=>v.oneCell'=true∧g≤hU st a∧∀A,cT st a j g=some A→pX (c.lc a j) A.r.width vw.lo (vw.app A.xs).length v
 |.ptr b g off,v=>v.oneCell'=true∧g≤km st b∧∀cs,gi st b g=some cs→v=.pointer (some ⟨c.bx b,off,none⟩)
 |.N1 a j g i off,v=>v.oneCell'=true∧g≤hU st a∧∀A,cT st a j g=some A→i<A.xs.length∧∃b o cap,c.lc a j=.at b o cap∧v=.pointer (some ⟨b,o+i*A.r.width+off,none⟩)
 |.oe r x off,v=>∃b o,v=.pointer (some ⟨b,o+off,none⟩)∧b<w.heap.size∧c.ok b∧fP w c.ok r b o x
 |.yc r xs off,v=>∃b o,v=.pointer (some ⟨b,o+off,none⟩)∧b<w.heap.size∧c.ok b∧∀x,xs[0]?=some x→fP w c.ok r b o x
 |.fn g rs xs,v=>FnAt w c.ok g rs v xs
def jf (c:Cz) (st:St) (w:World) (cs:List CV) (vs:List Value):Prop:=
 cs.length=vs.length∧∀(i:Nat) x v,cs[i]?=some x→vs[i]?=some v→rj c st w x v
def D6 (c:Cz) (st:St) (w:World):V→Value→Prop
 |.one x,v=>rj c st w x v
 |.agg cs,v=>∃vs,v=.agg vs∧jf c st w cs vs.toList
 |.rb _,_=>False
def iB (c:Cz) (st:St) (w:World):V→Value→Prop
 |.rb us,v=>∃vs,v=.tuple vs∧us.length=vs.size∧∀(i:Nat) x y,us[i]?=some x→vs[i]?=some y→D6 c st w x y
 |x,v=>D6 c st w x v
def Bl (c:Cz) (st:St) (w:World) (s:Nat) (cs:List CV):Prop:=
 c.own (c.bx s)=some (.box s)∧∃vs ty,w.heap[c.bx s]?=some (.cells vs ty (0,0))∧jf c st w cs vs.toList
def fQ (c:Cz) (w:World) (s j:Nat) (A:nY):Prop:=
 match c.lc s j with
 |.nil=>A.xs=[]
 |.at b off cap=>(match A.own with | true=>c.own b=some (.sp s j) | false=>c.own b=none)∧A.xs.length≤cap∧
   (∃cur ty,w.heap[b]?=some (.cells cur ty (0,0))∧off+cap*A.r.width≤cur.size)∧
   dY c w (.sp s j) A b off
inductive TI where
 |arr (a j g W n:Nat) (l:Loc)
 |box (b g sj:Nat)
def aai (c:Cz) (st:St):TI→Prop
 |.arr a j g W n l=>g≤hU st a∧∀A,cT st a j g=some A→A.r.width=W∧A.xs.length=n∧c.lc a j=l
 |.box b g sj=>g≤km st b∧∀cs,gi st b g=some cs→c.bx b=sj
structure Mu where
 m:Nat→Prop
 ok:Nat→Prop
 an:List TI
structure Rel (w0:World) (mu:Mu) (c:Cz) (st:St) (a:Act) (w:World):Prop where
 jy:∀t,iB c st w (dR st t) (a.eval (.tmp t))
 boxes:∀s sl cs,nth st s=some sl→sl.box=some cs→Bl c st w s cs
 ca:∀s j sl A,nth st s=some sl→nth sl.ca j=some (some A)→fQ c w s j A
 owned:∀b l,c.own b=some l→b<w.heap.size∧(l=.out∨w0.heap.size≤b∨mu.m b)
 free:∀b,b<w0.heap.size→c.own b=none→mu.m b∨mu.ok b
 kept:w.os=w0.os∧w.tape=w0.tape∧w.output=w0.output∧w0.heap.size≤w.heap.size
 old:∀k,k<w0.heap.size→¬mu.m k→w.heap[k]?=w0.heap[k]?
 plain:a.defers=[]
 iC:∀p∈mu.an,aai c st p
end Go.TM
namespace Go.TM
open Go Go.RowKit
theorem bM {α:Type} {b:Bool} {x:Option α} {y:α} (h:(bif b then x else none)=some y):b=true∧x=some y:=by
 cases b
 ·simp at h
 ·exact ⟨rfl,h⟩
theorem jK {b:Bool} {x:N} {y:St} (h:(bif b then x else N.fail).val=some y):b=true∧x.val=some y:=by
 cases b
 ·simp [N.val] at h
 ·exact ⟨rfl,h⟩
theorem dF {st:St} {a j g:Nat} {A:nY} (h:cT st a j g=some A):∃sl,nth st a=some sl∧sl.ag=g∧nth sl.ca j=some (some A):=by
 unfold cT at h
 cases hs:nth st a with
 |none=>simp [hs] at h
 |some sl=>
  simp only [hs] at h;obtain ⟨h1,h2⟩:=bM h;refine ⟨sl,rfl,Nat.eq_of_beq_eq_true h1,?_⟩
  cases hj:nth sl.ca j with
  |none=>simp [hj] at h2
  |some o=>cases o with
   |none=>simp [hj] at h2
   |some B=>simp [hj] at h2;rw [h2]
theorem ko {st:St} {b g:Nat} {cs:List CV} (h:gi st b g=some cs):∃sl,nth st b=some sl∧sl.bg=g∧sl.box=some cs:=by
 unfold gi at h
 cases hs:nth st b with
 |none=>simp [hs] at h
 |some sl=>
  simp only [hs] at h;obtain ⟨h1,h2⟩:=bM h;exact ⟨sl,rfl,Nat.eq_of_beq_eq_true h1,h2⟩
theorem View.Qr {r s:RT} (w:View) (xs:List (aO r)) (ys:List (aO s)) (h:xs.length=ys.length):(w.app xs).length=(w.app ys).length:=by
 cases w<;>simp [View.app,h]
structure Fw (c:Cz) (st:St) (w:World) (c':Cz) (bV:St) (w':World):Prop where
 stays:lL w w' c.ok c'.ok
 refs:∀a j g A',g≤hU st a→cT bV a j g=some A'→∃A,cT st a j g=some A∧A'.r.width=A.r.width∧A'.xs.length=A.xs.length∧c'.lc a j=c.lc a j∧
  (w9 bV a=w9 st a→A'=A∧∀b o cap,c.lc a j=.at b o cap→w'.heap[b]?=w.heap[b]?)
 HI:∀b g s7,g≤km st b→gi bV b g=some s7→(∃cs,gi st b g=some cs)∧c'.bx b=c.bx b
 gA:∀a,hU st a≤hU bV a
 gB:∀b,km st b≤km bV b
 gE:∀a,w9 st a≤w9 bV a
theorem Fw.aaj {c:Cz} {st:St} {w:World} {c':Cz} {bV:St} {w':World} (h:Fw c st w c' bV w') {x:CV} {v:Value} (hr:rj c st w x v):rj c' bV w' x v:=by
 cases x with
 |bad=>trivial
 |int k n=>exact hr
 |bool b=>exact hr
 |str s=>exact hr
 |gJ=>exact hr
 |Qk=>exact hr
 |shr r xs=>exact eD.stays h.stays _ _ _ hr
 |nn r xs=>exact ⟨eD.stays h.stays _ _ _ hr.1,hr.2⟩
 |ref a j g vw=>
  refine ⟨hr.1,Nat.le_trans hr.2.1 (h.gA a),fun A' iS => ?_⟩;obtain ⟨A,hA,hw,hl,nZ,_⟩:=h.refs a j g A' hr.2.1 iS;have:=hr.2.2 A hA;rw [nZ,hw,View.Qr vw A'.xs A.xs hl];exact this
 |ptr b g off=>
  refine ⟨hr.1,Nat.le_trans hr.2.1 (h.gB b),fun cs yL => ?_⟩;obtain ⟨⟨Wj,h0⟩,hb⟩:=h.HI b g cs hr.2.1 yL;rw [hb];exact hr.2.2 Wj h0
 |N1 a j g i off=>
  refine ⟨hr.1,Nat.le_trans hr.2.1 (h.gA a),fun A' iS => ?_⟩;obtain ⟨A,hA,hw,hl,nZ,_⟩:=h.refs a j g A' hr.2.1 iS;have:=hr.2.2 A hA;rw [nZ,hw,hl];exact this
 |oe r x off=>
  obtain ⟨b,o,hv,hb,je,hx⟩:=hr;exact ⟨b,o,hv,Nat.lt_of_lt_of_le hb h.stays.size,h.stays.ok b hb je,fP.stays h.stays r b o x (h.stays.block b hb je) hx⟩
 |yc r xs off=>
  obtain ⟨b,o,hv,hb,je,hx⟩:=hr;exact ⟨b,o,hv,Nat.lt_of_lt_of_le hb h.stays.size,h.stays.ok b hb je,fun x Sq=>fP.stays h.stays r b o x (h.stays.block b hb je) (hx x Sq)⟩
 |fn g rs xs=>exact FnAt.stays h.stays hr
theorem Fw.aak {c:Cz} {st:St} {w:World} {c':Cz} {bV:St} {w':World} (h:Fw c st w c' bV w') {cs:List CV} {vs:List Value} (hr:jf c st w cs vs):jf c' bV w' cs vs:=
 ⟨hr.1,fun i x v hx hv=>h.aaj (hr.2 i x v hx hv)⟩
theorem Fw.WG {c:Cz} {st:St} {w:World} {c':Cz} {bV:St} {w':World} (h:Fw c st w c' bV w') {x:V} {v:Value} (hr:D6 c st w x v):D6 c' bV w' x v:=by
 cases x with
 |one x=>exact h.aaj hr
 |agg cs=>obtain ⟨vs,hv,hl⟩:=hr;exact ⟨vs,hv,h.aak hl⟩
 |rb us=>exact hr
theorem Fw.vV {c:Cz} {st:St} {w:World} {c':Cz} {bV:St} {w':World} (h:Fw c st w c' bV w') {x:V} {v:Value} (hr:iB c st w x v):iB c' bV w' x v:=by
 cases x with
 |one x=>exact h.WG (x:=.one x) hr
 |agg cs=>exact h.WG (x:=.agg cs) hr
 |rb us=>
  obtain ⟨vs,hv,hl,he⟩:=hr;exact ⟨vs,hv,hl,fun i x y hx hy=>h.WG (he i x y hx hy)⟩
theorem Fw.iC {c:Cz} {st:St} {w:World} {c':Cz} {bV:St} {w':World} (h:Fw c st w c' bV w') {p:TI} (hp:aai c st p):aai c' bV p:=by
 cases p with
 |arr a j g W n l=>
  refine ⟨Nat.le_trans hp.1 (h.gA a),fun A' iS => ?_⟩;obtain ⟨A,hA,hw,hl,nZ,_⟩:=h.refs a j g A' hp.1 iS;obtain ⟨h1,h2,h3⟩:=hp.2 A hA;exact ⟨hw.trans h1,hl.trans h2,nZ.trans h3⟩
 |box b g sj=>
  refine ⟨Nat.le_trans hp.1 (h.gB b),fun cs yL => ?_⟩;obtain ⟨⟨Wj,h0⟩,hb⟩:=h.HI b g cs hp.1 yL;exact hb.trans (hp.2 Wj h0)
theorem fQ.go {c c':Cz} {w w':World} {s j:Nat} {A:nY} (h:fQ c w s j A) (hs:lL w w' c.ok c'.ok) (hl:c'.lc s j=c.lc s j)
  (hb:∀b,c.own b=some (.sp s j)→w'.heap[b]?=w.heap[b]?∧c'.own b=c.own b):fQ c' w' s j A:=by
 unfold fQ at h ⊢;rw [hl]
 cases hc:c.lc s j with
 |nil=>simpa [hc] using h
 |«at» b off cap=>
  rw [hc] at h;obtain ⟨h1,h2,⟨cur,ty,h3,h4⟩,h5⟩:=h;have dB:b<w.heap.size:=(Array.getElem?_eq_some_iff.1 h3).1;have hwo:w'.heap[b]?=w.heap[b]?∧c'.own b=c.own b:=by
   cases ho:A.own with
   |true=>rw [ho] at h1;exact hb b h1
   |false=>rw [ho] at h1;exact ⟨hs.block b dB h1,(hs.ok b dB h1:c'.own b=none).trans h1.symm⟩
  refine ⟨?_,h2,⟨cur,ty,by rw [hwo.1];exact h3,h4⟩,h5.go (fun _=>hs) hwo.1 (fun _ k hk=>⟨(hb k hk).1,(hb k hk).2.trans hk⟩)⟩;rw [hwo.2];exact h1
theorem Bl.go {c:Cz} {st:St} {w:World} {c':Cz} {bV:St} {w':World} (h:Fw c st w c' bV w') {s:Nat} {cs:List CV} (hb:Bl c st w s cs)
  (hx:c'.bx s=c.bx s) (ho:c'.own (c.bx s)=c.own (c.bx s)) (hw:w'.heap[c.bx s]?=w.heap[c.bx s]?):Bl c' bV w' s cs:=by
 obtain ⟨h1,vs,ty,h2,h3⟩:=hb;exact ⟨by rw [hx,ho];exact h1,vs,ty,by rw [hx,hw];exact h2,h.aak h3⟩
theorem TJ (st:St) (d:Option Nat) (v:V) (t:Nat):dR (bW st d v) t=if d=some t∧t<st.length then v else dR st t:=by
 cases d with
 |none=>simp [bW]
 |some u=>
  unfold dR bW;rw [lG]
  by_cases h:t=u
  ·subst h;simp only [if_true,true_and]
   by_cases hl:t<st.length
   ·have:nth st t=some st[t]:=by rw [og];exact List.getElem?_eq_getElem hl
    simp [this,hl]
   ·have:nth st t=none:=by rw [og];exact List.getElem?_eq_none (by omega)
    simp [this,hl]
  ·have:¬(some u=some t∧t<st.length):=by rintro ⟨e,_⟩;exact h (Option.some.inj e).symm
   rw [if_neg h,if_neg this]
theorem vW (st:St) (d:Option Nat) (v:V) (s:Nat):∃f:Sl→Sl,(∀x,(f x).box=x.box∧(f x).bg=x.bg∧(f x).ca=x.ca∧(f x).ag=x.ag∧(f x).ep=x.ep)∧nth (bW st d v) s=(nth st s).map f:=by
 cases d with
 |none=>exact ⟨id,fun _=>⟨rfl,rfl,rfl,rfl,rfl⟩,by simp [bW]⟩
 |some t=>
  unfold bW
  by_cases h:s=t
  ·subst h;exact ⟨fun x=>{ x with v:=v },fun _=>⟨rfl,rfl,rfl,rfl,rfl⟩,ri _ _ _⟩
  ·exact ⟨id,fun _=>⟨rfl,rfl,rfl,rfl,rfl⟩,by simp [vU _ _ h]⟩
theorem TL (st:St) (d:Option Nat) (v:V) (a j g:Nat):cT (bW st d v) a j g=cT st a j g:=by
 obtain ⟨f,hf,hn⟩:=vW st d v a;unfold cT;rw [hn]
 cases nth st a with
 |none=>rfl
 |some s=>obtain ⟨_,_,h3,h4,_⟩:=hf s;simp [h3,h4]
theorem TN (st:St) (d:Option Nat) (v:V) (b g:Nat):gi (bW st d v) b g=gi st b g:=by
 obtain ⟨f,hf,hn⟩:=vW st d v b;unfold gi;rw [hn]
 cases nth st b with
 |none=>rfl
 |some s=>obtain ⟨h1,h2,_,_,_⟩:=hf s;simp [h1,h2]
theorem TO (st:St) (d:Option Nat) (v:V) (a:Nat):hU (bW st d v) a=hU st a:=by
 obtain ⟨f,hf,hn⟩:=vW st d v a;unfold hU;rw [hn]
 cases nth st a with
 |none=>rfl
 |some s=>exact (hf s).2.2.2.1
theorem WH (st:St) (d:Option Nat) (v:V) (a:Nat):w9 (bW st d v) a=w9 st a:=by
 obtain ⟨f,hf,hn⟩:=vW st d v a;unfold w9;rw [hn]
 cases nth st a with
 |none=>rfl
 |some s=>exact (hf s).2.2.2.2
theorem TP (st:St) (d:Option Nat) (v:V) (a:Nat):km (bW st d v) a=km st a:=by
 obtain ⟨f,hf,hn⟩:=vW st d v a;unfold km;rw [hn]
 cases nth st a with
 |none=>rfl
 |some s=>exact (hf s).2.1
theorem lL.refl (w:World) (ok:Nat→Prop):lL w w ok ok:=⟨Nat.le_refl _,fun _ _ _=>rfl,fun _ _ h=>h⟩
theorem Fw.bW (c:Cz) (st:St) (w:World) (d:Option Nat) (v:V):Fw c st w c (bW st d v) w where
 stays:=lL.refl w _
 refs a j g A' _ h:=⟨A',by rwa [TL] at h,rfl,rfl,rfl,fun _=>⟨rfl,fun _ _ _ _=>rfl⟩⟩
 HI b g s7 _ h:=⟨⟨s7,by rwa [TN] at h⟩,rfl⟩
 gA a:=by rw [TO];exact Nat.le_refl _
 gB a:=by rw [TP];exact Nat.le_refl _
 gE a:=by rw [WH];exact Nat.le_refl _
theorem eval_put (a:Act) (d:Option Tmp) (v:Value) (t:Nat):(a.put d v).eval (.tmp t)=if d=some t∧t<a.tmps.size then v else a.eval (.tmp t):=by
 cases d with
 |none=>simp [Act.put]
 |some u=>
  simp only [Act.put,Act.eval,Array.getD_eq_getD_getElem?,Array.getElem?_setIfInBounds]
  by_cases h:u=t
  ·subst h
   by_cases hl:u<a.tmps.size<;>simp [hl]
  ·have:¬(some u=some t∧t<a.tmps.size):=by rintro ⟨e,_⟩;exact h (Option.some.inj e)
   rw [if_neg this];simp [h]
theorem Rel.bW {w0:World} {mu:Mu} {c:Cz} {st:St} {a:Act} {w:World} (h:Rel w0 mu c st a w) {d:Option Nat} {v:V} {u:Value}
  (hv:iB c st w v u) (hd:∀t,d=some t→t<a.tmps.size):Rel w0 mu c (bW st d v) (a.put d u) w where
 jy t:=by
  have hg:=Fw.bW c st w d v;rw [TJ,eval_put]
  by_cases hdt:d=some t
  ·have:=hd t hdt
   by_cases hl:t<st.length
   ·rw [if_pos ⟨hdt,hl⟩,if_pos ⟨hdt,this⟩];exact hg.vV hv
   ·have e:dR st t=.one .bad:=by
     unfold dR;rw [og,List.getElem?_eq_none (by omega)]
    rw [if_neg (fun h=>hl h.2),e];trivial
  ·rw [if_neg (fun h=>hdt h.1),if_neg (fun h=>hdt h.1)];exact hg.vV (h.jy t)
 boxes s sl cs hs hb:=by
  obtain ⟨f,hf,hn⟩:=vW st d v s;rw [hn] at hs
  cases hx:nth st s with
  |none=>rw [hx] at hs;simp at hs
  |some s0=>
   rw [hx] at hs;simp at hs;subst hs;rw [(hf s0).1] at hb;exact (h.boxes s s0 cs hx hb).go (Fw.bW c st w d v) rfl rfl rfl
 ca s j sl A hs hb:=by
  obtain ⟨f,hf,hn⟩:=vW st d v s;rw [hn] at hs
  cases hx:nth st s with
  |none=>rw [hx] at hs;simp at hs
  |some s0=>
   rw [hx] at hs;simp at hs;subst hs;rw [(hf s0).2.2.1] at hb;exact h.ca s j s0 A hx hb
 owned:=h.owned
 free:=h.free
 kept:=h.kept
 old:=h.old
 iC p hp:=(Fw.bW c st w d v).iC (h.iC p hp)
 plain:=by
  have:=h.plain
  cases d<;>simpa [Act.put] using this
theorem Rel.KZ {w0:World} {mu:Mu} {c:Cz} {st:St} {a:Act} {w:World} (h:Rel w0 mu c st a w) {s j g:Nat} {A:nY} (hA:cT st s j g=some A):fQ c w s j A:=by
 obtain ⟨sl,h1,_,h3⟩:=dF hA;exact h.ca s j sl A h1 h3
theorem fQ.lt {c:Cz} {w:World} {s j:Nat} {A:nY} (h:fQ c w s j A) {b off cap:Nat} (hl:c.lc s j=.at b off cap):b<w.heap.size:=by
 unfold fQ at h;rw [hl] at h;obtain ⟨_,_,⟨cur,t,h3,_⟩,_⟩:=h;exact (Array.getElem?_eq_some_iff.1 h3).1
end Go.TM
namespace Go.TM
open Go Go.RowKit
def lC:RT→List Value→Prop
 |.nil,vs=>vs=[]
 |.cons (.int k) r,vs=>∃l,vs=.int k 0::l∧lC r l
 |.cons .bool r,vs=>∃l,vs=.bool false::l∧lC r l
 |.cons .str r,vs=>∃l,vs=.string ByteArray.empty::l∧lC r l
 |.cons (.sl _) r,vs=>∃l,vs=.slice none 0 0::l∧lC r l
def descOf:Ty→TypeDesc→Prop
 |.int k,d=>d=.int k
 |.bool,d=>d=.bool
 |.str,d=>d=.string
 |.sl _,_=>False
structure j7 (P:Program) (T:pA):Prop where
 cells:∀t n,T.cells t=some n→(P.info? t).map (·.size)=some n
 agg:∀t n,T.cells t=some n→∃d,P.underlying t=some d∧d.isRow=T.agg t∧(T.agg t=false→n=1)
 off:∀t f k,T.off t f=some k→∃fs K0 n,P.underlying t=some (.struct fs)∧fs[f]?=some K0∧K0.offset=k∧(P.info? K0.type).map (·.size)=some (n+1)
 bld:∀t,T.agg t=true→∃fs dw,P.underlying t=some (.struct fs)∧fs.toList.mapM (fun f=>(P.info? f.type).map fun i=>(f.offset,i.size))=some dw∧
  ∀f o s,T.off t f=some o→T.fsz t f=some s→dw[f]?=some (o,s)
 row:∀t r,T.row t=some r→∃i z,P.info? t=some i∧i.zero=some z∧lC r z.cells.toList
 elem:∀t r b,T.elem t=some (r,b)→∃e i z,P.underlying t=some (.slice e)∧P.info? e=some i∧i.size=r.width∧0<r.width∧i.bytes=b∧0<b∧i.zero=some z∧lC r z.cells.toList
 u8:∀t e b,T.elem t=some (.cons (.int .u8) .nil,b)→P.underlying t=some (.slice e)→P.underlying e=some (.int .u8)
 kind:∀t y,T.kind t=some y→∃d,P.underlying t=some d∧descOf y d
 one:∀t f,T.one t f=true→∃fs K0 d,P.underlying t=some (.struct fs)∧fs[f]?=some K0∧P.underlying K0.type=some d∧d.isRow=false
theorem rj.one {c:Cz} {st:St} {w:World} {x:CV} {v:Value} (h:rj c st w x v) (hs:x.AD=true):v.oneCell'=true:=by
 cases x with
 |bad=>simp [CV.AD] at hs
 |int k n=>simp only [rj] at h;subst h;rfl
 |bool b=>simp only [rj] at h;subst h;rfl
 |str s=>simp only [rj] at h;subst h;rfl
 |gJ=>simp only [rj] at h;subst h;rfl
 |Qk=>simp only [rj] at h;subst h;rfl
 |shr r xs=>
  rcases (si _ _ _ _ _).1 h with ⟨rfl,_⟩ | ⟨a,cap,rfl,_⟩<;>rfl
 |nn r xs=>
  rcases (si _ _ _ _ _).1 h.1 with ⟨rfl,_⟩ | ⟨a,cap,rfl,_⟩<;>rfl
 |ref a j g vw=>exact h.1
 |ptr b g off=>exact h.1
 |N1 a j g i off=>exact h.1
 |oe r x off=>obtain ⟨b,o,rfl,_⟩:=h;rfl
 |yc r x off=>obtain ⟨b,o,rfl,_⟩:=h;rfl
 |fn g rs xs=>obtain ⟨AU,rfl,_⟩:=h;rfl
theorem TQ {v:Value} (h:v.oneCell'=true):v.cells = #[v]:=by cases v<;>first | rfl | simp [Value.oneCell'] at h
theorem iB.cells {c:Cz} {st:St} {w:World} {x:V} {v:Value} (h:iB c st w x v) (hs:x.AD=true) :
  jf c st w x.cells v.cells.toList∧∀u∈v.cells.toList,u.oneCell'=true:=by
 cases x with
 |one x=>
  have h1:v.oneCell'=true:=rj.one (x:=x) h hs;rw [TQ h1];refine ⟨⟨rfl,fun i y u hy hu => ?_⟩,fun u hu=>by simp at hu;rw [hu];exact h1⟩
  cases i with
  |zero=>simp [V.cells] at hy hu;rw [←hy,←hu];exact h
  |succ i=>simp [V.cells] at hy
 |agg cs=>
  obtain ⟨vs,rfl,hl⟩:=h;refine ⟨hl,fun u hu => ?_⟩;obtain ⟨i,hi,hu⟩:=List.mem_iff_getElem.1 hu;have hi':i<cs.length:=by rw [hl.1];exact hi
  have:=hl.2 i cs[i] u (List.getElem?_eq_getElem hi') (by rw [←hu];exact List.getElem?_eq_getElem hi);exact this.one (List.all_eq_true.1 hs _ (List.getElem_mem hi'))
 |rb us=>simp [V.AD] at hs
def Cz.lh (c:Cz) (d b:Nat):Cz:=
 { bx:=fun s=>if s=d then b else c.bx s,lc:=c.lc,own:=fun k=>if k=b then some (.box d) else c.own k }
theorem Bm (w:World) (o:Obj) (ok D5:Nat→Prop) (h:∀b,b<w.heap.size→ok b→D5 b):lL w (w.alloc o) ok D5 where
 size:=by simp
 block b hb _:=heap_alloc_old w o b hb
 ok:=h
theorem Rel.yU {w0:World} {mu:Mu} {c:Cz} {st:St} {a:Act} {w:World} (h:Rel w0 mu c st a w) {b:Nat} {l:Lb} (hb:c.own b=some l):b<w.heap.size:=(h.owned b l hb).1
theorem Rel.lh {w0:World} {mu:Mu} {c:Cz} {st:St} {a:Act} {w:World} (h:Rel w0 mu c st a w) {d:Nat} {s0:Sl} {cs:List CV} {vs:Array Value} {ty:TypeId}
  (nG:nth st d=some s0) (hd:d<a.tmps.size) (hl:jf c st w cs vs.toList) :
  Rel w0 mu (c.lh d w.heap.size) (tS (fun s=>{ s with v:=.one (.ptr d (s0.bg+1) 0),box:=some cs,bg:=s0.bg+1 }) st d)
   (a.put (some d) (.pointer (some ⟨w.heap.size,0,none⟩))) (w.alloc (.cells vs ty (0,0))):=by
 have hn:∀s,nth (tS (fun s=>{ s with v:=.one (.ptr d (s0.bg+1) 0),box:=some cs,bg:=s0.bg+1 }) st d) s=
   if s=d then some { s0 with v:=.one (.ptr d (s0.bg+1) 0),box:=some cs,bg:=s0.bg+1 } else nth st s:=by
  intro s;rw [lG]
  by_cases e:s=d
  ·subst e;simp [nG]
  ·simp [e]
 generalize tS (fun s=>{ s with v:=.one (.ptr d (s0.bg+1) 0),box:=some cs,bg:=s0.bg+1 }) st d=bV at hn ⊢;have je:∀b,b<w.heap.size→c.ok b→(c.lh d w.heap.size).ok b:=by
  intro b hb hc;unfold Cz.ok Cz.lh;simp only [if_neg (show b≠w.heap.size by omega)];exact hc
 have hA:∀a' j g,cT bV a' j g=cT st a' j g:=by
  intro a' j g;unfold cT;rw [hn]
  by_cases e:a'=d
  ·subst e;simp [nG]
  ·simp [e]
 have hgA:∀a',hU bV a'=hU st a':=by
  intro a';unfold hU;rw [hn]
  by_cases e:a'=d
  ·subst e;simp [nG]
  ·simp [e]
 have mo:Fw c st w (c.lh d w.heap.size) bV (w.alloc (.cells vs ty (0,0))):={
  stays:=Bm w _ _ _ je
  refs:=fun a' j g A' _ iS=>⟨A',by rw [←hA];exact iS,rfl,rfl,rfl,fun _=>⟨rfl,fun b o cap nZ=>by
   exact heap_alloc_old w _ b ((h.KZ (g:=g) (by rw [←hA];exact iS)).lt nZ)⟩⟩
  HI:=fun b g s7 hg hb=>by
   unfold gi at hb ⊢;rw [hn] at hb
   by_cases e:b=d
   ·subst e;simp only [if_true] at hb;unfold km at hg;rw [nG] at hg;have:Nat.beq (s0.bg+1) g=false:=by
     cases hq:Nat.beq (s0.bg+1) g
     ·rfl
     ·have:=Nat.eq_of_beq_eq_true hq;simp at hg;omega
    simp [this] at hb
   ·simp only [e,if_false] at hb;exact ⟨⟨s7,hb⟩,by simp [Cz.lh,e]⟩
  gA:=fun a'=>by rw [hgA];exact Nat.le_refl _
  gB:=fun b=>by
   unfold km;rw [hn]
   by_cases e:b=d
   ·subst e;simp [nG]
   ·simp [e]
  gE:=fun a'=>by
   unfold w9;rw [hn]
   by_cases e:a'=d
   ·subst e;simp [nG]
   ·simp [e] }
 exact {
  jy:=fun t=>by
   have e1:dR bV t=if t=d then .one (.ptr d (s0.bg+1) 0) else dR st t:=by
    unfold dR;rw [hn]
    by_cases e:t=d<;>simp [e]
   rw [e1,eval_put]
   by_cases e:t=d
   ·subst e;simp only [if_true,true_and,hd];refine ⟨rfl,?_,fun s7 Qs=>by simp [Cz.lh]⟩;unfold km;rw [hn];simp
   ·simp only [e,if_false];rw [if_neg (fun h=>e (Option.some.inj h.1).symm)];exact mo.vV (h.jy t)
  boxes:=fun s sl s7 hs hb=>by
   rw [hn] at hs
   by_cases e:s=d
   ·subst e;simp only [if_true,Option.some.injEq] at hs;subst hs;simp only [Option.some.injEq] at hb;subst hb;exact ⟨by simp [Cz.lh],vs,ty,by simp only [Cz.lh,if_true];exact heap_alloc_new w _,mo.aak hl⟩
   ·simp only [e,if_false] at hs;have hb0:=h.boxes s sl s7 hs hb;have dB:=h.yU hb0.1;exact hb0.go mo (by simp [Cz.lh,e]) (by simp only [Cz.lh];rw [if_neg (by omega)]) (heap_alloc_old w _ _ dB)
  ca:=fun s j sl A hs iS=>by
   rw [hn] at hs;have ha:fQ c w s j A:=by
    by_cases e:s=d
    ·subst e;simp only [if_true,Option.some.injEq] at hs;subst hs;exact h.ca s j s0 A nG iS
    ·simp only [e,if_false] at hs;exact h.ca s j sl A hs iS
   refine ha.go mo.stays rfl (fun b hb => ?_);have dB:b<w.heap.size:=h.yU hb;exact ⟨heap_alloc_old w _ b dB,by simp only [Cz.lh];rw [if_neg (by omega)]⟩
  owned:=fun b l hb=>by
   simp only [Cz.lh] at hb
   by_cases e:b=w.heap.size
   ·subst e;exact ⟨by simp,.inr (.inl h.kept.2.2.2)⟩
   ·rw [if_neg e] at hb;have:=h.owned b l hb;exact ⟨Nat.lt_of_lt_of_le this.1 (by simp),this.2⟩
  free:=fun b hb h1=>by
   simp only [Cz.lh] at h1
   by_cases e:b=w.heap.size
   ·rw [if_pos e] at h1;cases h1
   ·rw [if_neg e] at h1;exact h.free b hb h1
  kept:=⟨h.kept.1,h.kept.2.1,h.kept.2.2.1,Nat.le_trans h.kept.2.2.2 (by simp)⟩
  old:=fun k hk hm=>by
   rw [heap_alloc_old w _ k (Nat.lt_of_lt_of_le hk h.kept.2.2.2)];exact h.old k hk hm
  iC:=fun p hp=>mo.iC (h.iC p hp)
  plain:=h.plain }
end Go.TM
namespace Go.TM
open Go Go.RowKit
theorem cY {w0:World} {mu:Mu} {c:Cz} {st:St} {a:Act} {w:World} (h:Rel w0 mu c st a w) (x:Operand):iB c st w (qM st x) (a.eval x):=by
 unfold qM
 split<;>first | exact h.jy _ | rfl | trivial
theorem jf.take {c:Cz} {st:St} {w:World} {cs:List CV} {vs:List Value} (h:jf c st w cs vs) (off n:Nat):jf c st w ((cs.drop off).take n) ((vs.drop off).take n):=by
 refine ⟨by simp [h.1],fun i x v hx hv => ?_⟩;rw [List.getElem?_take] at hx hv
 by_cases hi:i<n
 ·rw [if_pos hi,List.getElem?_drop] at hx hv;exact h.2 _ x v hx hv
 ·rw [if_neg hi] at hx;simp at hx
theorem rk {n off:Nat} {cs l:List CV} (h:kn n off cs=some l):l=(cs.drop off).take n∧l.length=n:=by
 unfold kn at h;obtain ⟨h1,h2⟩:=bM h;have:=Option.some.inj h2;subst this;exact ⟨rfl,Nat.eq_of_beq_eq_true h1⟩
def valOf (agg:Bool) (vs:List Value):Value:=if agg then .agg vs.toArray else vs.headD undef
theorem xl {P:Program} {T:pA} (hT:j7 P T) {t n:Nat} (ht:T.cells t=some n) (w:World) (b o:Nat) (vs:List Value) (hv:w.rangeAt b o vs) (hn:vs.length=n) :
  (loadVar t ⟨b,o,none⟩).run P w=.ok (valOf (T.agg t) vs) w:=by
 obtain ⟨d,hu,hd,h1⟩:=hT.agg t n ht
 cases hg:T.agg t with
 |true=>
  rw [hg] at hd;have:=run_loadVar_mid (P:=P) w b o t vs d hv hu hd (by rw [hT.cells t n ht,hn]);simpa [valOf] using this
 |false=>
  have hn1:=h1 hg;obtain ⟨v,rfl⟩:∃v,vs=[v]:=by
   cases vs with
   |nil=>simp at hn;omega
   |cons v l=>cases l with
    |nil=>exact ⟨v,rfl⟩
    |cons _ _=>simp at hn;omega
  have acS:(isAgg t).run P w=.ok false w:=by
   unfold isAgg;rw [Sem.run_bind,run_underlying hu w];rw [hg] at hd
   cases d<;>simp_all [TypeDesc.isRow]
  have hc:w.cell? ⟨b,o,none⟩=some v:=by have:=hv 0 v rfl;simpa using this
  simp [loadVar,Sem.run_bind,acS,valOf,run_load,hc]
theorem aam {c:Cz} {st:St} {w:World} {T:pA} {t:Nat} {l:List CV} {vs:List Value} (h:jf c st w l vs) (h1:T.agg t=false→l.length=1) :
  iB c st w (mkV T t l) (valOf (T.agg t) vs):=by
 unfold mkV valOf
 cases hg:T.agg t with
 |true=>exact ⟨vs.toArray,rfl,by simpa using h⟩
 |false=>
  have hl:=h1 hg
  cases l with
  |nil=>simp at hl
  |cons x l=>cases l with
   |cons _ _=>simp at hl
   |nil=>cases vs with
    |nil=>have:=h.1;simp at this
    |cons v vs=>exact h.2 0 x v rfl rfl
theorem Gr {w:World} {b off:Nat} {vs:Array Value} {ty:TypeId} {fr:Nat×Nat} (h:w.heap[b]?=some (.cells vs ty fr)) (n:Nat):w.rangeAt b off ((vs.toList.drop off).take n):=by
 intro j v hv;rw [cell_of_row w b (off+j) vs ty fr h];rw [List.getElem?_take] at hv
 by_cases hj:j<n
 ·rw [if_pos hj,List.getElem?_drop] at hv;simpa using hv
 ·rw [if_neg hj] at hv;simp at hv
theorem yV {w:World} {c:Cz} {st:St}:(r:RT)→(b off:Nat)→(x:aO r)→fP w c.ok r b off x→
  ∃vs,vs.length=r.width∧w.rangeAt b off vs∧jf c st w (gy r x) vs
 |.nil,_,_,_,_=>⟨[],rfl,fun j v h=>by simp at h,rfl,fun i x v h=>by simp [gy] at h⟩
 |.cons t r,b,off,x,h=>by
  unfold fP at h;obtain ⟨⟨v,hv,hx⟩,hr⟩:=h;obtain ⟨vs,h1,h2,h3,h4⟩:=yV r b (off+1) x.2 hr;refine ⟨v::vs,by simp [RT.width,h1],fun j u hu => ?_,by simp [gy,h3],fun i y u hy hu => ?_⟩
  ·cases j with
   |zero=>simp at hu;rw [←hu];exact hv
   |succ j=>
    simp at hu;have:=h2 j u hu;rw [show off+(j+1)=off+1+j by omega];exact this
  ·cases i with
   |zero=>
    simp [gy] at hy hu;subst hy hu
    cases t with
    |int k=>unfold eD at hx;exact hx
    |bool=>unfold eD at hx;exact hx
    |str=>unfold eD at hx;exact hx
    |sl q=>exact hx
   |succ i=>
    simp [gy] at hy hu;exact h4 i y u hy hu
theorem Bn {w:World} {b off:Nat} {vs:List Value} (h:w.rangeAt b off vs) (k n:Nat):w.rangeAt b (off+k) ((vs.drop k).take n):=by
 intro j v hv;rw [List.getElem?_take] at hv
 by_cases hj:j<n
 ·rw [if_pos hj,List.getElem?_drop] at hv;rw [Nat.add_assoc];exact h _ v hv
 ·rw [if_neg hj] at hv;simp at hv
def lM (w w':World):Prop:=w.heap.size≤w'.heap.size∧∀b,b<w.heap.size→w'.heap[b]?=w.heap[b]?
theorem lM.refl (w:World):lM w w:=⟨Nat.le_refl _,fun _ _=>rfl⟩
theorem lM.trans {w w' w'':World} (h:lM w w') (h':lM w' w''):lM w w'':=
 ⟨Nat.le_trans h.1 h'.1,fun b hb=>(h'.2 b (Nat.lt_of_lt_of_le hb h.1)).trans (h.2 b hb)⟩
theorem lM.alloc (w:World) (b:Obj):lM w (w.alloc b):=⟨by simp,fun k hk=>heap_alloc_old w b k hk⟩
theorem lM.range {w w':World} (h:lM w w') {b o:Nat} {vs:List Value} (hr:w.rangeAt b o vs):w'.rangeAt b o vs:=by
 intro j v hj;have h1:=hr j v hj;rw [World.cell?_of_block (w:=w) (h.2 b (Sp h1))];exact h1
theorem N2 {P:Program} {T:pA} (hT:j7 P T) {w0:World} {mu:Mu} {c:Cz} {st:St} {a:Act} {w:World} (h:Rel w0 mu c st a w)
  {d:Option Nat} {t:Nat} {x:V} {u:Value} (hx:iB c st w x u) {bV:St} (hv:(AE T st d t x).val=some bV) (hd:∀k,d=some k→k<a.tmps.size) :
  ∃v,(∀w':World,lM w w'→(Instr.loadAt t u).run P w'=.ok v w')∧Rel w0 mu c bV (a.put d v) w:=by
 have key:∀(b o n:Nat) (l:List CV) (vs:List Value),T.cells t=some n→u=.pointer (some ⟨b,o,none⟩)→w.rangeAt b o vs→vs.length=n→jf c st w l vs→
   (N.done (TM.bW st d (mkV T t l))).val=some bV→∃v,(∀w':World,lM w w'→(Instr.loadAt t u).run P w'=.ok v w')∧Rel w0 mu c bV (a.put d v) w:=by
  intro b o n l vs hn hu hr hlen hl w7;simp only [N.val,Option.some.injEq] at w7;subst w7;obtain ⟨dd,_,_,h1⟩:=hT.agg t n hn;refine ⟨valOf (T.agg t) vs,fun w' hk => ?_,h.bW (aam hl (fun hg=>by rw [hl.1,hlen];exact h1 hg)) hd⟩;subst hu;have ZZ:w'.rangeAt b o vs:=hk.range hr;simp only [Instr.loadAt,Instr.sureAddr,Sem.run_bind,Sem.run_pure,Result.andThen_ok,xl hT hn w' b o vs ZZ hlen]
 cases hn:T.cells t with
 |none=>cases x with
  |one y=>cases y<;>simp [AE,hn,N.val] at hv
  |agg _=>simp [AE,N.val] at hv
  |rb _=>simp [AE,N.val] at hv
 |some n=>cases x with
  |agg _=>simp [AE,N.val] at hv
  |rb _=>simp [AE,N.val] at hv
  |one y=>cases y with
   |bad | int _ _ | bool _ | str _ | gJ | Qk | shr _ _ | nn _ _ | ref _ _ _ _ | fn _ _ _=>simp [AE,N.val] at hv
   |ptr b g off=>
    simp only [AE,hn] at hv
    cases hb:gi st b g with
    |none=>simp [hb,N.val] at hv
    |some cs=>
     simp only [hb] at hv
     cases Kg:kn n off cs with
     |none=>simp [Kg,N.val] at hv
     |some l=>
      simp only [Kg] at hv;obtain ⟨rfl,hlen⟩:=rk Kg;obtain ⟨sl,HJ,TR,HK⟩:=ko hb;obtain ⟨ho,vs,ty,hh,hl⟩:=h.boxes b sl cs HJ HK;have hu:=hx.2.2 cs hb;refine key _ _ n _ ((vs.toList.drop off).take n) hn hu (Gr hh n) ?_ (hl.take off n) hv;rw [←(hl.take off n).1];exact hlen
   |oe r y off=>
    simp only [AE,hn] at hv
    cases Kg:kn n off (gy r y) with
    |none=>simp [Kg,N.val] at hv
    |some l=>
     simp only [Kg] at hv;obtain ⟨rfl,hlen⟩:=rk Kg;obtain ⟨b,o,hu,dB,je,HL⟩:=hx;obtain ⟨vs,h1,h2,h3⟩:=yV (st:=st) r b o y HL;refine key _ _ n _ ((vs.drop off).take n) hn hu (Bn h2 off n) ?_ (h3.take off n) hv;rw [←(h3.take off n).1];exact hlen
   |yc r ys off=>
    simp only [AE,hn] at hv
    cases hy:ys[0]? with
    |none=>simp [hy,N.val] at hv
    |some y=>
    simp only [hy] at hv;change (match kn n off (gy r y) with | some l=>N.done (TM.bW st d (mkV T t l)) | none=>N.fail).val=some bV at hv
    cases Kg:kn n off (gy r y) with
    |none=>simp [Kg,N.val] at hv
    |some l=>
     simp only [Kg] at hv;obtain ⟨rfl,hlen⟩:=rk Kg;obtain ⟨b,o,hu,dB,je,HL⟩:=hx;obtain ⟨vs,h1,h2,h3⟩:=yV (st:=st) r b o y (HL y hy);refine key _ _ n _ ((vs.drop off).take n) hn hu (Bn h2 off n) ?_ (h3.take off n) hv;rw [←(h3.take off n).1];exact hlen
   |N1 a' j g i off=>
    simp only [AE,hn] at hv
    cases hA:cT st a' j g with
    |none=>simp [hA,N.val] at hv
    |some A=>
     simp only [hA] at hv;obtain ⟨sl,HJ,TR,HK⟩:=dF hA;have Kh:=h.ca a' j sl A HJ HK;obtain ⟨hi,b,o,cap,nZ,hu⟩:=hx.2.2 A hA;unfold fQ at Kh;rw [nZ] at Kh;obtain ⟨_,_,_,tU⟩:=Kh
     cases hm:A.md with
     |sh=>
      cases WI:A.xs[i]? with
      |none=>simp [WI,N.val] at hv
      |some y=>
       simp only [WI] at hv;change (match kn n off (gy A.r y) with | some l=>N.done (TM.bW st d (mkV T t l)) | none=>N.fail).val=some bV at hv
       cases Kg:kn n off (gy A.r y) with
       |none=>simp [Kg,N.val] at hv
       |some l=>
        simp only [Kg] at hv;obtain ⟨rfl,hlen⟩:=rk Kg;obtain ⟨vs,h1,h2,h3⟩:=yV (st:=st) A.r b _ y ((dY.sh hm).1 tU i y WI);refine key _ _ n _ ((vs.drop off).take n) hn hu (Bn h2 off n) ?_ (h3.take off n) hv;rw [←(h3.take off n).1];exact hlen
end Go.TM
namespace Go.TM
open Go Go.RowKit
def eG (w:World) (ok:Nat→Prop):(r:RT)→List Value→aO r→Prop
 |.nil,vs,_=>vs=[]
 |.cons t r,vs,x=>∃v l,vs=v::l∧eD w ok t v x.1∧eG w ok r l x.2
theorem eG.length {w:World} {ok:Nat→Prop}:(r:RT)→(vs:List Value)→(x:aO r)→eG w ok r vs x→vs.length=r.width
 |.nil,vs,_,h=>by simp only [eG] at h;subst h;rfl
 |.cons t r,vs,x,h=>by
  obtain ⟨v,l,rfl,_,h⟩:=h;simp [RT.width,eG.length r l x.2 h]
theorem mR {w:World} {ok:Nat→Prop}:(r:RT)→(b off:Nat)→(x:aO r)→(fP w ok r b off x↔∃vs,w.rangeAt b off vs∧eG w ok r vs x)
 |.nil,_,_,_=>by
  unfold fP;exact ⟨fun _=>⟨[],fun j v h=>by simp at h,rfl⟩,fun _=>trivial⟩
 |.cons t r,b,off,x=>by
  unfold fP
  constructor
  ·rintro ⟨⟨v,hv,hx⟩,hr⟩
   obtain ⟨vs,h1,h2⟩:=(mR r b (off+1) x.2).1 hr;refine ⟨v::vs,fun j u hu => ?_,v,vs,rfl,hx,h2⟩
   cases j with
   |zero=>simp at hu;rw [←hu];exact hv
   |succ j=>
    simp at hu;rw [show off+(j+1)=off+1+j by omega];exact h1 j u hu
  ·rintro ⟨vs,h1,v,l,rfl,hx,h2⟩
   refine ⟨⟨v,h1 0 v rfl,hx⟩,(mR r b (off+1) x.2).2 ⟨l,fun j u hu => ?_,h2⟩⟩;have:=h1 (j+1) u (by simpa using hu);rw [show off+1+j=off+(j+1) by omega];exact this
theorem eG.stays {w w':World} {ok D5:Nat→Prop} (h:lL w w' ok D5):(r:RT)→(vs:List Value)→(x:aO r)→eG w ok r vs x→eG w' D5 r vs x
 |.nil,_,_,hr=>hr
 |.cons t r,_,x,⟨v,l,e,hx,hr⟩=>⟨v,l,e,eD.stays h t v x.1 hx,eG.stays h r l x.2 hr⟩
theorem HM {w:World} {c:Cz} {st:St}:(r:RT)→(x:aO r)→(k:Nat)→(y:CV)→(z:aO r)→(vs:List Value)→(u:Value)→
  pJ r x k y=some z→rj c st w y u→eG w c.ok r vs x→eG w c.ok r (vs.set k u) z
 |.nil,_,_,_,_,_,_,h,_,_=>by simp [pJ] at h
 |.cons t r,x,0,y,z,vs,u,h,hu,hv=>by
  obtain ⟨v,l,rfl,hx,hr⟩:=hv
  cases t with
  |int k=>
   cases y<;>simp [pJ] at h
   obtain ⟨rfl,h⟩:=h;obtain rfl:=Option.some.inj h;refine ⟨u,l,rfl,?_,hr⟩;unfold eD;exact hu
  |bool=>
   cases y<;>simp [pJ] at h
   obtain rfl:=Option.some.inj h;refine ⟨u,l,rfl,?_,hr⟩;unfold eD;exact hu
  |str=>
   cases y<;>simp [pJ] at h
   obtain rfl:=Option.some.inj h;refine ⟨u,l,rfl,?_,hr⟩;unfold eD;exact hu
  |sl q=>cases y<;>simp [pJ] at h
 |.cons t r,x,k+1,y,z,vs,u,h,hu,hv=>by
  obtain ⟨v,l,rfl,hx,hr⟩:=hv;have h':(pJ r x.2 k y).map (fun z=>((x.1,z):aO (.cons t r)))=some z:=by cases t<;>(simp only [pJ] at h;exact h)
  cases hq:pJ r x.2 k y with
  |none=>simp [hq] at h'
  |some z'=>
   rw [hq] at h';obtain rfl:=Option.some.inj h';exact ⟨v,l.set k u,rfl,hx,HM r x.2 k y z' l u hq hu hr⟩
def eo (vs:List Value) (off:Nat) (us:List Value):List Value:=vs.take off++us++vs.drop (off+us.length)
theorem N3 {vs:List Value} {off:Nat} {u:Value} {us:List Value} (h:off<vs.length):eo vs off (u::us)=(eo vs (off+1) us).set off u:=by
 unfold eo;apply List.ext_getElem?;intro k;simp only [List.getElem?_set,List.getElem?_append,List.length_append,List.length_take,List.length_cons,List.getElem?_drop,List.getElem?_cons]
 by_cases h1:k<off
 ·have a1:min off vs.length=off:=by omega
  have a2:min (off+1) vs.length=off+1:=by omega
  have a3:off≠k:=by omega
  simp only [a1,a2,a3,if_false,h1,show k<off+(us.length+1) by omega,show k<off+1+us.length by omega,show k<off+1 by omega,if_true,List.getElem?_take]
 ·by_cases h2:k=off
  ·subst h2;have a1:min k vs.length=k:=by omega
   have a2:min (k+1) vs.length=k+1:=by omega
   have a3:min k vs.length-k=0:=by omega
   simp [a1,a2,h];omega
  ·have a1:min off vs.length=off:=by omega
   have a2:min (off+1) vs.length=off+1:=by omega
   obtain ⟨m,rfl⟩:∃m,k=off+1+m:=⟨k-(off+1),by omega⟩;have a3:off≠off+1+m:=by omega
   simp only [a1,a2,a3,if_false,show ¬off+1+m<off by omega,show off+1+m-off=m+1 by omega,show ¬off+1+m<off+1 by omega,show off+1+m-(off+1)=m by omega,
    Nat.add_one_ne_zero,Nat.add_sub_cancel]
   by_cases h3:m<us.length
   ·rw [if_pos (by omega),if_pos (by omega)]
   ·rw [if_neg (by omega),if_neg (by omega)]
    congr 1
    omega
theorem np {vs:List Value} {off:Nat} {us:List Value} (h:off+us.length≤vs.length):(eo vs off us).length=vs.length:=by
 unfold eo;simp;omega
theorem HN {w:World} {c:Cz} {st:St} (r:RT) (x:aO r):(off:Nat)→(cs:List CV)→(z:aO r)→(vs us:List Value)→off+us.length≤vs.length→
  vT r x off cs=some z→jf c st w cs us→eG w c.ok r vs x→eG w c.ok r (eo vs off us) z
 |off,[],z,vs,us,_,h,hl,hv=>by
  have:us=[]:=by have:=hl.1;simp at this;exact List.length_eq_zero_iff.1 this.symm
  subst this;simp [vT] at h;subst h;simp [eo];exact hv
 |off,y::l,z,vs,us,hle,h,hl,hv=>by
  cases us with
  |nil=>have:=hl.1;simp at this
  |cons u us=>
   simp only [vT] at h
   cases hq:vT r x (off+1) l with
   |none=>simp [hq] at h
   |some y'=>
    simp only [hq] at h;simp at hle;have ih:=HN r x (off+1) l y' vs us (by omega) hq ⟨by have:=hl.1;simpa using this,fun i a b ha hb=>hl.2 (i+1) a b (by simpa using ha) (by simpa using hb)⟩ hv;rw [N3 (by omega)];exact HM r y' off y z _ u h (hl.2 0 y u rfl rfl) ih
theorem uX {w:World} {c:Cz} {b:Nat} {l:Lb} (hb:c.own b=some l) (cur:Array Value):lL w (w.setRow b cur) c.ok c.ok where
 size:=by simp [World.setRow]
 block k _ hk:=setRow_other w b k cur (fun e=>by subst e;unfold Cz.ok at hk;rw [hb] at hk;cases hk)
 ok _ _ h:=h
theorem Bo {P:Program} {T:pA} (hT:j7 P T) {t n:Nat} (ht:T.cells t=some n) (w:World) (b o:Nat) (v:Value) (hn:v.cells.toList.length=n) (h1:∀u∈v.cells.toList,u.oneCell'=true)
  {cur:Array Value} {ty:TypeId} (hg:w.heap[b]?=some (.cells cur ty (0,0))) (hle:o+n≤cur.size) :
  (Instr.storeAt t (.pointer (some ⟨b,o,none⟩)) v).run P w=.ok () (w.setRow b (eo cur.toList o v.cells.toList).toArray):=by
 have hs:=run_storeCells_at P b o ty v.cells.toList 0 cur w hg (by omega) h1;have hi:=hT.cells t n ht
 cases hq:P.info? t with
 |none=>simp [hq] at hi
 |some i=>
  have qY:v.cells.size=i.size:=by simp [hq] at hi;rw [hi,←hn];simp
  simp only [Nat.add_zero] at hs;simp [Instr.storeAt,Instr.sureAddr,storeVar,sizeOf,typeInfo,hq,qY,hs,eo]
end Go.TM
namespace Go.TM
open Go Go.RowKit
theorem View.Cl {α:Type} (vw:View) (xs:List α) {i:Nat} {x:α} (h:(vw.app xs)[i]?=some x):xs[vw.lo+i]?=some x:=by
 cases vw with
 |full=>simpa [View.app,View.lo] using h
 |«from» lo=>simpa [View.app,View.lo,List.getElem?_drop] using h
 |sub lo n=>
  simp only [View.app,View.lo,List.getElem?_take,List.getElem?_drop] at h ⊢
  by_cases hi:i<n
  ·rwa [if_pos hi] at h
  ·rw [if_neg hi] at h;simp at h
theorem D7 {c:Cz} {w:World} {s j:Nat} {A:nY} (h:fQ c w s j A) {vw:View} {u:Value} (hu:pX (c.lc s j) A.r.width vw.lo (vw.app A.xs).length u)
  {ok:Nat→Prop} (h1:∀b,c.ok b→ok b) (h2:∀b,A.own=true∨A.md.Qd=true→c.own b=some (.sp s j)→ok b) (Hq:A.md.Qd=false):eD w ok (.sl A.r) u (vw.app A.xs):=by
 rw [si]
 cases hl:c.lc s j with
 |nil=>
  unfold pX at hu;rw [hl] at hu;obtain ⟨rfl,hn⟩:=hu;exact .inl ⟨rfl,List.length_eq_zero_iff.1 hn⟩
 |«at» b off cap=>
  unfold pX at hu;rw [hl] at hu;obtain ⟨a,k,rfl,hk,CK,ha⟩:=hu;unfold fQ at h;rw [hl] at h;obtain ⟨h0,_,⟨cur,ty,h3,_⟩,h5⟩:=h;have h5:∀(i:Nat) x,A.xs[i]?=some x→fP w ok A.r b (off+i*A.r.width) x:=by
   unfold dY at h5
   cases hm:A.md with
   |sh=>rw [hm] at h5;exact fun i x hx=>fP.stays ⟨Nat.le_refl _,fun _ _ _=>rfl,fun b _ hb=>h1 b hb⟩ _ _ _ x rfl (h5 i x hx)
  have hob:ok b:=by
   cases ho:A.own with
   |true=>rw [ho] at h0;exact h2 b (.inl ho) h0
   |false=>rw [ho] at h0;exact h1 b h0
  have hs:lL w w c.ok ok:=⟨Nat.le_refl _,fun _ _ _=>rfl,fun b _ hb=>h1 b hb⟩;refine .inr ⟨a,k,rfl,hk,fun mn => ?_,fun i x hi => ?_⟩
  ·have:k≠0:=by
    have:=List.length_pos_iff.2 mn;omega
   rw [ha this];exact ⟨rfl,(Array.getElem?_eq_some_iff.1 h3).1,hob⟩
  ·have hk0:k≠0:=by
    have:=(List.getElem?_eq_some_iff.1 hi).1;omega
   rw [ha hk0];have:=h5 _ x (View.Cl vw A.xs hi);have e:off+vw.lo*A.r.width+i*A.r.width=off+(vw.lo+i)*A.r.width:=by rw [Nat.add_mul];omega
   show fP w ok A.r b (off+vw.lo*A.r.width+i*A.r.width) x;rw [e];exact this
theorem dh {r s:RT} {xs:List (aO r)} {ys:List (aO s)} (h:ek s xs=some ys):∃e:r=s,ys=e▸xs:=by
 unfold ek at h
 cases hq:RT.eq? r s with
 |none=>simp [hq] at h
 |some p=>obtain ⟨e⟩:=p;simp [hq] at h;exact ⟨e,h.symm⟩
def Cz.drop1 (c:Cz) (a j:Nat):Cz:=
 { c with own:=fun k=>match c.own k with | some (.sp s i)=>if s=a∧i=j then none else some (.sp s i) | l=>l }
theorem Cz.HO {c:Cz} {a j b:Nat} (h:c.ok b):(c.drop1 a j).ok b:=by
 unfold Cz.ok Cz.drop1 at *;simp [h]
theorem Cz.N4 {c:Cz} {a j b:Nat} (h:c.own b=some (.sp a j)):(c.drop1 a j).ok b:=by
 unfold Cz.ok Cz.drop1;simp [h]
theorem Cz.Qt {c:Cz} {a j b:Nat} {l:Lb} (h:(c.drop1 a j).own b=some l):c.own b=some l:=by
 unfold Cz.drop1 at h;simp only at h
 cases hc:c.own b with
 |none=>simp [hc] at h
 |some l'=>cases l' with
  |box s=>simp [hc] at h;rw [h]
  |out=>simp [hc] at h;rw [h]
  |dC i k=>simp [hc] at h;rw [h]
  |yd i=>simp [hc] at h;rw [h]
  |kK k=>simp [hc] at h;rw [h]
  |sp s i=>
   simp only [hc] at h
   by_cases e:s=a∧i=j
   ·simp [e] at h
   ·rw [if_neg e] at h;exact h
theorem Cz.vX {c:Cz} {a j b:Nat} {l:Lb} (h:c.own b=some l) (mn:l≠.sp a j):(c.drop1 a j).own b=some l:=by
 unfold Cz.drop1;simp only [h]
 cases l with
 |box s=>rfl
 |out=>rfl
 |dC i k=>rfl
 |yd i=>rfl
 |kK k=>rfl
 |sp s i=>
  simp only;rw [if_neg]
  rintro ⟨rfl,rfl⟩
  exact mn rfl
def ir (st:St) (a j:Nat):St:=tS (fun s=>{ s with ca:=tS (fun A=>A.map nY.fz) s.ca j,ep:=s.ep+1 }) st a
theorem N5 (st:St) (a j:Nat) (l:List (Nat×Nat)):freeze st ((a,j)::l)=freeze (ir st a j) l:=rfl
theorem kL (st:St) (a j s:Nat):∃f:Sl→Sl,(∀x,(f x).v=x.v∧(f x).box=x.box∧(f x).bg=x.bg∧(f x).ag=x.ag∧
   (∀i,nth (f x).ca i=if s=a∧i=j then (nth x.ca i).map (fun A=>A.map nY.fz) else nth x.ca i)∧(f x).ep=if s=a then x.ep+1 else x.ep)∧nth (ir st a j) s=(nth st s).map f:=by
 unfold ir
 by_cases h:s=a
 ·subst h;refine ⟨fun s=>{ s with ca:=tS (fun A=>A.map nY.fz) s.ca j,ep:=s.ep+1 },fun x=>⟨rfl,rfl,rfl,rfl,fun i => ?_,by simp⟩,ri _ _ _⟩;simp only [lG,true_and]
 ·refine ⟨id,fun x=>⟨rfl,rfl,rfl,rfl,fun i => ?_,by simp [h]⟩,by rw [vU _ _ h];simp⟩;simp [h]
theorem Gs (st:St) (a j b:Nat):w9 st b≤w9 (ir st a j) b∧(w9 (ir st a j) b=w9 st b→b≠a∨nth st b=none):=by
 obtain ⟨f,hf,hn⟩:=kL st a j b;unfold w9;rw [hn]
 cases hx:nth st b with
 |none=>simp
 |some x=>
  simp only [Option.map_some];rw [(hf x).2.2.2.2.2]
  by_cases e:b=a
  ·rw [if_pos e];exact ⟨by omega,fun h=>by omega⟩
  ·rw [if_neg e];exact ⟨Nat.le_refl _,fun _=>.inl e⟩
theorem Mv (st:St) (a j t:Nat):dR (ir st a j) t=dR st t:=by
 obtain ⟨f,hf,hn⟩:=kL st a j t;unfold dR;rw [hn]
 cases nth st t with
 |none=>rfl
 |some x=>exact (hf x).1
theorem Mw {st:St} {a j a' j' g:Nat} {A':nY} (h:cT (ir st a j) a' j' g=some A'):∃A,cT st a' j' g=some A∧A'.r.width=A.r.width∧A'.xs.length=A.xs.length∧(a'≠a→A'=A):=by
 obtain ⟨sl,h1,h2,h3⟩:=dF h;obtain ⟨f,hf,hn⟩:=kL st a j a';rw [hn] at h1
 cases hx:nth st a' with
 |none=>rw [hx] at h1;simp at h1
 |some x=>
  rw [hx] at h1;simp at h1;subst h1;obtain ⟨_,_,_,f4,f5,_⟩:=hf x;rw [f5] at h3;rw [f4] at h2;have key:∃A,nth x.ca j'=some (some A)∧A'.r.width=A.r.width∧A'.xs.length=A.xs.length∧(a'≠a→A'=A):=by
   by_cases e:a'=a∧j'=j
   ·rw [if_pos e] at h3
    cases hj:nth x.ca j' with
    |none=>simp [hj] at h3
    |some o=>cases o with
     |none=>simp [hj] at h3
     |some A=>simp [hj] at h3;subst h3;exact ⟨A,rfl,rfl,rfl,fun h=>absurd e.1 h⟩
   ·rw [if_neg e] at h3;exact ⟨A',h3,rfl,rfl,fun _=>rfl⟩
  obtain ⟨A,k1,k2,k3⟩:=key;refine ⟨A,?_,k2,k3⟩;unfold cT;rw [hx];have:Nat.beq x.ag g=true:=by rw [h2];exact Nat.beq_refl g
  simp [this,k1]
theorem Mx (st:St) (a j b g:Nat):gi (ir st a j) b g=gi st b g:=by
 obtain ⟨f,hf,hn⟩:=kL st a j b;unfold gi;rw [hn]
 cases nth st b with
 |none=>rfl
 |some x=>obtain ⟨_,h2,h3,_⟩:=hf x;simp [h2,h3]
theorem My (st:St) (a j b:Nat):hU (ir st a j) b=hU st b:=by
 obtain ⟨f,hf,hn⟩:=kL st a j b;unfold hU;rw [hn]
 cases nth st b with
 |none=>rfl
 |some x=>exact (hf x).2.2.2.1
theorem Mz (st:St) (a j b:Nat):km (ir st a j) b=km st b:=by
 obtain ⟨f,hf,hn⟩:=kL st a j b;unfold km;rw [hn]
 cases nth st b with
 |none=>rfl
 |some x=>exact (hf x).2.2.1
theorem Fw.ir (c:Cz) (st:St) (w:World) (a j:Nat):Fw c st w (c.drop1 a j) (ir st a j) w where
 stays:=⟨Nat.le_refl _,fun _ _ _=>rfl,fun _ _ h=>Cz.HO h⟩
 refs a' j' g A' _ iS:=by
  obtain ⟨A,h1,h2,h3,h4⟩:=Mw iS;refine ⟨A,h1,h2,h3,rfl,fun he=>⟨?_,fun _ _ _ _=>rfl⟩⟩;rcases (Gs st a j a').2 he with e | e
  ·exact h4 e
  ·unfold cT at h1;rw [e] at h1;cases h1
 HI b g s7 _ h:=⟨⟨s7,by rwa [Mx] at h⟩,rfl⟩
 gA b:=by rw [My];exact Nat.le_refl _
 gB b:=by rw [Mz];exact Nat.le_refl _
 gE b:=(Gs st a j b).1
theorem Rel.ir {w0:World} {mu:Mu} {c:Cz} {st:St} {a:Act} {w:World} (h:Rel w0 mu c st a w) (s j:Nat):Rel w0 mu (c.drop1 s j) (ir st s j) a w where
 jy t:=by rw [Mv];exact (Fw.ir c st w s j).vV (h.jy t)
 boxes b sl cs hs hb:=by
  obtain ⟨f,hf,hn⟩:=kL st s j b;rw [hn] at hs
  cases hx:nth st b with
  |none=>rw [hx] at hs;simp at hs
  |some x=>
   rw [hx] at hs;simp at hs;subst hs;rw [(hf x).2.1] at hb;have h0:=h.boxes b x cs hx hb;exact h0.go (Fw.ir c st w s j) rfl (by rw [h0.1];exact Cz.vX h0.1 (by simp)) rfl
 ca b i sl A hs hb:=by
  obtain ⟨f,hf,hn⟩:=kL st s j b;rw [hn] at hs
  cases hx:nth st b with
  |none=>rw [hx] at hs;simp at hs
  |some x=>
   rw [hx] at hs;simp at hs;subst hs;rw [(hf x).2.2.2.2.1 i] at hb
   by_cases e:b=s∧i=j
   ·rw [if_pos e] at hb
    cases hj:nth x.ca i with
    |none=>simp [hj] at hb
    |some o=>cases o with
     |none=>simp [hj] at hb
     |some B=>
      simp [hj] at hb;subst hb;have h0:=h.ca b i x B hx hj;unfold fQ at h0 ⊢;show match c.lc b i with | .nil=>_ | .at b off cap=>_
      cases hl:c.lc b i with
      |nil=>rw [hl] at h0;exact h0
      |«at» k off cap=>
       rw [hl] at h0;obtain ⟨h1,h2,h3,h4⟩:=h0;refine ⟨?_,h2,h3,?_⟩
       ·show (c.drop1 s j).own k=none
        cases ho:B.own with
        |true=>rw [ho] at h1;obtain ⟨rfl,rfl⟩:=e;exact Cz.N4 h1
        |false=>rw [ho] at h1;exact Cz.HO h1
       ·unfold dY at h4 ⊢;show match B.md.fz with | .sh=>_
        cases hm:B.md with
        |sh=>rw [hm] at h4;exact fun i x hi=>fP.stays (Fw.ir c st w s j).stays _ _ _ x rfl (h4 i x hi)
   ·rw [if_neg e] at hb;have h0:=h.ca b i x A hx hb;refine h0.go (Fw.ir c st w s j).stays rfl (fun k h1=>⟨rfl,?_⟩);rw [h1];exact Cz.vX h1 (by rintro e';injection e' with e1 e2;exact e ⟨e1,e2⟩)
 owned b l hb:=h.owned b l (Cz.Qt hb)
 free b hb h1:=by
  cases hc:c.own b with
  |none=>exact h.free b hb hc
  |some l=>
   rcases (h.owned b l hc).2 with h2 | h2 | h2
   ·subst h2;unfold Cz.drop1 at h1;simp [hc] at h1
   ·omega
   ·exact .inl h2
 kept:=h.kept
 old:=h.old
 iC p hp:=(Fw.ir c st w s j).iC (h.iC p hp)
 plain:=h.plain
def Cz.drop (c:Cz):List (Nat×Nat)→Cz
 | []=>c
 |(a,j)::l=>(c.drop1 a j).drop l
theorem Rel.freeze {w0:World} {mu:Mu} {a:Act} {w:World}:(m:List (Nat×Nat))→{c:Cz}→{st:St}→Rel w0 mu c st a w→Rel w0 mu (c.drop m) (freeze st m) a w
 | [],_,_,h=>h
 |(s,j)::m,_,_,h=>Rel.freeze m (h.ir s j)
theorem Cz.D8:(m:List (Nat×Nat))→(c:Cz)→(b:Nat)→c.ok b→(c.drop m).ok b
 | [],_,_,h=>h
 |(a,j)::m,c,b,h=>Cz.D8 m (c.drop1 a j) b (Cz.HO h)
theorem Cz.Hr:(m:List (Nat×Nat))→(c:Cz)→(b:Nat)→{a j:Nat}→c.own b=some (.sp a j)→(a,j)∈m→(c.drop m).ok b
 | [],_,_,_,_,_,h=>by simp at h
 |(a',j')::m,c,b,a,j,h,hm=>by
  by_cases e:a'=a∧j'=j
  ·obtain ⟨rfl,rfl⟩:=e;exact Cz.D8 m _ b (Cz.N4 h)
  ·refine Cz.Hr m (c.drop1 a' j') b (Cz.vX h (by rintro e';injection e' with e1 e2;exact e ⟨e1.symm,e2.symm⟩)) ?_;rcases List.mem_cons.1 hm with h' | h'
   ·injection h' with e1 e2;exact absurd ⟨e1.symm,e2.symm⟩ e
   ·exact h'
theorem Cz.Sr:(m:List (Nat×Nat))→(c:Cz)→(c.drop m).lc=c.lc∧(c.drop m).bx=c.bx
 | [],_=>⟨rfl,rfl⟩
 |(a,j)::m,c=>Cz.Sr m (c.drop1 a j)
theorem Cz.K1:(m:List (Nat×Nat))→(c:Cz)→(b:Nat)→{l:Lb}→c.own b=some l→(∀p∈m,l≠.sp p.1 p.2)→(c.drop m).own b=some l
 | [],_,_,_,h,_=>h
 |(a,j)::m,c,b,l,h,hm=>Cz.K1 m (c.drop1 a j) b (Cz.vX h (hm (a,j) (by simp))) (fun p hp=>hm p (by simp [hp]))
theorem Fw.trans {c c1 c2:Cz} {st HP mq:St} {w w1 w2:World} (h:Fw c st w c1 HP w1) (k:Fw c1 HP w1 c2 mq w2):Fw c st w c2 mq w2 where
 stays:=⟨Nat.le_trans h.stays.size k.stays.size,fun b hb ho=>(k.stays.block b (Nat.lt_of_lt_of_le hb h.stays.size) (h.stays.ok b hb ho)).trans (h.stays.block b hb ho),
  fun b hb ho=>k.stays.ok b (Nat.lt_of_lt_of_le hb h.stays.size) (h.stays.ok b hb ho)⟩
 refs a j g A' hg iS:=by
  obtain ⟨A1,h1,h2,h3,h4,h5⟩:=k.refs a j g A' (Nat.le_trans hg (h.gA a)) iS;obtain ⟨A,k1,k2,k3,k4,k5⟩:=h.refs a j g A1 hg h1;refine ⟨A,k1,h2.trans k2,h3.trans k3,h4.trans k4,fun he => ?_⟩;have g1:=h.gE a;have g2:=k.gE a;obtain ⟨e1,e2⟩:=h5 (by omega);obtain ⟨e3,e4⟩:=k5 (by omega);exact ⟨e1.trans e3,fun b o cap hl=>(e2 b o cap (by rw [k4];exact hl)).trans (e4 b o cap hl)⟩
 HI b g s7 hg hb:=by
  obtain ⟨⟨cs1,h1⟩,h2⟩:=k.HI b g s7 (Nat.le_trans hg (h.gB b)) hb;obtain ⟨h3,h4⟩:=h.HI b g cs1 hg h1;exact ⟨h3,h2.trans h4⟩
 gA a:=Nat.le_trans (h.gA a) (k.gA a)
 gB b:=Nat.le_trans (h.gB b) (k.gB b)
 gE b:=Nat.le_trans (h.gE b) (k.gE b)
theorem Fw.refl (c:Cz) (st:St) (w:World):Fw c st w c st w:=⟨lL.refl w _,fun _ _ _ A' _ h=>⟨A',h,rfl,rfl,rfl,fun _=>⟨rfl,fun _ _ _ _=>rfl⟩⟩,fun _ _ s7 _ h=>⟨⟨s7,h⟩,rfl⟩,fun _=>Nat.le_refl _,fun _=>Nat.le_refl _,fun _=>Nat.le_refl _⟩
theorem Fw.freeze (w:World):(m:List (Nat×Nat))→(c:Cz)→(st:St)→Fw c st w (c.drop m) (freeze st m) w
 | [],c,st=>Fw.refl c st w
 |(a,j)::m,c,st=>(Fw.ir c st w a j).trans (Fw.freeze w m (c.drop1 a j) (TM.ir st a j))
theorem D9 {w0:World} {mu:Mu} {c:Cz} {st:St} {a:Act} {w:World} (h:Rel w0 mu c st a w):(r:RT)→(cs:List CV)→(us:List Value)→jf c st w cs us→
  (k:aO r→List (Nat×Nat)→N)→{bV:St}→(rowOf st r cs k).val=some bV→
  ∃x m,(k x m).val=some bV∧(∀p∈m,∃g A,cT st p.1 p.2 g=some A)∧
   ∀ok:Nat→Prop,(∀b,c.ok b→ok b)→(∀p∈m,∀b,c.own b=some (.sp p.1 p.2)→ok b)→eG w ok r us x
 |.nil,cs,us,hl,k,bV,hv=>by
  cases cs with
  |cons _ _=>simp [rowOf,N.val] at hv
  |nil=>
   have:us=[]:=by have:=hl.1;simp at this;exact List.length_eq_zero_iff.1 this.symm
   subst this;exact ⟨(),[],hv,fun p hp=>by simp at hp,fun _ _ _=>rfl⟩
 |.cons t r,cs,us,hl,k,bV,hv=>by
  cases cs with
  |nil=>cases t<;>simp [rowOf,N.val] at hv
  |cons y cs=>
   cases us with
   |nil=>have:=hl.1;simp at this
   |cons u us=>
    have hu:rj c st w y u:=hl.2 0 y u rfl rfl;have Cm:jf c st w cs us:=⟨by have:=hl.1;simpa using this,fun i a b ha hb=>hl.2 (i+1) a b (by simpa using ha) (by simpa using hb)⟩;have plain:∀(d:den t),(∀ok:Nat→Prop,(∀b,c.ok b→ok b)→eD w ok t u d)→(rowOf st r cs (fun x m=>k (d,x) m)).val=some bV→
      ∃x m,(k x m).val=some bV∧(∀p∈m,∃g A,cT st p.1 p.2 g=some A)∧
       ∀ok:Nat→Prop,(∀b,c.ok b→ok b)→(∀p∈m,∀b,c.own b=some (.sp p.1 p.2)→ok b)→eG w ok (.cons t r) (u::us) x:=by
     intro d hd hv;obtain ⟨x,m,h1,h2,h3⟩:=D9 h r cs us Cm _ hv;exact ⟨(d,x),m,h1,h2,fun ok ho hm=>⟨u,us,rfl,hd ok ho,h3 ok ho hm⟩⟩
    cases t with
    |int q=>
     cases y with
     |int l n=>
      simp only [rowOf] at hv
      by_cases e:q=l
      ·rw [if_pos e] at hv;exact plain n (fun ok _=>yS.2 (by rw [e];exact hu)) hv
      ·rw [if_neg e] at hv;simp [N.val] at hv
     |_=>simp [rowOf,N.val] at hv
    |bool=>
     cases y with
     |bool b=>exact plain b (fun ok _=>Ck.2 hu) (by simpa only [rowOf] using hv)
     |_=>simp [rowOf,N.val] at hv
    |str=>
     cases y with
     |str s=>exact plain s (fun ok _=>Ft.2 hu) (by simpa only [rowOf] using hv)
     |_=>simp [rowOf,N.val] at hv
    |sl q=>
     cases y with
     |gJ=>exact plain ([]:List (aO q)) (fun ok _=>(si _ _ _ _ _).2 (.inl ⟨hu,rfl⟩)) (by simpa only [rowOf] using hv)
     |shr r' ys=>
      simp only [rowOf] at hv
      cases hc:ek q ys with
      |none=>simp [hc,N.val] at hv
      |some zs=>
       simp only [hc] at hv;obtain ⟨rfl,rfl⟩:=dh hc;exact plain _ (fun ok ho=>eD.stays ⟨Nat.le_refl _,fun _ _ _=>rfl,fun b _ hb=>ho b hb⟩ _ _ _ hu) hv
     |ref a' j g vw=>
      simp only [rowOf] at hv
      cases hA:cT st a' j g with
      |none=>simp [hA,N.val] at hv
      |some A=>
       simp only [hA] at hv;have Hq:A.md.Qd=false:=by cases A.md;rfl
       cases hc:ek q A.xs with
       |none=>simp [hc,N.val] at hv
       |some ys=>
        simp only [hc] at hv;obtain ⟨e,he⟩:=dh hc;subst e;simp only at he;subst he;obtain ⟨sl,HJ,TR,HK⟩:=dF hA;have Kh:=h.ca a' j sl A HJ HK;obtain ⟨x,m,h1,h2,h3⟩:=D9 h r cs us Cm _ hv;refine ⟨(vw.app A.xs,x),(a',j)::m,h1,fun p hp => ?_,fun ok ho hm=>⟨u,us,rfl,?_,h3 ok ho (fun p hp=>hm p (by simp [hp]))⟩⟩
        ·rcases List.mem_cons.1 hp with rfl | hp
         ·exact ⟨g,A,hA⟩
         ·exact h2 p hp
        ·exact D7 Kh (hu.2.2 A hA) ho (fun k _ hk=>hm (a',j) (by simp) k hk) Hq
     |_=>simp [rowOf,N.val] at hv
end Go.TM
namespace Go.TM
open Go Go.RowKit
theorem CY {cs l m:List CV} {off:Nat} (h:putCells cs off l=some m):off+l.length≤cs.length∧m=cs.take off++l++cs.drop (off+l.length):=by
 unfold putCells at h;obtain ⟨h1,h2⟩:=bM h;exact ⟨Nat.le_of_ble_eq_true h1,(Option.some.inj h2).symm⟩
theorem jf.eo {c:Cz} {st:St} {w:World} {cs l:List CV} {vs us:List Value} (h:jf c st w cs vs) (hl:jf c st w l us) (off:Nat) (hle:off+l.length≤cs.length) :
  jf c st w (cs.take off++l++cs.drop (off+l.length)) (TM.eo vs off us):=by
 have e1:=h.1;have e2:=hl.1;refine ⟨by rw [np (by omega)];simp;omega,fun i x v hx hv => ?_⟩;unfold TM.eo at hv;rw [List.getElem?_append,List.getElem?_append] at hx hv;simp only [List.length_append,List.length_take] at hx hv;have a1:min off cs.length=off:=by omega
 have a2:min off vs.length=off:=by omega
 rw [a1] at hx;rw [a2,←e2] at hv
 by_cases h1:i<off+l.length
 ·rw [if_pos h1] at hx hv
  by_cases h2:i<off
  ·rw [if_pos h2,List.getElem?_take,if_pos h2] at hx hv;exact h.2 i x v hx hv
  ·rw [if_neg h2] at hx hv;exact hl.2 _ x v hx hv
 ·rw [if_neg h1,List.getElem?_drop] at hx hv;exact h.2 _ x v hx hv
theorem Rel.WJ {w0:World} {mu:Mu} {c:Cz} {st:St} {a:Act} {w:World} (h:Rel w0 mu c st a w) {b:Nat} {s0:Sl} {cs l:List CV} {vs cur':Array Value} {ty:TypeId}
  (hs:nth st b=some s0) (hb:s0.box=some cs) (hg:w.heap[c.bx b]?=some (.cells vs ty (0,0))) (hl:jf c st w l cur'.toList) :
  Rel w0 mu c (tS (fun s=>{ s with box:=some l }) st b) a (w.setRow (c.bx b) cur'):=by
 have kM:=(h.boxes b s0 cs hs hb).1;have hn:∀s,nth (tS (fun s=>{ s with box:=some l }) st b) s=if s=b then some { s0 with box:=some l } else nth st s:=by
  intro s;rw [lG]
  by_cases e:s=b
  ·subst e;simp [hs]
  ·simp [e]
 generalize tS (fun s=>{ s with box:=some l }) st b=bV at hn ⊢;have w7:=uX (w:=w) kM cur';have yW:∀k,k≠c.bx b→(w.setRow (c.bx b) cur').heap[k]?=w.heap[k]?:=fun k hk=>setRow_other w _ k cur' hk
 have mo:Fw c st w c bV (w.setRow (c.bx b) cur'):={
  stays:=w7
  refs:=fun a' j g A' _ iS=>by
   have TS:cT st a' j g=some A':=by
    unfold cT at iS ⊢;rw [hn] at iS
    by_cases e:a'=b
    ·subst e;simpa [hs] using iS
    ·simpa [e] using iS
   refine ⟨A',TS,rfl,rfl,rfl,fun _=>⟨rfl,fun k o cap hl=>yW k ?_⟩⟩;have ha:=h.KZ TS;unfold fQ at ha;rw [hl] at ha;intro e;subst e;obtain ⟨h1,_⟩:=ha;rw [kM] at h1
   cases ho:A'.own<;>simp [ho] at h1
  HI:=fun b' g s7 _ uY=>by
   refine ⟨?_,rfl⟩;unfold gi at uY ⊢;rw [hn] at uY
   by_cases e:b'=b
   ·subst e;simp only [if_true] at uY;obtain ⟨h1,_⟩:=bM uY;exact ⟨cs,by simp [hs,h1,hb]⟩
   ·simp only [e,if_false] at uY;exact ⟨s7,uY⟩
  gA:=fun a'=>by
   unfold hU;rw [hn]
   by_cases e:a'=b
   ·subst e;simp [hs]
   ·simp [e]
  gB:=fun a'=>by
   unfold km;rw [hn]
   by_cases e:a'=b
   ·subst e;simp [hs]
   ·simp [e]
  gE:=fun a'=>by
   unfold w9;rw [hn]
   by_cases e:a'=b
   ·subst e;simp [hs]
   ·simp [e] }
 exact {
  jy:=fun t=>by
   have e1:dR bV t=dR st t:=by
    unfold dR;rw [hn]
    by_cases e:t=b
    ·subst e;simp [hs]
    ·simp [e]
   rw [e1];exact mo.vV (h.jy t)
  boxes:=fun s sl s7 Ea uY=>by
   rw [hn] at Ea
   by_cases e:s=b
   ·subst e;simp only [if_true,Option.some.injEq] at Ea;subst Ea;simp only [Option.some.injEq] at uY;subst uY;exact ⟨kM,cur',ty,setRow_heap w _ vs cur' ty (0,0) hg,mo.aak hl⟩
   ·simp only [e,if_false] at Ea;have h0:=h.boxes s sl s7 Ea uY;refine h0.go mo rfl rfl (yW _ ?_);intro e';have:=h0.1;rw [e',kM] at this;injection this with this;injection this with this;exact e this.symm
  ca:=fun s j sl A Ea iS=>by
   rw [hn] at Ea;have ha:fQ c w s j A:=by
    by_cases e:s=b
    ·subst e;simp only [if_true,Option.some.injEq] at Ea;subst Ea;exact h.ca s j s0 A hs iS
    ·simp only [e,if_false] at Ea;exact h.ca s j sl A Ea iS
   refine ha.go w7 rfl (fun k h1=>⟨yW k ?_,rfl⟩);intro e;subst e;rw [kM] at h1
   cases h1
  owned:=fun k l hk=>by
   have:=h.owned k l hk;exact ⟨by simpa [World.setRow] using this.1,this.2⟩
  free:=h.free
  kept:=⟨h.kept.1,h.kept.2.1,h.kept.2.2.1,by simpa [World.setRow] using h.kept.2.2.2⟩
  old:=fun k hk hm=>by
   rw [yW k (fun e=>by
    have:=(h.owned _ _ kM).2;rcases this with this | this | this
    ·cases this
    ·subst e;omega
    ·subst e;exact hm this)]
   exact h.old k hk hm
  iC:=fun p hp=>mo.iC (h.iC p hp)
  plain:=h.plain }
theorem Rel.TT {w0:World} {mu:Mu} {c:Cz} {st:St} {a:Act} {w:World} (h:Rel w0 mu c st a w) {s j:Nat} {s0:Sl} {A:nY} {b off cap:Nat} {cur cur':Array Value} {ty:TypeId}
  {md':Md} {ys:List (aO A.r)} (hs:nth st s=some s0) (hA:nth s0.ca j=some (some A)) (kM:A.own=true) (nZ:c.lc s j=.at b off cap)
  (hg:w.heap[b]?=some (.cells cur ty (0,0))) (qY:cur'.size=cur.size) (hlen:ys.length=A.xs.length)
  (tU:dY c (w.setRow b cur') (.sp s j) { A with xs:=ys,md:=md' } b off) :
  Rel w0 mu c (fo st s j (some { A with xs:=ys,md:=md' })) a (w.setRow b cur'):=by
 have h0:=h.ca s j s0 A hs hA;unfold fQ at h0;rw [nZ] at h0;obtain ⟨h1,h2,⟨ajD,ty0,h3,h4⟩,h5⟩:=h0;rw [kM] at h1;have hc0:ajD=cur:=by rw [hg] at h3;injection h3 with h3;injection h3 with h3;exact h3.symm
 subst hc0;have hn:∀k,nth (fo st s j (some { A with xs:=ys,md:=md' })) k=if k=s then some { s0 with ca:=tS (fun _=>some { A with xs:=ys,md:=md' }) s0.ca j,ep:=s0.ep+1 } else nth st k:=by
  intro k;unfold fo;rw [lG]
  by_cases e:k=s
  ·subst e;simp [hs]
  ·simp [e]
 generalize fo st s j (some { A with xs:=ys,md:=md' })=bV at hn ⊢;have w7:=uX (w:=w) h1 cur';have yW:∀k,k≠b→(w.setRow b cur').heap[k]?=w.heap[k]?:=fun k hk=>setRow_other w _ k cur' hk
 have mo:Fw c st w c bV (w.setRow b cur'):={
  stays:=w7
  refs:=fun a' j' g A' _ iS=>by
   obtain ⟨sl,k1,k2,k3⟩:=dF iS;rw [hn] at k1
   by_cases e:a'=s
   ·subst e;simp only [if_true,Option.some.injEq] at k1;subst k1;simp only at k2 k3;rw [lG] at k3
    by_cases e2:j'=j
    ·subst e2;rw [if_pos rfl,hA] at k3;simp only [Option.map_some,Option.some.injEq] at k3;subst k3;refine ⟨A,?_,rfl,hlen,rfl,fun he => ?_⟩
     ·unfold cT;rw [hs];have:Nat.beq s0.ag g=true:=by rw [k2];exact Nat.beq_refl g
      simp [this,hA]
     ·unfold w9 at he;rw [hn,if_pos rfl,hs] at he;simp at he
    ·rw [if_neg e2] at k3;refine ⟨A',?_,rfl,rfl,rfl,fun he => ?_⟩
     ·unfold cT;rw [hs];have:Nat.beq s0.ag g=true:=by rw [k2];exact Nat.beq_refl g
      simp [this,k3]
     ·unfold w9 at he;rw [hn,if_pos rfl,hs] at he;simp at he
   ·rw [if_neg e] at k1;have TS:cT st a' j' g=some A':=by
     unfold cT;rw [k1];have:Nat.beq sl.ag g=true:=by rw [k2];exact Nat.beq_refl g
     simp [this,k3]
    refine ⟨A',TS,rfl,rfl,rfl,fun _=>⟨rfl,fun k o ax2 hl=>yW k ?_⟩⟩;have ha:=h.KZ TS;unfold fQ at ha;rw [hl] at ha
    rintro rfl
    obtain ⟨g1,_⟩:=ha;rw [h1] at g1
    cases ho:A'.own with
    |true=>simp [ho] at g1;exact e g1.1.symm
    |false=>simp [ho] at g1
  HI:=fun b' g s7 _ uY=>by
   refine ⟨⟨s7,?_⟩,rfl⟩;unfold gi at uY ⊢;rw [hn] at uY
   by_cases e:b'=s
   ·subst e;simpa [hs] using uY
   ·simpa [e] using uY
  gA:=fun a'=>by
   unfold hU;rw [hn]
   by_cases e:a'=s
   ·subst e;simp [hs]
   ·simp [e]
  gB:=fun a'=>by
   unfold km;rw [hn]
   by_cases e:a'=s
   ·subst e;simp [hs]
   ·simp [e]
  gE:=fun a'=>by
   unfold w9;rw [hn]
   by_cases e:a'=s
   ·subst e;simp [hs]
   ·simp [e] }
 exact {
  jy:=fun t=>by
   have e1:dR bV t=dR st t:=by
    unfold dR;rw [hn]
    by_cases e:t=s
    ·subst e;simp [hs]
    ·simp [e]
   rw [e1];exact mo.vV (h.jy t)
  boxes:=fun k sl s7 Ea uY=>by
   rw [hn] at Ea;have HQ:Bl c st w k s7:=by
    by_cases e:k=s
    ·subst e;simp only [if_true,Option.some.injEq] at Ea;subst Ea;exact h.boxes k s0 s7 hs uY
    ·simp only [e,if_false] at Ea;exact h.boxes k sl s7 Ea uY
   refine HQ.go mo rfl rfl (yW _ ?_);intro e;have:=HQ.1;rw [e,h1] at this;simp at this
  ca:=fun k i sl B Ea hB=>by
   rw [hn] at Ea
   by_cases e:k=s∧i=j
   ·obtain ⟨rfl,rfl⟩:=e;simp only [if_true,Option.some.injEq] at Ea;subst Ea;simp only at hB;rw [lG,if_pos rfl,hA] at hB;simp only [Option.map_some,Option.some.injEq] at hB;subst hB;unfold fQ;rw [nZ];refine ⟨by rw [kM];exact h1,by simp only;rw [hlen];exact h2,⟨cur',ty,setRow_heap w b ajD cur' ty (0,0) hg,by simp only;rw [qY];exact h4⟩,tU⟩
   ·have ha:fQ c w k i B:=by
     by_cases e2:k=s
     ·subst e2;simp only [if_true,Option.some.injEq] at Ea;subst Ea;simp only at hB;rw [lG,if_neg (fun e3=>e ⟨rfl,e3⟩)] at hB;exact h.ca k i s0 B hs hB
     ·rw [if_neg e2] at Ea;exact h.ca k i sl B Ea hB
    refine ha.go w7 rfl (fun k' g1=>⟨yW k' ?_,rfl⟩)
    rintro rfl
    rw [h1] at g1;simp at g1;exact e ⟨g1.1.symm,g1.2.symm⟩
  owned:=fun k l hk=>by
   have:=h.owned k l hk;exact ⟨by simpa [World.setRow] using this.1,this.2⟩
  free:=h.free
  kept:=⟨h.kept.1,h.kept.2.1,h.kept.2.2.1,by simpa [World.setRow] using h.kept.2.2.2⟩
  old:=fun k hk hm=>by
   rw [yW k (fun e=>by
    have:=(h.owned _ _ h1).2;rcases this with this | this | this
    ·cases this
    ·subst e;omega
    ·subst e;exact hm this)]
   exact h.old k hk hm
  iC:=fun p hp=>mo.iC (h.iC p hp)
  plain:=h.plain }
theorem Rel.HR {w0:World} {mu:Mu} {c:Cz} {st:St} {a:Act} {w:World} (h:Rel w0 mu c st a w) {s j:Nat} {s0:Sl} {A:nY} {b off cap:Nat} {cur cur':Array Value} {ty:TypeId}
  {ys:List (aO A.r)} (hs:nth st s=some s0) (hA:nth s0.ca j=some (some A)) (kM:A.own=true) (nZ:c.lc s j=.at b off cap)
  (hg:w.heap[b]?=some (.cells cur ty (0,0))) (qY:cur'.size=cur.size) (hlen:ys.length=A.xs.length)
  (tU:dY c (w.setRow b cur') (.sp s j) { A with xs:=ys } b off) :
  Rel w0 mu c (fo st s j (some { A with xs:=ys })) a (w.setRow b cur'):=h.TT hs hA kM nZ hg qY hlen tU
end Go.TM
namespace Go.TM
open Go Go.RowKit
theorem Eb:(r:RT)→(x:aO r)→(k:Nat)→(y:CV)→{z:aO r}→pJ r x k y=some z→k<r.width
 |.nil,_,_,_,_,h=>by simp [pJ] at h
 |.cons t r,x,0,y,z,_=>by simp [RT.width]
 |.cons t r,x,k+1,y,z,h=>by
  have h':(pJ r x.2 k y).map (fun z=>((x.1,z):aO (.cons t r)))=some z:=by cases t<;>(simp only [pJ] at h;exact h)
  cases hq:pJ r x.2 k y with
  |none=>rw [hq] at h';cases h'
  |some z'=>have:=Eb r x.2 k y hq;simp [RT.width];omega
theorem Ec (r:RT) (x:aO r):(off:Nat)→(cs:List CV)→{z:aO r}→vT r x off cs=some z→cs≠[]→off+cs.length≤r.width
 |_,[],_,_,h=>absurd rfl h
 |off,y::l,z,h,_=>by
  simp only [vT] at h
  cases hq:vT r x (off+1) l with
  |none=>simp [hq] at h
  |some y'=>
   simp only [hq] at h;have h1:=Eb r y' off y h
   cases l with
   |nil=>simp;omega
   |cons y2 l2=>have:=Ec r x (off+1) (y2::l2) hq (by simp);simp at this ⊢;omega
theorem su {vs us:List Value} {off k:Nat} (hle:off+us.length≤vs.length):(eo vs off us)[k]?=if off≤k∧k<off+us.length then us[k-off]? else vs[k]?:=by
 unfold eo;simp only [List.getElem?_append,List.length_append,List.length_take,List.getElem?_take,List.getElem?_drop];have a1:min off vs.length=off:=by omega
 rw [a1]
 by_cases h1:k<off
 ·rw [if_pos (by omega),if_pos h1,if_pos h1,if_neg (by omega)]
 ·by_cases h2:k<off+us.length
  ·rw [if_pos h2,if_neg h1,if_pos ⟨by omega,h2⟩]
  ·rw [if_neg h2,if_neg (by omega)]
   congr 1
   omega
theorem HS:(m:List (Nat×Nat))→{st:St}→{a j:Nat}→{sl:Sl}→{A:nY}→nth st a=some sl→nth sl.ca j=some (some A)→(a,j)∉m→
  ∃sl',nth (freeze st m) a=some sl'∧nth sl'.ca j=some (some A)
 | [],_,_,_,sl,_,h1,h2,_=>⟨sl,h1,h2⟩
 |(b,i)::m,st,a,j,sl,A,h1,h2,hm=>by
  rw [N5];obtain ⟨f,hf,hn⟩:=kL st b i a;refine HS m (sl:=f sl) (A:=A) (by rw [hn,h1];rfl) ?_ (fun h=>hm (by simp [h]));rw [(hf sl).2.2.2.2.1 j,if_neg]
  ·exact h2
  ·rintro ⟨rfl,rfl⟩;exact hm (by simp)
theorem Ed {c:Cz} {w:World} {b off:Nat} {r:RT} {xs:List (aO r)} {cur:Array Value} {ty:TypeId} {l:Lb} (kM:c.own b=some l)
  (hg:w.heap[b]?=some (.cells cur ty (0,0))) (tU:∀(i:Nat) x,xs[i]?=some x→fP w c.ok r b (off+i*r.width) x)
  {i k:Nat} {x y:aO r} {us:List Value} (hx:xs[i]?=some x) (hle:k+us.length≤r.width) (qY:off+i*r.width+r.width≤cur.size)
  (hy:∀vs,eG w c.ok r vs x→eG w c.ok r (eo vs k us) y) :
  ∀(i':Nat) x',(xs.set i y)[i']?=some x'→fP (w.setRow b (eo cur.toList (off+i*r.width+k) us).toArray) c.ok r b (off+i'*r.width) x':=by
 have w7:=uX (w:=w) kM (eo cur.toList (off+i*r.width+k) us).toArray;have hg':=setRow_heap w b cur (eo cur.toList (off+i*r.width+k) us).toArray ty (0,0) hg;have HT:∀q,(w.setRow b (eo cur.toList (off+i*r.width+k) us).toArray).cell? ⟨b,q,none⟩=
   if off+i*r.width+k≤q∧q<off+i*r.width+k+us.length then us[q-(off+i*r.width+k)]? else w.cell? ⟨b,q,none⟩:=by
  intro q;rw [cell_of_row _ b q _ ty (0,0) hg',cell_of_row w b q cur ty (0,0) hg];simp only [List.getElem?_toArray];rw [su (by simp;omega)];simp
 intro i' x' Sq;rw [List.getElem?_set] at Sq
 by_cases e:i=i'
 ·subst e;rw [if_pos rfl] at Sq;have hi:i<xs.length:=(List.getElem?_eq_some_iff.1 hx).1;rw [if_pos hi] at Sq;obtain rfl:=Option.some.inj Sq;obtain ⟨vs,h1,h2⟩:=(mR r b _ x).1 (tU i x hx);have K2:=eG.length r vs x h2;refine (mR r b _ y).2 ⟨eo vs k us,fun q v hv => ?_,eG.stays w7 r _ y (hy vs h2)⟩;rw [su (by omega)] at hv;rw [HT]
  by_cases hq:k≤q∧q<k+us.length
  ·rw [if_pos hq] at hv;rw [if_pos (by omega),show off+i*r.width+q-(off+i*r.width+k)=q-k by omega];exact hv
  ·rw [if_neg hq] at hv;rw [if_neg (by omega)];exact h1 q v hv
 ·rw [if_neg e] at Sq;obtain ⟨vs,h1,h2⟩:=(mR r b _ x').1 (tU i' x' Sq);have K2:=eG.length r vs x' h2;refine (mR r b _ x').2 ⟨vs,fun q v hv => ?_,eG.stays w7 r _ x' h2⟩;have hq:q<r.width:=by rw [←K2];exact (List.getElem?_eq_some_iff.1 hv).1
  rw [HT,if_neg]
  ·exact h1 q v hv
  ·rintro ⟨g1,g2⟩
   rcases Nat.lt_or_gt_of_ne e with h | h
   ·have:(i+1)*r.width≤i'*r.width:=Nat.mul_le_mul_right _ h;rw [Nat.add_mul] at this;omega
   ·have:(i'+1)*r.width≤i*r.width:=Nat.mul_le_mul_right _ h;rw [Nat.add_mul] at this;omega
end Go.TM
namespace Go.TM
open Go Go.RowKit
def RdS (w:World) (ok:Nat→Prop) (r:RT) (u:Value) (ys:List (aO r)):Prop:=
 (u=.slice none 0 0∧ys=[])∨∃a cap,u=.slice (some a) ys.length cap∧(ys≠[]→a.spot=none)∧∀(i:Nat) y,ys[i]?=some y→fP w ok r a.block (a.off+i*r.width) y
def cj (w:World) (ok:Nat→Prop) (r:RT):List Value→List (aO r)→Prop
 |vs,[]=>vs=[]
 |vs,x::xs=>∃l1 l2,vs=l1++l2∧eG w ok r l1 x∧cj w ok r l2 xs
theorem cj.length {w:World} {ok:Nat→Prop} {r:RT}:(vs:List Value)→(xs:List (aO r))→cj w ok r vs xs→vs.length=xs.length*r.width
 |vs,[],h=>by simp only [cj] at h;subst h;simp
 |vs,x::xs,h=>by
  obtain ⟨l1,l2,rfl,h1,h2⟩:=h;have a1:=eG.length r l1 x h1;have a2:=cj.length l2 xs h2;simp [a1,a2,Nat.add_mul];omega
theorem cj.stays {w w':World} {ok D5:Nat→Prop} (h:lL w w' ok D5) {r:RT}:(vs:List Value)→(xs:List (aO r))→cj w ok r vs xs→cj w' D5 r vs xs
 |_,[],hr=>hr
 |_,x::xs,⟨l1,l2,e,h1,h2⟩=>⟨l1,l2,e,eG.stays h r l1 x h1,cj.stays h l2 xs h2⟩
theorem cj.append {w:World} {ok:Nat→Prop} {r:RT}:(vs us:List Value)→(xs ys:List (aO r))→cj w ok r vs xs→cj w ok r us ys→cj w ok r (vs++us) (xs++ys)
 |vs,us,[],ys,h,k=>by simp only [cj] at h;subst h;simpa using k
 |vs,us,x::xs,ys,⟨l1,l2,e,h1,h2⟩,k=>⟨l1,l2++us,by rw [e,List.append_assoc],h1,cj.append l2 us xs ys h2 k⟩
theorem cj.one {w:World} {ok:Nat→Prop} {r:RT} {vs:List Value} {x:aO r} (h:eG w ok r vs x):cj w ok r vs [x]:=⟨vs,[],by simp,h,rfl⟩
theorem oh {w:World} {ok:Nat→Prop} {r:RT} (b:Nat):(off:Nat)→(xs:List (aO r))→(∀(i:Nat) x,xs[i]?=some x→fP w ok r b (off+i*r.width) x)→
  ∃vs,w.rangeAt b off vs∧cj w ok r vs xs
 |_,[],_=>⟨[],fun j v h=>by simp at h,rfl⟩
 |off,x::xs,h=>by
  obtain ⟨l1,h1,h2⟩:=(mR r b off x).1 (by have:=h 0 x rfl;simpa using this);obtain ⟨l2,h3,h4⟩:=oh b (off+r.width) xs (fun i y hy=>by
   have:=h (i+1) y (by simpa using hy);rw [Nat.add_mul,Nat.one_mul] at this;rw [show off+r.width+i*r.width=off+(i*r.width+r.width) by omega];exact this)
  have hl:=eG.length r l1 x h2;refine ⟨l1++l2,fun j v hv => ?_,l1,l2,rfl,h2,h4⟩;rw [List.getElem?_append] at hv
  by_cases hj:j<l1.length
  ·rw [if_pos hj] at hv;exact h1 j v hv
  ·rw [if_neg hj] at hv;have:=h3 _ v hv;rw [show off+r.width+(j-l1.length)=off+j by omega] at this;exact this
theorem xm {w:World} {ok:Nat→Prop} {r:RT} {b:Nat}:(off:Nat)→(vs:List Value)→(xs:List (aO r))→cj w ok r vs xs→w.rangeAt b off vs→
  ∀(i:Nat) x,xs[i]?=some x→fP w ok r b (off+i*r.width) x
 |_,_,[],_,_,i,x,h=>by simp at h
 |off,vs,y::xs,⟨l1,l2,e,h1,h2⟩,hr,i,x,h=>by
  subst e;have hl:=eG.length r l1 y h1
  cases i with
  |zero=>
   simp at h;subst h;rw [mR];refine ⟨l1,fun j v hv => ?_,h1⟩;have hj:j<l1.length:=(List.getElem?_eq_some_iff.1 hv).1;have:=hr j v (by rw [List.getElem?_append,if_pos hj];exact hv);simpa using this
  |succ i=>
   have:=xm (off+r.width) l2 xs h2 (fun j v hv=>by
    have:=hr (l1.length+j) v (by rw [List.getElem?_append,if_neg (by omega)];simpa using hv);rw [show off+r.width+j=off+(l1.length+j) by omega];exact this) i x (by simpa using h)
   rw [Nat.add_mul,Nat.one_mul];rw [show off+(i*r.width+r.width)=off+r.width+i*r.width by omega];exact this
theorem eD.one {w:World} {ok:Nat→Prop} {t:Ty} {v:Value} {x:den t} (h:eD w ok t v x):v.oneCell'=true:=by
 cases t with
 |int k=>rw [yS.1 h];rfl
 |bool=>rw [Ck.1 h];rfl
 |str=>rw [Ft.1 h];rfl
 |sl r=>
  rcases (si w ok r v x).1 h with ⟨rfl,_⟩ | ⟨a,cap,rfl,_⟩<;>rfl
theorem eG.one {w:World} {ok:Nat→Prop}:(r:RT)→(vs:List Value)→(x:aO r)→eG w ok r vs x→∀v∈vs,v.oneCell'=true
 |.nil,vs,_,h,v,hv=>by simp only [eG] at h;subst h;simp at hv
 |.cons t r,vs,x,⟨u,l,e,hx,hr⟩,v,hv=>by
  subst e;rcases List.mem_cons.1 hv with rfl | hv
  ·exact hx.one
  ·exact eG.one r l x.2 hr v hv
theorem cj.mQ {w:World} {ok:Nat→Prop} {r:RT}:(vs:List Value)→(xs:List (aO r))→cj w ok r vs xs→∀v∈vs,v.oneCell'=true
 |vs,[],h,v,hv=>by simp only [cj] at h;subst h;simp at hv
 |vs,x::xs,⟨l1,l2,e,h1,h2⟩,v,hv=>by
  subst e;rcases List.mem_append.1 hv with hv | hv
  ·exact eG.one r l1 x h1 v hv
  ·exact cj.mQ l2 xs h2 v hv
theorem Gt {w0:World} {mu:Mu} {c:Cz} {st:St} {a:Act} {w:World} (h:Rel w0 mu c st a w) {r:RT} {x:CV} {u:Value} (hx:rj c st w x u)
  {k:List (aO r)→N} {bV:St} (hv:(pW st r x k).val=some bV):∃ys,(k ys).val=some bV∧RdS w c.ok r u ys:=by
 cases x with
 |shr r' xs=>
  simp only [pW] at hv
  cases hc:ek r xs with
  |none=>simp [hc,N.val] at hv
  |some ys=>
   simp only [hc] at hv;obtain ⟨rfl,rfl⟩:=dh hc;refine ⟨_,hv,?_⟩;rcases (si _ _ _ _ _).1 hx with h1 | ⟨a',cap,h1,h2,h3,h4⟩
   ·exact .inl h1
   ·exact .inr ⟨a',cap,h1,fun mn=>(h3 mn).1,h4⟩
 |nn r' xs=>
  simp only [pW] at hv
  cases hc:ek r xs with
  |none=>simp [hc,N.val] at hv
  |some ys=>
   simp only [hc] at hv;obtain ⟨rfl,rfl⟩:=dh hc;refine ⟨_,hv,?_⟩;rcases (si _ _ _ _ _).1 hx.1 with h1 | ⟨a',cap,h1,h2,h3,h4⟩
   ·exact .inl h1
   ·exact .inr ⟨a',cap,h1,fun mn=>(h3 mn).1,h4⟩
 |gJ=>exact ⟨[],by simpa only [pW] using hv,.inl ⟨hx,rfl⟩⟩
 |ref a' j g vw=>
  simp only [pW] at hv
  cases hA:cT st a' j g with
  |none=>simp [hA,N.val] at hv
  |some A=>
   simp only [hA] at hv;have Hq:A.md=.sh:=by cases A.md;rfl
   cases hc:ek r A.xs with
   |none=>simp [hc,N.val] at hv
   |some ys=>
    simp only [hc] at hv;obtain ⟨e,he⟩:=dh hc;subst e;simp only at he;subst he;obtain ⟨sl,HJ,TR,HK⟩:=dF hA;have Kh:=h.ca a' j sl A HJ HK;refine ⟨vw.app A.xs,hv,?_⟩;clear hv;have hs:=hx.2.2 A hA
    cases hl:c.lc a' j with
    |nil=>
     unfold pX at hs;rw [hl] at hs;exact .inl ⟨hs.1,List.length_eq_zero_iff.1 hs.2⟩
    |«at» b off cap=>
     unfold pX at hs;rw [hl] at hs;obtain ⟨ad,k',rfl,hk,CK,ha⟩:=hs;unfold fQ at Kh;rw [hl] at Kh;obtain ⟨_,_,_,h5⟩:=Kh;have mn:vw.app A.xs≠[]→k'≠0:=by
      intro mn;have:=List.length_pos_iff.2 mn;omega
     refine .inr ⟨ad,k',rfl,fun h=>by rw [ha (mn h)],fun i y hy => ?_⟩;have hk0:k'≠0:=mn (by intro e;rw [e] at hy;simp at hy);rw [ha hk0];have:=(dY.sh Hq).1 h5 _ y (View.Cl vw A.xs hy);have e:off+vw.lo*A.r.width+i*A.r.width=off+(vw.lo+i)*A.r.width:=by rw [Nat.add_mul];omega
     show fP w c.ok A.r b (off+vw.lo*A.r.width+i*A.r.width) y;rw [e];exact this
 |_=>simp [pW,N.val] at hv
theorem Rel.place {w0:World} {mu:Mu} {c c':Cz} {st:St} {a:Act} {w w':World} (h:Rel w0 mu c st a w) {d B:Nat} {s0:Sl} {A:nY} {v:Value}
  (nG:nth st d=some s0) (hd:d<a.tmps.size)
  (HQ:c'.bx=c.bx) (nZ:∀s j,¬(s=d∧j=0)→c'.lc s j=c.lc s j) (kM:∀k,k≠B→c'.own k=c.own k)
  (hoB:c'.own B=some (.sp d 0)∨(c'.own B=c.own B∧w'.heap[B]?=w.heap[B]?))
  (hB:w.heap.size≤B∨∃s j,c.own B=some (.sp s j)∧(s=d∨∀sl A,nth st s=some sl→nth sl.ca j≠some (some A)))
  (hBn:c'.own B=some (.sp d 0)→B<w'.heap.size)
  (hw:∀k,k<w.heap.size→k≠B→w'.heap[k]?=w.heap[k]?) (ye:w'.os=w.os∧w'.tape=w.tape∧w'.output=w.output∧w.heap.size≤w'.heap.size)
  (hA:fQ c' w' d 0 A) (HU:v.oneCell'=true) (hv:pX (c'.lc d 0) A.r.width 0 A.xs.length v) :
  Rel w0 mu c' (tS (fun s=>{ s with v:=.one (.ref d 0 (s0.ag+1) .full),ca:=[some A],ag:=s0.ag+1 }) st d) (a.put (some d) v) w':=by
 have hn:∀s,nth (tS (fun s=>{ s with v:=.one (.ref d 0 (s0.ag+1) .full),ca:=[some A],ag:=s0.ag+1 }) st d) s=
   if s=d then some { s0 with v:=.one (.ref d 0 (s0.ag+1) .full),ca:=[some A],ag:=s0.ag+1 } else nth st s:=by
  intro s;rw [lG]
  by_cases e:s=d
  ·subst e;simp [nG]
  ·simp [e]
 generalize tS (fun s=>{ s with v:=.one (.ref d 0 (s0.ag+1) .full),ca:=[some A],ag:=s0.ag+1 }) st d=bV at hn ⊢;have hnB:∀k,k<w.heap.size→c.ok k→k≠B:=by
  rintro k hk je rfl
  rcases hB with hB | ⟨s,j,hB,_⟩
  ·omega
  ·unfold Cz.ok at je;rw [hB] at je;cases je
 have w7:lL w w' c.ok c'.ok:=⟨ye.2.2.2,fun k hk je=>hw k hk (hnB k hk je),fun k hk je=>by unfold Cz.ok;rw [kM k (hnB k hk je)];exact je⟩;have mo:Fw c st w c' bV w':={
  stays:=w7
  refs:=fun a' j g A' hg iS=>by
   by_cases e:a'=d
   ·subst e;obtain ⟨sl,k1,k2,k3⟩:=dF iS;rw [hn,if_pos rfl] at k1;obtain rfl:=Option.some.inj k1;simp only at k2;unfold hU at hg;rw [nG] at hg;simp only at hg;omega
   ·have TS:cT st a' j g=some A':=by
     unfold cT at iS ⊢;rw [hn,if_neg e] at iS;exact iS
    refine ⟨A',TS,rfl,rfl,nZ a' j (fun h=>e h.1),fun _=>⟨rfl,fun k off cap hl => ?_⟩⟩;have ha:=h.KZ TS;have dB:=ha.lt hl;unfold fQ at ha;rw [hl] at ha;obtain ⟨g1,_⟩:=ha;refine hw k dB ?_
    rintro rfl
    rcases hB with hB | ⟨s',j',hB,WK⟩
    ·omega
    ·rw [hB] at g1
     cases ho:A'.own with
     |true=>
      simp [ho] at g1;obtain ⟨rfl,rfl⟩:=g1;obtain ⟨sl,q1,_,q3⟩:=dF TS;rcases WK with WK | WK
      ·exact e WK
      ·exact WK sl A' q1 q3
     |false=>simp [ho] at g1
  HI:=fun b' g s7 _ uY=>by
   refine ⟨⟨s7,?_⟩,by rw [HQ]⟩;unfold gi at uY ⊢;rw [hn] at uY
   by_cases e:b'=d
   ·subst e;simpa [nG] using uY
   ·simpa [e] using uY
  gA:=fun a'=>by
   unfold hU;rw [hn]
   by_cases e:a'=d
   ·subst e;simp [nG]
   ·simp [e]
  gB:=fun a'=>by
   unfold km;rw [hn]
   by_cases e:a'=d
   ·subst e;simp [nG]
   ·simp [e]
  gE:=fun a'=>by
   unfold w9;rw [hn]
   by_cases e:a'=d
   ·subst e;simp [nG]
   ·simp [e] }
 exact {
  jy:=fun t=>by
   have e1:dR bV t=if t=d then .one (.ref d 0 (s0.ag+1) .full) else dR st t:=by
    unfold dR;rw [hn]
    by_cases e:t=d<;>simp [e]
   rw [e1,eval_put]
   by_cases e:t=d
   ·subst e;simp only [if_true,true_and,hd];refine ⟨HU,?_,fun A' iS => ?_⟩
    ·unfold hU;rw [hn];simp
    ·obtain ⟨sl,k1,k2,k3⟩:=dF iS;rw [hn,if_pos rfl] at k1;obtain rfl:=Option.some.inj k1;simp [nth] at k3;subst k3;exact hv
   ·simp only [e,if_false];rw [if_neg (fun h=>e (Option.some.inj h.1).symm)];exact mo.vV (h.jy t)
  boxes:=fun s sl s7 hs hb=>by
   rw [hn] at hs;have acV:Bl c st w s s7:=by
    by_cases e:s=d
    ·subst e;rw [if_pos rfl] at hs;obtain rfl:=Option.some.inj hs;exact h.boxes s s0 s7 nG hb
    ·rw [if_neg e] at hs;exact h.boxes s sl s7 hs hb
   have dB:=h.yU acV.1;have mn:c.bx s≠B:=by
    intro e;rcases hB with hB | ⟨s',j,hB,_⟩
    ·omega
    ·rw [←e,acV.1] at hB;cases hB
   exact acV.go mo (by rw [HQ]) (kM _ mn) (hw _ dB mn)
  ca:=fun s j sl A' hs iS=>by
   rw [hn] at hs
   by_cases e:s=d
   ·subst e;rw [if_pos rfl] at hs;obtain rfl:=Option.some.inj hs
    cases j with
    |zero=>simp [nth] at iS;subst iS;exact hA
    |succ j=>simp [nth] at iS
   ·rw [if_neg e] at hs;have ha:=h.ca s j sl A' hs iS;refine ha.go w7 (nZ s j (fun h=>e h.1)) (fun k g1 => ?_);have dB:k<w.heap.size:=h.yU g1;have mn:k≠B:=by
     rintro rfl
     rcases hB with hB | ⟨s',j',hB,WK⟩
     ·omega
     ·rw [hB] at g1;simp at g1;obtain ⟨rfl,rfl⟩:=g1;rcases WK with WK | WK
      ·exact e WK
      ·exact WK sl A' hs iS
    exact ⟨hw k dB mn,kM k mn⟩
  owned:=fun b l hb=>by
   by_cases e:b=B
   ·subst e;rcases hoB with hoB | ⟨hoB,_⟩
    ·refine ⟨hBn hoB,?_⟩;rcases hB with hB | ⟨s',j',hB,_⟩
     ·exact .inr (.inl (Nat.le_trans h.kept.2.2.2 hB))
     ·rcases (h.owned _ _ hB).2 with h2 | h2
      ·cases h2
      ·exact .inr h2
    ·rw [hoB] at hb;have:=h.owned b l hb;exact ⟨Nat.lt_of_lt_of_le this.1 ye.2.2.2,this.2⟩
   ·rw [kM b e] at hb;have:=h.owned b l hb;exact ⟨Nat.lt_of_lt_of_le this.1 ye.2.2.2,this.2⟩
  free:=fun b hb h1=>by
   by_cases e:b=B
   ·subst e;rcases hB with hB | ⟨s',j',hB,_⟩
    ·have:=h.kept.2.2.2;omega
    ·rcases (h.owned _ _ hB).2 with h2 | h2 | h2
     ·cases h2
     ·omega
     ·exact .inl h2
   ·rw [kM b e] at h1;exact h.free b hb h1
  kept:=⟨ye.1.trans h.kept.1,ye.2.1.trans h.kept.2.1,ye.2.2.1.trans h.kept.2.2.1,Nat.le_trans h.kept.2.2.2 ye.2.2.2⟩
  old:=fun k hk hm=>by
   have Ka:=Nat.lt_of_lt_of_le hk h.kept.2.2.2;rw [hw k Ka (fun e => ?_)]
   ·exact h.old k hk hm
   ·subst e;rcases hB with hB | ⟨s',j',hB,_⟩
    ·omega
    ·rcases (h.owned _ _ hB).2 with h2 | h2 | h2
     ·cases h2
     ·omega
     ·exact hm h2
  iC:=fun p hp=>mo.iC (h.iC p hp)
  plain:=h.plain }
end Go.TM
namespace Go.TM
open Go Go.RowKit
theorem Rel.kill {w0:World} {mu:Mu} {c:Cz} {st:St} {a:Act} {w:World} (h:Rel w0 mu c st a w) (s j:Nat) :
  Rel w0 mu c (fo st s j none) a w∧∀sl A,nth (fo st s j none) s=some sl→nth sl.ca j≠some (some A):=by
 have hn:∀k,∃f:Sl→Sl,(∀x,(f x).v=x.v∧(f x).box=x.box∧(f x).bg=x.bg∧(f x).ag=x.ag∧
   (∀i,nth (f x).ca i=if k=s∧i=j then (nth x.ca i).map (fun _=>none) else nth x.ca i)∧(f x).ep=if k=s then x.ep+1 else x.ep)∧nth (fo st s j none) k=(nth st k).map f:=by
  intro k;unfold fo
  by_cases e:k=s
  ·subst e;refine ⟨fun s=>{ s with ca:=tS (fun _=>none) s.ca j,ep:=s.ep+1 },fun x=>⟨rfl,rfl,rfl,rfl,fun i => ?_,by simp⟩,ri _ _ _⟩;simp only [lG,true_and]
  ·refine ⟨id,fun x=>⟨rfl,rfl,rfl,rfl,fun i => ?_,by simp [e]⟩,by rw [vU _ _ e];simp⟩;simp [e]
 generalize fo st s j none=bV at hn ⊢;have mo:Fw c st w c bV w:={
  stays:=lL.refl w _
  refs:=fun a' j' g A' _ iS=>by
   obtain ⟨sl,k1,k2,k3⟩:=dF iS;obtain ⟨f,hf,hk⟩:=hn a';rw [hk] at k1
   cases hx:nth st a' with
   |none=>rw [hx] at k1;simp at k1
   |some x=>
    rw [hx] at k1;simp at k1;subst k1;rw [(hf x).2.2.2.2.1 j'] at k3;rw [(hf x).2.2.2.1] at k2;refine ⟨A',?_,rfl,rfl,rfl,fun _=>⟨rfl,fun _ _ _ _=>rfl⟩⟩
    by_cases e:a'=s∧j'=j
    ·rw [if_pos e] at k3
     cases hq:nth x.ca j'<;>simp [hq] at k3
    ·rw [if_neg e] at k3;unfold cT;rw [hx];have:Nat.beq x.ag g=true:=by rw [k2];exact Nat.beq_refl g
     simp [this,k3]
  HI:=fun b g s7 _ hb=>by
   refine ⟨⟨s7,?_⟩,rfl⟩;obtain ⟨f,hf,hk⟩:=hn b;unfold gi at hb ⊢;rw [hk] at hb
   cases hx:nth st b with
   |none=>rw [hx] at hb;simp at hb
   |some x=>rw [hx] at hb;simpa [(hf x).2.1,(hf x).2.2.1] using hb
  gA:=fun b=>by
   obtain ⟨f,hf,hk⟩:=hn b;unfold hU;rw [hk]
   cases hx:nth st b with
   |none=>simp
   |some x=>simp [(hf x).2.2.2.1]
  gB:=fun b=>by
   obtain ⟨f,hf,hk⟩:=hn b;unfold km;rw [hk]
   cases hx:nth st b with
   |none=>simp
   |some x=>simp [(hf x).2.2.1]
  gE:=fun b=>by
   obtain ⟨f,hf,hk⟩:=hn b;unfold w9;rw [hk]
   cases hx:nth st b with
   |none=>simp
   |some x=>
    simp only [Option.map_some];rw [(hf x).2.2.2.2.2]
    split<;>omega }
 refine ⟨{
  jy:=fun t=>by
   obtain ⟨f,hf,hk⟩:=hn t;have:dR bV t=dR st t:=by
    unfold dR;rw [hk]
    cases hx:nth st t with
    |none=>rfl
    |some x=>exact (hf x).1
   rw [this];exact mo.vV (h.jy t)
  boxes:=fun b sl cs hs hb=>by
   obtain ⟨f,hf,hk⟩:=hn b;rw [hk] at hs
   cases hx:nth st b with
   |none=>rw [hx] at hs;simp at hs
   |some x=>
    rw [hx] at hs;simp at hs;subst hs;rw [(hf x).2.1] at hb;exact (h.boxes b x cs hx hb).go mo rfl rfl rfl
  ca:=fun b i sl A hs hA=>by
   obtain ⟨f,hf,hk⟩:=hn b;rw [hk] at hs
   cases hx:nth st b with
   |none=>rw [hx] at hs;simp at hs
   |some x=>
    rw [hx] at hs;simp at hs;subst hs;rw [(hf x).2.2.2.2.1 i] at hA
    by_cases e:b=s∧i=j
    ·rw [if_pos e] at hA
     cases hq:nth x.ca i<;>simp [hq] at hA
    ·rw [if_neg e] at hA;exact h.ca b i x A hx hA
  owned:=h.owned
  free:=h.free
  kept:=h.kept
  old:=h.old
  iC:=fun p hp=>mo.iC (h.iC p hp)
  plain:=h.plain },fun sl A hs => ?_⟩
 obtain ⟨f,hf,hk⟩:=hn s;rw [hk] at hs
 cases hx:nth st s with
 |none=>rw [hx] at hs;simp at hs
 |some x=>
  rw [hx] at hs;simp at hs;subst hs;rw [(hf x).2.2.2.2.1 j,if_pos ⟨rfl,rfl⟩]
  cases nth x.ca j<;>simp
def Cz.gK (c:Cz) (d:Nat) (L:Loc) (B:Option Nat):Cz:=
 { bx:=c.bx,lc:=fun s j=>if s=d∧j=0 then L else c.lc s j,own:=fun k=>if B=some k then some (.sp d 0) else c.own k }
theorem Bp {st:St} {d:Option Nat} {A:nY} {bV:St} (h:(gK st d A).val=some bV) :
  ∃k s0,d=some k∧nth st k=some s0∧bV=tS (fun s=>{ s with v:=.one (.ref k 0 (s0.ag+1) .full),ca:=[some A],ag:=s0.ag+1 }) st k:=by
 unfold gK at h
 cases d with
 |none=>simp [N.val] at h
 |some k=>
  cases hs:nth st k with
  |none=>simp [hs,N.val] at h
  |some s0=>
   simp only [hs,N.val,Option.some.injEq] at h;exact ⟨k,s0,rfl,hs,h.symm⟩
theorem Gu {st:St} {d:Option Nat} {cs:List CV} {bV:St} (h:(lh st d cs).val=some bV) :
  ∃k s0,d=some k∧nth st k=some s0∧bV=tS (fun s=>{ s with v:=.one (.ptr k (s0.bg+1) 0),box:=some cs,bg:=s0.bg+1 }) st k:=by
 unfold lh at h
 cases d with
 |none=>simp [N.val] at h
 |some k=>
  cases hs:nth st k with
  |none=>simp [hs,N.val] at h
  |some s0=>
   simp only [hs,N.val,Option.some.injEq] at h;exact ⟨k,s0,rfl,hs,h.symm⟩
theorem Rel.fresh {w0:World} {mu:Mu} {c:Cz} {st:St} {a:Act} {w:World} (h:Rel w0 mu c st a w) {d:Nat} {s0:Sl} {r:RT} {xs:List (aO r)} {cur:Array Value} {ty cap:Nat}
  (nG:nth st d=some s0) (hd:d<a.tmps.size) (hle:xs.length≤cap) (qY:cap*r.width≤cur.size) {vs:List Value} (Hd:cj w c.ok r vs xs) (aph:cur.toList.take vs.length=vs) :
  ∃c',Rel w0 mu c' (tS (fun s=>{ s with v:=.one (.ref d 0 (s0.ag+1) .full),ca:=[some { r:=r,own:=true,xs:=xs }],ag:=s0.ag+1 }) st d)
   (a.put (some d) (.slice (some ⟨w.heap.size,0,none⟩) xs.length cap)) (w.alloc (.cells cur ty (0,0))):=by
 have Dc:=heap_alloc_new w (.cells cur ty (0,0));refine ⟨c.gK d (.at w.heap.size 0 cap) (some w.heap.size),h.place (B:=w.heap.size) (A:={ r:=r,own:=true,xs:=xs }) nG hd rfl ?_ ?_ (.inl ?_) (.inl (Nat.le_refl _)) (fun _=>by simp) (fun k hk _=>heap_alloc_old w _ k hk)
  ⟨rfl,rfl,rfl,by simp⟩ ?_ rfl ?_⟩
 ·intro s j mn;simp [Cz.gK,mn]
 ·intro k hk;simp only [Cz.gK];rw [if_neg (by intro e;exact hk (Option.some.inj e).symm)]
 ·simp [Cz.gK]
 ·have w7:lL w (w.alloc (.cells cur ty (0,0))) c.ok (c.gK d (.at w.heap.size 0 cap) (some w.heap.size)).ok:=Bm w _ _ _ (fun b hb je=>by
   unfold Cz.ok Cz.gK;simp only;rw [if_neg (by intro e;have:=Option.some.inj e;omega)];exact je)
  unfold fQ;simp only [Cz.gK,and_self,if_true];refine ⟨trivial,hle,⟨cur,ty,Dc,by simpa using qY⟩,?_⟩;refine (dY.sh rfl).2 ?_;refine xm 0 vs xs (cj.stays w7 vs xs Hd) (fun j v hv => ?_);rw [cell_of_row _ _ _ cur ty (0,0) Dc,Nat.zero_add];have hj:j<vs.length:=(List.getElem?_eq_some_iff.1 hv).1;rw [←aph,List.getElem?_take,if_pos hj] at hv;simpa using hv
 ·simp only [Cz.gK,and_self,if_true];exact ⟨_,cap,rfl,hle,by omega,fun _=>by simp⟩
theorem Ki {P:Program} {t ty e:TypeId} {i:TypeInfo} (ht:P.underlying t=some (.slice e)) (hi:P.info? e=some i) (w:World)
  (g o Ee MA:Nat) (cur:Array Value) (te:TypeId) (hg:w.heap[g]?=some (.cells cur te (0,0)))
  (a:Addr) (m c:Nat) (news:List Value) (hl:news.length=m*i.size) (HV:∀j u,news[j]?=some u→w.cell? (a.add j)=some u) (h1:∀u∈news,u.oneCell'=true)
  (yf:Ee+m≤MA) (qZ:o+Ee*i.size+news.length≤cur.size) :
  (Builtin.append_ #[t,t] ty #[.slice (some ⟨g,o,none⟩) Ee MA,.slice (some a) m c]).run P w=
   .ok (.slice (some ⟨g,o,none⟩) (Ee+m) MA) (w.setRow g (eo cur.toList (o+Ee*i.size) news).toArray):=by
 have hf:=run_firstCells_some (P:=P) w i.size m a m c news hl HV;have w7:=run_storeCells_at P g (o+Ee*i.size) te news 0 cur w hg (by simpa using qZ) h1;simp only [Nat.add_zero] at w7;simp [Builtin.append_,run_underlying ht,sizeOf,typeInfo,hi,Builtin.lenOf,yf,hf,Addr.add_mid,w7,eo]
theorem run_append_nothing {P:Program} {t ty e:TypeId} {i:TypeInfo} (ht:P.underlying t=some (.slice e)) (hi:P.info? e=some i) (w:World) (base:Option Addr) (Ee MA:Nat) (hle:Ee≤MA)
  (x:Value) (hx:(x=.slice none 0 0)∨∃a c,x=.slice (some a) 0 c) :
  (Builtin.append_ #[t,t] ty #[.slice base Ee MA,x]).run P w=.ok (.slice base Ee MA) w:=by
 rcases hx with rfl | ⟨a,c,rfl⟩
 ·cases base<;>simp [Builtin.append_,run_underlying ht,sizeOf,typeInfo,hi,Builtin.lenOf,Builtin.firstCells,hle,storeCells]
 ·cases base<;>simp [Builtin.append_,run_underlying ht,sizeOf,typeInfo,hi,Builtin.lenOf,Builtin.firstCells,hle,storeCells,loadCells,loadCellsFrom]
end Go.TM
namespace Go.TM
open Go Go.RowKit
theorem dY.WL {c:Cz} {w:World} {l:Lb} {A:nY} {b off:Nat} (hm:A.md=.sh) {ys:List (aO A.r)} (h:∀(i:Nat) x,ys[i]?=some x→fP w c.ok A.r b (off+i*A.r.width) x):dY c w l { A with xs:=ys } b off:=by
 unfold dY;show match A.md with | .sh=>_
 rw [hm];exact h
theorem TU {P:Program} {T:pA} (hT:j7 P T) {w0:World} {mu:Mu} {c:Cz} {st:St} {a:Act} {w:World} (h:Rel w0 mu c st a w)
  {t:Nat} {x v:V} {ux uv:Value} (hx:iB c st w x ux) (hv:iB c st w v uv) {bV:St} (hs:(xK T st t x v).val=some bV) :
  ∃w',(Instr.storeAt t ux uv).run P w=.ok () w'∧∃c',Rel w0 mu c' bV a w':=by
 cases hn:T.cells t with
 |none=>cases x with
  |one y=>cases y<;>simp [xK,hn,N.val] at hs
  |agg _=>simp [xK,N.val] at hs
  |rb _=>simp [xK,N.val] at hs
 |some n=>cases x with
  |agg _=>simp [xK,N.val] at hs
  |rb _=>simp [xK,N.val] at hs
  |one y=>cases y with
   |bad | int _ _ | bool _ | str _ | gJ | Qk | shr _ _ | nn _ _ | ref _ _ _ _ | oe _ _ _ | yc _ _ _ | fn _ _ _=>simp [xK,N.val] at hs
   |ptr b g off=>
    simp only [xK,hn] at hs
    cases hb:gi st b g with
    |none=>simp [hb,N.val] at hs
    |some cs=>
     simp only [hb] at hs;obtain ⟨hc,hs⟩:=jK hs;rw [Bool.and_eq_true] at hc
     cases hp:putCells cs off v.cells with
     |none=>simp [hp,N.val] at hs
     |some l=>
      simp only [hp,N.val,Option.some.injEq] at hs;subst hs;obtain ⟨hle,rfl⟩:=CY hp;obtain ⟨sl,HJ,TR,HK⟩:=ko hb;obtain ⟨ho,vs,ty,hh,hl⟩:=h.boxes b sl cs HJ HK;obtain ⟨AG,N6⟩:=hv.cells hc.1;have hu:=hx.2.2 cs hb;subst hu;have hlen:uv.cells.toList.length=n:=by rw [←AG.1];exact Nat.eq_of_beq_eq_true hc.2
      have K2:=hl.1;have aan:=AG.1;refine ⟨_,Bo hT hn w (c.bx b) off uv hlen N6 hh (by simp at K2 ⊢;omega),c,?_⟩;refine h.WJ HJ HK hh ?_;simpa using hl.eo AG off hle
   |N1 a' j g i off=>
    simp only [xK,hn] at hs
    cases hA:cT st a' j g with
    |none=>simp [hA,N.val] at hs
    |some A=>
     simp only [hA] at hs;obtain ⟨hc,hz⟩:=jK hs;clear hs;rw [Bool.and_eq_true,Bool.and_eq_true,Bool.and_eq_true] at hc;obtain ⟨⟨⟨api,kM⟩,abN⟩,Qu⟩:=hc;have Qu:0<n:=by simp [Nat.blt] at Qu;omega
     obtain ⟨sl,HJ,TR,HK⟩:=dF hA;have Kh:=h.ca a' j sl A HJ HK;obtain ⟨hi,b,o,cap,nZ,hu⟩:=hx.2.2 A hA;have acW:=Kh;unfold fQ at acW;rw [nZ] at acW;obtain ⟨ho,CK,⟨cur,ty,hg,qY⟩,tU⟩:=acW;rw [kM] at ho;obtain ⟨AG,N6⟩:=hv.cells api;have hlen:uv.cells.toList.length=n:=by rw [←AG.1];exact Nat.eq_of_beq_eq_true abN
     have Qv:o+i*A.r.width+A.r.width≤cur.size:=by
      have:(i+1)*A.r.width≤cap*A.r.width:=Nat.mul_le_mul_right _ (by omega);rw [Nat.add_mul] at this;omega
     subst hu
     cases hw:Nat.beq n A.r.width&&A.r.qq&&Nat.beq off 0 with
     |false=>
      rw [hw] at hz;simp only [cond_false] at hz
      cases hm:A.md with
      |sh=>
       have tU:=(dY.sh hm).1 tU
       cases WI:A.xs[i]? with
       |none=>simp [WI,N.val] at hz
       |some x0=>
        simp only [WI] at hz;change (match vT A.r x0 off v.cells with | some y=>N.done (fo st a' j (some (A.put (A.xs.set i y)))) | none=>N.fail).val=some bV at hz
        cases hp:vT A.r x0 off v.cells with
        |none=>simp [hp,N.val] at hz
        |some y=>
         simp only [hp,N.val,Option.some.injEq] at hz;subst hz;have aan:=AG.1;have hbd:off+uv.cells.toList.length≤A.r.width:=by
          rw [←aan];exact Ec A.r x0 off v.cells hp (by intro e;rw [e] at aan;simp at aan;simp at hlen;omega)
         refine ⟨_,Bo hT hn w b (o+i*A.r.width+off) uv hlen N6 hg (by omega),c,?_⟩;exact h.HR HJ HK kM nZ hg (by rw [List.size_toArray,np (by simp at hbd ⊢;omega)];simp) (by simp)
          (dY.WL hm (Ed ho hg tU WI hbd Qv (fun vs Hd=>HN A.r x0 off v.cells y vs _ (by rw [eG.length A.r vs x0 Hd];exact hbd) hp AG Hd)))
     |true=>
      rw [hw] at hz;simp only [cond_true] at hz;rw [Bool.and_eq_true,Bool.and_eq_true] at hw;have hnW:=Nat.eq_of_beq_eq_true hw.1.1;have apk:=Nat.eq_of_beq_eq_true hw.2;subst apk;have TV:uv.cells.toList.length=A.r.width:=by rw [hlen,hnW]
      have apl:∀vs:List Value,vs.length=A.r.width→eo vs 0 uv.cells.toList=uv.cells.toList:=by
       intro vs K2;unfold eo;rw [List.drop_eq_nil_of_le (by omega)];simp
      cases hm:A.md with
      |sh=>
       have tU:=(dY.sh hm).1 tU;obtain ⟨x1,m,h1,h2,h3⟩:=D9 h A.r v.cells _ AG _ hz;obtain ⟨hma,h1⟩:=jK h1
       cases WI:A.xs[i]? with
       |none=>simp [WI,N.val] at h1
       |some x0=>
        simp only [WI] at h1;change some _=some bV at h1;obtain rfl:=Option.some.inj h1;have hnm:(a',j)∉m:=by
         intro Ef;have:=List.all_eq_true.1 hma _ Ef;simp at this
        have hf:=h.freeze m;obtain ⟨sl',g1,g2⟩:=HS m HJ HK hnm;have acX:(c.drop m).lc a' j=.at b o cap:=by rw [(Cz.Sr m c).1];exact nZ
        have ho':(c.drop m).own b=some (.sp a' j):=Cz.K1 m c b ho (fun p hp=>by
         intro e;injection e with e1 e2;exact hnm (by rw [e1,e2];exact hp))
        have ajF:∀(i:Nat) x,A.xs[i]?=some x→fP w (c.drop m).ok A.r b (o+i*A.r.width) x:=fun i x hx=>
         fP.stays (Fw.freeze w m c st).stays _ _ _ x rfl (tU i x hx)
        have Qw:eG w (c.drop m).ok A.r uv.cells.toList x1:=h3 _ (fun k hk=>Cz.D8 m c k hk) (fun p hp k hk=>Cz.Hr m c k hk hp);refine ⟨_,Bo hT hn w b (o+i*A.r.width+0) uv hlen N6 hg (by omega),c.drop m,?_⟩;refine hf.HR g1 g2 kM acX hg (by rw [List.size_toArray,np (by simp at TV ⊢;omega)];simp) (by simp) (dY.WL hm ?_);refine Ed ho' hg ajF WI (k:=0) (by omega) Qv (fun vs Hd => ?_);rw [apl vs (eG.length A.r vs x0 Hd)];exact Qw
end Go.TM
namespace Go.TM
open Go Go.RowKit
theorem Fw.heap {c:Cz} {st:St} {w w':World} (hh:w'.heap=w.heap):Fw c st w c st w' where
 stays:=⟨by rw [hh];exact Nat.le_refl _,fun b _ _=>by rw [hh],fun _ _ h=>h⟩
 refs _ _ _ A' _ h:=⟨A',h,rfl,rfl,rfl,fun _=>⟨rfl,fun _ _ _ _=>by rw [hh]⟩⟩
 HI _ _ s7 _ h:=⟨⟨s7,h⟩,rfl⟩
 gA _:=Nat.le_refl _
 gB _:=Nat.le_refl _
 gE _:=Nat.le_refl _
theorem Rel.heap {w0:World} {mu:Mu} {c:Cz} {st:St} {a:Act} {w w':World} (h:Rel w0 mu c st a w) (hh:w'.heap=w.heap) (ho:w'.os=w.os∧w'.tape=w.tape∧w'.output=w.output) :
  Rel w0 mu c st a w' where
 jy t:=(Fw.heap hh).vV (h.jy t)
 boxes s sl cs hs hb:=(h.boxes s sl cs hs hb).go (Fw.heap hh) rfl rfl (by rw [hh])
 ca s j sl A hs hA:=(h.ca s j sl A hs hA).go (Fw.heap (c:=c) (st:=st) hh).stays rfl (fun b _=>⟨by rw [hh],rfl⟩)
 owned b l hb:=by rw [hh];exact h.owned b l hb
 free:=h.free
 kept:=⟨ho.1.trans h.kept.1,ho.2.1.trans h.kept.2.1,ho.2.2.trans h.kept.2.2.1,by rw [hh];exact h.kept.2.2.2⟩
 old k hk hm:=by rw [hh];exact h.old k hk hm
 iC p hp:=(Fw.heap hh).iC (h.iC p hp)
 plain:=h.plain
theorem Rel.drew {w0:World} {mu:Mu} {c:Cz} {st:St} {a:Act} {w:World} (h:Rel w0 mu c st a w):Rel w0 mu c st a w.drew:=h.heap rfl ⟨rfl,rfl,rfl⟩
theorem lC.length:(r:RT)→(vs:List Value)→lC r vs→vs.length=r.width
 |.nil,vs,h=>by simp only [lC] at h;subst h;rfl
 |.cons (.int _) r,vs,⟨l,h,h'⟩=>by subst h;simp [RT.width,lC.length r l h']
 |.cons .bool r,vs,⟨l,h,h'⟩=>by subst h;simp [RT.width,lC.length r l h']
 |.cons .str r,vs,⟨l,h,h'⟩=>by subst h;simp [RT.width,lC.length r l h']
 |.cons (.sl _) r,vs,⟨l,h,h'⟩=>by subst h;simp [RT.width,lC.length r l h']
theorem RdS.cells {w:World} {ok:Nat→Prop} {r:RT} {u:Value} {ys:List (aO r)} (h:RdS w ok r u ys) :
  (ys=[]∧(u=.slice none 0 0∨∃a c,u=.slice (some a) 0 c))∨
  (ys≠[]∧∃a c vs,u=.slice (some a) ys.length c∧cj w ok r vs ys∧∀(j:Nat) v,vs[j]?=some v→w.cell? (a.add j)=some v):=by
 rcases h with ⟨rfl,rfl⟩ | ⟨a,c,rfl,hs,hr⟩
 ·exact .inl ⟨rfl,.inl rfl⟩
 ·by_cases e:ys=[]
  ·subst e;exact .inl ⟨rfl,.inr ⟨a,c,rfl⟩⟩
  ·obtain ⟨vs,h1,h2⟩:=oh a.block a.off ys hr;refine .inr ⟨e,a,c,vs,rfl,h2,fun j v hv => ?_⟩;have:a=⟨a.block,a.off,none⟩:=by have:=hs e;cases a;simp at this ⊢;exact this
   rw [this,Addr.add_mid];exact h1 j v hv
theorem HW {P:Program} {T:pA} (hT:j7 P T) {w:World} {t ty:Nat} {r:RT} {bytes:Nat} (ht:T.elem t=some (r,bytes)) {ux uy:Value} {nx ny:Nat} {vx vy:List Value} {xb:Option Nat}
  (hb:(nx+ny)*bytes≤lim) (WM:vx.length=nx*r.width) (WN:vy.length=ny*r.width) (oy:∀u∈vy,u.oneCell'=true)
  (hy:(ny=0∧(uy=.slice none 0 0∨∃a c,uy=.slice (some a) 0 c))∨(ny≠0∧∃a c,uy=.slice (some a) ny c∧∀(j:Nat) v,vy[j]?=some v→w.cell? (a.add j)=some v))
  (hx:(xb=none∧ux=.slice none 0 0∧nx=0)∨∃b off lo cap n ad cur te,xb=some b∧ux=.slice (some ad) nx n∧nx≤n∧lo+n≤cap∧(n≠0→ad=⟨b,off+lo*r.width,none⟩)∧
   w.heap[b]?=some (.cells cur te (0,0))∧off+cap*r.width≤cur.size∧w.rangeAt b (off+lo*r.width) vx) :
  ∃v w',(Builtin.append_ #[t,t] ty #[ux,uy]).run P w=.ok v w'∧(w'.os=w.os∧w'.tape=w.tape∧w'.output=w.output∧w.heap.size≤w'.heap.size)∧
   ((nx=0∧ny=0∧w'=w∧v=.slice none 0 0)∨∃B o cp cur te,v.oneCell'=true∧pX (.at B o cp) r.width 0 (nx+ny) v∧nx+ny≤cp∧w'.heap[B]?=some (.cells cur te (0,0))∧o+cp*r.width≤cur.size∧
    w'.rangeAt B o (vx++vy)∧(∀k,k<w.heap.size→k≠B→w'.heap[k]?=w.heap[k]?)∧(w.heap.size≤B∨xb=some B)):=by
 obtain ⟨e,i,z,hu,hi,qY,He,hby,N7,hz,MB⟩:=hT.elem t r bytes ht;have CZ:z.cells.size=r.width:=by have:=lC.length r _ MB;simpa using this
 have MC:(nx+ny)*bytes≤140737488355328:=by unfold lim at hb;omega
 have awy:nx+ny≤140737488355328:=by
  have:(nx+ny)*1≤(nx+ny)*bytes:=Nat.mul_le_mul_left _ N7;omega
 have grown:∀(old:Nat) (run:(Builtin.append_ #[t,t] ty #[ux,uy]).run P w=.ok (.slice (some ⟨w.heap.size,0,none⟩) (nx+ny) (grownCap w (nx+ny) old e)) (w.drew.alloc (.cells (vx.toArray++vy.toArray++Builtin.zeroCells z.cells (grownCap w (nx+ny) old e-(nx+ny))) e (0,0)))),
   ∃v w',(Builtin.append_ #[t,t] ty #[ux,uy]).run P w=.ok v w'∧(w'.os=w.os∧w'.tape=w.tape∧w'.output=w.output∧w.heap.size≤w'.heap.size)∧
   ((nx=0∧ny=0∧w'=w∧v=.slice none 0 0)∨∃B o cp cur te,v.oneCell'=true∧pX (.at B o cp) r.width 0 (nx+ny) v∧nx+ny≤cp∧w'.heap[B]?=some (.cells cur te (0,0))∧o+cp*r.width≤cur.size∧
    w'.rangeAt B o (vx++vy)∧(∀k,k<w.heap.size→k≠B→w'.heap[k]?=w.heap[k]?)∧(w.heap.size≤B∨xb=some B)):=by
  intro old run;have hge:=grownCap_ge w (nx+ny) old e;have hmul:grownCap w (nx+ny) old e*r.width=(nx+ny)*r.width+(grownCap w (nx+ny) old e-(nx+ny))*r.width:=by
   rw [←Nat.add_mul];congr 1;omega
  have Dc:=heap_alloc_new w.drew (.cells (vx.toArray++vy.toArray++Builtin.zeroCells z.cells (grownCap w (nx+ny) old e-(nx+ny))) e (0,0));refine ⟨_,_,run,⟨rfl,rfl,rfl,by simp⟩,.inr ⟨w.heap.size,0,grownCap w (nx+ny) old e,_,e,rfl,⟨_,_,rfl,hge,by omega,fun _=>by simp⟩,hge,Dc,?_,?_,fun k hk _=>heap_alloc_old w.drew _ k hk,.inl (Nat.le_refl _)⟩⟩
  ·rw [Array.size_append,Array.size_append,List.size_toArray,List.size_toArray,size_zeroCells,CZ,WM,WN,hmul,Nat.add_mul];omega
  ·intro q v hv;rw [show w.heap.size=w.drew.heap.size from rfl,cell_of_row _ _ _ _ e (0,0) Dc,Nat.zero_add];have hq:q<(vx++vy).length:=(List.getElem?_eq_some_iff.1 hv).1;have e1:(vx.toArray++vy.toArray++Builtin.zeroCells z.cells (grownCap w (nx+ny) old e-(nx+ny))).toList=
     (vx++vy)++(Builtin.zeroCells z.cells (grownCap w (nx+ny) old e-(nx+ny))).toList:=by simp
   rw [←Array.getElem?_toList,e1,List.getElem?_append_left hq];exact hv
 rcases hy with ⟨rfl,hyn⟩ | ⟨acY,ay,cy,rfl,hcy⟩
 ·-- nothing is put behind
  have apm:vy=[]:=by simpa using WN
  subst apm;rcases hx with ⟨_,rfl,rfl⟩ | ⟨b,off,lo,cap,n,ad,cur,te,hxb,rfl,hle,CK,HX,hg,ac0,hr⟩
  ·exact ⟨_,w,run_append_nothing hu hi w none 0 0 (Nat.le_refl _) uy hyn,⟨rfl,rfl,rfl,Nat.le_refl _⟩,.inl ⟨rfl,rfl,rfl,rfl⟩⟩
  ·refine ⟨_,w,run_append_nothing hu hi w (some ad) nx n hle uy hyn,⟨rfl,rfl,rfl,Nat.le_refl _⟩,.inr ⟨b,off+lo*r.width,n,cur,te,rfl,⟨ad,n,rfl,hle,by omega,fun hn=>by rw [HX hn];simp⟩,hle,hg,?_,by simpa using hr,fun _ _ _=>rfl,.inr hxb⟩⟩;have:(lo+n)*r.width≤cap*r.width:=Nat.mul_le_mul_right _ CK;rw [Nat.add_mul] at this;omega
 ·have hyl:0<ny:=Nat.pos_of_ne_zero acY;rcases hx with ⟨_,rfl,rfl⟩ | ⟨b,off,lo,cap,n,ad,cur,te,hxb,rfl,hle,CK,HX,hg,ac0,hrx⟩
  ·have apn:vx=[]:=by simpa using WM
   subst apn;have hr:=run_append_nil (P:=P) w t ty e i z hu hi hz ay ny cy vy (by rw [WN,qY]) hcy hyl (by omega) (by rw [hby];simp at MC;omega);refine grown 0 ?_;simpa using hr
  ·by_cases yf:nx+ny≤n
   ·-- it ajH ax7 TG room acQ there is
    have Qu:n≠0:=by omega
    rw [HX Qu];have Qv:off+lo*r.width+n*r.width≤cur.size:=by
     have:(lo+n)*r.width≤cap*r.width:=Nat.mul_le_mul_right _ CK;rw [Nat.add_mul] at this;omega
    have qZ:off+lo*r.width+nx*r.width+vy.length≤cur.size:=by
     have:(nx+ny)*r.width≤n*r.width:=Nat.mul_le_mul_right _ yf;rw [Nat.add_mul] at this;omega
    have hr:=Ki (P:=P) (ty:=ty) hu hi w b (off+lo*r.width) nx n cur te hg ay ny cy vy (by rw [WN,qY]) hcy oy yf (by rw [qY];exact qZ);rw [qY] at hr;have hg':=setRow_heap w b cur (eo cur.toList (off+lo*r.width+nx*r.width) vy).toArray te (0,0) hg;have yW:∀k,k≠b→(w.setRow b (eo cur.toList (off+lo*r.width+nx*r.width) vy).toArray).heap[k]?=w.heap[k]?:=fun k hk=>setRow_other w _ k _ hk
    refine ⟨_,_,hr,⟨rfl,rfl,rfl,by simp [World.setRow]⟩,.inr ⟨b,off+lo*r.width,n,_,te,rfl,⟨_,n,rfl,yf,by omega,fun _=>by simp⟩,yf,hg',?_,?_,fun k _ hk=>yW k hk,.inr hxb⟩⟩
    ·rw [List.size_toArray,np (by simpa using qZ)];simpa using Qv
    ·intro q v hv;rw [cell_of_row _ _ _ _ te (0,0) hg'];simp only [List.getElem?_toArray];rw [su (by simpa using qZ)];rw [List.getElem?_append] at hv
     by_cases hq:q<vx.length
     ·rw [if_pos hq] at hv;rw [if_neg (by omega)];have:=hrx q v hv;rw [cell_of_row w b _ cur te (0,0) hg] at this;simpa using this
     ·rw [if_neg hq] at hv;have N8:q-vx.length<vy.length:=(List.getElem?_eq_some_iff.1 hv).1;rw [if_pos (by omega),show off+lo*r.width+q-(off+lo*r.width+nx*r.width)=q-vx.length by omega];exact hv
   ·-- it ajt
    have hr:=run_append_grow (P:=P) w t ty e i z hu hi hz ad nx n vx (by rw [WM,qY]) (fun q v hv=>by
      have hq:q<vx.length:=(List.getElem?_eq_some_iff.1 hv).1;have Qu:n≠0:=by
       intro e0;have:nx=0:=by omega
       rw [this] at WM;simp at WM;rw [WM] at hq;simp at hq
      rw [HX Qu,Addr.add_mid];exact hrx q v hv)
     ay ny cy vy (by rw [WN,qY]) hcy (by omega) (by omega) (growslice_fits (by omega) (by rw [hby];exact MC))
    exact grown n hr
theorem K3 {P:Program} {T:pA} (hT:j7 P T) {w0:World} {mu:Mu} {c:Cz} {HP:St} {a:Act} {w:World} (h1:Rel w0 mu c HP a w)
  {t ty:Nat} {r:RT} {bytes:Nat} (ht:T.elem t=some (r,bytes)) {ux uy:Value} {xs ys:List (aO r)} {d:Nat} {s0:Sl} (nG:nth HP d=some s0) (hd:d<a.tmps.size)
  (hb:(xs.length+ys.length)*bytes≤lim) (hy:RdS w c.ok r uy ys)
  (hx:(ux=.slice none 0 0∧xs=[])∨∃s j b off lo cap n ad,c.own b=some (.sp s j)∧(∀sl A,nth HP s=some sl→nth sl.ca j≠some (some A))∧
   ux=.slice (some ad) xs.length n∧xs.length≤n∧lo+n≤cap∧(n≠0→ad=⟨b,off+lo*r.width,none⟩)∧
   (∃cur ty,w.heap[b]?=some (.cells cur ty (0,0))∧off+cap*r.width≤cur.size)∧∀(i:Nat) x,xs[i]?=some x→fP w c.ok r b (off+(lo+i)*r.width) x) :
  ∃v w',(Builtin.append_ #[t,t] ty #[ux,uy]).run P w=.ok v w'∧
   ∃c',Rel w0 mu c' (tS (fun s=>{ s with v:=.one (.ref d 0 (s0.ag+1) .full),ca:=[some { r:=r,own:=true,xs:=xs++ys }],ag:=s0.ag+1 }) HP d) (a.put (some d) v) w':=by
 obtain ⟨vy,WN,hy'⟩:∃vy,cj w c.ok r vy ys∧((ys.length=0∧(uy=.slice none 0 0∨∃a c,uy=.slice (some a) 0 c))∨(ys.length≠0∧∃a c,uy=.slice (some a) ys.length c∧∀(j:Nat) v,vy[j]?=some v→w.cell? (a.add j)=some v)):=by
  rcases hy.cells with ⟨rfl,hyn⟩ | ⟨acY,ay,cy,vy,rfl,WN,hcy⟩
  ·exact ⟨[],rfl,.inl ⟨rfl,hyn⟩⟩
  ·exact ⟨vy,WN,.inr ⟨fun h=>acY (List.length_eq_zero_iff.1 h),ay,cy,rfl,hcy⟩⟩
 obtain ⟨vx,xb,WM,hxb,Sq⟩:∃(vx:List Value) (xb:Option Nat),cj w c.ok r vx xs∧(∀b,xb=some b→∃s j,c.own b=some (.sp s j)∧∀sl A,nth HP s=some sl→nth sl.ca j≠some (some A))∧
   ((xb=none∧ux=.slice none 0 0∧xs.length=0)∨∃b off lo cap n ad cur te,xb=some b∧ux=.slice (some ad) xs.length n∧xs.length≤n∧lo+n≤cap∧(n≠0→ad=⟨b,off+lo*r.width,none⟩)∧
   w.heap[b]?=some (.cells cur te (0,0))∧off+cap*r.width≤cur.size∧w.rangeAt b (off+lo*r.width) vx):=by
  rcases hx with ⟨rfl,rfl⟩ | ⟨s,j,b,off,lo,cap,n,ad,kM,ajI,rfl,hle,CK,HX,⟨cur,te,hg,ac0⟩,tU⟩
  ·exact ⟨[],none,rfl,(fun _ e=>by cases e),.inl ⟨rfl,rfl,rfl⟩⟩
  ·obtain ⟨vx,hrx,WM⟩:=oh b (off+lo*r.width) xs (fun i x hx=>by
    have:=tU i x hx;rw [Nat.add_mul] at this;rw [show off+lo*r.width+i*r.width=off+(lo*r.width+i*r.width) by omega];exact this)
   exact ⟨vx,some b,WM,fun b' e=>by cases e;exact ⟨s,j,kM,ajI⟩,.inr ⟨b,off,lo,cap,n,ad,cur,te,rfl,rfl,hle,CK,HX,hg,ac0,hrx⟩⟩
 obtain ⟨v,w',vY,ye,MD⟩:=HW hT (ty:=ty) ht hb (cj.length vx xs WM) (cj.length vy ys WN) (cj.mQ vy ys WN) hy' Sq;refine ⟨v,w',vY,?_⟩;rcases MD with ⟨e1,e2,rfl,rfl⟩ | ⟨B,o,cp,cur,te,v1,v2,hle,hg,qY,hr,yW,hB⟩
 ·have:xs=[]:=List.length_eq_zero_iff.1 e1;subst this;have:ys=[]:=List.length_eq_zero_iff.1 e2;subst this;refine ⟨c.gK d .nil none,h1.place (B:=w'.heap.size) (A:={ r:=r,own:=true,xs:=[]++[] }) nG hd rfl ?_ (fun k _=>by simp [Cz.gK]) (.inr ⟨by simp [Cz.gK],rfl⟩) (.inl (Nat.le_refl _)) ?_ (fun _ _ _=>rfl) ⟨rfl,rfl,rfl,Nat.le_refl _⟩ ?_ rfl ?_⟩
  ·intro s j mn;simp [Cz.gK,mn]
  ·intro hc;simp [Cz.gK] at hc;have:=h1.yU hc;omega
  ·unfold fQ;simp [Cz.gK]
  ·simp [Cz.gK,pX]
 ·have ac1:B<w'.heap.size:=(Array.getElem?_eq_some_iff.1 hg).1;have abO:w.heap.size≤B∨∃s j,c.own B=some (.sp s j)∧(s=d∨∀sl A,nth HP s=some sl→nth sl.ca j≠some (some A)):=by
   rcases hB with hB | hB
   ·exact .inl hB
   ·obtain ⟨s,j,q1,q2⟩:=hxb B hB;exact .inr ⟨s,j,q1,.inr q2⟩
  have hnB:∀k,k<w.heap.size→c.ok k→k≠B:=by
   rintro k hk je rfl
   rcases abO with hB | ⟨s,j,hB,_⟩
   ·omega
   ·unfold Cz.ok at je;rw [hB] at je;cases je
  have w7:lL w w' c.ok (c.gK d (.at B o cp) (some B)).ok:=⟨ye.2.2.2,fun k hk je=>yW k hk (hnB k hk je),fun k hk je=>by
   unfold Cz.ok Cz.gK;simp only;rw [if_neg]
   ·exact je
   ·intro e';exact hnB k hk je (Option.some.inj e').symm⟩
  refine ⟨c.gK d (.at B o cp) (some B),h1.place (B:=B) (A:={ r:=r,own:=true,xs:=xs++ys }) nG hd rfl ?_ ?_ (.inl (by simp [Cz.gK])) abO (fun _=>ac1) yW ye ?_ v1 ?_⟩
  ·intro s j mn;simp [Cz.gK,mn]
  ·intro k hk;simp only [Cz.gK];rw [if_neg (by intro e';exact hk (Option.some.inj e').symm)]
  ·unfold fQ;simp only [Cz.gK,and_self,if_true];refine ⟨trivial,by simpa using hle,⟨cur,te,hg,qY⟩,(dY.sh rfl).2 ?_⟩;exact xm _ (vx++vy) (xs++ys) (cj.append vx vy xs ys (cj.stays w7 _ _ WM) (cj.stays w7 _ _ WN)) hr
  ·simp only [Cz.gK,and_self,if_true,List.length_append];exact v2
end Go.TM
namespace Go.TM
open Go Go.RowKit
theorem yg {b:Bool} {t e:N} {y:St} (h:(N.br b t e).val=some y):(b=true∧t.val=some y)∨(b=false∧e.val=some y):=by
 cases b
 ·exact .inr ⟨rfl,h⟩
 ·exact .inl ⟨rfl,h⟩
theorem j8 {b:Bool} {t:N} {y:St} (h:(N.br b t N.fail).val=some y):b=true∧t.val=some y:=by
 rcases yg h with h | ⟨_,h⟩
 ·exact h
 ·simp [N.val] at h
theorem Qx {P:Program} {T:pA} (hT:j7 P T) {w0:World} {mu:Mu} {c:Cz} {st:St} {a:Act} {w:World} (h:Rel w0 mu c st a w)
  {d:Option Nat} {t ty:Nat} {x y:V} {ux uy:Value} (hx:iB c st w x ux) (hy:iB c st w y uy) {bV:St} (hv:(Mt T st d t x y).val=some bV) (hd:∀k,d=some k→k<a.tmps.size) :
  ∃v w',(Builtin.append_ #[t,t] ty #[ux,uy]).run P w=.ok v w'∧∃c',Rel w0 mu c' bV (a.put d v) w':=by
 unfold Mt at hv
 cases ht:T.elem t with
 |none=>simp [ht,N.val] at hv
 |some p=>
  obtain ⟨r,bytes⟩:=p;simp only [ht] at hv;have tail:∀(xs:List (aO r)) (used:List (Nat×Nat)),(match y with
     |.one c=>pW st r c fun ys=>N.br (Nat.ble ((xs.length+ys.length)*bytes) lim)
       (gK (used.foldl (fun (s:St) (p:Nat×Nat)=>fo s p.1 p.2 none) st) d { r:=r,own:=true,xs:=xs++ys }) .fail
     |_=>N.fail).val=some bV→
    ∃ys k s0,d=some k∧nth (used.foldl (fun (s:St) (p:Nat×Nat)=>fo s p.1 p.2 none) st) k=some s0∧(xs.length+ys.length)*bytes≤lim∧RdS w c.ok r uy ys∧
     bV=tS (fun s=>{ s with v:=.one (.ref k 0 (s0.ag+1) .full),ca:=[some { r:=r,own:=true,xs:=xs++ys }],ag:=s0.ag+1 }) (used.foldl (fun (s:St) (p:Nat×Nat)=>fo s p.1 p.2 none) st) k:=by
   intro xs used hv
   cases y with
   |agg _=>simp [N.val] at hv
   |rb _=>simp [N.val] at hv
   |one cy=>
    obtain ⟨ys,hv,hr⟩:=Gt h hy hv;obtain ⟨hb,hv⟩:=j8 hv;obtain ⟨k,s0,hk,nG,w7⟩:=Bp hv;exact ⟨ys,k,s0,hk,nG,Nat.le_of_ble_eq_true hb,hr,w7⟩
  cases x with
  |agg _=>simp [N.val] at hv
  |rb _=>simp [N.val] at hv
  |one cx=>cases cx with
   |gJ=>
    obtain ⟨ys,k,s0,rfl,nG,hb,hr,rfl⟩:=tail [] [] hv;exact K3 hT h ht nG (hd k rfl) hb hr (.inl ⟨hx,rfl⟩)
   |ref a' j g vw=>
    simp only at hv
    cases hA:cT st a' j g with
    |none=>simp [hA,N.val] at hv
    |some A=>
     simp only [hA] at hv;obtain ⟨kM,hv⟩:=jK hv;have Hq:A.md=.sh:=by cases A.md;rfl
     cases hc:ek r A.xs with
     |none=>simp [hc,N.val] at hv
     |some xs=>
      simp only [hc] at hv;obtain ⟨e,he⟩:=dh hc;subst e;simp only at he;subst he;obtain ⟨ys,k,s0,rfl,nG,hb,hr,rfl⟩:=tail (vw.app A.xs) [(a',j)] hv;obtain ⟨Qe,Hs⟩:=h.kill a' j;obtain ⟨sl,HJ,TR,HK⟩:=dF hA;have Kh:=h.ca a' j sl A HJ HK;have hs:=hx.2.2 A hA;refine K3 hT Qe ht nG (hd k rfl) hb hr ?_
      cases hl:c.lc a' j with
      |nil=>
       unfold pX at hs;rw [hl] at hs;exact .inl ⟨hs.1,List.length_eq_zero_iff.1 hs.2⟩
      |«at» b off cap=>
       unfold pX at hs;rw [hl] at hs;obtain ⟨ad,n,rfl,hn,CK,HX⟩:=hs;unfold fQ at Kh;rw [hl] at Kh;obtain ⟨ho,_,apo,tU⟩:=Kh;rw [kM] at ho;exact .inr ⟨a',j,b,off,vw.lo,cap,n,ad,ho,Hs,rfl,hn,CK,HX,apo,fun i x hi=>(dY.sh Hq).1 tU _ x (View.Cl vw A.xs hi)⟩
   |_=>simp [N.val] at hv
theorem vZ {w:World} {ok:Nat→Prop}:(r:RT)→(vs:List Value)→lC r vs→eG w ok r vs (xj r)
 |.nil,vs,h=>h
 |.cons (.int k) r,vs,⟨l,h,h'⟩=>⟨.int k 0,l,h,yS.2 rfl,vZ r l h'⟩
 |.cons .bool r,vs,⟨l,h,h'⟩=>⟨.bool false,l,h,Ck.2 rfl,vZ r l h'⟩
 |.cons .str r,vs,⟨l,h,h'⟩=>⟨.string ByteArray.empty,l,h,Ft.2 rfl,vZ r l h'⟩
 |.cons (.sl q) r,vs,⟨l,h,h'⟩=>⟨.slice none 0 0,l,h,(si _ _ _ _ _).2 (.inl ⟨rfl,rfl⟩),vZ r l h'⟩
theorem cj.replicate {w:World} {ok:Nat→Prop} {r:RT} {vs:List Value} {x:aO r} (h:eG w ok r vs x):(n:Nat)→cj w ok r ((List.replicate n vs).flatten) (List.replicate n x)
 |0=>rfl
 |n+1=>⟨vs,(List.replicate n vs).flatten,by simp [List.replicate_succ],h,cj.replicate h n⟩
theorem HY (z:Array Value) (n W:Nat) (hz:z.size=W) (hW:0<W):((Array.range (n*W)).map (z[· % z.size]!)).toList=(List.replicate n z.toList).flatten:=by
 subst hz
 induction n with
 |zero=>simp
 |succ n ih=>
  have e1:((Array.range ((n+1)*z.size)).map (z[· % z.size]!)).toList=((Array.range (n*z.size)).map (z[· % z.size]!)).toList++z.toList:=by
   apply List.ext_getElem
   ·simp [Nat.add_mul]
   ·intro k h1 h2;simp only [Array.getElem_toList,Array.getElem_map,Array.getElem_range];rw [List.getElem_append]
    by_cases hk:k<n*z.size
    ·rw [dif_pos (by simpa using hk)];simp
    ·rw [dif_neg (by simpa using hk)];have Hs:k<(n+1)*z.size:=by simpa using h1
     rw [Nat.add_mul,Nat.one_mul] at Hs;have hm:k % z.size=k-n*z.size:=by
      have:k=(k-n*z.size)+n*z.size:=by omega
      rw [this,Nat.add_mul_mod_self_right,Nat.mod_eq_of_lt (by omega)];omega
     have dB:k-n*z.size<z.size:=by omega
     simp [hm,dB]
  rw [e1,ih];rw [List.replicate_succ',List.flatten_append];simp
theorem WO {P:Program} {T:pA} (hT:j7 P T) {w0:World} {mu:Mu} {c:Cz} {st:St} {a:Act} {w:World} (h:Rel w0 mu c st a w)
  {d:Option Nat} {t:Nat} {x y:V} {ux uy:Value} (hx:iB c st w x ux) (hy:iB c st w y uy) {bV:St} (hv:(Wz T st d t x y).val=some bV) (hd:∀k,d=some k→k<a.tmps.size) :
  ∃v w',(Instr.makeSlice t ux uy).run P w=.ok v w'∧lM w w'∧∃c',Rel w0 mu c' bV (a.put d v) w':=by
 unfold Wz at hv
 split at hv
 ·rename_i r bytes n m ht;obtain ⟨hnm,hv⟩:=j8 hv;obtain ⟨hn,hv⟩:=j8 hv;obtain ⟨hb,hv⟩:=j8 hv;obtain ⟨k,s0,rfl,nG,rfl⟩:=Bp hv;have hnm:=of_decide_eq_true hnm;have hn:=of_decide_eq_true hn;have hb:=Nat.le_of_ble_eq_true hb;subst hnm;obtain ⟨n,rfl⟩:=Int.eq_ofNat_of_zero_le hn;obtain ⟨e,i,z,hu,hi,qY,He,hby,N7,hz,MB⟩:=hT.elem t r bytes ht;have CZ:z.cells.size=r.width:=by have:=lC.length r _ MB;simpa using this
  have e1:ux=.int .i64 n:=hx;have e2:uy=.int .i64 n:=hy;subst e1 e2;unfold lim at hb;simp only [Int.toNat_natCast] at hb;have hn1:n≤35184372088832:=by
   have:n*1≤n*bytes:=Nat.mul_le_mul_left _ N7;omega
  have awA:IntKind.i64.wrap (n:Int)=n:=by
   have:=IntKind.wrap_i64 (n:Int);rw [this];omega
  have vY:(Instr.makeSlice t (.int .i64 n) (.int .i64 n)).run P w=
    .ok (.slice (some ⟨w.heap.size,0,none⟩) n n) (w.alloc (.cells ((Array.range (n*r.width)).map (z.cells[· % z.cells.size]!)) e (0,0))):=by
   have:=run_make (P:=P) w t e i z hu hi hz .i64 .i64 n n (by omega) (Int.le_refl _) (by
    have h2:((i.bytes*n:Nat):Int)≤281474976710656:=by rw [hby,Nat.mul_comm];omega
    rwa [Int.natCast_mul] at h2) (by omega)
   simpa [madeCells,qY] using this
  refine ⟨_,_,vY,lM.alloc _ _,?_⟩;have Gv:cj w c.ok r ((List.replicate n z.cells.toList).flatten) (List.replicate n (xj r)):=cj.replicate (vZ r _ MB) n;have:=h.fresh (r:=r) (xs:=List.replicate n (xj r)) (cur:=(Array.range (n*r.width)).map (z.cells[· % z.cells.size]!)) (ty:=e) (cap:=n) nG (hd k rfl) (by simp) (by simp) Gv (by
   rw [←HY z.cells n r.width CZ He,List.take_length])
  simpa using this
 ·simp [N.val] at hv
end Go.TM
namespace Go.TM
open Go Go.RowKit
theorem Eg (off:Nat):(l:List Value)→(k:Nat)→(cells:Array Value)→off+k+l.length≤cells.size→
  ((l.zipIdx k).foldl (fun cs (p:Value×Nat)=>cs.setIfInBounds (off+p.2) p.1) cells).toList=eo cells.toList (off+k) l
 | [],k,cells,_=>by simp [eo]
 |v::l,k,cells,h=>by
  simp only [List.zipIdx_cons,List.foldl_cons,List.length_cons] at h ⊢;rw [Eg off l (k+1) _ (by simp;omega)];rw [Array.toList_setIfInBounds];apply List.ext_getElem?;intro q;rw [su (by simp;omega),su (by simp;omega),List.getElem?_set];simp only [List.length_cons]
  by_cases h1:off+(k+1)≤q∧q<off+(k+1)+l.length
  ·rw [if_pos h1,if_pos (by omega)];rw [show q-(off+k)=(q-(off+(k+1)))+1 by omega,List.getElem?_cons_succ]
  ·rw [if_neg h1]
   by_cases h2:off+k=q
   ·subst h2;rw [if_pos rfl,if_pos (by simp;omega),if_pos (by omega)];simp
   ·rw [if_neg h2,if_neg (by omega)]
theorem K4 {place:Nat→Option (Nat×Nat)} {cells:Array Value} {i:Nat} {v:Value} {rest:List (Nat×Value)} {off size:Nat} (hp:place i=some (off,size)) (hv:v.cells.size=size) (hle:off+size≤cells.size) :
  Instr.fill place cells ((i,v)::rest)=Instr.fill place (eo cells.toList off v.cells.toList).toArray rest:=by
 have hf:=Eg off v.cells.toList 0 cells (by simp;omega);have e:(v.cells.zipIdx.foldl (fun cs (p:Value×Nat)=>cs.setIfInBounds (off+p.2) p.1) cells)=(eo cells.toList off v.cells.toList).toArray:=by
  apply Array.ext';rw [←Array.foldl_toList,Array.toList_zipIdx];simpa using hf
 conv=>lhs;unfold Instr.fill
 simp only [hp];rw [if_neg (by simp;omega)];exact congrArg (fun cs=>Instr.fill place cs rest) e
def tF (c:Cz) (st:St) (w:World) (ps:List (Nat×V)) (us:List (Nat×Value)):Prop:=
 ps.length=us.length∧∀(i:Nat) p u,ps[i]?=some p→us[i]?=some u→p.1=u.1∧iB c st w p.2 u.2
theorem tF.cons {c:Cz} {st:St} {w:World} {p:Nat×V} {u:Nat×Value} {ps:List (Nat×V)} {us:List (Nat×Value)} (h:tF c st w (p::ps) (u::us)) :
  (p.1=u.1∧iB c st w p.2 u.2)∧tF c st w ps us:=
 ⟨h.2 0 p u rfl rfl,by have:=h.1;simpa using this,fun i a b ha hb=>h.2 (i+1) a b (by simpa using ha) (by simpa using hb)⟩
theorem Eh {w0:World} {mu:Mu} {c:Cz} {st:St} {a:Act} {w:World} (h:Rel w0 mu c st a w) {r:RT} (hW:0<r.width):(ps:List (Nat×V))→(us:List (Nat×Value))→tF c st w ps us→
  (i:Nat)→(k:List (aO r)→List (Nat×Nat)→N)→{bV:St}→(Cj st r i ps k).val=some bV→(cells:Array Value)→cells.size=(i+ps.length)*r.width→
  ∃xs m,(k xs m).val=some bV∧xs.length=ps.length∧(∀p∈m,∃g A,cT st p.1 p.2 g=some A)∧
   ∃vs:List Value,vs.length=ps.length*r.width∧Instr.fill (fun i=>some (i*r.width,r.width)) cells us=some (cells.toList.take (i*r.width)++vs).toArray∧
   ∀ok:Nat→Prop,(∀b,c.ok b→ok b)→(∀p∈m,∀b,c.own b=some (.sp p.1 p.2)→ok b)→cj w ok r vs xs
 | [],us,hp,i,k,bV,hv,cells,qY=>by
  have:us=[]:=by have:=hp.1;simp at this;exact List.length_eq_zero_iff.1 this.symm
  subst this;refine ⟨[],[],hv,rfl,fun p hp=>by simp at hp,[],by simp,?_,fun _ _ _=>rfl⟩;simp only [Instr.fill,List.append_nil];simp at qY;rw [List.take_of_length_le (by simp;omega)]
 |(p,v)::ps,us,hp,i,k,bV,hv,cells,qY=>by
  cases us with
  |nil=>have:=hp.1;simp at this
  |cons u us=>
   obtain ⟨⟨hpu,hvu⟩,mj⟩:=hp.cons;simp only [Cj] at hv;obtain ⟨hc,hv⟩:=jK hv;rw [Bool.and_eq_true] at hc;have hpi:=Nat.eq_of_beq_eq_true hc.2;obtain ⟨AG,_⟩:=hvu.cells hc.1;obtain ⟨x,m1,h1,h2,h3⟩:=D9 h r v.cells _ AG _ hv;have hlen:u.2.cells.toList.length=r.width:=by
    have:=h3 (fun _=>True) (fun _ _=>trivial) (fun _ _ _ _=>trivial);exact eG.length r _ x this
   simp only [List.length_cons] at qY;have hm1:(i+(ps.length+1))*r.width=i*r.width+r.width+ps.length*r.width:=by rw [Nat.add_mul,Nat.add_mul];omega
   have hle:i*r.width+r.width≤cells.size:=by omega
   have WQ:=K4 (place:=fun i=>some (i*r.width,r.width)) (cells:=cells) (i:=i) (v:=u.2) (rest:=us) rfl (by simpa using hlen) hle;obtain ⟨xs,m2,g1,g2,g3,vs,g4,g5,g6⟩:=Eh h hW ps us mj (i+1) _ h1 (eo cells.toList (i*r.width) u.2.cells.toList).toArray (by
    rw [List.size_toArray,np (by simp at hlen ⊢;omega)];simp;rw [qY];congr 1;omega)
   refine ⟨x::xs,m1++m2,g1,by simp [g2],fun q hq => ?_,u.2.cells.toList++vs,by simp at hlen ⊢;rw [hlen,g4,Nat.add_mul];omega,?_,fun ok ho hm=>⟨_,vs,rfl,h3 ok ho (fun q hq=>hm q (by simp [hq])),g6 ok ho (fun q hq=>hm q (by simp [hq]))⟩⟩
   ·rcases List.mem_append.1 hq with hq | hq
    ·exact h2 q hq
    ·exact g3 q hq
   ·have e:(u:Nat×Value)=(i,u.2):=by rw [←hpi];simp at hpu;rw [hpu]
    rw [e,WQ,g5]
    congr 2
    rw [←List.append_assoc]
    congr 1
    show List.take ((i+1)*r.width) (eo cells.toList (i*r.width) u.2.cells.toList)=_;unfold eo;rw [Nat.add_mul,Nat.one_mul];rw [List.take_append_of_le_length (by simp at hlen ⊢;omega)];rw [List.take_of_length_le (by simp at hlen ⊢;omega)]
theorem HZ {P:Program} {T:pA} (hT:j7 P T) {w0:World} {mu:Mu} {c:Cz} {st:St} {a:Act} {w:World} (h:Rel w0 mu c st a w)
  {d:Option Nat} {t len:Nat} {ps:List (Nat×V)} {us:Array (Nat×Value)} (hp:tF c st w ps us.toList) {bV:St} (hv:(Bk T st d t len ps).val=some bV) (hd:∀k,d=some k→k<a.tmps.size) :
  ∃v w',(Instr.buildSlice t len us).run P w=.ok v w'∧lM w w'∧∃c',Rel w0 mu c' bV (a.put d v) w':=by
 unfold Bk at hv
 cases ht:T.elem t with
 |none=>simp [ht,N.val] at hv
 |some p=>
  obtain ⟨r,bytes⟩:=p;simp only [ht] at hv;obtain ⟨hc,hv⟩:=jK hv;rw [Bool.and_eq_true] at hc;have hlen:=Nat.eq_of_beq_eq_true hc.1;have apr:=Nat.le_of_ble_eq_true hc.2;obtain ⟨e,i,z,hu,hi,qY,He,hby,N7,hz,MB⟩:=hT.elem t r bytes ht;have CZ:z.cells.size=r.width:=by have:=lC.length r _ MB;simpa using this
  obtain ⟨xs,m,h1,h2,h3,vs,h4,h5,h6⟩:=Eh h He ps us.toList hp 0 _ hv ((Array.range (len*r.width)).map (z.cells[· % z.cells.size]!)) (by simp [hlen]);obtain ⟨k,s0,rfl,nG,rfl⟩:=Bp h1;have Gv:cj w (c.drop m).ok r vs xs:=h6 _ (fun b hb=>Cz.D8 m c b hb) (fun p hp k hk=>Cz.Hr m c k hk hp);have hxl:xs.length=len:=by rw [h2,hlen]
  have ac3:(Instr.buildSlice t len us).run P w=.ok (.slice (some ⟨w.heap.size,0,none⟩) len len) (w.alloc (.cells vs.toArray e (0,0))):=by
   simp only [Nat.zero_mul,List.take_zero,List.nil_append] at h5
   by_cases h0:len=0
   ·subst h0;have hps:ps=[]:=List.length_eq_zero_iff.1 hlen;subst hps;have Qy:us = #[]:=by have:=hp.1;simp at this;exact Array.eq_empty_of_size_eq_zero this.symm
    subst Qy;have Hd:vs=[]:=by simp at h4;exact h4
    subst Hd;simp [Instr.buildSlice,run_underlying hu,sizeOf,typeInfo,hi,Instr.fill,newRow,show Array.range 0 = #[] from rfl]
   ·refine run_buildSlice (P:=P) w t e len us vs.toArray i z hu hi hz (by rw [qY];omega) (by rw [qY];intro h;rcases Nat.mul_eq_zero.1 h with h | h<;>omega) ?_;rw [qY];exact h5
  have hfr:=(h.freeze m).fresh (r:=r) (xs:=xs) (cur:=vs.toArray) (ty:=e) (cap:=len) nG (hd k rfl) (by omega) (by simp [h4,hlen]) Gv (by simp);rw [hxl] at hfr;exact ⟨_,_,ac3,lM.alloc _ _,hfr⟩
theorem lC.rel {c:Cz} {st:St} {w:World}:(r:RT)→(vs:List Value)→lC r vs→jf c st w ((gy r (xj r)).map fun | .shr _ _=>.gJ | c=>c) vs
 |.nil,vs,h=>by simp only [lC] at h;subst h;exact ⟨rfl,fun i x v hx=>by simp [gy] at hx⟩
 |.cons t r,vs,h=>by
  have key:∃v l x,vs=v::l∧lC r l∧((fun | .shr _ _=>.gJ | c=>c:CV→CV) (Qm t (Ql t)))=x∧rj c st w x v:=by
   cases t with
   |int k=>obtain ⟨l,h,h'⟩:=h;exact ⟨_,l,_,h,h',rfl,rfl⟩
   |bool=>obtain ⟨l,h,h'⟩:=h;exact ⟨_,l,_,h,h',rfl,rfl⟩
   |str=>obtain ⟨l,h,h'⟩:=h;exact ⟨_,l,_,h,h',rfl,rfl⟩
   |sl q=>obtain ⟨l,h,h'⟩:=h;exact ⟨_,l,_,h,h',rfl,rfl⟩
  obtain ⟨v,l,x,rfl,hl,hx,hr⟩:=key;obtain ⟨h1,h2⟩:=lC.rel (c:=c) (st:=st) (w:=w) r l hl;refine ⟨by simp [gy] at h1 ⊢;exact h1,fun i y u hy hu => ?_⟩
  cases i with
  |zero=>
   simp [gy,xj] at hy hu;subst hu;rw [←hy];have:(match Qm t (Ql t) with | .shr _ _=>CV.gJ | c=>c)=x:=hx;rw [this];exact hr
  |succ i=>exact h2 i y u (by simpa [gy,xj] using hy) (by simpa using hu)
theorem Bq {c:Cz} {st:St} {w:World} {r:RT} {vs:List Value} (h:lC r vs):jf c st w (sq r) vs:=lC.rel r vs h
theorem Ei {P:Program} {T:pA} {c:Cz} {st:St} {w:World} {t:Nat} {dw:List (Nat×Nat)} (hpl:∀f o s,T.off t f=some o→T.fsz t f=some s→dw[f]?=some (o,s)) :
  (ps:List (Nat×V))→(us:List (Nat×Value))→tF c st w ps us→(cs l:List CV)→(cells:Array Value)→jf c st w cs cells.toList→ss T t cs ps=some l→
  ∃yM,Instr.fill (dw.toArray[·]?) cells us=some yM∧jf c st w l yM.toList
 | [],us,hp,cs,l,cells,hl,h=>by
  have:us=[]:=by have:=hp.1;simp at this;exact List.length_eq_zero_iff.1 this.symm
  subst this;simp only [ss,Option.some.injEq] at h;subst h;exact ⟨cells,rfl,hl⟩
 |(f,v)::ps,us,hp,cs,l,cells,hl,h=>by
  cases us with
  |nil=>have:=hp.1;simp at this
  |cons u us=>
   obtain ⟨⟨hpu,hvu⟩,mj⟩:=hp.cons;simp only [ss] at h
   cases ho:T.off t f with
   |none=>simp [ho] at h
   |some o=>
    cases hs:T.fsz t f with
    |none=>simp [ho,hs] at h
    |some s=>
     simp only [ho,hs] at h;obtain ⟨hc,h⟩:=bM h;rw [Bool.and_eq_true] at hc;obtain ⟨AG,_⟩:=hvu.cells hc.1;have hlen:v.cells.length=s:=Nat.eq_of_beq_eq_true hc.2
     cases hpc:putCells cs o v.cells with
     |none=>simp [hpc] at h
     |some s7=>
      simp only [hpc] at h;obtain ⟨hle,rfl⟩:=CY hpc;have h1:=hl.1;have h2:=AG.1;have WQ:=K4 (place:=(dw.toArray[·]?)) (cells:=cells) (i:=f) (v:=u.2) (rest:=us) (off:=o) (size:=s) (by simpa using hpl f o s ho hs) (by simp at h2;omega) (by simp at h1 h2;omega);obtain ⟨yM,g1,g2⟩:=Ei (P:=P) hpl ps us mj _ l (eo cells.toList o u.2.cells.toList).toArray (by simpa using hl.eo AG o hle) h;refine ⟨yM,?_,g2⟩;have e:(u:Nat×Value)=(f,u.2):=by simp at hpu;rw [hpu]
      rw [e,WQ];exact g1
theorem WR {P:Program} {T:pA} (hT:j7 P T) {w0:World} {mu:Mu} {c:Cz} {st:St} {a:Act} {w:World} (h:Rel w0 mu c st a w)
  {d:Option Nat} {t:Nat} {r:RT} {ps:List (Nat×V)} {us:Array (Nat×Value)} {l:List CV} (hr:T.row t=some r) (hg:T.agg t=true) (hp:tF c st w ps us.toList)
  (hf:ss T t (sq r) ps=some l) (hd:∀k,d=some k→k<a.tmps.size) :
  ∃v,(∀w':World,(Instr.build t us).run P w'=.ok v w')∧Rel w0 mu c (bW st d (.agg l)) (a.put d v) w:=by
 obtain ⟨i,z,hi,hz,MB⟩:=hT.row t r hr;obtain ⟨fs,dw,hu,hpl,hpo⟩:=hT.bld t hg;obtain ⟨yM,g1,g2⟩:=Ei (P:=P) (c:=c) (st:=st) (w:=w) hpo ps us.toList hp (sq r) l z.cells (Bq MB) hf;refine ⟨.agg yM,fun w'=>run_build w' t us yM ?_,h.bW ⟨yM,rfl,g2⟩ hd⟩;unfold Program.built;simp only [hi,hu,hz,hpl];exact g1
end Go.TM
namespace Go.TM
open Go Go.RowKit
theorem WS {P:Program} {w:World} {op:BinOp} {t:TypeId} {k:IntKind} {a b:Int} {r:Bool} (h:Wx op a b=some r) :
  (binOp op t (.int k a) (.int k b)).run P w=.ok (.bool r) w:=by
 cases op<;>simp only [Wx,Option.some.injEq,reduceCtorEq] at h<;>subst h<;>unfold binOp Op.intCmp<;>simp<;>rfl
theorem Qz {P:Program} {w:World} {op:BinOp} {t:TypeId} {k:IntKind} {a b n:Int} (h:HE op k a b=some n) :
  (binOp op t (.int k a) (.int k b)).run P w=.ok (.int k n) w:=by
 cases op<;>simp [HE] at h<;>subst h<;>simp [binOp,Op.intArith,Op.intBits]
theorem WT {P:Program} {w:World} {op:BinOp} {t:TypeId} {k:IntKind} {a b n:Int} (h:Wy op k a b=some n) (hb:b≠0) :
  (binOp op t (.int k a) (.int k b)).run P w=.ok (.int k n) w:=by
 cases op<;>simp [Wy] at h<;>subst h<;>simp [binOp,Op.intDiv,hb]
theorem QA {P:Program} {w:World} {op:BinOp} {t:TypeId} {k l:IntKind} {a b n:Int} (h:HF op k a b.toNat=some n) (hb:0≤b) :
  (binOp op t (.int k a) (.int l b)).run P w=.ok (.int k n) w:=by
 have uY:¬b<0:=by omega
 cases op<;>simp [HF] at h<;>subst h<;>simp [binOp,Op.shift,uY]
theorem pY {P:Program} {w:World} (op:BinOp) (t:TypeId) (x y:Operand) (a b:Value) (h:¬(a=.nilIface∧b=.nilIface)) (h2:∀l m,¬(a=.agg l∧b=.agg m)) :
  (eqGuard op t x y a b).run P w=.ok () w:=by
 unfold eqGuard
 cases op<;>cases a<;>cases b<;>simp_all
theorem aaq {P:Program} {T:pA} (hT:j7 P T) {w0:World} {mu:Mu} {c:Cz} {st:St} {a:Act} {w:World} (h:Rel w0 mu c st a w) (hE:∀t,T.eq t=true→∀(l m:List CV) (us vs:Array Value) (b:Bool) (op:BinOp) (ox oy:Operand),T.fits t l=true→re l m=some b→
   jf c st w l us.toList→jf c st w m vs.toList→∀w':World,(eqGuard op t ox oy (.agg us) (.agg vs)).run P w'=.ok () w'∧(Op.equal t (.agg us) (.agg vs)).run P w'=.ok b w')
  {d:Option Nat} {t:Nat} {op:BinOp} {ox oy:Operand} {x y:V} {ux uy:Value} (hx:iB c st w x ux) (hy:iB c st w y uy) {bV:St} (hv:(AT T st d op t x y).val=some bV) (hd:∀k,d=some k→k<a.tmps.size) :
  ∃v,(∀w':World,(do eqGuard op t ox oy ux uy;binOp op t ux uy:Sem Value).run P w'=.ok v w')∧Rel w0 mu c bV (a.put d v) w:=by
 have fin:∀(cv:CV) (v:Value),rj c st w cv v→(N.done (bW st d (.one cv))).val=some bV→(∀w':World,(eqGuard op t ox oy ux uy).run P w'=.ok () w')→(∀w':World,(binOp op t ux uy).run P w'=.ok v w')→
   ∃v,(∀w':World,(do eqGuard op t ox oy ux uy;binOp op t ux uy:Sem Value).run P w'=.ok v w')∧Rel w0 mu c bV (a.put d v) w:=by
  intro cv v hr w7 hg hb;simp only [N.val,Option.some.injEq] at w7;subst w7;refine ⟨v,fun w' => ?_,h.bW hr hd⟩;simp [Sem.run_bind,hg,hb]
 cases x with
 |rb _=>simp [AT,N.val] at hv
 |agg l=>cases y with
  |rb _=>simp [AT,N.val] at hv
  |one _=>simp [AT,N.val] at hv
  |agg m=>
   obtain ⟨us,rfl,hl⟩:=hx;obtain ⟨vs,rfl,hm⟩:=hy;simp only [AT] at hv;obtain ⟨ht,hv⟩:=jK hv;rw [Bool.and_eq_true] at ht;obtain ⟨ht,AG⟩:=ht
   cases hc:re l m with
   |none=>cases op<;>simp [hc,N.val] at hv
   |some b=>
    have g:=hE t ht l m us vs b op ox oy AG hc hl hm
    cases op<;>simp only [hc] at hv<;>try (simp [N.val] at hv;done)
    ·exact fin (.bool b) (.bool b) rfl hv (fun w'=>(g w').1) (fun w'=>by simp [binOp,Sem.run_bind,(g w').2])
    ·exact fin (.bool (!b)) (.bool (!b)) rfl hv (fun w'=>(g w').1) (fun w'=>by simp [binOp,Sem.run_bind,(g w').2])
 |one cx=>cases y with
  |rb _=>cases cx<;>simp [AT,N.val] at hv
  |agg _=>cases cx<;>simp [AT,N.val] at hv
  |one cy=>
   cases cx<;>cases cy<;>try (simp [AT,N.val] at hv;done)
   ·rename_i k p l q;have e1:ux=.int k p:=hx;have e2:uy=.int l q:=hy;subst e1 e2;have hg:=fun w'=>pY (P:=P) (w:=w') op t ox oy (.int k p) (.int l q) (by simp) (by simp)
    simp only [AT] at hv
    by_cases hs:op=.shl∨op=.shr
    ·have xM:(match HF op k p q.toNat with | some n=>N.br (decide (0≤q)) (.done (bW st d (.one (.int k n)))) .fail | none=>.fail).val=some bV:=by
      rcases hs with rfl | rfl<;>exact hv
     cases hsh:HF op k p q.toNat with
     |none=>simp [hsh,N.val] at xM
     |some n=>
      simp only [hsh] at xM;obtain ⟨hq,xM⟩:=j8 xM;exact fin (.int k n) (.int k n) rfl xM hg (fun _=>QA hsh (of_decide_eq_true hq))
    ·have xM:(if k=l then (match Wx op p q with
       |some t=>N.done (bW st d (.one (.bool t)))
       |none=>match HE op k p q with
        |some n=>.done (bW st d (.one (.int k n)))
        |none=>match Wy op k p q with
         |some n=>.br (decide (q=0)) .fail (.done (bW st d (.one (.int k n))))
         |none=>.fail) else .fail).val=some bV:=by
      cases op<;>first | exact hv | exact absurd (.inl rfl) hs | exact absurd (.inr rfl) hs
     by_cases hk:k=l
     ·subst hk;rw [if_pos rfl] at xM
      cases hc:Wx op p q with
      |some r=>simp only [hc] at xM;exact fin (.bool r) (.bool r) rfl xM hg (fun _=>WS hc)
      |none=>
       simp only [hc] at xM
       cases ha:HE op k p q with
       |some n=>simp only [ha] at xM;exact fin (.int k n) (.int k n) rfl xM hg (fun _=>Qz ha)
       |none=>
        simp only [ha] at xM
        cases hdv:Wy op k p q with
        |none=>simp [hdv,N.val] at xM
        |some n=>
         simp only [hdv] at xM;rcases yg xM with ⟨_,xM⟩ | ⟨hq,xM⟩
         ·simp [N.val] at xM
         ·exact fin (.int k n) (.int k n) rfl xM hg (fun _=>WT hdv (of_decide_eq_false hq))
     ·rw [if_neg hk] at xM;simp [N.val] at xM
   ·rename_i p q;have e1:ux=.bool p:=hx;have e2:uy=.bool q:=hy;subst e1 e2;have hg:=fun w'=>pY (P:=P) (w:=w') op t ox oy (.bool p) (.bool q) (by simp) (by simp)
    have hq:∀u,P.underlying t=some u→u=.bool→∀w':World,(Op.equal t (.bool p) (.bool q)).run P w'=.ok (p==q) w':=by
     rintro u hu rfl w'
     have e:Op.equal t (.bool p) (.bool q)=Op.equalIn ((Op.maxDepth-1)+1) t (.bool p) (.bool q):=rfl;rw [e];simp only [Op.equalIn];simp [run_underlying hu]
    cases hk:T.kind t with
    |none=>cases op<;>simp [AT,hk,N.val] at hv
    |some ty=>cases ty with
     |int _=>cases op<;>simp [AT,hk,N.val] at hv
     |str=>cases op<;>simp [AT,hk,N.val] at hv
     |sl _=>cases op<;>simp [AT,hk,N.val] at hv
     |bool=>
      obtain ⟨u,hu,hud⟩:=hT.kind t .bool hk;have:=hq u hu hud
      cases op<;>simp only [AT,hk] at hv<;>try (simp [N.val] at hv;done)
      ·exact fin (.bool (p==q)) (.bool (p==q)) rfl hv hg (fun w'=>by simp [binOp,this w'])
      ·exact fin (.bool (!(p==q))) (.bool (!(p==q))) rfl hv hg (fun w'=>by simp [binOp,this w'])
   ·rename_i p q;have e1:ux=.string p:=hx;have e2:uy=.string q:=hy;subst e1 e2;have hg:=fun w'=>pY (P:=P) (w:=w') op t ox oy (.string p) (.string q) (by simp) (by simp)
    simp only [AT] at hv
    cases op<;>simp only at hv<;>try (simp [N.val] at hv;done)
    ·obtain ⟨hb,hv⟩:=j8 hv;have hb:=Nat.le_of_ble_eq_true hb;unfold lim at hb;refine fin (.str (p++q)) (.string (p++q)) rfl hv hg (fun w' => ?_);have:¬((p.size+q.size:Nat):Int)>IntKind.i64.max:=by
      have:IntKind.i64.max=9223372036854775807:=by decide
      omega
     simp only [binOp,Op.stringOp];rw [if_neg this];rfl
    ·exact fin (.bool (tE p q)) (.bool (tE p q)) rfl hv hg (fun w'=>by simp [binOp,Op.stringOp,tE])
    ·exact fin (.bool (!tE p q)) (.bool (!tE p q)) rfl hv hg (fun w'=>by simp [binOp,Op.stringOp,tE])
   ·have e1:ux=.slice none 0 0:=hx;have e2:uy=.slice none 0 0:=hy;subst e1 e2;have hg:=fun w'=>pY (P:=P) (w:=w') op t ox oy (.slice none 0 0) (.slice none 0 0) (by simp) (by simp)
    simp only [AT] at hv
    cases he:T.elem t with
    |none=>cases op<;>simp [he,N.val] at hv
    |some p=>
     obtain ⟨e,i,z,hu,_⟩:=hT.elem t p.1 p.2 he;have hq:=fun w'=>run_equal_slice_nil (P:=P) w' t e none 0 0 hu
     cases op<;>simp only [he] at hv<;>try (simp [N.val] at hv;done)
     ·exact fin (.bool true) (.bool true) rfl hv hg (fun w'=>by simp [binOp,hq w'])
     ·exact fin (.bool false) (.bool false) rfl hv hg (fun w'=>by simp [binOp,hq w'])
   ·rename_i r xs;have e2:uy=.slice none 0 0:=hy;subst e2;obtain ⟨h1,h2⟩:=hx;rcases (si _ _ _ _ _).1 h1 with ⟨h3,_⟩ | ⟨a0,cap,h3,_⟩
    ·exact absurd h3 h2
    ·subst h3;have hg:=fun w'=>pY (P:=P) (w:=w') op t ox oy (.slice (some a0) (List.length xs) cap) (.slice none 0 0) (by simp) (by simp)
     simp only [AT] at hv
     cases he:T.elem t with
     |none=>cases op<;>simp [he,N.val] at hv
     |some p=>
      obtain ⟨e,i,z,hu,_⟩:=hT.elem t p.1 p.2 he;have hq:=fun w'=>run_equal_slice_nil (P:=P) w' t e (some a0) (List.length xs) cap hu
      cases op<;>simp only [he] at hv<;>try (simp [N.val] at hv;done)
      ·exact fin (.bool false) (.bool false) rfl hv hg (fun w'=>by simp [binOp,hq w'])
      ·exact fin (.bool true) (.bool true) rfl hv hg (fun w'=>by simp [binOp,hq w'])
theorem Ss {P:Program} {T:pA} (hT:j7 P T) {t:Nat} (h:T.kind t=some .str):P.underlying t=some .string:=by
 obtain ⟨u,hu,hd⟩:=hT.kind t .str h;simp only [descOf] at hd;rw [hu,hd]
theorem N9 {w0:World} {mu:Mu} {c:Cz} {st:St} {a:Act} {w:World} (_h:Rel w0 mu c st a w) {a' j g:Nat} {vw:View} {A:nY} {u:Value} (hA:cT st a' j g=some A)
  (hu:rj c st w (.ref a' j g vw) u):∃ad k,u=.slice ad (vw.app A.xs).length k:=by
 have hs:=hu.2.2 A hA
 cases hl:c.lc a' j with
 |nil=>unfold pX at hs;rw [hl] at hs;exact ⟨none,0,by rw [hs.2];exact hs.1⟩
 |«at» b off cap=>unfold pX at hs;rw [hl] at hs;obtain ⟨ad,k,h1,_⟩:=hs;exact ⟨some ad,k,h1⟩
theorem aar {P:Program} {T:pA} (hT:j7 P T) {w0:World} {mu:Mu} {c:Cz} {st:St} {a:Act} {w:World} (h:Rel w0 mu c st a w)
  {d:Option Nat} {t ty:Nat} {x:V} {ux:Value} (hx:iB c st w x ux) {bV:St} (hv:(Ms T st d t x).val=some bV) (hd:∀k,d=some k→k<a.tmps.size) :
  ∃v,(∀w':World,(Builtin.len_ #[t] ty #[ux]).run P w'=.ok v w')∧Rel w0 mu c bV (a.put d v) w:=by
 have sl:∀(n:Nat) (ad:Option Addr) (k:Nat),(T.elem t).isSome=true→ux=.slice ad n k→(N.done (bW st d (.one (.int .i64 n)))).val=some bV→
   ∃v,(∀w':World,(Builtin.len_ #[t] ty #[ux]).run P w'=.ok v w')∧Rel w0 mu c bV (a.put d v) w:=by
  intro n ad k he hu w7;simp only [N.val,Option.some.injEq] at w7;subst w7
  cases hq:T.elem t with
  |none=>simp [hq] at he
  |some p=>
   obtain ⟨r,b⟩:=p;obtain ⟨e,_,_,hd1,_⟩:=hT.elem t r b hq;subst hu;exact ⟨.int .i64 n,(fun w'=>by simp [Builtin.len_,run_underlying hd1,goInt]),h.bW (u:=.int .i64 n) rfl hd⟩
 cases x with
 |agg _=>simp [Ms,N.val] at hv
 |rb _=>simp [Ms,N.val] at hv
 |one cx=>cases cx with
  |str s=>
   simp only [Ms] at hv
   cases hk:T.kind t with
   |none=>simp [hk,N.val] at hv
   |some y=>cases y with
    |str=>
     simp only [hk,N.val,Option.some.injEq] at hv;subst hv;have e:ux=.string s:=hx;subst e;exact ⟨.int .i64 s.size,(fun w'=>by simp [Builtin.len_,run_underlying (Ss hT hk),goInt]),h.bW (u:=.int .i64 s.size) rfl hd⟩
    |_=>simp [hk,N.val] at hv
  |gJ=>
   simp only [Ms] at hv
   cases hk:T.elem t with
   |none=>simp [hk,N.val] at hv
   |some p=>simp only [hk] at hv;exact sl 0 none 0 (by simp [hk]) hx hv
  |shr r xs=>
   simp only [Ms] at hv
   cases hk:T.elem t with
   |none=>simp [hk,N.val] at hv
   |some p=>
    simp only [hk] at hv;rcases (si _ _ _ _ _).1 hx with ⟨h1,h2⟩ | ⟨ad,k,h1,_⟩
    ·exact sl xs.length none 0 (by simp [hk]) (by rw [h1,h2];rfl) hv
    ·exact sl xs.length (some ad) k (by simp [hk]) h1 hv
  |ref a' j g vw=>
   simp only [Ms] at hv
   cases hk:T.elem t with
   |none=>simp [hk,N.val] at hv
   |some p=>
    cases hA:cT st a' j g with
    |none=>simp [hk,hA,N.val] at hv
    |some A=>
     simp only [hk,hA] at hv;obtain ⟨ad,k,hu⟩:=N9 h hA hx;exact sl _ ad k (by simp [hk]) hu hv
  |_=>simp [Ms,N.val] at hv
theorem Gw {P:Program} {t e:TypeId} {i:TypeInfo} (hu:P.underlying t=some (.slice e)) (hi:P.info? e=some i) (w:World) (k:IntKind) (a:Addr) (n c:Nat) (j:Int) (h0:0≤j) (hj:j<n) :
  (Instr.indexAt t (.slice (some a) n c) (.int k j)).run P w=.ok (.pointer (some (a.add (j.toNat*i.size)))) w:=by
 simp [Instr.indexAt,asIntOf,run_underlying hu,sizeOf,typeInfo,hi,h0,hj]
theorem TW {P:Program} {T:pA} (hT:j7 P T) {w0:World} {mu:Mu} {c:Cz} {st:St} {a:Act} {w:World} (h:Rel w0 mu c st a w)
  {d:Option Nat} {t:Nat} {x y:V} {ux uy:Value} (hx:iB c st w x ux) (hy:iB c st w y uy) {bV:St} (hv:(tT T st d t x y).val=some bV) (hd:∀k,d=some k→k<a.tmps.size) :
  ∃v,(∀w':World,(Instr.indexAt t ux uy).run P w'=.ok v w')∧Rel w0 mu c bV (a.put d v) w:=by
 cases ht:T.elem t with
 |none=>simp [tT,ht,N.val] at hv
 |some p=>
  obtain ⟨q,bytes⟩:=p;obtain ⟨e,i,z,hu,hi,qY,He,_,_,_,_⟩:=hT.elem t q bytes ht;have rd:∀(ys:List (aO q)) (k:IntKind) (j:Int),uy=.int k j→eD w c.ok (.sl q) ux ys→(N.br (decide (0≤j)) (.row q ys[j.toNat]? fun y=>.done (bW st d (.one (.oe q y 0)))) .fail).val=some bV→
    ∃v,(∀w':World,(Instr.indexAt t ux uy).run P w'=.ok v w')∧Rel w0 mu c bV (a.put d v) w:=by
   intro ys k j huy HL hv;obtain ⟨hj,hv⟩:=j8 hv;have hj:=of_decide_eq_true hj
   cases hr:ys[j.toNat]? with
   |none=>simp [hr,N.val] at hv
   |some y=>
    simp only [hr] at hv;change some _=some bV at hv;obtain rfl:=Option.some.inj hv;have dB:j.toNat<ys.length:=(List.getElem?_eq_some_iff.1 hr).1;rcases (si _ _ _ _ _).1 HL with ⟨_,h2⟩ | ⟨ad,cap,h1,h2,h3,h4⟩
    ·rw [h2] at dB;simp at dB
    ·subst h1 huy;have mn:ys≠[]:=by intro e;rw [e] at dB;simp at dB
     obtain ⟨g1,g2,g3⟩:=h3 mn;refine ⟨_,(fun w'=>Gw hu hi w' k ad ys.length cap j hj (by omega)),h.bW (v:=.one (.oe q y 0)) ?_ hd⟩;have HX:ad=⟨ad.block,ad.off,none⟩:=by cases ad;simp at g1 ⊢;exact g1
     refine ⟨ad.block,ad.off+j.toNat*q.width,?_,g2,g3,h4 _ y hr⟩;rw [HX,Addr.add_mid,qY];rfl
  cases x with
  |agg _=>cases y<;>simp [tT,ht,N.val] at hv
  |rb _=>cases y<;>simp [tT,ht,N.val] at hv
  |one cx=>cases y with
   |agg _=>cases cx<;>simp [tT,ht,N.val] at hv
   |rb _=>cases cx<;>simp [tT,ht,N.val] at hv
   |one cy=>cases cx with
    |shr r xs=>cases cy with
     |int k j=>
      simp only [tT,ht] at hv
      cases hc:ek q xs with
      |none=>simp [hc,N.val] at hv
      |some ys=>
       simp only [hc] at hv;obtain ⟨rfl,rfl⟩:=dh hc;exact rd _ k j hy hx hv
     |_=>simp [tT,ht,N.val] at hv
    |ref a' j g vw=>cases cy with
     |int k n=>
      simp only [tT,ht] at hv
      cases hA:cT st a' j g with
      |none=>simp [hA,N.val] at hv
      |some A=>
       simp only [hA] at hv
       cases hc:ek q A.xs with
       |none=>simp [hc,N.val] at hv
       |some ys=>
        simp only [hc] at hv;obtain ⟨e',he⟩:=dh hc;subst e';simp only at he;subst he;obtain ⟨sl,HJ,TR,HK⟩:=dF hA;have Kh:=h.ca a' j sl A HJ HK
        cases ho:A.own with
        |false=>
         simp only [ho] at hv;have Hq:A.md=.sh:=by cases A.md;rfl
         refine rd _ k n hy ?_ hv;refine D7 Kh (hx.2.2 A hA) (fun _ h=>h) (fun b hq _ => ?_) (by rw [Hq];rfl);rw [ho,Hq] at hq;rcases hq with hq | hq<;>cases hq
        |true=>
         simp only [ho] at hv;obtain ⟨hn,hv⟩:=j8 hv;obtain ⟨dB,hv⟩:=j8 hv;have hn:=of_decide_eq_true hn;have dB:n.toNat<(vw.app A.xs).length:=by simp [Nat.blt] at dB;omega
         simp only [N.val,Option.some.injEq] at hv;subst hv;have hs:=hx.2.2 A hA;have euy:uy=.int k n:=hy;subst euy
         cases hl:c.lc a' j with
         |nil=>unfold pX at hs;rw [hl] at hs;omega
         |«at» b off cap=>
          unfold pX at hs;rw [hl] at hs;obtain ⟨ad,cc,rfl,hcc,CK,HX⟩:=hs;have hc0:cc≠0:=by omega
          refine ⟨_,(fun w'=>Gw hu hi w' k ad _ cc n hn (by omega)),h.bW (v:=.one (.N1 a' j g _ 0)) ?_ hd⟩;have ac4:vw.idx n.toNat=vw.lo+n.toNat:=by cases vw<;>simp [View.lo,View.idx]
          rw [ac4];have Oa:A.xs[vw.lo+n.toNat]?=some (vw.app A.xs)[n.toNat]:=View.Cl vw A.xs (List.getElem?_eq_getElem dB);refine ⟨rfl,hx.2.1,fun A2 TX => ?_⟩;rw [hA] at TX;obtain rfl:=Option.some.inj TX;refine ⟨(List.getElem?_eq_some_iff.1 Oa).1,b,off,cap,hl,?_⟩;rw [HX hc0,Addr.add_mid,qY,Nat.add_mul];simp only [Nat.add_zero];rw [Nat.add_assoc]
     |_=>simp [tT,ht,N.val] at hv
    |_=>cases cy<;>simp [tT,ht,N.val] at hv
end Go.TM
namespace Go.TM
open Go Go.RowKit
def Ob (c:Cz) (st:St) (w:World):Option V→Option Value→Prop
 |none,u=>u=none
 |some v,u=>∃x,u=some x∧iB c st w v x
def Bd (o:Option Value) (l:Option Nat):Prop:=
 match l with
 |none=>o=none
 |some l=>∃k,o=some (.int k l)
theorem s9 {c:Cz} {st:St} {w:World} {n:Nat} {lo hi:Option V} {ul uh:Option Value} (hl:Ob c st w lo ul) (hh:Ob c st w hi uh) {k:Option Nat→Option Nat→N} {bV:St}
  (hv:(sr n lo hi k).val=some bV):∃l h,(k l h).val=some bV∧Bd ul l∧Bd uh h∧l.getD 0≤h.getD n∧h.getD n≤n:=by
 unfold sr at hv;simp only at hv;have hiC:∀(l:Option Nat),(hi=none→l.getD 0≤n)→(match hi with
   |none=>k l none
   |some (.one (.int _ h))=>.br (decide ((match l with | some l=>(l:Int) | none=>0)≤h)) (.br (decide (h≤n)) (k l (some h.toNat)) .fail) .fail
   |_=>.fail).val=some bV→∃h,(k l h).val=some bV∧Bd uh h∧l.getD 0≤h.getD n∧h.getD n≤n:=by
  intro l Wk hv
  cases hi with
  |none=>exact ⟨none,hv,hh,Wk rfl,Nat.le_refl _⟩
  |some v=>cases v with
   |agg _=>simp [N.val] at hv
   |rb _=>simp [N.val] at hv
   |one x=>cases x with
    |int q h=>
     simp only at hv;obtain ⟨h1,hv⟩:=j8 hv;obtain ⟨h2,hv⟩:=j8 hv;have h1:=of_decide_eq_true h1;have h2:=of_decide_eq_true h2;obtain ⟨x,rfl,hx⟩:=hh;have e:x=.int q h:=hx;subst e;have h0:0≤h:=by cases l<;>simp at h1<;>omega
     refine ⟨some h.toNat,hv,⟨q,by rw [Int.toNat_of_nonneg h0]⟩,?_,by simp;omega⟩
     cases l<;>simp at h1 ⊢;omega
    |_=>simp [N.val] at hv
 cases lo with
 |none=>
  obtain ⟨h,g1,g2,g3,g4⟩:=hiC none (fun _=>Nat.zero_le _) hv;exact ⟨none,h,g1,hl,g2,g3,g4⟩
 |some v=>cases v with
  |agg _=>simp [N.val] at hv
  |rb _=>simp [N.val] at hv
  |one x=>cases x with
   |int q l=>
    simp only at hv;obtain ⟨h1,hv⟩:=j8 hv;have h1:=of_decide_eq_true h1;obtain ⟨x,rfl,hx⟩:=hl;have e:x=.int q l:=hx;subst e;have hb:Bd (some (.int q l)) (some l.toNat):=⟨q,by rw [Int.toNat_of_nonneg h1]⟩
    cases hi with
    |none=>
     simp only at hv;obtain ⟨h2,hv⟩:=j8 hv;have h2:=of_decide_eq_true h2;obtain ⟨h,g1,g2,g3,g4⟩:=hiC (some l.toNat) (fun _=>by simp;omega) hv;exact ⟨some l.toNat,h,g1,hb,g2,g3,g4⟩
    |some v=>
     obtain ⟨h,g1,g2,g3,g4⟩:=hiC (some l.toNat) (fun e=>by cases e) hv;exact ⟨some l.toNat,h,g1,hb,g2,g3,g4⟩
   |_=>simp [N.val] at hv
theorem H0 {P:Program} {w:World} {n cap:Nat} {ul uh:Option Value} {l h:Option Nat} (b:Bool) (hl:Bd ul l) (hh:Bd uh h) (h1:l.getD 0≤h.getD n) (h2:h.getD n≤n) (hc:n≤cap) :
  (Instr.sliceBounds b n cap ul uh none).run P w=.ok (l.getD 0,h.getD n,cap) w:=by
 have key:∀(q:IntKind) (y m:Nat) (code:BoundsCode),y≤m→(Instr.sliceBound (.int q y) m code).run P w=.ok y w:=by
  intro q y m code hy;simp [Instr.sliceBound,asIntOf,hy]
 cases l with
 |none=>
  simp only [Bd] at hl;subst hl
  cases h with
  |none=>
   simp only [Bd] at hh;subst hh;simp [Instr.sliceBounds]
  |some h=>
   obtain ⟨q,rfl⟩:=hh;simp at h2;simp [Instr.sliceBounds,key q h cap _ (by omega)]
 |some l=>
  obtain ⟨q,rfl⟩:=hl
  cases h with
  |none=>
   simp only [Bd] at hh;subst hh;simp at h1;simp [Instr.sliceBounds,key q l n _ h1]
  |some h=>
   obtain ⟨q',rfl⟩:=hh;simp at h1 h2;simp [Instr.sliceBounds,key q' h cap _ (by omega),key q l h _ h1]
theorem View.Su {α:Type} (w:View) (xs:List α) (l h:Option Nat) (h1:l.getD 0≤h.getD (w.app xs).length) (h2:h.getD (w.app xs).length≤(w.app xs).length) :
  (w.of (w.app xs).length l h).lo=w.lo+l.getD 0∧((w.of (w.app xs).length l h).app xs).length=h.getD (w.app xs).length-l.getD 0:=by
 cases w with
 |full=>cases l<;>cases h<;>simp [View.of,View.lo,View.app] at h1 h2 ⊢ <;> omega
 |«from» a=>cases l<;>cases h<;>simp [View.of,View.lo,View.app] at h1 h2 ⊢ <;> omega
 |sub a m=>cases l<;>cases h<;>simp [View.of,View.lo,View.app] at h1 h2 ⊢ <;> omega
theorem TY (n:Nat) (l h:Option Nat):Qo n l h=View.full.of n l h:=by
 cases l<;>cases h<;>simp [Qo,View.of,View.lo]
theorem tG {P:Program} {t e:TypeId} {i:TypeInfo} (hu:P.underlying t=some (.slice e)) (hi:P.info? e=some i) {w:World} {a:Option Addr} {n cap:Nat} {ul uh:Option Value} {l h:Option Nat}
  (hl:Bd ul l) (hh:Bd uh h) (h1:l.getD 0≤h.getD n) (h2:h.getD n≤n) (hc:n≤cap) :
  (Instr.sliceAt t (.slice a n cap) ul uh none).run P w=.ok (.slice (if cap=l.getD 0 then a else a.map (·.add (l.getD 0*i.size))) (h.getD n-l.getD 0) (cap-l.getD 0)) w:=by
 have hb:=H0 (P:=P) (w:=w) true hl hh h1 h2 hc;simp [Instr.sliceAt,Instr.slice,run_underlying hu,sizeOf,typeInfo,hi,hb]
theorem TZ {P:Program} {T:pA} (hT:j7 P T) {w0:World} {mu:Mu} {c:Cz} {st:St} {a:Act} {w:World} (h:Rel w0 mu c st a w)
  {d:Option Nat} {t:Nat} {x:V} {ux:Value} {lo hi:Option V} {ul uh:Option Value} (hx:iB c st w x ux) (hl:Ob c st w lo ul) (hh:Ob c st w hi uh) {bV:St}
  (hv:(yO T st d t x lo hi).val=some bV) (hd:∀k,d=some k→k<a.tmps.size) :
  ∃v,(∀w':World,(Instr.sliceAt t ux ul uh none).run P w'=.ok v w')∧Rel w0 mu c bV (a.put d v) w:=by
 cases x with
 |agg _=>simp [yO,N.val] at hv
 |rb _=>simp [yO,N.val] at hv
 |one cx=>cases cx with
  |str s=>
   simp only [yO] at hv
   cases hk:T.kind t with
   |none=>simp [hk,N.val] at hv
   |some y=>cases y with
    |str=>
     simp only [hk] at hv;obtain ⟨l,q,hv,g1,g2,g3,g4⟩:=s9 hl hh hv;simp only [N.val,Option.some.injEq] at hv;subst hv;have e:ux=.string s:=hx;subst e;have hb:=fun w':World=>H0 (P:=P) (w:=w') false g1 g2 g3 g4 (Nat.le_refl _)
     refine ⟨.string (s.extract (l.getD 0) (q.getD s.size)),(fun w'=>by simp [Instr.sliceAt,Instr.slice,run_underlying (Ss hT hk),hb w']),?_⟩;exact h.bW (v:=.one (.str _)) rfl hd
    |_=>simp [hk,N.val] at hv
  |gJ=>
   simp only [yO] at hv
   cases hk:T.elem t with
   |none=>simp [hk,N.val] at hv
   |some p=>
    obtain ⟨r,b⟩:=p;simp only [hk] at hv;obtain ⟨e,i,z,hu,hi,_⟩:=hT.elem t r b hk;obtain ⟨l,q,hv,g1,g2,g3,g4⟩:=s9 hl hh hv;simp only [N.val,Option.some.injEq] at hv;subst hv;have eu:ux=.slice none 0 0:=hx;subst eu;have hr:=fun w':World=>tG (P:=P) (w:=w') (a:=none) hu hi g1 g2 g3 g4 (Nat.le_refl 0)
    have e1:l.getD 0=0:=by omega
    have e2:q.getD 0=0:=by omega
    simp only [e1,e2] at hr;exact ⟨_,hr,h.bW (v:=.one .gJ) rfl hd⟩
  |shr r xs=>
   simp only [yO] at hv
   cases hk:T.elem t with
   |none=>simp [hk,N.val] at hv
   |some p=>
    obtain ⟨r',b⟩:=p;simp only [hk] at hv
    cases hc:ek r' xs with
    |none=>simp [hc,N.val] at hv
    |some ys=>
     simp only [hc] at hv;obtain ⟨rfl,hq⟩:=dh hc
     replace hq:xs=ys:=hq.symm
     subst hq;obtain ⟨e,i,z,hu,hi,qY,He,_⟩:=hT.elem t r b hk;obtain ⟨l,q,hv,g1,g2,g3,g4⟩:=s9 hl hh hv;simp only [N.val,Option.some.injEq] at hv;subst hv;have Kj:=View.Su .full xs l q g3 g4;rw [TY];rcases (si _ _ _ _ _).1 hx with ⟨rfl,rfl⟩ | ⟨ad,cap,rfl,h2,h3,h4⟩
     ·have hr:=fun w':World=>tG (P:=P) (w:=w') (a:=none) hu hi g1 g2 g3 g4 (Nat.le_refl 0)
      simp at g3 g4;have e1:l.getD 0=0:=by omega
      have e2:q.getD 0=0:=by omega
      simp only [e1,show q.getD ([]:List (aO r)).length=0 from e2] at hr;refine ⟨_,hr,h.bW (v:=.one (.shr r _)) ?_ hd⟩;refine (si _ _ _ _ _).2 (.inl ⟨rfl,?_⟩);have:=Kj.2;simp [View.app] at this ⊢
      cases hw:View.full.of 0 l q<;>simp
     ·have hr:=fun w':World=>tG (P:=P) (w:=w') (a:=some ad) hu hi g1 g2 g3 g4 h2
      refine ⟨_,hr,h.bW (v:=.one (.shr r _)) ?_ hd⟩;have hlen:((View.full.of xs.length l q).app xs).length=q.getD xs.length-l.getD 0:=Kj.2;refine (si _ _ _ _ _).2 (.inr ⟨if cap=l.getD 0 then ad else ad.add (l.getD 0*i.size),cap-l.getD 0,?_,by rw [hlen];omega,fun mn => ?_,fun j y hy => ?_⟩)
      ·rw [hlen]
       congr 1
       by_cases e:cap=l.getD 0<;>simp [e]
      ·have hp:0<q.getD xs.length-l.getD 0:=by rw [←hlen];exact List.length_pos_iff.2 mn
       have ac5:xs≠[]:=by intro e;subst e;simp at g4 hp;omega
       obtain ⟨k1,k2,k3⟩:=h3 ac5;have HX:ad=⟨ad.block,ad.off,none⟩:=by cases ad;simp at k1 ⊢;exact k1
       rw [if_neg (by omega),HX,Addr.add_mid];exact ⟨rfl,k2,k3⟩
      ·have hj:j<q.getD xs.length-l.getD 0:=by rw [←hlen];exact (List.getElem?_eq_some_iff.1 hy).1
       have ac5:xs≠[]:=by intro e;subst e;simp at g4 hj;omega
       obtain ⟨k1,k2,k3⟩:=h3 ac5;have HX:ad=⟨ad.block,ad.off,none⟩:=by cases ad;simp at k1 ⊢;exact k1
       rw [if_neg (by omega),HX,Addr.add_mid];have Oa:=View.Cl (View.full.of xs.length l q) xs hy;rw [show (View.full.of xs.length l q).lo=l.getD 0 by have h9:(View.full.of xs.length l q).lo=View.full.lo+l.getD 0:=Kj.1;rw [h9];simp [View.lo]] at Oa;have:=h4 _ y Oa;rw [Nat.add_mul] at this;rw [qY];simp only;rw [Nat.add_assoc];exact this
  |ref a' j g vw=>
   simp only [yO] at hv
   cases hk:T.elem t with
   |none=>simp [hk,N.val] at hv
   |some p=>
    obtain ⟨r',b⟩:=p;simp only [hk] at hv
    cases hA:cT st a' j g with
    |none=>simp [hA,N.val] at hv
    |some A=>
     simp only [hA] at hv
     cases hc:ek r' A.xs with
     |none=>simp [hc,N.val] at hv
     |some ys=>
      simp only [hc] at hv;obtain ⟨e',he⟩:=dh hc;subst e';simp only at he;subst he;obtain ⟨e,i,z,hu,hi,qY,He,_⟩:=hT.elem t A.r b hk;obtain ⟨l,q,hv,g1,g2,g3,g4⟩:=s9 hl hh hv;simp only [N.val,Option.some.injEq] at hv;subst hv;have Kj:=View.Su vw A.xs l q g3 g4;have hs:=hx.2.2 A hA
      cases nZ:c.lc a' j with
      |nil=>
       unfold pX at hs;rw [nZ] at hs;obtain ⟨rfl,hn⟩:=hs;rw [hn] at g3 g4;have hr:=fun w':World=>tG (P:=P) (w:=w') (a:=none) hu hi g1 g2 g3 g4 (Nat.le_refl 0)
       have e1:l.getD 0=0:=by omega
       have e2:q.getD 0=0:=by omega
       simp only [e1,e2] at hr;refine ⟨_,hr,h.bW (v:=.one (.ref a' j g _)) ⟨rfl,hx.2.1,fun A2 TX => ?_⟩ hd⟩;rw [hA] at TX;obtain rfl:=Option.some.inj TX;rw [nZ];refine ⟨by simp,?_⟩;rw [Kj.2,hn];omega
      |«at» bb off cap=>
       unfold pX at hs;rw [nZ] at hs;obtain ⟨ad,cc,rfl,hcc,CK,HX⟩:=hs;have hr:=fun w':World=>tG (P:=P) (w:=w') (a:=some ad) hu hi g1 g2 g3 g4 hcc
       refine ⟨_,hr,h.bW (v:=.one (.ref a' j g _)) ⟨?_,hx.2.1,fun A2 TX => ?_⟩ hd⟩
       ·by_cases e:cc=l.getD 0<;>simp [e,Value.oneCell']
       ·rw [hA] at TX;obtain rfl:=Option.some.inj TX;rw [nZ];refine ⟨if cc=l.getD 0 then ad else ad.add (l.getD 0*i.size),cc-l.getD 0,?_,by rw [Kj.2];omega,by rw [Kj.1];omega,fun mn => ?_⟩
        ·rw [Kj.2]
         congr 1
         by_cases e:cc=l.getD 0<;>simp [e]
        ·rw [if_neg (by omega),HX (by omega),Addr.add_mid,Kj.1,qY,Nat.add_mul,Nat.add_assoc]
  |_=>simp [yO,N.val] at hv
theorem flat_get {α:Type} (l:List α) (W:Nat) (hW:l.length=W):(n i q:Nat)→i<n→q<W→((List.replicate n l).flatten)[i*W+q]?=l[q]?
 |0,_,_,h,_=>by omega
 |n+1,0,q,_,hq=>by
  rw [List.replicate_succ,List.flatten_cons,Nat.zero_mul,Nat.zero_add,List.getElem?_append_left (by omega)]
 |n+1,i+1,q,h,hq=>by
  rw [List.replicate_succ,List.flatten_cons,List.getElem?_append_right (by rw [Nat.add_mul];omega),hW,show (i+1)*W+q-W=i*W+q by rw [Nat.add_mul];omega];exact flat_get l W hW n i q (by omega) hq
theorem T0 {P:Program} {T:pA} (hT:j7 P T) {w0:World} {mu:Mu} {c:Cz} {st:St} {a:Act} {w:World} (h:Rel w0 mu c st a w)
  {t ty:Nat} {x:V} {ux:Value} (hx:iB c st w x ux) {bV:St} (hv:(Qp T st t x).val=some bV) :
  ∃w',(Builtin.clear_ #[t] ty #[ux]).run P w=.ok (.tuple #[]) w'∧∃c',Rel w0 mu c' bV a w':=by
 unfold Qp at hv
 cases ht:T.elem t with
 |none=>simp [ht,N.val] at hv
 |some p=>
  obtain ⟨r,bytes⟩:=p;simp only [ht] at hv;obtain ⟨e,i,z,hu,hi,qY,He,hby,N7,hz,MB⟩:=hT.elem t r bytes ht;have CZ:z.cells.size=r.width:=by have:=lC.length r _ MB;simpa using this
  split at hv
  ·simp only [N.val,Option.some.injEq] at hv;subst hv;have e1:ux=.slice none 0 0:=hx;subst e1;exact ⟨w,by simp [Builtin.clear_,run_underlying hu],c,h⟩
  ·rename_i a' j g k
   cases hA:cT st a' j g with
   |none=>simp [hA,N.val] at hv
   |some A=>
    simp only [hA] at hv;obtain ⟨hc,hv⟩:=jK hv;rw [Bool.and_eq_true,Bool.and_eq_true] at hc;obtain ⟨kM,Hq,hns⟩:=hc;have Hq:=Md.xJ.1 Hq
    cases AG:ek r A.xs with
    |none=>simp [AG,N.val] at hv
    |some xs=>
     simp only [AG] at hv;obtain ⟨e2,_⟩:=dh AG;obtain ⟨sl,HJ,TR,HK⟩:=dF hA;have Kh:=h.ca a' j sl A HJ HK;have hs:=hx.2.2 A hA;have Qu:((View.from k).app A.xs).length=A.xs.length-k:=by simp [View.app]
     rcases yg hv with ⟨dB,hv⟩ | ⟨dB,hv⟩
     ·have dB:0<A.xs.length-k:=Nat.le_of_ble_eq_true dB;simp only [N.val,Option.some.injEq] at hv;subst hv
      cases hl:c.lc a' j with
      |nil=>
       unfold pX at hs;rw [hl,Qu] at hs;have:=hs.2;omega
      |«at» b off cap=>
       unfold pX at hs;rw [hl,Qu] at hs;obtain ⟨ad,n,rfl,hn,CK,HX⟩:=hs;have HX:=HX (by omega);subst HX;unfold fQ at Kh;rw [hl] at Kh;obtain ⟨ho,hcp,⟨cur,ct,hg,yL⟩,tU⟩:=Kh;rw [kM] at ho;have tU:=(dY.sh Hq).1 tU;have hlo:(View.from k).lo=k:=rfl;rw [hlo];have hz':(Builtin.zeroCells z.cells (A.xs.length-k)).toList=(List.replicate (A.xs.length-k) z.cells.toList).flatten:=by
        unfold Builtin.zeroCells;rw [show (A.xs.length-k)*z.cells.size=(A.xs.length-k)*r.width by rw [CZ]];exact HY z.cells (A.xs.length-k) r.width CZ He
       subst e2;generalize hZ:(Builtin.zeroCells z.cells (A.xs.length-k)).toList=Z at hz';have hZl:Z.length=(A.xs.length-k)*A.r.width:=by
        rw [hz',List.length_flatten,List.map_replicate,List.sum_replicate_nat];simp [CZ]
       have Qv:off+k*A.r.width+(A.xs.length-k)*A.r.width≤cur.size:=by
        have h1:k*A.r.width+(A.xs.length-k)*A.r.width=A.xs.length*A.r.width:=by rw [←Nat.add_mul];congr 1;omega
        have h2:A.xs.length*A.r.width≤cap*A.r.width:=Nat.mul_le_mul_right _ hcp;omega
       have N6:∀u∈Z,u.oneCell'=true:=by
        rw [hz'];intro u hu;obtain ⟨l,WU,hl2⟩:=List.mem_flatten.1 hu;rw [(List.mem_replicate.1 WU).2] at hl2;exact eG.one A.r _ _ (vZ (w:=w) (ok:=c.ok) A.r _ MB) u hl2
       have w7:=run_storeCells_at P b (off+k*A.r.width) ct Z 0 cur w hg (by omega) N6;simp only [Nat.add_zero] at w7;have apu:=uX (w:=w) ho (eo cur.toList (off+k*A.r.width) Z).toArray;have hg':=setRow_heap w b cur (eo cur.toList (off+k*A.r.width) Z).toArray ct (0,0) hg;have HT:∀q,(w.setRow b (eo cur.toList (off+k*A.r.width) Z).toArray).cell? ⟨b,q,none⟩=if off+k*A.r.width≤q∧q<off+k*A.r.width+Z.length then Z[q-(off+k*A.r.width)]? else w.cell? ⟨b,q,none⟩:=by
        intro q;rw [cell_of_row _ b q _ ct (0,0) hg',cell_of_row w b q cur ct (0,0) hg];simp only [List.getElem?_toArray];rw [su (by simp;omega)];simp
       refine ⟨_,?_,c,h.HR HJ HK kM hl hg (cur':=(eo cur.toList (off+k*A.r.width) Z).toArray) (by rw [List.size_toArray,np (by simp;omega)];simp) (by simp;omega) ((dY.sh (A:={ A with xs:=A.xs.take k++List.replicate (A.xs.length-k) (xj A.r) }) Hq).2 fun i x hx => ?_)⟩
       ·cases hnn:A.xs.length-k with
        |zero=>omega
        |succ q=>
         rw [hnn] at hZ;have hzv:(zeroValue e).run P w=.ok z w:=by simp [zeroValue,typeInfo,hi,hz]
         simp [Builtin.clear_,run_underlying hu,hzv,hZ,w7,eo]
       ·have hx:(A.xs.take k++List.replicate (A.xs.length-k) (xj A.r))[i]?=some x:=hx;show fP _ c.ok A.r b (off+i*A.r.width) x;have hkl:(A.xs.take k).length=k:=by rw [List.length_take];omega
        by_cases hik:i<k
        ·rw [List.getElem?_append_left (by omega),List.getElem?_take,if_pos hik] at hx;obtain ⟨vs,h1,h2⟩:=(mR A.r b _ x).1 (tU i x hx);have K2:=eG.length A.r vs x h2;refine (mR A.r b _ x).2 ⟨vs,fun q v hv => ?_,eG.stays apu A.r _ x h2⟩;have hq:q<A.r.width:=by rw [←K2];exact (List.getElem?_eq_some_iff.1 hv).1
         have h3:(i+1)*A.r.width≤k*A.r.width:=Nat.mul_le_mul_right _ (by omega);rw [Nat.add_mul] at h3;rw [HT,if_neg (by omega)];exact h1 q v hv
        ·rw [List.getElem?_append_right (by omega),hkl] at hx;have T1:i-k<A.xs.length-k:=by have:=(List.getElem?_eq_some_iff.1 hx).1;simpa using this
         rw [List.getElem?_replicate,if_pos T1] at hx;obtain rfl:=Option.some.inj hx;refine (mR A.r b _ _).2 ⟨z.cells.toList,fun q v hv => ?_,vZ A.r _ MB⟩;have hq:q<A.r.width:=by
          have:=(List.getElem?_eq_some_iff.1 hv).1;simpa [CZ] using this
         have e3:i*A.r.width=k*A.r.width+(i-k)*A.r.width:=by rw [←Nat.add_mul];congr 1;omega
         have h4:(i-k+1)*A.r.width≤(A.xs.length-k)*A.r.width:=Nat.mul_le_mul_right _ (by omega);rw [Nat.add_mul] at h4;rw [HT,if_pos (by omega),show off+i*A.r.width+q-(off+k*A.r.width)=(i-k)*A.r.width+q by omega,hz',flat_get z.cells.toList A.r.width (by simpa using CZ) _ _ _ T1 hq];exact hv
     ·simp only [N.val,Option.some.injEq] at hv;subst hv;have dB:A.xs.length-k=0:=by
       by_cases e3:0<A.xs.length-k
       ·rw [show Nat.blt 0 (A.xs.length-k)=true from Nat.ble_eq_true_of_le e3] at dB;cases dB
       ·omega
      cases hl:c.lc a' j with
      |nil=>
       unfold pX at hs;rw [hl,Qu] at hs;rw [hs.1];exact ⟨w,by simp [Builtin.clear_,run_underlying hu],c,h⟩
      |«at» b off cap=>
       unfold pX at hs;rw [hl,Qu,dB] at hs;obtain ⟨ad,n,rfl,hn,CK,HX⟩:=hs;exact ⟨w,by simp [Builtin.clear_,run_underlying hu],c,h⟩
  ·simp [N.val] at hv
end Go.TM
