/- A machine over trees: an evaluator of the code, and that what it finds is so; part 1. -/
import GoSem.Core.Value
import GoSem.Core.Code
import GoSem.Core.Program
import GoSem.Core.View
import Derived.Below
import Derived.Laws.AppendOwn
import Derived.Laws.Cells
import Derived.Laws.Rows
import Derived.Deep.MidRow
import Derived.Laws.CopyRow
import Derived.Laws.MakeOwn
import Derived.Great.BuildSlice
import Derived.Laws.Cover3
set_option linter.unusedSimpArgs false
set_option linter.unusedVariables false
namespace Go.TM
open Go
mutual
inductive Ty where
 |int (k:IntKind)
 |bool
 |str
 |sl (r:RT)
inductive RT where
 |nil
 |cons (t:Ty) (r:RT)
end
mutual
def den:Ty→Type
 |.int _=>Int
 |.bool=>Bool
 |.str=>ByteArray
 |.sl r=>List (aO r)
def aO:RT→Type
 |.nil=>Unit
 |.cons t r=>den t×aO r
end
mutual
def Ty.eq?:(a b:Ty)→Option (PLift (a=b))
 |.int k,.int l=>if h:k=l then some ⟨by rw [h]⟩ else none
 |.bool,.bool=>some ⟨rfl⟩
 |.str,.str=>some ⟨rfl⟩
 |.sl r,.sl s=>match RT.eq? r s with | some ⟨h⟩=>some ⟨by rw [h]⟩ | none=>none
 |_,_=>none
def RT.eq?:(a b:RT)→Option (PLift (a=b))
 |.nil,.nil=>some ⟨rfl⟩
 |.cons t r,.cons u s=>match Ty.eq? t u,RT.eq? r s with
  |some ⟨h⟩,some ⟨g⟩=>some ⟨by rw [h,g]⟩
  |_,_=>none
 |_,_=>none
end
def ez {r:RT} (s:RT) (xs:List (aO r)):Option (List (aO s)):=
 match RT.eq? r s with
 |some ⟨h⟩=>some (h▸xs)
 |none=>none
def RT.p7:RT→Bool
 |.nil=>false
 |.cons (.sl _) _=>true
 |.cons _ r=>r.p7
def RT.width:RT→Nat
 |.nil=>0
 |.cons _ r=>r.width+1
inductive View where
 |full
 |from (lo:Nat)
 |sub (lo n:Nat)
def View.app {α:Type}:View→List α→List α
 |.full,xs=>xs
 |.from lo,xs=>xs.drop lo
 |.sub lo n,xs=>(xs.drop lo).take n
def View.lo:View→Nat
 |.full=>0
 |.from l=>l
 |.sub l _=>l
def View.idx (w:View) (i:Nat):Nat:=
 match w with
 |.full=>i
 |.from l=>l+i
 |.sub l _=>l+i
inductive CV where
 |bad
 |int (k:IntKind) (n:Int)
 |bool (b:Bool)
 |str (s:ByteArray)
 |gw
 |Pb
 |shr (r:RT) (xs:List (aO r))
 |nn (r:RT) (xs:List (aO r))  -- as 'atV,and not nil
 |ref (a j g:Nat) (w:View)
 |ptr (b g off:Nat)
 |MS (a j g i off:Nat)
 |nV (r:RT) (x:aO r) (off:Nat)
 |xy (r:RT) (xs:List (aO r)) (off:Nat)  -- as 'atW,R9 row asc R9 first of a list
 |fn (g:Nat) (rs:RT) (xs:List (aO rs))    -- a function with boxes aaR are read alone: each cell of R9 row is one asd rows
inductive Lb where
 |box (s:Nat)
 |sp (s j:Nat)
 |out
 |dE (i j:Nat)
 |xz (i:Nat)
 |kO (j:Nat)
def Lb.same:Lb→Lb→Bool
 |.box s,.box t=>Nat.beq s t
 |.sp s i,.sp t j=>Nat.beq s t&&Nat.beq i j
 |_,_=>false
inductive V where
 |one (c:CV)
 |agg (cs:List CV)
 |p8 (vs:List V)
def V.cells:V→List CV
 |.one c=>[c]
 |.agg cs=>cs
 |.p8 _=>[]
inductive Md where
 |sh
 deriving DecidableEq
def Md.is:Md→Md→Bool
 |.sh,.sh=>true
theorem Md.ya {a b:Md}:Md.is a b=true↔a=b:=by
 cases a<;>cases b<;>simp [Md.is]
def Md.Sa:Md→Bool
 |_=>false
structure nu where
 r:RT
 own:Bool
 xs:List (aO r)
 md:Md:=.sh
structure Sl where
 v:V
 box:Option (List CV)
 bg:Nat
 bU:List (Option nu)
 ag:Nat
 ep:Nat:=0  -- it ahh when an array of R9 slot is written,or a call is made
def Sl.none:Sl:={ v:=.one .bad,box:=.none,bg:=0,bU:=[],ag:=0 }
abbrev St:=List Sl
def nth {α:Type}:List α→Nat→Option α
 | [],_=>none
 |x::_,0=>some x
 |_::l,n+1=>nth l n
def sO {α:Type} (f:α→α):List α→Nat→List α
 | [],_=>[]
 |x::l,0=>f x::l
 |x::l,n+1=>x::sO f l n
def dN (st:St) (t:Nat):V:=
 match nth st t with
 |some s=>s.v
 |none=>.one .bad
def bR (st:St) (d:Option Nat) (v:V):St:=
 match d with
 |some t=>sO (fun s=>{ s with v:=v }) st t
 |none=>st
def cO (st:St) (a j g:Nat):Option nu:=
 match nth st a with
 |some s=>bif Nat.beq s.ag g then (match nth s.bU j with | some (some A)=>some A | _=>none) else none
 |none=>none
def fk (st:St) (a j:Nat) (A:Option nu):St:=
 sO (fun s=>{ s with bU:=sO (fun _=>A) s.bU j,ep:=s.ep+1 }) st a
def wu (st:St) (a:Nat):Nat:=match nth st a with | some s=>s.ep | none=>0
def fV (st:St) (b g:Nat):Option (List CV):=
 match nth st b with
 |some s=>bif Nat.beq s.bg g then s.box else none
 |none=>none
inductive N where
 |done (st:St)
 |fail
 |br (b:Bool) (t e:N)
 |row (r:RT) (o:Option (aO r)) (k:aO r→N)
def N.val:N→Option St
 |.done st=>some st
 |.fail=>none
 |.br b t e=>bif b then t.val else e.val
 |.row _ o k=>match o with | some x=>(k x).val | none=>none
def N.fold {R:Type}:N→(St→Option R)→Option R
 |.done st,k=>k st
 |.fail,_=>none
 |.br b t e,k=>bif b then t.fold k else e.fold k
 |.row _ o f,k=>match o with | some x=>(f x).fold k | none=>none
theorem N.fold_eq {R:Type} (n:N) (k:St→Option R):n.fold k=n.val.bind k:=by
 induction n with
 |done st=>rfl
 |fail=>rfl
 |br b t e iht ihe=>cases b<;>simp [N.fold,N.val,iht,ihe]
 |row r o f ih=>cases o<;>simp [N.fold,N.val,ih]
def Pc:(t:Ty)→den t
 |.int _=>(0:Int)
 |.bool=>false
 |.str=>ByteArray.empty
 |.sl _=>([]:List _)
def Ak:(r:RT)→aO r
 |.nil=>()
 |.cons t r=>(Pc t,Ak r)
def Pd:(t:Ty)→den t→CV
 |.int k,n=>.int k n
 |.bool,b=>.bool b
 |.str,s=>.str s
 |.sl r,xs=>.shr r xs
def gh:(r:RT)→aO r→List CV
 |.nil,_=>[]
 |.cons t r,x=>Pd t x.1::gh r x.2
def oV (st:St) (r:RT) (c:CV) (k:List (aO r)→N):N:=
 match c with
 |.shr _ xs=>match ez r xs with | some ys=>k ys | none=>.fail
 |.nn _ xs=>match ez r xs with | some ys=>k ys | none=>.fail
 |.gw=>k []
 |.ref a j g w=>match cO st a j g with
  |some A=>(match ez r A.xs with | some ys=>k (w.app ys) | none=>.fail)
  |none=>.fail
 |_=>.fail
structure oU where
 cells:Nat→Option Nat          -- how many cells a value of R9 type ase
 agg:Nat→Bool                  -- is it a struct
 off:Nat→Nat→Option Nat      -- a UQ field: its first cell
 fsz:Nat→Nat→Option Nat      -- and how many it has
 row:Nat→Option RT             -- R9 yb types
 elem:Nat→Option (RT×Nat)    -- a slice: its agD cells,and R9 bytes of one
 p8:Nat→Option (List Nat)     -- a alq types
 kind:Nat→Option Ty            -- a type of one cell
 one:Nat→Nat→Bool            -- a UQ field aaR is no struct al8
 eq:Nat→Bool                   -- a struct of numbers,asf and strings,ahj by '=='
 dp:Nat→Bool:=fun _=>false -- a slice ZW asg p7 are its own,where at0 may be
 cap:Nat→Bool:=fun _=>false -- a ZX box aaR is read alone
inductive OV where
 |int (k:IntKind) (n:Int)
 |bool (b:Bool)
 |str (s:ByteArray)
 |own (A:nu)
 |shr (r:RT) (xs:List (aO r))
 |gw
 |nV (r:RT) (xs:List (aO r))
 |fn (g:Nat) (rs:RT) (xs:List (aO rs))
inductive AV where
 |val (agg:Bool) (os:List OV)  -- a value: its UR are R9 ahk from now on
 |io (A:nu)                     -- an array,Lp: R9 callee may write it
 |box (os:List OV)               -- a struct behind a pointer,Lp
 |dZ (os:List OV)              -- a struct ZW UR are Lp
inductive RV where
 |one (o:OV)
 |agg (os:List OV)
 |ptr (os:List OV)  -- a new struct,behind a pointer
inductive XV where
 |io (A:nu)
 |box (cs:List OV)
 |dZ (As:List (Option nu))
structure Res where
 outs:List RV
 exts:List XV
structure Ans where
 r:RT
 o:Option (aO r)
 res:aO r→Res
abbrev Al:=List AV→Option Ans
inductive Pm where
 |shr | own | io | dZ
 |pick (l:List Nat)  -- a struct behind a pointer,some of ZW UR are read alone from then on
abbrev mW:=FuncId→Option (Pm×Pm×Pm×Al)   -- R9 first three ZY ways;asi mX are shared
def bW (b g:Nat):(j:Nat)→List OV→List CV
 |_,[]=>[]
 |j,.int k n::l=>.int k n::bW b g (j+1) l
 |j,.bool x::l=>.bool x::bW b g (j+1) l
 |j,.str s::l=>.str s::bW b g (j+1) l
 |j,.own _::l=>.ref b j g .full::bW b g (j+1) l
 |j,.shr r xs::l=>.shr r xs::bW b g (j+1) l
 |j,.gw::l=>.gw::bW b g (j+1) l
 |j,.nV r xs::l=>.xy r xs 0::bW b g (j+1) l
 |j,.fn f rs xs::l=>.fn f rs xs::bW b g (j+1) l
def OV.arr:OV→Option nu
 |.own A=>some A
 |_=>none
def cj:List OV→List (Option nu)
 | []=>[]
 |o::l=>o.arr::cj l
def RV.Aj:RV→List OV
 |.one o=>[o]
 |.agg os=>os
 |.ptr os=>.gw::os
def US (d g j:Nat):RV→V
 |.one o=>match bW d g j [o] with | [c]=>.one c | _=>.one .bad
 |.agg os=>.agg (bW d g j os)
 |.ptr _=>.one .bad
def na (d g:Nat):(j:Nat)→List RV→List V
 |_,[]=>[]
 |j,r::l=>US d g j r::na d g (j+r.Aj.length) l
def Am (st:St) (d:Option Nat) (outs:List RV):Option St:=
 match d with
 |some d=>match nth st d with
  |some s=>
   let g:=s.ag+1
   match outs with
   | [.ptr os]=>some (sO (fun s=>{ s with v:=.one (.ptr d (s.bg+1) 0),box:=some (bW d (s.ag+1) 1 os),bg:=s.bg+1,bU:=none::cj os,ag:=s.ag+1 }) st d)
   |outs=>
    let v:V:=match na d g 0 outs with | [v]=>v | vs=>.p8 vs
    some (sO (fun s=>{ s with v:=v,bU:=cj (outs.flatMap RV.Aj),ag:=g }) st d)
  |none=>none
 |none=>match outs with
  | []=>some st
  |_=>none
def pW (st:St):Operand→V
 |.tmp t=>dN st t
 |.const (.int k n)=>.one (.int k n)
 |.const (.bool b)=>.one (.bool b)
 |.const (.string s)=>.one (.str s)
 |.const (.slice none 0 0)=>.one .gw
 |.const (.pointer none)=>.one .Pb
 |_=>.one .bad
def UT (op:BinOp) (a b:Int):Option Bool:=
 match op with
 |.lss=>some (decide (a<b))
 |.leq=>some (decide (a≤b))
 |.gtr=>some (decide (b<a))
 |.geq=>some (decide (b≤a))
 |.eql=>some (decide (a=b))
 |.neq=>some (!decide (a=b))
 |_=>none
def GU (op:BinOp) (k:IntKind) (a b:Int):Option Int:=
 match op with
 |.add=>some (k.wrap (a+b))
 |.sub=>some (k.wrap (a-b))
 |.mul=>some (k.wrap (a*b))
 |.and=>some (k.wrap ((BitVec.ofInt k.bits a &&& BitVec.ofInt k.bits b).toNat:Int))
 |.or=>some (k.wrap ((BitVec.ofInt k.bits a ||| BitVec.ofInt k.bits b).toNat:Int))
 |.xor=>some (k.wrap ((BitVec.ofInt k.bits a ^^^ BitVec.ofInt k.bits b).toNat:Int))
 |_=>none
def UU (op:BinOp) (k:IntKind) (a b:Int):Option Int:=
 match op with
 |.quo=>some (k.wrap (a.tdiv b))
 |.rem=>some (a.tmod b)
 |_=>none
def GV (op:BinOp) (k:IntKind) (a:Int) (n:Nat):Option Int:=
 match op with
 |.shl=>some (k.wrap (a*2 ^ (min n k.bits)))
 |.shr=>some (a.fdiv (2 ^ (min n k.bits)))
 |_=>none
def wB (a b:ByteArray):Bool:=a.toList==b.toList
def yc:CV→CV→Option Bool
 |.int k a,.int l b=>if k=l then some (decide (a=b)) else none
 |.bool a,.bool b=>some (a==b)
 |.str a,.str b=>some (wB a b)
 |_,_=>none
def p9:List CV→List CV→Option Bool
 | [],[]=>some true
 |a::l,b::m=>match yc a b,p9 l m with
  |some x,some y=>some (x&&y)
  |_,_=>none
 |_,_=>none
def Lq (s:ByteArray) (i:Int):Int:=match s[i.toNat]? with | some b=>(b.toNat:Int) | none=>0
def oK:(r:RT)→aO r→Nat→CV→Option (aO r)
 |.cons (.int k) _,x,0,.int l n=>if k=l then some (n,x.2) else none
 |.cons .bool _,x,0,.bool b=>some (b,x.2)
 |.cons .str _,x,0,.str s=>some (s,x.2)
 |.cons _ r,x,n+1,c=>(oK r x.2 n c).map fun z=>(x.1,z)
 |_,_,_,_=>none
def rowOf (st:St):(r:RT)→List CV→(k:aO r→List (Nat×Nat)→N)→N
 |.nil,[],k=>k () []
 |.cons (.int q) r,.int l n::cs,k=>if q=l then rowOf st r cs (fun x m=>k (n,x) m) else .fail
 |.cons .bool r,.bool b::cs,k=>rowOf st r cs (fun x m=>k (b,x) m)
 |.cons .str r,.str s::cs,k=>rowOf st r cs (fun x m=>k (s,x) m)
 |.cons (.sl q) r,c::cs,k=>
  match c with
  |.gw=>rowOf st r cs (fun x m=>k (([]:List _),x) m)
  |.ref a j g w=>match cO st a j g with
   |some A=>(match ez q A.xs with
    |some ys=>rowOf st r cs (fun x m=>k (w.app ys,x) ((a,j)::m))
    |none=>.fail)
   |none=>.fail
  |.shr _ ys=>match ez q ys with
   |some zs=>rowOf st r cs (fun x m=>k (zs,x) m)
   |none=>.fail
  |_=>.fail
 |_,_,_=>.fail
def Md.fz:Md→Md
 |m=>m
def nu.fz (A:nu):nu:={ A with own:=false,md:=A.md.fz }
def freeze (st:St):List (Nat×Nat)→St
 | []=>st
 |(a,j)::l=>freeze (sO (fun s=>{ s with bU:=sO (fun A=>A.map nu.fz) s.bU j,ep:=s.ep+1 }) st a) l
def lim:Nat:=35184372088832
def u0:RT→List CV→Bool
 |.nil,[]=>true
 |.cons (.int k) r,.int l _::cs=>decide (k=l)&&u0 r cs
 |.cons .bool r,.bool _::cs=>u0 r cs
 |.cons .str r,.str _::cs=>u0 r cs
 |_,_=>false
def oU.fits (T:oU) (t:Nat) (l:List CV):Bool:=match T.row t with | some r=>u0 r l | none=>false
def zY (T:oU) (st:St) (d:Option Nat) (op:BinOp) (t:Nat) (x y:V):N:=
 match x,y with
 |.one (.int k a),.one (.int l b)=>
  match op with
  |.shl | .shr=>match GV op k a b.toNat with
   |some n=>.br (decide (0≤b)) (.done (bR st d (.one (.int k n)))) .fail
   |none=>.fail
  |_=>if k=l then (match UT op a b with
   |some t=>.done (bR st d (.one (.bool t)))
   |none=>match GU op k a b with
    |some n=>.done (bR st d (.one (.int k n)))
    |none=>match UU op k a b with
     |some n=>.br (decide (b=0)) .fail (.done (bR st d (.one (.int k n))))
     |none=>.fail) else .fail
 |.one (.str a),.one (.str b)=>
  match op with
  |.add=>.br (Nat.ble (a.size+b.size) lim) (.done (bR st d (.one (.str (a++b))))) .fail
  |.eql=>.done (bR st d (.one (.bool (wB a b))))
  |.neq=>.done (bR st d (.one (.bool (!wB a b))))
  |_=>.fail
 |.one (.bool a),.one (.bool b)=>
  match op,T.kind t with
  |.eql,some .bool=>.done (bR st d (.one (.bool (a==b))))
  |.neq,some .bool=>.done (bR st d (.one (.bool (!(a==b)))))
  |_,_=>.fail
 |.one .gw,.one .gw=>
  match op,T.elem t with
  |.eql,some _=>.done (bR st d (.one (.bool true)))
  |.neq,some _=>.done (bR st d (.one (.bool false)))
  |_,_=>.fail
 |.one (.nn _ _),.one .gw=>
  match op,T.elem t with
  |.eql,some _=>.done (bR st d (.one (.bool false)))
  |.neq,some _=>.done (bR st d (.one (.bool true)))
  |_,_=>.fail
 |.agg l,.agg m=>
  bif T.eq t&&T.fits t l then (match op,p9 l m with
  |.eql,some t=>.done (bR st d (.one (.bool t)))
  |.neq,some t=>.done (bR st d (.one (.bool (!t))))
  |_,_=>.fail) else .fail
 |_,_=>.fail
def CV.zO:CV→Bool
 |.bad=>false
 |_=>true
def V.zO:V→Bool
 |.one c=>c.zO
 |.agg cs=>cs.all CV.zO
 |.p8 _=>false
def gu (st:St) (d:Option Nat) (A:nu):N:=
 match d with
 |some d=>match nth st d with
  |some s0=>.done (sO (fun s=>{ s with v:=.one (.ref d 0 (s0.ag+1) .full),bU:=[some A],ag:=s0.ag+1 }) st d)
  |none=>.fail
 |none=>.fail
def kP (st:St) (d:Option Nat) (cs:List CV):N:=
 match d with
 |some d=>match nth st d with
  |some s0=>.done (sO (fun s=>{ s with v:=.one (.ptr d (s0.bg+1) 0),box:=some cs,bg:=s0.bg+1 }) st d)
  |none=>.fail
 |none=>.fail
def rk (r:RT):List CV:=(gh r (Ak r)).map fun | .shr _ _=>.gw | c=>c
def j8 (n off:Nat) (cs:List CV):Option (List CV):=
 let l:=(cs.drop off).take n
 bif Nat.beq l.length n then some l else none
def putCells (cs:List CV) (off:Nat) (l:List CV):Option (List CV):=
 bif Nat.ble (off+l.length) cs.length then some (cs.take off++l++cs.drop (off+l.length)) else none
def Yt (T:oU) (t:Nat) (l:List CV):V:=bif T.agg t then .agg l else (match l with | [c]=>.one c | _=>.one .bad)
def zP (T:oU) (st:St) (d:Option Nat) (t:Nat) (a:V):N:=
 match a,T.cells t with
 |.one (.ptr b g off),some n=>match fV st b g with
  |some cs=>match j8 n off cs with
   |some l=>.done (bR st d (Yt T t l))
   |none=>.fail
  |none=>.fail
 |.one (.nV r x off),some n=>match j8 n off (gh r x) with
  |some l=>.done (bR st d (Yt T t l))
  |none=>.fail
 |.one (.xy r xs off),some n=>.row r xs[0]? fun x=>match j8 n off (gh r x) with
  |some l=>.done (bR st d (Yt T t l))
  |none=>.fail
 |.one (.MS a j g i off),some n=>match cO st a j g with
  |some A=>.row A.r A.xs[i]? fun x=>match j8 n off (gh A.r x) with
   |some l=>.done (bR st d (Yt T t l))
   |none=>.fail
  |none=>.fail
 |_,_=>.fail
def u4 (r:RT) (x:aO r):(off:Nat)→List CV→Option (aO r)
 |_,[]=>some x
 |off,c::l=>match u4 r x (off+1) l with
  |some y=>oK r y off c
  |none=>none
def nu.put (A:nu) (ys:List (aO A.r)):nu:={ A with xs:=ys }
def wZ (T:oU) (st:St) (t:Nat) (a v:V):N:=
 match a,T.cells t with
 |.one (.ptr b g off),some n=>match fV st b g with
  |some cs=>bif v.zO&&Nat.beq v.cells.length n then (match putCells cs off v.cells with
   |some l=>.done (sO (fun s=>{ s with box:=some l }) st b)
   |none=>.fail) else .fail
  |none=>.fail
 |.one (.MS a j g i off),some n=>match cO st a j g with
  |some A=>bif v.zO&&A.own&&Nat.beq v.cells.length n&&Nat.blt 0 n then
    (bif Nat.beq n A.r.width&&A.r.p7&&Nat.beq off 0 then
     (rowOf st A.r v.cells fun x m=>bif m.all (fun p => !(Nat.beq p.1 a&&Nat.beq p.2 j)) then
      .row A.r A.xs[i]? (fun _=>.done (fk (freeze st m) a j (some (A.put (A.xs.set i x))))) else .fail)
    else .row A.r A.xs[i]? fun x=>match u4 A.r x off v.cells with
     |some y=>.done (fk st a j (some (A.put (A.xs.set i y))))
     |none=>.fail) else .fail
  |none=>.fail
 |_,_=>.fail
def sP (T:oU) (st:St) (d:Option Nat) (t:Nat) (x ix:V):N:=
 match T.elem t,x,ix with
 |some (q,_),.one (.shr r xs),.one (.int _ i)=>match ez q xs with
  |some ys=>.br (decide (0≤i)) (.row q ys[i.toNat]? fun y=>.done (bR st d (.one (.nV q y 0)))) .fail
  |none=>.fail
 |some (q,_),.one (.ref a j g w),.one (.int _ i)=>match cO st a j g with
  |some A=>match ez q A.xs with
   |some ys=>(match A.own with
    |false=>.br (decide (0≤i)) (.row q (w.app ys)[i.toNat]? fun y=>.done (bR st d (.one (.nV q y 0)))) .fail
    |true=>.br (decide (0≤i)) (.br (Nat.blt i.toNat (w.app ys).length) (.done (bR st d (.one (.MS a j g (w.idx i.toNat) 0)))) .fail) .fail)
   |none=>.fail
  |none=>.fail
 |_,_,_=>.fail
def rn (n:Nat) (lo hi:Option V) (k:Option Nat→Option Nat→N):N:=
 let Pe (l:Option Nat):N:=match hi with
  |none=>k l none
  |some (.one (.int _ h))=>.br (decide ((match l with | some l=>(l:Int) | none=>0)≤h)) (.br (decide (h≤n)) (k l (some h.toNat)) .fail) .fail
  |_=>.fail
 match lo with
 |none=>Pe none
 |some (.one (.int _ l))=>.br (decide (0≤l)) (match hi with
  |none=>.br (decide (l≤n)) (Pe (some l.toNat)) .fail
  |_=>Pe (some l.toNat)) .fail
 |_=>.fail
def Pf (n:Nat):Option Nat→Option Nat→View
 |none,none=>.full
 |some l,none=>.from l
 |none,some h=>.sub 0 h
 |some l,some h=>.sub l (h-l)
def View.of (w:View) (n:Nat) (lo hi:Option Nat):View:=
 match lo,hi with
 |none,none=>w
 |some l,none=>(match w with | .full=>.from l | .from a=>.from (a+l) | .sub a m=>.sub (a+l) (m-l))
 |none,some h=>.sub w.lo h
 |some l,some h=>.sub (w.lo+l) (h-l)
def yd (T:oU) (st:St) (d:Option Nat) (t:Nat) (x:V) (lo hi:Option V):N:=
 match x with
 |.one (.str s)=>match T.kind t with
  |some .str=>rn s.size lo hi fun l h=>
   .done (bR st d (.one (.str (s.extract (l.getD 0) (h.getD s.size)))))
  |_=>.fail
 |.one .gw=>match T.elem t with
  |some _=>rn 0 lo hi fun _ _=>.done (bR st d (.one .gw))
  |none=>.fail
 |.one (.shr r xs)=>match T.elem t with
  |some (q,_)=>match ez q xs with
   |some ys=>rn ys.length lo hi fun l h=>.done (bR st d (.one (.shr q ((Pf ys.length l h).app ys))))
   |none=>.fail
  |none=>.fail
 |.one (.ref a j g w)=>match T.elem t,cO st a j g with
  |some (q,_),some A=>match ez q A.xs with
   |some ys=>rn (w.app ys).length lo hi fun l h=>.done (bR st d (.one (.ref a j g (w.of (w.app ys).length l h))))
   |none=>.fail
  |_,_=>.fail
 |_=>.fail
def Lr (T:oU) (st:St) (d:Option Nat) (t:Nat) (x:V):N:=
 match x with
 |.one (.str s)=>match T.kind t with
  |some .str=>.done (bR st d (.one (.int .i64 s.size)))
  |_=>.fail
 |.one .gw=>match T.elem t with
  |some _=>.done (bR st d (.one (.int .i64 0)))
  |none=>.fail
 |.one (.shr _ xs)=>match T.elem t with
  |some _=>.done (bR st d (.one (.int .i64 xs.length)))
  |none=>.fail
 |.one (.ref a j g w)=>match T.elem t,cO st a j g with
  |some _,some A=>.done (bR st d (.one (.int .i64 (w.app A.xs).length)))
  |_,_=>.fail
 |_=>.fail
def Ls (T:oU) (st:St) (d:Option Nat) (t:Nat) (x y:V):N:=
 match T.elem t with
 |none=>.fail
 |some (r,bytes)=>
  let out (xs:List (aO r)) (used:List (Nat×Nat)):N:=
   match y with
   |.one c=>oV st r c fun ys=>
     .br (Nat.ble ((xs.length+ys.length)*bytes) lim)
      (gu (used.foldl (fun s p=>fk s p.1 p.2 none) st) d { r:=r,own:=true,xs:=xs++ys }) .fail
   |_=>.fail
  match x with
  |.one .gw=>out [] []
  |.one (.ref a j g w)=>match cO st a j g with
   |some A=>bif A.own then (match ez r A.xs with | some xs=>out (w.app xs) [(a,j)] | none=>.fail) else .fail
   |none=>.fail
  |_=>.fail
def UW (T:oU) (st:St) (d:Option Nat) (t:Nat) (len cap:V):N:=
 match T.elem t,len,cap with
 |some (r,bytes),.one (.int .i64 n),.one (.int .i64 c)=>
  .br (decide (n=c)) (.br (decide (0≤n)) (.br (Nat.ble (n.toNat*bytes) lim)
   (gu st d { r:=r,own:=true,xs:=List.replicate n.toNat (Ak r),md:=.sh }) .fail) .fail) .fail
 |_,_,_=>.fail
def Bv (st:St) (r:RT):(i:Nat)→List (Nat×V)→(k:List (aO r)→List (Nat×Nat)→N)→N
 |_,[],k=>k [] []
 |i,(p,v)::l,k=>bif v.zO&&Nat.beq p i then rowOf st r v.cells fun x m=>Bv st r (i+1) l fun xs m'=>k (x::xs) (m++m') else .fail
def An (T:oU) (st:St) (d:Option Nat) (t len:Nat) (parts:List (Nat×V)):N:=
 match T.elem t with
 |some (r,_)=>bif Nat.beq parts.length len&&Nat.ble (len*r.width) 16777216 then
   Bv st r 0 parts fun xs m=>gu (freeze st m) d { r:=r,own:=true,xs:=xs }
  else .fail
 |none=>.fail
def rp (T:oU) (t:Nat) (cs:List CV):List (Nat×V)→Option (List CV)
 | []=>some cs
 |(f,v)::l=>match T.off t f,T.fsz t f with
  |some o,some s=>bif v.zO&&Nat.beq v.cells.length s then (match putCells cs o v.cells with
   |some rZ=>rp T t rZ l
   |none=>none) else none
  |_,_=>none
def View.isFull:View→Bool
 |.full=>true
 |_=>false
def lj (st:St) (own:Bool):CV→Option (OV×Option Lb×List (Nat×Nat))
 |.int q n=>some (.int q n,none,[])
 |.bool b=>some (.bool b,none,[])
 |.str s=>some (.str s,none,[])
 |.gw=>some (.gw,none,[])
 |.shr r xs=>some (.shr r xs,none,[])
 |.nn r xs=>some (.shr r xs,none,[])
 |.ref a j g w=>match cO st a j g with
  |some A=>bif A.md.Sa then none else bif own&&A.own&&(A.md.is .sh||w.isFull) then some (.own { A with xs:=w.app A.xs },some (.sp a j),[]) else some (.shr A.r (w.app A.xs),none,[(a,j)])
  |none=>none
 |.nV r x off=>bif Nat.beq off 0 then some (.nV r [x],none,[]) else none
 |.xy r xs off=>bif Nat.beq off 0 then some (.nV r xs,none,[]) else none
 |.fn f rs xs=>some (.fn f rs xs,none,[])
 |_=>none
def jw (st:St) (own:Bool):List CV→Option (List OV×List (Option Lb)×List (Nat×Nat))
 | []=>some ([],[],[])
 |c::l=>match lj st own c,jw st own l with
  |some (o,u,r),some (os,us,rs)=>some (o::os,u::us,r++rs)
  |_,_=>none
def dO:List (Option Lb)→List Lb
 | []=>[]
 |some l::ls=>l::dO ls
 |none::ls=>dO ls
def Pm.re:Pm→Bool
 |.own=>true
 |_=>false
def UX (st:St):CV→Bool
 |.ref a j g w=>(match w with | .full=>true | _=>false)&&(match cO st a j g with | some A=>A.own | none=>false)
 |_=>true
def jH (st:St) (m:Pm):V→Option (AV×List Lb×List Lb×List (Nat×Nat))
 |.one (.ptr b g off)=>match fV st b g with
  |some cs=>(match jw st true cs with
   |some (os,u,r)=>bif Nat.beq off 0 then some (.box os,.box b::dO u,dO u,r) else none
   |none=>none)
  |none=>none
 |.one (.ref a j g w)=>match m with
  |.io=>(match w,cO st a j g with
   |.full,some A=>bif A.own && !A.md.Sa then some (.io A,[.sp a j],[],[]) else none
   |_,_=>none)
  |m=>match jw st m.re [.ref a j g w] with
   |some (os,u,r)=>some (.val false os,dO u,dO u,r)
   |none=>none
 |.one c=>match jw st false [c] with
  |some (os,u,r)=>some (.val false os,dO u,dO u,r)
  |none=>none
 |.agg cs=>match m with
  |.dZ=>(match jw st true cs with
   |some (os,u,r)=>bif cs.all (UX st) then some (.dZ os,dO u,[],r) else none
   |none=>none)
  |m=>match jw st m.re cs with
   |some (os,u,r)=>some (.val true os,dO u,dO u,r)
   |none=>none
 |.p8 _=>none
def oL (st:St):List (Pm×V)→Option (List AV×List Lb×List Lb×List (Nat×Nat))
 | []=>some ([],[],[],[])
 |(m,v)::l=>match jH st m v,oL st l with
  |some (a,u,q,r),some (as,us,qs,rs)=>some (a::as,u++us,q++qs,r++rs)
  |_,_=>none
def ye:List Lb→Bool
 | []=>true
 |x::l=>l.all (fun y => !(Lb.same x y))&&ye l
def apart (used:List Lb) (reads:List (Nat×Nat)):Bool:=
 reads.all fun p=>used.all fun q => !(Lb.same q (.sp p.1 p.2))
def sa (st:St):List Lb→St
 | []=>st
 |.sp a j::l=>sa (fk st a j none) l
 |_::l=>sa st l
def OV.plain:OV→Bool
 |.own A => !A.r.p7
 |.shr _ _=>false
 |.nV _ _=>false
 |.fn _ _ _=>false
 |_=>true
def XV.plain:XV→Bool
 |.io A => !A.r.p7
 |.box os=>os.all OV.plain
 |.dZ As=>As.all fun | some A => !A.r.p7 | none=>true
def Res.plain (r:Res):Bool:=
 r.outs.all (fun o=>o.Aj.all OV.plain)&&r.exts.all XV.plain
def GW (st:St):(j:Nat)→List CV→List (Option nu)→Option St
 |_,[],_=>some st
 |j,.ref a k g _::cs,As=>match nth As j,cO st a k g with
  |some (some B),some _=>GW (fk st a k (some B)) (j+1) cs As
  |_,_=>none
 |j,_::cs,As=>GW st (j+1) cs As
def wC (st:St) (m:Pm) (v:V) (xs:List XV):Option (St×List XV):=
 match v with
 |.one (.ptr b g _)=>match xs with
  |.box os::xs=>(match nth st b,fV st b g with
   |some s0,some _=>some (sO (fun s=>{ s with box:=some (bW b (s0.ag+1) 0 os),bU:=cj os,ag:=s0.ag+1 }) st b,xs)
   |_,_=>none)
  |_=>none
 |.one (.ref a j g _)=>match m with
  |.io=>(match xs,cO st a j g with
   |.io A::xs,some _=>some (fk st a j (some A),xs)
   |_,_=>none)
  |_=>some (st,xs)
 |.agg cs=>match m with
  |.dZ=>(match xs with
   |.dZ As::xs=>(GW st 0 cs As).map fun bQ=>(bQ,xs)
   |_=>none)
  |_=>some (st,xs)
 |_=>some (st,xs)
def yf (st:St):List (Pm×V)→List XV→Option St
 | [],[]=>some st
 | [],_=>none
 |(m,v)::l,xs=>match wC st m v xs with
  |some (bQ,xs')=>yf bQ l xs'
  |none=>none
def C4 (a b c:Pm):List V→List (Pm×V)
 | []=>[]
 | [x]=>[(a,x)]
 | [x,y]=>[(a,x),(b,y)]
 |x::y::z::l=>(a,x)::(b,y)::(c,z)::l.map fun v=>(.shr,v)
def refsOf:List CV→List (Nat×Nat)
 | []=>[]
 |.ref a j _ _::l=>(a,j)::refsOf l
 |_::l=>refsOf l
def I6 (st:St):List (Pm×V)→List (Nat×Nat)
 | []=>[]
 |(.own,.one (.ptr b g _))::l=>(match fV st b g with | some cs=>refsOf cs | none=>[])++I6 st l
 |(.pick q,.one (.ptr b g _))::l=>(match fV st b g with | some cs=>refsOf (q.filterMap (nth cs)) | none=>[])++I6 st l
 |_::l=>I6 st l
def qa (u:List Lb) (a:Nat):Bool:=u.any fun | .sp b _=>Nat.beq b a | _=>false
def tQ (u:List Lb):Nat→St→St
 |_,[]=>[]
 |a,s::l=>(bif qa u a then { s with ep:=s.ep+1 } else s)::tQ u (a+1) l
def UY (st:St) (d:Option Nat) (Gs:Al) (ms:List (Pm×V)) (fin:St→N):N:=
  match oL st ms with
  |some (ga,used,ahm,reads)=>bif ye used&&apart used reads then (match Gs ga with
   |some A=>.row A.r A.o fun x=>(match yf (sa (tQ used 0 (bif (A.res x).plain then st else freeze st reads)) ahm) ms (A.res x).exts with
    |some bQ=>(match Am bQ d (A.res x).outs with
     |some aaS=>fin aaS
     |none=>.fail)
    |none=>.fail)
   |none=>.fail) else .fail
  |none=>.fail
def ZZ (st:St) (d:Option Nat) (Gs:Al) (ms:List (Pm×V)):N:=UY st d Gs ms .done
def FH (st:St):CV→CV
 |.ref a j g .full=>match cO st a j g with
  |some A=>bif A.own then .ref a j g .full else bif A.md.is .sh then .shr A.r A.xs else .ref a j g .full
  |none=>.ref a j g .full
 |x=>x
def UZ (st:St):V→V
 |.one x=>.one (FH st x)
 |.agg cs=>.agg (cs.map (FH st))
 |x=>x
def Z0 (st:St) (s:Sl):Sl:={ s with v:=UZ st s.v,box:=s.box.map fun cs=>cs.map (FH st) }
def yg (st:St):St:=st.map (Z0 st)
def Pm.U0:Pm→Bool
 |.pick _=>true
 |_=>false
def GX (ms:List (Pm×V)) (st:St):St:=bif ms.any (fun m=>m.1.U0) then yg st else st
def JG (S:mW) (st:St) (d:Option Nat) (f:FuncId) (args:List V):N:=
 match S f with
 |none=>.fail
 |some (a,b,c,Gs)=>ZZ (GX (C4 a b c args) (freeze st (I6 st (C4 a b c args)))) d Gs (C4 a b c args)
def gi:List CV→Option ((r:RT)×aO r)
 | []=>some ⟨.nil,()⟩
 |.int k n::l=>match gi l with | some ⟨r,x⟩=>some ⟨.cons (.int k) r,(n,x)⟩ | none=>none
 |.bool b::l=>match gi l with | some ⟨r,x⟩=>some ⟨.cons .bool r,(b,x)⟩ | none=>none
 |.str s::l=>match gi l with | some ⟨r,x⟩=>some ⟨.cons .str r,(s,x)⟩ | none=>none
 |.shr q xs::l=>match gi l with | some ⟨r,x⟩=>some ⟨.cons (.sl q) r,(xs,x)⟩ | none=>none
 |_=>none
def iJ (st:St) (b:Nat):St:=sO (fun s=>{ s with box:=none }) st b
def rnV (b g:Nat) (r:RT) (x:aO r):V→V
 |.one (.ptr b' g' off)=>bif Nat.beq b' b&&Nat.beq g' g then .one (.nV r x off) else .one (.ptr b' g' off)
 |v=>v
def qb (st:St) (b g:Nat) (r:RT) (x:aO r):St:=st.map fun s=>{ s with v:=rnV b g r x s.v }
def Yu (st:St) (t:Nat):Option (St×((r:RT)×List (aO r))):=
 match dN st t with
 |.one (.nV r x off)=>bif Nat.beq off 0 then some (st,⟨r,[x]⟩) else none
 |.one (.xy r xs off)=>bif Nat.beq off 0 then some (st,⟨r,xs⟩) else none
 |.one (.ptr b g off)=>match fV st b g with
  |some cs=>bif Nat.beq off 0 then (match gi cs with
   |some ⟨r,x⟩=>some (qb (iJ st b) b g r x,⟨r,[x]⟩)
   |none=>none) else none
  |none=>none
 |_=>none
def B8 (st:St):List Operand→Option (St×((rs:RT)×aO rs))
 | []=>some (st,⟨.nil,()⟩)
 |.tmp t::l=>match Yu st t with
  |some (bQ,⟨r,ys⟩)=>(match B8 bQ l with
   |some (aaS,⟨rs,xs⟩)=>some (aaS,⟨.cons (.sl r) rs,(ys,xs)⟩)
   |none=>none)
  |none=>none
 |_=>none
def zQ:(rs:RT)→aO rs→List V
 |.nil,_=>[]
 |.cons (.sl r) rs,x=>.one (.xy r x.1 0)::zQ rs x.2
 |.cons _ rs,x=>.one .bad::zQ rs x.2
def Q5 (y:aO (.cons (.int .u8) .nil)):Int:=y.1
def bytesOf (ys:List (aO (.cons (.int .u8) .nil))):ByteArray:=ys.foldl (fun r y=>r.push (UInt8.ofNat (Q5 y).toNat)) ByteArray.empty
def Q6 (T:oU) (S:mW) (st:St) (o:Oper):N:=
 match o.op with
 |.move x | .assign x=>.done (bR st o.dst (pW st x))
 |.pick c a b=>match pW st c with
  |.one (.bool x)=>.br x (.done (bR st o.dst (pW st a))) (.done (bR st o.dst (pW st b)))
  |_=>.fail
 |.alloc t=>match T.row t with
  |some r=>kP st o.dst (rk r)
  |none=>.fail
 |.box t x=>match T.cells t with
  |some n=>bif (pW st x).zO&&Nat.beq (pW st x).cells.length n then (match (bif T.cap t then gi (pW st x).cells else none) with
   |some ⟨r,y⟩=>.done (bR st o.dst (.one (.nV r y 0)))
   |none=>kP st o.dst (pW st x).cells) else .fail
  |none=>.fail
 |.build t parts=>match T.row t,T.agg t with
  |some r,true=>(match rp T t (rk r) (parts.toList.map fun p=>(p.1,pW st p.2)) with
   |some cs=>.done (bR st o.dst (.agg cs))
   |none=>.fail)
  |_,_=>.fail
 |.buildSlice t len parts=>An T st o.dst t len (parts.toList.map fun p=>(p.1,pW st p.2))
 |.load t a=>zP T st o.dst t (pW st a)
 |.store t a v=>(match o.dst with
  |none=>wZ T st t (pW st a) (pW st v)
  |some _=>.fail)
 |.nilCheck x=>match pW st x with
  |.one (.ptr b g off)=>(match fV st b g with
   |some _=>.done (bR st o.dst (.one (.ptr b g off)))
   |none=>.fail)
  |.one (.MS a j g i off)=>(match cO st a j g with
   |some _=>.done (bR st o.dst (.one (.MS a j g i off)))
   |none=>.fail)
  |_=>.fail
 |.binOp op t x y _=>zY T st o.dst op t (pW st x) (pW st y)
 |.unOp .not _ x=>match pW st x with
  |.one (.bool b)=>.done (bR st o.dst (.one (.bool (!b))))
  |_=>.fail
 |.convert s t x=>match T.kind s,T.kind t,pW st x with
  |some (.int _),some (.int k),.one (.int _ n)=>.done (bR st o.dst (.one (.int k (k.wrap n))))
  |some .str,some .str,.one (.str b)=>.done (bR st o.dst (.one (.str b)))
  |none,some .str,.one c=>(match T.elem s with
   |some (.cons (.int .u8) .nil,_)=>oV st (.cons (.int .u8) .nil) c fun ys=>.done (bR st o.dst (.one (.str (bytesOf ys))))
   |_=>.fail)
  |_,_,_=>.fail
 |.makeSlice t l c=>UW T st o.dst t (pW st l) (pW st c)
 |.slice t x lo hi none=>yd T st o.dst t (pW st x) (lo.map (pW st)) (hi.map (pW st))
 |.fieldAddr t x f=>match pW st x,T.off t f with
  |.one (.ptr b g off),some k=>(match fV st b g with
   |some _=>.done (bR st o.dst (.one (.ptr b g (off+k))))
   |none=>.fail)
  |.one (.MS a j g i off),some k=>(match cO st a j g with
   |some _=>.done (bR st o.dst (.one (.MS a j g i (off+k))))
   |none=>.fail)
  |.one (.nV r x off),some k=>.done (bR st o.dst (.one (.nV r x (off+k))))
  |.one (.xy r xs off),some k=>.done (bR st o.dst (.one (.xy r xs (off+k))))
  |_,_=>.fail
 |.field t x f=>match pW st x,T.off t f with
  |.agg cs,some k=>bif T.one t f then (match nth cs k with
   |some c=>.done (bR st o.dst (.one c))
   |none=>.fail) else .fail
  |_,_=>.fail
 |.indexAddr t x i=>sP T st o.dst t (pW st x) (pW st i)
 |.index t x i=>match T.kind t,pW st x,pW st i with
  |some .str,.one (.str s),.one (.int _ n)=>.br (decide (0≤n)) (.br (decide (n<s.size)) (.done (bR st o.dst (.one (.int .u8 (Lq s n))))) .fail) .fail
  |_,_,_=>.fail
 |.extract t i=>match pW st t with
  |.p8 vs=>match nth vs i with
   |some v=>.done (bR st o.dst v)
   |none=>.fail
  |_=>.fail
 |.call { callee:=.value (.func f),args:=args,argTypes:=_ }=>JG S st o.dst f (args.toList.map (pW st))
 |.call { callee:=.value (.tmp t),args:=args,argTypes:=_ }=>(match dN st t with
  |.one (.fn g rs xs)=>.row rs xs[0]? fun x=>JG S st o.dst g (args.toList.map (pW st)++zQ rs x)
  |_=>.fail)
 |.makeFunc (.func g) first Ao=>bif first.isEmpty then (match B8 st Ao.toList with
  |some (bQ,⟨rs,x⟩)=>.done (bR bQ o.dst (.one (.fn g rs [x])))
  |none=>.fail) else .fail
 |.call { callee:=.builtin b,args:=args,argTypes:=ts }=>match b,args.toList,ts.toList with
  |.len,[x],[t]=>Lr T st o.dst t (pW st x)
  |.append,[x,y],[t,u]=>bif Nat.beq t u then Ls T st o.dst t (pW st x) (pW st y) else .fail
  |.min,[x,y],_=>(match pW st x,pW st y with
   |.one (.int k a),.one (.int _ b)=>.done (bR st o.dst (.one (.int k (if b<a then b else a))))
   |_,_=>.fail)
  |.max,[x,y],_=>(match pW st x,pW st y with
   |.one (.int k a),.one (.int _ b)=>.done (bR st o.dst (.one (.int k (if b>a then b else a))))
   |_,_=>.fail)
  |.min,[x,y,z],_=>(match pW st x,pW st y,pW st z with
   |.one (.int k a),.one (.int _ b),.one (.int _ c)=>.done (bR st o.dst (.one (.int k (if c<(if b<a then b else a) then c else (if b<a then b else a)))))
   |_,_,_=>.fail)
  |_,_,_=>.fail
 |_=>.fail
def EC (T:oU) (S:mW) (ops:List Oper) (st:St) (o:Oper):N:=
 match o.guard with
 |none=>Q6 T S st o
 |some (j,want)=>match (nth ops j).bind (·.dst) with
  |some d=>match dN st d with
   |.one (.bool b)=>
    let yes (x:Bool):N:=Q6 T S (bR st (some d) (.one (.bool x))) o
    let no (x:Bool):N:=.done (bR (bR st (some d) (.one (.bool x))) o.dst (.p8 []))
    .br b (bif want then yes true else no true) (bif want then no false else yes false)
   |.p8 []=>.done (bR st o.dst (.p8 []))
   |_=>.fail
  |none=>.fail
inductive Ex where
 |normal
 |exit (n:Nat)
 |ret
open Classical in
noncomputable def both {R:Type} (a b:Option R):Option R:=if a=b then a else none
theorem di {R:Type} (a:Option R):both a a=a:=by unfold both;rw [if_pos rfl]
theorem Sb {R:Type} {a b:Option R} {r:R} (h:both a b=some r):a=some r∧b=some r:=by
 unfold both at h
 split at h
 ·rename_i e;exact ⟨h,e▸h⟩
 ·cases h
section
variable {R:Type} (T:oU) (S:mW)
def Yv (ops:List Oper):List Oper→St→(St→Option R)→Option R
 | [],st,k=>k st
 |o::r,st,k=>(EC T S ops st o).fold fun bQ=>Yv ops r bQ k
inductive Kd where
 |any | take | one | last
inductive Pl where
 |nil
 |op (i:Nat) (kd:Kd) (p:Pl)
 |alt (p q:Pl)
def Pg (st:St) (ms:List (Pm×V)):Bool:=
 match oL st ms with
  |some (_,used,_,_)=>used.isEmpty
  |none=>true
def uM (S:mW) (st:St) (f:FuncId) (args:List V):Bool:=
 match S f with
 |some (a,b,c,_)=>Pg (GX (C4 a b c args) (freeze st (I6 st (C4 a b c args)))) (C4 a b c args)
 |none=>true
def kindOk (S:mW) (st:St) (o:Oper):Kd→Bool
 |.any=>match o.op with
  |.move _ | .assign _ | .pick _ _ _ | .nilCheck _ | .binOp _ _ _ _ _ | .unOp _ _ _ | .slice _ _ _ _ _ | .fieldAddr _ _ _ | .indexAddr _ _ _ | .index _ _ _ | .extract _ _ | .build _ _ | .field _ _ _=>true
  |.convert _ _ x=>(match pW st x with | .one (.shr _ _)=>false | .one (.nn _ _)=>false | .one (.ref _ _ _ _)=>false | .one .gw=>false | _=>true)
  |.call { callee:=.builtin b,.. }=>(match b with | .len | .min | .max=>true | _=>false)
  |_=>false
 |.take=>match o.op with
  |.load _ _=>true
  |_=>false
 |.one=>match o.op with
  |.store _ _ _=>false
  |.call { callee:=.builtin b,.. }=>(match b with | .len | .min | .max=>true | _=>false)
  |.call { callee:=.value (.func f),args:=args,.. }=>uM S st f (args.toList.map (pW st))
  |.call { callee:=.value (.tmp t),args:=args,.. }=>(match dN st t with
   |.one (.fn g rs xs)=>(match xs[0]? with | some x=>uM S st g (args.toList.map (pW st)++zQ rs x) | none=>true)
   |_=>true)
  |_=>true
 |.last=>true
noncomputable def w5 (ops:List Oper):Pl→St→(St→Option R)→Option R
 |.nil,st,k=>k st
 |.op i kd r,st,k=>match nth ops i with
  |some o=>bif kindOk S st o kd then (EC T S ops st o).fold fun bQ=>w5 ops r bQ k else none
  |none=>none
 |.alt p q,st,k=>both (w5 ops p st k) (w5 ops q st k)
abbrev pM (R:Type):=Nat→Code→St→(Ex→St→Option R)→Option R
abbrev nb:=Nat→Pl
noncomputable def gR (D:nb) (L:pM R):Code→St→(Ex→St→Option R)→Option R
 |.skip,st,k=>k .normal st
 |.region _ ops false,st,k=>Yv T S ops.toList ops.toList st fun bQ=>k .normal bQ
 |.region id ops true,st,k=>w5 T S ops.toList (D id) st fun bQ=>k .normal bQ
 |.seq a b,st,k=>gR D L a st fun e bQ=>match e with
  |.normal=>gR D L b bQ k
  |e=>k e bQ
 |.cond (.tmp c) a b,st,k=>match dN st c with
  |.one (.bool x)=>bif x then gR D L a (bR st (some c) (.one (.bool true))) k else gR D L b (bR st (some c) (.one (.bool false))) k
  |_=>none
 |.block id (.loop b),st,k=>L id b st k
 |.block id b,st,k=>gR D L b st fun e bQ=>match e with
  |.exit n=>bif Nat.beq n id then k .normal bQ else k (.exit n) bQ
  |e=>k e bQ
 |.exit id,st,k=>k (.exit id) st
 |.ret,st,k=>k .ret st
 |_,_,_=>none
end
end Go.TM
namespace Go.TM
open Go Go.RowKit
@[simp] theorem als {α:Type} (n:Nat):nth ([]:List α) n=none:=rfl
theorem nv {α:Type} (l:List α) (n:Nat):nth l n=l[n]?:=by
 induction l generalizing n with
 |nil=>simp
 |cons x l ih=>cases n<;>simp [nth,ih]
theorem qc {α:Type} (f:α→α) (l:List α) (n:Nat):nth (sO f l n) n=(nth l n).map f:=by
 induction l generalizing n with
 |nil=>rfl
 |cons x l ih=>cases n<;>simp [sO,nth,ih]
theorem u5 {α:Type} (f:α→α) (l:List α) {n m:Nat} (h:m≠n):nth (sO f l n) m=nth l m:=by
 induction l generalizing n m with
 |nil=>rfl
 |cons x l ih=>
  cases n with
  |zero=>cases m with
   |zero=>exact absurd rfl h
   |succ m=>rfl
  |succ n=>cases m with
   |zero=>rfl
   |succ m=>simp only [sO,nth];exact ih (by omega)
theorem lf {α:Type} (f:α→α) (l:List α) (n m:Nat):nth (sO f l n) m=if m=n then (nth l m).map f else nth l m:=by
 by_cases h:m=n
 ·subst h;simp [qc]
 ·simp [h,u5 f l h]
theorem U5 {α:Type} {l:List α} {n:Nat} {x:α} (h:nth l n=some x):n<l.length:=by
 rw [nv] at h;exact (List.getElem?_eq_some_iff.1 h).1
def Yw {r:RT} (xs:den (.sl r)):List (aO r):=xs
mutual
def ev (w:World) (ok:Nat→Prop):(t:Ty)→Value→den t→Prop
 |.int k,v,n=>v=.int k n
 |.bool,v,b=>v=.bool b
 |.str,v,s=>v=.string s
 |.sl r,v,xs=>(v=.slice none 0 0∧Yw xs=[])∨
   ∃a cap,v=.slice (some a) (Yw xs).length cap∧(Yw xs).length≤cap∧
    (Yw xs≠[]→a.spot=none∧a.block<w.heap.size∧ok a.block)∧
    ∀i x,(Yw xs)[i]?=some x→fH w ok r a.block (a.off+i*r.width) x
def fH (w:World) (ok:Nat→Prop):(r:RT)→(b off:Nat)→aO r→Prop
 |.nil,_,_,_=>True
 |.cons t r,b,off,x=>(∃v,w.cell? ⟨b,off,none⟩=some v∧ev w ok t v x.1)∧fH w ok r b (off+1) x.2
end
theorem rf (w:World) (ok:Nat→Prop) (r:RT) (v:Value) (xs:List (aO r)):ev w ok (.sl r) v xs↔
  ((v=.slice none 0 0∧xs=[])∨∃a cap,v=.slice (some a) xs.length cap∧xs.length≤cap∧
    (xs≠[]→a.spot=none∧a.block<w.heap.size∧ok a.block)∧∀i x,xs[i]?=some x→fH w ok r a.block (a.off+i*r.width) x):=by
 have:=ev.eq_4 w ok v r xs;exact this▸Iff.rfl
theorem yh {w:World} {ok:Nat→Prop} {k:IntKind} {v:Value} {n:Int}:ev w ok (.int k) v n↔v=.int k n:=ev.eq_1 w ok v k n▸Iff.rfl
theorem Bw {w:World} {ok:Nat→Prop} {v:Value} {b:Bool}:ev w ok .bool v b↔v=.bool b:=ev.eq_2 w ok v b▸Iff.rfl
theorem ED {w:World} {ok:Nat→Prop} {v:Value} {s:ByteArray}:ev w ok .str v s↔v=.string s:=ev.eq_3 w ok v s▸Iff.rfl
structure lk (w w':World) (ok C5:Nat→Prop):Prop where
 size:w.heap.size≤w'.heap.size
 block:∀b,b<w.heap.size→ok b→w'.heap[b]?=w.heap[b]?
 ok:∀b,b<w.heap.size→ok b→C5 b
theorem Q7 {w:World} {a:Addr} {v:Value} (h:w.cell? a=some v):a.block<w.heap.size:=World.block_lt_of_cell? w a h
mutual
theorem ev.stays {w w':World} {ok C5:Nat→Prop} (h:lk w w' ok C5):(t:Ty)→(v:Value)→(x:den t)→ev w ok t v x→ev w' C5 t v x
 |.int _,_,_,hr=>by unfold ev at hr ⊢;exact hr
 |.bool,_,_,hr=>by unfold ev at hr ⊢;exact hr
 |.str,_,_,hr=>by unfold ev at hr ⊢;exact hr
 |.sl r,v,xs,hr=>by
  unfold ev at hr ⊢;rcases hr with hr | ⟨a,cap,hv,hc,ha,hx⟩
  ·exact .inl hr
  ·refine .inr ⟨a,cap,hv,hc,fun lO => ?_,fun i x hi => ?_⟩
   ·obtain ⟨hs,hb,iP⟩:=ha lO;exact ⟨hs,Nat.lt_of_lt_of_le hb h.size,h.ok _ hb iP⟩
   ·have lO:Yw xs≠[]:=by intro e;rw [e] at hi;simp at hi
    obtain ⟨hs,hb,iP⟩:=ha lO;exact fH.stays h r _ _ x (h.block _ hb iP) (hx i x hi)
theorem fH.stays {w w':World} {ok C5:Nat→Prop} (h:lk w w' ok C5):(r:RT)→(b off:Nat)→(x:aO r)→w'.heap[b]?=w.heap[b]?→fH w ok r b off x→fH w' C5 r b off x
 |.nil,_,_,_,_,_=>by unfold fH;trivial
 |.cons t r,b,off,x,iP,hr=>by
  unfold fH at hr ⊢;obtain ⟨⟨v,hv,hx⟩,hr⟩:=hr;refine ⟨⟨v,?_,ev.stays h t v x.1 hx⟩,fH.stays h r b (off+1) x.2 iP hr⟩;rw [World.cell?_of_block (w:=w) iP];exact hv
end
inductive Loc where
 |nil
 |at (b off cap:Nat)
structure Cz where
 bx:Nat→Nat
 lc:Nat→Nat→Loc
 own:Nat→Option Lb
def Cz.ok (c:Cz) (b:Nat):Prop:=c.own b=none
def j5 (st:St) (s:Nat):Nat:=match nth st s with | some x=>x.bg | none=>0
def gP (st:St) (s:Nat):Nat:=match nth st s with | some x=>x.ag | none=>0
def qW (l:Loc) (W lo n:Nat) (v:Value):Prop:=
 match l with
 |.nil=>v=.slice none 0 0∧n=0
 |.at b off cap=>∃a c,v=.slice (some a) n c∧n≤c∧lo+c≤cap∧(c≠0→a=⟨b,off+lo*W,none⟩)
def ey (c:Cz) (w:World) (l:Lb) (A:nu) (b off:Nat):Prop:=
 match A.md with
 |.sh=>∀(i:Nat) x,A.xs[i]?=some x→fH w c.ok A.r b (off+i*A.r.width) x
theorem ey.go {c c':Cz} {w w':World} {l l':Lb} {A:nu} {b off:Nat} (h:ey c w l A b off) (hs:A.md=.sh→lk w w' c.ok c'.ok) (hb:w'.heap[b]?=w.heap[b]?)
  (hd:A.md≠.sh→∀k,c.own k=some l→w'.heap[k]?=w.heap[k]?∧c'.own k=some l'):ey c' w' l' A b off:=by
 unfold ey at h ⊢
 cases hm:A.md with
 |sh=>rw [hm] at h;exact fun i x hx=>fH.stays (hs hm) _ _ _ _ hb (h i x hx)
theorem ey.sh {c:Cz} {w:World} {l:Lb} {A:nu} {b off:Nat} (hm:A.md=.sh):ey c w l A b off↔∀(i:Nat) x,A.xs[i]?=some x→fH w c.ok A.r b (off+i*A.r.width) x:=by
 unfold ey;rw [hm]
def JH (w:World) (ok:Nat→Prop) (r:RT) (v:Value) (xs:List (aO r)):Prop:=
 ∃b o,v=.pointer (some ⟨b,o,none⟩)∧b<w.heap.size∧ok b∧∀x,xs[0]?=some x→fH w ok r b o x
def yi (w:World) (ok:Nat→Prop):(rs:RT)→List Value→aO rs→Prop
 |.nil,vs,_=>vs=[]
 |.cons (.sl r) rs,vs,x=>∃v l,vs=v::l∧JH w ok r v (Yw x.1)∧yi w ok rs l x.2
 |.cons _ _,_,_=>False
def FnAt (w:World) (ok:Nat→Prop) (g:Nat) (rs:RT) (v:Value) (xs:List (aO rs)):Prop:=
 ∃Ao,v=.func (.func g) #[] Ao∧∀x,xs[0]?=some x→yi w ok rs Ao.toList x
theorem JH.stays {w w':World} {ok C5:Nat→Prop} (h:lk w w' ok C5) {r:RT} {v:Value} {xs:List (aO r)} (hp:JH w ok r v xs):JH w' C5 r v xs:=by
 obtain ⟨b,o,h1,h2,h3,h4⟩:=hp;exact ⟨b,o,h1,Nat.lt_of_lt_of_le h2 h.size,h.ok b h2 h3,fun x hx=>fH.stays h r b o x (h.block b h2 h3) (h4 x hx)⟩
theorem yi.stays {w w':World} {ok C5:Nat→Prop} (h:lk w w' ok C5):(rs:RT)→(vs:List Value)→(x:aO rs)→yi w ok rs vs x→yi w' C5 rs vs x
 |.nil,_,_,hc=>hc
 |.cons (.sl r) rs,vs,x,hc=>by
  obtain ⟨v,l,h1,h2,h3⟩:=hc;exact ⟨v,l,h1,h2.stays h,yi.stays h rs l x.2 h3⟩
 |.cons (.int _) _,_,_,hc=>hc.elim
 |.cons .bool _,_,_,hc=>hc.elim
 |.cons .str _,_,_,hc=>hc.elim
theorem FnAt.stays {w w':World} {ok C5:Nat→Prop} (h:lk w w' ok C5) {g:Nat} {rs:RT} {v:Value} {xs:List (aO rs)} (hf:FnAt w ok g rs v xs):FnAt w' C5 g rs v xs:=by
 obtain ⟨Ao,h1,h2⟩:=hf;exact ⟨Ao,h1,fun x hx=>yi.stays h rs _ x (h2 x hx)⟩
def qd (c:Cz) (st:St) (w:World):CV→Value→Prop
 |.bad,_=>True
 |.int k n,v=>v=.int k n
 |.bool b,v=>v=.bool b
 |.str s,v=>v=.string s
 |.gw,v=>v=.slice none 0 0
 |.Pb,v=>v=.pointer none
 |.shr r xs,v=>ev w c.ok (.sl r) v xs
 |.nn r xs,v=>ev w c.ok (.sl r) v xs∧v≠.slice none 0 0
 |.ref a j g vw,v=>v.oneCell'=true∧g≤gP st a∧∀A,cO st a j g=some A→qW (c.lc a j) A.r.width vw.lo (vw.app A.xs).length v
 |.ptr b g off,v=>v.oneCell'=true∧g≤j5 st b∧∀cs,fV st b g=some cs→v=.pointer (some ⟨c.bx b,off,none⟩)
 |.MS a j g i off,v=>v.oneCell'=true∧g≤gP st a∧∀A,cO st a j g=some A→i<A.xs.length∧∃b o cap,c.lc a j=.at b o cap∧v=.pointer (some ⟨b,o+i*A.r.width+off,none⟩)
 |.nV r x off,v=>∃b o,v=.pointer (some ⟨b,o+off,none⟩)∧b<w.heap.size∧c.ok b∧fH w c.ok r b o x
 |.xy r xs off,v=>∃b o,v=.pointer (some ⟨b,o+off,none⟩)∧b<w.heap.size∧c.ok b∧∀x,xs[0]?=some x→fH w c.ok r b o x
 |.fn g rs xs,v=>FnAt w c.ok g rs v xs
def iQ (c:Cz) (st:St) (w:World) (cs:List CV) (vs:List Value):Prop:=
 cs.length=vs.length∧∀(i:Nat) x v,cs[i]?=some x→vs[i]?=some v→qd c st w x v
def C6 (c:Cz) (st:St) (w:World):V→Value→Prop
 |.one x,v=>qd c st w x v
 |.agg cs,v=>∃vs,v=.agg vs∧iQ c st w cs vs.toList
 |.p8 _,_=>False
def il (c:Cz) (st:St) (w:World):V→Value→Prop
 |.p8 us,v=>∃vs,v=.tuple vs∧us.length=vs.size∧∀(i:Nat) x y,us[i]?=some x→vs[i]?=some y→C6 c st w x y
 |x,v=>C6 c st w x v
def Ap (c:Cz) (st:St) (w:World) (s:Nat) (cs:List CV):Prop:=
 c.own (c.bx s)=some (.box s)∧∃vs ty,w.heap[c.bx s]?=some (.cells vs ty (0,0))∧iQ c st w cs vs.toList
def fJ (c:Cz) (w:World) (s j:Nat) (A:nu):Prop:=
 match c.lc s j with
 |.nil=>A.xs=[]
 |.at b off cap=>(match A.own with | true=>c.own b=some (.sp s j) | false=>c.own b=none)∧A.xs.length≤cap∧
   (∃cur ty,w.heap[b]?=some (.cells cur ty (0,0))∧off+cap*A.r.width≤cur.size)∧
   ey c w (.sp s j) A b off
inductive Sc where
 |arr (a j g W n:Nat) (l:Loc)
 |box (b g rh:Nat)
def Yx (c:Cz) (st:St):Sc→Prop
 |.arr a j g W n l=>g≤gP st a∧∀A,cO st a j g=some A→A.r.width=W∧A.xs.length=n∧c.lc a j=l
 |.box b g rh=>g≤j5 st b∧∀cs,fV st b g=some cs→c.bx b=rh
structure Mu where
 m:Nat→Prop
 ok:Nat→Prop
 an:List Sc
structure Rel (w0:World) (mu:Mu) (c:Cz) (st:St) (a:Act) (w:World):Prop where
 jj:∀t,il c st w (dN st t) (a.eval (.tmp t))
 boxes:∀s sl cs,nth st s=some sl→sl.box=some cs→Ap c st w s cs
 bU:∀s j sl A,nth st s=some sl→nth sl.bU j=some (some A)→fJ c w s j A
 owned:∀b l,c.own b=some l→b<w.heap.size∧(l=.out∨w0.heap.size≤b∨mu.m b)
 free:∀b,b<w0.heap.size→c.own b=none→mu.m b∨mu.ok b
 kept:w.os=w0.os∧w.tape=w0.tape∧w.output=w0.output∧w0.heap.size≤w.heap.size
 old:∀k,k<w0.heap.size→¬mu.m k→w.heap[k]?=w0.heap[k]?
 plain:a.defers=[]
 hZ:∀p∈mu.an,Yx c st p
end Go.TM
namespace Go.TM
open Go Go.RowKit
theorem bJ {α:Type} {b:Bool} {x:Option α} {y:α} (h:(bif b then x else none)=some y):b=true∧x=some y:=by
 cases b
 ·simp at h
 ·exact ⟨rfl,h⟩
theorem j9 {b:Bool} {x:N} {y:St} (h:(bif b then x else N.fail).val=some y):b=true∧x.val=some y:=by
 cases b
 ·simp [N.val] at h
 ·exact ⟨rfl,h⟩
theorem dK {st:St} {a j g:Nat} {A:nu} (h:cO st a j g=some A):∃sl,nth st a=some sl∧sl.ag=g∧nth sl.bU j=some (some A):=by
 unfold cO at h
 cases hs:nth st a with
 |none=>simp [hs] at h
 |some sl=>
  simp only [hs] at h;obtain ⟨h1,h2⟩:=bJ h;refine ⟨sl,rfl,Nat.eq_of_beq_eq_true h1,?_⟩
  cases hj:nth sl.bU j with
  |none=>simp [hj] at h2
  |some o=>cases o with
   |none=>simp [hj] at h2
   |some B=>simp [hj] at h2;rw [h2]
theorem ka {st:St} {b g:Nat} {cs:List CV} (h:fV st b g=some cs):∃sl,nth st b=some sl∧sl.bg=g∧sl.box=some cs:=by
 unfold fV at h
 cases hs:nth st b with
 |none=>simp [hs] at h
 |some sl=>
  simp only [hs] at h;obtain ⟨h1,h2⟩:=bJ h;exact ⟨sl,rfl,Nat.eq_of_beq_eq_true h1,h2⟩
theorem View.Ph {r s:RT} (w:View) (xs:List (aO r)) (ys:List (aO s)) (h:xs.length=ys.length):(w.app xs).length=(w.app ys).length:=by
 cases w<;>simp [View.app,h]
structure Fw (c:Cz) (st:St) (w:World) (c':Cz) (bQ:St) (w':World):Prop where
 stays:lk w w' c.ok c'.ok
 refs:∀a j g A',g≤gP st a→cO bQ a j g=some A'→∃A,cO st a j g=some A∧A'.r.width=A.r.width∧A'.xs.length=A.xs.length∧c'.lc a j=c.lc a j∧
  (wu bQ a=wu st a→A'=A∧∀b o cap,c.lc a j=.at b o cap→w'.heap[b]?=w.heap[b]?)
 GY:∀b g rZ,g≤j5 st b→fV bQ b g=some rZ→(∃cs,fV st b g=some cs)∧c'.bx b=c.bx b
 gA:∀a,gP st a≤gP bQ a
 gB:∀b,j5 st b≤j5 bQ b
 gE:∀a,wu st a≤wu bQ a
theorem Fw.Yy {c:Cz} {st:St} {w:World} {c':Cz} {bQ:St} {w':World} (h:Fw c st w c' bQ w') {x:CV} {v:Value} (hr:qd c st w x v):qd c' bQ w' x v:=by
 cases x with
 |bad=>trivial
 |int k n=>exact hr
 |bool b=>exact hr
 |str s=>exact hr
 |gw=>exact hr
 |Pb=>exact hr
 |shr r xs=>exact ev.stays h.stays _ _ _ hr
 |nn r xs=>exact ⟨ev.stays h.stays _ _ _ hr.1,hr.2⟩
 |ref a j g vw=>
  refine ⟨hr.1,Nat.le_trans hr.2.1 (h.gA a),fun A' iB => ?_⟩;obtain ⟨A,hA,hw,hl,np,_⟩:=h.refs a j g A' hr.2.1 iB;have:=hr.2.2 A hA;rw [np,hw,View.Ph vw A'.xs A.xs hl];exact this
 |ptr b g off=>
  refine ⟨hr.1,Nat.le_trans hr.2.1 (h.gB b),fun cs Aq => ?_⟩;obtain ⟨⟨UH,h0⟩,hb⟩:=h.GY b g cs hr.2.1 Aq;rw [hb];exact hr.2.2 UH h0
 |MS a j g i off=>
  refine ⟨hr.1,Nat.le_trans hr.2.1 (h.gA a),fun A' iB => ?_⟩;obtain ⟨A,hA,hw,hl,np,_⟩:=h.refs a j g A' hr.2.1 iB;have:=hr.2.2 A hA;rw [np,hw,hl];exact this
 |nV r x off=>
  obtain ⟨b,o,hv,hb,iP,hx⟩:=hr;exact ⟨b,o,hv,Nat.lt_of_lt_of_le hb h.stays.size,h.stays.ok b hb iP,fH.stays h.stays r b o x (h.stays.block b hb iP) hx⟩
 |xy r xs off=>
  obtain ⟨b,o,hv,hb,iP,hx⟩:=hr;exact ⟨b,o,hv,Nat.lt_of_lt_of_le hb h.stays.size,h.stays.ok b hb iP,fun x Q8=>fH.stays h.stays r b o x (h.stays.block b hb iP) (hx x Q8)⟩
 |fn g rs xs=>exact FnAt.stays h.stays hr
theorem Fw.Yz {c:Cz} {st:St} {w:World} {c':Cz} {bQ:St} {w':World} (h:Fw c st w c' bQ w') {cs:List CV} {vs:List Value} (hr:iQ c st w cs vs):iQ c' bQ w' cs vs:=
 ⟨hr.1,fun i x v hx hv=>h.Yy (hr.2 i x v hx hv)⟩
theorem Fw.U7 {c:Cz} {st:St} {w:World} {c':Cz} {bQ:St} {w':World} (h:Fw c st w c' bQ w') {x:V} {v:Value} (hr:C6 c st w x v):C6 c' bQ w' x v:=by
 cases x with
 |one x=>exact h.Yy hr
 |agg cs=>obtain ⟨vs,hv,hl⟩:=hr;exact ⟨vs,hv,h.Yz hl⟩
 |p8 us=>exact hr
theorem Fw.u6 {c:Cz} {st:St} {w:World} {c':Cz} {bQ:St} {w':World} (h:Fw c st w c' bQ w') {x:V} {v:Value} (hr:il c st w x v):il c' bQ w' x v:=by
 cases x with
 |one x=>exact h.U7 (x:=.one x) hr
 |agg cs=>exact h.U7 (x:=.agg cs) hr
 |p8 us=>
  obtain ⟨vs,hv,hl,he⟩:=hr;exact ⟨vs,hv,hl,fun i x y hx hy=>h.U7 (he i x y hx hy)⟩
theorem Fw.hZ {c:Cz} {st:St} {w:World} {c':Cz} {bQ:St} {w':World} (h:Fw c st w c' bQ w') {p:Sc} (hp:Yx c st p):Yx c' bQ p:=by
 cases p with
 |arr a j g W n l=>
  refine ⟨Nat.le_trans hp.1 (h.gA a),fun A' iB => ?_⟩;obtain ⟨A,hA,hw,hl,np,_⟩:=h.refs a j g A' hp.1 iB;obtain ⟨h1,h2,h3⟩:=hp.2 A hA;exact ⟨hw.trans h1,hl.trans h2,np.trans h3⟩
 |box b g rh=>
  refine ⟨Nat.le_trans hp.1 (h.gB b),fun cs Aq => ?_⟩;obtain ⟨⟨UH,h0⟩,hb⟩:=h.GY b g cs hp.1 Aq;exact hb.trans (hp.2 UH h0)
theorem fJ.go {c c':Cz} {w w':World} {s j:Nat} {A:nu} (h:fJ c w s j A) (hs:lk w w' c.ok c'.ok) (hl:c'.lc s j=c.lc s j)
  (hb:∀b,c.own b=some (.sp s j)→w'.heap[b]?=w.heap[b]?∧c'.own b=c.own b):fJ c' w' s j A:=by
 unfold fJ at h ⊢;rw [hl]
 cases hc:c.lc s j with
 |nil=>simpa [hc] using h
 |«at» b off cap=>
  rw [hc] at h;obtain ⟨h1,h2,⟨cur,ty,h3,h4⟩,h5⟩:=h;have dM:b<w.heap.size:=(Array.getElem?_eq_some_iff.1 h3).1;have hwo:w'.heap[b]?=w.heap[b]?∧c'.own b=c.own b:=by
   cases ho:A.own with
   |true=>rw [ho] at h1;exact hb b h1
   |false=>rw [ho] at h1;exact ⟨hs.block b dM h1,(hs.ok b dM h1:c'.own b=none).trans h1.symm⟩
  refine ⟨?_,h2,⟨cur,ty,by rw [hwo.1];exact h3,h4⟩,h5.go (fun _=>hs) hwo.1 (fun _ k hk=>⟨(hb k hk).1,(hb k hk).2.trans hk⟩)⟩;rw [hwo.2];exact h1
theorem Ap.go {c:Cz} {st:St} {w:World} {c':Cz} {bQ:St} {w':World} (h:Fw c st w c' bQ w') {s:Nat} {cs:List CV} (hb:Ap c st w s cs)
  (hx:c'.bx s=c.bx s) (ho:c'.own (c.bx s)=c.own (c.bx s)) (hw:w'.heap[c.bx s]?=w.heap[c.bx s]?):Ap c' bQ w' s cs:=by
 obtain ⟨h1,vs,ty,h2,h3⟩:=hb;exact ⟨by rw [hx,ho];exact h1,vs,ty,by rw [hx,hw];exact h2,h.Yz h3⟩
theorem Sd (st:St) (d:Option Nat) (v:V) (t:Nat):dN (bR st d v) t=if d=some t∧t<st.length then v else dN st t:=by
 cases d with
 |none=>simp [bR]
 |some u=>
  unfold dN bR;rw [lf]
  by_cases h:t=u
  ·subst h;simp only [if_true,true_and]
   by_cases hl:t<st.length
   ·have:nth st t=some st[t]:=by rw [nv];exact List.getElem?_eq_getElem hl
    simp [this,hl]
   ·have:nth st t=none:=by rw [nv];exact List.getElem?_eq_none (by omega)
    simp [this,hl]
  ·have:¬(some u=some t∧t<st.length):=by rintro ⟨e,_⟩;exact h (Option.some.inj e).symm
   rw [if_neg h,if_neg this]
theorem u7 (st:St) (d:Option Nat) (v:V) (s:Nat):∃f:Sl→Sl,(∀x,(f x).box=x.box∧(f x).bg=x.bg∧(f x).bU=x.bU∧(f x).ag=x.ag∧(f x).ep=x.ep)∧nth (bR st d v) s=(nth st s).map f:=by
 cases d with
 |none=>exact ⟨id,fun _=>⟨rfl,rfl,rfl,rfl,rfl⟩,by simp [bR]⟩
 |some t=>
  unfold bR
  by_cases h:s=t
  ·subst h;exact ⟨fun x=>{ x with v:=v },fun _=>⟨rfl,rfl,rfl,rfl,rfl⟩,qc _ _ _⟩
  ·exact ⟨id,fun _=>⟨rfl,rfl,rfl,rfl,rfl⟩,by simp [u5 _ _ h]⟩
theorem Se (st:St) (d:Option Nat) (v:V) (a j g:Nat):cO (bR st d v) a j g=cO st a j g:=by
 obtain ⟨f,hf,hn⟩:=u7 st d v a;unfold cO;rw [hn]
 cases nth st a with
 |none=>rfl
 |some s=>obtain ⟨_,_,h3,h4,_⟩:=hf s;simp [h3,h4]
theorem Sf (st:St) (d:Option Nat) (v:V) (b g:Nat):fV (bR st d v) b g=fV st b g:=by
 obtain ⟨f,hf,hn⟩:=u7 st d v b;unfold fV;rw [hn]
 cases nth st b with
 |none=>rfl
 |some s=>obtain ⟨h1,h2,_,_,_⟩:=hf s;simp [h1,h2]
theorem Sg (st:St) (d:Option Nat) (v:V) (a:Nat):gP (bR st d v) a=gP st a:=by
 obtain ⟨f,hf,hn⟩:=u7 st d v a;unfold gP;rw [hn]
 cases nth st a with
 |none=>rfl
 |some s=>exact (hf s).2.2.2.1
theorem U9 (st:St) (d:Option Nat) (v:V) (a:Nat):wu (bR st d v) a=wu st a:=by
 obtain ⟨f,hf,hn⟩:=u7 st d v a;unfold wu;rw [hn]
 cases nth st a with
 |none=>rfl
 |some s=>exact (hf s).2.2.2.2
theorem Sh (st:St) (d:Option Nat) (v:V) (a:Nat):j5 (bR st d v) a=j5 st a:=by
 obtain ⟨f,hf,hn⟩:=u7 st d v a;unfold j5;rw [hn]
 cases nth st a with
 |none=>rfl
 |some s=>exact (hf s).2.1
theorem lk.refl (w:World) (ok:Nat→Prop):lk w w ok ok:=⟨Nat.le_refl _,fun _ _ _=>rfl,fun _ _ h=>h⟩
theorem Fw.bR (c:Cz) (st:St) (w:World) (d:Option Nat) (v:V):Fw c st w c (bR st d v) w where
 stays:=lk.refl w _
 refs a j g A' _ h:=⟨A',by rwa [Se] at h,rfl,rfl,rfl,fun _=>⟨rfl,fun _ _ _ _=>rfl⟩⟩
 GY b g rZ _ h:=⟨⟨rZ,by rwa [Sf] at h⟩,rfl⟩
 gA a:=by rw [Sg];exact Nat.le_refl _
 gB a:=by rw [Sh];exact Nat.le_refl _
 gE a:=by rw [U9];exact Nat.le_refl _
theorem eval_put (a:Act) (d:Option Tmp) (v:Value) (t:Nat):(a.put d v).eval (.tmp t)=if d=some t∧t<a.tmps.size then v else a.eval (.tmp t):=by
 cases d with
 |none=>simp [Act.put]
 |some u=>
  simp only [Act.put,Act.eval,Array.getD_eq_getD_getElem?,Array.getElem?_setIfInBounds]
  by_cases h:u=t
  ·subst h
   by_cases hl:u<a.tmps.size<;>simp [hl]
  ·have:¬(some u=some t∧t<a.tmps.size):=by rintro ⟨e,_⟩;exact h (Option.some.inj e)
   rw [if_neg this];simp [h]
theorem Rel.bR {w0:World} {mu:Mu} {c:Cz} {st:St} {a:Act} {w:World} (h:Rel w0 mu c st a w) {d:Option Nat} {v:V} {u:Value}
  (hv:il c st w v u) (hd:∀t,d=some t→t<a.tmps.size):Rel w0 mu c (bR st d v) (a.put d u) w where
 jj t:=by
  have hg:=Fw.bR c st w d v;rw [Sd,eval_put]
  by_cases hdt:d=some t
  ·have:=hd t hdt
   by_cases hl:t<st.length
   ·rw [if_pos ⟨hdt,hl⟩,if_pos ⟨hdt,this⟩];exact hg.u6 hv
   ·have e:dN st t=.one .bad:=by
     unfold dN;rw [nv,List.getElem?_eq_none (by omega)]
    rw [if_neg (fun h=>hl h.2),e];trivial
  ·rw [if_neg (fun h=>hdt h.1),if_neg (fun h=>hdt h.1)];exact hg.u6 (h.jj t)
 boxes s sl cs hs hb:=by
  obtain ⟨f,hf,hn⟩:=u7 st d v s;rw [hn] at hs
  cases hx:nth st s with
  |none=>rw [hx] at hs;simp at hs
  |some s0=>
   rw [hx] at hs;simp at hs;subst hs;rw [(hf s0).1] at hb;exact (h.boxes s s0 cs hx hb).go (Fw.bR c st w d v) rfl rfl rfl
 bU s j sl A hs hb:=by
  obtain ⟨f,hf,hn⟩:=u7 st d v s;rw [hn] at hs
  cases hx:nth st s with
  |none=>rw [hx] at hs;simp at hs
  |some s0=>
   rw [hx] at hs;simp at hs;subst hs;rw [(hf s0).2.2.1] at hb;exact h.bU s j s0 A hx hb
 owned:=h.owned
 free:=h.free
 kept:=h.kept
 old:=h.old
 hZ p hp:=(Fw.bR c st w d v).hZ (h.hZ p hp)
 plain:=by
  have:=h.plain
  cases d<;>simpa [Act.put] using this
theorem Rel.JI {w0:World} {mu:Mu} {c:Cz} {st:St} {a:Act} {w:World} (h:Rel w0 mu c st a w) {s j g:Nat} {A:nu} (hA:cO st s j g=some A):fJ c w s j A:=by
 obtain ⟨sl,h1,_,h3⟩:=dK hA;exact h.bU s j sl A h1 h3
theorem fJ.lt {c:Cz} {w:World} {s j:Nat} {A:nu} (h:fJ c w s j A) {b off cap:Nat} (hl:c.lc s j=.at b off cap):b<w.heap.size:=by
 unfold fJ at h;rw [hl] at h;obtain ⟨_,_,⟨cur,t,h3,_⟩,_⟩:=h;exact (Array.getElem?_eq_some_iff.1 h3).1
end Go.TM
namespace Go.TM
open Go Go.RowKit
def ll:RT→List Value→Prop
 |.nil,vs=>vs=[]
 |.cons (.int k) r,vs=>∃l,vs=.int k 0::l∧ll r l
 |.cons .bool r,vs=>∃l,vs=.bool false::l∧ll r l
 |.cons .str r,vs=>∃l,vs=.string ByteArray.empty::l∧ll r l
 |.cons (.sl _) r,vs=>∃l,vs=.slice none 0 0::l∧ll r l
def descOf:Ty→TypeDesc→Prop
 |.int k,d=>d=.int k
 |.bool,d=>d=.bool
 |.str,d=>d=.string
 |.sl _,_=>False
structure jZ (P:Program) (T:oU):Prop where
 cells:∀t n,T.cells t=some n→(P.info? t).map (·.size)=some n
 agg:∀t n,T.cells t=some n→∃d,P.underlying t=some d∧d.isRow=T.agg t∧(T.agg t=false→n=1)
 off:∀t f k,T.off t f=some k→∃fs JJ n,P.underlying t=some (.struct fs)∧fs[f]?=some JJ∧JJ.offset=k∧(P.info? JJ.type).map (·.size)=some (n+1)
 bld:∀t,T.agg t=true→∃fs du,P.underlying t=some (.struct fs)∧fs.toList.mapM (fun f=>(P.info? f.type).map fun i=>(f.offset,i.size))=some du∧
  ∀f o s,T.off t f=some o→T.fsz t f=some s→du[f]?=some (o,s)
 row:∀t r,T.row t=some r→∃i z,P.info? t=some i∧i.zero=some z∧ll r z.cells.toList
 elem:∀t r b,T.elem t=some (r,b)→∃e i z,P.underlying t=some (.slice e)∧P.info? e=some i∧i.size=r.width∧0<r.width∧i.bytes=b∧0<b∧i.zero=some z∧ll r z.cells.toList
 u8:∀t e b,T.elem t=some (.cons (.int .u8) .nil,b)→P.underlying t=some (.slice e)→P.underlying e=some (.int .u8)
 kind:∀t y,T.kind t=some y→∃d,P.underlying t=some d∧descOf y d
 one:∀t f,T.one t f=true→∃fs JJ d,P.underlying t=some (.struct fs)∧fs[f]?=some JJ∧P.underlying JJ.type=some d∧d.isRow=false
theorem qd.one {c:Cz} {st:St} {w:World} {x:CV} {v:Value} (h:qd c st w x v) (hs:x.zO=true):v.oneCell'=true:=by
 cases x with
 |bad=>simp [CV.zO] at hs
 |int k n=>simp only [qd] at h;subst h;rfl
 |bool b=>simp only [qd] at h;subst h;rfl
 |str s=>simp only [qd] at h;subst h;rfl
 |gw=>simp only [qd] at h;subst h;rfl
 |Pb=>simp only [qd] at h;subst h;rfl
 |shr r xs=>
  rcases (rf _ _ _ _ _).1 h with ⟨rfl,_⟩ | ⟨a,cap,rfl,_⟩<;>rfl
 |nn r xs=>
  rcases (rf _ _ _ _ _).1 h.1 with ⟨rfl,_⟩ | ⟨a,cap,rfl,_⟩<;>rfl
 |ref a j g vw=>exact h.1
 |ptr b g off=>exact h.1
 |MS a j g i off=>exact h.1
 |nV r x off=>obtain ⟨b,o,rfl,_⟩:=h;rfl
 |xy r x off=>obtain ⟨b,o,rfl,_⟩:=h;rfl
 |fn g rs xs=>obtain ⟨Ao,rfl,_⟩:=h;rfl
theorem Si {v:Value} (h:v.oneCell'=true):v.cells = #[v]:=by cases v<;>first | rfl | simp [Value.oneCell'] at h
theorem il.cells {c:Cz} {st:St} {w:World} {x:V} {v:Value} (h:il c st w x v) (hs:x.zO=true) :
  iQ c st w x.cells v.cells.toList∧∀u∈v.cells.toList,u.oneCell'=true:=by
 cases x with
 |one x=>
  have h1:v.oneCell'=true:=qd.one (x:=x) h hs;rw [Si h1];refine ⟨⟨rfl,fun i y u hy hu => ?_⟩,fun u hu=>by simp at hu;rw [hu];exact h1⟩
  cases i with
  |zero=>simp [V.cells] at hy hu;rw [←hy,←hu];exact h
  |succ i=>simp [V.cells] at hy
 |agg cs=>
  obtain ⟨vs,rfl,hl⟩:=h;refine ⟨hl,fun u hu => ?_⟩;obtain ⟨i,hi,hu⟩:=List.mem_iff_getElem.1 hu;have YA:i<cs.length:=by rw [hl.1];exact hi
  have:=hl.2 i cs[i] u (List.getElem?_eq_getElem YA) (by rw [←hu];exact List.getElem?_eq_getElem hi);exact this.one (List.all_eq_true.1 hs _ (List.getElem_mem YA))
 |p8 us=>simp [V.zO] at hs
def Cz.kP (c:Cz) (d b:Nat):Cz:=
 { bx:=fun s=>if s=d then b else c.bx s,lc:=c.lc,own:=fun k=>if k=b then some (.box d) else c.own k }
theorem Ar (w:World) (o:Obj) (ok C5:Nat→Prop) (h:∀b,b<w.heap.size→ok b→C5 b):lk w (w.alloc o) ok C5 where
 size:=by simp
 block b hb _:=heap_alloc_old w o b hb
 ok:=h
theorem Rel.yj {w0:World} {mu:Mu} {c:Cz} {st:St} {a:Act} {w:World} (h:Rel w0 mu c st a w) {b:Nat} {l:Lb} (hb:c.own b=some l):b<w.heap.size:=(h.owned b l hb).1
theorem Rel.kP {w0:World} {mu:Mu} {c:Cz} {st:St} {a:Act} {w:World} (h:Rel w0 mu c st a w) {d:Nat} {s0:Sl} {cs:List CV} {vs:Array Value} {ty:TypeId}
  (mY:nth st d=some s0) (hd:d<a.tmps.size) (hl:iQ c st w cs vs.toList) :
  Rel w0 mu (c.kP d w.heap.size) (sO (fun s=>{ s with v:=.one (.ptr d (s0.bg+1) 0),box:=some cs,bg:=s0.bg+1 }) st d)
   (a.put (some d) (.pointer (some ⟨w.heap.size,0,none⟩))) (w.alloc (.cells vs ty (0,0))):=by
 have hn:∀s,nth (sO (fun s=>{ s with v:=.one (.ptr d (s0.bg+1) 0),box:=some cs,bg:=s0.bg+1 }) st d) s=
   if s=d then some { s0 with v:=.one (.ptr d (s0.bg+1) 0),box:=some cs,bg:=s0.bg+1 } else nth st s:=by
  intro s;rw [lf]
  by_cases e:s=d
  ·subst e;simp [mY]
  ·simp [e]
 generalize sO (fun s=>{ s with v:=.one (.ptr d (s0.bg+1) 0),box:=some cs,bg:=s0.bg+1 }) st d=bQ at hn ⊢;have iP:∀b,b<w.heap.size→c.ok b→(c.kP d w.heap.size).ok b:=by
  intro b hb hc;unfold Cz.ok Cz.kP;simp only [if_neg (show b≠w.heap.size by omega)];exact hc
 have hA:∀a' j g,cO bQ a' j g=cO st a' j g:=by
  intro a' j g;unfold cO;rw [hn]
  by_cases e:a'=d
  ·subst e;simp [mY]
  ·simp [e]
 have hgA:∀a',gP bQ a'=gP st a':=by
  intro a';unfold gP;rw [hn]
  by_cases e:a'=d
  ·subst e;simp [mY]
  ·simp [e]
 have lU:Fw c st w (c.kP d w.heap.size) bQ (w.alloc (.cells vs ty (0,0))):={
  stays:=Ar w _ _ _ iP
  refs:=fun a' j g A' _ iB=>⟨A',by rw [←hA];exact iB,rfl,rfl,rfl,fun _=>⟨rfl,fun b o cap np=>by
   exact heap_alloc_old w _ b ((h.JI (g:=g) (by rw [←hA];exact iB)).lt np)⟩⟩
  GY:=fun b g rZ hg hb=>by
   unfold fV at hb ⊢;rw [hn] at hb
   by_cases e:b=d
   ·subst e;simp only [if_true] at hb;unfold j5 at hg;rw [mY] at hg;have:Nat.beq (s0.bg+1) g=false:=by
     cases hq:Nat.beq (s0.bg+1) g
     ·rfl
     ·have:=Nat.eq_of_beq_eq_true hq;simp at hg;omega
    simp [this] at hb
   ·simp only [e,if_false] at hb;exact ⟨⟨rZ,hb⟩,by simp [Cz.kP,e]⟩
  gA:=fun a'=>by rw [hgA];exact Nat.le_refl _
  gB:=fun b=>by
   unfold j5;rw [hn]
   by_cases e:b=d
   ·subst e;simp [mY]
   ·simp [e]
  gE:=fun a'=>by
   unfold wu;rw [hn]
   by_cases e:a'=d
   ·subst e;simp [mY]
   ·simp [e] }
 exact {
  jj:=fun t=>by
   have e1:dN bQ t=if t=d then .one (.ptr d (s0.bg+1) 0) else dN st t:=by
    unfold dN;rw [hn]
    by_cases e:t=d<;>simp [e]
   rw [e1,eval_put]
   by_cases e:t=d
   ·subst e;simp only [if_true,true_and,hd];refine ⟨rfl,?_,fun rZ Pj=>by simp [Cz.kP]⟩;unfold j5;rw [hn];simp
   ·simp only [e,if_false];rw [if_neg (fun h=>e (Option.some.inj h.1).symm)];exact lU.u6 (h.jj t)
  boxes:=fun s sl rZ hs hb=>by
   rw [hn] at hs
   by_cases e:s=d
   ·subst e;simp only [if_true,Option.some.injEq] at hs;subst hs;simp only [Option.some.injEq] at hb;subst hb;exact ⟨by simp [Cz.kP],vs,ty,by simp only [Cz.kP,if_true];exact heap_alloc_new w _,lU.Yz hl⟩
   ·simp only [e,if_false] at hs;have hb0:=h.boxes s sl rZ hs hb;have dM:=h.yj hb0.1;exact hb0.go lU (by simp [Cz.kP,e]) (by simp only [Cz.kP];rw [if_neg (by omega)]) (heap_alloc_old w _ _ dM)
  bU:=fun s j sl A hs iB=>by
   rw [hn] at hs;have ha:fJ c w s j A:=by
    by_cases e:s=d
    ·subst e;simp only [if_true,Option.some.injEq] at hs;subst hs;exact h.bU s j s0 A mY iB
    ·simp only [e,if_false] at hs;exact h.bU s j sl A hs iB
   refine ha.go lU.stays rfl (fun b hb => ?_);have dM:b<w.heap.size:=h.yj hb;exact ⟨heap_alloc_old w _ b dM,by simp only [Cz.kP];rw [if_neg (by omega)]⟩
  owned:=fun b l hb=>by
   simp only [Cz.kP] at hb
   by_cases e:b=w.heap.size
   ·subst e;exact ⟨by simp,.inr (.inl h.kept.2.2.2)⟩
   ·rw [if_neg e] at hb;have:=h.owned b l hb;exact ⟨Nat.lt_of_lt_of_le this.1 (by simp),this.2⟩
  free:=fun b hb h1=>by
   simp only [Cz.kP] at h1
   by_cases e:b=w.heap.size
   ·rw [if_pos e] at h1;cases h1
   ·rw [if_neg e] at h1;exact h.free b hb h1
  kept:=⟨h.kept.1,h.kept.2.1,h.kept.2.2.1,Nat.le_trans h.kept.2.2.2 (by simp)⟩
  old:=fun k hk hm=>by
   rw [heap_alloc_old w _ k (Nat.lt_of_lt_of_le hk h.kept.2.2.2)];exact h.old k hk hm
  hZ:=fun p hp=>lU.hZ (h.hZ p hp)
  plain:=h.plain }
end Go.TM
namespace Go.TM
open Go Go.RowKit
theorem cU {w0:World} {mu:Mu} {c:Cz} {st:St} {a:Act} {w:World} (h:Rel w0 mu c st a w) (x:Operand):il c st w (pW st x) (a.eval x):=by
 unfold pW
 split<;>first | exact h.jj _ | rfl | trivial
theorem iQ.take {c:Cz} {st:St} {w:World} {cs:List CV} {vs:List Value} (h:iQ c st w cs vs) (off n:Nat):iQ c st w ((cs.drop off).take n) ((vs.drop off).take n):=by
 refine ⟨by simp [h.1],fun i x v hx hv => ?_⟩;rw [List.getElem?_take] at hx hv
 by_cases hi:i<n
 ·rw [if_pos hi,List.getElem?_drop] at hx hv;exact h.2 _ x v hx hv
 ·rw [if_neg hi] at hx;simp at hx
theorem qe {n off:Nat} {cs l:List CV} (h:j8 n off cs=some l):l=(cs.drop off).take n∧l.length=n:=by
 unfold j8 at h;obtain ⟨h1,h2⟩:=bJ h;have:=Option.some.inj h2;subst this;exact ⟨rfl,Nat.eq_of_beq_eq_true h1⟩
def valOf (agg:Bool) (vs:List Value):Value:=if agg then .agg vs.toArray else vs.headD undef
theorem wD {P:Program} {T:oU} (hT:jZ P T) {t n:Nat} (ht:T.cells t=some n) (w:World) (b o:Nat) (vs:List Value) (hv:w.rangeAt b o vs) (hn:vs.length=n) :
  (loadVar t ⟨b,o,none⟩).run P w=.ok (valOf (T.agg t) vs) w:=by
 obtain ⟨d,hu,hd,h1⟩:=hT.agg t n ht
 cases hg:T.agg t with
 |true=>
  rw [hg] at hd;have:=run_loadVar_mid (P:=P) w b o t vs d hv hu hd (by rw [hT.cells t n ht,hn]);simpa [valOf] using this
 |false=>
  have hn1:=h1 hg;obtain ⟨v,rfl⟩:∃v,vs=[v]:=by
   cases vs with
   |nil=>simp at hn;omega
   |cons v l=>cases l with
    |nil=>exact ⟨v,rfl⟩
    |cons _ _=>simp at hn;omega
  have aaT:(isAgg t).run P w=.ok false w:=by
   unfold isAgg;rw [Sem.run_bind,run_underlying hu w];rw [hg] at hd
   cases d<;>simp_all [TypeDesc.isRow]
  have hc:w.cell? ⟨b,o,none⟩=some v:=by have:=hv 0 v rfl;simpa using this
  simp [loadVar,Sem.run_bind,aaT,valOf,run_load,hc]
theorem YB {c:Cz} {st:St} {w:World} {T:oU} {t:Nat} {l:List CV} {vs:List Value} (h:iQ c st w l vs) (h1:T.agg t=false→l.length=1) :
  il c st w (Yt T t l) (valOf (T.agg t) vs):=by
 unfold Yt valOf
 cases hg:T.agg t with
 |true=>exact ⟨vs.toArray,rfl,by simpa using h⟩
 |false=>
  have hl:=h1 hg
  cases l with
  |nil=>simp at hl
  |cons x l=>cases l with
   |cons _ _=>simp at hl
   |nil=>cases vs with
    |nil=>have:=h.1;simp at this
    |cons v vs=>exact h.2 0 x v rfl rfl
theorem FI {w:World} {b off:Nat} {vs:Array Value} {ty:TypeId} {fr:Nat×Nat} (h:w.heap[b]?=some (.cells vs ty fr)) (n:Nat):w.rangeAt b off ((vs.toList.drop off).take n):=by
 intro j v hv;rw [cell_of_row w b (off+j) vs ty fr h];rw [List.getElem?_take] at hv
 by_cases hj:j<n
 ·rw [if_pos hj,List.getElem?_drop] at hv;simpa using hv
 ·rw [if_neg hj] at hv;simp at hv
theorem yk {w:World} {c:Cz} {st:St}:(r:RT)→(b off:Nat)→(x:aO r)→fH w c.ok r b off x→
  ∃vs,vs.length=r.width∧w.rangeAt b off vs∧iQ c st w (gh r x) vs
 |.nil,_,_,_,_=>⟨[],rfl,fun j v h=>by simp at h,rfl,fun i x v h=>by simp [gh] at h⟩
 |.cons t r,b,off,x,h=>by
  unfold fH at h;obtain ⟨⟨v,hv,hx⟩,hr⟩:=h;obtain ⟨vs,h1,h2,h3,h4⟩:=yk r b (off+1) x.2 hr;refine ⟨v::vs,by simp [RT.width,h1],fun j u hu => ?_,by simp [gh,h3],fun i y u hy hu => ?_⟩
  ·cases j with
   |zero=>simp at hu;rw [←hu];exact hv
   |succ j=>
    simp at hu;have:=h2 j u hu;rw [show off+(j+1)=off+1+j by omega];exact this
  ·cases i with
   |zero=>
    simp [gh] at hy hu;subst hy hu
    cases t with
    |int k=>unfold ev at hx;exact hx
    |bool=>unfold ev at hx;exact hx
    |str=>unfold ev at hx;exact hx
    |sl q=>exact hx
   |succ i=>
    simp [gh] at hy hu;exact h4 i y u hy hu
theorem Au {w:World} {b off:Nat} {vs:List Value} (h:w.rangeAt b off vs) (k n:Nat):w.rangeAt b (off+k) ((vs.drop k).take n):=by
 intro j v hv;rw [List.getElem?_take] at hv
 by_cases hj:j<n
 ·rw [if_pos hj,List.getElem?_drop] at hv;rw [Nat.add_assoc];exact h _ v hv
 ·rw [if_neg hj] at hv;simp at hv
def ln (w w':World):Prop:=w.heap.size≤w'.heap.size∧∀b,b<w.heap.size→w'.heap[b]?=w.heap[b]?
theorem ln.refl (w:World):ln w w:=⟨Nat.le_refl _,fun _ _=>rfl⟩
theorem ln.trans {w w' w'':World} (h:ln w w') (h':ln w' w''):ln w w'':=
 ⟨Nat.le_trans h.1 h'.1,fun b hb=>(h'.2 b (Nat.lt_of_lt_of_le hb h.1)).trans (h.2 b hb)⟩
theorem ln.alloc (w:World) (b:Obj):ln w (w.alloc b):=⟨by simp,fun k hk=>heap_alloc_old w b k hk⟩
theorem ln.range {w w':World} (h:ln w w') {b o:Nat} {vs:List Value} (hr:w.rangeAt b o vs):w'.rangeAt b o vs:=by
 intro j v hj;have h1:=hr j v hj;rw [World.cell?_of_block (w:=w) (h.2 b (Q7 h1))];exact h1
theorem MT {P:Program} {T:oU} (hT:jZ P T) {w0:World} {mu:Mu} {c:Cz} {st:St} {a:Act} {w:World} (h:Rel w0 mu c st a w)
  {d:Option Nat} {t:Nat} {x:V} {u:Value} (hx:il c st w x u) {bQ:St} (hv:(zP T st d t x).val=some bQ) (hd:∀k,d=some k→k<a.tmps.size) :
  ∃v,(∀w':World,ln w w'→(Instr.loadAt t u).run P w'=.ok v w')∧Rel w0 mu c bQ (a.put d v) w:=by
 have key:∀(b o n:Nat) (l:List CV) (vs:List Value),T.cells t=some n→u=.pointer (some ⟨b,o,none⟩)→w.rangeAt b o vs→vs.length=n→iQ c st w l vs→
   (N.done (TM.bR st d (Yt T t l))).val=some bQ→∃v,(∀w':World,ln w w'→(Instr.loadAt t u).run P w'=.ok v w')∧Rel w0 mu c bQ (a.put d v) w:=by
  intro b o n l vs hn hu hr hlen hl x9;simp only [N.val,Option.some.injEq] at x9;subst x9;obtain ⟨dd,_,_,h1⟩:=hT.agg t n hn;refine ⟨valOf (T.agg t) vs,fun w' hk => ?_,h.bR (YB hl (fun hg=>by rw [hl.1,hlen];exact h1 hg)) hd⟩;subst hu;have hr':w'.rangeAt b o vs:=hk.range hr;simp only [Instr.loadAt,Instr.sureAddr,Sem.run_bind,Sem.run_pure,Result.andThen_ok,wD hT hn w' b o vs hr' hlen]
 cases hn:T.cells t with
 |none=>cases x with
  |one y=>cases y<;>simp [zP,hn,N.val] at hv
  |agg _=>simp [zP,N.val] at hv
  |p8 _=>simp [zP,N.val] at hv
 |some n=>cases x with
  |agg _=>simp [zP,N.val] at hv
  |p8 _=>simp [zP,N.val] at hv
  |one y=>cases y with
   |bad | int _ _ | bool _ | str _ | gw | Pb | shr _ _ | nn _ _ | ref _ _ _ _ | fn _ _ _=>simp [zP,N.val] at hv
   |ptr b g off=>
    simp only [zP,hn] at hv
    cases hb:fV st b g with
    |none=>simp [hb,N.val] at hv
    |some cs=>
     simp only [hb] at hv
     cases I7:j8 n off cs with
     |none=>simp [I7,N.val] at hv
     |some l=>
      simp only [I7] at hv;obtain ⟨rfl,hlen⟩:=qe I7;obtain ⟨sl,JK,UI,JL⟩:=ka hb;obtain ⟨ho,vs,ty,hh,hl⟩:=h.boxes b sl cs JK JL;have hu:=hx.2.2 cs hb;refine key _ _ n _ ((vs.toList.drop off).take n) hn hu (FI hh n) ?_ (hl.take off n) hv;rw [←(hl.take off n).1];exact hlen
   |nV r y off=>
    simp only [zP,hn] at hv
    cases I7:j8 n off (gh r y) with
    |none=>simp [I7,N.val] at hv
    |some l=>
     simp only [I7] at hv;obtain ⟨rfl,hlen⟩:=qe I7;obtain ⟨b,o,hu,dM,iP,GZ⟩:=hx;obtain ⟨vs,h1,h2,h3⟩:=yk (st:=st) r b o y GZ;refine key _ _ n _ ((vs.drop off).take n) hn hu (Au h2 off n) ?_ (h3.take off n) hv;rw [←(h3.take off n).1];exact hlen
   |xy r ys off=>
    simp only [zP,hn] at hv
    cases hy:ys[0]? with
    |none=>simp [hy,N.val] at hv
    |some y=>
    simp only [hy] at hv;change (match j8 n off (gh r y) with | some l=>N.done (TM.bR st d (Yt T t l)) | none=>N.fail).val=some bQ at hv
    cases I7:j8 n off (gh r y) with
    |none=>simp [I7,N.val] at hv
    |some l=>
     simp only [I7] at hv;obtain ⟨rfl,hlen⟩:=qe I7;obtain ⟨b,o,hu,dM,iP,GZ⟩:=hx;obtain ⟨vs,h1,h2,h3⟩:=yk (st:=st) r b o y (GZ y hy);refine key _ _ n _ ((vs.drop off).take n) hn hu (Au h2 off n) ?_ (h3.take off n) hv;rw [←(h3.take off n).1];exact hlen
   |MS a' j g i off=>
    simp only [zP,hn] at hv
    cases hA:cO st a' j g with
    |none=>simp [hA,N.val] at hv
    |some A=>
     simp only [hA] at hv;obtain ⟨sl,JK,UI,JL⟩:=dK hA;have MU:=h.bU a' j sl A JK JL;obtain ⟨hi,b,o,cap,np,hu⟩:=hx.2.2 A hA;unfold fJ at MU;rw [np] at MU;obtain ⟨_,_,_,w6⟩:=MU
     cases hm:A.md with
     |sh=>
      cases Va:A.xs[i]? with
      |none=>simp [Va,N.val] at hv
      |some y=>
       simp only [Va] at hv;change (match j8 n off (gh A.r y) with | some l=>N.done (TM.bR st d (Yt T t l)) | none=>N.fail).val=some bQ at hv
       cases I7:j8 n off (gh A.r y) with
       |none=>simp [I7,N.val] at hv
       |some l=>
        simp only [I7] at hv;obtain ⟨rfl,hlen⟩:=qe I7;obtain ⟨vs,h1,h2,h3⟩:=yk (st:=st) A.r b _ y ((ey.sh hm).1 w6 i y Va);refine key _ _ n _ ((vs.drop off).take n) hn hu (Au h2 off n) ?_ (h3.take off n) hv;rw [←(h3.take off n).1];exact hlen
end Go.TM
namespace Go.TM
open Go Go.RowKit
def eU (w:World) (ok:Nat→Prop):(r:RT)→List Value→aO r→Prop
 |.nil,vs,_=>vs=[]
 |.cons t r,vs,x=>∃v l,vs=v::l∧ev w ok t v x.1∧eU w ok r l x.2
theorem eU.length {w:World} {ok:Nat→Prop}:(r:RT)→(vs:List Value)→(x:aO r)→eU w ok r vs x→vs.length=r.width
 |.nil,vs,_,h=>by simp only [eU] at h;subst h;rfl
 |.cons t r,vs,x,h=>by
  obtain ⟨v,l,rfl,_,h⟩:=h;simp [RT.width,eU.length r l x.2 h]
theorem qf {w:World} {ok:Nat→Prop}:(r:RT)→(b off:Nat)→(x:aO r)→(fH w ok r b off x↔∃vs,w.rangeAt b off vs∧eU w ok r vs x)
 |.nil,_,_,_=>by
  unfold fH;exact ⟨fun _=>⟨[],fun j v h=>by simp at h,rfl⟩,fun _=>trivial⟩
 |.cons t r,b,off,x=>by
  unfold fH
  constructor
  ·rintro ⟨⟨v,hv,hx⟩,hr⟩
   obtain ⟨vs,h1,h2⟩:=(qf r b (off+1) x.2).1 hr;refine ⟨v::vs,fun j u hu => ?_,v,vs,rfl,hx,h2⟩
   cases j with
   |zero=>simp at hu;rw [←hu];exact hv
   |succ j=>
    simp at hu;rw [show off+(j+1)=off+1+j by omega];exact h1 j u hu
  ·rintro ⟨vs,h1,v,l,rfl,hx,h2⟩
   refine ⟨⟨v,h1 0 v rfl,hx⟩,(qf r b (off+1) x.2).2 ⟨l,fun j u hu => ?_,h2⟩⟩;have:=h1 (j+1) u (by simpa using hu);rw [show off+1+j=off+(j+1) by omega];exact this
theorem eU.stays {w w':World} {ok C5:Nat→Prop} (h:lk w w' ok C5):(r:RT)→(vs:List Value)→(x:aO r)→eU w ok r vs x→eU w' C5 r vs x
 |.nil,_,_,hr=>hr
 |.cons t r,_,x,⟨v,l,e,hx,hr⟩=>⟨v,l,e,ev.stays h t v x.1 hx,eU.stays h r l x.2 hr⟩
theorem G0 {w:World} {c:Cz} {st:St}:(r:RT)→(x:aO r)→(k:Nat)→(y:CV)→(z:aO r)→(vs:List Value)→(u:Value)→
  oK r x k y=some z→qd c st w y u→eU w c.ok r vs x→eU w c.ok r (vs.set k u) z
 |.nil,_,_,_,_,_,_,h,_,_=>by simp [oK] at h
 |.cons t r,x,0,y,z,vs,u,h,hu,hv=>by
  obtain ⟨v,l,rfl,hx,hr⟩:=hv
  cases t with
  |int k=>
   cases y<;>simp [oK] at h
   obtain ⟨rfl,h⟩:=h;obtain rfl:=Option.some.inj h;refine ⟨u,l,rfl,?_,hr⟩;unfold ev;exact hu
  |bool=>
   cases y<;>simp [oK] at h
   obtain rfl:=Option.some.inj h;refine ⟨u,l,rfl,?_,hr⟩;unfold ev;exact hu
  |str=>
   cases y<;>simp [oK] at h
   obtain rfl:=Option.some.inj h;refine ⟨u,l,rfl,?_,hr⟩;unfold ev;exact hu
  |sl q=>cases y<;>simp [oK] at h
 |.cons t r,x,k+1,y,z,vs,u,h,hu,hv=>by
  obtain ⟨v,l,rfl,hx,hr⟩:=hv;have h':(oK r x.2 k y).map (fun z=>((x.1,z):aO (.cons t r)))=some z:=by cases t<;>(simp only [oK] at h;exact h)
  cases hq:oK r x.2 k y with
  |none=>simp [hq] at h'
  |some z'=>
   rw [hq] at h';obtain rfl:=Option.some.inj h';exact ⟨v,l.set k u,rfl,hx,G0 r x.2 k y z' l u hq hu hr⟩
def fc (vs:List Value) (off:Nat) (us:List Value):List Value:=vs.take off++us++vs.drop (off+us.length)
theorem MV {vs:List Value} {off:Nat} {u:Value} {us:List Value} (h:off<vs.length):fc vs off (u::us)=(fc vs (off+1) us).set off u:=by
 unfold fc;apply List.ext_getElem?;intro k;simp only [List.getElem?_set,List.getElem?_append,List.length_append,List.length_take,List.length_cons,List.getElem?_drop,List.getElem?_cons]
 by_cases h1:k<off
 ·have a1:min off vs.length=off:=by omega
  have a2:min (off+1) vs.length=off+1:=by omega
  have a3:off≠k:=by omega
  simp only [a1,a2,a3,if_false,h1,show k<off+(us.length+1) by omega,show k<off+1+us.length by omega,show k<off+1 by omega,if_true,List.getElem?_take]
 ·by_cases h2:k=off
  ·subst h2;have a1:min k vs.length=k:=by omega
   have a2:min (k+1) vs.length=k+1:=by omega
   have a3:min k vs.length-k=0:=by omega
   simp [a1,a2,h];omega
  ·have a1:min off vs.length=off:=by omega
   have a2:min (off+1) vs.length=off+1:=by omega
   obtain ⟨m,rfl⟩:∃m,k=off+1+m:=⟨k-(off+1),by omega⟩;have a3:off≠off+1+m:=by omega
   simp only [a1,a2,a3,if_false,show ¬off+1+m<off by omega,show off+1+m-off=m+1 by omega,show ¬off+1+m<off+1 by omega,show off+1+m-(off+1)=m by omega,
    Nat.add_one_ne_zero,Nat.add_sub_cancel]
   by_cases h3:m<us.length
   ·rw [if_pos (by omega),if_pos (by omega)]
   ·rw [if_neg (by omega),if_neg (by omega)]
    congr 1
    omega
theorem oW {vs:List Value} {off:Nat} {us:List Value} (h:off+us.length≤vs.length):(fc vs off us).length=vs.length:=by
 unfold fc;simp;omega
theorem G1 {w:World} {c:Cz} {st:St} (r:RT) (x:aO r):(off:Nat)→(cs:List CV)→(z:aO r)→(vs us:List Value)→off+us.length≤vs.length→
  u4 r x off cs=some z→iQ c st w cs us→eU w c.ok r vs x→eU w c.ok r (fc vs off us) z
 |off,[],z,vs,us,_,h,hl,hv=>by
  have:us=[]:=by have:=hl.1;simp at this;exact List.length_eq_zero_iff.1 this.symm
  subst this;simp [u4] at h;subst h;simp [fc];exact hv
 |off,y::l,z,vs,us,hle,h,hl,hv=>by
  cases us with
  |nil=>have:=hl.1;simp at this
  |cons u us=>
   simp only [u4] at h
   cases hq:u4 r x (off+1) l with
   |none=>simp [hq] at h
   |some y'=>
    simp only [hq] at h;simp at hle;have ih:=G1 r x (off+1) l y' vs us (by omega) hq ⟨by have:=hl.1;simpa using this,fun i a b ha hb=>hl.2 (i+1) a b (by simpa using ha) (by simpa using hb)⟩ hv;rw [MV (by omega)];exact G0 r y' off y z _ u h (hl.2 0 y u rfl rfl) ih
theorem yl {w:World} {c:Cz} {b:Nat} {l:Lb} (hb:c.own b=some l) (cur:Array Value):lk w (w.setRow b cur) c.ok c.ok where
 size:=by simp [World.setRow]
 block k _ hk:=setRow_other w b k cur (fun e=>by subst e;unfold Cz.ok at hk;rw [hb] at hk;cases hk)
 ok _ _ h:=h
theorem Av {P:Program} {T:oU} (hT:jZ P T) {t n:Nat} (ht:T.cells t=some n) (w:World) (b o:Nat) (v:Value) (hn:v.cells.toList.length=n) (h1:∀u∈v.cells.toList,u.oneCell'=true)
  {cur:Array Value} {ty:TypeId} (hg:w.heap[b]?=some (.cells cur ty (0,0))) (hle:o+n≤cur.size) :
  (Instr.storeAt t (.pointer (some ⟨b,o,none⟩)) v).run P w=.ok () (w.setRow b (fc cur.toList o v.cells.toList).toArray):=by
 have hs:=run_storeCells_at P b o ty v.cells.toList 0 cur w hg (by omega) h1;have hi:=hT.cells t n ht
 cases hq:P.info? t with
 |none=>simp [hq] at hi
 |some i=>
  have py:v.cells.size=i.size:=by simp [hq] at hi;rw [hi,←hn];simp
  simp only [Nat.add_zero] at hs;simp [Instr.storeAt,Instr.sureAddr,storeVar,sizeOf,typeInfo,hq,py,hs,fc]
end Go.TM
namespace Go.TM
open Go Go.RowKit
theorem View.Bx {α:Type} (vw:View) (xs:List α) {i:Nat} {x:α} (h:(vw.app xs)[i]?=some x):xs[vw.lo+i]?=some x:=by
 cases vw with
 |full=>simpa [View.app,View.lo] using h
 |«from» lo=>simpa [View.app,View.lo,List.getElem?_drop] using h
 |sub lo n=>
  simp only [View.app,View.lo,List.getElem?_take,List.getElem?_drop] at h ⊢
  by_cases hi:i<n
  ·rwa [if_pos hi] at h
  ·rw [if_neg hi] at h;simp at h
theorem C7 {c:Cz} {w:World} {s j:Nat} {A:nu} (h:fJ c w s j A) {vw:View} {u:Value} (hu:qW (c.lc s j) A.r.width vw.lo (vw.app A.xs).length u)
  {ok:Nat→Prop} (h1:∀b,c.ok b→ok b) (h2:∀b,A.own=true∨A.md.Sa=true→c.own b=some (.sp s j)→ok b) (Lt:A.md.Sa=false):ev w ok (.sl A.r) u (vw.app A.xs):=by
 rw [rf]
 cases hl:c.lc s j with
 |nil=>
  unfold qW at hu;rw [hl] at hu;obtain ⟨rfl,hn⟩:=hu;exact .inl ⟨rfl,List.length_eq_zero_iff.1 hn⟩
 |«at» b off cap=>
  unfold qW at hu;rw [hl] at hu;obtain ⟨a,k,rfl,hk,C8,ha⟩:=hu;unfold fJ at h;rw [hl] at h;obtain ⟨h0,_,⟨cur,ty,h3,_⟩,h5⟩:=h;have h5:∀(i:Nat) x,A.xs[i]?=some x→fH w ok A.r b (off+i*A.r.width) x:=by
   unfold ey at h5
   cases hm:A.md with
   |sh=>rw [hm] at h5;exact fun i x hx=>fH.stays ⟨Nat.le_refl _,fun _ _ _=>rfl,fun b _ hb=>h1 b hb⟩ _ _ _ x rfl (h5 i x hx)
  have hob:ok b:=by
   cases ho:A.own with
   |true=>rw [ho] at h0;exact h2 b (.inl ho) h0
   |false=>rw [ho] at h0;exact h1 b h0
  have hs:lk w w c.ok ok:=⟨Nat.le_refl _,fun _ _ _=>rfl,fun b _ hb=>h1 b hb⟩;refine .inr ⟨a,k,rfl,hk,fun lO => ?_,fun i x hi => ?_⟩
  ·have:k≠0:=by
    have:=List.length_pos_iff.2 lO;omega
   rw [ha this];exact ⟨rfl,(Array.getElem?_eq_some_iff.1 h3).1,hob⟩
  ·have hk0:k≠0:=by
    have:=(List.getElem?_eq_some_iff.1 hi).1;omega
   rw [ha hk0];have:=h5 _ x (View.Bx vw A.xs hi);have e:off+vw.lo*A.r.width+i*A.r.width=off+(vw.lo+i)*A.r.width:=by rw [Nat.add_mul];omega
   show fH w ok A.r b (off+vw.lo*A.r.width+i*A.r.width) x;rw [e];exact this
theorem dm {r s:RT} {xs:List (aO r)} {ys:List (aO s)} (h:ez s xs=some ys):∃e:r=s,ys=e▸xs:=by
 unfold ez at h
 cases hq:RT.eq? r s with
 |none=>simp [hq] at h
 |some p=>obtain ⟨e⟩:=p;simp [hq] at h;exact ⟨e,h.symm⟩
def Cz.drop1 (c:Cz) (a j:Nat):Cz:=
 { c with own:=fun k=>match c.own k with | some (.sp s i)=>if s=a∧i=j then none else some (.sp s i) | l=>l }
theorem Cz.G2 {c:Cz} {a j b:Nat} (h:c.ok b):(c.drop1 a j).ok b:=by
 unfold Cz.ok Cz.drop1 at *;simp [h]
theorem Cz.MW {c:Cz} {a j b:Nat} (h:c.own b=some (.sp a j)):(c.drop1 a j).ok b:=by
 unfold Cz.ok Cz.drop1;simp [h]
theorem Cz.Pk {c:Cz} {a j b:Nat} {l:Lb} (h:(c.drop1 a j).own b=some l):c.own b=some l:=by
 unfold Cz.drop1 at h;simp only at h
 cases hc:c.own b with
 |none=>simp [hc] at h
 |some l'=>cases l' with
  |box s=>simp [hc] at h;rw [h]
  |out=>simp [hc] at h;rw [h]
  |dE i k=>simp [hc] at h;rw [h]
  |xz i=>simp [hc] at h;rw [h]
  |kO k=>simp [hc] at h;rw [h]
  |sp s i=>
   simp only [hc] at h
   by_cases e:s=a∧i=j
   ·simp [e] at h
   ·rw [if_neg e] at h;exact h
theorem Cz.u9 {c:Cz} {a j b:Nat} {l:Lb} (h:c.own b=some l) (lO:l≠.sp a j):(c.drop1 a j).own b=some l:=by
 unfold Cz.drop1;simp only [h]
 cases l with
 |box s=>rfl
 |out=>rfl
 |dE i k=>rfl
 |xz i=>rfl
 |kO k=>rfl
 |sp s i=>
  simp only;rw [if_neg]
  rintro ⟨rfl,rfl⟩
  exact lO rfl
def gZ (st:St) (a j:Nat):St:=sO (fun s=>{ s with bU:=sO (fun A=>A.map nu.fz) s.bU j,ep:=s.ep+1 }) st a
theorem MX (st:St) (a j:Nat) (l:List (Nat×Nat)):freeze st ((a,j)::l)=freeze (gZ st a j) l:=rfl
theorem kz (st:St) (a j s:Nat):∃f:Sl→Sl,(∀x,(f x).v=x.v∧(f x).box=x.box∧(f x).bg=x.bg∧(f x).ag=x.ag∧
   (∀i,nth (f x).bU i=if s=a∧i=j then (nth x.bU i).map (fun A=>A.map nu.fz) else nth x.bU i)∧(f x).ep=if s=a then x.ep+1 else x.ep)∧nth (gZ st a j) s=(nth st s).map f:=by
 unfold gZ
 by_cases h:s=a
 ·subst h;refine ⟨fun s=>{ s with bU:=sO (fun A=>A.map nu.fz) s.bU j,ep:=s.ep+1 },fun x=>⟨rfl,rfl,rfl,rfl,fun i => ?_,by simp⟩,qc _ _ _⟩;simp only [lf,true_and]
 ·refine ⟨id,fun x=>⟨rfl,rfl,rfl,rfl,fun i => ?_,by simp [h]⟩,by rw [u5 _ _ h];simp⟩;simp [h]
theorem FJ (st:St) (a j b:Nat):wu st b≤wu (gZ st a j) b∧(wu (gZ st a j) b=wu st b→b≠a∨nth st b=none):=by
 obtain ⟨f,hf,hn⟩:=kz st a j b;unfold wu;rw [hn]
 cases hx:nth st b with
 |none=>simp
 |some x=>
  simp only [Option.map_some];rw [(hf x).2.2.2.2.2]
  by_cases e:b=a
  ·rw [if_pos e];exact ⟨by omega,fun h=>by omega⟩
  ·rw [if_neg e];exact ⟨Nat.le_refl _,fun _=>.inl e⟩
theorem Lu (st:St) (a j t:Nat):dN (gZ st a j) t=dN st t:=by
 obtain ⟨f,hf,hn⟩:=kz st a j t;unfold dN;rw [hn]
 cases nth st t with
 |none=>rfl
 |some x=>exact (hf x).1
theorem Lv {st:St} {a j a' j' g:Nat} {A':nu} (h:cO (gZ st a j) a' j' g=some A'):∃A,cO st a' j' g=some A∧A'.r.width=A.r.width∧A'.xs.length=A.xs.length∧(a'≠a→A'=A):=by
 obtain ⟨sl,h1,h2,h3⟩:=dK h;obtain ⟨f,hf,hn⟩:=kz st a j a';rw [hn] at h1
 cases hx:nth st a' with
 |none=>rw [hx] at h1;simp at h1
 |some x=>
  rw [hx] at h1;simp at h1;subst h1;obtain ⟨_,_,_,f4,f5,_⟩:=hf x;rw [f5] at h3;rw [f4] at h2;have key:∃A,nth x.bU j'=some (some A)∧A'.r.width=A.r.width∧A'.xs.length=A.xs.length∧(a'≠a→A'=A):=by
   by_cases e:a'=a∧j'=j
   ·rw [if_pos e] at h3
    cases hj:nth x.bU j' with
    |none=>simp [hj] at h3
    |some o=>cases o with
     |none=>simp [hj] at h3
     |some A=>simp [hj] at h3;subst h3;exact ⟨A,rfl,rfl,rfl,fun h=>absurd e.1 h⟩
   ·rw [if_neg e] at h3;exact ⟨A',h3,rfl,rfl,fun _=>rfl⟩
  obtain ⟨A,k1,k2,k3⟩:=key;refine ⟨A,?_,k2,k3⟩;unfold cO;rw [hx];have:Nat.beq x.ag g=true:=by rw [h2];exact Nat.beq_refl g
  simp [this,k1]
theorem Lw (st:St) (a j b g:Nat):fV (gZ st a j) b g=fV st b g:=by
 obtain ⟨f,hf,hn⟩:=kz st a j b;unfold fV;rw [hn]
 cases nth st b with
 |none=>rfl
 |some x=>obtain ⟨_,h2,h3,_⟩:=hf x;simp [h2,h3]
theorem Lx (st:St) (a j b:Nat):gP (gZ st a j) b=gP st b:=by
 obtain ⟨f,hf,hn⟩:=kz st a j b;unfold gP;rw [hn]
 cases nth st b with
 |none=>rfl
 |some x=>exact (hf x).2.2.2.1
theorem Ly (st:St) (a j b:Nat):j5 (gZ st a j) b=j5 st b:=by
 obtain ⟨f,hf,hn⟩:=kz st a j b;unfold j5;rw [hn]
 cases nth st b with
 |none=>rfl
 |some x=>exact (hf x).2.2.1
theorem Fw.gZ (c:Cz) (st:St) (w:World) (a j:Nat):Fw c st w (c.drop1 a j) (gZ st a j) w where
 stays:=⟨Nat.le_refl _,fun _ _ _=>rfl,fun _ _ h=>Cz.G2 h⟩
 refs a' j' g A' _ iB:=by
  obtain ⟨A,h1,h2,h3,h4⟩:=Lv iB;refine ⟨A,h1,h2,h3,rfl,fun he=>⟨?_,fun _ _ _ _=>rfl⟩⟩;rcases (FJ st a j a').2 he with e | e
  ·exact h4 e
  ·unfold cO at h1;rw [e] at h1;cases h1
 GY b g rZ _ h:=⟨⟨rZ,by rwa [Lw] at h⟩,rfl⟩
 gA b:=by rw [Lx];exact Nat.le_refl _
 gB b:=by rw [Ly];exact Nat.le_refl _
 gE b:=(FJ st a j b).1
theorem Rel.gZ {w0:World} {mu:Mu} {c:Cz} {st:St} {a:Act} {w:World} (h:Rel w0 mu c st a w) (s j:Nat):Rel w0 mu (c.drop1 s j) (gZ st s j) a w where
 jj t:=by rw [Lu];exact (Fw.gZ c st w s j).u6 (h.jj t)
 boxes b sl cs hs hb:=by
  obtain ⟨f,hf,hn⟩:=kz st s j b;rw [hn] at hs
  cases hx:nth st b with
  |none=>rw [hx] at hs;simp at hs
  |some x=>
   rw [hx] at hs;simp at hs;subst hs;rw [(hf x).2.1] at hb;have h0:=h.boxes b x cs hx hb;exact h0.go (Fw.gZ c st w s j) rfl (by rw [h0.1];exact Cz.u9 h0.1 (by simp)) rfl
 bU b i sl A hs hb:=by
  obtain ⟨f,hf,hn⟩:=kz st s j b;rw [hn] at hs
  cases hx:nth st b with
  |none=>rw [hx] at hs;simp at hs
  |some x=>
   rw [hx] at hs;simp at hs;subst hs;rw [(hf x).2.2.2.2.1 i] at hb
   by_cases e:b=s∧i=j
   ·rw [if_pos e] at hb
    cases hj:nth x.bU i with
    |none=>simp [hj] at hb
    |some o=>cases o with
     |none=>simp [hj] at hb
     |some B=>
      simp [hj] at hb;subst hb;have h0:=h.bU b i x B hx hj;unfold fJ at h0 ⊢;show match c.lc b i with | .nil=>_ | .at b off cap=>_
      cases hl:c.lc b i with
      |nil=>rw [hl] at h0;exact h0
      |«at» k off cap=>
       rw [hl] at h0;obtain ⟨h1,h2,h3,h4⟩:=h0;refine ⟨?_,h2,h3,?_⟩
       ·show (c.drop1 s j).own k=none
        cases ho:B.own with
        |true=>rw [ho] at h1;obtain ⟨rfl,rfl⟩:=e;exact Cz.MW h1
        |false=>rw [ho] at h1;exact Cz.G2 h1
       ·unfold ey at h4 ⊢;show match B.md.fz with | .sh=>_
        cases hm:B.md with
        |sh=>rw [hm] at h4;exact fun i x hi=>fH.stays (Fw.gZ c st w s j).stays _ _ _ x rfl (h4 i x hi)
   ·rw [if_neg e] at hb;have h0:=h.bU b i x A hx hb;refine h0.go (Fw.gZ c st w s j).stays rfl (fun k h1=>⟨rfl,?_⟩);rw [h1];exact Cz.u9 h1 (by rintro e';injection e' with e1 e2;exact e ⟨e1,e2⟩)
 owned b l hb:=h.owned b l (Cz.Pk hb)
 free b hb h1:=by
  cases hc:c.own b with
  |none=>exact h.free b hb hc
  |some l=>
   rcases (h.owned b l hc).2 with h2 | h2 | h2
   ·subst h2;unfold Cz.drop1 at h1;simp [hc] at h1
   ·omega
   ·exact .inl h2
 kept:=h.kept
 old:=h.old
 hZ p hp:=(Fw.gZ c st w s j).hZ (h.hZ p hp)
 plain:=h.plain
def Cz.drop (c:Cz):List (Nat×Nat)→Cz
 | []=>c
 |(a,j)::l=>(c.drop1 a j).drop l
theorem Rel.freeze {w0:World} {mu:Mu} {a:Act} {w:World}:(m:List (Nat×Nat))→{c:Cz}→{st:St}→Rel w0 mu c st a w→Rel w0 mu (c.drop m) (freeze st m) a w
 | [],_,_,h=>h
 |(s,j)::m,_,_,h=>Rel.freeze m (h.gZ s j)
theorem Cz.C9:(m:List (Nat×Nat))→(c:Cz)→(b:Nat)→c.ok b→(c.drop m).ok b
 | [],_,_,h=>h
 |(a,j)::m,c,b,h=>Cz.C9 m (c.drop1 a j) b (Cz.G2 h)
theorem Cz.GL:(m:List (Nat×Nat))→(c:Cz)→(b:Nat)→{a j:Nat}→c.own b=some (.sp a j)→(a,j)∈m→(c.drop m).ok b
 | [],_,_,_,_,_,h=>by simp at h
 |(a',j')::m,c,b,a,j,h,hm=>by
  by_cases e:a'=a∧j'=j
  ·obtain ⟨rfl,rfl⟩:=e;exact Cz.C9 m _ b (Cz.MW h)
  ·refine Cz.GL m (c.drop1 a' j') b (Cz.u9 h (by rintro e';injection e' with e1 e2;exact e ⟨e1.symm,e2.symm⟩)) ?_;rcases List.mem_cons.1 hm with h' | h'
   ·injection h' with e1 e2;exact absurd ⟨e1.symm,e2.symm⟩ e
   ·exact h'
theorem Cz.Q9:(m:List (Nat×Nat))→(c:Cz)→(c.drop m).lc=c.lc∧(c.drop m).bx=c.bx
 | [],_=>⟨rfl,rfl⟩
 |(a,j)::m,c=>Cz.Q9 m (c.drop1 a j)
theorem Cz.JM:(m:List (Nat×Nat))→(c:Cz)→(b:Nat)→{l:Lb}→c.own b=some l→(∀p∈m,l≠.sp p.1 p.2)→(c.drop m).own b=some l
 | [],_,_,_,h,_=>h
 |(a,j)::m,c,b,l,h,hm=>Cz.JM m (c.drop1 a j) b (Cz.u9 h (hm (a,j) (by simp))) (fun p hp=>hm p (by simp [hp]))
theorem Fw.trans {c c1 c2:Cz} {st G3 lV:St} {w w1 w2:World} (h:Fw c st w c1 G3 w1) (k:Fw c1 G3 w1 c2 lV w2):Fw c st w c2 lV w2 where
 stays:=⟨Nat.le_trans h.stays.size k.stays.size,fun b hb ho=>(k.stays.block b (Nat.lt_of_lt_of_le hb h.stays.size) (h.stays.ok b hb ho)).trans (h.stays.block b hb ho),
  fun b hb ho=>k.stays.ok b (Nat.lt_of_lt_of_le hb h.stays.size) (h.stays.ok b hb ho)⟩
 refs a j g A' hg iB:=by
  obtain ⟨A1,h1,h2,h3,h4,h5⟩:=k.refs a j g A' (Nat.le_trans hg (h.gA a)) iB;obtain ⟨A,k1,k2,k3,k4,k5⟩:=h.refs a j g A1 hg h1;refine ⟨A,k1,h2.trans k2,h3.trans k3,h4.trans k4,fun he => ?_⟩;have g1:=h.gE a;have g2:=k.gE a;obtain ⟨e1,e2⟩:=h5 (by omega);obtain ⟨e3,e4⟩:=k5 (by omega);exact ⟨e1.trans e3,fun b o cap hl=>(e2 b o cap (by rw [k4];exact hl)).trans (e4 b o cap hl)⟩
 GY b g rZ hg hb:=by
  obtain ⟨⟨cs1,h1⟩,h2⟩:=k.GY b g rZ (Nat.le_trans hg (h.gB b)) hb;obtain ⟨h3,h4⟩:=h.GY b g cs1 hg h1;exact ⟨h3,h2.trans h4⟩
 gA a:=Nat.le_trans (h.gA a) (k.gA a)
 gB b:=Nat.le_trans (h.gB b) (k.gB b)
 gE b:=Nat.le_trans (h.gE b) (k.gE b)
theorem Fw.refl (c:Cz) (st:St) (w:World):Fw c st w c st w:=⟨lk.refl w _,fun _ _ _ A' _ h=>⟨A',h,rfl,rfl,rfl,fun _=>⟨rfl,fun _ _ _ _=>rfl⟩⟩,fun _ _ rZ _ h=>⟨⟨rZ,h⟩,rfl⟩,fun _=>Nat.le_refl _,fun _=>Nat.le_refl _,fun _=>Nat.le_refl _⟩
theorem Fw.freeze (w:World):(m:List (Nat×Nat))→(c:Cz)→(st:St)→Fw c st w (c.drop m) (freeze st m) w
 | [],c,st=>Fw.refl c st w
 |(a,j)::m,c,st=>(Fw.gZ c st w a j).trans (Fw.freeze w m (c.drop1 a j) (TM.gZ st a j))
theorem Da {w0:World} {mu:Mu} {c:Cz} {st:St} {a:Act} {w:World} (h:Rel w0 mu c st a w):(r:RT)→(cs:List CV)→(us:List Value)→iQ c st w cs us→
  (k:aO r→List (Nat×Nat)→N)→{bQ:St}→(rowOf st r cs k).val=some bQ→
  ∃x m,(k x m).val=some bQ∧(∀p∈m,∃g A,cO st p.1 p.2 g=some A)∧
   ∀ok:Nat→Prop,(∀b,c.ok b→ok b)→(∀p∈m,∀b,c.own b=some (.sp p.1 p.2)→ok b)→eU w ok r us x
 |.nil,cs,us,hl,k,bQ,hv=>by
  cases cs with
  |cons _ _=>simp [rowOf,N.val] at hv
  |nil=>
   have:us=[]:=by have:=hl.1;simp at this;exact List.length_eq_zero_iff.1 this.symm
   subst this;exact ⟨(),[],hv,fun p hp=>by simp at hp,fun _ _ _=>rfl⟩
 |.cons t r,cs,us,hl,k,bQ,hv=>by
  cases cs with
  |nil=>cases t<;>simp [rowOf,N.val] at hv
  |cons y cs=>
   cases us with
   |nil=>have:=hl.1;simp at this
   |cons u us=>
    have hu:qd c st w y u:=hl.2 0 y u rfl rfl;have By:iQ c st w cs us:=⟨by have:=hl.1;simpa using this,fun i a b ha hb=>hl.2 (i+1) a b (by simpa using ha) (by simpa using hb)⟩;have plain:∀(d:den t),(∀ok:Nat→Prop,(∀b,c.ok b→ok b)→ev w ok t u d)→(rowOf st r cs (fun x m=>k (d,x) m)).val=some bQ→
      ∃x m,(k x m).val=some bQ∧(∀p∈m,∃g A,cO st p.1 p.2 g=some A)∧
       ∀ok:Nat→Prop,(∀b,c.ok b→ok b)→(∀p∈m,∀b,c.own b=some (.sp p.1 p.2)→ok b)→eU w ok (.cons t r) (u::us) x:=by
     intro d hd hv;obtain ⟨x,m,h1,h2,h3⟩:=Da h r cs us By _ hv;exact ⟨(d,x),m,h1,h2,fun ok ho hm=>⟨u,us,rfl,hd ok ho,h3 ok ho hm⟩⟩
    cases t with
    |int q=>
     cases y with
     |int l n=>
      simp only [rowOf] at hv
      by_cases e:q=l
      ·rw [if_pos e] at hv;exact plain n (fun ok _=>yh.2 (by rw [e];exact hu)) hv
      ·rw [if_neg e] at hv;simp [N.val] at hv
     |_=>simp [rowOf,N.val] at hv
    |bool=>
     cases y with
     |bool b=>exact plain b (fun ok _=>Bw.2 hu) (by simpa only [rowOf] using hv)
     |_=>simp [rowOf,N.val] at hv
    |str=>
     cases y with
     |str s=>exact plain s (fun ok _=>ED.2 hu) (by simpa only [rowOf] using hv)
     |_=>simp [rowOf,N.val] at hv
    |sl q=>
     cases y with
     |gw=>exact plain ([]:List (aO q)) (fun ok _=>(rf _ _ _ _ _).2 (.inl ⟨hu,rfl⟩)) (by simpa only [rowOf] using hv)
     |shr r' ys=>
      simp only [rowOf] at hv
      cases hc:ez q ys with
      |none=>simp [hc,N.val] at hv
      |some zs=>
       simp only [hc] at hv;obtain ⟨rfl,rfl⟩:=dm hc;exact plain _ (fun ok ho=>ev.stays ⟨Nat.le_refl _,fun _ _ _=>rfl,fun b _ hb=>ho b hb⟩ _ _ _ hu) hv
     |ref a' j g vw=>
      simp only [rowOf] at hv
      cases hA:cO st a' j g with
      |none=>simp [hA,N.val] at hv
      |some A=>
       simp only [hA] at hv;have Lt:A.md.Sa=false:=by cases A.md;rfl
       cases hc:ez q A.xs with
       |none=>simp [hc,N.val] at hv
       |some ys=>
        simp only [hc] at hv;obtain ⟨e,he⟩:=dm hc;subst e;simp only at he;subst he;obtain ⟨sl,JK,UI,JL⟩:=dK hA;have MU:=h.bU a' j sl A JK JL;obtain ⟨x,m,h1,h2,h3⟩:=Da h r cs us By _ hv;refine ⟨(vw.app A.xs,x),(a',j)::m,h1,fun p hp => ?_,fun ok ho hm=>⟨u,us,rfl,?_,h3 ok ho (fun p hp=>hm p (by simp [hp]))⟩⟩
        ·rcases List.mem_cons.1 hp with rfl | hp
         ·exact ⟨g,A,hA⟩
         ·exact h2 p hp
        ·exact C7 MU (hu.2.2 A hA) ho (fun k _ hk=>hm (a',j) (by simp) k hk) Lt
     |_=>simp [rowOf,N.val] at hv
end Go.TM
namespace Go.TM
open Go Go.RowKit
theorem B9 {cs l m:List CV} {off:Nat} (h:putCells cs off l=some m):off+l.length≤cs.length∧m=cs.take off++l++cs.drop (off+l.length):=by
 unfold putCells at h;obtain ⟨h1,h2⟩:=bJ h;exact ⟨Nat.le_of_ble_eq_true h1,(Option.some.inj h2).symm⟩
theorem iQ.fc {c:Cz} {st:St} {w:World} {cs l:List CV} {vs us:List Value} (h:iQ c st w cs vs) (hl:iQ c st w l us) (off:Nat) (hle:off+l.length≤cs.length) :
  iQ c st w (cs.take off++l++cs.drop (off+l.length)) (TM.fc vs off us):=by
 have e1:=h.1;have e2:=hl.1;refine ⟨by rw [oW (by omega)];simp;omega,fun i x v hx hv => ?_⟩;unfold TM.fc at hv;rw [List.getElem?_append,List.getElem?_append] at hx hv;simp only [List.length_append,List.length_take] at hx hv;have a1:min off cs.length=off:=by omega
 have a2:min off vs.length=off:=by omega
 rw [a1] at hx;rw [a2,←e2] at hv
 by_cases h1:i<off+l.length
 ·rw [if_pos h1] at hx hv
  by_cases h2:i<off
  ·rw [if_pos h2,List.getElem?_take,if_pos h2] at hx hv;exact h.2 i x v hx hv
  ·rw [if_neg h2] at hx hv;exact hl.2 _ x v hx hv
 ·rw [if_neg h1,List.getElem?_drop] at hx hv;exact h.2 _ x v hx hv
theorem Rel.Vb {w0:World} {mu:Mu} {c:Cz} {st:St} {a:Act} {w:World} (h:Rel w0 mu c st a w) {b:Nat} {s0:Sl} {cs l:List CV} {vs qX:Array Value} {ty:TypeId}
  (hs:nth st b=some s0) (hb:s0.box=some cs) (hg:w.heap[c.bx b]?=some (.cells vs ty (0,0))) (hl:iQ c st w l qX.toList) :
  Rel w0 mu c (sO (fun s=>{ s with box:=some l }) st b) a (w.setRow (c.bx b) qX):=by
 have lq:=(h.boxes b s0 cs hs hb).1;have hn:∀s,nth (sO (fun s=>{ s with box:=some l }) st b) s=if s=b then some { s0 with box:=some l } else nth st s:=by
  intro s;rw [lf]
  by_cases e:s=b
  ·subst e;simp [hs]
  ·simp [e]
 generalize sO (fun s=>{ s with box:=some l }) st b=bQ at hn ⊢;have x9:=yl (w:=w) lq qX;have ym:∀k,k≠c.bx b→(w.setRow (c.bx b) qX).heap[k]?=w.heap[k]?:=fun k hk=>setRow_other w _ k qX hk
 have lU:Fw c st w c bQ (w.setRow (c.bx b) qX):={
  stays:=x9
  refs:=fun a' j g A' _ iB=>by
   have Sj:cO st a' j g=some A':=by
    unfold cO at iB ⊢;rw [hn] at iB
    by_cases e:a'=b
    ·subst e;simpa [hs] using iB
    ·simpa [e] using iB
   refine ⟨A',Sj,rfl,rfl,rfl,fun _=>⟨rfl,fun k o cap hl=>ym k ?_⟩⟩;have ha:=h.JI Sj;unfold fJ at ha;rw [hl] at ha;intro e;subst e;obtain ⟨h1,_⟩:=ha;rw [lq] at h1
   cases ho:A'.own<;>simp [ho] at h1
  GY:=fun b' g rZ _ tX=>by
   refine ⟨?_,rfl⟩;unfold fV at tX ⊢;rw [hn] at tX
   by_cases e:b'=b
   ·subst e;simp only [if_true] at tX;obtain ⟨h1,_⟩:=bJ tX;exact ⟨cs,by simp [hs,h1,hb]⟩
   ·simp only [e,if_false] at tX;exact ⟨rZ,tX⟩
  gA:=fun a'=>by
   unfold gP;rw [hn]
   by_cases e:a'=b
   ·subst e;simp [hs]
   ·simp [e]
  gB:=fun a'=>by
   unfold j5;rw [hn]
   by_cases e:a'=b
   ·subst e;simp [hs]
   ·simp [e]
  gE:=fun a'=>by
   unfold wu;rw [hn]
   by_cases e:a'=b
   ·subst e;simp [hs]
   ·simp [e] }
 exact {
  jj:=fun t=>by
   have e1:dN bQ t=dN st t:=by
    unfold dN;rw [hn]
    by_cases e:t=b
    ·subst e;simp [hs]
    ·simp [e]
   rw [e1];exact lU.u6 (h.jj t)
  boxes:=fun s sl rZ Db tX=>by
   rw [hn] at Db
   by_cases e:s=b
   ·subst e;simp only [if_true,Option.some.injEq] at Db;subst Db;simp only [Option.some.injEq] at tX;subst tX;exact ⟨lq,qX,ty,setRow_heap w _ vs qX ty (0,0) hg,lU.Yz hl⟩
   ·simp only [e,if_false] at Db;have h0:=h.boxes s sl rZ Db tX;refine h0.go lU rfl rfl (ym _ ?_);intro e';have:=h0.1;rw [e',lq] at this;injection this with this;injection this with this;exact e this.symm
  bU:=fun s j sl A Db iB=>by
   rw [hn] at Db;have ha:fJ c w s j A:=by
    by_cases e:s=b
    ·subst e;simp only [if_true,Option.some.injEq] at Db;subst Db;exact h.bU s j s0 A hs iB
    ·simp only [e,if_false] at Db;exact h.bU s j sl A Db iB
   refine ha.go x9 rfl (fun k h1=>⟨ym k ?_,rfl⟩);intro e;subst e;rw [lq] at h1
   cases h1
  owned:=fun k l hk=>by
   have:=h.owned k l hk;exact ⟨by simpa [World.setRow] using this.1,this.2⟩
  free:=h.free
  kept:=⟨h.kept.1,h.kept.2.1,h.kept.2.2.1,by simpa [World.setRow] using h.kept.2.2.2⟩
  old:=fun k hk hm=>by
   rw [ym k (fun e=>by
    have:=(h.owned _ _ lq).2;rcases this with this | this | this
    ·cases this
    ·subst e;omega
    ·subst e;exact hm this)]
   exact h.old k hk hm
  hZ:=fun p hp=>lU.hZ (h.hZ p hp)
  plain:=h.plain }
theorem Rel.Sk {w0:World} {mu:Mu} {c:Cz} {st:St} {a:Act} {w:World} (h:Rel w0 mu c st a w) {s j:Nat} {s0:Sl} {A:nu} {b off cap:Nat} {cur qX:Array Value} {ty:TypeId}
  {md':Md} {ys:List (aO A.r)} (hs:nth st s=some s0) (hA:nth s0.bU j=some (some A)) (lq:A.own=true) (np:c.lc s j=.at b off cap)
  (hg:w.heap[b]?=some (.cells cur ty (0,0))) (py:qX.size=cur.size) (hlen:ys.length=A.xs.length)
  (w6:ey c (w.setRow b qX) (.sp s j) { A with xs:=ys,md:=md' } b off) :
  Rel w0 mu c (fk st s j (some { A with xs:=ys,md:=md' })) a (w.setRow b qX):=by
 have h0:=h.bU s j s0 A hs hA;unfold fJ at h0;rw [np] at h0;obtain ⟨h1,h2,⟨ahr,ty0,h3,h4⟩,h5⟩:=h0;rw [lq] at h1;have hc0:ahr=cur:=by rw [hg] at h3;injection h3 with h3;injection h3 with h3;exact h3.symm
 subst hc0;have hn:∀k,nth (fk st s j (some { A with xs:=ys,md:=md' })) k=if k=s then some { s0 with bU:=sO (fun _=>some { A with xs:=ys,md:=md' }) s0.bU j,ep:=s0.ep+1 } else nth st k:=by
  intro k;unfold fk;rw [lf]
  by_cases e:k=s
  ·subst e;simp [hs]
  ·simp [e]
 generalize fk st s j (some { A with xs:=ys,md:=md' })=bQ at hn ⊢;have x9:=yl (w:=w) h1 qX;have ym:∀k,k≠b→(w.setRow b qX).heap[k]?=w.heap[k]?:=fun k hk=>setRow_other w _ k qX hk
 have lU:Fw c st w c bQ (w.setRow b qX):={
  stays:=x9
  refs:=fun a' j' g A' _ iB=>by
   obtain ⟨sl,k1,k2,k3⟩:=dK iB;rw [hn] at k1
   by_cases e:a'=s
   ·subst e;simp only [if_true,Option.some.injEq] at k1;subst k1;simp only at k2 k3;rw [lf] at k3
    by_cases e2:j'=j
    ·subst e2;rw [if_pos rfl,hA] at k3;simp only [Option.map_some,Option.some.injEq] at k3;subst k3;refine ⟨A,?_,rfl,hlen,rfl,fun he => ?_⟩
     ·unfold cO;rw [hs];have:Nat.beq s0.ag g=true:=by rw [k2];exact Nat.beq_refl g
      simp [this,hA]
     ·unfold wu at he;rw [hn,if_pos rfl,hs] at he;simp at he
    ·rw [if_neg e2] at k3;refine ⟨A',?_,rfl,rfl,rfl,fun he => ?_⟩
     ·unfold cO;rw [hs];have:Nat.beq s0.ag g=true:=by rw [k2];exact Nat.beq_refl g
      simp [this,k3]
     ·unfold wu at he;rw [hn,if_pos rfl,hs] at he;simp at he
   ·rw [if_neg e] at k1;have Sj:cO st a' j' g=some A':=by
     unfold cO;rw [k1];have:Nat.beq sl.ag g=true:=by rw [k2];exact Nat.beq_refl g
     simp [this,k3]
    refine ⟨A',Sj,rfl,rfl,rfl,fun _=>⟨rfl,fun k o at4 hl=>ym k ?_⟩⟩;have ha:=h.JI Sj;unfold fJ at ha;rw [hl] at ha
    rintro rfl
    obtain ⟨g1,_⟩:=ha;rw [h1] at g1
    cases ho:A'.own with
    |true=>simp [ho] at g1;exact e g1.1.symm
    |false=>simp [ho] at g1
  GY:=fun b' g rZ _ tX=>by
   refine ⟨⟨rZ,?_⟩,rfl⟩;unfold fV at tX ⊢;rw [hn] at tX
   by_cases e:b'=s
   ·subst e;simpa [hs] using tX
   ·simpa [e] using tX
  gA:=fun a'=>by
   unfold gP;rw [hn]
   by_cases e:a'=s
   ·subst e;simp [hs]
   ·simp [e]
  gB:=fun a'=>by
   unfold j5;rw [hn]
   by_cases e:a'=s
   ·subst e;simp [hs]
   ·simp [e]
  gE:=fun a'=>by
   unfold wu;rw [hn]
   by_cases e:a'=s
   ·subst e;simp [hs]
   ·simp [e] }
 exact {
  jj:=fun t=>by
   have e1:dN bQ t=dN st t:=by
    unfold dN;rw [hn]
    by_cases e:t=s
    ·subst e;simp [hs]
    ·simp [e]
   rw [e1];exact lU.u6 (h.jj t)
  boxes:=fun k sl rZ Db tX=>by
   rw [hn] at Db;have G4:Ap c st w k rZ:=by
    by_cases e:k=s
    ·subst e;simp only [if_true,Option.some.injEq] at Db;subst Db;exact h.boxes k s0 rZ hs tX
    ·simp only [e,if_false] at Db;exact h.boxes k sl rZ Db tX
   refine G4.go lU rfl rfl (ym _ ?_);intro e;have:=G4.1;rw [e,h1] at this;simp at this
  bU:=fun k i sl B Db hB=>by
   rw [hn] at Db
   by_cases e:k=s∧i=j
   ·obtain ⟨rfl,rfl⟩:=e;simp only [if_true,Option.some.injEq] at Db;subst Db;simp only at hB;rw [lf,if_pos rfl,hA] at hB;simp only [Option.map_some,Option.some.injEq] at hB;subst hB;unfold fJ;rw [np];refine ⟨by rw [lq];exact h1,by simp only;rw [hlen];exact h2,⟨qX,ty,setRow_heap w b ahr qX ty (0,0) hg,by simp only;rw [py];exact h4⟩,w6⟩
   ·have ha:fJ c w k i B:=by
     by_cases e2:k=s
     ·subst e2;simp only [if_true,Option.some.injEq] at Db;subst Db;simp only at hB;rw [lf,if_neg (fun e3=>e ⟨rfl,e3⟩)] at hB;exact h.bU k i s0 B hs hB
     ·rw [if_neg e2] at Db;exact h.bU k i sl B Db hB
    refine ha.go x9 rfl (fun k' g1=>⟨ym k' ?_,rfl⟩)
    rintro rfl
    rw [h1] at g1;simp at g1;exact e ⟨g1.1.symm,g1.2.symm⟩
  owned:=fun k l hk=>by
   have:=h.owned k l hk;exact ⟨by simpa [World.setRow] using this.1,this.2⟩
  free:=h.free
  kept:=⟨h.kept.1,h.kept.2.1,h.kept.2.2.1,by simpa [World.setRow] using h.kept.2.2.2⟩
  old:=fun k hk hm=>by
   rw [ym k (fun e=>by
    have:=(h.owned _ _ h1).2;rcases this with this | this | this
    ·cases this
    ·subst e;omega
    ·subst e;exact hm this)]
   exact h.old k hk hm
  hZ:=fun p hp=>lU.hZ (h.hZ p hp)
  plain:=h.plain }
theorem Rel.MY {w0:World} {mu:Mu} {c:Cz} {st:St} {a:Act} {w:World} (h:Rel w0 mu c st a w) {s j:Nat} {s0:Sl} {A:nu} {b off cap:Nat} {cur qX:Array Value} {ty:TypeId}
  {ys:List (aO A.r)} (hs:nth st s=some s0) (hA:nth s0.bU j=some (some A)) (lq:A.own=true) (np:c.lc s j=.at b off cap)
  (hg:w.heap[b]?=some (.cells cur ty (0,0))) (py:qX.size=cur.size) (hlen:ys.length=A.xs.length)
  (w6:ey c (w.setRow b qX) (.sp s j) { A with xs:=ys } b off) :
  Rel w0 mu c (fk st s j (some { A with xs:=ys })) a (w.setRow b qX):=h.Sk hs hA lq np hg py hlen w6
end Go.TM
namespace Go.TM
open Go Go.RowKit
theorem Dc:(r:RT)→(x:aO r)→(k:Nat)→(y:CV)→{z:aO r}→oK r x k y=some z→k<r.width
 |.nil,_,_,_,_,h=>by simp [oK] at h
 |.cons t r,x,0,y,z,_=>by simp [RT.width]
 |.cons t r,x,k+1,y,z,h=>by
  have h':(oK r x.2 k y).map (fun z=>((x.1,z):aO (.cons t r)))=some z:=by cases t<;>(simp only [oK] at h;exact h)
  cases hq:oK r x.2 k y with
  |none=>rw [hq] at h';cases h'
  |some z'=>have:=Dc r x.2 k y hq;simp [RT.width];omega
theorem Dd (r:RT) (x:aO r):(off:Nat)→(cs:List CV)→{z:aO r}→u4 r x off cs=some z→cs≠[]→off+cs.length≤r.width
 |_,[],_,_,h=>absurd rfl h
 |off,y::l,z,h,_=>by
  simp only [u4] at h
  cases hq:u4 r x (off+1) l with
  |none=>simp [hq] at h
  |some y'=>
   simp only [hq] at h;have h1:=Dc r y' off y h
   cases l with
   |nil=>simp;omega
   |cons y2 l2=>have:=Dd r x (off+1) (y2::l2) hq (by simp);simp at this ⊢;omega
theorem vd {vs us:List Value} {off k:Nat} (hle:off+us.length≤vs.length):(fc vs off us)[k]?=if off≤k∧k<off+us.length then us[k-off]? else vs[k]?:=by
 unfold fc;simp only [List.getElem?_append,List.length_append,List.length_take,List.getElem?_take,List.getElem?_drop];have a1:min off vs.length=off:=by omega
 rw [a1]
 by_cases h1:k<off
 ·rw [if_pos (by omega),if_pos h1,if_pos h1,if_neg (by omega)]
 ·by_cases h2:k<off+us.length
  ·rw [if_pos h2,if_neg h1,if_pos ⟨by omega,h2⟩]
  ·rw [if_neg h2,if_neg (by omega)]
   congr 1
   omega
theorem G5:(m:List (Nat×Nat))→{st:St}→{a j:Nat}→{sl:Sl}→{A:nu}→nth st a=some sl→nth sl.bU j=some (some A)→(a,j)∉m→
  ∃sl',nth (freeze st m) a=some sl'∧nth sl'.bU j=some (some A)
 | [],_,_,_,sl,_,h1,h2,_=>⟨sl,h1,h2⟩
 |(b,i)::m,st,a,j,sl,A,h1,h2,hm=>by
  rw [MX];obtain ⟨f,hf,hn⟩:=kz st b i a;refine G5 m (sl:=f sl) (A:=A) (by rw [hn,h1];rfl) ?_ (fun h=>hm (by simp [h]));rw [(hf sl).2.2.2.2.1 j,if_neg]
  ·exact h2
  ·rintro ⟨rfl,rfl⟩;exact hm (by simp)
theorem De {c:Cz} {w:World} {b off:Nat} {r:RT} {xs:List (aO r)} {cur:Array Value} {ty:TypeId} {l:Lb} (lq:c.own b=some l)
  (hg:w.heap[b]?=some (.cells cur ty (0,0))) (w6:∀(i:Nat) x,xs[i]?=some x→fH w c.ok r b (off+i*r.width) x)
  {i k:Nat} {x y:aO r} {us:List Value} (hx:xs[i]?=some x) (hle:k+us.length≤r.width) (py:off+i*r.width+r.width≤cur.size)
  (hy:∀vs,eU w c.ok r vs x→eU w c.ok r (fc vs k us) y) :
  ∀(i':Nat) x',(xs.set i y)[i']?=some x'→fH (w.setRow b (fc cur.toList (off+i*r.width+k) us).toArray) c.ok r b (off+i'*r.width) x':=by
 have x9:=yl (w:=w) lq (fc cur.toList (off+i*r.width+k) us).toArray;have hg':=setRow_heap w b cur (fc cur.toList (off+i*r.width+k) us).toArray ty (0,0) hg;have Ra:∀q,(w.setRow b (fc cur.toList (off+i*r.width+k) us).toArray).cell? ⟨b,q,none⟩=
   if off+i*r.width+k≤q∧q<off+i*r.width+k+us.length then us[q-(off+i*r.width+k)]? else w.cell? ⟨b,q,none⟩:=by
  intro q;rw [cell_of_row _ b q _ ty (0,0) hg',cell_of_row w b q cur ty (0,0) hg];simp only [List.getElem?_toArray];rw [vd (by simp;omega)];simp
 intro i' x' Q8;rw [List.getElem?_set] at Q8
 by_cases e:i=i'
 ·subst e;rw [if_pos rfl] at Q8;have hi:i<xs.length:=(List.getElem?_eq_some_iff.1 hx).1;rw [if_pos hi] at Q8;obtain rfl:=Option.some.inj Q8;obtain ⟨vs,h1,h2⟩:=(qf r b _ x).1 (w6 i x hx);have MM:=eU.length r vs x h2;refine (qf r b _ y).2 ⟨fc vs k us,fun q v hv => ?_,eU.stays x9 r _ y (hy vs h2)⟩;rw [vd (by omega)] at hv;rw [Ra]
  by_cases hq:k≤q∧q<k+us.length
  ·rw [if_pos hq] at hv;rw [if_pos (by omega),show off+i*r.width+q-(off+i*r.width+k)=q-k by omega];exact hv
  ·rw [if_neg hq] at hv;rw [if_neg (by omega)];exact h1 q v hv
 ·rw [if_neg e] at Q8;obtain ⟨vs,h1,h2⟩:=(qf r b _ x').1 (w6 i' x' Q8);have MM:=eU.length r vs x' h2;refine (qf r b _ x').2 ⟨vs,fun q v hv => ?_,eU.stays x9 r _ x' h2⟩;have hq:q<r.width:=by rw [←MM];exact (List.getElem?_eq_some_iff.1 hv).1
  rw [Ra,if_neg]
  ·exact h1 q v hv
  ·rintro ⟨g1,g2⟩
   rcases Nat.lt_or_gt_of_ne e with h | h
   ·have:(i+1)*r.width≤i'*r.width:=Nat.mul_le_mul_right _ h;rw [Nat.add_mul] at this;omega
   ·have:(i'+1)*r.width≤i*r.width:=Nat.mul_le_mul_right _ h;rw [Nat.add_mul] at this;omega
end Go.TM
namespace Go.TM
open Go Go.RowKit
def RdS (w:World) (ok:Nat→Prop) (r:RT) (u:Value) (ys:List (aO r)):Prop:=
 (u=.slice none 0 0∧ys=[])∨∃a cap,u=.slice (some a) ys.length cap∧(ys≠[]→a.spot=none)∧∀(i:Nat) y,ys[i]?=some y→fH w ok r a.block (a.off+i*r.width) y
def cq (w:World) (ok:Nat→Prop) (r:RT):List Value→List (aO r)→Prop
 |vs,[]=>vs=[]
 |vs,x::xs=>∃l1 l2,vs=l1++l2∧eU w ok r l1 x∧cq w ok r l2 xs
theorem cq.length {w:World} {ok:Nat→Prop} {r:RT}:(vs:List Value)→(xs:List (aO r))→cq w ok r vs xs→vs.length=xs.length*r.width
 |vs,[],h=>by simp only [cq] at h;subst h;simp
 |vs,x::xs,h=>by
  obtain ⟨l1,l2,rfl,h1,h2⟩:=h;have a1:=eU.length r l1 x h1;have a2:=cq.length l2 xs h2;simp [a1,a2,Nat.add_mul];omega
theorem cq.stays {w w':World} {ok C5:Nat→Prop} (h:lk w w' ok C5) {r:RT}:(vs:List Value)→(xs:List (aO r))→cq w ok r vs xs→cq w' C5 r vs xs
 |_,[],hr=>hr
 |_,x::xs,⟨l1,l2,e,h1,h2⟩=>⟨l1,l2,e,eU.stays h r l1 x h1,cq.stays h l2 xs h2⟩
theorem cq.append {w:World} {ok:Nat→Prop} {r:RT}:(vs us:List Value)→(xs ys:List (aO r))→cq w ok r vs xs→cq w ok r us ys→cq w ok r (vs++us) (xs++ys)
 |vs,us,[],ys,h,k=>by simp only [cq] at h;subst h;simpa using k
 |vs,us,x::xs,ys,⟨l1,l2,e,h1,h2⟩,k=>⟨l1,l2++us,by rw [e,List.append_assoc],h1,cq.append l2 us xs ys h2 k⟩
theorem cq.one {w:World} {ok:Nat→Prop} {r:RT} {vs:List Value} {x:aO r} (h:eU w ok r vs x):cq w ok r vs [x]:=⟨vs,[],by simp,h,rfl⟩
theorem pN {w:World} {ok:Nat→Prop} {r:RT} (b:Nat):(off:Nat)→(xs:List (aO r))→(∀(i:Nat) x,xs[i]?=some x→fH w ok r b (off+i*r.width) x)→
  ∃vs,w.rangeAt b off vs∧cq w ok r vs xs
 |_,[],_=>⟨[],fun j v h=>by simp at h,rfl⟩
 |off,x::xs,h=>by
  obtain ⟨l1,h1,h2⟩:=(qf r b off x).1 (by have:=h 0 x rfl;simpa using this);obtain ⟨l2,h3,h4⟩:=pN b (off+r.width) xs (fun i y hy=>by
   have:=h (i+1) y (by simpa using hy);rw [Nat.add_mul,Nat.one_mul] at this;rw [show off+r.width+i*r.width=off+(i*r.width+r.width) by omega];exact this)
  have hl:=eU.length r l1 x h2;refine ⟨l1++l2,fun j v hv => ?_,l1,l2,rfl,h2,h4⟩;rw [List.getElem?_append] at hv
  by_cases hj:j<l1.length
  ·rw [if_pos hj] at hv;exact h1 j v hv
  ·rw [if_neg hj] at hv;have:=h3 _ v hv;rw [show off+r.width+(j-l1.length)=off+j by omega] at this;exact this
theorem wE {w:World} {ok:Nat→Prop} {r:RT} {b:Nat}:(off:Nat)→(vs:List Value)→(xs:List (aO r))→cq w ok r vs xs→w.rangeAt b off vs→
  ∀(i:Nat) x,xs[i]?=some x→fH w ok r b (off+i*r.width) x
 |_,_,[],_,_,i,x,h=>by simp at h
 |off,vs,y::xs,⟨l1,l2,e,h1,h2⟩,hr,i,x,h=>by
  subst e;have hl:=eU.length r l1 y h1
  cases i with
  |zero=>
   simp at h;subst h;rw [qf];refine ⟨l1,fun j v hv => ?_,h1⟩;have hj:j<l1.length:=(List.getElem?_eq_some_iff.1 hv).1;have:=hr j v (by rw [List.getElem?_append,if_pos hj];exact hv);simpa using this
  |succ i=>
   have:=wE (off+r.width) l2 xs h2 (fun j v hv=>by
    have:=hr (l1.length+j) v (by rw [List.getElem?_append,if_neg (by omega)];simpa using hv);rw [show off+r.width+j=off+(l1.length+j) by omega];exact this) i x (by simpa using h)
   rw [Nat.add_mul,Nat.one_mul];rw [show off+(i*r.width+r.width)=off+r.width+i*r.width by omega];exact this
theorem ev.one {w:World} {ok:Nat→Prop} {t:Ty} {v:Value} {x:den t} (h:ev w ok t v x):v.oneCell'=true:=by
 cases t with
 |int k=>rw [yh.1 h];rfl
 |bool=>rw [Bw.1 h];rfl
 |str=>rw [ED.1 h];rfl
 |sl r=>
  rcases (rf w ok r v x).1 h with ⟨rfl,_⟩ | ⟨a,cap,rfl,_⟩<;>rfl
theorem eU.one {w:World} {ok:Nat→Prop}:(r:RT)→(vs:List Value)→(x:aO r)→eU w ok r vs x→∀v∈vs,v.oneCell'=true
 |.nil,vs,_,h,v,hv=>by simp only [eU] at h;subst h;simp at hv
 |.cons t r,vs,x,⟨u,l,e,hx,hr⟩,v,hv=>by
  subst e;rcases List.mem_cons.1 hv with rfl | hv
  ·exact hx.one
  ·exact eU.one r l x.2 hr v hv
theorem cq.mX {w:World} {ok:Nat→Prop} {r:RT}:(vs:List Value)→(xs:List (aO r))→cq w ok r vs xs→∀v∈vs,v.oneCell'=true
 |vs,[],h,v,hv=>by simp only [cq] at h;subst h;simp at hv
 |vs,x::xs,⟨l1,l2,e,h1,h2⟩,v,hv=>by
  subst e;rcases List.mem_append.1 hv with hv | hv
  ·exact eU.one r l1 x h1 v hv
  ·exact cq.mX l2 xs h2 v hv
theorem FK {w0:World} {mu:Mu} {c:Cz} {st:St} {a:Act} {w:World} (h:Rel w0 mu c st a w) {r:RT} {x:CV} {u:Value} (hx:qd c st w x u)
  {k:List (aO r)→N} {bQ:St} (hv:(oV st r x k).val=some bQ):∃ys,(k ys).val=some bQ∧RdS w c.ok r u ys:=by
 cases x with
 |shr r' xs=>
  simp only [oV] at hv
  cases hc:ez r xs with
  |none=>simp [hc,N.val] at hv
  |some ys=>
   simp only [hc] at hv;obtain ⟨rfl,rfl⟩:=dm hc;refine ⟨_,hv,?_⟩;rcases (rf _ _ _ _ _).1 hx with h1 | ⟨a',cap,h1,h2,h3,h4⟩
   ·exact .inl h1
   ·exact .inr ⟨a',cap,h1,fun lO=>(h3 lO).1,h4⟩
 |nn r' xs=>
  simp only [oV] at hv
  cases hc:ez r xs with
  |none=>simp [hc,N.val] at hv
  |some ys=>
   simp only [hc] at hv;obtain ⟨rfl,rfl⟩:=dm hc;refine ⟨_,hv,?_⟩;rcases (rf _ _ _ _ _).1 hx.1 with h1 | ⟨a',cap,h1,h2,h3,h4⟩
   ·exact .inl h1
   ·exact .inr ⟨a',cap,h1,fun lO=>(h3 lO).1,h4⟩
 |gw=>exact ⟨[],by simpa only [oV] using hv,.inl ⟨hx,rfl⟩⟩
 |ref a' j g vw=>
  simp only [oV] at hv
  cases hA:cO st a' j g with
  |none=>simp [hA,N.val] at hv
  |some A=>
   simp only [hA] at hv;have Lt:A.md=.sh:=by cases A.md;rfl
   cases hc:ez r A.xs with
   |none=>simp [hc,N.val] at hv
   |some ys=>
    simp only [hc] at hv;obtain ⟨e,he⟩:=dm hc;subst e;simp only at he;subst he;obtain ⟨sl,JK,UI,JL⟩:=dK hA;have MU:=h.bU a' j sl A JK JL;refine ⟨vw.app A.xs,hv,?_⟩;clear hv;have hs:=hx.2.2 A hA
    cases hl:c.lc a' j with
    |nil=>
     unfold qW at hs;rw [hl] at hs;exact .inl ⟨hs.1,List.length_eq_zero_iff.1 hs.2⟩
    |«at» b off cap=>
     unfold qW at hs;rw [hl] at hs;obtain ⟨ad,k',rfl,hk,C8,ha⟩:=hs;unfold fJ at MU;rw [hl] at MU;obtain ⟨_,_,_,h5⟩:=MU;have lO:vw.app A.xs≠[]→k'≠0:=by
      intro lO;have:=List.length_pos_iff.2 lO;omega
     refine .inr ⟨ad,k',rfl,fun h=>by rw [ha (lO h)],fun i y hy => ?_⟩;have hk0:k'≠0:=lO (by intro e;rw [e] at hy;simp at hy);rw [ha hk0];have:=(ey.sh Lt).1 h5 _ y (View.Bx vw A.xs hy);have e:off+vw.lo*A.r.width+i*A.r.width=off+(vw.lo+i)*A.r.width:=by rw [Nat.add_mul];omega
     show fH w c.ok A.r b (off+vw.lo*A.r.width+i*A.r.width) y;rw [e];exact this
 |_=>simp [oV,N.val] at hv
theorem Rel.place {w0:World} {mu:Mu} {c c':Cz} {st:St} {a:Act} {w w':World} (h:Rel w0 mu c st a w) {d B:Nat} {s0:Sl} {A:nu} {v:Value}
  (mY:nth st d=some s0) (hd:d<a.tmps.size)
  (G4:c'.bx=c.bx) (np:∀s j,¬(s=d∧j=0)→c'.lc s j=c.lc s j) (lq:∀k,k≠B→c'.own k=c.own k)
  (hoB:c'.own B=some (.sp d 0)∨(c'.own B=c.own B∧w'.heap[B]?=w.heap[B]?))
  (hB:w.heap.size≤B∨∃s j,c.own B=some (.sp s j)∧(s=d∨∀sl A,nth st s=some sl→nth sl.bU j≠some (some A)))
  (hBn:c'.own B=some (.sp d 0)→B<w'.heap.size)
  (hw:∀k,k<w.heap.size→k≠B→w'.heap[k]?=w.heap[k]?) (xA:w'.os=w.os∧w'.tape=w.tape∧w'.output=w.output∧w.heap.size≤w'.heap.size)
  (hA:fJ c' w' d 0 A) (G6:v.oneCell'=true) (hv:qW (c'.lc d 0) A.r.width 0 A.xs.length v) :
  Rel w0 mu c' (sO (fun s=>{ s with v:=.one (.ref d 0 (s0.ag+1) .full),bU:=[some A],ag:=s0.ag+1 }) st d) (a.put (some d) v) w':=by
 have hn:∀s,nth (sO (fun s=>{ s with v:=.one (.ref d 0 (s0.ag+1) .full),bU:=[some A],ag:=s0.ag+1 }) st d) s=
   if s=d then some { s0 with v:=.one (.ref d 0 (s0.ag+1) .full),bU:=[some A],ag:=s0.ag+1 } else nth st s:=by
  intro s;rw [lf]
  by_cases e:s=d
  ·subst e;simp [mY]
  ·simp [e]
 generalize sO (fun s=>{ s with v:=.one (.ref d 0 (s0.ag+1) .full),bU:=[some A],ag:=s0.ag+1 }) st d=bQ at hn ⊢;have hnB:∀k,k<w.heap.size→c.ok k→k≠B:=by
  rintro k hk iP rfl
  rcases hB with hB | ⟨s,j,hB,_⟩
  ·omega
  ·unfold Cz.ok at iP;rw [hB] at iP;cases iP
 have x9:lk w w' c.ok c'.ok:=⟨xA.2.2.2,fun k hk iP=>hw k hk (hnB k hk iP),fun k hk iP=>by unfold Cz.ok;rw [lq k (hnB k hk iP)];exact iP⟩;have lU:Fw c st w c' bQ w':={
  stays:=x9
  refs:=fun a' j g A' hg iB=>by
   by_cases e:a'=d
   ·subst e;obtain ⟨sl,k1,k2,k3⟩:=dK iB;rw [hn,if_pos rfl] at k1;obtain rfl:=Option.some.inj k1;simp only at k2;unfold gP at hg;rw [mY] at hg;simp only at hg;omega
   ·have Sj:cO st a' j g=some A':=by
     unfold cO at iB ⊢;rw [hn,if_neg e] at iB;exact iB
    refine ⟨A',Sj,rfl,rfl,np a' j (fun h=>e h.1),fun _=>⟨rfl,fun k off cap hl => ?_⟩⟩;have ha:=h.JI Sj;have dM:=ha.lt hl;unfold fJ at ha;rw [hl] at ha;obtain ⟨g1,_⟩:=ha;refine hw k dM ?_
    rintro rfl
    rcases hB with hB | ⟨s',j',hB,Vc⟩
    ·omega
    ·rw [hB] at g1
     cases ho:A'.own with
     |true=>
      simp [ho] at g1;obtain ⟨rfl,rfl⟩:=g1;obtain ⟨sl,q1,_,q3⟩:=dK Sj;rcases Vc with Vc | Vc
      ·exact e Vc
      ·exact Vc sl A' q1 q3
     |false=>simp [ho] at g1
  GY:=fun b' g rZ _ tX=>by
   refine ⟨⟨rZ,?_⟩,by rw [G4]⟩;unfold fV at tX ⊢;rw [hn] at tX
   by_cases e:b'=d
   ·subst e;simpa [mY] using tX
   ·simpa [e] using tX
  gA:=fun a'=>by
   unfold gP;rw [hn]
   by_cases e:a'=d
   ·subst e;simp [mY]
   ·simp [e]
  gB:=fun a'=>by
   unfold j5;rw [hn]
   by_cases e:a'=d
   ·subst e;simp [mY]
   ·simp [e]
  gE:=fun a'=>by
   unfold wu;rw [hn]
   by_cases e:a'=d
   ·subst e;simp [mY]
   ·simp [e] }
 exact {
  jj:=fun t=>by
   have e1:dN bQ t=if t=d then .one (.ref d 0 (s0.ag+1) .full) else dN st t:=by
    unfold dN;rw [hn]
    by_cases e:t=d<;>simp [e]
   rw [e1,eval_put]
   by_cases e:t=d
   ·subst e;simp only [if_true,true_and,hd];refine ⟨G6,?_,fun A' iB => ?_⟩
    ·unfold gP;rw [hn];simp
    ·obtain ⟨sl,k1,k2,k3⟩:=dK iB;rw [hn,if_pos rfl] at k1;obtain rfl:=Option.some.inj k1;simp [nth] at k3;subst k3;exact hv
   ·simp only [e,if_false];rw [if_neg (fun h=>e (Option.some.inj h.1).symm)];exact lU.u6 (h.jj t)
  boxes:=fun s sl rZ hs hb=>by
   rw [hn] at hs;have aaV:Ap c st w s rZ:=by
    by_cases e:s=d
    ·subst e;rw [if_pos rfl] at hs;obtain rfl:=Option.some.inj hs;exact h.boxes s s0 rZ mY hb
    ·rw [if_neg e] at hs;exact h.boxes s sl rZ hs hb
   have dM:=h.yj aaV.1;have lO:c.bx s≠B:=by
    intro e;rcases hB with hB | ⟨s',j,hB,_⟩
    ·omega
    ·rw [←e,aaV.1] at hB;cases hB
   exact aaV.go lU (by rw [G4]) (lq _ lO) (hw _ dM lO)
  bU:=fun s j sl A' hs iB=>by
   rw [hn] at hs
   by_cases e:s=d
   ·subst e;rw [if_pos rfl] at hs;obtain rfl:=Option.some.inj hs
    cases j with
    |zero=>simp [nth] at iB;subst iB;exact hA
    |succ j=>simp [nth] at iB
   ·rw [if_neg e] at hs;have ha:=h.bU s j sl A' hs iB;refine ha.go x9 (np s j (fun h=>e h.1)) (fun k g1 => ?_);have dM:k<w.heap.size:=h.yj g1;have lO:k≠B:=by
     rintro rfl
     rcases hB with hB | ⟨s',j',hB,Vc⟩
     ·omega
     ·rw [hB] at g1;simp at g1;obtain ⟨rfl,rfl⟩:=g1;rcases Vc with Vc | Vc
      ·exact e Vc
      ·exact Vc sl A' hs iB
    exact ⟨hw k dM lO,lq k lO⟩
  owned:=fun b l hb=>by
   by_cases e:b=B
   ·subst e;rcases hoB with hoB | ⟨hoB,_⟩
    ·refine ⟨hBn hoB,?_⟩;rcases hB with hB | ⟨s',j',hB,_⟩
     ·exact .inr (.inl (Nat.le_trans h.kept.2.2.2 hB))
     ·rcases (h.owned _ _ hB).2 with h2 | h2
      ·cases h2
      ·exact .inr h2
    ·rw [hoB] at hb;have:=h.owned b l hb;exact ⟨Nat.lt_of_lt_of_le this.1 xA.2.2.2,this.2⟩
   ·rw [lq b e] at hb;have:=h.owned b l hb;exact ⟨Nat.lt_of_lt_of_le this.1 xA.2.2.2,this.2⟩
  free:=fun b hb h1=>by
   by_cases e:b=B
   ·subst e;rcases hB with hB | ⟨s',j',hB,_⟩
    ·have:=h.kept.2.2.2;omega
    ·rcases (h.owned _ _ hB).2 with h2 | h2 | h2
     ·cases h2
     ·omega
     ·exact .inl h2
   ·rw [lq b e] at h1;exact h.free b hb h1
  kept:=⟨xA.1.trans h.kept.1,xA.2.1.trans h.kept.2.1,xA.2.2.1.trans h.kept.2.2.1,Nat.le_trans h.kept.2.2.2 xA.2.2.2⟩
  old:=fun k hk hm=>by
   have I4:=Nat.lt_of_lt_of_le hk h.kept.2.2.2;rw [hw k I4 (fun e => ?_)]
   ·exact h.old k hk hm
   ·subst e;rcases hB with hB | ⟨s',j',hB,_⟩
    ·omega
    ·rcases (h.owned _ _ hB).2 with h2 | h2 | h2
     ·cases h2
     ·omega
     ·exact hm h2
  hZ:=fun p hp=>lU.hZ (h.hZ p hp)
  plain:=h.plain }
end Go.TM
namespace Go.TM
open Go Go.RowKit
theorem Rel.kill {w0:World} {mu:Mu} {c:Cz} {st:St} {a:Act} {w:World} (h:Rel w0 mu c st a w) (s j:Nat) :
  Rel w0 mu c (fk st s j none) a w∧∀sl A,nth (fk st s j none) s=some sl→nth sl.bU j≠some (some A):=by
 have hn:∀k,∃f:Sl→Sl,(∀x,(f x).v=x.v∧(f x).box=x.box∧(f x).bg=x.bg∧(f x).ag=x.ag∧
   (∀i,nth (f x).bU i=if k=s∧i=j then (nth x.bU i).map (fun _=>none) else nth x.bU i)∧(f x).ep=if k=s then x.ep+1 else x.ep)∧nth (fk st s j none) k=(nth st k).map f:=by
  intro k;unfold fk
  by_cases e:k=s
  ·subst e;refine ⟨fun s=>{ s with bU:=sO (fun _=>none) s.bU j,ep:=s.ep+1 },fun x=>⟨rfl,rfl,rfl,rfl,fun i => ?_,by simp⟩,qc _ _ _⟩;simp only [lf,true_and]
  ·refine ⟨id,fun x=>⟨rfl,rfl,rfl,rfl,fun i => ?_,by simp [e]⟩,by rw [u5 _ _ e];simp⟩;simp [e]
 generalize fk st s j none=bQ at hn ⊢;have lU:Fw c st w c bQ w:={
  stays:=lk.refl w _
  refs:=fun a' j' g A' _ iB=>by
   obtain ⟨sl,k1,k2,k3⟩:=dK iB;obtain ⟨f,hf,hk⟩:=hn a';rw [hk] at k1
   cases hx:nth st a' with
   |none=>rw [hx] at k1;simp at k1
   |some x=>
    rw [hx] at k1;simp at k1;subst k1;rw [(hf x).2.2.2.2.1 j'] at k3;rw [(hf x).2.2.2.1] at k2;refine ⟨A',?_,rfl,rfl,rfl,fun _=>⟨rfl,fun _ _ _ _=>rfl⟩⟩
    by_cases e:a'=s∧j'=j
    ·rw [if_pos e] at k3
     cases hq:nth x.bU j'<;>simp [hq] at k3
    ·rw [if_neg e] at k3;unfold cO;rw [hx];have:Nat.beq x.ag g=true:=by rw [k2];exact Nat.beq_refl g
     simp [this,k3]
  GY:=fun b g rZ _ hb=>by
   refine ⟨⟨rZ,?_⟩,rfl⟩;obtain ⟨f,hf,hk⟩:=hn b;unfold fV at hb ⊢;rw [hk] at hb
   cases hx:nth st b with
   |none=>rw [hx] at hb;simp at hb
   |some x=>rw [hx] at hb;simpa [(hf x).2.1,(hf x).2.2.1] using hb
  gA:=fun b=>by
   obtain ⟨f,hf,hk⟩:=hn b;unfold gP;rw [hk]
   cases hx:nth st b with
   |none=>simp
   |some x=>simp [(hf x).2.2.2.1]
  gB:=fun b=>by
   obtain ⟨f,hf,hk⟩:=hn b;unfold j5;rw [hk]
   cases hx:nth st b with
   |none=>simp
   |some x=>simp [(hf x).2.2.1]
  gE:=fun b=>by
   obtain ⟨f,hf,hk⟩:=hn b;unfold wu;rw [hk]
   cases hx:nth st b with
   |none=>simp
   |some x=>
    simp only [Option.map_some];rw [(hf x).2.2.2.2.2]
    split<;>omega }
 refine ⟨{
  jj:=fun t=>by
   obtain ⟨f,hf,hk⟩:=hn t;have:dN bQ t=dN st t:=by
    unfold dN;rw [hk]
    cases hx:nth st t with
    |none=>rfl
    |some x=>exact (hf x).1
   rw [this];exact lU.u6 (h.jj t)
  boxes:=fun b sl cs hs hb=>by
   obtain ⟨f,hf,hk⟩:=hn b;rw [hk] at hs
   cases hx:nth st b with
   |none=>rw [hx] at hs;simp at hs
   |some x=>
    rw [hx] at hs;simp at hs;subst hs;rw [(hf x).2.1] at hb;exact (h.boxes b x cs hx hb).go lU rfl rfl rfl
  bU:=fun b i sl A hs hA=>by
   obtain ⟨f,hf,hk⟩:=hn b;rw [hk] at hs
   cases hx:nth st b with
   |none=>rw [hx] at hs;simp at hs
   |some x=>
    rw [hx] at hs;simp at hs;subst hs;rw [(hf x).2.2.2.2.1 i] at hA
    by_cases e:b=s∧i=j
    ·rw [if_pos e] at hA
     cases hq:nth x.bU i<;>simp [hq] at hA
    ·rw [if_neg e] at hA;exact h.bU b i x A hx hA
  owned:=h.owned
  free:=h.free
  kept:=h.kept
  old:=h.old
  hZ:=fun p hp=>lU.hZ (h.hZ p hp)
  plain:=h.plain },fun sl A hs => ?_⟩
 obtain ⟨f,hf,hk⟩:=hn s;rw [hk] at hs
 cases hx:nth st s with
 |none=>rw [hx] at hs;simp at hs
 |some x=>
  rw [hx] at hs;simp at hs;subst hs;rw [(hf x).2.2.2.2.1 j,if_pos ⟨rfl,rfl⟩]
  cases nth x.bU j<;>simp
def Cz.gu (c:Cz) (d:Nat) (L:Loc) (B:Option Nat):Cz:=
 { bx:=c.bx,lc:=fun s j=>if s=d∧j=0 then L else c.lc s j,own:=fun k=>if B=some k then some (.sp d 0) else c.own k }
theorem Aw {st:St} {d:Option Nat} {A:nu} {bQ:St} (h:(gu st d A).val=some bQ) :
  ∃k s0,d=some k∧nth st k=some s0∧bQ=sO (fun s=>{ s with v:=.one (.ref k 0 (s0.ag+1) .full),bU:=[some A],ag:=s0.ag+1 }) st k:=by
 unfold gu at h
 cases d with
 |none=>simp [N.val] at h
 |some k=>
  cases hs:nth st k with
  |none=>simp [hs,N.val] at h
  |some s0=>
   simp only [hs,N.val,Option.some.injEq] at h;exact ⟨k,s0,rfl,hs,h.symm⟩
theorem FL {st:St} {d:Option Nat} {cs:List CV} {bQ:St} (h:(kP st d cs).val=some bQ) :
  ∃k s0,d=some k∧nth st k=some s0∧bQ=sO (fun s=>{ s with v:=.one (.ptr k (s0.bg+1) 0),box:=some cs,bg:=s0.bg+1 }) st k:=by
 unfold kP at h
 cases d with
 |none=>simp [N.val] at h
 |some k=>
  cases hs:nth st k with
  |none=>simp [hs,N.val] at h
  |some s0=>
   simp only [hs,N.val,Option.some.injEq] at h;exact ⟨k,s0,rfl,hs,h.symm⟩
theorem Rel.fresh {w0:World} {mu:Mu} {c:Cz} {st:St} {a:Act} {w:World} (h:Rel w0 mu c st a w) {d:Nat} {s0:Sl} {r:RT} {xs:List (aO r)} {cur:Array Value} {ty cap:Nat}
  (mY:nth st d=some s0) (hd:d<a.tmps.size) (hle:xs.length≤cap) (py:cap*r.width≤cur.size) {vs:List Value} (Gt:cq w c.ok r vs xs) (ame:cur.toList.take vs.length=vs) :
  ∃c',Rel w0 mu c' (sO (fun s=>{ s with v:=.one (.ref d 0 (s0.ag+1) .full),bU:=[some { r:=r,own:=true,xs:=xs }],ag:=s0.ag+1 }) st d)
   (a.put (some d) (.slice (some ⟨w.heap.size,0,none⟩) xs.length cap)) (w.alloc (.cells cur ty (0,0))):=by
 have Ci:=heap_alloc_new w (.cells cur ty (0,0));refine ⟨c.gu d (.at w.heap.size 0 cap) (some w.heap.size),h.place (B:=w.heap.size) (A:={ r:=r,own:=true,xs:=xs }) mY hd rfl ?_ ?_ (.inl ?_) (.inl (Nat.le_refl _)) (fun _=>by simp) (fun k hk _=>heap_alloc_old w _ k hk)
  ⟨rfl,rfl,rfl,by simp⟩ ?_ rfl ?_⟩
 ·intro s j lO;simp [Cz.gu,lO]
 ·intro k hk;simp only [Cz.gu];rw [if_neg (by intro e;exact hk (Option.some.inj e).symm)]
 ·simp [Cz.gu]
 ·have x9:lk w (w.alloc (.cells cur ty (0,0))) c.ok (c.gu d (.at w.heap.size 0 cap) (some w.heap.size)).ok:=Ar w _ _ _ (fun b hb iP=>by
   unfold Cz.ok Cz.gu;simp only;rw [if_neg (by intro e;have:=Option.some.inj e;omega)];exact iP)
  unfold fJ;simp only [Cz.gu,and_self,if_true];refine ⟨trivial,hle,⟨cur,ty,Ci,by simpa using py⟩,?_⟩;refine (ey.sh rfl).2 ?_;refine wE 0 vs xs (cq.stays x9 vs xs Gt) (fun j v hv => ?_);rw [cell_of_row _ _ _ cur ty (0,0) Ci,Nat.zero_add];have hj:j<vs.length:=(List.getElem?_eq_some_iff.1 hv).1;rw [←ame,List.getElem?_take,if_pos hj] at hv;simpa using hv
 ·simp only [Cz.gu,and_self,if_true];exact ⟨_,cap,rfl,hle,by omega,fun _=>by simp⟩
theorem I8 {P:Program} {t ty e:TypeId} {i:TypeInfo} (ht:P.underlying t=some (.slice e)) (hi:P.info? e=some i) (w:World)
  (g o Df LA:Nat) (cur:Array Value) (te:TypeId) (hg:w.heap[g]?=some (.cells cur te (0,0)))
  (a:Addr) (m c:Nat) (news:List Value) (hl:news.length=m*i.size) (ahu:∀j u,news[j]?=some u→w.cell? (a.add j)=some u) (h1:∀u∈news,u.oneCell'=true)
  (xB:Df+m≤LA) (rq:o+Df*i.size+news.length≤cur.size) :
  (Builtin.append_ #[t,t] ty #[.slice (some ⟨g,o,none⟩) Df LA,.slice (some a) m c]).run P w=
   .ok (.slice (some ⟨g,o,none⟩) (Df+m) LA) (w.setRow g (fc cur.toList (o+Df*i.size) news).toArray):=by
 have hf:=run_firstCells_some (P:=P) w i.size m a m c news hl ahu;have x9:=run_storeCells_at P g (o+Df*i.size) te news 0 cur w hg (by simpa using rq) h1;simp only [Nat.add_zero] at x9;simp [Builtin.append_,run_underlying ht,sizeOf,typeInfo,hi,Builtin.lenOf,xB,hf,Addr.add_mid,x9,fc]
theorem run_append_nothing {P:Program} {t ty e:TypeId} {i:TypeInfo} (ht:P.underlying t=some (.slice e)) (hi:P.info? e=some i) (w:World) (base:Option Addr) (Df LA:Nat) (hle:Df≤LA)
  (x:Value) (hx:(x=.slice none 0 0)∨∃a c,x=.slice (some a) 0 c) :
  (Builtin.append_ #[t,t] ty #[.slice base Df LA,x]).run P w=.ok (.slice base Df LA) w:=by
 rcases hx with rfl | ⟨a,c,rfl⟩
 ·cases base<;>simp [Builtin.append_,run_underlying ht,sizeOf,typeInfo,hi,Builtin.lenOf,Builtin.firstCells,hle,storeCells]
 ·cases base<;>simp [Builtin.append_,run_underlying ht,sizeOf,typeInfo,hi,Builtin.lenOf,Builtin.firstCells,hle,storeCells,loadCells,loadCellsFrom]
end Go.TM
namespace Go.TM
open Go Go.RowKit
theorem ey.Vd {c:Cz} {w:World} {l:Lb} {A:nu} {b off:Nat} (hm:A.md=.sh) {ys:List (aO A.r)} (h:∀(i:Nat) x,ys[i]?=some x→fH w c.ok A.r b (off+i*A.r.width) x):ey c w l { A with xs:=ys } b off:=by
 unfold ey;show match A.md with | .sh=>_
 rw [hm];exact h
theorem Sm {P:Program} {T:oU} (hT:jZ P T) {w0:World} {mu:Mu} {c:Cz} {st:St} {a:Act} {w:World} (h:Rel w0 mu c st a w)
  {t:Nat} {x v:V} {ux uv:Value} (hx:il c st w x ux) (hv:il c st w v uv) {bQ:St} (hs:(wZ T st t x v).val=some bQ) :
  ∃w',(Instr.storeAt t ux uv).run P w=.ok () w'∧∃c',Rel w0 mu c' bQ a w':=by
 cases hn:T.cells t with
 |none=>cases x with
  |one y=>cases y<;>simp [wZ,hn,N.val] at hs
  |agg _=>simp [wZ,N.val] at hs
  |p8 _=>simp [wZ,N.val] at hs
 |some n=>cases x with
  |agg _=>simp [wZ,N.val] at hs
  |p8 _=>simp [wZ,N.val] at hs
  |one y=>cases y with
   |bad | int _ _ | bool _ | str _ | gw | Pb | shr _ _ | nn _ _ | ref _ _ _ _ | nV _ _ _ | xy _ _ _ | fn _ _ _=>simp [wZ,N.val] at hs
   |ptr b g off=>
    simp only [wZ,hn] at hs
    cases hb:fV st b g with
    |none=>simp [hb,N.val] at hs
    |some cs=>
     simp only [hb] at hs;obtain ⟨hc,hs⟩:=j9 hs;rw [Bool.and_eq_true] at hc
     cases hp:putCells cs off v.cells with
     |none=>simp [hp,N.val] at hs
     |some l=>
      simp only [hp,N.val,Option.some.injEq] at hs;subst hs;obtain ⟨hle,rfl⟩:=B9 hp;obtain ⟨sl,JK,UI,JL⟩:=ka hb;obtain ⟨ho,vs,ty,hh,hl⟩:=h.boxes b sl cs JK JL;obtain ⟨Ax,Sn⟩:=hv.cells hc.1;have hu:=hx.2.2 cs hb;subst hu;have hlen:uv.cells.toList.length=n:=by rw [←Ax.1];exact Nat.eq_of_beq_eq_true hc.2
      have MM:=hl.1;have YC:=Ax.1;refine ⟨_,Av hT hn w (c.bx b) off uv hlen Sn hh (by simp at MM ⊢;omega),c,?_⟩;refine h.Vb JK JL hh ?_;simpa using hl.fc Ax off hle
   |MS a' j g i off=>
    simp only [wZ,hn] at hs
    cases hA:cO st a' j g with
    |none=>simp [hA,N.val] at hs
    |some A=>
     simp only [hA] at hs;obtain ⟨hc,hz⟩:=j9 hs;clear hs;rw [Bool.and_eq_true,Bool.and_eq_true,Bool.and_eq_true] at hc;obtain ⟨⟨⟨amf,lq⟩,Z1⟩,Ye⟩:=hc;have Ye:0<n:=by simp [Nat.blt] at Ye;omega
     obtain ⟨sl,JK,UI,JL⟩:=dK hA;have MU:=h.bU a' j sl A JK JL;obtain ⟨hi,b,o,cap,np,hu⟩:=hx.2.2 A hA;have aaW:=MU;unfold fJ at aaW;rw [np] at aaW;obtain ⟨ho,C8,⟨cur,ty,hg,py⟩,w6⟩:=aaW;rw [lq] at ho;obtain ⟨Ax,Sn⟩:=hv.cells amf;have hlen:uv.cells.toList.length=n:=by rw [←Ax.1];exact Nat.eq_of_beq_eq_true Z1
     have Sp:o+i*A.r.width+A.r.width≤cur.size:=by
      have:(i+1)*A.r.width≤cap*A.r.width:=Nat.mul_le_mul_right _ (by omega);rw [Nat.add_mul] at this;omega
     subst hu
     cases hw:Nat.beq n A.r.width&&A.r.p7&&Nat.beq off 0 with
     |false=>
      rw [hw] at hz;simp only [cond_false] at hz
      cases hm:A.md with
      |sh=>
       have w6:=(ey.sh hm).1 w6
       cases Va:A.xs[i]? with
       |none=>simp [Va,N.val] at hz
       |some x0=>
        simp only [Va] at hz;change (match u4 A.r x0 off v.cells with | some y=>N.done (fk st a' j (some (A.put (A.xs.set i y)))) | none=>N.fail).val=some bQ at hz
        cases hp:u4 A.r x0 off v.cells with
        |none=>simp [hp,N.val] at hz
        |some y=>
         simp only [hp,N.val,Option.some.injEq] at hz;subst hz;have YC:=Ax.1;have hbd:off+uv.cells.toList.length≤A.r.width:=by
          rw [←YC];exact Dd A.r x0 off v.cells hp (by intro e;rw [e] at YC;simp at YC;simp at hlen;omega)
         refine ⟨_,Av hT hn w b (o+i*A.r.width+off) uv hlen Sn hg (by omega),c,?_⟩;exact h.MY JK JL lq np hg (by rw [List.size_toArray,oW (by simp at hbd ⊢;omega)];simp) (by simp)
          (ey.Vd hm (De ho hg w6 Va hbd Sp (fun vs Gt=>G1 A.r x0 off v.cells y vs _ (by rw [eU.length A.r vs x0 Gt];exact hbd) hp Ax Gt)))
     |true=>
      rw [hw] at hz;simp only [cond_true] at hz;rw [Bool.and_eq_true,Bool.and_eq_true] at hw;have hnW:=Nat.eq_of_beq_eq_true hw.1.1;have amh:=Nat.eq_of_beq_eq_true hw.2;subst amh;have YD:uv.cells.toList.length=A.r.width:=by rw [hlen,hnW]
      have ami:∀vs:List Value,vs.length=A.r.width→fc vs 0 uv.cells.toList=uv.cells.toList:=by
       intro vs MM;unfold fc;rw [List.drop_eq_nil_of_le (by omega)];simp
      cases hm:A.md with
      |sh=>
       have w6:=(ey.sh hm).1 w6;obtain ⟨x1,m,h1,h2,h3⟩:=Da h A.r v.cells _ Ax _ hz;obtain ⟨hma,h1⟩:=j9 h1
       cases Va:A.xs[i]? with
       |none=>simp [Va,N.val] at h1
       |some x0=>
        simp only [Va] at h1;change some _=some bQ at h1;obtain rfl:=Option.some.inj h1;have hnm:(a',j)∉m:=by
         intro Gu;have:=List.all_eq_true.1 hma _ Gu;simp at this
        have hf:=h.freeze m;obtain ⟨sl',g1,g2⟩:=G5 m JK JL hnm;have aaX:(c.drop m).lc a' j=.at b o cap:=by rw [(Cz.Q9 m c).1];exact np
        have ho':(c.drop m).own b=some (.sp a' j):=Cz.JM m c b ho (fun p hp=>by
         intro e;injection e with e1 e2;exact hnm (by rw [e1,e2];exact hp))
        have ahv:∀(i:Nat) x,A.xs[i]?=some x→fH w (c.drop m).ok A.r b (o+i*A.r.width) x:=fun i x hx=>
         fH.stays (Fw.freeze w m c st).stays _ _ _ x rfl (w6 i x hx)
        have Pn:eU w (c.drop m).ok A.r uv.cells.toList x1:=h3 _ (fun k hk=>Cz.C9 m c k hk) (fun p hp k hk=>Cz.GL m c k hk hp);refine ⟨_,Av hT hn w b (o+i*A.r.width+0) uv hlen Sn hg (by omega),c.drop m,?_⟩;refine hf.MY g1 g2 lq aaX hg (by rw [List.size_toArray,oW (by simp at YD ⊢;omega)];simp) (by simp) (ey.Vd hm ?_);refine De ho' hg ahv Va (k:=0) (by omega) Sp (fun vs Gt => ?_);rw [ami vs (eU.length A.r vs x0 Gt)];exact Pn
end Go.TM
namespace Go.TM
open Go Go.RowKit
theorem Fw.heap {c:Cz} {st:St} {w w':World} (hh:w'.heap=w.heap):Fw c st w c st w' where
 stays:=⟨by rw [hh];exact Nat.le_refl _,fun b _ _=>by rw [hh],fun _ _ h=>h⟩
 refs _ _ _ A' _ h:=⟨A',h,rfl,rfl,rfl,fun _=>⟨rfl,fun _ _ _ _=>by rw [hh]⟩⟩
 GY _ _ rZ _ h:=⟨⟨rZ,h⟩,rfl⟩
 gA _:=Nat.le_refl _
 gB _:=Nat.le_refl _
 gE _:=Nat.le_refl _
theorem Rel.heap {w0:World} {mu:Mu} {c:Cz} {st:St} {a:Act} {w w':World} (h:Rel w0 mu c st a w) (hh:w'.heap=w.heap) (ho:w'.os=w.os∧w'.tape=w.tape∧w'.output=w.output) :
  Rel w0 mu c st a w' where
 jj t:=(Fw.heap hh).u6 (h.jj t)
 boxes s sl cs hs hb:=(h.boxes s sl cs hs hb).go (Fw.heap hh) rfl rfl (by rw [hh])
 bU s j sl A hs hA:=(h.bU s j sl A hs hA).go (Fw.heap (c:=c) (st:=st) hh).stays rfl (fun b _=>⟨by rw [hh],rfl⟩)
 owned b l hb:=by rw [hh];exact h.owned b l hb
 free:=h.free
 kept:=⟨ho.1.trans h.kept.1,ho.2.1.trans h.kept.2.1,ho.2.2.trans h.kept.2.2.1,by rw [hh];exact h.kept.2.2.2⟩
 old k hk hm:=by rw [hh];exact h.old k hk hm
 hZ p hp:=(Fw.heap hh).hZ (h.hZ p hp)
 plain:=h.plain
theorem Rel.drew {w0:World} {mu:Mu} {c:Cz} {st:St} {a:Act} {w:World} (h:Rel w0 mu c st a w):Rel w0 mu c st a w.drew:=h.heap rfl ⟨rfl,rfl,rfl⟩
theorem ll.length:(r:RT)→(vs:List Value)→ll r vs→vs.length=r.width
 |.nil,vs,h=>by simp only [ll] at h;subst h;rfl
 |.cons (.int _) r,vs,⟨l,h,h'⟩=>by subst h;simp [RT.width,ll.length r l h']
 |.cons .bool r,vs,⟨l,h,h'⟩=>by subst h;simp [RT.width,ll.length r l h']
 |.cons .str r,vs,⟨l,h,h'⟩=>by subst h;simp [RT.width,ll.length r l h']
 |.cons (.sl _) r,vs,⟨l,h,h'⟩=>by subst h;simp [RT.width,ll.length r l h']
theorem RdS.cells {w:World} {ok:Nat→Prop} {r:RT} {u:Value} {ys:List (aO r)} (h:RdS w ok r u ys) :
  (ys=[]∧(u=.slice none 0 0∨∃a c,u=.slice (some a) 0 c))∨
  (ys≠[]∧∃a c vs,u=.slice (some a) ys.length c∧cq w ok r vs ys∧∀(j:Nat) v,vs[j]?=some v→w.cell? (a.add j)=some v):=by
 rcases h with ⟨rfl,rfl⟩ | ⟨a,c,rfl,hs,hr⟩
 ·exact .inl ⟨rfl,.inl rfl⟩
 ·by_cases e:ys=[]
  ·subst e;exact .inl ⟨rfl,.inr ⟨a,c,rfl⟩⟩
  ·obtain ⟨vs,h1,h2⟩:=pN a.block a.off ys hr;refine .inr ⟨e,a,c,vs,rfl,h2,fun j v hv => ?_⟩;have:a=⟨a.block,a.off,none⟩:=by have:=hs e;cases a;simp at this ⊢;exact this
   rw [this,Addr.add_mid];exact h1 j v hv
theorem G7 {P:Program} {T:oU} (hT:jZ P T) {w:World} {t ty:Nat} {r:RT} {bytes:Nat} (ht:T.elem t=some (r,bytes)) {ux uy:Value} {nx ny:Nat} {vx vy:List Value} {xb:Option Nat}
  (hb:(nx+ny)*bytes≤lim) (Ve:vx.length=nx*r.width) (Vf:vy.length=ny*r.width) (oy:∀u∈vy,u.oneCell'=true)
  (hy:(ny=0∧(uy=.slice none 0 0∨∃a c,uy=.slice (some a) 0 c))∨(ny≠0∧∃a c,uy=.slice (some a) ny c∧∀(j:Nat) v,vy[j]?=some v→w.cell? (a.add j)=some v))
  (hx:(xb=none∧ux=.slice none 0 0∧nx=0)∨∃b off lo cap n ad cur te,xb=some b∧ux=.slice (some ad) nx n∧nx≤n∧lo+n≤cap∧(n≠0→ad=⟨b,off+lo*r.width,none⟩)∧
   w.heap[b]?=some (.cells cur te (0,0))∧off+cap*r.width≤cur.size∧w.rangeAt b (off+lo*r.width) vx) :
  ∃v w',(Builtin.append_ #[t,t] ty #[ux,uy]).run P w=.ok v w'∧(w'.os=w.os∧w'.tape=w.tape∧w'.output=w.output∧w.heap.size≤w'.heap.size)∧
   ((nx=0∧ny=0∧w'=w∧v=.slice none 0 0)∨∃B o cp cur te,v.oneCell'=true∧qW (.at B o cp) r.width 0 (nx+ny) v∧nx+ny≤cp∧w'.heap[B]?=some (.cells cur te (0,0))∧o+cp*r.width≤cur.size∧
    w'.rangeAt B o (vx++vy)∧(∀k,k<w.heap.size→k≠B→w'.heap[k]?=w.heap[k]?)∧(w.heap.size≤B∨xb=some B)):=by
 obtain ⟨e,i,z,hu,hi,py,LB,hby,Rb,hz,UJ⟩:=hT.elem t r bytes ht;have Rc:z.cells.size=r.width:=by have:=ll.length r _ UJ;simpa using this
 have LC:(nx+ny)*bytes≤140737488355328:=by unfold lim at hb;omega
 have asm:nx+ny≤140737488355328:=by
  have:(nx+ny)*1≤(nx+ny)*bytes:=Nat.mul_le_mul_left _ Rb;omega
 have grown:∀(old:Nat) (run:(Builtin.append_ #[t,t] ty #[ux,uy]).run P w=.ok (.slice (some ⟨w.heap.size,0,none⟩) (nx+ny) (grownCap w (nx+ny) old e)) (w.drew.alloc (.cells (vx.toArray++vy.toArray++Builtin.zeroCells z.cells (grownCap w (nx+ny) old e-(nx+ny))) e (0,0)))),
   ∃v w',(Builtin.append_ #[t,t] ty #[ux,uy]).run P w=.ok v w'∧(w'.os=w.os∧w'.tape=w.tape∧w'.output=w.output∧w.heap.size≤w'.heap.size)∧
   ((nx=0∧ny=0∧w'=w∧v=.slice none 0 0)∨∃B o cp cur te,v.oneCell'=true∧qW (.at B o cp) r.width 0 (nx+ny) v∧nx+ny≤cp∧w'.heap[B]?=some (.cells cur te (0,0))∧o+cp*r.width≤cur.size∧
    w'.rangeAt B o (vx++vy)∧(∀k,k<w.heap.size→k≠B→w'.heap[k]?=w.heap[k]?)∧(w.heap.size≤B∨xb=some B)):=by
  intro old run;have hge:=grownCap_ge w (nx+ny) old e;have hmul:grownCap w (nx+ny) old e*r.width=(nx+ny)*r.width+(grownCap w (nx+ny) old e-(nx+ny))*r.width:=by
   rw [←Nat.add_mul];congr 1;omega
  have Ci:=heap_alloc_new w.drew (.cells (vx.toArray++vy.toArray++Builtin.zeroCells z.cells (grownCap w (nx+ny) old e-(nx+ny))) e (0,0));refine ⟨_,_,run,⟨rfl,rfl,rfl,by simp⟩,.inr ⟨w.heap.size,0,grownCap w (nx+ny) old e,_,e,rfl,⟨_,_,rfl,hge,by omega,fun _=>by simp⟩,hge,Ci,?_,?_,fun k hk _=>heap_alloc_old w.drew _ k hk,.inl (Nat.le_refl _)⟩⟩
  ·rw [Array.size_append,Array.size_append,List.size_toArray,List.size_toArray,size_zeroCells,Rc,Ve,Vf,hmul,Nat.add_mul];omega
  ·intro q v hv;rw [show w.heap.size=w.drew.heap.size from rfl,cell_of_row _ _ _ _ e (0,0) Ci,Nat.zero_add];have hq:q<(vx++vy).length:=(List.getElem?_eq_some_iff.1 hv).1;have e1:(vx.toArray++vy.toArray++Builtin.zeroCells z.cells (grownCap w (nx+ny) old e-(nx+ny))).toList=
     (vx++vy)++(Builtin.zeroCells z.cells (grownCap w (nx+ny) old e-(nx+ny))).toList:=by simp
   rw [←Array.getElem?_toList,e1,List.getElem?_append_left hq];exact hv
 rcases hy with ⟨rfl,hyn⟩ | ⟨aaY,ay,cy,rfl,hcy⟩
 ·-- nothing is put behind
  have amj:vy=[]:=by simpa using Vf
  subst amj;rcases hx with ⟨_,rfl,rfl⟩ | ⟨b,off,lo,cap,n,ad,cur,te,hxb,rfl,hle,C8,MN,hg,aa0,hr⟩
  ·exact ⟨_,w,run_append_nothing hu hi w none 0 0 (Nat.le_refl _) uy hyn,⟨rfl,rfl,rfl,Nat.le_refl _⟩,.inl ⟨rfl,rfl,rfl,rfl⟩⟩
  ·refine ⟨_,w,run_append_nothing hu hi w (some ad) nx n hle uy hyn,⟨rfl,rfl,rfl,Nat.le_refl _⟩,.inr ⟨b,off+lo*r.width,n,cur,te,rfl,⟨ad,n,rfl,hle,by omega,fun hn=>by rw [MN hn];simp⟩,hle,hg,?_,by simpa using hr,fun _ _ _=>rfl,.inr hxb⟩⟩;have:(lo+n)*r.width≤cap*r.width:=Nat.mul_le_mul_right _ C8;rw [Nat.add_mul] at this;omega
 ·have hyl:0<ny:=Nat.pos_of_ne_zero aaY;rcases hx with ⟨_,rfl,rfl⟩ | ⟨b,off,lo,cap,n,ad,cur,te,hxb,rfl,hle,C8,MN,hg,aa0,hrx⟩
  ·have amk:vx=[]:=by simpa using Ve
   subst amk;have hr:=run_append_nil (P:=P) w t ty e i z hu hi hz ay ny cy vy (by rw [Vf,py]) hcy hyl (by omega) (by rw [hby];simp at LC;omega);refine grown 0 ?_;simpa using hr
  ·by_cases xB:nx+ny≤n
   ·-- it at9 aua R9 room aaR there is
    have Ye:n≠0:=by omega
    rw [MN Ye];have Sp:off+lo*r.width+n*r.width≤cur.size:=by
     have:(lo+n)*r.width≤cap*r.width:=Nat.mul_le_mul_right _ C8;rw [Nat.add_mul] at this;omega
    have rq:off+lo*r.width+nx*r.width+vy.length≤cur.size:=by
     have:(nx+ny)*r.width≤n*r.width:=Nat.mul_le_mul_right _ xB;rw [Nat.add_mul] at this;omega
    have hr:=I8 (P:=P) (ty:=ty) hu hi w b (off+lo*r.width) nx n cur te hg ay ny cy vy (by rw [Vf,py]) hcy oy xB (by rw [py];exact rq);rw [py] at hr;have hg':=setRow_heap w b cur (fc cur.toList (off+lo*r.width+nx*r.width) vy).toArray te (0,0) hg;have ym:∀k,k≠b→(w.setRow b (fc cur.toList (off+lo*r.width+nx*r.width) vy).toArray).heap[k]?=w.heap[k]?:=fun k hk=>setRow_other w _ k _ hk
    refine ⟨_,_,hr,⟨rfl,rfl,rfl,by simp [World.setRow]⟩,.inr ⟨b,off+lo*r.width,n,_,te,rfl,⟨_,n,rfl,xB,by omega,fun _=>by simp⟩,xB,hg',?_,?_,fun k _ hk=>ym k hk,.inr hxb⟩⟩
    ·rw [List.size_toArray,oW (by simpa using rq)];simpa using Sp
    ·intro q v hv;rw [cell_of_row _ _ _ _ te (0,0) hg'];simp only [List.getElem?_toArray];rw [vd (by simpa using rq)];rw [List.getElem?_append] at hv
     by_cases hq:q<vx.length
     ·rw [if_pos hq] at hv;rw [if_neg (by omega)];have:=hrx q v hv;rw [cell_of_row w b _ cur te (0,0) hg] at this;simpa using this
     ·rw [if_neg hq] at hv;have MZ:q-vx.length<vy.length:=(List.getElem?_eq_some_iff.1 hv).1;rw [if_pos (by omega),show off+lo*r.width+q-(off+lo*r.width+nx*r.width)=q-vx.length by omega];exact hv
   ·-- it ahh
    have hr:=run_append_grow (P:=P) w t ty e i z hu hi hz ad nx n vx (by rw [Ve,py]) (fun q v hv=>by
      have hq:q<vx.length:=(List.getElem?_eq_some_iff.1 hv).1;have Ye:n≠0:=by
       intro e0;have:nx=0:=by omega
       rw [this] at Ve;simp at Ve;rw [Ve] at hq;simp at hq
      rw [MN Ye,Addr.add_mid];exact hrx q v hv)
     ay ny cy vy (by rw [Vf,py]) hcy (by omega) (by omega) (growslice_fits (by omega) (by rw [hby];exact LC))
    exact grown n hr
theorem JN {P:Program} {T:oU} (hT:jZ P T) {w0:World} {mu:Mu} {c:Cz} {G3:St} {a:Act} {w:World} (h1:Rel w0 mu c G3 a w)
  {t ty:Nat} {r:RT} {bytes:Nat} (ht:T.elem t=some (r,bytes)) {ux uy:Value} {xs ys:List (aO r)} {d:Nat} {s0:Sl} (mY:nth G3 d=some s0) (hd:d<a.tmps.size)
  (hb:(xs.length+ys.length)*bytes≤lim) (hy:RdS w c.ok r uy ys)
  (hx:(ux=.slice none 0 0∧xs=[])∨∃s j b off lo cap n ad,c.own b=some (.sp s j)∧(∀sl A,nth G3 s=some sl→nth sl.bU j≠some (some A))∧
   ux=.slice (some ad) xs.length n∧xs.length≤n∧lo+n≤cap∧(n≠0→ad=⟨b,off+lo*r.width,none⟩)∧
   (∃cur ty,w.heap[b]?=some (.cells cur ty (0,0))∧off+cap*r.width≤cur.size)∧∀(i:Nat) x,xs[i]?=some x→fH w c.ok r b (off+(lo+i)*r.width) x) :
  ∃v w',(Builtin.append_ #[t,t] ty #[ux,uy]).run P w=.ok v w'∧
   ∃c',Rel w0 mu c' (sO (fun s=>{ s with v:=.one (.ref d 0 (s0.ag+1) .full),bU:=[some { r:=r,own:=true,xs:=xs++ys }],ag:=s0.ag+1 }) G3 d) (a.put (some d) v) w':=by
 obtain ⟨vy,Vf,hy'⟩:∃vy,cq w c.ok r vy ys∧((ys.length=0∧(uy=.slice none 0 0∨∃a c,uy=.slice (some a) 0 c))∨(ys.length≠0∧∃a c,uy=.slice (some a) ys.length c∧∀(j:Nat) v,vy[j]?=some v→w.cell? (a.add j)=some v)):=by
  rcases hy.cells with ⟨rfl,hyn⟩ | ⟨aaY,ay,cy,vy,rfl,Vf,hcy⟩
  ·exact ⟨[],rfl,.inl ⟨rfl,hyn⟩⟩
  ·exact ⟨vy,Vf,.inr ⟨fun h=>aaY (List.length_eq_zero_iff.1 h),ay,cy,rfl,hcy⟩⟩
 obtain ⟨vx,xb,Ve,hxb,Q8⟩:∃(vx:List Value) (xb:Option Nat),cq w c.ok r vx xs∧(∀b,xb=some b→∃s j,c.own b=some (.sp s j)∧∀sl A,nth G3 s=some sl→nth sl.bU j≠some (some A))∧
   ((xb=none∧ux=.slice none 0 0∧xs.length=0)∨∃b off lo cap n ad cur te,xb=some b∧ux=.slice (some ad) xs.length n∧xs.length≤n∧lo+n≤cap∧(n≠0→ad=⟨b,off+lo*r.width,none⟩)∧
   w.heap[b]?=some (.cells cur te (0,0))∧off+cap*r.width≤cur.size∧w.rangeAt b (off+lo*r.width) vx):=by
  rcases hx with ⟨rfl,rfl⟩ | ⟨s,j,b,off,lo,cap,n,ad,lq,ahy,rfl,hle,C8,MN,⟨cur,te,hg,aa0⟩,w6⟩
  ·exact ⟨[],none,rfl,(fun _ e=>by cases e),.inl ⟨rfl,rfl,rfl⟩⟩
  ·obtain ⟨vx,hrx,Ve⟩:=pN b (off+lo*r.width) xs (fun i x hx=>by
    have:=w6 i x hx;rw [Nat.add_mul] at this;rw [show off+lo*r.width+i*r.width=off+(lo*r.width+i*r.width) by omega];exact this)
   exact ⟨vx,some b,Ve,fun b' e=>by cases e;exact ⟨s,j,lq,ahy⟩,.inr ⟨b,off,lo,cap,n,ad,cur,te,rfl,rfl,hle,C8,MN,hg,aa0,hrx⟩⟩
 obtain ⟨v,w',ve,xA,LF⟩:=G7 hT (ty:=ty) ht hb (cq.length vx xs Ve) (cq.length vy ys Vf) (cq.mX vy ys Vf) hy' Q8;refine ⟨v,w',ve,?_⟩;rcases LF with ⟨e1,e2,rfl,rfl⟩ | ⟨B,o,cp,cur,te,v1,v2,hle,hg,py,hr,ym,hB⟩
 ·have:xs=[]:=List.length_eq_zero_iff.1 e1;subst this;have:ys=[]:=List.length_eq_zero_iff.1 e2;subst this;refine ⟨c.gu d .nil none,h1.place (B:=w'.heap.size) (A:={ r:=r,own:=true,xs:=[]++[] }) mY hd rfl ?_ (fun k _=>by simp [Cz.gu]) (.inr ⟨by simp [Cz.gu],rfl⟩) (.inl (Nat.le_refl _)) ?_ (fun _ _ _=>rfl) ⟨rfl,rfl,rfl,Nat.le_refl _⟩ ?_ rfl ?_⟩
  ·intro s j lO;simp [Cz.gu,lO]
  ·intro hc;simp [Cz.gu] at hc;have:=h1.yj hc;omega
  ·unfold fJ;simp [Cz.gu]
  ·simp [Cz.gu,qW]
 ·have aa1:B<w'.heap.size:=(Array.getElem?_eq_some_iff.1 hg).1;have Z2:w.heap.size≤B∨∃s j,c.own B=some (.sp s j)∧(s=d∨∀sl A,nth G3 s=some sl→nth sl.bU j≠some (some A)):=by
   rcases hB with hB | hB
   ·exact .inl hB
   ·obtain ⟨s,j,q1,q2⟩:=hxb B hB;exact .inr ⟨s,j,q1,.inr q2⟩
  have hnB:∀k,k<w.heap.size→c.ok k→k≠B:=by
   rintro k hk iP rfl
   rcases Z2 with hB | ⟨s,j,hB,_⟩
   ·omega
   ·unfold Cz.ok at iP;rw [hB] at iP;cases iP
  have x9:lk w w' c.ok (c.gu d (.at B o cp) (some B)).ok:=⟨xA.2.2.2,fun k hk iP=>ym k hk (hnB k hk iP),fun k hk iP=>by
   unfold Cz.ok Cz.gu;simp only;rw [if_neg]
   ·exact iP
   ·intro e';exact hnB k hk iP (Option.some.inj e').symm⟩
  refine ⟨c.gu d (.at B o cp) (some B),h1.place (B:=B) (A:={ r:=r,own:=true,xs:=xs++ys }) mY hd rfl ?_ ?_ (.inl (by simp [Cz.gu])) Z2 (fun _=>aa1) ym xA ?_ v1 ?_⟩
  ·intro s j lO;simp [Cz.gu,lO]
  ·intro k hk;simp only [Cz.gu];rw [if_neg (by intro e';exact hk (Option.some.inj e').symm)]
  ·unfold fJ;simp only [Cz.gu,and_self,if_true];refine ⟨trivial,by simpa using hle,⟨cur,te,hg,py⟩,(ey.sh rfl).2 ?_⟩;exact wE _ (vx++vy) (xs++ys) (cq.append vx vy xs ys (cq.stays x9 _ _ Ve) (cq.stays x9 _ _ Vf)) hr
  ·simp only [Cz.gu,and_self,if_true,List.length_append];exact v2
end Go.TM
namespace Go.TM
open Go Go.RowKit
theorem Ay {b:Bool} {t e:N} {y:St} (h:(N.br b t e).val=some y):(b=true∧t.val=some y)∨(b=false∧e.val=some y):=by
 cases b
 ·exact .inr ⟨rfl,h⟩
 ·exact .inl ⟨rfl,h⟩
theorem jI {b:Bool} {t:N} {y:St} (h:(N.br b t N.fail).val=some y):b=true∧t.val=some y:=by
 rcases Ay h with h | ⟨_,h⟩
 ·exact h
 ·simp [N.val] at h
theorem Po {P:Program} {T:oU} (hT:jZ P T) {w0:World} {mu:Mu} {c:Cz} {st:St} {a:Act} {w:World} (h:Rel w0 mu c st a w)
  {d:Option Nat} {t ty:Nat} {x y:V} {ux uy:Value} (hx:il c st w x ux) (hy:il c st w y uy) {bQ:St} (hv:(Ls T st d t x y).val=some bQ) (hd:∀k,d=some k→k<a.tmps.size) :
  ∃v w',(Builtin.append_ #[t,t] ty #[ux,uy]).run P w=.ok v w'∧∃c',Rel w0 mu c' bQ (a.put d v) w':=by
 unfold Ls at hv
 cases ht:T.elem t with
 |none=>simp [ht,N.val] at hv
 |some p=>
  obtain ⟨r,bytes⟩:=p;simp only [ht] at hv;have tail:∀(xs:List (aO r)) (used:List (Nat×Nat)),(match y with
     |.one c=>oV st r c fun ys=>N.br (Nat.ble ((xs.length+ys.length)*bytes) lim)
       (gu (used.foldl (fun (s:St) (p:Nat×Nat)=>fk s p.1 p.2 none) st) d { r:=r,own:=true,xs:=xs++ys }) .fail
     |_=>N.fail).val=some bQ→
    ∃ys k s0,d=some k∧nth (used.foldl (fun (s:St) (p:Nat×Nat)=>fk s p.1 p.2 none) st) k=some s0∧(xs.length+ys.length)*bytes≤lim∧RdS w c.ok r uy ys∧
     bQ=sO (fun s=>{ s with v:=.one (.ref k 0 (s0.ag+1) .full),bU:=[some { r:=r,own:=true,xs:=xs++ys }],ag:=s0.ag+1 }) (used.foldl (fun (s:St) (p:Nat×Nat)=>fk s p.1 p.2 none) st) k:=by
   intro xs used hv
   cases y with
   |agg _=>simp [N.val] at hv
   |p8 _=>simp [N.val] at hv
   |one cy=>
    obtain ⟨ys,hv,hr⟩:=FK h hy hv;obtain ⟨hb,hv⟩:=jI hv;obtain ⟨k,s0,hk,mY,x9⟩:=Aw hv;exact ⟨ys,k,s0,hk,mY,Nat.le_of_ble_eq_true hb,hr,x9⟩
  cases x with
  |agg _=>simp [N.val] at hv
  |p8 _=>simp [N.val] at hv
  |one cx=>cases cx with
   |gw=>
    obtain ⟨ys,k,s0,rfl,mY,hb,hr,rfl⟩:=tail [] [] hv;exact JN hT h ht mY (hd k rfl) hb hr (.inl ⟨hx,rfl⟩)
   |ref a' j g vw=>
    simp only at hv
    cases hA:cO st a' j g with
    |none=>simp [hA,N.val] at hv
    |some A=>
     simp only [hA] at hv;obtain ⟨lq,hv⟩:=j9 hv;have Lt:A.md=.sh:=by cases A.md;rfl
     cases hc:ez r A.xs with
     |none=>simp [hc,N.val] at hv
     |some xs=>
      simp only [hc] at hv;obtain ⟨e,he⟩:=dm hc;subst e;simp only at he;subst he;obtain ⟨ys,k,s0,rfl,mY,hb,hr,rfl⟩:=tail (vw.app A.xs) [(a',j)] hv;obtain ⟨Vg,LG⟩:=h.kill a' j;obtain ⟨sl,JK,UI,JL⟩:=dK hA;have MU:=h.bU a' j sl A JK JL;have hs:=hx.2.2 A hA;refine JN hT Vg ht mY (hd k rfl) hb hr ?_
      cases hl:c.lc a' j with
      |nil=>
       unfold qW at hs;rw [hl] at hs;exact .inl ⟨hs.1,List.length_eq_zero_iff.1 hs.2⟩
      |«at» b off cap=>
       unfold qW at hs;rw [hl] at hs;obtain ⟨ad,n,rfl,hn,C8,MN⟩:=hs;unfold fJ at MU;rw [hl] at MU;obtain ⟨ho,_,aml,w6⟩:=MU;rw [lq] at ho;exact .inr ⟨a',j,b,off,vw.lo,cap,n,ad,ho,LG,rfl,hn,C8,MN,aml,fun i x hi=>(ey.sh Lt).1 w6 _ x (View.Bx vw A.xs hi)⟩
   |_=>simp [N.val] at hv
theorem Az {w:World} {ok:Nat→Prop}:(r:RT)→(vs:List Value)→ll r vs→eU w ok r vs (Ak r)
 |.nil,vs,h=>h
 |.cons (.int k) r,vs,⟨l,h,h'⟩=>⟨.int k 0,l,h,yh.2 rfl,Az r l h'⟩
 |.cons .bool r,vs,⟨l,h,h'⟩=>⟨.bool false,l,h,Bw.2 rfl,Az r l h'⟩
 |.cons .str r,vs,⟨l,h,h'⟩=>⟨.string ByteArray.empty,l,h,ED.2 rfl,Az r l h'⟩
 |.cons (.sl q) r,vs,⟨l,h,h'⟩=>⟨.slice none 0 0,l,h,(rf _ _ _ _ _).2 (.inl ⟨rfl,rfl⟩),Az r l h'⟩
theorem cq.replicate {w:World} {ok:Nat→Prop} {r:RT} {vs:List Value} {x:aO r} (h:eU w ok r vs x):(n:Nat)→cq w ok r ((List.replicate n vs).flatten) (List.replicate n x)
 |0=>rfl
 |n+1=>⟨vs,(List.replicate n vs).flatten,by simp [List.replicate_succ],h,cq.replicate h n⟩
theorem Pp (z:Array Value) (n W:Nat) (hz:z.size=W) (hW:0<W):((Array.range (n*W)).map (z[· % z.size]!)).toList=(List.replicate n z.toList).flatten:=by
 subst hz
 induction n with
 |zero=>simp
 |succ n ih=>
  have e1:((Array.range ((n+1)*z.size)).map (z[· % z.size]!)).toList=((Array.range (n*z.size)).map (z[· % z.size]!)).toList++z.toList:=by
   apply List.ext_getElem
   ·simp [Nat.add_mul]
   ·intro k h1 h2;simp only [Array.getElem_toList,Array.getElem_map,Array.getElem_range];rw [List.getElem_append]
    by_cases hk:k<n*z.size
    ·rw [dif_pos (by simpa using hk)];simp
    ·rw [dif_neg (by simpa using hk)];have LG:k<(n+1)*z.size:=by simpa using h1
     rw [Nat.add_mul,Nat.one_mul] at LG;have hm:k % z.size=k-n*z.size:=by
      have:k=(k-n*z.size)+n*z.size:=by omega
      rw [this,Nat.add_mul_mod_self_right,Nat.mod_eq_of_lt (by omega)];omega
     have dM:k-n*z.size<z.size:=by omega
     simp [hm,dM]
  rw [e1,ih];rw [List.replicate_succ',List.flatten_append];simp
theorem Vh {P:Program} {T:oU} (hT:jZ P T) {w0:World} {mu:Mu} {c:Cz} {st:St} {a:Act} {w:World} (h:Rel w0 mu c st a w)
  {d:Option Nat} {t:Nat} {x y:V} {ux uy:Value} (hx:il c st w x ux) (hy:il c st w y uy) {bQ:St} (hv:(UW T st d t x y).val=some bQ) (hd:∀k,d=some k→k<a.tmps.size) :
  ∃v w',(Instr.makeSlice t ux uy).run P w=.ok v w'∧ln w w'∧∃c',Rel w0 mu c' bQ (a.put d v) w':=by
 unfold UW at hv
 split at hv
 ·rename_i r bytes n m ht;obtain ⟨hnm,hv⟩:=jI hv;obtain ⟨hn,hv⟩:=jI hv;obtain ⟨hb,hv⟩:=jI hv;obtain ⟨k,s0,rfl,mY,rfl⟩:=Aw hv;have hnm:=of_decide_eq_true hnm;have hn:=of_decide_eq_true hn;have hb:=Nat.le_of_ble_eq_true hb;subst hnm;obtain ⟨n,rfl⟩:=Int.eq_ofNat_of_zero_le hn;obtain ⟨e,i,z,hu,hi,py,LB,hby,Rb,hz,UJ⟩:=hT.elem t r bytes ht;have Rc:z.cells.size=r.width:=by have:=ll.length r _ UJ;simpa using this
  have e1:ux=.int .i64 n:=hx;have e2:uy=.int .i64 n:=hy;subst e1 e2;unfold lim at hb;simp only [Int.toNat_natCast] at hb;have hn1:n≤35184372088832:=by
   have:n*1≤n*bytes:=Nat.mul_le_mul_left _ Rb;omega
  have aso:IntKind.i64.wrap (n:Int)=n:=by
   have:=IntKind.wrap_i64 (n:Int);rw [this];omega
  have ve:(Instr.makeSlice t (.int .i64 n) (.int .i64 n)).run P w=
    .ok (.slice (some ⟨w.heap.size,0,none⟩) n n) (w.alloc (.cells ((Array.range (n*r.width)).map (z.cells[· % z.cells.size]!)) e (0,0))):=by
   have:=run_make (P:=P) w t e i z hu hi hz .i64 .i64 n n (by omega) (Int.le_refl _) (by
    have h2:((i.bytes*n:Nat):Int)≤281474976710656:=by rw [hby,Nat.mul_comm];omega
    rwa [Int.natCast_mul] at h2) (by omega)
   simpa [madeCells,py] using this
  refine ⟨_,_,ve,ln.alloc _ _,?_⟩;have JO:cq w c.ok r ((List.replicate n z.cells.toList).flatten) (List.replicate n (Ak r)):=cq.replicate (Az r _ UJ) n;have:=h.fresh (r:=r) (xs:=List.replicate n (Ak r)) (cur:=(Array.range (n*r.width)).map (z.cells[· % z.cells.size]!)) (ty:=e) (cap:=n) mY (hd k rfl) (by simp) (by simp) JO (by
   rw [←Pp z.cells n r.width Rc LB,List.take_length])
  simpa using this
 ·simp [N.val] at hv
end Go.TM
namespace Go.TM
open Go Go.RowKit
theorem Dg (off:Nat):(l:List Value)→(k:Nat)→(cells:Array Value)→off+k+l.length≤cells.size→
  ((l.zipIdx k).foldl (fun cs (p:Value×Nat)=>cs.setIfInBounds (off+p.2) p.1) cells).toList=fc cells.toList (off+k) l
 | [],k,cells,_=>by simp [fc]
 |v::l,k,cells,h=>by
  simp only [List.zipIdx_cons,List.foldl_cons,List.length_cons] at h ⊢;rw [Dg off l (k+1) _ (by simp;omega)];rw [Array.toList_setIfInBounds];apply List.ext_getElem?;intro q;rw [vd (by simp;omega),vd (by simp;omega),List.getElem?_set];simp only [List.length_cons]
  by_cases h1:off+(k+1)≤q∧q<off+(k+1)+l.length
  ·rw [if_pos h1,if_pos (by omega)];rw [show q-(off+k)=(q-(off+(k+1)))+1 by omega,List.getElem?_cons_succ]
  ·rw [if_neg h1]
   by_cases h2:off+k=q
   ·subst h2;rw [if_pos rfl,if_pos (by simp;omega),if_pos (by omega)];simp
   ·rw [if_neg h2,if_neg (by omega)]
theorem JP {place:Nat→Option (Nat×Nat)} {cells:Array Value} {i:Nat} {v:Value} {rest:List (Nat×Value)} {off size:Nat} (hp:place i=some (off,size)) (hv:v.cells.size=size) (hle:off+size≤cells.size) :
  Instr.fill place cells ((i,v)::rest)=Instr.fill place (fc cells.toList off v.cells.toList).toArray rest:=by
 have hf:=Dg off v.cells.toList 0 cells (by simp;omega);have e:(v.cells.zipIdx.foldl (fun cs (p:Value×Nat)=>cs.setIfInBounds (off+p.2) p.1) cells)=(fc cells.toList off v.cells.toList).toArray:=by
  apply Array.ext';rw [←Array.foldl_toList,Array.toList_zipIdx];simpa using hf
 conv=>lhs;unfold Instr.fill
 simp only [hp];rw [if_neg (by simp;omega)];exact congrArg (fun cs=>Instr.fill place cs rest) e
def sy (c:Cz) (st:St) (w:World) (ps:List (Nat×V)) (us:List (Nat×Value)):Prop:=
 ps.length=us.length∧∀(i:Nat) p u,ps[i]?=some p→us[i]?=some u→p.1=u.1∧il c st w p.2 u.2
theorem sy.cons {c:Cz} {st:St} {w:World} {p:Nat×V} {u:Nat×Value} {ps:List (Nat×V)} {us:List (Nat×Value)} (h:sy c st w (p::ps) (u::us)) :
  (p.1=u.1∧il c st w p.2 u.2)∧sy c st w ps us:=
 ⟨h.2 0 p u rfl rfl,by have:=h.1;simpa using this,fun i a b ha hb=>h.2 (i+1) a b (by simpa using ha) (by simpa using hb)⟩
theorem Dh {w0:World} {mu:Mu} {c:Cz} {st:St} {a:Act} {w:World} (h:Rel w0 mu c st a w) {r:RT} (hW:0<r.width):(ps:List (Nat×V))→(us:List (Nat×Value))→sy c st w ps us→
  (i:Nat)→(k:List (aO r)→List (Nat×Nat)→N)→{bQ:St}→(Bv st r i ps k).val=some bQ→(cells:Array Value)→cells.size=(i+ps.length)*r.width→
  ∃xs m,(k xs m).val=some bQ∧xs.length=ps.length∧(∀p∈m,∃g A,cO st p.1 p.2 g=some A)∧
   ∃vs:List Value,vs.length=ps.length*r.width∧Instr.fill (fun i=>some (i*r.width,r.width)) cells us=some (cells.toList.take (i*r.width)++vs).toArray∧
   ∀ok:Nat→Prop,(∀b,c.ok b→ok b)→(∀p∈m,∀b,c.own b=some (.sp p.1 p.2)→ok b)→cq w ok r vs xs
 | [],us,hp,i,k,bQ,hv,cells,py=>by
  have:us=[]:=by have:=hp.1;simp at this;exact List.length_eq_zero_iff.1 this.symm
  subst this;refine ⟨[],[],hv,rfl,fun p hp=>by simp at hp,[],by simp,?_,fun _ _ _=>rfl⟩;simp only [Instr.fill,List.append_nil];simp at py;rw [List.take_of_length_le (by simp;omega)]
 |(p,v)::ps,us,hp,i,k,bQ,hv,cells,py=>by
  cases us with
  |nil=>have:=hp.1;simp at this
  |cons u us=>
   obtain ⟨⟨hpu,hvu⟩,lP⟩:=hp.cons;simp only [Bv] at hv;obtain ⟨hc,hv⟩:=j9 hv;rw [Bool.and_eq_true] at hc;have hpi:=Nat.eq_of_beq_eq_true hc.2;obtain ⟨Ax,_⟩:=hvu.cells hc.1;obtain ⟨x,m1,h1,h2,h3⟩:=Da h r v.cells _ Ax _ hv;have hlen:u.2.cells.toList.length=r.width:=by
    have:=h3 (fun _=>True) (fun _ _=>trivial) (fun _ _ _ _=>trivial);exact eU.length r _ x this
   simp only [List.length_cons] at py;have hm1:(i+(ps.length+1))*r.width=i*r.width+r.width+ps.length*r.width:=by rw [Nat.add_mul,Nat.add_mul];omega
   have hle:i*r.width+r.width≤cells.size:=by omega
   have Vi:=JP (place:=fun i=>some (i*r.width,r.width)) (cells:=cells) (i:=i) (v:=u.2) (rest:=us) rfl (by simpa using hlen) hle;obtain ⟨xs,m2,g1,g2,g3,vs,g4,g5,g6⟩:=Dh h hW ps us lP (i+1) _ h1 (fc cells.toList (i*r.width) u.2.cells.toList).toArray (by
    rw [List.size_toArray,oW (by simp at hlen ⊢;omega)];simp;rw [py];congr 1;omega)
   refine ⟨x::xs,m1++m2,g1,by simp [g2],fun q hq => ?_,u.2.cells.toList++vs,by simp at hlen ⊢;rw [hlen,g4,Nat.add_mul];omega,?_,fun ok ho hm=>⟨_,vs,rfl,h3 ok ho (fun q hq=>hm q (by simp [hq])),g6 ok ho (fun q hq=>hm q (by simp [hq]))⟩⟩
   ·rcases List.mem_append.1 hq with hq | hq
    ·exact h2 q hq
    ·exact g3 q hq
   ·have e:(u:Nat×Value)=(i,u.2):=by rw [←hpi];simp at hpu;rw [hpu]
    rw [e,Vi,g5]
    congr 2
    rw [←List.append_assoc]
    congr 1
    show List.take ((i+1)*r.width) (fc cells.toList (i*r.width) u.2.cells.toList)=_;unfold fc;rw [Nat.add_mul,Nat.one_mul];rw [List.take_append_of_le_length (by simp at hlen ⊢;omega)];rw [List.take_of_length_le (by simp at hlen ⊢;omega)]
theorem G8 {P:Program} {T:oU} (hT:jZ P T) {w0:World} {mu:Mu} {c:Cz} {st:St} {a:Act} {w:World} (h:Rel w0 mu c st a w)
  {d:Option Nat} {t len:Nat} {ps:List (Nat×V)} {us:Array (Nat×Value)} (hp:sy c st w ps us.toList) {bQ:St} (hv:(An T st d t len ps).val=some bQ) (hd:∀k,d=some k→k<a.tmps.size) :
  ∃v w',(Instr.buildSlice t len us).run P w=.ok v w'∧ln w w'∧∃c',Rel w0 mu c' bQ (a.put d v) w':=by
 unfold An at hv
 cases ht:T.elem t with
 |none=>simp [ht,N.val] at hv
 |some p=>
  obtain ⟨r,bytes⟩:=p;simp only [ht] at hv;obtain ⟨hc,hv⟩:=j9 hv;rw [Bool.and_eq_true] at hc;have hlen:=Nat.eq_of_beq_eq_true hc.1;have amn:=Nat.le_of_ble_eq_true hc.2;obtain ⟨e,i,z,hu,hi,py,LB,hby,Rb,hz,UJ⟩:=hT.elem t r bytes ht;have Rc:z.cells.size=r.width:=by have:=ll.length r _ UJ;simpa using this
  obtain ⟨xs,m,h1,h2,h3,vs,h4,h5,h6⟩:=Dh h LB ps us.toList hp 0 _ hv ((Array.range (len*r.width)).map (z.cells[· % z.cells.size]!)) (by simp [hlen]);obtain ⟨k,s0,rfl,mY,rfl⟩:=Aw h1;have JO:cq w (c.drop m).ok r vs xs:=h6 _ (fun b hb=>Cz.C9 m c b hb) (fun p hp k hk=>Cz.GL m c k hk hp);have hxl:xs.length=len:=by rw [h2,hlen]
  have aa3:(Instr.buildSlice t len us).run P w=.ok (.slice (some ⟨w.heap.size,0,none⟩) len len) (w.alloc (.cells vs.toArray e (0,0))):=by
   simp only [Nat.zero_mul,List.take_zero,List.nil_append] at h5
   by_cases h0:len=0
   ·subst h0;have YE:ps=[]:=List.length_eq_zero_iff.1 hlen;subst YE;have Yf:us = #[]:=by have:=hp.1;simp at this;exact Array.eq_empty_of_size_eq_zero this.symm
    subst Yf;have Gt:vs=[]:=by simp at h4;exact h4
    subst Gt;simp [Instr.buildSlice,run_underlying hu,sizeOf,typeInfo,hi,Instr.fill,newRow,show Array.range 0 = #[] from rfl]
   ·refine run_buildSlice (P:=P) w t e len us vs.toArray i z hu hi hz (by rw [py];omega) (by rw [py];intro h;rcases Nat.mul_eq_zero.1 h with h | h<;>omega) ?_;rw [py];exact h5
  have hfr:=(h.freeze m).fresh (r:=r) (xs:=xs) (cur:=vs.toArray) (ty:=e) (cap:=len) mY (hd k rfl) (by omega) (by simp [h4,hlen]) JO (by simp);rw [hxl] at hfr;exact ⟨_,_,aa3,ln.alloc _ _,hfr⟩
theorem ll.rel {c:Cz} {st:St} {w:World}:(r:RT)→(vs:List Value)→ll r vs→iQ c st w ((gh r (Ak r)).map fun | .shr _ _=>.gw | c=>c) vs
 |.nil,vs,h=>by simp only [ll] at h;subst h;exact ⟨rfl,fun i x v hx=>by simp [gh] at hx⟩
 |.cons t r,vs,h=>by
  have key:∃v l x,vs=v::l∧ll r l∧((fun | .shr _ _=>.gw | c=>c:CV→CV) (Pd t (Pc t)))=x∧qd c st w x v:=by
   cases t with
   |int k=>obtain ⟨l,h,h'⟩:=h;exact ⟨_,l,_,h,h',rfl,rfl⟩
   |bool=>obtain ⟨l,h,h'⟩:=h;exact ⟨_,l,_,h,h',rfl,rfl⟩
   |str=>obtain ⟨l,h,h'⟩:=h;exact ⟨_,l,_,h,h',rfl,rfl⟩
   |sl q=>obtain ⟨l,h,h'⟩:=h;exact ⟨_,l,_,h,h',rfl,rfl⟩
  obtain ⟨v,l,x,rfl,hl,hx,hr⟩:=key;obtain ⟨h1,h2⟩:=ll.rel (c:=c) (st:=st) (w:=w) r l hl;refine ⟨by simp [gh] at h1 ⊢;exact h1,fun i y u hy hu => ?_⟩
  cases i with
  |zero=>
   simp [gh,Ak] at hy hu;subst hu;rw [←hy];have:(match Pd t (Pc t) with | .shr _ _=>CV.gw | c=>c)=x:=hx;rw [this];exact hr
  |succ i=>exact h2 i y u (by simpa [gh,Ak] using hy) (by simpa using hu)
theorem AA {c:Cz} {st:St} {w:World} {r:RT} {vs:List Value} (h:ll r vs):iQ c st w (rk r) vs:=ll.rel r vs h
theorem Di {P:Program} {T:oU} {c:Cz} {st:St} {w:World} {t:Nat} {du:List (Nat×Nat)} (YF:∀f o s,T.off t f=some o→T.fsz t f=some s→du[f]?=some (o,s)) :
  (ps:List (Nat×V))→(us:List (Nat×Value))→sy c st w ps us→(cs l:List CV)→(cells:Array Value)→iQ c st w cs cells.toList→rp T t cs ps=some l→
  ∃yb,Instr.fill (du.toArray[·]?) cells us=some yb∧iQ c st w l yb.toList
 | [],us,hp,cs,l,cells,hl,h=>by
  have:us=[]:=by have:=hp.1;simp at this;exact List.length_eq_zero_iff.1 this.symm
  subst this;simp only [rp,Option.some.injEq] at h;subst h;exact ⟨cells,rfl,hl⟩
 |(f,v)::ps,us,hp,cs,l,cells,hl,h=>by
  cases us with
  |nil=>have:=hp.1;simp at this
  |cons u us=>
   obtain ⟨⟨hpu,hvu⟩,lP⟩:=hp.cons;simp only [rp] at h
   cases ho:T.off t f with
   |none=>simp [ho] at h
   |some o=>
    cases hs:T.fsz t f with
    |none=>simp [ho,hs] at h
    |some s=>
     simp only [ho,hs] at h;obtain ⟨hc,h⟩:=bJ h;rw [Bool.and_eq_true] at hc;obtain ⟨Ax,_⟩:=hvu.cells hc.1;have hlen:v.cells.length=s:=Nat.eq_of_beq_eq_true hc.2
     cases hpc:putCells cs o v.cells with
     |none=>simp [hpc] at h
     |some rZ=>
      simp only [hpc] at h;obtain ⟨hle,rfl⟩:=B9 hpc;have h1:=hl.1;have h2:=Ax.1;have Vi:=JP (place:=(du.toArray[·]?)) (cells:=cells) (i:=f) (v:=u.2) (rest:=us) (off:=o) (size:=s) (by simpa using YF f o s ho hs) (by simp at h2;omega) (by simp at h1 h2;omega);obtain ⟨yb,g1,g2⟩:=Di (P:=P) YF ps us lP _ l (fc cells.toList o u.2.cells.toList).toArray (by simpa using hl.fc Ax o hle) h;refine ⟨yb,?_,g2⟩;have e:(u:Nat×Value)=(f,u.2):=by simp at hpu;rw [hpu]
      rw [e,Vi];exact g1
theorem Vj {P:Program} {T:oU} (hT:jZ P T) {w0:World} {mu:Mu} {c:Cz} {st:St} {a:Act} {w:World} (h:Rel w0 mu c st a w)
  {d:Option Nat} {t:Nat} {r:RT} {ps:List (Nat×V)} {us:Array (Nat×Value)} {l:List CV} (hr:T.row t=some r) (hg:T.agg t=true) (hp:sy c st w ps us.toList)
  (hf:rp T t (rk r) ps=some l) (hd:∀k,d=some k→k<a.tmps.size) :
  ∃v,(∀w':World,(Instr.build t us).run P w'=.ok v w')∧Rel w0 mu c (bR st d (.agg l)) (a.put d v) w:=by
 obtain ⟨i,z,hi,hz,UJ⟩:=hT.row t r hr;obtain ⟨fs,du,hu,YF,hpo⟩:=hT.bld t hg;obtain ⟨yb,g1,g2⟩:=Di (P:=P) (c:=c) (st:=st) (w:=w) hpo ps us.toList hp (rk r) l z.cells (AA UJ) hf;refine ⟨.agg yb,fun w'=>run_build w' t us yb ?_,h.bR ⟨yb,rfl,g2⟩ hd⟩;unfold Program.built;simp only [hi,hu,hz,YF];exact g1
end Go.TM
namespace Go.TM
open Go Go.RowKit
theorem Vk {P:Program} {w:World} {op:BinOp} {t:TypeId} {k:IntKind} {a b:Int} {r:Bool} (h:UT op a b=some r) :
  (binOp op t (.int k a) (.int k b)).run P w=.ok (.bool r) w:=by
 cases op<;>simp only [UT,Option.some.injEq,reduceCtorEq] at h<;>subst h<;>unfold binOp Op.intCmp<;>simp<;>rfl
theorem Pq {P:Program} {w:World} {op:BinOp} {t:TypeId} {k:IntKind} {a b n:Int} (h:GU op k a b=some n) :
  (binOp op t (.int k a) (.int k b)).run P w=.ok (.int k n) w:=by
 cases op<;>simp [GU] at h<;>subst h<;>simp [binOp,Op.intArith,Op.intBits]
theorem Vl {P:Program} {w:World} {op:BinOp} {t:TypeId} {k:IntKind} {a b n:Int} (h:UU op k a b=some n) (hb:b≠0) :
  (binOp op t (.int k a) (.int k b)).run P w=.ok (.int k n) w:=by
 cases op<;>simp [UU] at h<;>subst h<;>simp [binOp,Op.intDiv,hb]
theorem Ps {P:Program} {w:World} {op:BinOp} {t:TypeId} {k l:IntKind} {a b n:Int} (h:GV op k a b.toNat=some n) (hb:0≤b) :
  (binOp op t (.int k a) (.int l b)).run P w=.ok (.int k n) w:=by
 have tX:¬b<0:=by omega
 cases op<;>simp [GV] at h<;>subst h<;>simp [binOp,Op.shift,tX]
theorem oX {P:Program} {w:World} (op:BinOp) (t:TypeId) (x y:Operand) (a b:Value) (h:¬(a=.nilIface∧b=.nilIface)) (h2:∀l m,¬(a=.agg l∧b=.agg m)) :
  (eqGuard op t x y a b).run P w=.ok () w:=by
 unfold eqGuard
 cases op<;>cases a<;>cases b<;>simp_all
theorem YG {P:Program} {T:oU} (hT:jZ P T) {w0:World} {mu:Mu} {c:Cz} {st:St} {a:Act} {w:World} (h:Rel w0 mu c st a w) (hE:∀t,T.eq t=true→∀(l m:List CV) (us vs:Array Value) (b:Bool) (op:BinOp) (ox oy:Operand),T.fits t l=true→p9 l m=some b→
   iQ c st w l us.toList→iQ c st w m vs.toList→∀w':World,(eqGuard op t ox oy (.agg us) (.agg vs)).run P w'=.ok () w'∧(Op.equal t (.agg us) (.agg vs)).run P w'=.ok b w')
  {d:Option Nat} {t:Nat} {op:BinOp} {ox oy:Operand} {x y:V} {ux uy:Value} (hx:il c st w x ux) (hy:il c st w y uy) {bQ:St} (hv:(zY T st d op t x y).val=some bQ) (hd:∀k,d=some k→k<a.tmps.size) :
  ∃v,(∀w':World,(do eqGuard op t ox oy ux uy;binOp op t ux uy:Sem Value).run P w'=.ok v w')∧Rel w0 mu c bQ (a.put d v) w:=by
 have fin:∀(cv:CV) (v:Value),qd c st w cv v→(N.done (bR st d (.one cv))).val=some bQ→(∀w':World,(eqGuard op t ox oy ux uy).run P w'=.ok () w')→(∀w':World,(binOp op t ux uy).run P w'=.ok v w')→
   ∃v,(∀w':World,(do eqGuard op t ox oy ux uy;binOp op t ux uy:Sem Value).run P w'=.ok v w')∧Rel w0 mu c bQ (a.put d v) w:=by
  intro cv v hr x9 hg hb;simp only [N.val,Option.some.injEq] at x9;subst x9;refine ⟨v,fun w' => ?_,h.bR hr hd⟩;simp [Sem.run_bind,hg,hb]
 cases x with
 |p8 _=>simp [zY,N.val] at hv
 |agg l=>cases y with
  |p8 _=>simp [zY,N.val] at hv
  |one _=>simp [zY,N.val] at hv
  |agg m=>
   obtain ⟨us,rfl,hl⟩:=hx;obtain ⟨vs,rfl,hm⟩:=hy;simp only [zY] at hv;obtain ⟨ht,hv⟩:=j9 hv;rw [Bool.and_eq_true] at ht;obtain ⟨ht,Ax⟩:=ht
   cases hc:p9 l m with
   |none=>cases op<;>simp [hc,N.val] at hv
   |some b=>
    have g:=hE t ht l m us vs b op ox oy Ax hc hl hm
    cases op<;>simp only [hc] at hv<;>try (simp [N.val] at hv;done)
    ·exact fin (.bool b) (.bool b) rfl hv (fun w'=>(g w').1) (fun w'=>by simp [binOp,Sem.run_bind,(g w').2])
    ·exact fin (.bool (!b)) (.bool (!b)) rfl hv (fun w'=>(g w').1) (fun w'=>by simp [binOp,Sem.run_bind,(g w').2])
 |one cx=>cases y with
  |p8 _=>cases cx<;>simp [zY,N.val] at hv
  |agg _=>cases cx<;>simp [zY,N.val] at hv
  |one cy=>
   cases cx<;>cases cy<;>try (simp [zY,N.val] at hv;done)
   ·rename_i k p l q;have e1:ux=.int k p:=hx;have e2:uy=.int l q:=hy;subst e1 e2;have hg:=fun w'=>oX (P:=P) (w:=w') op t ox oy (.int k p) (.int l q) (by simp) (by simp)
    simp only [zY] at hv
    by_cases hs:op=.shl∨op=.shr
    ·have w7:(match GV op k p q.toNat with | some n=>N.br (decide (0≤q)) (.done (bR st d (.one (.int k n)))) .fail | none=>.fail).val=some bQ:=by
      rcases hs with rfl | rfl<;>exact hv
     cases hsh:GV op k p q.toNat with
     |none=>simp [hsh,N.val] at w7
     |some n=>
      simp only [hsh] at w7;obtain ⟨hq,w7⟩:=jI w7;exact fin (.int k n) (.int k n) rfl w7 hg (fun _=>Ps hsh (of_decide_eq_true hq))
    ·have w7:(if k=l then (match UT op p q with
       |some t=>N.done (bR st d (.one (.bool t)))
       |none=>match GU op k p q with
        |some n=>.done (bR st d (.one (.int k n)))
        |none=>match UU op k p q with
         |some n=>.br (decide (q=0)) .fail (.done (bR st d (.one (.int k n))))
         |none=>.fail) else .fail).val=some bQ:=by
      cases op<;>first | exact hv | exact absurd (.inl rfl) hs | exact absurd (.inr rfl) hs
     by_cases hk:k=l
     ·subst hk;rw [if_pos rfl] at w7
      cases hc:UT op p q with
      |some r=>simp only [hc] at w7;exact fin (.bool r) (.bool r) rfl w7 hg (fun _=>Vk hc)
      |none=>
       simp only [hc] at w7
       cases ha:GU op k p q with
       |some n=>simp only [ha] at w7;exact fin (.int k n) (.int k n) rfl w7 hg (fun _=>Pq ha)
       |none=>
        simp only [ha] at w7
        cases hdv:UU op k p q with
        |none=>simp [hdv,N.val] at w7
        |some n=>
         simp only [hdv] at w7;rcases Ay w7 with ⟨_,w7⟩ | ⟨hq,w7⟩
         ·simp [N.val] at w7
         ·exact fin (.int k n) (.int k n) rfl w7 hg (fun _=>Vl hdv (of_decide_eq_false hq))
     ·rw [if_neg hk] at w7;simp [N.val] at w7
   ·rename_i p q;have e1:ux=.bool p:=hx;have e2:uy=.bool q:=hy;subst e1 e2;have hg:=fun w'=>oX (P:=P) (w:=w') op t ox oy (.bool p) (.bool q) (by simp) (by simp)
    have hq:∀u,P.underlying t=some u→u=.bool→∀w':World,(Op.equal t (.bool p) (.bool q)).run P w'=.ok (p==q) w':=by
     rintro u hu rfl w'
     have e:Op.equal t (.bool p) (.bool q)=Op.equalIn ((Op.maxDepth-1)+1) t (.bool p) (.bool q):=rfl;rw [e];simp only [Op.equalIn];simp [run_underlying hu]
    cases hk:T.kind t with
    |none=>cases op<;>simp [zY,hk,N.val] at hv
    |some ty=>cases ty with
     |int _=>cases op<;>simp [zY,hk,N.val] at hv
     |str=>cases op<;>simp [zY,hk,N.val] at hv
     |sl _=>cases op<;>simp [zY,hk,N.val] at hv
     |bool=>
      obtain ⟨u,hu,hud⟩:=hT.kind t .bool hk;have:=hq u hu hud
      cases op<;>simp only [zY,hk] at hv<;>try (simp [N.val] at hv;done)
      ·exact fin (.bool (p==q)) (.bool (p==q)) rfl hv hg (fun w'=>by simp [binOp,this w'])
      ·exact fin (.bool (!(p==q))) (.bool (!(p==q))) rfl hv hg (fun w'=>by simp [binOp,this w'])
   ·rename_i p q;have e1:ux=.string p:=hx;have e2:uy=.string q:=hy;subst e1 e2;have hg:=fun w'=>oX (P:=P) (w:=w') op t ox oy (.string p) (.string q) (by simp) (by simp)
    simp only [zY] at hv
    cases op<;>simp only at hv<;>try (simp [N.val] at hv;done)
    ·obtain ⟨hb,hv⟩:=jI hv;have hb:=Nat.le_of_ble_eq_true hb;unfold lim at hb;refine fin (.str (p++q)) (.string (p++q)) rfl hv hg (fun w' => ?_);have:¬((p.size+q.size:Nat):Int)>IntKind.i64.max:=by
      have:IntKind.i64.max=9223372036854775807:=by decide
      omega
     simp only [binOp,Op.stringOp];rw [if_neg this];rfl
    ·exact fin (.bool (wB p q)) (.bool (wB p q)) rfl hv hg (fun w'=>by simp [binOp,Op.stringOp,wB])
    ·exact fin (.bool (!wB p q)) (.bool (!wB p q)) rfl hv hg (fun w'=>by simp [binOp,Op.stringOp,wB])
   ·have e1:ux=.slice none 0 0:=hx;have e2:uy=.slice none 0 0:=hy;subst e1 e2;have hg:=fun w'=>oX (P:=P) (w:=w') op t ox oy (.slice none 0 0) (.slice none 0 0) (by simp) (by simp)
    simp only [zY] at hv
    cases he:T.elem t with
    |none=>cases op<;>simp [he,N.val] at hv
    |some p=>
     obtain ⟨e,i,z,hu,_⟩:=hT.elem t p.1 p.2 he;have hq:=fun w'=>run_equal_slice_nil (P:=P) w' t e none 0 0 hu
     cases op<;>simp only [he] at hv<;>try (simp [N.val] at hv;done)
     ·exact fin (.bool true) (.bool true) rfl hv hg (fun w'=>by simp [binOp,hq w'])
     ·exact fin (.bool false) (.bool false) rfl hv hg (fun w'=>by simp [binOp,hq w'])
   ·rename_i r xs;have e2:uy=.slice none 0 0:=hy;subst e2;obtain ⟨h1,h2⟩:=hx;rcases (rf _ _ _ _ _).1 h1 with ⟨h3,_⟩ | ⟨a0,cap,h3,_⟩
    ·exact absurd h3 h2
    ·subst h3;have hg:=fun w'=>oX (P:=P) (w:=w') op t ox oy (.slice (some a0) (List.length xs) cap) (.slice none 0 0) (by simp) (by simp)
     simp only [zY] at hv
     cases he:T.elem t with
     |none=>cases op<;>simp [he,N.val] at hv
     |some p=>
      obtain ⟨e,i,z,hu,_⟩:=hT.elem t p.1 p.2 he;have hq:=fun w'=>run_equal_slice_nil (P:=P) w' t e (some a0) (List.length xs) cap hu
      cases op<;>simp only [he] at hv<;>try (simp [N.val] at hv;done)
      ·exact fin (.bool false) (.bool false) rfl hv hg (fun w'=>by simp [binOp,hq w'])
      ·exact fin (.bool true) (.bool true) rfl hv hg (fun w'=>by simp [binOp,hq w'])
theorem Re {P:Program} {T:oU} (hT:jZ P T) {t:Nat} (h:T.kind t=some .str):P.underlying t=some .string:=by
 obtain ⟨u,hu,hd⟩:=hT.kind t .str h;simp only [descOf] at hd;rw [hu,hd]
theorem M0 {w0:World} {mu:Mu} {c:Cz} {st:St} {a:Act} {w:World} (_h:Rel w0 mu c st a w) {a' j g:Nat} {vw:View} {A:nu} {u:Value} (hA:cO st a' j g=some A)
  (hu:qd c st w (.ref a' j g vw) u):∃ad k,u=.slice ad (vw.app A.xs).length k:=by
 have hs:=hu.2.2 A hA
 cases hl:c.lc a' j with
 |nil=>unfold qW at hs;rw [hl] at hs;exact ⟨none,0,by rw [hs.2];exact hs.1⟩
 |«at» b off cap=>unfold qW at hs;rw [hl] at hs;obtain ⟨ad,k,h1,_⟩:=hs;exact ⟨some ad,k,h1⟩
theorem YH {P:Program} {T:oU} (hT:jZ P T) {w0:World} {mu:Mu} {c:Cz} {st:St} {a:Act} {w:World} (h:Rel w0 mu c st a w)
  {d:Option Nat} {t ty:Nat} {x:V} {ux:Value} (hx:il c st w x ux) {bQ:St} (hv:(Lr T st d t x).val=some bQ) (hd:∀k,d=some k→k<a.tmps.size) :
  ∃v,(∀w':World,(Builtin.len_ #[t] ty #[ux]).run P w'=.ok v w')∧Rel w0 mu c bQ (a.put d v) w:=by
 have sl:∀(n:Nat) (ad:Option Addr) (k:Nat),(T.elem t).isSome=true→ux=.slice ad n k→(N.done (bR st d (.one (.int .i64 n)))).val=some bQ→
   ∃v,(∀w':World,(Builtin.len_ #[t] ty #[ux]).run P w'=.ok v w')∧Rel w0 mu c bQ (a.put d v) w:=by
  intro n ad k he hu x9;simp only [N.val,Option.some.injEq] at x9;subst x9
  cases hq:T.elem t with
  |none=>simp [hq] at he
  |some p=>
   obtain ⟨r,b⟩:=p;obtain ⟨e,_,_,hd1,_⟩:=hT.elem t r b hq;subst hu;exact ⟨.int .i64 n,(fun w'=>by simp [Builtin.len_,run_underlying hd1,goInt]),h.bR (u:=.int .i64 n) rfl hd⟩
 cases x with
 |agg _=>simp [Lr,N.val] at hv
 |p8 _=>simp [Lr,N.val] at hv
 |one cx=>cases cx with
  |str s=>
   simp only [Lr] at hv
   cases hk:T.kind t with
   |none=>simp [hk,N.val] at hv
   |some y=>cases y with
    |str=>
     simp only [hk,N.val,Option.some.injEq] at hv;subst hv;have e:ux=.string s:=hx;subst e;exact ⟨.int .i64 s.size,(fun w'=>by simp [Builtin.len_,run_underlying (Re hT hk),goInt]),h.bR (u:=.int .i64 s.size) rfl hd⟩
    |_=>simp [hk,N.val] at hv
  |gw=>
   simp only [Lr] at hv
   cases hk:T.elem t with
   |none=>simp [hk,N.val] at hv
   |some p=>simp only [hk] at hv;exact sl 0 none 0 (by simp [hk]) hx hv
  |shr r xs=>
   simp only [Lr] at hv
   cases hk:T.elem t with
   |none=>simp [hk,N.val] at hv
   |some p=>
    simp only [hk] at hv;rcases (rf _ _ _ _ _).1 hx with ⟨h1,h2⟩ | ⟨ad,k,h1,_⟩
    ·exact sl xs.length none 0 (by simp [hk]) (by rw [h1,h2];rfl) hv
    ·exact sl xs.length (some ad) k (by simp [hk]) h1 hv
  |ref a' j g vw=>
   simp only [Lr] at hv
   cases hk:T.elem t with
   |none=>simp [hk,N.val] at hv
   |some p=>
    cases hA:cO st a' j g with
    |none=>simp [hk,hA,N.val] at hv
    |some A=>
     simp only [hk,hA] at hv;obtain ⟨ad,k,hu⟩:=M0 h hA hx;exact sl _ ad k (by simp [hk]) hu hv
  |_=>simp [Lr,N.val] at hv
theorem FM {P:Program} {t e:TypeId} {i:TypeInfo} (hu:P.underlying t=some (.slice e)) (hi:P.info? e=some i) (w:World) (k:IntKind) (a:Addr) (n c:Nat) (j:Int) (h0:0≤j) (hj:j<n) :
  (Instr.indexAt t (.slice (some a) n c) (.int k j)).run P w=.ok (.pointer (some (a.add (j.toNat*i.size)))) w:=by
 simp [Instr.indexAt,asIntOf,run_underlying hu,sizeOf,typeInfo,hi,h0,hj]
theorem Sq {P:Program} {T:oU} (hT:jZ P T) {w0:World} {mu:Mu} {c:Cz} {st:St} {a:Act} {w:World} (h:Rel w0 mu c st a w)
  {d:Option Nat} {t:Nat} {x y:V} {ux uy:Value} (hx:il c st w x ux) (hy:il c st w y uy) {bQ:St} (hv:(sP T st d t x y).val=some bQ) (hd:∀k,d=some k→k<a.tmps.size) :
  ∃v,(∀w':World,(Instr.indexAt t ux uy).run P w'=.ok v w')∧Rel w0 mu c bQ (a.put d v) w:=by
 cases ht:T.elem t with
 |none=>simp [sP,ht,N.val] at hv
 |some p=>
  obtain ⟨q,bytes⟩:=p;obtain ⟨e,i,z,hu,hi,py,LB,_,_,_,_⟩:=hT.elem t q bytes ht;have rd:∀(ys:List (aO q)) (k:IntKind) (j:Int),uy=.int k j→ev w c.ok (.sl q) ux ys→(N.br (decide (0≤j)) (.row q ys[j.toNat]? fun y=>.done (bR st d (.one (.nV q y 0)))) .fail).val=some bQ→
    ∃v,(∀w':World,(Instr.indexAt t ux uy).run P w'=.ok v w')∧Rel w0 mu c bQ (a.put d v) w:=by
   intro ys k j huy GZ hv;obtain ⟨hj,hv⟩:=jI hv;have hj:=of_decide_eq_true hj
   cases hr:ys[j.toNat]? with
   |none=>simp [hr,N.val] at hv
   |some y=>
    simp only [hr] at hv;change some _=some bQ at hv;obtain rfl:=Option.some.inj hv;have dM:j.toNat<ys.length:=(List.getElem?_eq_some_iff.1 hr).1;rcases (rf _ _ _ _ _).1 GZ with ⟨_,h2⟩ | ⟨ad,cap,h1,h2,h3,h4⟩
    ·rw [h2] at dM;simp at dM
    ·subst h1 huy;have lO:ys≠[]:=by intro e;rw [e] at dM;simp at dM
     obtain ⟨g1,g2,g3⟩:=h3 lO;refine ⟨_,(fun w'=>FM hu hi w' k ad ys.length cap j hj (by omega)),h.bR (v:=.one (.nV q y 0)) ?_ hd⟩;have MN:ad=⟨ad.block,ad.off,none⟩:=by cases ad;simp at g1 ⊢;exact g1
     refine ⟨ad.block,ad.off+j.toNat*q.width,?_,g2,g3,h4 _ y hr⟩;rw [MN,Addr.add_mid,py];rfl
  cases x with
  |agg _=>cases y<;>simp [sP,ht,N.val] at hv
  |p8 _=>cases y<;>simp [sP,ht,N.val] at hv
  |one cx=>cases y with
   |agg _=>cases cx<;>simp [sP,ht,N.val] at hv
   |p8 _=>cases cx<;>simp [sP,ht,N.val] at hv
   |one cy=>cases cx with
    |shr r xs=>cases cy with
     |int k j=>
      simp only [sP,ht] at hv
      cases hc:ez q xs with
      |none=>simp [hc,N.val] at hv
      |some ys=>
       simp only [hc] at hv;obtain ⟨rfl,rfl⟩:=dm hc;exact rd _ k j hy hx hv
     |_=>simp [sP,ht,N.val] at hv
    |ref a' j g vw=>cases cy with
     |int k n=>
      simp only [sP,ht] at hv
      cases hA:cO st a' j g with
      |none=>simp [hA,N.val] at hv
      |some A=>
       simp only [hA] at hv
       cases hc:ez q A.xs with
       |none=>simp [hc,N.val] at hv
       |some ys=>
        simp only [hc] at hv;obtain ⟨e',he⟩:=dm hc;subst e';simp only at he;subst he;obtain ⟨sl,JK,UI,JL⟩:=dK hA;have MU:=h.bU a' j sl A JK JL
        cases ho:A.own with
        |false=>
         simp only [ho] at hv;have Lt:A.md=.sh:=by cases A.md;rfl
         refine rd _ k n hy ?_ hv;refine C7 MU (hx.2.2 A hA) (fun _ h=>h) (fun b hq _ => ?_) (by rw [Lt];rfl);rw [ho,Lt] at hq;rcases hq with hq | hq<;>cases hq
        |true=>
         simp only [ho] at hv;obtain ⟨hn,hv⟩:=jI hv;obtain ⟨dM,hv⟩:=jI hv;have hn:=of_decide_eq_true hn;have dM:n.toNat<(vw.app A.xs).length:=by simp [Nat.blt] at dM;omega
         simp only [N.val,Option.some.injEq] at hv;subst hv;have hs:=hx.2.2 A hA;have euy:uy=.int k n:=hy;subst euy
         cases hl:c.lc a' j with
         |nil=>unfold qW at hs;rw [hl] at hs;omega
         |«at» b off cap=>
          unfold qW at hs;rw [hl] at hs;obtain ⟨ad,cc,rfl,hcc,C8,MN⟩:=hs;have hc0:cc≠0:=by omega
          refine ⟨_,(fun w'=>FM hu hi w' k ad _ cc n hn (by omega)),h.bR (v:=.one (.MS a' j g _ 0)) ?_ hd⟩;have amp:vw.idx n.toNat=vw.lo+n.toNat:=by cases vw<;>simp [View.lo,View.idx]
          rw [amp];have Gv:A.xs[vw.lo+n.toNat]?=some (vw.app A.xs)[n.toNat]:=View.Bx vw A.xs (List.getElem?_eq_getElem dM);refine ⟨rfl,hx.2.1,fun A2 Sr => ?_⟩;rw [hA] at Sr;obtain rfl:=Option.some.inj Sr;refine ⟨(List.getElem?_eq_some_iff.1 Gv).1,b,off,cap,hl,?_⟩;rw [MN hc0,Addr.add_mid,py,Nat.add_mul];simp only [Nat.add_zero];rw [Nat.add_assoc]
     |_=>simp [sP,ht,N.val] at hv
    |_=>cases cy<;>simp [sP,ht,N.val] at hv
end Go.TM
namespace Go.TM
open Go Go.RowKit
def M1 (c:Cz) (st:St) (w:World):Option V→Option Value→Prop
 |none,u=>u=none
 |some v,u=>∃x,u=some x∧il c st w v x
def Bd (o:Option Value) (l:Option Nat):Prop:=
 match l with
 |none=>o=none
 |some l=>∃k,o=some (.int k l)
theorem sb {c:Cz} {st:St} {w:World} {n:Nat} {lo hi:Option V} {ul uh:Option Value} (hl:M1 c st w lo ul) (hh:M1 c st w hi uh) {k:Option Nat→Option Nat→N} {bQ:St}
  (hv:(rn n lo hi k).val=some bQ):∃l h,(k l h).val=some bQ∧Bd ul l∧Bd uh h∧l.getD 0≤h.getD n∧h.getD n≤n:=by
 unfold rn at hv;simp only at hv;have hiC:∀(l:Option Nat),(hi=none→l.getD 0≤n)→(match hi with
   |none=>k l none
   |some (.one (.int _ h))=>.br (decide ((match l with | some l=>(l:Int) | none=>0)≤h)) (.br (decide (h≤n)) (k l (some h.toNat)) .fail) .fail
   |_=>.fail).val=some bQ→∃h,(k l h).val=some bQ∧Bd uh h∧l.getD 0≤h.getD n∧h.getD n≤n:=by
  intro l UK hv
  cases hi with
  |none=>exact ⟨none,hv,hh,UK rfl,Nat.le_refl _⟩
  |some v=>cases v with
   |agg _=>simp [N.val] at hv
   |p8 _=>simp [N.val] at hv
   |one x=>cases x with
    |int q h=>
     simp only at hv;obtain ⟨h1,hv⟩:=jI hv;obtain ⟨h2,hv⟩:=jI hv;have h1:=of_decide_eq_true h1;have h2:=of_decide_eq_true h2;obtain ⟨x,rfl,hx⟩:=hh;have e:x=.int q h:=hx;subst e;have h0:0≤h:=by cases l<;>simp at h1<;>omega
     refine ⟨some h.toNat,hv,⟨q,by rw [Int.toNat_of_nonneg h0]⟩,?_,by simp;omega⟩
     cases l<;>simp at h1 ⊢;omega
    |_=>simp [N.val] at hv
 cases lo with
 |none=>
  obtain ⟨h,g1,g2,g3,g4⟩:=hiC none (fun _=>Nat.zero_le _) hv;exact ⟨none,h,g1,hl,g2,g3,g4⟩
 |some v=>cases v with
  |agg _=>simp [N.val] at hv
  |p8 _=>simp [N.val] at hv
  |one x=>cases x with
   |int q l=>
    simp only at hv;obtain ⟨h1,hv⟩:=jI hv;have h1:=of_decide_eq_true h1;obtain ⟨x,rfl,hx⟩:=hl;have e:x=.int q l:=hx;subst e;have hb:Bd (some (.int q l)) (some l.toNat):=⟨q,by rw [Int.toNat_of_nonneg h1]⟩
    cases hi with
    |none=>
     simp only at hv;obtain ⟨h2,hv⟩:=jI hv;have h2:=of_decide_eq_true h2;obtain ⟨h,g1,g2,g3,g4⟩:=hiC (some l.toNat) (fun _=>by simp;omega) hv;exact ⟨some l.toNat,h,g1,hb,g2,g3,g4⟩
    |some v=>
     obtain ⟨h,g1,g2,g3,g4⟩:=hiC (some l.toNat) (fun e=>by cases e) hv;exact ⟨some l.toNat,h,g1,hb,g2,g3,g4⟩
   |_=>simp [N.val] at hv
theorem G9 {P:Program} {w:World} {n cap:Nat} {ul uh:Option Value} {l h:Option Nat} (b:Bool) (hl:Bd ul l) (hh:Bd uh h) (h1:l.getD 0≤h.getD n) (h2:h.getD n≤n) (hc:n≤cap) :
  (Instr.sliceBounds b n cap ul uh none).run P w=.ok (l.getD 0,h.getD n,cap) w:=by
 have key:∀(q:IntKind) (y m:Nat) (code:BoundsCode),y≤m→(Instr.sliceBound (.int q y) m code).run P w=.ok y w:=by
  intro q y m code hy;simp [Instr.sliceBound,asIntOf,hy]
 cases l with
 |none=>
  simp only [Bd] at hl;subst hl
  cases h with
  |none=>
   simp only [Bd] at hh;subst hh;simp [Instr.sliceBounds]
  |some h=>
   obtain ⟨q,rfl⟩:=hh;simp at h2;simp [Instr.sliceBounds,key q h cap _ (by omega)]
 |some l=>
  obtain ⟨q,rfl⟩:=hl
  cases h with
  |none=>
   simp only [Bd] at hh;subst hh;simp at h1;simp [Instr.sliceBounds,key q l n _ h1]
  |some h=>
   obtain ⟨q',rfl⟩:=hh;simp at h1 h2;simp [Instr.sliceBounds,key q' h cap _ (by omega),key q l h _ h1]
theorem View.Rf {α:Type} (w:View) (xs:List α) (l h:Option Nat) (h1:l.getD 0≤h.getD (w.app xs).length) (h2:h.getD (w.app xs).length≤(w.app xs).length) :
  (w.of (w.app xs).length l h).lo=w.lo+l.getD 0∧((w.of (w.app xs).length l h).app xs).length=h.getD (w.app xs).length-l.getD 0:=by
 cases w with
 |full=>cases l<;>cases h<;>simp [View.of,View.lo,View.app] at h1 h2 ⊢ <;> omega
 |«from» a=>cases l<;>cases h<;>simp [View.of,View.lo,View.app] at h1 h2 ⊢ <;> omega
 |sub a m=>cases l<;>cases h<;>simp [View.of,View.lo,View.app] at h1 h2 ⊢ <;> omega
theorem Ss (n:Nat) (l h:Option Nat):Pf n l h=View.full.of n l h:=by
 cases l<;>cases h<;>simp [Pf,View.of,View.lo]
theorem sA {P:Program} {t e:TypeId} {i:TypeInfo} (hu:P.underlying t=some (.slice e)) (hi:P.info? e=some i) {w:World} {a:Option Addr} {n cap:Nat} {ul uh:Option Value} {l h:Option Nat}
  (hl:Bd ul l) (hh:Bd uh h) (h1:l.getD 0≤h.getD n) (h2:h.getD n≤n) (hc:n≤cap) :
  (Instr.sliceAt t (.slice a n cap) ul uh none).run P w=.ok (.slice (if cap=l.getD 0 then a else a.map (·.add (l.getD 0*i.size))) (h.getD n-l.getD 0) (cap-l.getD 0)) w:=by
 have hb:=G9 (P:=P) (w:=w) true hl hh h1 h2 hc;simp [Instr.sliceAt,Instr.slice,run_underlying hu,sizeOf,typeInfo,hi,hb]
theorem Su {P:Program} {T:oU} (hT:jZ P T) {w0:World} {mu:Mu} {c:Cz} {st:St} {a:Act} {w:World} (h:Rel w0 mu c st a w)
  {d:Option Nat} {t:Nat} {x:V} {ux:Value} {lo hi:Option V} {ul uh:Option Value} (hx:il c st w x ux) (hl:M1 c st w lo ul) (hh:M1 c st w hi uh) {bQ:St}
  (hv:(yd T st d t x lo hi).val=some bQ) (hd:∀k,d=some k→k<a.tmps.size) :
  ∃v,(∀w':World,(Instr.sliceAt t ux ul uh none).run P w'=.ok v w')∧Rel w0 mu c bQ (a.put d v) w:=by
 cases x with
 |agg _=>simp [yd,N.val] at hv
 |p8 _=>simp [yd,N.val] at hv
 |one cx=>cases cx with
  |str s=>
   simp only [yd] at hv
   cases hk:T.kind t with
   |none=>simp [hk,N.val] at hv
   |some y=>cases y with
    |str=>
     simp only [hk] at hv;obtain ⟨l,q,hv,g1,g2,g3,g4⟩:=sb hl hh hv;simp only [N.val,Option.some.injEq] at hv;subst hv;have e:ux=.string s:=hx;subst e;have hb:=fun w':World=>G9 (P:=P) (w:=w') false g1 g2 g3 g4 (Nat.le_refl _)
     refine ⟨.string (s.extract (l.getD 0) (q.getD s.size)),(fun w'=>by simp [Instr.sliceAt,Instr.slice,run_underlying (Re hT hk),hb w']),?_⟩;exact h.bR (v:=.one (.str _)) rfl hd
    |_=>simp [hk,N.val] at hv
  |gw=>
   simp only [yd] at hv
   cases hk:T.elem t with
   |none=>simp [hk,N.val] at hv
   |some p=>
    obtain ⟨r,b⟩:=p;simp only [hk] at hv;obtain ⟨e,i,z,hu,hi,_⟩:=hT.elem t r b hk;obtain ⟨l,q,hv,g1,g2,g3,g4⟩:=sb hl hh hv;simp only [N.val,Option.some.injEq] at hv;subst hv;have eu:ux=.slice none 0 0:=hx;subst eu;have hr:=fun w':World=>sA (P:=P) (w:=w') (a:=none) hu hi g1 g2 g3 g4 (Nat.le_refl 0)
    have e1:l.getD 0=0:=by omega
    have e2:q.getD 0=0:=by omega
    simp only [e1,e2] at hr;exact ⟨_,hr,h.bR (v:=.one .gw) rfl hd⟩
  |shr r xs=>
   simp only [yd] at hv
   cases hk:T.elem t with
   |none=>simp [hk,N.val] at hv
   |some p=>
    obtain ⟨r',b⟩:=p;simp only [hk] at hv
    cases hc:ez r' xs with
    |none=>simp [hc,N.val] at hv
    |some ys=>
     simp only [hc] at hv;obtain ⟨rfl,hq⟩:=dm hc
     replace hq:xs=ys:=hq.symm
     subst hq;obtain ⟨e,i,z,hu,hi,py,LB,_⟩:=hT.elem t r b hk;obtain ⟨l,q,hv,g1,g2,g3,g4⟩:=sb hl hh hv;simp only [N.val,Option.some.injEq] at hv;subst hv;have O7:=View.Rf .full xs l q g3 g4;rw [Ss];rcases (rf _ _ _ _ _).1 hx with ⟨rfl,rfl⟩ | ⟨ad,cap,rfl,h2,h3,h4⟩
     ·have hr:=fun w':World=>sA (P:=P) (w:=w') (a:=none) hu hi g1 g2 g3 g4 (Nat.le_refl 0)
      simp at g3 g4;have e1:l.getD 0=0:=by omega
      have e2:q.getD 0=0:=by omega
      simp only [e1,show q.getD ([]:List (aO r)).length=0 from e2] at hr;refine ⟨_,hr,h.bR (v:=.one (.shr r _)) ?_ hd⟩;refine (rf _ _ _ _ _).2 (.inl ⟨rfl,?_⟩);have:=O7.2;simp [View.app] at this ⊢
      cases hw:View.full.of 0 l q<;>simp
     ·have hr:=fun w':World=>sA (P:=P) (w:=w') (a:=some ad) hu hi g1 g2 g3 g4 h2
      refine ⟨_,hr,h.bR (v:=.one (.shr r _)) ?_ hd⟩;have hlen:((View.full.of xs.length l q).app xs).length=q.getD xs.length-l.getD 0:=O7.2;refine (rf _ _ _ _ _).2 (.inr ⟨if cap=l.getD 0 then ad else ad.add (l.getD 0*i.size),cap-l.getD 0,?_,by rw [hlen];omega,fun lO => ?_,fun j y hy => ?_⟩)
      ·rw [hlen]
       congr 1
       by_cases e:cap=l.getD 0<;>simp [e]
      ·have hp:0<q.getD xs.length-l.getD 0:=by rw [←hlen];exact List.length_pos_iff.2 lO
       have aa4:xs≠[]:=by intro e;subst e;simp at g4 hp;omega
       obtain ⟨k1,k2,k3⟩:=h3 aa4;have MN:ad=⟨ad.block,ad.off,none⟩:=by cases ad;simp at k1 ⊢;exact k1
       rw [if_neg (by omega),MN,Addr.add_mid];exact ⟨rfl,k2,k3⟩
      ·have hj:j<q.getD xs.length-l.getD 0:=by rw [←hlen];exact (List.getElem?_eq_some_iff.1 hy).1
       have aa4:xs≠[]:=by intro e;subst e;simp at g4 hj;omega
       obtain ⟨k1,k2,k3⟩:=h3 aa4;have MN:ad=⟨ad.block,ad.off,none⟩:=by cases ad;simp at k1 ⊢;exact k1
       rw [if_neg (by omega),MN,Addr.add_mid];have Gv:=View.Bx (View.full.of xs.length l q) xs hy;rw [show (View.full.of xs.length l q).lo=l.getD 0 by have h9:(View.full.of xs.length l q).lo=View.full.lo+l.getD 0:=O7.1;rw [h9];simp [View.lo]] at Gv;have:=h4 _ y Gv;rw [Nat.add_mul] at this;rw [py];simp only;rw [Nat.add_assoc];exact this
  |ref a' j g vw=>
   simp only [yd] at hv
   cases hk:T.elem t with
   |none=>simp [hk,N.val] at hv
   |some p=>
    obtain ⟨r',b⟩:=p;simp only [hk] at hv
    cases hA:cO st a' j g with
    |none=>simp [hA,N.val] at hv
    |some A=>
     simp only [hA] at hv
     cases hc:ez r' A.xs with
     |none=>simp [hc,N.val] at hv
     |some ys=>
      simp only [hc] at hv;obtain ⟨e',he⟩:=dm hc;subst e';simp only at he;subst he;obtain ⟨e,i,z,hu,hi,py,LB,_⟩:=hT.elem t A.r b hk;obtain ⟨l,q,hv,g1,g2,g3,g4⟩:=sb hl hh hv;simp only [N.val,Option.some.injEq] at hv;subst hv;have O7:=View.Rf vw A.xs l q g3 g4;have hs:=hx.2.2 A hA
      cases np:c.lc a' j with
      |nil=>
       unfold qW at hs;rw [np] at hs;obtain ⟨rfl,hn⟩:=hs;rw [hn] at g3 g4;have hr:=fun w':World=>sA (P:=P) (w:=w') (a:=none) hu hi g1 g2 g3 g4 (Nat.le_refl 0)
       have e1:l.getD 0=0:=by omega
       have e2:q.getD 0=0:=by omega
       simp only [e1,e2] at hr;refine ⟨_,hr,h.bR (v:=.one (.ref a' j g _)) ⟨rfl,hx.2.1,fun A2 Sr => ?_⟩ hd⟩;rw [hA] at Sr;obtain rfl:=Option.some.inj Sr;rw [np];refine ⟨by simp,?_⟩;rw [O7.2,hn];omega
      |«at» bb off cap=>
       unfold qW at hs;rw [np] at hs;obtain ⟨ad,cc,rfl,hcc,C8,MN⟩:=hs;have hr:=fun w':World=>sA (P:=P) (w:=w') (a:=some ad) hu hi g1 g2 g3 g4 hcc
       refine ⟨_,hr,h.bR (v:=.one (.ref a' j g _)) ⟨?_,hx.2.1,fun A2 Sr => ?_⟩ hd⟩
       ·by_cases e:cc=l.getD 0<;>simp [e,Value.oneCell']
       ·rw [hA] at Sr;obtain rfl:=Option.some.inj Sr;rw [np];refine ⟨if cc=l.getD 0 then ad else ad.add (l.getD 0*i.size),cc-l.getD 0,?_,by rw [O7.2];omega,by rw [O7.1];omega,fun lO => ?_⟩
        ·rw [O7.2]
         congr 1
         by_cases e:cc=l.getD 0<;>simp [e]
        ·rw [if_neg (by omega),MN (by omega),Addr.add_mid,O7.1,py,Nat.add_mul,Nat.add_assoc]
  |_=>simp [yd,N.val] at hv
end Go.TM
namespace Go.TM
open Go Go.RowKit
theorem Fw.grow {w0:World} {mu:Mu} {c:Cz} {st:St} {a:Act} {w:World} (h:Rel w0 mu c st a w) (o:Obj):Fw c st w c st (w.alloc o) where
 stays:=Ar w _ _ _ fun _ _ h=>h
 refs a' j g A' _ iB:=⟨A',iB,rfl,rfl,rfl,fun _=>⟨rfl,fun b oo cap np=>heap_alloc_old w _ b ((h.JI (g:=g) iB).lt np)⟩⟩
 GY _ _ rZ _ hb:=⟨⟨rZ,hb⟩,rfl⟩
 gA _:=Nat.le_refl _
 gB _:=Nat.le_refl _
 gE _:=Nat.le_refl _
theorem Rel.grow {w0:World} {mu:Mu} {c:Cz} {st:St} {a:Act} {w:World} (h:Rel w0 mu c st a w) (o:Obj):Rel w0 mu c st a (w.alloc o) where
 jj t:=(Fw.grow h o).u6 (h.jj t)
 boxes s sl cs hs hb:=by
  have hb0:=h.boxes s sl cs hs hb;exact hb0.go (Fw.grow h o) rfl rfl (heap_alloc_old w _ _ (h.yj hb0.1))
 bU s j sl A hs hA:=(h.bU s j sl A hs hA).go (Fw.grow h o).stays rfl fun b hb=>⟨heap_alloc_old w _ b (h.yj hb),rfl⟩
 owned b l hb:=⟨Nat.lt_of_lt_of_le (h.owned b l hb).1 (by simp),(h.owned b l hb).2⟩
 free:=h.free
 kept:=⟨h.kept.1,h.kept.2.1,h.kept.2.2.1,Nat.le_trans h.kept.2.2.2 (by simp)⟩
 old k hk hm:=by
  rw [heap_alloc_old w _ k (Nat.lt_of_lt_of_le hk h.kept.2.2.2)];exact h.old k hk hm
 hZ p hp:=(Fw.grow h o).hZ (h.hZ p hp)
 plain:=h.plain
theorem iQ.ahB {c:Cz} {st:St} {w:World} {x:CV} {cs:List CV} {vs:List Value} (h:iQ c st w (x::cs) vs):∃v l,vs=v::l∧qd c st w x v∧iQ c st w cs l:=by
 obtain ⟨h1,h2⟩:=h
 cases vs with
 |nil=>simp at h1
 |cons v l=>exact ⟨v,l,rfl,h2 0 x v rfl rfl,by simpa using h1,fun i y u hy hu=>h2 (i+1) y u (by simpa using hy) (by simpa using hu)⟩
theorem YI {w:World} {ok:Nat→Prop} {b off:Nat} (x:aO .nil):fH w ok .nil b off x:=by unfold fH;trivial
theorem Dj {w:World} {ok:Nat→Prop} {t:Ty} {r:RT} {b off:Nat} {x:aO (.cons t r)}:fH w ok (.cons t r) b off x↔(∃v,w.cell? ⟨b,off,none⟩=some v∧ev w ok t v x.1)∧fH w ok r b (off+1) x.2:=by
 constructor
 ·intro h;unfold fH at h;exact h
 ·intro h;unfold fH;exact h
theorem pO {c:Cz} {st:St} {w w':World} {ok:Nat→Prop} (hs:lk w w' c.ok ok) {b:Nat}:(cs:List CV)→{r:RT}→{x:aO r}→gi cs=some ⟨r,x⟩→(vs:List Value)→(off:Nat)→iQ c st w cs vs→(∀(i:Nat) v,vs[i]?=some v→w'.cell? ⟨b,off+i,none⟩=some v)→fH w' ok r b off x
 | [],r,x,h,vs,off,_,_=>by
  unfold gi at h
  cases h
  exact YI _
 |cx::cs,r,x,h,vs,off,hl,hc=>by
  obtain ⟨v,l,rfl,hx,By⟩:=hl.ahB;have h0:=hc 0 v rfl;rw [Nat.add_zero] at h0;have gS:∀(i:Nat) u,l[i]?=some u→w'.cell? ⟨b,off+1+i,none⟩=some u:=fun i u hu=>by
   have:=hc (i+1) u hu
   rwa [show off+(i+1)=off+1+i by omega] at this
  cases cx with
  |int k n=>
   unfold gi at h
   cases hq:gi cs with
   |none=>rw [hq] at h;cases h
   |some p=>
    obtain ⟨r0,x0⟩:=p;rw [hq] at h
    cases h
    have ih:=pO hs cs hq l (off+1) By gS;exact Dj.2 ⟨⟨v,h0,yh.2 hx⟩,ih⟩
  |bool n=>
   unfold gi at h
   cases hq:gi cs with
   |none=>rw [hq] at h;cases h
   |some p=>
    obtain ⟨r0,x0⟩:=p;rw [hq] at h
    cases h
    have ih:=pO hs cs hq l (off+1) By gS;exact Dj.2 ⟨⟨v,h0,Bw.2 hx⟩,ih⟩
  |str n=>
   unfold gi at h
   cases hq:gi cs with
   |none=>rw [hq] at h;cases h
   |some p=>
    obtain ⟨r0,x0⟩:=p;rw [hq] at h
    cases h
    have ih:=pO hs cs hq l (off+1) By gS;exact Dj.2 ⟨⟨v,h0,ED.2 hx⟩,ih⟩
  |shr q xs=>
   unfold gi at h
   cases hq:gi cs with
   |none=>rw [hq] at h;cases h
   |some p=>
    obtain ⟨r0,x0⟩:=p;rw [hq] at h
    cases h
    have ih:=pO hs cs hq l (off+1) By gS;exact Dj.2 ⟨⟨v,h0,ev.stays hs _ _ _ hx⟩,ih⟩
  |_=>simp [gi] at h
def Cz.zR (c:Cz) (s:Nat):Cz:=
 { c with own:=fun k=>match c.own k with | some (.box t)=>if t=s then none else some (.box t) | l=>l }
theorem Cz.Vm {c:Cz} {s b:Nat} (h:c.ok b):(c.zR s).ok b:=by
 unfold Cz.ok Cz.zR at *;simp [h]
theorem Cz.JQ {c:Cz} {s b:Nat} (h:c.own b=some (.box s)):(c.zR s).ok b:=by
 unfold Cz.ok Cz.zR;simp [h]
theorem Cz.Ha {c:Cz} {s b:Nat} {l:Lb} (h:c.own b=some l) (lO:l≠.box s):(c.zR s).own b=some l:=by
 unfold Cz.zR;simp only [h]
 cases l with
 |box t=>
  simp only;rw [if_neg]
  rintro rfl
  exact lO rfl
 |_=>rfl
theorem Cz.Pt {c:Cz} {s b:Nat} {l:Lb} (h:(c.zR s).own b=some l):c.own b=some l:=by
 unfold Cz.zR at h;simp only at h
 cases hc:c.own b with
 |none=>simp [hc] at h
 |some l'=>cases l' with
  |box t=>
   simp only [hc] at h
   by_cases e:t=s
   ·simp [e] at h
   ·rw [if_neg e] at h;exact h
  |_=>simp [hc] at h;rw [h]
theorem wF (st:St) (b s:Nat):nth (iJ st b) s=if s=b then (nth st s).map (fun x=>{ x with box:=none }) else nth st s:=by
 unfold iJ;rw [lf]
theorem nW (st:St) (b s:Nat):dN (iJ st b) s=dN st s∧gP (iJ st b) s=gP st s∧j5 (iJ st b) s=j5 st s∧wu (iJ st b) s=wu st s∧∀j g,cO (iJ st b) s j g=cO st s j g:=by
 unfold dN gP j5 wu cO;rw [wF]
 by_cases e:s=b
 ·rw [if_pos e]
  cases nth st s<;>simp
 ·rw [if_neg e];simp
theorem LH {st:St} {b s g:Nat} {cs:List CV} (h:fV (iJ st b) s g=some cs):s≠b∧fV st s g=some cs:=by
 unfold fV at h ⊢;rw [wF] at h
 by_cases e:s=b
 ·rw [if_pos e] at h
  cases hx:nth st s with
  |none=>rw [hx] at h;cases h
  |some x=>
   rw [hx] at h;simp only [Option.map_some] at h
   cases hb:Nat.beq x.bg g<;>rw [hb] at h<;>cases h
 ·rw [if_neg e] at h;exact ⟨e,h⟩
theorem Fw.iJ (c:Cz) (st:St) (w:World) (s:Nat):Fw c st w (c.zR s) (iJ st s) w where
 stays:=⟨Nat.le_refl _,fun _ _ _=>rfl,fun _ _ h=>Cz.Vm h⟩
 refs a' j' g A' _ iB:=⟨A',by rwa [(nW st s a').2.2.2.2] at iB,rfl,rfl,rfl,fun _=>⟨rfl,fun _ _ _ _=>rfl⟩⟩
 GY b g rZ _ h:=⟨⟨rZ,(LH h).2⟩,rfl⟩
 gA b:=by rw [(nW st s b).2.1];exact Nat.le_refl _
 gB b:=by rw [(nW st s b).2.2.1];exact Nat.le_refl _
 gE b:=by rw [(nW st s b).2.2.2.1];exact Nat.le_refl _
theorem Rel.iJ {w0:World} {mu:Mu} {c:Cz} {st:St} {a:Act} {w:World} (h:Rel w0 mu c st a w) (s:Nat):Rel w0 mu (c.zR s) (iJ st s) a w where
 jj t:=by rw [(nW st s t).1];exact (Fw.iJ c st w s).u6 (h.jj t)
 boxes b sl cs hs hb:=by
  rw [wF] at hs
  by_cases e:b=s
  ·rw [if_pos e] at hs
   cases hx:nth st b with
   |none=>rw [hx] at hs;cases hs
   |some x=>rw [hx] at hs;simp at hs;subst hs;cases hb
  ·rw [if_neg e] at hs;have h0:=h.boxes b sl cs hs hb;exact h0.go (Fw.iJ c st w s) rfl (by rw [h0.1];exact Cz.Ha h0.1 (by intro e';injection e' with e';exact e e')) rfl
 bU b i sl A hs hb:=by
  rw [wF] at hs;have h0:fJ c w b i A:=by
   by_cases e:b=s
   ·rw [if_pos e] at hs
    cases hx:nth st b with
    |none=>rw [hx] at hs;cases hs
    |some x=>rw [hx] at hs;simp at hs;subst hs;exact h.bU b i x A hx hb
   ·rw [if_neg e] at hs;exact h.bU b i sl A hs hb
  exact h0.go (Fw.iJ c st w s).stays rfl fun k h1=>⟨rfl,by rw [h1];exact Cz.Ha h1 (by intro e;cases e)⟩
 owned b l hb:=h.owned b l (Cz.Pt hb)
 free b hb h1:=by
  cases hc:c.own b with
  |none=>exact h.free b hb hc
  |some l=>
   rcases (h.owned b l hc).2 with h2 | h2 | h2
   ·subst h2;unfold Cz.zR at h1;simp [hc] at h1
   ·omega
   ·exact .inl h2
 kept:=h.kept
 old:=h.old
 hZ p hp:=(Fw.iJ c st w s).hZ (h.hZ p hp)
 plain:=h.plain
theorem M3 {w:World} {b:Nat} {vs:Array Value} {ty:TypeId} (h:w.heap[b]?=some (.cells vs ty (0,0))) {i:Nat} {v:Value} (hv:vs.toList[i]?=some v):w.cell? ⟨b,i,none⟩=some v:=by
 unfold World.cell?;simp [h];simpa using hv
theorem EE (st:St) (b g:Nat) (r:RT) (x:aO r):(s:Nat)→nth (qb st b g r x) s=(nth st s).map fun z=>{ z with v:=rnV b g r x z.v }:=by
 unfold qb
 induction st with
 |nil=>intro s;rfl
 |cons y st ih=>intro s;cases s with
  |zero=>rfl
  |succ s=>exact ih s
theorem ru (st:St) (b g:Nat) (r:RT) (x:aO r) (s:Nat):dN (qb st b g r x) s=rnV b g r x (dN st s)∧gP (qb st b g r x) s=gP st s∧j5 (qb st b g r x) s=j5 st s∧wu (qb st b g r x) s=wu st s∧(∀j g',cO (qb st b g r x) s j g'=cO st s j g')∧∀g',fV (qb st b g r x) s g'=fV st s g':=by
 unfold dN gP j5 wu cO fV;rw [EE]
 cases nth st s with
 |none=>exact ⟨rfl,rfl,rfl,rfl,fun _ _=>rfl,fun _=>rfl⟩
 |some z=>exact ⟨rfl,rfl,rfl,rfl,fun _ _=>rfl,fun _=>rfl⟩
theorem Fw.qb (c:Cz) (st:St) (w:World) (b g:Nat) (r:RT) (x:aO r):Fw c st w c (qb st b g r x) w where
 stays:=⟨Nat.le_refl _,fun _ _ _=>rfl,fun _ _ h=>h⟩
 refs a' j' g' A' _ iB:=⟨A',by rwa [(ru st b g r x a').2.2.2.2.1] at iB,rfl,rfl,rfl,fun _=>⟨rfl,fun _ _ _ _=>rfl⟩⟩
 GY b' g' rZ _ h:=⟨⟨rZ,by rwa [(ru st b g r x b').2.2.2.2.2] at h⟩,rfl⟩
 gA s:=by rw [(ru st b g r x s).2.1];exact Nat.le_refl _
 gB s:=by rw [(ru st b g r x s).2.2.1];exact Nat.le_refl _
 gE s:=by rw [(ru st b g r x s).2.2.2.1];exact Nat.le_refl _
theorem Rel.qb {w0:World} {mu:Mu} {c:Cz} {st:St} {a:Act} {w:World} (h:Rel w0 mu c st a w) {b g:Nat} {r:RT} {x:aO r} (hp:∀t off,dN st t=.one (.ptr b g off)→qd c st w (.nV r x off) (a.eval (.tmp t))):Rel w0 mu c (qb st b g r x) a w where
 jj t:=by
  rw [(ru st b g r x t).1];have h0:=(Fw.qb c st w b g r x).u6 (h.jj t)
  cases hv:dN st t with
  |one cv=>cases cv with
   |ptr b' g' off=>
    rw [hv] at h0;show il c (TM.qb st b g r x) w (bif Nat.beq b' b&&Nat.beq g' g then .one (.nV r x off) else .one (.ptr b' g' off)) (a.eval (.tmp t))
    cases hb:Nat.beq b' b&&Nat.beq g' g with
    |false=>exact h0
    |true=>
     rw [Bool.and_eq_true] at hb;have e1:=Nat.eq_of_beq_eq_true hb.1;have e2:=Nat.eq_of_beq_eq_true hb.2;subst e1 e2;exact hp t off hv
   |_=>rw [hv] at h0;exact h0
  |agg _=>rw [hv] at h0;exact h0
  |p8 _=>rw [hv] at h0;exact h0
 boxes s sl cs hs hb:=by
  rw [EE] at hs;obtain ⟨z,hz,rfl⟩:=Option.map_eq_some_iff.1 hs;have h0:=h.boxes s z cs hz hb;exact h0.go (Fw.qb c st w b g r x) rfl (by rw [h0.1]) rfl
 bU s j sl A hs hA:=by
  rw [EE] at hs;obtain ⟨z,hz,rfl⟩:=Option.map_eq_some_iff.1 hs;exact h.bU s j z A hz hA
 owned:=h.owned
 free:=h.free
 kept:=h.kept
 old:=h.old
 plain:=h.plain
 hZ p hp:=(Fw.qb c st w b g r x).hZ (h.hZ p hp)
theorem YJ {w0:World} {mu:Mu} {c:Cz} {st bQ:St} {a:Act} {w:World} (h:Rel w0 mu c st a w) {t:Nat} {r:RT} {ys:List (aO r)} (hc:Yu st t=some (bQ,⟨r,ys⟩)) :
  ∃c',Rel w0 mu c' bQ a w∧Fw c st w c' bQ w∧JH w c'.ok r (a.eval (.tmp t)) ys:=by
 have hx:=h.jj t;unfold Yu at hc
 split at hc
 ·rename_i r' x' off e;obtain ⟨h1,hc⟩:=bJ hc;have h1:=Nat.eq_of_beq_eq_true h1;subst h1
  cases hc
  rw [e] at hx;obtain ⟨b,o,e1,e2,e3,e4⟩:=hx;refine ⟨c,h,Fw.refl c st w,b,o,e1,e2,e3,fun y hy => ?_⟩;simp at hy;subst hy;exact e4
 ·rename_i r' xs off e;obtain ⟨h1,hc⟩:=bJ hc;have h1:=Nat.eq_of_beq_eq_true h1;subst h1
  cases hc
  rw [e] at hx;obtain ⟨b,o,e1,e2,e3,e4⟩:=hx;exact ⟨c,h,Fw.refl c st w,b,o,e1,e2,e3,e4⟩
 ·rename_i b g off e
  cases hb:fV st b g with
  |none=>rw [hb] at hc;cases hc
  |some cs=>
   rw [hb] at hc;simp only at hc;obtain ⟨h1,hc⟩:=bJ hc;have h1:=Nat.eq_of_beq_eq_true h1;subst h1
   cases hp:gi cs with
   |none=>rw [hp] at hc;cases hc
   |some p=>
    obtain ⟨r0,x0⟩:=p;rw [hp] at hc
    cases hc
    rw [e] at hx;have hu:=hx.2.2 cs hb;obtain ⟨sl,JK,UI,JL⟩:=ka hb;obtain ⟨ho,vs,ty,hh,hl⟩:=h.boxes b sl cs JK JL;have GZ:fH w (c.zR b).ok r (c.bx b) 0 x0:=by
     refine pO (Fw.iJ c st w b).stays cs hp vs.toList 0 hl fun i v hv => ?_
     rw [Nat.zero_add];exact M3 hh hv
    refine ⟨_,(h.iJ b).qb (fun t' auh hv => ?_),(Fw.iJ c st w b).trans (Fw.qb _ _ w _ _ _ _),c.bx b,0,hu,h.yj ho,Cz.JQ ho,fun y hy => ?_⟩
    ·rw [(nW st b t').1] at hv;have h2:=h.jj t';rw [hv] at h2;have hu2:=h2.2.2 cs hb;exact ⟨c.bx b,0,by rw [Nat.zero_add];exact hu2,h.yj ho,Cz.JQ ho,GZ⟩
    ·simp at hy;subst hy;exact GZ
 ·cases hc
theorem M4 {w0:World} {mu:Mu} {a:Act} {w:World}:(l:List Operand)→{c:Cz}→{st bQ:St}→Rel w0 mu c st a w→{rs:RT}→{x:aO rs}→B8 st l=some (bQ,⟨rs,x⟩)→
  ∃c',Rel w0 mu c' bQ a w∧Fw c st w c' bQ w∧yi w c'.ok rs (l.map a.eval) x
 | [],c,st,bQ,h,rs,x,hc=>by
  unfold B8 at hc
  cases hc
  exact ⟨c,h,Fw.refl c st w,rfl⟩
 |.tmp t::l,c,st,bQ,h,rs,x,hc=>by
  unfold B8 at hc
  cases h1:Yu st t with
  |none=>rw [h1] at hc;cases hc
  |some p=>
   obtain ⟨G3,r,y⟩:=p;rw [h1] at hc;simp only at hc
   cases h2:B8 G3 l with
   |none=>rw [h2] at hc;cases hc
   |some p=>
    obtain ⟨lV,rs0,ys⟩:=p;rw [h2] at hc
    cases hc
    obtain ⟨c1,k1,k2,k3⟩:=YJ h h1;obtain ⟨c2,g1,g2,g3⟩:=M4 l k1 h2;exact ⟨c2,g1,k2.trans g2,_,_,rfl,k3.stays g2.stays,g3⟩
 |.const _::_,_,_,_,_,_,_,hc=>by simp [B8] at hc
 |.func _::_,_,_,_,_,_,_,hc=>by simp [B8] at hc
 |.global _::_,_,_,_,_,_,_,hc=>by simp [B8] at hc
theorem M5 {c:Cz} {st:St} {w:World}:(rs:RT)→(vs:List Value)→(x:aO rs)→yi w c.ok rs vs x→(zQ rs x).length=vs.length∧∀(k:Nat) v u,(zQ rs x)[k]?=some v→vs[k]?=some u→il c st w v u
 |.nil,vs,x,h=>by
  subst h;exact ⟨rfl,fun k v u hv=>by simp [zQ] at hv⟩
 |.cons (.sl r) rs,vs,x,h=>by
  obtain ⟨v0,l,rfl,⟨b,o,e1,e2,e3,e4⟩,h2⟩:=h;obtain ⟨g1,g2⟩:=M5 (c:=c) (st:=st) rs l x.2 h2;refine ⟨by simp [zQ,g1],fun k v u hv hu => ?_⟩
  cases k with
  |zero=>
   simp only [zQ,List.getElem?_cons_zero,Option.some.injEq] at hv hu;subst hv hu;exact ⟨b,o,by rw [Nat.add_zero];exact e1,e2,e3,e4⟩
  |succ k=>exact g2 k v u (by simpa [zQ] using hv) (by simpa using hu)
 |.cons (.int _) _,_,_,h=>h.elim
 |.cons .bool _,_,_,h=>h.elim
 |.cons .str _,_,_,h=>h.elim
end Go.TM
