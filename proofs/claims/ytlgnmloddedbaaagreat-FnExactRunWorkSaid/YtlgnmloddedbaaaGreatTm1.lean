/- A machine over trees: an evaluator of the code, and that what it finds is so; part 1. -/
import GoSem.Core.Value
import GoSem.Core.Code
import GoSem.Core.Program
import GoSem.Core.View
import Derived.Below
import Derived.Laws.AppendOwn
import Derived.Laws.Cells
import Derived.Laws.Rows
import Derived.Deep.MidRow
import Derived.Laws.CopyRow
set_option linter.unusedSimpArgs false
set_option linter.unusedVariables false
namespace Go.TM
open Go
mutual
inductive Ty where
 |int (k:IntKind)
 |bool
 |str
 |sl (r:RT)
inductive RT where
 |nil
 |cons (t:Ty) (r:RT)
end
mutual
def den:Ty→Type
 |.int _=>Int
 |.bool=>Bool
 |.str=>ByteArray
 |.sl r=>List (aw r)
def aw:RT→Type
 |.nil=>Unit
 |.cons t r=>den t×aw r
end
mutual
def Ty.eq?:(a b:Ty)→Option (PLift (a=b))
 |.int k,.int l=>if h:k=l then some ⟨by rw [h]⟩ else none
 |.bool,.bool=>some ⟨rfl⟩
 |.str,.str=>some ⟨rfl⟩
 |.sl r,.sl s=>match RT.eq? r s with | some ⟨h⟩=>some ⟨by rw [h]⟩ | none=>none
 |_,_=>none
def RT.eq?:(a b:RT)→Option (PLift (a=b))
 |.nil,.nil=>some ⟨rfl⟩
 |.cons t r,.cons u s=>match Ty.eq? t u,RT.eq? r s with
  |some ⟨h⟩,some ⟨g⟩=>some ⟨by rw [h,g]⟩
  |_,_=>none
 |_,_=>none
end
def bw {r:RT} (s:RT) (xs:List (aw r)):Option (List (aw s)):=
 match RT.eq? r s with
 |some ⟨h⟩=>some (h▸xs)
 |none=>none
def RT.dM:RT→Bool
 |.nil=>false
 |.cons (.sl _) _=>true
 |.cons _ r=>r.dM
def RT.width:RT→Nat
 |.nil=>0
 |.cons _ r=>r.width+1
inductive View where
 |full
 |from (lo:Nat)
 |sub (lo n:Nat)
def View.app {α:Type}:View→List α→List α
 |.full,xs=>xs
 |.from lo,xs=>xs.drop lo
 |.sub lo n,xs=>(xs.drop lo).take n
def View.lo:View→Nat
 |.full=>0
 |.from l=>l
 |.sub l _=>l
def View.idx (w:View) (i:Nat):Nat:=
 match w with
 |.full=>i
 |.from l=>l+i
 |.sub l _=>l+i
inductive CV where
 |bad
 |int (k:IntKind) (n:Int)
 |bool (b:Bool)
 |str (s:ByteArray)
 |dN
 |KA
 |shr (r:RT) (xs:List (aw r))
 |nn (r:RT) (xs:List (aw r))  -- as 'ang,and not nil
 |ref (a j g:Nat) (w:View)
 |ptr (b g off:Nat)
 |Hg (a j g i off:Nat)
 |lC (r:RT) (x:aw r) (off:Nat)
 |s8 (r:RT) (xs:List (aw r)) (off:Nat)  -- as 'anh,IF row alN IF first of a list
 |fn (g:Nat) (rs:RT) (xs:List (aw rs))    -- a function with boxes KB Z4 read alone: each cell of IF row is one alO rows
 |KC (a j g e i k:Nat) (q:RT) (ys:List (aw q))  -- IF same rows as ani a agk,to be read alone
 |Mv (a j g:Nat)  -- IF array of KB name,to be read alone
 |o8 (a j g e i k:Nat) (q:RT) (ys:List (aw q))  -- IF slice KB a cell of a deep SV row holds
inductive Lb where
 |box (s:Nat)
 |sp (s j:Nat)
 |out
 |bK (i j:Nat)
 |su (i:Nat)
 |eF (j:Nat)
def Lb.same:Lb→Lb→Bool
 |.box s,.box t=>Nat.beq s t
 |.sp s i,.sp t j=>Nat.beq s t&&Nat.beq i j
 |_,_=>false
inductive V where
 |one (c:CV)
 |agg (cs:List CV)
 |m9 (vs:List V)
def V.cells:V→List CV
 |.one c=>[c]
 |.agg cs=>cs
 |.m9 _=>[]
inductive Md where
 |sh | dp | ho (i:Nat) | lz
 deriving DecidableEq
def Md.is:Md→Md→Bool
 |.sh,.sh=>true
 |.dp,.dp=>true
 |.lz,.lz=>true
 |.ho i,.ho j=>Nat.beq i j
 |_,_=>false
theorem Md.iW {a b:Md}:Md.is a b=true↔a=b:=by
 cases a<;>cases b<;>simp [Md.is]
def Md.Ft:Md→Bool
 |.ho _=>true
 |_=>false
structure fT where
 r:RT
 own:Bool
 xs:List (aw r)
 md:Md:=.sh
structure Sl where
 v:V
 box:Option (List CV)
 bg:Nat
 aN:List (Option fT)
 ag:Nat
 ep:Nat:=0  -- it aa3 when an array of IF slot is written,or a call is made
def Sl.none:Sl:={ v:=.one .bad,box:=.none,bg:=0,aN:=[],ag:=0 }
abbrev St:=List Sl
def nth {α:Type}:List α→Nat→Option α
 | [],_=>none
 |x::_,0=>some x
 |_::l,n+1=>nth l n
def lZ {α:Type} (f:α→α):List α→Nat→List α
 | [],_=>[]
 |x::l,0=>f x::l
 |x::l,n+1=>x::lZ f l n
def bI (st:St) (t:Nat):V:=
 match nth st t with
 |some s=>s.v
 |none=>.one .bad
def aZ (st:St) (d:Option Nat) (v:V):St:=
 match d with
 |some t=>lZ (fun s=>{ s with v:=v }) st t
 |none=>st
def aT (st:St) (a j g:Nat):Option fT:=
 match nth st a with
 |some s=>bif Nat.beq s.ag g then (match nth s.aN j with | some (some A)=>some A | _=>none) else none
 |none=>none
def bj (st:St) (a j:Nat) (A:Option fT):St:=
 lZ (fun s=>{ s with aN:=lZ (fun _=>A) s.aN j,ep:=s.ep+1 }) st a
def j5 (st:St) (a:Nat):Nat:=match nth st a with | some s=>s.ep | none=>0
def cW (st:St) (b g:Nat):Option (List CV):=
 match nth st b with
 |some s=>bif Nat.beq s.bg g then s.box else none
 |none=>none
inductive N where
 |done (st:St)
 |fail
 |br (b:Bool) (t e:N)
 |row (r:RT) (o:Option (aw r)) (k:aw r→N)
def N.val:N→Option St
 |.done st=>some st
 |.fail=>none
 |.br b t e=>bif b then t.val else e.val
 |.row _ o k=>match o with | some x=>(k x).val | none=>none
def N.fold {R:Type}:N→(St→Option R)→Option R
 |.done st,k=>k st
 |.fail,_=>none
 |.br b t e,k=>bif b then t.fold k else e.fold k
 |.row _ o f,k=>match o with | some x=>(f x).fold k | none=>none
theorem N.fold_eq {R:Type} (n:N) (k:St→Option R):n.fold k=n.val.bind k:=by
 induction n with
 |done st=>rfl
 |fail=>rfl
 |br b t e iht ihe=>cases b<;>simp [N.fold,N.val,iht,ihe]
 |row r o f ih=>cases o<;>simp [N.fold,N.val,ih]
def KD:(t:Ty)→den t
 |.int _=>(0:Int)
 |.bool=>false
 |.str=>ByteArray.empty
 |.sl _=>([]:List _)
def qh:(r:RT)→aw r
 |.nil=>()
 |.cons t r=>(KD t,qh r)
def KE:(t:Ty)→den t→CV
 |.int k,n=>.int k n
 |.bool,b=>.bool b
 |.str,s=>.str s
 |.sl r,xs=>.shr r xs
def dv:(r:RT)→aw r→List CV
 |.nil,_=>[]
 |.cons t r,x=>KE t x.1::dv r x.2
def agl (a j g e i k:Nat):(t:Ty)→den t→CV
 |.int k,n=>.int k n
 |.bool,b=>.bool b
 |.str,s=>.str s
 |.sl r,xs=>.o8 a j g e i k r xs
def qv (a j g e i:Nat):(k:Nat)→(r:RT)→aw r→List CV
 |_,.nil,_=>[]
 |k,.cons t r,x=>agl a j g e i k t x.1::qv a j g e i (k+1) r x.2
def kZ:(r:RT)→aw r→Nat→Option ((q:RT)×List (aw q))
 |.nil,_,_=>none
 |.cons (.sl q) _,x,0=>some ⟨q,x.1⟩
 |.cons _ _,_,0=>none
 |.cons _ r,x,k+1=>kZ r x.2 k
def nb:(r:RT)→aw r→Nat→(q:RT)→List (aw q)→Option (aw r)
 |.nil,_,_,_,_=>none
 |.cons (.sl q) _,x,0,p,ys=>(bw q ys).map fun zs=>(zs,x.2)
 |.cons _ _,_,0,_,_=>none
 |.cons _ r,x,k+1,p,ys=>(nb r x.2 k p ys).map fun z=>(x.1,z)
def l8 (st:St) (r:RT) (c:CV) (k:List (aw r)→N):N:=
 match c with
 |.shr _ xs=>match bw r xs with | some ys=>k ys | none=>.fail
 |.nn _ xs=>match bw r xs with | some ys=>k ys | none=>.fail
 |.dN=>k []
 |.ref a j g w=>match aT st a j g with
  |some A=>(match A.md with | .sh=>(match bw r A.xs with | some ys=>k (w.app ys) | none=>.fail) | _=>.fail)
  |none=>.fail
 |_=>.fail
structure kK where
 cells:Nat→Option Nat          -- how many cells a value of IF type alP
 agg:Nat→Bool                  -- is it a struct
 off:Nat→Nat→Option Nat      -- a PS field: its first cell
 fsz:Nat→Nat→Option Nat      -- and how many it has
 row:Nat→Option RT             -- IF uf types
 elem:Nat→Option (RT×Nat)    -- a slice: its Z5 cells,and IF bytes of one
 m9:Nat→Option (List Nat)     -- a afC types
 kind:Nat→Option Ty            -- a type of one cell
 one:Nat→Nat→Bool            -- a PS field KB is no struct agn
 eq:Nat→Bool                   -- a struct of numbers,alQ and strings,aa5 by '=='
 dp:Nat→Bool:=fun _=>false -- a slice Mw alR dM Z4 its own,where anm may be
 cap:Nat→Bool:=fun _=>false -- a UK box KB is read alone
 lz:Nat→Option Nat→Bool:=fun _ _=>false -- a slice Mw Z6 rows others may read
inductive OV where
 |int (k:IntKind) (n:Int)
 |bool (b:Bool)
 |str (s:ByteArray)
 |own (A:fT)
 |shr (r:RT) (xs:List (aw r))
 |dN
 |lC (r:RT) (xs:List (aw r))
 |fn (g:Nat) (rs:RT) (xs:List (aw rs))
inductive AV where
 |val (agg:Bool) (os:List OV)  -- a value: its PT Z4 IF aa6 from now on
 |io (A:fT)                     -- an array,Fu: IF callee may write it
 |box (os:List OV)               -- a struct behind a pointer,Fu
 |bL (os:List OV)              -- a struct Mw PT Z4 Fu
inductive RV where
 |one (o:OV)
 |agg (os:List OV)
 |ptr (os:List OV)  -- a new struct,behind a pointer
inductive XV where
 |io (A:fT)
 |box (cs:List OV)
 |bL (As:List (Option fT))
structure Res where
 outs:List RV
 exts:List XV
structure VS where
 r:RT
 o:Option (aw r)
 res:aw r→Res
abbrev ug:=List AV→Option VS
inductive Pm where
 |shr | own | io | bL
 |pick (l:List Nat)  -- a struct behind a pointer,some of Mw PT Z4 read alone from then on
 |soft (l:List Nat)  -- a struct behind a pointer,aa7 some of Mw afE rows hold others may read from then on
abbrev kV:=FuncId→Option (Pm×Pm×Pm×ug)   -- IF first three UL ways;alS kG Z4 shared
def bc (b g:Nat):(j:Nat)→List OV→List CV
 |_,[]=>[]
 |j,.int k n::l=>.int k n::bc b g (j+1) l
 |j,.bool x::l=>.bool x::bc b g (j+1) l
 |j,.str s::l=>.str s::bc b g (j+1) l
 |j,.own _::l=>.ref b j g .full::bc b g (j+1) l
 |j,.shr r xs::l=>.shr r xs::bc b g (j+1) l
 |j,.dN::l=>.dN::bc b g (j+1) l
 |j,.lC r xs::l=>.s8 r xs 0::bc b g (j+1) l
 |j,.fn f rs xs::l=>.fn f rs xs::bc b g (j+1) l
def OV.arr:OV→Option fT
 |.own A=>some A
 |_=>none
def bl:List OV→List (Option fT)
 | []=>[]
 |o::l=>o.arr::bl l
def RV.tv:RV→List OV
 |.one o=>[o]
 |.agg os=>os
 |.ptr os=>.dN::os
def PU (d g j:Nat):RV→V
 |.one o=>match bc d g j [o] with | [c]=>.one c | _=>.one .bad
 |.agg os=>.agg (bc d g j os)
 |.ptr _=>.one .bad
def kL (d g:Nat):(j:Nat)→List RV→List V
 |_,[]=>[]
 |j,r::l=>PU d g j r::kL d g (j+r.tv.length) l
def wx (st:St) (d:Option Nat) (outs:List RV):Option St:=
 match d with
 |some d=>match nth st d with
  |some s=>
   let g:=s.ag+1
   match outs with
   | [.ptr os]=>some (lZ (fun s=>{ s with v:=.one (.ptr d (s.bg+1) 0),box:=some (bc d (s.ag+1) 1 os),bg:=s.bg+1,aN:=none::bl os,ag:=s.ag+1 }) st d)
   |outs=>
    let v:V:=match kL d g 0 outs with | [v]=>v | vs=>.m9 vs
    some (lZ (fun s=>{ s with v:=v,aN:=bl (outs.flatMap RV.tv),ag:=g }) st d)
  |none=>none
 |none=>match outs with
  | []=>some st
  |_=>none
def l6 (st:St):Operand→V
 |.tmp t=>bI st t
 |.const (.int k n)=>.one (.int k n)
 |.const (.bool b)=>.one (.bool b)
 |.const (.string s)=>.one (.str s)
 |.const (.slice none 0 0)=>.one .dN
 |.const (.pointer none)=>.one .KA
 |_=>.one .bad
def PV (op:BinOp) (a b:Int):Option Bool:=
 match op with
 |.lss=>some (decide (a<b))
 |.leq=>some (decide (a≤b))
 |.gtr=>some (decide (b<a))
 |.geq=>some (decide (b≤a))
 |.eql=>some (decide (a=b))
 |.neq=>some (!decide (a=b))
 |_=>none
def DF (op:BinOp) (k:IntKind) (a b:Int):Option Int:=
 match op with
 |.add=>some (k.wrap (a+b))
 |.sub=>some (k.wrap (a-b))
 |.mul=>some (k.wrap (a*b))
 |.and=>some (k.wrap ((BitVec.ofInt k.bits a &&& BitVec.ofInt k.bits b).toNat:Int))
 |.or=>some (k.wrap ((BitVec.ofInt k.bits a ||| BitVec.ofInt k.bits b).toNat:Int))
 |.xor=>some (k.wrap ((BitVec.ofInt k.bits a ^^^ BitVec.ofInt k.bits b).toNat:Int))
 |_=>none
def PW (op:BinOp) (k:IntKind) (a b:Int):Option Int:=
 match op with
 |.quo=>some (k.wrap (a.tdiv b))
 |.rem=>some (a.tmod b)
 |_=>none
def DG (op:BinOp) (k:IntKind) (a:Int) (n:Nat):Option Int:=
 match op with
 |.shl=>some (k.wrap (a*2 ^ (min n k.bits)))
 |.shr=>some (a.fdiv (2 ^ (min n k.bits)))
 |_=>none
def kM (a b:ByteArray):Bool:=a.toList==b.toList
def ui:CV→CV→Option Bool
 |.int k a,.int l b=>if k=l then some (decide (a=b)) else none
 |.bool a,.bool b=>some (a==b)
 |.str a,.str b=>some (kM a b)
 |_,_=>none
def nc:List CV→List CV→Option Bool
 | [],[]=>some true
 |a::l,b::m=>match ui a b,nc l m with
  |some x,some y=>some (x&&y)
  |_,_=>none
 |_,_=>none
def Hh (s:ByteArray) (i:Int):Int:=match s[i.toNat]? with | some b=>(b.toNat:Int) | none=>0
def ga:(r:RT)→aw r→Nat→CV→Option (aw r)
 |.cons (.int k) _,x,0,.int l n=>if k=l then some (n,x.2) else none
 |.cons .bool _,x,0,.bool b=>some (b,x.2)
 |.cons .str _,x,0,.str s=>some (s,x.2)
 |.cons _ r,x,n+1,c=>(ga r x.2 n c).map fun z=>(x.1,z)
 |_,_,_,_=>none
def rowOf (st:St):(r:RT)→List CV→(k:aw r→List (Nat×Nat)→N)→N
 |.nil,[],k=>k () []
 |.cons (.int q) r,.int l n::cs,k=>if q=l then rowOf st r cs (fun x m=>k (n,x) m) else .fail
 |.cons .bool r,.bool b::cs,k=>rowOf st r cs (fun x m=>k (b,x) m)
 |.cons .str r,.str s::cs,k=>rowOf st r cs (fun x m=>k (s,x) m)
 |.cons (.sl q) r,c::cs,k=>
  match c with
  |.dN=>rowOf st r cs (fun x m=>k (([]:List _),x) m)
  |.ref a j g w=>match aT st a j g with
   |some A=>(match A.md with
    |.ho _=>.fail
    |_=>(match bw q A.xs with
     |some ys=>rowOf st r cs (fun x m=>k (w.app ys,x) ((a,j)::m))
     |none=>.fail))
   |none=>.fail
  |.shr _ ys=>match bw q ys with
   |some zs=>rowOf st r cs (fun x m=>k (zs,x) m)
   |none=>.fail
  |_=>.fail
 |_,_,_=>.fail
def Md.fz:Md→Md
 |.dp=>.sh
 |.lz=>.sh
 |m=>m
def fT.fz (A:fT):fT:={ A with own:=false,md:=A.md.fz }
def freeze (st:St):List (Nat×Nat)→St
 | []=>st
 |(a,j)::l=>freeze (lZ (fun s=>{ s with aN:=lZ (fun A=>A.map fT.fz) s.aN j,ep:=s.ep+1 }) st a) l
def di (st:St):(r:RT)→List CV→Option (aw r×List (Option (Nat×Nat)))
 |.nil,[]=>some ((),[])
 |.cons (.int q) r,.int l n::cs=>if q=l then (match di st r cs with | some p=>some ((n,p.1),none::p.2) | none=>none) else none
 |.cons .bool r,.bool b::cs=>match di st r cs with | some p=>some ((b,p.1),none::p.2) | none=>none
 |.cons .str r,.str s::cs=>match di st r cs with | some p=>some ((s,p.1),none::p.2) | none=>none
 |.cons (.sl q) r,c::cs=>
  match c with
  |.dN=>match di st r cs with | some p=>some ((([]:List _),p.1),none::p.2) | none=>none
  |.ref a j g .full=>match aT st a j g with
   |some A=>bif A.own&&A.md.is (bif q.dM then .dp else .sh) then (match bw q A.xs with
    |some ys=>(match di st r cs with | some p=>some ((ys,p.1),some (a,j)::p.2) | none=>none)
    |none=>none) else none
   |none=>none
  |_=>none
 |_,_=>none
def bk:List (Option (Nat×Nat))→List (Nat×Nat)
 | []=>[]
 |some p::l=>p::bk l
 |none::l=>bk l
def eB (st:St):List (Nat×Nat)→St
 | []=>st
 |(a,j)::l=>eB (bj st a j none) l
def distinct:List (Nat×Nat)→Bool
 | []=>true
 |(a,j)::l=>l.all (fun p => !(Nat.beq p.1 a&&Nat.beq p.2 j))&&distinct l
def lim:Nat:=35184372088832
def rb:RT→List CV→Bool
 |.nil,[]=>true
 |.cons (.int k) r,.int l _::cs=>decide (k=l)&&rb r cs
 |.cons .bool r,.bool _::cs=>rb r cs
 |.cons .str r,.str _::cs=>rb r cs
 |_,_=>false
def kK.fits (T:kK) (t:Nat) (l:List CV):Bool:=match T.row t with | some r=>rb r l | none=>false
def v7 (T:kK) (st:St) (d:Option Nat) (op:BinOp) (t:Nat) (x y:V):N:=
 match x,y with
 |.one (.int k a),.one (.int l b)=>
  match op with
  |.shl | .shr=>match DG op k a b.toNat with
   |some n=>.br (decide (0≤b)) (.done (aZ st d (.one (.int k n)))) .fail
   |none=>.fail
  |_=>if k=l then (match PV op a b with
   |some t=>.done (aZ st d (.one (.bool t)))
   |none=>match DF op k a b with
    |some n=>.done (aZ st d (.one (.int k n)))
    |none=>match PW op k a b with
     |some n=>.br (decide (b=0)) .fail (.done (aZ st d (.one (.int k n))))
     |none=>.fail) else .fail
 |.one (.str a),.one (.str b)=>
  match op with
  |.add=>.br (Nat.ble (a.size+b.size) lim) (.done (aZ st d (.one (.str (a++b))))) .fail
  |.eql=>.done (aZ st d (.one (.bool (kM a b))))
  |.neq=>.done (aZ st d (.one (.bool (!kM a b))))
  |_=>.fail
 |.one (.bool a),.one (.bool b)=>
  match op,T.kind t with
  |.eql,some .bool=>.done (aZ st d (.one (.bool (a==b))))
  |.neq,some .bool=>.done (aZ st d (.one (.bool (!(a==b)))))
  |_,_=>.fail
 |.one .dN,.one .dN=>
  match op,T.elem t with
  |.eql,some _=>.done (aZ st d (.one (.bool true)))
  |.neq,some _=>.done (aZ st d (.one (.bool false)))
  |_,_=>.fail
 |.one (.nn _ _),.one .dN=>
  match op,T.elem t with
  |.eql,some _=>.done (aZ st d (.one (.bool false)))
  |.neq,some _=>.done (aZ st d (.one (.bool true)))
  |_,_=>.fail
 |.agg l,.agg m=>
  bif T.eq t&&T.fits t l then (match op,nc l m with
  |.eql,some t=>.done (aZ st d (.one (.bool t)))
  |.neq,some t=>.done (aZ st d (.one (.bool (!t))))
  |_,_=>.fail) else .fail
 |_,_=>.fail
def CV.tw:CV→Bool
 |.bad=>false
 |_=>true
def V.tw:V→Bool
 |.one c=>c.tw
 |.agg cs=>cs.all CV.tw
 |.m9 _=>false
def aU (st:St) (d:Option Nat) (A:fT):N:=
 match d with
 |some d=>match nth st d with
  |some s0=>.done (lZ (fun s=>{ s with v:=.one (.ref d 0 (s0.ag+1) .full),aN:=[some A],ag:=s0.ag+1 }) st d)
  |none=>.fail
 |none=>.fail
def iX (st:St) (d:Option Nat) (cs:List CV):N:=
 match d with
 |some d=>match nth st d with
  |some s0=>.done (lZ (fun s=>{ s with v:=.one (.ptr d (s0.bg+1) 0),box:=some cs,bg:=s0.bg+1 }) st d)
  |none=>.fail
 |none=>.fail
def n6 (r:RT):List CV:=(dv r (qh r)).map fun | .shr _ _=>.dN | c=>c
def dW (n off:Nat) (cs:List CV):Option (List CV):=
 let l:=(cs.drop off).take n
 bif Nat.beq l.length n then some l else none
def putCells (cs:List CV) (off:Nat) (l:List CV):Option (List CV):=
 bif Nat.ble (off+l.length) cs.length then some (cs.take off++l++cs.drop (off+l.length)) else none
def Nu (T:kK) (t:Nat) (l:List CV):V:=bif T.agg t then .agg l else (match l with | [c]=>.one c | _=>.one .bad)
def vN (T:kK) (st:St) (d:Option Nat) (t:Nat) (a:V):N:=
 match a,T.cells t with
 |.one (.ptr b g off),some n=>match cW st b g with
  |some cs=>match dW n off cs with
   |some l=>.done (aZ st d (Nu T t l))
   |none=>.fail
  |none=>.fail
 |.one (.lC r x off),some n=>match dW n off (dv r x) with
  |some l=>.done (aZ st d (Nu T t l))
  |none=>.fail
 |.one (.s8 r xs off),some n=>.row r xs[0]? fun x=>match dW n off (dv r x) with
  |some l=>.done (aZ st d (Nu T t l))
  |none=>.fail
 |.one (.Hg a j g i off),some n=>match aT st a j g with
  |some A=>(match A.md with
   |.sh=>.row A.r A.xs[i]? fun x=>match dW n off (dv A.r x) with
    |some l=>.done (aZ st d (Nu T t l))
    |none=>.fail
   |.lz=>.row A.r A.xs[i]? fun x=>match dW n off (dv A.r x) with
    |some l=>.done (aZ st d (Nu T t l))
    |none=>.fail
   |.dp=>.row A.r A.xs[i]? fun x=>match dW n off (qv a j g (j5 st a) i 0 A.r x) with
    |some l=>.done (aZ st d (Nu T t l))
    |none=>.fail
   |.ho _=>.fail)
  |none=>.fail
 |_,_=>.fail
def jQ (r:RT) (x:aw r):(off:Nat)→List CV→Option (aw r)
 |_,[]=>some x
 |off,c::l=>match jQ r x (off+1) l with
  |some y=>ga r y off c
  |none=>none
def fT.put (A:fT) (ys:List (aw A.r)):fT:={ A with xs:=ys }
def s9 (T:kK) (st:St) (t:Nat) (a v:V):N:=
 match a,T.cells t with
 |.one (.ptr b g off),some n=>match cW st b g with
  |some cs=>bif v.tw&&Nat.beq v.cells.length n then (match putCells cs off v.cells with
   |some l=>.done (lZ (fun s=>{ s with box:=some l }) st b)
   |none=>.fail) else .fail
  |none=>.fail
 |.one (.Hg a j g i off),some n=>match aT st a j g with
  |some A=>bif v.tw&&A.own&&Nat.beq v.cells.length n&&Nat.blt 0 n then
    (bif Nat.beq n A.r.width&&A.r.dM&&Nat.beq off 0 then
     (match A.md with
     |.sh=>rowOf st A.r v.cells fun x m=>bif m.all (fun p => !(Nat.beq p.1 a&&Nat.beq p.2 j)) then
      .row A.r A.xs[i]? (fun _=>.done (bj (freeze st m) a j (some (A.put (A.xs.set i x))))) else .fail
     |.dp=>(match di st A.r v.cells with
      |some p=>bif distinct (bk p.2)&&(bk p.2).all (fun p => !(Nat.beq p.1 a&&Nat.beq p.2 j)) then
       .row A.r A.xs[i]? (fun _=>.done (bj (eB st (bk p.2)) a j (some (A.put (A.xs.set i p.1))))) else .fail
      |none=>.fail)
     |.lz=>(match di st A.r v.cells with
      |some p=>bif distinct (bk p.2)&&(bk p.2).all (fun p => !(Nat.beq p.1 a&&Nat.beq p.2 j)) then
       .row A.r A.xs[i]? (fun _=>.done (bj (freeze st (bk p.2)) a j (some (A.put (A.xs.set i p.1))))) else .fail
      |none=>.fail)
     |.ho q=>(match di st A.r v.cells with
      |some p=>bif distinct (bk p.2)&&(bk p.2).all (fun p => !(Nat.beq p.1 a&&Nat.beq p.2 j)) then
       .br (Nat.beq i q) (.row A.r A.xs[i]? (fun _=>.done (bj (eB st (bk p.2)) a j (some { A.put (A.xs.set i p.1) with md:=.dp })))) .fail else .fail
      |none=>.fail))
    else bif A.md.Ft then .fail else .row A.r A.xs[i]? fun x=>match jQ A.r x off v.cells with
     |some y=>.done (bj st a j (some (A.put (A.xs.set i y))))
     |none=>.fail) else .fail
  |none=>.fail
 |_,_=>.fail
def nd (T:kK) (st:St) (d:Option Nat) (t:Nat) (x ix:V):N:=
 match T.elem t,x,ix with
 |some (q,_),.one (.shr r xs),.one (.int _ i)=>match bw q xs with
  |some ys=>.br (decide (0≤i)) (.row q ys[i.toNat]? fun y=>.done (aZ st d (.one (.lC q y 0)))) .fail
  |none=>.fail
 |some (q,_),.one (.ref a j g w),.one (.int _ i)=>match aT st a j g with
  |some A=>match bw q A.xs with
   |some ys=>(match A.own with
    |false=>bif !A.md.is .sh then .fail else .br (decide (0≤i)) (.row q (w.app ys)[i.toNat]? fun y=>.done (aZ st d (.one (.lC q y 0)))) .fail
    |true=>.br (decide (0≤i)) (.br (Nat.blt i.toNat (w.app ys).length) (.done (aZ st d (.one (.Hg a j g (w.idx i.toNat) 0)))) .fail) .fail)
   |none=>.fail
  |none=>.fail
 |some (q,_),.one (.Mv a j g),.one (.int _ i)=>match aT st a j g with
  |some A=>match bw q A.xs with
   |some ys=>bif A.own then .br (decide (0≤i)) (.br (Nat.blt i.toNat ys.length) (.done (aZ st d (.one (.Hg a j g i.toNat 0)))) .fail) .fail else .fail
   |none=>.fail
  |none=>.fail
 |_,_,_=>.fail
def n7 (n:Nat) (lo hi:Option V) (k:Option Nat→Option Nat→N):N:=
 let KG (l:Option Nat):N:=match hi with
  |none=>k l none
  |some (.one (.int _ h))=>.br (decide ((match l with | some l=>(l:Int) | none=>0)≤h)) (.br (decide (h≤n)) (k l (some h.toNat)) .fail) .fail
  |_=>.fail
 match lo with
 |none=>KG none
 |some (.one (.int _ l))=>.br (decide (0≤l)) (match hi with
  |none=>.br (decide (l≤n)) (KG (some l.toNat)) .fail
  |_=>KG (some l.toNat)) .fail
 |_=>.fail
def KH (n:Nat):Option Nat→Option Nat→View
 |none,none=>.full
 |some l,none=>.from l
 |none,some h=>.sub 0 h
 |some l,some h=>.sub l (h-l)
def View.of (w:View) (n:Nat) (lo hi:Option Nat):View:=
 match lo,hi with
 |none,none=>w
 |some l,none=>(match w with | .full=>.from l | .from a=>.from (a+l) | .sub a m=>.sub (a+l) (m-l))
 |none,some h=>.sub w.lo h
 |some l,some h=>.sub (w.lo+l) (h-l)
def uj (T:kK) (st:St) (d:Option Nat) (t:Nat) (x:V) (lo hi:Option V):N:=
 match x with
 |.one (.str s)=>match T.kind t with
  |some .str=>n7 s.size lo hi fun l h=>
   .done (aZ st d (.one (.str (s.extract (l.getD 0) (h.getD s.size)))))
  |_=>.fail
 |.one .dN=>match T.elem t with
  |some _=>n7 0 lo hi fun _ _=>.done (aZ st d (.one .dN))
  |none=>.fail
 |.one (.shr r xs)=>match T.elem t with
  |some (q,_)=>match bw q xs with
   |some ys=>n7 ys.length lo hi fun l h=>.done (aZ st d (.one (.shr q ((KH ys.length l h).app ys))))
   |none=>.fail
  |none=>.fail
 |.one (.ref a j g w)=>match T.elem t,aT st a j g with
  |some (q,_),some A=>match bw q A.xs with
   |some ys=>n7 (w.app ys).length lo hi fun l h=>.done (aZ st d (.one (.ref a j g (w.of (w.app ys).length l h))))
   |none=>.fail
  |_,_=>.fail
 |_=>.fail
def Hi (T:kK) (st:St) (d:Option Nat) (t:Nat) (x:V):N:=
 match x with
 |.one (.str s)=>match T.kind t with
  |some .str=>.done (aZ st d (.one (.int .i64 s.size)))
  |_=>.fail
 |.one .dN=>match T.elem t with
  |some _=>.done (aZ st d (.one (.int .i64 0)))
  |none=>.fail
 |.one (.shr _ xs)=>match T.elem t with
  |some _=>.done (aZ st d (.one (.int .i64 xs.length)))
  |none=>.fail
 |.one (.ref a j g w)=>match T.elem t,aT st a j g with
  |some _,some A=>.done (aZ st d (.one (.int .i64 (w.app A.xs).length)))
  |_,_=>.fail
 |_=>.fail
def Nv (st:St):V→Option (Nat×Nat×fT)
 |.one (.ref a j g .full)=>match aT st a j g with
  |some A=>bif A.own&&A.md.is .dp then some (a,j,A) else none
  |none=>none
 |_=>none
def VT (st:St):V→Option (Nat×Nat×fT)
 |.one (.ref a j g .full)=>match aT st a j g with
  |some A=>bif A.own&&A.md.is .lz then some (a,j,A) else none
  |none=>none
 |_=>none
def DH (st:St) (d:Option Nat) (r:RT) (bytes:Nat) (x y:V) (b k:Nat) (ys:List (aw r)):N:=
 match x with
 |.one .dN=>.br (Nat.ble ((([]:List (aw r)).length+ys.length)*bytes) lim) (aU (eB st [(b,k)]) d { r:=r,own:=true,xs:=[]++ys,md:=.dp }) .fail
 |.one (.ref a j g w)=>match Nv st (.one (.ref a j g w)) with
  |some (_,_,A)=>(match bw r A.xs with
   |some xs=>bif !(Nat.beq a b&&Nat.beq j k) then .br (Nat.ble ((xs.length+ys.length)*bytes) lim) (aU (eB st [(a,j),(b,k)]) d { r:=r,own:=true,xs:=xs++ys,md:=.dp }) .fail else .fail
   |none=>.fail)
  |none=>match VT st (.one (.ref a j g w)),Nv st y with
   |some (_,_,A),some (_,_,B)=>(match bw r A.xs with
    |some xs=>bif !(Nat.beq a b&&Nat.beq j k) then .br (Nat.ble ((xs.length+ys.length)*bytes) lim) (aU (eB (bj st b k (some { B with md:=.lz })) [(a,j),(b,k)]) d { r:=r,own:=true,xs:=xs++ys,md:=.lz }) .fail else .fail
    |none=>.fail)
   |_,_=>.fail
 |_=>.fail
def Dq (T:kK) (st:St) (d:Option Nat) (t:Nat) (x y:V):N:=
 match T.elem t with
 |none=>.fail
 |some (r,bytes)=>
  match Nv st y with
  |some (b,k,B)=>(match bw r B.xs with | some ys=>DH st d r bytes x y b k ys | none=>.fail)
  |none=>
  let out (xs:List (aw r)) (used:List (Nat×Nat)):N:=
   match y with
   |.one c=>l8 st r c fun ys=>
     .br (Nat.ble ((xs.length+ys.length)*bytes) lim)
      (aU (used.foldl (fun s p=>bj s p.1 p.2 none) st) d { r:=r,own:=true,xs:=xs++ys }) .fail
   |_=>.fail
  match x with
  |.one .dN=>out [] []
  |.one (.ref a j g w)=>match aT st a j g with
   |some A=>bif A.own&&(A.md.is .sh||(A.md.is .dp&&A.xs.isEmpty)) then (match bw r A.xs with | some xs=>out (w.app xs) [(a,j)] | none=>.fail) else .fail
   |none=>.fail
  |_=>.fail
def KI (T:kK) (st:St) (t:Nat) (x:V):N:=
 match T.elem t with
 |none=>.fail
 |some (r,_)=>
  match x with
  |.one .dN=>.done st
  |.one (.ref a j g (.from k))=>match aT st a j g with
   |some A=>bif A.own&&(A.md.is .sh && !A.r.dM) then (match bw r A.xs with
    |some _=>.br (Nat.blt 0 (A.xs.length-k)) (.done (bj st a j (some (A.put (A.xs.take k++List.replicate (A.xs.length-k) (qh A.r)))))) (.done st)
    |none=>.fail) else .fail
   |none=>.fail
  |_=>.fail
def PZ (T:kK) (st:St) (d:Option Nat) (t:Nat) (len cap:V):N:=
 match T.elem t,len,cap with
 |some (r,bytes),.one (.int .i64 n),.one (.int .i64 c)=>
  .br (decide (n=c)) (.br (decide (0≤n)) (.br (Nat.ble (n.toNat*bytes) lim)
   (aU st d { r:=r,own:=true,xs:=List.replicate n.toNat (qh r),md:=bif T.dp t then .dp else .sh }) .fail) .fail) .fail
 |_,_,_=>.fail
def xC (st:St) (r:RT):(i:Nat)→List (Nat×V)→(k:List (aw r)→List (Nat×Nat)→N)→N
 |_,[],k=>k [] []
 |i,(p,v)::l,k=>bif v.tw&&Nat.beq p i then rowOf st r v.cells fun x m=>xC st r (i+1) l fun xs m'=>k (x::xs) (m++m') else .fail
def Hj (st:St) (r:RT):List (Nat×V)→Option (List (aw r)×List (Option (Nat×Nat)))
 | []=>some ([],[])
 | [(p,v)]=>bif v.tw&&Nat.beq p 0 then (match di st r v.cells with | some q=>some ([q.1],q.2) | none=>none) else none
 |_=>none
def wy (a j g:Nat):List CV→Nat→Option Nat
 | [],_=>none
 |.ref b i k .full::l,n=>bif Nat.beq a b&&(Nat.beq j i&&Nat.beq g k) then some n else wy a j g l (n+1)
 |_::l,n=>wy a j g l (n+1)
def aa8 (Hk:List CV) (r:RT) (x:aw r) (d g e:Nat):CV→CV
 |.ref a j h .full=>match wy a j h Hk 0 with
  |some k=>(match kZ r x k with
   |some y=>.KC d 0 g e 0 k y.1 y.2
   |none=>.ref a j h .full)
  |none=>.ref a j h .full
 |c=>c
def Dc (f:CV→CV) (st:St):St:=st.map fun s=>{ s with box:=s.box.map (List.map f) }
def aa9 (st:St) (s:Nat):Nat:=match nth st s with | some x=>x.ag | none=>0
def P0 (r:RT) (parts:List (Nat×V)) (xs:List (aw r)) (d:Option Nat):N→N
 |.done st=>match d,parts,xs with
  |some d,[p],[x]=>.done (Dc (aa8 p.2.cells r x d (aa9 st d) (j5 st d)) st)
  |_,_,_=>.done st
 |n=>n
def wz (T:kK) (st:St) (d:Option Nat) (t len:Nat) (parts:List (Nat×V)):N:=
 match T.elem t with
 |some (r,_)=>bif Nat.beq parts.length len&&Nat.ble (len*r.width) 16777216 then
   (match (bif T.dp t then Hj st r parts else none) with
   |some p=>bif distinct (bk p.2) then bif T.lz t d then aU (freeze st (bk p.2)) d { r:=r,own:=true,xs:=p.1,md:=.lz } else P0 r parts p.1 d (aU (eB st (bk p.2)) d { r:=r,own:=true,xs:=p.1,md:=.dp }) else .fail
   |none=>xC st r 0 parts fun xs m=>aU (freeze st m) d { r:=r,own:=true,xs:=xs })
  else .fail
 |none=>.fail
def n8 (T:kK) (t:Nat) (cs:List CV):List (Nat×V)→Option (List CV)
 | []=>some cs
 |(f,v)::l=>match T.off t f,T.fsz t f with
  |some o,some s=>bif v.tw&&Nat.beq v.cells.length s then (match putCells cs o v.cells with
   |some lQ=>n8 T t lQ l
   |none=>none) else none
  |_,_=>none
def View.isFull:View→Bool
 |.full=>true
 |_=>false
def nY (st:St) (s:Nat):Nat:=match nth st s with | some x=>x.ag | none=>0
def eS (st:St) (own:Bool):CV→Option (OV×Option Lb×List (Nat×Nat))
 |.int q n=>some (.int q n,none,[])
 |.bool b=>some (.bool b,none,[])
 |.str s=>some (.str s,none,[])
 |.dN=>some (.dN,none,[])
 |.shr r xs=>some (.shr r xs,none,[])
 |.nn r xs=>some (.shr r xs,none,[])
 |.ref a j g w=>match aT st a j g with
  |some A=>bif A.md.Ft then none else bif own&&A.own&&(A.md.is .sh||(A.md.is .lz||w.isFull)) then some (.own { A with xs:=w.app A.xs },some (.sp a j),[]) else some (.shr A.r (w.app A.xs),none,[(a,j)])
  |none=>none
 |.KC a j g e _ _ q ys=>match aT st a j g with
  |some A=>bif A.md.is .dp&&Nat.beq e (j5 st a) then some (.shr q ys,none,[(a,j)]) else none
  |none=>none
 |.o8 a j g e _ _ q ys=>match aT st a j g with
  |some A=>bif A.md.is .dp&&Nat.beq e (j5 st a) then some (.shr q ys,none,[(a,j)]) else none
  |none=>none
 |.lC r x off=>bif Nat.beq off 0 then some (.lC r [x],none,[]) else none
 |.s8 r xs off=>bif Nat.beq off 0 then some (.lC r xs,none,[]) else none
 |.fn f rs xs=>some (.fn f rs xs,none,[])
 |_=>none
def eY (st:St) (own:Bool):List CV→Option (List OV×List (Option Lb)×List (Nat×Nat))
 | []=>some ([],[],[])
 |c::l=>match eS st own c,eY st own l with
  |some (o,u,r),some (os,us,rs)=>some (o::os,u::us,r++rs)
  |_,_=>none
def bR:List (Option Lb)→List Lb
 | []=>[]
 |some l::ls=>l::bR ls
 |none::ls=>bR ls
def Pm.nf:Pm→Bool
 |.own=>true
 |_=>false
def P1 (st:St):CV→Bool
 |.ref a j g w=>(match w with | .full=>true | _=>false)&&(match aT st a j g with | some A=>A.own | none=>false)
 |_=>true
def eG (st:St) (m:Pm):V→Option (AV×List Lb×List Lb×List (Nat×Nat))
 |.one (.ptr b g off)=>match cW st b g with
  |some cs=>(match eY st true cs with
   |some (os,u,r)=>bif Nat.beq off 0 then some (.box os,.box b::bR u,bR u,r) else none
   |none=>none)
  |none=>none
 |.one (.ref a j g w)=>match m with
  |.io=>(match w,aT st a j g with
   |.full,some A=>bif A.own && !A.md.Ft then some (.io A,[.sp a j],[],[]) else none
   |_,_=>none)
  |m=>match eY st m.nf [.ref a j g w] with
   |some (os,u,r)=>some (.val false os,bR u,bR u,r)
   |none=>none
 |.one c=>match eY st false [c] with
  |some (os,u,r)=>some (.val false os,bR u,bR u,r)
  |none=>none
 |.agg cs=>match m with
  |.bL=>(match eY st true cs with
   |some (os,u,r)=>bif cs.all (P1 st) then some (.bL os,bR u,[],r) else none
   |none=>none)
  |m=>match eY st m.nf cs with
   |some (os,u,r)=>some (.val true os,bR u,bR u,r)
   |none=>none
 |.m9 _=>none
def iY (st:St):List (Pm×V)→Option (List AV×List Lb×List Lb×List (Nat×Nat))
 | []=>some ([],[],[],[])
 |(m,v)::l=>match eG st m v,iY st l with
  |some (a,u,q,r),some (as,us,qs,rs)=>some (a::as,u++us,q++qs,r++rs)
  |_,_=>none
def uk:List Lb→Bool
 | []=>true
 |x::l=>l.all (fun y => !(Lb.same x y))&&uk l
def apart (used:List Lb) (reads:List (Nat×Nat)):Bool:=
 reads.all fun p=>used.all fun q => !(Lb.same q (.sp p.1 p.2))
def oI (st:St):List Lb→St
 | []=>st
 |.sp a j::l=>oI (bj st a j none) l
 |_::l=>oI st l
def OV.plain:OV→Bool
 |.own A => !A.r.dM||(A.md.is .dp||A.md.is .lz)
 |.shr _ _=>false
 |.lC _ _=>false
 |.fn _ _ _=>false
 |_=>true
def XV.plain:XV→Bool
 |.io A => !A.r.dM||(A.md.is .dp||A.md.is .lz)
 |.box os=>os.all OV.plain
 |.bL As=>As.all fun | some A => !A.r.dM||(A.md.is .dp||A.md.is .lz) | none=>true
def Res.plain (r:Res):Bool:=
 r.outs.all (fun o=>o.tv.all OV.plain)&&r.exts.all XV.plain
def DI (st:St):(j:Nat)→List CV→List (Option fT)→Option St
 |_,[],_=>some st
 |j,.ref a k g _::cs,As=>match nth As j,aT st a k g with
  |some (some B),some _=>DI (bj st a k (some B)) (j+1) cs As
  |_,_=>none
 |j,_::cs,As=>DI st (j+1) cs As
def qi (st:St) (m:Pm) (v:V) (xs:List XV):Option (St×List XV):=
 match v with
 |.one (.ptr b g _)=>match xs with
  |.box os::xs=>(match nth st b,cW st b g with
   |some s0,some _=>some (lZ (fun s=>{ s with box:=some (bc b (s0.ag+1) 0 os),aN:=bl os,ag:=s0.ag+1 }) st b,xs)
   |_,_=>none)
  |_=>none
 |.one (.ref a j g _)=>match m with
  |.io=>(match xs,aT st a j g with
   |.io A::xs,some _=>some (bj st a j (some A),xs)
   |_,_=>none)
  |_=>some (st,xs)
 |.agg cs=>match m with
  |.bL=>(match xs with
   |.bL As::xs=>(DI st 0 cs As).map fun aY=>(aY,xs)
   |_=>none)
  |_=>some (st,xs)
 |_=>some (st,xs)
def um (st:St):List (Pm×V)→List XV→Option St
 | [],[]=>some st
 | [],_=>none
 |(m,v)::l,xs=>match qi st m v xs with
  |some (aY,xs')=>um aY l xs'
  |none=>none
def vO (a b c:Pm):List V→List (Pm×V)
 | []=>[]
 | [x]=>[(a,x)]
 | [x,y]=>[(a,x),(b,y)]
 |x::y::z::l=>(a,x)::(b,y)::(c,z)::l.map fun v=>(.shr,v)
def refsOf:List CV→List (Nat×Nat)
 | []=>[]
 |.ref a j _ _::l=>(a,j)::refsOf l
 |_::l=>refsOf l
def DJ (st:St):List (Pm×V)→List (Nat×Nat)
 | []=>[]
 |(.own,.one (.ptr b g _))::l=>(match cW st b g with | some cs=>refsOf cs | none=>[])++DJ st l
 |(.pick q,.one (.ptr b g _))::l=>(match cW st b g with | some cs=>refsOf (q.filterMap (nth cs)) | none=>[])++DJ st l
 |_::l=>DJ st l
def ng (u:List Lb) (a:Nat):Bool:=u.any fun | .sp b _=>Nat.beq b a | _=>false
def qj (u:List Lb):Nat→St→St
 |_,[]=>[]
 |a,s::l=>(bif ng u a then { s with ep:=s.ep+1 } else s)::qj u (a+1) l
def IG (st:St) (d:Option Nat) (zY:ug) (ms:List (Pm×V)) (fin:St→N):N:=
  match iY st ms with
  |some (da,used,abb,reads)=>bif uk used&&apart used reads then (match zY da with
   |some A=>.row A.r A.o fun x=>(match um (oI (qj used 0 (bif (A.res x).plain then st else freeze st reads)) abb) ms (A.res x).exts with
    |some aY=>(match wx aY d (A.res x).outs with
     |some VU=>fin VU
     |none=>.fail)
    |none=>.fail)
   |none=>.fail) else .fail
  |none=>.fail
structure Dr where
 a:Nat
 j:Nat
 g:Nat
 e:Nat
 i:Nat
 k:Nat
 q:RT
 ys:List (aw q)
def yF:List CV→List Dr
 | []=>[]
 |.o8 a j g e i k q ys::l=>⟨a,j,g,e,i,k,q,ys⟩::yF l
 |_::l=>yF l
def rf:List (Pm×V)→List Dr
 | []=>[]
 |(.io,.one c)::l=>yF [c]++rf l
 |(.bL,.agg cs)::l=>yF cs++rf l
 |_::l=>rf l
def Hl:List Nat→Bool
 | []=>true
 | [_]=>true
 |a::b::l=>Nat.blt a b&&Hl (b::l)
def Dr.arr (x:Dr):fT:={ r:=x.q,own:=true,xs:=x.ys,md:=bif x.q.dM then .dp else .sh }
def mi (st:St) (ms:List (Pm×V)):Option (Dr×fT×List Dr):=
 match rf ms with
 | []=>none
 |x::l=>match aT st x.a x.j x.g with
  |some A=>bif A.own&&A.md.is .dp&&Nat.beq x.e (j5 st x.a)&&l.all (fun y=>Nat.beq y.a x.a&&Nat.beq y.j x.j&&Nat.beq y.g x.g&&Nat.beq y.e x.e&&Nat.beq y.i x.i) &&
    Hl ((x::l).map (·.k)) && !Nat.beq x.a (st.length-1) then some (x,A,x::l) else none
  |none=>none
def posOf (k:Nat):(n:Nat)→List Dr→Nat
 |n,[]=>n
 |n,x::l=>bif Nat.beq x.k k then n else posOf k (n+1) l
def VV (P g:Nat) (l:List Dr):CV→CV
 |.o8 _ _ _ _ _ k _ _=>.ref P (posOf k 0 l) g .full
 |c=>c
def SW (P g:Nat) (l:List Dr):Pm×V→Pm×V
 |(.io,.one c)=>(.io,.one (VV P g l c))
 |(.bL,.agg cs)=>(.bL,.agg (cs.map (VV P g l)))
 |x=>x
def eJ (st:St) (x:Dr) (A:fT) (l:List Dr):St:=
 lZ (fun s=>{ s with aN:=l.map (fun y=>some y.arr),ag:=s.ag+1,ep:=s.ep+1 }) (bj st x.a x.j (some { A with md:=.ho x.i })) (st.length-1)
def uo (st:St) (P g:Nat) (r:RT):(n:Nat)→List Dr→aw r→Option (aw r)
 |_,[],z=>some z
 |n,y::l,z=>match aT st P n g with
  |some B=>bif B.own&&B.md.is (bif y.q.dM then .dp else .sh) then (match bw y.q B.xs with
   |some ys=>(match nb r z y.k y.q ys with
    |some z'=>uo st P g r (n+1) l z'
    |none=>none)
   |none=>none) else none
  |none=>none
def KJ (P g:Nat) (x:Dr) (A:fT) (l:List Dr) (st:St):N:=
 match aT st x.a x.j x.g with
 |some H=>bif H.md.Ft then (.row A.r A.xs[x.i]? fun z=>match uo st P g A.r 0 l z with
  |some z'=>.done (bj (lZ (fun s=>{ s with aN:=[],ep:=s.ep+1 }) st P) x.a x.j (some (A.put (A.xs.set x.i z'))))
  |none=>.fail) else .fail
 |none=>.fail
def Hm (T:kK) (st:St) (d:Option Nat) (t:Nat) (x y:V):N:=
 match mi st [(.io,x)] with
 |none=>Dq T st d t x y
 |some (z,A,l)=>Dq T (eJ st z A l) d t (SW (st.length-1) (nY st (st.length-1)+1) l (.io,x)).2 y
def IH (st:St) (o:Oper):Bool:=
 match o.op with
 |.call { callee:=.builtin .append,args:=args,argTypes:=_ }=>(match args.toList with
  |x::_=>(mi st [(.io,l6 st x)]).isSome
  |_=>false)
 |_=>false
def UM (st:St) (d:Option Nat) (zY:ug) (ms:List (Pm×V)):N:=
 match mi st ms with
 |none=>IG st d zY ms .done
 |some (x,A,l)=>IG (eJ st x A l) d zY (ms.map (SW (st.length-1) (nY st (st.length-1)+1) l)) (KJ (st.length-1) (nY st (st.length-1)+1) x A l)
def Cu (st:St):CV→CV
 |.ref a j g .full=>match aT st a j g with
  |some A=>bif A.own then .ref a j g .full else bif A.md.is .sh then .shr A.r A.xs else .ref a j g .full
  |none=>.ref a j g .full
 |x=>x
def P2 (st:St):V→V
 |.one x=>.one (Cu st x)
 |.agg cs=>.agg (cs.map (Cu st))
 |x=>x
def UN (st:St) (s:Sl):Sl:={ s with v:=P2 st s.v,box:=s.box.map fun cs=>cs.map (Cu st) }
def uq (st:St):St:=st.map (UN st)
def Pm.P3:Pm→Bool
 |.pick _=>true
 |_=>false
def Mx (st:St) (a j:Nat):St:=
 match nth st a with
 |some s=>(match nth s.aN j with
  |some (some A)=>bif A.own&&A.md.is .dp then bj st a j (some { A with md:=.lz }) else st
  |_=>st)
 |none=>st
def DK (st:St):List (Nat×Nat)→St
 | []=>st
 |(a,j)::l=>DK (Mx st a j) l
def DL (st:St):List (Pm×V)→List (Nat×Nat)
 | []=>[]
 |(.soft q,.one (.ptr b g _))::l=>(match cW st b g with | some cs=>refsOf (q.filterMap (nth cs)) | none=>[])++DL st l
 |_::l=>DL st l
def Cv (ms:List (Pm×V)) (st:St):St:=bif ms.any (fun m=>m.1.P3) then uq (DK st (DL st ms)) else DK st (DL st ms)
def F1 (S:kV) (st:St) (d:Option Nat) (f:FuncId) (args:List V):N:=
 match S f with
 |none=>.fail
 |some (a,b,c,zY)=>UM (Cv (vO a b c args) (freeze st (DJ st (vO a b c args)))) d zY (vO a b c args)
def eC:List CV→Option ((r:RT)×aw r)
 | []=>some ⟨.nil,()⟩
 |.int k n::l=>match eC l with | some ⟨r,x⟩=>some ⟨.cons (.int k) r,(n,x)⟩ | none=>none
 |.bool b::l=>match eC l with | some ⟨r,x⟩=>some ⟨.cons .bool r,(b,x)⟩ | none=>none
 |.str s::l=>match eC l with | some ⟨r,x⟩=>some ⟨.cons .str r,(s,x)⟩ | none=>none
 |.shr q xs::l=>match eC l with | some ⟨r,x⟩=>some ⟨.cons (.sl q) r,(xs,x)⟩ | none=>none
 |_=>none
def fU (st:St) (b:Nat):St:=lZ (fun s=>{ s with box:=none }) st b
def rnV (b g:Nat) (r:RT) (x:aw r):V→V
 |.one (.ptr b' g' off)=>bif Nat.beq b' b&&Nat.beq g' g then .one (.lC r x off) else .one (.ptr b' g' off)
 |v=>v
def nh (st:St) (b g:Nat) (r:RT) (x:aw r):St:=st.map fun s=>{ s with v:=rnV b g r x s.v }
def SX (st:St) (t:Nat):Option (St×((r:RT)×List (aw r))):=
 match bI st t with
 |.one (.lC r x off)=>bif Nat.beq off 0 then some (st,⟨r,[x]⟩) else none
 |.one (.s8 r xs off)=>bif Nat.beq off 0 then some (st,⟨r,xs⟩) else none
 |.one (.ptr b g off)=>match cW st b g with
  |some cs=>bif Nat.beq off 0 then (match eC cs with
   |some ⟨r,x⟩=>some (nh (fU st b) b g r x,⟨r,[x]⟩)
   |none=>none) else none
  |none=>none
 |_=>none
def yh (st:St):List Operand→Option (St×((rs:RT)×aw rs))
 | []=>some (st,⟨.nil,()⟩)
 |.tmp t::l=>match SX st t with
  |some (aY,⟨r,ys⟩)=>(match yh aY l with
   |some (VU,⟨rs,xs⟩)=>some (VU,⟨.cons (.sl r) rs,(ys,xs)⟩)
   |none=>none)
  |none=>none
 |_=>none
def vP:(rs:RT)→aw rs→List V
 |.nil,_=>[]
 |.cons (.sl r) rs,x=>.one (.s8 r x.1 0)::vP rs x.2
 |.cons _ rs,x=>.one .bad::vP rs x.2
def My (y:aw (.cons (.int .u8) .nil)):Int:=y.1
def bytesOf (ys:List (aw (.cons (.int .u8) .nil))):ByteArray:=ys.foldl (fun r y=>r.push (UInt8.ofNat (My y).toNat)) ByteArray.empty
def Ku (T:kK) (S:kV) (st:St) (o:Oper):N:=
 match o.op with
 |.move x | .assign x=>.done (aZ st o.dst (l6 st x))
 |.pick c a b=>match l6 st c with
  |.one (.bool x)=>.br x (.done (aZ st o.dst (l6 st a))) (.done (aZ st o.dst (l6 st b)))
  |_=>.fail
 |.alloc t=>match T.row t with
  |some r=>iX st o.dst (n6 r)
  |none=>.fail
 |.box t x=>match T.cells t with
  |some n=>bif (l6 st x).tw&&Nat.beq (l6 st x).cells.length n then (match (bif T.cap t then eC (l6 st x).cells else none) with
   |some ⟨r,y⟩=>.done (aZ st o.dst (.one (.lC r y 0)))
   |none=>iX st o.dst (l6 st x).cells) else .fail
  |none=>.fail
 |.build t parts=>match T.row t,T.agg t with
  |some r,true=>(match n8 T t (n6 r) (parts.toList.map fun p=>(p.1,l6 st p.2)) with
   |some cs=>.done (aZ st o.dst (.agg cs))
   |none=>.fail)
  |_,_=>.fail
 |.buildSlice t len parts=>wz T st o.dst t len (parts.toList.map fun p=>(p.1,l6 st p.2))
 |.load t a=>vN T st o.dst t (l6 st a)
 |.store t a v=>(match o.dst with
  |none=>s9 T st t (l6 st a) (l6 st v)
  |some _=>.fail)
 |.nilCheck x=>match l6 st x with
  |.one (.ptr b g off)=>(match cW st b g with
   |some _=>.done (aZ st o.dst (.one (.ptr b g off)))
   |none=>.fail)
  |.one (.Hg a j g i off)=>(match aT st a j g with
   |some _=>.done (aZ st o.dst (.one (.Hg a j g i off)))
   |none=>.fail)
  |_=>.fail
 |.binOp op t x y _=>v7 T st o.dst op t (l6 st x) (l6 st y)
 |.unOp .not _ x=>match l6 st x with
  |.one (.bool b)=>.done (aZ st o.dst (.one (.bool (!b))))
  |_=>.fail
 |.convert s t x=>match T.kind s,T.kind t,l6 st x with
  |some (.int _),some (.int k),.one (.int _ n)=>.done (aZ st o.dst (.one (.int k (k.wrap n))))
  |some .str,some .str,.one (.str b)=>.done (aZ st o.dst (.one (.str b)))
  |none,some .str,.one c=>(match T.elem s with
   |some (.cons (.int .u8) .nil,_)=>l8 st (.cons (.int .u8) .nil) c fun ys=>.done (aZ st o.dst (.one (.str (bytesOf ys))))
   |_=>.fail)
  |_,_,_=>.fail
 |.makeSlice t l c=>PZ T st o.dst t (l6 st l) (l6 st c)
 |.slice t x lo hi none=>uj T st o.dst t (l6 st x) (lo.map (l6 st)) (hi.map (l6 st))
 |.fieldAddr t x f=>match l6 st x,T.off t f with
  |.one (.ptr b g off),some k=>(match cW st b g with
   |some _=>.done (aZ st o.dst (.one (.ptr b g (off+k))))
   |none=>.fail)
  |.one (.Hg a j g i off),some k=>(match aT st a j g with
   |some _=>.done (aZ st o.dst (.one (.Hg a j g i (off+k))))
   |none=>.fail)
  |.one (.lC r x off),some k=>.done (aZ st o.dst (.one (.lC r x (off+k))))
  |.one (.s8 r xs off),some k=>.done (aZ st o.dst (.one (.s8 r xs (off+k))))
  |_,_=>.fail
 |.field t x f=>match l6 st x,T.off t f with
  |.agg cs,some k=>bif T.one t f then (match nth cs k with
   |some c=>.done (aZ st o.dst (.one c))
   |none=>.fail) else .fail
  |_,_=>.fail
 |.indexAddr t x i=>nd T st o.dst t (l6 st x) (l6 st i)
 |.index t x i=>match T.kind t,l6 st x,l6 st i with
  |some .str,.one (.str s),.one (.int _ n)=>.br (decide (0≤n)) (.br (decide (n<s.size)) (.done (aZ st o.dst (.one (.int .u8 (Hh s n))))) .fail) .fail
  |_,_,_=>.fail
 |.extract t i=>match l6 st t with
  |.m9 vs=>match nth vs i with
   |some v=>.done (aZ st o.dst v)
   |none=>.fail
  |_=>.fail
 |.call { callee:=.value (.func f),args:=args,argTypes:=_ }=>F1 S st o.dst f (args.toList.map (l6 st))
 |.call { callee:=.value (.tmp t),args:=args,argTypes:=_ }=>(match bI st t with
  |.one (.fn g rs xs)=>.row rs xs[0]? fun x=>F1 S st o.dst g (args.toList.map (l6 st)++vP rs x)
  |_=>.fail)
 |.makeFunc (.func g) first wA=>bif first.isEmpty then (match yh st wA.toList with
  |some (aY,⟨rs,x⟩)=>.done (aZ aY o.dst (.one (.fn g rs [x])))
  |none=>.fail) else .fail
 |.call { callee:=.builtin b,args:=args,argTypes:=ts }=>match b,args.toList,ts.toList with
  |.len,[x],[t]=>Hi T st o.dst t (l6 st x)
  |.append,[x,y],[t,u]=>bif Nat.beq t u then Hm T st o.dst t (l6 st x) (l6 st y) else .fail
  |.min,[x,y],_=>(match l6 st x,l6 st y with
   |.one (.int k a),.one (.int _ b)=>.done (aZ st o.dst (.one (.int k (if b<a then b else a))))
   |_,_=>.fail)
  |.max,[x,y],_=>(match l6 st x,l6 st y with
   |.one (.int k a),.one (.int _ b)=>.done (aZ st o.dst (.one (.int k (if b>a then b else a))))
   |_,_=>.fail)
  |.min,[x,y,z],_=>(match l6 st x,l6 st y,l6 st z with
   |.one (.int k a),.one (.int _ b),.one (.int _ c)=>.done (aZ st o.dst (.one (.int k (if c<(if b<a then b else a) then c else (if b<a then b else a)))))
   |_,_,_=>.fail)
  |.clear,[x],[t]=>(match o.dst with | none=>KI T st t (l6 st x) | some _=>.fail)
  |_,_,_=>.fail
 |_=>.fail
def wB (T:kK) (S:kV) (ops:List Oper) (st:St) (o:Oper):N:=
 match o.guard with
 |none=>Ku T S st o
 |some (j,want)=>match (nth ops j).bind (·.dst) with
  |some d=>match bI st d with
   |.one (.bool b)=>
    let yes (x:Bool):N:=Ku T S (aZ st (some d) (.one (.bool x))) o
    let no (x:Bool):N:=.done (aZ (aZ st (some d) (.one (.bool x))) o.dst (.m9 []))
    .br b (bif want then yes true else no true) (bif want then no false else yes false)
   |.m9 []=>.done (aZ st o.dst (.m9 []))
   |_=>.fail
  |none=>.fail
inductive Ex where
 |normal
 |exit (n:Nat)
 |ret
open Classical in
noncomputable def both {R:Type} (a b:Option R):Option R:=if a=b then a else none
theorem cX {R:Type} (a:Option R):both a a=a:=by unfold both;rw [if_pos rfl]
theorem Nw {R:Type} {a b:Option R} {r:R} (h:both a b=some r):a=some r∧b=some r:=by
 unfold both at h
 split at h
 ·rename_i e;exact ⟨h,e▸h⟩
 ·cases h
section
variable {R:Type} (T:kK) (S:kV)
def Nx (ops:List Oper):List Oper→St→(St→Option R)→Option R
 | [],st,k=>k st
 |o::r,st,k=>(wB T S ops st o).fold fun aY=>Nx ops r aY k
inductive Kd where
 |any | take | one | last
inductive Pl where
 |nil
 |op (i:Nat) (kd:Kd) (p:Pl)
 |alt (p q:Pl)
def KK (st:St) (ms:List (Pm×V)):Bool:=
 match iY st ms with
  |some (_,used,_,_)=>used.isEmpty
  |none=>true
def qS (S:kV) (st:St) (f:FuncId) (args:List V):Bool:=
 match S f with
 |some (a,b,c,_)=>(match mi (Cv (vO a b c args) (freeze st (DJ st (vO a b c args)))) (vO a b c args) with | none=>KK (Cv (vO a b c args) (freeze st (DJ st (vO a b c args)))) (vO a b c args) | some _=>false)
 |none=>true
def kindOk (S:kV) (st:St) (o:Oper):Kd→Bool
 |.any=>match o.op with
  |.move _ | .assign _ | .pick _ _ _ | .nilCheck _ | .binOp _ _ _ _ _ | .unOp _ _ _ | .slice _ _ _ _ _ | .fieldAddr _ _ _ | .indexAddr _ _ _ | .index _ _ _ | .extract _ _ | .build _ _ | .field _ _ _=>true
  |.convert _ _ x=>(match l6 st x with | .one (.o8 _ _ _ _ _ _ _ _)=>false | .one (.KC _ _ _ _ _ _ _ _)=>false | .one (.shr _ _)=>false | .one (.nn _ _)=>false | .one (.ref _ _ _ _)=>false | .one .dN=>false | _=>true)
  |.call { callee:=.builtin b,.. }=>(match b with | .len | .min | .max=>true | _=>false)
  |_=>false
 |.take=>match o.op with
  |.load _ _=>true
  |_=>false
 |.one=>match o.op with
  |.store _ _ _=>false
  |.call { callee:=.builtin b,.. }=>(match b with | .len | .min | .max=>true | _=>false)
  |.call { callee:=.value (.func f),args:=args,.. }=>qS S st f (args.toList.map (l6 st))
  |.call { callee:=.value (.tmp t),args:=args,.. }=>(match bI st t with
   |.one (.fn g rs xs)=>(match xs[0]? with | some x=>qS S st g (args.toList.map (l6 st)++vP rs x) | none=>true)
   |_=>true)
  |_=>true
 |.last=>true
noncomputable def pB (ops:List Oper):Pl→St→(St→Option R)→Option R
 |.nil,st,k=>k st
 |.op i kd r,st,k=>match nth ops i with
  |some o=>bif kindOk S st o kd then (wB T S ops st o).fold fun aY=>pB ops r aY k else none
  |none=>none
 |.alt p q,st,k=>both (pB ops p st k) (pB ops q st k)
abbrev qk (R:Type):=Nat→Code→St→(Ex→St→Option R)→Option R
abbrev mJ:=Nat→Pl
noncomputable def fj (D:mJ) (L:qk R):Code→St→(Ex→St→Option R)→Option R
 |.skip,st,k=>k .normal st
 |.region _ ops false,st,k=>Nx T S ops.toList ops.toList st fun aY=>k .normal aY
 |.region id ops true,st,k=>pB T S ops.toList (D id) st fun aY=>k .normal aY
 |.seq a b,st,k=>fj D L a st fun e aY=>match e with
  |.normal=>fj D L b aY k
  |e=>k e aY
 |.cond (.tmp c) a b,st,k=>match bI st c with
  |.one (.bool x)=>bif x then fj D L a (aZ st (some c) (.one (.bool true))) k else fj D L b (aZ st (some c) (.one (.bool false))) k
  |_=>none
 |.block id (.loop b),st,k=>L id b st k
 |.block id b,st,k=>fj D L b st fun e aY=>match e with
  |.exit n=>bif Nat.beq n id then k .normal aY else k (.exit n) aY
  |e=>k e aY
 |.exit id,st,k=>k (.exit id) st
 |.ret,st,k=>k .ret st
 |_,_,_=>none
end
end Go.TM
namespace Go.TM
open Go Go.RowKit
@[simp] theorem afF {α:Type} (n:Nat):nth ([]:List α) n=none:=rfl
theorem gd {α:Type} (l:List α) (n:Nat):nth l n=l[n]?:=by
 induction l generalizing n with
 |nil=>simp
 |cons x l ih=>cases n<;>simp [nth,ih]
theorem gu {α:Type} (f:α→α) (l:List α) (n:Nat):nth (lZ f l n) n=(nth l n).map f:=by
 induction l generalizing n with
 |nil=>rfl
 |cons x l ih=>cases n<;>simp [lZ,nth,ih]
theorem k9 {α:Type} (f:α→α) (l:List α) {n m:Nat} (h:m≠n):nth (lZ f l n) m=nth l m:=by
 induction l generalizing n m with
 |nil=>rfl
 |cons x l ih=>
  cases n with
  |zero=>cases m with
   |zero=>exact absurd rfl h
   |succ m=>rfl
  |succ n=>cases m with
   |zero=>rfl
   |succ m=>simp only [lZ,nth];exact ih (by omega)
theorem dj {α:Type} (f:α→α) (l:List α) (n m:Nat):nth (lZ f l n) m=if m=n then (nth l m).map f else nth l m:=by
 by_cases h:m=n
 ·subst h;simp [gu]
 ·simp [h,k9 f l h]
theorem Hn {α:Type} {l:List α} {n:Nat} {x:α} (h:nth l n=some x):n<l.length:=by
 rw [gd] at h;exact (List.getElem?_eq_some_iff.1 h).1
def Mz {r:RT} (xs:den (.sl r)):List (aw r):=xs
mutual
def bN (w:World) (ok:Nat→Prop):(t:Ty)→Value→den t→Prop
 |.int k,v,n=>v=.int k n
 |.bool,v,b=>v=.bool b
 |.str,v,s=>v=.string s
 |.sl r,v,xs=>(v=.slice none 0 0∧Mz xs=[])∨
   ∃a cap,v=.slice (some a) (Mz xs).length cap∧(Mz xs).length≤cap∧
    (Mz xs≠[]→a.spot=none∧a.block<w.heap.size∧ok a.block)∧
    ∀i x,(Mz xs)[i]?=some x→cI w ok r a.block (a.off+i*r.width) x
def cI (w:World) (ok:Nat→Prop):(r:RT)→(b off:Nat)→aw r→Prop
 |.nil,_,_,_=>True
 |.cons t r,b,off,x=>(∃v,w.cell? ⟨b,off,none⟩=some v∧bN w ok t v x.1)∧cI w ok r b (off+1) x.2
end
theorem ni (w:World) (ok:Nat→Prop) (r:RT) (v:Value) (xs:List (aw r)):bN w ok (.sl r) v xs↔
  ((v=.slice none 0 0∧xs=[])∨∃a cap,v=.slice (some a) xs.length cap∧xs.length≤cap∧
    (xs≠[]→a.spot=none∧a.block<w.heap.size∧ok a.block)∧∀i x,xs[i]?=some x→cI w ok r a.block (a.off+i*r.width) x):=by
 have:=bN.eq_4 w ok v r xs;exact this▸Iff.rfl
theorem rh {w:World} {ok:Nat→Prop} {k:IntKind} {v:Value} {n:Int}:bN w ok (.int k) v n↔v=.int k n:=bN.eq_1 w ok v k n▸Iff.rfl
theorem sD {w:World} {ok:Nat→Prop} {v:Value} {b:Bool}:bN w ok .bool v b↔v=.bool b:=bN.eq_2 w ok v b▸Iff.rfl
theorem wC {w:World} {ok:Nat→Prop} {v:Value} {s:ByteArray}:bN w ok .str v s↔v=.string s:=bN.eq_3 w ok v s▸Iff.rfl
structure ij (w w':World) (ok zZ:Nat→Prop):Prop where
 size:w.heap.size≤w'.heap.size
 block:∀b,b<w.heap.size→ok b→w'.heap[b]?=w.heap[b]?
 ok:∀b,b<w.heap.size→ok b→zZ b
theorem MA {w:World} {a:Addr} {v:Value} (h:w.cell? a=some v):a.block<w.heap.size:=World.block_lt_of_cell? w a h
mutual
theorem bN.stays {w w':World} {ok zZ:Nat→Prop} (h:ij w w' ok zZ):(t:Ty)→(v:Value)→(x:den t)→bN w ok t v x→bN w' zZ t v x
 |.int _,_,_,hr=>by unfold bN at hr ⊢;exact hr
 |.bool,_,_,hr=>by unfold bN at hr ⊢;exact hr
 |.str,_,_,hr=>by unfold bN at hr ⊢;exact hr
 |.sl r,v,xs,hr=>by
  unfold bN at hr ⊢;rcases hr with hr | ⟨a,cap,hv,hc,ha,hx⟩
  ·exact .inl hr
  ·refine .inr ⟨a,cap,hv,hc,fun eQ => ?_,fun i x hi => ?_⟩
   ·obtain ⟨hs,hb,fk⟩:=ha eQ;exact ⟨hs,Nat.lt_of_lt_of_le hb h.size,h.ok _ hb fk⟩
   ·have eQ:Mz xs≠[]:=by intro e;rw [e] at hi;simp at hi
    obtain ⟨hs,hb,fk⟩:=ha eQ;exact cI.stays h r _ _ x (h.block _ hb fk) (hx i x hi)
theorem cI.stays {w w':World} {ok zZ:Nat→Prop} (h:ij w w' ok zZ):(r:RT)→(b off:Nat)→(x:aw r)→w'.heap[b]?=w.heap[b]?→cI w ok r b off x→cI w' zZ r b off x
 |.nil,_,_,_,_,_=>by unfold cI;trivial
 |.cons t r,b,off,x,fk,hr=>by
  unfold cI at hr ⊢;obtain ⟨⟨v,hv,hx⟩,hr⟩:=hr;refine ⟨⟨v,?_,bN.stays h t v x.1 hx⟩,cI.stays h r b (off+1) x.2 fk hr⟩;rw [World.cell?_of_block (w:=w) fk];exact hv
end
inductive Loc where
 |nil
 |at (b off cap:Nat)
structure Cz where
 bx:Nat→Nat
 lc:Nat→Nat→Loc
 own:Nat→Option Lb
 rs:Nat→Option Lb:=fun _=>none  -- aa7 is read alone,and held by ann one row of an array: of abc
def Cz.ok (c:Cz) (b:Nat):Prop:=c.own b=none
def fF (st:St) (s:Nat):Nat:=match nth st s with | some x=>x.bg | none=>0
def cO (st:St) (s:Nat):Nat:=match nth st s with | some x=>x.ag | none=>0
def fm (l:Loc) (W lo n:Nat) (v:Value):Prop:=
 match l with
 |.nil=>v=.slice none 0 0∧n=0
 |.at b off cap=>∃a c,v=.slice (some a) n c∧n≤c∧lo+c≤cap∧(c≠0→a=⟨b,off+lo*W,none⟩)
mutual
def dG (w:World) (P:List Nat→Nat→Prop):(t:Ty)→(p:List Nat)→Value→den t→Prop
 |.int k,_,v,n=>v=.int k n
 |.bool,_,v,b=>v=.bool b
 |.str,_,v,s=>v=.string s
 |.sl r,p,v,xs=>∃lc:Loc,fm lc r.width 0 (Mz xs).length v∧v.oneCell'=true∧((lc=.nil∧Mz xs=[])∨∃b off cap,lc=.at b off cap∧
   P p b∧(Mz xs).length≤cap∧(∃cur ty,w.heap[b]?=some (.cells cur ty (0,0))∧off+cap*r.width≤cur.size)∧
    ∀i x,(Mz xs)[i]?=some x→eZ w P r (p++[i]) 0 b (off+i*r.width) x)
def eZ (w:World) (P:List Nat→Nat→Prop):(r:RT)→(p:List Nat)→(k b off:Nat)→aw r→Prop
 |.nil,_,_,_,_,_=>True
 |.cons t r,p,k,b,off,x=>(∃v,w.cell? ⟨b,off,none⟩=some v∧dG w P t (p++[k]) v x.1)∧eZ w P r p (k+1) b (off+1) x.2
end
theorem wD (w:World) (P:List Nat→Nat→Prop) (r:RT) (p:List Nat) (v:Value) (xs:List (aw r)):dG w P (.sl r) p v xs↔
  ∃lc:Loc,fm lc r.width 0 xs.length v∧v.oneCell'=true∧((lc=.nil∧xs=[])∨∃b off cap,lc=.at b off cap∧
   P p b∧xs.length≤cap∧(∃cur ty,w.heap[b]?=some (.cells cur ty (0,0))∧off+cap*r.width≤cur.size)∧
    ∀(i:Nat) x,xs[i]?=some x→eZ w P r (p++[i]) 0 b (off+i*r.width) x):=by
 have:=dG.eq_4 w P p v r xs;exact this▸Iff.rfl
theorem yG {w:World} {P:List Nat→Nat→Prop} {k:IntKind} {p:List Nat} {v:Value} {n:Int}:dG w P (.int k) p v n↔v=.int k n:=dG.eq_1 w P p v k n▸Iff.rfl
theorem ur {w:World} {P:List Nat→Nat→Prop} {p:List Nat} {v:Value} {n:Bool}:dG w P .bool p v n↔v=.bool n:=dG.eq_2 w P p v n▸Iff.rfl
theorem yH {w:World} {P:List Nat→Nat→Prop} {p:List Nat} {v:Value} {n:ByteArray}:dG w P .str p v n↔v=.string n:=dG.eq_3 w P p v n▸Iff.rfl
mutual
theorem dG.go {w w':World} {P P':List Nat→Nat→Prop}:(t:Ty)→(p p':List Nat)→(hP:∀q b,P (p++q) b→w'.heap[b]?=w.heap[b]?∧P' (p'++q) b)→(v:Value)→(x:den t)→dG w P t p v x→dG w' P' t p' v x
 |.int _,_,_,_,_,_,h=>by unfold dG at h ⊢;exact h
 |.bool,_,_,_,_,_,h=>by unfold dG at h ⊢;exact h
 |.str,_,_,_,_,_,h=>by unfold dG at h ⊢;exact h
 |.sl r,p,p',hP,v,xs,h=>by
  unfold dG at h ⊢;obtain ⟨lc,h1,h0,h2⟩:=h;refine ⟨lc,h1,h0,h2.imp id ?_⟩
  rintro ⟨b,off,cap,e,h3,h4,⟨cur,ty,h5,h6⟩,h7⟩
  obtain ⟨hw,hb⟩:=hP [] b (by simpa using h3);refine ⟨b,off,cap,e,by simpa using hb,h4,⟨cur,ty,by rw [hw];exact h5,h6⟩,fun i x hx=>eZ.go r (p++[i]) (p'++[i]) (fun q k hk => ?_) 0 b _ x hw (h7 i x hx)⟩;have:=hP ([i]++q) k (by rw [←List.append_assoc];exact hk);rw [←List.append_assoc] at this;exact this
theorem eZ.go {w w':World} {P P':List Nat→Nat→Prop}:(r:RT)→(p p':List Nat)→(hP:∀q b,P (p++q) b→w'.heap[b]?=w.heap[b]?∧P' (p'++q) b)→(k b off:Nat)→(x:aw r)→w'.heap[b]?=w.heap[b]?→eZ w P r p k b off x→eZ w' P' r p' k b off x
 |.nil,_,_,_,_,_,_,_,_,_=>by unfold eZ;trivial
 |.cons t r,p,p',hP,k,b,off,x,hw,h=>by
  unfold eZ at h ⊢;obtain ⟨⟨v,h1,h2⟩,h3⟩:=h;refine ⟨⟨v,by rw [World.cell?_of_block (w:=w) hw];exact h1,dG.go t (p++[k]) (p'++[k]) (fun q b hb => ?_) v x.1 h2⟩,eZ.go r p p' hP (k+1) b (off+1) x.2 hw h3⟩;have:=hP ([k]++q) b (by rw [←List.append_assoc];exact hb);rw [←List.append_assoc] at this;exact this
end
theorem uu {lc:Loc} {W lo n:Nat} {v:Value} (h:fm lc W lo n v):(v=.slice none 0 0∧n=0)∨∃b off cap a c,lc=.at b off cap∧v=.slice (some a) n c∧n≤c∧lo+c≤cap∧(c≠0→a=⟨b,off+lo*W,none⟩):=by
 cases lc with
 |nil=>exact .inl h
 |«at» b off cap=>
  obtain ⟨a,c,h1,h2,h3,h4⟩:=h;exact .inr ⟨b,off,cap,a,c,rfl,h1,h2,h3,h4⟩
mutual
theorem dG.rep {w:World} {P:List Nat→Nat→Prop} {ok:Nat→Prop} (hP:∀p b,P p b→ok b):(t:Ty)→(p:List Nat)→(v:Value)→(x:den t)→dG w P t p v x→bN w ok t v x
 |.int _,_,_,_,h=>by unfold dG at h;unfold bN;exact h
 |.bool,_,_,_,h=>by unfold dG at h;unfold bN;exact h
 |.str,_,_,_,h=>by unfold dG at h;unfold bN;exact h
 |.sl r,p,v,xs,h=>by
  unfold dG at h;unfold bN;obtain ⟨lc,h1,h0,h2⟩:=h;rcases uu h1 with ⟨e1,e2⟩ | ⟨b,off,cap,a,c,e1,e2,e3,e4,e5⟩
  ·exact .inl ⟨e1,List.length_eq_zero_iff.1 e2⟩
  ·rcases h2 with ⟨e,_⟩ | ⟨b',Ny,DM,e,h3,h4,⟨cur,ty,h5,h6⟩,h7⟩
   ·rw [e] at e1;cases e1
   ·rw [e] at e1;injection e1 with q1 q2 q3;subst q1 q2 q3;have eQ:Mz xs≠[]→a=⟨b',Ny,none⟩:=by
     intro eQ;have:=List.length_pos_iff.2 eQ;have:=e5 (by omega);simpa using this
    refine .inr ⟨a,c,e2,e3,fun hn => ?_,fun i x hx => ?_⟩
    ·rw [eQ hn];exact ⟨rfl,(Array.getElem?_eq_some_iff.1 h5).1,hP _ _ h3⟩
    ·rw [eQ (by intro e;rw [e] at hx;simp at hx)];exact eZ.rep hP r _ 0 b' _ x (h7 i x hx)
theorem eZ.rep {w:World} {P:List Nat→Nat→Prop} {ok:Nat→Prop} (hP:∀p b,P p b→ok b):(r:RT)→(p:List Nat)→(k b off:Nat)→(x:aw r)→eZ w P r p k b off x→cI w ok r b off x
 |.nil,_,_,_,_,_,_=>by unfold cI;trivial
 |.cons t r,p,k,b,off,x,h=>by
  unfold eZ at h;unfold cI;obtain ⟨⟨v,h1,h2⟩,h3⟩:=h;exact ⟨⟨v,h1,dG.rep hP t _ v x.1 h2⟩,eZ.rep hP r p (k+1) b (off+1) x.2 h3⟩
end
def Cz.Dd (c:Cz) (w:World) (l:Lb) (k:Nat):Prop:=c.own k=none∧c.rs k=some l∧k<w.heap.size
def bh (c:Cz) (w:World) (l:Lb) (A:fT) (b off:Nat):Prop:=
 match A.md with
 |.sh=>∀(i:Nat) x,A.xs[i]?=some x→cI w c.ok A.r b (off+i*A.r.width) x
 |.dp=>∃g:Nat→List Nat,g b=[]∧∀(i:Nat) x,A.xs[i]?=some x→eZ w (fun p k=>c.own k=some l∧g k=p) A.r [i] 0 b (off+i*A.r.width) x
 |.ho q=>A.own=true→∃g:Nat→List Nat,g b=[]∧∀(i:Nat) x,i≠q→A.xs[i]?=some x→eZ w (fun p k=>c.own k=some l∧g k=p) A.r [i] 0 b (off+i*A.r.width) x
 |.lz=>∃g:Nat→List Nat,∀(i:Nat) x,A.xs[i]?=some x→eZ w (fun p k=>c.Dd w l k∧g k=p) A.r [i] 0 b (off+i*A.r.width) x
theorem bh.go {c c':Cz} {w w':World} {l l':Lb} {A:fT} {b off:Nat} (h:bh c w l A b off) (hs:A.md=.sh→ij w w' c.ok c'.ok) (hb:w'.heap[b]?=w.heap[b]?)
  (hd:A.md≠.sh→∀k,c.own k=some l→w'.heap[k]?=w.heap[k]?∧c'.own k=some l') (hz:A.md=.lz→∀k,c.Dd w l k→w'.heap[k]?=w.heap[k]?∧c'.Dd w' l' k):bh c' w' l' A b off:=by
 unfold bh at h ⊢
 cases hm:A.md with
 |sh=>rw [hm] at h;exact fun i x hx=>cI.stays (hs hm) _ _ _ _ hb (h i x hx)
 |lz=>
  rw [hm] at h;obtain ⟨g,h2⟩:=h;exact ⟨g,fun i x hx=>eZ.go _ [i] [i] (fun q k hk=>⟨(hz hm k hk.1).1,(hz hm k hk.1).2,hk.2⟩) _ _ _ _ hb (h2 i x hx)⟩
 |dp=>
  rw [hm] at h;obtain ⟨g,h1,h2⟩:=h;exact ⟨g,h1,fun i x hx=>eZ.go _ [i] [i] (fun q k hk=>⟨(hd (by rw [hm];simp) k hk.1).1,(hd (by rw [hm];simp) k hk.1).2,hk.2⟩) _ _ _ _ hb (h2 i x hx)⟩
 |ho q=>
  rw [hm] at h;intro ho;obtain ⟨g,h1,h2⟩:=h ho;exact ⟨g,h1,fun i x hq hx=>eZ.go _ [i] [i] (fun q k hk=>⟨(hd (by rw [hm];simp) k hk.1).1,(hd (by rw [hm];simp) k hk.1).2,hk.2⟩) _ _ _ _ hb (h2 i x hq hx)⟩
theorem bh.sh {c:Cz} {w:World} {l:Lb} {A:fT} {b off:Nat} (hm:A.md=.sh):bh c w l A b off↔∀(i:Nat) x,A.xs[i]?=some x→cI w c.ok A.r b (off+i*A.r.width) x:=by
 unfold bh;rw [hm]
def F2 (w:World) (ok:Nat→Prop) (r:RT) (v:Value) (xs:List (aw r)):Prop:=
 ∃b o,v=.pointer (some ⟨b,o,none⟩)∧b<w.heap.size∧ok b∧∀x,xs[0]?=some x→cI w ok r b o x
def uw (w:World) (ok:Nat→Prop):(rs:RT)→List Value→aw rs→Prop
 |.nil,vs,_=>vs=[]
 |.cons (.sl r) rs,vs,x=>∃v l,vs=v::l∧F2 w ok r v (Mz x.1)∧uw w ok rs l x.2
 |.cons _ _,_,_=>False
def FnAt (w:World) (ok:Nat→Prop) (g:Nat) (rs:RT) (v:Value) (xs:List (aw rs)):Prop:=
 ∃wA,v=.func (.func g) #[] wA∧∀x,xs[0]?=some x→uw w ok rs wA.toList x
theorem F2.stays {w w':World} {ok zZ:Nat→Prop} (h:ij w w' ok zZ) {r:RT} {v:Value} {xs:List (aw r)} (hp:F2 w ok r v xs):F2 w' zZ r v xs:=by
 obtain ⟨b,o,h1,h2,h3,h4⟩:=hp;exact ⟨b,o,h1,Nat.lt_of_lt_of_le h2 h.size,h.ok b h2 h3,fun x hx=>cI.stays h r b o x (h.block b h2 h3) (h4 x hx)⟩
theorem uw.stays {w w':World} {ok zZ:Nat→Prop} (h:ij w w' ok zZ):(rs:RT)→(vs:List Value)→(x:aw rs)→uw w ok rs vs x→uw w' zZ rs vs x
 |.nil,_,_,hc=>hc
 |.cons (.sl r) rs,vs,x,hc=>by
  obtain ⟨v,l,h1,h2,h3⟩:=hc;exact ⟨v,l,h1,h2.stays h,uw.stays h rs l x.2 h3⟩
 |.cons (.int _) _,_,_,hc=>hc.elim
 |.cons .bool _,_,_,hc=>hc.elim
 |.cons .str _,_,_,hc=>hc.elim
theorem FnAt.stays {w w':World} {ok zZ:Nat→Prop} (h:ij w w' ok zZ) {g:Nat} {rs:RT} {v:Value} {xs:List (aw rs)} (hf:FnAt w ok g rs v xs):FnAt w' zZ g rs v xs:=by
 obtain ⟨wA,h1,h2⟩:=hf;exact ⟨wA,h1,fun x hx=>uw.stays h rs _ x (h2 x hx)⟩
def SlR (l:Loc) (n:Nat) (v:Value):Prop:=∃a k,v=.slice a n k∧(n≠0→∃b off cap,l=.at b off cap∧a=some ⟨b,off,none⟩)
def iI (c:Cz) (st:St) (w:World):CV→Value→Prop
 |.bad,_=>True
 |.int k n,v=>v=.int k n
 |.bool b,v=>v=.bool b
 |.str s,v=>v=.string s
 |.dN,v=>v=.slice none 0 0
 |.KA,v=>v=.pointer none
 |.shr r xs,v=>bN w c.ok (.sl r) v xs
 |.nn r xs,v=>bN w c.ok (.sl r) v xs∧v≠.slice none 0 0
 |.ref a j g vw,v=>v.oneCell'=true∧g≤cO st a∧∀A,aT st a j g=some A→fm (c.lc a j) A.r.width vw.lo (vw.app A.xs).length v
 |.ptr b g off,v=>v.oneCell'=true∧g≤fF st b∧∀cs,cW st b g=some cs→v=.pointer (some ⟨c.bx b,off,none⟩)
 |.Hg a j g i off,v=>v.oneCell'=true∧g≤cO st a∧∀A,aT st a j g=some A→i<A.xs.length∧∃b o cap,c.lc a j=.at b o cap∧v=.pointer (some ⟨b,o+i*A.r.width+off,none⟩)
 |.lC r x off,v=>∃b o,v=.pointer (some ⟨b,o+off,none⟩)∧b<w.heap.size∧c.ok b∧cI w c.ok r b o x
 |.s8 r xs off,v=>∃b o,v=.pointer (some ⟨b,o+off,none⟩)∧b<w.heap.size∧c.ok b∧∀x,xs[0]?=some x→cI w c.ok r b o x
 |.fn g rs xs,v=>FnAt w c.ok g rs v xs
 |.Mv a j g,v=>v.oneCell'=true∧g≤cO st a∧∀A,aT st a j g=some A→SlR (c.lc a j) A.xs.length v
 |.KC a j g e i k q ys,v=>v.oneCell'=true∧g≤cO st a∧e≤j5 st a∧∀A,aT st a j g=some A→j5 st a=e→
   A.md=.dp∧(∃x,A.xs[i]?=some x∧kZ A.r x k=some ⟨q,ys⟩)∧∃b o cap v0,c.lc a j=.at b o cap∧w.cell? ⟨b,o+i*A.r.width+k,none⟩=some v0∧∃lc:Loc,fm lc q.width 0 ys.length v∧fm lc q.width 0 ys.length v0
 |.o8 a j g e i k q ys,v=>v.oneCell'=true∧g≤cO st a∧e≤j5 st a∧∀A,aT st a j g=some A→j5 st a=e→
   A.md=.dp∧(∃x,A.xs[i]?=some x∧kZ A.r x k=some ⟨q,ys⟩)∧∃b o cap,c.lc a j=.at b o cap∧w.cell? ⟨b,o+i*A.r.width+k,none⟩=some v
def fo (c:Cz) (st:St) (w:World) (cs:List CV) (vs:List Value):Prop:=
 cs.length=vs.length∧∀(i:Nat) x v,cs[i]?=some x→vs[i]?=some v→iI c st w x v
def z7 (c:Cz) (st:St) (w:World):V→Value→Prop
 |.one x,v=>iI c st w x v
 |.agg cs,v=>∃vs,v=.agg vs∧fo c st w cs vs.toList
 |.m9 _,_=>False
def eD (c:Cz) (st:St) (w:World):V→Value→Prop
 |.m9 us,v=>∃vs,v=.tuple vs∧us.length=vs.size∧∀(i:Nat) x y,us[i]?=some x→vs[i]?=some y→z7 c st w x y
 |x,v=>z7 c st w x v
def tz (c:Cz) (st:St) (w:World) (s:Nat) (cs:List CV):Prop:=
 c.own (c.bx s)=some (.box s)∧∃vs ty,w.heap[c.bx s]?=some (.cells vs ty (0,0))∧fo c st w cs vs.toList
def bF (c:Cz) (w:World) (s j:Nat) (A:fT):Prop:=
 match c.lc s j with
 |.nil=>A.xs=[]
 |.at b off cap=>(match A.own with | true=>c.own b=some (.sp s j) | false=>c.own b=none)∧A.xs.length≤cap∧
   (∃cur ty,w.heap[b]?=some (.cells cur ty (0,0))∧off+cap*A.r.width≤cur.size)∧
   bh c w (.sp s j) A b off
inductive Nz where
 |arr (a j g W n:Nat) (l:Loc)
 |box (b g mK:Nat)
def SY (c:Cz) (st:St):Nz→Prop
 |.arr a j g W n l=>g≤cO st a∧∀A,aT st a j g=some A→A.r.width=W∧A.xs.length=n∧c.lc a j=l
 |.box b g mK=>g≤fF st b∧∀cs,cW st b g=some cs→c.bx b=mK
structure Mu where
 m:Nat→Prop
 ok:Nat→Prop
 an:List Nz
 rs:Nat→Prop:=fun _=>False  -- aa7 a Fu SV rows hold,and others may read
structure Rel (w0:World) (mu:Mu) (c:Cz) (st:St) (a:Act) (w:World):Prop where
 dO:∀t,eD c st w (bI st t) (a.eval (.tmp t))
 boxes:∀s sl cs,nth st s=some sl→sl.box=some cs→tz c st w s cs
 aN:∀s j sl A,nth st s=some sl→nth sl.aN j=some (some A)→bF c w s j A
 owned:∀b l,c.own b=some l→b<w.heap.size∧(l=.out∨w0.heap.size≤b∨mu.m b)
 free:∀b,b<w0.heap.size→c.own b=none→mu.m b∨mu.ok b
 kept:w.os=w0.os∧w.tape=w0.tape∧w.output=w0.output∧w0.heap.size≤w.heap.size
 old:∀k,k<w0.heap.size→¬mu.m k→w.heap[k]?=w0.heap[k]?
 plain:a.defers=[]
 cR:∀p∈mu.an,SY c st p
 lS:∀b l,c.rs b=some l→b<w.heap.size∧(w0.heap.size≤b∨mu.m b∨mu.rs b)
end Go.TM
namespace Go.TM
open Go Go.RowKit
theorem aI {α:Type} {b:Bool} {x:Option α} {y:α} (h:(bif b then x else none)=some y):b=true∧x=some y:=by
 cases b
 ·simp at h
 ·exact ⟨rfl,h⟩
theorem cY {b:Bool} {x:N} {y:St} (h:(bif b then x else N.fail).val=some y):b=true∧x.val=some y:=by
 cases b
 ·simp [N.val] at h
 ·exact ⟨rfl,h⟩
theorem ba {st:St} {a j g:Nat} {A:fT} (h:aT st a j g=some A):∃sl,nth st a=some sl∧sl.ag=g∧nth sl.aN j=some (some A):=by
 unfold aT at h
 cases hs:nth st a with
 |none=>simp [hs] at h
 |some sl=>
  simp only [hs] at h;obtain ⟨h1,h2⟩:=aI h;refine ⟨sl,rfl,Nat.eq_of_beq_eq_true h1,?_⟩
  cases hj:nth sl.aN j with
  |none=>simp [hj] at h2
  |some o=>cases o with
   |none=>simp [hj] at h2
   |some B=>simp [hj] at h2;rw [h2]
theorem ir {st:St} {b g:Nat} {cs:List CV} (h:cW st b g=some cs):∃sl,nth st b=some sl∧sl.bg=g∧sl.box=some cs:=by
 unfold cW at h
 cases hs:nth st b with
 |none=>simp [hs] at h
 |some sl=>
  simp only [hs] at h;obtain ⟨h1,h2⟩:=aI h;exact ⟨sl,rfl,Nat.eq_of_beq_eq_true h1,h2⟩
theorem View.KM {r s:RT} (w:View) (xs:List (aw r)) (ys:List (aw s)) (h:xs.length=ys.length):(w.app xs).length=(w.app ys).length:=by
 cases w<;>simp [View.app,h]
structure Fw (c:Cz) (st:St) (w:World) (c':Cz) (aY:St) (w':World):Prop where
 stays:ij w w' c.ok c'.ok
 refs:∀a j g A',g≤cO st a→aT aY a j g=some A'→∃A,aT st a j g=some A∧A'.r.width=A.r.width∧A'.xs.length=A.xs.length∧c'.lc a j=c.lc a j∧
  (j5 aY a=j5 st a→A'=A∧∀b o cap,c.lc a j=.at b o cap→w'.heap[b]?=w.heap[b]?)
 Bw:∀b g lQ,g≤fF st b→cW aY b g=some lQ→(∃cs,cW st b g=some cs)∧c'.bx b=c.bx b
 gA:∀a,cO st a≤cO aY a
 gB:∀b,fF st b≤fF aY b
 gE:∀a,j5 st a≤j5 aY a
theorem Fw.NA {c:Cz} {st:St} {w:World} {c':Cz} {aY:St} {w':World} (h:Fw c st w c' aY w') {x:CV} {v:Value} (hr:iI c st w x v):iI c' aY w' x v:=by
 cases x with
 |bad=>trivial
 |int k n=>exact hr
 |bool b=>exact hr
 |str s=>exact hr
 |dN=>exact hr
 |KA=>exact hr
 |shr r xs=>exact bN.stays h.stays _ _ _ hr
 |nn r xs=>exact ⟨bN.stays h.stays _ _ _ hr.1,hr.2⟩
 |ref a j g vw=>
  refine ⟨hr.1,Nat.le_trans hr.2.1 (h.gA a),fun A' ek => ?_⟩;obtain ⟨A,hA,hw,hl,gH,_⟩:=h.refs a j g A' hr.2.1 ek;have:=hr.2.2 A hA;rw [gH,hw,View.KM vw A'.xs A.xs hl];exact this
 |ptr b g off=>
  refine ⟨hr.1,Nat.le_trans hr.2.1 (h.gB b),fun cs ud => ?_⟩;obtain ⟨⟨Hk,h0⟩,hb⟩:=h.Bw b g cs hr.2.1 ud;rw [hb];exact hr.2.2 Hk h0
 |Hg a j g i off=>
  refine ⟨hr.1,Nat.le_trans hr.2.1 (h.gA a),fun A' ek => ?_⟩;obtain ⟨A,hA,hw,hl,gH,_⟩:=h.refs a j g A' hr.2.1 ek;have:=hr.2.2 A hA;rw [gH,hw,hl];exact this
 |Mv a j g=>
  refine ⟨hr.1,Nat.le_trans hr.2.1 (h.gA a),fun A' ek => ?_⟩;obtain ⟨A,hA,hw,hl,gH,_⟩:=h.refs a j g A' hr.2.1 ek;have:=hr.2.2 A hA;rw [gH,hl];exact this
 |KC a j g e i k q ys=>
  obtain ⟨h1,h2,h3,h4⟩:=hr;refine ⟨h1,Nat.le_trans h2 (h.gA a),Nat.le_trans h3 (h.gE a),fun A' ek he => ?_⟩;obtain ⟨A,hA,hw,hl,gH,hs⟩:=h.refs a j g A' h2 ek;have SZ:j5 aY a=j5 st a:=by have:=h.gE a;omega
  obtain ⟨rfl,hb⟩:=hs SZ;obtain ⟨k1,k2,b,o,cap,v0,k3,k4,k5⟩:=h4 A' hA (by omega);exact ⟨k1,k2,b,o,cap,v0,by rw [gH];exact k3,by rw [World.cell?_of_block (w:=w) (hb b o cap k3)];exact k4,k5⟩
 |o8 a j g e i k q ys=>
  obtain ⟨h1,h2,h3,h4⟩:=hr;refine ⟨h1,Nat.le_trans h2 (h.gA a),Nat.le_trans h3 (h.gE a),fun A' ek he => ?_⟩;obtain ⟨A,hA,hw,hl,gH,hs⟩:=h.refs a j g A' h2 ek;have SZ:j5 aY a=j5 st a:=by have:=h.gE a;omega
  obtain ⟨rfl,hb⟩:=hs SZ;obtain ⟨k1,k2,b,o,cap,k3,k4⟩:=h4 A' hA (by omega);exact ⟨k1,k2,b,o,cap,by rw [gH];exact k3,by rw [World.cell?_of_block (w:=w) (hb b o cap k3)];exact k4⟩
 |lC r x off=>
  obtain ⟨b,o,hv,hb,fk,hx⟩:=hr;exact ⟨b,o,hv,Nat.lt_of_lt_of_le hb h.stays.size,h.stays.ok b hb fk,cI.stays h.stays r b o x (h.stays.block b hb fk) hx⟩
 |s8 r xs off=>
  obtain ⟨b,o,hv,hb,fk,hx⟩:=hr;exact ⟨b,o,hv,Nat.lt_of_lt_of_le hb h.stays.size,h.stays.ok b hb fk,fun x py=>cI.stays h.stays r b o x (h.stays.block b hb fk) (hx x py)⟩
 |fn g rs xs=>exact FnAt.stays h.stays hr
theorem Fw.P4 {c:Cz} {st:St} {w:World} {c':Cz} {aY:St} {w':World} (h:Fw c st w c' aY w') {cs:List CV} {vs:List Value} (hr:fo c st w cs vs):fo c' aY w' cs vs:=
 ⟨hr.1,fun i x v hx hv=>h.NA (hr.2 i x v hx hv)⟩
theorem Fw.P5 {c:Cz} {st:St} {w:World} {c':Cz} {aY:St} {w':World} (h:Fw c st w c' aY w') {x:V} {v:Value} (hr:z7 c st w x v):z7 c' aY w' x v:=by
 cases x with
 |one x=>exact h.NA hr
 |agg cs=>obtain ⟨vs,hv,hl⟩:=hr;exact ⟨vs,hv,h.P4 hl⟩
 |m9 us=>exact hr
theorem Fw.j6 {c:Cz} {st:St} {w:World} {c':Cz} {aY:St} {w':World} (h:Fw c st w c' aY w') {x:V} {v:Value} (hr:eD c st w x v):eD c' aY w' x v:=by
 cases x with
 |one x=>exact h.P5 (x:=.one x) hr
 |agg cs=>exact h.P5 (x:=.agg cs) hr
 |m9 us=>
  obtain ⟨vs,hv,hl,he⟩:=hr;exact ⟨vs,hv,hl,fun i x y hx hy=>h.P5 (he i x y hx hy)⟩
theorem Fw.cR {c:Cz} {st:St} {w:World} {c':Cz} {aY:St} {w':World} (h:Fw c st w c' aY w') {p:Nz} (hp:SY c st p):SY c' aY p:=by
 cases p with
 |arr a j g W n l=>
  refine ⟨Nat.le_trans hp.1 (h.gA a),fun A' ek => ?_⟩;obtain ⟨A,hA,hw,hl,gH,_⟩:=h.refs a j g A' hp.1 ek;obtain ⟨h1,h2,h3⟩:=hp.2 A hA;exact ⟨hw.trans h1,hl.trans h2,gH.trans h3⟩
 |box b g mK=>
  refine ⟨Nat.le_trans hp.1 (h.gB b),fun cs ud => ?_⟩;obtain ⟨⟨Hk,h0⟩,hb⟩:=h.Bw b g cs hp.1 ud;exact hb.trans (hp.2 Hk h0)
theorem bF.go {c c':Cz} {w w':World} {s j:Nat} {A:fT} (h:bF c w s j A) (hs:ij w w' c.ok c'.ok) (hl:c'.lc s j=c.lc s j)
  (hb:∀b,c.own b=some (.sp s j)→w'.heap[b]?=w.heap[b]?∧c'.own b=c.own b) (hz:∀b,c.own b=none→b<w.heap.size→c.rs b=some (.sp s j)→c'.rs b=some (.sp s j):=by intro _ _ _ h;exact h):bF c' w' s j A:=by
 unfold bF at h ⊢;rw [hl]
 cases hc:c.lc s j with
 |nil=>simpa [hc] using h
 |«at» b off cap=>
  rw [hc] at h;obtain ⟨h1,h2,⟨cur,ty,h3,h4⟩,h5⟩:=h;have bQ:b<w.heap.size:=(Array.getElem?_eq_some_iff.1 h3).1;have hwo:w'.heap[b]?=w.heap[b]?∧c'.own b=c.own b:=by
   cases ho:A.own with
   |true=>rw [ho] at h1;exact hb b h1
   |false=>rw [ho] at h1;exact ⟨hs.block b bQ h1,(hs.ok b bQ h1:c'.own b=none).trans h1.symm⟩
  refine ⟨?_,h2,⟨cur,ty,by rw [hwo.1];exact h3,h4⟩,h5.go (fun _=>hs) hwo.1 (fun _ k hk=>⟨(hb k hk).1,(hb k hk).2.trans hk⟩) (fun _ k hk=>⟨hs.block k hk.2.2 hk.1,hs.ok k hk.2.2 hk.1,hz k hk.1 hk.2.2 hk.2.1,Nat.lt_of_lt_of_le hk.2.2 hs.size⟩)⟩;rw [hwo.2];exact h1
theorem tz.go {c:Cz} {st:St} {w:World} {c':Cz} {aY:St} {w':World} (h:Fw c st w c' aY w') {s:Nat} {cs:List CV} (hb:tz c st w s cs)
  (hx:c'.bx s=c.bx s) (ho:c'.own (c.bx s)=c.own (c.bx s)) (hw:w'.heap[c.bx s]?=w.heap[c.bx s]?):tz c' aY w' s cs:=by
 obtain ⟨h1,vs,ty,h2,h3⟩:=hb;exact ⟨by rw [hx,ho];exact h1,vs,ty,by rw [hx,hw];exact h2,h.P4 h3⟩
theorem F3 (st:St) (d:Option Nat) (v:V) (t:Nat):bI (aZ st d v) t=if d=some t∧t<st.length then v else bI st t:=by
 cases d with
 |none=>simp [aZ]
 |some u=>
  unfold bI aZ;rw [dj]
  by_cases h:t=u
  ·subst h;simp only [if_true,true_and]
   by_cases hl:t<st.length
   ·have:nth st t=some st[t]:=by rw [gd];exact List.getElem?_eq_getElem hl
    simp [this,hl]
   ·have:nth st t=none:=by rw [gd];exact List.getElem?_eq_none (by omega)
    simp [this,hl]
  ·have:¬(some u=some t∧t<st.length):=by rintro ⟨e,_⟩;exact h (Option.some.inj e).symm
   rw [if_neg h,if_neg this]
theorem nj (st:St) (d:Option Nat) (v:V) (s:Nat):∃f:Sl→Sl,(∀x,(f x).box=x.box∧(f x).bg=x.bg∧(f x).aN=x.aN∧(f x).ag=x.ag∧(f x).ep=x.ep)∧nth (aZ st d v) s=(nth st s).map f:=by
 cases d with
 |none=>exact ⟨id,fun _=>⟨rfl,rfl,rfl,rfl,rfl⟩,by simp [aZ]⟩
 |some t=>
  unfold aZ
  by_cases h:s=t
  ·subst h;exact ⟨fun x=>{ x with v:=v },fun _=>⟨rfl,rfl,rfl,rfl,rfl⟩,gu _ _ _⟩
  ·exact ⟨id,fun _=>⟨rfl,rfl,rfl,rfl,rfl⟩,by simp [k9 _ _ h]⟩
theorem NB (st:St) (d:Option Nat) (v:V) (a j g:Nat):aT (aZ st d v) a j g=aT st a j g:=by
 obtain ⟨f,hf,hn⟩:=nj st d v a;unfold aT;rw [hn]
 cases nth st a with
 |none=>rfl
 |some s=>obtain ⟨_,_,h3,h4,_⟩:=hf s;simp [h3,h4]
theorem NC (st:St) (d:Option Nat) (v:V) (b g:Nat):cW (aZ st d v) b g=cW st b g:=by
 obtain ⟨f,hf,hn⟩:=nj st d v b;unfold cW;rw [hn]
 cases nth st b with
 |none=>rfl
 |some s=>obtain ⟨h1,h2,_,_,_⟩:=hf s;simp [h1,h2]
theorem ND (st:St) (d:Option Nat) (v:V) (a:Nat):cO (aZ st d v) a=cO st a:=by
 obtain ⟨f,hf,hn⟩:=nj st d v a;unfold cO;rw [hn]
 cases nth st a with
 |none=>rfl
 |some s=>exact (hf s).2.2.2.1
theorem P6 (st:St) (d:Option Nat) (v:V) (a:Nat):j5 (aZ st d v) a=j5 st a:=by
 obtain ⟨f,hf,hn⟩:=nj st d v a;unfold j5;rw [hn]
 cases nth st a with
 |none=>rfl
 |some s=>exact (hf s).2.2.2.2
theorem NF (st:St) (d:Option Nat) (v:V) (a:Nat):fF (aZ st d v) a=fF st a:=by
 obtain ⟨f,hf,hn⟩:=nj st d v a;unfold fF;rw [hn]
 cases nth st a with
 |none=>rfl
 |some s=>exact (hf s).2.1
theorem ij.refl (w:World) (ok:Nat→Prop):ij w w ok ok:=⟨Nat.le_refl _,fun _ _ _=>rfl,fun _ _ h=>h⟩
theorem Fw.aZ (c:Cz) (st:St) (w:World) (d:Option Nat) (v:V):Fw c st w c (aZ st d v) w where
 stays:=ij.refl w _
 refs a j g A' _ h:=⟨A',by rwa [NB] at h,rfl,rfl,rfl,fun _=>⟨rfl,fun _ _ _ _=>rfl⟩⟩
 Bw b g lQ _ h:=⟨⟨lQ,by rwa [NC] at h⟩,rfl⟩
 gA a:=by rw [ND];exact Nat.le_refl _
 gB a:=by rw [NF];exact Nat.le_refl _
 gE a:=by rw [P6];exact Nat.le_refl _
theorem eval_put (a:Act) (d:Option Tmp) (v:Value) (t:Nat):(a.put d v).eval (.tmp t)=if d=some t∧t<a.tmps.size then v else a.eval (.tmp t):=by
 cases d with
 |none=>simp [Act.put]
 |some u=>
  simp only [Act.put,Act.eval,Array.getD_eq_getD_getElem?,Array.getElem?_setIfInBounds]
  by_cases h:u=t
  ·subst h
   by_cases hl:u<a.tmps.size<;>simp [hl]
  ·have:¬(some u=some t∧t<a.tmps.size):=by rintro ⟨e,_⟩;exact h (Option.some.inj e)
   rw [if_neg this];simp [h]
theorem Rel.aZ {w0:World} {mu:Mu} {c:Cz} {st:St} {a:Act} {w:World} (h:Rel w0 mu c st a w) {d:Option Nat} {v:V} {u:Value}
  (hv:eD c st w v u) (hd:∀t,d=some t→t<a.tmps.size):Rel w0 mu c (aZ st d v) (a.put d u) w where
 dO t:=by
  have hg:=Fw.aZ c st w d v;rw [F3,eval_put]
  by_cases hdt:d=some t
  ·have:=hd t hdt
   by_cases hl:t<st.length
   ·rw [if_pos ⟨hdt,hl⟩,if_pos ⟨hdt,this⟩];exact hg.j6 hv
   ·have e:bI st t=.one .bad:=by
     unfold bI;rw [gd,List.getElem?_eq_none (by omega)]
    rw [if_neg (fun h=>hl h.2),e];trivial
  ·rw [if_neg (fun h=>hdt h.1),if_neg (fun h=>hdt h.1)];exact hg.j6 (h.dO t)
 boxes s sl cs hs hb:=by
  obtain ⟨f,hf,hn⟩:=nj st d v s;rw [hn] at hs
  cases hx:nth st s with
  |none=>rw [hx] at hs;simp at hs
  |some s0=>
   rw [hx] at hs;simp at hs;subst hs;rw [(hf s0).1] at hb;exact (h.boxes s s0 cs hx hb).go (Fw.aZ c st w d v) rfl rfl rfl
 aN s j sl A hs hb:=by
  obtain ⟨f,hf,hn⟩:=nj st d v s;rw [hn] at hs
  cases hx:nth st s with
  |none=>rw [hx] at hs;simp at hs
  |some s0=>
   rw [hx] at hs;simp at hs;subst hs;rw [(hf s0).2.2.1] at hb;exact h.aN s j s0 A hx hb
 owned:=h.owned
 free:=h.free
 kept:=h.kept
 old:=h.old
 cR p hp:=(Fw.aZ c st w d v).cR (h.cR p hp)
 lS:=h.lS
 plain:=by
  have:=h.plain
  cases d<;>simpa [Act.put] using this
theorem Rel.tC {w0:World} {mu:Mu} {c:Cz} {st:St} {a:Act} {w:World} (h:Rel w0 mu c st a w) {s j g:Nat} {A:fT} (hA:aT st s j g=some A):bF c w s j A:=by
 obtain ⟨sl,h1,_,h3⟩:=ba hA;exact h.aN s j sl A h1 h3
theorem bF.lt {c:Cz} {w:World} {s j:Nat} {A:fT} (h:bF c w s j A) {b off cap:Nat} (hl:c.lc s j=.at b off cap):b<w.heap.size:=by
 unfold bF at h;rw [hl] at h;obtain ⟨_,_,⟨cur,t,h3,_⟩,_⟩:=h;exact (Array.getElem?_eq_some_iff.1 h3).1
end Go.TM
namespace Go.TM
open Go Go.RowKit
def iJ:RT→List Value→Prop
 |.nil,vs=>vs=[]
 |.cons (.int k) r,vs=>∃l,vs=.int k 0::l∧iJ r l
 |.cons .bool r,vs=>∃l,vs=.bool false::l∧iJ r l
 |.cons .str r,vs=>∃l,vs=.string ByteArray.empty::l∧iJ r l
 |.cons (.sl _) r,vs=>∃l,vs=.slice none 0 0::l∧iJ r l
def descOf:Ty→TypeDesc→Prop
 |.int k,d=>d=.int k
 |.bool,d=>d=.bool
 |.str,d=>d=.string
 |.sl _,_=>False
structure fG (P:Program) (T:kK):Prop where
 cells:∀t n,T.cells t=some n→(P.info? t).map (·.size)=some n
 agg:∀t n,T.cells t=some n→∃d,P.underlying t=some d∧d.isRow=T.agg t∧(T.agg t=false→n=1)
 off:∀t f k,T.off t f=some k→∃fs F5 n,P.underlying t=some (.struct fs)∧fs[f]?=some F5∧F5.offset=k∧(P.info? F5.type).map (·.size)=some (n+1)
 bld:∀t,T.agg t=true→∃fs ca,P.underlying t=some (.struct fs)∧fs.toList.mapM (fun f=>(P.info? f.type).map fun i=>(f.offset,i.size))=some ca∧
  ∀f o s,T.off t f=some o→T.fsz t f=some s→ca[f]?=some (o,s)
 row:∀t r,T.row t=some r→∃i z,P.info? t=some i∧i.zero=some z∧iJ r z.cells.toList
 elem:∀t r b,T.elem t=some (r,b)→∃e i z,P.underlying t=some (.slice e)∧P.info? e=some i∧i.size=r.width∧0<r.width∧i.bytes=b∧0<b∧i.zero=some z∧iJ r z.cells.toList
 u8:∀t e b,T.elem t=some (.cons (.int .u8) .nil,b)→P.underlying t=some (.slice e)→P.underlying e=some (.int .u8)
 kind:∀t y,T.kind t=some y→∃d,P.underlying t=some d∧descOf y d
 one:∀t f,T.one t f=true→∃fs F5 d,P.underlying t=some (.struct fs)∧fs[f]?=some F5∧P.underlying F5.type=some d∧d.isRow=false
theorem iI.one {c:Cz} {st:St} {w:World} {x:CV} {v:Value} (h:iI c st w x v) (hs:x.tw=true):v.oneCell'=true:=by
 cases x with
 |bad=>simp [CV.tw] at hs
 |int k n=>simp only [iI] at h;subst h;rfl
 |bool b=>simp only [iI] at h;subst h;rfl
 |str s=>simp only [iI] at h;subst h;rfl
 |dN=>simp only [iI] at h;subst h;rfl
 |KA=>simp only [iI] at h;subst h;rfl
 |shr r xs=>
  rcases (ni _ _ _ _ _).1 h with ⟨rfl,_⟩ | ⟨a,cap,rfl,_⟩<;>rfl
 |nn r xs=>
  rcases (ni _ _ _ _ _).1 h.1 with ⟨rfl,_⟩ | ⟨a,cap,rfl,_⟩<;>rfl
 |ref a j g vw=>exact h.1
 |ptr b g off=>exact h.1
 |Hg a j g i off=>exact h.1
 |lC r x off=>obtain ⟨b,o,rfl,_⟩:=h;rfl
 |s8 r x off=>obtain ⟨b,o,rfl,_⟩:=h;rfl
 |fn g rs xs=>obtain ⟨wA,rfl,_⟩:=h;rfl
 |Mv a j g=>exact h.1
 |KC a j g e i k q ys=>exact h.1
 |o8 a j g e i k q ys=>exact h.1
theorem NG {v:Value} (h:v.oneCell'=true):v.cells = #[v]:=by cases v<;>first | rfl | simp [Value.oneCell'] at h
theorem eD.cells {c:Cz} {st:St} {w:World} {x:V} {v:Value} (h:eD c st w x v) (hs:x.tw=true) :
  fo c st w x.cells v.cells.toList∧∀u∈v.cells.toList,u.oneCell'=true:=by
 cases x with
 |one x=>
  have h1:v.oneCell'=true:=iI.one (x:=x) h hs;rw [NG h1];refine ⟨⟨rfl,fun i y u hy hu => ?_⟩,fun u hu=>by simp at hu;rw [hu];exact h1⟩
  cases i with
  |zero=>simp [V.cells] at hy hu;rw [←hy,←hu];exact h
  |succ i=>simp [V.cells] at hy
 |agg cs=>
  obtain ⟨vs,rfl,hl⟩:=h;refine ⟨hl,fun u hu => ?_⟩;obtain ⟨i,hi,hu⟩:=List.mem_iff_getElem.1 hu;have UO:i<cs.length:=by rw [hl.1];exact hi
  have:=hl.2 i cs[i] u (List.getElem?_eq_getElem UO) (by rw [←hu];exact List.getElem?_eq_getElem hi);exact this.one (List.all_eq_true.1 hs _ (List.getElem_mem UO))
 |m9 us=>simp [V.tw] at hs
def Cz.iX (c:Cz) (d b:Nat):Cz:=
 { bx:=fun s=>if s=d then b else c.bx s,lc:=c.lc,own:=fun k=>if k=b then some (.box d) else c.own k,rs:=c.rs }
theorem wE (w:World) (o:Obj) (ok zZ:Nat→Prop) (h:∀b,b<w.heap.size→ok b→zZ b):ij w (w.alloc o) ok zZ where
 size:=by simp
 block b hb _:=heap_alloc_old w o b hb
 ok:=h
theorem Rel.kH {w0:World} {mu:Mu} {c:Cz} {st:St} {a:Act} {w:World} (h:Rel w0 mu c st a w) {b:Nat} {l:Lb} (hb:c.own b=some l):b<w.heap.size:=(h.owned b l hb).1
theorem Rel.iX {w0:World} {mu:Mu} {c:Cz} {st:St} {a:Act} {w:World} (h:Rel w0 mu c st a w) {d:Nat} {s0:Sl} {cs:List CV} {vs:Array Value} {ty:TypeId}
  (gn:nth st d=some s0) (hd:d<a.tmps.size) (hl:fo c st w cs vs.toList) :
  Rel w0 mu (c.iX d w.heap.size) (lZ (fun s=>{ s with v:=.one (.ptr d (s0.bg+1) 0),box:=some cs,bg:=s0.bg+1 }) st d)
   (a.put (some d) (.pointer (some ⟨w.heap.size,0,none⟩))) (w.alloc (.cells vs ty (0,0))):=by
 have hn:∀s,nth (lZ (fun s=>{ s with v:=.one (.ptr d (s0.bg+1) 0),box:=some cs,bg:=s0.bg+1 }) st d) s=
   if s=d then some { s0 with v:=.one (.ptr d (s0.bg+1) 0),box:=some cs,bg:=s0.bg+1 } else nth st s:=by
  intro s;rw [dj]
  by_cases e:s=d
  ·subst e;simp [gn]
  ·simp [e]
 generalize lZ (fun s=>{ s with v:=.one (.ptr d (s0.bg+1) 0),box:=some cs,bg:=s0.bg+1 }) st d=aY at hn ⊢;have fk:∀b,b<w.heap.size→c.ok b→(c.iX d w.heap.size).ok b:=by
  intro b hb hc;unfold Cz.ok Cz.iX;simp only [if_neg (show b≠w.heap.size by omega)];exact hc
 have hA:∀a' j g,aT aY a' j g=aT st a' j g:=by
  intro a' j g;unfold aT;rw [hn]
  by_cases e:a'=d
  ·subst e;simp [gn]
  ·simp [e]
 have hgA:∀a',cO aY a'=cO st a':=by
  intro a';unfold cO;rw [hn]
  by_cases e:a'=d
  ·subst e;simp [gn]
  ·simp [e]
 have fH:Fw c st w (c.iX d w.heap.size) aY (w.alloc (.cells vs ty (0,0))):={
  stays:=wE w _ _ _ fk
  refs:=fun a' j g A' _ ek=>⟨A',by rw [←hA];exact ek,rfl,rfl,rfl,fun _=>⟨rfl,fun b o cap gH=>by
   exact heap_alloc_old w _ b ((h.tC (g:=g) (by rw [←hA];exact ek)).lt gH)⟩⟩
  Bw:=fun b g lQ hg hb=>by
   unfold cW at hb ⊢;rw [hn] at hb
   by_cases e:b=d
   ·subst e;simp only [if_true] at hb;unfold fF at hg;rw [gn] at hg;have:Nat.beq (s0.bg+1) g=false:=by
     cases hq:Nat.beq (s0.bg+1) g
     ·rfl
     ·have:=Nat.eq_of_beq_eq_true hq;simp at hg;omega
    simp [this] at hb
   ·simp only [e,if_false] at hb;exact ⟨⟨lQ,hb⟩,by simp [Cz.iX,e]⟩
  gA:=fun a'=>by rw [hgA];exact Nat.le_refl _
  gB:=fun b=>by
   unfold fF;rw [hn]
   by_cases e:b=d
   ·subst e;simp [gn]
   ·simp [e]
  gE:=fun a'=>by
   unfold j5;rw [hn]
   by_cases e:a'=d
   ·subst e;simp [gn]
   ·simp [e] }
 exact {
  dO:=fun t=>by
   have e1:bI aY t=if t=d then .one (.ptr d (s0.bg+1) 0) else bI st t:=by
    unfold bI;rw [hn]
    by_cases e:t=d<;>simp [e]
   rw [e1,eval_put]
   by_cases e:t=d
   ·subst e;simp only [if_true,true_and,hd];refine ⟨rfl,?_,fun lQ KN=>by simp [Cz.iX]⟩;unfold fF;rw [hn];simp
   ·simp only [e,if_false];rw [if_neg (fun h=>e (Option.some.inj h.1).symm)];exact fH.j6 (h.dO t)
  boxes:=fun s sl lQ hs hb=>by
   rw [hn] at hs
   by_cases e:s=d
   ·subst e;simp only [if_true,Option.some.injEq] at hs;subst hs;simp only [Option.some.injEq] at hb;subst hb;exact ⟨by simp [Cz.iX],vs,ty,by simp only [Cz.iX,if_true];exact heap_alloc_new w _,fH.P4 hl⟩
   ·simp only [e,if_false] at hs;have VW:=h.boxes s sl lQ hs hb;have bQ:=h.kH VW.1;exact VW.go fH (by simp [Cz.iX,e]) (by simp only [Cz.iX];rw [if_neg (by omega)]) (heap_alloc_old w _ _ bQ)
  aN:=fun s j sl A hs ek=>by
   rw [hn] at hs;have ha:bF c w s j A:=by
    by_cases e:s=d
    ·subst e;simp only [if_true,Option.some.injEq] at hs;subst hs;exact h.aN s j s0 A gn ek
    ·simp only [e,if_false] at hs;exact h.aN s j sl A hs ek
   refine ha.go fH.stays rfl (fun b hb => ?_);have bQ:b<w.heap.size:=h.kH hb;exact ⟨heap_alloc_old w _ b bQ,by simp only [Cz.iX];rw [if_neg (by omega)]⟩
  owned:=fun b l hb=>by
   simp only [Cz.iX] at hb
   by_cases e:b=w.heap.size
   ·subst e;exact ⟨by simp,.inr (.inl h.kept.2.2.2)⟩
   ·rw [if_neg e] at hb;have:=h.owned b l hb;exact ⟨Nat.lt_of_lt_of_le this.1 (by simp),this.2⟩
  free:=fun b hb h1=>by
   simp only [Cz.iX] at h1
   by_cases e:b=w.heap.size
   ·rw [if_pos e] at h1;cases h1
   ·rw [if_neg e] at h1;exact h.free b hb h1
  kept:=⟨h.kept.1,h.kept.2.1,h.kept.2.2.1,Nat.le_trans h.kept.2.2.2 (by simp)⟩
  old:=fun k hk hm=>by
   rw [heap_alloc_old w _ k (Nat.lt_of_lt_of_le hk h.kept.2.2.2)];exact h.old k hk hm
  cR:=fun p hp=>fH.cR (h.cR p hp)
  lS:=fun b l hb=>⟨Nat.lt_of_lt_of_le (h.lS b l hb).1 (by simp),(h.lS b l hb).2⟩
  plain:=h.plain }
end Go.TM
namespace Go.TM
open Go Go.RowKit
theorem bu {w0:World} {mu:Mu} {c:Cz} {st:St} {a:Act} {w:World} (h:Rel w0 mu c st a w) (x:Operand):eD c st w (l6 st x) (a.eval x):=by
 unfold l6
 split<;>first | exact h.dO _ | rfl | trivial
theorem fo.take {c:Cz} {st:St} {w:World} {cs:List CV} {vs:List Value} (h:fo c st w cs vs) (off n:Nat):fo c st w ((cs.drop off).take n) ((vs.drop off).take n):=by
 refine ⟨by simp [h.1],fun i x v hx hv => ?_⟩;rw [List.getElem?_take] at hx hv
 by_cases hi:i<n
 ·rw [if_pos hi,List.getElem?_drop] at hx hv;exact h.2 _ x v hx hv
 ·rw [if_neg hi] at hx;simp at hx
theorem jq {n off:Nat} {cs l:List CV} (h:dW n off cs=some l):l=(cs.drop off).take n∧l.length=n:=by
 unfold dW at h;obtain ⟨h1,h2⟩:=aI h;have:=Option.some.inj h2;subst this;exact ⟨rfl,Nat.eq_of_beq_eq_true h1⟩
def valOf (agg:Bool) (vs:List Value):Value:=if agg then .agg vs.toArray else vs.headD undef
theorem sE {P:Program} {T:kK} (hT:fG P T) {t n:Nat} (ht:T.cells t=some n) (w:World) (b o:Nat) (vs:List Value) (hv:w.rangeAt b o vs) (hn:vs.length=n) :
  (loadVar t ⟨b,o,none⟩).run P w=.ok (valOf (T.agg t) vs) w:=by
 obtain ⟨d,hu,hd,h1⟩:=hT.agg t n ht
 cases hg:T.agg t with
 |true=>
  rw [hg] at hd;have:=run_loadVar_mid (P:=P) w b o t vs d hv hu hd (by rw [hT.cells t n ht,hn]);simpa [valOf] using this
 |false=>
  have Z7:=h1 hg;obtain ⟨v,rfl⟩:∃v,vs=[v]:=by
   cases vs with
   |nil=>simp at hn;omega
   |cons v l=>cases l with
    |nil=>exact ⟨v,rfl⟩
    |cons _ _=>simp at hn;omega
  have VX:(isAgg t).run P w=.ok false w:=by
   unfold isAgg;rw [Sem.run_bind,run_underlying hu w];rw [hg] at hd
   cases d<;>simp_all [TypeDesc.isRow]
  have hc:w.cell? ⟨b,o,none⟩=some v:=by have:=hv 0 v rfl;simpa using this
  simp [loadVar,Sem.run_bind,VX,valOf,run_load,hc]
theorem S0 {c:Cz} {st:St} {w:World} {T:kK} {t:Nat} {l:List CV} {vs:List Value} (h:fo c st w l vs) (h1:T.agg t=false→l.length=1) :
  eD c st w (Nu T t l) (valOf (T.agg t) vs):=by
 unfold Nu valOf
 cases hg:T.agg t with
 |true=>exact ⟨vs.toArray,rfl,by simpa using h⟩
 |false=>
  have hl:=h1 hg
  cases l with
  |nil=>simp at hl
  |cons x l=>cases l with
   |cons _ _=>simp at hl
   |nil=>cases vs with
    |nil=>have:=h.1;simp at this
    |cons v vs=>exact h.2 0 x v rfl rfl
theorem Cw {w:World} {b off:Nat} {vs:Array Value} {ty:TypeId} {fr:Nat×Nat} (h:w.heap[b]?=some (.cells vs ty fr)) (n:Nat):w.rangeAt b off ((vs.toList.drop off).take n):=by
 intro j v hv;rw [cell_of_row w b (off+j) vs ty fr h];rw [List.getElem?_take] at hv
 by_cases hj:j<n
 ·rw [if_pos hj,List.getElem?_drop] at hv;simpa using hv
 ·rw [if_neg hj] at hv;simp at hv
theorem ri {w:World} {c:Cz} {st:St}:(r:RT)→(b off:Nat)→(x:aw r)→cI w c.ok r b off x→
  ∃vs,vs.length=r.width∧w.rangeAt b off vs∧fo c st w (dv r x) vs
 |.nil,_,_,_,_=>⟨[],rfl,fun j v h=>by simp at h,rfl,fun i x v h=>by simp [dv] at h⟩
 |.cons t r,b,off,x,h=>by
  unfold cI at h;obtain ⟨⟨v,hv,hx⟩,hr⟩:=h;obtain ⟨vs,h1,h2,h3,h4⟩:=ri r b (off+1) x.2 hr;refine ⟨v::vs,by simp [RT.width,h1],fun j u hu => ?_,by simp [dv,h3],fun i y u hy hu => ?_⟩
  ·cases j with
   |zero=>simp at hu;rw [←hu];exact hv
   |succ j=>
    simp at hu;have:=h2 j u hu;rw [show off+(j+1)=off+1+j by omega];exact this
  ·cases i with
   |zero=>
    simp [dv] at hy hu;subst hy hu
    cases t with
    |int k=>unfold bN at hx;exact hx
    |bool=>unfold bN at hx;exact hx
    |str=>unfold bN at hx;exact hx
    |sl q=>exact hx
   |succ i=>
    simp [dv] at hy hu;exact h4 i y u hy hu
theorem DN {w:World} {P:List Nat→Nat→Prop} {c:Cz} {st:St} {a j g e i:Nat} {A:fT} {x0:aw A.r} {bb o cap:Nat} (hA:aT st a j g=some A) (he:e=j5 st a) (hg:g≤cO st a) (hm:A.md=.dp) (NH:A.xs[i]?=some x0) (gH:c.lc a j=.at bb o cap) :
  (r:RT)→(p:List Nat)→(k:Nat)→(x:aw r)→(∀k',kZ r x k'=kZ A.r x0 (k+k'))→eZ w P r p k bb (o+i*A.r.width+k) x→
  ∃vs,vs.length=r.width∧w.rangeAt bb (o+i*A.r.width+k) vs∧fo c st w (qv a j g e i k r x) vs
 |.nil,_,_,_,_,_=>⟨[],rfl,fun j v h=>by simp at h,rfl,fun i x v h=>by simp [qv] at h⟩
 |.cons t r,p,k,x,hs,h=>by
  unfold eZ at h;obtain ⟨⟨v,hv,hx⟩,hr⟩:=h;obtain ⟨vs,h1,h2,h3,h4⟩:=DN hA he hg hm NH gH r p (k+1) x.2 (fun k'=>by
   rw [show k+1+k'=k+(k'+1) by omega,←hs]
   cases t<;>rfl) (by rw [show o+i*A.r.width+(k+1)=o+i*A.r.width+k+1 by omega];exact hr)
  refine ⟨v::vs,by simp [RT.width,h1],fun j u hu => ?_,by simp [qv,h3],fun i' y u hy hu => ?_⟩
  ·cases j with
   |zero=>simp at hu;rw [←hu];exact hv
   |succ j=>
    simp at hu;have:=h2 j u hu;rw [show o+i*A.r.width+k+(j+1)=o+i*A.r.width+(k+1)+j by omega];exact this
  ·cases i' with
   |zero=>
    simp [qv] at hy hu;subst hy hu
    cases t with
    |int k=>exact yG.1 hx
    |bool=>exact ur.1 hx
    |str=>exact yH.1 hx
    |sl q=>
     have hx:=(wD _ _ _ _ _ _).1 hx;obtain ⟨lc,_,q1,_⟩:=hx;refine ⟨q1,hg,by rw [he];exact Nat.le_refl _,fun A' ek _ => ?_⟩;rw [hA] at ek;cases ek;refine ⟨hm,⟨x0,NH,?_⟩,bb,o,cap,gH,hv⟩;have:=hs 0;rw [Nat.add_zero] at this;rw [←this];rfl
   |succ i'=>
    simp [qv] at hy hu;exact h4 i' y u hy hu
theorem o9 {w:World} {b off:Nat} {vs:List Value} (h:w.rangeAt b off vs) (k n:Nat):w.rangeAt b (off+k) ((vs.drop k).take n):=by
 intro j v hv;rw [List.getElem?_take] at hv
 by_cases hj:j<n
 ·rw [if_pos hj,List.getElem?_drop] at hv;rw [Nat.add_assoc];exact h _ v hv
 ·rw [if_neg hj] at hv;simp at hv
def im (w w':World):Prop:=w.heap.size≤w'.heap.size∧∀b,b<w.heap.size→w'.heap[b]?=w.heap[b]?
theorem im.refl (w:World):im w w:=⟨Nat.le_refl _,fun _ _=>rfl⟩
theorem im.trans {w w' w'':World} (h:im w w') (h':im w' w''):im w w'':=
 ⟨Nat.le_trans h.1 h'.1,fun b hb=>(h'.2 b (Nat.lt_of_lt_of_le hb h.1)).trans (h.2 b hb)⟩
theorem im.alloc (w:World) (b:Obj):im w (w.alloc b):=⟨by simp,fun k hk=>heap_alloc_old w b k hk⟩
theorem im.range {w w':World} (h:im w w') {b o:Nat} {vs:List Value} (hr:w.rangeAt b o vs):w'.rangeAt b o vs:=by
 intro j v hj;have h1:=hr j v hj;rw [World.cell?_of_block (w:=w) (h.2 b (MA h1))];exact h1
theorem II {P:Program} {T:kK} (hT:fG P T) {w0:World} {mu:Mu} {c:Cz} {st:St} {a:Act} {w:World} (h:Rel w0 mu c st a w)
  {d:Option Nat} {t:Nat} {x:V} {u:Value} (hx:eD c st w x u) {aY:St} (hv:(vN T st d t x).val=some aY) (hd:∀k,d=some k→k<a.tmps.size) :
  ∃v,(∀w':World,im w w'→(Instr.loadAt t u).run P w'=.ok v w')∧Rel w0 mu c aY (a.put d v) w:=by
 have key:∀(b o n:Nat) (l:List CV) (vs:List Value),T.cells t=some n→u=.pointer (some ⟨b,o,none⟩)→w.rangeAt b o vs→vs.length=n→fo c st w l vs→
   (N.done (TM.aZ st d (Nu T t l))).val=some aY→∃v,(∀w':World,im w w'→(Instr.loadAt t u).run P w'=.ok v w')∧Rel w0 mu c aY (a.put d v) w:=by
  intro b o n l vs hn hu hr hlen hl pz;simp only [N.val,Option.some.injEq] at pz;subst pz;obtain ⟨dd,_,_,h1⟩:=hT.agg t n hn;refine ⟨valOf (T.agg t) vs,fun w' hk => ?_,h.aZ (S0 hl (fun hg=>by rw [hl.1,hlen];exact h1 hg)) hd⟩;subst hu;have VY:w'.rangeAt b o vs:=hk.range hr;simp only [Instr.loadAt,Instr.sureAddr,Sem.run_bind,Sem.run_pure,Result.andThen_ok,sE hT hn w' b o vs VY hlen]
 cases hn:T.cells t with
 |none=>cases x with
  |one y=>cases y<;>simp [vN,hn,N.val] at hv
  |agg _=>simp [vN,N.val] at hv
  |m9 _=>simp [vN,N.val] at hv
 |some n=>cases x with
  |agg _=>simp [vN,N.val] at hv
  |m9 _=>simp [vN,N.val] at hv
  |one y=>cases y with
   |bad | int _ _ | bool _ | str _ | dN | KA | shr _ _ | nn _ _ | ref _ _ _ _ | fn _ _ _ | Mv _ _ _ | KC _ _ _ _ _ _ _ _ | o8 _ _ _ _ _ _ _ _=>simp [vN,N.val] at hv
   |ptr b g off=>
    simp only [vN,hn] at hv
    cases hb:cW st b g with
    |none=>simp [hb,N.val] at hv
    |some cs=>
     simp only [hb] at hv
     cases z8:dW n off cs with
     |none=>simp [z8,N.val] at hv
     |some l=>
      simp only [z8] at hv;obtain ⟨rfl,hlen⟩:=jq z8;obtain ⟨sl,yl,IJ,Bs⟩:=ir hb;obtain ⟨ho,vs,ty,hh,hl⟩:=h.boxes b sl cs yl Bs;have hu:=hx.2.2 cs hb;refine key _ _ n _ ((vs.toList.drop off).take n) hn hu (Cw hh n) ?_ (hl.take off n) hv;rw [←(hl.take off n).1];exact hlen
   |lC r y off=>
    simp only [vN,hn] at hv
    cases z8:dW n off (dv r y) with
    |none=>simp [z8,N.val] at hv
    |some l=>
     simp only [z8] at hv;obtain ⟨rfl,hlen⟩:=jq z8;obtain ⟨b,o,hu,bQ,fk,DO⟩:=hx;obtain ⟨vs,h1,h2,h3⟩:=ri (st:=st) r b o y DO;refine key _ _ n _ ((vs.drop off).take n) hn hu (o9 h2 off n) ?_ (h3.take off n) hv;rw [←(h3.take off n).1];exact hlen
   |s8 r ys off=>
    simp only [vN,hn] at hv
    cases hy:ys[0]? with
    |none=>simp [hy,N.val] at hv
    |some y=>
    simp only [hy] at hv;change (match dW n off (dv r y) with | some l=>N.done (TM.aZ st d (Nu T t l)) | none=>N.fail).val=some aY at hv
    cases z8:dW n off (dv r y) with
    |none=>simp [z8,N.val] at hv
    |some l=>
     simp only [z8] at hv;obtain ⟨rfl,hlen⟩:=jq z8;obtain ⟨b,o,hu,bQ,fk,DO⟩:=hx;obtain ⟨vs,h1,h2,h3⟩:=ri (st:=st) r b o y (DO y hy);refine key _ _ n _ ((vs.drop off).take n) hn hu (o9 h2 off n) ?_ (h3.take off n) hv;rw [←(h3.take off n).1];exact hlen
   |Hg a' j g i off=>
    simp only [vN,hn] at hv
    cases hA:aT st a' j g with
    |none=>simp [hA,N.val] at hv
    |some A=>
     simp only [hA] at hv;obtain ⟨sl,yl,IJ,Bs⟩:=ba hA;have Fv:=h.aN a' j sl A yl Bs;obtain ⟨hi,b,o,cap,gH,hu⟩:=hx.2.2 A hA;unfold bF at Fv;rw [gH] at Fv;obtain ⟨_,_,_,dt⟩:=Fv
     cases hm:A.md with
     |ho _=>rw [hm] at hv;simp [N.val] at hv
     |sh=>
      rw [hm] at hv;simp only at hv
      cases tc:A.xs[i]? with
      |none=>simp [tc,N.val] at hv
      |some y=>
       simp only [tc] at hv;change (match dW n off (dv A.r y) with | some l=>N.done (TM.aZ st d (Nu T t l)) | none=>N.fail).val=some aY at hv
       cases z8:dW n off (dv A.r y) with
       |none=>simp [z8,N.val] at hv
       |some l=>
        simp only [z8] at hv;obtain ⟨rfl,hlen⟩:=jq z8;obtain ⟨vs,h1,h2,h3⟩:=ri (st:=st) A.r b _ y ((bh.sh hm).1 dt i y tc);refine key _ _ n _ ((vs.drop off).take n) hn hu (o9 h2 off n) ?_ (h3.take off n) hv;rw [←(h3.take off n).1];exact hlen
     |lz=>
      rw [hm] at hv;simp only at hv
      cases tc:A.xs[i]? with
      |none=>simp [tc,N.val] at hv
      |some y=>
       simp only [tc] at hv;change (match dW n off (dv A.r y) with | some l=>N.done (TM.aZ st d (Nu T t l)) | none=>N.fail).val=some aY at hv
       cases z8:dW n off (dv A.r y) with
       |none=>simp [z8,N.val] at hv
       |some l=>
        simp only [z8] at hv;obtain ⟨rfl,hlen⟩:=jq z8;unfold bh at dt;rw [hm] at dt;obtain ⟨gg,dt⟩:=dt;obtain ⟨vs,h1,h2,h3⟩:=ri (st:=st) A.r b _ y (eZ.rep (ok:=c.ok) (fun p k hk=>hk.1.1) _ _ _ _ _ y (dt i y tc));refine key _ _ n _ ((vs.drop off).take n) hn hu (o9 h2 off n) ?_ (h3.take off n) hv;rw [←(h3.take off n).1];exact hlen
     |dp=>
      rw [hm] at hv;simp only at hv
      cases tc:A.xs[i]? with
      |none=>simp [tc,N.val] at hv
      |some y=>
       simp only [tc] at hv;change (match dW n off (qv a' j g (j5 st a') i 0 A.r y) with | some l=>N.done (TM.aZ st d (Nu T t l)) | none=>N.fail).val=some aY at hv
       cases z8:dW n off (qv a' j g (j5 st a') i 0 A.r y) with
       |none=>simp [z8,N.val] at hv
       |some l=>
        simp only [z8] at hv;obtain ⟨rfl,hlen⟩:=jq z8;unfold bh at dt;rw [hm] at dt;obtain ⟨gg,_,dt⟩:=dt;obtain ⟨vs,h1,h2,h3⟩:=DN (st:=st) hA rfl hx.2.1 hm tc gH A.r _ 0 y (fun k'=>by rw [Nat.zero_add]) (dt i y tc);rw [Nat.add_zero] at h2;refine key _ _ n _ ((vs.drop off).take n) hn hu (o9 h2 off n) ?_ (h3.take off n) hv;rw [←(h3.take off n).1];exact hlen
end Go.TM
namespace Go.TM
open Go Go.RowKit
def cK (w:World) (ok:Nat→Prop):(r:RT)→List Value→aw r→Prop
 |.nil,vs,_=>vs=[]
 |.cons t r,vs,x=>∃v l,vs=v::l∧bN w ok t v x.1∧cK w ok r l x.2
theorem cK.length {w:World} {ok:Nat→Prop}:(r:RT)→(vs:List Value)→(x:aw r)→cK w ok r vs x→vs.length=r.width
 |.nil,vs,_,h=>by simp only [cK] at h;subst h;rfl
 |.cons t r,vs,x,h=>by
  obtain ⟨v,l,rfl,_,h⟩:=h;simp [RT.width,cK.length r l x.2 h]
theorem j7 {w:World} {ok:Nat→Prop}:(r:RT)→(b off:Nat)→(x:aw r)→(cI w ok r b off x↔∃vs,w.rangeAt b off vs∧cK w ok r vs x)
 |.nil,_,_,_=>by
  unfold cI;exact ⟨fun _=>⟨[],fun j v h=>by simp at h,rfl⟩,fun _=>trivial⟩
 |.cons t r,b,off,x=>by
  unfold cI
  constructor
  ·rintro ⟨⟨v,hv,hx⟩,hr⟩
   obtain ⟨vs,h1,h2⟩:=(j7 r b (off+1) x.2).1 hr;refine ⟨v::vs,fun j u hu => ?_,v,vs,rfl,hx,h2⟩
   cases j with
   |zero=>simp at hu;rw [←hu];exact hv
   |succ j=>
    simp at hu;rw [show off+(j+1)=off+1+j by omega];exact h1 j u hu
  ·rintro ⟨vs,h1,v,l,rfl,hx,h2⟩
   refine ⟨⟨v,h1 0 v rfl,hx⟩,(j7 r b (off+1) x.2).2 ⟨l,fun j u hu => ?_,h2⟩⟩;have:=h1 (j+1) u (by simpa using hu);rw [show off+1+j=off+(j+1) by omega];exact this
theorem cK.stays {w w':World} {ok zZ:Nat→Prop} (h:ij w w' ok zZ):(r:RT)→(vs:List Value)→(x:aw r)→cK w ok r vs x→cK w' zZ r vs x
 |.nil,_,_,hr=>hr
 |.cons t r,_,x,⟨v,l,e,hx,hr⟩=>⟨v,l,e,bN.stays h t v x.1 hx,cK.stays h r l x.2 hr⟩
theorem DP {w:World} {c:Cz} {st:St}:(r:RT)→(x:aw r)→(k:Nat)→(y:CV)→(z:aw r)→(vs:List Value)→(u:Value)→
  ga r x k y=some z→iI c st w y u→cK w c.ok r vs x→cK w c.ok r (vs.set k u) z
 |.nil,_,_,_,_,_,_,h,_,_=>by simp [ga] at h
 |.cons t r,x,0,y,z,vs,u,h,hu,hv=>by
  obtain ⟨v,l,rfl,hx,hr⟩:=hv
  cases t with
  |int k=>
   cases y<;>simp [ga] at h
   obtain ⟨rfl,h⟩:=h;obtain rfl:=Option.some.inj h;refine ⟨u,l,rfl,?_,hr⟩;unfold bN;exact hu
  |bool=>
   cases y<;>simp [ga] at h
   obtain rfl:=Option.some.inj h;refine ⟨u,l,rfl,?_,hr⟩;unfold bN;exact hu
  |str=>
   cases y<;>simp [ga] at h
   obtain rfl:=Option.some.inj h;refine ⟨u,l,rfl,?_,hr⟩;unfold bN;exact hu
  |sl q=>cases y<;>simp [ga] at h
 |.cons t r,x,k+1,y,z,vs,u,h,hu,hv=>by
  obtain ⟨v,l,rfl,hx,hr⟩:=hv;have h':(ga r x.2 k y).map (fun z=>((x.1,z):aw (.cons t r)))=some z:=by cases t<;>(simp only [ga] at h;exact h)
  cases hq:ga r x.2 k y with
  |none=>simp [hq] at h'
  |some z'=>
   rw [hq] at h';obtain rfl:=Option.some.inj h';exact ⟨v,l.set k u,rfl,hx,DP r x.2 k y z' l u hq hu hr⟩
def bA (vs:List Value) (off:Nat) (us:List Value):List Value:=vs.take off++us++vs.drop (off+us.length)
theorem Cx {vs:List Value} {off:Nat} {u:Value} {us:List Value} (h:off<vs.length):bA vs off (u::us)=(bA vs (off+1) us).set off u:=by
 unfold bA;apply List.ext_getElem?;intro k;simp only [List.getElem?_set,List.getElem?_append,List.length_append,List.length_take,List.length_cons,List.getElem?_drop,List.getElem?_cons]
 by_cases h1:k<off
 ·have a1:min off vs.length=off:=by omega
  have a2:min (off+1) vs.length=off+1:=by omega
  have a3:off≠k:=by omega
  simp only [a1,a2,a3,if_false,h1,show k<off+(us.length+1) by omega,show k<off+1+us.length by omega,show k<off+1 by omega,if_true,List.getElem?_take]
 ·by_cases h2:k=off
  ·subst h2;have a1:min k vs.length=k:=by omega
   have a2:min (k+1) vs.length=k+1:=by omega
   have a3:min k vs.length-k=0:=by omega
   simp [a1,a2,h];omega
  ·have a1:min off vs.length=off:=by omega
   have a2:min (off+1) vs.length=off+1:=by omega
   obtain ⟨m,rfl⟩:∃m,k=off+1+m:=⟨k-(off+1),by omega⟩;have a3:off≠off+1+m:=by omega
   simp only [a1,a2,a3,if_false,show ¬off+1+m<off by omega,show off+1+m-off=m+1 by omega,show ¬off+1+m<off+1 by omega,show off+1+m-(off+1)=m by omega,
    Nat.add_one_ne_zero,Nat.add_sub_cancel]
   by_cases h3:m<us.length
   ·rw [if_pos (by omega),if_pos (by omega)]
   ·rw [if_neg (by omega),if_neg (by omega)]
    congr 1
    omega
theorem dX {vs:List Value} {off:Nat} {us:List Value} (h:off+us.length≤vs.length):(bA vs off us).length=vs.length:=by
 unfold bA;simp;omega
theorem DQ {w:World} {c:Cz} {st:St} (r:RT) (x:aw r):(off:Nat)→(cs:List CV)→(z:aw r)→(vs us:List Value)→off+us.length≤vs.length→
  jQ r x off cs=some z→fo c st w cs us→cK w c.ok r vs x→cK w c.ok r (bA vs off us) z
 |off,[],z,vs,us,_,h,hl,hv=>by
  have:us=[]:=by have:=hl.1;simp at this;exact List.length_eq_zero_iff.1 this.symm
  subst this;simp [jQ] at h;subst h;simp [bA];exact hv
 |off,y::l,z,vs,us,hle,h,hl,hv=>by
  cases us with
  |nil=>have:=hl.1;simp at this
  |cons u us=>
   simp only [jQ] at h
   cases hq:jQ r x (off+1) l with
   |none=>simp [hq] at h
   |some y'=>
    simp only [hq] at h;simp at hle;have ih:=DQ r x (off+1) l y' vs us (by omega) hq ⟨by have:=hl.1;simpa using this,fun i a b ha hb=>hl.2 (i+1) a b (by simpa using ha) (by simpa using hb)⟩ hv;rw [Cx (by omega)];exact DP r y' off y z _ u h (hl.2 0 y u rfl rfl) ih
theorem qw {w:World} {c:Cz} {b:Nat} {l:Lb} (hb:c.own b=some l) (cur:Array Value):ij w (w.setRow b cur) c.ok c.ok where
 size:=by simp [World.setRow]
 block k _ hk:=setRow_other w b k cur (fun e=>by subst e;unfold Cz.ok at hk;rw [hb] at hk;cases hk)
 ok _ _ h:=h
theorem jL {P:Program} {T:kK} (hT:fG P T) {t n:Nat} (ht:T.cells t=some n) (w:World) (b o:Nat) (v:Value) (hn:v.cells.toList.length=n) (h1:∀u∈v.cells.toList,u.oneCell'=true)
  {cur:Array Value} {ty:TypeId} (hg:w.heap[b]?=some (.cells cur ty (0,0))) (hle:o+n≤cur.size) :
  (Instr.storeAt t (.pointer (some ⟨b,o,none⟩)) v).run P w=.ok () (w.setRow b (bA cur.toList o v.cells.toList).toArray):=by
 have hs:=run_storeCells_at P b o ty v.cells.toList 0 cur w hg (by omega) h1;have hi:=hT.cells t n ht
 cases hq:P.info? t with
 |none=>simp [hq] at hi
 |some i=>
  have jJ:v.cells.size=i.size:=by simp [hq] at hi;rw [hi,←hn];simp
  simp only [Nat.add_zero] at hs;simp [Instr.storeAt,Instr.sureAddr,storeVar,sizeOf,typeInfo,hq,jJ,hs,bA]
end Go.TM
namespace Go.TM
open Go Go.RowKit
theorem View.uz {α:Type} (vw:View) (xs:List α) {i:Nat} {x:α} (h:(vw.app xs)[i]?=some x):xs[vw.lo+i]?=some x:=by
 cases vw with
 |full=>simpa [View.app,View.lo] using h
 |«from» lo=>simpa [View.app,View.lo,List.getElem?_drop] using h
 |sub lo n=>
  simp only [View.app,View.lo,List.getElem?_take,List.getElem?_drop] at h ⊢
  by_cases hi:i<n
  ·rwa [if_pos hi] at h
  ·rw [if_neg hi] at h;simp at h
theorem Aa {c:Cz} {w:World} {s j:Nat} {A:fT} (h:bF c w s j A) {vw:View} {u:Value} (hu:fm (c.lc s j) A.r.width vw.lo (vw.app A.xs).length u)
  {ok:Nat→Prop} (h1:∀b,c.ok b→ok b) (h2:∀b,A.own=true∨A.md=.dp→c.own b=some (.sp s j)→ok b) (sF:A.md.Ft=false):bN w ok (.sl A.r) u (vw.app A.xs):=by
 rw [ni]
 cases hl:c.lc s j with
 |nil=>
  unfold fm at hu;rw [hl] at hu;obtain ⟨rfl,hn⟩:=hu;exact .inl ⟨rfl,List.length_eq_zero_iff.1 hn⟩
 |«at» b off cap=>
  unfold fm at hu;rw [hl] at hu;obtain ⟨a,k,rfl,hk,x5,ha⟩:=hu;unfold bF at h;rw [hl] at h;obtain ⟨h0,_,⟨cur,ty,h3,_⟩,h5⟩:=h;have h5:∀(i:Nat) x,A.xs[i]?=some x→cI w ok A.r b (off+i*A.r.width) x:=by
   unfold bh at h5
   cases hm:A.md with
   |sh=>rw [hm] at h5;exact fun i x hx=>cI.stays ⟨Nat.le_refl _,fun _ _ _=>rfl,fun b _ hb=>h1 b hb⟩ _ _ _ x rfl (h5 i x hx)
   |dp=>
    rw [hm] at h5;obtain ⟨g,_,h5⟩:=h5;exact fun i x hx=>eZ.rep (fun p k hk=>h2 k (.inr hm) hk.1) _ _ _ _ _ x (h5 i x hx)
   |lz=>
    rw [hm] at h5;obtain ⟨g,h5⟩:=h5;exact fun i x hx=>eZ.rep (fun p k hk=>h1 k hk.1.1) _ _ _ _ _ x (h5 i x hx)
   |ho _=>rw [hm] at sF;cases sF
  have hob:ok b:=by
   cases ho:A.own with
   |true=>rw [ho] at h0;exact h2 b (.inl ho) h0
   |false=>rw [ho] at h0;exact h1 b h0
  have hs:ij w w c.ok ok:=⟨Nat.le_refl _,fun _ _ _=>rfl,fun b _ hb=>h1 b hb⟩;refine .inr ⟨a,k,rfl,hk,fun eQ => ?_,fun i x hi => ?_⟩
  ·have:k≠0:=by
    have:=List.length_pos_iff.2 eQ;omega
   rw [ha this];exact ⟨rfl,(Array.getElem?_eq_some_iff.1 h3).1,hob⟩
  ·have hk0:k≠0:=by
    have:=(List.getElem?_eq_some_iff.1 hi).1;omega
   rw [ha hk0];have:=h5 _ x (View.uz vw A.xs hi);have e:off+vw.lo*A.r.width+i*A.r.width=off+(vw.lo+i)*A.r.width:=by rw [Nat.add_mul];omega
   show cI w ok A.r b (off+vw.lo*A.r.width+i*A.r.width) x;rw [e];exact this
theorem bd {r s:RT} {xs:List (aw r)} {ys:List (aw s)} (h:bw s xs=some ys):∃e:r=s,ys=e▸xs:=by
 unfold bw at h
 cases hq:RT.eq? r s with
 |none=>simp [hq] at h
 |some p=>obtain ⟨e⟩:=p;simp [hq] at h;exact ⟨e,h.symm⟩
def Cz.drop1 (c:Cz) (a j:Nat):Cz:=
 { c with own:=fun k=>match c.own k with | some (.sp s i)=>if s=a∧i=j then none else some (.sp s i) | l=>l }
theorem Cz.Ab {c:Cz} {a j b:Nat} (h:c.ok b):(c.drop1 a j).ok b:=by
 unfold Cz.ok Cz.drop1 at *;simp [h]
theorem Cz.DR {c:Cz} {a j b:Nat} (h:c.own b=some (.sp a j)):(c.drop1 a j).ok b:=by
 unfold Cz.ok Cz.drop1;simp [h]
theorem Cz.KO {c:Cz} {a j b:Nat} {l:Lb} (h:(c.drop1 a j).own b=some l):c.own b=some l:=by
 unfold Cz.drop1 at h;simp only at h
 cases hc:c.own b with
 |none=>simp [hc] at h
 |some l'=>cases l' with
  |box s=>simp [hc] at h;rw [h]
  |out=>simp [hc] at h;rw [h]
  |bK i k=>simp [hc] at h;rw [h]
  |su i=>simp [hc] at h;rw [h]
  |eF k=>simp [hc] at h;rw [h]
  |sp s i=>
   simp only [hc] at h
   by_cases e:s=a∧i=j
   ·simp [e] at h
   ·rw [if_neg e] at h;exact h
theorem Cz.rj {c:Cz} {a j b:Nat} {l:Lb} (h:c.own b=some l) (eQ:l≠.sp a j):(c.drop1 a j).own b=some l:=by
 unfold Cz.drop1;simp only [h]
 cases l with
 |box s=>rfl
 |out=>rfl
 |bK i k=>rfl
 |su i=>rfl
 |eF k=>rfl
 |sp s i=>
  simp only;rw [if_neg]
  rintro ⟨rfl,rfl⟩
  exact eQ rfl
def fh (st:St) (a j:Nat):St:=lZ (fun s=>{ s with aN:=lZ (fun A=>A.map fT.fz) s.aN j,ep:=s.ep+1 }) st a
theorem IK (st:St) (a j:Nat) (l:List (Nat×Nat)):freeze st ((a,j)::l)=freeze (fh st a j) l:=rfl
theorem iK (st:St) (a j s:Nat):∃f:Sl→Sl,(∀x,(f x).v=x.v∧(f x).box=x.box∧(f x).bg=x.bg∧(f x).ag=x.ag∧
   (∀i,nth (f x).aN i=if s=a∧i=j then (nth x.aN i).map (fun A=>A.map fT.fz) else nth x.aN i)∧(f x).ep=if s=a then x.ep+1 else x.ep)∧nth (fh st a j) s=(nth st s).map f:=by
 unfold fh
 by_cases h:s=a
 ·subst h;refine ⟨fun s=>{ s with aN:=lZ (fun A=>A.map fT.fz) s.aN j,ep:=s.ep+1 },fun x=>⟨rfl,rfl,rfl,rfl,fun i => ?_,by simp⟩,gu _ _ _⟩;simp only [dj,true_and]
 ·refine ⟨id,fun x=>⟨rfl,rfl,rfl,rfl,fun i => ?_,by simp [h]⟩,by rw [k9 _ _ h];simp⟩;simp [h]
theorem Cy (st:St) (a j b:Nat):j5 st b≤j5 (fh st a j) b∧(j5 (fh st a j) b=j5 st b→b≠a∨nth st b=none):=by
 obtain ⟨f,hf,hn⟩:=iK st a j b;unfold j5;rw [hn]
 cases hx:nth st b with
 |none=>simp
 |some x=>
  simp only [Option.map_some];rw [(hf x).2.2.2.2.2]
  by_cases e:b=a
  ·rw [if_pos e];exact ⟨by omega,fun h=>by omega⟩
  ·rw [if_neg e];exact ⟨Nat.le_refl _,fun _=>.inl e⟩
theorem Ho (st:St) (a j t:Nat):bI (fh st a j) t=bI st t:=by
 obtain ⟨f,hf,hn⟩:=iK st a j t;unfold bI;rw [hn]
 cases nth st t with
 |none=>rfl
 |some x=>exact (hf x).1
theorem Hp {st:St} {a j a' j' g:Nat} {A':fT} (h:aT (fh st a j) a' j' g=some A'):∃A,aT st a' j' g=some A∧A'.r.width=A.r.width∧A'.xs.length=A.xs.length∧(a'≠a→A'=A):=by
 obtain ⟨sl,h1,h2,h3⟩:=ba h;obtain ⟨f,hf,hn⟩:=iK st a j a';rw [hn] at h1
 cases hx:nth st a' with
 |none=>rw [hx] at h1;simp at h1
 |some x=>
  rw [hx] at h1;simp at h1;subst h1;obtain ⟨_,_,_,f4,f5,_⟩:=hf x;rw [f5] at h3;rw [f4] at h2;have key:∃A,nth x.aN j'=some (some A)∧A'.r.width=A.r.width∧A'.xs.length=A.xs.length∧(a'≠a→A'=A):=by
   by_cases e:a'=a∧j'=j
   ·rw [if_pos e] at h3
    cases hj:nth x.aN j' with
    |none=>simp [hj] at h3
    |some o=>cases o with
     |none=>simp [hj] at h3
     |some A=>simp [hj] at h3;subst h3;exact ⟨A,rfl,rfl,rfl,fun h=>absurd e.1 h⟩
   ·rw [if_neg e] at h3;exact ⟨A',h3,rfl,rfl,fun _=>rfl⟩
  obtain ⟨A,k1,k2,k3⟩:=key;refine ⟨A,?_,k2,k3⟩;unfold aT;rw [hx];have:Nat.beq x.ag g=true:=by rw [h2];exact Nat.beq_refl g
  simp [this,k1]
theorem Hq (st:St) (a j b g:Nat):cW (fh st a j) b g=cW st b g:=by
 obtain ⟨f,hf,hn⟩:=iK st a j b;unfold cW;rw [hn]
 cases nth st b with
 |none=>rfl
 |some x=>obtain ⟨_,h2,h3,_⟩:=hf x;simp [h2,h3]
theorem Hr (st:St) (a j b:Nat):cO (fh st a j) b=cO st b:=by
 obtain ⟨f,hf,hn⟩:=iK st a j b;unfold cO;rw [hn]
 cases nth st b with
 |none=>rfl
 |some x=>exact (hf x).2.2.2.1
theorem Hs (st:St) (a j b:Nat):fF (fh st a j) b=fF st b:=by
 obtain ⟨f,hf,hn⟩:=iK st a j b;unfold fF;rw [hn]
 cases nth st b with
 |none=>rfl
 |some x=>exact (hf x).2.2.1
theorem Fw.fh (c:Cz) (st:St) (w:World) (a j:Nat):Fw c st w (c.drop1 a j) (fh st a j) w where
 stays:=⟨Nat.le_refl _,fun _ _ _=>rfl,fun _ _ h=>Cz.Ab h⟩
 refs a' j' g A' _ ek:=by
  obtain ⟨A,h1,h2,h3,h4⟩:=Hp ek;refine ⟨A,h1,h2,h3,rfl,fun he=>⟨?_,fun _ _ _ _=>rfl⟩⟩;rcases (Cy st a j a').2 he with e | e
  ·exact h4 e
  ·unfold aT at h1;rw [e] at h1;cases h1
 Bw b g lQ _ h:=⟨⟨lQ,by rwa [Hq] at h⟩,rfl⟩
 gA b:=by rw [Hr];exact Nat.le_refl _
 gB b:=by rw [Hs];exact Nat.le_refl _
 gE b:=(Cy st a j b).1
theorem Rel.fh {w0:World} {mu:Mu} {c:Cz} {st:St} {a:Act} {w:World} (h:Rel w0 mu c st a w) (s j:Nat):Rel w0 mu (c.drop1 s j) (fh st s j) a w where
 dO t:=by rw [Ho];exact (Fw.fh c st w s j).j6 (h.dO t)
 boxes b sl cs hs hb:=by
  obtain ⟨f,hf,hn⟩:=iK st s j b;rw [hn] at hs
  cases hx:nth st b with
  |none=>rw [hx] at hs;simp at hs
  |some x=>
   rw [hx] at hs;simp at hs;subst hs;rw [(hf x).2.1] at hb;have h0:=h.boxes b x cs hx hb;exact h0.go (Fw.fh c st w s j) rfl (by rw [h0.1];exact Cz.rj h0.1 (by simp)) rfl
 aN b i sl A hs hb:=by
  obtain ⟨f,hf,hn⟩:=iK st s j b;rw [hn] at hs
  cases hx:nth st b with
  |none=>rw [hx] at hs;simp at hs
  |some x=>
   rw [hx] at hs;simp at hs;subst hs;rw [(hf x).2.2.2.2.1 i] at hb
   by_cases e:b=s∧i=j
   ·rw [if_pos e] at hb
    cases hj:nth x.aN i with
    |none=>simp [hj] at hb
    |some o=>cases o with
     |none=>simp [hj] at hb
     |some B=>
      simp [hj] at hb;subst hb;have h0:=h.aN b i x B hx hj;unfold bF at h0 ⊢;show match c.lc b i with | .nil=>_ | .at b off cap=>_
      cases hl:c.lc b i with
      |nil=>rw [hl] at h0;exact h0
      |«at» k off cap=>
       rw [hl] at h0;obtain ⟨h1,h2,h3,h4⟩:=h0;refine ⟨?_,h2,h3,?_⟩
       ·show (c.drop1 s j).own k=none
        cases ho:B.own with
        |true=>rw [ho] at h1;obtain ⟨rfl,rfl⟩:=e;exact Cz.DR h1
        |false=>rw [ho] at h1;exact Cz.Ab h1
       ·unfold bh at h4 ⊢;show match B.md.fz with | .sh=>_ | .dp=>_ | .ho _=>_ | .lz=>_
        cases hm:B.md with
        |sh=>rw [hm] at h4;exact fun i x hi=>cI.stays (Fw.fh c st w s j).stays _ _ _ x rfl (h4 i x hi)
        |dp=>
         rw [hm] at h4;obtain ⟨g,_,h4⟩:=h4;obtain ⟨rfl,rfl⟩:=e;exact fun i x hi=>eZ.rep (fun p k hk=>Cz.DR hk.1) _ _ _ _ _ x (h4 i x hi)
        |lz=>
         rw [hm] at h4;obtain ⟨g,h4⟩:=h4;exact fun i x hi=>eZ.rep (fun p k hk=>Cz.Ab hk.1.1) _ _ _ _ _ x (h4 i x hi)
        |ho q=>exact fun e=>by cases e
   ·rw [if_neg e] at hb;have h0:=h.aN b i x A hx hb;refine h0.go (Fw.fh c st w s j).stays rfl (fun k h1=>⟨rfl,?_⟩);rw [h1];exact Cz.rj h1 (by rintro e';injection e' with e1 e2;exact e ⟨e1,e2⟩)
 owned b l hb:=h.owned b l (Cz.KO hb)
 free b hb h1:=by
  cases hc:c.own b with
  |none=>exact h.free b hb hc
  |some l=>
   rcases (h.owned b l hc).2 with h2 | h2 | h2
   ·subst h2;unfold Cz.drop1 at h1;simp [hc] at h1
   ·omega
   ·exact .inl h2
 kept:=h.kept
 old:=h.old
 cR p hp:=(Fw.fh c st w s j).cR (h.cR p hp)
 lS:=h.lS
 plain:=h.plain
def Cz.drop (c:Cz):List (Nat×Nat)→Cz
 | []=>c
 |(a,j)::l=>(c.drop1 a j).drop l
theorem Rel.freeze {w0:World} {mu:Mu} {a:Act} {w:World}:(m:List (Nat×Nat))→{c:Cz}→{st:St}→Rel w0 mu c st a w→Rel w0 mu (c.drop m) (freeze st m) a w
 | [],_,_,h=>h
 |(s,j)::m,_,_,h=>Rel.freeze m (h.fh s j)
theorem Cz.uA:(m:List (Nat×Nat))→(c:Cz)→(b:Nat)→c.ok b→(c.drop m).ok b
 | [],_,_,h=>h
 |(a,j)::m,c,b,h=>Cz.uA m (c.drop1 a j) b (Cz.Ab h)
theorem Cz.xD:(m:List (Nat×Nat))→(c:Cz)→(b:Nat)→{a j:Nat}→c.own b=some (.sp a j)→(a,j)∈m→(c.drop m).ok b
 | [],_,_,_,_,_,h=>by simp at h
 |(a',j')::m,c,b,a,j,h,hm=>by
  by_cases e:a'=a∧j'=j
  ·obtain ⟨rfl,rfl⟩:=e;exact Cz.uA m _ b (Cz.DR h)
  ·refine Cz.xD m (c.drop1 a' j') b (Cz.rj h (by rintro e';injection e' with e1 e2;exact e ⟨e1.symm,e2.symm⟩)) ?_;rcases List.mem_cons.1 hm with h' | h'
   ·injection h' with e1 e2;exact absurd ⟨e1.symm,e2.symm⟩ e
   ·exact h'
theorem Cz.Ht:(m:List (Nat×Nat))→(c:Cz)→(c.drop m).lc=c.lc∧(c.drop m).bx=c.bx
 | [],_=>⟨rfl,rfl⟩
 |(a,j)::m,c=>Cz.Ht m (c.drop1 a j)
theorem Cz.Bx:(m:List (Nat×Nat))→(c:Cz)→(b:Nat)→{l:Lb}→c.own b=some l→(∀p∈m,l≠.sp p.1 p.2)→(c.drop m).own b=some l
 | [],_,_,_,h,_=>h
 |(a,j)::m,c,b,l,h,hm=>Cz.Bx m (c.drop1 a j) b (Cz.rj h (hm (a,j) (by simp))) (fun p hp=>hm p (by simp [hp]))
theorem Fw.trans {c c1 c2:Cz} {st vQ fB:St} {w w1 w2:World} (h:Fw c st w c1 vQ w1) (k:Fw c1 vQ w1 c2 fB w2):Fw c st w c2 fB w2 where
 stays:=⟨Nat.le_trans h.stays.size k.stays.size,fun b hb ho=>(k.stays.block b (Nat.lt_of_lt_of_le hb h.stays.size) (h.stays.ok b hb ho)).trans (h.stays.block b hb ho),
  fun b hb ho=>k.stays.ok b (Nat.lt_of_lt_of_le hb h.stays.size) (h.stays.ok b hb ho)⟩
 refs a j g A' hg ek:=by
  obtain ⟨A1,h1,h2,h3,h4,h5⟩:=k.refs a j g A' (Nat.le_trans hg (h.gA a)) ek;obtain ⟨A,k1,k2,k3,k4,k5⟩:=h.refs a j g A1 hg h1;refine ⟨A,k1,h2.trans k2,h3.trans k3,h4.trans k4,fun he => ?_⟩;have g1:=h.gE a;have g2:=k.gE a;obtain ⟨e1,e2⟩:=h5 (by omega);obtain ⟨e3,e4⟩:=k5 (by omega);exact ⟨e1.trans e3,fun b o cap hl=>(e2 b o cap (by rw [k4];exact hl)).trans (e4 b o cap hl)⟩
 Bw b g lQ hg hb:=by
  obtain ⟨⟨cs1,h1⟩,h2⟩:=k.Bw b g lQ (Nat.le_trans hg (h.gB b)) hb;obtain ⟨h3,h4⟩:=h.Bw b g cs1 hg h1;exact ⟨h3,h2.trans h4⟩
 gA a:=Nat.le_trans (h.gA a) (k.gA a)
 gB b:=Nat.le_trans (h.gB b) (k.gB b)
 gE b:=Nat.le_trans (h.gE b) (k.gE b)
theorem Fw.refl (c:Cz) (st:St) (w:World):Fw c st w c st w:=⟨ij.refl w _,fun _ _ _ A' _ h=>⟨A',h,rfl,rfl,rfl,fun _=>⟨rfl,fun _ _ _ _=>rfl⟩⟩,fun _ _ lQ _ h=>⟨⟨lQ,h⟩,rfl⟩,fun _=>Nat.le_refl _,fun _=>Nat.le_refl _,fun _=>Nat.le_refl _⟩
theorem Fw.freeze (w:World):(m:List (Nat×Nat))→(c:Cz)→(st:St)→Fw c st w (c.drop m) (freeze st m) w
 | [],c,st=>Fw.refl c st w
 |(a,j)::m,c,st=>(Fw.fh c st w a j).trans (Fw.freeze w m (c.drop1 a j) (TM.fh st a j))
theorem Ac {w0:World} {mu:Mu} {c:Cz} {st:St} {a:Act} {w:World} (h:Rel w0 mu c st a w):(r:RT)→(cs:List CV)→(us:List Value)→fo c st w cs us→
  (k:aw r→List (Nat×Nat)→N)→{aY:St}→(rowOf st r cs k).val=some aY→
  ∃x m,(k x m).val=some aY∧(∀p∈m,∃g A,aT st p.1 p.2 g=some A)∧
   ∀ok:Nat→Prop,(∀b,c.ok b→ok b)→(∀p∈m,∀b,c.own b=some (.sp p.1 p.2)→ok b)→cK w ok r us x
 |.nil,cs,us,hl,k,aY,hv=>by
  cases cs with
  |cons _ _=>simp [rowOf,N.val] at hv
  |nil=>
   have:us=[]:=by have:=hl.1;simp at this;exact List.length_eq_zero_iff.1 this.symm
   subst this;exact ⟨(),[],hv,fun p hp=>by simp at hp,fun _ _ _=>rfl⟩
 |.cons t r,cs,us,hl,k,aY,hv=>by
  cases cs with
  |nil=>cases t<;>simp [rowOf,N.val] at hv
  |cons y cs=>
   cases us with
   |nil=>have:=hl.1;simp at this
   |cons u us=>
    have hu:iI c st w y u:=hl.2 0 y u rfl rfl;have uB:fo c st w cs us:=⟨by have:=hl.1;simpa using this,fun i a b ha hb=>hl.2 (i+1) a b (by simpa using ha) (by simpa using hb)⟩;have plain:∀(d:den t),(∀ok:Nat→Prop,(∀b,c.ok b→ok b)→bN w ok t u d)→(rowOf st r cs (fun x m=>k (d,x) m)).val=some aY→
      ∃x m,(k x m).val=some aY∧(∀p∈m,∃g A,aT st p.1 p.2 g=some A)∧
       ∀ok:Nat→Prop,(∀b,c.ok b→ok b)→(∀p∈m,∀b,c.own b=some (.sp p.1 p.2)→ok b)→cK w ok (.cons t r) (u::us) x:=by
     intro d hd hv;obtain ⟨x,m,h1,h2,h3⟩:=Ac h r cs us uB _ hv;exact ⟨(d,x),m,h1,h2,fun ok ho hm=>⟨u,us,rfl,hd ok ho,h3 ok ho hm⟩⟩
    cases t with
    |int q=>
     cases y with
     |int l n=>
      simp only [rowOf] at hv
      by_cases e:q=l
      ·rw [if_pos e] at hv;exact plain n (fun ok _=>rh.2 (by rw [e];exact hu)) hv
      ·rw [if_neg e] at hv;simp [N.val] at hv
     |_=>simp [rowOf,N.val] at hv
    |bool=>
     cases y with
     |bool b=>exact plain b (fun ok _=>sD.2 hu) (by simpa only [rowOf] using hv)
     |_=>simp [rowOf,N.val] at hv
    |str=>
     cases y with
     |str s=>exact plain s (fun ok _=>wC.2 hu) (by simpa only [rowOf] using hv)
     |_=>simp [rowOf,N.val] at hv
    |sl q=>
     cases y with
     |dN=>exact plain ([]:List (aw q)) (fun ok _=>(ni _ _ _ _ _).2 (.inl ⟨hu,rfl⟩)) (by simpa only [rowOf] using hv)
     |shr r' ys=>
      simp only [rowOf] at hv
      cases hc:bw q ys with
      |none=>simp [hc,N.val] at hv
      |some zs=>
       simp only [hc] at hv;obtain ⟨rfl,rfl⟩:=bd hc;exact plain _ (fun ok ho=>bN.stays ⟨Nat.le_refl _,fun _ _ _=>rfl,fun b _ hb=>ho b hb⟩ _ _ _ hu) hv
     |ref a' j g vw=>
      simp only [rowOf] at hv
      cases hA:aT st a' j g with
      |none=>simp [hA,N.val] at hv
      |some A=>
       simp only [hA] at hv;have sF:A.md.Ft=false:=by
        cases hm:A.md with
        |ho _=>rw [hm] at hv;simp [N.val] at hv
        |_=>rfl
       have hv:(match bw q A.xs with
         |some ys=>rowOf st r cs (fun x m=>k (vw.app ys,x) ((a',j)::m))
         |none=>.fail).val=some aY:=by
        cases hm:A.md with
        |ho _=>rw [hm] at sF;cases sF
        |sh=>rw [hm] at hv;exact hv
        |lz=>rw [hm] at hv;exact hv
        |dp=>rw [hm] at hv;exact hv
       cases hc:bw q A.xs with
       |none=>simp [hc,N.val] at hv
       |some ys=>
        simp only [hc] at hv;obtain ⟨e,he⟩:=bd hc;subst e;simp only at he;subst he;obtain ⟨sl,yl,IJ,Bs⟩:=ba hA;have Fv:=h.aN a' j sl A yl Bs;obtain ⟨x,m,h1,h2,h3⟩:=Ac h r cs us uB _ hv;refine ⟨(vw.app A.xs,x),(a',j)::m,h1,fun p hp => ?_,fun ok ho hm=>⟨u,us,rfl,?_,h3 ok ho (fun p hp=>hm p (by simp [hp]))⟩⟩
        ·rcases List.mem_cons.1 hp with rfl | hp
         ·exact ⟨g,A,hA⟩
         ·exact h2 p hp
        ·exact Aa Fv (hu.2.2 A hA) ho (fun k _ hk=>hm (a',j) (by simp) k hk) sF
     |_=>simp [rowOf,N.val] at hv
end Go.TM
namespace Go.TM
open Go Go.RowKit
theorem ym {cs l m:List CV} {off:Nat} (h:putCells cs off l=some m):off+l.length≤cs.length∧m=cs.take off++l++cs.drop (off+l.length):=by
 unfold putCells at h;obtain ⟨h1,h2⟩:=aI h;exact ⟨Nat.le_of_ble_eq_true h1,(Option.some.inj h2).symm⟩
theorem fo.bA {c:Cz} {st:St} {w:World} {cs l:List CV} {vs us:List Value} (h:fo c st w cs vs) (hl:fo c st w l us) (off:Nat) (hle:off+l.length≤cs.length) :
  fo c st w (cs.take off++l++cs.drop (off+l.length)) (TM.bA vs off us):=by
 have e1:=h.1;have e2:=hl.1;refine ⟨by rw [dX (by omega)];simp;omega,fun i x v hx hv => ?_⟩;unfold TM.bA at hv;rw [List.getElem?_append,List.getElem?_append] at hx hv;simp only [List.length_append,List.length_take] at hx hv;have a1:min off cs.length=off:=by omega
 have a2:min off vs.length=off:=by omega
 rw [a1] at hx;rw [a2,←e2] at hv
 by_cases h1:i<off+l.length
 ·rw [if_pos h1] at hx hv
  by_cases h2:i<off
  ·rw [if_pos h2,List.getElem?_take,if_pos h2] at hx hv;exact h.2 i x v hx hv
  ·rw [if_neg h2] at hx hv;exact hl.2 _ x v hx hv
 ·rw [if_neg h1,List.getElem?_drop] at hx hv;exact h.2 _ x v hx hv
theorem Rel.P7 {w0:World} {mu:Mu} {c:Cz} {st:St} {a:Act} {w:World} (h:Rel w0 mu c st a w) {b:Nat} {s0:Sl} {cs l:List CV} {vs cur':Array Value} {ty:TypeId}
  (hs:nth st b=some s0) (hb:s0.box=some cs) (hg:w.heap[c.bx b]?=some (.cells vs ty (0,0))) (hl:fo c st w l cur'.toList) :
  Rel w0 mu c (lZ (fun s=>{ s with box:=some l }) st b) a (w.setRow (c.bx b) cur'):=by
 have ec:=(h.boxes b s0 cs hs hb).1;have hn:∀s,nth (lZ (fun s=>{ s with box:=some l }) st b) s=if s=b then some { s0 with box:=some l } else nth st s:=by
  intro s;rw [dj]
  by_cases e:s=b
  ·subst e;simp [hs]
  ·simp [e]
 generalize lZ (fun s=>{ s with box:=some l }) st b=aY at hn ⊢;have pz:=qw (w:=w) ec cur';have nV:∀k,k≠c.bx b→(w.setRow (c.bx b) cur').heap[k]?=w.heap[k]?:=fun k hk=>setRow_other w _ k cur' hk
 have fH:Fw c st w c aY (w.setRow (c.bx b) cur'):={
  stays:=pz
  refs:=fun a' j g A' _ ek=>by
   have F6:aT st a' j g=some A':=by
    unfold aT at ek ⊢;rw [hn] at ek
    by_cases e:a'=b
    ·subst e;simpa [hs] using ek
    ·simpa [e] using ek
   refine ⟨A',F6,rfl,rfl,rfl,fun _=>⟨rfl,fun k o cap hl=>nV k ?_⟩⟩;have ha:=h.tC F6;unfold bF at ha;rw [hl] at ha;intro e;subst e;obtain ⟨h1,_⟩:=ha;rw [ec] at h1
   cases ho:A'.own<;>simp [ho] at h1
  Bw:=fun b' g lQ _ mj=>by
   refine ⟨?_,rfl⟩;unfold cW at mj ⊢;rw [hn] at mj
   by_cases e:b'=b
   ·subst e;simp only [if_true] at mj;obtain ⟨h1,_⟩:=aI mj;exact ⟨cs,by simp [hs,h1,hb]⟩
   ·simp only [e,if_false] at mj;exact ⟨lQ,mj⟩
  gA:=fun a'=>by
   unfold cO;rw [hn]
   by_cases e:a'=b
   ·subst e;simp [hs]
   ·simp [e]
  gB:=fun a'=>by
   unfold fF;rw [hn]
   by_cases e:a'=b
   ·subst e;simp [hs]
   ·simp [e]
  gE:=fun a'=>by
   unfold j5;rw [hn]
   by_cases e:a'=b
   ·subst e;simp [hs]
   ·simp [e] }
 exact {
  dO:=fun t=>by
   have e1:bI aY t=bI st t:=by
    unfold bI;rw [hn]
    by_cases e:t=b
    ·subst e;simp [hs]
    ·simp [e]
   rw [e1];exact fH.j6 (h.dO t)
  boxes:=fun s sl lQ Ad mj=>by
   rw [hn] at Ad
   by_cases e:s=b
   ·subst e;simp only [if_true,Option.some.injEq] at Ad;subst Ad;simp only [Option.some.injEq] at mj;subst mj;exact ⟨ec,cur',ty,setRow_heap w _ vs cur' ty (0,0) hg,fH.P4 hl⟩
   ·simp only [e,if_false] at Ad;have h0:=h.boxes s sl lQ Ad mj;refine h0.go fH rfl rfl (nV _ ?_);intro e';have:=h0.1;rw [e',ec] at this;injection this with this;injection this with this;exact e this.symm
  aN:=fun s j sl A Ad ek=>by
   rw [hn] at Ad;have ha:bF c w s j A:=by
    by_cases e:s=b
    ·subst e;simp only [if_true,Option.some.injEq] at Ad;subst Ad;exact h.aN s j s0 A hs ek
    ·simp only [e,if_false] at Ad;exact h.aN s j sl A Ad ek
   refine ha.go pz rfl (fun k h1=>⟨nV k ?_,rfl⟩);intro e;subst e;rw [ec] at h1
   cases h1
  owned:=fun k l hk=>by
   have:=h.owned k l hk;exact ⟨by simpa [World.setRow] using this.1,this.2⟩
  free:=h.free
  kept:=⟨h.kept.1,h.kept.2.1,h.kept.2.2.1,by simpa [World.setRow] using h.kept.2.2.2⟩
  old:=fun k hk hm=>by
   rw [nV k (fun e=>by
    have:=(h.owned _ _ ec).2;rcases this with this | this | this
    ·cases this
    ·subst e;omega
    ·subst e;exact hm this)]
   exact h.old k hk hm
  cR:=fun p hp=>fH.cR (h.cR p hp)
  lS:=fun k l hk=>⟨by simpa [World.setRow] using (h.lS k l hk).1,(h.lS k l hk).2⟩
  plain:=h.plain }
theorem Rel.F7 {w0:World} {mu:Mu} {c:Cz} {st:St} {a:Act} {w:World} (h:Rel w0 mu c st a w) {s j:Nat} {s0:Sl} {A:fT} {b off cap:Nat} {cur cur':Array Value} {ty:TypeId}
  {md':Md} {ys:List (aw A.r)} (hs:nth st s=some s0) (hA:nth s0.aN j=some (some A)) (ec:A.own=true) (gH:c.lc s j=.at b off cap)
  (hg:w.heap[b]?=some (.cells cur ty (0,0))) (jJ:cur'.size=cur.size) (hlen:ys.length=A.xs.length)
  (dt:bh c (w.setRow b cur') (.sp s j) { A with xs:=ys,md:=md' } b off) :
  Rel w0 mu c (bj st s j (some { A with xs:=ys,md:=md' })) a (w.setRow b cur'):=by
 have h0:=h.aN s j s0 A hs hA;unfold bF at h0;rw [gH] at h0;obtain ⟨h1,h2,⟨abf,ty0,h3,h4⟩,h5⟩:=h0;rw [ec] at h1;have hc0:abf=cur:=by rw [hg] at h3;injection h3 with h3;injection h3 with h3;exact h3.symm
 subst hc0;have hn:∀k,nth (bj st s j (some { A with xs:=ys,md:=md' })) k=if k=s then some { s0 with aN:=lZ (fun _=>some { A with xs:=ys,md:=md' }) s0.aN j,ep:=s0.ep+1 } else nth st k:=by
  intro k;unfold bj;rw [dj]
  by_cases e:k=s
  ·subst e;simp [hs]
  ·simp [e]
 generalize bj st s j (some { A with xs:=ys,md:=md' })=aY at hn ⊢;have pz:=qw (w:=w) h1 cur';have nV:∀k,k≠b→(w.setRow b cur').heap[k]?=w.heap[k]?:=fun k hk=>setRow_other w _ k cur' hk
 have fH:Fw c st w c aY (w.setRow b cur'):={
  stays:=pz
  refs:=fun a' j' g A' _ ek=>by
   obtain ⟨sl,k1,k2,k3⟩:=ba ek;rw [hn] at k1
   by_cases e:a'=s
   ·subst e;simp only [if_true,Option.some.injEq] at k1;subst k1;simp only at k2 k3;rw [dj] at k3
    by_cases e2:j'=j
    ·subst e2;rw [if_pos rfl,hA] at k3;simp only [Option.map_some,Option.some.injEq] at k3;subst k3;refine ⟨A,?_,rfl,hlen,rfl,fun he => ?_⟩
     ·unfold aT;rw [hs];have:Nat.beq s0.ag g=true:=by rw [k2];exact Nat.beq_refl g
      simp [this,hA]
     ·unfold j5 at he;rw [hn,if_pos rfl,hs] at he;simp at he
    ·rw [if_neg e2] at k3;refine ⟨A',?_,rfl,rfl,rfl,fun he => ?_⟩
     ·unfold aT;rw [hs];have:Nat.beq s0.ag g=true:=by rw [k2];exact Nat.beq_refl g
      simp [this,k3]
     ·unfold j5 at he;rw [hn,if_pos rfl,hs] at he;simp at he
   ·rw [if_neg e] at k1;have F6:aT st a' j' g=some A':=by
     unfold aT;rw [k1];have:Nat.beq sl.ag g=true:=by rw [k2];exact Nat.beq_refl g
     simp [this,k3]
    refine ⟨A',F6,rfl,rfl,rfl,fun _=>⟨rfl,fun k o DM hl=>nV k ?_⟩⟩;have ha:=h.tC F6;unfold bF at ha;rw [hl] at ha
    rintro rfl
    obtain ⟨g1,_⟩:=ha;rw [h1] at g1
    cases ho:A'.own with
    |true=>simp [ho] at g1;exact e g1.1.symm
    |false=>simp [ho] at g1
  Bw:=fun b' g lQ _ mj=>by
   refine ⟨⟨lQ,?_⟩,rfl⟩;unfold cW at mj ⊢;rw [hn] at mj
   by_cases e:b'=s
   ·subst e;simpa [hs] using mj
   ·simpa [e] using mj
  gA:=fun a'=>by
   unfold cO;rw [hn]
   by_cases e:a'=s
   ·subst e;simp [hs]
   ·simp [e]
  gB:=fun a'=>by
   unfold fF;rw [hn]
   by_cases e:a'=s
   ·subst e;simp [hs]
   ·simp [e]
  gE:=fun a'=>by
   unfold j5;rw [hn]
   by_cases e:a'=s
   ·subst e;simp [hs]
   ·simp [e] }
 exact {
  dO:=fun t=>by
   have e1:bI aY t=bI st t:=by
    unfold bI;rw [hn]
    by_cases e:t=s
    ·subst e;simp [hs]
    ·simp [e]
   rw [e1];exact fH.j6 (h.dO t)
  boxes:=fun k sl lQ Ad mj=>by
   rw [hn] at Ad;have zV:tz c st w k lQ:=by
    by_cases e:k=s
    ·subst e;simp only [if_true,Option.some.injEq] at Ad;subst Ad;exact h.boxes k s0 lQ hs mj
    ·simp only [e,if_false] at Ad;exact h.boxes k sl lQ Ad mj
   refine zV.go fH rfl rfl (nV _ ?_);intro e;have:=zV.1;rw [e,h1] at this;simp at this
  aN:=fun k i sl B Ad hB=>by
   rw [hn] at Ad
   by_cases e:k=s∧i=j
   ·obtain ⟨rfl,rfl⟩:=e;simp only [if_true,Option.some.injEq] at Ad;subst Ad;simp only at hB;rw [dj,if_pos rfl,hA] at hB;simp only [Option.map_some,Option.some.injEq] at hB;subst hB;unfold bF;rw [gH];refine ⟨by rw [ec];exact h1,by simp only;rw [hlen];exact h2,⟨cur',ty,setRow_heap w b abf cur' ty (0,0) hg,by simp only;rw [jJ];exact h4⟩,dt⟩
   ·have ha:bF c w k i B:=by
     by_cases e2:k=s
     ·subst e2;simp only [if_true,Option.some.injEq] at Ad;subst Ad;simp only at hB;rw [dj,if_neg (fun e3=>e ⟨rfl,e3⟩)] at hB;exact h.aN k i s0 B hs hB
     ·rw [if_neg e2] at Ad;exact h.aN k i sl B Ad hB
    refine ha.go pz rfl (fun k' g1=>⟨nV k' ?_,rfl⟩)
    rintro rfl
    rw [h1] at g1;simp at g1;exact e ⟨g1.1.symm,g1.2.symm⟩
  owned:=fun k l hk=>by
   have:=h.owned k l hk;exact ⟨by simpa [World.setRow] using this.1,this.2⟩
  free:=h.free
  kept:=⟨h.kept.1,h.kept.2.1,h.kept.2.2.1,by simpa [World.setRow] using h.kept.2.2.2⟩
  old:=fun k hk hm=>by
   rw [nV k (fun e=>by
    have:=(h.owned _ _ h1).2;rcases this with this | this | this
    ·cases this
    ·subst e;omega
    ·subst e;exact hm this)]
   exact h.old k hk hm
  cR:=fun p hp=>fH.cR (h.cR p hp)
  lS:=fun k l hk=>⟨by simpa [World.setRow] using (h.lS k l hk).1,(h.lS k l hk).2⟩
  plain:=h.plain }
theorem Rel.rk {w0:World} {mu:Mu} {c:Cz} {st:St} {a:Act} {w:World} (h:Rel w0 mu c st a w) {s j:Nat} {s0:Sl} {A:fT} {b off cap:Nat} {cur cur':Array Value} {ty:TypeId}
  {ys:List (aw A.r)} (hs:nth st s=some s0) (hA:nth s0.aN j=some (some A)) (ec:A.own=true) (gH:c.lc s j=.at b off cap)
  (hg:w.heap[b]?=some (.cells cur ty (0,0))) (jJ:cur'.size=cur.size) (hlen:ys.length=A.xs.length)
  (dt:bh c (w.setRow b cur') (.sp s j) { A with xs:=ys } b off) :
  Rel w0 mu c (bj st s j (some { A with xs:=ys })) a (w.setRow b cur'):=h.F7 hs hA ec gH hg jJ hlen dt
end Go.TM
namespace Go.TM
open Go Go.RowKit
theorem Ae:(r:RT)→(x:aw r)→(k:Nat)→(y:CV)→{z:aw r}→ga r x k y=some z→k<r.width
 |.nil,_,_,_,_,h=>by simp [ga] at h
 |.cons t r,x,0,y,z,_=>by simp [RT.width]
 |.cons t r,x,k+1,y,z,h=>by
  have h':(ga r x.2 k y).map (fun z=>((x.1,z):aw (.cons t r)))=some z:=by cases t<;>(simp only [ga] at h;exact h)
  cases hq:ga r x.2 k y with
  |none=>rw [hq] at h';cases h'
  |some z'=>have:=Ae r x.2 k y hq;simp [RT.width];omega
theorem qy (r:RT) (x:aw r):(off:Nat)→(cs:List CV)→{z:aw r}→jQ r x off cs=some z→cs≠[]→off+cs.length≤r.width
 |_,[],_,_,h=>absurd rfl h
 |off,y::l,z,h,_=>by
  simp only [jQ] at h
  cases hq:jQ r x (off+1) l with
  |none=>simp [hq] at h
  |some y'=>
   simp only [hq] at h;have h1:=Ae r y' off y h
   cases l with
   |nil=>simp;omega
   |cons y2 l2=>have:=qy r x (off+1) (y2::l2) hq (by simp);simp at this ⊢;omega
theorem jR {vs us:List Value} {off k:Nat} (hle:off+us.length≤vs.length):(bA vs off us)[k]?=if off≤k∧k<off+us.length then us[k-off]? else vs[k]?:=by
 unfold bA;simp only [List.getElem?_append,List.length_append,List.length_take,List.getElem?_take,List.getElem?_drop];have a1:min off vs.length=off:=by omega
 rw [a1]
 by_cases h1:k<off
 ·rw [if_pos (by omega),if_pos h1,if_pos h1,if_neg (by omega)]
 ·by_cases h2:k<off+us.length
  ·rw [if_pos h2,if_neg h1,if_pos ⟨by omega,h2⟩]
  ·rw [if_neg h2,if_neg (by omega)]
   congr 1
   omega
theorem yI:(m:List (Nat×Nat))→{st:St}→{a j:Nat}→{sl:Sl}→{A:fT}→nth st a=some sl→nth sl.aN j=some (some A)→(a,j)∉m→
  ∃S1,nth (freeze st m) a=some S1∧nth S1.aN j=some (some A)
 | [],_,_,_,sl,_,h1,h2,_=>⟨sl,h1,h2⟩
 |(b,i)::m,st,a,j,sl,A,h1,h2,hm=>by
  rw [IK];obtain ⟨f,hf,hn⟩:=iK st b i a;refine yI m (sl:=f sl) (A:=A) (by rw [hn,h1];rfl) ?_ (fun h=>hm (by simp [h]));rw [(hf sl).2.2.2.2.1 j,if_neg]
  ·exact h2
  ·rintro ⟨rfl,rfl⟩;exact hm (by simp)
theorem Af {c:Cz} {w:World} {b off:Nat} {r:RT} {xs:List (aw r)} {cur:Array Value} {ty:TypeId} {l:Lb} (ec:c.own b=some l)
  (hg:w.heap[b]?=some (.cells cur ty (0,0))) (dt:∀(i:Nat) x,xs[i]?=some x→cI w c.ok r b (off+i*r.width) x)
  {i k:Nat} {x y:aw r} {us:List Value} (hx:xs[i]?=some x) (hle:k+us.length≤r.width) (jJ:off+i*r.width+r.width≤cur.size)
  (hy:∀vs,cK w c.ok r vs x→cK w c.ok r (bA vs k us) y) :
  ∀(i':Nat) x',(xs.set i y)[i']?=some x'→cI (w.setRow b (bA cur.toList (off+i*r.width+k) us).toArray) c.ok r b (off+i'*r.width) x':=by
 have pz:=qw (w:=w) ec (bA cur.toList (off+i*r.width+k) us).toArray;have MB:=setRow_heap w b cur (bA cur.toList (off+i*r.width+k) us).toArray ty (0,0) hg;have ql:∀q,(w.setRow b (bA cur.toList (off+i*r.width+k) us).toArray).cell? ⟨b,q,none⟩=
   if off+i*r.width+k≤q∧q<off+i*r.width+k+us.length then us[q-(off+i*r.width+k)]? else w.cell? ⟨b,q,none⟩:=by
  intro q;rw [cell_of_row _ b q _ ty (0,0) MB,cell_of_row w b q cur ty (0,0) hg];simp only [List.getElem?_toArray];rw [jR (by simp;omega)];simp
 intro i' x' py;rw [List.getElem?_set] at py
 by_cases e:i=i'
 ·subst e;rw [if_pos rfl] at py;have hi:i<xs.length:=(List.getElem?_eq_some_iff.1 hx).1;rw [if_pos hi] at py;obtain rfl:=Option.some.inj py;obtain ⟨vs,h1,h2⟩:=(j7 r b _ x).1 (dt i x hx);have wq:=cK.length r vs x h2;refine (j7 r b _ y).2 ⟨bA vs k us,fun q v hv => ?_,cK.stays pz r _ y (hy vs h2)⟩;rw [jR (by omega)] at hv;rw [ql]
  by_cases hq:k≤q∧q<k+us.length
  ·rw [if_pos hq] at hv;rw [if_pos (by omega),show off+i*r.width+q-(off+i*r.width+k)=q-k by omega];exact hv
  ·rw [if_neg hq] at hv;rw [if_neg (by omega)];exact h1 q v hv
 ·rw [if_neg e] at py;obtain ⟨vs,h1,h2⟩:=(j7 r b _ x').1 (dt i' x' py);have wq:=cK.length r vs x' h2;refine (j7 r b _ x').2 ⟨vs,fun q v hv => ?_,cK.stays pz r _ x' h2⟩;have hq:q<r.width:=by rw [←wq];exact (List.getElem?_eq_some_iff.1 hv).1
  rw [ql,if_neg]
  ·exact h1 q v hv
  ·rintro ⟨g1,g2⟩
   rcases Nat.lt_or_gt_of_ne e with h | h
   ·have:(i+1)*r.width≤i'*r.width:=Nat.mul_le_mul_right _ h;rw [Nat.add_mul] at this;omega
   ·have:(i'+1)*r.width≤i*r.width:=Nat.mul_le_mul_right _ h;rw [Nat.add_mul] at this;omega
theorem oJ {w:World} {b off:Nat} {r:RT} {xs:List (aw r)} {cur:Array Value} {ty:TypeId}
  (hg:w.heap[b]?=some (.cells cur ty (0,0))) {Q:Nat→List Value→aw r→Prop} (dt:∀(i:Nat) x,xs[i]?=some x→∃vs,w.rangeAt b (off+i*r.width) vs∧vs.length=r.width∧Q i vs x)
  {i k:Nat} {x y:aw r} {us:List Value} (hx:xs[i]?=some x) (hle:k+us.length≤r.width) (jJ:off+i*r.width+r.width≤cur.size)
  (hy:∀vs,vs.length=r.width→Q i vs x→Q i (bA vs k us) y) :
  ∀(i':Nat) x',(xs.set i y)[i']?=some x'→∃vs,(w.setRow b (bA cur.toList (off+i*r.width+k) us).toArray).rangeAt b (off+i'*r.width) vs∧Q i' vs x':=by
 have MB:=setRow_heap w b cur (bA cur.toList (off+i*r.width+k) us).toArray ty (0,0) hg;have ql:∀q,(w.setRow b (bA cur.toList (off+i*r.width+k) us).toArray).cell? ⟨b,q,none⟩=
   if off+i*r.width+k≤q∧q<off+i*r.width+k+us.length then us[q-(off+i*r.width+k)]? else w.cell? ⟨b,q,none⟩:=by
  intro q;rw [cell_of_row _ b q _ ty (0,0) MB,cell_of_row w b q cur ty (0,0) hg];simp only [List.getElem?_toArray];rw [jR (by simp;omega)];simp
 intro i' x' py;rw [List.getElem?_set] at py
 by_cases e:i=i'
 ·subst e;rw [if_pos rfl] at py;have hi:i<xs.length:=(List.getElem?_eq_some_iff.1 hx).1;rw [if_pos hi] at py;obtain rfl:=Option.some.inj py;obtain ⟨vs,h1,wq,h2⟩:=dt i x hx;refine ⟨bA vs k us,fun q v hv => ?_,hy vs wq h2⟩;rw [jR (by omega)] at hv;rw [ql]
  by_cases hq:k≤q∧q<k+us.length
  ·rw [if_pos hq] at hv;rw [if_pos (by omega),show off+i*r.width+q-(off+i*r.width+k)=q-k by omega];exact hv
  ·rw [if_neg hq] at hv;rw [if_neg (by omega)];exact h1 q v hv
 ·rw [if_neg e] at py;obtain ⟨vs,h1,wq,h2⟩:=dt i' x' py;refine ⟨vs,fun q v hv => ?_,h2⟩;have hq:q<r.width:=by rw [←wq];exact (List.getElem?_eq_some_iff.1 hv).1
  rw [ql,if_neg]
  ·exact h1 q v hv
  ·rintro ⟨g1,g2⟩
   rcases Nat.lt_or_gt_of_ne e with h | h
   ·have:(i+1)*r.width≤i'*r.width:=Nat.mul_le_mul_right _ h;rw [Nat.add_mul] at this;omega
   ·have:(i'+1)*r.width≤i*r.width:=Nat.mul_le_mul_right _ h;rw [Nat.add_mul] at this;omega
theorem Fx {w:World} {b off:Nat} {r:RT} {xs:List (aw r)} {cur:Array Value} {ty:TypeId}
  (hg:w.heap[b]?=some (.cells cur ty (0,0))) {Q:Nat→List Value→aw r→Prop} {i:Nat} (dt:∀(i':Nat) x,i'≠i→xs[i']?=some x→∃vs,w.rangeAt b (off+i'*r.width) vs∧vs.length=r.width∧Q i' vs x)
  {x y:aw r} {us:List Value} (hx:xs[i]?=some x) (hle:us.length=r.width) (jJ:off+i*r.width+r.width≤cur.size) (hy:Q i us y) :
  ∀(i':Nat) x',(xs.set i y)[i']?=some x'→∃vs,(w.setRow b (bA cur.toList (off+i*r.width+0) us).toArray).rangeAt b (off+i'*r.width) vs∧Q i' vs x':=by
 have MB:=setRow_heap w b cur (bA cur.toList (off+i*r.width+0) us).toArray ty (0,0) hg;have ql:∀q,(w.setRow b (bA cur.toList (off+i*r.width+0) us).toArray).cell? ⟨b,q,none⟩=
   if off+i*r.width≤q∧q<off+i*r.width+us.length then us[q-(off+i*r.width)]? else w.cell? ⟨b,q,none⟩:=by
  intro q;rw [cell_of_row _ b q _ ty (0,0) MB,cell_of_row w b q cur ty (0,0) hg];simp only [List.getElem?_toArray];rw [jR (by simp;omega)];simp
 intro i' x' py;rw [List.getElem?_set] at py
 by_cases e:i=i'
 ·subst e;rw [if_pos rfl] at py;have hi:i<xs.length:=(List.getElem?_eq_some_iff.1 hx).1;rw [if_pos hi] at py;obtain rfl:=Option.some.inj py;refine ⟨us,fun q v hv => ?_,hy⟩;have hq:q<us.length:=(List.getElem?_eq_some_iff.1 hv).1;rw [ql,if_pos (by omega),show off+i*r.width+q-(off+i*r.width)=q by omega];exact hv
 ·rw [if_neg e] at py;obtain ⟨vs,h1,wq,h2⟩:=dt i' x' (fun h=>e h.symm) py;refine ⟨vs,fun q v hv => ?_,h2⟩;have hq:q<r.width:=by rw [←wq];exact (List.getElem?_eq_some_iff.1 hv).1
  rw [ql,if_neg]
  ·exact h1 q v hv
  ·rintro ⟨g1,g2⟩
   rcases Nat.lt_or_gt_of_ne e with h | h
   ·have:(i+1)*r.width≤i'*r.width:=Nat.mul_le_mul_right _ h;rw [Nat.add_mul] at this;omega
   ·have:(i'+1)*r.width≤i*r.width:=Nat.mul_le_mul_right _ h;rw [Nat.add_mul] at this;omega
end Go.TM
namespace Go.TM
open Go Go.RowKit
def Z8 (w:World) (ok:Nat→Prop) (r:RT) (u:Value) (ys:List (aw r)):Prop:=
 (u=.slice none 0 0∧ys=[])∨∃a cap,u=.slice (some a) ys.length cap∧(ys≠[]→a.spot=none)∧∀(i:Nat) y,ys[i]?=some y→cI w ok r a.block (a.off+i*r.width) y
def bo (w:World) (ok:Nat→Prop) (r:RT):List Value→List (aw r)→Prop
 |vs,[]=>vs=[]
 |vs,x::xs=>∃l1 l2,vs=l1++l2∧cK w ok r l1 x∧bo w ok r l2 xs
theorem bo.length {w:World} {ok:Nat→Prop} {r:RT}:(vs:List Value)→(xs:List (aw r))→bo w ok r vs xs→vs.length=xs.length*r.width
 |vs,[],h=>by simp only [bo] at h;subst h;simp
 |vs,x::xs,h=>by
  obtain ⟨l1,l2,rfl,h1,h2⟩:=h;have a1:=cK.length r l1 x h1;have a2:=bo.length l2 xs h2;simp [a1,a2,Nat.add_mul];omega
theorem bo.stays {w w':World} {ok zZ:Nat→Prop} (h:ij w w' ok zZ) {r:RT}:(vs:List Value)→(xs:List (aw r))→bo w ok r vs xs→bo w' zZ r vs xs
 |_,[],hr=>hr
 |_,x::xs,⟨l1,l2,e,h1,h2⟩=>⟨l1,l2,e,cK.stays h r l1 x h1,bo.stays h l2 xs h2⟩
theorem bo.append {w:World} {ok:Nat→Prop} {r:RT}:(vs us:List Value)→(xs ys:List (aw r))→bo w ok r vs xs→bo w ok r us ys→bo w ok r (vs++us) (xs++ys)
 |vs,us,[],ys,h,k=>by simp only [bo] at h;subst h;simpa using k
 |vs,us,x::xs,ys,⟨l1,l2,e,h1,h2⟩,k=>⟨l1,l2++us,by rw [e,List.append_assoc],h1,bo.append l2 us xs ys h2 k⟩
theorem bo.one {w:World} {ok:Nat→Prop} {r:RT} {vs:List Value} {x:aw r} (h:cK w ok r vs x):bo w ok r vs [x]:=⟨vs,[],by simp,h,rfl⟩
theorem mL {w:World} {ok:Nat→Prop} {r:RT} (b:Nat):(off:Nat)→(xs:List (aw r))→(∀(i:Nat) x,xs[i]?=some x→cI w ok r b (off+i*r.width) x)→
  ∃vs,w.rangeAt b off vs∧bo w ok r vs xs
 |_,[],_=>⟨[],fun j v h=>by simp at h,rfl⟩
 |off,x::xs,h=>by
  obtain ⟨l1,h1,h2⟩:=(j7 r b off x).1 (by have:=h 0 x rfl;simpa using this);obtain ⟨l2,h3,h4⟩:=mL b (off+r.width) xs (fun i y hy=>by
   have:=h (i+1) y (by simpa using hy);rw [Nat.add_mul,Nat.one_mul] at this;rw [show off+r.width+i*r.width=off+(i*r.width+r.width) by omega];exact this)
  have hl:=cK.length r l1 x h2;refine ⟨l1++l2,fun j v hv => ?_,l1,l2,rfl,h2,h4⟩;rw [List.getElem?_append] at hv
  by_cases hj:j<l1.length
  ·rw [if_pos hj] at hv;exact h1 j v hv
  ·rw [if_neg hj] at hv;have:=h3 _ v hv;rw [show off+r.width+(j-l1.length)=off+j by omega] at this;exact this
theorem sG {w:World} {ok:Nat→Prop} {r:RT} {b:Nat}:(off:Nat)→(vs:List Value)→(xs:List (aw r))→bo w ok r vs xs→w.rangeAt b off vs→
  ∀(i:Nat) x,xs[i]?=some x→cI w ok r b (off+i*r.width) x
 |_,_,[],_,_,i,x,h=>by simp at h
 |off,vs,y::xs,⟨l1,l2,e,h1,h2⟩,hr,i,x,h=>by
  subst e;have hl:=cK.length r l1 y h1
  cases i with
  |zero=>
   simp at h;subst h;rw [j7];refine ⟨l1,fun j v hv => ?_,h1⟩;have hj:j<l1.length:=(List.getElem?_eq_some_iff.1 hv).1;have:=hr j v (by rw [List.getElem?_append,if_pos hj];exact hv);simpa using this
  |succ i=>
   have:=sG (off+r.width) l2 xs h2 (fun j v hv=>by
    have:=hr (l1.length+j) v (by rw [List.getElem?_append,if_neg (by omega)];simpa using hv);rw [show off+r.width+j=off+(l1.length+j) by omega];exact this) i x (by simpa using h)
   rw [Nat.add_mul,Nat.one_mul];rw [show off+(i*r.width+r.width)=off+r.width+i*r.width by omega];exact this
theorem bN.one {w:World} {ok:Nat→Prop} {t:Ty} {v:Value} {x:den t} (h:bN w ok t v x):v.oneCell'=true:=by
 cases t with
 |int k=>rw [rh.1 h];rfl
 |bool=>rw [sD.1 h];rfl
 |str=>rw [wC.1 h];rfl
 |sl r=>
  rcases (ni w ok r v x).1 h with ⟨rfl,_⟩ | ⟨a,cap,rfl,_⟩<;>rfl
theorem cK.one {w:World} {ok:Nat→Prop}:(r:RT)→(vs:List Value)→(x:aw r)→cK w ok r vs x→∀v∈vs,v.oneCell'=true
 |.nil,vs,_,h,v,hv=>by simp only [cK] at h;subst h;simp at hv
 |.cons t r,vs,x,⟨u,l,e,hx,hr⟩,v,hv=>by
  subst e;rcases List.mem_cons.1 hv with rfl | hv
  ·exact hx.one
  ·exact cK.one r l x.2 hr v hv
theorem bo.kG {w:World} {ok:Nat→Prop} {r:RT}:(vs:List Value)→(xs:List (aw r))→bo w ok r vs xs→∀v∈vs,v.oneCell'=true
 |vs,[],h,v,hv=>by simp only [bo] at h;subst h;simp at hv
 |vs,x::xs,⟨l1,l2,e,h1,h2⟩,v,hv=>by
  subst e;rcases List.mem_append.1 hv with hv | hv
  ·exact cK.one r l1 x h1 v hv
  ·exact bo.kG l2 xs h2 v hv
theorem CA {w0:World} {mu:Mu} {c:Cz} {st:St} {a:Act} {w:World} (h:Rel w0 mu c st a w) {r:RT} {x:CV} {u:Value} (hx:iI c st w x u)
  {k:List (aw r)→N} {aY:St} (hv:(l8 st r x k).val=some aY):∃ys,(k ys).val=some aY∧Z8 w c.ok r u ys:=by
 cases x with
 |shr r' xs=>
  simp only [l8] at hv
  cases hc:bw r xs with
  |none=>simp [hc,N.val] at hv
  |some ys=>
   simp only [hc] at hv;obtain ⟨rfl,rfl⟩:=bd hc;refine ⟨_,hv,?_⟩;rcases (ni _ _ _ _ _).1 hx with h1 | ⟨a',cap,h1,h2,h3,h4⟩
   ·exact .inl h1
   ·exact .inr ⟨a',cap,h1,fun eQ=>(h3 eQ).1,h4⟩
 |nn r' xs=>
  simp only [l8] at hv
  cases hc:bw r xs with
  |none=>simp [hc,N.val] at hv
  |some ys=>
   simp only [hc] at hv;obtain ⟨rfl,rfl⟩:=bd hc;refine ⟨_,hv,?_⟩;rcases (ni _ _ _ _ _).1 hx.1 with h1 | ⟨a',cap,h1,h2,h3,h4⟩
   ·exact .inl h1
   ·exact .inr ⟨a',cap,h1,fun eQ=>(h3 eQ).1,h4⟩
 |dN=>exact ⟨[],by simpa only [l8] using hv,.inl ⟨hx,rfl⟩⟩
 |ref a' j g vw=>
  simp only [l8] at hv
  cases hA:aT st a' j g with
  |none=>simp [hA,N.val] at hv
  |some A=>
   simp only [hA] at hv;have sF:A.md=.sh:=by
    cases hm:A.md with
    |sh=>rfl
    |dp=>rw [hm] at hv;simp [N.val] at hv
    |lz=>rw [hm] at hv;simp [N.val] at hv
    |ho _=>rw [hm] at hv;simp [N.val] at hv
   rw [sF] at hv;simp only at hv
   cases hc:bw r A.xs with
   |none=>simp [hc,N.val] at hv
   |some ys=>
    simp only [hc] at hv;obtain ⟨e,he⟩:=bd hc;subst e;simp only at he;subst he;obtain ⟨sl,yl,IJ,Bs⟩:=ba hA;have Fv:=h.aN a' j sl A yl Bs;refine ⟨vw.app A.xs,hv,?_⟩;clear hv;have hs:=hx.2.2 A hA
    cases hl:c.lc a' j with
    |nil=>
     unfold fm at hs;rw [hl] at hs;exact .inl ⟨hs.1,List.length_eq_zero_iff.1 hs.2⟩
    |«at» b off cap=>
     unfold fm at hs;rw [hl] at hs;obtain ⟨ad,k',rfl,hk,x5,ha⟩:=hs;unfold bF at Fv;rw [hl] at Fv;obtain ⟨_,_,_,h5⟩:=Fv;have eQ:vw.app A.xs≠[]→k'≠0:=by
      intro eQ;have:=List.length_pos_iff.2 eQ;omega
     refine .inr ⟨ad,k',rfl,fun h=>by rw [ha (eQ h)],fun i y hy => ?_⟩;have hk0:k'≠0:=eQ (by intro e;rw [e] at hy;simp at hy);rw [ha hk0];have:=(bh.sh sF).1 h5 _ y (View.uz vw A.xs hy);have e:off+vw.lo*A.r.width+i*A.r.width=off+(vw.lo+i)*A.r.width:=by rw [Nat.add_mul];omega
     show cI w c.ok A.r b (off+vw.lo*A.r.width+i*A.r.width) y;rw [e];exact this
 |_=>simp [l8,N.val] at hv
theorem Rel.place {w0:World} {mu:Mu} {c c':Cz} {st:St} {a:Act} {w w':World} (h:Rel w0 mu c st a w) {d B:Nat} {s0:Sl} {A:fT} {v:Value}
  (gn:nth st d=some s0) (hd:d<a.tmps.size)
  (zV:c'.bx=c.bx) (gH:∀s j,¬(s=d∧j=0)→c'.lc s j=c.lc s j) (ec:∀k,k≠B→c'.own k=c.own k)
  (hoB:c'.own B=some (.sp d 0)∨(c'.own B=c.own B∧w'.heap[B]?=w.heap[B]?))
  (hB:w.heap.size≤B∨∃s j,c.own B=some (.sp s j)∧(s=d∨∀sl A,nth st s=some sl→nth sl.aN j≠some (some A)))
  (hBn:c'.own B=some (.sp d 0)→B<w'.heap.size)
  (hw:∀k,k<w.heap.size→k≠B→w'.heap[k]?=w.heap[k]?) (rn:w'.os=w.os∧w'.tape=w.tape∧w'.output=w.output∧w.heap.size≤w'.heap.size)
  (hA:bF c' w' d 0 A) (yn:v.oneCell'=true) (hv:fm (c'.lc d 0) A.r.width 0 A.xs.length v) (P8:c'.rs=c.rs:=by rfl) :
  Rel w0 mu c' (lZ (fun s=>{ s with v:=.one (.ref d 0 (s0.ag+1) .full),aN:=[some A],ag:=s0.ag+1 }) st d) (a.put (some d) v) w':=by
 have hn:∀s,nth (lZ (fun s=>{ s with v:=.one (.ref d 0 (s0.ag+1) .full),aN:=[some A],ag:=s0.ag+1 }) st d) s=
   if s=d then some { s0 with v:=.one (.ref d 0 (s0.ag+1) .full),aN:=[some A],ag:=s0.ag+1 } else nth st s:=by
  intro s;rw [dj]
  by_cases e:s=d
  ·subst e;simp [gn]
  ·simp [e]
 generalize lZ (fun s=>{ s with v:=.one (.ref d 0 (s0.ag+1) .full),aN:=[some A],ag:=s0.ag+1 }) st d=aY at hn ⊢;have VZ:∀k,k<w.heap.size→c.ok k→k≠B:=by
  rintro k hk fk rfl
  rcases hB with hB | ⟨s,j,hB,_⟩
  ·omega
  ·unfold Cz.ok at fk;rw [hB] at fk;cases fk
 have pz:ij w w' c.ok c'.ok:=⟨rn.2.2.2,fun k hk fk=>hw k hk (VZ k hk fk),fun k hk fk=>by unfold Cz.ok;rw [ec k (VZ k hk fk)];exact fk⟩;have fH:Fw c st w c' aY w':={
  stays:=pz
  refs:=fun a' j g A' hg ek=>by
   by_cases e:a'=d
   ·subst e;obtain ⟨sl,k1,k2,k3⟩:=ba ek;rw [hn,if_pos rfl] at k1;obtain rfl:=Option.some.inj k1;simp only at k2;unfold cO at hg;rw [gn] at hg;simp only at hg;omega
   ·have F6:aT st a' j g=some A':=by
     unfold aT at ek ⊢;rw [hn,if_neg e] at ek;exact ek
    refine ⟨A',F6,rfl,rfl,gH a' j (fun h=>e h.1),fun _=>⟨rfl,fun k off cap hl => ?_⟩⟩;have ha:=h.tC F6;have bQ:=ha.lt hl;unfold bF at ha;rw [hl] at ha;obtain ⟨g1,_⟩:=ha;refine hw k bQ ?_
    rintro rfl
    rcases hB with hB | ⟨s',j',hB,Ds⟩
    ·omega
    ·rw [hB] at g1
     cases ho:A'.own with
     |true=>
      simp [ho] at g1;obtain ⟨rfl,rfl⟩:=g1;obtain ⟨sl,q1,_,q3⟩:=ba F6;rcases Ds with Ds | Ds
      ·exact e Ds
      ·exact Ds sl A' q1 q3
     |false=>simp [ho] at g1
  Bw:=fun b' g lQ _ mj=>by
   refine ⟨⟨lQ,?_⟩,by rw [zV]⟩;unfold cW at mj ⊢;rw [hn] at mj
   by_cases e:b'=d
   ·subst e;simpa [gn] using mj
   ·simpa [e] using mj
  gA:=fun a'=>by
   unfold cO;rw [hn]
   by_cases e:a'=d
   ·subst e;simp [gn]
   ·simp [e]
  gB:=fun a'=>by
   unfold fF;rw [hn]
   by_cases e:a'=d
   ·subst e;simp [gn]
   ·simp [e]
  gE:=fun a'=>by
   unfold j5;rw [hn]
   by_cases e:a'=d
   ·subst e;simp [gn]
   ·simp [e] }
 exact {
  dO:=fun t=>by
   have e1:bI aY t=if t=d then .one (.ref d 0 (s0.ag+1) .full) else bI st t:=by
    unfold bI;rw [hn]
    by_cases e:t=d<;>simp [e]
   rw [e1,eval_put]
   by_cases e:t=d
   ·subst e;simp only [if_true,true_and,hd];refine ⟨yn,?_,fun A' ek => ?_⟩
    ·unfold cO;rw [hn];simp
    ·obtain ⟨sl,k1,k2,k3⟩:=ba ek;rw [hn,if_pos rfl] at k1;obtain rfl:=Option.some.inj k1;simp [nth] at k3;subst k3;exact hv
   ·simp only [e,if_false];rw [if_neg (fun h=>e (Option.some.inj h.1).symm)];exact fH.j6 (h.dO t)
  boxes:=fun s sl lQ hs hb=>by
   rw [hn] at hs;have V1:tz c st w s lQ:=by
    by_cases e:s=d
    ·subst e;rw [if_pos rfl] at hs;obtain rfl:=Option.some.inj hs;exact h.boxes s s0 lQ gn hb
    ·rw [if_neg e] at hs;exact h.boxes s sl lQ hs hb
   have bQ:=h.kH V1.1;have eQ:c.bx s≠B:=by
    intro e;rcases hB with hB | ⟨s',j,hB,_⟩
    ·omega
    ·rw [←e,V1.1] at hB;cases hB
   exact V1.go fH (by rw [zV]) (ec _ eQ) (hw _ bQ eQ)
  aN:=fun s j sl A' hs ek=>by
   rw [hn] at hs
   by_cases e:s=d
   ·subst e;rw [if_pos rfl] at hs;obtain rfl:=Option.some.inj hs
    cases j with
    |zero=>simp [nth] at ek;subst ek;exact hA
    |succ j=>simp [nth] at ek
   ·rw [if_neg e] at hs;have ha:=h.aN s j sl A' hs ek;refine ha.go pz (gH s j (fun h=>e h.1)) (fun k g1 => ?_) (fun k _ _ hk=>by rw [P8];exact hk);have bQ:k<w.heap.size:=h.kH g1;have eQ:k≠B:=by
     rintro rfl
     rcases hB with hB | ⟨s',j',hB,Ds⟩
     ·omega
     ·rw [hB] at g1;simp at g1;obtain ⟨rfl,rfl⟩:=g1;rcases Ds with Ds | Ds
      ·exact e Ds
      ·exact Ds sl A' hs ek
    exact ⟨hw k bQ eQ,ec k eQ⟩
  owned:=fun b l hb=>by
   by_cases e:b=B
   ·subst e;rcases hoB with hoB | ⟨hoB,_⟩
    ·refine ⟨hBn hoB,?_⟩;rcases hB with hB | ⟨s',j',hB,_⟩
     ·exact .inr (.inl (Nat.le_trans h.kept.2.2.2 hB))
     ·rcases (h.owned _ _ hB).2 with h2 | h2
      ·cases h2
      ·exact .inr h2
    ·rw [hoB] at hb;have:=h.owned b l hb;exact ⟨Nat.lt_of_lt_of_le this.1 rn.2.2.2,this.2⟩
   ·rw [ec b e] at hb;have:=h.owned b l hb;exact ⟨Nat.lt_of_lt_of_le this.1 rn.2.2.2,this.2⟩
  free:=fun b hb h1=>by
   by_cases e:b=B
   ·subst e;rcases hB with hB | ⟨s',j',hB,_⟩
    ·have:=h.kept.2.2.2;omega
    ·rcases (h.owned _ _ hB).2 with h2 | h2 | h2
     ·cases h2
     ·omega
     ·exact .inl h2
   ·rw [ec b e] at h1;exact h.free b hb h1
  kept:=⟨rn.1.trans h.kept.1,rn.2.1.trans h.kept.2.1,rn.2.2.1.trans h.kept.2.2.1,Nat.le_trans h.kept.2.2.2 rn.2.2.2⟩
  old:=fun k hk hm=>by
   have ue:=Nat.lt_of_lt_of_le hk h.kept.2.2.2;rw [hw k ue (fun e => ?_)]
   ·exact h.old k hk hm
   ·subst e;rcases hB with hB | ⟨s',j',hB,_⟩
    ·omega
    ·rcases (h.owned _ _ hB).2 with h2 | h2 | h2
     ·cases h2
     ·omega
     ·exact hm h2
  cR:=fun p hp=>fH.cR (h.cR p hp)
  lS:=fun k l hk=>by
   rw [P8] at hk;exact ⟨Nat.lt_of_lt_of_le (h.lS k l hk).1 rn.2.2.2,(h.lS k l hk).2⟩
  plain:=h.plain }
end Go.TM
namespace Go.TM
open Go Go.RowKit
theorem Rel.V2 {w0:World} {mu:Mu} {c:Cz} {st:St} {a:Act} {w:World} (_h:Rel w0 mu c st a w) (s j:Nat):Fw c st w c (bj st s j none) w:=by
 have hn:∀k,∃f:Sl→Sl,(∀x,(f x).v=x.v∧(f x).box=x.box∧(f x).bg=x.bg∧(f x).ag=x.ag∧
   (∀i,nth (f x).aN i=if k=s∧i=j then (nth x.aN i).map (fun _=>none) else nth x.aN i)∧(f x).ep=if k=s then x.ep+1 else x.ep)∧nth (bj st s j none) k=(nth st k).map f:=by
  intro k;unfold bj
  by_cases e:k=s
  ·subst e;refine ⟨fun s=>{ s with aN:=lZ (fun _=>none) s.aN j,ep:=s.ep+1 },fun x=>⟨rfl,rfl,rfl,rfl,fun i => ?_,by simp⟩,gu _ _ _⟩;simp only [dj,true_and]
  ·refine ⟨id,fun x=>⟨rfl,rfl,rfl,rfl,fun i => ?_,by simp [e]⟩,by rw [k9 _ _ e];simp⟩;simp [e]
 generalize bj st s j none=aY at hn ⊢;exact {
  stays:=ij.refl w _
  refs:=fun a' j' g A' _ ek=>by
   obtain ⟨sl,k1,k2,k3⟩:=ba ek;obtain ⟨f,hf,hk⟩:=hn a';rw [hk] at k1
   cases hx:nth st a' with
   |none=>rw [hx] at k1;simp at k1
   |some x=>
    rw [hx] at k1;simp at k1;subst k1;rw [(hf x).2.2.2.2.1 j'] at k3;rw [(hf x).2.2.2.1] at k2;refine ⟨A',?_,rfl,rfl,rfl,fun _=>⟨rfl,fun _ _ _ _=>rfl⟩⟩
    by_cases e:a'=s∧j'=j
    ·rw [if_pos e] at k3
     cases hq:nth x.aN j'<;>simp [hq] at k3
    ·rw [if_neg e] at k3;unfold aT;rw [hx];have:Nat.beq x.ag g=true:=by rw [k2];exact Nat.beq_refl g
     simp [this,k3]
  Bw:=fun b g lQ _ hb=>by
   refine ⟨⟨lQ,?_⟩,rfl⟩;obtain ⟨f,hf,hk⟩:=hn b;unfold cW at hb ⊢;rw [hk] at hb
   cases hx:nth st b with
   |none=>rw [hx] at hb;simp at hb
   |some x=>rw [hx] at hb;simpa [(hf x).2.1,(hf x).2.2.1] using hb
  gA:=fun b=>by
   obtain ⟨f,hf,hk⟩:=hn b;unfold cO;rw [hk]
   cases hx:nth st b with
   |none=>simp
   |some x=>simp [(hf x).2.2.2.1]
  gB:=fun b=>by
   obtain ⟨f,hf,hk⟩:=hn b;unfold fF;rw [hk]
   cases hx:nth st b with
   |none=>simp
   |some x=>simp [(hf x).2.2.1]
  gE:=fun b=>by
   obtain ⟨f,hf,hk⟩:=hn b;unfold j5;rw [hk]
   cases hx:nth st b with
   |none=>simp
   |some x=>
    simp only [Option.map_some];rw [(hf x).2.2.2.2.2]
    split<;>omega }
theorem Rel.kill {w0:World} {mu:Mu} {c:Cz} {st:St} {a:Act} {w:World} (h:Rel w0 mu c st a w) (s j:Nat) :
  Rel w0 mu c (bj st s j none) a w∧∀sl A,nth (bj st s j none) s=some sl→nth sl.aN j≠some (some A):=by
 have hn:∀k,∃f:Sl→Sl,(∀x,(f x).v=x.v∧(f x).box=x.box∧(f x).bg=x.bg∧(f x).ag=x.ag∧
   (∀i,nth (f x).aN i=if k=s∧i=j then (nth x.aN i).map (fun _=>none) else nth x.aN i)∧(f x).ep=if k=s then x.ep+1 else x.ep)∧nth (bj st s j none) k=(nth st k).map f:=by
  intro k;unfold bj
  by_cases e:k=s
  ·subst e;refine ⟨fun s=>{ s with aN:=lZ (fun _=>none) s.aN j,ep:=s.ep+1 },fun x=>⟨rfl,rfl,rfl,rfl,fun i => ?_,by simp⟩,gu _ _ _⟩;simp only [dj,true_and]
  ·refine ⟨id,fun x=>⟨rfl,rfl,rfl,rfl,fun i => ?_,by simp [e]⟩,by rw [k9 _ _ e];simp⟩;simp [e]
 generalize bj st s j none=aY at hn ⊢;have fH:Fw c st w c aY w:={
  stays:=ij.refl w _
  refs:=fun a' j' g A' _ ek=>by
   obtain ⟨sl,k1,k2,k3⟩:=ba ek;obtain ⟨f,hf,hk⟩:=hn a';rw [hk] at k1
   cases hx:nth st a' with
   |none=>rw [hx] at k1;simp at k1
   |some x=>
    rw [hx] at k1;simp at k1;subst k1;rw [(hf x).2.2.2.2.1 j'] at k3;rw [(hf x).2.2.2.1] at k2;refine ⟨A',?_,rfl,rfl,rfl,fun _=>⟨rfl,fun _ _ _ _=>rfl⟩⟩
    by_cases e:a'=s∧j'=j
    ·rw [if_pos e] at k3
     cases hq:nth x.aN j'<;>simp [hq] at k3
    ·rw [if_neg e] at k3;unfold aT;rw [hx];have:Nat.beq x.ag g=true:=by rw [k2];exact Nat.beq_refl g
     simp [this,k3]
  Bw:=fun b g lQ _ hb=>by
   refine ⟨⟨lQ,?_⟩,rfl⟩;obtain ⟨f,hf,hk⟩:=hn b;unfold cW at hb ⊢;rw [hk] at hb
   cases hx:nth st b with
   |none=>rw [hx] at hb;simp at hb
   |some x=>rw [hx] at hb;simpa [(hf x).2.1,(hf x).2.2.1] using hb
  gA:=fun b=>by
   obtain ⟨f,hf,hk⟩:=hn b;unfold cO;rw [hk]
   cases hx:nth st b with
   |none=>simp
   |some x=>simp [(hf x).2.2.2.1]
  gB:=fun b=>by
   obtain ⟨f,hf,hk⟩:=hn b;unfold fF;rw [hk]
   cases hx:nth st b with
   |none=>simp
   |some x=>simp [(hf x).2.2.1]
  gE:=fun b=>by
   obtain ⟨f,hf,hk⟩:=hn b;unfold j5;rw [hk]
   cases hx:nth st b with
   |none=>simp
   |some x=>
    simp only [Option.map_some];rw [(hf x).2.2.2.2.2]
    split<;>omega }
 refine ⟨{
  dO:=fun t=>by
   obtain ⟨f,hf,hk⟩:=hn t;have:bI aY t=bI st t:=by
    unfold bI;rw [hk]
    cases hx:nth st t with
    |none=>rfl
    |some x=>exact (hf x).1
   rw [this];exact fH.j6 (h.dO t)
  boxes:=fun b sl cs hs hb=>by
   obtain ⟨f,hf,hk⟩:=hn b;rw [hk] at hs
   cases hx:nth st b with
   |none=>rw [hx] at hs;simp at hs
   |some x=>
    rw [hx] at hs;simp at hs;subst hs;rw [(hf x).2.1] at hb;exact (h.boxes b x cs hx hb).go fH rfl rfl rfl
  aN:=fun b i sl A hs hA=>by
   obtain ⟨f,hf,hk⟩:=hn b;rw [hk] at hs
   cases hx:nth st b with
   |none=>rw [hx] at hs;simp at hs
   |some x=>
    rw [hx] at hs;simp at hs;subst hs;rw [(hf x).2.2.2.2.1 i] at hA
    by_cases e:b=s∧i=j
    ·rw [if_pos e] at hA
     cases hq:nth x.aN i<;>simp [hq] at hA
    ·rw [if_neg e] at hA;exact h.aN b i x A hx hA
  owned:=h.owned
  free:=h.free
  kept:=h.kept
  old:=h.old
  cR:=fun p hp=>fH.cR (h.cR p hp)
  lS:=h.lS
  plain:=h.plain },fun sl A hs => ?_⟩
 obtain ⟨f,hf,hk⟩:=hn s;rw [hk] at hs
 cases hx:nth st s with
 |none=>rw [hx] at hs;simp at hs
 |some x=>
  rw [hx] at hs;simp at hs;subst hs;rw [(hf x).2.2.2.2.1 j,if_pos ⟨rfl,rfl⟩]
  cases nth x.aN j<;>simp
def Cz.aU (c:Cz) (d:Nat) (L:Loc) (B:Option Nat):Cz:=
 { bx:=c.bx,lc:=fun s j=>if s=d∧j=0 then L else c.lc s j,own:=fun k=>if B=some k then some (.sp d 0) else c.own k,rs:=c.rs }
theorem jM {st:St} {d:Option Nat} {A:fT} {aY:St} (h:(aU st d A).val=some aY) :
  ∃k s0,d=some k∧nth st k=some s0∧aY=lZ (fun s=>{ s with v:=.one (.ref k 0 (s0.ag+1) .full),aN:=[some A],ag:=s0.ag+1 }) st k:=by
 unfold aU at h
 cases d with
 |none=>simp [N.val] at h
 |some k=>
  cases hs:nth st k with
  |none=>simp [hs,N.val] at h
  |some s0=>
   simp only [hs,N.val,Option.some.injEq] at h;exact ⟨k,s0,rfl,hs,h.symm⟩
theorem CB {st:St} {d:Option Nat} {cs:List CV} {aY:St} (h:(iX st d cs).val=some aY) :
  ∃k s0,d=some k∧nth st k=some s0∧aY=lZ (fun s=>{ s with v:=.one (.ptr k (s0.bg+1) 0),box:=some cs,bg:=s0.bg+1 }) st k:=by
 unfold iX at h
 cases d with
 |none=>simp [N.val] at h
 |some k=>
  cases hs:nth st k with
  |none=>simp [hs,N.val] at h
  |some s0=>
   simp only [hs,N.val,Option.some.injEq] at h;exact ⟨k,s0,rfl,hs,h.symm⟩
theorem Rel.fresh {w0:World} {mu:Mu} {c:Cz} {st:St} {a:Act} {w:World} (h:Rel w0 mu c st a w) {d:Nat} {s0:Sl} {r:RT} {xs:List (aw r)} {cur:Array Value} {ty cap:Nat}
  (gn:nth st d=some s0) (hd:d<a.tmps.size) (hle:xs.length≤cap) (jJ:cap*r.width≤cur.size) {vs:List Value} (wF:bo w c.ok r vs xs) (KP:cur.toList.take vs.length=vs) :
  ∃c',Rel w0 mu c' (lZ (fun s=>{ s with v:=.one (.ref d 0 (s0.ag+1) .full),aN:=[some { r:=r,own:=true,xs:=xs }],ag:=s0.ag+1 }) st d)
   (a.put (some d) (.slice (some ⟨w.heap.size,0,none⟩) xs.length cap)) (w.alloc (.cells cur ty (0,0))):=by
 have tD:=heap_alloc_new w (.cells cur ty (0,0));refine ⟨c.aU d (.at w.heap.size 0 cap) (some w.heap.size),h.place (B:=w.heap.size) (A:={ r:=r,own:=true,xs:=xs }) gn hd rfl ?_ ?_ (.inl ?_) (.inl (Nat.le_refl _)) (fun _=>by simp) (fun k hk _=>heap_alloc_old w _ k hk)
  ⟨rfl,rfl,rfl,by simp⟩ ?_ rfl ?_⟩
 ·intro s j eQ;simp [Cz.aU,eQ]
 ·intro k hk;simp only [Cz.aU];rw [if_neg (by intro e;exact hk (Option.some.inj e).symm)]
 ·simp [Cz.aU]
 ·have pz:ij w (w.alloc (.cells cur ty (0,0))) c.ok (c.aU d (.at w.heap.size 0 cap) (some w.heap.size)).ok:=wE w _ _ _ (fun b hb fk=>by
   unfold Cz.ok Cz.aU;simp only;rw [if_neg (by intro e;have:=Option.some.inj e;omega)];exact fk)
  unfold bF;simp only [Cz.aU,and_self,if_true];refine ⟨trivial,hle,⟨cur,ty,tD,by simpa using jJ⟩,?_⟩;refine (bh.sh rfl).2 ?_;refine sG 0 vs xs (bo.stays pz vs xs wF) (fun j v hv => ?_);rw [cell_of_row _ _ _ cur ty (0,0) tD,Nat.zero_add];have hj:j<vs.length:=(List.getElem?_eq_some_iff.1 hv).1;rw [←KP,List.getElem?_take,if_pos hj] at hv;simpa using hv
 ·simp only [Cz.aU,and_self,if_true];exact ⟨_,cap,rfl,hle,by omega,fun _=>by simp⟩
theorem Fy {P:Program} {t ty e:TypeId} {i:TypeInfo} (ht:P.underlying t=some (.slice e)) (hi:P.info? e=some i) (w:World)
  (g o Ag Hu:Nat) (cur:Array Value) (te:TypeId) (hg:w.heap[g]?=some (.cells cur te (0,0)))
  (a:Addr) (m c:Nat) (news:List Value) (hl:news.length=m*i.size) (DS:∀j u,news[j]?=some u→w.cell? (a.add j)=some u) (h1:∀u∈news,u.oneCell'=true)
  (tE:Ag+m≤Hu) (pC:o+Ag*i.size+news.length≤cur.size) :
  (Builtin.append_ #[t,t] ty #[.slice (some ⟨g,o,none⟩) Ag Hu,.slice (some a) m c]).run P w=
   .ok (.slice (some ⟨g,o,none⟩) (Ag+m) Hu) (w.setRow g (bA cur.toList (o+Ag*i.size) news).toArray):=by
 have hf:=run_firstCells_some (P:=P) w i.size m a m c news hl DS;have pz:=run_storeCells_at P g (o+Ag*i.size) te news 0 cur w hg (by simpa using pC) h1;simp only [Nat.add_zero] at pz;simp [Builtin.append_,run_underlying ht,sizeOf,typeInfo,hi,Builtin.lenOf,tE,hf,Addr.add_mid,pz,bA]
theorem run_append_nothing {P:Program} {t ty e:TypeId} {i:TypeInfo} (ht:P.underlying t=some (.slice e)) (hi:P.info? e=some i) (w:World) (base:Option Addr) (Ag Hu:Nat) (hle:Ag≤Hu)
  (x:Value) (hx:(x=.slice none 0 0)∨∃a c,x=.slice (some a) 0 c) :
  (Builtin.append_ #[t,t] ty #[.slice base Ag Hu,x]).run P w=.ok (.slice base Ag Hu) w:=by
 rcases hx with rfl | ⟨a,c,rfl⟩
 ·cases base<;>simp [Builtin.append_,run_underlying ht,sizeOf,typeInfo,hi,Builtin.lenOf,Builtin.firstCells,hle,storeCells]
 ·cases base<;>simp [Builtin.append_,run_underlying ht,sizeOf,typeInfo,hi,Builtin.lenOf,Builtin.firstCells,hle,storeCells,loadCells,loadCellsFrom]
end Go.TM
namespace Go.TM
open Go Go.RowKit
def bW (w:World) (P:List Nat→Nat→Prop):(r:RT)→(p:List Nat)→(k:Nat)→List Value→aw r→Prop
 |.nil,_,_,vs,_=>vs=[]
 |.cons t r,p,k,vs,x=>∃v l,vs=v::l∧dG w P t (p++[k]) v x.1∧bW w P r p (k+1) l x.2
theorem bW.length {w:World} {P:List Nat→Nat→Prop}:(r:RT)→(p:List Nat)→(k:Nat)→(vs:List Value)→(x:aw r)→bW w P r p k vs x→vs.length=r.width
 |.nil,_,_,vs,_,h=>by simp only [bW] at h;subst h;rfl
 |.cons t r,p,k,vs,x,h=>by
  obtain ⟨v,l,rfl,_,h⟩:=h;simp [RT.width,bW.length r p (k+1) l x.2 h]
theorem gp {w:World} {P:List Nat→Nat→Prop}:(r:RT)→(p:List Nat)→(k b off:Nat)→(x:aw r)→(eZ w P r p k b off x↔∃vs,w.rangeAt b off vs∧bW w P r p k vs x)
 |.nil,_,_,_,_,_=>by
  unfold eZ;exact ⟨fun _=>⟨[],fun j v h=>by simp at h,rfl⟩,fun _=>trivial⟩
 |.cons t r,p,k,b,off,x=>by
  unfold eZ
  constructor
  ·rintro ⟨⟨v,hv,hx⟩,hr⟩
   obtain ⟨vs,h1,h2⟩:=(gp r p (k+1) b (off+1) x.2).1 hr;refine ⟨v::vs,fun j u hu => ?_,v,vs,rfl,hx,h2⟩
   cases j with
   |zero=>simp at hu;rw [←hu];exact hv
   |succ j=>
    simp at hu;rw [show off+(j+1)=off+1+j by omega];exact h1 j u hu
  ·rintro ⟨vs,h1,v,l,rfl,hx,h2⟩
   refine ⟨⟨v,h1 0 v rfl,hx⟩,(gp r p (k+1) b (off+1) x.2).2 ⟨l,fun j u hu => ?_,h2⟩⟩;have:=h1 (j+1) u (by simpa using hu);rw [show off+1+j=off+(j+1) by omega];exact this
theorem bW.go {w w':World} {P P':List Nat→Nat→Prop}:(r:RT)→(p p':List Nat)→(hP:∀q b,P (p++q) b→w'.heap[b]?=w.heap[b]?∧P' (p'++q) b)→(k:Nat)→(vs:List Value)→(x:aw r)→bW w P r p k vs x→bW w' P' r p' k vs x
 |.nil,_,_,_,_,_,_,h=>h
 |.cons t r,p,p',hP,k,vs,x,h=>by
  obtain ⟨v,l,e,h1,h2⟩:=h;refine ⟨v,l,e,dG.go t (p++[k]) (p'++[k]) (fun q b hb => ?_) v x.1 h1,bW.go r p p' hP (k+1) l x.2 h2⟩;have:=hP ([k]++q) b (by rw [←List.append_assoc];exact hb);rw [←List.append_assoc] at this;exact this
theorem DT {w:World} {P:List Nat→Nat→Prop} {c:Cz} {st:St} {w1:World}:(r:RT)→(p:List Nat)→(k0:Nat)→(x:aw r)→(k:Nat)→(y:CV)→(z:aw r)→(vs:List Value)→(u:Value)→
  ga r x k y=some z→iI c st w1 y u→bW w P r p k0 vs x→bW w P r p k0 (vs.set k u) z
 |.nil,_,_,_,_,_,_,_,_,h,_,_=>by simp [ga] at h
 |.cons t r,p,k0,x,0,y,z,vs,u,h,hu,hv=>by
  obtain ⟨v,l,rfl,hx,hr⟩:=hv
  cases t with
  |int k=>
   cases y<;>simp [ga] at h
   obtain ⟨rfl,h⟩:=h;obtain rfl:=Option.some.inj h;exact ⟨u,l,rfl,yG.2 hu,hr⟩
  |bool=>
   cases y<;>simp [ga] at h
   obtain rfl:=Option.some.inj h;exact ⟨u,l,rfl,ur.2 hu,hr⟩
  |str=>
   cases y<;>simp [ga] at h
   obtain rfl:=Option.some.inj h;exact ⟨u,l,rfl,yH.2 hu,hr⟩
  |sl q=>cases y<;>simp [ga] at h
 |.cons t r,p,k0,x,k+1,y,z,vs,u,h,hu,hv=>by
  obtain ⟨v,l,rfl,hx,hr⟩:=hv;have h':(ga r x.2 k y).map (fun z=>((x.1,z):aw (.cons t r)))=some z:=by cases t<;>(simp only [ga] at h;exact h)
  cases hq:ga r x.2 k y with
  |none=>simp [hq] at h'
  |some z'=>
   rw [hq] at h';obtain rfl:=Option.some.inj h';exact ⟨v,l.set k u,rfl,hx,DT r p (k0+1) x.2 k y z' l u hq hu hr⟩
theorem yJ {w:World} {P:List Nat→Nat→Prop} {c:Cz} {st:St} {w1:World} (r:RT) (p:List Nat) (k0:Nat) (x:aw r):(off:Nat)→(cs:List CV)→(z:aw r)→(vs us:List Value)→off+us.length≤vs.length→
  jQ r x off cs=some z→fo c st w1 cs us→bW w P r p k0 vs x→bW w P r p k0 (bA vs off us) z
 |off,[],z,vs,us,_,h,hl,hv=>by
  have:us=[]:=by have:=hl.1;simp at this;exact List.length_eq_zero_iff.1 this.symm
  subst this;simp [jQ] at h;subst h;simp [bA];exact hv
 |off,y::l,z,vs,us,hle,h,hl,hv=>by
  cases us with
  |nil=>have:=hl.1;simp at this
  |cons u us=>
   simp only [jQ] at h
   cases hq:jQ r x (off+1) l with
   |none=>simp [hq] at h
   |some y'=>
    simp only [hq] at h;simp at hle;have ih:=yJ r p k0 x (off+1) l y' vs us (by omega) hq ⟨by have:=hl.1;simpa using this,fun i a b ha hb=>hl.2 (i+1) a b (by simpa using ha) (by simpa using hb)⟩ hv;rw [Cx (by omega)];exact DT r p k0 y' off y z _ u h (hl.2 0 y u rfl rfl) ih
mutual
theorem bN.dep {w:World} {P:List Nat→Nat→Prop} {ok:Nat→Prop}:(t:Ty)→(p:List Nat)→(v:Value)→(x:den t)→RT.dM (.cons t .nil)=false→bN w ok t v x→dG w P t p v x
 |.int _,_,_,_,_,h=>yG.2 (rh.1 h)
 |.bool,_,_,_,_,h=>ur.2 (sD.1 h)
 |.str,_,_,_,_,h=>yH.2 (wC.1 h)
 |.sl _,_,_,_,hs,_=>by simp [RT.dM] at hs
theorem cI.dep {w:World} {P:List Nat→Nat→Prop} {ok:Nat→Prop}:(r:RT)→(p:List Nat)→(k b off:Nat)→(x:aw r)→r.dM=false→cI w ok r b off x→eZ w P r p k b off x
 |.nil,_,_,_,_,_,_,_=>by unfold eZ;trivial
 |.cons t r,p,k,b,off,x,hs,h=>by
  unfold cI at h;unfold eZ;obtain ⟨⟨v,h1,h2⟩,h3⟩:=h;refine ⟨⟨v,h1,bN.dep t _ v x.1 ?_ h2⟩,cI.dep r p (k+1) b (off+1) x.2 ?_ h3⟩
  ·cases t<;>simp_all [RT.dM]
  ·cases t<;>simp_all [RT.dM]
end
theorem eZ.IL {w:World} {P:List Nat→Nat→Prop} {ok:Nat→Prop}:(r:RT)→(p:List Nat)→(k b off:Nat)→(x:aw r)→r.dM=false→eZ w P r p k b off x→cI w ok r b off x
 |.nil,_,_,_,_,_,_,_=>by unfold cI;trivial
 |.cons t r,p,k,b,off,x,hs,h=>by
  unfold eZ at h;unfold cI;obtain ⟨⟨v,h1,h2⟩,h3⟩:=h;refine ⟨⟨v,h1,?_⟩,eZ.IL r p (k+1) b (off+1) x.2 (by cases t<;>simp_all [RT.dM]) h3⟩
  cases t with
  |int _=>exact rh.2 (yG.1 h2)
  |bool=>exact sD.2 (ur.1 h2)
  |str=>exact wC.2 (yH.1 h2)
  |sl _=>simp [RT.dM] at hs
theorem bh.P9 {c:Cz} {w:World} {l:Lb} {A:fT} {b off:Nat} (hm:A.md=.sh) {ys:List (aw A.r)} (h:∀(i:Nat) x,ys[i]?=some x→cI w c.ok A.r b (off+i*A.r.width) x):bh c w l { A with xs:=ys } b off:=by
 unfold bh;show match A.md with | .sh=>_ | .dp=>_ | .ho _=>_ | .lz=>_
 rw [hm];exact h
def RT.md (q:RT):Md:=bif q.dM then .dp else .sh
theorem S2 {c:Cz} {w:World} {s j:Nat} {A:fT} (h:bF c w s j A) (ho:A.own=true) (hm:A.md=A.r.md) {v:Value} (h1:v.oneCell'=true) (hv:fm (c.lc s j) A.r.width 0 A.xs.length v) :
  ∃g:Nat→List Nat,∀(P:List Nat→Nat→Prop) (p:List Nat),(∀k,c.own k=some (.sp s j)→P (p++g k) k)→dG w P (.sl A.r) p v A.xs:=by
 unfold bF at h
 cases hl:c.lc s j with
 |nil=>
  rw [hl] at h hv;exact ⟨fun _=>[],fun P p _=>(wD _ _ _ _ _ _).2 ⟨.nil,hv,h1,.inl ⟨rfl,h⟩⟩⟩
 |«at» b off cap=>
  rw [hl] at h hv;obtain ⟨h0,h2,h3,h4⟩:=h;rw [ho] at h0;unfold bh at h4;rw [hm] at h4;unfold RT.md at h4
  cases hs:A.r.dM with
  |false=>
   rw [hs] at h4;refine ⟨fun _=>[],fun P p hP=>(wD _ _ _ _ _ _).2 ⟨_,hv,h1,.inr ⟨b,off,cap,rfl,?_,h2,h3,fun i x hx=>cI.dep _ _ _ _ _ x hs (h4 i x hx)⟩⟩⟩;simpa using hP b h0
  |true=>
   rw [hs] at h4;obtain ⟨g,g1,g2⟩:=h4;refine ⟨g,fun P p hP=>(wD _ _ _ _ _ _).2 ⟨_,hv,h1,.inr ⟨b,off,cap,rfl,?_,h2,h3,fun i x hx=>eZ.go _ [i] (p++[i]) (fun q k hk=>⟨rfl,?_⟩) _ _ _ x rfl (g2 i x hx)⟩⟩⟩
   ·have:=hP b h0
    rwa [g1,List.append_nil] at this
   ·have:=hP k hk.1;rw [hk.2] at this
    rwa [List.append_assoc]
theorem Qa {c:Cz} {w:World} {s j:Nat} {A:fT} (h:bF c w s j A) (ho:A.own=true) (hm:A.md=A.r.md) :
  ∃g:Nat→List Nat,∀v:Value,v.oneCell'=true→fm (c.lc s j) A.r.width 0 A.xs.length v→∀(P:List Nat→Nat→Prop) (p:List Nat),(∀k,c.own k=some (.sp s j)→P (p++g k) k)→dG w P (.sl A.r) p v A.xs:=by
 by_cases e:∃v:Value,v.oneCell'=true∧fm (c.lc s j) A.r.width 0 A.xs.length v
 ·unfold bF at h
  cases hl:c.lc s j with
  |nil=>
   rw [hl] at h;exact ⟨fun _=>[],fun v h1 hv P p _=>(wD _ _ _ _ _ _).2 ⟨.nil,hv,h1,.inl ⟨rfl,h⟩⟩⟩
  |«at» b off cap=>
   rw [hl] at h;obtain ⟨h0,h2,h3,h4⟩:=h;rw [ho] at h0;unfold bh at h4;rw [hm] at h4;unfold RT.md at h4
   cases hs:A.r.dM with
   |false=>
    rw [hs] at h4;refine ⟨fun _=>[],fun v h1 hv P p hP=>(wD _ _ _ _ _ _).2 ⟨_,hv,h1,.inr ⟨b,off,cap,rfl,?_,h2,h3,fun i x hx=>cI.dep _ _ _ _ _ x hs (h4 i x hx)⟩⟩⟩;simpa using hP b h0
   |true=>
    rw [hs] at h4;obtain ⟨g,g1,g2⟩:=h4;refine ⟨g,fun v h1 hv P p hP=>(wD _ _ _ _ _ _).2 ⟨_,hv,h1,.inr ⟨b,off,cap,rfl,?_,h2,h3,fun i x hx=>eZ.go _ [i] (p++[i]) (fun q k hk=>⟨rfl,?_⟩) _ _ _ x rfl (g2 i x hx)⟩⟩⟩
    ·have:=hP b h0
     rwa [g1,List.append_nil] at this
    ·have:=hP k hk.1;rw [hk.2] at this
     rwa [List.append_assoc]
 ·exact ⟨fun _=>[],fun v h1 h2=>absurd ⟨v,h1,h2⟩ e⟩
theorem tF {w0:World} {mu:Mu} {c:Cz} {st:St} {a:Act} {w:World} (h:Rel w0 mu c st a w):(r:RT)→(cs:List CV)→(us:List Value)→fo c st w cs us→{x:aw r}→{m:List (Option (Nat×Nat))}→di st r cs=some (x,m)→
  m.length=r.width∧(∀(col:Nat) (n:Nat×Nat),m[col]?=some (some n)→∃g A,aT st n.1 n.2 g=some A∧A.own=true)∧
  ∃G:Nat→Nat→List Nat,∀(P:List Nat→Nat→Prop) (p:List Nat) (k0:Nat),(∀(col:Nat) (n:Nat×Nat) (k:Nat),m[col]?=some (some n)→c.own k=some (.sp n.1 n.2)→P (p++[k0+col]++G col k) k)→bW w P r p k0 us x
 |.nil,cs,us,hl,x,m,hv=>by
  cases cs with
  |cons _ _=>simp [di] at hv
  |nil=>
   have:us=[]:=by have:=hl.1;simp at this;exact List.length_eq_zero_iff.1 this.symm
   subst this;simp only [di,Option.some.injEq,Prod.mk.injEq] at hv;obtain ⟨_,rfl⟩:=hv;exact ⟨rfl,fun col n h=>by simp at h,fun _ _=>[],fun _ _ _ _=>rfl⟩
 |.cons t r,cs,us,hl,x,m,hv=>by
  cases cs with
  |nil=>cases t<;>simp [di] at hv
  |cons y cs=>
   cases us with
   |nil=>have:=hl.1;simp at this
   |cons u us=>
    have hu:iI c st w y u:=hl.2 0 y u rfl rfl;have uB:fo c st w cs us:=⟨by have:=hl.1;simpa using this,fun i a b ha hb=>hl.2 (i+1) a b (by simpa using ha) (by simpa using hb)⟩;have cell:∀(d:den t) (o:Option (Nat×Nat)) (z:aw r) (m':List (Option (Nat×Nat))),di st r cs=some (z,m')→(∀n,o=some n→∃g A,aT st n.1 n.2 g=some A∧A.own=true)→
      (∃g:Nat→List Nat,∀(P:List Nat→Nat→Prop) (p:List Nat),(∀n k,o=some n→c.own k=some (.sp n.1 n.2)→P (p++g k) k)→dG w P t p u d)→x=(d,z)→m=o::m'→
      m.length=(RT.cons t r).width∧(∀(col:Nat) (n:Nat×Nat),m[col]?=some (some n)→∃g A,aT st n.1 n.2 g=some A∧A.own=true)∧
      ∃G:Nat→Nat→List Nat,∀(P:List Nat→Nat→Prop) (p:List Nat) (k0:Nat),(∀(col:Nat) (n:Nat×Nat) (k:Nat),m[col]?=some (some n)→c.own k=some (.sp n.1 n.2)→P (p++[k0+col]++G col k) k)→bW w P (.cons t r) p k0 (u::us) x:=by
     intro d o z m' hz ho hd e1 e2;subst e1 e2;obtain ⟨g1,g2,G,g3⟩:=tF h r cs us uB hz;obtain ⟨g,hd⟩:=hd;refine ⟨by simp [RT.width,g1],fun col n hc => ?_,fun col=>match col with | 0=>g | col+1=>G col,fun P p k0 hP=>⟨u,us,rfl,hd P _ fun n k hn hk => ?_,g3 P p (k0+1) fun col n k hc hk => ?_⟩⟩
     ·cases col with
      |zero=>exact ho n (by simpa using hc)
      |succ col=>exact g2 col n (by simpa using hc)
     ·have:=hP 0 n k (by simp [hn]) hk;simpa using this
     ·have:=hP (col+1) n k (by simpa using hc) hk
      rwa [show k0+(col+1)=k0+1+col by omega] at this
    have plain:∀(d:den t),(∀(P:List Nat→Nat→Prop) (p:List Nat),dG w P t p u d)→(match di st r cs with | some p=>some ((d,p.1),none::p.2) | none=>(none:Option (aw (.cons t r)×List (Option (Nat×Nat)))))=some (x,m)→
      m.length=(RT.cons t r).width∧(∀(col:Nat) (n:Nat×Nat),m[col]?=some (some n)→∃g A,aT st n.1 n.2 g=some A∧A.own=true)∧
      ∃G:Nat→Nat→List Nat,∀(P:List Nat→Nat→Prop) (p:List Nat) (k0:Nat),(∀(col:Nat) (n:Nat×Nat) (k:Nat),m[col]?=some (some n)→c.own k=some (.sp n.1 n.2)→P (p++[k0+col]++G col k) k)→bW w P (.cons t r) p k0 (u::us) x:=by
     intro d hd hv
     cases hz:di st r cs with
     |none=>rw [hz] at hv;cases hv
     |some q=>
      rw [hz] at hv;have hv:=Option.some.inj hv;exact cell d none q.1 q.2 hz (fun n e=>by cases e) ⟨fun _=>[],fun P p _=>hd P p⟩ (congrArg Prod.fst hv).symm (congrArg Prod.snd hv).symm
    cases t with
    |int q=>
     cases y with
     |int l n=>
      simp only [di] at hv
      by_cases e:q=l
      ·rw [if_pos e] at hv;exact plain n (fun P p=>yG.2 (by rw [e];exact hu)) hv
      ·rw [if_neg e] at hv;cases hv
     |_=>simp [di] at hv
    |bool=>
     cases y with
     |bool b=>exact plain b (fun P p=>ur.2 hu) (by simp only [di] at hv;exact hv)
     |_=>simp [di] at hv
    |str=>
     cases y with
     |str s=>exact plain s (fun P p=>yH.2 hu) (by simp only [di] at hv;exact hv)
     |_=>simp [di] at hv
    |sl q=>
     cases y with
     |dN=>exact plain ([]:List (aw q)) (fun P p=>(wD _ _ _ _ _ _).2 ⟨.nil,⟨hu,rfl⟩,by rw [show u=.slice none 0 0 from hu];rfl,.inl ⟨rfl,rfl⟩⟩) (by simp only [di] at hv;exact hv)
     |ref a' j g vw=>
      cases vw with
      |full=>
       simp only [di] at hv
       cases hA:aT st a' j g with
       |none=>simp [hA] at hv
       |some A=>
        simp only [hA] at hv;obtain ⟨hc,nW⟩:=aI hv;clear hv;rw [Bool.and_eq_true] at hc;have hm:=Md.iW.1 hc.2
        cases l9:bw q A.xs with
        |none=>rw [l9] at nW;cases nW
        |some ys=>
         rw [l9] at nW;simp only at nW
         cases hz:di st r cs with
         |none=>rw [hz] at nW;cases nW
         |some qq=>
          rw [hz] at nW;have nW:=Option.some.inj nW;obtain ⟨e,he⟩:=bd l9;subst e;simp only at he;subst he;refine cell A.xs (some (a',j)) qq.1 qq.2 hz (fun n e=>by cases e;exact ⟨g,A,hA,hc.1⟩) ?_ (congrArg Prod.fst nW).symm (congrArg Prod.snd nW).symm;obtain ⟨gg,h2⟩:=S2 (h.tC hA) hc.1 hm hu.1 (hu.2.2 A hA);exact ⟨gg,fun P p hP=>h2 P p fun k hk=>hP (a',j) k rfl hk⟩
      |«from» _=>simp [di] at hv
      |sub _ _=>simp [di] at hv
     |_=>simp [di] at hv
theorem jS {w0:World} {mu:Mu} {c:Cz} {a:Act} {w:World}:(m:List (Nat×Nat))→{st:St}→Rel w0 mu c st a w→Rel w0 mu c (eB st m) a w∧(∀n∈m,∀sl A,nth (eB st m) n.1=some sl→nth sl.aN n.2≠some (some A))∧
  (∀s j sl A,(s,j)∉m→nth st s=some sl→nth sl.aN j=some (some A)→∃S1,nth (eB st m) s=some S1∧nth S1.aN j=some (some A))∧Fw c st w c (eB st m) w∧∀s j A,(∀sl,nth st s=some sl→nth sl.aN j≠some (some A))→∀sl,nth (eB st m) s=some sl→nth sl.aN j≠some (some A)
 | [],st,h=>⟨h,by simp,fun s j sl A _ h1 h2=>⟨sl,h1,h2⟩,Fw.refl c st w,fun s j A h=>h⟩
 |(s0,j0)::m,st,h=>by
  obtain ⟨k1,k2⟩:=h.kill s0 j0;obtain ⟨h1,h2,h3,h4,h5⟩:=jS m k1;have hn:∀k,∃f:Sl→Sl,(∀x,∀i,nth (f x).aN i=if k=s0∧i=j0 then (nth x.aN i).map (fun _=>none) else nth x.aN i)∧nth (bj st s0 j0 none) k=(nth st k).map f:=by
   intro k;unfold bj
   by_cases e:k=s0
   ·subst e;refine ⟨fun s=>{ s with aN:=lZ (fun _=>none) s.aN j0,ep:=s.ep+1 },fun x i => ?_,gu _ _ _⟩;simp only [dj,true_and]
   ·refine ⟨id,fun x i => ?_,by rw [k9 _ _ e];simp⟩;simp [e]
  have keep:∀s j A,(∀sl,nth st s=some sl→nth sl.aN j≠some (some A))→∀sl,nth (bj st s0 j0 none) s=some sl→nth sl.aN j≠some (some A):=by
   intro s j A hq sl hs;obtain ⟨f,hf,hk⟩:=hn s;rw [hk] at hs
   cases hx:nth st s with
   |none=>rw [hx] at hs;cases hs
   |some x=>
    rw [hx] at hs;simp at hs;subst hs;rw [hf]
    split
    ·cases nth x.aN j<;>simp
    ·exact hq x hx
  refine ⟨h1,fun n hm sl A hs => ?_,fun s j sl A hm hs hA => ?_,?_,fun s j A hq=>h5 s j A (keep s j A hq)⟩
  ·rcases List.mem_cons.1 hm with rfl | hm
   ·exact h5 s0 j0 A (fun sl hs=>k2 sl A hs) sl hs
   ·exact h2 n hm sl A hs
  ·obtain ⟨f,hf,hk⟩:=hn s;refine h3 s j (f sl) A (fun zW=>hm (List.mem_cons_of_mem _ zW)) (by rw [hk,hs];rfl) ?_;rw [hf,if_neg]
   ·exact hA
   ·rintro ⟨rfl,rfl⟩;exact hm List.mem_cons_self
  ·refine Fw.trans ?_ h4;exact (h.V2 s0 j0)
open Classical in
noncomputable def Cz.gX (c:Cz) (m:List (Nat×Nat)) (l:Lb):Cz:=
 { bx:=c.bx,lc:=c.lc,own:=fun k=>if ∃n∈m,c.own k=some (.sp n.1 n.2) then some l else c.own k,rs:=c.rs }
theorem Cz.ma {c:Cz} {m:List (Nat×Nat)} {l:Lb} {k:Nat} {n:Nat×Nat} (hm:n∈m) (h:c.own k=some (.sp n.1 n.2)):(c.gX m l).own k=some l:=by
 unfold Cz.gX;simp only;rw [if_pos ⟨n,hm,h⟩]
theorem Cz.mM {c:Cz} {m:List (Nat×Nat)} {l:Lb} {k:Nat} (h:∀n∈m,c.own k≠some (.sp n.1 n.2)):(c.gX m l).own k=c.own k:=by
 unfold Cz.gX;simp only;rw [if_neg];rintro ⟨n,hm,e⟩;exact h n hm e
theorem Cz.IM {c:Cz} {m:List (Nat×Nat)} {l:Lb} {k:Nat}:(c.gX m l).ok k↔c.ok k:=by
 unfold Cz.ok
 by_cases h:∃n∈m,c.own k=some (.sp n.1 n.2)
 ·obtain ⟨n,hm,e⟩:=h;rw [Cz.ma hm e,e];simp
 ·rw [Cz.mM (fun n hm e=>h ⟨n,hm,e⟩)]
theorem Fw.gX (c:Cz) (st:St) (w:World) (m:List (Nat×Nat)) (l:Lb):Fw c st w (c.gX m l) st w:=
 ⟨⟨Nat.le_refl _,fun _ _ _=>rfl,fun _ _ h=>Cz.IM.2 h⟩,fun _ _ _ A' _ h=>⟨A',h,rfl,rfl,rfl,fun _=>⟨rfl,fun _ _ _ _=>rfl⟩⟩,fun _ _ lQ _ h=>⟨⟨lQ,h⟩,rfl⟩,fun _=>Nat.le_refl _,fun _=>Nat.le_refl _,fun _=>Nat.le_refl _⟩
theorem Rel.gX {w0:World} {mu:Mu} {c:Cz} {st:St} {a:Act} {w:World} (h:Rel w0 mu c st a w) {m:List (Nat×Nat)} (hd:∀n∈m,∀sl A,nth st n.1=some sl→nth sl.aN n.2≠some (some A)) (s j:Nat):Rel w0 mu (c.gX m (.sp s j)) st a w where
 dO t:=(Fw.gX c st w m _).j6 (h.dO t)
 boxes b sl cs hs hb:=by
  have h0:=h.boxes b sl cs hs hb;exact h0.go (Fw.gX c st w m _) rfl (Cz.mM fun n _=>by rw [h0.1];simp) rfl
 aN b i sl A hs hA:=by
  have h0:=h.aN b i sl A hs hA;refine h0.go (Fw.gX c st w m _).stays rfl (fun k hk=>⟨rfl,Cz.mM fun n hn e => ?_⟩);rw [hk] at e;injection e with e;injection e with e1 e2;subst e1 e2;exact hd n hn sl A hs hA
 owned b l hb:=by
  by_cases e:∃n∈m,c.own b=some (.sp n.1 n.2)
  ·obtain ⟨n,hm,e⟩:=e;rw [Cz.ma hm e] at hb
   cases hb
   obtain ⟨h1,h2⟩:=h.owned b _ e;exact ⟨h1,.inr (h2.resolve_left (by simp))⟩
  ·rw [Cz.mM (fun n hm e'=>e ⟨n,hm,e'⟩)] at hb;exact h.owned b l hb
 free b hb h1:=h.free b hb (Cz.IM.1 h1)
 kept:=h.kept
 old:=h.old
 plain:=h.plain
 cR p hp:=(Fw.gX c st w m _).cR (h.cR p hp)
 lS:=h.lS
theorem jr:{m:List (Nat×Nat)}→distinct m=true→m.Nodup
 | [],_=>List.nodup_nil
 |x::l,h=>by
  simp only [distinct,Bool.and_eq_true,List.all_eq_true] at h;refine List.nodup_cons.2 ⟨fun hm => ?_,jr h.2⟩;have:=h.1 x hm;simp at this
theorem yK {n:Nat×Nat}:{m:List (Option (Nat×Nat))}→n∈bk m→∃col:Nat,m[col]?=some (some n)
 | [],h=>by simp [bk] at h
 |none::m,h=>by
  obtain ⟨col,hc⟩:=yK (m:=m) h;exact ⟨col+1,by simpa using hc⟩
 |some p::m,h=>by
  rcases List.mem_cons.1 h with rfl | h
  ·exact ⟨0,rfl⟩
  ·obtain ⟨col,hc⟩:=yK (m:=m) h;exact ⟨col+1,by simpa using hc⟩
theorem gh {n:Nat×Nat}:{m:List (Option (Nat×Nat))}→{col:Nat}→m[col]?=some (some n)→n∈bk m
 | [],_,h=>by simp at h
 |none::m,0,h=>by simp at h
 |none::m,col+1,h=>gh (m:=m) (col:=col) (by simpa using h)
 |some p::m,0,h=>by simp at h;subst h;exact List.mem_cons_self
 |some p::m,col+1,h=>List.mem_cons_of_mem _ (gh (m:=m) (col:=col) (by simpa using h))
theorem rp {n:Nat×Nat}:{m:List (Option (Nat×Nat))}→(bk m).Nodup→{a b:Nat}→m[a]?=some (some n)→m[b]?=some (some n)→a=b
 | [],_,a,_,h,_=>by simp at h
 |none::m,hn,a,b,h,h'=>by
  cases a with
  |zero=>simp at h
  |succ a=>cases b with
   |zero=>simp at h'
   |succ b=>exact congrArg (· + 1) (rp (m:=m) (a:=a) (b:=b) hn (by simpa using h) (by simpa using h'))
 |some p::m,hn,a,b,h,h'=>by
  have NI:=List.nodup_cons.1 hn
  cases a with
  |zero=>
   simp at h;subst h
   cases b with
   |zero=>rfl
   |succ b=>exact absurd (gh (m:=m) (col:=b) (by simpa using h')) NI.1
  |succ a=>
   cases b with
   |zero=>simp at h';subst h';exact absurd (gh (m:=m) (col:=a) (by simpa using h)) NI.1
   |succ b=>exact congrArg (· + 1) (rp (m:=m) (a:=a) (b:=b) NI.2 (by simpa using h) (by simpa using h'))
open Classical in
noncomputable def Cz.pD (c:Cz) (m:List (Nat×Nat)) (l:Lb):Cz:=
 { bx:=c.bx,lc:=c.lc,own:=c.own,rs:=fun k=>if ∃n∈m,c.own k=some (.sp n.1 n.2) then some l else c.rs k }
theorem Cz.MC {c:Cz} {m:List (Nat×Nat)} {l:Lb} {k:Nat} {n:Nat×Nat} (hm:n∈m) (h:c.own k=some (.sp n.1 n.2)):(c.pD m l).rs k=some l:=by
 unfold Cz.pD;simp only;rw [if_pos ⟨n,hm,h⟩]
theorem Cz.IN {c:Cz} {m:List (Nat×Nat)} {l:Lb} {k:Nat} (h:c.own k=none):(c.pD m l).rs k=c.rs k:=by
 unfold Cz.pD;simp only;rw [if_neg];rintro ⟨n,hm,e⟩;rw [h] at e;cases e
theorem Fw.pD (c:Cz) (st:St) (w:World) (m:List (Nat×Nat)) (l:Lb):Fw c st w (c.pD m l) st w:=
 ⟨⟨Nat.le_refl _,fun _ _ _=>rfl,fun _ _ h=>h⟩,fun _ _ _ A' _ h=>⟨A',h,rfl,rfl,rfl,fun _=>⟨rfl,fun _ _ _ _=>rfl⟩⟩,fun _ _ lQ _ h=>⟨⟨lQ,h⟩,rfl⟩,fun _=>Nat.le_refl _,fun _=>Nat.le_refl _,fun _=>Nat.le_refl _⟩
theorem Rel.pD {w0:World} {mu:Mu} {c:Cz} {st:St} {a:Act} {w:World} (h:Rel w0 mu c st a w) (m:List (Nat×Nat)) (l:Lb):Rel w0 mu (c.pD m l) st a w where
 dO t:=(Fw.pD c st w m _).j6 (h.dO t)
 boxes b sl cs hs hb:=(h.boxes b sl cs hs hb).go (Fw.pD c st w m _) rfl rfl rfl
 aN b i sl A hs hA:=(h.aN b i sl A hs hA).go (Fw.pD c st w m l).stays rfl (fun k hk=>⟨rfl,rfl⟩) (fun k hk _ hr=>by rw [Cz.IN hk];exact hr)
 owned:=h.owned
 free:=h.free
 kept:=h.kept
 old:=h.old
 plain:=h.plain
 cR p hp:=(Fw.pD c st w m _).cR (h.cR p hp)
 lS k l' hk:=by
  by_cases e:∃n∈m,c.own k=some (.sp n.1 n.2)
  ·obtain ⟨n,hn,e⟩:=e;obtain ⟨h1,h2⟩:=h.owned k _ e;exact ⟨h1,(h2.resolve_left (by simp)).imp id .inl⟩
  ·unfold Cz.pD at hk;simp only at hk;rw [if_neg e] at hk;exact h.lS k l' hk
theorem Cz.Dt:(m:List (Nat×Nat))→(c:Cz)→(c.drop m).rs=c.rs
 | [],_=>rfl
 |(a,j)::m,c=>(Cz.Dt m (c.drop1 a j)).trans rfl
theorem DU {c:Cz} {m:List (Option (Nat×Nat))} (hn:(bk m).Nodup) (G:Nat→Nat→List Nat) (g:Nat→List Nat) (p:List Nat) :
  ∃g':Nat→List Nat,(∀k,c.own k=none→g' k=g k)∧∀(col:Nat) (n:Nat×Nat) (k:Nat),m[col]?=some (some n)→c.own k=some (.sp n.1 n.2)→g' k=p++[col]++G col k:=by
 have key:∀k,∃q:List Nat,(c.own k=none→q=g k)∧∀(col:Nat) (n:Nat×Nat),m[col]?=some (some n)→c.own k=some (.sp n.1 n.2)→q=p++[col]++G col k:=by
  intro k
  by_cases e:∃(col:Nat) (n:Nat×Nat),m[col]?=some (some n)∧c.own k=some (.sp n.1 n.2)
  ·obtain ⟨col,n,e1,e2⟩:=e;refine ⟨p++[col]++G col k,fun h => ?_,fun abh n' h1 h2 => ?_⟩
   ·rw [e2] at h;cases h
   ·rw [e2] at h2;injection h2 with h2;injection h2 with q1 q2;have:n=n':=Prod.ext q1 q2;subst this;rw [rp hn h1 e1]
  ·exact ⟨g k,fun _=>rfl,fun col n h1 h2=>absurd ⟨col,n,h1,h2⟩ e⟩
 obtain ⟨g',h⟩:=Classical.axiomOfChoice key;exact ⟨g',fun k=>(h k).1,fun col n k=>(h k).2 col n⟩
theorem By {c:Cz} {m:List (Option (Nat×Nat))} (hn:(bk m).Nodup) (G:Nat→Nat→List Nat) (g:Nat→List Nat) (p:List Nat) (l:Lb) (hl:∀n∈bk m,l≠.sp n.1 n.2) :
  ∃g':Nat→List Nat,(∀k,c.own k=some l→g' k=g k)∧∀(col:Nat) (n:Nat×Nat) (k:Nat),m[col]?=some (some n)→c.own k=some (.sp n.1 n.2)→g' k=p++[col]++G col k:=by
 have key:∀k,∃q:List Nat,(c.own k=some l→q=g k)∧∀(col:Nat) (n:Nat×Nat),m[col]?=some (some n)→c.own k=some (.sp n.1 n.2)→q=p++[col]++G col k:=by
  intro k
  by_cases e:∃(col:Nat) (n:Nat×Nat),m[col]?=some (some n)∧c.own k=some (.sp n.1 n.2)
  ·obtain ⟨col,n,e1,e2⟩:=e;refine ⟨p++[col]++G col k,fun h => ?_,fun abh n' h1 h2 => ?_⟩
   ·rw [e2] at h;cases h;exact absurd rfl (hl n (gh e1))
   ·rw [e2] at h2;injection h2 with h2;injection h2 with q1 q2;have:n=n':=Prod.ext q1 q2;subst this;rw [rp hn h1 e1]
  ·exact ⟨g k,fun _=>rfl,fun col n h1 h2=>absurd ⟨col,n,h1,h2⟩ e⟩
 obtain ⟨g',h⟩:=Classical.axiomOfChoice key;exact ⟨g',fun k=>(h k).1,fun col n k=>(h k).2 col n⟩
theorem NJ {P:Program} {T:kK} (hT:fG P T) {w0:World} {mu:Mu} {c:Cz} {st:St} {a:Act} {w:World} (h:Rel w0 mu c st a w)
  {t:Nat} {x v:V} {ux uv:Value} (hx:eD c st w x ux) (hv:eD c st w v uv) {aY:St} (hs:(s9 T st t x v).val=some aY) :
  ∃w',(Instr.storeAt t ux uv).run P w=.ok () w'∧∃c',Rel w0 mu c' aY a w':=by
 cases hn:T.cells t with
 |none=>cases x with
  |one y=>cases y<;>simp [s9,hn,N.val] at hs
  |agg _=>simp [s9,N.val] at hs
  |m9 _=>simp [s9,N.val] at hs
 |some n=>cases x with
  |agg _=>simp [s9,N.val] at hs
  |m9 _=>simp [s9,N.val] at hs
  |one y=>cases y with
   |bad | int _ _ | bool _ | str _ | dN | KA | shr _ _ | nn _ _ | ref _ _ _ _ | lC _ _ _ | s8 _ _ _ | fn _ _ _ | Mv _ _ _ | KC _ _ _ _ _ _ _ _ | o8 _ _ _ _ _ _ _ _=>simp [s9,N.val] at hs
   |ptr b g off=>
    simp only [s9,hn] at hs
    cases hb:cW st b g with
    |none=>simp [hb,N.val] at hs
    |some cs=>
     simp only [hb] at hs;obtain ⟨hc,hs⟩:=cY hs;rw [Bool.and_eq_true] at hc
     cases hp:putCells cs off v.cells with
     |none=>simp [hp,N.val] at hs
     |some l=>
      simp only [hp,N.val,Option.some.injEq] at hs;subst hs;obtain ⟨hle,rfl⟩:=ym hp;obtain ⟨sl,yl,IJ,Bs⟩:=ir hb;obtain ⟨ho,vs,ty,hh,hl⟩:=h.boxes b sl cs yl Bs;obtain ⟨l9,yL⟩:=hv.cells hc.1;have hu:=hx.2.2 cs hb;subst hu;have hlen:uv.cells.toList.length=n:=by rw [←l9.1];exact Nat.eq_of_beq_eq_true hc.2
      have wq:=hl.1;have De:=l9.1;refine ⟨_,jL hT hn w (c.bx b) off uv hlen yL hh (by simp at wq ⊢;omega),c,?_⟩;refine h.P7 yl Bs hh ?_;simpa using hl.bA l9 off hle
   |Hg a' j g i off=>
    simp only [s9,hn] at hs
    cases hA:aT st a' j g with
    |none=>simp [hA,N.val] at hs
    |some A=>
     simp only [hA] at hs;obtain ⟨hc,hz⟩:=cY hs;clear hs;rw [Bool.and_eq_true,Bool.and_eq_true,Bool.and_eq_true] at hc;obtain ⟨⟨⟨agu,ec⟩,F8⟩,KQ⟩:=hc;have KQ:0<n:=by simp [Nat.blt] at KQ;omega
     obtain ⟨sl,yl,IJ,Bs⟩:=ba hA;have Fv:=h.aN a' j sl A yl Bs;obtain ⟨hi,b,o,cap,gH,hu⟩:=hx.2.2 A hA;have V3:=Fv;unfold bF at V3;rw [gH] at V3;obtain ⟨ho,x5,⟨cur,ty,hg,jJ⟩,dt⟩:=V3;rw [ec] at ho;obtain ⟨l9,yL⟩:=hv.cells agu;have hlen:uv.cells.toList.length=n:=by rw [←l9.1];exact Nat.eq_of_beq_eq_true F8
     have Df:o+i*A.r.width+A.r.width≤cur.size:=by
      have:(i+1)*A.r.width≤cap*A.r.width:=Nat.mul_le_mul_right _ (by omega);rw [Nat.add_mul] at this;omega
     subst hu
     cases hw:Nat.beq n A.r.width&&A.r.dM&&Nat.beq off 0 with
     |false=>
      rw [hw] at hz;simp only [cond_false] at hz
      cases hm:A.md with
      |ho _=>rw [hm] at hz;simp [N.val,Md.Ft] at hz
      |sh=>
       rw [hm] at hz;simp only [Md.Ft,cond_false] at hz;have dt:=(bh.sh hm).1 dt
       cases tc:A.xs[i]? with
       |none=>simp [tc,N.val] at hz
       |some x0=>
        simp only [tc] at hz;change (match jQ A.r x0 off v.cells with | some y=>N.done (bj st a' j (some (A.put (A.xs.set i y)))) | none=>N.fail).val=some aY at hz
        cases hp:jQ A.r x0 off v.cells with
        |none=>simp [hp,N.val] at hz
        |some y=>
         simp only [hp,N.val,Option.some.injEq] at hz;subst hz;have De:=l9.1;have Qb:off+uv.cells.toList.length≤A.r.width:=by
          rw [←De];exact qy A.r x0 off v.cells hp (by intro e;rw [e] at De;simp at De;simp at hlen;omega)
         refine ⟨_,jL hT hn w b (o+i*A.r.width+off) uv hlen yL hg (by omega),c,?_⟩;exact h.rk yl Bs ec gH hg (by rw [List.size_toArray,dX (by simp at Qb ⊢;omega)];simp) (by simp)
          (bh.P9 hm (Af ho hg dt tc Qb Df (fun vs wF=>DQ A.r x0 off v.cells y vs _ (by rw [cK.length A.r vs x0 wF];exact Qb) hp l9 wF)))
      |dp=>
       rw [hm] at hz;simp only [Md.Ft,cond_false] at hz;unfold bh at dt;rw [hm] at dt;obtain ⟨gg,Kv,dt⟩:=dt
       cases tc:A.xs[i]? with
       |none=>simp [tc,N.val] at hz
       |some x0=>
        simp only [tc] at hz;change (match jQ A.r x0 off v.cells with | some y=>N.done (bj st a' j (some (A.put (A.xs.set i y)))) | none=>N.fail).val=some aY at hz
        cases hp:jQ A.r x0 off v.cells with
        |none=>simp [hp,N.val] at hz
        |some y=>
         simp only [hp,N.val,Option.some.injEq] at hz;subst hz;have De:=l9.1;have Qb:off+uv.cells.toList.length≤A.r.width:=by
          rw [←De];exact qy A.r x0 off v.cells hp (by intro e;rw [e] at De;simp at De;simp at hlen;omega)
         refine ⟨_,jL hT hn w b (o+i*A.r.width+off) uv hlen yL hg (by omega),c,?_⟩;refine h.rk yl Bs ec gH hg (by rw [List.size_toArray,dX (by simp at Qb ⊢;omega)];simp) (by simp) ?_;unfold bh;show match A.md with | .sh=>_ | .dp=>_ | .ho _=>_ | .lz=>_
         rw [hm];refine ⟨gg,Kv,fun i' x' py => ?_⟩;obtain ⟨vs,q1,q2⟩:=oJ hg (Q:=fun i vs x=>bW w (fun p k=>c.own k=some (.sp a' j)∧gg k=p) A.r [i] 0 vs x) (fun i x hx=>by
          obtain ⟨vs,q1,q2⟩:=(gp _ _ _ _ _ _).1 (dt i x hx);exact ⟨vs,q1,bW.length _ _ _ _ _ q2,q2⟩) tc Qb Df (fun vs wq wF=>yJ A.r [i] 0 x0 off v.cells y vs _ (by rw [wq];exact Qb) hp l9 wF) i' x' py
         refine (gp _ _ _ _ _ _).2 ⟨vs,q1,bW.go _ [i'] [i'] (fun q k hk=>⟨setRow_other w b k _ ?_,hk⟩) 0 vs x' q2⟩
         rintro rfl
         rw [Kv] at hk;simp at hk
      |lz=>
       rw [hm] at hz;simp only [Md.Ft,cond_false] at hz;unfold bh at dt;rw [hm] at dt;obtain ⟨gg,dt⟩:=dt
       cases tc:A.xs[i]? with
       |none=>simp [tc,N.val] at hz
       |some x0=>
        simp only [tc] at hz;change (match jQ A.r x0 off v.cells with | some y=>N.done (bj st a' j (some (A.put (A.xs.set i y)))) | none=>N.fail).val=some aY at hz
        cases hp:jQ A.r x0 off v.cells with
        |none=>simp [hp,N.val] at hz
        |some y=>
         simp only [hp,N.val,Option.some.injEq] at hz;subst hz;have De:=l9.1;have Qb:off+uv.cells.toList.length≤A.r.width:=by
          rw [←De];exact qy A.r x0 off v.cells hp (by intro e;rw [e] at De;simp at De;simp at hlen;omega)
         refine ⟨_,jL hT hn w b (o+i*A.r.width+off) uv hlen yL hg (by omega),c,?_⟩;refine h.rk yl Bs ec gH hg (by rw [List.size_toArray,dX (by simp at Qb ⊢;omega)];simp) (by simp) ?_;unfold bh;show match A.md with | .sh=>_ | .dp=>_ | .ho _=>_ | .lz=>_
         rw [hm];refine ⟨gg,fun i' x' py => ?_⟩;obtain ⟨vs,q1,q2⟩:=oJ hg (Q:=fun i vs x=>bW w (fun p k=>c.Dd w (.sp a' j) k∧gg k=p) A.r [i] 0 vs x) (fun i x hx=>by
          obtain ⟨vs,q1,q2⟩:=(gp _ _ _ _ _ _).1 (dt i x hx);exact ⟨vs,q1,bW.length _ _ _ _ _ q2,q2⟩) tc Qb Df (fun vs wq wF=>yJ A.r [i] 0 x0 off v.cells y vs _ (by rw [wq];exact Qb) hp l9 wF) i' x' py
         refine (gp _ _ _ _ _ _).2 ⟨vs,q1,bW.go _ [i'] [i'] (fun q k hk=>⟨setRow_other w b k _ ?_,⟨hk.1.1,hk.1.2.1,by simpa [World.setRow] using hk.1.2.2⟩,hk.2⟩) 0 vs x' q2⟩
         rintro rfl
         have:=hk.1.1;rw [ho] at this
         cases this
     |true=>
      rw [hw] at hz;simp only [cond_true] at hz;rw [Bool.and_eq_true,Bool.and_eq_true] at hw;have hnW:=Nat.eq_of_beq_eq_true hw.1.1;have agv:=Nat.eq_of_beq_eq_true hw.2;subst agv;have Dg:uv.cells.toList.length=A.r.width:=by rw [hlen,hnW]
      have V4:∀vs:List Value,vs.length=A.r.width→bA vs 0 uv.cells.toList=uv.cells.toList:=by
       intro vs wq;unfold bA;rw [List.drop_eq_nil_of_le (by omega)];simp
      cases hm:A.md with
      |ho q0=>
       rw [hm] at hz;simp only at hz
       cases PJ:di st A.r v.cells with
       |none=>rw [PJ] at hz;simp [N.val] at hz
       |some pq=>
        obtain ⟨x1,m⟩:=pq;rw [PJ] at hz;simp only at hz;obtain ⟨NK,h1⟩:=cY hz;clear hz;rw [Bool.and_eq_true] at NK;have Hv:=jr NK.1;have KR:(a',j)∉bk m:=by
         intro x6;have:=List.all_eq_true.1 NK.2 _ x6;simp at this
        obtain ⟨hiq,V5⟩:Nat.beq i q0=true∧(N.row A.r A.xs[i]? (fun _=>N.done (bj (eB st (bk m)) a' j (some { A.put (A.xs.set i x1) with md:=.dp })))).val=some aY:=by
         cases hb:Nat.beq i q0 with
         |true=>rw [hb] at h1;exact ⟨rfl,h1⟩
         |false=>rw [hb] at h1;cases h1
        have hiq:=Nat.eq_of_beq_eq_true hiq;clear h1;have h1:=V5;clear V5;subst hiq
        cases tc:A.xs[i]? with
        |none=>simp [tc,N.val] at h1
        |some x0=>
         simp only [tc] at h1;change some _=some aY at h1;obtain rfl:=Option.some.inj h1;obtain ⟨SF,hmo,G,hG⟩:=tF h A.r v.cells _ l9 PJ;unfold bh at dt;rw [hm] at dt;obtain ⟨gg,Kv,dt⟩:=dt ec;obtain ⟨yo,nk,SG,_,_⟩:=jS (bk m) h;have hR:=yo.gX nk a' j;obtain ⟨S1,g1,g2⟩:=SG a' j sl A KR yl Bs;have Qc:∀n∈bk m,Lb.sp a' j≠.sp n.1 n.2:=by
          intro n hn e;injection e with e1 e2;exact KR (by rw [show (a',j)=n from Prod.ext e1 e2];exact hn)
         obtain ⟨g',p1,p2⟩:=By (c:=c) Hv G gg [i] (.sp a' j) Qc;have F9:∀k,c.own k=some (.sp a' j)→(c.gX (bk m) (.sp a' j)).own k=some (.sp a' j):=by
          intro k hk;rw [Cz.mM (fun n hn e=>by rw [hk] at e;exact Qc n hn (Option.some.inj e))];exact hk
         refine ⟨_,jL hT hn w b (o+i*A.r.width+0) uv hlen yL hg (by omega),c.gX (bk m) (.sp a' j),?_⟩;refine hR.F7 (A:=A) (ys:=A.xs.set i x1) (md':=.dp) g1 g2 ec gH hg (by rw [List.size_toArray,dX (by simp at Dg ⊢;omega)];simp) (by simp) ?_;unfold bh;show ∃g,_;refine ⟨g',by rw [p1 b ho];exact Kv,fun i' x' py => ?_⟩;have V6:∀q k,g' k=[i']++q→k≠b:=by
          rintro q k hk rfl
          rw [p1 k ho,Kv] at hk;simp at hk
         obtain ⟨vs,q1,q2⟩:=Fx hg (Q:=fun i vs x=>bW w (fun p k=>(c.gX (bk m) (.sp a' j)).own k=some (.sp a' j)∧g' k=p) A.r [i] 0 vs x) (fun i x eQ hx=>by
          obtain ⟨vs,q1,q2⟩:=(gp _ _ _ _ _ _).1 (dt i x eQ hx);exact ⟨vs,q1,bW.length _ _ _ _ _ q2,bW.go _ [i] [i] (fun q k hk=>⟨rfl,F9 k hk.1,by rw [p1 k hk.1];exact hk.2⟩) 0 vs x q2⟩) tc Dg Df (by
           refine hG _ [i] 0 fun col n k hc hk=>⟨Cz.ma (gh hc) hk,?_⟩
           rw [p2 col n k hc hk,Nat.zero_add]) i' x' py
         exact (gp _ _ _ _ _ _).2 ⟨vs,q1,bW.go _ [i'] [i'] (fun q k hk=>⟨setRow_other w b k _ (V6 q k hk.2),hk⟩) 0 vs x' q2⟩
      |sh=>
       rw [hm] at hz;simp only at hz;have dt:=(bh.sh hm).1 dt;obtain ⟨x1,m,h1,h2,h3⟩:=Ac h A.r v.cells _ l9 _ hz;obtain ⟨NK,h1⟩:=cY h1
       cases tc:A.xs[i]? with
       |none=>simp [tc,N.val] at h1
       |some x0=>
        simp only [tc] at h1;change some _=some aY at h1;obtain rfl:=Option.some.inj h1;have KR:(a',j)∉m:=by
         intro x6;have:=List.all_eq_true.1 NK _ x6;simp at this
        have hf:=h.freeze m;obtain ⟨S1,g1,g2⟩:=yI m yl Bs KR;have NL:(c.drop m).lc a' j=.at b o cap:=by rw [(Cz.Ht m c).1];exact gH
        have ho':(c.drop m).own b=some (.sp a' j):=Cz.Bx m c b ho (fun p hp=>by
         intro e;injection e with e1 e2;exact KR (by rw [e1,e2];exact hp))
        have Qd:∀(i:Nat) x,A.xs[i]?=some x→cI w (c.drop m).ok A.r b (o+i*A.r.width) x:=fun i x hx=>
         cI.stays (Fw.freeze w m c st).stays _ _ _ x rfl (dt i x hx)
        have KS:cK w (c.drop m).ok A.r uv.cells.toList x1:=h3 _ (fun k hk=>Cz.uA m c k hk) (fun p hp k hk=>Cz.xD m c k hk hp);refine ⟨_,jL hT hn w b (o+i*A.r.width+0) uv hlen yL hg (by omega),c.drop m,?_⟩;refine hf.rk g1 g2 ec NL hg (by rw [List.size_toArray,dX (by simp at Dg ⊢;omega)];simp) (by simp) (bh.P9 hm ?_);refine Af ho' hg Qd tc (k:=0) (by omega) Df (fun vs wF => ?_);rw [V4 vs (cK.length A.r vs x0 wF)];exact KS
      |lz=>
       rw [hm] at hz;simp only at hz
       cases PJ:di st A.r v.cells with
       |none=>rw [PJ] at hz;simp [N.val] at hz
       |some pq=>
        obtain ⟨x1,m⟩:=pq;rw [PJ] at hz;simp only at hz;obtain ⟨NK,h1⟩:=cY hz;clear hz;rw [Bool.and_eq_true] at NK;have Hv:=jr NK.1;have KR:(a',j)∉bk m:=by
         intro x6;have:=List.all_eq_true.1 NK.2 _ x6;simp at this
        cases tc:A.xs[i]? with
        |none=>simp [tc,N.val] at h1
        |some x0=>
         simp only [tc] at h1;change some _=some aY at h1;obtain rfl:=Option.some.inj h1;obtain ⟨SF,hmo,G,hG⟩:=tF h A.r v.cells _ l9 PJ;unfold bh at dt;rw [hm] at dt;obtain ⟨gg,dt⟩:=dt;have hR:=(h.pD (bk m) (.sp a' j)).freeze (bk m);obtain ⟨S1,g1,g2⟩:=yI (bk m) yl Bs KR;have NM:∀k,(((c.pD (bk m) (.sp a' j)).drop (bk m)).rs) k=(c.pD (bk m) (.sp a' j)).rs k:=fun k=>by rw [Cz.Dt]
         have NL:((c.pD (bk m) (.sp a' j)).drop (bk m)).lc a' j=.at b o cap:=by rw [(Cz.Ht _ _).1];exact gH
         have ho':((c.pD (bk m) (.sp a' j)).drop (bk m)).own b=some (.sp a' j):=Cz.Bx _ _ b ho (fun p hp=>by
          intro e;injection e with e1 e2;exact KR (by rw [e1,e2];exact hp))
         obtain ⟨g',p1,p2⟩:=DU (c:=c) Hv G gg [i];generalize hcc:(c.pD (bk m) (.sp a' j)).drop (bk m)=c2 at hR NM NL ho' ;have hold:∀k,c.Dd w (.sp a' j) k→c2.Dd w (.sp a' j) k:=fun k hk=>⟨by rw [←hcc];exact Cz.uA _ _ k hk.1,by rw [NM,Cz.IN hk.1];exact hk.2.1,hk.2.2⟩
         refine ⟨_,jL hT hn w b (o+i*A.r.width+0) uv hlen yL hg (by omega),c2,?_⟩;refine hR.rk g1 g2 ec NL hg (by rw [List.size_toArray,dX (by simp at Dg ⊢;omega)];simp) (by simp) ?_;unfold bh;show match A.md with | .sh=>_ | .dp=>_ | .ho _=>_ | .lz=>_
         rw [hm];refine ⟨g',fun i' x' py => ?_⟩;obtain ⟨vs,q1,q2⟩:=oJ hg (Q:=fun i vs x=>bW w (fun p k=>c2.Dd w (.sp a' j) k∧g' k=p) A.r [i] 0 vs x) (fun i x hx=>by
          obtain ⟨vs,q1,q2⟩:=(gp _ _ _ _ _ _).1 (dt i x hx);exact ⟨vs,q1,bW.length _ _ _ _ _ q2,bW.go _ [i] [i] (fun q k hk=>⟨rfl,hold k hk.1,by rw [p1 k hk.1.1];exact hk.2⟩) 0 vs x q2⟩) tc (k:=0) (us:=uv.cells.toList) (by omega) Df (fun vs wq _=>by
           rw [V4 vs wq];refine hG _ [i] 0 fun col n k hc hk=>⟨⟨by rw [←hcc];exact Cz.xD (bk m) (c.pD (bk m) (.sp a' j)) k hk (gh hc),by rw [NM];exact Cz.MC (gh hc) hk,h.kH hk⟩,?_⟩
           rw [p2 col n k hc hk,Nat.zero_add]) i' x' py
         exact (gp _ _ _ _ _ _).2 ⟨vs,q1,bW.go _ [i'] [i'] (fun q k hk=>⟨setRow_other w b k _ (by
          rintro rfl
          have:=hk.1.1;rw [ho'] at this
          cases this),⟨hk.1.1,hk.1.2.1,by simpa [World.setRow] using hk.1.2.2⟩,hk.2⟩) 0 vs x' q2⟩
      |dp=>
       rw [hm] at hz;simp only at hz
       cases PJ:di st A.r v.cells with
       |none=>rw [PJ] at hz;simp [N.val] at hz
       |some pq=>
        obtain ⟨x1,m⟩:=pq;rw [PJ] at hz;simp only at hz;obtain ⟨NK,h1⟩:=cY hz;clear hz;rw [Bool.and_eq_true] at NK;have Hv:=jr NK.1;have KR:(a',j)∉bk m:=by
         intro x6;have:=List.all_eq_true.1 NK.2 _ x6;simp at this
        cases tc:A.xs[i]? with
        |none=>simp [tc,N.val] at h1
        |some x0=>
         simp only [tc] at h1;change some _=some aY at h1;obtain rfl:=Option.some.inj h1;obtain ⟨SF,hmo,G,hG⟩:=tF h A.r v.cells _ l9 PJ;unfold bh at dt;rw [hm] at dt;obtain ⟨gg,Kv,dt⟩:=dt;obtain ⟨yo,nk,SG,_,_⟩:=jS (bk m) h;have hR:=yo.gX nk a' j;obtain ⟨S1,g1,g2⟩:=SG a' j sl A KR yl Bs;have Qc:∀n∈bk m,Lb.sp a' j≠.sp n.1 n.2:=by
          intro n hn e;injection e with e1 e2;exact KR (by rw [show (a',j)=n from Prod.ext e1 e2];exact hn)
         obtain ⟨g',p1,p2⟩:=By (c:=c) Hv G gg [i] (.sp a' j) Qc;have F9:∀k,c.own k=some (.sp a' j)→(c.gX (bk m) (.sp a' j)).own k=some (.sp a' j):=by
          intro k hk;rw [Cz.mM (fun n hn e=>by rw [hk] at e;exact Qc n hn (Option.some.inj e))];exact hk
         refine ⟨_,jL hT hn w b (o+i*A.r.width+0) uv hlen yL hg (by omega),c.gX (bk m) (.sp a' j),?_⟩;refine hR.rk g1 g2 ec gH hg (by rw [List.size_toArray,dX (by simp at Dg ⊢;omega)];simp) (by simp) ?_;unfold bh;show match A.md with | .sh=>_ | .dp=>_ | .ho _=>_ | .lz=>_
         rw [hm];refine ⟨g',by rw [p1 b ho];exact Kv,fun i' x' py => ?_⟩;have V6:∀q k,g' k=[i']++q→k≠b:=by
          rintro q k hk rfl
          rw [p1 k ho,Kv] at hk;simp at hk
         obtain ⟨vs,q1,q2⟩:=oJ hg (Q:=fun i vs x=>bW w (fun p k=>(c.gX (bk m) (.sp a' j)).own k=some (.sp a' j)∧g' k=p) A.r [i] 0 vs x) (fun i x hx=>by
          obtain ⟨vs,q1,q2⟩:=(gp _ _ _ _ _ _).1 (dt i x hx);exact ⟨vs,q1,bW.length _ _ _ _ _ q2,bW.go _ [i] [i] (fun q k hk=>⟨rfl,F9 k hk.1,by rw [p1 k hk.1];exact hk.2⟩) 0 vs x q2⟩) tc (k:=0) (us:=uv.cells.toList) (by omega) Df (fun vs wq _=>by
           rw [V4 vs wq];refine hG _ [i] 0 fun col n k hc hk=>⟨Cz.ma (gh hc) hk,?_⟩
           rw [p2 col n k hc hk,Nat.zero_add]) i' x' py
         exact (gp _ _ _ _ _ _).2 ⟨vs,q1,bW.go _ [i'] [i'] (fun q k hk=>⟨setRow_other w b k _ (V6 q k hk.2),hk⟩) 0 vs x' q2⟩
end Go.TM
