/- A machine over trees: an evaluator of the code, and that what it finds is so; part 1. -/
import GoSem.Core.Value
import GoSem.Core.Code
import GoSem.Core.Program
import GoSem.Core.View
import Derived.Below
import Derived.Laws.AppendOwn
import Derived.Laws.Cells
import Derived.Laws.Rows
import Derived.Deep.MidRow
import Derived.Laws.CopyRow
set_option linter.unusedSimpArgs false
set_option linter.unusedVariables false
namespace Go.TM
open Go
mutual
inductive Ty where
 |int (k:IntKind)
 |bool
 |str
 |sl (r:RT)
inductive RT where
 |nil
 |cons (t:Ty) (r:RT)
end
mutual
def den:Ty→Type
 |.int _=>Int
 |.bool=>Bool
 |.str=>ByteArray
 |.sl r=>List (ar r)
def ar:RT→Type
 |.nil=>Unit
 |.cons t r=>den t×ar r
end
mutual
def Ty.eq?:(a b:Ty)→Option (PLift (a=b))
 |.int k,.int l=>if h:k=l then some ⟨by rw [h]⟩ else none
 |.bool,.bool=>some ⟨rfl⟩
 |.str,.str=>some ⟨rfl⟩
 |.sl r,.sl s=>match RT.eq? r s with | some ⟨h⟩=>some ⟨by rw [h]⟩ | none=>none
 |_,_=>none
def RT.eq?:(a b:RT)→Option (PLift (a=b))
 |.nil,.nil=>some ⟨rfl⟩
 |.cons t r,.cons u s=>match Ty.eq? t u,RT.eq? r s with
  |some ⟨h⟩,some ⟨g⟩=>some ⟨by rw [h,g]⟩
  |_,_=>none
 |_,_=>none
end
def cn {r:RT} (s:RT) (xs:List (ar r)):Option (List (ar s)):=
 match RT.eq? r s with
 |some ⟨h⟩=>some (h▸xs)
 |none=>none
def RT.dS:RT→Bool
 |.nil=>false
 |.cons (.sl _) _=>true
 |.cons _ r=>r.dS
def RT.width:RT→Nat
 |.nil=>0
 |.cons _ r=>r.width+1
inductive View where
 |full
 |from (lo:Nat)
 |sub (lo n:Nat)
def View.app {α:Type}:View→List α→List α
 |.full,xs=>xs
 |.from lo,xs=>xs.drop lo
 |.sub lo n,xs=>(xs.drop lo).take n
def View.lo:View→Nat
 |.full=>0
 |.from l=>l
 |.sub l _=>l
def View.idx (w:View) (i:Nat):Nat:=
 match w with
 |.full=>i
 |.from l=>l+i
 |.sub l _=>l+i
inductive CV where
 |bad
 |int (k:IntKind) (n:Int)
 |bool (b:Bool)
 |str (s:ByteArray)
 |dY
 |HH
 |shr (r:RT) (xs:List (ar r))
 |nn (r:RT) (xs:List (ar r))  -- as 'aie,and not nil
 |ref (a j g:Nat) (w:View)
 |ptr (b g off:Nat)
 |FL (a j g i off:Nat)
 |me (r:RT) (x:ar r) (off:Nat)
 |su (r:RT) (xs:List (ar r)) (off:Nat)  -- as 'aif,Hy row agq Hy first of a list
 |fn (g:Nat) (rs:RT) (xs:List (ar rs))    -- a function with boxes Kw UO read alone: each cell of Hy row is one agr rows
 |HI (a j g e i k:Nat) (q:RT) (ys:List (ar q))  -- Hy same rows as aih a ace,to be read alone
 |pI (a j g e i k:Nat) (q:RT) (ys:List (ar q))  -- Hy slice Kw a cell of a deep PG row holds
inductive Lb where
 |box (s:Nat)
 |sp (s j:Nat)
 |out
 |cH (i j:Nat)
 |rV (i:Nat)
 |gO (j:Nat)
def Lb.same:Lb→Lb→Bool
 |.box s,.box t=>Nat.beq s t
 |.sp s i,.sp t j=>Nat.beq s t&&Nat.beq i j
 |_,_=>false
inductive V where
 |one (c:CV)
 |agg (cs:List CV)
 |nC (vs:List V)
def V.cells:V→List CV
 |.one c=>[c]
 |.agg cs=>cs
 |.nC _=>[]
inductive Md where
 |sh | dp | ho (i:Nat) | lz
 deriving DecidableEq
def Md.is:Md→Md→Bool
 |.sh,.sh=>true
 |.dp,.dp=>true
 |.lz,.lz=>true
 |.ho i,.ho j=>Nat.beq i j
 |_,_=>false
theorem Md.j1 {a b:Md}:Md.is a b=true↔a=b:=by
 cases a<;>cases b<;>simp [Md.is]
def Md.C7:Md→Bool
 |.ho _=>true
 |_=>false
structure gM where
 r:RT
 own:Bool
 xs:List (ar r)
 md:Md:=.sh
structure Sl where
 v:V
 box:Option (List CV)
 bg:Nat
 aK:List (Option gM)
 ag:Nat
 ep:Nat:=0  -- it V5 when an array of Hy slot is written,or a call is made
def Sl.none:Sl:={ v:=.one .bad,box:=.none,bg:=0,aK:=[],ag:=0 }
abbrev St:=List Sl
def nth {α:Type}:List α→Nat→Option α
 | [],_=>none
 |x::_,0=>some x
 |_::l,n+1=>nth l n
def mB {α:Type} (f:α→α):List α→Nat→List α
 | [],_=>[]
 |x::l,0=>f x::l
 |x::l,n+1=>x::mB f l n
def cC (st:St) (t:Nat):V:=
 match nth st t with
 |some s=>s.v
 |none=>.one .bad
def bn (st:St) (d:Option Nat) (v:V):St:=
 match d with
 |some t=>mB (fun s=>{ s with v:=v }) st t
 |none=>st
def aV (st:St) (a j g:Nat):Option gM:=
 match nth st a with
 |some s=>bif Nat.beq s.ag g then (match nth s.aK j with | some (some A)=>some A | _=>none) else none
 |none=>none
def bz (st:St) (a j:Nat) (A:Option gM):St:=
 mB (fun s=>{ s with aK:=mB (fun _=>A) s.aK j,ep:=s.ep+1 }) st a
def kc (st:St) (a:Nat):Nat:=match nth st a with | some s=>s.ep | none=>0
def dH (st:St) (b g:Nat):Option (List CV):=
 match nth st b with
 |some s=>bif Nat.beq s.bg g then s.box else none
 |none=>none
inductive N where
 |done (st:St)
 |fail
 |br (b:Bool) (t e:N)
 |row (r:RT) (o:Option (ar r)) (k:ar r→N)
def N.val:N→Option St
 |.done st=>some st
 |.fail=>none
 |.br b t e=>bif b then t.val else e.val
 |.row _ o k=>match o with | some x=>(k x).val | none=>none
def N.fold {R:Type}:N→(St→Option R)→Option R
 |.done st,k=>k st
 |.fail,_=>none
 |.br b t e,k=>bif b then t.fold k else e.fold k
 |.row _ o f,k=>match o with | some x=>(f x).fold k | none=>none
theorem N.fold_eq {R:Type} (n:N) (k:St→Option R):n.fold k=n.val.bind k:=by
 induction n with
 |done st=>rfl
 |fail=>rfl
 |br b t e iht ihe=>cases b<;>simp [N.fold,N.val,iht,ihe]
 |row r o f ih=>cases o<;>simp [N.fold,N.val,ih]
def HJ:(t:Ty)→den t
 |.int _=>(0:Int)
 |.bool=>false
 |.str=>ByteArray.empty
 |.sl _=>([]:List _)
def qn:(r:RT)→ar r
 |.nil=>()
 |.cons t r=>(HJ t,qn r)
def HK:(t:Ty)→den t→CV
 |.int k,n=>.int k n
 |.bool,b=>.bool b
 |.str,s=>.str s
 |.sl r,xs=>.shr r xs
def dM:(r:RT)→ar r→List CV
 |.nil,_=>[]
 |.cons t r,x=>HK t x.1::dM r x.2
def acf (a j g e i k:Nat):(t:Ty)→den t→CV
 |.int k,n=>.int k n
 |.bool,b=>.bool b
 |.str,s=>.str s
 |.sl r,xs=>.pI a j g e i k r xs
def qz (a j g e i:Nat):(k:Nat)→(r:RT)→ar r→List CV
 |_,.nil,_=>[]
 |k,.cons t r,x=>acf a j g e i k t x.1::qz a j g e i (k+1) r x.2
def lh:(r:RT)→ar r→Nat→Option ((q:RT)×List (ar q))
 |.nil,_,_=>none
 |.cons (.sl q) _,x,0=>some ⟨q,x.1⟩
 |.cons _ _,_,0=>none
 |.cons _ r,x,k+1=>lh r x.2 k
def nD:(r:RT)→ar r→Nat→(q:RT)→List (ar q)→Option (ar r)
 |.nil,_,_,_,_=>none
 |.cons (.sl q) _,x,0,p,ys=>(cn q ys).map fun zs=>(zs,x.2)
 |.cons _ _,_,0,_,_=>none
 |.cons _ r,x,k+1,p,ys=>(nD r x.2 k p ys).map fun z=>(x.1,z)
def mE (st:St) (r:RT) (c:CV) (k:List (ar r)→N):N:=
 match c with
 |.shr _ xs=>match cn r xs with | some ys=>k ys | none=>.fail
 |.nn _ xs=>match cn r xs with | some ys=>k ys | none=>.fail
 |.dY=>k []
 |.ref a j g w=>match aV st a j g with
  |some A=>(match A.md with | .sh=>(match cn r A.xs with | some ys=>k (w.app ys) | none=>.fail) | _=>.fail)
  |none=>.fail
 |_=>.fail
structure lf where
 cells:Nat→Option Nat          -- how many cells a value of Hy type ags
 agg:Nat→Bool                  -- is it a struct
 off:Nat→Nat→Option Nat      -- a MK field: its first cell
 V6:Nat→Nat→Option Nat      -- and how many it has
 row:Nat→Option RT             -- Hy tE types
 elem:Nat→Option (RT×Nat)    -- a slice: its UP cells,and Hy bytes of one
 nC:Nat→Option (List Nat)     -- a abv types
 kind:Nat→Option Ty            -- a type of one cell
 one:Nat→Nat→Bool            -- a MK field Kw is no struct ach
 eq:Nat→Bool                   -- a struct of numbers,agt and strings,V7 by '=='
 dp:Nat→Bool:=fun _=>false -- a slice Jm agu dS UO its own,where ail may be
 cap:Nat→Bool:=fun _=>false -- a QU box Kw is read alone
 lz:Nat→Option Nat→Bool:=fun _ _=>false -- a slice Jm UQ rows others may read
inductive OV where
 |int (k:IntKind) (n:Int)
 |bool (b:Bool)
 |str (s:ByteArray)
 |own (A:gM)
 |shr (r:RT) (xs:List (ar r))
 |dY
 |me (r:RT) (xs:List (ar r))
 |fn (g:Nat) (rs:RT) (xs:List (ar rs))
inductive AV where
 |val (agg:Bool) (os:List OV)  -- a value: its ML UO Hy V8 from now on
 |io (A:gM)                     -- an array,CK: Hy callee may write it
 |box (os:List OV)               -- a struct behind a pointer,CK
 |cz (os:List OV)              -- a struct Jm ML UO CK
inductive RV where
 |one (o:OV)
 |agg (os:List OV)
 |ptr (os:List OV)  -- a new struct,behind a pointer
inductive XV where
 |io (A:gM)
 |box (cs:List OV)
 |cz (As:List (Option gM))
structure Res where
 outs:List RV
 exts:List XV
structure R2 where
 r:RT
 o:Option (ar r)
 res:ar r→Res
abbrev wE:=List AV→Option R2
inductive Pm where
 |shr | own | io | cz
 |pick (l:List Nat)  -- a struct behind a pointer,some of Jm ML UO read alone from then on
 |soft (l:List Nat)  -- a struct behind a pointer,V9 some of Jm abx rows hold others may read from then on
abbrev lO:=FuncId→Option (Pm×Pm×Pm×wE)   -- Hy first three QV ways;agv jq UO shared
def bu (b g:Nat):(j:Nat)→List OV→List CV
 |_,[]=>[]
 |j,.int k n::l=>.int k n::bu b g (j+1) l
 |j,.bool x::l=>.bool x::bu b g (j+1) l
 |j,.str s::l=>.str s::bu b g (j+1) l
 |j,.own _::l=>.ref b j g .full::bu b g (j+1) l
 |j,.shr r xs::l=>.shr r xs::bu b g (j+1) l
 |j,.dY::l=>.dY::bu b g (j+1) l
 |j,.me r xs::l=>.su r xs 0::bu b g (j+1) l
 |j,.fn f rs xs::l=>.fn f rs xs::bu b g (j+1) l
def OV.arr:OV→Option gM
 |.own A=>some A
 |_=>none
def bE:List OV→List (Option gM)
 | []=>[]
 |o::l=>o.arr::bE l
def RV.sS:RV→List OV
 |.one o=>[o]
 |.agg os=>os
 |.ptr os=>.dY::os
def MM (d g j:Nat):RV→V
 |.one o=>match bu d g j [o] with | [c]=>.one c | _=>.one .bad
 |.agg os=>.agg (bu d g j os)
 |.ptr _=>.one .bad
def kW (d g:Nat):(j:Nat)→List RV→List V
 |_,[]=>[]
 |j,r::l=>MM d g j r::kW d g (j+r.sS.length) l
def ve (st:St) (d:Option Nat) (outs:List RV):Option St:=
 match d with
 |some d=>match nth st d with
  |some s=>
   let g:=s.ag+1
   match outs with
   | [.ptr os]=>some (mB (fun s=>{ s with v:=.one (.ptr d (s.bg+1) 0),box:=some (bu d (s.ag+1) 1 os),bg:=s.bg+1,aK:=none::bE os,ag:=s.ag+1 }) st d)
   |outs=>
    let v:V:=match kW d g 0 outs with | [v]=>v | vs=>.nC vs
    some (mB (fun s=>{ s with v:=v,aK:=bE (outs.flatMap RV.sS),ag:=g }) st d)
  |none=>none
 |none=>match outs with
  | []=>some st
  |_=>none
def mC (st:St):Operand→V
 |.tmp t=>cC st t
 |.const (.int k n)=>.one (.int k n)
 |.const (.bool b)=>.one (.bool b)
 |.const (.string s)=>.one (.str s)
 |.const (.slice none 0 0)=>.one .dY
 |.const (.pointer none)=>.one .HH
 |_=>.one .bad
def MN (op:BinOp) (a b:Int):Option Bool:=
 match op with
 |.lss=>some (decide (a<b))
 |.leq=>some (decide (a≤b))
 |.gtr=>some (decide (b<a))
 |.geq=>some (decide (b≤a))
 |.eql=>some (decide (a=b))
 |.neq=>some (!decide (a=b))
 |_=>none
def Bf (op:BinOp) (k:IntKind) (a b:Int):Option Int:=
 match op with
 |.add=>some (k.wrap (a+b))
 |.sub=>some (k.wrap (a-b))
 |.mul=>some (k.wrap (a*b))
 |.and=>some (k.wrap ((BitVec.ofInt k.bits a &&& BitVec.ofInt k.bits b).toNat:Int))
 |.or=>some (k.wrap ((BitVec.ofInt k.bits a ||| BitVec.ofInt k.bits b).toNat:Int))
 |.xor=>some (k.wrap ((BitVec.ofInt k.bits a ^^^ BitVec.ofInt k.bits b).toNat:Int))
 |_=>none
def MO (op:BinOp) (k:IntKind) (a b:Int):Option Int:=
 match op with
 |.quo=>some (k.wrap (a.tdiv b))
 |.rem=>some (a.tmod b)
 |_=>none
def Bg (op:BinOp) (k:IntKind) (a:Int) (n:Nat):Option Int:=
 match op with
 |.shl=>some (k.wrap (a*2 ^ (min n k.bits)))
 |.shr=>some (a.fdiv (2 ^ (min n k.bits)))
 |_=>none
def pJ (a b:ByteArray):Bool:=a.toList==b.toList
def tF:CV→CV→Option Bool
 |.int k a,.int l b=>if k=l then some (decide (a=b)) else none
 |.bool a,.bool b=>some (a==b)
 |.str a,.str b=>some (pJ a b)
 |_,_=>none
def nE:List CV→List CV→Option Bool
 | [],[]=>some true
 |a::l,b::m=>match tF a b,nE l m with
  |some x,some y=>some (x&&y)
  |_,_=>none
 |_,_=>none
def Ee (s:ByteArray) (i:Int):Int:=match s[i.toNat]? with | some b=>(b.toNat:Int) | none=>0
def gH:(r:RT)→ar r→Nat→CV→Option (ar r)
 |.cons (.int k) _,x,0,.int l n=>if k=l then some (n,x.2) else none
 |.cons .bool _,x,0,.bool b=>some (b,x.2)
 |.cons .str _,x,0,.str s=>some (s,x.2)
 |.cons _ r,x,n+1,c=>(gH r x.2 n c).map fun z=>(x.1,z)
 |_,_,_,_=>none
def rowOf (st:St):(r:RT)→List CV→(k:ar r→List (Nat×Nat)→N)→N
 |.nil,[],k=>k () []
 |.cons (.int q) r,.int l n::cs,k=>if q=l then rowOf st r cs (fun x m=>k (n,x) m) else .fail
 |.cons .bool r,.bool b::cs,k=>rowOf st r cs (fun x m=>k (b,x) m)
 |.cons .str r,.str s::cs,k=>rowOf st r cs (fun x m=>k (s,x) m)
 |.cons (.sl q) r,c::cs,k=>
  match c with
  |.dY=>rowOf st r cs (fun x m=>k (([]:List _),x) m)
  |.ref a j g w=>match aV st a j g with
   |some A=>(match A.md with
    |.ho _=>.fail
    |_=>(match cn q A.xs with
     |some ys=>rowOf st r cs (fun x m=>k (w.app ys,x) ((a,j)::m))
     |none=>.fail))
   |none=>.fail
  |.shr _ ys=>match cn q ys with
   |some zs=>rowOf st r cs (fun x m=>k (zs,x) m)
   |none=>.fail
  |_=>.fail
 |_,_,_=>.fail
def Md.fz:Md→Md
 |.dp=>.sh
 |.lz=>.sh
 |m=>m
def gM.fz (A:gM):gM:={ A with own:=false,md:=A.md.fz }
def freeze (st:St):List (Nat×Nat)→St
 | []=>st
 |(a,j)::l=>freeze (mB (fun s=>{ s with aK:=mB (fun A=>A.map gM.fz) s.aK j,ep:=s.ep+1 }) st a) l
def dC (st:St):(r:RT)→List CV→Option (ar r×List (Option (Nat×Nat)))
 |.nil,[]=>some ((),[])
 |.cons (.int q) r,.int l n::cs=>if q=l then (match dC st r cs with | some p=>some ((n,p.1),none::p.2) | none=>none) else none
 |.cons .bool r,.bool b::cs=>match dC st r cs with | some p=>some ((b,p.1),none::p.2) | none=>none
 |.cons .str r,.str s::cs=>match dC st r cs with | some p=>some ((s,p.1),none::p.2) | none=>none
 |.cons (.sl q) r,c::cs=>
  match c with
  |.dY=>match dC st r cs with | some p=>some ((([]:List _),p.1),none::p.2) | none=>none
  |.ref a j g .full=>match aV st a j g with
   |some A=>bif A.own&&A.md.is (bif q.dS then .dp else .sh) then (match cn q A.xs with
    |some ys=>(match dC st r cs with | some p=>some ((ys,p.1),some (a,j)::p.2) | none=>none)
    |none=>none) else none
   |none=>none
  |_=>none
 |_,_=>none
def bC:List (Option (Nat×Nat))→List (Nat×Nat)
 | []=>[]
 |some p::l=>p::bC l
 |none::l=>bC l
def eC (st:St):List (Nat×Nat)→St
 | []=>st
 |(a,j)::l=>eC (bz st a j none) l
def distinct:List (Nat×Nat)→Bool
 | []=>true
 |(a,j)::l=>l.all (fun p => !(Nat.beq p.1 a&&Nat.beq p.2 j))&&distinct l
def lim:Nat:=35184372088832
def q8:RT→List CV→Bool
 |.nil,[]=>true
 |.cons (.int k) r,.int l _::cs=>decide (k=l)&&q8 r cs
 |.cons .bool r,.bool _::cs=>q8 r cs
 |.cons .str r,.str _::cs=>q8 r cs
 |_,_=>false
def lf.fits (T:lf) (t:Nat) (l:List CV):Bool:=match T.row t with | some r=>q8 r l | none=>false
def uS (T:lf) (st:St) (d:Option Nat) (op:BinOp) (t:Nat) (x y:V):N:=
 match x,y with
 |.one (.int k a),.one (.int l b)=>
  match op with
  |.shl | .shr=>match Bg op k a b.toNat with
   |some n=>.br (decide (0≤b)) (.done (bn st d (.one (.int k n)))) .fail
   |none=>.fail
  |_=>if k=l then (match MN op a b with
   |some t=>.done (bn st d (.one (.bool t)))
   |none=>match Bf op k a b with
    |some n=>.done (bn st d (.one (.int k n)))
    |none=>match MO op k a b with
     |some n=>.br (decide (b=0)) .fail (.done (bn st d (.one (.int k n))))
     |none=>.fail) else .fail
 |.one (.str a),.one (.str b)=>
  match op with
  |.add=>.br (Nat.ble (a.size+b.size) lim) (.done (bn st d (.one (.str (a++b))))) .fail
  |.eql=>.done (bn st d (.one (.bool (pJ a b))))
  |.neq=>.done (bn st d (.one (.bool (!pJ a b))))
  |_=>.fail
 |.one (.bool a),.one (.bool b)=>
  match op,T.kind t with
  |.eql,some .bool=>.done (bn st d (.one (.bool (a==b))))
  |.neq,some .bool=>.done (bn st d (.one (.bool (!(a==b)))))
  |_,_=>.fail
 |.one .dY,.one .dY=>
  match op,T.elem t with
  |.eql,some _=>.done (bn st d (.one (.bool true)))
  |.neq,some _=>.done (bn st d (.one (.bool false)))
  |_,_=>.fail
 |.one (.nn _ _),.one .dY=>
  match op,T.elem t with
  |.eql,some _=>.done (bn st d (.one (.bool false)))
  |.neq,some _=>.done (bn st d (.one (.bool true)))
  |_,_=>.fail
 |.agg l,.agg m=>
  bif T.eq t&&T.fits t l then (match op,nE l m with
  |.eql,some t=>.done (bn st d (.one (.bool t)))
  |.neq,some t=>.done (bn st d (.one (.bool (!t))))
  |_,_=>.fail) else .fail
 |_,_=>.fail
def CV.sU:CV→Bool
 |.bad=>false
 |_=>true
def V.sU:V→Bool
 |.one c=>c.sU
 |.agg cs=>cs.all CV.sU
 |.nC _=>false
def aT (st:St) (d:Option Nat) (A:gM):N:=
 match d with
 |some d=>match nth st d with
  |some s0=>.done (mB (fun s=>{ s with v:=.one (.ref d 0 (s0.ag+1) .full),aK:=[some A],ag:=s0.ag+1 }) st d)
  |none=>.fail
 |none=>.fail
def jf (st:St) (d:Option Nat) (cs:List CV):N:=
 match d with
 |some d=>match nth st d with
  |some s0=>.done (mB (fun s=>{ s with v:=.one (.ptr d (s0.bg+1) 0),box:=some cs,bg:=s0.bg+1 }) st d)
  |none=>.fail
 |none=>.fail
def oK (r:RT):List CV:=(dM r (qn r)).map fun | .shr _ _=>.dY | c=>c
def dZ (n off:Nat) (cs:List CV):Option (List CV):=
 let l:=(cs.drop off).take n
 bif Nat.beq l.length n then some l else none
def putCells (cs:List CV) (off:Nat) (l:List CV):Option (List CV):=
 bif Nat.ble (off+l.length) cs.length then some (cs.take off++l++cs.drop (off+l.length)) else none
def Kx (T:lf) (t:Nat) (l:List CV):V:=bif T.agg t then .agg l else (match l with | [c]=>.one c | _=>.one .bad)
def uJ (T:lf) (st:St) (d:Option Nat) (t:Nat) (a:V):N:=
 match a,T.cells t with
 |.one (.ptr b g off),some n=>match dH st b g with
  |some cs=>match dZ n off cs with
   |some l=>.done (bn st d (Kx T t l))
   |none=>.fail
  |none=>.fail
 |.one (.me r x off),some n=>match dZ n off (dM r x) with
  |some l=>.done (bn st d (Kx T t l))
  |none=>.fail
 |.one (.su r xs off),some n=>.row r xs[0]? fun x=>match dZ n off (dM r x) with
  |some l=>.done (bn st d (Kx T t l))
  |none=>.fail
 |.one (.FL a j g i off),some n=>match aV st a j g with
  |some A=>(match A.md with
   |.sh=>.row A.r A.xs[i]? fun x=>match dZ n off (dM A.r x) with
    |some l=>.done (bn st d (Kx T t l))
    |none=>.fail
   |.lz=>.row A.r A.xs[i]? fun x=>match dZ n off (dM A.r x) with
    |some l=>.done (bn st d (Kx T t l))
    |none=>.fail
   |.dp=>.row A.r A.xs[i]? fun x=>match dZ n off (qz a j g (kc st a) i 0 A.r x) with
    |some l=>.done (bn st d (Kx T t l))
    |none=>.fail
   |.ho _=>.fail)
  |none=>.fail
 |_,_=>.fail
def j2 (r:RT) (x:ar r):(off:Nat)→List CV→Option (ar r)
 |_,[]=>some x
 |off,c::l=>match j2 r x (off+1) l with
  |some y=>gH r y off c
  |none=>none
def gM.put (A:gM) (ys:List (ar A.r)):gM:={ A with xs:=ys }
def sv (T:lf) (st:St) (t:Nat) (a v:V):N:=
 match a,T.cells t with
 |.one (.ptr b g off),some n=>match dH st b g with
  |some cs=>bif v.sU&&Nat.beq v.cells.length n then (match putCells cs off v.cells with
   |some l=>.done (mB (fun s=>{ s with box:=some l }) st b)
   |none=>.fail) else .fail
  |none=>.fail
 |.one (.FL a j g i off),some n=>match aV st a j g with
  |some A=>bif v.sU&&A.own&&Nat.beq v.cells.length n&&Nat.blt 0 n then
    (bif Nat.beq n A.r.width&&A.r.dS&&Nat.beq off 0 then
     (match A.md with
     |.sh=>rowOf st A.r v.cells fun x m=>bif m.all (fun p => !(Nat.beq p.1 a&&Nat.beq p.2 j)) then
      .row A.r A.xs[i]? (fun _=>.done (bz (freeze st m) a j (some (A.put (A.xs.set i x))))) else .fail
     |.dp=>(match dC st A.r v.cells with
      |some p=>bif distinct (bC p.2)&&(bC p.2).all (fun p => !(Nat.beq p.1 a&&Nat.beq p.2 j)) then
       .row A.r A.xs[i]? (fun _=>.done (bz (eC st (bC p.2)) a j (some (A.put (A.xs.set i p.1))))) else .fail
      |none=>.fail)
     |.lz=>(match dC st A.r v.cells with
      |some p=>bif distinct (bC p.2)&&(bC p.2).all (fun p => !(Nat.beq p.1 a&&Nat.beq p.2 j)) then
       .row A.r A.xs[i]? (fun _=>.done (bz (freeze st (bC p.2)) a j (some (A.put (A.xs.set i p.1))))) else .fail
      |none=>.fail)
     |.ho q=>(match dC st A.r v.cells with
      |some p=>bif distinct (bC p.2)&&(bC p.2).all (fun p => !(Nat.beq p.1 a&&Nat.beq p.2 j)) then
       .br (Nat.beq i q) (.row A.r A.xs[i]? (fun _=>.done (bz (eC st (bC p.2)) a j (some { A.put (A.xs.set i p.1) with md:=.dp })))) .fail else .fail
      |none=>.fail))
    else bif A.md.C7 then .fail else .row A.r A.xs[i]? fun x=>match j2 A.r x off v.cells with
     |some y=>.done (bz st a j (some (A.put (A.xs.set i y))))
     |none=>.fail) else .fail
  |none=>.fail
 |_,_=>.fail
def pX (T:lf) (st:St) (d:Option Nat) (t:Nat) (x ix:V):N:=
 match T.elem t,x,ix with
 |some (q,_),.one (.shr r xs),.one (.int _ i)=>match cn q xs with
  |some ys=>.br (decide (0≤i)) (.row q ys[i.toNat]? fun y=>.done (bn st d (.one (.me q y 0)))) .fail
  |none=>.fail
 |some (q,_),.one (.ref a j g w),.one (.int _ i)=>match aV st a j g with
  |some A=>match cn q A.xs with
   |some ys=>(match A.own with
    |false=>bif !A.md.is .sh then .fail else .br (decide (0≤i)) (.row q (w.app ys)[i.toNat]? fun y=>.done (bn st d (.one (.me q y 0)))) .fail
    |true=>.br (decide (0≤i)) (.br (Nat.blt i.toNat (w.app ys).length) (.done (bn st d (.one (.FL a j g (w.idx i.toNat) 0)))) .fail) .fail)
   |none=>.fail
  |none=>.fail
 |_,_,_=>.fail
def oL (n:Nat) (lo hi:Option V) (k:Option Nat→Option Nat→N):N:=
 let HL (l:Option Nat):N:=match hi with
  |none=>k l none
  |some (.one (.int _ h))=>.br (decide ((match l with | some l=>(l:Int) | none=>0)≤h)) (.br (decide (h≤n)) (k l (some h.toNat)) .fail) .fail
  |_=>.fail
 match lo with
 |none=>HL none
 |some (.one (.int _ l))=>.br (decide (0≤l)) (match hi with
  |none=>.br (decide (l≤n)) (HL (some l.toNat)) .fail
  |_=>HL (some l.toNat)) .fail
 |_=>.fail
def HM (n:Nat):Option Nat→Option Nat→View
 |none,none=>.full
 |some l,none=>.from l
 |none,some h=>.sub 0 h
 |some l,some h=>.sub l (h-l)
def View.of (w:View) (n:Nat) (lo hi:Option Nat):View:=
 match lo,hi with
 |none,none=>w
 |some l,none=>(match w with | .full=>.from l | .from a=>.from (a+l) | .sub a m=>.sub (a+l) (m-l))
 |none,some h=>.sub w.lo h
 |some l,some h=>.sub (w.lo+l) (h-l)
def tG (T:lf) (st:St) (d:Option Nat) (t:Nat) (x:V) (lo hi:Option V):N:=
 match x with
 |.one (.str s)=>match T.kind t with
  |some .str=>oL s.size lo hi fun l h=>
   .done (bn st d (.one (.str (s.extract (l.getD 0) (h.getD s.size)))))
  |_=>.fail
 |.one .dY=>match T.elem t with
  |some _=>oL 0 lo hi fun _ _=>.done (bn st d (.one .dY))
  |none=>.fail
 |.one (.shr r xs)=>match T.elem t with
  |some (q,_)=>match cn q xs with
   |some ys=>oL ys.length lo hi fun l h=>.done (bn st d (.one (.shr q ((HM ys.length l h).app ys))))
   |none=>.fail
  |none=>.fail
 |.one (.ref a j g w)=>match T.elem t,aV st a j g with
  |some (q,_),some A=>match cn q A.xs with
   |some ys=>oL (w.app ys).length lo hi fun l h=>.done (bn st d (.one (.ref a j g (w.of (w.app ys).length l h))))
   |none=>.fail
  |_,_=>.fail
 |_=>.fail
def Ef (T:lf) (st:St) (d:Option Nat) (t:Nat) (x:V):N:=
 match x with
 |.one (.str s)=>match T.kind t with
  |some .str=>.done (bn st d (.one (.int .i64 s.size)))
  |_=>.fail
 |.one .dY=>match T.elem t with
  |some _=>.done (bn st d (.one (.int .i64 0)))
  |none=>.fail
 |.one (.shr _ xs)=>match T.elem t with
  |some _=>.done (bn st d (.one (.int .i64 xs.length)))
  |none=>.fail
 |.one (.ref a j g w)=>match T.elem t,aV st a j g with
  |some _,some A=>.done (bn st d (.one (.int .i64 (w.app A.xs).length)))
  |_,_=>.fail
 |_=>.fail
def Ky (st:St):V→Option (Nat×Nat×gM)
 |.one (.ref a j g .full)=>match aV st a j g with
  |some A=>bif A.own&&A.md.is .dp then some (a,j,A) else none
  |none=>none
 |_=>none
def R3 (st:St):V→Option (Nat×Nat×gM)
 |.one (.ref a j g .full)=>match aV st a j g with
  |some A=>bif A.own&&A.md.is .lz then some (a,j,A) else none
  |none=>none
 |_=>none
def Bh (st:St) (d:Option Nat) (r:RT) (bytes:Nat) (x y:V) (b k:Nat) (ys:List (ar r)):N:=
 match x with
 |.one .dY=>.br (Nat.ble ((([]:List (ar r)).length+ys.length)*bytes) lim) (aT (eC st [(b,k)]) d { r:=r,own:=true,xs:=[]++ys,md:=.dp }) .fail
 |.one (.ref a j g w)=>match Ky st (.one (.ref a j g w)) with
  |some (_,_,A)=>(match cn r A.xs with
   |some xs=>bif !(Nat.beq a b&&Nat.beq j k) then .br (Nat.ble ((xs.length+ys.length)*bytes) lim) (aT (eC st [(a,j),(b,k)]) d { r:=r,own:=true,xs:=xs++ys,md:=.dp }) .fail else .fail
   |none=>.fail)
  |none=>match R3 st (.one (.ref a j g w)),Ky st y with
   |some (_,_,A),some (_,_,B)=>(match cn r A.xs with
    |some xs=>bif !(Nat.beq a b&&Nat.beq j k) then .br (Nat.ble ((xs.length+ys.length)*bytes) lim) (aT (eC (bz st b k (some { B with md:=.lz })) [(a,j),(b,k)]) d { r:=r,own:=true,xs:=xs++ys,md:=.lz }) .fail else .fail
    |none=>.fail)
   |_,_=>.fail
 |_=>.fail
def AQ (T:lf) (st:St) (d:Option Nat) (t:Nat) (x y:V):N:=
 match T.elem t with
 |none=>.fail
 |some (r,bytes)=>
  match Ky st y with
  |some (b,k,B)=>(match cn r B.xs with | some ys=>Bh st d r bytes x y b k ys | none=>.fail)
  |none=>
  let out (xs:List (ar r)) (used:List (Nat×Nat)):N:=
   match y with
   |.one c=>mE st r c fun ys=>
     .br (Nat.ble ((xs.length+ys.length)*bytes) lim)
      (aT (used.foldl (fun s p=>bz s p.1 p.2 none) st) d { r:=r,own:=true,xs:=xs++ys }) .fail
   |_=>.fail
  match x with
  |.one .dY=>out [] []
  |.one (.ref a j g w)=>match aV st a j g with
   |some A=>bif A.own&&(A.md.is .sh||(A.md.is .dp&&A.xs.isEmpty)) then (match cn r A.xs with | some xs=>out (w.app xs) [(a,j)] | none=>.fail) else .fail
   |none=>.fail
  |_=>.fail
def HN (T:lf) (st:St) (t:Nat) (x:V):N:=
 match T.elem t with
 |none=>.fail
 |some (r,_)=>
  match x with
  |.one .dY=>.done st
  |.one (.ref a j g (.from k))=>match aV st a j g with
   |some A=>bif A.own&&(A.md.is .sh && !A.r.dS) then (match cn r A.xs with
    |some _=>.br (Nat.blt 0 (A.xs.length-k)) (.done (bz st a j (some (A.put (A.xs.take k++List.replicate (A.xs.length-k) (qn A.r)))))) (.done st)
    |none=>.fail) else .fail
   |none=>.fail
  |_=>.fail
def MP (T:lf) (st:St) (d:Option Nat) (t:Nat) (len cap:V):N:=
 match T.elem t,len,cap with
 |some (r,bytes),.one (.int .i64 n),.one (.int .i64 c)=>
  .br (decide (n=c)) (.br (decide (0≤n)) (.br (Nat.ble (n.toNat*bytes) lim)
   (aT st d { r:=r,own:=true,xs:=List.replicate n.toNat (qn r),md:=bif T.dp t then .dp else .sh }) .fail) .fail) .fail
 |_,_,_=>.fail
def v8 (st:St) (r:RT):(i:Nat)→List (Nat×V)→(k:List (ar r)→List (Nat×Nat)→N)→N
 |_,[],k=>k [] []
 |i,(p,v)::l,k=>bif v.sU&&Nat.beq p i then rowOf st r v.cells fun x m=>v8 st r (i+1) l fun xs m'=>k (x::xs) (m++m') else .fail
def Eg (st:St) (r:RT):List (Nat×V)→Option (List (ar r)×List (Option (Nat×Nat)))
 | []=>some ([],[])
 | [(p,v)]=>bif v.sU&&Nat.beq p 0 then (match dC st r v.cells with | some q=>some ([q.1],q.2) | none=>none) else none
 |_=>none
def vf (a j g:Nat):List CV→Nat→Option Nat
 | [],_=>none
 |.ref b i k .full::l,n=>bif Nat.beq a b&&(Nat.beq j i&&Nat.beq g k) then some n else vf a j g l (n+1)
 |_::l,n=>vf a j g l (n+1)
def Wa (Eh:List CV) (r:RT) (x:ar r) (d g e:Nat):CV→CV
 |.ref a j h .full=>match vf a j h Eh 0 with
  |some k=>(match lh r x k with
   |some y=>.HI d 0 g e 0 k y.1 y.2
   |none=>.ref a j h .full)
  |none=>.ref a j h .full
 |c=>c
def Au (f:CV→CV) (st:St):St:=st.map fun s=>{ s with box:=s.box.map (List.map f) }
def Wb (st:St) (s:Nat):Nat:=match nth st s with | some x=>x.ag | none=>0
def MQ (r:RT) (parts:List (Nat×V)) (xs:List (ar r)) (d:Option Nat):N→N
 |.done st=>match d,parts,xs with
  |some d,[p],[x]=>.done (Au (Wa p.2.cells r x d (Wb st d) (kc st d)) st)
  |_,_,_=>.done st
 |n=>n
def vg (T:lf) (st:St) (d:Option Nat) (t len:Nat) (parts:List (Nat×V)):N:=
 match T.elem t with
 |some (r,_)=>bif Nat.beq parts.length len&&Nat.ble (len*r.width) 16777216 then
   (match (bif T.dp t then Eg st r parts else none) with
   |some p=>bif distinct (bC p.2) then bif T.lz t d then aT (freeze st (bC p.2)) d { r:=r,own:=true,xs:=p.1,md:=.lz } else MQ r parts p.1 d (aT (eC st (bC p.2)) d { r:=r,own:=true,xs:=p.1,md:=.dp }) else .fail
   |none=>v8 st r 0 parts fun xs m=>aT (freeze st m) d { r:=r,own:=true,xs:=xs })
  else .fail
 |none=>.fail
def oM (T:lf) (t:Nat) (cs:List CV):List (Nat×V)→Option (List CV)
 | []=>some cs
 |(f,v)::l=>match T.off t f,T.V6 t f with
  |some o,some s=>bif v.sU&&Nat.beq v.cells.length s then (match putCells cs o v.cells with
   |some mf=>oM T t mf l
   |none=>none) else none
  |_,_=>none
def View.isFull:View→Bool
 |.full=>true
 |_=>false
def ow (st:St) (s:Nat):Nat:=match nth st s with | some x=>x.ag | none=>0
def fj (st:St) (own:Bool):CV→Option (OV×Option Lb×List (Nat×Nat))
 |.int q n=>some (.int q n,none,[])
 |.bool b=>some (.bool b,none,[])
 |.str s=>some (.str s,none,[])
 |.dY=>some (.dY,none,[])
 |.shr r xs=>some (.shr r xs,none,[])
 |.nn r xs=>some (.shr r xs,none,[])
 |.ref a j g w=>match aV st a j g with
  |some A=>bif A.md.C7 then none else bif own&&A.own&&(A.md.is .sh||(A.md.is .lz||w.isFull)) then some (.own { A with xs:=w.app A.xs },some (.sp a j),[]) else some (.shr A.r (w.app A.xs),none,[(a,j)])
  |none=>none
 |.HI a j g e _ _ q ys=>match aV st a j g with
  |some A=>bif A.md.is .dp&&Nat.beq e (kc st a) then some (.shr q ys,none,[(a,j)]) else none
  |none=>none
 |.pI a j g e _ _ q ys=>match aV st a j g with
  |some A=>bif A.md.is .dp&&Nat.beq e (kc st a) then some (.shr q ys,none,[(a,j)]) else none
  |none=>none
 |.me r x off=>bif Nat.beq off 0 then some (.me r [x],none,[]) else none
 |.su r xs off=>bif Nat.beq off 0 then some (.me r xs,none,[]) else none
 |.fn f rs xs=>some (.fn f rs xs,none,[])
 |_=>none
def fk (st:St) (own:Bool):List CV→Option (List OV×List (Option Lb)×List (Nat×Nat))
 | []=>some ([],[],[])
 |c::l=>match fj st own c,fk st own l with
  |some (o,u,r),some (os,us,rs)=>some (o::os,u::us,r++rs)
  |_,_=>none
def cF:List (Option Lb)→List Lb
 | []=>[]
 |some l::ls=>l::cF ls
 |none::ls=>cF ls
def Pm.nF:Pm→Bool
 |.own=>true
 |_=>false
def MR (st:St):CV→Bool
 |.ref a j g w=>(match w with | .full=>true | _=>false)&&(match aV st a j g with | some A=>A.own | none=>false)
 |_=>true
def eI (st:St) (m:Pm):V→Option (AV×List Lb×List Lb×List (Nat×Nat))
 |.one (.ptr b g off)=>match dH st b g with
  |some cs=>(match fk st true cs with
   |some (os,u,r)=>bif Nat.beq off 0 then some (.box os,.box b::cF u,cF u,r) else none
   |none=>none)
  |none=>none
 |.one (.ref a j g w)=>match m with
  |.io=>(match w,aV st a j g with
   |.full,some A=>bif A.own && !A.md.C7 then some (.io A,[.sp a j],[],[]) else none
   |_,_=>none)
  |m=>match fk st m.nF [.ref a j g w] with
   |some (os,u,r)=>some (.val false os,cF u,cF u,r)
   |none=>none
 |.one c=>match fk st false [c] with
  |some (os,u,r)=>some (.val false os,cF u,cF u,r)
  |none=>none
 |.agg cs=>match m with
  |.cz=>(match fk st true cs with
   |some (os,u,r)=>bif cs.all (MR st) then some (.cz os,cF u,[],r) else none
   |none=>none)
  |m=>match fk st m.nF cs with
   |some (os,u,r)=>some (.val true os,cF u,cF u,r)
   |none=>none
 |.nC _=>none
def jg (st:St):List (Pm×V)→Option (List AV×List Lb×List Lb×List (Nat×Nat))
 | []=>some ([],[],[],[])
 |(m,v)::l=>match eI st m v,jg st l with
  |some (a,u,q,r),some (as,us,qs,rs)=>some (a::as,u++us,q++qs,r++rs)
  |_,_=>none
def tH:List Lb→Bool
 | []=>true
 |x::l=>l.all (fun y => !(Lb.same x y))&&tH l
def apart (used:List Lb) (reads:List (Nat×Nat)):Bool:=
 reads.all fun p=>used.all fun q => !(Lb.same q (.sp p.1 p.2))
def pg (st:St):List Lb→St
 | []=>st
 |.sp a j::l=>pg (bz st a j none) l
 |_::l=>pg st l
def OV.plain:OV→Bool
 |.own A => !A.r.dS||(A.md.is .dp||A.md.is .lz)
 |.shr _ _=>false
 |.me _ _=>false
 |.fn _ _ _=>false
 |_=>true
def XV.plain:XV→Bool
 |.io A => !A.r.dS||(A.md.is .dp||A.md.is .lz)
 |.box os=>os.all OV.plain
 |.cz As=>As.all fun | some A => !A.r.dS||(A.md.is .dp||A.md.is .lz) | none=>true
def Res.plain (r:Res):Bool:=
 r.outs.all (fun o=>o.sS.all OV.plain)&&r.exts.all XV.plain
def Bi (st:St):(j:Nat)→List CV→List (Option gM)→Option St
 |_,[],_=>some st
 |j,.ref a k g _::cs,As=>match nth As j,aV st a k g with
  |some (some B),some _=>Bi (bz st a k (some B)) (j+1) cs As
  |_,_=>none
 |j,_::cs,As=>Bi st (j+1) cs As
def qo (st:St) (m:Pm) (v:V) (xs:List XV):Option (St×List XV):=
 match v with
 |.one (.ptr b g _)=>match xs with
  |.box os::xs=>(match nth st b,dH st b g with
   |some s0,some _=>some (mB (fun s=>{ s with box:=some (bu b (s0.ag+1) 0 os),aK:=bE os,ag:=s0.ag+1 }) st b,xs)
   |_,_=>none)
  |_=>none
 |.one (.ref a j g _)=>match m with
  |.io=>(match xs,aV st a j g with
   |.io A::xs,some _=>some (bz st a j (some A),xs)
   |_,_=>none)
  |_=>some (st,xs)
 |.agg cs=>match m with
  |.cz=>(match xs with
   |.cz As::xs=>(Bi st 0 cs As).map fun bd=>(bd,xs)
   |_=>none)
  |_=>some (st,xs)
 |_=>some (st,xs)
def tI (st:St):List (Pm×V)→List XV→Option St
 | [],[]=>some st
 | [],_=>none
 |(m,v)::l,xs=>match qo st m v xs with
  |some (bd,Wc)=>tI bd l Wc
  |none=>none
def uK (a b c:Pm):List V→List (Pm×V)
 | []=>[]
 | [x]=>[(a,x)]
 | [x,y]=>[(a,x),(b,y)]
 |x::y::z::l=>(a,x)::(b,y)::(c,z)::l.map fun v=>(.shr,v)
def refsOf:List CV→List (Nat×Nat)
 | []=>[]
 |.ref a j _ _::l=>(a,j)::refsOf l
 |_::l=>refsOf l
def Bj (st:St):List (Pm×V)→List (Nat×Nat)
 | []=>[]
 |(.own,.one (.ptr b g _))::l=>(match dH st b g with | some cs=>refsOf cs | none=>[])++Bj st l
 |(.pick q,.one (.ptr b g _))::l=>(match dH st b g with | some cs=>refsOf (q.filterMap (nth cs)) | none=>[])++Bj st l
 |_::l=>Bj st l
def nG (u:List Lb) (a:Nat):Bool:=u.any fun | .sp b _=>Nat.beq b a | _=>false
def qp (u:List Lb):Nat→St→St
 |_,[]=>[]
 |a,s::l=>(bif nG u a then { s with ep:=s.ep+1 } else s)::qp u (a+1) l
def FM (st:St) (d:Option Nat) (xE:wE) (ms:List (Pm×V)) (fin:St→N):N:=
  match jg st ms with
  |some (dL,used,Wd,reads)=>bif tH used&&apart used reads then (match xE dL with
   |some A=>.row A.r A.o fun x=>(match tI (pg (qp used 0 (bif (A.res x).plain then st else freeze st reads)) Wd) ms (A.res x).exts with
    |some bd=>(match ve bd d (A.res x).outs with
     |some R4=>fin R4
     |none=>.fail)
    |none=>.fail)
   |none=>.fail) else .fail
  |none=>.fail
structure Dr where
 a:Nat
 j:Nat
 g:Nat
 e:Nat
 i:Nat
 k:Nat
 q:RT
 ys:List (ar q)
def wY:List CV→List Dr
 | []=>[]
 |.pI a j g e i k q ys::l=>⟨a,j,g,e,i,k,q,ys⟩::wY l
 |_::l=>wY l
def q9:List (Pm×V)→List Dr
 | []=>[]
 |(.io,.one c)::l=>wY [c]++q9 l
 |(.cz,.agg cs)::l=>wY cs++q9 l
 |_::l=>q9 l
def Ei:List Nat→Bool
 | []=>true
 | [_]=>true
 |a::b::l=>Nat.blt a b&&Ei (b::l)
def Dr.arr (x:Dr):gM:={ r:=x.q,own:=true,xs:=x.ys,md:=bif x.q.dS then .dp else .sh }
def mS (st:St) (ms:List (Pm×V)):Option (Dr×gM×List Dr):=
 match q9 ms with
 | []=>none
 |x::l=>match aV st x.a x.j x.g with
  |some A=>bif A.own&&A.md.is .dp&&Nat.beq x.e (kc st x.a)&&l.all (fun y=>Nat.beq y.a x.a&&Nat.beq y.j x.j&&Nat.beq y.g x.g&&Nat.beq y.e x.e&&Nat.beq y.i x.i) &&
    Ei ((x::l).map (·.k)) && !Nat.beq x.a (st.length-1) then some (x,A,x::l) else none
  |none=>none
def posOf (k:Nat):(n:Nat)→List Dr→Nat
 |n,[]=>n
 |n,x::l=>bif Nat.beq x.k k then n else posOf k (n+1) l
def R5 (P g:Nat) (l:List Dr):CV→CV
 |.pI _ _ _ _ _ k _ _=>.ref P (posOf k 0 l) g .full
 |c=>c
def PH (P g:Nat) (l:List Dr):Pm×V→Pm×V
 |(.io,.one c)=>(.io,.one (R5 P g l c))
 |(.cz,.agg cs)=>(.cz,.agg (cs.map (R5 P g l)))
 |x=>x
def eQ (st:St) (x:Dr) (A:gM) (l:List Dr):St:=
 mB (fun s=>{ s with aK:=l.map (fun y=>some y.arr),ag:=s.ag+1,ep:=s.ep+1 }) (bz st x.a x.j (some { A with md:=.ho x.i })) (st.length-1)
def tJ (st:St) (P g:Nat) (r:RT):(n:Nat)→List Dr→ar r→Option (ar r)
 |_,[],z=>some z
 |n,y::l,z=>match aV st P n g with
  |some B=>bif B.own&&B.md.is (bif y.q.dS then .dp else .sh) then (match cn y.q B.xs with
   |some ys=>(match nD r z y.k y.q ys with
    |some z'=>tJ st P g r (n+1) l z'
    |none=>none)
   |none=>none) else none
  |none=>none
def HO (P g:Nat) (x:Dr) (A:gM) (l:List Dr) (st:St):N:=
 match aV st x.a x.j x.g with
 |some H=>bif H.md.C7 then (.row A.r A.xs[x.i]? fun z=>match tJ st P g A.r 0 l z with
  |some z'=>.done (bz (mB (fun s=>{ s with aK:=[],ep:=s.ep+1 }) st P) x.a x.j (some (A.put (A.xs.set x.i z'))))
  |none=>.fail) else .fail
 |none=>.fail
def Ej (T:lf) (st:St) (d:Option Nat) (t:Nat) (x y:V):N:=
 match mS st [(.io,x)] with
 |none=>AQ T st d t x y
 |some (z,A,l)=>AQ T (eQ st z A l) d t (PH (st.length-1) (ow st (st.length-1)+1) l (.io,x)).2 y
def FN (st:St) (o:Oper):Bool:=
 match o.op with
 |.call { callee:=.builtin .append,args:=args,argTypes:=_ }=>(match args.toList with
  |x::_=>(mS st [(.io,mC st x)]).isSome
  |_=>false)
 |_=>false
def QW (st:St) (d:Option Nat) (xE:wE) (ms:List (Pm×V)):N:=
 match mS st ms with
 |none=>FM st d xE ms .done
 |some (x,A,l)=>FM (eQ st x A l) d xE (ms.map (PH (st.length-1) (ow st (st.length-1)+1) l)) (HO (st.length-1) (ow st (st.length-1)+1) x A l)
def zI (st:St):CV→CV
 |.ref a j g .full=>match aV st a j g with
  |some A=>bif A.own then .ref a j g .full else bif A.md.is .sh then .shr A.r A.xs else .ref a j g .full
  |none=>.ref a j g .full
 |x=>x
def MS (st:St):V→V
 |.one x=>.one (zI st x)
 |.agg cs=>.agg (cs.map (zI st))
 |x=>x
def QX (st:St) (s:Sl):Sl:={ s with v:=MS st s.v,box:=s.box.map fun cs=>cs.map (zI st) }
def tK (st:St):St:=st.map (QX st)
def Pm.MT:Pm→Bool
 |.pick _=>true
 |_=>false
def Jn (st:St) (a j:Nat):St:=
 match nth st a with
 |some s=>(match nth s.aK j with
  |some (some A)=>bif A.own&&A.md.is .dp then bz st a j (some { A with md:=.lz }) else st
  |_=>st)
 |none=>st
def C8 (st:St):List (Nat×Nat)→St
 | []=>st
 |(a,j)::l=>C8 (Jn st a j) l
def Bk (st:St):List (Pm×V)→List (Nat×Nat)
 | []=>[]
 |(.soft q,.one (.ptr b g _))::l=>(match dH st b g with | some cs=>refsOf (q.filterMap (nth cs)) | none=>[])++Bk st l
 |_::l=>Bk st l
def zJ (ms:List (Pm×V)) (st:St):St:=bif ms.any (fun m=>m.1.MT) then tK (C8 st (Bk st ms)) else C8 st (Bk st ms)
def C9 (S:lO) (st:St) (d:Option Nat) (f:FuncId) (args:List V):N:=
 match S f with
 |none=>.fail
 |some (a,b,c,xE)=>QW (zJ (uK a b c args) (freeze st (Bj st (uK a b c args)))) d xE (uK a b c args)
def eD:List CV→Option ((r:RT)×ar r)
 | []=>some ⟨.nil,()⟩
 |.int k n::l=>match eD l with | some ⟨r,x⟩=>some ⟨.cons (.int k) r,(n,x)⟩ | none=>none
 |.bool b::l=>match eD l with | some ⟨r,x⟩=>some ⟨.cons .bool r,(b,x)⟩ | none=>none
 |.str s::l=>match eD l with | some ⟨r,x⟩=>some ⟨.cons .str r,(s,x)⟩ | none=>none
 |.shr q xs::l=>match eD l with | some ⟨r,x⟩=>some ⟨.cons (.sl q) r,(xs,x)⟩ | none=>none
 |_=>none
def gp (st:St) (b:Nat):St:=mB (fun s=>{ s with box:=none }) st b
def rnV (b g:Nat) (r:RT) (x:ar r):V→V
 |.one (.ptr b' g' off)=>bif Nat.beq b' b&&Nat.beq g' g then .one (.me r x off) else .one (.ptr b' g' off)
 |v=>v
def nH (st:St) (b g:Nat) (r:RT) (x:ar r):St:=st.map fun s=>{ s with v:=rnV b g r x s.v }
def PI (st:St) (t:Nat):Option (St×((r:RT)×List (ar r))):=
 match cC st t with
 |.one (.me r x off)=>bif Nat.beq off 0 then some (st,⟨r,[x]⟩) else none
 |.one (.su r xs off)=>bif Nat.beq off 0 then some (st,⟨r,xs⟩) else none
 |.one (.ptr b g off)=>match dH st b g with
  |some cs=>bif Nat.beq off 0 then (match eD cs with
   |some ⟨r,x⟩=>some (nH (gp st b) b g r x,⟨r,[x]⟩)
   |none=>none) else none
  |none=>none
 |_=>none
def wK (st:St):List Operand→Option (St×((rs:RT)×ar rs))
 | []=>some (st,⟨.nil,()⟩)
 |.tmp t::l=>match PI st t with
  |some (bd,⟨r,ys⟩)=>(match wK bd l with
   |some (R4,⟨rs,xs⟩)=>some (R4,⟨.cons (.sl r) rs,(ys,xs)⟩)
   |none=>none)
  |none=>none
 |_=>none
def uL:(rs:RT)→ar rs→List V
 |.nil,_=>[]
 |.cons (.sl r) rs,x=>.one (.su r x.1 0)::uL rs x.2
 |.cons _ rs,x=>.one .bad::uL rs x.2
def Jo (y:ar (.cons (.int .u8) .nil)):Int:=y.1
def bytesOf (ys:List (ar (.cons (.int .u8) .nil))):ByteArray:=ys.foldl (fun r y=>r.push (UInt8.ofNat (Jo y).toNat)) ByteArray.empty
def Hz (T:lf) (S:lO) (st:St) (o:Oper):N:=
 match o.op with
 |.move x | .assign x=>.done (bn st o.dst (mC st x))
 |.pick c a b=>match mC st c with
  |.one (.bool x)=>.br x (.done (bn st o.dst (mC st a))) (.done (bn st o.dst (mC st b)))
  |_=>.fail
 |.alloc t=>match T.row t with
  |some r=>jf st o.dst (oK r)
  |none=>.fail
 |.box t x=>match T.cells t with
  |some n=>bif (mC st x).sU&&Nat.beq (mC st x).cells.length n then (match (bif T.cap t then eD (mC st x).cells else none) with
   |some ⟨r,y⟩=>.done (bn st o.dst (.one (.me r y 0)))
   |none=>jf st o.dst (mC st x).cells) else .fail
  |none=>.fail
 |.build t parts=>match T.row t,T.agg t with
  |some r,true=>(match oM T t (oK r) (parts.toList.map fun p=>(p.1,mC st p.2)) with
   |some cs=>.done (bn st o.dst (.agg cs))
   |none=>.fail)
  |_,_=>.fail
 |.buildSlice t len parts=>vg T st o.dst t len (parts.toList.map fun p=>(p.1,mC st p.2))
 |.load t a=>uJ T st o.dst t (mC st a)
 |.store t a v=>(match o.dst with
  |none=>sv T st t (mC st a) (mC st v)
  |some _=>.fail)
 |.nilCheck x=>match mC st x with
  |.one (.ptr b g off)=>(match dH st b g with
   |some _=>.done (bn st o.dst (.one (.ptr b g off)))
   |none=>.fail)
  |.one (.FL a j g i off)=>(match aV st a j g with
   |some _=>.done (bn st o.dst (.one (.FL a j g i off)))
   |none=>.fail)
  |_=>.fail
 |.binOp op t x y _=>uS T st o.dst op t (mC st x) (mC st y)
 |.unOp .not _ x=>match mC st x with
  |.one (.bool b)=>.done (bn st o.dst (.one (.bool (!b))))
  |_=>.fail
 |.convert s t x=>match T.kind s,T.kind t,mC st x with
  |some (.int _),some (.int k),.one (.int _ n)=>.done (bn st o.dst (.one (.int k (k.wrap n))))
  |some .str,some .str,.one (.str b)=>.done (bn st o.dst (.one (.str b)))
  |none,some .str,.one c=>(match T.elem s with
   |some (.cons (.int .u8) .nil,_)=>mE st (.cons (.int .u8) .nil) c fun ys=>.done (bn st o.dst (.one (.str (bytesOf ys))))
   |_=>.fail)
  |_,_,_=>.fail
 |.makeSlice t l c=>MP T st o.dst t (mC st l) (mC st c)
 |.slice t x lo hi none=>tG T st o.dst t (mC st x) (lo.map (mC st)) (hi.map (mC st))
 |.fieldAddr t x f=>match mC st x,T.off t f with
  |.one (.ptr b g off),some k=>(match dH st b g with
   |some _=>.done (bn st o.dst (.one (.ptr b g (off+k))))
   |none=>.fail)
  |.one (.FL a j g i off),some k=>(match aV st a j g with
   |some _=>.done (bn st o.dst (.one (.FL a j g i (off+k))))
   |none=>.fail)
  |.one (.me r x off),some k=>.done (bn st o.dst (.one (.me r x (off+k))))
  |.one (.su r xs off),some k=>.done (bn st o.dst (.one (.su r xs (off+k))))
  |_,_=>.fail
 |.field t x f=>match mC st x,T.off t f with
  |.agg cs,some k=>bif T.one t f then (match nth cs k with
   |some c=>.done (bn st o.dst (.one c))
   |none=>.fail) else .fail
  |_,_=>.fail
 |.indexAddr t x i=>pX T st o.dst t (mC st x) (mC st i)
 |.index t x i=>match T.kind t,mC st x,mC st i with
  |some .str,.one (.str s),.one (.int _ n)=>.br (decide (0≤n)) (.br (decide (n<s.size)) (.done (bn st o.dst (.one (.int .u8 (Ee s n))))) .fail) .fail
  |_,_,_=>.fail
 |.extract t i=>match mC st t with
  |.nC vs=>match nth vs i with
   |some v=>.done (bn st o.dst v)
   |none=>.fail
  |_=>.fail
 |.call { callee:=.value (.func f),args:=args,argTypes:=_ }=>C9 S st o.dst f (args.toList.map (mC st))
 |.call { callee:=.value (.tmp t),args:=args,argTypes:=_ }=>(match cC st t with
  |.one (.fn g rs xs)=>.row rs xs[0]? fun x=>C9 S st o.dst g (args.toList.map (mC st)++uL rs x)
  |_=>.fail)
 |.makeFunc (.func g) first wF=>bif first.isEmpty then (match wK st wF.toList with
  |some (bd,⟨rs,x⟩)=>.done (bn bd o.dst (.one (.fn g rs [x])))
  |none=>.fail) else .fail
 |.call { callee:=.builtin b,args:=args,argTypes:=ts }=>match b,args.toList,ts.toList with
  |.len,[x],[t]=>Ef T st o.dst t (mC st x)
  |.append,[x,y],[t,u]=>bif Nat.beq t u then Ej T st o.dst t (mC st x) (mC st y) else .fail
  |.min,[x,y],_=>(match mC st x,mC st y with
   |.one (.int k a),.one (.int _ b)=>.done (bn st o.dst (.one (.int k (if b<a then b else a))))
   |_,_=>.fail)
  |.max,[x,y],_=>(match mC st x,mC st y with
   |.one (.int k a),.one (.int _ b)=>.done (bn st o.dst (.one (.int k (if b>a then b else a))))
   |_,_=>.fail)
  |.min,[x,y,z],_=>(match mC st x,mC st y,mC st z with
   |.one (.int k a),.one (.int _ b),.one (.int _ c)=>.done (bn st o.dst (.one (.int k (if c<(if b<a then b else a) then c else (if b<a then b else a)))))
   |_,_,_=>.fail)
  |.clear,[x],[t]=>(match o.dst with | none=>HN T st t (mC st x) | some _=>.fail)
  |_,_,_=>.fail
 |_=>.fail
def yN (T:lf) (S:lO) (ops:List Oper) (st:St) (o:Oper):N:=
 match o.guard with
 |none=>Hz T S st o
 |some (j,want)=>match (nth ops j).bind (·.dst) with
  |some d=>match cC st d with
   |.one (.bool b)=>
    let yes (x:Bool):N:=Hz T S (bn st (some d) (.one (.bool x))) o
    let no (x:Bool):N:=.done (bn (bn st (some d) (.one (.bool x))) o.dst (.nC []))
    .br b (bif want then yes true else no true) (bif want then no false else yes false)
   |.nC []=>.done (bn st o.dst (.nC []))
   |_=>.fail
  |none=>.fail
inductive Ex where
 |normal
 |exit (n:Nat)
 |ret
open Classical in
noncomputable def both {R:Type} (a b:Option R):Option R:=if a=b then a else none
theorem ku {R:Type} (a:Option R):both a a=a:=by unfold both;rw [if_pos rfl]
theorem Kz {R:Type} {a b:Option R} {r:R} (h:both a b=some r):a=some r∧b=some r:=by
 unfold both at h
 split at h
 ·rename_i e;exact ⟨h,e▸h⟩
 ·cases h
section
variable {R:Type} (T:lf) (S:lO)
def PJ (ops:List Oper):List Oper→St→(St→Option R)→Option R
 | [],st,k=>k st
 |o::r,st,k=>(yN T S ops st o).fold fun bd=>PJ ops r bd k
inductive Kd where
 |any | take | one | last
inductive Pl where
 |nil
 |op (i:Nat) (kd:Kd) (p:Pl)
 |alt (p q:Pl)
def HP (st:St) (ms:List (Pm×V)):Bool:=
 match jg st ms with
  |some (_,used,_,_)=>used.isEmpty
  |none=>true
def qR (S:lO) (st:St) (f:FuncId) (args:List V):Bool:=
 match S f with
 |some (a,b,c,_)=>(match mS (zJ (uK a b c args) (freeze st (Bj st (uK a b c args)))) (uK a b c args) with | none=>HP (zJ (uK a b c args) (freeze st (Bj st (uK a b c args)))) (uK a b c args) | some _=>false)
 |none=>true
def kindOk (S:lO) (st:St) (o:Oper):Kd→Bool
 |.any=>match o.op with
  |.move _ | .assign _ | .pick _ _ _ | .nilCheck _ | .binOp _ _ _ _ _ | .unOp _ _ _ | .slice _ _ _ _ _ | .fieldAddr _ _ _ | .indexAddr _ _ _ | .index _ _ _ | .extract _ _ | .build _ _ | .field _ _ _=>true
  |.convert _ _ x=>(match mC st x with | .one (.pI _ _ _ _ _ _ _ _)=>false | .one (.HI _ _ _ _ _ _ _ _)=>false | .one (.shr _ _)=>false | .one (.nn _ _)=>false | .one (.ref _ _ _ _)=>false | .one .dY=>false | _=>true)
  |.call { callee:=.builtin b,.. }=>(match b with | .len | .min | .max=>true | _=>false)
  |_=>false
 |.take=>match o.op with
  |.load _ _=>true
  |_=>false
 |.one=>match o.op with
  |.store _ _ _=>false
  |.call { callee:=.builtin b,.. }=>(match b with | .len | .min | .max=>true | _=>false)
  |.call { callee:=.value (.func f),args:=args,.. }=>qR S st f (args.toList.map (mC st))
  |.call { callee:=.value (.tmp t),args:=args,.. }=>(match cC st t with
   |.one (.fn g rs xs)=>(match xs[0]? with | some x=>qR S st g (args.toList.map (mC st)++uL rs x) | none=>true)
   |_=>true)
  |_=>true
 |.last=>true
noncomputable def sw (ops:List Oper):Pl→St→(St→Option R)→Option R
 |.nil,st,k=>k st
 |.op i kd r,st,k=>match nth ops i with
  |some o=>bif kindOk S st o kd then (yN T S ops st o).fold fun bd=>sw ops r bd k else none
  |none=>none
 |.alt p q,st,k=>both (sw ops p st k) (sw ops q st k)
abbrev qt (R:Type):=Nat→Code→St→(Ex→St→Option R)→Option R
abbrev nq:=Nat→Pl
noncomputable def gq (D:nq) (L:qt R):Code→St→(Ex→St→Option R)→Option R
 |.skip,st,k=>k .normal st
 |.region _ ops false,st,k=>PJ T S ops.toList ops.toList st fun bd=>k .normal bd
 |.region id ops true,st,k=>sw T S ops.toList (D id) st fun bd=>k .normal bd
 |.seq a b,st,k=>gq D L a st fun e bd=>match e with
  |.normal=>gq D L b bd k
  |e=>k e bd
 |.cond (.tmp c) a b,st,k=>match cC st c with
  |.one (.bool x)=>bif x then gq D L a (bn st (some c) (.one (.bool true))) k else gq D L b (bn st (some c) (.one (.bool false))) k
  |_=>none
 |.block id (.loop b),st,k=>L id b st k
 |.block id b,st,k=>gq D L b st fun e bd=>match e with
  |.exit n=>bif Nat.beq n id then k .normal bd else k (.exit n) bd
  |e=>k e bd
 |.exit id,st,k=>k (.exit id) st
 |.ret,st,k=>k .ret st
 |_,_,_=>none
end
end Go.TM
namespace Go.TM
open Go Go.RowKit
@[simp] theorem aby {α:Type} (n:Nat):nth ([]:List α) n=none:=rfl
theorem gX {α:Type} (l:List α) (n:Nat):nth l n=l[n]?:=by
 induction l generalizing n with
 |nil=>simp
 |cons x l ih=>cases n<;>simp [nth,ih]
theorem gY {α:Type} (f:α→α) (l:List α) (n:Nat):nth (mB f l n) n=(nth l n).map f:=by
 induction l generalizing n with
 |nil=>rfl
 |cons x l ih=>cases n<;>simp [mB,nth,ih]
theorem lj {α:Type} (f:α→α) (l:List α) {n m:Nat} (h:m≠n):nth (mB f l n) m=nth l m:=by
 induction l generalizing n m with
 |nil=>rfl
 |cons x l ih=>
  cases n with
  |zero=>cases m with
   |zero=>exact absurd rfl h
   |succ m=>rfl
  |succ n=>cases m with
   |zero=>rfl
   |succ m=>simp only [mB,nth];exact ih (by omega)
theorem dD {α:Type} (f:α→α) (l:List α) (n m:Nat):nth (mB f l n) m=if m=n then (nth l m).map f else nth l m:=by
 by_cases h:m=n
 ·subst h;simp [gY]
 ·simp [h,lj f l h]
theorem Ek {α:Type} {l:List α} {n:Nat} {x:α} (h:nth l n=some x):n<l.length:=by
 rw [gX] at h;exact (List.getElem?_eq_some_iff.1 h).1
def Jp {r:RT} (xs:den (.sl r)):List (ar r):=xs
mutual
def cE (w:World) (ok:Nat→Prop):(t:Ty)→Value→den t→Prop
 |.int k,v,n=>v=.int k n
 |.bool,v,b=>v=.bool b
 |.str,v,s=>v=.string s
 |.sl r,v,xs=>(v=.slice none 0 0∧Jp xs=[])∨
   ∃a cap,v=.slice (some a) (Jp xs).length cap∧(Jp xs).length≤cap∧
    (Jp xs≠[]→a.spot=none∧a.block<w.heap.size∧ok a.block)∧
    ∀i x,(Jp xs)[i]?=some x→dE w ok r a.block (a.off+i*r.width) x
def dE (w:World) (ok:Nat→Prop):(r:RT)→(b off:Nat)→ar r→Prop
 |.nil,_,_,_=>True
 |.cons t r,b,off,x=>(∃v,w.cell? ⟨b,off,none⟩=some v∧cE w ok t v x.1)∧dE w ok r b (off+1) x.2
end
theorem nI (w:World) (ok:Nat→Prop) (r:RT) (v:Value) (xs:List (ar r)):cE w ok (.sl r) v xs↔
  ((v=.slice none 0 0∧xs=[])∨∃a cap,v=.slice (some a) xs.length cap∧xs.length≤cap∧
    (xs≠[]→a.spot=none∧a.block<w.heap.size∧ok a.block)∧∀i x,xs[i]?=some x→dE w ok r a.block (a.off+i*r.width) x):=by
 have:=cE.eq_4 w ok v r xs;exact this▸Iff.rfl
theorem tL {w:World} {ok:Nat→Prop} {k:IntKind} {v:Value} {n:Int}:cE w ok (.int k) v n↔v=.int k n:=cE.eq_1 w ok v k n▸Iff.rfl
theorem rX {w:World} {ok:Nat→Prop} {v:Value} {b:Bool}:cE w ok .bool v b↔v=.bool b:=cE.eq_2 w ok v b▸Iff.rfl
theorem vh {w:World} {ok:Nat→Prop} {v:Value} {s:ByteArray}:cE w ok .str v s↔v=.string s:=cE.eq_3 w ok v s▸Iff.rfl
structure iH (w w':World) (ok xF:Nat→Prop):Prop where
 size:w.heap.size≤w'.heap.size
 block:∀b,b<w.heap.size→ok b→w'.heap[b]?=w.heap[b]?
 ok:∀b,b<w.heap.size→ok b→xF b
theorem Jq {w:World} {a:Addr} {v:Value} (h:w.cell? a=some v):a.block<w.heap.size:=World.block_lt_of_cell? w a h
mutual
theorem cE.stays {w w':World} {ok xF:Nat→Prop} (h:iH w w' ok xF):(t:Ty)→(v:Value)→(x:den t)→cE w ok t v x→cE w' xF t v x
 |.int _,_,_,hr=>by unfold cE at hr ⊢;exact hr
 |.bool,_,_,hr=>by unfold cE at hr ⊢;exact hr
 |.str,_,_,hr=>by unfold cE at hr ⊢;exact hr
 |.sl r,v,xs,hr=>by
  unfold cE at hr ⊢;rcases hr with hr | ⟨a,cap,hv,hc,ha,hx⟩
  ·exact .inl hr
  ·refine .inr ⟨a,cap,hv,hc,fun gr => ?_,fun i x hi => ?_⟩
   ·obtain ⟨hs,hb,gP⟩:=ha gr;exact ⟨hs,Nat.lt_of_lt_of_le hb h.size,h.ok _ hb gP⟩
   ·have gr:Jp xs≠[]:=by intro e;rw [e] at hi;simp at hi
    obtain ⟨hs,hb,gP⟩:=ha gr;exact dE.stays h r _ _ x (h.block _ hb gP) (hx i x hi)
theorem dE.stays {w w':World} {ok xF:Nat→Prop} (h:iH w w' ok xF):(r:RT)→(b off:Nat)→(x:ar r)→w'.heap[b]?=w.heap[b]?→dE w ok r b off x→dE w' xF r b off x
 |.nil,_,_,_,_,_=>by unfold dE;trivial
 |.cons t r,b,off,x,gP,hr=>by
  unfold dE at hr ⊢;obtain ⟨⟨v,hv,hx⟩,hr⟩:=hr;refine ⟨⟨v,?_,cE.stays h t v x.1 hx⟩,dE.stays h r b (off+1) x.2 gP hr⟩;rw [World.cell?_of_block (w:=w) gP];exact hv
end
inductive Loc where
 |nil
 |at (b off cap:Nat)
structure Cz where
 bx:Nat→Nat
 lc:Nat→Nat→Loc
 own:Nat→Option Lb
 rs:Nat→Option Lb:=fun _=>none  -- V9 is read alone,and held by aim one row of an array: of We
def Cz.ok (c:Cz) (b:Nat):Prop:=c.own b=none
def fP (st:St) (s:Nat):Nat:=match nth st s with | some x=>x.bg | none=>0
def dw (st:St) (s:Nat):Nat:=match nth st s with | some x=>x.ag | none=>0
def gm (l:Loc) (W lo n:Nat) (v:Value):Prop:=
 match l with
 |.nil=>v=.slice none 0 0∧n=0
 |.at b off cap=>∃a c,v=.slice (some a) n c∧n≤c∧lo+c≤cap∧(c≠0→a=⟨b,off+lo*W,none⟩)
mutual
def dP (w:World) (P:List Nat→Nat→Prop):(t:Ty)→(p:List Nat)→Value→den t→Prop
 |.int k,_,v,n=>v=.int k n
 |.bool,_,v,b=>v=.bool b
 |.str,_,v,s=>v=.string s
 |.sl r,p,v,xs=>∃lc:Loc,gm lc r.width 0 (Jp xs).length v∧v.oneCell'=true∧((lc=.nil∧Jp xs=[])∨∃b off cap,lc=.at b off cap∧
   P p b∧(Jp xs).length≤cap∧(∃cur ty,w.heap[b]?=some (.cells cur ty (0,0))∧off+cap*r.width≤cur.size)∧
    ∀i x,(Jp xs)[i]?=some x→fl w P r (p++[i]) 0 b (off+i*r.width) x)
def fl (w:World) (P:List Nat→Nat→Prop):(r:RT)→(p:List Nat)→(k b off:Nat)→ar r→Prop
 |.nil,_,_,_,_,_=>True
 |.cons t r,p,k,b,off,x=>(∃v,w.cell? ⟨b,off,none⟩=some v∧dP w P t (p++[k]) v x.1)∧fl w P r p (k+1) b (off+1) x.2
end
theorem vi (w:World) (P:List Nat→Nat→Prop) (r:RT) (p:List Nat) (v:Value) (xs:List (ar r)):dP w P (.sl r) p v xs↔
  ∃lc:Loc,gm lc r.width 0 xs.length v∧v.oneCell'=true∧((lc=.nil∧xs=[])∨∃b off cap,lc=.at b off cap∧
   P p b∧xs.length≤cap∧(∃cur ty,w.heap[b]?=some (.cells cur ty (0,0))∧off+cap*r.width≤cur.size)∧
    ∀(i:Nat) x,xs[i]?=some x→fl w P r (p++[i]) 0 b (off+i*r.width) x):=by
 have:=dP.eq_4 w P p v r xs;exact this▸Iff.rfl
theorem wZ {w:World} {P:List Nat→Nat→Prop} {k:IntKind} {p:List Nat} {v:Value} {n:Int}:dP w P (.int k) p v n↔v=.int k n:=dP.eq_1 w P p v k n▸Iff.rfl
theorem tM {w:World} {P:List Nat→Nat→Prop} {p:List Nat} {v:Value} {n:Bool}:dP w P .bool p v n↔v=.bool n:=dP.eq_2 w P p v n▸Iff.rfl
theorem w6 {w:World} {P:List Nat→Nat→Prop} {p:List Nat} {v:Value} {n:ByteArray}:dP w P .str p v n↔v=.string n:=dP.eq_3 w P p v n▸Iff.rfl
mutual
theorem dP.go {w w':World} {P P':List Nat→Nat→Prop}:(t:Ty)→(p p':List Nat)→(hP:∀q b,P (p++q) b→w'.heap[b]?=w.heap[b]?∧P' (p'++q) b)→(v:Value)→(x:den t)→dP w P t p v x→dP w' P' t p' v x
 |.int _,_,_,_,_,_,h=>by unfold dP at h ⊢;exact h
 |.bool,_,_,_,_,_,h=>by unfold dP at h ⊢;exact h
 |.str,_,_,_,_,_,h=>by unfold dP at h ⊢;exact h
 |.sl r,p,p',hP,v,xs,h=>by
  unfold dP at h ⊢;obtain ⟨lc,h1,h0,h2⟩:=h;refine ⟨lc,h1,h0,h2.imp id ?_⟩
  rintro ⟨b,off,cap,e,h3,h4,⟨cur,ty,h5,h6⟩,h7⟩
  obtain ⟨hw,hb⟩:=hP [] b (by simpa using h3);refine ⟨b,off,cap,e,by simpa using hb,h4,⟨cur,ty,by rw [hw];exact h5,h6⟩,fun i x hx=>fl.go r (p++[i]) (p'++[i]) (fun q k hk => ?_) 0 b _ x hw (h7 i x hx)⟩;have:=hP ([i]++q) k (by rw [←List.append_assoc];exact hk);rw [←List.append_assoc] at this;exact this
theorem fl.go {w w':World} {P P':List Nat→Nat→Prop}:(r:RT)→(p p':List Nat)→(hP:∀q b,P (p++q) b→w'.heap[b]?=w.heap[b]?∧P' (p'++q) b)→(k b off:Nat)→(x:ar r)→w'.heap[b]?=w.heap[b]?→fl w P r p k b off x→fl w' P' r p' k b off x
 |.nil,_,_,_,_,_,_,_,_,_=>by unfold fl;trivial
 |.cons t r,p,p',hP,k,b,off,x,hw,h=>by
  unfold fl at h ⊢;obtain ⟨⟨v,h1,h2⟩,h3⟩:=h;refine ⟨⟨v,by rw [World.cell?_of_block (w:=w) hw];exact h1,dP.go t (p++[k]) (p'++[k]) (fun q b hb => ?_) v x.1 h2⟩,fl.go r p p' hP (k+1) b (off+1) x.2 hw h3⟩;have:=hP ([k]++q) b (by rw [←List.append_assoc];exact hb);rw [←List.append_assoc] at this;exact this
end
theorem tN {lc:Loc} {W lo n:Nat} {v:Value} (h:gm lc W lo n v):(v=.slice none 0 0∧n=0)∨∃b off cap a c,lc=.at b off cap∧v=.slice (some a) n c∧n≤c∧lo+c≤cap∧(c≠0→a=⟨b,off+lo*W,none⟩):=by
 cases lc with
 |nil=>exact .inl h
 |«at» b off cap=>
  obtain ⟨a,c,h1,h2,h3,h4⟩:=h;exact .inr ⟨b,off,cap,a,c,rfl,h1,h2,h3,h4⟩
mutual
theorem dP.rep {w:World} {P:List Nat→Nat→Prop} {ok:Nat→Prop} (hP:∀p b,P p b→ok b):(t:Ty)→(p:List Nat)→(v:Value)→(x:den t)→dP w P t p v x→cE w ok t v x
 |.int _,_,_,_,h=>by unfold dP at h;unfold cE;exact h
 |.bool,_,_,_,h=>by unfold dP at h;unfold cE;exact h
 |.str,_,_,_,h=>by unfold dP at h;unfold cE;exact h
 |.sl r,p,v,xs,h=>by
  unfold dP at h;unfold cE;obtain ⟨lc,h1,h0,h2⟩:=h;rcases tN h1 with ⟨e1,e2⟩ | ⟨b,off,cap,a,c,e1,e2,e3,e4,e5⟩
  ·exact .inl ⟨e1,List.length_eq_zero_iff.1 e2⟩
  ·rcases h2 with ⟨e,_⟩ | ⟨b',PK,El,e,h3,h4,⟨cur,ty,h5,h6⟩,h7⟩
   ·rw [e] at e1;cases e1
   ·rw [e] at e1;injection e1 with q1 q2 q3;subst q1 q2 q3;have gr:Jp xs≠[]→a=⟨b',PK,none⟩:=by
     intro gr;have:=List.length_pos_iff.2 gr;have:=e5 (by omega);simpa using this
    refine .inr ⟨a,c,e2,e3,fun hn => ?_,fun i x hx => ?_⟩
    ·rw [gr hn];exact ⟨rfl,(Array.getElem?_eq_some_iff.1 h5).1,hP _ _ h3⟩
    ·rw [gr (by intro e;rw [e] at hx;simp at hx)];exact fl.rep hP r _ 0 b' _ x (h7 i x hx)
theorem fl.rep {w:World} {P:List Nat→Nat→Prop} {ok:Nat→Prop} (hP:∀p b,P p b→ok b):(r:RT)→(p:List Nat)→(k b off:Nat)→(x:ar r)→fl w P r p k b off x→dE w ok r b off x
 |.nil,_,_,_,_,_,_=>by unfold dE;trivial
 |.cons t r,p,k,b,off,x,h=>by
  unfold fl at h;unfold dE;obtain ⟨⟨v,h1,h2⟩,h3⟩:=h;exact ⟨⟨v,h1,dP.rep hP t _ v x.1 h2⟩,fl.rep hP r p (k+1) b (off+1) x.2 h3⟩
end
def Cz.CG (c:Cz) (w:World) (l:Lb) (k:Nat):Prop:=c.own k=none∧c.rs k=some l∧k<w.heap.size
def bF (c:Cz) (w:World) (l:Lb) (A:gM) (b off:Nat):Prop:=
 match A.md with
 |.sh=>∀(i:Nat) x,A.xs[i]?=some x→dE w c.ok A.r b (off+i*A.r.width) x
 |.dp=>∃g:Nat→List Nat,g b=[]∧∀(i:Nat) x,A.xs[i]?=some x→fl w (fun p k=>c.own k=some l∧g k=p) A.r [i] 0 b (off+i*A.r.width) x
 |.ho q=>A.own=true→∃g:Nat→List Nat,g b=[]∧∀(i:Nat) x,i≠q→A.xs[i]?=some x→fl w (fun p k=>c.own k=some l∧g k=p) A.r [i] 0 b (off+i*A.r.width) x
 |.lz=>∃g:Nat→List Nat,∀(i:Nat) x,A.xs[i]?=some x→fl w (fun p k=>c.CG w l k∧g k=p) A.r [i] 0 b (off+i*A.r.width) x
theorem bF.go {c c':Cz} {w w':World} {l l':Lb} {A:gM} {b off:Nat} (h:bF c w l A b off) (hs:A.md=.sh→iH w w' c.ok c'.ok) (hb:w'.heap[b]?=w.heap[b]?)
  (hd:A.md≠.sh→∀k,c.own k=some l→w'.heap[k]?=w.heap[k]?∧c'.own k=some l') (hz:A.md=.lz→∀k,c.CG w l k→w'.heap[k]?=w.heap[k]?∧c'.CG w' l' k):bF c' w' l' A b off:=by
 unfold bF at h ⊢
 cases hm:A.md with
 |sh=>rw [hm] at h;exact fun i x hx=>dE.stays (hs hm) _ _ _ _ hb (h i x hx)
 |lz=>
  rw [hm] at h;obtain ⟨g,h2⟩:=h;exact ⟨g,fun i x hx=>fl.go _ [i] [i] (fun q k hk=>⟨(hz hm k hk.1).1,(hz hm k hk.1).2,hk.2⟩) _ _ _ _ hb (h2 i x hx)⟩
 |dp=>
  rw [hm] at h;obtain ⟨g,h1,h2⟩:=h;exact ⟨g,h1,fun i x hx=>fl.go _ [i] [i] (fun q k hk=>⟨(hd (by rw [hm];simp) k hk.1).1,(hd (by rw [hm];simp) k hk.1).2,hk.2⟩) _ _ _ _ hb (h2 i x hx)⟩
 |ho q=>
  rw [hm] at h;intro ho;obtain ⟨g,h1,h2⟩:=h ho;exact ⟨g,h1,fun i x hq hx=>fl.go _ [i] [i] (fun q k hk=>⟨(hd (by rw [hm];simp) k hk.1).1,(hd (by rw [hm];simp) k hk.1).2,hk.2⟩) _ _ _ _ hb (h2 i x hq hx)⟩
theorem bF.sh {c:Cz} {w:World} {l:Lb} {A:gM} {b off:Nat} (hm:A.md=.sh):bF c w l A b off↔∀(i:Nat) x,A.xs[i]?=some x→dE w c.ok A.r b (off+i*A.r.width) x:=by
 unfold bF;rw [hm]
def Da (w:World) (ok:Nat→Prop) (r:RT) (v:Value) (xs:List (ar r)):Prop:=
 ∃b o,v=.pointer (some ⟨b,o,none⟩)∧b<w.heap.size∧ok b∧∀x,xs[0]?=some x→dE w ok r b o x
def tO (w:World) (ok:Nat→Prop):(rs:RT)→List Value→ar rs→Prop
 |.nil,vs,_=>vs=[]
 |.cons (.sl r) rs,vs,x=>∃v l,vs=v::l∧Da w ok r v (Jp x.1)∧tO w ok rs l x.2
 |.cons _ _,_,_=>False
def FnAt (w:World) (ok:Nat→Prop) (g:Nat) (rs:RT) (v:Value) (xs:List (ar rs)):Prop:=
 ∃wF,v=.func (.func g) #[] wF∧∀x,xs[0]?=some x→tO w ok rs wF.toList x
theorem Da.stays {w w':World} {ok xF:Nat→Prop} (h:iH w w' ok xF) {r:RT} {v:Value} {xs:List (ar r)} (hp:Da w ok r v xs):Da w' xF r v xs:=by
 obtain ⟨b,o,h1,h2,h3,h4⟩:=hp;exact ⟨b,o,h1,Nat.lt_of_lt_of_le h2 h.size,h.ok b h2 h3,fun x hx=>dE.stays h r b o x (h.block b h2 h3) (h4 x hx)⟩
theorem tO.stays {w w':World} {ok xF:Nat→Prop} (h:iH w w' ok xF):(rs:RT)→(vs:List Value)→(x:ar rs)→tO w ok rs vs x→tO w' xF rs vs x
 |.nil,_,_,hc=>hc
 |.cons (.sl r) rs,vs,x,hc=>by
  obtain ⟨v,l,h1,h2,h3⟩:=hc;exact ⟨v,l,h1,h2.stays h,tO.stays h rs l x.2 h3⟩
 |.cons (.int _) _,_,_,hc=>hc.elim
 |.cons .bool _,_,_,hc=>hc.elim
 |.cons .str _,_,_,hc=>hc.elim
theorem FnAt.stays {w w':World} {ok xF:Nat→Prop} (h:iH w w' ok xF) {g:Nat} {rs:RT} {v:Value} {xs:List (ar rs)} (hf:FnAt w ok g rs v xs):FnAt w' xF g rs v xs:=by
 obtain ⟨wF,h1,h2⟩:=hf;exact ⟨wF,h1,fun x hx=>tO.stays h rs _ x (h2 x hx)⟩
def jv (c:Cz) (st:St) (w:World):CV→Value→Prop
 |.bad,_=>True
 |.int k n,v=>v=.int k n
 |.bool b,v=>v=.bool b
 |.str s,v=>v=.string s
 |.dY,v=>v=.slice none 0 0
 |.HH,v=>v=.pointer none
 |.shr r xs,v=>cE w c.ok (.sl r) v xs
 |.nn r xs,v=>cE w c.ok (.sl r) v xs∧v≠.slice none 0 0
 |.ref a j g vw,v=>v.oneCell'=true∧g≤dw st a∧∀A,aV st a j g=some A→gm (c.lc a j) A.r.width vw.lo (vw.app A.xs).length v
 |.ptr b g off,v=>v.oneCell'=true∧g≤fP st b∧∀cs,dH st b g=some cs→v=.pointer (some ⟨c.bx b,off,none⟩)
 |.FL a j g i off,v=>v.oneCell'=true∧g≤dw st a∧∀A,aV st a j g=some A→i<A.xs.length∧∃b o cap,c.lc a j=.at b o cap∧v=.pointer (some ⟨b,o+i*A.r.width+off,none⟩)
 |.me r x off,v=>∃b o,v=.pointer (some ⟨b,o+off,none⟩)∧b<w.heap.size∧c.ok b∧dE w c.ok r b o x
 |.su r xs off,v=>∃b o,v=.pointer (some ⟨b,o+off,none⟩)∧b<w.heap.size∧c.ok b∧∀x,xs[0]?=some x→dE w c.ok r b o x
 |.fn g rs xs,v=>FnAt w c.ok g rs v xs
 |.HI a j g e i k q ys,v=>v.oneCell'=true∧g≤dw st a∧e≤kc st a∧∀A,aV st a j g=some A→kc st a=e→
   A.md=.dp∧(∃x,A.xs[i]?=some x∧lh A.r x k=some ⟨q,ys⟩)∧∃b o cap v0,c.lc a j=.at b o cap∧w.cell? ⟨b,o+i*A.r.width+k,none⟩=some v0∧∃lc:Loc,gm lc q.width 0 ys.length v∧gm lc q.width 0 ys.length v0
 |.pI a j g e i k q ys,v=>v.oneCell'=true∧g≤dw st a∧e≤kc st a∧∀A,aV st a j g=some A→kc st a=e→
   A.md=.dp∧(∃x,A.xs[i]?=some x∧lh A.r x k=some ⟨q,ys⟩)∧∃b o cap,c.lc a j=.at b o cap∧w.cell? ⟨b,o+i*A.r.width+k,none⟩=some v
def fF (c:Cz) (st:St) (w:World) (cs:List CV) (vs:List Value):Prop:=
 cs.length=vs.length∧∀(i:Nat) x v,cs[i]?=some x→vs[i]?=some v→jv c st w x v
def xG (c:Cz) (st:St) (w:World):V→Value→Prop
 |.one x,v=>jv c st w x v
 |.agg cs,v=>∃vs,v=.agg vs∧fF c st w cs vs.toList
 |.nC _,_=>False
def eK (c:Cz) (st:St) (w:World):V→Value→Prop
 |.nC us,v=>∃vs,v=.tuple vs∧us.length=vs.size∧∀(i:Nat) x y,us[i]?=some x→vs[i]?=some y→xG c st w x y
 |x,v=>xG c st w x v
def sV (c:Cz) (st:St) (w:World) (s:Nat) (cs:List CV):Prop:=
 c.own (c.bx s)=some (.box s)∧∃vs ty,w.heap[c.bx s]?=some (.cells vs ty (0,0))∧fF c st w cs vs.toList
def cq (c:Cz) (w:World) (s j:Nat) (A:gM):Prop:=
 match c.lc s j with
 |.nil=>A.xs=[]
 |.at b off cap=>(match A.own with | true=>c.own b=some (.sp s j) | false=>c.own b=none)∧A.xs.length≤cap∧
   (∃cur ty,w.heap[b]?=some (.cells cur ty (0,0))∧off+cap*A.r.width≤cur.size)∧
   bF c w (.sp s j) A b off
inductive KA where
 |arr (a j g W n:Nat) (l:Loc)
 |box (b g oq:Nat)
def PL (c:Cz) (st:St):KA→Prop
 |.arr a j g W n l=>g≤dw st a∧∀A,aV st a j g=some A→A.r.width=W∧A.xs.length=n∧c.lc a j=l
 |.box b g oq=>g≤fP st b∧∀cs,dH st b g=some cs→c.bx b=oq
structure Mu where
 m:Nat→Prop
 ok:Nat→Prop
 an:List KA
 rs:Nat→Prop:=fun _=>False  -- V9 a CK PG rows hold,and others may read
structure Rel (w0:World) (mu:Mu) (c:Cz) (st:St) (a:Act) (w:World):Prop where
 ey:∀t,eK c st w (cC st t) (a.eval (.tmp t))
 boxes:∀s sl cs,nth st s=some sl→sl.box=some cs→sV c st w s cs
 aK:∀s j sl A,nth st s=some sl→nth sl.aK j=some (some A)→cq c w s j A
 owned:∀b l,c.own b=some l→b<w.heap.size∧(l=.out∨w0.heap.size≤b∨mu.m b)
 free:∀b,b<w0.heap.size→c.own b=none→mu.m b∨mu.ok b
 kept:w.os=w0.os∧w.tape=w0.tape∧w.output=w0.output∧w0.heap.size≤w.heap.size
 old:∀k,k<w0.heap.size→¬mu.m k→w.heap[k]?=w0.heap[k]?
 plain:a.defers=[]
 dF:∀p∈mu.an,PL c st p
 mT:∀b l,c.rs b=some l→b<w.heap.size∧(w0.heap.size≤b∨mu.m b∨mu.rs b)
end Go.TM
namespace Go.TM
open Go Go.RowKit
theorem aJ {α:Type} {b:Bool} {x:Option α} {y:α} (h:(bif b then x else none)=some y):b=true∧x=some y:=by
 cases b
 ·simp at h
 ·exact ⟨rfl,h⟩
theorem dx {b:Bool} {x:N} {y:St} (h:(bif b then x else N.fail).val=some y):b=true∧x.val=some y:=by
 cases b
 ·simp [N.val] at h
 ·exact ⟨rfl,h⟩
theorem bt {st:St} {a j g:Nat} {A:gM} (h:aV st a j g=some A):∃sl,nth st a=some sl∧sl.ag=g∧nth sl.aK j=some (some A):=by
 unfold aV at h
 cases hs:nth st a with
 |none=>simp [hs] at h
 |some sl=>
  simp only [hs] at h;obtain ⟨h1,h2⟩:=aJ h;refine ⟨sl,rfl,Nat.eq_of_beq_eq_true h1,?_⟩
  cases hj:nth sl.aK j with
  |none=>simp [hj] at h2
  |some o=>cases o with
   |none=>simp [hj] at h2
   |some B=>simp [hj] at h2;rw [h2]
theorem iN {st:St} {b g:Nat} {cs:List CV} (h:dH st b g=some cs):∃sl,nth st b=some sl∧sl.bg=g∧sl.box=some cs:=by
 unfold dH at h
 cases hs:nth st b with
 |none=>simp [hs] at h
 |some sl=>
  simp only [hs] at h;obtain ⟨h1,h2⟩:=aJ h;exact ⟨sl,rfl,Nat.eq_of_beq_eq_true h1,h2⟩
theorem View.HQ {r s:RT} (w:View) (xs:List (ar r)) (ys:List (ar s)) (h:xs.length=ys.length):(w.app xs).length=(w.app ys).length:=by
 cases w<;>simp [View.app,h]
structure Fw (c:Cz) (st:St) (w:World) (c':Cz) (bd:St) (w':World):Prop where
 stays:iH w w' c.ok c'.ok
 refs:∀a j g A',g≤dw st a→aV bd a j g=some A'→∃A,aV st a j g=some A∧A'.r.width=A.r.width∧A'.xs.length=A.xs.length∧c'.lc a j=c.lc a j∧
  (kc bd a=kc st a→A'=A∧∀b o cap,c.lc a j=.at b o cap→w'.heap[b]?=w.heap[b]?)
 yO:∀b g mf,g≤fP st b→dH bd b g=some mf→(∃cs,dH st b g=some cs)∧c'.bx b=c.bx b
 gA:∀a,dw st a≤dw bd a
 gB:∀b,fP st b≤fP bd b
 gE:∀a,kc st a≤kc bd a
theorem Fw.MU {c:Cz} {st:St} {w:World} {c':Cz} {bd:St} {w':World} (h:Fw c st w c' bd w') {x:CV} {v:Value} (hr:jv c st w x v):jv c' bd w' x v:=by
 cases x with
 |bad=>trivial
 |int k n=>exact hr
 |bool b=>exact hr
 |str s=>exact hr
 |dY=>exact hr
 |HH=>exact hr
 |shr r xs=>exact cE.stays h.stays _ _ _ hr
 |nn r xs=>exact ⟨cE.stays h.stays _ _ _ hr.1,hr.2⟩
 |ref a j g vw=>
  refine ⟨hr.1,Nat.le_trans hr.2.1 (h.gA a),fun A' eE => ?_⟩;obtain ⟨A,hA,hw,hl,iy,_⟩:=h.refs a j g A' hr.2.1 eE;have:=hr.2.2 A hA;rw [iy,hw,View.HQ vw A'.xs A.xs hl];exact this
 |ptr b g off=>
  refine ⟨hr.1,Nat.le_trans hr.2.1 (h.gB b),fun cs uZ => ?_⟩;obtain ⟨⟨Eh,h0⟩,hb⟩:=h.yO b g cs hr.2.1 uZ;rw [hb];exact hr.2.2 Eh h0
 |FL a j g i off=>
  refine ⟨hr.1,Nat.le_trans hr.2.1 (h.gA a),fun A' eE => ?_⟩;obtain ⟨A,hA,hw,hl,iy,_⟩:=h.refs a j g A' hr.2.1 eE;have:=hr.2.2 A hA;rw [iy,hw,hl];exact this
 |HI a j g e i k q ys=>
  obtain ⟨h1,h2,h3,h4⟩:=hr;refine ⟨h1,Nat.le_trans h2 (h.gA a),Nat.le_trans h3 (h.gE a),fun A' eE he => ?_⟩;obtain ⟨A,hA,hw,hl,iy,hs⟩:=h.refs a j g A' h2 eE;have PM:kc bd a=kc st a:=by have:=h.gE a;omega
  obtain ⟨rfl,hb⟩:=hs PM;obtain ⟨k1,k2,b,o,cap,v0,k3,k4,k5⟩:=h4 A' hA (by omega);exact ⟨k1,k2,b,o,cap,v0,by rw [iy];exact k3,by rw [World.cell?_of_block (w:=w) (hb b o cap k3)];exact k4,k5⟩
 |pI a j g e i k q ys=>
  obtain ⟨h1,h2,h3,h4⟩:=hr;refine ⟨h1,Nat.le_trans h2 (h.gA a),Nat.le_trans h3 (h.gE a),fun A' eE he => ?_⟩;obtain ⟨A,hA,hw,hl,iy,hs⟩:=h.refs a j g A' h2 eE;have PM:kc bd a=kc st a:=by have:=h.gE a;omega
  obtain ⟨rfl,hb⟩:=hs PM;obtain ⟨k1,k2,b,o,cap,k3,k4⟩:=h4 A' hA (by omega);exact ⟨k1,k2,b,o,cap,by rw [iy];exact k3,by rw [World.cell?_of_block (w:=w) (hb b o cap k3)];exact k4⟩
 |me r x off=>
  obtain ⟨b,o,hv,hb,gP,hx⟩:=hr;exact ⟨b,o,hv,Nat.lt_of_lt_of_le hb h.stays.size,h.stays.ok b hb gP,dE.stays h.stays r b o x (h.stays.block b hb gP) hx⟩
 |su r xs off=>
  obtain ⟨b,o,hv,hb,gP,hx⟩:=hr;exact ⟨b,o,hv,Nat.lt_of_lt_of_le hb h.stays.size,h.stays.ok b hb gP,fun x uM=>dE.stays h.stays r b o x (h.stays.block b hb gP) (hx x uM)⟩
 |fn g rs xs=>exact FnAt.stays h.stays hr
theorem Fw.MV {c:Cz} {st:St} {w:World} {c':Cz} {bd:St} {w':World} (h:Fw c st w c' bd w') {cs:List CV} {vs:List Value} (hr:fF c st w cs vs):fF c' bd w' cs vs:=
 ⟨hr.1,fun i x v hx hv=>h.MU (hr.2 i x v hx hv)⟩
theorem Fw.MW {c:Cz} {st:St} {w:World} {c':Cz} {bd:St} {w':World} (h:Fw c st w c' bd w') {x:V} {v:Value} (hr:xG c st w x v):xG c' bd w' x v:=by
 cases x with
 |one x=>exact h.MU hr
 |agg cs=>obtain ⟨vs,hv,hl⟩:=hr;exact ⟨vs,hv,h.MV hl⟩
 |nC us=>exact hr
theorem Fw.la {c:Cz} {st:St} {w:World} {c':Cz} {bd:St} {w':World} (h:Fw c st w c' bd w') {x:V} {v:Value} (hr:eK c st w x v):eK c' bd w' x v:=by
 cases x with
 |one x=>exact h.MW (x:=.one x) hr
 |agg cs=>exact h.MW (x:=.agg cs) hr
 |nC us=>
  obtain ⟨vs,hv,hl,he⟩:=hr;exact ⟨vs,hv,hl,fun i x y hx hy=>h.MW (he i x y hx hy)⟩
theorem Fw.dF {c:Cz} {st:St} {w:World} {c':Cz} {bd:St} {w':World} (h:Fw c st w c' bd w') {p:KA} (hp:PL c st p):PL c' bd p:=by
 cases p with
 |arr a j g W n l=>
  refine ⟨Nat.le_trans hp.1 (h.gA a),fun A' eE => ?_⟩;obtain ⟨A,hA,hw,hl,iy,_⟩:=h.refs a j g A' hp.1 eE;obtain ⟨h1,h2,h3⟩:=hp.2 A hA;exact ⟨hw.trans h1,hl.trans h2,iy.trans h3⟩
 |box b g oq=>
  refine ⟨Nat.le_trans hp.1 (h.gB b),fun cs uZ => ?_⟩;obtain ⟨⟨Eh,h0⟩,hb⟩:=h.yO b g cs hp.1 uZ;exact hb.trans (hp.2 Eh h0)
theorem cq.go {c c':Cz} {w w':World} {s j:Nat} {A:gM} (h:cq c w s j A) (hs:iH w w' c.ok c'.ok) (hl:c'.lc s j=c.lc s j)
  (hb:∀b,c.own b=some (.sp s j)→w'.heap[b]?=w.heap[b]?∧c'.own b=c.own b) (hz:∀b,c.own b=none→b<w.heap.size→c.rs b=some (.sp s j)→c'.rs b=some (.sp s j):=by intro _ _ _ h;exact h):cq c' w' s j A:=by
 unfold cq at h ⊢;rw [hl]
 cases hc:c.lc s j with
 |nil=>simpa [hc] using h
 |«at» b off cap=>
  rw [hc] at h;obtain ⟨h1,h2,⟨cur,ty,h3,h4⟩,h5⟩:=h;have dG:b<w.heap.size:=(Array.getElem?_eq_some_iff.1 h3).1;have hwo:w'.heap[b]?=w.heap[b]?∧c'.own b=c.own b:=by
   cases ho:A.own with
   |true=>rw [ho] at h1;exact hb b h1
   |false=>rw [ho] at h1;exact ⟨hs.block b dG h1,(hs.ok b dG h1:c'.own b=none).trans h1.symm⟩
  refine ⟨?_,h2,⟨cur,ty,by rw [hwo.1];exact h3,h4⟩,h5.go (fun _=>hs) hwo.1 (fun _ k hk=>⟨(hb k hk).1,(hb k hk).2.trans hk⟩) (fun _ k hk=>⟨hs.block k hk.2.2 hk.1,hs.ok k hk.2.2 hk.1,hz k hk.1 hk.2.2 hk.2.1,Nat.lt_of_lt_of_le hk.2.2 hs.size⟩)⟩;rw [hwo.2];exact h1
theorem sV.go {c:Cz} {st:St} {w:World} {c':Cz} {bd:St} {w':World} (h:Fw c st w c' bd w') {s:Nat} {cs:List CV} (hb:sV c st w s cs)
  (hx:c'.bx s=c.bx s) (ho:c'.own (c.bx s)=c.own (c.bx s)) (hw:w'.heap[c.bx s]?=w.heap[c.bx s]?):sV c' bd w' s cs:=by
 obtain ⟨h1,vs,ty,h2,h3⟩:=hb;exact ⟨by rw [hx,ho];exact h1,vs,ty,by rw [hx,hw];exact h2,h.MV h3⟩
theorem KB (st:St) (d:Option Nat) (v:V) (t:Nat):cC (bn st d v) t=if d=some t∧t<st.length then v else cC st t:=by
 cases d with
 |none=>simp [bn]
 |some u=>
  unfold cC bn;rw [dD]
  by_cases h:t=u
  ·subst h;simp only [if_true,true_and]
   by_cases hl:t<st.length
   ·have:nth st t=some st[t]:=by rw [gX];exact List.getElem?_eq_getElem hl
    simp [this,hl]
   ·have:nth st t=none:=by rw [gX];exact List.getElem?_eq_none (by omega)
    simp [this,hl]
  ·have:¬(some u=some t∧t<st.length):=by rintro ⟨e,_⟩;exact h (Option.some.inj e).symm
   rw [if_neg h,if_neg this]
theorem ra (st:St) (d:Option Nat) (v:V) (s:Nat):∃f:Sl→Sl,(∀x,(f x).box=x.box∧(f x).bg=x.bg∧(f x).aK=x.aK∧(f x).ag=x.ag∧(f x).ep=x.ep)∧nth (bn st d v) s=(nth st s).map f:=by
 cases d with
 |none=>exact ⟨id,fun _=>⟨rfl,rfl,rfl,rfl,rfl⟩,by simp [bn]⟩
 |some t=>
  unfold bn
  by_cases h:s=t
  ·subst h;exact ⟨fun x=>{ x with v:=v },fun _=>⟨rfl,rfl,rfl,rfl,rfl⟩,gY _ _ _⟩
  ·exact ⟨id,fun _=>⟨rfl,rfl,rfl,rfl,rfl⟩,by simp [lj _ _ h]⟩
theorem KC (st:St) (d:Option Nat) (v:V) (a j g:Nat):aV (bn st d v) a j g=aV st a j g:=by
 obtain ⟨f,hf,hn⟩:=ra st d v a;unfold aV;rw [hn]
 cases nth st a with
 |none=>rfl
 |some s=>obtain ⟨_,_,h3,h4,_⟩:=hf s;simp [h3,h4]
theorem KD (st:St) (d:Option Nat) (v:V) (b g:Nat):dH (bn st d v) b g=dH st b g:=by
 obtain ⟨f,hf,hn⟩:=ra st d v b;unfold dH;rw [hn]
 cases nth st b with
 |none=>rfl
 |some s=>obtain ⟨h1,h2,_,_,_⟩:=hf s;simp [h1,h2]
theorem KE (st:St) (d:Option Nat) (v:V) (a:Nat):dw (bn st d v) a=dw st a:=by
 obtain ⟨f,hf,hn⟩:=ra st d v a;unfold dw;rw [hn]
 cases nth st a with
 |none=>rfl
 |some s=>exact (hf s).2.2.2.1
theorem MX (st:St) (d:Option Nat) (v:V) (a:Nat):kc (bn st d v) a=kc st a:=by
 obtain ⟨f,hf,hn⟩:=ra st d v a;unfold kc;rw [hn]
 cases nth st a with
 |none=>rfl
 |some s=>exact (hf s).2.2.2.2
theorem KG (st:St) (d:Option Nat) (v:V) (a:Nat):fP (bn st d v) a=fP st a:=by
 obtain ⟨f,hf,hn⟩:=ra st d v a;unfold fP;rw [hn]
 cases nth st a with
 |none=>rfl
 |some s=>exact (hf s).2.1
theorem iH.refl (w:World) (ok:Nat→Prop):iH w w ok ok:=⟨Nat.le_refl _,fun _ _ _=>rfl,fun _ _ h=>h⟩
theorem Fw.bn (c:Cz) (st:St) (w:World) (d:Option Nat) (v:V):Fw c st w c (bn st d v) w where
 stays:=iH.refl w _
 refs a j g A' _ h:=⟨A',by rwa [KC] at h,rfl,rfl,rfl,fun _=>⟨rfl,fun _ _ _ _=>rfl⟩⟩
 yO b g mf _ h:=⟨⟨mf,by rwa [KD] at h⟩,rfl⟩
 gA a:=by rw [KE];exact Nat.le_refl _
 gB a:=by rw [KG];exact Nat.le_refl _
 gE a:=by rw [MX];exact Nat.le_refl _
theorem eval_put (a:Act) (d:Option Tmp) (v:Value) (t:Nat):(a.put d v).eval (.tmp t)=if d=some t∧t<a.tmps.size then v else a.eval (.tmp t):=by
 cases d with
 |none=>simp [Act.put]
 |some u=>
  simp only [Act.put,Act.eval,Array.getD_eq_getD_getElem?,Array.getElem?_setIfInBounds]
  by_cases h:u=t
  ·subst h
   by_cases hl:u<a.tmps.size<;>simp [hl]
  ·have:¬(some u=some t∧t<a.tmps.size):=by rintro ⟨e,_⟩;exact h (Option.some.inj e)
   rw [if_neg this];simp [h]
theorem Rel.bn {w0:World} {mu:Mu} {c:Cz} {st:St} {a:Act} {w:World} (h:Rel w0 mu c st a w) {d:Option Nat} {v:V} {u:Value}
  (hv:eK c st w v u) (hd:∀t,d=some t→t<a.tmps.size):Rel w0 mu c (bn st d v) (a.put d u) w where
 ey t:=by
  have hg:=Fw.bn c st w d v;rw [KB,eval_put]
  by_cases Wf:d=some t
  ·have:=hd t Wf
   by_cases hl:t<st.length
   ·rw [if_pos ⟨Wf,hl⟩,if_pos ⟨Wf,this⟩];exact hg.la hv
   ·have e:cC st t=.one .bad:=by
     unfold cC;rw [gX,List.getElem?_eq_none (by omega)]
    rw [if_neg (fun h=>hl h.2),e];trivial
  ·rw [if_neg (fun h=>Wf h.1),if_neg (fun h=>Wf h.1)];exact hg.la (h.ey t)
 boxes s sl cs hs hb:=by
  obtain ⟨f,hf,hn⟩:=ra st d v s;rw [hn] at hs
  cases hx:nth st s with
  |none=>rw [hx] at hs;simp at hs
  |some s0=>
   rw [hx] at hs;simp at hs;subst hs;rw [(hf s0).1] at hb;exact (h.boxes s s0 cs hx hb).go (Fw.bn c st w d v) rfl rfl rfl
 aK s j sl A hs hb:=by
  obtain ⟨f,hf,hn⟩:=ra st d v s;rw [hn] at hs
  cases hx:nth st s with
  |none=>rw [hx] at hs;simp at hs
  |some s0=>
   rw [hx] at hs;simp at hs;subst hs;rw [(hf s0).2.2.1] at hb;exact h.aK s j s0 A hx hb
 owned:=h.owned
 free:=h.free
 kept:=h.kept
 old:=h.old
 dF p hp:=(Fw.bn c st w d v).dF (h.dF p hp)
 mT:=h.mT
 plain:=by
  have:=h.plain
  cases d<;>simpa [Act.put] using this
theorem Rel.sW {w0:World} {mu:Mu} {c:Cz} {st:St} {a:Act} {w:World} (h:Rel w0 mu c st a w) {s j g:Nat} {A:gM} (hA:aV st s j g=some A):cq c w s j A:=by
 obtain ⟨sl,h1,_,h3⟩:=bt hA;exact h.aK s j sl A h1 h3
theorem cq.lt {c:Cz} {w:World} {s j:Nat} {A:gM} (h:cq c w s j A) {b off cap:Nat} (hl:c.lc s j=.at b off cap):b<w.heap.size:=by
 unfold cq at h;rw [hl] at h;obtain ⟨_,_,⟨cur,t,h3,_⟩,_⟩:=h;exact (Array.getElem?_eq_some_iff.1 h3).1
end Go.TM
namespace Go.TM
open Go Go.RowKit
def iU:RT→List Value→Prop
 |.nil,vs=>vs=[]
 |.cons (.int k) r,vs=>∃l,vs=.int k 0::l∧iU r l
 |.cons .bool r,vs=>∃l,vs=.bool false::l∧iU r l
 |.cons .str r,vs=>∃l,vs=.string ByteArray.empty::l∧iU r l
 |.cons (.sl _) r,vs=>∃l,vs=.slice none 0 0::l∧iU r l
def descOf:Ty→TypeDesc→Prop
 |.int k,d=>d=.int k
 |.bool,d=>d=.bool
 |.str,d=>d=.string
 |.sl _,_=>False
structure fQ (P:Program) (T:lf):Prop where
 cells:∀t n,T.cells t=some n→(P.info? t).map (·.size)=some n
 agg:∀t n,T.cells t=some n→∃d,P.underlying t=some d∧d.isRow=T.agg t∧(T.agg t=false→n=1)
 off:∀t f k,T.off t f=some k→∃fs Db n,P.underlying t=some (.struct fs)∧fs[f]?=some Db∧Db.offset=k∧(P.info? Db.type).map (·.size)=some (n+1)
 bld:∀t,T.agg t=true→∃fs cD,P.underlying t=some (.struct fs)∧fs.toList.mapM (fun f=>(P.info? f.type).map fun i=>(f.offset,i.size))=some cD∧
  ∀f o s,T.off t f=some o→T.V6 t f=some s→cD[f]?=some (o,s)
 row:∀t r,T.row t=some r→∃i z,P.info? t=some i∧i.zero=some z∧iU r z.cells.toList
 elem:∀t r b,T.elem t=some (r,b)→∃e i z,P.underlying t=some (.slice e)∧P.info? e=some i∧i.size=r.width∧0<r.width∧i.bytes=b∧0<b∧i.zero=some z∧iU r z.cells.toList
 u8:∀t e b,T.elem t=some (.cons (.int .u8) .nil,b)→P.underlying t=some (.slice e)→P.underlying e=some (.int .u8)
 kind:∀t y,T.kind t=some y→∃d,P.underlying t=some d∧descOf y d
 one:∀t f,T.one t f=true→∃fs Db d,P.underlying t=some (.struct fs)∧fs[f]?=some Db∧P.underlying Db.type=some d∧d.isRow=false
theorem jv.one {c:Cz} {st:St} {w:World} {x:CV} {v:Value} (h:jv c st w x v) (hs:x.sU=true):v.oneCell'=true:=by
 cases x with
 |bad=>simp [CV.sU] at hs
 |int k n=>simp only [jv] at h;subst h;rfl
 |bool b=>simp only [jv] at h;subst h;rfl
 |str s=>simp only [jv] at h;subst h;rfl
 |dY=>simp only [jv] at h;subst h;rfl
 |HH=>simp only [jv] at h;subst h;rfl
 |shr r xs=>
  rcases (nI _ _ _ _ _).1 h with ⟨rfl,_⟩ | ⟨a,cap,rfl,_⟩<;>rfl
 |nn r xs=>
  rcases (nI _ _ _ _ _).1 h.1 with ⟨rfl,_⟩ | ⟨a,cap,rfl,_⟩<;>rfl
 |ref a j g vw=>exact h.1
 |ptr b g off=>exact h.1
 |FL a j g i off=>exact h.1
 |me r x off=>obtain ⟨b,o,rfl,_⟩:=h;rfl
 |su r x off=>obtain ⟨b,o,rfl,_⟩:=h;rfl
 |fn g rs xs=>obtain ⟨wF,rfl,_⟩:=h;rfl
 |HI a j g e i k q ys=>exact h.1
 |pI a j g e i k q ys=>exact h.1
theorem KH {v:Value} (h:v.oneCell'=true):v.cells = #[v]:=by cases v<;>first | rfl | simp [Value.oneCell'] at h
theorem eK.cells {c:Cz} {st:St} {w:World} {x:V} {v:Value} (h:eK c st w x v) (hs:x.sU=true) :
  fF c st w x.cells v.cells.toList∧∀u∈v.cells.toList,u.oneCell'=true:=by
 cases x with
 |one x=>
  have h1:v.oneCell'=true:=jv.one (x:=x) h hs;rw [KH h1];refine ⟨⟨rfl,fun i y u hy hu => ?_⟩,fun u hu=>by simp at hu;rw [hu];exact h1⟩
  cases i with
  |zero=>simp [V.cells] at hy hu;rw [←hy,←hu];exact h
  |succ i=>simp [V.cells] at hy
 |agg cs=>
  obtain ⟨vs,rfl,hl⟩:=h;refine ⟨hl,fun u hu => ?_⟩;obtain ⟨i,hi,hu⟩:=List.mem_iff_getElem.1 hu;have UR:i<cs.length:=by rw [hl.1];exact hi
  have:=hl.2 i cs[i] u (List.getElem?_eq_getElem UR) (by rw [←hu];exact List.getElem?_eq_getElem hi);exact this.one (List.all_eq_true.1 hs _ (List.getElem_mem UR))
 |nC us=>simp [V.sU] at hs
def Cz.jf (c:Cz) (d b:Nat):Cz:=
 { bx:=fun s=>if s=d then b else c.bx s,lc:=c.lc,own:=fun k=>if k=b then some (.box d) else c.own k,rs:=c.rs }
theorem vj (w:World) (o:Obj) (ok xF:Nat→Prop) (h:∀b,b<w.heap.size→ok b→xF b):iH w (w.alloc o) ok xF where
 size:=by simp
 block b hb _:=heap_alloc_old w o b hb
 ok:=h
theorem Rel.kI {w0:World} {mu:Mu} {c:Cz} {st:St} {a:Act} {w:World} (h:Rel w0 mu c st a w) {b:Nat} {l:Lb} (hb:c.own b=some l):b<w.heap.size:=(h.owned b l hb).1
theorem Rel.jf {w0:World} {mu:Mu} {c:Cz} {st:St} {a:Act} {w:World} (h:Rel w0 mu c st a w) {d:Nat} {s0:Sl} {cs:List CV} {vs:Array Value} {ty:TypeId}
  (gN:nth st d=some s0) (hd:d<a.tmps.size) (hl:fF c st w cs vs.toList) :
  Rel w0 mu (c.jf d w.heap.size) (mB (fun s=>{ s with v:=.one (.ptr d (s0.bg+1) 0),box:=some cs,bg:=s0.bg+1 }) st d)
   (a.put (some d) (.pointer (some ⟨w.heap.size,0,none⟩))) (w.alloc (.cells vs ty (0,0))):=by
 have hn:∀s,nth (mB (fun s=>{ s with v:=.one (.ptr d (s0.bg+1) 0),box:=some cs,bg:=s0.bg+1 }) st d) s=
   if s=d then some { s0 with v:=.one (.ptr d (s0.bg+1) 0),box:=some cs,bg:=s0.bg+1 } else nth st s:=by
  intro s;rw [dD]
  by_cases e:s=d
  ·subst e;simp [gN]
  ·simp [e]
 generalize mB (fun s=>{ s with v:=.one (.ptr d (s0.bg+1) 0),box:=some cs,bg:=s0.bg+1 }) st d=bd at hn ⊢;have gP:∀b,b<w.heap.size→c.ok b→(c.jf d w.heap.size).ok b:=by
  intro b hb hc;unfold Cz.ok Cz.jf;simp only [if_neg (show b≠w.heap.size by omega)];exact hc
 have hA:∀a' j g,aV bd a' j g=aV st a' j g:=by
  intro a' j g;unfold aV;rw [hn]
  by_cases e:a'=d
  ·subst e;simp [gN]
  ·simp [e]
 have hgA:∀a',dw bd a'=dw st a':=by
  intro a';unfold dw;rw [hn]
  by_cases e:a'=d
  ·subst e;simp [gN]
  ·simp [e]
 have fR:Fw c st w (c.jf d w.heap.size) bd (w.alloc (.cells vs ty (0,0))):={
  stays:=vj w _ _ _ gP
  refs:=fun a' j g A' _ eE=>⟨A',by rw [←hA];exact eE,rfl,rfl,rfl,fun _=>⟨rfl,fun b o cap iy=>by
   exact heap_alloc_old w _ b ((h.sW (g:=g) (by rw [←hA];exact eE)).lt iy)⟩⟩
  yO:=fun b g mf hg hb=>by
   unfold dH at hb ⊢;rw [hn] at hb
   by_cases e:b=d
   ·subst e;simp only [if_true] at hb;unfold fP at hg;rw [gN] at hg;have:Nat.beq (s0.bg+1) g=false:=by
     cases hq:Nat.beq (s0.bg+1) g
     ·rfl
     ·have:=Nat.eq_of_beq_eq_true hq;simp at hg;omega
    simp [this] at hb
   ·simp only [e,if_false] at hb;exact ⟨⟨mf,hb⟩,by simp [Cz.jf,e]⟩
  gA:=fun a'=>by rw [hgA];exact Nat.le_refl _
  gB:=fun b=>by
   unfold fP;rw [hn]
   by_cases e:b=d
   ·subst e;simp [gN]
   ·simp [e]
  gE:=fun a'=>by
   unfold kc;rw [hn]
   by_cases e:a'=d
   ·subst e;simp [gN]
   ·simp [e] }
 exact {
  ey:=fun t=>by
   have e1:cC bd t=if t=d then .one (.ptr d (s0.bg+1) 0) else cC st t:=by
    unfold cC;rw [hn]
    by_cases e:t=d<;>simp [e]
   rw [e1,eval_put]
   by_cases e:t=d
   ·subst e;simp only [if_true,true_and,hd];refine ⟨rfl,?_,fun mf HR=>by simp [Cz.jf]⟩;unfold fP;rw [hn];simp
   ·simp only [e,if_false];rw [if_neg (fun h=>e (Option.some.inj h.1).symm)];exact fR.la (h.ey t)
  boxes:=fun s sl mf hs hb=>by
   rw [hn] at hs
   by_cases e:s=d
   ·subst e;simp only [if_true,Option.some.injEq] at hs;subst hs;simp only [Option.some.injEq] at hb;subst hb;exact ⟨by simp [Cz.jf],vs,ty,by simp only [Cz.jf,if_true];exact heap_alloc_new w _,fR.MV hl⟩
   ·simp only [e,if_false] at hs;have R6:=h.boxes s sl mf hs hb;have dG:=h.kI R6.1;exact R6.go fR (by simp [Cz.jf,e]) (by simp only [Cz.jf];rw [if_neg (by omega)]) (heap_alloc_old w _ _ dG)
  aK:=fun s j sl A hs eE=>by
   rw [hn] at hs;have ha:cq c w s j A:=by
    by_cases e:s=d
    ·subst e;simp only [if_true,Option.some.injEq] at hs;subst hs;exact h.aK s j s0 A gN eE
    ·simp only [e,if_false] at hs;exact h.aK s j sl A hs eE
   refine ha.go fR.stays rfl (fun b hb => ?_);have dG:b<w.heap.size:=h.kI hb;exact ⟨heap_alloc_old w _ b dG,by simp only [Cz.jf];rw [if_neg (by omega)]⟩
  owned:=fun b l hb=>by
   simp only [Cz.jf] at hb
   by_cases e:b=w.heap.size
   ·subst e;exact ⟨by simp,.inr (.inl h.kept.2.2.2)⟩
   ·rw [if_neg e] at hb;have:=h.owned b l hb;exact ⟨Nat.lt_of_lt_of_le this.1 (by simp),this.2⟩
  free:=fun b hb h1=>by
   simp only [Cz.jf] at h1
   by_cases e:b=w.heap.size
   ·rw [if_pos e] at h1;cases h1
   ·rw [if_neg e] at h1;exact h.free b hb h1
  kept:=⟨h.kept.1,h.kept.2.1,h.kept.2.2.1,Nat.le_trans h.kept.2.2.2 (by simp)⟩
  old:=fun k hk hm=>by
   rw [heap_alloc_old w _ k (Nat.lt_of_lt_of_le hk h.kept.2.2.2)];exact h.old k hk hm
  dF:=fun p hp=>fR.dF (h.dF p hp)
  mT:=fun b l hb=>⟨Nat.lt_of_lt_of_le (h.mT b l hb).1 (by simp),(h.mT b l hb).2⟩
  plain:=h.plain }
end Go.TM
namespace Go.TM
open Go Go.RowKit
theorem bW {w0:World} {mu:Mu} {c:Cz} {st:St} {a:Act} {w:World} (h:Rel w0 mu c st a w) (x:Operand):eK c st w (mC st x) (a.eval x):=by
 unfold mC
 split<;>first | exact h.ey _ | rfl | trivial
theorem fF.take {c:Cz} {st:St} {w:World} {cs:List CV} {vs:List Value} (h:fF c st w cs vs) (off n:Nat):fF c st w ((cs.drop off).take n) ((vs.drop off).take n):=by
 refine ⟨by simp [h.1],fun i x v hx hv => ?_⟩;rw [List.getElem?_take] at hx hv
 by_cases hi:i<n
 ·rw [if_pos hi,List.getElem?_drop] at hx hv;exact h.2 _ x v hx hv
 ·rw [if_neg hi] at hx;simp at hx
theorem jw {n off:Nat} {cs l:List CV} (h:dZ n off cs=some l):l=(cs.drop off).take n∧l.length=n:=by
 unfold dZ at h;obtain ⟨h1,h2⟩:=aJ h;have:=Option.some.inj h2;subst this;exact ⟨rfl,Nat.eq_of_beq_eq_true h1⟩
def valOf (agg:Bool) (vs:List Value):Value:=if agg then .agg vs.toArray else vs.headD undef
theorem rY {P:Program} {T:lf} (hT:fQ P T) {t n:Nat} (ht:T.cells t=some n) (w:World) (b o:Nat) (vs:List Value) (hv:w.rangeAt b o vs) (hn:vs.length=n) :
  (loadVar t ⟨b,o,none⟩).run P w=.ok (valOf (T.agg t) vs) w:=by
 obtain ⟨d,hu,hd,h1⟩:=hT.agg t n ht
 cases hg:T.agg t with
 |true=>
  rw [hg] at hd;have:=run_loadVar_mid (P:=P) w b o t vs d hv hu hd (by rw [hT.cells t n ht,hn]);simpa [valOf] using this
 |false=>
  have hn1:=h1 hg;obtain ⟨v,rfl⟩:∃v,vs=[v]:=by
   cases vs with
   |nil=>simp at hn;omega
   |cons v l=>cases l with
    |nil=>exact ⟨v,rfl⟩
    |cons _ _=>simp at hn;omega
  have R7:(isAgg t).run P w=.ok false w:=by
   unfold isAgg;rw [Sem.run_bind,run_underlying hu w];rw [hg] at hd
   cases d<;>simp_all [TypeDesc.isRow]
  have hc:w.cell? ⟨b,o,none⟩=some v:=by have:=hv 0 v rfl;simpa using this
  simp [loadVar,Sem.run_bind,R7,valOf,run_load,hc]
theorem PN {c:Cz} {st:St} {w:World} {T:lf} {t:Nat} {l:List CV} {vs:List Value} (h:fF c st w l vs) (h1:T.agg t=false→l.length=1) :
  eK c st w (Kx T t l) (valOf (T.agg t) vs):=by
 unfold Kx valOf
 cases hg:T.agg t with
 |true=>exact ⟨vs.toArray,rfl,by simpa using h⟩
 |false=>
  have hl:=h1 hg
  cases l with
  |nil=>simp at hl
  |cons x l=>cases l with
   |cons _ _=>simp at hl
   |nil=>cases vs with
    |nil=>have:=h.1;simp at this
    |cons v vs=>exact h.2 0 x v rfl rfl
theorem zK {w:World} {b off:Nat} {vs:Array Value} {ty:TypeId} {fr:Nat×Nat} (h:w.heap[b]?=some (.cells vs ty fr)) (n:Nat):w.rangeAt b off ((vs.toList.drop off).take n):=by
 intro j v hv;rw [cell_of_row w b (off+j) vs ty fr h];rw [List.getElem?_take] at hv
 by_cases hj:j<n
 ·rw [if_pos hj,List.getElem?_drop] at hv;simpa using hv
 ·rw [if_neg hj] at hv;simp at hv
theorem rb {w:World} {c:Cz} {st:St}:(r:RT)→(b off:Nat)→(x:ar r)→dE w c.ok r b off x→
  ∃vs,vs.length=r.width∧w.rangeAt b off vs∧fF c st w (dM r x) vs
 |.nil,_,_,_,_=>⟨[],rfl,fun j v h=>by simp at h,rfl,fun i x v h=>by simp [dM] at h⟩
 |.cons t r,b,off,x,h=>by
  unfold dE at h;obtain ⟨⟨v,hv,hx⟩,hr⟩:=h;obtain ⟨vs,h1,h2,h3,h4⟩:=rb r b (off+1) x.2 hr;refine ⟨v::vs,by simp [RT.width,h1],fun j u hu => ?_,by simp [dM,h3],fun i y u hy hu => ?_⟩
  ·cases j with
   |zero=>simp at hu;rw [←hu];exact hv
   |succ j=>
    simp at hu;have:=h2 j u hu;rw [show off+(j+1)=off+1+j by omega];exact this
  ·cases i with
   |zero=>
    simp [dM] at hy hu;subst hy hu
    cases t with
    |int k=>unfold cE at hx;exact hx
    |bool=>unfold cE at hx;exact hx
    |str=>unfold cE at hx;exact hx
    |sl q=>exact hx
   |succ i=>
    simp [dM] at hy hu;exact h4 i y u hy hu
theorem Bl {w:World} {P:List Nat→Nat→Prop} {c:Cz} {st:St} {a j g e i:Nat} {A:gM} {x0:ar A.r} {bb o cap:Nat} (hA:aV st a j g=some A) (he:e=kc st a) (hg:g≤dw st a) (hm:A.md=.dp) (KI:A.xs[i]?=some x0) (iy:c.lc a j=.at bb o cap) :
  (r:RT)→(p:List Nat)→(k:Nat)→(x:ar r)→(∀k',lh r x k'=lh A.r x0 (k+k'))→fl w P r p k bb (o+i*A.r.width+k) x→
  ∃vs,vs.length=r.width∧w.rangeAt bb (o+i*A.r.width+k) vs∧fF c st w (qz a j g e i k r x) vs
 |.nil,_,_,_,_,_=>⟨[],rfl,fun j v h=>by simp at h,rfl,fun i x v h=>by simp [qz] at h⟩
 |.cons t r,p,k,x,hs,h=>by
  unfold fl at h;obtain ⟨⟨v,hv,hx⟩,hr⟩:=h;obtain ⟨vs,h1,h2,h3,h4⟩:=Bl hA he hg hm KI iy r p (k+1) x.2 (fun k'=>by
   rw [show k+1+k'=k+(k'+1) by omega,←hs]
   cases t<;>rfl) (by rw [show o+i*A.r.width+(k+1)=o+i*A.r.width+k+1 by omega];exact hr)
  refine ⟨v::vs,by simp [RT.width,h1],fun j u hu => ?_,by simp [qz,h3],fun i' y u hy hu => ?_⟩
  ·cases j with
   |zero=>simp at hu;rw [←hu];exact hv
   |succ j=>
    simp at hu;have:=h2 j u hu;rw [show o+i*A.r.width+k+(j+1)=o+i*A.r.width+(k+1)+j by omega];exact this
  ·cases i' with
   |zero=>
    simp [qz] at hy hu;subst hy hu
    cases t with
    |int k=>exact wZ.1 hx
    |bool=>exact tM.1 hx
    |str=>exact w6.1 hx
    |sl q=>
     have hx:=(vi _ _ _ _ _ _).1 hx;obtain ⟨lc,_,q1,_⟩:=hx;refine ⟨q1,hg,by rw [he];exact Nat.le_refl _,fun A' eE _ => ?_⟩;rw [hA] at eE;cases eE;refine ⟨hm,⟨x0,KI,?_⟩,bb,o,cap,iy,hv⟩;have:=hs 0;rw [Nat.add_zero] at this;rw [←this];rfl
   |succ i'=>
    simp [qz] at hy hu;exact h4 i' y u hy hu
theorem pK {w:World} {b off:Nat} {vs:List Value} (h:w.rangeAt b off vs) (k n:Nat):w.rangeAt b (off+k) ((vs.drop k).take n):=by
 intro j v hv;rw [List.getElem?_take] at hv
 by_cases hj:j<n
 ·rw [if_pos hj,List.getElem?_drop] at hv;rw [Nat.add_assoc];exact h _ v hv
 ·rw [if_neg hj] at hv;simp at hv
def iM (w w':World):Prop:=w.heap.size≤w'.heap.size∧∀b,b<w.heap.size→w'.heap[b]?=w.heap[b]?
theorem iM.refl (w:World):iM w w:=⟨Nat.le_refl _,fun _ _=>rfl⟩
theorem iM.trans {w w' Wg:World} (h:iM w w') (h':iM w' Wg):iM w Wg:=
 ⟨Nat.le_trans h.1 h'.1,fun b hb=>(h'.2 b (Nat.lt_of_lt_of_le hb h.1)).trans (h.2 b hb)⟩
theorem iM.alloc (w:World) (b:Obj):iM w (w.alloc b):=⟨by simp,fun k hk=>heap_alloc_old w b k hk⟩
theorem iM.range {w w':World} (h:iM w w') {b o:Nat} {vs:List Value} (hr:w.rangeAt b o vs):w'.rangeAt b o vs:=by
 intro j v hj;have h1:=hr j v hj;rw [World.cell?_of_block (w:=w) (h.2 b (Jq h1))];exact h1
theorem FO {P:Program} {T:lf} (hT:fQ P T) {w0:World} {mu:Mu} {c:Cz} {st:St} {a:Act} {w:World} (h:Rel w0 mu c st a w)
  {d:Option Nat} {t:Nat} {x:V} {u:Value} (hx:eK c st w x u) {bd:St} (hv:(uJ T st d t x).val=some bd) (hd:∀k,d=some k→k<a.tmps.size) :
  ∃v,(∀w':World,iM w w'→(Instr.loadAt t u).run P w'=.ok v w')∧Rel w0 mu c bd (a.put d v) w:=by
 have key:∀(b o n:Nat) (l:List CV) (vs:List Value),T.cells t=some n→u=.pointer (some ⟨b,o,none⟩)→w.rangeAt b o vs→vs.length=n→fF c st w l vs→
   (N.done (TM.bn st d (Kx T t l))).val=some bd→∃v,(∀w':World,iM w w'→(Instr.loadAt t u).run P w'=.ok v w')∧Rel w0 mu c bd (a.put d v) w:=by
  intro b o n l vs hn hu hr hlen hl re;simp only [N.val,Option.some.injEq] at re;subst re;obtain ⟨dd,_,_,h1⟩:=hT.agg t n hn;refine ⟨valOf (T.agg t) vs,fun w' hk => ?_,h.bn (PN hl (fun hg=>by rw [hl.1,hlen];exact h1 hg)) hd⟩;subst hu;have Wh:w'.rangeAt b o vs:=hk.range hr;simp only [Instr.loadAt,Instr.sureAddr,Sem.run_bind,Sem.run_pure,Result.andThen_ok,rY hT hn w' b o vs Wh hlen]
 cases hn:T.cells t with
 |none=>cases x with
  |one y=>cases y<;>simp [uJ,hn,N.val] at hv
  |agg _=>simp [uJ,N.val] at hv
  |nC _=>simp [uJ,N.val] at hv
 |some n=>cases x with
  |agg _=>simp [uJ,N.val] at hv
  |nC _=>simp [uJ,N.val] at hv
  |one y=>cases y with
   |bad | int _ _ | bool _ | str _ | dY | HH | shr _ _ | nn _ _ | ref _ _ _ _ | fn _ _ _ | HI _ _ _ _ _ _ _ _ | pI _ _ _ _ _ _ _ _=>simp [uJ,N.val] at hv
   |ptr b g off=>
    simp only [uJ,hn] at hv
    cases hb:dH st b g with
    |none=>simp [hb,N.val] at hv
    |some cs=>
     simp only [hb] at hv
     cases Bm:dZ n off cs with
     |none=>simp [Bm,N.val] at hv
     |some l=>
      simp only [Bm] at hv;obtain ⟨rfl,hlen⟩:=jw Bm;obtain ⟨sl,xD,HS,yK⟩:=iN hb;obtain ⟨ho,vs,ty,hh,hl⟩:=h.boxes b sl cs xD yK;have hu:=hx.2.2 cs hb;refine key _ _ n _ ((vs.toList.drop off).take n) hn hu (zK hh n) ?_ (hl.take off n) hv;rw [←(hl.take off n).1];exact hlen
   |me r y off=>
    simp only [uJ,hn] at hv
    cases Bm:dZ n off (dM r y) with
    |none=>simp [Bm,N.val] at hv
    |some l=>
     simp only [Bm] at hv;obtain ⟨rfl,hlen⟩:=jw Bm;obtain ⟨b,o,hu,dG,gP,Bn⟩:=hx;obtain ⟨vs,h1,h2,h3⟩:=rb (st:=st) r b o y Bn;refine key _ _ n _ ((vs.drop off).take n) hn hu (pK h2 off n) ?_ (h3.take off n) hv;rw [←(h3.take off n).1];exact hlen
   |su r ys off=>
    simp only [uJ,hn] at hv
    cases hy:ys[0]? with
    |none=>simp [hy,N.val] at hv
    |some y=>
    simp only [hy] at hv;change (match dZ n off (dM r y) with | some l=>N.done (TM.bn st d (Kx T t l)) | none=>N.fail).val=some bd at hv
    cases Bm:dZ n off (dM r y) with
    |none=>simp [Bm,N.val] at hv
    |some l=>
     simp only [Bm] at hv;obtain ⟨rfl,hlen⟩:=jw Bm;obtain ⟨b,o,hu,dG,gP,Bn⟩:=hx;obtain ⟨vs,h1,h2,h3⟩:=rb (st:=st) r b o y (Bn y hy);refine key _ _ n _ ((vs.drop off).take n) hn hu (pK h2 off n) ?_ (h3.take off n) hv;rw [←(h3.take off n).1];exact hlen
   |FL a' j g i off=>
    simp only [uJ,hn] at hv
    cases hA:aV st a' j g with
    |none=>simp [hA,N.val] at hv
    |some A=>
     simp only [hA] at hv;obtain ⟨sl,xD,HS,yK⟩:=bt hA;have CL:=h.aK a' j sl A xD yK;obtain ⟨hi,b,o,cap,iy,hu⟩:=hx.2.2 A hA;unfold cq at CL;rw [iy] at CL;obtain ⟨_,_,_,dK⟩:=CL
     cases hm:A.md with
     |ho _=>rw [hm] at hv;simp [N.val] at hv
     |sh=>
      rw [hm] at hv;simp only at hv
      cases sx:A.xs[i]? with
      |none=>simp [sx,N.val] at hv
      |some y=>
       simp only [sx] at hv;change (match dZ n off (dM A.r y) with | some l=>N.done (TM.bn st d (Kx T t l)) | none=>N.fail).val=some bd at hv
       cases Bm:dZ n off (dM A.r y) with
       |none=>simp [Bm,N.val] at hv
       |some l=>
        simp only [Bm] at hv;obtain ⟨rfl,hlen⟩:=jw Bm;obtain ⟨vs,h1,h2,h3⟩:=rb (st:=st) A.r b _ y ((bF.sh hm).1 dK i y sx);refine key _ _ n _ ((vs.drop off).take n) hn hu (pK h2 off n) ?_ (h3.take off n) hv;rw [←(h3.take off n).1];exact hlen
     |lz=>
      rw [hm] at hv;simp only at hv
      cases sx:A.xs[i]? with
      |none=>simp [sx,N.val] at hv
      |some y=>
       simp only [sx] at hv;change (match dZ n off (dM A.r y) with | some l=>N.done (TM.bn st d (Kx T t l)) | none=>N.fail).val=some bd at hv
       cases Bm:dZ n off (dM A.r y) with
       |none=>simp [Bm,N.val] at hv
       |some l=>
        simp only [Bm] at hv;obtain ⟨rfl,hlen⟩:=jw Bm;unfold bF at dK;rw [hm] at dK;obtain ⟨gg,dK⟩:=dK;obtain ⟨vs,h1,h2,h3⟩:=rb (st:=st) A.r b _ y (fl.rep (ok:=c.ok) (fun p k hk=>hk.1.1) _ _ _ _ _ y (dK i y sx));refine key _ _ n _ ((vs.drop off).take n) hn hu (pK h2 off n) ?_ (h3.take off n) hv;rw [←(h3.take off n).1];exact hlen
     |dp=>
      rw [hm] at hv;simp only at hv
      cases sx:A.xs[i]? with
      |none=>simp [sx,N.val] at hv
      |some y=>
       simp only [sx] at hv;change (match dZ n off (qz a' j g (kc st a') i 0 A.r y) with | some l=>N.done (TM.bn st d (Kx T t l)) | none=>N.fail).val=some bd at hv
       cases Bm:dZ n off (qz a' j g (kc st a') i 0 A.r y) with
       |none=>simp [Bm,N.val] at hv
       |some l=>
        simp only [Bm] at hv;obtain ⟨rfl,hlen⟩:=jw Bm;unfold bF at dK;rw [hm] at dK;obtain ⟨gg,_,dK⟩:=dK;obtain ⟨vs,h1,h2,h3⟩:=Bl (st:=st) hA rfl hx.2.1 hm sx iy A.r _ 0 y (fun k'=>by rw [Nat.zero_add]) (dK i y sx);rw [Nat.add_zero] at h2;refine key _ _ n _ ((vs.drop off).take n) hn hu (pK h2 off n) ?_ (h3.take off n) hv;rw [←(h3.take off n).1];exact hlen
end Go.TM
namespace Go.TM
open Go Go.RowKit
def dj (w:World) (ok:Nat→Prop):(r:RT)→List Value→ar r→Prop
 |.nil,vs,_=>vs=[]
 |.cons t r,vs,x=>∃v l,vs=v::l∧cE w ok t v x.1∧dj w ok r l x.2
theorem dj.length {w:World} {ok:Nat→Prop}:(r:RT)→(vs:List Value)→(x:ar r)→dj w ok r vs x→vs.length=r.width
 |.nil,vs,_,h=>by simp only [dj] at h;subst h;rfl
 |.cons t r,vs,x,h=>by
  obtain ⟨v,l,rfl,_,h⟩:=h;simp [RT.width,dj.length r l x.2 h]
theorem ke {w:World} {ok:Nat→Prop}:(r:RT)→(b off:Nat)→(x:ar r)→(dE w ok r b off x↔∃vs,w.rangeAt b off vs∧dj w ok r vs x)
 |.nil,_,_,_=>by
  unfold dE;exact ⟨fun _=>⟨[],fun j v h=>by simp at h,rfl⟩,fun _=>trivial⟩
 |.cons t r,b,off,x=>by
  unfold dE
  constructor
  ·rintro ⟨⟨v,hv,hx⟩,hr⟩
   obtain ⟨vs,h1,h2⟩:=(ke r b (off+1) x.2).1 hr;refine ⟨v::vs,fun j u hu => ?_,v,vs,rfl,hx,h2⟩
   cases j with
   |zero=>simp at hu;rw [←hu];exact hv
   |succ j=>
    simp at hu;rw [show off+(j+1)=off+1+j by omega];exact h1 j u hu
  ·rintro ⟨vs,h1,v,l,rfl,hx,h2⟩
   refine ⟨⟨v,h1 0 v rfl,hx⟩,(ke r b (off+1) x.2).2 ⟨l,fun j u hu => ?_,h2⟩⟩;have:=h1 (j+1) u (by simpa using hu);rw [show off+1+j=off+(j+1) by omega];exact this
theorem dj.stays {w w':World} {ok xF:Nat→Prop} (h:iH w w' ok xF):(r:RT)→(vs:List Value)→(x:ar r)→dj w ok r vs x→dj w' xF r vs x
 |.nil,_,_,hr=>hr
 |.cons t r,_,x,⟨v,l,e,hx,hr⟩=>⟨v,l,e,cE.stays h t v x.1 hx,dj.stays h r l x.2 hr⟩
theorem Bo {w:World} {c:Cz} {st:St}:(r:RT)→(x:ar r)→(k:Nat)→(y:CV)→(z:ar r)→(vs:List Value)→(u:Value)→
  gH r x k y=some z→jv c st w y u→dj w c.ok r vs x→dj w c.ok r (vs.set k u) z
 |.nil,_,_,_,_,_,_,h,_,_=>by simp [gH] at h
 |.cons t r,x,0,y,z,vs,u,h,hu,hv=>by
  obtain ⟨v,l,rfl,hx,hr⟩:=hv
  cases t with
  |int k=>
   cases y<;>simp [gH] at h
   obtain ⟨rfl,h⟩:=h;obtain rfl:=Option.some.inj h;refine ⟨u,l,rfl,?_,hr⟩;unfold cE;exact hu
  |bool=>
   cases y<;>simp [gH] at h
   obtain rfl:=Option.some.inj h;refine ⟨u,l,rfl,?_,hr⟩;unfold cE;exact hu
  |str=>
   cases y<;>simp [gH] at h
   obtain rfl:=Option.some.inj h;refine ⟨u,l,rfl,?_,hr⟩;unfold cE;exact hu
  |sl q=>cases y<;>simp [gH] at h
 |.cons t r,x,k+1,y,z,vs,u,h,hu,hv=>by
  obtain ⟨v,l,rfl,hx,hr⟩:=hv;have h':(gH r x.2 k y).map (fun z=>((x.1,z):ar (.cons t r)))=some z:=by cases t<;>(simp only [gH] at h;exact h)
  cases hq:gH r x.2 k y with
  |none=>simp [hq] at h'
  |some z'=>
   rw [hq] at h';obtain rfl:=Option.some.inj h';exact ⟨v,l.set k u,rfl,hx,Bo r x.2 k y z' l u hq hu hr⟩
def bY (vs:List Value) (off:Nat) (us:List Value):List Value:=vs.take off++us++vs.drop (off+us.length)
theorem zL {vs:List Value} {off:Nat} {u:Value} {us:List Value} (h:off<vs.length):bY vs off (u::us)=(bY vs (off+1) us).set off u:=by
 unfold bY;apply List.ext_getElem?;intro k;simp only [List.getElem?_set,List.getElem?_append,List.length_append,List.length_take,List.length_cons,List.getElem?_drop,List.getElem?_cons]
 by_cases h1:k<off
 ·have a1:min off vs.length=off:=by omega
  have a2:min (off+1) vs.length=off+1:=by omega
  have a3:off≠k:=by omega
  simp only [a1,a2,a3,if_false,h1,show k<off+(us.length+1) by omega,show k<off+1+us.length by omega,show k<off+1 by omega,if_true,List.getElem?_take]
 ·by_cases h2:k=off
  ·subst h2;have a1:min k vs.length=k:=by omega
   have a2:min (k+1) vs.length=k+1:=by omega
   have a3:min k vs.length-k=0:=by omega
   simp [a1,a2,h];omega
  ·have a1:min off vs.length=off:=by omega
   have a2:min (off+1) vs.length=off+1:=by omega
   obtain ⟨m,rfl⟩:∃m,k=off+1+m:=⟨k-(off+1),by omega⟩;have a3:off≠off+1+m:=by omega
   simp only [a1,a2,a3,if_false,show ¬off+1+m<off by omega,show off+1+m-off=m+1 by omega,show ¬off+1+m<off+1 by omega,show off+1+m-(off+1)=m by omega,
    Nat.add_one_ne_zero,Nat.add_sub_cancel]
   by_cases h3:m<us.length
   ·rw [if_pos (by omega),if_pos (by omega)]
   ·rw [if_neg (by omega),if_neg (by omega)]
    congr 1
    omega
theorem eb {vs:List Value} {off:Nat} {us:List Value} (h:off+us.length≤vs.length):(bY vs off us).length=vs.length:=by
 unfold bY;simp;omega
theorem Bp {w:World} {c:Cz} {st:St} (r:RT) (x:ar r):(off:Nat)→(cs:List CV)→(z:ar r)→(vs us:List Value)→off+us.length≤vs.length→
  j2 r x off cs=some z→fF c st w cs us→dj w c.ok r vs x→dj w c.ok r (bY vs off us) z
 |off,[],z,vs,us,_,h,hl,hv=>by
  have:us=[]:=by have:=hl.1;simp at this;exact List.length_eq_zero_iff.1 this.symm
  subst this;simp [j2] at h;subst h;simp [bY];exact hv
 |off,y::l,z,vs,us,hle,h,hl,hv=>by
  cases us with
  |nil=>have:=hl.1;simp at this
  |cons u us=>
   simp only [j2] at h
   cases hq:j2 r x (off+1) l with
   |none=>simp [hq] at h
   |some y'=>
    simp only [hq] at h;simp at hle;have ih:=Bp r x (off+1) l y' vs us (by omega) hq ⟨by have:=hl.1;simpa using this,fun i a b ha hb=>hl.2 (i+1) a b (by simpa using ha) (by simpa using hb)⟩ hv;rw [zL (by omega)];exact Bo r y' off y z _ u h (hl.2 0 y u rfl rfl) ih
theorem qA {w:World} {c:Cz} {b:Nat} {l:Lb} (hb:c.own b=some l) (cur:Array Value):iH w (w.setRow b cur) c.ok c.ok where
 size:=by simp [World.setRow]
 block k _ hk:=setRow_other w b k cur (fun e=>by subst e;unfold Cz.ok at hk;rw [hb] at hk;cases hk)
 ok _ _ h:=h
theorem jR {P:Program} {T:lf} (hT:fQ P T) {t n:Nat} (ht:T.cells t=some n) (w:World) (b o:Nat) (v:Value) (hn:v.cells.toList.length=n) (h1:∀u∈v.cells.toList,u.oneCell'=true)
  {cur:Array Value} {ty:TypeId} (hg:w.heap[b]?=some (.cells cur ty (0,0))) (hle:o+n≤cur.size) :
  (Instr.storeAt t (.pointer (some ⟨b,o,none⟩)) v).run P w=.ok () (w.setRow b (bY cur.toList o v.cells.toList).toArray):=by
 have hs:=run_storeCells_at P b o ty v.cells.toList 0 cur w hg (by omega) h1;have hi:=hT.cells t n ht
 cases hq:P.info? t with
 |none=>simp [hq] at hi
 |some i=>
  have kg:v.cells.size=i.size:=by simp [hq] at hi;rw [hi,←hn];simp
  simp only [Nat.add_zero] at hs;simp [Instr.storeAt,Instr.sureAddr,storeVar,sizeOf,typeInfo,hq,kg,hs,bY]
end Go.TM
namespace Go.TM
open Go Go.RowKit
theorem View.tP {α:Type} (vw:View) (xs:List α) {i:Nat} {x:α} (h:(vw.app xs)[i]?=some x):xs[vw.lo+i]?=some x:=by
 cases vw with
 |full=>simpa [View.app,View.lo] using h
 |«from» lo=>simpa [View.app,View.lo,List.getElem?_drop] using h
 |sub lo n=>
  simp only [View.app,View.lo,List.getElem?_take,List.getElem?_drop] at h ⊢
  by_cases hi:i<n
  ·rwa [if_pos hi] at h
  ·rw [if_neg hi] at h;simp at h
theorem xH {c:Cz} {w:World} {s j:Nat} {A:gM} (h:cq c w s j A) {vw:View} {u:Value} (hu:gm (c.lc s j) A.r.width vw.lo (vw.app A.xs).length u)
  {ok:Nat→Prop} (h1:∀b,c.ok b→ok b) (h2:∀b,A.own=true∨A.md=.dp→c.own b=some (.sp s j)→ok b) (u0:A.md.C7=false):cE w ok (.sl A.r) u (vw.app A.xs):=by
 rw [nI]
 cases hl:c.lc s j with
 |nil=>
  unfold gm at hu;rw [hl] at hu;obtain ⟨rfl,hn⟩:=hu;exact .inl ⟨rfl,List.length_eq_zero_iff.1 hn⟩
 |«at» b off cap=>
  unfold gm at hu;rw [hl] at hu;obtain ⟨a,k,rfl,hk,wG,ha⟩:=hu;unfold cq at h;rw [hl] at h;obtain ⟨h0,_,⟨cur,ty,h3,_⟩,h5⟩:=h;have h5:∀(i:Nat) x,A.xs[i]?=some x→dE w ok A.r b (off+i*A.r.width) x:=by
   unfold bF at h5
   cases hm:A.md with
   |sh=>rw [hm] at h5;exact fun i x hx=>dE.stays ⟨Nat.le_refl _,fun _ _ _=>rfl,fun b _ hb=>h1 b hb⟩ _ _ _ x rfl (h5 i x hx)
   |dp=>
    rw [hm] at h5;obtain ⟨g,_,h5⟩:=h5;exact fun i x hx=>fl.rep (fun p k hk=>h2 k (.inr hm) hk.1) _ _ _ _ _ x (h5 i x hx)
   |lz=>
    rw [hm] at h5;obtain ⟨g,h5⟩:=h5;exact fun i x hx=>fl.rep (fun p k hk=>h1 k hk.1.1) _ _ _ _ _ x (h5 i x hx)
   |ho _=>rw [hm] at u0;cases u0
  have hob:ok b:=by
   cases ho:A.own with
   |true=>rw [ho] at h0;exact h2 b (.inl ho) h0
   |false=>rw [ho] at h0;exact h1 b h0
  have hs:iH w w c.ok ok:=⟨Nat.le_refl _,fun _ _ _=>rfl,fun b _ hb=>h1 b hb⟩;refine .inr ⟨a,k,rfl,hk,fun gr => ?_,fun i x hi => ?_⟩
  ·have:k≠0:=by
    have:=List.length_pos_iff.2 gr;omega
   rw [ha this];exact ⟨rfl,(Array.getElem?_eq_some_iff.1 h3).1,hob⟩
  ·have hk0:k≠0:=by
    have:=(List.getElem?_eq_some_iff.1 hi).1;omega
   rw [ha hk0];have:=h5 _ x (View.tP vw A.xs hi);have e:off+vw.lo*A.r.width+i*A.r.width=off+(vw.lo+i)*A.r.width:=by rw [Nat.add_mul];omega
   show dE w ok A.r b (off+vw.lo*A.r.width+i*A.r.width) x;rw [e];exact this
theorem bH {r s:RT} {xs:List (ar r)} {ys:List (ar s)} (h:cn s xs=some ys):∃e:r=s,ys=e▸xs:=by
 unfold cn at h
 cases hq:RT.eq? r s with
 |none=>simp [hq] at h
 |some p=>obtain ⟨e⟩:=p;simp [hq] at h;exact ⟨e,h.symm⟩
def Cz.drop1 (c:Cz) (a j:Nat):Cz:=
 { c with own:=fun k=>match c.own k with | some (.sp s i)=>if s=a∧i=j then none else some (.sp s i) | l=>l }
theorem Cz.xI {c:Cz} {a j b:Nat} (h:c.ok b):(c.drop1 a j).ok b:=by
 unfold Cz.ok Cz.drop1 at *;simp [h]
theorem Cz.Bq {c:Cz} {a j b:Nat} (h:c.own b=some (.sp a j)):(c.drop1 a j).ok b:=by
 unfold Cz.ok Cz.drop1;simp [h]
theorem Cz.HT {c:Cz} {a j b:Nat} {l:Lb} (h:(c.drop1 a j).own b=some l):c.own b=some l:=by
 unfold Cz.drop1 at h;simp only at h
 cases hc:c.own b with
 |none=>simp [hc] at h
 |some l'=>cases l' with
  |box s=>simp [hc] at h;rw [h]
  |out=>simp [hc] at h;rw [h]
  |cH i k=>simp [hc] at h;rw [h]
  |rV i=>simp [hc] at h;rw [h]
  |gO k=>simp [hc] at h;rw [h]
  |sp s i=>
   simp only [hc] at h
   by_cases e:s=a∧i=j
   ·simp [e] at h
   ·rw [if_neg e] at h;exact h
theorem Cz.rf {c:Cz} {a j b:Nat} {l:Lb} (h:c.own b=some l) (gr:l≠.sp a j):(c.drop1 a j).own b=some l:=by
 unfold Cz.drop1;simp only [h]
 cases l with
 |box s=>rfl
 |out=>rfl
 |cH i k=>rfl
 |rV i=>rfl
 |gO k=>rfl
 |sp s i=>
  simp only;rw [if_neg]
  rintro ⟨rfl,rfl⟩
  exact gr rfl
def fq (st:St) (a j:Nat):St:=mB (fun s=>{ s with aK:=mB (fun A=>A.map gM.fz) s.aK j,ep:=s.ep+1 }) st a
theorem FP (st:St) (a j:Nat) (l:List (Nat×Nat)):freeze st ((a,j)::l)=freeze (fq st a j) l:=rfl
theorem iV (st:St) (a j s:Nat):∃f:Sl→Sl,(∀x,(f x).v=x.v∧(f x).box=x.box∧(f x).bg=x.bg∧(f x).ag=x.ag∧
   (∀i,nth (f x).aK i=if s=a∧i=j then (nth x.aK i).map (fun A=>A.map gM.fz) else nth x.aK i)∧(f x).ep=if s=a then x.ep+1 else x.ep)∧nth (fq st a j) s=(nth st s).map f:=by
 unfold fq
 by_cases h:s=a
 ·subst h;refine ⟨fun s=>{ s with aK:=mB (fun A=>A.map gM.fz) s.aK j,ep:=s.ep+1 },fun x=>⟨rfl,rfl,rfl,rfl,fun i => ?_,by simp⟩,gY _ _ _⟩;simp only [dD,true_and]
 ·refine ⟨id,fun x=>⟨rfl,rfl,rfl,rfl,fun i => ?_,by simp [h]⟩,by rw [lj _ _ h];simp⟩;simp [h]
theorem zM (st:St) (a j b:Nat):kc st b≤kc (fq st a j) b∧(kc (fq st a j) b=kc st b→b≠a∨nth st b=none):=by
 obtain ⟨f,hf,hn⟩:=iV st a j b;unfold kc;rw [hn]
 cases hx:nth st b with
 |none=>simp
 |some x=>
  simp only [Option.map_some];rw [(hf x).2.2.2.2.2]
  by_cases e:b=a
  ·rw [if_pos e];exact ⟨by omega,fun h=>by omega⟩
  ·rw [if_neg e];exact ⟨Nat.le_refl _,fun _=>.inl e⟩
theorem Em (st:St) (a j t:Nat):cC (fq st a j) t=cC st t:=by
 obtain ⟨f,hf,hn⟩:=iV st a j t;unfold cC;rw [hn]
 cases nth st t with
 |none=>rfl
 |some x=>exact (hf x).1
theorem En {st:St} {a j a' j' g:Nat} {A':gM} (h:aV (fq st a j) a' j' g=some A'):∃A,aV st a' j' g=some A∧A'.r.width=A.r.width∧A'.xs.length=A.xs.length∧(a'≠a→A'=A):=by
 obtain ⟨sl,h1,h2,h3⟩:=bt h;obtain ⟨f,hf,hn⟩:=iV st a j a';rw [hn] at h1
 cases hx:nth st a' with
 |none=>rw [hx] at h1;simp at h1
 |some x=>
  rw [hx] at h1;simp at h1;subst h1;obtain ⟨_,_,_,f4,f5,_⟩:=hf x;rw [f5] at h3;rw [f4] at h2;have key:∃A,nth x.aK j'=some (some A)∧A'.r.width=A.r.width∧A'.xs.length=A.xs.length∧(a'≠a→A'=A):=by
   by_cases e:a'=a∧j'=j
   ·rw [if_pos e] at h3
    cases hj:nth x.aK j' with
    |none=>simp [hj] at h3
    |some o=>cases o with
     |none=>simp [hj] at h3
     |some A=>simp [hj] at h3;subst h3;exact ⟨A,rfl,rfl,rfl,fun h=>absurd e.1 h⟩
   ·rw [if_neg e] at h3;exact ⟨A',h3,rfl,rfl,fun _=>rfl⟩
  obtain ⟨A,k1,k2,k3⟩:=key;refine ⟨A,?_,k2,k3⟩;unfold aV;rw [hx];have:Nat.beq x.ag g=true:=by rw [h2];exact Nat.beq_refl g
  simp [this,k1]
theorem Eo (st:St) (a j b g:Nat):dH (fq st a j) b g=dH st b g:=by
 obtain ⟨f,hf,hn⟩:=iV st a j b;unfold dH;rw [hn]
 cases nth st b with
 |none=>rfl
 |some x=>obtain ⟨_,h2,h3,_⟩:=hf x;simp [h2,h3]
theorem Ep (st:St) (a j b:Nat):dw (fq st a j) b=dw st b:=by
 obtain ⟨f,hf,hn⟩:=iV st a j b;unfold dw;rw [hn]
 cases nth st b with
 |none=>rfl
 |some x=>exact (hf x).2.2.2.1
theorem Er (st:St) (a j b:Nat):fP (fq st a j) b=fP st b:=by
 obtain ⟨f,hf,hn⟩:=iV st a j b;unfold fP;rw [hn]
 cases nth st b with
 |none=>rfl
 |some x=>exact (hf x).2.2.1
theorem Fw.fq (c:Cz) (st:St) (w:World) (a j:Nat):Fw c st w (c.drop1 a j) (fq st a j) w where
 stays:=⟨Nat.le_refl _,fun _ _ _=>rfl,fun _ _ h=>Cz.xI h⟩
 refs a' j' g A' _ eE:=by
  obtain ⟨A,h1,h2,h3,h4⟩:=En eE;refine ⟨A,h1,h2,h3,rfl,fun he=>⟨?_,fun _ _ _ _=>rfl⟩⟩;rcases (zM st a j a').2 he with e | e
  ·exact h4 e
  ·unfold aV at h1;rw [e] at h1;cases h1
 yO b g mf _ h:=⟨⟨mf,by rwa [Eo] at h⟩,rfl⟩
 gA b:=by rw [Ep];exact Nat.le_refl _
 gB b:=by rw [Er];exact Nat.le_refl _
 gE b:=(zM st a j b).1
theorem Rel.fq {w0:World} {mu:Mu} {c:Cz} {st:St} {a:Act} {w:World} (h:Rel w0 mu c st a w) (s j:Nat):Rel w0 mu (c.drop1 s j) (fq st s j) a w where
 ey t:=by rw [Em];exact (Fw.fq c st w s j).la (h.ey t)
 boxes b sl cs hs hb:=by
  obtain ⟨f,hf,hn⟩:=iV st s j b;rw [hn] at hs
  cases hx:nth st b with
  |none=>rw [hx] at hs;simp at hs
  |some x=>
   rw [hx] at hs;simp at hs;subst hs;rw [(hf x).2.1] at hb;have h0:=h.boxes b x cs hx hb;exact h0.go (Fw.fq c st w s j) rfl (by rw [h0.1];exact Cz.rf h0.1 (by simp)) rfl
 aK b i sl A hs hb:=by
  obtain ⟨f,hf,hn⟩:=iV st s j b;rw [hn] at hs
  cases hx:nth st b with
  |none=>rw [hx] at hs;simp at hs
  |some x=>
   rw [hx] at hs;simp at hs;subst hs;rw [(hf x).2.2.2.2.1 i] at hb
   by_cases e:b=s∧i=j
   ·rw [if_pos e] at hb
    cases hj:nth x.aK i with
    |none=>simp [hj] at hb
    |some o=>cases o with
     |none=>simp [hj] at hb
     |some B=>
      simp [hj] at hb;subst hb;have h0:=h.aK b i x B hx hj;unfold cq at h0 ⊢;show match c.lc b i with | .nil=>_ | .at b off cap=>_
      cases hl:c.lc b i with
      |nil=>rw [hl] at h0;exact h0
      |«at» k off cap=>
       rw [hl] at h0;obtain ⟨h1,h2,h3,h4⟩:=h0;refine ⟨?_,h2,h3,?_⟩
       ·show (c.drop1 s j).own k=none
        cases ho:B.own with
        |true=>rw [ho] at h1;obtain ⟨rfl,rfl⟩:=e;exact Cz.Bq h1
        |false=>rw [ho] at h1;exact Cz.xI h1
       ·unfold bF at h4 ⊢;show match B.md.fz with | .sh=>_ | .dp=>_ | .ho _=>_ | .lz=>_
        cases hm:B.md with
        |sh=>rw [hm] at h4;exact fun i x hi=>dE.stays (Fw.fq c st w s j).stays _ _ _ x rfl (h4 i x hi)
        |dp=>
         rw [hm] at h4;obtain ⟨g,_,h4⟩:=h4;obtain ⟨rfl,rfl⟩:=e;exact fun i x hi=>fl.rep (fun p k hk=>Cz.Bq hk.1) _ _ _ _ _ x (h4 i x hi)
        |lz=>
         rw [hm] at h4;obtain ⟨g,h4⟩:=h4;exact fun i x hi=>fl.rep (fun p k hk=>Cz.xI hk.1.1) _ _ _ _ _ x (h4 i x hi)
        |ho q=>exact fun e=>by cases e
   ·rw [if_neg e] at hb;have h0:=h.aK b i x A hx hb;refine h0.go (Fw.fq c st w s j).stays rfl (fun k h1=>⟨rfl,?_⟩);rw [h1];exact Cz.rf h1 (by rintro e';injection e' with e1 e2;exact e ⟨e1,e2⟩)
 owned b l hb:=h.owned b l (Cz.HT hb)
 free b hb h1:=by
  cases hc:c.own b with
  |none=>exact h.free b hb hc
  |some l=>
   rcases (h.owned b l hc).2 with h2 | h2 | h2
   ·subst h2;unfold Cz.drop1 at h1;simp [hc] at h1
   ·omega
   ·exact .inl h2
 kept:=h.kept
 old:=h.old
 dF p hp:=(Fw.fq c st w s j).dF (h.dF p hp)
 mT:=h.mT
 plain:=h.plain
def Cz.drop (c:Cz):List (Nat×Nat)→Cz
 | []=>c
 |(a,j)::l=>(c.drop1 a j).drop l
theorem Rel.freeze {w0:World} {mu:Mu} {a:Act} {w:World}:(m:List (Nat×Nat))→{c:Cz}→{st:St}→Rel w0 mu c st a w→Rel w0 mu (c.drop m) (freeze st m) a w
 | [],_,_,h=>h
 |(s,j)::m,_,_,h=>Rel.freeze m (h.fq s j)
theorem Cz.tQ:(m:List (Nat×Nat))→(c:Cz)→(b:Nat)→c.ok b→(c.drop m).ok b
 | [],_,_,h=>h
 |(a,j)::m,c,b,h=>Cz.tQ m (c.drop1 a j) b (Cz.xI h)
theorem Cz.wa:(m:List (Nat×Nat))→(c:Cz)→(b:Nat)→{a j:Nat}→c.own b=some (.sp a j)→(a,j)∈m→(c.drop m).ok b
 | [],_,_,_,_,_,h=>by simp at h
 |(a',j')::m,c,b,a,j,h,hm=>by
  by_cases e:a'=a∧j'=j
  ·obtain ⟨rfl,rfl⟩:=e;exact Cz.tQ m _ b (Cz.Bq h)
  ·refine Cz.wa m (c.drop1 a' j') b (Cz.rf h (by rintro e';injection e' with e1 e2;exact e ⟨e1.symm,e2.symm⟩)) ?_;rcases List.mem_cons.1 hm with h' | h'
   ·injection h' with e1 e2;exact absurd ⟨e1.symm,e2.symm⟩ e
   ·exact h'
theorem Cz.Es:(m:List (Nat×Nat))→(c:Cz)→(c.drop m).lc=c.lc∧(c.drop m).bx=c.bx
 | [],_=>⟨rfl,rfl⟩
 |(a,j)::m,c=>Cz.Es m (c.drop1 a j)
theorem Cz.yP:(m:List (Nat×Nat))→(c:Cz)→(b:Nat)→{l:Lb}→c.own b=some l→(∀p∈m,l≠.sp p.1 p.2)→(c.drop m).own b=some l
 | [],_,_,_,h,_=>h
 |(a,j)::m,c,b,l,h,hm=>Cz.yP m (c.drop1 a j) b (Cz.rf h (hm (a,j) (by simp))) (fun p hp=>hm p (by simp [hp]))
theorem Fw.trans {c c1 c2:Cz} {st wc iz:St} {w w1 w2:World} (h:Fw c st w c1 wc w1) (k:Fw c1 wc w1 c2 iz w2):Fw c st w c2 iz w2 where
 stays:=⟨Nat.le_trans h.stays.size k.stays.size,fun b hb ho=>(k.stays.block b (Nat.lt_of_lt_of_le hb h.stays.size) (h.stays.ok b hb ho)).trans (h.stays.block b hb ho),
  fun b hb ho=>k.stays.ok b (Nat.lt_of_lt_of_le hb h.stays.size) (h.stays.ok b hb ho)⟩
 refs a j g A' hg eE:=by
  obtain ⟨A1,h1,h2,h3,h4,h5⟩:=k.refs a j g A' (Nat.le_trans hg (h.gA a)) eE;obtain ⟨A,k1,k2,k3,k4,k5⟩:=h.refs a j g A1 hg h1;refine ⟨A,k1,h2.trans k2,h3.trans k3,h4.trans k4,fun he => ?_⟩;have g1:=h.gE a;have g2:=k.gE a;obtain ⟨e1,e2⟩:=h5 (by omega);obtain ⟨e3,e4⟩:=k5 (by omega);exact ⟨e1.trans e3,fun b o cap hl=>(e2 b o cap (by rw [k4];exact hl)).trans (e4 b o cap hl)⟩
 yO b g mf hg hb:=by
  obtain ⟨⟨cs1,h1⟩,h2⟩:=k.yO b g mf (Nat.le_trans hg (h.gB b)) hb;obtain ⟨h3,h4⟩:=h.yO b g cs1 hg h1;exact ⟨h3,h2.trans h4⟩
 gA a:=Nat.le_trans (h.gA a) (k.gA a)
 gB b:=Nat.le_trans (h.gB b) (k.gB b)
 gE b:=Nat.le_trans (h.gE b) (k.gE b)
theorem Fw.refl (c:Cz) (st:St) (w:World):Fw c st w c st w:=⟨iH.refl w _,fun _ _ _ A' _ h=>⟨A',h,rfl,rfl,rfl,fun _=>⟨rfl,fun _ _ _ _=>rfl⟩⟩,fun _ _ mf _ h=>⟨⟨mf,h⟩,rfl⟩,fun _=>Nat.le_refl _,fun _=>Nat.le_refl _,fun _=>Nat.le_refl _⟩
theorem Fw.freeze (w:World):(m:List (Nat×Nat))→(c:Cz)→(st:St)→Fw c st w (c.drop m) (freeze st m) w
 | [],c,st=>Fw.refl c st w
 |(a,j)::m,c,st=>(Fw.fq c st w a j).trans (Fw.freeze w m (c.drop1 a j) (TM.fq st a j))
theorem xJ {w0:World} {mu:Mu} {c:Cz} {st:St} {a:Act} {w:World} (h:Rel w0 mu c st a w):(r:RT)→(cs:List CV)→(us:List Value)→fF c st w cs us→
  (k:ar r→List (Nat×Nat)→N)→{bd:St}→(rowOf st r cs k).val=some bd→
  ∃x m,(k x m).val=some bd∧(∀p∈m,∃g A,aV st p.1 p.2 g=some A)∧
   ∀ok:Nat→Prop,(∀b,c.ok b→ok b)→(∀p∈m,∀b,c.own b=some (.sp p.1 p.2)→ok b)→dj w ok r us x
 |.nil,cs,us,hl,k,bd,hv=>by
  cases cs with
  |cons _ _=>simp [rowOf,N.val] at hv
  |nil=>
   have:us=[]:=by have:=hl.1;simp at this;exact List.length_eq_zero_iff.1 this.symm
   subst this;exact ⟨(),[],hv,fun p hp=>by simp at hp,fun _ _ _=>rfl⟩
 |.cons t r,cs,us,hl,k,bd,hv=>by
  cases cs with
  |nil=>cases t<;>simp [rowOf,N.val] at hv
  |cons y cs=>
   cases us with
   |nil=>have:=hl.1;simp at this
   |cons u us=>
    have hu:jv c st w y u:=hl.2 0 y u rfl rfl;have tD:fF c st w cs us:=⟨by have:=hl.1;simpa using this,fun i a b ha hb=>hl.2 (i+1) a b (by simpa using ha) (by simpa using hb)⟩;have plain:∀(d:den t),(∀ok:Nat→Prop,(∀b,c.ok b→ok b)→cE w ok t u d)→(rowOf st r cs (fun x m=>k (d,x) m)).val=some bd→
      ∃x m,(k x m).val=some bd∧(∀p∈m,∃g A,aV st p.1 p.2 g=some A)∧
       ∀ok:Nat→Prop,(∀b,c.ok b→ok b)→(∀p∈m,∀b,c.own b=some (.sp p.1 p.2)→ok b)→dj w ok (.cons t r) (u::us) x:=by
     intro d hd hv;obtain ⟨x,m,h1,h2,h3⟩:=xJ h r cs us tD _ hv;exact ⟨(d,x),m,h1,h2,fun ok ho hm=>⟨u,us,rfl,hd ok ho,h3 ok ho hm⟩⟩
    cases t with
    |int q=>
     cases y with
     |int l n=>
      simp only [rowOf] at hv
      by_cases e:q=l
      ·rw [if_pos e] at hv;exact plain n (fun ok _=>tL.2 (by rw [e];exact hu)) hv
      ·rw [if_neg e] at hv;simp [N.val] at hv
     |_=>simp [rowOf,N.val] at hv
    |bool=>
     cases y with
     |bool b=>exact plain b (fun ok _=>rX.2 hu) (by simpa only [rowOf] using hv)
     |_=>simp [rowOf,N.val] at hv
    |str=>
     cases y with
     |str s=>exact plain s (fun ok _=>vh.2 hu) (by simpa only [rowOf] using hv)
     |_=>simp [rowOf,N.val] at hv
    |sl q=>
     cases y with
     |dY=>exact plain ([]:List (ar q)) (fun ok _=>(nI _ _ _ _ _).2 (.inl ⟨hu,rfl⟩)) (by simpa only [rowOf] using hv)
     |shr r' ys=>
      simp only [rowOf] at hv
      cases hc:cn q ys with
      |none=>simp [hc,N.val] at hv
      |some zs=>
       simp only [hc] at hv;obtain ⟨rfl,rfl⟩:=bH hc;exact plain _ (fun ok ho=>cE.stays ⟨Nat.le_refl _,fun _ _ _=>rfl,fun b _ hb=>ho b hb⟩ _ _ _ hu) hv
     |ref a' j g vw=>
      simp only [rowOf] at hv
      cases hA:aV st a' j g with
      |none=>simp [hA,N.val] at hv
      |some A=>
       simp only [hA] at hv;have u0:A.md.C7=false:=by
        cases hm:A.md with
        |ho _=>rw [hm] at hv;simp [N.val] at hv
        |_=>rfl
       have hv:(match cn q A.xs with
         |some ys=>rowOf st r cs (fun x m=>k (vw.app ys,x) ((a',j)::m))
         |none=>.fail).val=some bd:=by
        cases hm:A.md with
        |ho _=>rw [hm] at u0;cases u0
        |sh=>rw [hm] at hv;exact hv
        |lz=>rw [hm] at hv;exact hv
        |dp=>rw [hm] at hv;exact hv
       cases hc:cn q A.xs with
       |none=>simp [hc,N.val] at hv
       |some ys=>
        simp only [hc] at hv;obtain ⟨e,he⟩:=bH hc;subst e;simp only at he;subst he;obtain ⟨sl,xD,HS,yK⟩:=bt hA;have CL:=h.aK a' j sl A xD yK;obtain ⟨x,m,h1,h2,h3⟩:=xJ h r cs us tD _ hv;refine ⟨(vw.app A.xs,x),(a',j)::m,h1,fun p hp => ?_,fun ok ho hm=>⟨u,us,rfl,?_,h3 ok ho (fun p hp=>hm p (by simp [hp]))⟩⟩
        ·rcases List.mem_cons.1 hp with rfl | hp
         ·exact ⟨g,A,hA⟩
         ·exact h2 p hp
        ·exact xH CL (hu.2.2 A hA) ho (fun k _ hk=>hm (a',j) (by simp) k hk) u0
     |_=>simp [rowOf,N.val] at hv
end Go.TM
namespace Go.TM
open Go Go.RowKit
theorem wL {cs l m:List CV} {off:Nat} (h:putCells cs off l=some m):off+l.length≤cs.length∧m=cs.take off++l++cs.drop (off+l.length):=by
 unfold putCells at h;obtain ⟨h1,h2⟩:=aJ h;exact ⟨Nat.le_of_ble_eq_true h1,(Option.some.inj h2).symm⟩
theorem fF.bY {c:Cz} {st:St} {w:World} {cs l:List CV} {vs us:List Value} (h:fF c st w cs vs) (hl:fF c st w l us) (off:Nat) (hle:off+l.length≤cs.length) :
  fF c st w (cs.take off++l++cs.drop (off+l.length)) (TM.bY vs off us):=by
 have e1:=h.1;have e2:=hl.1;refine ⟨by rw [eb (by omega)];simp;omega,fun i x v hx hv => ?_⟩;unfold TM.bY at hv;rw [List.getElem?_append,List.getElem?_append] at hx hv;simp only [List.length_append,List.length_take] at hx hv;have a1:min off cs.length=off:=by omega
 have a2:min off vs.length=off:=by omega
 rw [a1] at hx;rw [a2,←e2] at hv
 by_cases h1:i<off+l.length
 ·rw [if_pos h1] at hx hv
  by_cases h2:i<off
  ·rw [if_pos h2,List.getElem?_take,if_pos h2] at hx hv;exact h.2 i x v hx hv
  ·rw [if_neg h2] at hx hv;exact hl.2 _ x v hx hv
 ·rw [if_neg h1,List.getElem?_drop] at hx hv;exact h.2 _ x v hx hv
theorem Rel.MY {w0:World} {mu:Mu} {c:Cz} {st:St} {a:Act} {w:World} (h:Rel w0 mu c st a w) {b:Nat} {s0:Sl} {cs l:List CV} {vs cur':Array Value} {ty:TypeId}
  (hs:nth st b=some s0) (hb:s0.box=some cs) (hg:w.heap[c.bx b]?=some (.cells vs ty (0,0))) (hl:fF c st w l cur'.toList) :
  Rel w0 mu c (mB (fun s=>{ s with box:=some l }) st b) a (w.setRow (c.bx b) cur'):=by
 have eL:=(h.boxes b s0 cs hs hb).1;have hn:∀s,nth (mB (fun s=>{ s with box:=some l }) st b) s=if s=b then some { s0 with box:=some l } else nth st s:=by
  intro s;rw [dD]
  by_cases e:s=b
  ·subst e;simp [hs]
  ·simp [e]
 generalize mB (fun s=>{ s with box:=some l }) st b=bd at hn ⊢;have re:=qA (w:=w) eL cur';have pY:∀k,k≠c.bx b→(w.setRow (c.bx b) cur').heap[k]?=w.heap[k]?:=fun k hk=>setRow_other w _ k cur' hk
 have fR:Fw c st w c bd (w.setRow (c.bx b) cur'):={
  stays:=re
  refs:=fun a' j g A' _ eE=>by
   have Dc:aV st a' j g=some A':=by
    unfold aV at eE ⊢;rw [hn] at eE
    by_cases e:a'=b
    ·subst e;simpa [hs] using eE
    ·simpa [e] using eE
   refine ⟨A',Dc,rfl,rfl,rfl,fun _=>⟨rfl,fun k o cap hl=>pY k ?_⟩⟩;have ha:=h.sW Dc;unfold cq at ha;rw [hl] at ha;intro e;subst e;obtain ⟨h1,_⟩:=ha;rw [eL] at h1
   cases ho:A'.own<;>simp [ho] at h1
  yO:=fun b' g mf _ oN=>by
   refine ⟨?_,rfl⟩;unfold dH at oN ⊢;rw [hn] at oN
   by_cases e:b'=b
   ·subst e;simp only [if_true] at oN;obtain ⟨h1,_⟩:=aJ oN;exact ⟨cs,by simp [hs,h1,hb]⟩
   ·simp only [e,if_false] at oN;exact ⟨mf,oN⟩
  gA:=fun a'=>by
   unfold dw;rw [hn]
   by_cases e:a'=b
   ·subst e;simp [hs]
   ·simp [e]
  gB:=fun a'=>by
   unfold fP;rw [hn]
   by_cases e:a'=b
   ·subst e;simp [hs]
   ·simp [e]
  gE:=fun a'=>by
   unfold kc;rw [hn]
   by_cases e:a'=b
   ·subst e;simp [hs]
   ·simp [e] }
 exact {
  ey:=fun t=>by
   have e1:cC bd t=cC st t:=by
    unfold cC;rw [hn]
    by_cases e:t=b
    ·subst e;simp [hs]
    ·simp [e]
   rw [e1];exact fR.la (h.ey t)
  boxes:=fun s sl mf xK oN=>by
   rw [hn] at xK
   by_cases e:s=b
   ·subst e;simp only [if_true,Option.some.injEq] at xK;subst xK;simp only [Option.some.injEq] at oN;subst oN;exact ⟨eL,cur',ty,setRow_heap w _ vs cur' ty (0,0) hg,fR.MV hl⟩
   ·simp only [e,if_false] at xK;have h0:=h.boxes s sl mf xK oN;refine h0.go fR rfl rfl (pY _ ?_);intro e';have:=h0.1;rw [e',eL] at this;injection this with this;injection this with this;exact e this.symm
  aK:=fun s j sl A xK eE=>by
   rw [hn] at xK;have ha:cq c w s j A:=by
    by_cases e:s=b
    ·subst e;simp only [if_true,Option.some.injEq] at xK;subst xK;exact h.aK s j s0 A hs eE
    ·simp only [e,if_false] at xK;exact h.aK s j sl A xK eE
   refine ha.go re rfl (fun k h1=>⟨pY k ?_,rfl⟩);intro e;subst e;rw [eL] at h1
   cases h1
  owned:=fun k l hk=>by
   have:=h.owned k l hk;exact ⟨by simpa [World.setRow] using this.1,this.2⟩
  free:=h.free
  kept:=⟨h.kept.1,h.kept.2.1,h.kept.2.2.1,by simpa [World.setRow] using h.kept.2.2.2⟩
  old:=fun k hk hm=>by
   rw [pY k (fun e=>by
    have:=(h.owned _ _ eL).2;rcases this with this | this | this
    ·cases this
    ·subst e;omega
    ·subst e;exact hm this)]
   exact h.old k hk hm
  dF:=fun p hp=>fR.dF (h.dF p hp)
  mT:=fun k l hk=>⟨by simpa [World.setRow] using (h.mT k l hk).1,(h.mT k l hk).2⟩
  plain:=h.plain }
theorem Rel.Dd {w0:World} {mu:Mu} {c:Cz} {st:St} {a:Act} {w:World} (h:Rel w0 mu c st a w) {s j:Nat} {s0:Sl} {A:gM} {b off cap:Nat} {cur cur':Array Value} {ty:TypeId}
  {md':Md} {ys:List (ar A.r)} (hs:nth st s=some s0) (hA:nth s0.aK j=some (some A)) (eL:A.own=true) (iy:c.lc s j=.at b off cap)
  (hg:w.heap[b]?=some (.cells cur ty (0,0))) (kg:cur'.size=cur.size) (hlen:ys.length=A.xs.length)
  (dK:bF c (w.setRow b cur') (.sp s j) { A with xs:=ys,md:=md' } b off) :
  Rel w0 mu c (bz st s j (some { A with xs:=ys,md:=md' })) a (w.setRow b cur'):=by
 have h0:=h.aK s j s0 A hs hA;unfold cq at h0;rw [iy] at h0;obtain ⟨h1,h2,⟨Wi,ty0,h3,h4⟩,h5⟩:=h0;rw [eL] at h1;have hc0:Wi=cur:=by rw [hg] at h3;injection h3 with h3;injection h3 with h3;exact h3.symm
 subst hc0;have hn:∀k,nth (bz st s j (some { A with xs:=ys,md:=md' })) k=if k=s then some { s0 with aK:=mB (fun _=>some { A with xs:=ys,md:=md' }) s0.aK j,ep:=s0.ep+1 } else nth st k:=by
  intro k;unfold bz;rw [dD]
  by_cases e:k=s
  ·subst e;simp [hs]
  ·simp [e]
 generalize bz st s j (some { A with xs:=ys,md:=md' })=bd at hn ⊢;have re:=qA (w:=w) h1 cur';have pY:∀k,k≠b→(w.setRow b cur').heap[k]?=w.heap[k]?:=fun k hk=>setRow_other w _ k cur' hk
 have fR:Fw c st w c bd (w.setRow b cur'):={
  stays:=re
  refs:=fun a' j' g A' _ eE=>by
   obtain ⟨sl,k1,k2,k3⟩:=bt eE;rw [hn] at k1
   by_cases e:a'=s
   ·subst e;simp only [if_true,Option.some.injEq] at k1;subst k1;simp only at k2 k3;rw [dD] at k3
    by_cases e2:j'=j
    ·subst e2;rw [if_pos rfl,hA] at k3;simp only [Option.map_some,Option.some.injEq] at k3;subst k3;refine ⟨A,?_,rfl,hlen,rfl,fun he => ?_⟩
     ·unfold aV;rw [hs];have:Nat.beq s0.ag g=true:=by rw [k2];exact Nat.beq_refl g
      simp [this,hA]
     ·unfold kc at he;rw [hn,if_pos rfl,hs] at he;simp at he
    ·rw [if_neg e2] at k3;refine ⟨A',?_,rfl,rfl,rfl,fun he => ?_⟩
     ·unfold aV;rw [hs];have:Nat.beq s0.ag g=true:=by rw [k2];exact Nat.beq_refl g
      simp [this,k3]
     ·unfold kc at he;rw [hn,if_pos rfl,hs] at he;simp at he
   ·rw [if_neg e] at k1;have Dc:aV st a' j' g=some A':=by
     unfold aV;rw [k1];have:Nat.beq sl.ag g=true:=by rw [k2];exact Nat.beq_refl g
     simp [this,k3]
    refine ⟨A',Dc,rfl,rfl,rfl,fun _=>⟨rfl,fun k o El hl=>pY k ?_⟩⟩;have ha:=h.sW Dc;unfold cq at ha;rw [hl] at ha
    rintro rfl
    obtain ⟨g1,_⟩:=ha;rw [h1] at g1
    cases ho:A'.own with
    |true=>simp [ho] at g1;exact e g1.1.symm
    |false=>simp [ho] at g1
  yO:=fun b' g mf _ oN=>by
   refine ⟨⟨mf,?_⟩,rfl⟩;unfold dH at oN ⊢;rw [hn] at oN
   by_cases e:b'=s
   ·subst e;simpa [hs] using oN
   ·simpa [e] using oN
  gA:=fun a'=>by
   unfold dw;rw [hn]
   by_cases e:a'=s
   ·subst e;simp [hs]
   ·simp [e]
  gB:=fun a'=>by
   unfold fP;rw [hn]
   by_cases e:a'=s
   ·subst e;simp [hs]
   ·simp [e]
  gE:=fun a'=>by
   unfold kc;rw [hn]
   by_cases e:a'=s
   ·subst e;simp [hs]
   ·simp [e] }
 exact {
  ey:=fun t=>by
   have e1:cC bd t=cC st t:=by
    unfold cC;rw [hn]
    by_cases e:t=s
    ·subst e;simp [hs]
    ·simp [e]
   rw [e1];exact fR.la (h.ey t)
  boxes:=fun k sl mf xK oN=>by
   rw [hn] at xK;have yL:sV c st w k mf:=by
    by_cases e:k=s
    ·subst e;simp only [if_true,Option.some.injEq] at xK;subst xK;exact h.boxes k s0 mf hs oN
    ·simp only [e,if_false] at xK;exact h.boxes k sl mf xK oN
   refine yL.go fR rfl rfl (pY _ ?_);intro e;have:=yL.1;rw [e,h1] at this;simp at this
  aK:=fun k i sl B xK hB=>by
   rw [hn] at xK
   by_cases e:k=s∧i=j
   ·obtain ⟨rfl,rfl⟩:=e;simp only [if_true,Option.some.injEq] at xK;subst xK;simp only at hB;rw [dD,if_pos rfl,hA] at hB;simp only [Option.map_some,Option.some.injEq] at hB;subst hB;unfold cq;rw [iy];refine ⟨by rw [eL];exact h1,by simp only;rw [hlen];exact h2,⟨cur',ty,setRow_heap w b Wi cur' ty (0,0) hg,by simp only;rw [kg];exact h4⟩,dK⟩
   ·have ha:cq c w k i B:=by
     by_cases e2:k=s
     ·subst e2;simp only [if_true,Option.some.injEq] at xK;subst xK;simp only at hB;rw [dD,if_neg (fun e3=>e ⟨rfl,e3⟩)] at hB;exact h.aK k i s0 B hs hB
     ·rw [if_neg e2] at xK;exact h.aK k i sl B xK hB
    refine ha.go re rfl (fun k' g1=>⟨pY k' ?_,rfl⟩)
    rintro rfl
    rw [h1] at g1;simp at g1;exact e ⟨g1.1.symm,g1.2.symm⟩
  owned:=fun k l hk=>by
   have:=h.owned k l hk;exact ⟨by simpa [World.setRow] using this.1,this.2⟩
  free:=h.free
  kept:=⟨h.kept.1,h.kept.2.1,h.kept.2.2.1,by simpa [World.setRow] using h.kept.2.2.2⟩
  old:=fun k hk hm=>by
   rw [pY k (fun e=>by
    have:=(h.owned _ _ h1).2;rcases this with this | this | this
    ·cases this
    ·subst e;omega
    ·subst e;exact hm this)]
   exact h.old k hk hm
  dF:=fun p hp=>fR.dF (h.dF p hp)
  mT:=fun k l hk=>⟨by simpa [World.setRow] using (h.mT k l hk).1,(h.mT k l hk).2⟩
  plain:=h.plain }
theorem Rel.rh {w0:World} {mu:Mu} {c:Cz} {st:St} {a:Act} {w:World} (h:Rel w0 mu c st a w) {s j:Nat} {s0:Sl} {A:gM} {b off cap:Nat} {cur cur':Array Value} {ty:TypeId}
  {ys:List (ar A.r)} (hs:nth st s=some s0) (hA:nth s0.aK j=some (some A)) (eL:A.own=true) (iy:c.lc s j=.at b off cap)
  (hg:w.heap[b]?=some (.cells cur ty (0,0))) (kg:cur'.size=cur.size) (hlen:ys.length=A.xs.length)
  (dK:bF c (w.setRow b cur') (.sp s j) { A with xs:=ys } b off) :
  Rel w0 mu c (bz st s j (some { A with xs:=ys })) a (w.setRow b cur'):=h.Dd hs hA eL iy hg kg hlen dK
end Go.TM
namespace Go.TM
open Go Go.RowKit
theorem xL:(r:RT)→(x:ar r)→(k:Nat)→(y:CV)→{z:ar r}→gH r x k y=some z→k<r.width
 |.nil,_,_,_,_,h=>by simp [gH] at h
 |.cons t r,x,0,y,z,_=>by simp [RT.width]
 |.cons t r,x,k+1,y,z,h=>by
  have h':(gH r x.2 k y).map (fun z=>((x.1,z):ar (.cons t r)))=some z:=by cases t<;>(simp only [gH] at h;exact h)
  cases hq:gH r x.2 k y with
  |none=>rw [hq] at h';cases h'
  |some z'=>have:=xL r x.2 k y hq;simp [RT.width];omega
theorem qB (r:RT) (x:ar r):(off:Nat)→(cs:List CV)→{z:ar r}→j2 r x off cs=some z→cs≠[]→off+cs.length≤r.width
 |_,[],_,_,h=>absurd rfl h
 |off,y::l,z,h,_=>by
  simp only [j2] at h
  cases hq:j2 r x (off+1) l with
  |none=>simp [hq] at h
  |some y'=>
   simp only [hq] at h;have h1:=xL r y' off y h
   cases l with
   |nil=>simp;omega
   |cons y2 l2=>have:=qB r x (off+1) (y2::l2) hq (by simp);simp at this ⊢;omega
theorem j3 {vs us:List Value} {off k:Nat} (hle:off+us.length≤vs.length):(bY vs off us)[k]?=if off≤k∧k<off+us.length then us[k-off]? else vs[k]?:=by
 unfold bY;simp only [List.getElem?_append,List.length_append,List.length_take,List.getElem?_take,List.getElem?_drop];have a1:min off vs.length=off:=by omega
 rw [a1]
 by_cases h1:k<off
 ·rw [if_pos (by omega),if_pos h1,if_pos h1,if_neg (by omega)]
 ·by_cases h2:k<off+us.length
  ·rw [if_pos h2,if_neg h1,if_pos ⟨by omega,h2⟩]
  ·rw [if_neg h2,if_neg (by omega)]
   congr 1
   omega
theorem w8:(m:List (Nat×Nat))→{st:St}→{a j:Nat}→{sl:Sl}→{A:gM}→nth st a=some sl→nth sl.aK j=some (some A)→(a,j)∉m→
  ∃PO,nth (freeze st m) a=some PO∧nth PO.aK j=some (some A)
 | [],_,_,_,sl,_,h1,h2,_=>⟨sl,h1,h2⟩
 |(b,i)::m,st,a,j,sl,A,h1,h2,hm=>by
  rw [FP];obtain ⟨f,hf,hn⟩:=iV st b i a;refine w8 m (sl:=f sl) (A:=A) (by rw [hn,h1];rfl) ?_ (fun h=>hm (by simp [h]));rw [(hf sl).2.2.2.2.1 j,if_neg]
  ·exact h2
  ·rintro ⟨rfl,rfl⟩;exact hm (by simp)
theorem xM {c:Cz} {w:World} {b off:Nat} {r:RT} {xs:List (ar r)} {cur:Array Value} {ty:TypeId} {l:Lb} (eL:c.own b=some l)
  (hg:w.heap[b]?=some (.cells cur ty (0,0))) (dK:∀(i:Nat) x,xs[i]?=some x→dE w c.ok r b (off+i*r.width) x)
  {i k:Nat} {x y:ar r} {us:List Value} (hx:xs[i]?=some x) (hle:k+us.length≤r.width) (kg:off+i*r.width+r.width≤cur.size)
  (hy:∀vs,dj w c.ok r vs x→dj w c.ok r (bY vs k us) y) :
  ∀(i':Nat) x',(xs.set i y)[i']?=some x'→dE (w.setRow b (bY cur.toList (off+i*r.width+k) us).toArray) c.ok r b (off+i'*r.width) x':=by
 have re:=qA (w:=w) eL (bY cur.toList (off+i*r.width+k) us).toArray;have MZ:=setRow_heap w b cur (bY cur.toList (off+i*r.width+k) us).toArray ty (0,0) hg;have qu:∀q,(w.setRow b (bY cur.toList (off+i*r.width+k) us).toArray).cell? ⟨b,q,none⟩=
   if off+i*r.width+k≤q∧q<off+i*r.width+k+us.length then us[q-(off+i*r.width+k)]? else w.cell? ⟨b,q,none⟩:=by
  intro q;rw [cell_of_row _ b q _ ty (0,0) MZ,cell_of_row w b q cur ty (0,0) hg];simp only [List.getElem?_toArray];rw [j3 (by simp;omega)];simp
 intro i' x' uM;rw [List.getElem?_set] at uM
 by_cases e:i=i'
 ·subst e;rw [if_pos rfl] at uM;have hi:i<xs.length:=(List.getElem?_eq_some_iff.1 hx).1;rw [if_pos hi] at uM;obtain rfl:=Option.some.inj uM;obtain ⟨vs,h1,h2⟩:=(ke r b _ x).1 (dK i x hx);have u7:=dj.length r vs x h2;refine (ke r b _ y).2 ⟨bY vs k us,fun q v hv => ?_,dj.stays re r _ y (hy vs h2)⟩;rw [j3 (by omega)] at hv;rw [qu]
  by_cases hq:k≤q∧q<k+us.length
  ·rw [if_pos hq] at hv;rw [if_pos (by omega),show off+i*r.width+q-(off+i*r.width+k)=q-k by omega];exact hv
  ·rw [if_neg hq] at hv;rw [if_neg (by omega)];exact h1 q v hv
 ·rw [if_neg e] at uM;obtain ⟨vs,h1,h2⟩:=(ke r b _ x').1 (dK i' x' uM);have u7:=dj.length r vs x' h2;refine (ke r b _ x').2 ⟨vs,fun q v hv => ?_,dj.stays re r _ x' h2⟩;have hq:q<r.width:=by rw [←u7];exact (List.getElem?_eq_some_iff.1 hv).1
  rw [qu,if_neg]
  ·exact h1 q v hv
  ·rintro ⟨g1,g2⟩
   rcases Nat.lt_or_gt_of_ne e with h | h
   ·have:(i+1)*r.width≤i'*r.width:=Nat.mul_le_mul_right _ h;rw [Nat.add_mul] at this;omega
   ·have:(i'+1)*r.width≤i*r.width:=Nat.mul_le_mul_right _ h;rw [Nat.add_mul] at this;omega
theorem ph {w:World} {b off:Nat} {r:RT} {xs:List (ar r)} {cur:Array Value} {ty:TypeId}
  (hg:w.heap[b]?=some (.cells cur ty (0,0))) {Q:Nat→List Value→ar r→Prop} (dK:∀(i:Nat) x,xs[i]?=some x→∃vs,w.rangeAt b (off+i*r.width) vs∧vs.length=r.width∧Q i vs x)
  {i k:Nat} {x y:ar r} {us:List Value} (hx:xs[i]?=some x) (hle:k+us.length≤r.width) (kg:off+i*r.width+r.width≤cur.size)
  (hy:∀vs,vs.length=r.width→Q i vs x→Q i (bY vs k us) y) :
  ∀(i':Nat) x',(xs.set i y)[i']?=some x'→∃vs,(w.setRow b (bY cur.toList (off+i*r.width+k) us).toArray).rangeAt b (off+i'*r.width) vs∧Q i' vs x':=by
 have MZ:=setRow_heap w b cur (bY cur.toList (off+i*r.width+k) us).toArray ty (0,0) hg;have qu:∀q,(w.setRow b (bY cur.toList (off+i*r.width+k) us).toArray).cell? ⟨b,q,none⟩=
   if off+i*r.width+k≤q∧q<off+i*r.width+k+us.length then us[q-(off+i*r.width+k)]? else w.cell? ⟨b,q,none⟩:=by
  intro q;rw [cell_of_row _ b q _ ty (0,0) MZ,cell_of_row w b q cur ty (0,0) hg];simp only [List.getElem?_toArray];rw [j3 (by simp;omega)];simp
 intro i' x' uM;rw [List.getElem?_set] at uM
 by_cases e:i=i'
 ·subst e;rw [if_pos rfl] at uM;have hi:i<xs.length:=(List.getElem?_eq_some_iff.1 hx).1;rw [if_pos hi] at uM;obtain rfl:=Option.some.inj uM;obtain ⟨vs,h1,u7,h2⟩:=dK i x hx;refine ⟨bY vs k us,fun q v hv => ?_,hy vs u7 h2⟩;rw [j3 (by omega)] at hv;rw [qu]
  by_cases hq:k≤q∧q<k+us.length
  ·rw [if_pos hq] at hv;rw [if_pos (by omega),show off+i*r.width+q-(off+i*r.width+k)=q-k by omega];exact hv
  ·rw [if_neg hq] at hv;rw [if_neg (by omega)];exact h1 q v hv
 ·rw [if_neg e] at uM;obtain ⟨vs,h1,u7,h2⟩:=dK i' x' uM;refine ⟨vs,fun q v hv => ?_,h2⟩;have hq:q<r.width:=by rw [←u7];exact (List.getElem?_eq_some_iff.1 hv).1
  rw [qu,if_neg]
  ·exact h1 q v hv
  ·rintro ⟨g1,g2⟩
   rcases Nat.lt_or_gt_of_ne e with h | h
   ·have:(i+1)*r.width≤i'*r.width:=Nat.mul_le_mul_right _ h;rw [Nat.add_mul] at this;omega
   ·have:(i'+1)*r.width≤i*r.width:=Nat.mul_le_mul_right _ h;rw [Nat.add_mul] at this;omega
theorem CM {w:World} {b off:Nat} {r:RT} {xs:List (ar r)} {cur:Array Value} {ty:TypeId}
  (hg:w.heap[b]?=some (.cells cur ty (0,0))) {Q:Nat→List Value→ar r→Prop} {i:Nat} (dK:∀(i':Nat) x,i'≠i→xs[i']?=some x→∃vs,w.rangeAt b (off+i'*r.width) vs∧vs.length=r.width∧Q i' vs x)
  {x y:ar r} {us:List Value} (hx:xs[i]?=some x) (hle:us.length=r.width) (kg:off+i*r.width+r.width≤cur.size) (hy:Q i us y) :
  ∀(i':Nat) x',(xs.set i y)[i']?=some x'→∃vs,(w.setRow b (bY cur.toList (off+i*r.width+0) us).toArray).rangeAt b (off+i'*r.width) vs∧Q i' vs x':=by
 have MZ:=setRow_heap w b cur (bY cur.toList (off+i*r.width+0) us).toArray ty (0,0) hg;have qu:∀q,(w.setRow b (bY cur.toList (off+i*r.width+0) us).toArray).cell? ⟨b,q,none⟩=
   if off+i*r.width≤q∧q<off+i*r.width+us.length then us[q-(off+i*r.width)]? else w.cell? ⟨b,q,none⟩:=by
  intro q;rw [cell_of_row _ b q _ ty (0,0) MZ,cell_of_row w b q cur ty (0,0) hg];simp only [List.getElem?_toArray];rw [j3 (by simp;omega)];simp
 intro i' x' uM;rw [List.getElem?_set] at uM
 by_cases e:i=i'
 ·subst e;rw [if_pos rfl] at uM;have hi:i<xs.length:=(List.getElem?_eq_some_iff.1 hx).1;rw [if_pos hi] at uM;obtain rfl:=Option.some.inj uM;refine ⟨us,fun q v hv => ?_,hy⟩;have hq:q<us.length:=(List.getElem?_eq_some_iff.1 hv).1;rw [qu,if_pos (by omega),show off+i*r.width+q-(off+i*r.width)=q by omega];exact hv
 ·rw [if_neg e] at uM;obtain ⟨vs,h1,u7,h2⟩:=dK i' x' (fun h=>e h.symm) uM;refine ⟨vs,fun q v hv => ?_,h2⟩;have hq:q<r.width:=by rw [←u7];exact (List.getElem?_eq_some_iff.1 hv).1
  rw [qu,if_neg]
  ·exact h1 q v hv
  ·rintro ⟨g1,g2⟩
   rcases Nat.lt_or_gt_of_ne e with h | h
   ·have:(i+1)*r.width≤i'*r.width:=Nat.mul_le_mul_right _ h;rw [Nat.add_mul] at this;omega
   ·have:(i'+1)*r.width≤i*r.width:=Nat.mul_le_mul_right _ h;rw [Nat.add_mul] at this;omega
end Go.TM
namespace Go.TM
open Go Go.RowKit
def US (w:World) (ok:Nat→Prop) (r:RT) (u:Value) (ys:List (ar r)):Prop:=
 (u=.slice none 0 0∧ys=[])∨∃a cap,u=.slice (some a) ys.length cap∧(ys≠[]→a.spot=none)∧∀(i:Nat) y,ys[i]?=some y→dE w ok r a.block (a.off+i*r.width) y
def bI (w:World) (ok:Nat→Prop) (r:RT):List Value→List (ar r)→Prop
 |vs,[]=>vs=[]
 |vs,x::xs=>∃l1 l2,vs=l1++l2∧dj w ok r l1 x∧bI w ok r l2 xs
theorem bI.length {w:World} {ok:Nat→Prop} {r:RT}:(vs:List Value)→(xs:List (ar r))→bI w ok r vs xs→vs.length=xs.length*r.width
 |vs,[],h=>by simp only [bI] at h;subst h;simp
 |vs,x::xs,h=>by
  obtain ⟨l1,l2,rfl,h1,h2⟩:=h;have a1:=dj.length r l1 x h1;have a2:=bI.length l2 xs h2;simp [a1,a2,Nat.add_mul];omega
theorem bI.stays {w w':World} {ok xF:Nat→Prop} (h:iH w w' ok xF) {r:RT}:(vs:List Value)→(xs:List (ar r))→bI w ok r vs xs→bI w' xF r vs xs
 |_,[],hr=>hr
 |_,x::xs,⟨l1,l2,e,h1,h2⟩=>⟨l1,l2,e,dj.stays h r l1 x h1,bI.stays h l2 xs h2⟩
theorem bI.append {w:World} {ok:Nat→Prop} {r:RT}:(vs us:List Value)→(xs ys:List (ar r))→bI w ok r vs xs→bI w ok r us ys→bI w ok r (vs++us) (xs++ys)
 |vs,us,[],ys,h,k=>by simp only [bI] at h;subst h;simpa using k
 |vs,us,x::xs,ys,⟨l1,l2,e,h1,h2⟩,k=>⟨l1,l2++us,by rw [e,List.append_assoc],h1,bI.append l2 us xs ys h2 k⟩
theorem bI.one {w:World} {ok:Nat→Prop} {r:RT} {vs:List Value} {x:ar r} (h:dj w ok r vs x):bI w ok r vs [x]:=⟨vs,[],by simp,h,rfl⟩
theorem nr {w:World} {ok:Nat→Prop} {r:RT} (b:Nat):(off:Nat)→(xs:List (ar r))→(∀(i:Nat) x,xs[i]?=some x→dE w ok r b (off+i*r.width) x)→
  ∃vs,w.rangeAt b off vs∧bI w ok r vs xs
 |_,[],_=>⟨[],fun j v h=>by simp at h,rfl⟩
 |off,x::xs,h=>by
  obtain ⟨l1,h1,h2⟩:=(ke r b off x).1 (by have:=h 0 x rfl;simpa using this);obtain ⟨l2,h3,h4⟩:=nr b (off+r.width) xs (fun i y hy=>by
   have:=h (i+1) y (by simpa using hy);rw [Nat.add_mul,Nat.one_mul] at this;rw [show off+r.width+i*r.width=off+(i*r.width+r.width) by omega];exact this)
  have hl:=dj.length r l1 x h2;refine ⟨l1++l2,fun j v hv => ?_,l1,l2,rfl,h2,h4⟩;rw [List.getElem?_append] at hv
  by_cases hj:j<l1.length
  ·rw [if_pos hj] at hv;exact h1 j v hv
  ·rw [if_neg hj] at hv;have:=h3 _ v hv;rw [show off+r.width+(j-l1.length)=off+j by omega] at this;exact this
theorem rZ {w:World} {ok:Nat→Prop} {r:RT} {b:Nat}:(off:Nat)→(vs:List Value)→(xs:List (ar r))→bI w ok r vs xs→w.rangeAt b off vs→
  ∀(i:Nat) x,xs[i]?=some x→dE w ok r b (off+i*r.width) x
 |_,_,[],_,_,i,x,h=>by simp at h
 |off,vs,y::xs,⟨l1,l2,e,h1,h2⟩,hr,i,x,h=>by
  subst e;have hl:=dj.length r l1 y h1
  cases i with
  |zero=>
   simp at h;subst h;rw [ke];refine ⟨l1,fun j v hv => ?_,h1⟩;have hj:j<l1.length:=(List.getElem?_eq_some_iff.1 hv).1;have:=hr j v (by rw [List.getElem?_append,if_pos hj];exact hv);simpa using this
  |succ i=>
   have:=rZ (off+r.width) l2 xs h2 (fun j v hv=>by
    have:=hr (l1.length+j) v (by rw [List.getElem?_append,if_neg (by omega)];simpa using hv);rw [show off+r.width+j=off+(l1.length+j) by omega];exact this) i x (by simpa using h)
   rw [Nat.add_mul,Nat.one_mul];rw [show off+(i*r.width+r.width)=off+r.width+i*r.width by omega];exact this
theorem cE.one {w:World} {ok:Nat→Prop} {t:Ty} {v:Value} {x:den t} (h:cE w ok t v x):v.oneCell'=true:=by
 cases t with
 |int k=>rw [tL.1 h];rfl
 |bool=>rw [rX.1 h];rfl
 |str=>rw [vh.1 h];rfl
 |sl r=>
  rcases (nI w ok r v x).1 h with ⟨rfl,_⟩ | ⟨a,cap,rfl,_⟩<;>rfl
theorem dj.one {w:World} {ok:Nat→Prop}:(r:RT)→(vs:List Value)→(x:ar r)→dj w ok r vs x→∀v∈vs,v.oneCell'=true
 |.nil,vs,_,h,v,hv=>by simp only [dj] at h;subst h;simp at hv
 |.cons t r,vs,x,⟨u,l,e,hx,hr⟩,v,hv=>by
  subst e;rcases List.mem_cons.1 hv with rfl | hv
  ·exact hx.one
  ·exact dj.one r l x.2 hr v hv
theorem bI.jq {w:World} {ok:Nat→Prop} {r:RT}:(vs:List Value)→(xs:List (ar r))→bI w ok r vs xs→∀v∈vs,v.oneCell'=true
 |vs,[],h,v,hv=>by simp only [bI] at h;subst h;simp at hv
 |vs,x::xs,⟨l1,l2,e,h1,h2⟩,v,hv=>by
  subst e;rcases List.mem_append.1 hv with hv | hv
  ·exact dj.one r l1 x h1 v hv
  ·exact bI.jq l2 xs h2 v hv
theorem zN {w0:World} {mu:Mu} {c:Cz} {st:St} {a:Act} {w:World} (h:Rel w0 mu c st a w) {r:RT} {x:CV} {u:Value} (hx:jv c st w x u)
  {k:List (ar r)→N} {bd:St} (hv:(mE st r x k).val=some bd):∃ys,(k ys).val=some bd∧US w c.ok r u ys:=by
 cases x with
 |shr r' xs=>
  simp only [mE] at hv
  cases hc:cn r xs with
  |none=>simp [hc,N.val] at hv
  |some ys=>
   simp only [hc] at hv;obtain ⟨rfl,rfl⟩:=bH hc;refine ⟨_,hv,?_⟩;rcases (nI _ _ _ _ _).1 hx with h1 | ⟨a',cap,h1,h2,h3,h4⟩
   ·exact .inl h1
   ·exact .inr ⟨a',cap,h1,fun gr=>(h3 gr).1,h4⟩
 |nn r' xs=>
  simp only [mE] at hv
  cases hc:cn r xs with
  |none=>simp [hc,N.val] at hv
  |some ys=>
   simp only [hc] at hv;obtain ⟨rfl,rfl⟩:=bH hc;refine ⟨_,hv,?_⟩;rcases (nI _ _ _ _ _).1 hx.1 with h1 | ⟨a',cap,h1,h2,h3,h4⟩
   ·exact .inl h1
   ·exact .inr ⟨a',cap,h1,fun gr=>(h3 gr).1,h4⟩
 |dY=>exact ⟨[],by simpa only [mE] using hv,.inl ⟨hx,rfl⟩⟩
 |ref a' j g vw=>
  simp only [mE] at hv
  cases hA:aV st a' j g with
  |none=>simp [hA,N.val] at hv
  |some A=>
   simp only [hA] at hv;have u0:A.md=.sh:=by
    cases hm:A.md with
    |sh=>rfl
    |dp=>rw [hm] at hv;simp [N.val] at hv
    |lz=>rw [hm] at hv;simp [N.val] at hv
    |ho _=>rw [hm] at hv;simp [N.val] at hv
   rw [u0] at hv;simp only at hv
   cases hc:cn r A.xs with
   |none=>simp [hc,N.val] at hv
   |some ys=>
    simp only [hc] at hv;obtain ⟨e,he⟩:=bH hc;subst e;simp only at he;subst he;obtain ⟨sl,xD,HS,yK⟩:=bt hA;have CL:=h.aK a' j sl A xD yK;refine ⟨vw.app A.xs,hv,?_⟩;clear hv;have hs:=hx.2.2 A hA
    cases hl:c.lc a' j with
    |nil=>
     unfold gm at hs;rw [hl] at hs;exact .inl ⟨hs.1,List.length_eq_zero_iff.1 hs.2⟩
    |«at» b off cap=>
     unfold gm at hs;rw [hl] at hs;obtain ⟨ad,k',rfl,hk,wG,ha⟩:=hs;unfold cq at CL;rw [hl] at CL;obtain ⟨_,_,_,h5⟩:=CL;have gr:vw.app A.xs≠[]→k'≠0:=by
      intro gr;have:=List.length_pos_iff.2 gr;omega
     refine .inr ⟨ad,k',rfl,fun h=>by rw [ha (gr h)],fun i y hy => ?_⟩;have hk0:k'≠0:=gr (by intro e;rw [e] at hy;simp at hy);rw [ha hk0];have:=(bF.sh u0).1 h5 _ y (View.tP vw A.xs hy);have e:off+vw.lo*A.r.width+i*A.r.width=off+(vw.lo+i)*A.r.width:=by rw [Nat.add_mul];omega
     show dE w c.ok A.r b (off+vw.lo*A.r.width+i*A.r.width) y;rw [e];exact this
 |_=>simp [mE,N.val] at hv
theorem Rel.place {w0:World} {mu:Mu} {c c':Cz} {st:St} {a:Act} {w w':World} (h:Rel w0 mu c st a w) {d B:Nat} {s0:Sl} {A:gM} {v:Value}
  (gN:nth st d=some s0) (hd:d<a.tmps.size)
  (yL:c'.bx=c.bx) (iy:∀s j,¬(s=d∧j=0)→c'.lc s j=c.lc s j) (eL:∀k,k≠B→c'.own k=c.own k)
  (Wj:c'.own B=some (.sp d 0)∨(c'.own B=c.own B∧w'.heap[B]?=w.heap[B]?))
  (hB:w.heap.size≤B∨∃s j,c.own B=some (.sp s j)∧(s=d∨∀sl A,nth st s=some sl→nth sl.aK j≠some (some A)))
  (hBn:c'.own B=some (.sp d 0)→B<w'.heap.size)
  (hw:∀k,k<w.heap.size→k≠B→w'.heap[k]?=w.heap[k]?) (ri:w'.os=w.os∧w'.tape=w.tape∧w'.output=w.output∧w.heap.size≤w'.heap.size)
  (hA:cq c' w' d 0 A) (wM:v.oneCell'=true) (hv:gm (c'.lc d 0) A.r.width 0 A.xs.length v) (M0:c'.rs=c.rs:=by rfl) :
  Rel w0 mu c' (mB (fun s=>{ s with v:=.one (.ref d 0 (s0.ag+1) .full),aK:=[some A],ag:=s0.ag+1 }) st d) (a.put (some d) v) w':=by
 have hn:∀s,nth (mB (fun s=>{ s with v:=.one (.ref d 0 (s0.ag+1) .full),aK:=[some A],ag:=s0.ag+1 }) st d) s=
   if s=d then some { s0 with v:=.one (.ref d 0 (s0.ag+1) .full),aK:=[some A],ag:=s0.ag+1 } else nth st s:=by
  intro s;rw [dD]
  by_cases e:s=d
  ·subst e;simp [gN]
  ·simp [e]
 generalize mB (fun s=>{ s with v:=.one (.ref d 0 (s0.ag+1) .full),aK:=[some A],ag:=s0.ag+1 }) st d=bd at hn ⊢;have R8:∀k,k<w.heap.size→c.ok k→k≠B:=by
  rintro k hk gP rfl
  rcases hB with hB | ⟨s,j,hB,_⟩
  ·omega
  ·unfold Cz.ok at gP;rw [hB] at gP;cases gP
 have re:iH w w' c.ok c'.ok:=⟨ri.2.2.2,fun k hk gP=>hw k hk (R8 k hk gP),fun k hk gP=>by unfold Cz.ok;rw [eL k (R8 k hk gP)];exact gP⟩;have fR:Fw c st w c' bd w':={
  stays:=re
  refs:=fun a' j g A' hg eE=>by
   by_cases e:a'=d
   ·subst e;obtain ⟨sl,k1,k2,k3⟩:=bt eE;rw [hn,if_pos rfl] at k1;obtain rfl:=Option.some.inj k1;simp only at k2;unfold dw at hg;rw [gN] at hg;simp only at hg;omega
   ·have Dc:aV st a' j g=some A':=by
     unfold aV at eE ⊢;rw [hn,if_neg e] at eE;exact eE
    refine ⟨A',Dc,rfl,rfl,iy a' j (fun h=>e h.1),fun _=>⟨rfl,fun k off cap hl => ?_⟩⟩;have ha:=h.sW Dc;have dG:=ha.lt hl;unfold cq at ha;rw [hl] at ha;obtain ⟨g1,_⟩:=ha;refine hw k dG ?_
    rintro rfl
    rcases hB with hB | ⟨s',j',hB,CN⟩
    ·omega
    ·rw [hB] at g1
     cases ho:A'.own with
     |true=>
      simp [ho] at g1;obtain ⟨rfl,rfl⟩:=g1;obtain ⟨sl,q1,_,q3⟩:=bt Dc;rcases CN with CN | CN
      ·exact e CN
      ·exact CN sl A' q1 q3
     |false=>simp [ho] at g1
  yO:=fun b' g mf _ oN=>by
   refine ⟨⟨mf,?_⟩,by rw [yL]⟩;unfold dH at oN ⊢;rw [hn] at oN
   by_cases e:b'=d
   ·subst e;simpa [gN] using oN
   ·simpa [e] using oN
  gA:=fun a'=>by
   unfold dw;rw [hn]
   by_cases e:a'=d
   ·subst e;simp [gN]
   ·simp [e]
  gB:=fun a'=>by
   unfold fP;rw [hn]
   by_cases e:a'=d
   ·subst e;simp [gN]
   ·simp [e]
  gE:=fun a'=>by
   unfold kc;rw [hn]
   by_cases e:a'=d
   ·subst e;simp [gN]
   ·simp [e] }
 exact {
  ey:=fun t=>by
   have e1:cC bd t=if t=d then .one (.ref d 0 (s0.ag+1) .full) else cC st t:=by
    unfold cC;rw [hn]
    by_cases e:t=d<;>simp [e]
   rw [e1,eval_put]
   by_cases e:t=d
   ·subst e;simp only [if_true,true_and,hd];refine ⟨wM,?_,fun A' eE => ?_⟩
    ·unfold dw;rw [hn];simp
    ·obtain ⟨sl,k1,k2,k3⟩:=bt eE;rw [hn,if_pos rfl] at k1;obtain rfl:=Option.some.inj k1;simp [nth] at k3;subst k3;exact hv
   ·simp only [e,if_false];rw [if_neg (fun h=>e (Option.some.inj h.1).symm)];exact fR.la (h.ey t)
  boxes:=fun s sl mf hs hb=>by
   rw [hn] at hs;have R9:sV c st w s mf:=by
    by_cases e:s=d
    ·subst e;rw [if_pos rfl] at hs;obtain rfl:=Option.some.inj hs;exact h.boxes s s0 mf gN hb
    ·rw [if_neg e] at hs;exact h.boxes s sl mf hs hb
   have dG:=h.kI R9.1;have gr:c.bx s≠B:=by
    intro e;rcases hB with hB | ⟨s',j,hB,_⟩
    ·omega
    ·rw [←e,R9.1] at hB;cases hB
   exact R9.go fR (by rw [yL]) (eL _ gr) (hw _ dG gr)
  aK:=fun s j sl A' hs eE=>by
   rw [hn] at hs
   by_cases e:s=d
   ·subst e;rw [if_pos rfl] at hs;obtain rfl:=Option.some.inj hs
    cases j with
    |zero=>simp [nth] at eE;subst eE;exact hA
    |succ j=>simp [nth] at eE
   ·rw [if_neg e] at hs;have ha:=h.aK s j sl A' hs eE;refine ha.go re (iy s j (fun h=>e h.1)) (fun k g1 => ?_) (fun k _ _ hk=>by rw [M0];exact hk);have dG:k<w.heap.size:=h.kI g1;have gr:k≠B:=by
     rintro rfl
     rcases hB with hB | ⟨s',j',hB,CN⟩
     ·omega
     ·rw [hB] at g1;simp at g1;obtain ⟨rfl,rfl⟩:=g1;rcases CN with CN | CN
      ·exact e CN
      ·exact CN sl A' hs eE
    exact ⟨hw k dG gr,eL k gr⟩
  owned:=fun b l hb=>by
   by_cases e:b=B
   ·subst e;rcases Wj with Wj | ⟨Wj,_⟩
    ·refine ⟨hBn Wj,?_⟩;rcases hB with hB | ⟨s',j',hB,_⟩
     ·exact .inr (.inl (Nat.le_trans h.kept.2.2.2 hB))
     ·rcases (h.owned _ _ hB).2 with h2 | h2
      ·cases h2
      ·exact .inr h2
    ·rw [Wj] at hb;have:=h.owned b l hb;exact ⟨Nat.lt_of_lt_of_le this.1 ri.2.2.2,this.2⟩
   ·rw [eL b e] at hb;have:=h.owned b l hb;exact ⟨Nat.lt_of_lt_of_le this.1 ri.2.2.2,this.2⟩
  free:=fun b hb h1=>by
   by_cases e:b=B
   ·subst e;rcases hB with hB | ⟨s',j',hB,_⟩
    ·have:=h.kept.2.2.2;omega
    ·rcases (h.owned _ _ hB).2 with h2 | h2 | h2
     ·cases h2
     ·omega
     ·exact .inl h2
   ·rw [eL b e] at h1;exact h.free b hb h1
  kept:=⟨ri.1.trans h.kept.1,ri.2.1.trans h.kept.2.1,ri.2.2.1.trans h.kept.2.2.1,Nat.le_trans h.kept.2.2.2 ri.2.2.2⟩
  old:=fun k hk hm=>by
   have zO:=Nat.lt_of_lt_of_le hk h.kept.2.2.2;rw [hw k zO (fun e => ?_)]
   ·exact h.old k hk hm
   ·subst e;rcases hB with hB | ⟨s',j',hB,_⟩
    ·omega
    ·rcases (h.owned _ _ hB).2 with h2 | h2 | h2
     ·cases h2
     ·omega
     ·exact hm h2
  dF:=fun p hp=>fR.dF (h.dF p hp)
  mT:=fun k l hk=>by
   rw [M0] at hk;exact ⟨Nat.lt_of_lt_of_le (h.mT k l hk).1 ri.2.2.2,(h.mT k l hk).2⟩
  plain:=h.plain }
end Go.TM
namespace Go.TM
open Go Go.RowKit
theorem Rel.Sa {w0:World} {mu:Mu} {c:Cz} {st:St} {a:Act} {w:World} (_h:Rel w0 mu c st a w) (s j:Nat):Fw c st w c (bz st s j none) w:=by
 have hn:∀k,∃f:Sl→Sl,(∀x,(f x).v=x.v∧(f x).box=x.box∧(f x).bg=x.bg∧(f x).ag=x.ag∧
   (∀i,nth (f x).aK i=if k=s∧i=j then (nth x.aK i).map (fun _=>none) else nth x.aK i)∧(f x).ep=if k=s then x.ep+1 else x.ep)∧nth (bz st s j none) k=(nth st k).map f:=by
  intro k;unfold bz
  by_cases e:k=s
  ·subst e;refine ⟨fun s=>{ s with aK:=mB (fun _=>none) s.aK j,ep:=s.ep+1 },fun x=>⟨rfl,rfl,rfl,rfl,fun i => ?_,by simp⟩,gY _ _ _⟩;simp only [dD,true_and]
  ·refine ⟨id,fun x=>⟨rfl,rfl,rfl,rfl,fun i => ?_,by simp [e]⟩,by rw [lj _ _ e];simp⟩;simp [e]
 generalize bz st s j none=bd at hn ⊢;exact {
  stays:=iH.refl w _
  refs:=fun a' j' g A' _ eE=>by
   obtain ⟨sl,k1,k2,k3⟩:=bt eE;obtain ⟨f,hf,hk⟩:=hn a';rw [hk] at k1
   cases hx:nth st a' with
   |none=>rw [hx] at k1;simp at k1
   |some x=>
    rw [hx] at k1;simp at k1;subst k1;rw [(hf x).2.2.2.2.1 j'] at k3;rw [(hf x).2.2.2.1] at k2;refine ⟨A',?_,rfl,rfl,rfl,fun _=>⟨rfl,fun _ _ _ _=>rfl⟩⟩
    by_cases e:a'=s∧j'=j
    ·rw [if_pos e] at k3
     cases hq:nth x.aK j'<;>simp [hq] at k3
    ·rw [if_neg e] at k3;unfold aV;rw [hx];have:Nat.beq x.ag g=true:=by rw [k2];exact Nat.beq_refl g
     simp [this,k3]
  yO:=fun b g mf _ hb=>by
   refine ⟨⟨mf,?_⟩,rfl⟩;obtain ⟨f,hf,hk⟩:=hn b;unfold dH at hb ⊢;rw [hk] at hb
   cases hx:nth st b with
   |none=>rw [hx] at hb;simp at hb
   |some x=>rw [hx] at hb;simpa [(hf x).2.1,(hf x).2.2.1] using hb
  gA:=fun b=>by
   obtain ⟨f,hf,hk⟩:=hn b;unfold dw;rw [hk]
   cases hx:nth st b with
   |none=>simp
   |some x=>simp [(hf x).2.2.2.1]
  gB:=fun b=>by
   obtain ⟨f,hf,hk⟩:=hn b;unfold fP;rw [hk]
   cases hx:nth st b with
   |none=>simp
   |some x=>simp [(hf x).2.2.1]
  gE:=fun b=>by
   obtain ⟨f,hf,hk⟩:=hn b;unfold kc;rw [hk]
   cases hx:nth st b with
   |none=>simp
   |some x=>
    simp only [Option.map_some];rw [(hf x).2.2.2.2.2]
    split<;>omega }
theorem Rel.kill {w0:World} {mu:Mu} {c:Cz} {st:St} {a:Act} {w:World} (h:Rel w0 mu c st a w) (s j:Nat) :
  Rel w0 mu c (bz st s j none) a w∧∀sl A,nth (bz st s j none) s=some sl→nth sl.aK j≠some (some A):=by
 have hn:∀k,∃f:Sl→Sl,(∀x,(f x).v=x.v∧(f x).box=x.box∧(f x).bg=x.bg∧(f x).ag=x.ag∧
   (∀i,nth (f x).aK i=if k=s∧i=j then (nth x.aK i).map (fun _=>none) else nth x.aK i)∧(f x).ep=if k=s then x.ep+1 else x.ep)∧nth (bz st s j none) k=(nth st k).map f:=by
  intro k;unfold bz
  by_cases e:k=s
  ·subst e;refine ⟨fun s=>{ s with aK:=mB (fun _=>none) s.aK j,ep:=s.ep+1 },fun x=>⟨rfl,rfl,rfl,rfl,fun i => ?_,by simp⟩,gY _ _ _⟩;simp only [dD,true_and]
  ·refine ⟨id,fun x=>⟨rfl,rfl,rfl,rfl,fun i => ?_,by simp [e]⟩,by rw [lj _ _ e];simp⟩;simp [e]
 generalize bz st s j none=bd at hn ⊢;have fR:Fw c st w c bd w:={
  stays:=iH.refl w _
  refs:=fun a' j' g A' _ eE=>by
   obtain ⟨sl,k1,k2,k3⟩:=bt eE;obtain ⟨f,hf,hk⟩:=hn a';rw [hk] at k1
   cases hx:nth st a' with
   |none=>rw [hx] at k1;simp at k1
   |some x=>
    rw [hx] at k1;simp at k1;subst k1;rw [(hf x).2.2.2.2.1 j'] at k3;rw [(hf x).2.2.2.1] at k2;refine ⟨A',?_,rfl,rfl,rfl,fun _=>⟨rfl,fun _ _ _ _=>rfl⟩⟩
    by_cases e:a'=s∧j'=j
    ·rw [if_pos e] at k3
     cases hq:nth x.aK j'<;>simp [hq] at k3
    ·rw [if_neg e] at k3;unfold aV;rw [hx];have:Nat.beq x.ag g=true:=by rw [k2];exact Nat.beq_refl g
     simp [this,k3]
  yO:=fun b g mf _ hb=>by
   refine ⟨⟨mf,?_⟩,rfl⟩;obtain ⟨f,hf,hk⟩:=hn b;unfold dH at hb ⊢;rw [hk] at hb
   cases hx:nth st b with
   |none=>rw [hx] at hb;simp at hb
   |some x=>rw [hx] at hb;simpa [(hf x).2.1,(hf x).2.2.1] using hb
  gA:=fun b=>by
   obtain ⟨f,hf,hk⟩:=hn b;unfold dw;rw [hk]
   cases hx:nth st b with
   |none=>simp
   |some x=>simp [(hf x).2.2.2.1]
  gB:=fun b=>by
   obtain ⟨f,hf,hk⟩:=hn b;unfold fP;rw [hk]
   cases hx:nth st b with
   |none=>simp
   |some x=>simp [(hf x).2.2.1]
  gE:=fun b=>by
   obtain ⟨f,hf,hk⟩:=hn b;unfold kc;rw [hk]
   cases hx:nth st b with
   |none=>simp
   |some x=>
    simp only [Option.map_some];rw [(hf x).2.2.2.2.2]
    split<;>omega }
 refine ⟨{
  ey:=fun t=>by
   obtain ⟨f,hf,hk⟩:=hn t;have:cC bd t=cC st t:=by
    unfold cC;rw [hk]
    cases hx:nth st t with
    |none=>rfl
    |some x=>exact (hf x).1
   rw [this];exact fR.la (h.ey t)
  boxes:=fun b sl cs hs hb=>by
   obtain ⟨f,hf,hk⟩:=hn b;rw [hk] at hs
   cases hx:nth st b with
   |none=>rw [hx] at hs;simp at hs
   |some x=>
    rw [hx] at hs;simp at hs;subst hs;rw [(hf x).2.1] at hb;exact (h.boxes b x cs hx hb).go fR rfl rfl rfl
  aK:=fun b i sl A hs hA=>by
   obtain ⟨f,hf,hk⟩:=hn b;rw [hk] at hs
   cases hx:nth st b with
   |none=>rw [hx] at hs;simp at hs
   |some x=>
    rw [hx] at hs;simp at hs;subst hs;rw [(hf x).2.2.2.2.1 i] at hA
    by_cases e:b=s∧i=j
    ·rw [if_pos e] at hA
     cases hq:nth x.aK i<;>simp [hq] at hA
    ·rw [if_neg e] at hA;exact h.aK b i x A hx hA
  owned:=h.owned
  free:=h.free
  kept:=h.kept
  old:=h.old
  dF:=fun p hp=>fR.dF (h.dF p hp)
  mT:=h.mT
  plain:=h.plain },fun sl A hs => ?_⟩
 obtain ⟨f,hf,hk⟩:=hn s;rw [hk] at hs
 cases hx:nth st s with
 |none=>rw [hx] at hs;simp at hs
 |some x=>
  rw [hx] at hs;simp at hs;subst hs;rw [(hf x).2.2.2.2.1 j,if_pos ⟨rfl,rfl⟩]
  cases nth x.aK j<;>simp
def Cz.aT (c:Cz) (d:Nat) (L:Loc) (B:Option Nat):Cz:=
 { bx:=c.bx,lc:=fun s j=>if s=d∧j=0 then L else c.lc s j,own:=fun k=>if B=some k then some (.sp d 0) else c.own k,rs:=c.rs }
theorem jS {st:St} {d:Option Nat} {A:gM} {bd:St} (h:(aT st d A).val=some bd) :
  ∃k s0,d=some k∧nth st k=some s0∧bd=mB (fun s=>{ s with v:=.one (.ref k 0 (s0.ag+1) .full),aK:=[some A],ag:=s0.ag+1 }) st k:=by
 unfold aT at h
 cases d with
 |none=>simp [N.val] at h
 |some k=>
  cases hs:nth st k with
  |none=>simp [hs,N.val] at h
  |some s0=>
   simp only [hs,N.val,Option.some.injEq] at h;exact ⟨k,s0,rfl,hs,h.symm⟩
theorem zP {st:St} {d:Option Nat} {cs:List CV} {bd:St} (h:(jf st d cs).val=some bd) :
  ∃k s0,d=some k∧nth st k=some s0∧bd=mB (fun s=>{ s with v:=.one (.ptr k (s0.bg+1) 0),box:=some cs,bg:=s0.bg+1 }) st k:=by
 unfold jf at h
 cases d with
 |none=>simp [N.val] at h
 |some k=>
  cases hs:nth st k with
  |none=>simp [hs,N.val] at h
  |some s0=>
   simp only [hs,N.val,Option.some.injEq] at h;exact ⟨k,s0,rfl,hs,h.symm⟩
theorem Rel.fresh {w0:World} {mu:Mu} {c:Cz} {st:St} {a:Act} {w:World} (h:Rel w0 mu c st a w) {d:Nat} {s0:Sl} {r:RT} {xs:List (ar r)} {cur:Array Value} {ty cap:Nat}
  (gN:nth st d=some s0) (hd:d<a.tmps.size) (hle:xs.length≤cap) (kg:cap*r.width≤cur.size) {vs:List Value} (vm:bI w c.ok r vs xs) (HU:cur.toList.take vs.length=vs) :
  ∃c',Rel w0 mu c' (mB (fun s=>{ s with v:=.one (.ref d 0 (s0.ag+1) .full),aK:=[some { r:=r,own:=true,xs:=xs }],ag:=s0.ag+1 }) st d)
   (a.put (some d) (.slice (some ⟨w.heap.size,0,none⟩) xs.length cap)) (w.alloc (.cells cur ty (0,0))):=by
 have sX:=heap_alloc_new w (.cells cur ty (0,0));refine ⟨c.aT d (.at w.heap.size 0 cap) (some w.heap.size),h.place (B:=w.heap.size) (A:={ r:=r,own:=true,xs:=xs }) gN hd rfl ?_ ?_ (.inl ?_) (.inl (Nat.le_refl _)) (fun _=>by simp) (fun k hk _=>heap_alloc_old w _ k hk)
  ⟨rfl,rfl,rfl,by simp⟩ ?_ rfl ?_⟩
 ·intro s j gr;simp [Cz.aT,gr]
 ·intro k hk;simp only [Cz.aT];rw [if_neg (by intro e;exact hk (Option.some.inj e).symm)]
 ·simp [Cz.aT]
 ·have re:iH w (w.alloc (.cells cur ty (0,0))) c.ok (c.aT d (.at w.heap.size 0 cap) (some w.heap.size)).ok:=vj w _ _ _ (fun b hb gP=>by
   unfold Cz.ok Cz.aT;simp only;rw [if_neg (by intro e;have:=Option.some.inj e;omega)];exact gP)
  unfold cq;simp only [Cz.aT,and_self,if_true];refine ⟨trivial,hle,⟨cur,ty,sX,by simpa using kg⟩,?_⟩;refine (bF.sh rfl).2 ?_;refine rZ 0 vs xs (bI.stays re vs xs vm) (fun j v hv => ?_);rw [cell_of_row _ _ _ cur ty (0,0) sX,Nat.zero_add];have hj:j<vs.length:=(List.getElem?_eq_some_iff.1 hv).1;rw [←HU,List.getElem?_take,if_pos hj] at hv;simpa using hv
 ·simp only [Cz.aT,and_self,if_true];exact ⟨_,cap,rfl,hle,by omega,fun _=>by simp⟩
theorem CO {P:Program} {t ty e:TypeId} {i:TypeInfo} (ht:P.underlying t=some (.slice e)) (hi:P.info? e=some i) (w:World)
  (g o xN Et:Nat) (cur:Array Value) (te:TypeId) (hg:w.heap[g]?=some (.cells cur te (0,0)))
  (a:Addr) (m c:Nat) (news:List Value) (hl:news.length=m*i.size) (Wk:∀j u,news[j]?=some u→w.cell? (a.add j)=some u) (h1:∀u∈news,u.oneCell'=true)
  (sY:xN+m≤Et) (rj:o+xN*i.size+news.length≤cur.size) :
  (Builtin.append_ #[t,t] ty #[.slice (some ⟨g,o,none⟩) xN Et,.slice (some a) m c]).run P w=
   .ok (.slice (some ⟨g,o,none⟩) (xN+m) Et) (w.setRow g (bY cur.toList (o+xN*i.size) news).toArray):=by
 have hf:=run_firstCells_some (P:=P) w i.size m a m c news hl Wk;have re:=run_storeCells_at P g (o+xN*i.size) te news 0 cur w hg (by simpa using rj) h1;simp only [Nat.add_zero] at re;simp [Builtin.append_,run_underlying ht,sizeOf,typeInfo,hi,Builtin.lenOf,sY,hf,Addr.add_mid,re,bY]
theorem run_append_nothing {P:Program} {t ty e:TypeId} {i:TypeInfo} (ht:P.underlying t=some (.slice e)) (hi:P.info? e=some i) (w:World) (base:Option Addr) (xN Et:Nat) (hle:xN≤Et)
  (x:Value) (hx:(x=.slice none 0 0)∨∃a c,x=.slice (some a) 0 c) :
  (Builtin.append_ #[t,t] ty #[.slice base xN Et,x]).run P w=.ok (.slice base xN Et) w:=by
 rcases hx with rfl | ⟨a,c,rfl⟩
 ·cases base<;>simp [Builtin.append_,run_underlying ht,sizeOf,typeInfo,hi,Builtin.lenOf,Builtin.firstCells,hle,storeCells]
 ·cases base<;>simp [Builtin.append_,run_underlying ht,sizeOf,typeInfo,hi,Builtin.lenOf,Builtin.firstCells,hle,storeCells,loadCells,loadCellsFrom]
end Go.TM
namespace Go.TM
open Go Go.RowKit
def cY (w:World) (P:List Nat→Nat→Prop):(r:RT)→(p:List Nat)→(k:Nat)→List Value→ar r→Prop
 |.nil,_,_,vs,_=>vs=[]
 |.cons t r,p,k,vs,x=>∃v l,vs=v::l∧dP w P t (p++[k]) v x.1∧cY w P r p (k+1) l x.2
theorem cY.length {w:World} {P:List Nat→Nat→Prop}:(r:RT)→(p:List Nat)→(k:Nat)→(vs:List Value)→(x:ar r)→cY w P r p k vs x→vs.length=r.width
 |.nil,_,_,vs,_,h=>by simp only [cY] at h;subst h;rfl
 |.cons t r,p,k,vs,x,h=>by
  obtain ⟨v,l,rfl,_,h⟩:=h;simp [RT.width,cY.length r p (k+1) l x.2 h]
theorem gQ {w:World} {P:List Nat→Nat→Prop}:(r:RT)→(p:List Nat)→(k b off:Nat)→(x:ar r)→(fl w P r p k b off x↔∃vs,w.rangeAt b off vs∧cY w P r p k vs x)
 |.nil,_,_,_,_,_=>by
  unfold fl;exact ⟨fun _=>⟨[],fun j v h=>by simp at h,rfl⟩,fun _=>trivial⟩
 |.cons t r,p,k,b,off,x=>by
  unfold fl
  constructor
  ·rintro ⟨⟨v,hv,hx⟩,hr⟩
   obtain ⟨vs,h1,h2⟩:=(gQ r p (k+1) b (off+1) x.2).1 hr;refine ⟨v::vs,fun j u hu => ?_,v,vs,rfl,hx,h2⟩
   cases j with
   |zero=>simp at hu;rw [←hu];exact hv
   |succ j=>
    simp at hu;rw [show off+(j+1)=off+1+j by omega];exact h1 j u hu
  ·rintro ⟨vs,h1,v,l,rfl,hx,h2⟩
   refine ⟨⟨v,h1 0 v rfl,hx⟩,(gQ r p (k+1) b (off+1) x.2).2 ⟨l,fun j u hu => ?_,h2⟩⟩;have:=h1 (j+1) u (by simpa using hu);rw [show off+1+j=off+(j+1) by omega];exact this
theorem cY.go {w w':World} {P P':List Nat→Nat→Prop}:(r:RT)→(p p':List Nat)→(hP:∀q b,P (p++q) b→w'.heap[b]?=w.heap[b]?∧P' (p'++q) b)→(k:Nat)→(vs:List Value)→(x:ar r)→cY w P r p k vs x→cY w' P' r p' k vs x
 |.nil,_,_,_,_,_,_,h=>h
 |.cons t r,p,p',hP,k,vs,x,h=>by
  obtain ⟨v,l,e,h1,h2⟩:=h;refine ⟨v,l,e,dP.go t (p++[k]) (p'++[k]) (fun q b hb => ?_) v x.1 h1,cY.go r p p' hP (k+1) l x.2 h2⟩;have:=hP ([k]++q) b (by rw [←List.append_assoc];exact hb);rw [←List.append_assoc] at this;exact this
theorem Br {w:World} {P:List Nat→Nat→Prop} {c:Cz} {st:St} {w1:World}:(r:RT)→(p:List Nat)→(k0:Nat)→(x:ar r)→(k:Nat)→(y:CV)→(z:ar r)→(vs:List Value)→(u:Value)→
  gH r x k y=some z→jv c st w1 y u→cY w P r p k0 vs x→cY w P r p k0 (vs.set k u) z
 |.nil,_,_,_,_,_,_,_,_,h,_,_=>by simp [gH] at h
 |.cons t r,p,k0,x,0,y,z,vs,u,h,hu,hv=>by
  obtain ⟨v,l,rfl,hx,hr⟩:=hv
  cases t with
  |int k=>
   cases y<;>simp [gH] at h
   obtain ⟨rfl,h⟩:=h;obtain rfl:=Option.some.inj h;exact ⟨u,l,rfl,wZ.2 hu,hr⟩
  |bool=>
   cases y<;>simp [gH] at h
   obtain rfl:=Option.some.inj h;exact ⟨u,l,rfl,tM.2 hu,hr⟩
  |str=>
   cases y<;>simp [gH] at h
   obtain rfl:=Option.some.inj h;exact ⟨u,l,rfl,w6.2 hu,hr⟩
  |sl q=>cases y<;>simp [gH] at h
 |.cons t r,p,k0,x,k+1,y,z,vs,u,h,hu,hv=>by
  obtain ⟨v,l,rfl,hx,hr⟩:=hv;have h':(gH r x.2 k y).map (fun z=>((x.1,z):ar (.cons t r)))=some z:=by cases t<;>(simp only [gH] at h;exact h)
  cases hq:gH r x.2 k y with
  |none=>simp [hq] at h'
  |some z'=>
   rw [hq] at h';obtain rfl:=Option.some.inj h';exact ⟨v,l.set k u,rfl,hx,Br r p (k0+1) x.2 k y z' l u hq hu hr⟩
theorem w9 {w:World} {P:List Nat→Nat→Prop} {c:Cz} {st:St} {w1:World} (r:RT) (p:List Nat) (k0:Nat) (x:ar r):(off:Nat)→(cs:List CV)→(z:ar r)→(vs us:List Value)→off+us.length≤vs.length→
  j2 r x off cs=some z→fF c st w1 cs us→cY w P r p k0 vs x→cY w P r p k0 (bY vs off us) z
 |off,[],z,vs,us,_,h,hl,hv=>by
  have:us=[]:=by have:=hl.1;simp at this;exact List.length_eq_zero_iff.1 this.symm
  subst this;simp [j2] at h;subst h;simp [bY];exact hv
 |off,y::l,z,vs,us,hle,h,hl,hv=>by
  cases us with
  |nil=>have:=hl.1;simp at this
  |cons u us=>
   simp only [j2] at h
   cases hq:j2 r x (off+1) l with
   |none=>simp [hq] at h
   |some y'=>
    simp only [hq] at h;simp at hle;have ih:=w9 r p k0 x (off+1) l y' vs us (by omega) hq ⟨by have:=hl.1;simpa using this,fun i a b ha hb=>hl.2 (i+1) a b (by simpa using ha) (by simpa using hb)⟩ hv;rw [zL (by omega)];exact Br r p k0 y' off y z _ u h (hl.2 0 y u rfl rfl) ih
mutual
theorem cE.dep {w:World} {P:List Nat→Nat→Prop} {ok:Nat→Prop}:(t:Ty)→(p:List Nat)→(v:Value)→(x:den t)→RT.dS (.cons t .nil)=false→cE w ok t v x→dP w P t p v x
 |.int _,_,_,_,_,h=>wZ.2 (tL.1 h)
 |.bool,_,_,_,_,h=>tM.2 (rX.1 h)
 |.str,_,_,_,_,h=>w6.2 (vh.1 h)
 |.sl _,_,_,_,hs,_=>by simp [RT.dS] at hs
theorem dE.dep {w:World} {P:List Nat→Nat→Prop} {ok:Nat→Prop}:(r:RT)→(p:List Nat)→(k b off:Nat)→(x:ar r)→r.dS=false→dE w ok r b off x→fl w P r p k b off x
 |.nil,_,_,_,_,_,_,_=>by unfold fl;trivial
 |.cons t r,p,k,b,off,x,hs,h=>by
  unfold dE at h;unfold fl;obtain ⟨⟨v,h1,h2⟩,h3⟩:=h;refine ⟨⟨v,h1,cE.dep t _ v x.1 ?_ h2⟩,dE.dep r p (k+1) b (off+1) x.2 ?_ h3⟩
  ·cases t<;>simp_all [RT.dS]
  ·cases t<;>simp_all [RT.dS]
end
theorem fl.FQ {w:World} {P:List Nat→Nat→Prop} {ok:Nat→Prop}:(r:RT)→(p:List Nat)→(k b off:Nat)→(x:ar r)→r.dS=false→fl w P r p k b off x→dE w ok r b off x
 |.nil,_,_,_,_,_,_,_=>by unfold dE;trivial
 |.cons t r,p,k,b,off,x,hs,h=>by
  unfold fl at h;unfold dE;obtain ⟨⟨v,h1,h2⟩,h3⟩:=h;refine ⟨⟨v,h1,?_⟩,fl.FQ r p (k+1) b (off+1) x.2 (by cases t<;>simp_all [RT.dS]) h3⟩
  cases t with
  |int _=>exact tL.2 (wZ.1 h2)
  |bool=>exact rX.2 (tM.1 h2)
  |str=>exact vh.2 (w6.1 h2)
  |sl _=>simp [RT.dS] at hs
theorem bF.M1 {c:Cz} {w:World} {l:Lb} {A:gM} {b off:Nat} (hm:A.md=.sh) {ys:List (ar A.r)} (h:∀(i:Nat) x,ys[i]?=some x→dE w c.ok A.r b (off+i*A.r.width) x):bF c w l { A with xs:=ys } b off:=by
 unfold bF;show match A.md with | .sh=>_ | .dp=>_ | .ho _=>_ | .lz=>_
 rw [hm];exact h
def RT.md (q:RT):Md:=bif q.dS then .dp else .sh
theorem PQ {c:Cz} {w:World} {s j:Nat} {A:gM} (h:cq c w s j A) (ho:A.own=true) (hm:A.md=A.r.md) {v:Value} (h1:v.oneCell'=true) (hv:gm (c.lc s j) A.r.width 0 A.xs.length v) :
  ∃g:Nat→List Nat,∀(P:List Nat→Nat→Prop) (p:List Nat),(∀k,c.own k=some (.sp s j)→P (p++g k) k)→dP w P (.sl A.r) p v A.xs:=by
 unfold cq at h
 cases hl:c.lc s j with
 |nil=>
  rw [hl] at h hv;exact ⟨fun _=>[],fun P p _=>(vi _ _ _ _ _ _).2 ⟨.nil,hv,h1,.inl ⟨rfl,h⟩⟩⟩
 |«at» b off cap=>
  rw [hl] at h hv;obtain ⟨h0,h2,h3,h4⟩:=h;rw [ho] at h0;unfold bF at h4;rw [hm] at h4;unfold RT.md at h4
  cases hs:A.r.dS with
  |false=>
   rw [hs] at h4;refine ⟨fun _=>[],fun P p hP=>(vi _ _ _ _ _ _).2 ⟨_,hv,h1,.inr ⟨b,off,cap,rfl,?_,h2,h3,fun i x hx=>dE.dep _ _ _ _ _ x hs (h4 i x hx)⟩⟩⟩;simpa using hP b h0
  |true=>
   rw [hs] at h4;obtain ⟨g,g1,g2⟩:=h4;refine ⟨g,fun P p hP=>(vi _ _ _ _ _ _).2 ⟨_,hv,h1,.inr ⟨b,off,cap,rfl,?_,h2,h3,fun i x hx=>fl.go _ [i] (p++[i]) (fun q k hk=>⟨rfl,?_⟩) _ _ _ x rfl (g2 i x hx)⟩⟩⟩
   ·have:=hP b h0
    rwa [g1,List.append_nil] at this
   ·have:=hP k hk.1;rw [hk.2] at this
    rwa [List.append_assoc]
theorem M3 {c:Cz} {w:World} {s j:Nat} {A:gM} (h:cq c w s j A) (ho:A.own=true) (hm:A.md=A.r.md) :
  ∃g:Nat→List Nat,∀v:Value,v.oneCell'=true→gm (c.lc s j) A.r.width 0 A.xs.length v→∀(P:List Nat→Nat→Prop) (p:List Nat),(∀k,c.own k=some (.sp s j)→P (p++g k) k)→dP w P (.sl A.r) p v A.xs:=by
 by_cases e:∃v:Value,v.oneCell'=true∧gm (c.lc s j) A.r.width 0 A.xs.length v
 ·unfold cq at h
  cases hl:c.lc s j with
  |nil=>
   rw [hl] at h;exact ⟨fun _=>[],fun v h1 hv P p _=>(vi _ _ _ _ _ _).2 ⟨.nil,hv,h1,.inl ⟨rfl,h⟩⟩⟩
  |«at» b off cap=>
   rw [hl] at h;obtain ⟨h0,h2,h3,h4⟩:=h;rw [ho] at h0;unfold bF at h4;rw [hm] at h4;unfold RT.md at h4
   cases hs:A.r.dS with
   |false=>
    rw [hs] at h4;refine ⟨fun _=>[],fun v h1 hv P p hP=>(vi _ _ _ _ _ _).2 ⟨_,hv,h1,.inr ⟨b,off,cap,rfl,?_,h2,h3,fun i x hx=>dE.dep _ _ _ _ _ x hs (h4 i x hx)⟩⟩⟩;simpa using hP b h0
   |true=>
    rw [hs] at h4;obtain ⟨g,g1,g2⟩:=h4;refine ⟨g,fun v h1 hv P p hP=>(vi _ _ _ _ _ _).2 ⟨_,hv,h1,.inr ⟨b,off,cap,rfl,?_,h2,h3,fun i x hx=>fl.go _ [i] (p++[i]) (fun q k hk=>⟨rfl,?_⟩) _ _ _ x rfl (g2 i x hx)⟩⟩⟩
    ·have:=hP b h0
     rwa [g1,List.append_nil] at this
    ·have:=hP k hk.1;rw [hk.2] at this
     rwa [List.append_assoc]
 ·exact ⟨fun _=>[],fun v h1 h2=>absurd ⟨v,h1,h2⟩ e⟩
theorem sZ {w0:World} {mu:Mu} {c:Cz} {st:St} {a:Act} {w:World} (h:Rel w0 mu c st a w):(r:RT)→(cs:List CV)→(us:List Value)→fF c st w cs us→{x:ar r}→{m:List (Option (Nat×Nat))}→dC st r cs=some (x,m)→
  m.length=r.width∧(∀(col:Nat) (n:Nat×Nat),m[col]?=some (some n)→∃g A,aV st n.1 n.2 g=some A∧A.own=true)∧
  ∃G:Nat→Nat→List Nat,∀(P:List Nat→Nat→Prop) (p:List Nat) (k0:Nat),(∀(col:Nat) (n:Nat×Nat) (k:Nat),m[col]?=some (some n)→c.own k=some (.sp n.1 n.2)→P (p++[k0+col]++G col k) k)→cY w P r p k0 us x
 |.nil,cs,us,hl,x,m,hv=>by
  cases cs with
  |cons _ _=>simp [dC] at hv
  |nil=>
   have:us=[]:=by have:=hl.1;simp at this;exact List.length_eq_zero_iff.1 this.symm
   subst this;simp only [dC,Option.some.injEq,Prod.mk.injEq] at hv;obtain ⟨_,rfl⟩:=hv;exact ⟨rfl,fun col n h=>by simp at h,fun _ _=>[],fun _ _ _ _=>rfl⟩
 |.cons t r,cs,us,hl,x,m,hv=>by
  cases cs with
  |nil=>cases t<;>simp [dC] at hv
  |cons y cs=>
   cases us with
   |nil=>have:=hl.1;simp at this
   |cons u us=>
    have hu:jv c st w y u:=hl.2 0 y u rfl rfl;have tD:fF c st w cs us:=⟨by have:=hl.1;simpa using this,fun i a b ha hb=>hl.2 (i+1) a b (by simpa using ha) (by simpa using hb)⟩;have cell:∀(d:den t) (o:Option (Nat×Nat)) (z:ar r) (m':List (Option (Nat×Nat))),dC st r cs=some (z,m')→(∀n,o=some n→∃g A,aV st n.1 n.2 g=some A∧A.own=true)→
      (∃g:Nat→List Nat,∀(P:List Nat→Nat→Prop) (p:List Nat),(∀n k,o=some n→c.own k=some (.sp n.1 n.2)→P (p++g k) k)→dP w P t p u d)→x=(d,z)→m=o::m'→
      m.length=(RT.cons t r).width∧(∀(col:Nat) (n:Nat×Nat),m[col]?=some (some n)→∃g A,aV st n.1 n.2 g=some A∧A.own=true)∧
      ∃G:Nat→Nat→List Nat,∀(P:List Nat→Nat→Prop) (p:List Nat) (k0:Nat),(∀(col:Nat) (n:Nat×Nat) (k:Nat),m[col]?=some (some n)→c.own k=some (.sp n.1 n.2)→P (p++[k0+col]++G col k) k)→cY w P (.cons t r) p k0 (u::us) x:=by
     intro d o z m' hz ho hd e1 e2;subst e1 e2;obtain ⟨g1,g2,G,g3⟩:=sZ h r cs us tD hz;obtain ⟨g,hd⟩:=hd;refine ⟨by simp [RT.width,g1],fun col n hc => ?_,fun col=>match col with | 0=>g | col+1=>G col,fun P p k0 hP=>⟨u,us,rfl,hd P _ fun n k hn hk => ?_,g3 P p (k0+1) fun col n k hc hk => ?_⟩⟩
     ·cases col with
      |zero=>exact ho n (by simpa using hc)
      |succ col=>exact g2 col n (by simpa using hc)
     ·have:=hP 0 n k (by simp [hn]) hk;simpa using this
     ·have:=hP (col+1) n k (by simpa using hc) hk
      rwa [show k0+(col+1)=k0+1+col by omega] at this
    have plain:∀(d:den t),(∀(P:List Nat→Nat→Prop) (p:List Nat),dP w P t p u d)→(match dC st r cs with | some p=>some ((d,p.1),none::p.2) | none=>(none:Option (ar (.cons t r)×List (Option (Nat×Nat)))))=some (x,m)→
      m.length=(RT.cons t r).width∧(∀(col:Nat) (n:Nat×Nat),m[col]?=some (some n)→∃g A,aV st n.1 n.2 g=some A∧A.own=true)∧
      ∃G:Nat→Nat→List Nat,∀(P:List Nat→Nat→Prop) (p:List Nat) (k0:Nat),(∀(col:Nat) (n:Nat×Nat) (k:Nat),m[col]?=some (some n)→c.own k=some (.sp n.1 n.2)→P (p++[k0+col]++G col k) k)→cY w P (.cons t r) p k0 (u::us) x:=by
     intro d hd hv
     cases hz:dC st r cs with
     |none=>rw [hz] at hv;cases hv
     |some q=>
      rw [hz] at hv;have hv:=Option.some.inj hv;exact cell d none q.1 q.2 hz (fun n e=>by cases e) ⟨fun _=>[],fun P p _=>hd P p⟩ (congrArg Prod.fst hv).symm (congrArg Prod.snd hv).symm
    cases t with
    |int q=>
     cases y with
     |int l n=>
      simp only [dC] at hv
      by_cases e:q=l
      ·rw [if_pos e] at hv;exact plain n (fun P p=>wZ.2 (by rw [e];exact hu)) hv
      ·rw [if_neg e] at hv;cases hv
     |_=>simp [dC] at hv
    |bool=>
     cases y with
     |bool b=>exact plain b (fun P p=>tM.2 hu) (by simp only [dC] at hv;exact hv)
     |_=>simp [dC] at hv
    |str=>
     cases y with
     |str s=>exact plain s (fun P p=>w6.2 hu) (by simp only [dC] at hv;exact hv)
     |_=>simp [dC] at hv
    |sl q=>
     cases y with
     |dY=>exact plain ([]:List (ar q)) (fun P p=>(vi _ _ _ _ _ _).2 ⟨.nil,⟨hu,rfl⟩,by rw [show u=.slice none 0 0 from hu];rfl,.inl ⟨rfl,rfl⟩⟩) (by simp only [dC] at hv;exact hv)
     |ref a' j g vw=>
      cases vw with
      |full=>
       simp only [dC] at hv
       cases hA:aV st a' j g with
       |none=>simp [hA] at hv
       |some A=>
        simp only [hA] at hv;obtain ⟨hc,qC⟩:=aJ hv;clear hv;rw [Bool.and_eq_true] at hc;have hm:=Md.j1.1 hc.2
        cases oz:cn q A.xs with
        |none=>rw [oz] at qC;cases qC
        |some ys=>
         rw [oz] at qC;simp only at qC
         cases hz:dC st r cs with
         |none=>rw [hz] at qC;cases qC
         |some qq=>
          rw [hz] at qC;have qC:=Option.some.inj qC;obtain ⟨e,he⟩:=bH oz;subst e;simp only at he;subst he;refine cell A.xs (some (a',j)) qq.1 qq.2 hz (fun n e=>by cases e;exact ⟨g,A,hA,hc.1⟩) ?_ (congrArg Prod.fst qC).symm (congrArg Prod.snd qC).symm;obtain ⟨gg,h2⟩:=PQ (h.sW hA) hc.1 hm hu.1 (hu.2.2 A hA);exact ⟨gg,fun P p hP=>h2 P p fun k hk=>hP (a',j) k rfl hk⟩
      |«from» _=>simp [dC] at hv
      |sub _ _=>simp [dC] at hv
     |_=>simp [dC] at hv
theorem j4 {w0:World} {mu:Mu} {c:Cz} {a:Act} {w:World}:(m:List (Nat×Nat))→{st:St}→Rel w0 mu c st a w→Rel w0 mu c (eC st m) a w∧(∀n∈m,∀sl A,nth (eC st m) n.1=some sl→nth sl.aK n.2≠some (some A))∧
  (∀s j sl A,(s,j)∉m→nth st s=some sl→nth sl.aK j=some (some A)→∃PO,nth (eC st m) s=some PO∧nth PO.aK j=some (some A))∧Fw c st w c (eC st m) w∧∀s j A,(∀sl,nth st s=some sl→nth sl.aK j≠some (some A))→∀sl,nth (eC st m) s=some sl→nth sl.aK j≠some (some A)
 | [],st,h=>⟨h,by simp,fun s j sl A _ h1 h2=>⟨sl,h1,h2⟩,Fw.refl c st w,fun s j A h=>h⟩
 |(s0,j0)::m,st,h=>by
  obtain ⟨k1,k2⟩:=h.kill s0 j0;obtain ⟨h1,h2,h3,h4,h5⟩:=j4 m k1;have hn:∀k,∃f:Sl→Sl,(∀x,∀i,nth (f x).aK i=if k=s0∧i=j0 then (nth x.aK i).map (fun _=>none) else nth x.aK i)∧nth (bz st s0 j0 none) k=(nth st k).map f:=by
   intro k;unfold bz
   by_cases e:k=s0
   ·subst e;refine ⟨fun s=>{ s with aK:=mB (fun _=>none) s.aK j0,ep:=s.ep+1 },fun x i => ?_,gY _ _ _⟩;simp only [dD,true_and]
   ·refine ⟨id,fun x i => ?_,by rw [lj _ _ e];simp⟩;simp [e]
  have keep:∀s j A,(∀sl,nth st s=some sl→nth sl.aK j≠some (some A))→∀sl,nth (bz st s0 j0 none) s=some sl→nth sl.aK j≠some (some A):=by
   intro s j A hq sl hs;obtain ⟨f,hf,hk⟩:=hn s;rw [hk] at hs
   cases hx:nth st s with
   |none=>rw [hx] at hs;cases hs
   |some x=>
    rw [hx] at hs;simp at hs;subst hs;rw [hf]
    split
    ·cases nth x.aK j<;>simp
    ·exact hq x hx
  refine ⟨h1,fun n hm sl A hs => ?_,fun s j sl A hm hs hA => ?_,?_,fun s j A hq=>h5 s j A (keep s j A hq)⟩
  ·rcases List.mem_cons.1 hm with rfl | hm
   ·exact h5 s0 j0 A (fun sl hs=>k2 sl A hs) sl hs
   ·exact h2 n hm sl A hs
  ·obtain ⟨f,hf,hk⟩:=hn s;refine h3 s j (f sl) A (fun CH=>hm (List.mem_cons_of_mem _ CH)) (by rw [hk,hs];rfl) ?_;rw [hf,if_neg]
   ·exact hA
   ·rintro ⟨rfl,rfl⟩;exact hm List.mem_cons_self
  ·refine Fw.trans ?_ h4;exact (h.Sa s0 j0)
open Classical in
noncomputable def Cz.iA (c:Cz) (m:List (Nat×Nat)) (l:Lb):Cz:=
 { bx:=c.bx,lc:=c.lc,own:=fun k=>if ∃n∈m,c.own k=some (.sp n.1 n.2) then some l else c.own k,rs:=c.rs }
theorem Cz.mF {c:Cz} {m:List (Nat×Nat)} {l:Lb} {k:Nat} {n:Nat×Nat} (hm:n∈m) (h:c.own k=some (.sp n.1 n.2)):(c.iA m l).own k=some l:=by
 unfold Cz.iA;simp only;rw [if_pos ⟨n,hm,h⟩]
theorem Cz.ns {c:Cz} {m:List (Nat×Nat)} {l:Lb} {k:Nat} (h:∀n∈m,c.own k≠some (.sp n.1 n.2)):(c.iA m l).own k=c.own k:=by
 unfold Cz.iA;simp only;rw [if_neg];rintro ⟨n,hm,e⟩;exact h n hm e
theorem Cz.FR {c:Cz} {m:List (Nat×Nat)} {l:Lb} {k:Nat}:(c.iA m l).ok k↔c.ok k:=by
 unfold Cz.ok
 by_cases h:∃n∈m,c.own k=some (.sp n.1 n.2)
 ·obtain ⟨n,hm,e⟩:=h;rw [Cz.mF hm e,e];simp
 ·rw [Cz.ns (fun n hm e=>h ⟨n,hm,e⟩)]
theorem Fw.iA (c:Cz) (st:St) (w:World) (m:List (Nat×Nat)) (l:Lb):Fw c st w (c.iA m l) st w:=
 ⟨⟨Nat.le_refl _,fun _ _ _=>rfl,fun _ _ h=>Cz.FR.2 h⟩,fun _ _ _ A' _ h=>⟨A',h,rfl,rfl,rfl,fun _=>⟨rfl,fun _ _ _ _=>rfl⟩⟩,fun _ _ mf _ h=>⟨⟨mf,h⟩,rfl⟩,fun _=>Nat.le_refl _,fun _=>Nat.le_refl _,fun _=>Nat.le_refl _⟩
theorem Rel.iA {w0:World} {mu:Mu} {c:Cz} {st:St} {a:Act} {w:World} (h:Rel w0 mu c st a w) {m:List (Nat×Nat)} (hd:∀n∈m,∀sl A,nth st n.1=some sl→nth sl.aK n.2≠some (some A)) (s j:Nat):Rel w0 mu (c.iA m (.sp s j)) st a w where
 ey t:=(Fw.iA c st w m _).la (h.ey t)
 boxes b sl cs hs hb:=by
  have h0:=h.boxes b sl cs hs hb;exact h0.go (Fw.iA c st w m _) rfl (Cz.ns fun n _=>by rw [h0.1];simp) rfl
 aK b i sl A hs hA:=by
  have h0:=h.aK b i sl A hs hA;refine h0.go (Fw.iA c st w m _).stays rfl (fun k hk=>⟨rfl,Cz.ns fun n hn e => ?_⟩);rw [hk] at e;injection e with e;injection e with e1 e2;subst e1 e2;exact hd n hn sl A hs hA
 owned b l hb:=by
  by_cases e:∃n∈m,c.own b=some (.sp n.1 n.2)
  ·obtain ⟨n,hm,e⟩:=e;rw [Cz.mF hm e] at hb
   cases hb
   obtain ⟨h1,h2⟩:=h.owned b _ e;exact ⟨h1,.inr (h2.resolve_left (by simp))⟩
  ·rw [Cz.ns (fun n hm e'=>e ⟨n,hm,e'⟩)] at hb;exact h.owned b l hb
 free b hb h1:=h.free b hb (Cz.FR.1 h1)
 kept:=h.kept
 old:=h.old
 plain:=h.plain
 dF p hp:=(Fw.iA c st w m _).dF (h.dF p hp)
 mT:=h.mT
theorem jx:{m:List (Nat×Nat)}→distinct m=true→m.Nodup
 | [],_=>List.nodup_nil
 |x::l,h=>by
  simp only [distinct,Bool.and_eq_true,List.all_eq_true] at h;refine List.nodup_cons.2 ⟨fun hm => ?_,jx h.2⟩;have:=h.1 x hm;simp at this
theorem xa {n:Nat×Nat}:{m:List (Option (Nat×Nat))}→n∈bC m→∃col:Nat,m[col]?=some (some n)
 | [],h=>by simp [bC] at h
 |none::m,h=>by
  obtain ⟨col,hc⟩:=xa (m:=m) h;exact ⟨col+1,by simpa using hc⟩
 |some p::m,h=>by
  rcases List.mem_cons.1 h with rfl | h
  ·exact ⟨0,rfl⟩
  ·obtain ⟨col,hc⟩:=xa (m:=m) h;exact ⟨col+1,by simpa using hc⟩
theorem gI {n:Nat×Nat}:{m:List (Option (Nat×Nat))}→{col:Nat}→m[col]?=some (some n)→n∈bC m
 | [],_,h=>by simp at h
 |none::m,0,h=>by simp at h
 |none::m,col+1,h=>gI (m:=m) (col:=col) (by simpa using h)
 |some p::m,0,h=>by simp at h;subst h;exact List.mem_cons_self
 |some p::m,col+1,h=>List.mem_cons_of_mem _ (gI (m:=m) (col:=col) (by simpa using h))
theorem rk {n:Nat×Nat}:{m:List (Option (Nat×Nat))}→(bC m).Nodup→{a b:Nat}→m[a]?=some (some n)→m[b]?=some (some n)→a=b
 | [],_,a,_,h,_=>by simp at h
 |none::m,hn,a,b,h,h'=>by
  cases a with
  |zero=>simp at h
  |succ a=>cases b with
   |zero=>simp at h'
   |succ b=>exact congrArg (· + 1) (rk (m:=m) (a:=a) (b:=b) hn (by simpa using h) (by simpa using h'))
 |some p::m,hn,a,b,h,h'=>by
  have KJ:=List.nodup_cons.1 hn
  cases a with
  |zero=>
   simp at h;subst h
   cases b with
   |zero=>rfl
   |succ b=>exact absurd (gI (m:=m) (col:=b) (by simpa using h')) KJ.1
  |succ a=>
   cases b with
   |zero=>simp at h';subst h';exact absurd (gI (m:=m) (col:=a) (by simpa using h)) KJ.1
   |succ b=>exact congrArg (· + 1) (rk (m:=m) (a:=a) (b:=b) KJ.2 (by simpa using h) (by simpa using h'))
open Classical in
noncomputable def Cz.pZ (c:Cz) (m:List (Nat×Nat)) (l:Lb):Cz:=
 { bx:=c.bx,lc:=c.lc,own:=c.own,rs:=fun k=>if ∃n∈m,c.own k=some (.sp n.1 n.2) then some l else c.rs k }
theorem Cz.Jr {c:Cz} {m:List (Nat×Nat)} {l:Lb} {k:Nat} {n:Nat×Nat} (hm:n∈m) (h:c.own k=some (.sp n.1 n.2)):(c.pZ m l).rs k=some l:=by
 unfold Cz.pZ;simp only;rw [if_pos ⟨n,hm,h⟩]
theorem Cz.FT {c:Cz} {m:List (Nat×Nat)} {l:Lb} {k:Nat} (h:c.own k=none):(c.pZ m l).rs k=c.rs k:=by
 unfold Cz.pZ;simp only;rw [if_neg];rintro ⟨n,hm,e⟩;rw [h] at e;cases e
theorem Fw.pZ (c:Cz) (st:St) (w:World) (m:List (Nat×Nat)) (l:Lb):Fw c st w (c.pZ m l) st w:=
 ⟨⟨Nat.le_refl _,fun _ _ _=>rfl,fun _ _ h=>h⟩,fun _ _ _ A' _ h=>⟨A',h,rfl,rfl,rfl,fun _=>⟨rfl,fun _ _ _ _=>rfl⟩⟩,fun _ _ mf _ h=>⟨⟨mf,h⟩,rfl⟩,fun _=>Nat.le_refl _,fun _=>Nat.le_refl _,fun _=>Nat.le_refl _⟩
theorem Rel.pZ {w0:World} {mu:Mu} {c:Cz} {st:St} {a:Act} {w:World} (h:Rel w0 mu c st a w) (m:List (Nat×Nat)) (l:Lb):Rel w0 mu (c.pZ m l) st a w where
 ey t:=(Fw.pZ c st w m _).la (h.ey t)
 boxes b sl cs hs hb:=(h.boxes b sl cs hs hb).go (Fw.pZ c st w m _) rfl rfl rfl
 aK b i sl A hs hA:=(h.aK b i sl A hs hA).go (Fw.pZ c st w m l).stays rfl (fun k hk=>⟨rfl,rfl⟩) (fun k hk _ hr=>by rw [Cz.FT hk];exact hr)
 owned:=h.owned
 free:=h.free
 kept:=h.kept
 old:=h.old
 plain:=h.plain
 dF p hp:=(Fw.pZ c st w m _).dF (h.dF p hp)
 mT k l' hk:=by
  by_cases e:∃n∈m,c.own k=some (.sp n.1 n.2)
  ·obtain ⟨n,hn,e⟩:=e;obtain ⟨h1,h2⟩:=h.owned k _ e;exact ⟨h1,(h2.resolve_left (by simp)).imp id .inl⟩
  ·unfold Cz.pZ at hk;simp only at hk;rw [if_neg e] at hk;exact h.mT k l' hk
theorem Cz.AR:(m:List (Nat×Nat))→(c:Cz)→(c.drop m).rs=c.rs
 | [],_=>rfl
 |(a,j)::m,c=>(Cz.AR m (c.drop1 a j)).trans rfl
theorem Bs {c:Cz} {m:List (Option (Nat×Nat))} (hn:(bC m).Nodup) (G:Nat→Nat→List Nat) (g:Nat→List Nat) (p:List Nat) :
  ∃g':Nat→List Nat,(∀k,c.own k=none→g' k=g k)∧∀(col:Nat) (n:Nat×Nat) (k:Nat),m[col]?=some (some n)→c.own k=some (.sp n.1 n.2)→g' k=p++[col]++G col k:=by
 have key:∀k,∃q:List Nat,(c.own k=none→q=g k)∧∀(col:Nat) (n:Nat×Nat),m[col]?=some (some n)→c.own k=some (.sp n.1 n.2)→q=p++[col]++G col k:=by
  intro k
  by_cases e:∃(col:Nat) (n:Nat×Nat),m[col]?=some (some n)∧c.own k=some (.sp n.1 n.2)
  ·obtain ⟨col,n,e1,e2⟩:=e;refine ⟨p++[col]++G col k,fun h => ?_,fun Wl n' h1 h2 => ?_⟩
   ·rw [e2] at h;cases h
   ·rw [e2] at h2;injection h2 with h2;injection h2 with q1 q2;have:n=n':=Prod.ext q1 q2;subst this;rw [rk hn h1 e1]
  ·exact ⟨g k,fun _=>rfl,fun col n h1 h2=>absurd ⟨col,n,h1,h2⟩ e⟩
 obtain ⟨g',h⟩:=Classical.axiomOfChoice key;exact ⟨g',fun k=>(h k).1,fun col n k=>(h k).2 col n⟩
theorem yQ {c:Cz} {m:List (Option (Nat×Nat))} (hn:(bC m).Nodup) (G:Nat→Nat→List Nat) (g:Nat→List Nat) (p:List Nat) (l:Lb) (hl:∀n∈bC m,l≠.sp n.1 n.2) :
  ∃g':Nat→List Nat,(∀k,c.own k=some l→g' k=g k)∧∀(col:Nat) (n:Nat×Nat) (k:Nat),m[col]?=some (some n)→c.own k=some (.sp n.1 n.2)→g' k=p++[col]++G col k:=by
 have key:∀k,∃q:List Nat,(c.own k=some l→q=g k)∧∀(col:Nat) (n:Nat×Nat),m[col]?=some (some n)→c.own k=some (.sp n.1 n.2)→q=p++[col]++G col k:=by
  intro k
  by_cases e:∃(col:Nat) (n:Nat×Nat),m[col]?=some (some n)∧c.own k=some (.sp n.1 n.2)
  ·obtain ⟨col,n,e1,e2⟩:=e;refine ⟨p++[col]++G col k,fun h => ?_,fun Wl n' h1 h2 => ?_⟩
   ·rw [e2] at h;cases h;exact absurd rfl (hl n (gI e1))
   ·rw [e2] at h2;injection h2 with h2;injection h2 with q1 q2;have:n=n':=Prod.ext q1 q2;subst this;rw [rk hn h1 e1]
  ·exact ⟨g k,fun _=>rfl,fun col n h1 h2=>absurd ⟨col,n,h1,h2⟩ e⟩
 obtain ⟨g',h⟩:=Classical.axiomOfChoice key;exact ⟨g',fun k=>(h k).1,fun col n k=>(h k).2 col n⟩
theorem KK {P:Program} {T:lf} (hT:fQ P T) {w0:World} {mu:Mu} {c:Cz} {st:St} {a:Act} {w:World} (h:Rel w0 mu c st a w)
  {t:Nat} {x v:V} {ux uv:Value} (hx:eK c st w x ux) (hv:eK c st w v uv) {bd:St} (hs:(sv T st t x v).val=some bd) :
  ∃w',(Instr.storeAt t ux uv).run P w=.ok () w'∧∃c',Rel w0 mu c' bd a w':=by
 cases hn:T.cells t with
 |none=>cases x with
  |one y=>cases y<;>simp [sv,hn,N.val] at hs
  |agg _=>simp [sv,N.val] at hs
  |nC _=>simp [sv,N.val] at hs
 |some n=>cases x with
  |agg _=>simp [sv,N.val] at hs
  |nC _=>simp [sv,N.val] at hs
  |one y=>cases y with
   |bad | int _ _ | bool _ | str _ | dY | HH | shr _ _ | nn _ _ | ref _ _ _ _ | me _ _ _ | su _ _ _ | fn _ _ _ | HI _ _ _ _ _ _ _ _ | pI _ _ _ _ _ _ _ _=>simp [sv,N.val] at hs
   |ptr b g off=>
    simp only [sv,hn] at hs
    cases hb:dH st b g with
    |none=>simp [hb,N.val] at hs
    |some cs=>
     simp only [hb] at hs;obtain ⟨hc,hs⟩:=dx hs;rw [Bool.and_eq_true] at hc
     cases hp:putCells cs off v.cells with
     |none=>simp [hp,N.val] at hs
     |some l=>
      simp only [hp,N.val,Option.some.injEq] at hs;subst hs;obtain ⟨hle,rfl⟩:=wL hp;obtain ⟨sl,xD,HS,yK⟩:=iN hb;obtain ⟨ho,vs,ty,hh,hl⟩:=h.boxes b sl cs xD yK;obtain ⟨oz,xc⟩:=hv.cells hc.1;have hu:=hx.2.2 cs hb;subst hu;have hlen:uv.cells.toList.length=n:=by rw [←oz.1];exact Nat.eq_of_beq_eq_true hc.2
      have u7:=hl.1;have Av:=oz.1;refine ⟨_,jR hT hn w (c.bx b) off uv hlen xc hh (by simp at u7 ⊢;omega),c,?_⟩;refine h.MY xD yK hh ?_;simpa using hl.bY oz off hle
   |FL a' j g i off=>
    simp only [sv,hn] at hs
    cases hA:aV st a' j g with
    |none=>simp [hA,N.val] at hs
    |some A=>
     simp only [hA] at hs;obtain ⟨hc,hz⟩:=dx hs;clear hs;rw [Bool.and_eq_true,Bool.and_eq_true,Bool.and_eq_true] at hc;obtain ⟨⟨⟨aco,eL⟩,De⟩,HV⟩:=hc;have HV:0<n:=by simp [Nat.blt] at HV;omega
     obtain ⟨sl,xD,HS,yK⟩:=bt hA;have CL:=h.aK a' j sl A xD yK;obtain ⟨hi,b,o,cap,iy,hu⟩:=hx.2.2 A hA;have Sb:=CL;unfold cq at Sb;rw [iy] at Sb;obtain ⟨ho,wG,⟨cur,ty,hg,kg⟩,dK⟩:=Sb;rw [eL] at ho;obtain ⟨oz,xc⟩:=hv.cells aco;have hlen:uv.cells.toList.length=n:=by rw [←oz.1];exact Nat.eq_of_beq_eq_true De
     have Aw:o+i*A.r.width+A.r.width≤cur.size:=by
      have:(i+1)*A.r.width≤cap*A.r.width:=Nat.mul_le_mul_right _ (by omega);rw [Nat.add_mul] at this;omega
     subst hu
     cases hw:Nat.beq n A.r.width&&A.r.dS&&Nat.beq off 0 with
     |false=>
      rw [hw] at hz;simp only [cond_false] at hz
      cases hm:A.md with
      |ho _=>rw [hm] at hz;simp [N.val,Md.C7] at hz
      |sh=>
       rw [hm] at hz;simp only [Md.C7,cond_false] at hz;have dK:=(bF.sh hm).1 dK
       cases sx:A.xs[i]? with
       |none=>simp [sx,N.val] at hz
       |some x0=>
        simp only [sx] at hz;change (match j2 A.r x0 off v.cells with | some y=>N.done (bz st a' j (some (A.put (A.xs.set i y)))) | none=>N.fail).val=some bd at hz
        cases hp:j2 A.r x0 off v.cells with
        |none=>simp [hp,N.val] at hz
        |some y=>
         simp only [hp,N.val,Option.some.injEq] at hz;subst hz;have Av:=oz.1;have M4:off+uv.cells.toList.length≤A.r.width:=by
          rw [←Av];exact qB A.r x0 off v.cells hp (by intro e;rw [e] at Av;simp at Av;simp at hlen;omega)
         refine ⟨_,jR hT hn w b (o+i*A.r.width+off) uv hlen xc hg (by omega),c,?_⟩;exact h.rh xD yK eL iy hg (by rw [List.size_toArray,eb (by simp at M4 ⊢;omega)];simp) (by simp)
          (bF.M1 hm (xM ho hg dK sx M4 Aw (fun vs vm=>Bp A.r x0 off v.cells y vs _ (by rw [dj.length A.r vs x0 vm];exact M4) hp oz vm)))
      |dp=>
       rw [hm] at hz;simp only [Md.C7,cond_false] at hz;unfold bF at dK;rw [hm] at dK;obtain ⟨gg,HA,dK⟩:=dK
       cases sx:A.xs[i]? with
       |none=>simp [sx,N.val] at hz
       |some x0=>
        simp only [sx] at hz;change (match j2 A.r x0 off v.cells with | some y=>N.done (bz st a' j (some (A.put (A.xs.set i y)))) | none=>N.fail).val=some bd at hz
        cases hp:j2 A.r x0 off v.cells with
        |none=>simp [hp,N.val] at hz
        |some y=>
         simp only [hp,N.val,Option.some.injEq] at hz;subst hz;have Av:=oz.1;have M4:off+uv.cells.toList.length≤A.r.width:=by
          rw [←Av];exact qB A.r x0 off v.cells hp (by intro e;rw [e] at Av;simp at Av;simp at hlen;omega)
         refine ⟨_,jR hT hn w b (o+i*A.r.width+off) uv hlen xc hg (by omega),c,?_⟩;refine h.rh xD yK eL iy hg (by rw [List.size_toArray,eb (by simp at M4 ⊢;omega)];simp) (by simp) ?_;unfold bF;show match A.md with | .sh=>_ | .dp=>_ | .ho _=>_ | .lz=>_
         rw [hm];refine ⟨gg,HA,fun i' x' uM => ?_⟩;obtain ⟨vs,q1,q2⟩:=ph hg (Q:=fun i vs x=>cY w (fun p k=>c.own k=some (.sp a' j)∧gg k=p) A.r [i] 0 vs x) (fun i x hx=>by
          obtain ⟨vs,q1,q2⟩:=(gQ _ _ _ _ _ _).1 (dK i x hx);exact ⟨vs,q1,cY.length _ _ _ _ _ q2,q2⟩) sx M4 Aw (fun vs u7 vm=>w9 A.r [i] 0 x0 off v.cells y vs _ (by rw [u7];exact M4) hp oz vm) i' x' uM
         refine (gQ _ _ _ _ _ _).2 ⟨vs,q1,cY.go _ [i'] [i'] (fun q k hk=>⟨setRow_other w b k _ ?_,hk⟩) 0 vs x' q2⟩
         rintro rfl
         rw [HA] at hk;simp at hk
      |lz=>
       rw [hm] at hz;simp only [Md.C7,cond_false] at hz;unfold bF at dK;rw [hm] at dK;obtain ⟨gg,dK⟩:=dK
       cases sx:A.xs[i]? with
       |none=>simp [sx,N.val] at hz
       |some x0=>
        simp only [sx] at hz;change (match j2 A.r x0 off v.cells with | some y=>N.done (bz st a' j (some (A.put (A.xs.set i y)))) | none=>N.fail).val=some bd at hz
        cases hp:j2 A.r x0 off v.cells with
        |none=>simp [hp,N.val] at hz
        |some y=>
         simp only [hp,N.val,Option.some.injEq] at hz;subst hz;have Av:=oz.1;have M4:off+uv.cells.toList.length≤A.r.width:=by
          rw [←Av];exact qB A.r x0 off v.cells hp (by intro e;rw [e] at Av;simp at Av;simp at hlen;omega)
         refine ⟨_,jR hT hn w b (o+i*A.r.width+off) uv hlen xc hg (by omega),c,?_⟩;refine h.rh xD yK eL iy hg (by rw [List.size_toArray,eb (by simp at M4 ⊢;omega)];simp) (by simp) ?_;unfold bF;show match A.md with | .sh=>_ | .dp=>_ | .ho _=>_ | .lz=>_
         rw [hm];refine ⟨gg,fun i' x' uM => ?_⟩;obtain ⟨vs,q1,q2⟩:=ph hg (Q:=fun i vs x=>cY w (fun p k=>c.CG w (.sp a' j) k∧gg k=p) A.r [i] 0 vs x) (fun i x hx=>by
          obtain ⟨vs,q1,q2⟩:=(gQ _ _ _ _ _ _).1 (dK i x hx);exact ⟨vs,q1,cY.length _ _ _ _ _ q2,q2⟩) sx M4 Aw (fun vs u7 vm=>w9 A.r [i] 0 x0 off v.cells y vs _ (by rw [u7];exact M4) hp oz vm) i' x' uM
         refine (gQ _ _ _ _ _ _).2 ⟨vs,q1,cY.go _ [i'] [i'] (fun q k hk=>⟨setRow_other w b k _ ?_,⟨hk.1.1,hk.1.2.1,by simpa [World.setRow] using hk.1.2.2⟩,hk.2⟩) 0 vs x' q2⟩
         rintro rfl
         have:=hk.1.1;rw [ho] at this
         cases this
     |true=>
      rw [hw] at hz;simp only [cond_true] at hz;rw [Bool.and_eq_true,Bool.and_eq_true] at hw;have hnW:=Nat.eq_of_beq_eq_true hw.1.1;have acp:=Nat.eq_of_beq_eq_true hw.2;subst acp;have CP:uv.cells.toList.length=A.r.width:=by rw [hlen,hnW]
      have Sc:∀vs:List Value,vs.length=A.r.width→bY vs 0 uv.cells.toList=uv.cells.toList:=by
       intro vs u7;unfold bY;rw [List.drop_eq_nil_of_le (by omega)];simp
      cases hm:A.md with
      |ho q0=>
       rw [hm] at hz;simp only at hz
       cases M5:dC st A.r v.cells with
       |none=>rw [M5] at hz;simp [N.val] at hz
       |some pq=>
        obtain ⟨x1,m⟩:=pq;rw [M5] at hz;simp only at hz;obtain ⟨KM,h1⟩:=dx hz;clear hz;rw [Bool.and_eq_true] at KM;have Eu:=jx KM.1;have HW:(a',j)∉bC m:=by
         intro yR;have:=List.all_eq_true.1 KM.2 _ yR;simp at this
        obtain ⟨hiq,Sd⟩:Nat.beq i q0=true∧(N.row A.r A.xs[i]? (fun _=>N.done (bz (eC st (bC m)) a' j (some { A.put (A.xs.set i x1) with md:=.dp })))).val=some bd:=by
         cases hb:Nat.beq i q0 with
         |true=>rw [hb] at h1;exact ⟨rfl,h1⟩
         |false=>rw [hb] at h1;cases h1
        have hiq:=Nat.eq_of_beq_eq_true hiq;clear h1;have h1:=Sd;clear Sd;subst hiq
        cases sx:A.xs[i]? with
        |none=>simp [sx,N.val] at h1
        |some x0=>
         simp only [sx] at h1;change some _=some bd at h1;obtain rfl:=Option.some.inj h1;obtain ⟨hml,hmo,G,hG⟩:=sZ h A.r v.cells _ oz M5;unfold bF at dK;rw [hm] at dK;obtain ⟨gg,HA,dK⟩:=dK eL;obtain ⟨yS,yM,PR,_,_⟩:=j4 (bC m) h;have hR:=yS.iA yM a' j;obtain ⟨PO,g1,g2⟩:=PR a' j sl A HW xD yK;have M6:∀n∈bC m,Lb.sp a' j≠.sp n.1 n.2:=by
          intro n hn e;injection e with e1 e2;exact HW (by rw [show (a',j)=n from Prod.ext e1 e2];exact hn)
         obtain ⟨g',p1,p2⟩:=yQ (c:=c) Eu G gg [i] (.sp a' j) M6;have Df:∀k,c.own k=some (.sp a' j)→(c.iA (bC m) (.sp a' j)).own k=some (.sp a' j):=by
          intro k hk;rw [Cz.ns (fun n hn e=>by rw [hk] at e;exact M6 n hn (Option.some.inj e))];exact hk
         refine ⟨_,jR hT hn w b (o+i*A.r.width+0) uv hlen xc hg (by omega),c.iA (bC m) (.sp a' j),?_⟩;refine hR.Dd (A:=A) (ys:=A.xs.set i x1) (md':=.dp) g1 g2 eL iy hg (by rw [List.size_toArray,eb (by simp at CP ⊢;omega)];simp) (by simp) ?_;unfold bF;show ∃g,_;refine ⟨g',by rw [p1 b ho];exact HA,fun i' x' uM => ?_⟩;have Se:∀q k,g' k=[i']++q→k≠b:=by
          rintro q k hk rfl
          rw [p1 k ho,HA] at hk;simp at hk
         obtain ⟨vs,q1,q2⟩:=CM hg (Q:=fun i vs x=>cY w (fun p k=>(c.iA (bC m) (.sp a' j)).own k=some (.sp a' j)∧g' k=p) A.r [i] 0 vs x) (fun i x gr hx=>by
          obtain ⟨vs,q1,q2⟩:=(gQ _ _ _ _ _ _).1 (dK i x gr hx);exact ⟨vs,q1,cY.length _ _ _ _ _ q2,cY.go _ [i] [i] (fun q k hk=>⟨rfl,Df k hk.1,by rw [p1 k hk.1];exact hk.2⟩) 0 vs x q2⟩) sx CP Aw (by
           refine hG _ [i] 0 fun col n k hc hk=>⟨Cz.mF (gI hc) hk,?_⟩
           rw [p2 col n k hc hk,Nat.zero_add]) i' x' uM
         exact (gQ _ _ _ _ _ _).2 ⟨vs,q1,cY.go _ [i'] [i'] (fun q k hk=>⟨setRow_other w b k _ (Se q k hk.2),hk⟩) 0 vs x' q2⟩
      |sh=>
       rw [hm] at hz;simp only at hz;have dK:=(bF.sh hm).1 dK;obtain ⟨x1,m,h1,h2,h3⟩:=xJ h A.r v.cells _ oz _ hz;obtain ⟨KM,h1⟩:=dx h1
       cases sx:A.xs[i]? with
       |none=>simp [sx,N.val] at h1
       |some x0=>
        simp only [sx] at h1;change some _=some bd at h1;obtain rfl:=Option.some.inj h1;have HW:(a',j)∉m:=by
         intro yR;have:=List.all_eq_true.1 KM _ yR;simp at this
        have hf:=h.freeze m;obtain ⟨PO,g1,g2⟩:=w8 m xD yK HW;have KN:(c.drop m).lc a' j=.at b o cap:=by rw [(Cz.Es m c).1];exact iy
        have ho':(c.drop m).own b=some (.sp a' j):=Cz.yP m c b ho (fun p hp=>by
         intro e;injection e with e1 e2;exact HW (by rw [e1,e2];exact hp))
        have M7:∀(i:Nat) x,A.xs[i]?=some x→dE w (c.drop m).ok A.r b (o+i*A.r.width) x:=fun i x hx=>
         dE.stays (Fw.freeze w m c st).stays _ _ _ x rfl (dK i x hx)
        have KO:dj w (c.drop m).ok A.r uv.cells.toList x1:=h3 _ (fun k hk=>Cz.tQ m c k hk) (fun p hp k hk=>Cz.wa m c k hk hp);refine ⟨_,jR hT hn w b (o+i*A.r.width+0) uv hlen xc hg (by omega),c.drop m,?_⟩;refine hf.rh g1 g2 eL KN hg (by rw [List.size_toArray,eb (by simp at CP ⊢;omega)];simp) (by simp) (bF.M1 hm ?_);refine xM ho' hg M7 sx (k:=0) (by omega) Aw (fun vs vm => ?_);rw [Sc vs (dj.length A.r vs x0 vm)];exact KO
      |lz=>
       rw [hm] at hz;simp only at hz
       cases M5:dC st A.r v.cells with
       |none=>rw [M5] at hz;simp [N.val] at hz
       |some pq=>
        obtain ⟨x1,m⟩:=pq;rw [M5] at hz;simp only at hz;obtain ⟨KM,h1⟩:=dx hz;clear hz;rw [Bool.and_eq_true] at KM;have Eu:=jx KM.1;have HW:(a',j)∉bC m:=by
         intro yR;have:=List.all_eq_true.1 KM.2 _ yR;simp at this
        cases sx:A.xs[i]? with
        |none=>simp [sx,N.val] at h1
        |some x0=>
         simp only [sx] at h1;change some _=some bd at h1;obtain rfl:=Option.some.inj h1;obtain ⟨hml,hmo,G,hG⟩:=sZ h A.r v.cells _ oz M5;unfold bF at dK;rw [hm] at dK;obtain ⟨gg,dK⟩:=dK;have hR:=(h.pZ (bC m) (.sp a' j)).freeze (bC m);obtain ⟨PO,g1,g2⟩:=w8 (bC m) xD yK HW;have KP:∀k,(((c.pZ (bC m) (.sp a' j)).drop (bC m)).rs) k=(c.pZ (bC m) (.sp a' j)).rs k:=fun k=>by rw [Cz.AR]
         have KN:((c.pZ (bC m) (.sp a' j)).drop (bC m)).lc a' j=.at b o cap:=by rw [(Cz.Es _ _).1];exact iy
         have ho':((c.pZ (bC m) (.sp a' j)).drop (bC m)).own b=some (.sp a' j):=Cz.yP _ _ b ho (fun p hp=>by
          intro e;injection e with e1 e2;exact HW (by rw [e1,e2];exact hp))
         obtain ⟨g',p1,p2⟩:=Bs (c:=c) Eu G gg [i];generalize Wm:(c.pZ (bC m) (.sp a' j)).drop (bC m)=c2 at hR KP KN ho' ;have hold:∀k,c.CG w (.sp a' j) k→c2.CG w (.sp a' j) k:=fun k hk=>⟨by rw [←Wm];exact Cz.tQ _ _ k hk.1,by rw [KP,Cz.FT hk.1];exact hk.2.1,hk.2.2⟩
         refine ⟨_,jR hT hn w b (o+i*A.r.width+0) uv hlen xc hg (by omega),c2,?_⟩;refine hR.rh g1 g2 eL KN hg (by rw [List.size_toArray,eb (by simp at CP ⊢;omega)];simp) (by simp) ?_;unfold bF;show match A.md with | .sh=>_ | .dp=>_ | .ho _=>_ | .lz=>_
         rw [hm];refine ⟨g',fun i' x' uM => ?_⟩;obtain ⟨vs,q1,q2⟩:=ph hg (Q:=fun i vs x=>cY w (fun p k=>c2.CG w (.sp a' j) k∧g' k=p) A.r [i] 0 vs x) (fun i x hx=>by
          obtain ⟨vs,q1,q2⟩:=(gQ _ _ _ _ _ _).1 (dK i x hx);exact ⟨vs,q1,cY.length _ _ _ _ _ q2,cY.go _ [i] [i] (fun q k hk=>⟨rfl,hold k hk.1,by rw [p1 k hk.1.1];exact hk.2⟩) 0 vs x q2⟩) sx (k:=0) (us:=uv.cells.toList) (by omega) Aw (fun vs u7 _=>by
           rw [Sc vs u7];refine hG _ [i] 0 fun col n k hc hk=>⟨⟨by rw [←Wm];exact Cz.wa (bC m) (c.pZ (bC m) (.sp a' j)) k hk (gI hc),by rw [KP];exact Cz.Jr (gI hc) hk,h.kI hk⟩,?_⟩
           rw [p2 col n k hc hk,Nat.zero_add]) i' x' uM
         exact (gQ _ _ _ _ _ _).2 ⟨vs,q1,cY.go _ [i'] [i'] (fun q k hk=>⟨setRow_other w b k _ (by
          rintro rfl
          have:=hk.1.1;rw [ho'] at this
          cases this),⟨hk.1.1,hk.1.2.1,by simpa [World.setRow] using hk.1.2.2⟩,hk.2⟩) 0 vs x' q2⟩
      |dp=>
       rw [hm] at hz;simp only at hz
       cases M5:dC st A.r v.cells with
       |none=>rw [M5] at hz;simp [N.val] at hz
       |some pq=>
        obtain ⟨x1,m⟩:=pq;rw [M5] at hz;simp only at hz;obtain ⟨KM,h1⟩:=dx hz;clear hz;rw [Bool.and_eq_true] at KM;have Eu:=jx KM.1;have HW:(a',j)∉bC m:=by
         intro yR;have:=List.all_eq_true.1 KM.2 _ yR;simp at this
        cases sx:A.xs[i]? with
        |none=>simp [sx,N.val] at h1
        |some x0=>
         simp only [sx] at h1;change some _=some bd at h1;obtain rfl:=Option.some.inj h1;obtain ⟨hml,hmo,G,hG⟩:=sZ h A.r v.cells _ oz M5;unfold bF at dK;rw [hm] at dK;obtain ⟨gg,HA,dK⟩:=dK;obtain ⟨yS,yM,PR,_,_⟩:=j4 (bC m) h;have hR:=yS.iA yM a' j;obtain ⟨PO,g1,g2⟩:=PR a' j sl A HW xD yK;have M6:∀n∈bC m,Lb.sp a' j≠.sp n.1 n.2:=by
          intro n hn e;injection e with e1 e2;exact HW (by rw [show (a',j)=n from Prod.ext e1 e2];exact hn)
         obtain ⟨g',p1,p2⟩:=yQ (c:=c) Eu G gg [i] (.sp a' j) M6;have Df:∀k,c.own k=some (.sp a' j)→(c.iA (bC m) (.sp a' j)).own k=some (.sp a' j):=by
          intro k hk;rw [Cz.ns (fun n hn e=>by rw [hk] at e;exact M6 n hn (Option.some.inj e))];exact hk
         refine ⟨_,jR hT hn w b (o+i*A.r.width+0) uv hlen xc hg (by omega),c.iA (bC m) (.sp a' j),?_⟩;refine hR.rh g1 g2 eL iy hg (by rw [List.size_toArray,eb (by simp at CP ⊢;omega)];simp) (by simp) ?_;unfold bF;show match A.md with | .sh=>_ | .dp=>_ | .ho _=>_ | .lz=>_
         rw [hm];refine ⟨g',by rw [p1 b ho];exact HA,fun i' x' uM => ?_⟩;have Se:∀q k,g' k=[i']++q→k≠b:=by
          rintro q k hk rfl
          rw [p1 k ho,HA] at hk;simp at hk
         obtain ⟨vs,q1,q2⟩:=ph hg (Q:=fun i vs x=>cY w (fun p k=>(c.iA (bC m) (.sp a' j)).own k=some (.sp a' j)∧g' k=p) A.r [i] 0 vs x) (fun i x hx=>by
          obtain ⟨vs,q1,q2⟩:=(gQ _ _ _ _ _ _).1 (dK i x hx);exact ⟨vs,q1,cY.length _ _ _ _ _ q2,cY.go _ [i] [i] (fun q k hk=>⟨rfl,Df k hk.1,by rw [p1 k hk.1];exact hk.2⟩) 0 vs x q2⟩) sx (k:=0) (us:=uv.cells.toList) (by omega) Aw (fun vs u7 _=>by
           rw [Sc vs u7];refine hG _ [i] 0 fun col n k hc hk=>⟨Cz.mF (gI hc) hk,?_⟩
           rw [p2 col n k hc hk,Nat.zero_add]) i' x' uM
         exact (gQ _ _ _ _ _ _).2 ⟨vs,q1,cY.go _ [i'] [i'] (fun q k hk=>⟨setRow_other w b k _ (Se q k hk.2),hk⟩) 0 vs x' q2⟩
end Go.TM
