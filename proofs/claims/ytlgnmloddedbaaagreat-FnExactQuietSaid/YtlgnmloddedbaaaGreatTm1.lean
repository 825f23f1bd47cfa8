/- A machine over trees: an evaluator of the code, and that what it finds is so; part 1. -/
import GoSem.Core.Value
import GoSem.Core.Code
import GoSem.Core.Program
import GoSem.Core.View
import Derived.Below
import Derived.Laws.AppendOwn
import Derived.Laws.Cells
import Derived.Laws.Rows
import Derived.Deep.MidRow
import Derived.Laws.CopyRow
set_option linter.unusedSimpArgs false
set_option linter.unusedVariables false
namespace Go.TM
open Go
mutual
inductive Ty where
 |int (k:IntKind)
 |bool
 |str
 |sl (r:RT)
inductive RT where
 |nil
 |cons (t:Ty) (r:RT)
end
mutual
def den:Ty→Type
 |.int _=>Int
 |.bool=>Bool
 |.str=>ByteArray
 |.sl r=>List (aA r)
def aA:RT→Type
 |.nil=>Unit
 |.cons t r=>den t×aA r
end
mutual
def Ty.eq?:(a b:Ty)→Option (PLift (a=b))
 |.int k,.int l=>if h:k=l then some ⟨by rw [h]⟩ else none
 |.bool,.bool=>some ⟨rfl⟩
 |.str,.str=>some ⟨rfl⟩
 |.sl r,.sl s=>match RT.eq? r s with | some ⟨h⟩=>some ⟨by rw [h]⟩ | none=>none
 |_,_=>none
def RT.eq?:(a b:RT)→Option (PLift (a=b))
 |.nil,.nil=>some ⟨rfl⟩
 |.cons t r,.cons u s=>match Ty.eq? t u,RT.eq? r s with
  |some ⟨h⟩,some ⟨g⟩=>some ⟨by rw [h,g]⟩
  |_,_=>none
 |_,_=>none
end
def bH {r:RT} (s:RT) (xs:List (aA r)):Option (List (aA s)):=
 match RT.eq? r s with
 |some ⟨h⟩=>some (h▸xs)
 |none=>none
def RT.dZ:RT→Bool
 |.nil=>false
 |.cons (.sl _) _=>true
 |.cons _ r=>r.dZ
def RT.width:RT→Nat
 |.nil=>0
 |.cons _ r=>r.width+1
inductive View where
 |full
 |from (lo:Nat)
 |sub (lo n:Nat)
def View.app {α:Type}:View→List α→List α
 |.full,xs=>xs
 |.from lo,xs=>xs.drop lo
 |.sub lo n,xs=>(xs.drop lo).take n
def View.lo:View→Nat
 |.full=>0
 |.from l=>l
 |.sub l _=>l
def View.idx (w:View) (i:Nat):Nat:=
 match w with
 |.full=>i
 |.from l=>l+i
 |.sub l _=>l+i
inductive CV where
 |bad
 |int (k:IntKind) (n:Int)
 |bool (b:Bool)
 |str (s:ByteArray)
 |dO
 |JI
 |shr (r:RT) (xs:List (aA r))
 |nn (r:RT) (xs:List (aA r))  -- as 'amK,and not nil
 |ref (a j g:Nat) (w:View)
 |ptr (b g off:Nat)
 |HU (a j g i off:Nat)
 |lL (r:RT) (x:aA r) (off:Nat)
 |ti (r:RT) (xs:List (aA r)) (off:Nat)  -- as 'amL,JA row alp JA first of a list
 |fn (g:Nat) (rs:RT) (xs:List (aA rs))    -- a function with boxes Mv ZJ read alone: each cell of JA row is one alq rows
 |JJ (a j g e i k:Nat) (q:RT) (ys:List (aA q))  -- JA same rows as amM a afO,to be read alone
 |pr (a j g e i k:Nat) (q:RT) (ys:List (aA q))  -- JA slice Mv a cell of a deep RM row holds
inductive Lb where
 |box (s:Nat)
 |sp (s j:Nat)
 |out
 |cf (i j:Nat)
 |sC (i:Nat)
 |ja (j:Nat)
def Lb.same:Lb→Lb→Bool
 |.box s,.box t=>Nat.beq s t
 |.sp s i,.sp t j=>Nat.beq s t&&Nat.beq i j
 |_,_=>false
inductive V where
 |one (c:CV)
 |agg (cs:List CV)
 |m9 (vs:List V)
def V.cells:V→List CV
 |.one c=>[c]
 |.agg cs=>cs
 |.m9 _=>[]
inductive Md where
 |sh | dp | ho (i:Nat) | lz
 deriving DecidableEq
def Md.is:Md→Md→Bool
 |.sh,.sh=>true
 |.dp,.dp=>true
 |.lz,.lz=>true
 |.ho i,.ho j=>Nat.beq i j
 |_,_=>false
theorem Md.je {a b:Md}:Md.is a b=true↔a=b:=by
 cases a<;>cases b<;>simp [Md.is]
def Md.Fc:Md→Bool
 |.ho _=>true
 |_=>false
structure gu where
 r:RT
 own:Bool
 xs:List (aA r)
 md:Md:=.sh
structure Sl where
 v:V
 box:Option (List CV)
 bg:Nat
 aO:List (Option gu)
 ag:Nat
 ep:Nat:=0  -- it aaA when an array of JA slot is written,or a call is made
def Sl.none:Sl:={ v:=.one .bad,box:=.none,bg:=0,aO:=[],ag:=0 }
abbrev St:=List Sl
def nth {α:Type}:List α→Nat→Option α
 | [],_=>none
 |x::_,0=>some x
 |_::l,n+1=>nth l n
def lX {α:Type} (f:α→α):List α→Nat→List α
 | [],_=>[]
 |x::l,0=>f x::l
 |x::l,n+1=>x::lX f l n
def bV (st:St) (t:Nat):V:=
 match nth st t with
 |some s=>s.v
 |none=>.one .bad
def ba (st:St) (d:Option Nat) (v:V):St:=
 match d with
 |some t=>lX (fun s=>{ s with v:=v }) st t
 |none=>st
def aX (st:St) (a j g:Nat):Option gu:=
 match nth st a with
 |some s=>bif Nat.beq s.ag g then (match nth s.aO j with | some (some A)=>some A | _=>none) else none
 |none=>none
def bl (st:St) (a j:Nat) (A:Option gu):St:=
 lX (fun s=>{ s with aO:=lX (fun _=>A) s.aO j,ep:=s.ep+1 }) st a
def j7 (st:St) (a:Nat):Nat:=match nth st a with | some s=>s.ep | none=>0
def cZ (st:St) (b g:Nat):Option (List CV):=
 match nth st b with
 |some s=>bif Nat.beq s.bg g then s.box else none
 |none=>none
inductive N where
 |done (st:St)
 |fail
 |br (b:Bool) (t e:N)
 |row (r:RT) (o:Option (aA r)) (k:aA r→N)
def N.val:N→Option St
 |.done st=>some st
 |.fail=>none
 |.br b t e=>bif b then t.val else e.val
 |.row _ o k=>match o with | some x=>(k x).val | none=>none
def N.fold {R:Type}:N→(St→Option R)→Option R
 |.done st,k=>k st
 |.fail,_=>none
 |.br b t e,k=>bif b then t.fold k else e.fold k
 |.row _ o f,k=>match o with | some x=>(f x).fold k | none=>none
theorem N.fold_eq {R:Type} (n:N) (k:St→Option R):n.fold k=n.val.bind k:=by
 induction n with
 |done st=>rfl
 |fail=>rfl
 |br b t e iht ihe=>cases b<;>simp [N.fold,N.val,iht,ihe]
 |row r o f ih=>cases o<;>simp [N.fold,N.val,ih]
def JK:(t:Ty)→den t
 |.int _=>(0:Int)
 |.bool=>false
 |.str=>ByteArray.empty
 |.sl _=>([]:List _)
def qo:(r:RT)→aA r
 |.nil=>()
 |.cons t r=>(JK t,qo r)
def JL:(t:Ty)→den t→CV
 |.int k,n=>.int k n
 |.bool,b=>.bool b
 |.str,s=>.str s
 |.sl r,xs=>.shr r xs
def dm:(r:RT)→aA r→List CV
 |.nil,_=>[]
 |.cons t r,x=>JL t x.1::dm r x.2
def afP (a j g e i k:Nat):(t:Ty)→den t→CV
 |.int k,n=>.int k n
 |.bool,b=>.bool b
 |.str,s=>.str s
 |.sl r,xs=>.pr a j g e i k r xs
def qB (a j g e i:Nat):(k:Nat)→(r:RT)→aA r→List CV
 |_,.nil,_=>[]
 |k,.cons t r,x=>afP a j g e i k t x.1::qB a j g e i (k+1) r x.2
def kR:(r:RT)→aA r→Nat→Option ((q:RT)×List (aA q))
 |.nil,_,_=>none
 |.cons (.sl q) _,x,0=>some ⟨q,x.1⟩
 |.cons _ _,_,0=>none
 |.cons _ r,x,k+1=>kR r x.2 k
def nb:(r:RT)→aA r→Nat→(q:RT)→List (aA q)→Option (aA r)
 |.nil,_,_,_,_=>none
 |.cons (.sl q) _,x,0,p,ys=>(bH q ys).map fun zs=>(zs,x.2)
 |.cons _ _,_,0,_,_=>none
 |.cons _ r,x,k+1,p,ys=>(nb r x.2 k p ys).map fun z=>(x.1,z)
def lZ (st:St) (r:RT) (c:CV) (k:List (aA r)→N):N:=
 match c with
 |.shr _ xs=>match bH r xs with | some ys=>k ys | none=>.fail
 |.nn _ xs=>match bH r xs with | some ys=>k ys | none=>.fail
 |.dO=>k []
 |.ref a j g w=>match aX st a j g with
  |some A=>(match A.md with | .sh=>(match bH r A.xs with | some ys=>k (w.app ys) | none=>.fail) | _=>.fail)
  |none=>.fail
 |_=>.fail
structure kG where
 cells:Nat→Option Nat          -- how many cells a value of JA type alr
 agg:Nat→Bool                  -- is it a struct
 off:Nat→Nat→Option Nat      -- a OT field: its first cell
 fsz:Nat→Nat→Option Nat      -- and how many it has
 row:Nat→Option RT             -- JA uD types
 elem:Nat→Option (RT×Nat)    -- a slice: its ZK cells,and JA bytes of one
 m9:Nat→Option (List Nat)     -- a afd types
 kind:Nat→Option Ty            -- a type of one cell
 one:Nat→Nat→Bool            -- a OT field Mv is no struct afR
 eq:Nat→Bool                   -- a struct of numbers,als and strings,aaC by '=='
 dp:Nat→Bool:=fun _=>false -- a slice Lv alu dZ ZJ its own,where amQ may be
 cap:Nat→Bool:=fun _=>false -- a TE box Mv is read alone
 lz:Nat→Option Nat→Bool:=fun _ _=>false -- a slice Lv ZL rows others may read
inductive OV where
 |int (k:IntKind) (n:Int)
 |bool (b:Bool)
 |str (s:ByteArray)
 |own (A:gu)
 |shr (r:RT) (xs:List (aA r))
 |dO
 |lL (r:RT) (xs:List (aA r))
 |fn (g:Nat) (rs:RT) (xs:List (aA rs))
inductive AV where
 |val (agg:Bool) (os:List OV)  -- a value: its OU ZJ JA aaD from now on
 |io (A:gu)                     -- an array,Fh: JA callee may write it
 |box (os:List OV)               -- a struct behind a pointer,Fh
 |bR (os:List OV)              -- a struct Lv OU ZJ Fh
inductive RV where
 |one (o:OV)
 |agg (os:List OV)
 |ptr (os:List OV)  -- a new struct,behind a pointer
inductive XV where
 |io (A:gu)
 |box (cs:List OV)
 |bR (As:List (Option gu))
structure Res where
 outs:List RV
 exts:List XV
structure Ans where
 r:RT
 o:Option (aA r)
 res:aA r→Res
abbrev wO:=List AV→Option Ans
inductive Pm where
 |shr | own | io | bR
 |pick (l:List Nat)  -- a struct behind a pointer,some of Lv OU ZJ read alone from then on
 |soft (l:List Nat)  -- a struct behind a pointer,aaE some of Lv aff rows hold others may read from then on
abbrev kO:=FuncId→Option (Pm×Pm×Pm×wO)   -- JA first three TF ways;alw jf ZJ shared
def bf (b g:Nat):(j:Nat)→List OV→List CV
 |_,[]=>[]
 |j,.int k n::l=>.int k n::bf b g (j+1) l
 |j,.bool x::l=>.bool x::bf b g (j+1) l
 |j,.str s::l=>.str s::bf b g (j+1) l
 |j,.own _::l=>.ref b j g .full::bf b g (j+1) l
 |j,.shr r xs::l=>.shr r xs::bf b g (j+1) l
 |j,.dO::l=>.dO::bf b g (j+1) l
 |j,.lL r xs::l=>.ti r xs 0::bf b g (j+1) l
 |j,.fn f rs xs::l=>.fn f rs xs::bf b g (j+1) l
def OV.arr:OV→Option gu
 |.own A=>some A
 |_=>none
def bu:List OV→List (Option gu)
 | []=>[]
 |o::l=>o.arr::bu l
def RV.wI:RV→List OV
 |.one o=>[o]
 |.agg os=>os
 |.ptr os=>.dO::os
def OW (d g j:Nat):RV→V
 |.one o=>match bf d g j [o] with | [c]=>.one c | _=>.one .bad
 |.agg os=>.agg (bf d g j os)
 |.ptr _=>.one .bad
def kH (d g:Nat):(j:Nat)→List RV→List V
 |_,[]=>[]
 |j,r::l=>OW d g j r::kH d g (j+r.wI.length) l
def wP (st:St) (d:Option Nat) (outs:List RV):Option St:=
 match d with
 |some d=>match nth st d with
  |some s=>
   let g:=s.ag+1
   match outs with
   | [.ptr os]=>some (lX (fun s=>{ s with v:=.one (.ptr d (s.bg+1) 0),box:=some (bf d (s.ag+1) 1 os),bg:=s.bg+1,aO:=none::bu os,ag:=s.ag+1 }) st d)
   |outs=>
    let v:V:=match kH d g 0 outs with | [v]=>v | vs=>.m9 vs
    some (lX (fun s=>{ s with v:=v,aO:=bu (outs.flatMap RV.wI),ag:=g }) st d)
  |none=>none
 |none=>match outs with
  | []=>some st
  |_=>none
def lY (st:St):Operand→V
 |.tmp t=>bV st t
 |.const (.int k n)=>.one (.int k n)
 |.const (.bool b)=>.one (.bool b)
 |.const (.string s)=>.one (.str s)
 |.const (.slice none 0 0)=>.one .dO
 |.const (.pointer none)=>.one .JI
 |_=>.one .bad
def OX (op:BinOp) (a b:Int):Option Bool:=
 match op with
 |.lss=>some (decide (a<b))
 |.leq=>some (decide (a≤b))
 |.gtr=>some (decide (b<a))
 |.geq=>some (decide (b≤a))
 |.eql=>some (decide (a=b))
 |.neq=>some (!decide (a=b))
 |_=>none
def Dt (op:BinOp) (k:IntKind) (a b:Int):Option Int:=
 match op with
 |.add=>some (k.wrap (a+b))
 |.sub=>some (k.wrap (a-b))
 |.mul=>some (k.wrap (a*b))
 |.and=>some (k.wrap ((BitVec.ofInt k.bits a &&& BitVec.ofInt k.bits b).toNat:Int))
 |.or=>some (k.wrap ((BitVec.ofInt k.bits a ||| BitVec.ofInt k.bits b).toNat:Int))
 |.xor=>some (k.wrap ((BitVec.ofInt k.bits a ^^^ BitVec.ofInt k.bits b).toNat:Int))
 |_=>none
def OY (op:BinOp) (k:IntKind) (a b:Int):Option Int:=
 match op with
 |.quo=>some (k.wrap (a.tdiv b))
 |.rem=>some (a.tmod b)
 |_=>none
def Du (op:BinOp) (k:IntKind) (a:Int) (n:Nat):Option Int:=
 match op with
 |.shl=>some (k.wrap (a*2 ^ (min n k.bits)))
 |.shr=>some (a.fdiv (2 ^ (min n k.bits)))
 |_=>none
def pt (a b:ByteArray):Bool:=a.toList==b.toList
def uE:CV→CV→Option Bool
 |.int k a,.int l b=>if k=l then some (decide (a=b)) else none
 |.bool a,.bool b=>some (a==b)
 |.str a,.str b=>some (pt a b)
 |_,_=>none
def nc:List CV→List CV→Option Bool
 | [],[]=>some true
 |a::l,b::m=>match uE a b,nc l m with
  |some x,some y=>some (x&&y)
  |_,_=>none
 |_,_=>none
def GW (s:ByteArray) (i:Int):Int:=match s[i.toNat]? with | some b=>(b.toNat:Int) | none=>0
def fJ:(r:RT)→aA r→Nat→CV→Option (aA r)
 |.cons (.int k) _,x,0,.int l n=>if k=l then some (n,x.2) else none
 |.cons .bool _,x,0,.bool b=>some (b,x.2)
 |.cons .str _,x,0,.str s=>some (s,x.2)
 |.cons _ r,x,n+1,c=>(fJ r x.2 n c).map fun z=>(x.1,z)
 |_,_,_,_=>none
def rowOf (st:St):(r:RT)→List CV→(k:aA r→List (Nat×Nat)→N)→N
 |.nil,[],k=>k () []
 |.cons (.int q) r,.int l n::cs,k=>if q=l then rowOf st r cs (fun x m=>k (n,x) m) else .fail
 |.cons .bool r,.bool b::cs,k=>rowOf st r cs (fun x m=>k (b,x) m)
 |.cons .str r,.str s::cs,k=>rowOf st r cs (fun x m=>k (s,x) m)
 |.cons (.sl q) r,c::cs,k=>
  match c with
  |.dO=>rowOf st r cs (fun x m=>k (([]:List _),x) m)
  |.ref a j g w=>match aX st a j g with
   |some A=>(match A.md with
    |.ho _=>.fail
    |_=>(match bH q A.xs with
     |some ys=>rowOf st r cs (fun x m=>k (w.app ys,x) ((a,j)::m))
     |none=>.fail))
   |none=>.fail
  |.shr _ ys=>match bH q ys with
   |some zs=>rowOf st r cs (fun x m=>k (zs,x) m)
   |none=>.fail
  |_=>.fail
 |_,_,_=>.fail
def Md.fz:Md→Md
 |.dp=>.sh
 |.lz=>.sh
 |m=>m
def gu.fz (A:gu):gu:={ A with own:=false,md:=A.md.fz }
def freeze (st:St):List (Nat×Nat)→St
 | []=>st
 |(a,j)::l=>freeze (lX (fun s=>{ s with aO:=lX (fun A=>A.map gu.fz) s.aO j,ep:=s.ep+1 }) st a) l
def cT (st:St):(r:RT)→List CV→Option (aA r×List (Option (Nat×Nat)))
 |.nil,[]=>some ((),[])
 |.cons (.int q) r,.int l n::cs=>if q=l then (match cT st r cs with | some p=>some ((n,p.1),none::p.2) | none=>none) else none
 |.cons .bool r,.bool b::cs=>match cT st r cs with | some p=>some ((b,p.1),none::p.2) | none=>none
 |.cons .str r,.str s::cs=>match cT st r cs with | some p=>some ((s,p.1),none::p.2) | none=>none
 |.cons (.sl q) r,c::cs=>
  match c with
  |.dO=>match cT st r cs with | some p=>some ((([]:List _),p.1),none::p.2) | none=>none
  |.ref a j g .full=>match aX st a j g with
   |some A=>bif A.own&&A.md.is (bif q.dZ then .dp else .sh) then (match bH q A.xs with
    |some ys=>(match cT st r cs with | some p=>some ((ys,p.1),some (a,j)::p.2) | none=>none)
    |none=>none) else none
   |none=>none
  |_=>none
 |_,_=>none
def bn:List (Option (Nat×Nat))→List (Nat×Nat)
 | []=>[]
 |some p::l=>p::bn l
 |none::l=>bn l
def ec (st:St):List (Nat×Nat)→St
 | []=>st
 |(a,j)::l=>ec (bl st a j none) l
def distinct:List (Nat×Nat)→Bool
 | []=>true
 |(a,j)::l=>l.all (fun p => !(Nat.beq p.1 a&&Nat.beq p.2 j))&&distinct l
def lim:Nat:=35184372088832
def rf:RT→List CV→Bool
 |.nil,[]=>true
 |.cons (.int k) r,.int l _::cs=>decide (k=l)&&rf r cs
 |.cons .bool r,.bool _::cs=>rf r cs
 |.cons .str r,.str _::cs=>rf r cs
 |_,_=>false
def kG.fits (T:kG) (t:Nat) (l:List CV):Bool:=match T.row t with | some r=>rf r l | none=>false
def wy (T:kG) (st:St) (d:Option Nat) (op:BinOp) (t:Nat) (x y:V):N:=
 match x,y with
 |.one (.int k a),.one (.int l b)=>
  match op with
  |.shl | .shr=>match Du op k a b.toNat with
   |some n=>.br (decide (0≤b)) (.done (ba st d (.one (.int k n)))) .fail
   |none=>.fail
  |_=>if k=l then (match OX op a b with
   |some t=>.done (ba st d (.one (.bool t)))
   |none=>match Dt op k a b with
    |some n=>.done (ba st d (.one (.int k n)))
    |none=>match OY op k a b with
     |some n=>.br (decide (b=0)) .fail (.done (ba st d (.one (.int k n))))
     |none=>.fail) else .fail
 |.one (.str a),.one (.str b)=>
  match op with
  |.add=>.br (Nat.ble (a.size+b.size) lim) (.done (ba st d (.one (.str (a++b))))) .fail
  |.eql=>.done (ba st d (.one (.bool (pt a b))))
  |.neq=>.done (ba st d (.one (.bool (!pt a b))))
  |_=>.fail
 |.one (.bool a),.one (.bool b)=>
  match op,T.kind t with
  |.eql,some .bool=>.done (ba st d (.one (.bool (a==b))))
  |.neq,some .bool=>.done (ba st d (.one (.bool (!(a==b)))))
  |_,_=>.fail
 |.one .dO,.one .dO=>
  match op,T.elem t with
  |.eql,some _=>.done (ba st d (.one (.bool true)))
  |.neq,some _=>.done (ba st d (.one (.bool false)))
  |_,_=>.fail
 |.one (.nn _ _),.one .dO=>
  match op,T.elem t with
  |.eql,some _=>.done (ba st d (.one (.bool false)))
  |.neq,some _=>.done (ba st d (.one (.bool true)))
  |_,_=>.fail
 |.agg l,.agg m=>
  bif T.eq t&&T.fits t l then (match op,nc l m with
  |.eql,some t=>.done (ba st d (.one (.bool t)))
  |.neq,some t=>.done (ba st d (.one (.bool (!t))))
  |_,_=>.fail) else .fail
 |_,_=>.fail
def CV.tP:CV→Bool
 |.bad=>false
 |_=>true
def V.tP:V→Bool
 |.one c=>c.tP
 |.agg cs=>cs.all CV.tP
 |.m9 _=>false
def aU (st:St) (d:Option Nat) (A:gu):N:=
 match d with
 |some d=>match nth st d with
  |some s0=>.done (lX (fun s=>{ s with v:=.one (.ref d 0 (s0.ag+1) .full),aO:=[some A],ag:=s0.ag+1 }) st d)
  |none=>.fail
 |none=>.fail
def iM (st:St) (d:Option Nat) (cs:List CV):N:=
 match d with
 |some d=>match nth st d with
  |some s0=>.done (lX (fun s=>{ s with v:=.one (.ptr d (s0.bg+1) 0),box:=some cs,bg:=s0.bg+1 }) st d)
  |none=>.fail
 |none=>.fail
def n9 (r:RT):List CV:=(dm r (qo r)).map fun | .shr _ _=>.dO | c=>c
def dN (n off:Nat) (cs:List CV):Option (List CV):=
 let l:=(cs.drop off).take n
 bif Nat.beq l.length n then some l else none
def putCells (cs:List CV) (off:Nat) (l:List CV):Option (List CV):=
 bif Nat.ble (off+l.length) cs.length then some (cs.take off++l++cs.drop (off+l.length)) else none
def Mw (T:kG) (t:Nat) (l:List CV):V:=bif T.agg t then .agg l else (match l with | [c]=>.one c | _=>.one .bad)
def wg (T:kG) (st:St) (d:Option Nat) (t:Nat) (a:V):N:=
 match a,T.cells t with
 |.one (.ptr b g off),some n=>match cZ st b g with
  |some cs=>match dN n off cs with
   |some l=>.done (ba st d (Mw T t l))
   |none=>.fail
  |none=>.fail
 |.one (.lL r x off),some n=>match dN n off (dm r x) with
  |some l=>.done (ba st d (Mw T t l))
  |none=>.fail
 |.one (.ti r xs off),some n=>.row r xs[0]? fun x=>match dN n off (dm r x) with
  |some l=>.done (ba st d (Mw T t l))
  |none=>.fail
 |.one (.HU a j g i off),some n=>match aX st a j g with
  |some A=>(match A.md with
   |.sh=>.row A.r A.xs[i]? fun x=>match dN n off (dm A.r x) with
    |some l=>.done (ba st d (Mw T t l))
    |none=>.fail
   |.lz=>.row A.r A.xs[i]? fun x=>match dN n off (dm A.r x) with
    |some l=>.done (ba st d (Mw T t l))
    |none=>.fail
   |.dp=>.row A.r A.xs[i]? fun x=>match dN n off (qB a j g (j7 st a) i 0 A.r x) with
    |some l=>.done (ba st d (Mw T t l))
    |none=>.fail
   |.ho _=>.fail)
  |none=>.fail
 |_,_=>.fail
def jY (r:RT) (x:aA r):(off:Nat)→List CV→Option (aA r)
 |_,[]=>some x
 |off,c::l=>match jY r x (off+1) l with
  |some y=>fJ r y off c
  |none=>none
def gu.put (A:gu) (ys:List (aA A.r)):gu:={ A with xs:=ys }
def tj (T:kG) (st:St) (t:Nat) (a v:V):N:=
 match a,T.cells t with
 |.one (.ptr b g off),some n=>match cZ st b g with
  |some cs=>bif v.tP&&Nat.beq v.cells.length n then (match putCells cs off v.cells with
   |some l=>.done (lX (fun s=>{ s with box:=some l }) st b)
   |none=>.fail) else .fail
  |none=>.fail
 |.one (.HU a j g i off),some n=>match aX st a j g with
  |some A=>bif v.tP&&A.own&&Nat.beq v.cells.length n&&Nat.blt 0 n then
    (bif Nat.beq n A.r.width&&A.r.dZ&&Nat.beq off 0 then
     (match A.md with
     |.sh=>rowOf st A.r v.cells fun x m=>bif m.all (fun p => !(Nat.beq p.1 a&&Nat.beq p.2 j)) then
      .row A.r A.xs[i]? (fun _=>.done (bl (freeze st m) a j (some (A.put (A.xs.set i x))))) else .fail
     |.dp=>(match cT st A.r v.cells with
      |some p=>bif distinct (bn p.2)&&(bn p.2).all (fun p => !(Nat.beq p.1 a&&Nat.beq p.2 j)) then
       .row A.r A.xs[i]? (fun _=>.done (bl (ec st (bn p.2)) a j (some (A.put (A.xs.set i p.1))))) else .fail
      |none=>.fail)
     |.lz=>(match cT st A.r v.cells with
      |some p=>bif distinct (bn p.2)&&(bn p.2).all (fun p => !(Nat.beq p.1 a&&Nat.beq p.2 j)) then
       .row A.r A.xs[i]? (fun _=>.done (bl (freeze st (bn p.2)) a j (some (A.put (A.xs.set i p.1))))) else .fail
      |none=>.fail)
     |.ho q=>(match cT st A.r v.cells with
      |some p=>bif distinct (bn p.2)&&(bn p.2).all (fun p => !(Nat.beq p.1 a&&Nat.beq p.2 j)) then
       .br (Nat.beq i q) (.row A.r A.xs[i]? (fun _=>.done (bl (ec st (bn p.2)) a j (some { A.put (A.xs.set i p.1) with md:=.dp })))) .fail else .fail
      |none=>.fail))
    else bif A.md.Fc then .fail else .row A.r A.xs[i]? fun x=>match jY A.r x off v.cells with
     |some y=>.done (bl st a j (some (A.put (A.xs.set i y))))
     |none=>.fail) else .fail
  |none=>.fail
 |_,_=>.fail
def pO (T:kG) (st:St) (d:Option Nat) (t:Nat) (x ix:V):N:=
 match T.elem t,x,ix with
 |some (q,_),.one (.shr r xs),.one (.int _ i)=>match bH q xs with
  |some ys=>.br (decide (0≤i)) (.row q ys[i.toNat]? fun y=>.done (ba st d (.one (.lL q y 0)))) .fail
  |none=>.fail
 |some (q,_),.one (.ref a j g w),.one (.int _ i)=>match aX st a j g with
  |some A=>match bH q A.xs with
   |some ys=>(match A.own with
    |false=>bif !A.md.is .sh then .fail else .br (decide (0≤i)) (.row q (w.app ys)[i.toNat]? fun y=>.done (ba st d (.one (.lL q y 0)))) .fail
    |true=>.br (decide (0≤i)) (.br (Nat.blt i.toNat (w.app ys).length) (.done (ba st d (.one (.HU a j g (w.idx i.toNat) 0)))) .fail) .fail)
   |none=>.fail
  |none=>.fail
 |_,_,_=>.fail
def oa (n:Nat) (lo hi:Option V) (k:Option Nat→Option Nat→N):N:=
 let JM (l:Option Nat):N:=match hi with
  |none=>k l none
  |some (.one (.int _ h))=>.br (decide ((match l with | some l=>(l:Int) | none=>0)≤h)) (.br (decide (h≤n)) (k l (some h.toNat)) .fail) .fail
  |_=>.fail
 match lo with
 |none=>JM none
 |some (.one (.int _ l))=>.br (decide (0≤l)) (match hi with
  |none=>.br (decide (l≤n)) (JM (some l.toNat)) .fail
  |_=>JM (some l.toNat)) .fail
 |_=>.fail
def JN (n:Nat):Option Nat→Option Nat→View
 |none,none=>.full
 |some l,none=>.from l
 |none,some h=>.sub 0 h
 |some l,some h=>.sub l (h-l)
def View.of (w:View) (n:Nat) (lo hi:Option Nat):View:=
 match lo,hi with
 |none,none=>w
 |some l,none=>(match w with | .full=>.from l | .from a=>.from (a+l) | .sub a m=>.sub (a+l) (m-l))
 |none,some h=>.sub w.lo h
 |some l,some h=>.sub (w.lo+l) (h-l)
def uF (T:kG) (st:St) (d:Option Nat) (t:Nat) (x:V) (lo hi:Option V):N:=
 match x with
 |.one (.str s)=>match T.kind t with
  |some .str=>oa s.size lo hi fun l h=>
   .done (ba st d (.one (.str (s.extract (l.getD 0) (h.getD s.size)))))
  |_=>.fail
 |.one .dO=>match T.elem t with
  |some _=>oa 0 lo hi fun _ _=>.done (ba st d (.one .dO))
  |none=>.fail
 |.one (.shr r xs)=>match T.elem t with
  |some (q,_)=>match bH q xs with
   |some ys=>oa ys.length lo hi fun l h=>.done (ba st d (.one (.shr q ((JN ys.length l h).app ys))))
   |none=>.fail
  |none=>.fail
 |.one (.ref a j g w)=>match T.elem t,aX st a j g with
  |some (q,_),some A=>match bH q A.xs with
   |some ys=>oa (w.app ys).length lo hi fun l h=>.done (ba st d (.one (.ref a j g (w.of (w.app ys).length l h))))
   |none=>.fail
  |_,_=>.fail
 |_=>.fail
def GX (T:kG) (st:St) (d:Option Nat) (t:Nat) (x:V):N:=
 match x with
 |.one (.str s)=>match T.kind t with
  |some .str=>.done (ba st d (.one (.int .i64 s.size)))
  |_=>.fail
 |.one .dO=>match T.elem t with
  |some _=>.done (ba st d (.one (.int .i64 0)))
  |none=>.fail
 |.one (.shr _ xs)=>match T.elem t with
  |some _=>.done (ba st d (.one (.int .i64 xs.length)))
  |none=>.fail
 |.one (.ref a j g w)=>match T.elem t,aX st a j g with
  |some _,some A=>.done (ba st d (.one (.int .i64 (w.app A.xs).length)))
  |_,_=>.fail
 |_=>.fail
def Mx (st:St):V→Option (Nat×Nat×gu)
 |.one (.ref a j g .full)=>match aX st a j g with
  |some A=>bif A.own&&A.md.is .dp then some (a,j,A) else none
  |none=>none
 |_=>none
def UE (st:St):V→Option (Nat×Nat×gu)
 |.one (.ref a j g .full)=>match aX st a j g with
  |some A=>bif A.own&&A.md.is .lz then some (a,j,A) else none
  |none=>none
 |_=>none
def Dv (st:St) (d:Option Nat) (r:RT) (bytes:Nat) (x y:V) (b k:Nat) (ys:List (aA r)):N:=
 match x with
 |.one .dO=>.br (Nat.ble ((([]:List (aA r)).length+ys.length)*bytes) lim) (aU (ec st [(b,k)]) d { r:=r,own:=true,xs:=[]++ys,md:=.dp }) .fail
 |.one (.ref a j g w)=>match Mx st (.one (.ref a j g w)) with
  |some (_,_,A)=>(match bH r A.xs with
   |some xs=>bif !(Nat.beq a b&&Nat.beq j k) then .br (Nat.ble ((xs.length+ys.length)*bytes) lim) (aU (ec st [(a,j),(b,k)]) d { r:=r,own:=true,xs:=xs++ys,md:=.dp }) .fail else .fail
   |none=>.fail)
  |none=>match UE st (.one (.ref a j g w)),Mx st y with
   |some (_,_,A),some (_,_,B)=>(match bH r A.xs with
    |some xs=>bif !(Nat.beq a b&&Nat.beq j k) then .br (Nat.ble ((xs.length+ys.length)*bytes) lim) (aU (ec (bl st b k (some { B with md:=.lz })) [(a,j),(b,k)]) d { r:=r,own:=true,xs:=xs++ys,md:=.lz }) .fail else .fail
    |none=>.fail)
   |_,_=>.fail
 |_=>.fail
def Dg (T:kG) (st:St) (d:Option Nat) (t:Nat) (x y:V):N:=
 match T.elem t with
 |none=>.fail
 |some (r,bytes)=>
  match Mx st y with
  |some (b,k,B)=>(match bH r B.xs with | some ys=>Dv st d r bytes x y b k ys | none=>.fail)
  |none=>
  let out (xs:List (aA r)) (used:List (Nat×Nat)):N:=
   match y with
   |.one c=>lZ st r c fun ys=>
     .br (Nat.ble ((xs.length+ys.length)*bytes) lim)
      (aU (used.foldl (fun s p=>bl s p.1 p.2 none) st) d { r:=r,own:=true,xs:=xs++ys }) .fail
   |_=>.fail
  match x with
  |.one .dO=>out [] []
  |.one (.ref a j g w)=>match aX st a j g with
   |some A=>bif A.own&&(A.md.is .sh||(A.md.is .dp&&A.xs.isEmpty)) then (match bH r A.xs with | some xs=>out (w.app xs) [(a,j)] | none=>.fail) else .fail
   |none=>.fail
  |_=>.fail
def JO (T:kG) (st:St) (t:Nat) (x:V):N:=
 match T.elem t with
 |none=>.fail
 |some (r,_)=>
  match x with
  |.one .dO=>.done st
  |.one (.ref a j g (.from k))=>match aX st a j g with
   |some A=>bif A.own&&(A.md.is .sh && !A.r.dZ) then (match bH r A.xs with
    |some _=>.br (Nat.blt 0 (A.xs.length-k)) (.done (bl st a j (some (A.put (A.xs.take k++List.replicate (A.xs.length-k) (qo A.r)))))) (.done st)
    |none=>.fail) else .fail
   |none=>.fail
  |_=>.fail
def OZ (T:kG) (st:St) (d:Option Nat) (t:Nat) (len cap:V):N:=
 match T.elem t,len,cap with
 |some (r,bytes),.one (.int .i64 n),.one (.int .i64 c)=>
  .br (decide (n=c)) (.br (decide (0≤n)) (.br (Nat.ble (n.toNat*bytes) lim)
   (aU st d { r:=r,own:=true,xs:=List.replicate n.toNat (qo r),md:=bif T.dp t then .dp else .sh }) .fail) .fail) .fail
 |_,_,_=>.fail
def xS (st:St) (r:RT):(i:Nat)→List (Nat×V)→(k:List (aA r)→List (Nat×Nat)→N)→N
 |_,[],k=>k [] []
 |i,(p,v)::l,k=>bif v.tP&&Nat.beq p i then rowOf st r v.cells fun x m=>xS st r (i+1) l fun xs m'=>k (x::xs) (m++m') else .fail
def GY (st:St) (r:RT):List (Nat×V)→Option (List (aA r)×List (Option (Nat×Nat)))
 | []=>some ([],[])
 | [(p,v)]=>bif v.tP&&Nat.beq p 0 then (match cT st r v.cells with | some q=>some ([q.1],q.2) | none=>none) else none
 |_=>none
def wQ (a j g:Nat):List CV→Nat→Option Nat
 | [],_=>none
 |.ref b i k .full::l,n=>bif Nat.beq a b&&(Nat.beq j i&&Nat.beq g k) then some n else wQ a j g l (n+1)
 |_::l,n=>wQ a j g l (n+1)
def aaF (GZ:List CV) (r:RT) (x:aA r) (d g e:Nat):CV→CV
 |.ref a j h .full=>match wQ a j h GZ 0 with
  |some k=>(match kR r x k with
   |some y=>.JJ d 0 g e 0 k y.1 y.2
   |none=>.ref a j h .full)
  |none=>.ref a j h .full
 |c=>c
def C7 (f:CV→CV) (st:St):St:=st.map fun s=>{ s with box:=s.box.map (List.map f) }
def aaG (st:St) (s:Nat):Nat:=match nth st s with | some x=>x.ag | none=>0
def O0 (r:RT) (parts:List (Nat×V)) (xs:List (aA r)) (d:Option Nat):N→N
 |.done st=>match d,parts,xs with
  |some d,[p],[x]=>.done (C7 (aaF p.2.cells r x d (aaG st d) (j7 st d)) st)
  |_,_,_=>.done st
 |n=>n
def wR (T:kG) (st:St) (d:Option Nat) (t len:Nat) (parts:List (Nat×V)):N:=
 match T.elem t with
 |some (r,_)=>bif Nat.beq parts.length len&&Nat.ble (len*r.width) 16777216 then
   (match (bif T.dp t then GY st r parts else none) with
   |some p=>bif distinct (bn p.2) then bif T.lz t d then aU (freeze st (bn p.2)) d { r:=r,own:=true,xs:=p.1,md:=.lz } else O0 r parts p.1 d (aU (ec st (bn p.2)) d { r:=r,own:=true,xs:=p.1,md:=.dp }) else .fail
   |none=>xS st r 0 parts fun xs m=>aU (freeze st m) d { r:=r,own:=true,xs:=xs })
  else .fail
 |none=>.fail
def ob (T:kG) (t:Nat) (cs:List CV):List (Nat×V)→Option (List CV)
 | []=>some cs
 |(f,v)::l=>match T.off t f,T.fsz t f with
  |some o,some s=>bif v.tP&&Nat.beq v.cells.length s then (match putCells cs o v.cells with
   |some lM=>ob T t lM l
   |none=>none) else none
  |_,_=>none
def View.isFull:View→Bool
 |.full=>true
 |_=>false
def n4 (st:St) (s:Nat):Nat:=match nth st s with | some x=>x.ag | none=>0
def eF (st:St) (own:Bool):CV→Option (OV×Option Lb×List (Nat×Nat))
 |.int q n=>some (.int q n,none,[])
 |.bool b=>some (.bool b,none,[])
 |.str s=>some (.str s,none,[])
 |.dO=>some (.dO,none,[])
 |.shr r xs=>some (.shr r xs,none,[])
 |.nn r xs=>some (.shr r xs,none,[])
 |.ref a j g w=>match aX st a j g with
  |some A=>bif A.md.Fc then none else bif own&&A.own&&(A.md.is .sh||(A.md.is .lz||w.isFull)) then some (.own { A with xs:=w.app A.xs },some (.sp a j),[]) else some (.shr A.r (w.app A.xs),none,[(a,j)])
  |none=>none
 |.JJ a j g e _ _ q ys=>match aX st a j g with
  |some A=>bif A.md.is .dp&&Nat.beq e (j7 st a) then some (.shr q ys,none,[(a,j)]) else none
  |none=>none
 |.pr a j g e _ _ q ys=>match aX st a j g with
  |some A=>bif A.md.is .dp&&Nat.beq e (j7 st a) then some (.shr q ys,none,[(a,j)]) else none
  |none=>none
 |.lL r x off=>bif Nat.beq off 0 then some (.lL r [x],none,[]) else none
 |.ti r xs off=>bif Nat.beq off 0 then some (.lL r xs,none,[]) else none
 |.fn f rs xs=>some (.fn f rs xs,none,[])
 |_=>none
def eG (st:St) (own:Bool):List CV→Option (List OV×List (Option Lb)×List (Nat×Nat))
 | []=>some ([],[],[])
 |c::l=>match eF st own c,eG st own l with
  |some (o,u,r),some (os,us,rs)=>some (o::os,u::us,r++rs)
  |_,_=>none
def cg:List (Option Lb)→List Lb
 | []=>[]
 |some l::ls=>l::cg ls
 |none::ls=>cg ls
def Pm.nd:Pm→Bool
 |.own=>true
 |_=>false
def O1 (st:St):CV→Bool
 |.ref a j g w=>(match w with | .full=>true | _=>false)&&(match aX st a j g with | some A=>A.own | none=>false)
 |_=>true
def eg (st:St) (m:Pm):V→Option (AV×List Lb×List Lb×List (Nat×Nat))
 |.one (.ptr b g off)=>match cZ st b g with
  |some cs=>(match eG st true cs with
   |some (os,u,r)=>bif Nat.beq off 0 then some (.box os,.box b::cg u,cg u,r) else none
   |none=>none)
  |none=>none
 |.one (.ref a j g w)=>match m with
  |.io=>(match w,aX st a j g with
   |.full,some A=>bif A.own && !A.md.Fc then some (.io A,[.sp a j],[],[]) else none
   |_,_=>none)
  |m=>match eG st m.nd [.ref a j g w] with
   |some (os,u,r)=>some (.val false os,cg u,cg u,r)
   |none=>none
 |.one c=>match eG st false [c] with
  |some (os,u,r)=>some (.val false os,cg u,cg u,r)
  |none=>none
 |.agg cs=>match m with
  |.bR=>(match eG st true cs with
   |some (os,u,r)=>bif cs.all (O1 st) then some (.bR os,cg u,[],r) else none
   |none=>none)
  |m=>match eG st m.nd cs with
   |some (os,u,r)=>some (.val true os,cg u,cg u,r)
   |none=>none
 |.m9 _=>none
def iN (st:St):List (Pm×V)→Option (List AV×List Lb×List Lb×List (Nat×Nat))
 | []=>some ([],[],[],[])
 |(m,v)::l=>match eg st m v,iN st l with
  |some (a,u,q,r),some (as,us,qs,rs)=>some (a::as,u++us,q++qs,r++rs)
  |_,_=>none
def uG:List Lb→Bool
 | []=>true
 |x::l=>l.all (fun y => !(Lb.same x y))&&uG l
def apart (used:List Lb) (reads:List (Nat×Nat)):Bool:=
 reads.all fun p=>used.all fun q => !(Lb.same q (.sp p.1 p.2))
def oQ (st:St):List Lb→St
 | []=>st
 |.sp a j::l=>oQ (bl st a j none) l
 |_::l=>oQ st l
def OV.plain:OV→Bool
 |.own A => !A.r.dZ||(A.md.is .dp||A.md.is .lz)
 |.shr _ _=>false
 |.lL _ _=>false
 |.fn _ _ _=>false
 |_=>true
def XV.plain:XV→Bool
 |.io A => !A.r.dZ||(A.md.is .dp||A.md.is .lz)
 |.box os=>os.all OV.plain
 |.bR As=>As.all fun | some A => !A.r.dZ||(A.md.is .dp||A.md.is .lz) | none=>true
def Res.plain (r:Res):Bool:=
 r.outs.all (fun o=>o.wI.all OV.plain)&&r.exts.all XV.plain
def Dw (st:St):(j:Nat)→List CV→List (Option gu)→Option St
 |_,[],_=>some st
 |j,.ref a k g _::cs,As=>match nth As j,aX st a k g with
  |some (some B),some _=>Dw (bl st a k (some B)) (j+1) cs As
  |_,_=>none
 |j,_::cs,As=>Dw st (j+1) cs As
def qp (st:St) (m:Pm) (v:V) (xs:List XV):Option (St×List XV):=
 match v with
 |.one (.ptr b g _)=>match xs with
  |.box os::xs=>(match nth st b,cZ st b g with
   |some s0,some _=>some (lX (fun s=>{ s with box:=some (bf b (s0.ag+1) 0 os),aO:=bu os,ag:=s0.ag+1 }) st b,xs)
   |_,_=>none)
  |_=>none
 |.one (.ref a j g _)=>match m with
  |.io=>(match xs,aX st a j g with
   |.io A::xs,some _=>some (bl st a j (some A),xs)
   |_,_=>none)
  |_=>some (st,xs)
 |.agg cs=>match m with
  |.bR=>(match xs with
   |.bR As::xs=>(Dw st 0 cs As).map fun aZ=>(aZ,xs)
   |_=>none)
  |_=>some (st,xs)
 |_=>some (st,xs)
def uH (st:St):List (Pm×V)→List XV→Option St
 | [],[]=>some st
 | [],_=>none
 |(m,v)::l,xs=>match qp st m v xs with
  |some (aZ,xs')=>uH aZ l xs'
  |none=>none
def wh (a b c:Pm):List V→List (Pm×V)
 | []=>[]
 | [x]=>[(a,x)]
 | [x,y]=>[(a,x),(b,y)]
 |x::y::z::l=>(a,x)::(b,y)::(c,z)::l.map fun v=>(.shr,v)
def refsOf:List CV→List (Nat×Nat)
 | []=>[]
 |.ref a j _ _::l=>(a,j)::refsOf l
 |_::l=>refsOf l
def Dx (st:St):List (Pm×V)→List (Nat×Nat)
 | []=>[]
 |(.own,.one (.ptr b g _))::l=>(match cZ st b g with | some cs=>refsOf cs | none=>[])++Dx st l
 |(.pick q,.one (.ptr b g _))::l=>(match cZ st b g with | some cs=>refsOf (q.filterMap (nth cs)) | none=>[])++Dx st l
 |_::l=>Dx st l
def nf (u:List Lb) (a:Nat):Bool:=u.any fun | .sp b _=>Nat.beq b a | _=>false
def qt (u:List Lb):Nat→St→St
 |_,[]=>[]
 |a,s::l=>(bif nf u a then { s with ep:=s.ep+1 } else s)::qt u (a+1) l
def HV (st:St) (d:Option Nat) (Cp:wO) (ms:List (Pm×V)) (fin:St→N):N:=
  match iN st ms with
  |some (dX,used,aaI,reads)=>bif uG used&&apart used reads then (match Cp dX with
   |some A=>.row A.r A.o fun x=>(match uH (oQ (qt used 0 (bif (A.res x).plain then st else freeze st reads)) aaI) ms (A.res x).exts with
    |some aZ=>(match wP aZ d (A.res x).outs with
     |some UF=>fin UF
     |none=>.fail)
    |none=>.fail)
   |none=>.fail) else .fail
  |none=>.fail
structure Dr where
 a:Nat
 j:Nat
 g:Nat
 e:Nat
 i:Nat
 k:Nat
 q:RT
 ys:List (aA q)
def yU:List CV→List Dr
 | []=>[]
 |.pr a j g e i k q ys::l=>⟨a,j,g,e,i,k,q,ys⟩::yU l
 |_::l=>yU l
def rh:List (Pm×V)→List Dr
 | []=>[]
 |(.io,.one c)::l=>yU [c]++rh l
 |(.bR,.agg cs)::l=>yU cs++rh l
 |_::l=>rh l
def G0:List Nat→Bool
 | []=>true
 | [_]=>true
 |a::b::l=>Nat.blt a b&&G0 (b::l)
def Dr.arr (x:Dr):gu:={ r:=x.q,own:=true,xs:=x.ys,md:=bif x.q.dZ then .dp else .sh }
def mo (st:St) (ms:List (Pm×V)):Option (Dr×gu×List Dr):=
 match rh ms with
 | []=>none
 |x::l=>match aX st x.a x.j x.g with
  |some A=>bif A.own&&A.md.is .dp&&Nat.beq x.e (j7 st x.a)&&l.all (fun y=>Nat.beq y.a x.a&&Nat.beq y.j x.j&&Nat.beq y.g x.g&&Nat.beq y.e x.e&&Nat.beq y.i x.i) &&
    G0 ((x::l).map (·.k)) && !Nat.beq x.a (st.length-1) then some (x,A,x::l) else none
  |none=>none
def posOf (k:Nat):(n:Nat)→List Dr→Nat
 |n,[]=>n
 |n,x::l=>bif Nat.beq x.k k then n else posOf k (n+1) l
def UG (P g:Nat) (l:List Dr):CV→CV
 |.pr _ _ _ _ _ k _ _=>.ref P (posOf k 0 l) g .full
 |c=>c
def RN (P g:Nat) (l:List Dr):Pm×V→Pm×V
 |(.io,.one c)=>(.io,.one (UG P g l c))
 |(.bR,.agg cs)=>(.bR,.agg (cs.map (UG P g l)))
 |x=>x
def ev (st:St) (x:Dr) (A:gu) (l:List Dr):St:=
 lX (fun s=>{ s with aO:=l.map (fun y=>some y.arr),ag:=s.ag+1,ep:=s.ep+1 }) (bl st x.a x.j (some { A with md:=.ho x.i })) (st.length-1)
def uI (st:St) (P g:Nat) (r:RT):(n:Nat)→List Dr→aA r→Option (aA r)
 |_,[],z=>some z
 |n,y::l,z=>match aX st P n g with
  |some B=>bif B.own&&B.md.is (bif y.q.dZ then .dp else .sh) then (match bH y.q B.xs with
   |some ys=>(match nb r z y.k y.q ys with
    |some z'=>uI st P g r (n+1) l z'
    |none=>none)
   |none=>none) else none
  |none=>none
def JP (P g:Nat) (x:Dr) (A:gu) (l:List Dr) (st:St):N:=
 match aX st x.a x.j x.g with
 |some H=>bif H.md.Fc then (.row A.r A.xs[x.i]? fun z=>match uI st P g A.r 0 l z with
  |some z'=>.done (bl (lX (fun s=>{ s with aO:=[],ep:=s.ep+1 }) st P) x.a x.j (some (A.put (A.xs.set x.i z'))))
  |none=>.fail) else .fail
 |none=>.fail
def G1 (T:kG) (st:St) (d:Option Nat) (t:Nat) (x y:V):N:=
 match mo st [(.io,x)] with
 |none=>Dg T st d t x y
 |some (z,A,l)=>Dg T (ev st z A l) d t (RN (st.length-1) (n4 st (st.length-1)+1) l (.io,x)).2 y
def HX (st:St) (o:Oper):Bool:=
 match o.op with
 |.call { callee:=.builtin .append,args:=args,argTypes:=_ }=>(match args.toList with
  |x::_=>(mo st [(.io,lY st x)]).isSome
  |_=>false)
 |_=>false
def TG (st:St) (d:Option Nat) (Cp:wO) (ms:List (Pm×V)):N:=
 match mo st ms with
 |none=>HV st d Cp ms .done
 |some (x,A,l)=>HV (ev st x A l) d Cp (ms.map (RN (st.length-1) (n4 st (st.length-1)+1) l)) (JP (st.length-1) (n4 st (st.length-1)+1) x A l)
def Cq (st:St):CV→CV
 |.ref a j g .full=>match aX st a j g with
  |some A=>bif A.own then .ref a j g .full else bif A.md.is .sh then .shr A.r A.xs else .ref a j g .full
  |none=>.ref a j g .full
 |x=>x
def O2 (st:St):V→V
 |.one x=>.one (Cq st x)
 |.agg cs=>.agg (cs.map (Cq st))
 |x=>x
def TH (st:St) (s:Sl):Sl:={ s with v:=O2 st s.v,box:=s.box.map fun cs=>cs.map (Cq st) }
def uJ (st:St):St:=st.map (TH st)
def Pm.O3:Pm→Bool
 |.pick _=>true
 |_=>false
def Lw (st:St) (a j:Nat):St:=
 match nth st a with
 |some s=>(match nth s.aO j with
  |some (some A)=>bif A.own&&A.md.is .dp then bl st a j (some { A with md:=.lz }) else st
  |_=>st)
 |none=>st
def FO (st:St):List (Nat×Nat)→St
 | []=>st
 |(a,j)::l=>FO (Lw st a j) l
def Dy (st:St):List (Pm×V)→List (Nat×Nat)
 | []=>[]
 |(.soft q,.one (.ptr b g _))::l=>(match cZ st b g with | some cs=>refsOf (q.filterMap (nth cs)) | none=>[])++Dy st l
 |_::l=>Dy st l
def Cr (ms:List (Pm×V)) (st:St):St:=bif ms.any (fun m=>m.1.O3) then uJ (FO st (Dy st ms)) else FO st (Dy st ms)
def FP (S:kO) (st:St) (d:Option Nat) (f:FuncId) (args:List V):N:=
 match S f with
 |none=>.fail
 |some (a,b,c,Cp)=>TG (Cr (wh a b c args) (freeze st (Dx st (wh a b c args)))) d Cp (wh a b c args)
def ed:List CV→Option ((r:RT)×aA r)
 | []=>some ⟨.nil,()⟩
 |.int k n::l=>match ed l with | some ⟨r,x⟩=>some ⟨.cons (.int k) r,(n,x)⟩ | none=>none
 |.bool b::l=>match ed l with | some ⟨r,x⟩=>some ⟨.cons .bool r,(b,x)⟩ | none=>none
 |.str s::l=>match ed l with | some ⟨r,x⟩=>some ⟨.cons .str r,(s,x)⟩ | none=>none
 |.shr q xs::l=>match ed l with | some ⟨r,x⟩=>some ⟨.cons (.sl q) r,(xs,x)⟩ | none=>none
 |_=>none
def fC (st:St) (b:Nat):St:=lX (fun s=>{ s with box:=none }) st b
def rnV (b g:Nat) (r:RT) (x:aA r):V→V
 |.one (.ptr b' g' off)=>bif Nat.beq b' b&&Nat.beq g' g then .one (.lL r x off) else .one (.ptr b' g' off)
 |v=>v
def ng (st:St) (b g:Nat) (r:RT) (x:aA r):St:=st.map fun s=>{ s with v:=rnV b g r x s.v }
def RO (st:St) (t:Nat):Option (St×((r:RT)×List (aA r))):=
 match bV st t with
 |.one (.lL r x off)=>bif Nat.beq off 0 then some (st,⟨r,[x]⟩) else none
 |.one (.ti r xs off)=>bif Nat.beq off 0 then some (st,⟨r,xs⟩) else none
 |.one (.ptr b g off)=>match cZ st b g with
  |some cs=>bif Nat.beq off 0 then (match ed cs with
   |some ⟨r,x⟩=>some (ng (fC st b) b g r x,⟨r,[x]⟩)
   |none=>none) else none
  |none=>none
 |_=>none
def yE (st:St):List Operand→Option (St×((rs:RT)×aA rs))
 | []=>some (st,⟨.nil,()⟩)
 |.tmp t::l=>match RO st t with
  |some (aZ,⟨r,ys⟩)=>(match yE aZ l with
   |some (UF,⟨rs,xs⟩)=>some (UF,⟨.cons (.sl r) rs,(ys,xs)⟩)
   |none=>none)
  |none=>none
 |_=>none
def wi:(rs:RT)→aA rs→List V
 |.nil,_=>[]
 |.cons (.sl r) rs,x=>.one (.ti r x.1 0)::wi rs x.2
 |.cons _ rs,x=>.one .bad::wi rs x.2
def Lx (y:aA (.cons (.int .u8) .nil)):Int:=y.1
def bytesOf (ys:List (aA (.cons (.int .u8) .nil))):ByteArray:=ys.foldl (fun r y=>r.push (UInt8.ofNat (Lx y).toNat)) ByteArray.empty
def JB (T:kG) (S:kO) (st:St) (o:Oper):N:=
 match o.op with
 |.move x | .assign x=>.done (ba st o.dst (lY st x))
 |.pick c a b=>match lY st c with
  |.one (.bool x)=>.br x (.done (ba st o.dst (lY st a))) (.done (ba st o.dst (lY st b)))
  |_=>.fail
 |.alloc t=>match T.row t with
  |some r=>iM st o.dst (n9 r)
  |none=>.fail
 |.box t x=>match T.cells t with
  |some n=>bif (lY st x).tP&&Nat.beq (lY st x).cells.length n then (match (bif T.cap t then ed (lY st x).cells else none) with
   |some ⟨r,y⟩=>.done (ba st o.dst (.one (.lL r y 0)))
   |none=>iM st o.dst (lY st x).cells) else .fail
  |none=>.fail
 |.build t parts=>match T.row t,T.agg t with
  |some r,true=>(match ob T t (n9 r) (parts.toList.map fun p=>(p.1,lY st p.2)) with
   |some cs=>.done (ba st o.dst (.agg cs))
   |none=>.fail)
  |_,_=>.fail
 |.buildSlice t len parts=>wR T st o.dst t len (parts.toList.map fun p=>(p.1,lY st p.2))
 |.load t a=>wg T st o.dst t (lY st a)
 |.store t a v=>(match o.dst with
  |none=>tj T st t (lY st a) (lY st v)
  |some _=>.fail)
 |.nilCheck x=>match lY st x with
  |.one (.ptr b g off)=>(match cZ st b g with
   |some _=>.done (ba st o.dst (.one (.ptr b g off)))
   |none=>.fail)
  |.one (.HU a j g i off)=>(match aX st a j g with
   |some _=>.done (ba st o.dst (.one (.HU a j g i off)))
   |none=>.fail)
  |_=>.fail
 |.binOp op t x y _=>wy T st o.dst op t (lY st x) (lY st y)
 |.unOp .not _ x=>match lY st x with
  |.one (.bool b)=>.done (ba st o.dst (.one (.bool (!b))))
  |_=>.fail
 |.convert s t x=>match T.kind s,T.kind t,lY st x with
  |some (.int _),some (.int k),.one (.int _ n)=>.done (ba st o.dst (.one (.int k (k.wrap n))))
  |some .str,some .str,.one (.str b)=>.done (ba st o.dst (.one (.str b)))
  |none,some .str,.one c=>(match T.elem s with
   |some (.cons (.int .u8) .nil,_)=>lZ st (.cons (.int .u8) .nil) c fun ys=>.done (ba st o.dst (.one (.str (bytesOf ys))))
   |_=>.fail)
  |_,_,_=>.fail
 |.makeSlice t l c=>OZ T st o.dst t (lY st l) (lY st c)
 |.slice t x lo hi none=>uF T st o.dst t (lY st x) (lo.map (lY st)) (hi.map (lY st))
 |.fieldAddr t x f=>match lY st x,T.off t f with
  |.one (.ptr b g off),some k=>(match cZ st b g with
   |some _=>.done (ba st o.dst (.one (.ptr b g (off+k))))
   |none=>.fail)
  |.one (.HU a j g i off),some k=>(match aX st a j g with
   |some _=>.done (ba st o.dst (.one (.HU a j g i (off+k))))
   |none=>.fail)
  |.one (.lL r x off),some k=>.done (ba st o.dst (.one (.lL r x (off+k))))
  |.one (.ti r xs off),some k=>.done (ba st o.dst (.one (.ti r xs (off+k))))
  |_,_=>.fail
 |.field t x f=>match lY st x,T.off t f with
  |.agg cs,some k=>bif T.one t f then (match nth cs k with
   |some c=>.done (ba st o.dst (.one c))
   |none=>.fail) else .fail
  |_,_=>.fail
 |.indexAddr t x i=>pO T st o.dst t (lY st x) (lY st i)
 |.index t x i=>match T.kind t,lY st x,lY st i with
  |some .str,.one (.str s),.one (.int _ n)=>.br (decide (0≤n)) (.br (decide (n<s.size)) (.done (ba st o.dst (.one (.int .u8 (GW s n))))) .fail) .fail
  |_,_,_=>.fail
 |.extract t i=>match lY st t with
  |.m9 vs=>match nth vs i with
   |some v=>.done (ba st o.dst v)
   |none=>.fail
  |_=>.fail
 |.call { callee:=.value (.func f),args:=args,argTypes:=_ }=>FP S st o.dst f (args.toList.map (lY st))
 |.call { callee:=.value (.tmp t),args:=args,argTypes:=_ }=>(match bV st t with
  |.one (.fn g rs xs)=>.row rs xs[0]? fun x=>FP S st o.dst g (args.toList.map (lY st)++wi rs x)
  |_=>.fail)
 |.makeFunc (.func g) first wS=>bif first.isEmpty then (match yE st wS.toList with
  |some (aZ,⟨rs,x⟩)=>.done (ba aZ o.dst (.one (.fn g rs [x])))
  |none=>.fail) else .fail
 |.call { callee:=.builtin b,args:=args,argTypes:=ts }=>match b,args.toList,ts.toList with
  |.len,[x],[t]=>GX T st o.dst t (lY st x)
  |.append,[x,y],[t,u]=>bif Nat.beq t u then G1 T st o.dst t (lY st x) (lY st y) else .fail
  |.min,[x,y],_=>(match lY st x,lY st y with
   |.one (.int k a),.one (.int _ b)=>.done (ba st o.dst (.one (.int k (if b<a then b else a))))
   |_,_=>.fail)
  |.max,[x,y],_=>(match lY st x,lY st y with
   |.one (.int k a),.one (.int _ b)=>.done (ba st o.dst (.one (.int k (if b>a then b else a))))
   |_,_=>.fail)
  |.min,[x,y,z],_=>(match lY st x,lY st y,lY st z with
   |.one (.int k a),.one (.int _ b),.one (.int _ c)=>.done (ba st o.dst (.one (.int k (if c<(if b<a then b else a) then c else (if b<a then b else a)))))
   |_,_,_=>.fail)
  |.clear,[x],[t]=>(match o.dst with | none=>JO T st t (lY st x) | some _=>.fail)
  |_,_,_=>.fail
 |_=>.fail
def wT (T:kG) (S:kO) (ops:List Oper) (st:St) (o:Oper):N:=
 match o.guard with
 |none=>JB T S st o
 |some (j,want)=>match (nth ops j).bind (·.dst) with
  |some d=>match bV st d with
   |.one (.bool b)=>
    let yes (x:Bool):N:=JB T S (ba st (some d) (.one (.bool x))) o
    let no (x:Bool):N:=.done (ba (ba st (some d) (.one (.bool x))) o.dst (.m9 []))
    .br b (bif want then yes true else no true) (bif want then no false else yes false)
   |.m9 []=>.done (ba st o.dst (.m9 []))
   |_=>.fail
  |none=>.fail
inductive Ex where
 |normal
 |exit (n:Nat)
 |ret
open Classical in
noncomputable def both {R:Type} (a b:Option R):Option R:=if a=b then a else none
theorem jg {R:Type} (a:Option R):both a a=a:=by unfold both;rw [if_pos rfl]
theorem My {R:Type} {a b:Option R} {r:R} (h:both a b=some r):a=some r∧b=some r:=by
 unfold both at h
 split at h
 ·rename_i e;exact ⟨h,e▸h⟩
 ·cases h
section
variable {R:Type} (T:kG) (S:kO)
def Mz (ops:List Oper):List Oper→St→(St→Option R)→Option R
 | [],st,k=>k st
 |o::r,st,k=>(wT T S ops st o).fold fun aZ=>Mz ops r aZ k
inductive Kd where
 |any | take | one | last
inductive Pl where
 |nil
 |op (i:Nat) (kd:Kd) (p:Pl)
 |alt (p q:Pl)
def JQ (st:St) (ms:List (Pm×V)):Bool:=
 match iN st ms with
  |some (_,used,_,_)=>used.isEmpty
  |none=>true
def qW (S:kO) (st:St) (f:FuncId) (args:List V):Bool:=
 match S f with
 |some (a,b,c,_)=>(match mo (Cr (wh a b c args) (freeze st (Dx st (wh a b c args)))) (wh a b c args) with | none=>JQ (Cr (wh a b c args) (freeze st (Dx st (wh a b c args)))) (wh a b c args) | some _=>false)
 |none=>true
def kindOk (S:kO) (st:St) (o:Oper):Kd→Bool
 |.any=>match o.op with
  |.move _ | .assign _ | .pick _ _ _ | .nilCheck _ | .binOp _ _ _ _ _ | .unOp _ _ _ | .slice _ _ _ _ _ | .fieldAddr _ _ _ | .indexAddr _ _ _ | .index _ _ _ | .extract _ _ | .build _ _ | .field _ _ _=>true
  |.convert _ _ x=>(match lY st x with | .one (.pr _ _ _ _ _ _ _ _)=>false | .one (.JJ _ _ _ _ _ _ _ _)=>false | .one (.shr _ _)=>false | .one (.nn _ _)=>false | .one (.ref _ _ _ _)=>false | .one .dO=>false | _=>true)
  |.call { callee:=.builtin b,.. }=>(match b with | .len | .min | .max=>true | _=>false)
  |_=>false
 |.take=>match o.op with
  |.load _ _=>true
  |_=>false
 |.one=>match o.op with
  |.store _ _ _=>false
  |.call { callee:=.builtin b,.. }=>(match b with | .len | .min | .max=>true | _=>false)
  |.call { callee:=.value (.func f),args:=args,.. }=>qW S st f (args.toList.map (lY st))
  |.call { callee:=.value (.tmp t),args:=args,.. }=>(match bV st t with
   |.one (.fn g rs xs)=>(match xs[0]? with | some x=>qW S st g (args.toList.map (lY st)++wi rs x) | none=>true)
   |_=>true)
  |_=>true
 |.last=>true
noncomputable def pP (ops:List Oper):Pl→St→(St→Option R)→Option R
 |.nil,st,k=>k st
 |.op i kd r,st,k=>match nth ops i with
  |some o=>bif kindOk S st o kd then (wT T S ops st o).fold fun aZ=>pP ops r aZ k else none
  |none=>none
 |.alt p q,st,k=>both (pP ops p st k) (pP ops q st k)
abbrev qu (R:Type):=Nat→Code→St→(Ex→St→Option R)→Option R
abbrev mN:=Nat→Pl
noncomputable def fc (D:mN) (L:qu R):Code→St→(Ex→St→Option R)→Option R
 |.skip,st,k=>k .normal st
 |.region _ ops false,st,k=>Mz T S ops.toList ops.toList st fun aZ=>k .normal aZ
 |.region id ops true,st,k=>pP T S ops.toList (D id) st fun aZ=>k .normal aZ
 |.seq a b,st,k=>fc D L a st fun e aZ=>match e with
  |.normal=>fc D L b aZ k
  |e=>k e aZ
 |.cond (.tmp c) a b,st,k=>match bV st c with
  |.one (.bool x)=>bif x then fc D L a (ba st (some c) (.one (.bool true))) k else fc D L b (ba st (some c) (.one (.bool false))) k
  |_=>none
 |.block id (.loop b),st,k=>L id b st k
 |.block id b,st,k=>fc D L b st fun e aZ=>match e with
  |.exit n=>bif Nat.beq n id then k .normal aZ else k (.exit n) aZ
  |e=>k e aZ
 |.exit id,st,k=>k (.exit id) st
 |.ret,st,k=>k .ret st
 |_,_,_=>none
end
end Go.TM
namespace Go.TM
open Go Go.RowKit
@[simp] theorem afg {α:Type} (n:Nat):nth ([]:List α) n=none:=rfl
theorem fX {α:Type} (l:List α) (n:Nat):nth l n=l[n]?:=by
 induction l generalizing n with
 |nil=>simp
 |cons x l ih=>cases n<;>simp [nth,ih]
theorem fY {α:Type} (f:α→α) (l:List α) (n:Nat):nth (lX f l n) n=(nth l n).map f:=by
 induction l generalizing n with
 |nil=>rfl
 |cons x l ih=>cases n<;>simp [lX,nth,ih]
theorem kS {α:Type} (f:α→α) (l:List α) {n m:Nat} (h:m≠n):nth (lX f l n) m=nth l m:=by
 induction l generalizing n m with
 |nil=>rfl
 |cons x l ih=>
  cases n with
  |zero=>cases m with
   |zero=>exact absurd rfl h
   |succ m=>rfl
  |succ n=>cases m with
   |zero=>rfl
   |succ m=>simp only [lX,nth];exact ih (by omega)
theorem cU {α:Type} (f:α→α) (l:List α) (n m:Nat):nth (lX f l n) m=if m=n then (nth l m).map f else nth l m:=by
 by_cases h:m=n
 ·subst h;simp [fY]
 ·simp [h,kS f l h]
theorem G2 {α:Type} {l:List α} {n:Nat} {x:α} (h:nth l n=some x):n<l.length:=by
 rw [fX] at h;exact (List.getElem?_eq_some_iff.1 h).1
def Ly {r:RT} (xs:den (.sl r)):List (aA r):=xs
mutual
def bY (w:World) (ok:Nat→Prop):(t:Ty)→Value→den t→Prop
 |.int k,v,n=>v=.int k n
 |.bool,v,b=>v=.bool b
 |.str,v,s=>v=.string s
 |.sl r,v,xs=>(v=.slice none 0 0∧Ly xs=[])∨
   ∃a cap,v=.slice (some a) (Ly xs).length cap∧(Ly xs).length≤cap∧
    (Ly xs≠[]→a.spot=none∧a.block<w.heap.size∧ok a.block)∧
    ∀i x,(Ly xs)[i]?=some x→cE w ok r a.block (a.off+i*r.width) x
def cE (w:World) (ok:Nat→Prop):(r:RT)→(b off:Nat)→aA r→Prop
 |.nil,_,_,_=>True
 |.cons t r,b,off,x=>(∃v,w.cell? ⟨b,off,none⟩=some v∧bY w ok t v x.1)∧cE w ok r b (off+1) x.2
end
theorem nh (w:World) (ok:Nat→Prop) (r:RT) (v:Value) (xs:List (aA r)):bY w ok (.sl r) v xs↔
  ((v=.slice none 0 0∧xs=[])∨∃a cap,v=.slice (some a) xs.length cap∧xs.length≤cap∧
    (xs≠[]→a.spot=none∧a.block<w.heap.size∧ok a.block)∧∀i x,xs[i]?=some x→cE w ok r a.block (a.off+i*r.width) x):=by
 have:=bY.eq_4 w ok v r xs;exact this▸Iff.rfl
theorem ri {w:World} {ok:Nat→Prop} {k:IntKind} {v:Value} {n:Int}:bY w ok (.int k) v n↔v=.int k n:=bY.eq_1 w ok v k n▸Iff.rfl
theorem sJ {w:World} {ok:Nat→Prop} {v:Value} {b:Bool}:bY w ok .bool v b↔v=.bool b:=bY.eq_2 w ok v b▸Iff.rfl
theorem wU {w:World} {ok:Nat→Prop} {v:Value} {s:ByteArray}:bY w ok .str v s↔v=.string s:=bY.eq_3 w ok v s▸Iff.rfl
structure iD (w w':World) (ok Ag:Nat→Prop):Prop where
 size:w.heap.size≤w'.heap.size
 block:∀b,b<w.heap.size→ok b→w'.heap[b]?=w.heap[b]?
 ok:∀b,b<w.heap.size→ok b→Ag b
theorem LA {w:World} {a:Addr} {v:Value} (h:w.cell? a=some v):a.block<w.heap.size:=World.block_lt_of_cell? w a h
mutual
theorem bY.stays {w w':World} {ok Ag:Nat→Prop} (h:iD w w' ok Ag):(t:Ty)→(v:Value)→(x:den t)→bY w ok t v x→bY w' Ag t v x
 |.int _,_,_,hr=>by unfold bY at hr ⊢;exact hr
 |.bool,_,_,hr=>by unfold bY at hr ⊢;exact hr
 |.str,_,_,hr=>by unfold bY at hr ⊢;exact hr
 |.sl r,v,xs,hr=>by
  unfold bY at hr ⊢;rcases hr with hr | ⟨a,cap,hv,hc,ha,hx⟩
  ·exact .inl hr
  ·refine .inr ⟨a,cap,hv,hc,fun eH => ?_,fun i x hi => ?_⟩
   ·obtain ⟨hs,hb,fZ⟩:=ha eH;exact ⟨hs,Nat.lt_of_lt_of_le hb h.size,h.ok _ hb fZ⟩
   ·have eH:Ly xs≠[]:=by intro e;rw [e] at hi;simp at hi
    obtain ⟨hs,hb,fZ⟩:=ha eH;exact cE.stays h r _ _ x (h.block _ hb fZ) (hx i x hi)
theorem cE.stays {w w':World} {ok Ag:Nat→Prop} (h:iD w w' ok Ag):(r:RT)→(b off:Nat)→(x:aA r)→w'.heap[b]?=w.heap[b]?→cE w ok r b off x→cE w' Ag r b off x
 |.nil,_,_,_,_,_=>by unfold cE;trivial
 |.cons t r,b,off,x,fZ,hr=>by
  unfold cE at hr ⊢;obtain ⟨⟨v,hv,hx⟩,hr⟩:=hr;refine ⟨⟨v,?_,bY.stays h t v x.1 hx⟩,cE.stays h r b (off+1) x.2 fZ hr⟩;rw [World.cell?_of_block (w:=w) fZ];exact hv
end
inductive Loc where
 |nil
 |at (b off cap:Nat)
structure Cz where
 bx:Nat→Nat
 lc:Nat→Nat→Loc
 own:Nat→Option Lb
 rs:Nat→Option Lb:=fun _=>none  -- aaE is read alone,and held by amR one row of an array: of aaJ
def Cz.ok (c:Cz) (b:Nat):Prop:=c.own b=none
def ff (st:St) (s:Nat):Nat:=match nth st s with | some x=>x.bg | none=>0
def cK (st:St) (s:Nat):Nat:=match nth st s with | some x=>x.ag | none=>0
def fh (l:Loc) (W lo n:Nat) (v:Value):Prop:=
 match l with
 |.nil=>v=.slice none 0 0∧n=0
 |.at b off cap=>∃a c,v=.slice (some a) n c∧n≤c∧lo+c≤cap∧(c≠0→a=⟨b,off+lo*W,none⟩)
mutual
def dC (w:World) (P:List Nat→Nat→Prop):(t:Ty)→(p:List Nat)→Value→den t→Prop
 |.int k,_,v,n=>v=.int k n
 |.bool,_,v,b=>v=.bool b
 |.str,_,v,s=>v=.string s
 |.sl r,p,v,xs=>∃lc:Loc,fh lc r.width 0 (Ly xs).length v∧v.oneCell'=true∧((lc=.nil∧Ly xs=[])∨∃b off cap,lc=.at b off cap∧
   P p b∧(Ly xs).length≤cap∧(∃cur ty,w.heap[b]?=some (.cells cur ty (0,0))∧off+cap*r.width≤cur.size)∧
    ∀i x,(Ly xs)[i]?=some x→eK w P r (p++[i]) 0 b (off+i*r.width) x)
def eK (w:World) (P:List Nat→Nat→Prop):(r:RT)→(p:List Nat)→(k b off:Nat)→aA r→Prop
 |.nil,_,_,_,_,_=>True
 |.cons t r,p,k,b,off,x=>(∃v,w.cell? ⟨b,off,none⟩=some v∧dC w P t (p++[k]) v x.1)∧eK w P r p (k+1) b (off+1) x.2
end
theorem wV (w:World) (P:List Nat→Nat→Prop) (r:RT) (p:List Nat) (v:Value) (xs:List (aA r)):dC w P (.sl r) p v xs↔
  ∃lc:Loc,fh lc r.width 0 xs.length v∧v.oneCell'=true∧((lc=.nil∧xs=[])∨∃b off cap,lc=.at b off cap∧
   P p b∧xs.length≤cap∧(∃cur ty,w.heap[b]?=some (.cells cur ty (0,0))∧off+cap*r.width≤cur.size)∧
    ∀(i:Nat) x,xs[i]?=some x→eK w P r (p++[i]) 0 b (off+i*r.width) x):=by
 have:=dC.eq_4 w P p v r xs;exact this▸Iff.rfl
theorem yV {w:World} {P:List Nat→Nat→Prop} {k:IntKind} {p:List Nat} {v:Value} {n:Int}:dC w P (.int k) p v n↔v=.int k n:=dC.eq_1 w P p v k n▸Iff.rfl
theorem uK {w:World} {P:List Nat→Nat→Prop} {p:List Nat} {v:Value} {n:Bool}:dC w P .bool p v n↔v=.bool n:=dC.eq_2 w P p v n▸Iff.rfl
theorem yW {w:World} {P:List Nat→Nat→Prop} {p:List Nat} {v:Value} {n:ByteArray}:dC w P .str p v n↔v=.string n:=dC.eq_3 w P p v n▸Iff.rfl
mutual
theorem dC.go {w w':World} {P P':List Nat→Nat→Prop}:(t:Ty)→(p p':List Nat)→(hP:∀q b,P (p++q) b→w'.heap[b]?=w.heap[b]?∧P' (p'++q) b)→(v:Value)→(x:den t)→dC w P t p v x→dC w' P' t p' v x
 |.int _,_,_,_,_,_,h=>by unfold dC at h ⊢;exact h
 |.bool,_,_,_,_,_,h=>by unfold dC at h ⊢;exact h
 |.str,_,_,_,_,_,h=>by unfold dC at h ⊢;exact h
 |.sl r,p,p',hP,v,xs,h=>by
  unfold dC at h ⊢;obtain ⟨lc,h1,h0,h2⟩:=h;refine ⟨lc,h1,h0,h2.imp id ?_⟩
  rintro ⟨b,off,cap,e,h3,h4,⟨cur,ty,h5,h6⟩,h7⟩
  obtain ⟨hw,hb⟩:=hP [] b (by simpa using h3);refine ⟨b,off,cap,e,by simpa using hb,h4,⟨cur,ty,by rw [hw];exact h5,h6⟩,fun i x hx=>eK.go r (p++[i]) (p'++[i]) (fun q k hk => ?_) 0 b _ x hw (h7 i x hx)⟩;have:=hP ([i]++q) k (by rw [←List.append_assoc];exact hk);rw [←List.append_assoc] at this;exact this
theorem eK.go {w w':World} {P P':List Nat→Nat→Prop}:(r:RT)→(p p':List Nat)→(hP:∀q b,P (p++q) b→w'.heap[b]?=w.heap[b]?∧P' (p'++q) b)→(k b off:Nat)→(x:aA r)→w'.heap[b]?=w.heap[b]?→eK w P r p k b off x→eK w' P' r p' k b off x
 |.nil,_,_,_,_,_,_,_,_,_=>by unfold eK;trivial
 |.cons t r,p,p',hP,k,b,off,x,hw,h=>by
  unfold eK at h ⊢;obtain ⟨⟨v,h1,h2⟩,h3⟩:=h;refine ⟨⟨v,by rw [World.cell?_of_block (w:=w) hw];exact h1,dC.go t (p++[k]) (p'++[k]) (fun q b hb => ?_) v x.1 h2⟩,eK.go r p p' hP (k+1) b (off+1) x.2 hw h3⟩;have:=hP ([k]++q) b (by rw [←List.append_assoc];exact hb);rw [←List.append_assoc] at this;exact this
end
theorem uL {lc:Loc} {W lo n:Nat} {v:Value} (h:fh lc W lo n v):(v=.slice none 0 0∧n=0)∨∃b off cap a c,lc=.at b off cap∧v=.slice (some a) n c∧n≤c∧lo+c≤cap∧(c≠0→a=⟨b,off+lo*W,none⟩):=by
 cases lc with
 |nil=>exact .inl h
 |«at» b off cap=>
  obtain ⟨a,c,h1,h2,h3,h4⟩:=h;exact .inr ⟨b,off,cap,a,c,rfl,h1,h2,h3,h4⟩
mutual
theorem dC.rep {w:World} {P:List Nat→Nat→Prop} {ok:Nat→Prop} (hP:∀p b,P p b→ok b):(t:Ty)→(p:List Nat)→(v:Value)→(x:den t)→dC w P t p v x→bY w ok t v x
 |.int _,_,_,_,h=>by unfold dC at h;unfold bY;exact h
 |.bool,_,_,_,h=>by unfold dC at h;unfold bY;exact h
 |.str,_,_,_,h=>by unfold dC at h;unfold bY;exact h
 |.sl r,p,v,xs,h=>by
  unfold dC at h;unfold bY;obtain ⟨lc,h1,h0,h2⟩:=h;rcases uL h1 with ⟨e1,e2⟩ | ⟨b,off,cap,a,c,e1,e2,e3,e4,e5⟩
  ·exact .inl ⟨e1,List.length_eq_zero_iff.1 e2⟩
  ·rcases h2 with ⟨e,_⟩ | ⟨b',RQ,G3,e,h3,h4,⟨cur,ty,h5,h6⟩,h7⟩
   ·rw [e] at e1;cases e1
   ·rw [e] at e1;injection e1 with q1 q2 q3;subst q1 q2 q3;have eH:Ly xs≠[]→a=⟨b',RQ,none⟩:=by
     intro eH;have:=List.length_pos_iff.2 eH;have:=e5 (by omega);simpa using this
    refine .inr ⟨a,c,e2,e3,fun hn => ?_,fun i x hx => ?_⟩
    ·rw [eH hn];exact ⟨rfl,(Array.getElem?_eq_some_iff.1 h5).1,hP _ _ h3⟩
    ·rw [eH (by intro e;rw [e] at hx;simp at hx)];exact eK.rep hP r _ 0 b' _ x (h7 i x hx)
theorem eK.rep {w:World} {P:List Nat→Nat→Prop} {ok:Nat→Prop} (hP:∀p b,P p b→ok b):(r:RT)→(p:List Nat)→(k b off:Nat)→(x:aA r)→eK w P r p k b off x→cE w ok r b off x
 |.nil,_,_,_,_,_,_=>by unfold cE;trivial
 |.cons t r,p,k,b,off,x,h=>by
  unfold eK at h;unfold cE;obtain ⟨⟨v,h1,h2⟩,h3⟩:=h;exact ⟨⟨v,h1,dC.rep hP t _ v x.1 h2⟩,eK.rep hP r p (k+1) b (off+1) x.2 h3⟩
end
def Cz.Fe (c:Cz) (w:World) (l:Lb) (k:Nat):Prop:=c.own k=none∧c.rs k=some l∧k<w.heap.size
def bq (c:Cz) (w:World) (l:Lb) (A:gu) (b off:Nat):Prop:=
 match A.md with
 |.sh=>∀(i:Nat) x,A.xs[i]?=some x→cE w c.ok A.r b (off+i*A.r.width) x
 |.dp=>∃g:Nat→List Nat,g b=[]∧∀(i:Nat) x,A.xs[i]?=some x→eK w (fun p k=>c.own k=some l∧g k=p) A.r [i] 0 b (off+i*A.r.width) x
 |.ho q=>A.own=true→∃g:Nat→List Nat,g b=[]∧∀(i:Nat) x,i≠q→A.xs[i]?=some x→eK w (fun p k=>c.own k=some l∧g k=p) A.r [i] 0 b (off+i*A.r.width) x
 |.lz=>∃g:Nat→List Nat,∀(i:Nat) x,A.xs[i]?=some x→eK w (fun p k=>c.Fe w l k∧g k=p) A.r [i] 0 b (off+i*A.r.width) x
theorem bq.go {c c':Cz} {w w':World} {l l':Lb} {A:gu} {b off:Nat} (h:bq c w l A b off) (hs:A.md=.sh→iD w w' c.ok c'.ok) (hb:w'.heap[b]?=w.heap[b]?)
  (hd:A.md≠.sh→∀k,c.own k=some l→w'.heap[k]?=w.heap[k]?∧c'.own k=some l') (hz:A.md=.lz→∀k,c.Fe w l k→w'.heap[k]?=w.heap[k]?∧c'.Fe w' l' k):bq c' w' l' A b off:=by
 unfold bq at h ⊢
 cases hm:A.md with
 |sh=>rw [hm] at h;exact fun i x hx=>cE.stays (hs hm) _ _ _ _ hb (h i x hx)
 |lz=>
  rw [hm] at h;obtain ⟨g,h2⟩:=h;exact ⟨g,fun i x hx=>eK.go _ [i] [i] (fun q k hk=>⟨(hz hm k hk.1).1,(hz hm k hk.1).2,hk.2⟩) _ _ _ _ hb (h2 i x hx)⟩
 |dp=>
  rw [hm] at h;obtain ⟨g,h1,h2⟩:=h;exact ⟨g,h1,fun i x hx=>eK.go _ [i] [i] (fun q k hk=>⟨(hd (by rw [hm];simp) k hk.1).1,(hd (by rw [hm];simp) k hk.1).2,hk.2⟩) _ _ _ _ hb (h2 i x hx)⟩
 |ho q=>
  rw [hm] at h;intro ho;obtain ⟨g,h1,h2⟩:=h ho;exact ⟨g,h1,fun i x hq hx=>eK.go _ [i] [i] (fun q k hk=>⟨(hd (by rw [hm];simp) k hk.1).1,(hd (by rw [hm];simp) k hk.1).2,hk.2⟩) _ _ _ _ hb (h2 i x hq hx)⟩
theorem bq.sh {c:Cz} {w:World} {l:Lb} {A:gu} {b off:Nat} (hm:A.md=.sh):bq c w l A b off↔∀(i:Nat) x,A.xs[i]?=some x→cE w c.ok A.r b (off+i*A.r.width) x:=by
 unfold bq;rw [hm]
def FQ (w:World) (ok:Nat→Prop) (r:RT) (v:Value) (xs:List (aA r)):Prop:=
 ∃b o,v=.pointer (some ⟨b,o,none⟩)∧b<w.heap.size∧ok b∧∀x,xs[0]?=some x→cE w ok r b o x
def uM (w:World) (ok:Nat→Prop):(rs:RT)→List Value→aA rs→Prop
 |.nil,vs,_=>vs=[]
 |.cons (.sl r) rs,vs,x=>∃v l,vs=v::l∧FQ w ok r v (Ly x.1)∧uM w ok rs l x.2
 |.cons _ _,_,_=>False
def FnAt (w:World) (ok:Nat→Prop) (g:Nat) (rs:RT) (v:Value) (xs:List (aA rs)):Prop:=
 ∃wS,v=.func (.func g) #[] wS∧∀x,xs[0]?=some x→uM w ok rs wS.toList x
theorem FQ.stays {w w':World} {ok Ag:Nat→Prop} (h:iD w w' ok Ag) {r:RT} {v:Value} {xs:List (aA r)} (hp:FQ w ok r v xs):FQ w' Ag r v xs:=by
 obtain ⟨b,o,h1,h2,h3,h4⟩:=hp;exact ⟨b,o,h1,Nat.lt_of_lt_of_le h2 h.size,h.ok b h2 h3,fun x hx=>cE.stays h r b o x (h.block b h2 h3) (h4 x hx)⟩
theorem uM.stays {w w':World} {ok Ag:Nat→Prop} (h:iD w w' ok Ag):(rs:RT)→(vs:List Value)→(x:aA rs)→uM w ok rs vs x→uM w' Ag rs vs x
 |.nil,_,_,hc=>hc
 |.cons (.sl r) rs,vs,x,hc=>by
  obtain ⟨v,l,h1,h2,h3⟩:=hc;exact ⟨v,l,h1,h2.stays h,uM.stays h rs l x.2 h3⟩
 |.cons (.int _) _,_,_,hc=>hc.elim
 |.cons .bool _,_,_,hc=>hc.elim
 |.cons .str _,_,_,hc=>hc.elim
theorem FnAt.stays {w w':World} {ok Ag:Nat→Prop} (h:iD w w' ok Ag) {g:Nat} {rs:RT} {v:Value} {xs:List (aA rs)} (hf:FnAt w ok g rs v xs):FnAt w' Ag g rs v xs:=by
 obtain ⟨wS,h1,h2⟩:=hf;exact ⟨wS,h1,fun x hx=>uM.stays h rs _ x (h2 x hx)⟩
def jh (c:Cz) (st:St) (w:World):CV→Value→Prop
 |.bad,_=>True
 |.int k n,v=>v=.int k n
 |.bool b,v=>v=.bool b
 |.str s,v=>v=.string s
 |.dO,v=>v=.slice none 0 0
 |.JI,v=>v=.pointer none
 |.shr r xs,v=>bY w c.ok (.sl r) v xs
 |.nn r xs,v=>bY w c.ok (.sl r) v xs∧v≠.slice none 0 0
 |.ref a j g vw,v=>v.oneCell'=true∧g≤cK st a∧∀A,aX st a j g=some A→fh (c.lc a j) A.r.width vw.lo (vw.app A.xs).length v
 |.ptr b g off,v=>v.oneCell'=true∧g≤ff st b∧∀cs,cZ st b g=some cs→v=.pointer (some ⟨c.bx b,off,none⟩)
 |.HU a j g i off,v=>v.oneCell'=true∧g≤cK st a∧∀A,aX st a j g=some A→i<A.xs.length∧∃b o cap,c.lc a j=.at b o cap∧v=.pointer (some ⟨b,o+i*A.r.width+off,none⟩)
 |.lL r x off,v=>∃b o,v=.pointer (some ⟨b,o+off,none⟩)∧b<w.heap.size∧c.ok b∧cE w c.ok r b o x
 |.ti r xs off,v=>∃b o,v=.pointer (some ⟨b,o+off,none⟩)∧b<w.heap.size∧c.ok b∧∀x,xs[0]?=some x→cE w c.ok r b o x
 |.fn g rs xs,v=>FnAt w c.ok g rs v xs
 |.JJ a j g e i k q ys,v=>v.oneCell'=true∧g≤cK st a∧e≤j7 st a∧∀A,aX st a j g=some A→j7 st a=e→
   A.md=.dp∧(∃x,A.xs[i]?=some x∧kR A.r x k=some ⟨q,ys⟩)∧∃b o cap v0,c.lc a j=.at b o cap∧w.cell? ⟨b,o+i*A.r.width+k,none⟩=some v0∧∃lc:Loc,fh lc q.width 0 ys.length v∧fh lc q.width 0 ys.length v0
 |.pr a j g e i k q ys,v=>v.oneCell'=true∧g≤cK st a∧e≤j7 st a∧∀A,aX st a j g=some A→j7 st a=e→
   A.md=.dp∧(∃x,A.xs[i]?=some x∧kR A.r x k=some ⟨q,ys⟩)∧∃b o cap,c.lc a j=.at b o cap∧w.cell? ⟨b,o+i*A.r.width+k,none⟩=some v
def eM (c:Cz) (st:St) (w:World) (cs:List CV) (vs:List Value):Prop:=
 cs.length=vs.length∧∀(i:Nat) x v,cs[i]?=some x→vs[i]?=some v→jh c st w x v
def Ah (c:Cz) (st:St) (w:World):V→Value→Prop
 |.one x,v=>jh c st w x v
 |.agg cs,v=>∃vs,v=.agg vs∧eM c st w cs vs.toList
 |.m9 _,_=>False
def ej (c:Cz) (st:St) (w:World):V→Value→Prop
 |.m9 us,v=>∃vs,v=.tuple vs∧us.length=vs.size∧∀(i:Nat) x y,us[i]?=some x→vs[i]?=some y→Ah c st w x y
 |x,v=>Ah c st w x v
def tQ (c:Cz) (st:St) (w:World) (s:Nat) (cs:List CV):Prop:=
 c.own (c.bx s)=some (.box s)∧∃vs ty,w.heap[c.bx s]?=some (.cells vs ty (0,0))∧eM c st w cs vs.toList
def bO (c:Cz) (w:World) (s j:Nat) (A:gu):Prop:=
 match c.lc s j with
 |.nil=>A.xs=[]
 |.at b off cap=>(match A.own with | true=>c.own b=some (.sp s j) | false=>c.own b=none)∧A.xs.length≤cap∧
   (∃cur ty,w.heap[b]?=some (.cells cur ty (0,0))∧off+cap*A.r.width≤cur.size)∧
   bq c w (.sp s j) A b off
inductive MA where
 |arr (a j g W n:Nat) (l:Loc)
 |box (b g n5:Nat)
def RR (c:Cz) (st:St):MA→Prop
 |.arr a j g W n l=>g≤cK st a∧∀A,aX st a j g=some A→A.r.width=W∧A.xs.length=n∧c.lc a j=l
 |.box b g n5=>g≤ff st b∧∀cs,cZ st b g=some cs→c.bx b=n5
structure Mu where
 m:Nat→Prop
 ok:Nat→Prop
 an:List MA
 rs:Nat→Prop:=fun _=>False  -- aaE a Fh RM rows hold,and others may read
structure Rel (w0:World) (mu:Mu) (c:Cz) (st:St) (a:Act) (w:World):Prop where
 ea:∀t,ej c st w (bV st t) (a.eval (.tmp t))
 boxes:∀s sl cs,nth st s=some sl→sl.box=some cs→tQ c st w s cs
 aO:∀s j sl A,nth st s=some sl→nth sl.aO j=some (some A)→bO c w s j A
 owned:∀b l,c.own b=some l→b<w.heap.size∧(l=.out∨w0.heap.size≤b∨mu.m b)
 free:∀b,b<w0.heap.size→c.own b=none→mu.m b∨mu.ok b
 kept:w.os=w0.os∧w.tape=w0.tape∧w.output=w0.output∧w0.heap.size≤w.heap.size
 old:∀k,k<w0.heap.size→¬mu.m k→w.heap[k]?=w0.heap[k]?
 plain:a.defers=[]
 cV:∀p∈mu.an,RR c st p
 mq:∀b l,c.rs b=some l→b<w.heap.size∧(w0.heap.size≤b∨mu.m b∨mu.rs b)
end Go.TM
namespace Go.TM
open Go Go.RowKit
theorem aK {α:Type} {b:Bool} {x:Option α} {y:α} (h:(bif b then x else none)=some y):b=true∧x=some y:=by
 cases b
 ·simp at h
 ·exact ⟨rfl,h⟩
theorem cN {b:Bool} {x:N} {y:St} (h:(bif b then x else N.fail).val=some y):b=true∧x.val=some y:=by
 cases b
 ·simp [N.val] at h
 ·exact ⟨rfl,h⟩
theorem bd {st:St} {a j g:Nat} {A:gu} (h:aX st a j g=some A):∃sl,nth st a=some sl∧sl.ag=g∧nth sl.aO j=some (some A):=by
 unfold aX at h
 cases hs:nth st a with
 |none=>simp [hs] at h
 |some sl=>
  simp only [hs] at h;obtain ⟨h1,h2⟩:=aK h;refine ⟨sl,rfl,Nat.eq_of_beq_eq_true h1,?_⟩
  cases hj:nth sl.aO j with
  |none=>simp [hj] at h2
  |some o=>cases o with
   |none=>simp [hj] at h2
   |some B=>simp [hj] at h2;rw [h2]
theorem im {st:St} {b g:Nat} {cs:List CV} (h:cZ st b g=some cs):∃sl,nth st b=some sl∧sl.bg=g∧sl.box=some cs:=by
 unfold cZ at h
 cases hs:nth st b with
 |none=>simp [hs] at h
 |some sl=>
  simp only [hs] at h;obtain ⟨h1,h2⟩:=aK h;exact ⟨sl,rfl,Nat.eq_of_beq_eq_true h1,h2⟩
theorem View.JR {r s:RT} (w:View) (xs:List (aA r)) (ys:List (aA s)) (h:xs.length=ys.length):(w.app xs).length=(w.app ys).length:=by
 cases w<;>simp [View.app,h]
structure Fw (c:Cz) (st:St) (w:World) (c':Cz) (aZ:St) (w':World):Prop where
 stays:iD w w' c.ok c'.ok
 refs:∀a j g A',g≤cK st a→aX aZ a j g=some A'→∃A,aX st a j g=some A∧A'.r.width=A.r.width∧A'.xs.length=A.xs.length∧c'.lc a j=c.lc a j∧
  (j7 aZ a=j7 st a→A'=A∧∀b o cap,c.lc a j=.at b o cap→w'.heap[b]?=w.heap[b]?)
 Bv:∀b g lM,g≤ff st b→cZ aZ b g=some lM→(∃cs,cZ st b g=some cs)∧c'.bx b=c.bx b
 gA:∀a,cK st a≤cK aZ a
 gB:∀b,ff st b≤ff aZ b
 gE:∀a,j7 st a≤j7 aZ a
theorem Fw.O4 {c:Cz} {st:St} {w:World} {c':Cz} {aZ:St} {w':World} (h:Fw c st w c' aZ w') {x:CV} {v:Value} (hr:jh c st w x v):jh c' aZ w' x v:=by
 cases x with
 |bad=>trivial
 |int k n=>exact hr
 |bool b=>exact hr
 |str s=>exact hr
 |dO=>exact hr
 |JI=>exact hr
 |shr r xs=>exact bY.stays h.stays _ _ _ hr
 |nn r xs=>exact ⟨bY.stays h.stays _ _ _ hr.1,hr.2⟩
 |ref a j g vw=>
  refine ⟨hr.1,Nat.le_trans hr.2.1 (h.gA a),fun A' ee => ?_⟩;obtain ⟨A,hA,hw,hl,gN,_⟩:=h.refs a j g A' hr.2.1 ee;have:=hr.2.2 A hA;rw [gN,hw,View.JR vw A'.xs A.xs hl];exact this
 |ptr b g off=>
  refine ⟨hr.1,Nat.le_trans hr.2.1 (h.gB b),fun cs wJ => ?_⟩;obtain ⟨⟨GZ,h0⟩,hb⟩:=h.Bv b g cs hr.2.1 wJ;rw [hb];exact hr.2.2 GZ h0
 |HU a j g i off=>
  refine ⟨hr.1,Nat.le_trans hr.2.1 (h.gA a),fun A' ee => ?_⟩;obtain ⟨A,hA,hw,hl,gN,_⟩:=h.refs a j g A' hr.2.1 ee;have:=hr.2.2 A hA;rw [gN,hw,hl];exact this
 |JJ a j g e i k q ys=>
  obtain ⟨h1,h2,h3,h4⟩:=hr;refine ⟨h1,Nat.le_trans h2 (h.gA a),Nat.le_trans h3 (h.gE a),fun A' ee he => ?_⟩;obtain ⟨A,hA,hw,hl,gN,hs⟩:=h.refs a j g A' h2 ee;have MB:j7 aZ a=j7 st a:=by have:=h.gE a;omega
  obtain ⟨rfl,hb⟩:=hs MB;obtain ⟨k1,k2,b,o,cap,v0,k3,k4,k5⟩:=h4 A' hA (by omega);exact ⟨k1,k2,b,o,cap,v0,by rw [gN];exact k3,by rw [World.cell?_of_block (w:=w) (hb b o cap k3)];exact k4,k5⟩
 |pr a j g e i k q ys=>
  obtain ⟨h1,h2,h3,h4⟩:=hr;refine ⟨h1,Nat.le_trans h2 (h.gA a),Nat.le_trans h3 (h.gE a),fun A' ee he => ?_⟩;obtain ⟨A,hA,hw,hl,gN,hs⟩:=h.refs a j g A' h2 ee;have MB:j7 aZ a=j7 st a:=by have:=h.gE a;omega
  obtain ⟨rfl,hb⟩:=hs MB;obtain ⟨k1,k2,b,o,cap,k3,k4⟩:=h4 A' hA (by omega);exact ⟨k1,k2,b,o,cap,by rw [gN];exact k3,by rw [World.cell?_of_block (w:=w) (hb b o cap k3)];exact k4⟩
 |lL r x off=>
  obtain ⟨b,o,hv,hb,fZ,hx⟩:=hr;exact ⟨b,o,hv,Nat.lt_of_lt_of_le hb h.stays.size,h.stays.ok b hb fZ,cE.stays h.stays r b o x (h.stays.block b hb fZ) hx⟩
 |ti r xs off=>
  obtain ⟨b,o,hv,hb,fZ,hx⟩:=hr;exact ⟨b,o,hv,Nat.lt_of_lt_of_le hb h.stays.size,h.stays.ok b hb fZ,fun x sK=>cE.stays h.stays r b o x (h.stays.block b hb fZ) (hx x sK)⟩
 |fn g rs xs=>exact FnAt.stays h.stays hr
theorem Fw.O5 {c:Cz} {st:St} {w:World} {c':Cz} {aZ:St} {w':World} (h:Fw c st w c' aZ w') {cs:List CV} {vs:List Value} (hr:eM c st w cs vs):eM c' aZ w' cs vs:=
 ⟨hr.1,fun i x v hx hv=>h.O4 (hr.2 i x v hx hv)⟩
theorem Fw.O6 {c:Cz} {st:St} {w:World} {c':Cz} {aZ:St} {w':World} (h:Fw c st w c' aZ w') {x:V} {v:Value} (hr:Ah c st w x v):Ah c' aZ w' x v:=by
 cases x with
 |one x=>exact h.O4 hr
 |agg cs=>obtain ⟨vs,hv,hl⟩:=hr;exact ⟨vs,hv,h.O5 hl⟩
 |m9 us=>exact hr
theorem Fw.kP {c:Cz} {st:St} {w:World} {c':Cz} {aZ:St} {w':World} (h:Fw c st w c' aZ w') {x:V} {v:Value} (hr:ej c st w x v):ej c' aZ w' x v:=by
 cases x with
 |one x=>exact h.O6 (x:=.one x) hr
 |agg cs=>exact h.O6 (x:=.agg cs) hr
 |m9 us=>
  obtain ⟨vs,hv,hl,he⟩:=hr;exact ⟨vs,hv,hl,fun i x y hx hy=>h.O6 (he i x y hx hy)⟩
theorem Fw.cV {c:Cz} {st:St} {w:World} {c':Cz} {aZ:St} {w':World} (h:Fw c st w c' aZ w') {p:MA} (hp:RR c st p):RR c' aZ p:=by
 cases p with
 |arr a j g W n l=>
  refine ⟨Nat.le_trans hp.1 (h.gA a),fun A' ee => ?_⟩;obtain ⟨A,hA,hw,hl,gN,_⟩:=h.refs a j g A' hp.1 ee;obtain ⟨h1,h2,h3⟩:=hp.2 A hA;exact ⟨hw.trans h1,hl.trans h2,gN.trans h3⟩
 |box b g n5=>
  refine ⟨Nat.le_trans hp.1 (h.gB b),fun cs wJ => ?_⟩;obtain ⟨⟨GZ,h0⟩,hb⟩:=h.Bv b g cs hp.1 wJ;exact hb.trans (hp.2 GZ h0)
theorem bO.go {c c':Cz} {w w':World} {s j:Nat} {A:gu} (h:bO c w s j A) (hs:iD w w' c.ok c'.ok) (hl:c'.lc s j=c.lc s j)
  (hb:∀b,c.own b=some (.sp s j)→w'.heap[b]?=w.heap[b]?∧c'.own b=c.own b) (hz:∀b,c.own b=none→b<w.heap.size→c.rs b=some (.sp s j)→c'.rs b=some (.sp s j):=by intro _ _ _ h;exact h):bO c' w' s j A:=by
 unfold bO at h ⊢;rw [hl]
 cases hc:c.lc s j with
 |nil=>simpa [hc] using h
 |«at» b off cap=>
  rw [hc] at h;obtain ⟨h1,h2,⟨cur,ty,h3,h4⟩,h5⟩:=h;have cA:b<w.heap.size:=(Array.getElem?_eq_some_iff.1 h3).1;have hwo:w'.heap[b]?=w.heap[b]?∧c'.own b=c.own b:=by
   cases ho:A.own with
   |true=>rw [ho] at h1;exact hb b h1
   |false=>rw [ho] at h1;exact ⟨hs.block b cA h1,(hs.ok b cA h1:c'.own b=none).trans h1.symm⟩
  refine ⟨?_,h2,⟨cur,ty,by rw [hwo.1];exact h3,h4⟩,h5.go (fun _=>hs) hwo.1 (fun _ k hk=>⟨(hb k hk).1,(hb k hk).2.trans hk⟩) (fun _ k hk=>⟨hs.block k hk.2.2 hk.1,hs.ok k hk.2.2 hk.1,hz k hk.1 hk.2.2 hk.2.1,Nat.lt_of_lt_of_le hk.2.2 hs.size⟩)⟩;rw [hwo.2];exact h1
theorem tQ.go {c:Cz} {st:St} {w:World} {c':Cz} {aZ:St} {w':World} (h:Fw c st w c' aZ w') {s:Nat} {cs:List CV} (hb:tQ c st w s cs)
  (hx:c'.bx s=c.bx s) (ho:c'.own (c.bx s)=c.own (c.bx s)) (hw:w'.heap[c.bx s]?=w.heap[c.bx s]?):tQ c' aZ w' s cs:=by
 obtain ⟨h1,vs,ty,h2,h3⟩:=hb;exact ⟨by rw [hx,ho];exact h1,vs,ty,by rw [hx,hw];exact h2,h.O5 h3⟩
theorem MC (st:St) (d:Option Nat) (v:V) (t:Nat):bV (ba st d v) t=if d=some t∧t<st.length then v else bV st t:=by
 cases d with
 |none=>simp [ba]
 |some u=>
  unfold bV ba;rw [cU]
  by_cases h:t=u
  ·subst h;simp only [if_true,true_and]
   by_cases hl:t<st.length
   ·have:nth st t=some st[t]:=by rw [fX];exact List.getElem?_eq_getElem hl
    simp [this,hl]
   ·have:nth st t=none:=by rw [fX];exact List.getElem?_eq_none (by omega)
    simp [this,hl]
  ·have:¬(some u=some t∧t<st.length):=by rintro ⟨e,_⟩;exact h (Option.some.inj e).symm
   rw [if_neg h,if_neg this]
theorem rj (st:St) (d:Option Nat) (v:V) (s:Nat):∃f:Sl→Sl,(∀x,(f x).box=x.box∧(f x).bg=x.bg∧(f x).aO=x.aO∧(f x).ag=x.ag∧(f x).ep=x.ep)∧nth (ba st d v) s=(nth st s).map f:=by
 cases d with
 |none=>exact ⟨id,fun _=>⟨rfl,rfl,rfl,rfl,rfl⟩,by simp [ba]⟩
 |some t=>
  unfold ba
  by_cases h:s=t
  ·subst h;exact ⟨fun x=>{ x with v:=v },fun _=>⟨rfl,rfl,rfl,rfl,rfl⟩,fY _ _ _⟩
  ·exact ⟨id,fun _=>⟨rfl,rfl,rfl,rfl,rfl⟩,by simp [kS _ _ h]⟩
theorem MD (st:St) (d:Option Nat) (v:V) (a j g:Nat):aX (ba st d v) a j g=aX st a j g:=by
 obtain ⟨f,hf,hn⟩:=rj st d v a;unfold aX;rw [hn]
 cases nth st a with
 |none=>rfl
 |some s=>obtain ⟨_,_,h3,h4,_⟩:=hf s;simp [h3,h4]
theorem ME (st:St) (d:Option Nat) (v:V) (b g:Nat):cZ (ba st d v) b g=cZ st b g:=by
 obtain ⟨f,hf,hn⟩:=rj st d v b;unfold cZ;rw [hn]
 cases nth st b with
 |none=>rfl
 |some s=>obtain ⟨h1,h2,_,_,_⟩:=hf s;simp [h1,h2]
theorem MF (st:St) (d:Option Nat) (v:V) (a:Nat):cK (ba st d v) a=cK st a:=by
 obtain ⟨f,hf,hn⟩:=rj st d v a;unfold cK;rw [hn]
 cases nth st a with
 |none=>rfl
 |some s=>exact (hf s).2.2.2.1
theorem O7 (st:St) (d:Option Nat) (v:V) (a:Nat):j7 (ba st d v) a=j7 st a:=by
 obtain ⟨f,hf,hn⟩:=rj st d v a;unfold j7;rw [hn]
 cases nth st a with
 |none=>rfl
 |some s=>exact (hf s).2.2.2.2
theorem MG (st:St) (d:Option Nat) (v:V) (a:Nat):ff (ba st d v) a=ff st a:=by
 obtain ⟨f,hf,hn⟩:=rj st d v a;unfold ff;rw [hn]
 cases nth st a with
 |none=>rfl
 |some s=>exact (hf s).2.1
theorem iD.refl (w:World) (ok:Nat→Prop):iD w w ok ok:=⟨Nat.le_refl _,fun _ _ _=>rfl,fun _ _ h=>h⟩
theorem Fw.ba (c:Cz) (st:St) (w:World) (d:Option Nat) (v:V):Fw c st w c (ba st d v) w where
 stays:=iD.refl w _
 refs a j g A' _ h:=⟨A',by rwa [MD] at h,rfl,rfl,rfl,fun _=>⟨rfl,fun _ _ _ _=>rfl⟩⟩
 Bv b g lM _ h:=⟨⟨lM,by rwa [ME] at h⟩,rfl⟩
 gA a:=by rw [MF];exact Nat.le_refl _
 gB a:=by rw [MG];exact Nat.le_refl _
 gE a:=by rw [O7];exact Nat.le_refl _
theorem eval_put (a:Act) (d:Option Tmp) (v:Value) (t:Nat):(a.put d v).eval (.tmp t)=if d=some t∧t<a.tmps.size then v else a.eval (.tmp t):=by
 cases d with
 |none=>simp [Act.put]
 |some u=>
  simp only [Act.put,Act.eval,Array.getD_eq_getD_getElem?,Array.getElem?_setIfInBounds]
  by_cases h:u=t
  ·subst h
   by_cases hl:u<a.tmps.size<;>simp [hl]
  ·have:¬(some u=some t∧t<a.tmps.size):=by rintro ⟨e,_⟩;exact h (Option.some.inj e)
   rw [if_neg this];simp [h]
theorem Rel.ba {w0:World} {mu:Mu} {c:Cz} {st:St} {a:Act} {w:World} (h:Rel w0 mu c st a w) {d:Option Nat} {v:V} {u:Value}
  (hv:ej c st w v u) (hd:∀t,d=some t→t<a.tmps.size):Rel w0 mu c (ba st d v) (a.put d u) w where
 ea t:=by
  have hg:=Fw.ba c st w d v;rw [MC,eval_put]
  by_cases hdt:d=some t
  ·have:=hd t hdt
   by_cases hl:t<st.length
   ·rw [if_pos ⟨hdt,hl⟩,if_pos ⟨hdt,this⟩];exact hg.kP hv
   ·have e:bV st t=.one .bad:=by
     unfold bV;rw [fX,List.getElem?_eq_none (by omega)]
    rw [if_neg (fun h=>hl h.2),e];trivial
  ·rw [if_neg (fun h=>hdt h.1),if_neg (fun h=>hdt h.1)];exact hg.kP (h.ea t)
 boxes s sl cs hs hb:=by
  obtain ⟨f,hf,hn⟩:=rj st d v s;rw [hn] at hs
  cases hx:nth st s with
  |none=>rw [hx] at hs;simp at hs
  |some s0=>
   rw [hx] at hs;simp at hs;subst hs;rw [(hf s0).1] at hb;exact (h.boxes s s0 cs hx hb).go (Fw.ba c st w d v) rfl rfl rfl
 aO s j sl A hs hb:=by
  obtain ⟨f,hf,hn⟩:=rj st d v s;rw [hn] at hs
  cases hx:nth st s with
  |none=>rw [hx] at hs;simp at hs
  |some s0=>
   rw [hx] at hs;simp at hs;subst hs;rw [(hf s0).2.2.1] at hb;exact h.aO s j s0 A hx hb
 owned:=h.owned
 free:=h.free
 kept:=h.kept
 old:=h.old
 cV p hp:=(Fw.ba c st w d v).cV (h.cV p hp)
 mq:=h.mq
 plain:=by
  have:=h.plain
  cases d<;>simpa [Act.put] using this
theorem Rel.tR {w0:World} {mu:Mu} {c:Cz} {st:St} {a:Act} {w:World} (h:Rel w0 mu c st a w) {s j g:Nat} {A:gu} (hA:aX st s j g=some A):bO c w s j A:=by
 obtain ⟨sl,h1,_,h3⟩:=bd hA;exact h.aO s j sl A h1 h3
theorem bO.lt {c:Cz} {w:World} {s j:Nat} {A:gu} (h:bO c w s j A) {b off cap:Nat} (hl:c.lc s j=.at b off cap):b<w.heap.size:=by
 unfold bO at h;rw [hl] at h;obtain ⟨_,_,⟨cur,t,h3,_⟩,_⟩:=h;exact (Array.getElem?_eq_some_iff.1 h3).1
end Go.TM
namespace Go.TM
open Go Go.RowKit
def iE:RT→List Value→Prop
 |.nil,vs=>vs=[]
 |.cons (.int k) r,vs=>∃l,vs=.int k 0::l∧iE r l
 |.cons .bool r,vs=>∃l,vs=.bool false::l∧iE r l
 |.cons .str r,vs=>∃l,vs=.string ByteArray.empty::l∧iE r l
 |.cons (.sl _) r,vs=>∃l,vs=.slice none 0 0::l∧iE r l
def descOf:Ty→TypeDesc→Prop
 |.int k,d=>d=.int k
 |.bool,d=>d=.bool
 |.str,d=>d=.string
 |.sl _,_=>False
structure fi (P:Program) (T:kG):Prop where
 cells:∀t n,T.cells t=some n→(P.info? t).map (·.size)=some n
 agg:∀t n,T.cells t=some n→∃d,P.underlying t=some d∧d.isRow=T.agg t∧(T.agg t=false→n=1)
 off:∀t f k,T.off t f=some k→∃fs FR n,P.underlying t=some (.struct fs)∧fs[f]?=some FR∧FR.offset=k∧(P.info? FR.type).map (·.size)=some (n+1)
 bld:∀t,T.agg t=true→∃fs bW,P.underlying t=some (.struct fs)∧fs.toList.mapM (fun f=>(P.info? f.type).map fun i=>(f.offset,i.size))=some bW∧
  ∀f o s,T.off t f=some o→T.fsz t f=some s→bW[f]?=some (o,s)
 row:∀t r,T.row t=some r→∃i z,P.info? t=some i∧i.zero=some z∧iE r z.cells.toList
 elem:∀t r b,T.elem t=some (r,b)→∃e i z,P.underlying t=some (.slice e)∧P.info? e=some i∧i.size=r.width∧0<r.width∧i.bytes=b∧0<b∧i.zero=some z∧iE r z.cells.toList
 u8:∀t e b,T.elem t=some (.cons (.int .u8) .nil,b)→P.underlying t=some (.slice e)→P.underlying e=some (.int .u8)
 kind:∀t y,T.kind t=some y→∃d,P.underlying t=some d∧descOf y d
 one:∀t f,T.one t f=true→∃fs FR d,P.underlying t=some (.struct fs)∧fs[f]?=some FR∧P.underlying FR.type=some d∧d.isRow=false
theorem jh.one {c:Cz} {st:St} {w:World} {x:CV} {v:Value} (h:jh c st w x v) (hs:x.tP=true):v.oneCell'=true:=by
 cases x with
 |bad=>simp [CV.tP] at hs
 |int k n=>simp only [jh] at h;subst h;rfl
 |bool b=>simp only [jh] at h;subst h;rfl
 |str s=>simp only [jh] at h;subst h;rfl
 |dO=>simp only [jh] at h;subst h;rfl
 |JI=>simp only [jh] at h;subst h;rfl
 |shr r xs=>
  rcases (nh _ _ _ _ _).1 h with ⟨rfl,_⟩ | ⟨a,cap,rfl,_⟩<;>rfl
 |nn r xs=>
  rcases (nh _ _ _ _ _).1 h.1 with ⟨rfl,_⟩ | ⟨a,cap,rfl,_⟩<;>rfl
 |ref a j g vw=>exact h.1
 |ptr b g off=>exact h.1
 |HU a j g i off=>exact h.1
 |lL r x off=>obtain ⟨b,o,rfl,_⟩:=h;rfl
 |ti r x off=>obtain ⟨b,o,rfl,_⟩:=h;rfl
 |fn g rs xs=>obtain ⟨wS,rfl,_⟩:=h;rfl
 |JJ a j g e i k q ys=>exact h.1
 |pr a j g e i k q ys=>exact h.1
theorem MH {v:Value} (h:v.oneCell'=true):v.cells = #[v]:=by cases v<;>first | rfl | simp [Value.oneCell'] at h
theorem ej.cells {c:Cz} {st:St} {w:World} {x:V} {v:Value} (h:ej c st w x v) (hs:x.tP=true) :
  eM c st w x.cells v.cells.toList∧∀u∈v.cells.toList,u.oneCell'=true:=by
 cases x with
 |one x=>
  have h1:v.oneCell'=true:=jh.one (x:=x) h hs;rw [MH h1];refine ⟨⟨rfl,fun i y u hy hu => ?_⟩,fun u hu=>by simp at hu;rw [hu];exact h1⟩
  cases i with
  |zero=>simp [V.cells] at hy hu;rw [←hy,←hu];exact h
  |succ i=>simp [V.cells] at hy
 |agg cs=>
  obtain ⟨vs,rfl,hl⟩:=h;refine ⟨hl,fun u hu => ?_⟩;obtain ⟨i,hi,hu⟩:=List.mem_iff_getElem.1 hu;have TI:i<cs.length:=by rw [hl.1];exact hi
  have:=hl.2 i cs[i] u (List.getElem?_eq_getElem TI) (by rw [←hu];exact List.getElem?_eq_getElem hi);exact this.one (List.all_eq_true.1 hs _ (List.getElem_mem TI))
 |m9 us=>simp [V.tP] at hs
def Cz.iM (c:Cz) (d b:Nat):Cz:=
 { bx:=fun s=>if s=d then b else c.bx s,lc:=c.lc,own:=fun k=>if k=b then some (.box d) else c.own k,rs:=c.rs }
theorem wW (w:World) (o:Obj) (ok Ag:Nat→Prop) (h:∀b,b<w.heap.size→ok b→Ag b):iD w (w.alloc o) ok Ag where
 size:=by simp
 block b hb _:=heap_alloc_old w o b hb
 ok:=h
theorem Rel.kD {w0:World} {mu:Mu} {c:Cz} {st:St} {a:Act} {w:World} (h:Rel w0 mu c st a w) {b:Nat} {l:Lb} (hb:c.own b=some l):b<w.heap.size:=(h.owned b l hb).1
theorem Rel.iM {w0:World} {mu:Mu} {c:Cz} {st:St} {a:Act} {w:World} (h:Rel w0 mu c st a w) {d:Nat} {s0:Sl} {cs:List CV} {vs:Array Value} {ty:TypeId}
  (fT:nth st d=some s0) (hd:d<a.tmps.size) (hl:eM c st w cs vs.toList) :
  Rel w0 mu (c.iM d w.heap.size) (lX (fun s=>{ s with v:=.one (.ptr d (s0.bg+1) 0),box:=some cs,bg:=s0.bg+1 }) st d)
   (a.put (some d) (.pointer (some ⟨w.heap.size,0,none⟩))) (w.alloc (.cells vs ty (0,0))):=by
 have hn:∀s,nth (lX (fun s=>{ s with v:=.one (.ptr d (s0.bg+1) 0),box:=some cs,bg:=s0.bg+1 }) st d) s=
   if s=d then some { s0 with v:=.one (.ptr d (s0.bg+1) 0),box:=some cs,bg:=s0.bg+1 } else nth st s:=by
  intro s;rw [cU]
  by_cases e:s=d
  ·subst e;simp [fT]
  ·simp [e]
 generalize lX (fun s=>{ s with v:=.one (.ptr d (s0.bg+1) 0),box:=some cs,bg:=s0.bg+1 }) st d=aZ at hn ⊢;have fZ:∀b,b<w.heap.size→c.ok b→(c.iM d w.heap.size).ok b:=by
  intro b hb hc;unfold Cz.ok Cz.iM;simp only [if_neg (show b≠w.heap.size by omega)];exact hc
 have hA:∀a' j g,aX aZ a' j g=aX st a' j g:=by
  intro a' j g;unfold aX;rw [hn]
  by_cases e:a'=d
  ·subst e;simp [fT]
  ·simp [e]
 have hgA:∀a',cK aZ a'=cK st a':=by
  intro a';unfold cK;rw [hn]
  by_cases e:a'=d
  ·subst e;simp [fT]
  ·simp [e]
 have fj:Fw c st w (c.iM d w.heap.size) aZ (w.alloc (.cells vs ty (0,0))):={
  stays:=wW w _ _ _ fZ
  refs:=fun a' j g A' _ ee=>⟨A',by rw [←hA];exact ee,rfl,rfl,rfl,fun _=>⟨rfl,fun b o cap gN=>by
   exact heap_alloc_old w _ b ((h.tR (g:=g) (by rw [←hA];exact ee)).lt gN)⟩⟩
  Bv:=fun b g lM hg hb=>by
   unfold cZ at hb ⊢;rw [hn] at hb
   by_cases e:b=d
   ·subst e;simp only [if_true] at hb;unfold ff at hg;rw [fT] at hg;have:Nat.beq (s0.bg+1) g=false:=by
     cases hq:Nat.beq (s0.bg+1) g
     ·rfl
     ·have:=Nat.eq_of_beq_eq_true hq;simp at hg;omega
    simp [this] at hb
   ·simp only [e,if_false] at hb;exact ⟨⟨lM,hb⟩,by simp [Cz.iM,e]⟩
  gA:=fun a'=>by rw [hgA];exact Nat.le_refl _
  gB:=fun b=>by
   unfold ff;rw [hn]
   by_cases e:b=d
   ·subst e;simp [fT]
   ·simp [e]
  gE:=fun a'=>by
   unfold j7;rw [hn]
   by_cases e:a'=d
   ·subst e;simp [fT]
   ·simp [e] }
 exact {
  ea:=fun t=>by
   have e1:bV aZ t=if t=d then .one (.ptr d (s0.bg+1) 0) else bV st t:=by
    unfold bV;rw [hn]
    by_cases e:t=d<;>simp [e]
   rw [e1,eval_put]
   by_cases e:t=d
   ·subst e;simp only [if_true,true_and,hd];refine ⟨rfl,?_,fun lM JS=>by simp [Cz.iM]⟩;unfold ff;rw [hn];simp
   ·simp only [e,if_false];rw [if_neg (fun h=>e (Option.some.inj h.1).symm)];exact fj.kP (h.ea t)
  boxes:=fun s sl lM hs hb=>by
   rw [hn] at hs
   by_cases e:s=d
   ·subst e;simp only [if_true,Option.some.injEq] at hs;subst hs;simp only [Option.some.injEq] at hb;subst hb;exact ⟨by simp [Cz.iM],vs,ty,by simp only [Cz.iM,if_true];exact heap_alloc_new w _,fj.O5 hl⟩
   ·simp only [e,if_false] at hs;have UH:=h.boxes s sl lM hs hb;have cA:=h.kD UH.1;exact UH.go fj (by simp [Cz.iM,e]) (by simp only [Cz.iM];rw [if_neg (by omega)]) (heap_alloc_old w _ _ cA)
  aO:=fun s j sl A hs ee=>by
   rw [hn] at hs;have ha:bO c w s j A:=by
    by_cases e:s=d
    ·subst e;simp only [if_true,Option.some.injEq] at hs;subst hs;exact h.aO s j s0 A fT ee
    ·simp only [e,if_false] at hs;exact h.aO s j sl A hs ee
   refine ha.go fj.stays rfl (fun b hb => ?_);have cA:b<w.heap.size:=h.kD hb;exact ⟨heap_alloc_old w _ b cA,by simp only [Cz.iM];rw [if_neg (by omega)]⟩
  owned:=fun b l hb=>by
   simp only [Cz.iM] at hb
   by_cases e:b=w.heap.size
   ·subst e;exact ⟨by simp,.inr (.inl h.kept.2.2.2)⟩
   ·rw [if_neg e] at hb;have:=h.owned b l hb;exact ⟨Nat.lt_of_lt_of_le this.1 (by simp),this.2⟩
  free:=fun b hb h1=>by
   simp only [Cz.iM] at h1
   by_cases e:b=w.heap.size
   ·rw [if_pos e] at h1;cases h1
   ·rw [if_neg e] at h1;exact h.free b hb h1
  kept:=⟨h.kept.1,h.kept.2.1,h.kept.2.2.1,Nat.le_trans h.kept.2.2.2 (by simp)⟩
  old:=fun k hk hm=>by
   rw [heap_alloc_old w _ k (Nat.lt_of_lt_of_le hk h.kept.2.2.2)];exact h.old k hk hm
  cV:=fun p hp=>fj.cV (h.cV p hp)
  mq:=fun b l hb=>⟨Nat.lt_of_lt_of_le (h.mq b l hb).1 (by simp),(h.mq b l hb).2⟩
  plain:=h.plain }
end Go.TM
namespace Go.TM
open Go Go.RowKit
theorem bB {w0:World} {mu:Mu} {c:Cz} {st:St} {a:Act} {w:World} (h:Rel w0 mu c st a w) (x:Operand):ej c st w (lY st x) (a.eval x):=by
 unfold lY
 split<;>first | exact h.ea _ | rfl | trivial
theorem eM.take {c:Cz} {st:St} {w:World} {cs:List CV} {vs:List Value} (h:eM c st w cs vs) (off n:Nat):eM c st w ((cs.drop off).take n) ((vs.drop off).take n):=by
 refine ⟨by simp [h.1],fun i x v hx hv => ?_⟩;rw [List.getElem?_take] at hx hv
 by_cases hi:i<n
 ·rw [if_pos hi,List.getElem?_drop] at hx hv;exact h.2 _ x v hx hv
 ·rw [if_neg hi] at hx;simp at hx
theorem ji {n off:Nat} {cs l:List CV} (h:dN n off cs=some l):l=(cs.drop off).take n∧l.length=n:=by
 unfold dN at h;obtain ⟨h1,h2⟩:=aK h;have:=Option.some.inj h2;subst this;exact ⟨rfl,Nat.eq_of_beq_eq_true h1⟩
def valOf (agg:Bool) (vs:List Value):Value:=if agg then .agg vs.toArray else vs.headD undef
theorem sL {P:Program} {T:kG} (hT:fi P T) {t n:Nat} (ht:T.cells t=some n) (w:World) (b o:Nat) (vs:List Value) (hv:w.rangeAt b o vs) (hn:vs.length=n) :
  (loadVar t ⟨b,o,none⟩).run P w=.ok (valOf (T.agg t) vs) w:=by
 obtain ⟨d,hu,hd,h1⟩:=hT.agg t n ht
 cases hg:T.agg t with
 |true=>
  rw [hg] at hd;have:=run_loadVar_mid (P:=P) w b o t vs d hv hu hd (by rw [hT.cells t n ht,hn]);simpa [valOf] using this
 |false=>
  have hn1:=h1 hg;obtain ⟨v,rfl⟩:∃v,vs=[v]:=by
   cases vs with
   |nil=>simp at hn;omega
   |cons v l=>cases l with
    |nil=>exact ⟨v,rfl⟩
    |cons _ _=>simp at hn;omega
  have UI:(isAgg t).run P w=.ok false w:=by
   unfold isAgg;rw [Sem.run_bind,run_underlying hu w];rw [hg] at hd
   cases d<;>simp_all [TypeDesc.isRow]
  have hc:w.cell? ⟨b,o,none⟩=some v:=by have:=hv 0 v rfl;simpa using this
  simp [loadVar,Sem.run_bind,UI,valOf,run_load,hc]
theorem RS {c:Cz} {st:St} {w:World} {T:kG} {t:Nat} {l:List CV} {vs:List Value} (h:eM c st w l vs) (h1:T.agg t=false→l.length=1) :
  ej c st w (Mw T t l) (valOf (T.agg t) vs):=by
 unfold Mw valOf
 cases hg:T.agg t with
 |true=>exact ⟨vs.toArray,rfl,by simpa using h⟩
 |false=>
  have hl:=h1 hg
  cases l with
  |nil=>simp at hl
  |cons x l=>cases l with
   |cons _ _=>simp at hl
   |nil=>cases vs with
    |nil=>have:=h.1;simp at this
    |cons v vs=>exact h.2 0 x v rfl rfl
theorem Cs {w:World} {b off:Nat} {vs:Array Value} {ty:TypeId} {fr:Nat×Nat} (h:w.heap[b]?=some (.cells vs ty fr)) (n:Nat):w.rangeAt b off ((vs.toList.drop off).take n):=by
 intro j v hv;rw [cell_of_row w b (off+j) vs ty fr h];rw [List.getElem?_take] at hv
 by_cases hj:j<n
 ·rw [if_pos hj,List.getElem?_drop] at hv;simpa using hv
 ·rw [if_neg hj] at hv;simp at hv
theorem rk {w:World} {c:Cz} {st:St}:(r:RT)→(b off:Nat)→(x:aA r)→cE w c.ok r b off x→
  ∃vs,vs.length=r.width∧w.rangeAt b off vs∧eM c st w (dm r x) vs
 |.nil,_,_,_,_=>⟨[],rfl,fun j v h=>by simp at h,rfl,fun i x v h=>by simp [dm] at h⟩
 |.cons t r,b,off,x,h=>by
  unfold cE at h;obtain ⟨⟨v,hv,hx⟩,hr⟩:=h;obtain ⟨vs,h1,h2,h3,h4⟩:=rk r b (off+1) x.2 hr;refine ⟨v::vs,by simp [RT.width,h1],fun j u hu => ?_,by simp [dm,h3],fun i y u hy hu => ?_⟩
  ·cases j with
   |zero=>simp at hu;rw [←hu];exact hv
   |succ j=>
    simp at hu;have:=h2 j u hu;rw [show off+(j+1)=off+1+j by omega];exact this
  ·cases i with
   |zero=>
    simp [dm] at hy hu;subst hy hu
    cases t with
    |int k=>unfold bY at hx;exact hx
    |bool=>unfold bY at hx;exact hx
    |str=>unfold bY at hx;exact hx
    |sl q=>exact hx
   |succ i=>
    simp [dm] at hy hu;exact h4 i y u hy hu
theorem Dz {w:World} {P:List Nat→Nat→Prop} {c:Cz} {st:St} {a j g e i:Nat} {A:gu} {x0:aA A.r} {bb o cap:Nat} (hA:aX st a j g=some A) (he:e=j7 st a) (hg:g≤cK st a) (hm:A.md=.dp) (MI:A.xs[i]?=some x0) (gN:c.lc a j=.at bb o cap) :
  (r:RT)→(p:List Nat)→(k:Nat)→(x:aA r)→(∀k',kR r x k'=kR A.r x0 (k+k'))→eK w P r p k bb (o+i*A.r.width+k) x→
  ∃vs,vs.length=r.width∧w.rangeAt bb (o+i*A.r.width+k) vs∧eM c st w (qB a j g e i k r x) vs
 |.nil,_,_,_,_,_=>⟨[],rfl,fun j v h=>by simp at h,rfl,fun i x v h=>by simp [qB] at h⟩
 |.cons t r,p,k,x,hs,h=>by
  unfold eK at h;obtain ⟨⟨v,hv,hx⟩,hr⟩:=h;obtain ⟨vs,h1,h2,h3,h4⟩:=Dz hA he hg hm MI gN r p (k+1) x.2 (fun k'=>by
   rw [show k+1+k'=k+(k'+1) by omega,←hs]
   cases t<;>rfl) (by rw [show o+i*A.r.width+(k+1)=o+i*A.r.width+k+1 by omega];exact hr)
  refine ⟨v::vs,by simp [RT.width,h1],fun j u hu => ?_,by simp [qB,h3],fun i' y u hy hu => ?_⟩
  ·cases j with
   |zero=>simp at hu;rw [←hu];exact hv
   |succ j=>
    simp at hu;have:=h2 j u hu;rw [show o+i*A.r.width+k+(j+1)=o+i*A.r.width+(k+1)+j by omega];exact this
  ·cases i' with
   |zero=>
    simp [qB] at hy hu;subst hy hu
    cases t with
    |int k=>exact yV.1 hx
    |bool=>exact uK.1 hx
    |str=>exact yW.1 hx
    |sl q=>
     have hx:=(wV _ _ _ _ _ _).1 hx;obtain ⟨lc,_,q1,_⟩:=hx;refine ⟨q1,hg,by rw [he];exact Nat.le_refl _,fun A' ee _ => ?_⟩;rw [hA] at ee;cases ee;refine ⟨hm,⟨x0,MI,?_⟩,bb,o,cap,gN,hv⟩;have:=hs 0;rw [Nat.add_zero] at this;rw [←this];rfl
   |succ i'=>
    simp [qB] at hy hu;exact h4 i' y u hy hu
theorem pv {w:World} {b off:Nat} {vs:List Value} (h:w.rangeAt b off vs) (k n:Nat):w.rangeAt b (off+k) ((vs.drop k).take n):=by
 intro j v hv;rw [List.getElem?_take] at hv
 by_cases hj:j<n
 ·rw [if_pos hj,List.getElem?_drop] at hv;rw [Nat.add_assoc];exact h _ v hv
 ·rw [if_neg hj] at hv;simp at hv
def ia (w w':World):Prop:=w.heap.size≤w'.heap.size∧∀b,b<w.heap.size→w'.heap[b]?=w.heap[b]?
theorem ia.refl (w:World):ia w w:=⟨Nat.le_refl _,fun _ _=>rfl⟩
theorem ia.trans {w w' w'':World} (h:ia w w') (h':ia w' w''):ia w w'':=
 ⟨Nat.le_trans h.1 h'.1,fun b hb=>(h'.2 b (Nat.lt_of_lt_of_le hb h.1)).trans (h.2 b hb)⟩
theorem ia.alloc (w:World) (b:Obj):ia w (w.alloc b):=⟨by simp,fun k hk=>heap_alloc_old w b k hk⟩
theorem ia.range {w w':World} (h:ia w w') {b o:Nat} {vs:List Value} (hr:w.rangeAt b o vs):w'.rangeAt b o vs:=by
 intro j v hj;have h1:=hr j v hj;rw [World.cell?_of_block (w:=w) (h.2 b (LA h1))];exact h1
theorem HY {P:Program} {T:kG} (hT:fi P T) {w0:World} {mu:Mu} {c:Cz} {st:St} {a:Act} {w:World} (h:Rel w0 mu c st a w)
  {d:Option Nat} {t:Nat} {x:V} {u:Value} (hx:ej c st w x u) {aZ:St} (hv:(wg T st d t x).val=some aZ) (hd:∀k,d=some k→k<a.tmps.size) :
  ∃v,(∀w':World,ia w w'→(Instr.loadAt t u).run P w'=.ok v w')∧Rel w0 mu c aZ (a.put d v) w:=by
 have key:∀(b o n:Nat) (l:List CV) (vs:List Value),T.cells t=some n→u=.pointer (some ⟨b,o,none⟩)→w.rangeAt b o vs→vs.length=n→eM c st w l vs→
   (N.done (TM.ba st d (Mw T t l))).val=some aZ→∃v,(∀w':World,ia w w'→(Instr.loadAt t u).run P w'=.ok v w')∧Rel w0 mu c aZ (a.put d v) w:=by
  intro b o n l vs hn hu hr hlen hl rn;simp only [N.val,Option.some.injEq] at rn;subst rn;obtain ⟨dd,_,_,h1⟩:=hT.agg t n hn;refine ⟨valOf (T.agg t) vs,fun w' hk => ?_,h.ba (RS hl (fun hg=>by rw [hl.1,hlen];exact h1 hg)) hd⟩;subst hu;have hr':w'.rangeAt b o vs:=hk.range hr;simp only [Instr.loadAt,Instr.sureAddr,Sem.run_bind,Sem.run_pure,Result.andThen_ok,sL hT hn w' b o vs hr' hlen]
 cases hn:T.cells t with
 |none=>cases x with
  |one y=>cases y<;>simp [wg,hn,N.val] at hv
  |agg _=>simp [wg,N.val] at hv
  |m9 _=>simp [wg,N.val] at hv
 |some n=>cases x with
  |agg _=>simp [wg,N.val] at hv
  |m9 _=>simp [wg,N.val] at hv
  |one y=>cases y with
   |bad | int _ _ | bool _ | str _ | dO | JI | shr _ _ | nn _ _ | ref _ _ _ _ | fn _ _ _ | JJ _ _ _ _ _ _ _ _ | pr _ _ _ _ _ _ _ _=>simp [wg,N.val] at hv
   |ptr b g off=>
    simp only [wg,hn] at hv
    cases hb:cZ st b g with
    |none=>simp [hb,N.val] at hv
    |some cs=>
     simp only [hb] at hv
     cases Ai:dN n off cs with
     |none=>simp [Ai,N.val] at hv
     |some l=>
      simp only [Ai] at hv;obtain ⟨rfl,hlen⟩:=ji Ai;obtain ⟨sl,Ae,JT,Bp⟩:=im hb;obtain ⟨ho,vs,ty,hh,hl⟩:=h.boxes b sl cs Ae Bp;have hu:=hx.2.2 cs hb;refine key _ _ n _ ((vs.toList.drop off).take n) hn hu (Cs hh n) ?_ (hl.take off n) hv;rw [←(hl.take off n).1];exact hlen
   |lL r y off=>
    simp only [wg,hn] at hv
    cases Ai:dN n off (dm r y) with
    |none=>simp [Ai,N.val] at hv
    |some l=>
     simp only [Ai] at hv;obtain ⟨rfl,hlen⟩:=ji Ai;obtain ⟨b,o,hu,cA,fZ,DA⟩:=hx;obtain ⟨vs,h1,h2,h3⟩:=rk (st:=st) r b o y DA;refine key _ _ n _ ((vs.drop off).take n) hn hu (pv h2 off n) ?_ (h3.take off n) hv;rw [←(h3.take off n).1];exact hlen
   |ti r ys off=>
    simp only [wg,hn] at hv
    cases hy:ys[0]? with
    |none=>simp [hy,N.val] at hv
    |some y=>
    simp only [hy] at hv;change (match dN n off (dm r y) with | some l=>N.done (TM.ba st d (Mw T t l)) | none=>N.fail).val=some aZ at hv
    cases Ai:dN n off (dm r y) with
    |none=>simp [Ai,N.val] at hv
    |some l=>
     simp only [Ai] at hv;obtain ⟨rfl,hlen⟩:=ji Ai;obtain ⟨b,o,hu,cA,fZ,DA⟩:=hx;obtain ⟨vs,h1,h2,h3⟩:=rk (st:=st) r b o y (DA y hy);refine key _ _ n _ ((vs.drop off).take n) hn hu (pv h2 off n) ?_ (h3.take off n) hv;rw [←(h3.take off n).1];exact hlen
   |HU a' j g i off=>
    simp only [wg,hn] at hv
    cases hA:aX st a' j g with
    |none=>simp [hA,N.val] at hv
    |some A=>
     simp only [hA] at hv;obtain ⟨sl,Ae,JT,Bp⟩:=bd hA;have Fi:=h.aO a' j sl A Ae Bp;obtain ⟨hi,b,o,cap,gN,hu⟩:=hx.2.2 A hA;unfold bO at Fi;rw [gN] at Fi;obtain ⟨_,_,_,dj⟩:=Fi
     cases hm:A.md with
     |ho _=>rw [hm] at hv;simp [N.val] at hv
     |sh=>
      rw [hm] at hv;simp only at hv
      cases tk:A.xs[i]? with
      |none=>simp [tk,N.val] at hv
      |some y=>
       simp only [tk] at hv;change (match dN n off (dm A.r y) with | some l=>N.done (TM.ba st d (Mw T t l)) | none=>N.fail).val=some aZ at hv
       cases Ai:dN n off (dm A.r y) with
       |none=>simp [Ai,N.val] at hv
       |some l=>
        simp only [Ai] at hv;obtain ⟨rfl,hlen⟩:=ji Ai;obtain ⟨vs,h1,h2,h3⟩:=rk (st:=st) A.r b _ y ((bq.sh hm).1 dj i y tk);refine key _ _ n _ ((vs.drop off).take n) hn hu (pv h2 off n) ?_ (h3.take off n) hv;rw [←(h3.take off n).1];exact hlen
     |lz=>
      rw [hm] at hv;simp only at hv
      cases tk:A.xs[i]? with
      |none=>simp [tk,N.val] at hv
      |some y=>
       simp only [tk] at hv;change (match dN n off (dm A.r y) with | some l=>N.done (TM.ba st d (Mw T t l)) | none=>N.fail).val=some aZ at hv
       cases Ai:dN n off (dm A.r y) with
       |none=>simp [Ai,N.val] at hv
       |some l=>
        simp only [Ai] at hv;obtain ⟨rfl,hlen⟩:=ji Ai;unfold bq at dj;rw [hm] at dj;obtain ⟨gg,dj⟩:=dj;obtain ⟨vs,h1,h2,h3⟩:=rk (st:=st) A.r b _ y (eK.rep (ok:=c.ok) (fun p k hk=>hk.1.1) _ _ _ _ _ y (dj i y tk));refine key _ _ n _ ((vs.drop off).take n) hn hu (pv h2 off n) ?_ (h3.take off n) hv;rw [←(h3.take off n).1];exact hlen
     |dp=>
      rw [hm] at hv;simp only at hv
      cases tk:A.xs[i]? with
      |none=>simp [tk,N.val] at hv
      |some y=>
       simp only [tk] at hv;change (match dN n off (qB a' j g (j7 st a') i 0 A.r y) with | some l=>N.done (TM.ba st d (Mw T t l)) | none=>N.fail).val=some aZ at hv
       cases Ai:dN n off (qB a' j g (j7 st a') i 0 A.r y) with
       |none=>simp [Ai,N.val] at hv
       |some l=>
        simp only [Ai] at hv;obtain ⟨rfl,hlen⟩:=ji Ai;unfold bq at dj;rw [hm] at dj;obtain ⟨gg,_,dj⟩:=dj;obtain ⟨vs,h1,h2,h3⟩:=Dz (st:=st) hA rfl hx.2.1 hm tk gN A.r _ 0 y (fun k'=>by rw [Nat.zero_add]) (dj i y tk);rw [Nat.add_zero] at h2;refine key _ _ n _ ((vs.drop off).take n) hn hu (pv h2 off n) ?_ (h3.take off n) hv;rw [←(h3.take off n).1];exact hlen
end Go.TM
namespace Go.TM
open Go Go.RowKit
def cF (w:World) (ok:Nat→Prop):(r:RT)→List Value→aA r→Prop
 |.nil,vs,_=>vs=[]
 |.cons t r,vs,x=>∃v l,vs=v::l∧bY w ok t v x.1∧cF w ok r l x.2
theorem cF.length {w:World} {ok:Nat→Prop}:(r:RT)→(vs:List Value)→(x:aA r)→cF w ok r vs x→vs.length=r.width
 |.nil,vs,_,h=>by simp only [cF] at h;subst h;rfl
 |.cons t r,vs,x,h=>by
  obtain ⟨v,l,rfl,_,h⟩:=h;simp [RT.width,cF.length r l x.2 h]
theorem j8 {w:World} {ok:Nat→Prop}:(r:RT)→(b off:Nat)→(x:aA r)→(cE w ok r b off x↔∃vs,w.rangeAt b off vs∧cF w ok r vs x)
 |.nil,_,_,_=>by
  unfold cE;exact ⟨fun _=>⟨[],fun j v h=>by simp at h,rfl⟩,fun _=>trivial⟩
 |.cons t r,b,off,x=>by
  unfold cE
  constructor
  ·rintro ⟨⟨v,hv,hx⟩,hr⟩
   obtain ⟨vs,h1,h2⟩:=(j8 r b (off+1) x.2).1 hr;refine ⟨v::vs,fun j u hu => ?_,v,vs,rfl,hx,h2⟩
   cases j with
   |zero=>simp at hu;rw [←hu];exact hv
   |succ j=>
    simp at hu;rw [show off+(j+1)=off+1+j by omega];exact h1 j u hu
  ·rintro ⟨vs,h1,v,l,rfl,hx,h2⟩
   refine ⟨⟨v,h1 0 v rfl,hx⟩,(j8 r b (off+1) x.2).2 ⟨l,fun j u hu => ?_,h2⟩⟩;have:=h1 (j+1) u (by simpa using hu);rw [show off+1+j=off+(j+1) by omega];exact this
theorem cF.stays {w w':World} {ok Ag:Nat→Prop} (h:iD w w' ok Ag):(r:RT)→(vs:List Value)→(x:aA r)→cF w ok r vs x→cF w' Ag r vs x
 |.nil,_,_,hr=>hr
 |.cons t r,_,x,⟨v,l,e,hx,hr⟩=>⟨v,l,e,bY.stays h t v x.1 hx,cF.stays h r l x.2 hr⟩
theorem DB {w:World} {c:Cz} {st:St}:(r:RT)→(x:aA r)→(k:Nat)→(y:CV)→(z:aA r)→(vs:List Value)→(u:Value)→
  fJ r x k y=some z→jh c st w y u→cF w c.ok r vs x→cF w c.ok r (vs.set k u) z
 |.nil,_,_,_,_,_,_,h,_,_=>by simp [fJ] at h
 |.cons t r,x,0,y,z,vs,u,h,hu,hv=>by
  obtain ⟨v,l,rfl,hx,hr⟩:=hv
  cases t with
  |int k=>
   cases y<;>simp [fJ] at h
   obtain ⟨rfl,h⟩:=h;obtain rfl:=Option.some.inj h;refine ⟨u,l,rfl,?_,hr⟩;unfold bY;exact hu
  |bool=>
   cases y<;>simp [fJ] at h
   obtain rfl:=Option.some.inj h;refine ⟨u,l,rfl,?_,hr⟩;unfold bY;exact hu
  |str=>
   cases y<;>simp [fJ] at h
   obtain rfl:=Option.some.inj h;refine ⟨u,l,rfl,?_,hr⟩;unfold bY;exact hu
  |sl q=>cases y<;>simp [fJ] at h
 |.cons t r,x,k+1,y,z,vs,u,h,hu,hv=>by
  obtain ⟨v,l,rfl,hx,hr⟩:=hv;have h':(fJ r x.2 k y).map (fun z=>((x.1,z):aA (.cons t r)))=some z:=by cases t<;>(simp only [fJ] at h;exact h)
  cases hq:fJ r x.2 k y with
  |none=>simp [hq] at h'
  |some z'=>
   rw [hq] at h';obtain rfl:=Option.some.inj h';exact ⟨v,l.set k u,rfl,hx,DB r x.2 k y z' l u hq hu hr⟩
def bG (vs:List Value) (off:Nat) (us:List Value):List Value:=vs.take off++us++vs.drop (off+us.length)
theorem Ct {vs:List Value} {off:Nat} {u:Value} {us:List Value} (h:off<vs.length):bG vs off (u::us)=(bG vs (off+1) us).set off u:=by
 unfold bG;apply List.ext_getElem?;intro k;simp only [List.getElem?_set,List.getElem?_append,List.length_append,List.length_take,List.length_cons,List.getElem?_drop,List.getElem?_cons]
 by_cases h1:k<off
 ·have a1:min off vs.length=off:=by omega
  have a2:min (off+1) vs.length=off+1:=by omega
  have a3:off≠k:=by omega
  simp only [a1,a2,a3,if_false,h1,show k<off+(us.length+1) by omega,show k<off+1+us.length by omega,show k<off+1 by omega,if_true,List.getElem?_take]
 ·by_cases h2:k=off
  ·subst h2;have a1:min k vs.length=k:=by omega
   have a2:min (k+1) vs.length=k+1:=by omega
   have a3:min k vs.length-k=0:=by omega
   simp [a1,a2,h];omega
  ·have a1:min off vs.length=off:=by omega
   have a2:min (off+1) vs.length=off+1:=by omega
   obtain ⟨m,rfl⟩:∃m,k=off+1+m:=⟨k-(off+1),by omega⟩;have a3:off≠off+1+m:=by omega
   simp only [a1,a2,a3,if_false,show ¬off+1+m<off by omega,show off+1+m-off=m+1 by omega,show ¬off+1+m<off+1 by omega,show off+1+m-(off+1)=m by omega,
    Nat.add_one_ne_zero,Nat.add_sub_cancel]
   by_cases h3:m<us.length
   ·rw [if_pos (by omega),if_pos (by omega)]
   ·rw [if_neg (by omega),if_neg (by omega)]
    congr 1
    omega
theorem dP {vs:List Value} {off:Nat} {us:List Value} (h:off+us.length≤vs.length):(bG vs off us).length=vs.length:=by
 unfold bG;simp;omega
theorem DC {w:World} {c:Cz} {st:St} (r:RT) (x:aA r):(off:Nat)→(cs:List CV)→(z:aA r)→(vs us:List Value)→off+us.length≤vs.length→
  jY r x off cs=some z→eM c st w cs us→cF w c.ok r vs x→cF w c.ok r (bG vs off us) z
 |off,[],z,vs,us,_,h,hl,hv=>by
  have:us=[]:=by have:=hl.1;simp at this;exact List.length_eq_zero_iff.1 this.symm
  subst this;simp [jY] at h;subst h;simp [bG];exact hv
 |off,y::l,z,vs,us,hle,h,hl,hv=>by
  cases us with
  |nil=>have:=hl.1;simp at this
  |cons u us=>
   simp only [jY] at h
   cases hq:jY r x (off+1) l with
   |none=>simp [hq] at h
   |some y'=>
    simp only [hq] at h;simp at hle;have ih:=DC r x (off+1) l y' vs us (by omega) hq ⟨by have:=hl.1;simpa using this,fun i a b ha hb=>hl.2 (i+1) a b (by simpa using ha) (by simpa using hb)⟩ hv;rw [Ct (by omega)];exact DB r y' off y z _ u h (hl.2 0 y u rfl rfl) ih
theorem qC {w:World} {c:Cz} {b:Nat} {l:Lb} (hb:c.own b=some l) (cur:Array Value):iD w (w.setRow b cur) c.ok c.ok where
 size:=by simp [World.setRow]
 block k _ hk:=setRow_other w b k cur (fun e=>by subst e;unfold Cz.ok at hk;rw [hb] at hk;cases hk)
 ok _ _ h:=h
theorem jO {P:Program} {T:kG} (hT:fi P T) {t n:Nat} (ht:T.cells t=some n) (w:World) (b o:Nat) (v:Value) (hn:v.cells.toList.length=n) (h1:∀u∈v.cells.toList,u.oneCell'=true)
  {cur:Array Value} {ty:TypeId} (hg:w.heap[b]?=some (.cells cur ty (0,0))) (hle:o+n≤cur.size) :
  (Instr.storeAt t (.pointer (some ⟨b,o,none⟩)) v).run P w=.ok () (w.setRow b (bG cur.toList o v.cells.toList).toArray):=by
 have hs:=run_storeCells_at P b o ty v.cells.toList 0 cur w hg (by omega) h1;have hi:=hT.cells t n ht
 cases hq:P.info? t with
 |none=>simp [hq] at hi
 |some i=>
  have jP:v.cells.size=i.size:=by simp [hq] at hi;rw [hi,←hn];simp
  simp only [Nat.add_zero] at hs;simp [Instr.storeAt,Instr.sureAddr,storeVar,sizeOf,typeInfo,hq,jP,hs,bG]
end Go.TM
namespace Go.TM
open Go Go.RowKit
theorem View.uN {α:Type} (vw:View) (xs:List α) {i:Nat} {x:α} (h:(vw.app xs)[i]?=some x):xs[vw.lo+i]?=some x:=by
 cases vw with
 |full=>simpa [View.app,View.lo] using h
 |«from» lo=>simpa [View.app,View.lo,List.getElem?_drop] using h
 |sub lo n=>
  simp only [View.app,View.lo,List.getElem?_take,List.getElem?_drop] at h ⊢
  by_cases hi:i<n
  ·rwa [if_pos hi] at h
  ·rw [if_neg hi] at h;simp at h
theorem Aj {c:Cz} {w:World} {s j:Nat} {A:gu} (h:bO c w s j A) {vw:View} {u:Value} (hu:fh (c.lc s j) A.r.width vw.lo (vw.app A.xs).length u)
  {ok:Nat→Prop} (h1:∀b,c.ok b→ok b) (h2:∀b,A.own=true∨A.md=.dp→c.own b=some (.sp s j)→ok b) (sM:A.md.Fc=false):bY w ok (.sl A.r) u (vw.app A.xs):=by
 rw [nh]
 cases hl:c.lc s j with
 |nil=>
  unfold fh at hu;rw [hl] at hu;obtain ⟨rfl,hn⟩:=hu;exact .inl ⟨rfl,List.length_eq_zero_iff.1 hn⟩
 |«at» b off cap=>
  unfold fh at hu;rw [hl] at hu;obtain ⟨a,k,rfl,hk,yw,ha⟩:=hu;unfold bO at h;rw [hl] at h;obtain ⟨h0,_,⟨cur,ty,h3,_⟩,h5⟩:=h;have h5:∀(i:Nat) x,A.xs[i]?=some x→cE w ok A.r b (off+i*A.r.width) x:=by
   unfold bq at h5
   cases hm:A.md with
   |sh=>rw [hm] at h5;exact fun i x hx=>cE.stays ⟨Nat.le_refl _,fun _ _ _=>rfl,fun b _ hb=>h1 b hb⟩ _ _ _ x rfl (h5 i x hx)
   |dp=>
    rw [hm] at h5;obtain ⟨g,_,h5⟩:=h5;exact fun i x hx=>eK.rep (fun p k hk=>h2 k (.inr hm) hk.1) _ _ _ _ _ x (h5 i x hx)
   |lz=>
    rw [hm] at h5;obtain ⟨g,h5⟩:=h5;exact fun i x hx=>eK.rep (fun p k hk=>h1 k hk.1.1) _ _ _ _ _ x (h5 i x hx)
   |ho _=>rw [hm] at sM;cases sM
  have hob:ok b:=by
   cases ho:A.own with
   |true=>rw [ho] at h0;exact h2 b (.inl ho) h0
   |false=>rw [ho] at h0;exact h1 b h0
  have hs:iD w w c.ok ok:=⟨Nat.le_refl _,fun _ _ _=>rfl,fun b _ hb=>h1 b hb⟩;refine .inr ⟨a,k,rfl,hk,fun eH => ?_,fun i x hi => ?_⟩
  ·have:k≠0:=by
    have:=List.length_pos_iff.2 eH;omega
   rw [ha this];exact ⟨rfl,(Array.getElem?_eq_some_iff.1 h3).1,hob⟩
  ·have hk0:k≠0:=by
    have:=(List.getElem?_eq_some_iff.1 hi).1;omega
   rw [ha hk0];have:=h5 _ x (View.uN vw A.xs hi);have e:off+vw.lo*A.r.width+i*A.r.width=off+(vw.lo+i)*A.r.width:=by rw [Nat.add_mul];omega
   show cE w ok A.r b (off+vw.lo*A.r.width+i*A.r.width) x;rw [e];exact this
theorem bm {r s:RT} {xs:List (aA r)} {ys:List (aA s)} (h:bH s xs=some ys):∃e:r=s,ys=e▸xs:=by
 unfold bH at h
 cases hq:RT.eq? r s with
 |none=>simp [hq] at h
 |some p=>obtain ⟨e⟩:=p;simp [hq] at h;exact ⟨e,h.symm⟩
def Cz.drop1 (c:Cz) (a j:Nat):Cz:=
 { c with own:=fun k=>match c.own k with | some (.sp s i)=>if s=a∧i=j then none else some (.sp s i) | l=>l }
theorem Cz.Ak {c:Cz} {a j b:Nat} (h:c.ok b):(c.drop1 a j).ok b:=by
 unfold Cz.ok Cz.drop1 at *;simp [h]
theorem Cz.DD {c:Cz} {a j b:Nat} (h:c.own b=some (.sp a j)):(c.drop1 a j).ok b:=by
 unfold Cz.ok Cz.drop1;simp [h]
theorem Cz.JU {c:Cz} {a j b:Nat} {l:Lb} (h:(c.drop1 a j).own b=some l):c.own b=some l:=by
 unfold Cz.drop1 at h;simp only at h
 cases hc:c.own b with
 |none=>simp [hc] at h
 |some l'=>cases l' with
  |box s=>simp [hc] at h;rw [h]
  |out=>simp [hc] at h;rw [h]
  |cf i k=>simp [hc] at h;rw [h]
  |sC i=>simp [hc] at h;rw [h]
  |ja k=>simp [hc] at h;rw [h]
  |sp s i=>
   simp only [hc] at h
   by_cases e:s=a∧i=j
   ·simp [e] at h
   ·rw [if_neg e] at h;exact h
theorem Cz.rp {c:Cz} {a j b:Nat} {l:Lb} (h:c.own b=some l) (eH:l≠.sp a j):(c.drop1 a j).own b=some l:=by
 unfold Cz.drop1;simp only [h]
 cases l with
 |box s=>rfl
 |out=>rfl
 |cf i k=>rfl
 |sC i=>rfl
 |ja k=>rfl
 |sp s i=>
  simp only;rw [if_neg]
  rintro ⟨rfl,rfl⟩
  exact eH rfl
def eI (st:St) (a j:Nat):St:=lX (fun s=>{ s with aO:=lX (fun A=>A.map gu.fz) s.aO j,ep:=s.ep+1 }) st a
theorem HZ (st:St) (a j:Nat) (l:List (Nat×Nat)):freeze st ((a,j)::l)=freeze (eI st a j) l:=rfl
theorem iF (st:St) (a j s:Nat):∃f:Sl→Sl,(∀x,(f x).v=x.v∧(f x).box=x.box∧(f x).bg=x.bg∧(f x).ag=x.ag∧
   (∀i,nth (f x).aO i=if s=a∧i=j then (nth x.aO i).map (fun A=>A.map gu.fz) else nth x.aO i)∧(f x).ep=if s=a then x.ep+1 else x.ep)∧nth (eI st a j) s=(nth st s).map f:=by
 unfold eI
 by_cases h:s=a
 ·subst h;refine ⟨fun s=>{ s with aO:=lX (fun A=>A.map gu.fz) s.aO j,ep:=s.ep+1 },fun x=>⟨rfl,rfl,rfl,rfl,fun i => ?_,by simp⟩,fY _ _ _⟩;simp only [cU,true_and]
 ·refine ⟨id,fun x=>⟨rfl,rfl,rfl,rfl,fun i => ?_,by simp [h]⟩,by rw [kS _ _ h];simp⟩;simp [h]
theorem Cu (st:St) (a j b:Nat):j7 st b≤j7 (eI st a j) b∧(j7 (eI st a j) b=j7 st b→b≠a∨nth st b=none):=by
 obtain ⟨f,hf,hn⟩:=iF st a j b;unfold j7;rw [hn]
 cases hx:nth st b with
 |none=>simp
 |some x=>
  simp only [Option.map_some];rw [(hf x).2.2.2.2.2]
  by_cases e:b=a
  ·rw [if_pos e];exact ⟨by omega,fun h=>by omega⟩
  ·rw [if_neg e];exact ⟨Nat.le_refl _,fun _=>.inl e⟩
theorem G4 (st:St) (a j t:Nat):bV (eI st a j) t=bV st t:=by
 obtain ⟨f,hf,hn⟩:=iF st a j t;unfold bV;rw [hn]
 cases nth st t with
 |none=>rfl
 |some x=>exact (hf x).1
theorem G5 {st:St} {a j a' j' g:Nat} {A':gu} (h:aX (eI st a j) a' j' g=some A'):∃A,aX st a' j' g=some A∧A'.r.width=A.r.width∧A'.xs.length=A.xs.length∧(a'≠a→A'=A):=by
 obtain ⟨sl,h1,h2,h3⟩:=bd h;obtain ⟨f,hf,hn⟩:=iF st a j a';rw [hn] at h1
 cases hx:nth st a' with
 |none=>rw [hx] at h1;simp at h1
 |some x=>
  rw [hx] at h1;simp at h1;subst h1;obtain ⟨_,_,_,f4,f5,_⟩:=hf x;rw [f5] at h3;rw [f4] at h2;have key:∃A,nth x.aO j'=some (some A)∧A'.r.width=A.r.width∧A'.xs.length=A.xs.length∧(a'≠a→A'=A):=by
   by_cases e:a'=a∧j'=j
   ·rw [if_pos e] at h3
    cases hj:nth x.aO j' with
    |none=>simp [hj] at h3
    |some o=>cases o with
     |none=>simp [hj] at h3
     |some A=>simp [hj] at h3;subst h3;exact ⟨A,rfl,rfl,rfl,fun h=>absurd e.1 h⟩
   ·rw [if_neg e] at h3;exact ⟨A',h3,rfl,rfl,fun _=>rfl⟩
  obtain ⟨A,k1,k2,k3⟩:=key;refine ⟨A,?_,k2,k3⟩;unfold aX;rw [hx];have:Nat.beq x.ag g=true:=by rw [h2];exact Nat.beq_refl g
  simp [this,k1]
theorem G6 (st:St) (a j b g:Nat):cZ (eI st a j) b g=cZ st b g:=by
 obtain ⟨f,hf,hn⟩:=iF st a j b;unfold cZ;rw [hn]
 cases nth st b with
 |none=>rfl
 |some x=>obtain ⟨_,h2,h3,_⟩:=hf x;simp [h2,h3]
theorem G7 (st:St) (a j b:Nat):cK (eI st a j) b=cK st b:=by
 obtain ⟨f,hf,hn⟩:=iF st a j b;unfold cK;rw [hn]
 cases nth st b with
 |none=>rfl
 |some x=>exact (hf x).2.2.2.1
theorem G8 (st:St) (a j b:Nat):ff (eI st a j) b=ff st b:=by
 obtain ⟨f,hf,hn⟩:=iF st a j b;unfold ff;rw [hn]
 cases nth st b with
 |none=>rfl
 |some x=>exact (hf x).2.2.1
theorem Fw.eI (c:Cz) (st:St) (w:World) (a j:Nat):Fw c st w (c.drop1 a j) (eI st a j) w where
 stays:=⟨Nat.le_refl _,fun _ _ _=>rfl,fun _ _ h=>Cz.Ak h⟩
 refs a' j' g A' _ ee:=by
  obtain ⟨A,h1,h2,h3,h4⟩:=G5 ee;refine ⟨A,h1,h2,h3,rfl,fun he=>⟨?_,fun _ _ _ _=>rfl⟩⟩;rcases (Cu st a j a').2 he with e | e
  ·exact h4 e
  ·unfold aX at h1;rw [e] at h1;cases h1
 Bv b g lM _ h:=⟨⟨lM,by rwa [G6] at h⟩,rfl⟩
 gA b:=by rw [G7];exact Nat.le_refl _
 gB b:=by rw [G8];exact Nat.le_refl _
 gE b:=(Cu st a j b).1
theorem Rel.eI {w0:World} {mu:Mu} {c:Cz} {st:St} {a:Act} {w:World} (h:Rel w0 mu c st a w) (s j:Nat):Rel w0 mu (c.drop1 s j) (eI st s j) a w where
 ea t:=by rw [G4];exact (Fw.eI c st w s j).kP (h.ea t)
 boxes b sl cs hs hb:=by
  obtain ⟨f,hf,hn⟩:=iF st s j b;rw [hn] at hs
  cases hx:nth st b with
  |none=>rw [hx] at hs;simp at hs
  |some x=>
   rw [hx] at hs;simp at hs;subst hs;rw [(hf x).2.1] at hb;have h0:=h.boxes b x cs hx hb;exact h0.go (Fw.eI c st w s j) rfl (by rw [h0.1];exact Cz.rp h0.1 (by simp)) rfl
 aO b i sl A hs hb:=by
  obtain ⟨f,hf,hn⟩:=iF st s j b;rw [hn] at hs
  cases hx:nth st b with
  |none=>rw [hx] at hs;simp at hs
  |some x=>
   rw [hx] at hs;simp at hs;subst hs;rw [(hf x).2.2.2.2.1 i] at hb
   by_cases e:b=s∧i=j
   ·rw [if_pos e] at hb
    cases hj:nth x.aO i with
    |none=>simp [hj] at hb
    |some o=>cases o with
     |none=>simp [hj] at hb
     |some B=>
      simp [hj] at hb;subst hb;have h0:=h.aO b i x B hx hj;unfold bO at h0 ⊢;show match c.lc b i with | .nil=>_ | .at b off cap=>_
      cases hl:c.lc b i with
      |nil=>rw [hl] at h0;exact h0
      |«at» k off cap=>
       rw [hl] at h0;obtain ⟨h1,h2,h3,h4⟩:=h0;refine ⟨?_,h2,h3,?_⟩
       ·show (c.drop1 s j).own k=none
        cases ho:B.own with
        |true=>rw [ho] at h1;obtain ⟨rfl,rfl⟩:=e;exact Cz.DD h1
        |false=>rw [ho] at h1;exact Cz.Ak h1
       ·unfold bq at h4 ⊢;show match B.md.fz with | .sh=>_ | .dp=>_ | .ho _=>_ | .lz=>_
        cases hm:B.md with
        |sh=>rw [hm] at h4;exact fun i x hi=>cE.stays (Fw.eI c st w s j).stays _ _ _ x rfl (h4 i x hi)
        |dp=>
         rw [hm] at h4;obtain ⟨g,_,h4⟩:=h4;obtain ⟨rfl,rfl⟩:=e;exact fun i x hi=>eK.rep (fun p k hk=>Cz.DD hk.1) _ _ _ _ _ x (h4 i x hi)
        |lz=>
         rw [hm] at h4;obtain ⟨g,h4⟩:=h4;exact fun i x hi=>eK.rep (fun p k hk=>Cz.Ak hk.1.1) _ _ _ _ _ x (h4 i x hi)
        |ho q=>exact fun e=>by cases e
   ·rw [if_neg e] at hb;have h0:=h.aO b i x A hx hb;refine h0.go (Fw.eI c st w s j).stays rfl (fun k h1=>⟨rfl,?_⟩);rw [h1];exact Cz.rp h1 (by rintro e';injection e' with e1 e2;exact e ⟨e1,e2⟩)
 owned b l hb:=h.owned b l (Cz.JU hb)
 free b hb h1:=by
  cases hc:c.own b with
  |none=>exact h.free b hb hc
  |some l=>
   rcases (h.owned b l hc).2 with h2 | h2 | h2
   ·subst h2;unfold Cz.drop1 at h1;simp [hc] at h1
   ·omega
   ·exact .inl h2
 kept:=h.kept
 old:=h.old
 cV p hp:=(Fw.eI c st w s j).cV (h.cV p hp)
 mq:=h.mq
 plain:=h.plain
def Cz.drop (c:Cz):List (Nat×Nat)→Cz
 | []=>c
 |(a,j)::l=>(c.drop1 a j).drop l
theorem Rel.freeze {w0:World} {mu:Mu} {a:Act} {w:World}:(m:List (Nat×Nat))→{c:Cz}→{st:St}→Rel w0 mu c st a w→Rel w0 mu (c.drop m) (freeze st m) a w
 | [],_,_,h=>h
 |(s,j)::m,_,_,h=>Rel.freeze m (h.eI s j)
theorem Cz.uO:(m:List (Nat×Nat))→(c:Cz)→(b:Nat)→c.ok b→(c.drop m).ok b
 | [],_,_,h=>h
 |(a,j)::m,c,b,h=>Cz.uO m (c.drop1 a j) b (Cz.Ak h)
theorem Cz.xT:(m:List (Nat×Nat))→(c:Cz)→(b:Nat)→{a j:Nat}→c.own b=some (.sp a j)→(a,j)∈m→(c.drop m).ok b
 | [],_,_,_,_,_,h=>by simp at h
 |(a',j')::m,c,b,a,j,h,hm=>by
  by_cases e:a'=a∧j'=j
  ·obtain ⟨rfl,rfl⟩:=e;exact Cz.uO m _ b (Cz.DD h)
  ·refine Cz.xT m (c.drop1 a' j') b (Cz.rp h (by rintro e';injection e' with e1 e2;exact e ⟨e1.symm,e2.symm⟩)) ?_;rcases List.mem_cons.1 hm with h' | h'
   ·injection h' with e1 e2;exact absurd ⟨e1.symm,e2.symm⟩ e
   ·exact h'
theorem Cz.G9:(m:List (Nat×Nat))→(c:Cz)→(c.drop m).lc=c.lc∧(c.drop m).bx=c.bx
 | [],_=>⟨rfl,rfl⟩
 |(a,j)::m,c=>Cz.G9 m (c.drop1 a j)
theorem Cz.Bw:(m:List (Nat×Nat))→(c:Cz)→(b:Nat)→{l:Lb}→c.own b=some l→(∀p∈m,l≠.sp p.1 p.2)→(c.drop m).own b=some l
 | [],_,_,_,h,_=>h
 |(a,j)::m,c,b,l,h,hm=>Cz.Bw m (c.drop1 a j) b (Cz.rp h (hm (a,j) (by simp))) (fun p hp=>hm p (by simp [hp]))
theorem Fw.trans {c c1 c2:Cz} {st xU gP:St} {w w1 w2:World} (h:Fw c st w c1 xU w1) (k:Fw c1 xU w1 c2 gP w2):Fw c st w c2 gP w2 where
 stays:=⟨Nat.le_trans h.stays.size k.stays.size,fun b hb ho=>(k.stays.block b (Nat.lt_of_lt_of_le hb h.stays.size) (h.stays.ok b hb ho)).trans (h.stays.block b hb ho),
  fun b hb ho=>k.stays.ok b (Nat.lt_of_lt_of_le hb h.stays.size) (h.stays.ok b hb ho)⟩
 refs a j g A' hg ee:=by
  obtain ⟨A1,h1,h2,h3,h4,h5⟩:=k.refs a j g A' (Nat.le_trans hg (h.gA a)) ee;obtain ⟨A,k1,k2,k3,k4,k5⟩:=h.refs a j g A1 hg h1;refine ⟨A,k1,h2.trans k2,h3.trans k3,h4.trans k4,fun he => ?_⟩;have g1:=h.gE a;have g2:=k.gE a;obtain ⟨e1,e2⟩:=h5 (by omega);obtain ⟨e3,e4⟩:=k5 (by omega);exact ⟨e1.trans e3,fun b o cap hl=>(e2 b o cap (by rw [k4];exact hl)).trans (e4 b o cap hl)⟩
 Bv b g lM hg hb:=by
  obtain ⟨⟨cs1,h1⟩,h2⟩:=k.Bv b g lM (Nat.le_trans hg (h.gB b)) hb;obtain ⟨h3,h4⟩:=h.Bv b g cs1 hg h1;exact ⟨h3,h2.trans h4⟩
 gA a:=Nat.le_trans (h.gA a) (k.gA a)
 gB b:=Nat.le_trans (h.gB b) (k.gB b)
 gE b:=Nat.le_trans (h.gE b) (k.gE b)
theorem Fw.refl (c:Cz) (st:St) (w:World):Fw c st w c st w:=⟨iD.refl w _,fun _ _ _ A' _ h=>⟨A',h,rfl,rfl,rfl,fun _=>⟨rfl,fun _ _ _ _=>rfl⟩⟩,fun _ _ lM _ h=>⟨⟨lM,h⟩,rfl⟩,fun _=>Nat.le_refl _,fun _=>Nat.le_refl _,fun _=>Nat.le_refl _⟩
theorem Fw.freeze (w:World):(m:List (Nat×Nat))→(c:Cz)→(st:St)→Fw c st w (c.drop m) (freeze st m) w
 | [],c,st=>Fw.refl c st w
 |(a,j)::m,c,st=>(Fw.eI c st w a j).trans (Fw.freeze w m (c.drop1 a j) (TM.eI st a j))
theorem Al {w0:World} {mu:Mu} {c:Cz} {st:St} {a:Act} {w:World} (h:Rel w0 mu c st a w):(r:RT)→(cs:List CV)→(us:List Value)→eM c st w cs us→
  (k:aA r→List (Nat×Nat)→N)→{aZ:St}→(rowOf st r cs k).val=some aZ→
  ∃x m,(k x m).val=some aZ∧(∀p∈m,∃g A,aX st p.1 p.2 g=some A)∧
   ∀ok:Nat→Prop,(∀b,c.ok b→ok b)→(∀p∈m,∀b,c.own b=some (.sp p.1 p.2)→ok b)→cF w ok r us x
 |.nil,cs,us,hl,k,aZ,hv=>by
  cases cs with
  |cons _ _=>simp [rowOf,N.val] at hv
  |nil=>
   have:us=[]:=by have:=hl.1;simp at this;exact List.length_eq_zero_iff.1 this.symm
   subst this;exact ⟨(),[],hv,fun p hp=>by simp at hp,fun _ _ _=>rfl⟩
 |.cons t r,cs,us,hl,k,aZ,hv=>by
  cases cs with
  |nil=>cases t<;>simp [rowOf,N.val] at hv
  |cons y cs=>
   cases us with
   |nil=>have:=hl.1;simp at this
   |cons u us=>
    have hu:jh c st w y u:=hl.2 0 y u rfl rfl;have wK:eM c st w cs us:=⟨by have:=hl.1;simpa using this,fun i a b ha hb=>hl.2 (i+1) a b (by simpa using ha) (by simpa using hb)⟩;have plain:∀(d:den t),(∀ok:Nat→Prop,(∀b,c.ok b→ok b)→bY w ok t u d)→(rowOf st r cs (fun x m=>k (d,x) m)).val=some aZ→
      ∃x m,(k x m).val=some aZ∧(∀p∈m,∃g A,aX st p.1 p.2 g=some A)∧
       ∀ok:Nat→Prop,(∀b,c.ok b→ok b)→(∀p∈m,∀b,c.own b=some (.sp p.1 p.2)→ok b)→cF w ok (.cons t r) (u::us) x:=by
     intro d hd hv;obtain ⟨x,m,h1,h2,h3⟩:=Al h r cs us wK _ hv;exact ⟨(d,x),m,h1,h2,fun ok ho hm=>⟨u,us,rfl,hd ok ho,h3 ok ho hm⟩⟩
    cases t with
    |int q=>
     cases y with
     |int l n=>
      simp only [rowOf] at hv
      by_cases e:q=l
      ·rw [if_pos e] at hv;exact plain n (fun ok _=>ri.2 (by rw [e];exact hu)) hv
      ·rw [if_neg e] at hv;simp [N.val] at hv
     |_=>simp [rowOf,N.val] at hv
    |bool=>
     cases y with
     |bool b=>exact plain b (fun ok _=>sJ.2 hu) (by simpa only [rowOf] using hv)
     |_=>simp [rowOf,N.val] at hv
    |str=>
     cases y with
     |str s=>exact plain s (fun ok _=>wU.2 hu) (by simpa only [rowOf] using hv)
     |_=>simp [rowOf,N.val] at hv
    |sl q=>
     cases y with
     |dO=>exact plain ([]:List (aA q)) (fun ok _=>(nh _ _ _ _ _).2 (.inl ⟨hu,rfl⟩)) (by simpa only [rowOf] using hv)
     |shr r' ys=>
      simp only [rowOf] at hv
      cases hc:bH q ys with
      |none=>simp [hc,N.val] at hv
      |some zs=>
       simp only [hc] at hv;obtain ⟨rfl,rfl⟩:=bm hc;exact plain _ (fun ok ho=>bY.stays ⟨Nat.le_refl _,fun _ _ _=>rfl,fun b _ hb=>ho b hb⟩ _ _ _ hu) hv
     |ref a' j g vw=>
      simp only [rowOf] at hv
      cases hA:aX st a' j g with
      |none=>simp [hA,N.val] at hv
      |some A=>
       simp only [hA] at hv;have sM:A.md.Fc=false:=by
        cases hm:A.md with
        |ho _=>rw [hm] at hv;simp [N.val] at hv
        |_=>rfl
       have hv:(match bH q A.xs with
         |some ys=>rowOf st r cs (fun x m=>k (vw.app ys,x) ((a',j)::m))
         |none=>.fail).val=some aZ:=by
        cases hm:A.md with
        |ho _=>rw [hm] at sM;cases sM
        |sh=>rw [hm] at hv;exact hv
        |lz=>rw [hm] at hv;exact hv
        |dp=>rw [hm] at hv;exact hv
       cases hc:bH q A.xs with
       |none=>simp [hc,N.val] at hv
       |some ys=>
        simp only [hc] at hv;obtain ⟨e,he⟩:=bm hc;subst e;simp only at he;subst he;obtain ⟨sl,Ae,JT,Bp⟩:=bd hA;have Fi:=h.aO a' j sl A Ae Bp;obtain ⟨x,m,h1,h2,h3⟩:=Al h r cs us wK _ hv;refine ⟨(vw.app A.xs,x),(a',j)::m,h1,fun p hp => ?_,fun ok ho hm=>⟨u,us,rfl,?_,h3 ok ho (fun p hp=>hm p (by simp [hp]))⟩⟩
        ·rcases List.mem_cons.1 hp with rfl | hp
         ·exact ⟨g,A,hA⟩
         ·exact h2 p hp
        ·exact Aj Fi (hu.2.2 A hA) ho (fun k _ hk=>hm (a',j) (by simp) k hk) sM
     |_=>simp [rowOf,N.val] at hv
end Go.TM
namespace Go.TM
open Go Go.RowKit
theorem yF {cs l m:List CV} {off:Nat} (h:putCells cs off l=some m):off+l.length≤cs.length∧m=cs.take off++l++cs.drop (off+l.length):=by
 unfold putCells at h;obtain ⟨h1,h2⟩:=aK h;exact ⟨Nat.le_of_ble_eq_true h1,(Option.some.inj h2).symm⟩
theorem eM.bG {c:Cz} {st:St} {w:World} {cs l:List CV} {vs us:List Value} (h:eM c st w cs vs) (hl:eM c st w l us) (off:Nat) (hle:off+l.length≤cs.length) :
  eM c st w (cs.take off++l++cs.drop (off+l.length)) (TM.bG vs off us):=by
 have e1:=h.1;have e2:=hl.1;refine ⟨by rw [dP (by omega)];simp;omega,fun i x v hx hv => ?_⟩;unfold TM.bG at hv;rw [List.getElem?_append,List.getElem?_append] at hx hv;simp only [List.length_append,List.length_take] at hx hv;have a1:min off cs.length=off:=by omega
 have a2:min off vs.length=off:=by omega
 rw [a1] at hx;rw [a2,←e2] at hv
 by_cases h1:i<off+l.length
 ·rw [if_pos h1] at hx hv
  by_cases h2:i<off
  ·rw [if_pos h2,List.getElem?_take,if_pos h2] at hx hv;exact h.2 i x v hx hv
  ·rw [if_neg h2] at hx hv;exact hl.2 _ x v hx hv
 ·rw [if_neg h1,List.getElem?_drop] at hx hv;exact h.2 _ x v hx hv
theorem Rel.O8 {w0:World} {mu:Mu} {c:Cz} {st:St} {a:Act} {w:World} (h:Rel w0 mu c st a w) {b:Nat} {s0:Sl} {cs l:List CV} {vs cur':Array Value} {ty:TypeId}
  (hs:nth st b=some s0) (hb:s0.box=some cs) (hg:w.heap[c.bx b]?=some (.cells vs ty (0,0))) (hl:eM c st w l cur'.toList) :
  Rel w0 mu c (lX (fun s=>{ s with box:=some l }) st b) a (w.setRow (c.bx b) cur'):=by
 have dR:=(h.boxes b s0 cs hs hb).1;have hn:∀s,nth (lX (fun s=>{ s with box:=some l }) st b) s=if s=b then some { s0 with box:=some l } else nth st s:=by
  intro s;rw [cU]
  by_cases e:s=b
  ·subst e;simp [hs]
  ·simp [e]
 generalize lX (fun s=>{ s with box:=some l }) st b=aZ at hn ⊢;have rn:=qC (w:=w) dR cur';have pQ:∀k,k≠c.bx b→(w.setRow (c.bx b) cur').heap[k]?=w.heap[k]?:=fun k hk=>setRow_other w _ k cur' hk
 have fj:Fw c st w c aZ (w.setRow (c.bx b) cur'):={
  stays:=rn
  refs:=fun a' j g A' _ ee=>by
   have FT:aX st a' j g=some A':=by
    unfold aX at ee ⊢;rw [hn] at ee
    by_cases e:a'=b
    ·subst e;simpa [hs] using ee
    ·simpa [e] using ee
   refine ⟨A',FT,rfl,rfl,rfl,fun _=>⟨rfl,fun k o cap hl=>pQ k ?_⟩⟩;have ha:=h.tR FT;unfold bO at ha;rw [hl] at ha;intro e;subst e;obtain ⟨h1,_⟩:=ha;rw [dR] at h1
   cases ho:A'.own<;>simp [ho] at h1
  Bv:=fun b' g lM _ mr=>by
   refine ⟨?_,rfl⟩;unfold cZ at mr ⊢;rw [hn] at mr
   by_cases e:b'=b
   ·subst e;simp only [if_true] at mr;obtain ⟨h1,_⟩:=aK mr;exact ⟨cs,by simp [hs,h1,hb]⟩
   ·simp only [e,if_false] at mr;exact ⟨lM,mr⟩
  gA:=fun a'=>by
   unfold cK;rw [hn]
   by_cases e:a'=b
   ·subst e;simp [hs]
   ·simp [e]
  gB:=fun a'=>by
   unfold ff;rw [hn]
   by_cases e:a'=b
   ·subst e;simp [hs]
   ·simp [e]
  gE:=fun a'=>by
   unfold j7;rw [hn]
   by_cases e:a'=b
   ·subst e;simp [hs]
   ·simp [e] }
 exact {
  ea:=fun t=>by
   have e1:bV aZ t=bV st t:=by
    unfold bV;rw [hn]
    by_cases e:t=b
    ·subst e;simp [hs]
    ·simp [e]
   rw [e1];exact fj.kP (h.ea t)
  boxes:=fun s sl lM Am mr=>by
   rw [hn] at Am
   by_cases e:s=b
   ·subst e;simp only [if_true,Option.some.injEq] at Am;subst Am;simp only [Option.some.injEq] at mr;subst mr;exact ⟨dR,cur',ty,setRow_heap w _ vs cur' ty (0,0) hg,fj.O5 hl⟩
   ·simp only [e,if_false] at Am;have h0:=h.boxes s sl lM Am mr;refine h0.go fj rfl rfl (pQ _ ?_);intro e';have:=h0.1;rw [e',dR] at this;injection this with this;injection this with this;exact e this.symm
  aO:=fun s j sl A Am ee=>by
   rw [hn] at Am;have ha:bO c w s j A:=by
    by_cases e:s=b
    ·subst e;simp only [if_true,Option.some.injEq] at Am;subst Am;exact h.aO s j s0 A hs ee
    ·simp only [e,if_false] at Am;exact h.aO s j sl A Am ee
   refine ha.go rn rfl (fun k h1=>⟨pQ k ?_,rfl⟩);intro e;subst e;rw [dR] at h1
   cases h1
  owned:=fun k l hk=>by
   have:=h.owned k l hk;exact ⟨by simpa [World.setRow] using this.1,this.2⟩
  free:=h.free
  kept:=⟨h.kept.1,h.kept.2.1,h.kept.2.2.1,by simpa [World.setRow] using h.kept.2.2.2⟩
  old:=fun k hk hm=>by
   rw [pQ k (fun e=>by
    have:=(h.owned _ _ dR).2;rcases this with this | this | this
    ·cases this
    ·subst e;omega
    ·subst e;exact hm this)]
   exact h.old k hk hm
  cV:=fun p hp=>fj.cV (h.cV p hp)
  mq:=fun k l hk=>⟨by simpa [World.setRow] using (h.mq k l hk).1,(h.mq k l hk).2⟩
  plain:=h.plain }
theorem Rel.FU {w0:World} {mu:Mu} {c:Cz} {st:St} {a:Act} {w:World} (h:Rel w0 mu c st a w) {s j:Nat} {s0:Sl} {A:gu} {b off cap:Nat} {cur cur':Array Value} {ty:TypeId}
  {md':Md} {ys:List (aA A.r)} (hs:nth st s=some s0) (hA:nth s0.aO j=some (some A)) (dR:A.own=true) (gN:c.lc s j=.at b off cap)
  (hg:w.heap[b]?=some (.cells cur ty (0,0))) (jP:cur'.size=cur.size) (hlen:ys.length=A.xs.length)
  (dj:bq c (w.setRow b cur') (.sp s j) { A with xs:=ys,md:=md' } b off) :
  Rel w0 mu c (bl st s j (some { A with xs:=ys,md:=md' })) a (w.setRow b cur'):=by
 have h0:=h.aO s j s0 A hs hA;unfold bO at h0;rw [gN] at h0;obtain ⟨h1,h2,⟨aaN,ty0,h3,h4⟩,h5⟩:=h0;rw [dR] at h1;have hc0:aaN=cur:=by rw [hg] at h3;injection h3 with h3;injection h3 with h3;exact h3.symm
 subst hc0;have hn:∀k,nth (bl st s j (some { A with xs:=ys,md:=md' })) k=if k=s then some { s0 with aO:=lX (fun _=>some { A with xs:=ys,md:=md' }) s0.aO j,ep:=s0.ep+1 } else nth st k:=by
  intro k;unfold bl;rw [cU]
  by_cases e:k=s
  ·subst e;simp [hs]
  ·simp [e]
 generalize bl st s j (some { A with xs:=ys,md:=md' })=aZ at hn ⊢;have rn:=qC (w:=w) h1 cur';have pQ:∀k,k≠b→(w.setRow b cur').heap[k]?=w.heap[k]?:=fun k hk=>setRow_other w _ k cur' hk
 have fj:Fw c st w c aZ (w.setRow b cur'):={
  stays:=rn
  refs:=fun a' j' g A' _ ee=>by
   obtain ⟨sl,k1,k2,k3⟩:=bd ee;rw [hn] at k1
   by_cases e:a'=s
   ·subst e;simp only [if_true,Option.some.injEq] at k1;subst k1;simp only at k2 k3;rw [cU] at k3
    by_cases e2:j'=j
    ·subst e2;rw [if_pos rfl,hA] at k3;simp only [Option.map_some,Option.some.injEq] at k3;subst k3;refine ⟨A,?_,rfl,hlen,rfl,fun he => ?_⟩
     ·unfold aX;rw [hs];have:Nat.beq s0.ag g=true:=by rw [k2];exact Nat.beq_refl g
      simp [this,hA]
     ·unfold j7 at he;rw [hn,if_pos rfl,hs] at he;simp at he
    ·rw [if_neg e2] at k3;refine ⟨A',?_,rfl,rfl,rfl,fun he => ?_⟩
     ·unfold aX;rw [hs];have:Nat.beq s0.ag g=true:=by rw [k2];exact Nat.beq_refl g
      simp [this,k3]
     ·unfold j7 at he;rw [hn,if_pos rfl,hs] at he;simp at he
   ·rw [if_neg e] at k1;have FT:aX st a' j' g=some A':=by
     unfold aX;rw [k1];have:Nat.beq sl.ag g=true:=by rw [k2];exact Nat.beq_refl g
     simp [this,k3]
    refine ⟨A',FT,rfl,rfl,rfl,fun _=>⟨rfl,fun k o G3 hl=>pQ k ?_⟩⟩;have ha:=h.tR FT;unfold bO at ha;rw [hl] at ha
    rintro rfl
    obtain ⟨g1,_⟩:=ha;rw [h1] at g1
    cases ho:A'.own with
    |true=>simp [ho] at g1;exact e g1.1.symm
    |false=>simp [ho] at g1
  Bv:=fun b' g lM _ mr=>by
   refine ⟨⟨lM,?_⟩,rfl⟩;unfold cZ at mr ⊢;rw [hn] at mr
   by_cases e:b'=s
   ·subst e;simpa [hs] using mr
   ·simpa [e] using mr
  gA:=fun a'=>by
   unfold cK;rw [hn]
   by_cases e:a'=s
   ·subst e;simp [hs]
   ·simp [e]
  gB:=fun a'=>by
   unfold ff;rw [hn]
   by_cases e:a'=s
   ·subst e;simp [hs]
   ·simp [e]
  gE:=fun a'=>by
   unfold j7;rw [hn]
   by_cases e:a'=s
   ·subst e;simp [hs]
   ·simp [e] }
 exact {
  ea:=fun t=>by
   have e1:bV aZ t=bV st t:=by
    unfold bV;rw [hn]
    by_cases e:t=s
    ·subst e;simp [hs]
    ·simp [e]
   rw [e1];exact fj.kP (h.ea t)
  boxes:=fun k sl lM Am mr=>by
   rw [hn] at Am;have Bq:tQ c st w k lM:=by
    by_cases e:k=s
    ·subst e;simp only [if_true,Option.some.injEq] at Am;subst Am;exact h.boxes k s0 lM hs mr
    ·simp only [e,if_false] at Am;exact h.boxes k sl lM Am mr
   refine Bq.go fj rfl rfl (pQ _ ?_);intro e;have:=Bq.1;rw [e,h1] at this;simp at this
  aO:=fun k i sl B Am hB=>by
   rw [hn] at Am
   by_cases e:k=s∧i=j
   ·obtain ⟨rfl,rfl⟩:=e;simp only [if_true,Option.some.injEq] at Am;subst Am;simp only at hB;rw [cU,if_pos rfl,hA] at hB;simp only [Option.map_some,Option.some.injEq] at hB;subst hB;unfold bO;rw [gN];refine ⟨by rw [dR];exact h1,by simp only;rw [hlen];exact h2,⟨cur',ty,setRow_heap w b aaN cur' ty (0,0) hg,by simp only;rw [jP];exact h4⟩,dj⟩
   ·have ha:bO c w k i B:=by
     by_cases e2:k=s
     ·subst e2;simp only [if_true,Option.some.injEq] at Am;subst Am;simp only at hB;rw [cU,if_neg (fun e3=>e ⟨rfl,e3⟩)] at hB;exact h.aO k i s0 B hs hB
     ·rw [if_neg e2] at Am;exact h.aO k i sl B Am hB
    refine ha.go rn rfl (fun k' g1=>⟨pQ k' ?_,rfl⟩)
    rintro rfl
    rw [h1] at g1;simp at g1;exact e ⟨g1.1.symm,g1.2.symm⟩
  owned:=fun k l hk=>by
   have:=h.owned k l hk;exact ⟨by simpa [World.setRow] using this.1,this.2⟩
  free:=h.free
  kept:=⟨h.kept.1,h.kept.2.1,h.kept.2.2.1,by simpa [World.setRow] using h.kept.2.2.2⟩
  old:=fun k hk hm=>by
   rw [pQ k (fun e=>by
    have:=(h.owned _ _ h1).2;rcases this with this | this | this
    ·cases this
    ·subst e;omega
    ·subst e;exact hm this)]
   exact h.old k hk hm
  cV:=fun p hp=>fj.cV (h.cV p hp)
  mq:=fun k l hk=>⟨by simpa [World.setRow] using (h.mq k l hk).1,(h.mq k l hk).2⟩
  plain:=h.plain }
theorem Rel.rq {w0:World} {mu:Mu} {c:Cz} {st:St} {a:Act} {w:World} (h:Rel w0 mu c st a w) {s j:Nat} {s0:Sl} {A:gu} {b off cap:Nat} {cur cur':Array Value} {ty:TypeId}
  {ys:List (aA A.r)} (hs:nth st s=some s0) (hA:nth s0.aO j=some (some A)) (dR:A.own=true) (gN:c.lc s j=.at b off cap)
  (hg:w.heap[b]?=some (.cells cur ty (0,0))) (jP:cur'.size=cur.size) (hlen:ys.length=A.xs.length)
  (dj:bq c (w.setRow b cur') (.sp s j) { A with xs:=ys } b off) :
  Rel w0 mu c (bl st s j (some { A with xs:=ys })) a (w.setRow b cur'):=h.FU hs hA dR gN hg jP hlen dj
end Go.TM
namespace Go.TM
open Go Go.RowKit
theorem An:(r:RT)→(x:aA r)→(k:Nat)→(y:CV)→{z:aA r}→fJ r x k y=some z→k<r.width
 |.nil,_,_,_,_,h=>by simp [fJ] at h
 |.cons t r,x,0,y,z,_=>by simp [RT.width]
 |.cons t r,x,k+1,y,z,h=>by
  have h':(fJ r x.2 k y).map (fun z=>((x.1,z):aA (.cons t r)))=some z:=by cases t<;>(simp only [fJ] at h;exact h)
  cases hq:fJ r x.2 k y with
  |none=>rw [hq] at h';cases h'
  |some z'=>have:=An r x.2 k y hq;simp [RT.width];omega
theorem qD (r:RT) (x:aA r):(off:Nat)→(cs:List CV)→{z:aA r}→jY r x off cs=some z→cs≠[]→off+cs.length≤r.width
 |_,[],_,_,h=>absurd rfl h
 |off,y::l,z,h,_=>by
  simp only [jY] at h
  cases hq:jY r x (off+1) l with
  |none=>simp [hq] at h
  |some y'=>
   simp only [hq] at h;have h1:=An r y' off y h
   cases l with
   |nil=>simp;omega
   |cons y2 l2=>have:=qD r x (off+1) (y2::l2) hq (by simp);simp at this ⊢;omega
theorem jZ {vs us:List Value} {off k:Nat} (hle:off+us.length≤vs.length):(bG vs off us)[k]?=if off≤k∧k<off+us.length then us[k-off]? else vs[k]?:=by
 unfold bG;simp only [List.getElem?_append,List.length_append,List.length_take,List.getElem?_take,List.getElem?_drop];have a1:min off vs.length=off:=by omega
 rw [a1]
 by_cases h1:k<off
 ·rw [if_pos (by omega),if_pos h1,if_pos h1,if_neg (by omega)]
 ·by_cases h2:k<off+us.length
  ·rw [if_pos h2,if_neg h1,if_pos ⟨by omega,h2⟩]
  ·rw [if_neg h2,if_neg (by omega)]
   congr 1
   omega
theorem yX:(m:List (Nat×Nat))→{st:St}→{a j:Nat}→{sl:Sl}→{A:gu}→nth st a=some sl→nth sl.aO j=some (some A)→(a,j)∉m→
  ∃RU,nth (freeze st m) a=some RU∧nth RU.aO j=some (some A)
 | [],_,_,_,sl,_,h1,h2,_=>⟨sl,h1,h2⟩
 |(b,i)::m,st,a,j,sl,A,h1,h2,hm=>by
  rw [HZ];obtain ⟨f,hf,hn⟩:=iF st b i a;refine yX m (sl:=f sl) (A:=A) (by rw [hn,h1];rfl) ?_ (fun h=>hm (by simp [h]));rw [(hf sl).2.2.2.2.1 j,if_neg]
  ·exact h2
  ·rintro ⟨rfl,rfl⟩;exact hm (by simp)
theorem Ao {c:Cz} {w:World} {b off:Nat} {r:RT} {xs:List (aA r)} {cur:Array Value} {ty:TypeId} {l:Lb} (dR:c.own b=some l)
  (hg:w.heap[b]?=some (.cells cur ty (0,0))) (dj:∀(i:Nat) x,xs[i]?=some x→cE w c.ok r b (off+i*r.width) x)
  {i k:Nat} {x y:aA r} {us:List Value} (hx:xs[i]?=some x) (hle:k+us.length≤r.width) (jP:off+i*r.width+r.width≤cur.size)
  (hy:∀vs,cF w c.ok r vs x→cF w c.ok r (bG vs k us) y) :
  ∀(i':Nat) x',(xs.set i y)[i']?=some x'→cE (w.setRow b (bG cur.toList (off+i*r.width+k) us).toArray) c.ok r b (off+i'*r.width) x':=by
 have rn:=qC (w:=w) dR (bG cur.toList (off+i*r.width+k) us).toArray;have O9:=setRow_heap w b cur (bG cur.toList (off+i*r.width+k) us).toArray ty (0,0) hg;have qv:∀q,(w.setRow b (bG cur.toList (off+i*r.width+k) us).toArray).cell? ⟨b,q,none⟩=
   if off+i*r.width+k≤q∧q<off+i*r.width+k+us.length then us[q-(off+i*r.width+k)]? else w.cell? ⟨b,q,none⟩:=by
  intro q;rw [cell_of_row _ b q _ ty (0,0) O9,cell_of_row w b q cur ty (0,0) hg];simp only [List.getElem?_toArray];rw [jZ (by simp;omega)];simp
 intro i' x' sK;rw [List.getElem?_set] at sK
 by_cases e:i=i'
 ·subst e;rw [if_pos rfl] at sK;have hi:i<xs.length:=(List.getElem?_eq_some_iff.1 hx).1;rw [if_pos hi] at sK;obtain rfl:=Option.some.inj sK;obtain ⟨vs,h1,h2⟩:=(j8 r b _ x).1 (dj i x hx);have wL:=cF.length r vs x h2;refine (j8 r b _ y).2 ⟨bG vs k us,fun q v hv => ?_,cF.stays rn r _ y (hy vs h2)⟩;rw [jZ (by omega)] at hv;rw [qv]
  by_cases hq:k≤q∧q<k+us.length
  ·rw [if_pos hq] at hv;rw [if_pos (by omega),show off+i*r.width+q-(off+i*r.width+k)=q-k by omega];exact hv
  ·rw [if_neg hq] at hv;rw [if_neg (by omega)];exact h1 q v hv
 ·rw [if_neg e] at sK;obtain ⟨vs,h1,h2⟩:=(j8 r b _ x').1 (dj i' x' sK);have wL:=cF.length r vs x' h2;refine (j8 r b _ x').2 ⟨vs,fun q v hv => ?_,cF.stays rn r _ x' h2⟩;have hq:q<r.width:=by rw [←wL];exact (List.getElem?_eq_some_iff.1 hv).1
  rw [qv,if_neg]
  ·exact h1 q v hv
  ·rintro ⟨g1,g2⟩
   rcases Nat.lt_or_gt_of_ne e with h | h
   ·have:(i+1)*r.width≤i'*r.width:=Nat.mul_le_mul_right _ h;rw [Nat.add_mul] at this;omega
   ·have:(i'+1)*r.width≤i*r.width:=Nat.mul_le_mul_right _ h;rw [Nat.add_mul] at this;omega
theorem oR {w:World} {b off:Nat} {r:RT} {xs:List (aA r)} {cur:Array Value} {ty:TypeId}
  (hg:w.heap[b]?=some (.cells cur ty (0,0))) {Q:Nat→List Value→aA r→Prop} (dj:∀(i:Nat) x,xs[i]?=some x→∃vs,w.rangeAt b (off+i*r.width) vs∧vs.length=r.width∧Q i vs x)
  {i k:Nat} {x y:aA r} {us:List Value} (hx:xs[i]?=some x) (hle:k+us.length≤r.width) (jP:off+i*r.width+r.width≤cur.size)
  (hy:∀vs,vs.length=r.width→Q i vs x→Q i (bG vs k us) y) :
  ∀(i':Nat) x',(xs.set i y)[i']?=some x'→∃vs,(w.setRow b (bG cur.toList (off+i*r.width+k) us).toArray).rangeAt b (off+i'*r.width) vs∧Q i' vs x':=by
 have O9:=setRow_heap w b cur (bG cur.toList (off+i*r.width+k) us).toArray ty (0,0) hg;have qv:∀q,(w.setRow b (bG cur.toList (off+i*r.width+k) us).toArray).cell? ⟨b,q,none⟩=
   if off+i*r.width+k≤q∧q<off+i*r.width+k+us.length then us[q-(off+i*r.width+k)]? else w.cell? ⟨b,q,none⟩:=by
  intro q;rw [cell_of_row _ b q _ ty (0,0) O9,cell_of_row w b q cur ty (0,0) hg];simp only [List.getElem?_toArray];rw [jZ (by simp;omega)];simp
 intro i' x' sK;rw [List.getElem?_set] at sK
 by_cases e:i=i'
 ·subst e;rw [if_pos rfl] at sK;have hi:i<xs.length:=(List.getElem?_eq_some_iff.1 hx).1;rw [if_pos hi] at sK;obtain rfl:=Option.some.inj sK;obtain ⟨vs,h1,wL,h2⟩:=dj i x hx;refine ⟨bG vs k us,fun q v hv => ?_,hy vs wL h2⟩;rw [jZ (by omega)] at hv;rw [qv]
  by_cases hq:k≤q∧q<k+us.length
  ·rw [if_pos hq] at hv;rw [if_pos (by omega),show off+i*r.width+q-(off+i*r.width+k)=q-k by omega];exact hv
  ·rw [if_neg hq] at hv;rw [if_neg (by omega)];exact h1 q v hv
 ·rw [if_neg e] at sK;obtain ⟨vs,h1,wL,h2⟩:=dj i' x' sK;refine ⟨vs,fun q v hv => ?_,h2⟩;have hq:q<r.width:=by rw [←wL];exact (List.getElem?_eq_some_iff.1 hv).1
  rw [qv,if_neg]
  ·exact h1 q v hv
  ·rintro ⟨g1,g2⟩
   rcases Nat.lt_or_gt_of_ne e with h | h
   ·have:(i+1)*r.width≤i'*r.width:=Nat.mul_le_mul_right _ h;rw [Nat.add_mul] at this;omega
   ·have:(i'+1)*r.width≤i*r.width:=Nat.mul_le_mul_right _ h;rw [Nat.add_mul] at this;omega
theorem Fj {w:World} {b off:Nat} {r:RT} {xs:List (aA r)} {cur:Array Value} {ty:TypeId}
  (hg:w.heap[b]?=some (.cells cur ty (0,0))) {Q:Nat→List Value→aA r→Prop} {i:Nat} (dj:∀(i':Nat) x,i'≠i→xs[i']?=some x→∃vs,w.rangeAt b (off+i'*r.width) vs∧vs.length=r.width∧Q i' vs x)
  {x y:aA r} {us:List Value} (hx:xs[i]?=some x) (hle:us.length=r.width) (jP:off+i*r.width+r.width≤cur.size) (hy:Q i us y) :
  ∀(i':Nat) x',(xs.set i y)[i']?=some x'→∃vs,(w.setRow b (bG cur.toList (off+i*r.width+0) us).toArray).rangeAt b (off+i'*r.width) vs∧Q i' vs x':=by
 have O9:=setRow_heap w b cur (bG cur.toList (off+i*r.width+0) us).toArray ty (0,0) hg;have qv:∀q,(w.setRow b (bG cur.toList (off+i*r.width+0) us).toArray).cell? ⟨b,q,none⟩=
   if off+i*r.width≤q∧q<off+i*r.width+us.length then us[q-(off+i*r.width)]? else w.cell? ⟨b,q,none⟩:=by
  intro q;rw [cell_of_row _ b q _ ty (0,0) O9,cell_of_row w b q cur ty (0,0) hg];simp only [List.getElem?_toArray];rw [jZ (by simp;omega)];simp
 intro i' x' sK;rw [List.getElem?_set] at sK
 by_cases e:i=i'
 ·subst e;rw [if_pos rfl] at sK;have hi:i<xs.length:=(List.getElem?_eq_some_iff.1 hx).1;rw [if_pos hi] at sK;obtain rfl:=Option.some.inj sK;refine ⟨us,fun q v hv => ?_,hy⟩;have hq:q<us.length:=(List.getElem?_eq_some_iff.1 hv).1;rw [qv,if_pos (by omega),show off+i*r.width+q-(off+i*r.width)=q by omega];exact hv
 ·rw [if_neg e] at sK;obtain ⟨vs,h1,wL,h2⟩:=dj i' x' (fun h=>e h.symm) sK;refine ⟨vs,fun q v hv => ?_,h2⟩;have hq:q<r.width:=by rw [←wL];exact (List.getElem?_eq_some_iff.1 hv).1
  rw [qv,if_neg]
  ·exact h1 q v hv
  ·rintro ⟨g1,g2⟩
   rcases Nat.lt_or_gt_of_ne e with h | h
   ·have:(i+1)*r.width≤i'*r.width:=Nat.mul_le_mul_right _ h;rw [Nat.add_mul] at this;omega
   ·have:(i'+1)*r.width≤i*r.width:=Nat.mul_le_mul_right _ h;rw [Nat.add_mul] at this;omega
end Go.TM
namespace Go.TM
open Go Go.RowKit
def ZM (w:World) (ok:Nat→Prop) (r:RT) (u:Value) (ys:List (aA r)):Prop:=
 (u=.slice none 0 0∧ys=[])∨∃a cap,u=.slice (some a) ys.length cap∧(ys≠[]→a.spot=none)∧∀(i:Nat) y,ys[i]?=some y→cE w ok r a.block (a.off+i*r.width) y
def bz (w:World) (ok:Nat→Prop) (r:RT):List Value→List (aA r)→Prop
 |vs,[]=>vs=[]
 |vs,x::xs=>∃l1 l2,vs=l1++l2∧cF w ok r l1 x∧bz w ok r l2 xs
theorem bz.length {w:World} {ok:Nat→Prop} {r:RT}:(vs:List Value)→(xs:List (aA r))→bz w ok r vs xs→vs.length=xs.length*r.width
 |vs,[],h=>by simp only [bz] at h;subst h;simp
 |vs,x::xs,h=>by
  obtain ⟨l1,l2,rfl,h1,h2⟩:=h;have a1:=cF.length r l1 x h1;have a2:=bz.length l2 xs h2;simp [a1,a2,Nat.add_mul];omega
theorem bz.stays {w w':World} {ok Ag:Nat→Prop} (h:iD w w' ok Ag) {r:RT}:(vs:List Value)→(xs:List (aA r))→bz w ok r vs xs→bz w' Ag r vs xs
 |_,[],hr=>hr
 |_,x::xs,⟨l1,l2,e,h1,h2⟩=>⟨l1,l2,e,cF.stays h r l1 x h1,bz.stays h l2 xs h2⟩
theorem bz.append {w:World} {ok:Nat→Prop} {r:RT}:(vs us:List Value)→(xs ys:List (aA r))→bz w ok r vs xs→bz w ok r us ys→bz w ok r (vs++us) (xs++ys)
 |vs,us,[],ys,h,k=>by simp only [bz] at h;subst h;simpa using k
 |vs,us,x::xs,ys,⟨l1,l2,e,h1,h2⟩,k=>⟨l1,l2++us,by rw [e,List.append_assoc],h1,bz.append l2 us xs ys h2 k⟩
theorem bz.one {w:World} {ok:Nat→Prop} {r:RT} {vs:List Value} {x:aA r} (h:cF w ok r vs x):bz w ok r vs [x]:=⟨vs,[],by simp,h,rfl⟩
theorem mO {w:World} {ok:Nat→Prop} {r:RT} (b:Nat):(off:Nat)→(xs:List (aA r))→(∀(i:Nat) x,xs[i]?=some x→cE w ok r b (off+i*r.width) x)→
  ∃vs,w.rangeAt b off vs∧bz w ok r vs xs
 |_,[],_=>⟨[],fun j v h=>by simp at h,rfl⟩
 |off,x::xs,h=>by
  obtain ⟨l1,h1,h2⟩:=(j8 r b off x).1 (by have:=h 0 x rfl;simpa using this);obtain ⟨l2,h3,h4⟩:=mO b (off+r.width) xs (fun i y hy=>by
   have:=h (i+1) y (by simpa using hy);rw [Nat.add_mul,Nat.one_mul] at this;rw [show off+r.width+i*r.width=off+(i*r.width+r.width) by omega];exact this)
  have hl:=cF.length r l1 x h2;refine ⟨l1++l2,fun j v hv => ?_,l1,l2,rfl,h2,h4⟩;rw [List.getElem?_append] at hv
  by_cases hj:j<l1.length
  ·rw [if_pos hj] at hv;exact h1 j v hv
  ·rw [if_neg hj] at hv;have:=h3 _ v hv;rw [show off+r.width+(j-l1.length)=off+j by omega] at this;exact this
theorem sN {w:World} {ok:Nat→Prop} {r:RT} {b:Nat}:(off:Nat)→(vs:List Value)→(xs:List (aA r))→bz w ok r vs xs→w.rangeAt b off vs→
  ∀(i:Nat) x,xs[i]?=some x→cE w ok r b (off+i*r.width) x
 |_,_,[],_,_,i,x,h=>by simp at h
 |off,vs,y::xs,⟨l1,l2,e,h1,h2⟩,hr,i,x,h=>by
  subst e;have hl:=cF.length r l1 y h1
  cases i with
  |zero=>
   simp at h;subst h;rw [j8];refine ⟨l1,fun j v hv => ?_,h1⟩;have hj:j<l1.length:=(List.getElem?_eq_some_iff.1 hv).1;have:=hr j v (by rw [List.getElem?_append,if_pos hj];exact hv);simpa using this
  |succ i=>
   have:=sN (off+r.width) l2 xs h2 (fun j v hv=>by
    have:=hr (l1.length+j) v (by rw [List.getElem?_append,if_neg (by omega)];simpa using hv);rw [show off+r.width+j=off+(l1.length+j) by omega];exact this) i x (by simpa using h)
   rw [Nat.add_mul,Nat.one_mul];rw [show off+(i*r.width+r.width)=off+r.width+i*r.width by omega];exact this
theorem bY.one {w:World} {ok:Nat→Prop} {t:Ty} {v:Value} {x:den t} (h:bY w ok t v x):v.oneCell'=true:=by
 cases t with
 |int k=>rw [ri.1 h];rfl
 |bool=>rw [sJ.1 h];rfl
 |str=>rw [wU.1 h];rfl
 |sl r=>
  rcases (nh w ok r v x).1 h with ⟨rfl,_⟩ | ⟨a,cap,rfl,_⟩<;>rfl
theorem cF.one {w:World} {ok:Nat→Prop}:(r:RT)→(vs:List Value)→(x:aA r)→cF w ok r vs x→∀v∈vs,v.oneCell'=true
 |.nil,vs,_,h,v,hv=>by simp only [cF] at h;subst h;simp at hv
 |.cons t r,vs,x,⟨u,l,e,hx,hr⟩,v,hv=>by
  subst e;rcases List.mem_cons.1 hv with rfl | hv
  ·exact hx.one
  ·exact cF.one r l x.2 hr v hv
theorem bz.jf {w:World} {ok:Nat→Prop} {r:RT}:(vs:List Value)→(xs:List (aA r))→bz w ok r vs xs→∀v∈vs,v.oneCell'=true
 |vs,[],h,v,hv=>by simp only [bz] at h;subst h;simp at hv
 |vs,x::xs,⟨l1,l2,e,h1,h2⟩,v,hv=>by
  subst e;rcases List.mem_append.1 hv with hv | hv
  ·exact cF.one r l1 x h1 v hv
  ·exact bz.jf l2 xs h2 v hv
theorem Cv {w0:World} {mu:Mu} {c:Cz} {st:St} {a:Act} {w:World} (h:Rel w0 mu c st a w) {r:RT} {x:CV} {u:Value} (hx:jh c st w x u)
  {k:List (aA r)→N} {aZ:St} (hv:(lZ st r x k).val=some aZ):∃ys,(k ys).val=some aZ∧ZM w c.ok r u ys:=by
 cases x with
 |shr r' xs=>
  simp only [lZ] at hv
  cases hc:bH r xs with
  |none=>simp [hc,N.val] at hv
  |some ys=>
   simp only [hc] at hv;obtain ⟨rfl,rfl⟩:=bm hc;refine ⟨_,hv,?_⟩;rcases (nh _ _ _ _ _).1 hx with h1 | ⟨a',cap,h1,h2,h3,h4⟩
   ·exact .inl h1
   ·exact .inr ⟨a',cap,h1,fun eH=>(h3 eH).1,h4⟩
 |nn r' xs=>
  simp only [lZ] at hv
  cases hc:bH r xs with
  |none=>simp [hc,N.val] at hv
  |some ys=>
   simp only [hc] at hv;obtain ⟨rfl,rfl⟩:=bm hc;refine ⟨_,hv,?_⟩;rcases (nh _ _ _ _ _).1 hx.1 with h1 | ⟨a',cap,h1,h2,h3,h4⟩
   ·exact .inl h1
   ·exact .inr ⟨a',cap,h1,fun eH=>(h3 eH).1,h4⟩
 |dO=>exact ⟨[],by simpa only [lZ] using hv,.inl ⟨hx,rfl⟩⟩
 |ref a' j g vw=>
  simp only [lZ] at hv
  cases hA:aX st a' j g with
  |none=>simp [hA,N.val] at hv
  |some A=>
   simp only [hA] at hv;have sM:A.md=.sh:=by
    cases hm:A.md with
    |sh=>rfl
    |dp=>rw [hm] at hv;simp [N.val] at hv
    |lz=>rw [hm] at hv;simp [N.val] at hv
    |ho _=>rw [hm] at hv;simp [N.val] at hv
   rw [sM] at hv;simp only at hv
   cases hc:bH r A.xs with
   |none=>simp [hc,N.val] at hv
   |some ys=>
    simp only [hc] at hv;obtain ⟨e,he⟩:=bm hc;subst e;simp only at he;subst he;obtain ⟨sl,Ae,JT,Bp⟩:=bd hA;have Fi:=h.aO a' j sl A Ae Bp;refine ⟨vw.app A.xs,hv,?_⟩;clear hv;have hs:=hx.2.2 A hA
    cases hl:c.lc a' j with
    |nil=>
     unfold fh at hs;rw [hl] at hs;exact .inl ⟨hs.1,List.length_eq_zero_iff.1 hs.2⟩
    |«at» b off cap=>
     unfold fh at hs;rw [hl] at hs;obtain ⟨ad,k',rfl,hk,yw,ha⟩:=hs;unfold bO at Fi;rw [hl] at Fi;obtain ⟨_,_,_,h5⟩:=Fi;have eH:vw.app A.xs≠[]→k'≠0:=by
      intro eH;have:=List.length_pos_iff.2 eH;omega
     refine .inr ⟨ad,k',rfl,fun h=>by rw [ha (eH h)],fun i y hy => ?_⟩;have hk0:k'≠0:=eH (by intro e;rw [e] at hy;simp at hy);rw [ha hk0];have:=(bq.sh sM).1 h5 _ y (View.uN vw A.xs hy);have e:off+vw.lo*A.r.width+i*A.r.width=off+(vw.lo+i)*A.r.width:=by rw [Nat.add_mul];omega
     show cE w c.ok A.r b (off+vw.lo*A.r.width+i*A.r.width) y;rw [e];exact this
 |_=>simp [lZ,N.val] at hv
theorem Rel.place {w0:World} {mu:Mu} {c c':Cz} {st:St} {a:Act} {w w':World} (h:Rel w0 mu c st a w) {d B:Nat} {s0:Sl} {A:gu} {v:Value}
  (fT:nth st d=some s0) (hd:d<a.tmps.size)
  (Bq:c'.bx=c.bx) (gN:∀s j,¬(s=d∧j=0)→c'.lc s j=c.lc s j) (dR:∀k,k≠B→c'.own k=c.own k)
  (hoB:c'.own B=some (.sp d 0)∨(c'.own B=c.own B∧w'.heap[B]?=w.heap[B]?))
  (hB:w.heap.size≤B∨∃s j,c.own B=some (.sp s j)∧(s=d∨∀sl A,nth st s=some sl→nth sl.aO j≠some (some A)))
  (hBn:c'.own B=some (.sp d 0)→B<w'.heap.size)
  (hw:∀k,k<w.heap.size→k≠B→w'.heap[k]?=w.heap[k]?) (ru:w'.os=w.os∧w'.tape=w.tape∧w'.output=w.output∧w.heap.size≤w'.heap.size)
  (hA:bO c' w' d 0 A) (yG:v.oneCell'=true) (hv:fh (c'.lc d 0) A.r.width 0 A.xs.length v) (Pb:c'.rs=c.rs:=by rfl) :
  Rel w0 mu c' (lX (fun s=>{ s with v:=.one (.ref d 0 (s0.ag+1) .full),aO:=[some A],ag:=s0.ag+1 }) st d) (a.put (some d) v) w':=by
 have hn:∀s,nth (lX (fun s=>{ s with v:=.one (.ref d 0 (s0.ag+1) .full),aO:=[some A],ag:=s0.ag+1 }) st d) s=
   if s=d then some { s0 with v:=.one (.ref d 0 (s0.ag+1) .full),aO:=[some A],ag:=s0.ag+1 } else nth st s:=by
  intro s;rw [cU]
  by_cases e:s=d
  ·subst e;simp [fT]
  ·simp [e]
 generalize lX (fun s=>{ s with v:=.one (.ref d 0 (s0.ag+1) .full),aO:=[some A],ag:=s0.ag+1 }) st d=aZ at hn ⊢;have UJ:∀k,k<w.heap.size→c.ok k→k≠B:=by
  rintro k hk fZ rfl
  rcases hB with hB | ⟨s,j,hB,_⟩
  ·omega
  ·unfold Cz.ok at fZ;rw [hB] at fZ;cases fZ
 have rn:iD w w' c.ok c'.ok:=⟨ru.2.2.2,fun k hk fZ=>hw k hk (UJ k hk fZ),fun k hk fZ=>by unfold Cz.ok;rw [dR k (UJ k hk fZ)];exact fZ⟩;have fj:Fw c st w c' aZ w':={
  stays:=rn
  refs:=fun a' j g A' hg ee=>by
   by_cases e:a'=d
   ·subst e;obtain ⟨sl,k1,k2,k3⟩:=bd ee;rw [hn,if_pos rfl] at k1;obtain rfl:=Option.some.inj k1;simp only at k2;unfold cK at hg;rw [fT] at hg;simp only at hg;omega
   ·have FT:aX st a' j g=some A':=by
     unfold aX at ee ⊢;rw [hn,if_neg e] at ee;exact ee
    refine ⟨A',FT,rfl,rfl,gN a' j (fun h=>e h.1),fun _=>⟨rfl,fun k off cap hl => ?_⟩⟩;have ha:=h.tR FT;have cA:=ha.lt hl;unfold bO at ha;rw [hl] at ha;obtain ⟨g1,_⟩:=ha;refine hw k cA ?_
    rintro rfl
    rcases hB with hB | ⟨s',j',hB,Fk⟩
    ·omega
    ·rw [hB] at g1
     cases ho:A'.own with
     |true=>
      simp [ho] at g1;obtain ⟨rfl,rfl⟩:=g1;obtain ⟨sl,q1,_,q3⟩:=bd FT;rcases Fk with Fk | Fk
      ·exact e Fk
      ·exact Fk sl A' q1 q3
     |false=>simp [ho] at g1
  Bv:=fun b' g lM _ mr=>by
   refine ⟨⟨lM,?_⟩,by rw [Bq]⟩;unfold cZ at mr ⊢;rw [hn] at mr
   by_cases e:b'=d
   ·subst e;simpa [fT] using mr
   ·simpa [e] using mr
  gA:=fun a'=>by
   unfold cK;rw [hn]
   by_cases e:a'=d
   ·subst e;simp [fT]
   ·simp [e]
  gB:=fun a'=>by
   unfold ff;rw [hn]
   by_cases e:a'=d
   ·subst e;simp [fT]
   ·simp [e]
  gE:=fun a'=>by
   unfold j7;rw [hn]
   by_cases e:a'=d
   ·subst e;simp [fT]
   ·simp [e] }
 exact {
  ea:=fun t=>by
   have e1:bV aZ t=if t=d then .one (.ref d 0 (s0.ag+1) .full) else bV st t:=by
    unfold bV;rw [hn]
    by_cases e:t=d<;>simp [e]
   rw [e1,eval_put]
   by_cases e:t=d
   ·subst e;simp only [if_true,true_and,hd];refine ⟨yG,?_,fun A' ee => ?_⟩
    ·unfold cK;rw [hn];simp
    ·obtain ⟨sl,k1,k2,k3⟩:=bd ee;rw [hn,if_pos rfl] at k1;obtain rfl:=Option.some.inj k1;simp [nth] at k3;subst k3;exact hv
   ·simp only [e,if_false];rw [if_neg (fun h=>e (Option.some.inj h.1).symm)];exact fj.kP (h.ea t)
  boxes:=fun s sl lM hs hb=>by
   rw [hn] at hs;have UK:tQ c st w s lM:=by
    by_cases e:s=d
    ·subst e;rw [if_pos rfl] at hs;obtain rfl:=Option.some.inj hs;exact h.boxes s s0 lM fT hb
    ·rw [if_neg e] at hs;exact h.boxes s sl lM hs hb
   have cA:=h.kD UK.1;have eH:c.bx s≠B:=by
    intro e;rcases hB with hB | ⟨s',j,hB,_⟩
    ·omega
    ·rw [←e,UK.1] at hB;cases hB
   exact UK.go fj (by rw [Bq]) (dR _ eH) (hw _ cA eH)
  aO:=fun s j sl A' hs ee=>by
   rw [hn] at hs
   by_cases e:s=d
   ·subst e;rw [if_pos rfl] at hs;obtain rfl:=Option.some.inj hs
    cases j with
    |zero=>simp [nth] at ee;subst ee;exact hA
    |succ j=>simp [nth] at ee
   ·rw [if_neg e] at hs;have ha:=h.aO s j sl A' hs ee;refine ha.go rn (gN s j (fun h=>e h.1)) (fun k g1 => ?_) (fun k _ _ hk=>by rw [Pb];exact hk);have cA:k<w.heap.size:=h.kD g1;have eH:k≠B:=by
     rintro rfl
     rcases hB with hB | ⟨s',j',hB,Fk⟩
     ·omega
     ·rw [hB] at g1;simp at g1;obtain ⟨rfl,rfl⟩:=g1;rcases Fk with Fk | Fk
      ·exact e Fk
      ·exact Fk sl A' hs ee
    exact ⟨hw k cA eH,dR k eH⟩
  owned:=fun b l hb=>by
   by_cases e:b=B
   ·subst e;rcases hoB with hoB | ⟨hoB,_⟩
    ·refine ⟨hBn hoB,?_⟩;rcases hB with hB | ⟨s',j',hB,_⟩
     ·exact .inr (.inl (Nat.le_trans h.kept.2.2.2 hB))
     ·rcases (h.owned _ _ hB).2 with h2 | h2
      ·cases h2
      ·exact .inr h2
    ·rw [hoB] at hb;have:=h.owned b l hb;exact ⟨Nat.lt_of_lt_of_le this.1 ru.2.2.2,this.2⟩
   ·rw [dR b e] at hb;have:=h.owned b l hb;exact ⟨Nat.lt_of_lt_of_le this.1 ru.2.2.2,this.2⟩
  free:=fun b hb h1=>by
   by_cases e:b=B
   ·subst e;rcases hB with hB | ⟨s',j',hB,_⟩
    ·have:=h.kept.2.2.2;omega
    ·rcases (h.owned _ _ hB).2 with h2 | h2 | h2
     ·cases h2
     ·omega
     ·exact .inl h2
   ·rw [dR b e] at h1;exact h.free b hb h1
  kept:=⟨ru.1.trans h.kept.1,ru.2.1.trans h.kept.2.1,ru.2.2.1.trans h.kept.2.2.1,Nat.le_trans h.kept.2.2.2 ru.2.2.2⟩
  old:=fun k hk hm=>by
   have uP:=Nat.lt_of_lt_of_le hk h.kept.2.2.2;rw [hw k uP (fun e => ?_)]
   ·exact h.old k hk hm
   ·subst e;rcases hB with hB | ⟨s',j',hB,_⟩
    ·omega
    ·rcases (h.owned _ _ hB).2 with h2 | h2 | h2
     ·cases h2
     ·omega
     ·exact hm h2
  cV:=fun p hp=>fj.cV (h.cV p hp)
  mq:=fun k l hk=>by
   rw [Pb] at hk;exact ⟨Nat.lt_of_lt_of_le (h.mq k l hk).1 ru.2.2.2,(h.mq k l hk).2⟩
  plain:=h.plain }
end Go.TM
namespace Go.TM
open Go Go.RowKit
theorem Rel.UL {w0:World} {mu:Mu} {c:Cz} {st:St} {a:Act} {w:World} (_h:Rel w0 mu c st a w) (s j:Nat):Fw c st w c (bl st s j none) w:=by
 have hn:∀k,∃f:Sl→Sl,(∀x,(f x).v=x.v∧(f x).box=x.box∧(f x).bg=x.bg∧(f x).ag=x.ag∧
   (∀i,nth (f x).aO i=if k=s∧i=j then (nth x.aO i).map (fun _=>none) else nth x.aO i)∧(f x).ep=if k=s then x.ep+1 else x.ep)∧nth (bl st s j none) k=(nth st k).map f:=by
  intro k;unfold bl
  by_cases e:k=s
  ·subst e;refine ⟨fun s=>{ s with aO:=lX (fun _=>none) s.aO j,ep:=s.ep+1 },fun x=>⟨rfl,rfl,rfl,rfl,fun i => ?_,by simp⟩,fY _ _ _⟩;simp only [cU,true_and]
  ·refine ⟨id,fun x=>⟨rfl,rfl,rfl,rfl,fun i => ?_,by simp [e]⟩,by rw [kS _ _ e];simp⟩;simp [e]
 generalize bl st s j none=aZ at hn ⊢;exact {
  stays:=iD.refl w _
  refs:=fun a' j' g A' _ ee=>by
   obtain ⟨sl,k1,k2,k3⟩:=bd ee;obtain ⟨f,hf,hk⟩:=hn a';rw [hk] at k1
   cases hx:nth st a' with
   |none=>rw [hx] at k1;simp at k1
   |some x=>
    rw [hx] at k1;simp at k1;subst k1;rw [(hf x).2.2.2.2.1 j'] at k3;rw [(hf x).2.2.2.1] at k2;refine ⟨A',?_,rfl,rfl,rfl,fun _=>⟨rfl,fun _ _ _ _=>rfl⟩⟩
    by_cases e:a'=s∧j'=j
    ·rw [if_pos e] at k3
     cases hq:nth x.aO j'<;>simp [hq] at k3
    ·rw [if_neg e] at k3;unfold aX;rw [hx];have:Nat.beq x.ag g=true:=by rw [k2];exact Nat.beq_refl g
     simp [this,k3]
  Bv:=fun b g lM _ hb=>by
   refine ⟨⟨lM,?_⟩,rfl⟩;obtain ⟨f,hf,hk⟩:=hn b;unfold cZ at hb ⊢;rw [hk] at hb
   cases hx:nth st b with
   |none=>rw [hx] at hb;simp at hb
   |some x=>rw [hx] at hb;simpa [(hf x).2.1,(hf x).2.2.1] using hb
  gA:=fun b=>by
   obtain ⟨f,hf,hk⟩:=hn b;unfold cK;rw [hk]
   cases hx:nth st b with
   |none=>simp
   |some x=>simp [(hf x).2.2.2.1]
  gB:=fun b=>by
   obtain ⟨f,hf,hk⟩:=hn b;unfold ff;rw [hk]
   cases hx:nth st b with
   |none=>simp
   |some x=>simp [(hf x).2.2.1]
  gE:=fun b=>by
   obtain ⟨f,hf,hk⟩:=hn b;unfold j7;rw [hk]
   cases hx:nth st b with
   |none=>simp
   |some x=>
    simp only [Option.map_some];rw [(hf x).2.2.2.2.2]
    split<;>omega }
theorem Rel.kill {w0:World} {mu:Mu} {c:Cz} {st:St} {a:Act} {w:World} (h:Rel w0 mu c st a w) (s j:Nat) :
  Rel w0 mu c (bl st s j none) a w∧∀sl A,nth (bl st s j none) s=some sl→nth sl.aO j≠some (some A):=by
 have hn:∀k,∃f:Sl→Sl,(∀x,(f x).v=x.v∧(f x).box=x.box∧(f x).bg=x.bg∧(f x).ag=x.ag∧
   (∀i,nth (f x).aO i=if k=s∧i=j then (nth x.aO i).map (fun _=>none) else nth x.aO i)∧(f x).ep=if k=s then x.ep+1 else x.ep)∧nth (bl st s j none) k=(nth st k).map f:=by
  intro k;unfold bl
  by_cases e:k=s
  ·subst e;refine ⟨fun s=>{ s with aO:=lX (fun _=>none) s.aO j,ep:=s.ep+1 },fun x=>⟨rfl,rfl,rfl,rfl,fun i => ?_,by simp⟩,fY _ _ _⟩;simp only [cU,true_and]
  ·refine ⟨id,fun x=>⟨rfl,rfl,rfl,rfl,fun i => ?_,by simp [e]⟩,by rw [kS _ _ e];simp⟩;simp [e]
 generalize bl st s j none=aZ at hn ⊢;have fj:Fw c st w c aZ w:={
  stays:=iD.refl w _
  refs:=fun a' j' g A' _ ee=>by
   obtain ⟨sl,k1,k2,k3⟩:=bd ee;obtain ⟨f,hf,hk⟩:=hn a';rw [hk] at k1
   cases hx:nth st a' with
   |none=>rw [hx] at k1;simp at k1
   |some x=>
    rw [hx] at k1;simp at k1;subst k1;rw [(hf x).2.2.2.2.1 j'] at k3;rw [(hf x).2.2.2.1] at k2;refine ⟨A',?_,rfl,rfl,rfl,fun _=>⟨rfl,fun _ _ _ _=>rfl⟩⟩
    by_cases e:a'=s∧j'=j
    ·rw [if_pos e] at k3
     cases hq:nth x.aO j'<;>simp [hq] at k3
    ·rw [if_neg e] at k3;unfold aX;rw [hx];have:Nat.beq x.ag g=true:=by rw [k2];exact Nat.beq_refl g
     simp [this,k3]
  Bv:=fun b g lM _ hb=>by
   refine ⟨⟨lM,?_⟩,rfl⟩;obtain ⟨f,hf,hk⟩:=hn b;unfold cZ at hb ⊢;rw [hk] at hb
   cases hx:nth st b with
   |none=>rw [hx] at hb;simp at hb
   |some x=>rw [hx] at hb;simpa [(hf x).2.1,(hf x).2.2.1] using hb
  gA:=fun b=>by
   obtain ⟨f,hf,hk⟩:=hn b;unfold cK;rw [hk]
   cases hx:nth st b with
   |none=>simp
   |some x=>simp [(hf x).2.2.2.1]
  gB:=fun b=>by
   obtain ⟨f,hf,hk⟩:=hn b;unfold ff;rw [hk]
   cases hx:nth st b with
   |none=>simp
   |some x=>simp [(hf x).2.2.1]
  gE:=fun b=>by
   obtain ⟨f,hf,hk⟩:=hn b;unfold j7;rw [hk]
   cases hx:nth st b with
   |none=>simp
   |some x=>
    simp only [Option.map_some];rw [(hf x).2.2.2.2.2]
    split<;>omega }
 refine ⟨{
  ea:=fun t=>by
   obtain ⟨f,hf,hk⟩:=hn t;have:bV aZ t=bV st t:=by
    unfold bV;rw [hk]
    cases hx:nth st t with
    |none=>rfl
    |some x=>exact (hf x).1
   rw [this];exact fj.kP (h.ea t)
  boxes:=fun b sl cs hs hb=>by
   obtain ⟨f,hf,hk⟩:=hn b;rw [hk] at hs
   cases hx:nth st b with
   |none=>rw [hx] at hs;simp at hs
   |some x=>
    rw [hx] at hs;simp at hs;subst hs;rw [(hf x).2.1] at hb;exact (h.boxes b x cs hx hb).go fj rfl rfl rfl
  aO:=fun b i sl A hs hA=>by
   obtain ⟨f,hf,hk⟩:=hn b;rw [hk] at hs
   cases hx:nth st b with
   |none=>rw [hx] at hs;simp at hs
   |some x=>
    rw [hx] at hs;simp at hs;subst hs;rw [(hf x).2.2.2.2.1 i] at hA
    by_cases e:b=s∧i=j
    ·rw [if_pos e] at hA
     cases hq:nth x.aO i<;>simp [hq] at hA
    ·rw [if_neg e] at hA;exact h.aO b i x A hx hA
  owned:=h.owned
  free:=h.free
  kept:=h.kept
  old:=h.old
  cV:=fun p hp=>fj.cV (h.cV p hp)
  mq:=h.mq
  plain:=h.plain },fun sl A hs => ?_⟩
 obtain ⟨f,hf,hk⟩:=hn s;rw [hk] at hs
 cases hx:nth st s with
 |none=>rw [hx] at hs;simp at hs
 |some x=>
  rw [hx] at hs;simp at hs;subst hs;rw [(hf x).2.2.2.2.1 j,if_pos ⟨rfl,rfl⟩]
  cases nth x.aO j<;>simp
def Cz.aU (c:Cz) (d:Nat) (L:Loc) (B:Option Nat):Cz:=
 { bx:=c.bx,lc:=fun s j=>if s=d∧j=0 then L else c.lc s j,own:=fun k=>if B=some k then some (.sp d 0) else c.own k,rs:=c.rs }
theorem jQ {st:St} {d:Option Nat} {A:gu} {aZ:St} (h:(aU st d A).val=some aZ) :
  ∃k s0,d=some k∧nth st k=some s0∧aZ=lX (fun s=>{ s with v:=.one (.ref k 0 (s0.ag+1) .full),aO:=[some A],ag:=s0.ag+1 }) st k:=by
 unfold aU at h
 cases d with
 |none=>simp [N.val] at h
 |some k=>
  cases hs:nth st k with
  |none=>simp [hs,N.val] at h
  |some s0=>
   simp only [hs,N.val,Option.some.injEq] at h;exact ⟨k,s0,rfl,hs,h.symm⟩
theorem Cw {st:St} {d:Option Nat} {cs:List CV} {aZ:St} (h:(iM st d cs).val=some aZ) :
  ∃k s0,d=some k∧nth st k=some s0∧aZ=lX (fun s=>{ s with v:=.one (.ptr k (s0.bg+1) 0),box:=some cs,bg:=s0.bg+1 }) st k:=by
 unfold iM at h
 cases d with
 |none=>simp [N.val] at h
 |some k=>
  cases hs:nth st k with
  |none=>simp [hs,N.val] at h
  |some s0=>
   simp only [hs,N.val,Option.some.injEq] at h;exact ⟨k,s0,rfl,hs,h.symm⟩
theorem Rel.fresh {w0:World} {mu:Mu} {c:Cz} {st:St} {a:Act} {w:World} (h:Rel w0 mu c st a w) {d:Nat} {s0:Sl} {r:RT} {xs:List (aA r)} {cur:Array Value} {ty cap:Nat}
  (fT:nth st d=some s0) (hd:d<a.tmps.size) (hle:xs.length≤cap) (jP:cap*r.width≤cur.size) {vs:List Value} (wX:bz w c.ok r vs xs) (JV:cur.toList.take vs.length=vs) :
  ∃c',Rel w0 mu c' (lX (fun s=>{ s with v:=.one (.ref d 0 (s0.ag+1) .full),aO:=[some { r:=r,own:=true,xs:=xs }],ag:=s0.ag+1 }) st d)
   (a.put (some d) (.slice (some ⟨w.heap.size,0,none⟩) xs.length cap)) (w.alloc (.cells cur ty (0,0))):=by
 have tS:=heap_alloc_new w (.cells cur ty (0,0));refine ⟨c.aU d (.at w.heap.size 0 cap) (some w.heap.size),h.place (B:=w.heap.size) (A:={ r:=r,own:=true,xs:=xs }) fT hd rfl ?_ ?_ (.inl ?_) (.inl (Nat.le_refl _)) (fun _=>by simp) (fun k hk _=>heap_alloc_old w _ k hk)
  ⟨rfl,rfl,rfl,by simp⟩ ?_ rfl ?_⟩
 ·intro s j eH;simp [Cz.aU,eH]
 ·intro k hk;simp only [Cz.aU];rw [if_neg (by intro e;exact hk (Option.some.inj e).symm)]
 ·simp [Cz.aU]
 ·have rn:iD w (w.alloc (.cells cur ty (0,0))) c.ok (c.aU d (.at w.heap.size 0 cap) (some w.heap.size)).ok:=wW w _ _ _ (fun b hb fZ=>by
   unfold Cz.ok Cz.aU;simp only;rw [if_neg (by intro e;have:=Option.some.inj e;omega)];exact fZ)
  unfold bO;simp only [Cz.aU,and_self,if_true];refine ⟨trivial,hle,⟨cur,ty,tS,by simpa using jP⟩,?_⟩;refine (bq.sh rfl).2 ?_;refine sN 0 vs xs (bz.stays rn vs xs wX) (fun j v hv => ?_);rw [cell_of_row _ _ _ cur ty (0,0) tS,Nat.zero_add];have hj:j<vs.length:=(List.getElem?_eq_some_iff.1 hv).1;rw [←JV,List.getElem?_take,if_pos hj] at hv;simpa using hv
 ·simp only [Cz.aU,and_self,if_true];exact ⟨_,cap,rfl,hle,by omega,fun _=>by simp⟩
theorem Fl {P:Program} {t ty e:TypeId} {i:TypeInfo} (ht:P.underlying t=some (.slice e)) (hi:P.info? e=some i) (w:World)
  (g o Ap Ha:Nat) (cur:Array Value) (te:TypeId) (hg:w.heap[g]?=some (.cells cur te (0,0)))
  (a:Addr) (m c:Nat) (news:List Value) (hl:news.length=m*i.size) (aaP:∀j u,news[j]?=some u→w.cell? (a.add j)=some u) (h1:∀u∈news,u.oneCell'=true)
  (tT:Ap+m≤Ha) (rB:o+Ap*i.size+news.length≤cur.size) :
  (Builtin.append_ #[t,t] ty #[.slice (some ⟨g,o,none⟩) Ap Ha,.slice (some a) m c]).run P w=
   .ok (.slice (some ⟨g,o,none⟩) (Ap+m) Ha) (w.setRow g (bG cur.toList (o+Ap*i.size) news).toArray):=by
 have hf:=run_firstCells_some (P:=P) w i.size m a m c news hl aaP;have rn:=run_storeCells_at P g (o+Ap*i.size) te news 0 cur w hg (by simpa using rB) h1;simp only [Nat.add_zero] at rn;simp [Builtin.append_,run_underlying ht,sizeOf,typeInfo,hi,Builtin.lenOf,tT,hf,Addr.add_mid,rn,bG]
theorem run_append_nothing {P:Program} {t ty e:TypeId} {i:TypeInfo} (ht:P.underlying t=some (.slice e)) (hi:P.info? e=some i) (w:World) (base:Option Addr) (Ap Ha:Nat) (hle:Ap≤Ha)
  (x:Value) (hx:(x=.slice none 0 0)∨∃a c,x=.slice (some a) 0 c) :
  (Builtin.append_ #[t,t] ty #[.slice base Ap Ha,x]).run P w=.ok (.slice base Ap Ha) w:=by
 rcases hx with rfl | ⟨a,c,rfl⟩
 ·cases base<;>simp [Builtin.append_,run_underlying ht,sizeOf,typeInfo,hi,Builtin.lenOf,Builtin.firstCells,hle,storeCells]
 ·cases base<;>simp [Builtin.append_,run_underlying ht,sizeOf,typeInfo,hi,Builtin.lenOf,Builtin.firstCells,hle,storeCells,loadCells,loadCellsFrom]
end Go.TM
namespace Go.TM
open Go Go.RowKit
def cr (w:World) (P:List Nat→Nat→Prop):(r:RT)→(p:List Nat)→(k:Nat)→List Value→aA r→Prop
 |.nil,_,_,vs,_=>vs=[]
 |.cons t r,p,k,vs,x=>∃v l,vs=v::l∧dC w P t (p++[k]) v x.1∧cr w P r p (k+1) l x.2
theorem cr.length {w:World} {P:List Nat→Nat→Prop}:(r:RT)→(p:List Nat)→(k:Nat)→(vs:List Value)→(x:aA r)→cr w P r p k vs x→vs.length=r.width
 |.nil,_,_,vs,_,h=>by simp only [cr] at h;subst h;rfl
 |.cons t r,p,k,vs,x,h=>by
  obtain ⟨v,l,rfl,_,h⟩:=h;simp [RT.width,cr.length r p (k+1) l x.2 h]
theorem fU {w:World} {P:List Nat→Nat→Prop}:(r:RT)→(p:List Nat)→(k b off:Nat)→(x:aA r)→(eK w P r p k b off x↔∃vs,w.rangeAt b off vs∧cr w P r p k vs x)
 |.nil,_,_,_,_,_=>by
  unfold eK;exact ⟨fun _=>⟨[],fun j v h=>by simp at h,rfl⟩,fun _=>trivial⟩
 |.cons t r,p,k,b,off,x=>by
  unfold eK
  constructor
  ·rintro ⟨⟨v,hv,hx⟩,hr⟩
   obtain ⟨vs,h1,h2⟩:=(fU r p (k+1) b (off+1) x.2).1 hr;refine ⟨v::vs,fun j u hu => ?_,v,vs,rfl,hx,h2⟩
   cases j with
   |zero=>simp at hu;rw [←hu];exact hv
   |succ j=>
    simp at hu;rw [show off+(j+1)=off+1+j by omega];exact h1 j u hu
  ·rintro ⟨vs,h1,v,l,rfl,hx,h2⟩
   refine ⟨⟨v,h1 0 v rfl,hx⟩,(fU r p (k+1) b (off+1) x.2).2 ⟨l,fun j u hu => ?_,h2⟩⟩;have:=h1 (j+1) u (by simpa using hu);rw [show off+1+j=off+(j+1) by omega];exact this
theorem cr.go {w w':World} {P P':List Nat→Nat→Prop}:(r:RT)→(p p':List Nat)→(hP:∀q b,P (p++q) b→w'.heap[b]?=w.heap[b]?∧P' (p'++q) b)→(k:Nat)→(vs:List Value)→(x:aA r)→cr w P r p k vs x→cr w' P' r p' k vs x
 |.nil,_,_,_,_,_,_,h=>h
 |.cons t r,p,p',hP,k,vs,x,h=>by
  obtain ⟨v,l,e,h1,h2⟩:=h;refine ⟨v,l,e,dC.go t (p++[k]) (p'++[k]) (fun q b hb => ?_) v x.1 h1,cr.go r p p' hP (k+1) l x.2 h2⟩;have:=hP ([k]++q) b (by rw [←List.append_assoc];exact hb);rw [←List.append_assoc] at this;exact this
theorem DE {w:World} {P:List Nat→Nat→Prop} {c:Cz} {st:St} {w1:World}:(r:RT)→(p:List Nat)→(k0:Nat)→(x:aA r)→(k:Nat)→(y:CV)→(z:aA r)→(vs:List Value)→(u:Value)→
  fJ r x k y=some z→jh c st w1 y u→cr w P r p k0 vs x→cr w P r p k0 (vs.set k u) z
 |.nil,_,_,_,_,_,_,_,_,h,_,_=>by simp [fJ] at h
 |.cons t r,p,k0,x,0,y,z,vs,u,h,hu,hv=>by
  obtain ⟨v,l,rfl,hx,hr⟩:=hv
  cases t with
  |int k=>
   cases y<;>simp [fJ] at h
   obtain ⟨rfl,h⟩:=h;obtain rfl:=Option.some.inj h;exact ⟨u,l,rfl,yV.2 hu,hr⟩
  |bool=>
   cases y<;>simp [fJ] at h
   obtain rfl:=Option.some.inj h;exact ⟨u,l,rfl,uK.2 hu,hr⟩
  |str=>
   cases y<;>simp [fJ] at h
   obtain rfl:=Option.some.inj h;exact ⟨u,l,rfl,yW.2 hu,hr⟩
  |sl q=>cases y<;>simp [fJ] at h
 |.cons t r,p,k0,x,k+1,y,z,vs,u,h,hu,hv=>by
  obtain ⟨v,l,rfl,hx,hr⟩:=hv;have h':(fJ r x.2 k y).map (fun z=>((x.1,z):aA (.cons t r)))=some z:=by cases t<;>(simp only [fJ] at h;exact h)
  cases hq:fJ r x.2 k y with
  |none=>simp [hq] at h'
  |some z'=>
   rw [hq] at h';obtain rfl:=Option.some.inj h';exact ⟨v,l.set k u,rfl,hx,DE r p (k0+1) x.2 k y z' l u hq hu hr⟩
theorem yY {w:World} {P:List Nat→Nat→Prop} {c:Cz} {st:St} {w1:World} (r:RT) (p:List Nat) (k0:Nat) (x:aA r):(off:Nat)→(cs:List CV)→(z:aA r)→(vs us:List Value)→off+us.length≤vs.length→
  jY r x off cs=some z→eM c st w1 cs us→cr w P r p k0 vs x→cr w P r p k0 (bG vs off us) z
 |off,[],z,vs,us,_,h,hl,hv=>by
  have:us=[]:=by have:=hl.1;simp at this;exact List.length_eq_zero_iff.1 this.symm
  subst this;simp [jY] at h;subst h;simp [bG];exact hv
 |off,y::l,z,vs,us,hle,h,hl,hv=>by
  cases us with
  |nil=>have:=hl.1;simp at this
  |cons u us=>
   simp only [jY] at h
   cases hq:jY r x (off+1) l with
   |none=>simp [hq] at h
   |some y'=>
    simp only [hq] at h;simp at hle;have ih:=yY r p k0 x (off+1) l y' vs us (by omega) hq ⟨by have:=hl.1;simpa using this,fun i a b ha hb=>hl.2 (i+1) a b (by simpa using ha) (by simpa using hb)⟩ hv;rw [Ct (by omega)];exact DE r p k0 y' off y z _ u h (hl.2 0 y u rfl rfl) ih
mutual
theorem bY.dep {w:World} {P:List Nat→Nat→Prop} {ok:Nat→Prop}:(t:Ty)→(p:List Nat)→(v:Value)→(x:den t)→RT.dZ (.cons t .nil)=false→bY w ok t v x→dC w P t p v x
 |.int _,_,_,_,_,h=>yV.2 (ri.1 h)
 |.bool,_,_,_,_,h=>uK.2 (sJ.1 h)
 |.str,_,_,_,_,h=>yW.2 (wU.1 h)
 |.sl _,_,_,_,hs,_=>by simp [RT.dZ] at hs
theorem cE.dep {w:World} {P:List Nat→Nat→Prop} {ok:Nat→Prop}:(r:RT)→(p:List Nat)→(k b off:Nat)→(x:aA r)→r.dZ=false→cE w ok r b off x→eK w P r p k b off x
 |.nil,_,_,_,_,_,_,_=>by unfold eK;trivial
 |.cons t r,p,k,b,off,x,hs,h=>by
  unfold cE at h;unfold eK;obtain ⟨⟨v,h1,h2⟩,h3⟩:=h;refine ⟨⟨v,h1,bY.dep t _ v x.1 ?_ h2⟩,cE.dep r p (k+1) b (off+1) x.2 ?_ h3⟩
  ·cases t<;>simp_all [RT.dZ]
  ·cases t<;>simp_all [RT.dZ]
end
theorem eK.H0 {w:World} {P:List Nat→Nat→Prop} {ok:Nat→Prop}:(r:RT)→(p:List Nat)→(k b off:Nat)→(x:aA r)→r.dZ=false→eK w P r p k b off x→cE w ok r b off x
 |.nil,_,_,_,_,_,_,_=>by unfold cE;trivial
 |.cons t r,p,k,b,off,x,hs,h=>by
  unfold eK at h;unfold cE;obtain ⟨⟨v,h1,h2⟩,h3⟩:=h;refine ⟨⟨v,h1,?_⟩,eK.H0 r p (k+1) b (off+1) x.2 (by cases t<;>simp_all [RT.dZ]) h3⟩
  cases t with
  |int _=>exact ri.2 (yV.1 h2)
  |bool=>exact sJ.2 (uK.1 h2)
  |str=>exact wU.2 (yW.1 h2)
  |sl _=>simp [RT.dZ] at hs
theorem bq.Pc {c:Cz} {w:World} {l:Lb} {A:gu} {b off:Nat} (hm:A.md=.sh) {ys:List (aA A.r)} (h:∀(i:Nat) x,ys[i]?=some x→cE w c.ok A.r b (off+i*A.r.width) x):bq c w l { A with xs:=ys } b off:=by
 unfold bq;show match A.md with | .sh=>_ | .dp=>_ | .ho _=>_ | .lz=>_
 rw [hm];exact h
def RT.md (q:RT):Md:=bif q.dZ then .dp else .sh
theorem RW {c:Cz} {w:World} {s j:Nat} {A:gu} (h:bO c w s j A) (ho:A.own=true) (hm:A.md=A.r.md) {v:Value} (h1:v.oneCell'=true) (hv:fh (c.lc s j) A.r.width 0 A.xs.length v) :
  ∃g:Nat→List Nat,∀(P:List Nat→Nat→Prop) (p:List Nat),(∀k,c.own k=some (.sp s j)→P (p++g k) k)→dC w P (.sl A.r) p v A.xs:=by
 unfold bO at h
 cases hl:c.lc s j with
 |nil=>
  rw [hl] at h hv;exact ⟨fun _=>[],fun P p _=>(wV _ _ _ _ _ _).2 ⟨.nil,hv,h1,.inl ⟨rfl,h⟩⟩⟩
 |«at» b off cap=>
  rw [hl] at h hv;obtain ⟨h0,h2,h3,h4⟩:=h;rw [ho] at h0;unfold bq at h4;rw [hm] at h4;unfold RT.md at h4
  cases hs:A.r.dZ with
  |false=>
   rw [hs] at h4;refine ⟨fun _=>[],fun P p hP=>(wV _ _ _ _ _ _).2 ⟨_,hv,h1,.inr ⟨b,off,cap,rfl,?_,h2,h3,fun i x hx=>cE.dep _ _ _ _ _ x hs (h4 i x hx)⟩⟩⟩;simpa using hP b h0
  |true=>
   rw [hs] at h4;obtain ⟨g,g1,g2⟩:=h4;refine ⟨g,fun P p hP=>(wV _ _ _ _ _ _).2 ⟨_,hv,h1,.inr ⟨b,off,cap,rfl,?_,h2,h3,fun i x hx=>eK.go _ [i] (p++[i]) (fun q k hk=>⟨rfl,?_⟩) _ _ _ x rfl (g2 i x hx)⟩⟩⟩
   ·have:=hP b h0
    rwa [g1,List.append_nil] at this
   ·have:=hP k hk.1;rw [hk.2] at this
    rwa [List.append_assoc]
theorem Pd {c:Cz} {w:World} {s j:Nat} {A:gu} (h:bO c w s j A) (ho:A.own=true) (hm:A.md=A.r.md) :
  ∃g:Nat→List Nat,∀v:Value,v.oneCell'=true→fh (c.lc s j) A.r.width 0 A.xs.length v→∀(P:List Nat→Nat→Prop) (p:List Nat),(∀k,c.own k=some (.sp s j)→P (p++g k) k)→dC w P (.sl A.r) p v A.xs:=by
 by_cases e:∃v:Value,v.oneCell'=true∧fh (c.lc s j) A.r.width 0 A.xs.length v
 ·unfold bO at h
  cases hl:c.lc s j with
  |nil=>
   rw [hl] at h;exact ⟨fun _=>[],fun v h1 hv P p _=>(wV _ _ _ _ _ _).2 ⟨.nil,hv,h1,.inl ⟨rfl,h⟩⟩⟩
  |«at» b off cap=>
   rw [hl] at h;obtain ⟨h0,h2,h3,h4⟩:=h;rw [ho] at h0;unfold bq at h4;rw [hm] at h4;unfold RT.md at h4
   cases hs:A.r.dZ with
   |false=>
    rw [hs] at h4;refine ⟨fun _=>[],fun v h1 hv P p hP=>(wV _ _ _ _ _ _).2 ⟨_,hv,h1,.inr ⟨b,off,cap,rfl,?_,h2,h3,fun i x hx=>cE.dep _ _ _ _ _ x hs (h4 i x hx)⟩⟩⟩;simpa using hP b h0
   |true=>
    rw [hs] at h4;obtain ⟨g,g1,g2⟩:=h4;refine ⟨g,fun v h1 hv P p hP=>(wV _ _ _ _ _ _).2 ⟨_,hv,h1,.inr ⟨b,off,cap,rfl,?_,h2,h3,fun i x hx=>eK.go _ [i] (p++[i]) (fun q k hk=>⟨rfl,?_⟩) _ _ _ x rfl (g2 i x hx)⟩⟩⟩
    ·have:=hP b h0
     rwa [g1,List.append_nil] at this
    ·have:=hP k hk.1;rw [hk.2] at this
     rwa [List.append_assoc]
 ·exact ⟨fun _=>[],fun v h1 h2=>absurd ⟨v,h1,h2⟩ e⟩
theorem tU {w0:World} {mu:Mu} {c:Cz} {st:St} {a:Act} {w:World} (h:Rel w0 mu c st a w):(r:RT)→(cs:List CV)→(us:List Value)→eM c st w cs us→{x:aA r}→{m:List (Option (Nat×Nat))}→cT st r cs=some (x,m)→
  m.length=r.width∧(∀(col:Nat) (n:Nat×Nat),m[col]?=some (some n)→∃g A,aX st n.1 n.2 g=some A∧A.own=true)∧
  ∃G:Nat→Nat→List Nat,∀(P:List Nat→Nat→Prop) (p:List Nat) (k0:Nat),(∀(col:Nat) (n:Nat×Nat) (k:Nat),m[col]?=some (some n)→c.own k=some (.sp n.1 n.2)→P (p++[k0+col]++G col k) k)→cr w P r p k0 us x
 |.nil,cs,us,hl,x,m,hv=>by
  cases cs with
  |cons _ _=>simp [cT] at hv
  |nil=>
   have:us=[]:=by have:=hl.1;simp at this;exact List.length_eq_zero_iff.1 this.symm
   subst this;simp only [cT,Option.some.injEq,Prod.mk.injEq] at hv;obtain ⟨_,rfl⟩:=hv;exact ⟨rfl,fun col n h=>by simp at h,fun _ _=>[],fun _ _ _ _=>rfl⟩
 |.cons t r,cs,us,hl,x,m,hv=>by
  cases cs with
  |nil=>cases t<;>simp [cT] at hv
  |cons y cs=>
   cases us with
   |nil=>have:=hl.1;simp at this
   |cons u us=>
    have hu:jh c st w y u:=hl.2 0 y u rfl rfl;have wK:eM c st w cs us:=⟨by have:=hl.1;simpa using this,fun i a b ha hb=>hl.2 (i+1) a b (by simpa using ha) (by simpa using hb)⟩;have cell:∀(d:den t) (o:Option (Nat×Nat)) (z:aA r) (m':List (Option (Nat×Nat))),cT st r cs=some (z,m')→(∀n,o=some n→∃g A,aX st n.1 n.2 g=some A∧A.own=true)→
      (∃g:Nat→List Nat,∀(P:List Nat→Nat→Prop) (p:List Nat),(∀n k,o=some n→c.own k=some (.sp n.1 n.2)→P (p++g k) k)→dC w P t p u d)→x=(d,z)→m=o::m'→
      m.length=(RT.cons t r).width∧(∀(col:Nat) (n:Nat×Nat),m[col]?=some (some n)→∃g A,aX st n.1 n.2 g=some A∧A.own=true)∧
      ∃G:Nat→Nat→List Nat,∀(P:List Nat→Nat→Prop) (p:List Nat) (k0:Nat),(∀(col:Nat) (n:Nat×Nat) (k:Nat),m[col]?=some (some n)→c.own k=some (.sp n.1 n.2)→P (p++[k0+col]++G col k) k)→cr w P (.cons t r) p k0 (u::us) x:=by
     intro d o z m' hz ho hd e1 e2;subst e1 e2;obtain ⟨g1,g2,G,g3⟩:=tU h r cs us wK hz;obtain ⟨g,hd⟩:=hd;refine ⟨by simp [RT.width,g1],fun col n hc => ?_,fun col=>match col with | 0=>g | col+1=>G col,fun P p k0 hP=>⟨u,us,rfl,hd P _ fun n k hn hk => ?_,g3 P p (k0+1) fun col n k hc hk => ?_⟩⟩
     ·cases col with
      |zero=>exact ho n (by simpa using hc)
      |succ col=>exact g2 col n (by simpa using hc)
     ·have:=hP 0 n k (by simp [hn]) hk;simpa using this
     ·have:=hP (col+1) n k (by simpa using hc) hk
      rwa [show k0+(col+1)=k0+1+col by omega] at this
    have plain:∀(d:den t),(∀(P:List Nat→Nat→Prop) (p:List Nat),dC w P t p u d)→(match cT st r cs with | some p=>some ((d,p.1),none::p.2) | none=>(none:Option (aA (.cons t r)×List (Option (Nat×Nat)))))=some (x,m)→
      m.length=(RT.cons t r).width∧(∀(col:Nat) (n:Nat×Nat),m[col]?=some (some n)→∃g A,aX st n.1 n.2 g=some A∧A.own=true)∧
      ∃G:Nat→Nat→List Nat,∀(P:List Nat→Nat→Prop) (p:List Nat) (k0:Nat),(∀(col:Nat) (n:Nat×Nat) (k:Nat),m[col]?=some (some n)→c.own k=some (.sp n.1 n.2)→P (p++[k0+col]++G col k) k)→cr w P (.cons t r) p k0 (u::us) x:=by
     intro d hd hv
     cases hz:cT st r cs with
     |none=>rw [hz] at hv;cases hv
     |some q=>
      rw [hz] at hv;have hv:=Option.some.inj hv;exact cell d none q.1 q.2 hz (fun n e=>by cases e) ⟨fun _=>[],fun P p _=>hd P p⟩ (congrArg Prod.fst hv).symm (congrArg Prod.snd hv).symm
    cases t with
    |int q=>
     cases y with
     |int l n=>
      simp only [cT] at hv
      by_cases e:q=l
      ·rw [if_pos e] at hv;exact plain n (fun P p=>yV.2 (by rw [e];exact hu)) hv
      ·rw [if_neg e] at hv;cases hv
     |_=>simp [cT] at hv
    |bool=>
     cases y with
     |bool b=>exact plain b (fun P p=>uK.2 hu) (by simp only [cT] at hv;exact hv)
     |_=>simp [cT] at hv
    |str=>
     cases y with
     |str s=>exact plain s (fun P p=>yW.2 hu) (by simp only [cT] at hv;exact hv)
     |_=>simp [cT] at hv
    |sl q=>
     cases y with
     |dO=>exact plain ([]:List (aA q)) (fun P p=>(wV _ _ _ _ _ _).2 ⟨.nil,⟨hu,rfl⟩,by rw [show u=.slice none 0 0 from hu];rfl,.inl ⟨rfl,rfl⟩⟩) (by simp only [cT] at hv;exact hv)
     |ref a' j g vw=>
      cases vw with
      |full=>
       simp only [cT] at hv
       cases hA:aX st a' j g with
       |none=>simp [hA] at hv
       |some A=>
        simp only [hA] at hv;obtain ⟨hc,nY⟩:=aK hv;clear hv;rw [Bool.and_eq_true] at hc;have hm:=Md.je.1 hc.2
        cases mP:bH q A.xs with
        |none=>rw [mP] at nY;cases nY
        |some ys=>
         rw [mP] at nY;simp only at nY
         cases hz:cT st r cs with
         |none=>rw [hz] at nY;cases nY
         |some qq=>
          rw [hz] at nY;have nY:=Option.some.inj nY;obtain ⟨e,he⟩:=bm mP;subst e;simp only at he;subst he;refine cell A.xs (some (a',j)) qq.1 qq.2 hz (fun n e=>by cases e;exact ⟨g,A,hA,hc.1⟩) ?_ (congrArg Prod.fst nY).symm (congrArg Prod.snd nY).symm;obtain ⟨gg,h2⟩:=RW (h.tR hA) hc.1 hm hu.1 (hu.2.2 A hA);exact ⟨gg,fun P p hP=>h2 P p fun k hk=>hP (a',j) k rfl hk⟩
      |«from» _=>simp [cT] at hv
      |sub _ _=>simp [cT] at hv
     |_=>simp [cT] at hv
theorem j1 {w0:World} {mu:Mu} {c:Cz} {a:Act} {w:World}:(m:List (Nat×Nat))→{st:St}→Rel w0 mu c st a w→Rel w0 mu c (ec st m) a w∧(∀n∈m,∀sl A,nth (ec st m) n.1=some sl→nth sl.aO n.2≠some (some A))∧
  (∀s j sl A,(s,j)∉m→nth st s=some sl→nth sl.aO j=some (some A)→∃RU,nth (ec st m) s=some RU∧nth RU.aO j=some (some A))∧Fw c st w c (ec st m) w∧∀s j A,(∀sl,nth st s=some sl→nth sl.aO j≠some (some A))→∀sl,nth (ec st m) s=some sl→nth sl.aO j≠some (some A)
 | [],st,h=>⟨h,by simp,fun s j sl A _ h1 h2=>⟨sl,h1,h2⟩,Fw.refl c st w,fun s j A h=>h⟩
 |(s0,j0)::m,st,h=>by
  obtain ⟨k1,k2⟩:=h.kill s0 j0;obtain ⟨h1,h2,h3,h4,h5⟩:=j1 m k1;have hn:∀k,∃f:Sl→Sl,(∀x,∀i,nth (f x).aO i=if k=s0∧i=j0 then (nth x.aO i).map (fun _=>none) else nth x.aO i)∧nth (bl st s0 j0 none) k=(nth st k).map f:=by
   intro k;unfold bl
   by_cases e:k=s0
   ·subst e;refine ⟨fun s=>{ s with aO:=lX (fun _=>none) s.aO j0,ep:=s.ep+1 },fun x i => ?_,fY _ _ _⟩;simp only [cU,true_and]
   ·refine ⟨id,fun x i => ?_,by rw [kS _ _ e];simp⟩;simp [e]
  have keep:∀s j A,(∀sl,nth st s=some sl→nth sl.aO j≠some (some A))→∀sl,nth (bl st s0 j0 none) s=some sl→nth sl.aO j≠some (some A):=by
   intro s j A hq sl hs;obtain ⟨f,hf,hk⟩:=hn s;rw [hk] at hs
   cases hx:nth st s with
   |none=>rw [hx] at hs;cases hs
   |some x=>
    rw [hx] at hs;simp at hs;subst hs;rw [hf]
    split
    ·cases nth x.aO j<;>simp
    ·exact hq x hx
  refine ⟨h1,fun n hm sl A hs => ?_,fun s j sl A hm hs hA => ?_,?_,fun s j A hq=>h5 s j A (keep s j A hq)⟩
  ·rcases List.mem_cons.1 hm with rfl | hm
   ·exact h5 s0 j0 A (fun sl hs=>k2 sl A hs) sl hs
   ·exact h2 n hm sl A hs
  ·obtain ⟨f,hf,hk⟩:=hn s;refine h3 s j (f sl) A (fun Br=>hm (List.mem_cons_of_mem _ Br)) (by rw [hk,hs];rfl) ?_;rw [hf,if_neg]
   ·exact hA
   ·rintro ⟨rfl,rfl⟩;exact hm List.mem_cons_self
  ·refine Fw.trans ?_ h4;exact (h.UL s0 j0)
open Classical in
noncomputable def Cz.gQ (c:Cz) (m:List (Nat×Nat)) (l:Lb):Cz:=
 { bx:=c.bx,lc:=c.lc,own:=fun k=>if ∃n∈m,c.own k=some (.sp n.1 n.2) then some l else c.own k,rs:=c.rs }
theorem Cz.l6 {c:Cz} {m:List (Nat×Nat)} {l:Lb} {k:Nat} {n:Nat×Nat} (hm:n∈m) (h:c.own k=some (.sp n.1 n.2)):(c.gQ m l).own k=some l:=by
 unfold Cz.gQ;simp only;rw [if_pos ⟨n,hm,h⟩]
theorem Cz.mQ {c:Cz} {m:List (Nat×Nat)} {l:Lb} {k:Nat} (h:∀n∈m,c.own k≠some (.sp n.1 n.2)):(c.gQ m l).own k=c.own k:=by
 unfold Cz.gQ;simp only;rw [if_neg];rintro ⟨n,hm,e⟩;exact h n hm e
theorem Cz.H2 {c:Cz} {m:List (Nat×Nat)} {l:Lb} {k:Nat}:(c.gQ m l).ok k↔c.ok k:=by
 unfold Cz.ok
 by_cases h:∃n∈m,c.own k=some (.sp n.1 n.2)
 ·obtain ⟨n,hm,e⟩:=h;rw [Cz.l6 hm e,e];simp
 ·rw [Cz.mQ (fun n hm e=>h ⟨n,hm,e⟩)]
theorem Fw.gQ (c:Cz) (st:St) (w:World) (m:List (Nat×Nat)) (l:Lb):Fw c st w (c.gQ m l) st w:=
 ⟨⟨Nat.le_refl _,fun _ _ _=>rfl,fun _ _ h=>Cz.H2.2 h⟩,fun _ _ _ A' _ h=>⟨A',h,rfl,rfl,rfl,fun _=>⟨rfl,fun _ _ _ _=>rfl⟩⟩,fun _ _ lM _ h=>⟨⟨lM,h⟩,rfl⟩,fun _=>Nat.le_refl _,fun _=>Nat.le_refl _,fun _=>Nat.le_refl _⟩
theorem Rel.gQ {w0:World} {mu:Mu} {c:Cz} {st:St} {a:Act} {w:World} (h:Rel w0 mu c st a w) {m:List (Nat×Nat)} (hd:∀n∈m,∀sl A,nth st n.1=some sl→nth sl.aO n.2≠some (some A)) (s j:Nat):Rel w0 mu (c.gQ m (.sp s j)) st a w where
 ea t:=(Fw.gQ c st w m _).kP (h.ea t)
 boxes b sl cs hs hb:=by
  have h0:=h.boxes b sl cs hs hb;exact h0.go (Fw.gQ c st w m _) rfl (Cz.mQ fun n _=>by rw [h0.1];simp) rfl
 aO b i sl A hs hA:=by
  have h0:=h.aO b i sl A hs hA;refine h0.go (Fw.gQ c st w m _).stays rfl (fun k hk=>⟨rfl,Cz.mQ fun n hn e => ?_⟩);rw [hk] at e;injection e with e;injection e with e1 e2;subst e1 e2;exact hd n hn sl A hs hA
 owned b l hb:=by
  by_cases e:∃n∈m,c.own b=some (.sp n.1 n.2)
  ·obtain ⟨n,hm,e⟩:=e;rw [Cz.l6 hm e] at hb
   cases hb
   obtain ⟨h1,h2⟩:=h.owned b _ e;exact ⟨h1,.inr (h2.resolve_left (by simp))⟩
  ·rw [Cz.mQ (fun n hm e'=>e ⟨n,hm,e'⟩)] at hb;exact h.owned b l hb
 free b hb h1:=h.free b hb (Cz.H2.1 h1)
 kept:=h.kept
 old:=h.old
 plain:=h.plain
 cV p hp:=(Fw.gQ c st w m _).cV (h.cV p hp)
 mq:=h.mq
theorem jj:{m:List (Nat×Nat)}→distinct m=true→m.Nodup
 | [],_=>List.nodup_nil
 |x::l,h=>by
  simp only [distinct,Bool.and_eq_true,List.all_eq_true] at h;refine List.nodup_cons.2 ⟨fun hm => ?_,jj h.2⟩;have:=h.1 x hm;simp at this
theorem yZ {n:Nat×Nat}:{m:List (Option (Nat×Nat))}→n∈bn m→∃col:Nat,m[col]?=some (some n)
 | [],h=>by simp [bn] at h
 |none::m,h=>by
  obtain ⟨col,hc⟩:=yZ (m:=m) h;exact ⟨col+1,by simpa using hc⟩
 |some p::m,h=>by
  rcases List.mem_cons.1 h with rfl | h
  ·exact ⟨0,rfl⟩
  ·obtain ⟨col,hc⟩:=yZ (m:=m) h;exact ⟨col+1,by simpa using hc⟩
theorem fK {n:Nat×Nat}:{m:List (Option (Nat×Nat))}→{col:Nat}→m[col]?=some (some n)→n∈bn m
 | [],_,h=>by simp at h
 |none::m,0,h=>by simp at h
 |none::m,col+1,h=>fK (m:=m) (col:=col) (by simpa using h)
 |some p::m,0,h=>by simp at h;subst h;exact List.mem_cons_self
 |some p::m,col+1,h=>List.mem_cons_of_mem _ (fK (m:=m) (col:=col) (by simpa using h))
theorem rC {n:Nat×Nat}:{m:List (Option (Nat×Nat))}→(bn m).Nodup→{a b:Nat}→m[a]?=some (some n)→m[b]?=some (some n)→a=b
 | [],_,a,_,h,_=>by simp at h
 |none::m,hn,a,b,h,h'=>by
  cases a with
  |zero=>simp at h
  |succ a=>cases b with
   |zero=>simp at h'
   |succ b=>exact congrArg (· + 1) (rC (m:=m) (a:=a) (b:=b) hn (by simpa using h) (by simpa using h'))
 |some p::m,hn,a,b,h,h'=>by
  have MJ:=List.nodup_cons.1 hn
  cases a with
  |zero=>
   simp at h;subst h
   cases b with
   |zero=>rfl
   |succ b=>exact absurd (fK (m:=m) (col:=b) (by simpa using h')) MJ.1
  |succ a=>
   cases b with
   |zero=>simp at h';subst h';exact absurd (fK (m:=m) (col:=a) (by simpa using h)) MJ.1
   |succ b=>exact congrArg (· + 1) (rC (m:=m) (a:=a) (b:=b) MJ.2 (by simpa using h) (by simpa using h'))
open Classical in
noncomputable def Cz.pR (c:Cz) (m:List (Nat×Nat)) (l:Lb):Cz:=
 { bx:=c.bx,lc:=c.lc,own:=c.own,rs:=fun k=>if ∃n∈m,c.own k=some (.sp n.1 n.2) then some l else c.rs k }
theorem Cz.LB {c:Cz} {m:List (Nat×Nat)} {l:Lb} {k:Nat} {n:Nat×Nat} (hm:n∈m) (h:c.own k=some (.sp n.1 n.2)):(c.pR m l).rs k=some l:=by
 unfold Cz.pR;simp only;rw [if_pos ⟨n,hm,h⟩]
theorem Cz.H3 {c:Cz} {m:List (Nat×Nat)} {l:Lb} {k:Nat} (h:c.own k=none):(c.pR m l).rs k=c.rs k:=by
 unfold Cz.pR;simp only;rw [if_neg];rintro ⟨n,hm,e⟩;rw [h] at e;cases e
theorem Fw.pR (c:Cz) (st:St) (w:World) (m:List (Nat×Nat)) (l:Lb):Fw c st w (c.pR m l) st w:=
 ⟨⟨Nat.le_refl _,fun _ _ _=>rfl,fun _ _ h=>h⟩,fun _ _ _ A' _ h=>⟨A',h,rfl,rfl,rfl,fun _=>⟨rfl,fun _ _ _ _=>rfl⟩⟩,fun _ _ lM _ h=>⟨⟨lM,h⟩,rfl⟩,fun _=>Nat.le_refl _,fun _=>Nat.le_refl _,fun _=>Nat.le_refl _⟩
theorem Rel.pR {w0:World} {mu:Mu} {c:Cz} {st:St} {a:Act} {w:World} (h:Rel w0 mu c st a w) (m:List (Nat×Nat)) (l:Lb):Rel w0 mu (c.pR m l) st a w where
 ea t:=(Fw.pR c st w m _).kP (h.ea t)
 boxes b sl cs hs hb:=(h.boxes b sl cs hs hb).go (Fw.pR c st w m _) rfl rfl rfl
 aO b i sl A hs hA:=(h.aO b i sl A hs hA).go (Fw.pR c st w m l).stays rfl (fun k hk=>⟨rfl,rfl⟩) (fun k hk _ hr=>by rw [Cz.H3 hk];exact hr)
 owned:=h.owned
 free:=h.free
 kept:=h.kept
 old:=h.old
 plain:=h.plain
 cV p hp:=(Fw.pR c st w m _).cV (h.cV p hp)
 mq k l' hk:=by
  by_cases e:∃n∈m,c.own k=some (.sp n.1 n.2)
  ·obtain ⟨n,hn,e⟩:=e;obtain ⟨h1,h2⟩:=h.owned k _ e;exact ⟨h1,(h2.resolve_left (by simp)).imp id .inl⟩
  ·unfold Cz.pR at hk;simp only at hk;rw [if_neg e] at hk;exact h.mq k l' hk
theorem Cz.Dh:(m:List (Nat×Nat))→(c:Cz)→(c.drop m).rs=c.rs
 | [],_=>rfl
 |(a,j)::m,c=>(Cz.Dh m (c.drop1 a j)).trans rfl
theorem DF {c:Cz} {m:List (Option (Nat×Nat))} (hn:(bn m).Nodup) (G:Nat→Nat→List Nat) (g:Nat→List Nat) (p:List Nat) :
  ∃g':Nat→List Nat,(∀k,c.own k=none→g' k=g k)∧∀(col:Nat) (n:Nat×Nat) (k:Nat),m[col]?=some (some n)→c.own k=some (.sp n.1 n.2)→g' k=p++[col]++G col k:=by
 have key:∀k,∃q:List Nat,(c.own k=none→q=g k)∧∀(col:Nat) (n:Nat×Nat),m[col]?=some (some n)→c.own k=some (.sp n.1 n.2)→q=p++[col]++G col k:=by
  intro k
  by_cases e:∃(col:Nat) (n:Nat×Nat),m[col]?=some (some n)∧c.own k=some (.sp n.1 n.2)
  ·obtain ⟨col,n,e1,e2⟩:=e;refine ⟨p++[col]++G col k,fun h => ?_,fun aaQ n' h1 h2 => ?_⟩
   ·rw [e2] at h;cases h
   ·rw [e2] at h2;injection h2 with h2;injection h2 with q1 q2;have:n=n':=Prod.ext q1 q2;subst this;rw [rC hn h1 e1]
  ·exact ⟨g k,fun _=>rfl,fun col n h1 h2=>absurd ⟨col,n,h1,h2⟩ e⟩
 obtain ⟨g',h⟩:=Classical.axiomOfChoice key;exact ⟨g',fun k=>(h k).1,fun col n k=>(h k).2 col n⟩
theorem Bx {c:Cz} {m:List (Option (Nat×Nat))} (hn:(bn m).Nodup) (G:Nat→Nat→List Nat) (g:Nat→List Nat) (p:List Nat) (l:Lb) (hl:∀n∈bn m,l≠.sp n.1 n.2) :
  ∃g':Nat→List Nat,(∀k,c.own k=some l→g' k=g k)∧∀(col:Nat) (n:Nat×Nat) (k:Nat),m[col]?=some (some n)→c.own k=some (.sp n.1 n.2)→g' k=p++[col]++G col k:=by
 have key:∀k,∃q:List Nat,(c.own k=some l→q=g k)∧∀(col:Nat) (n:Nat×Nat),m[col]?=some (some n)→c.own k=some (.sp n.1 n.2)→q=p++[col]++G col k:=by
  intro k
  by_cases e:∃(col:Nat) (n:Nat×Nat),m[col]?=some (some n)∧c.own k=some (.sp n.1 n.2)
  ·obtain ⟨col,n,e1,e2⟩:=e;refine ⟨p++[col]++G col k,fun h => ?_,fun aaQ n' h1 h2 => ?_⟩
   ·rw [e2] at h;cases h;exact absurd rfl (hl n (fK e1))
   ·rw [e2] at h2;injection h2 with h2;injection h2 with q1 q2;have:n=n':=Prod.ext q1 q2;subst this;rw [rC hn h1 e1]
  ·exact ⟨g k,fun _=>rfl,fun col n h1 h2=>absurd ⟨col,n,h1,h2⟩ e⟩
 obtain ⟨g',h⟩:=Classical.axiomOfChoice key;exact ⟨g',fun k=>(h k).1,fun col n k=>(h k).2 col n⟩
theorem MK {P:Program} {T:kG} (hT:fi P T) {w0:World} {mu:Mu} {c:Cz} {st:St} {a:Act} {w:World} (h:Rel w0 mu c st a w)
  {t:Nat} {x v:V} {ux uv:Value} (hx:ej c st w x ux) (hv:ej c st w v uv) {aZ:St} (hs:(tj T st t x v).val=some aZ) :
  ∃w',(Instr.storeAt t ux uv).run P w=.ok () w'∧∃c',Rel w0 mu c' aZ a w':=by
 cases hn:T.cells t with
 |none=>cases x with
  |one y=>cases y<;>simp [tj,hn,N.val] at hs
  |agg _=>simp [tj,N.val] at hs
  |m9 _=>simp [tj,N.val] at hs
 |some n=>cases x with
  |agg _=>simp [tj,N.val] at hs
  |m9 _=>simp [tj,N.val] at hs
  |one y=>cases y with
   |bad | int _ _ | bool _ | str _ | dO | JI | shr _ _ | nn _ _ | ref _ _ _ _ | lL _ _ _ | ti _ _ _ | fn _ _ _ | JJ _ _ _ _ _ _ _ _ | pr _ _ _ _ _ _ _ _=>simp [tj,N.val] at hs
   |ptr b g off=>
    simp only [tj,hn] at hs
    cases hb:cZ st b g with
    |none=>simp [hb,N.val] at hs
    |some cs=>
     simp only [hb] at hs;obtain ⟨hc,hs⟩:=cN hs;rw [Bool.and_eq_true] at hc
     cases hp:putCells cs off v.cells with
     |none=>simp [hp,N.val] at hs
     |some l=>
      simp only [hp,N.val,Option.some.injEq] at hs;subst hs;obtain ⟨hle,rfl⟩:=yF hp;obtain ⟨sl,Ae,JT,Bp⟩:=im hb;obtain ⟨ho,vs,ty,hh,hl⟩:=h.boxes b sl cs Ae Bp;obtain ⟨mP,za⟩:=hv.cells hc.1;have hu:=hx.2.2 cs hb;subst hu;have hlen:uv.cells.toList.length=n:=by rw [←mP.1];exact Nat.eq_of_beq_eq_true hc.2
      have wL:=hl.1;have C8:=mP.1;refine ⟨_,jO hT hn w (c.bx b) off uv hlen za hh (by simp at wL ⊢;omega),c,?_⟩;refine h.O8 Ae Bp hh ?_;simpa using hl.bG mP off hle
   |HU a' j g i off=>
    simp only [tj,hn] at hs
    cases hA:aX st a' j g with
    |none=>simp [hA,N.val] at hs
    |some A=>
     simp only [hA] at hs;obtain ⟨hc,hz⟩:=cN hs;clear hs;rw [Bool.and_eq_true,Bool.and_eq_true,Bool.and_eq_true] at hc;obtain ⟨⟨⟨afX,dR⟩,FV⟩,JW⟩:=hc;have JW:0<n:=by simp [Nat.blt] at JW;omega
     obtain ⟨sl,Ae,JT,Bp⟩:=bd hA;have Fi:=h.aO a' j sl A Ae Bp;obtain ⟨hi,b,o,cap,gN,hu⟩:=hx.2.2 A hA;have UM:=Fi;unfold bO at UM;rw [gN] at UM;obtain ⟨ho,yw,⟨cur,ty,hg,jP⟩,dj⟩:=UM;rw [dR] at ho;obtain ⟨mP,za⟩:=hv.cells afX;have hlen:uv.cells.toList.length=n:=by rw [←mP.1];exact Nat.eq_of_beq_eq_true FV
     have C9:o+i*A.r.width+A.r.width≤cur.size:=by
      have:(i+1)*A.r.width≤cap*A.r.width:=Nat.mul_le_mul_right _ (by omega);rw [Nat.add_mul] at this;omega
     subst hu
     cases hw:Nat.beq n A.r.width&&A.r.dZ&&Nat.beq off 0 with
     |false=>
      rw [hw] at hz;simp only [cond_false] at hz
      cases hm:A.md with
      |ho _=>rw [hm] at hz;simp [N.val,Md.Fc] at hz
      |sh=>
       rw [hm] at hz;simp only [Md.Fc,cond_false] at hz;have dj:=(bq.sh hm).1 dj
       cases tk:A.xs[i]? with
       |none=>simp [tk,N.val] at hz
       |some x0=>
        simp only [tk] at hz;change (match jY A.r x0 off v.cells with | some y=>N.done (bl st a' j (some (A.put (A.xs.set i y)))) | none=>N.fail).val=some aZ at hz
        cases hp:jY A.r x0 off v.cells with
        |none=>simp [hp,N.val] at hz
        |some y=>
         simp only [hp,N.val,Option.some.injEq] at hz;subst hz;have C8:=mP.1;have Pe:off+uv.cells.toList.length≤A.r.width:=by
          rw [←C8];exact qD A.r x0 off v.cells hp (by intro e;rw [e] at C8;simp at C8;simp at hlen;omega)
         refine ⟨_,jO hT hn w b (o+i*A.r.width+off) uv hlen za hg (by omega),c,?_⟩;exact h.rq Ae Bp dR gN hg (by rw [List.size_toArray,dP (by simp at Pe ⊢;omega)];simp) (by simp)
          (bq.Pc hm (Ao ho hg dj tk Pe C9 (fun vs wX=>DC A.r x0 off v.cells y vs _ (by rw [cF.length A.r vs x0 wX];exact Pe) hp mP wX)))
      |dp=>
       rw [hm] at hz;simp only [Md.Fc,cond_false] at hz;unfold bq at dj;rw [hm] at dj;obtain ⟨gg,JC,dj⟩:=dj
       cases tk:A.xs[i]? with
       |none=>simp [tk,N.val] at hz
       |some x0=>
        simp only [tk] at hz;change (match jY A.r x0 off v.cells with | some y=>N.done (bl st a' j (some (A.put (A.xs.set i y)))) | none=>N.fail).val=some aZ at hz
        cases hp:jY A.r x0 off v.cells with
        |none=>simp [hp,N.val] at hz
        |some y=>
         simp only [hp,N.val,Option.some.injEq] at hz;subst hz;have C8:=mP.1;have Pe:off+uv.cells.toList.length≤A.r.width:=by
          rw [←C8];exact qD A.r x0 off v.cells hp (by intro e;rw [e] at C8;simp at C8;simp at hlen;omega)
         refine ⟨_,jO hT hn w b (o+i*A.r.width+off) uv hlen za hg (by omega),c,?_⟩;refine h.rq Ae Bp dR gN hg (by rw [List.size_toArray,dP (by simp at Pe ⊢;omega)];simp) (by simp) ?_;unfold bq;show match A.md with | .sh=>_ | .dp=>_ | .ho _=>_ | .lz=>_
         rw [hm];refine ⟨gg,JC,fun i' x' sK => ?_⟩;obtain ⟨vs,q1,q2⟩:=oR hg (Q:=fun i vs x=>cr w (fun p k=>c.own k=some (.sp a' j)∧gg k=p) A.r [i] 0 vs x) (fun i x hx=>by
          obtain ⟨vs,q1,q2⟩:=(fU _ _ _ _ _ _).1 (dj i x hx);exact ⟨vs,q1,cr.length _ _ _ _ _ q2,q2⟩) tk Pe C9 (fun vs wL wX=>yY A.r [i] 0 x0 off v.cells y vs _ (by rw [wL];exact Pe) hp mP wX) i' x' sK
         refine (fU _ _ _ _ _ _).2 ⟨vs,q1,cr.go _ [i'] [i'] (fun q k hk=>⟨setRow_other w b k _ ?_,hk⟩) 0 vs x' q2⟩
         rintro rfl
         rw [JC] at hk;simp at hk
      |lz=>
       rw [hm] at hz;simp only [Md.Fc,cond_false] at hz;unfold bq at dj;rw [hm] at dj;obtain ⟨gg,dj⟩:=dj
       cases tk:A.xs[i]? with
       |none=>simp [tk,N.val] at hz
       |some x0=>
        simp only [tk] at hz;change (match jY A.r x0 off v.cells with | some y=>N.done (bl st a' j (some (A.put (A.xs.set i y)))) | none=>N.fail).val=some aZ at hz
        cases hp:jY A.r x0 off v.cells with
        |none=>simp [hp,N.val] at hz
        |some y=>
         simp only [hp,N.val,Option.some.injEq] at hz;subst hz;have C8:=mP.1;have Pe:off+uv.cells.toList.length≤A.r.width:=by
          rw [←C8];exact qD A.r x0 off v.cells hp (by intro e;rw [e] at C8;simp at C8;simp at hlen;omega)
         refine ⟨_,jO hT hn w b (o+i*A.r.width+off) uv hlen za hg (by omega),c,?_⟩;refine h.rq Ae Bp dR gN hg (by rw [List.size_toArray,dP (by simp at Pe ⊢;omega)];simp) (by simp) ?_;unfold bq;show match A.md with | .sh=>_ | .dp=>_ | .ho _=>_ | .lz=>_
         rw [hm];refine ⟨gg,fun i' x' sK => ?_⟩;obtain ⟨vs,q1,q2⟩:=oR hg (Q:=fun i vs x=>cr w (fun p k=>c.Fe w (.sp a' j) k∧gg k=p) A.r [i] 0 vs x) (fun i x hx=>by
          obtain ⟨vs,q1,q2⟩:=(fU _ _ _ _ _ _).1 (dj i x hx);exact ⟨vs,q1,cr.length _ _ _ _ _ q2,q2⟩) tk Pe C9 (fun vs wL wX=>yY A.r [i] 0 x0 off v.cells y vs _ (by rw [wL];exact Pe) hp mP wX) i' x' sK
         refine (fU _ _ _ _ _ _).2 ⟨vs,q1,cr.go _ [i'] [i'] (fun q k hk=>⟨setRow_other w b k _ ?_,⟨hk.1.1,hk.1.2.1,by simpa [World.setRow] using hk.1.2.2⟩,hk.2⟩) 0 vs x' q2⟩
         rintro rfl
         have:=hk.1.1;rw [ho] at this
         cases this
     |true=>
      rw [hw] at hz;simp only [cond_true] at hz;rw [Bool.and_eq_true,Bool.and_eq_true] at hw;have hnW:=Nat.eq_of_beq_eq_true hw.1.1;have afY:=Nat.eq_of_beq_eq_true hw.2;subst afY;have Fm:uv.cells.toList.length=A.r.width:=by rw [hlen,hnW]
      have UN:∀vs:List Value,vs.length=A.r.width→bG vs 0 uv.cells.toList=uv.cells.toList:=by
       intro vs wL;unfold bG;rw [List.drop_eq_nil_of_le (by omega)];simp
      cases hm:A.md with
      |ho q0=>
       rw [hm] at hz;simp only at hz
       cases JD:cT st A.r v.cells with
       |none=>rw [JD] at hz;simp [N.val] at hz
       |some pq=>
        obtain ⟨x1,m⟩:=pq;rw [JD] at hz;simp only at hz;obtain ⟨ML,h1⟩:=cN hz;clear hz;rw [Bool.and_eq_true] at ML;have Hb:=jj ML.1;have JX:(a',j)∉bn m:=by
         intro yx;have:=List.all_eq_true.1 ML.2 _ yx;simp at this
        obtain ⟨hiq,UO⟩:Nat.beq i q0=true∧(N.row A.r A.xs[i]? (fun _=>N.done (bl (ec st (bn m)) a' j (some { A.put (A.xs.set i x1) with md:=.dp })))).val=some aZ:=by
         cases hb:Nat.beq i q0 with
         |true=>rw [hb] at h1;exact ⟨rfl,h1⟩
         |false=>rw [hb] at h1;cases h1
        have hiq:=Nat.eq_of_beq_eq_true hiq;clear h1;have h1:=UO;clear UO;subst hiq
        cases tk:A.xs[i]? with
        |none=>simp [tk,N.val] at h1
        |some x0=>
         simp only [tk] at h1;change some _=some aZ at h1;obtain rfl:=Option.some.inj h1;obtain ⟨Pf,hmo,G,hG⟩:=tU h A.r v.cells _ mP JD;unfold bq at dj;rw [hm] at dj;obtain ⟨gg,JC,dj⟩:=dj dR;obtain ⟨By,qw,RA,_,_⟩:=j1 (bn m) h;have hR:=By.gQ qw a' j;obtain ⟨RU,g1,g2⟩:=RA a' j sl A JX Ae Bp;have Pg:∀n∈bn m,Lb.sp a' j≠.sp n.1 n.2:=by
          intro n hn e;injection e with e1 e2;exact JX (by rw [show (a',j)=n from Prod.ext e1 e2];exact hn)
         obtain ⟨g',p1,p2⟩:=Bx (c:=c) Hb G gg [i] (.sp a' j) Pg;have FX:∀k,c.own k=some (.sp a' j)→(c.gQ (bn m) (.sp a' j)).own k=some (.sp a' j):=by
          intro k hk;rw [Cz.mQ (fun n hn e=>by rw [hk] at e;exact Pg n hn (Option.some.inj e))];exact hk
         refine ⟨_,jO hT hn w b (o+i*A.r.width+0) uv hlen za hg (by omega),c.gQ (bn m) (.sp a' j),?_⟩;refine hR.FU (A:=A) (ys:=A.xs.set i x1) (md':=.dp) g1 g2 dR gN hg (by rw [List.size_toArray,dP (by simp at Fm ⊢;omega)];simp) (by simp) ?_;unfold bq;show ∃g,_;refine ⟨g',by rw [p1 b ho];exact JC,fun i' x' sK => ?_⟩;have UP:∀q k,g' k=[i']++q→k≠b:=by
          rintro q k hk rfl
          rw [p1 k ho,JC] at hk;simp at hk
         obtain ⟨vs,q1,q2⟩:=Fj hg (Q:=fun i vs x=>cr w (fun p k=>(c.gQ (bn m) (.sp a' j)).own k=some (.sp a' j)∧g' k=p) A.r [i] 0 vs x) (fun i x eH hx=>by
          obtain ⟨vs,q1,q2⟩:=(fU _ _ _ _ _ _).1 (dj i x eH hx);exact ⟨vs,q1,cr.length _ _ _ _ _ q2,cr.go _ [i] [i] (fun q k hk=>⟨rfl,FX k hk.1,by rw [p1 k hk.1];exact hk.2⟩) 0 vs x q2⟩) tk Fm C9 (by
           refine hG _ [i] 0 fun col n k hc hk=>⟨Cz.l6 (fK hc) hk,?_⟩
           rw [p2 col n k hc hk,Nat.zero_add]) i' x' sK
         exact (fU _ _ _ _ _ _).2 ⟨vs,q1,cr.go _ [i'] [i'] (fun q k hk=>⟨setRow_other w b k _ (UP q k hk.2),hk⟩) 0 vs x' q2⟩
      |sh=>
       rw [hm] at hz;simp only at hz;have dj:=(bq.sh hm).1 dj;obtain ⟨x1,m,h1,h2,h3⟩:=Al h A.r v.cells _ mP _ hz;obtain ⟨ML,h1⟩:=cN h1
       cases tk:A.xs[i]? with
       |none=>simp [tk,N.val] at h1
       |some x0=>
        simp only [tk] at h1;change some _=some aZ at h1;obtain rfl:=Option.some.inj h1;have JX:(a',j)∉m:=by
         intro yx;have:=List.all_eq_true.1 ML _ yx;simp at this
        have hf:=h.freeze m;obtain ⟨RU,g1,g2⟩:=yX m Ae Bp JX;have MM:(c.drop m).lc a' j=.at b o cap:=by rw [(Cz.G9 m c).1];exact gN
        have ho':(c.drop m).own b=some (.sp a' j):=Cz.Bw m c b ho (fun p hp=>by
         intro e;injection e with e1 e2;exact JX (by rw [e1,e2];exact hp))
        have Ph:∀(i:Nat) x,A.xs[i]?=some x→cE w (c.drop m).ok A.r b (o+i*A.r.width) x:=fun i x hx=>
         cE.stays (Fw.freeze w m c st).stays _ _ _ x rfl (dj i x hx)
        have JY:cF w (c.drop m).ok A.r uv.cells.toList x1:=h3 _ (fun k hk=>Cz.uO m c k hk) (fun p hp k hk=>Cz.xT m c k hk hp);refine ⟨_,jO hT hn w b (o+i*A.r.width+0) uv hlen za hg (by omega),c.drop m,?_⟩;refine hf.rq g1 g2 dR MM hg (by rw [List.size_toArray,dP (by simp at Fm ⊢;omega)];simp) (by simp) (bq.Pc hm ?_);refine Ao ho' hg Ph tk (k:=0) (by omega) C9 (fun vs wX => ?_);rw [UN vs (cF.length A.r vs x0 wX)];exact JY
      |lz=>
       rw [hm] at hz;simp only at hz
       cases JD:cT st A.r v.cells with
       |none=>rw [JD] at hz;simp [N.val] at hz
       |some pq=>
        obtain ⟨x1,m⟩:=pq;rw [JD] at hz;simp only at hz;obtain ⟨ML,h1⟩:=cN hz;clear hz;rw [Bool.and_eq_true] at ML;have Hb:=jj ML.1;have JX:(a',j)∉bn m:=by
         intro yx;have:=List.all_eq_true.1 ML.2 _ yx;simp at this
        cases tk:A.xs[i]? with
        |none=>simp [tk,N.val] at h1
        |some x0=>
         simp only [tk] at h1;change some _=some aZ at h1;obtain rfl:=Option.some.inj h1;obtain ⟨Pf,hmo,G,hG⟩:=tU h A.r v.cells _ mP JD;unfold bq at dj;rw [hm] at dj;obtain ⟨gg,dj⟩:=dj;have hR:=(h.pR (bn m) (.sp a' j)).freeze (bn m);obtain ⟨RU,g1,g2⟩:=yX (bn m) Ae Bp JX;have MN:∀k,(((c.pR (bn m) (.sp a' j)).drop (bn m)).rs) k=(c.pR (bn m) (.sp a' j)).rs k:=fun k=>by rw [Cz.Dh]
         have MM:((c.pR (bn m) (.sp a' j)).drop (bn m)).lc a' j=.at b o cap:=by rw [(Cz.G9 _ _).1];exact gN
         have ho':((c.pR (bn m) (.sp a' j)).drop (bn m)).own b=some (.sp a' j):=Cz.Bw _ _ b ho (fun p hp=>by
          intro e;injection e with e1 e2;exact JX (by rw [e1,e2];exact hp))
         obtain ⟨g',p1,p2⟩:=DF (c:=c) Hb G gg [i];generalize hcc:(c.pR (bn m) (.sp a' j)).drop (bn m)=c2 at hR MN MM ho' ;have hold:∀k,c.Fe w (.sp a' j) k→c2.Fe w (.sp a' j) k:=fun k hk=>⟨by rw [←hcc];exact Cz.uO _ _ k hk.1,by rw [MN,Cz.H3 hk.1];exact hk.2.1,hk.2.2⟩
         refine ⟨_,jO hT hn w b (o+i*A.r.width+0) uv hlen za hg (by omega),c2,?_⟩;refine hR.rq g1 g2 dR MM hg (by rw [List.size_toArray,dP (by simp at Fm ⊢;omega)];simp) (by simp) ?_;unfold bq;show match A.md with | .sh=>_ | .dp=>_ | .ho _=>_ | .lz=>_
         rw [hm];refine ⟨g',fun i' x' sK => ?_⟩;obtain ⟨vs,q1,q2⟩:=oR hg (Q:=fun i vs x=>cr w (fun p k=>c2.Fe w (.sp a' j) k∧g' k=p) A.r [i] 0 vs x) (fun i x hx=>by
          obtain ⟨vs,q1,q2⟩:=(fU _ _ _ _ _ _).1 (dj i x hx);exact ⟨vs,q1,cr.length _ _ _ _ _ q2,cr.go _ [i] [i] (fun q k hk=>⟨rfl,hold k hk.1,by rw [p1 k hk.1.1];exact hk.2⟩) 0 vs x q2⟩) tk (k:=0) (us:=uv.cells.toList) (by omega) C9 (fun vs wL _=>by
           rw [UN vs wL];refine hG _ [i] 0 fun col n k hc hk=>⟨⟨by rw [←hcc];exact Cz.xT (bn m) (c.pR (bn m) (.sp a' j)) k hk (fK hc),by rw [MN];exact Cz.LB (fK hc) hk,h.kD hk⟩,?_⟩
           rw [p2 col n k hc hk,Nat.zero_add]) i' x' sK
         exact (fU _ _ _ _ _ _).2 ⟨vs,q1,cr.go _ [i'] [i'] (fun q k hk=>⟨setRow_other w b k _ (by
          rintro rfl
          have:=hk.1.1;rw [ho'] at this
          cases this),⟨hk.1.1,hk.1.2.1,by simpa [World.setRow] using hk.1.2.2⟩,hk.2⟩) 0 vs x' q2⟩
      |dp=>
       rw [hm] at hz;simp only at hz
       cases JD:cT st A.r v.cells with
       |none=>rw [JD] at hz;simp [N.val] at hz
       |some pq=>
        obtain ⟨x1,m⟩:=pq;rw [JD] at hz;simp only at hz;obtain ⟨ML,h1⟩:=cN hz;clear hz;rw [Bool.and_eq_true] at ML;have Hb:=jj ML.1;have JX:(a',j)∉bn m:=by
         intro yx;have:=List.all_eq_true.1 ML.2 _ yx;simp at this
        cases tk:A.xs[i]? with
        |none=>simp [tk,N.val] at h1
        |some x0=>
         simp only [tk] at h1;change some _=some aZ at h1;obtain rfl:=Option.some.inj h1;obtain ⟨Pf,hmo,G,hG⟩:=tU h A.r v.cells _ mP JD;unfold bq at dj;rw [hm] at dj;obtain ⟨gg,JC,dj⟩:=dj;obtain ⟨By,qw,RA,_,_⟩:=j1 (bn m) h;have hR:=By.gQ qw a' j;obtain ⟨RU,g1,g2⟩:=RA a' j sl A JX Ae Bp;have Pg:∀n∈bn m,Lb.sp a' j≠.sp n.1 n.2:=by
          intro n hn e;injection e with e1 e2;exact JX (by rw [show (a',j)=n from Prod.ext e1 e2];exact hn)
         obtain ⟨g',p1,p2⟩:=Bx (c:=c) Hb G gg [i] (.sp a' j) Pg;have FX:∀k,c.own k=some (.sp a' j)→(c.gQ (bn m) (.sp a' j)).own k=some (.sp a' j):=by
          intro k hk;rw [Cz.mQ (fun n hn e=>by rw [hk] at e;exact Pg n hn (Option.some.inj e))];exact hk
         refine ⟨_,jO hT hn w b (o+i*A.r.width+0) uv hlen za hg (by omega),c.gQ (bn m) (.sp a' j),?_⟩;refine hR.rq g1 g2 dR gN hg (by rw [List.size_toArray,dP (by simp at Fm ⊢;omega)];simp) (by simp) ?_;unfold bq;show match A.md with | .sh=>_ | .dp=>_ | .ho _=>_ | .lz=>_
         rw [hm];refine ⟨g',by rw [p1 b ho];exact JC,fun i' x' sK => ?_⟩;have UP:∀q k,g' k=[i']++q→k≠b:=by
          rintro q k hk rfl
          rw [p1 k ho,JC] at hk;simp at hk
         obtain ⟨vs,q1,q2⟩:=oR hg (Q:=fun i vs x=>cr w (fun p k=>(c.gQ (bn m) (.sp a' j)).own k=some (.sp a' j)∧g' k=p) A.r [i] 0 vs x) (fun i x hx=>by
          obtain ⟨vs,q1,q2⟩:=(fU _ _ _ _ _ _).1 (dj i x hx);exact ⟨vs,q1,cr.length _ _ _ _ _ q2,cr.go _ [i] [i] (fun q k hk=>⟨rfl,FX k hk.1,by rw [p1 k hk.1];exact hk.2⟩) 0 vs x q2⟩) tk (k:=0) (us:=uv.cells.toList) (by omega) C9 (fun vs wL _=>by
           rw [UN vs wL];refine hG _ [i] 0 fun col n k hc hk=>⟨Cz.l6 (fK hc) hk,?_⟩
           rw [p2 col n k hc hk,Nat.zero_add]) i' x' sK
         exact (fU _ _ _ _ _ _).2 ⟨vs,q1,cr.go _ [i'] [i'] (fun q k hk=>⟨setRow_other w b k _ (UP q k hk.2),hk⟩) 0 vs x' q2⟩
end Go.TM
