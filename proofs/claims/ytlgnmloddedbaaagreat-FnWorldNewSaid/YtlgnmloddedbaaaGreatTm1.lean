/- A machine over trees: an evaluator of the code, and that what it finds is so; part 1. -/
import GoSem.Core.Value
import GoSem.Core.Code
import GoSem.Core.Program
import GoSem.Core.View
import Derived.Below
import Derived.Laws.AppendOwn
import Derived.Laws.Cells
import Derived.Laws.Rows
import Derived.Deep.MidRow
import Derived.Laws.CopyRow
set_option linter.unusedSimpArgs false
set_option linter.unusedVariables false
namespace Go.TM
open Go
mutual
inductive Ty where
 | int (k : IntKind)
 | bool
 | str
 | sl (r : RT)
inductive RT where
 | nil
 | cons (t : Ty) (r : RT)
end
mutual
def den : Ty → Type
 | .int _ => Int
 | .bool => Bool
 | .str => ByteArray
 | .sl r => List (denR r)
def denR : RT → Type
 | .nil => Unit
 | .cons t r => den t × denR r
end
mutual
def Ty.eq? : (a b : Ty) → Option (PLift (a = b))
 | .int k, .int l => if h : k = l then some ⟨by rw [h]⟩ else none
 | .bool, .bool => some ⟨rfl⟩
 | .str, .str => some ⟨rfl⟩
 | .sl r, .sl s => match RT.eq? r s with | some ⟨h⟩ => some ⟨by rw [h]⟩ | none => none
 | _, _ => none
def RT.eq? : (a b : RT) → Option (PLift (a = b))
 | .nil, .nil => some ⟨rfl⟩
 | .cons t r, .cons u s => match Ty.eq? t u, RT.eq? r s with
   | some ⟨h⟩, some ⟨g⟩ => some ⟨by rw [h, g]⟩
   | _, _ => none
 | _, _ => none
end
def castL {r : RT} (s : RT) (xs : List (denR r)) : Option (List (denR s)) :=
 match RT.eq? r s with
 | some ⟨h⟩ => some (h ▸ xs)
 | none => none
def RT.slices : RT → Bool
 | .nil => false
 | .cons (.sl _) _ => true
 | .cons _ r => r.slices
def RT.width : RT → Nat
 | .nil => 0
 | .cons _ r => r.width + 1
inductive View where
 | full
 | from (lo : Nat)
 | sub (lo n : Nat)
def View.app {α : Type} : View → List α → List α
 | .full, xs => xs
 | .from lo, xs => xs.drop lo
 | .sub lo n, xs => (xs.drop lo).take n
def View.lo : View → Nat
 | .full => 0
 | .from l => l
 | .sub l _ => l
def View.idx (w : View) (i : Nat) : Nat :=
 match w with
 | .full => i
 | .from l => l + i
 | .sub l _ => l + i
inductive CV where
 | bad
 | int (k : IntKind) (n : Int)
 | bool (b : Bool)
 | str (s : ByteArray)
 | nils
 | nilp
 | shr (r : RT) (xs : List (denR r))
 | nn (r : RT) (xs : List (denR r))  -- as 'shr', and not nil
 | ref (a j g : Nat) (w : View)
 | ptr (b g off : Nat)
 | ept (a j g i off : Nat)
 | rpt (r : RT) (x : denR r) (off : Nat)
 | rptl (r : RT) (xs : List (denR r)) (off : Nat)  -- as 'rpt', the row being the first of a list
 | fn (g : Nat) (rs : RT) (xs : List (denR rs))    -- a function with boxes that are read alone: each cell of the row is one box's rows
 | dref (a j g e i k : Nat) (q : RT) (ys : List (denR q))  -- the slice that a cell of a deep array's row holds
inductive Lb where
 | box (s : Nat)
 | sp (s j : Nat)
 | out
 | pend (i j : Nat)
 | pbox (i : Nat)
 | pres (j : Nat)
def Lb.same : Lb → Lb → Bool
 | .box s, .box t => Nat.beq s t
 | .sp s i, .sp t j => Nat.beq s t && Nat.beq i j
 | _, _ => false
inductive V where
 | one (c : CV)
 | agg (cs : List CV)
 | tup (vs : List V)
def V.cells : V → List CV
 | .one c => [c]
 | .agg cs => cs
 | .tup _ => []
inductive Md where
 | sh | dp | ho (i : Nat)
 deriving DecidableEq
def Md.is : Md → Md → Bool
 | .sh, .sh => true
 | .dp, .dp => true
 | .ho i, .ho j => Nat.beq i j
 | _, _ => false
theorem Md.is_iff {a b : Md} : Md.is a b = true ↔ a = b := by
 cases a <;> cases b <;> simp [Md.is]
def Md.hol : Md → Bool
 | .ho _ => true
 | _ => false
structure Arr where
 r : RT
 own : Bool
 xs : List (denR r)
 md : Md := .sh
structure Sl where
 v : V
 box : Option (List CV)
 bg : Nat
 arrs : List (Option Arr)
 ag : Nat
 ep : Nat := 0  -- it grows when an array of the slot is written, or a call is made
def Sl.none : Sl := { v := .one .bad, box := .none, bg := 0, arrs := [], ag := 0 }
abbrev St := List Sl
def nth {α : Type} : List α → Nat → Option α
 | [], _ => none
 | x :: _, 0 => some x
 | _ :: l, n + 1 => nth l n
def upd {α : Type} (f : α → α) : List α → Nat → List α
 | [], _ => []
 | x :: l, 0 => f x :: l
 | x :: l, n + 1 => x :: upd f l n
def getV (st : St) (t : Nat) : V :=
 match nth st t with
 | some s => s.v
 | none => .one .bad
def setV (st : St) (d : Option Nat) (v : V) : St :=
 match d with
 | some t => upd (fun s => { s with v := v }) st t
 | none => st
def arr? (st : St) (a j g : Nat) : Option Arr :=
 match nth st a with
 | some s => bif Nat.beq s.ag g then (match nth s.arrs j with | some (some A) => some A | _ => none) else none
 | none => none
def setArr (st : St) (a j : Nat) (A : Option Arr) : St :=
 upd (fun s => { s with arrs := upd (fun _ => A) s.arrs j, ep := s.ep + 1 }) st a
def epO (st : St) (a : Nat) : Nat := match nth st a with | some s => s.ep | none => 0
def box? (st : St) (b g : Nat) : Option (List CV) :=
 match nth st b with
 | some s => bif Nat.beq s.bg g then s.box else none
 | none => none
inductive N where
 | done (st : St)
 | fail
 | br (b : Bool) (t e : N)
 | row (r : RT) (o : Option (denR r)) (k : denR r → N)
def N.val : N → Option St
 | .done st => some st
 | .fail => none
 | .br b t e => bif b then t.val else e.val
 | .row _ o k => match o with | some x => (k x).val | none => none
def N.fold {R : Type} : N → (St → Option R) → Option R
 | .done st, k => k st
 | .fail, _ => none
 | .br b t e, k => bif b then t.fold k else e.fold k
 | .row _ o f, k => match o with | some x => (f x).fold k | none => none
theorem N.fold_eq {R : Type} (n : N) (k : St → Option R) : n.fold k = n.val.bind k := by
 induction n with
 | done st => rfl
 | fail => rfl
 | br b t e iht ihe => cases b <;> simp [N.fold, N.val, iht, ihe]
 | row r o f ih => cases o <;> simp [N.fold, N.val, ih]
def zeroTy : (t : Ty) → den t
 | .int _ => (0 : Int)
 | .bool => false
 | .str => ByteArray.empty
 | .sl _ => ([] : List _)
def zeroR : (r : RT) → denR r
 | .nil => ()
 | .cons t r => (zeroTy t, zeroR r)
def cellTy : (t : Ty) → den t → CV
 | .int k, n => .int k n
 | .bool, b => .bool b
 | .str, s => .str s
 | .sl r, xs => .shr r xs
def rowCells : (r : RT) → denR r → List CV
 | .nil, _ => []
 | .cons t r, x => cellTy t x.1 :: rowCells r x.2
def dpTy (a j g e i k : Nat) : (t : Ty) → den t → CV
 | .int k, n => .int k n
 | .bool, b => .bool b
 | .str, s => .str s
 | .sl r, xs => .dref a j g e i k r xs
def dpCells (a j g e i : Nat) : (k : Nat) → (r : RT) → denR r → List CV
 | _, .nil, _ => []
 | k, .cons t r, x => dpTy a j g e i k t x.1 :: dpCells a j g e i (k + 1) r x.2
def rowSl : (r : RT) → denR r → Nat → Option ((q : RT) × List (denR q))
 | .nil, _, _ => none
 | .cons (.sl q) _, x, 0 => some ⟨q, x.1⟩
 | .cons _ _, _, 0 => none
 | .cons _ r, x, k + 1 => rowSl r x.2 k
def rowSetSl : (r : RT) → denR r → Nat → (q : RT) → List (denR q) → Option (denR r)
 | .nil, _, _, _, _ => none
 | .cons (.sl q) _, x, 0, p, ys => (castL q ys).map fun zs => (zs, x.2)
 | .cons _ _, _, 0, _, _ => none
 | .cons _ r, x, k + 1, p, ys => (rowSetSl r x.2 k p ys).map fun z => (x.1, z)
def withRows (st : St) (r : RT) (c : CV) (k : List (denR r) → N) : N :=
 match c with
 | .shr _ xs => match castL r xs with | some ys => k ys | none => .fail
 | .nn _ xs => match castL r xs with | some ys => k ys | none => .fail
 | .nils => k []
 | .ref a j g w => match arr? st a j g with
   | some A => (match A.md with | .sh => (match castL r A.xs with | some ys => k (w.app ys) | none => .fail) | _ => .fail)
   | none => .fail
 | _ => .fail
end Go.TM
namespace Go.TM
open Go
structure Tab where
 cells : Nat → Option Nat          -- how many cells a value of the type takes
 agg : Nat → Bool                  -- is it a struct
 off : Nat → Nat → Option Nat      -- a struct's field: its first cell
 fsz : Nat → Nat → Option Nat      -- and how many it has
 row : Nat → Option RT             -- the cells' types
 elem : Nat → Option (RT × Nat)    -- a slice: its elements' cells, and the bytes of one
 tup : Nat → Option (List Nat)     -- a tuple's types
 kind : Nat → Option Ty            -- a type of one cell
 one : Nat → Nat → Bool            -- a struct's field that is no struct itself
 eq : Nat → Bool                   -- a struct of numbers, bools and strings, compared by '=='
 dp : Nat → Bool := fun _ => false -- a slice whose rows' slices are its own, where they may be
 cap : Nat → Bool := fun _ => false -- a parameter's box that is read alone
inductive OV where
 | int (k : IntKind) (n : Int)
 | bool (b : Bool)
 | str (s : ByteArray)
 | own (A : Arr)
 | shr (r : RT) (xs : List (denR r))
 | nils
 | rpt (r : RT) (xs : List (denR r))
 | fn (g : Nat) (rs : RT) (xs : List (denR rs))
inductive AV where
 | val (agg : Bool) (os : List OV)  -- a value: its arrays are the callee's from now on
 | io (A : Arr)                     -- an array, lent: the callee may write it
 | box (os : List OV)               -- a struct behind a pointer, lent
 | lend (os : List OV)              -- a struct whose arrays are lent
inductive RV where
 | one (o : OV)
 | agg (os : List OV)
 | ptr (os : List OV)  -- a new struct, behind a pointer
inductive XV where
 | io (A : Arr)
 | box (cs : List OV)
 | lend (As : List (Option Arr))
structure Res where
 outs : List RV
 exts : List XV
structure Ans where
 r : RT
 o : Option (denR r)
 res : denR r → Res
abbrev Sem1 := List AV → Option Ans
inductive Pm where
 | shr | own | io | lend
 | pick (l : List Nat)  -- a struct behind a pointer, some of whose arrays are read alone from then on
abbrev Sems := FuncId → Option (Pm × Pm × Pm × Sem1)   -- the first three parameters' ways; later ones are shared
def cellOfOV (b g : Nat) : (j : Nat) → List OV → List CV
 | _, [] => []
 | j, .int k n :: l => .int k n :: cellOfOV b g (j + 1) l
 | j, .bool x :: l => .bool x :: cellOfOV b g (j + 1) l
 | j, .str s :: l => .str s :: cellOfOV b g (j + 1) l
 | j, .own _ :: l => .ref b j g .full :: cellOfOV b g (j + 1) l
 | j, .shr r xs :: l => .shr r xs :: cellOfOV b g (j + 1) l
 | j, .nils :: l => .nils :: cellOfOV b g (j + 1) l
 | j, .rpt r xs :: l => .rptl r xs 0 :: cellOfOV b g (j + 1) l
 | j, .fn f rs xs :: l => .fn f rs xs :: cellOfOV b g (j + 1) l
def OV.arr : OV → Option Arr
 | .own A => some A
 | _ => none
def arrsOfOV : List OV → List (Option Arr)
 | [] => []
 | o :: l => o.arr :: arrsOfOV l
def RV.ovs : RV → List OV
 | .one o => [o]
 | .agg os => os
 | .ptr os => .nils :: os
def vOfRV (d g j : Nat) : RV → V
 | .one o => match cellOfOV d g j [o] with | [c] => .one c | _ => .one .bad
 | .agg os => .agg (cellOfOV d g j os)
 | .ptr _ => .one .bad
def vsOfRVs (d g : Nat) : (j : Nat) → List RV → List V
 | _, [] => []
 | j, r :: l => vOfRV d g j r :: vsOfRVs d g (j + r.ovs.length) l
def layRes (st : St) (d : Option Nat) (outs : List RV) : Option St :=
 match d with
 | some d => match nth st d with
   | some s =>
     let g := s.ag + 1
     match outs with
     | [.ptr os] => some (upd (fun s => { s with v := .one (.ptr d (s.bg + 1) 0), box := some (cellOfOV d (s.ag + 1) 1 os), bg := s.bg + 1, arrs := none :: arrsOfOV os, ag := s.ag + 1 }) st d)
     | outs =>
       let v : V := match vsOfRVs d g 0 outs with | [v] => v | vs => .tup vs
       some (upd (fun s => { s with v := v, arrs := arrsOfOV (outs.flatMap RV.ovs), ag := g }) st d)
   | none => none
 | none => match outs with
   | [] => some st
   | _ => none
def opd (st : St) : Operand → V
 | .tmp t => getV st t
 | .const (.int k n) => .one (.int k n)
 | .const (.bool b) => .one (.bool b)
 | .const (.string s) => .one (.str s)
 | .const (.slice none 0 0) => .one .nils
 | .const (.pointer none) => .one .nilp
 | _ => .one .bad
def cmpI (op : BinOp) (a b : Int) : Option Bool :=
 match op with
 | .lss => some (decide (a < b))
 | .leq => some (decide (a ≤ b))
 | .gtr => some (decide (b < a))
 | .geq => some (decide (b ≤ a))
 | .eql => some (decide (a = b))
 | .neq => some (!decide (a = b))
 | _ => none
def arithI (op : BinOp) (k : IntKind) (a b : Int) : Option Int :=
 match op with
 | .add => some (k.wrap (a + b))
 | .sub => some (k.wrap (a - b))
 | .mul => some (k.wrap (a * b))
 | .and => some (k.wrap ((BitVec.ofInt k.bits a &&& BitVec.ofInt k.bits b).toNat : Int))
 | .or => some (k.wrap ((BitVec.ofInt k.bits a ||| BitVec.ofInt k.bits b).toNat : Int))
 | .xor => some (k.wrap ((BitVec.ofInt k.bits a ^^^ BitVec.ofInt k.bits b).toNat : Int))
 | _ => none
def divI (op : BinOp) (k : IntKind) (a b : Int) : Option Int :=
 match op with
 | .quo => some (k.wrap (a.tdiv b))
 | .rem => some (a.tmod b)
 | _ => none
def shiftI (op : BinOp) (k : IntKind) (a : Int) (n : Nat) : Option Int :=
 match op with
 | .shl => some (k.wrap (a * 2 ^ (min n k.bits)))
 | .shr => some (a.fdiv (2 ^ (min n k.bits)))
 | _ => none
def strEq (a b : ByteArray) : Bool := a.toList == b.toList
def cellEq : CV → CV → Option Bool
 | .int k a, .int l b => if k = l then some (decide (a = b)) else none
 | .bool a, .bool b => some (a == b)
 | .str a, .str b => some (strEq a b)
 | _, _ => none
def cellsEq : List CV → List CV → Option Bool
 | [], [] => some true
 | a :: l, b :: m => match cellEq a b, cellsEq l m with
   | some x, some y => some (x && y)
   | _, _ => none
 | _, _ => none
def byteAt (s : ByteArray) (i : Int) : Int := match s[i.toNat]? with | some b => (b.toNat : Int) | none => 0
def rowSet : (r : RT) → denR r → Nat → CV → Option (denR r)
 | .cons (.int k) _, x, 0, .int l n => if k = l then some (n, x.2) else none
 | .cons .bool _, x, 0, .bool b => some (b, x.2)
 | .cons .str _, x, 0, .str s => some (s, x.2)
 | .cons _ r, x, n + 1, c => (rowSet r x.2 n c).map fun z => (x.1, z)
 | _, _, _, _ => none
def rowOf (st : St) : (r : RT) → List CV → (k : denR r → List (Nat × Nat) → N) → N
 | .nil, [], k => k () []
 | .cons (.int q) r, .int l n :: cs, k => if q = l then rowOf st r cs (fun x m => k (n, x) m) else .fail
 | .cons .bool r, .bool b :: cs, k => rowOf st r cs (fun x m => k (b, x) m)
 | .cons .str r, .str s :: cs, k => rowOf st r cs (fun x m => k (s, x) m)
 | .cons (.sl q) r, c :: cs, k =>
   match c with
   | .nils => rowOf st r cs (fun x m => k (([] : List _), x) m)
   | .ref a j g w => match arr? st a j g with
     | some A => (match A.md with
       | .ho _ => .fail
       | _ => (match castL q A.xs with
         | some ys => rowOf st r cs (fun x m => k (w.app ys, x) ((a, j) :: m))
         | none => .fail))
     | none => .fail
   | .shr _ ys => match castL q ys with
     | some zs => rowOf st r cs (fun x m => k (zs, x) m)
     | none => .fail
   | _ => .fail
 | _, _, _ => .fail
def Md.fz : Md → Md
 | .dp => .sh
 | m => m
def Arr.fz (A : Arr) : Arr := { A with own := false, md := A.md.fz }
def freeze (st : St) : List (Nat × Nat) → St
 | [] => st
 | (a, j) :: l => freeze (upd (fun s => { s with arrs := upd (fun A => A.map Arr.fz) s.arrs j, ep := s.ep + 1 }) st a) l
def rowDp (st : St) : (r : RT) → List CV → Option (denR r × List (Option (Nat × Nat)))
 | .nil, [] => some ((), [])
 | .cons (.int q) r, .int l n :: cs => if q = l then (match rowDp st r cs with | some p => some ((n, p.1), none :: p.2) | none => none) else none
 | .cons .bool r, .bool b :: cs => match rowDp st r cs with | some p => some ((b, p.1), none :: p.2) | none => none
 | .cons .str r, .str s :: cs => match rowDp st r cs with | some p => some ((s, p.1), none :: p.2) | none => none
 | .cons (.sl q) r, c :: cs =>
   match c with
   | .nils => match rowDp st r cs with | some p => some ((([] : List _), p.1), none :: p.2) | none => none
   | .ref a j g .full => match arr? st a j g with
     | some A => bif A.own && A.md.is (bif q.slices then .dp else .sh) then (match castL q A.xs with
       | some ys => (match rowDp st r cs with | some p => some ((ys, p.1), some (a, j) :: p.2) | none => none)
       | none => none) else none
     | none => none
   | _ => none
 | _, _ => none
def somesP : List (Option (Nat × Nat)) → List (Nat × Nat)
 | [] => []
 | some p :: l => p :: somesP l
 | none :: l => somesP l
def killNames (st : St) : List (Nat × Nat) → St
 | [] => st
 | (a, j) :: l => killNames (setArr st a j none) l
def distinct : List (Nat × Nat) → Bool
 | [] => true
 | (a, j) :: l => l.all (fun p => !(Nat.beq p.1 a && Nat.beq p.2 j)) && distinct l
def lim : Nat := 35184372088832
def fitsR : RT → List CV → Bool
 | .nil, [] => true
 | .cons (.int k) r, .int l _ :: cs => decide (k = l) && fitsR r cs
 | .cons .bool r, .bool _ :: cs => fitsR r cs
 | .cons .str r, .str _ :: cs => fitsR r cs
 | _, _ => false
def Tab.fits (T : Tab) (t : Nat) (l : List CV) : Bool := match T.row t with | some r => fitsR r l | none => false
def binN (T : Tab) (st : St) (d : Option Nat) (op : BinOp) (t : Nat) (x y : V) : N :=
 match x, y with
 | .one (.int k a), .one (.int l b) =>
   match op with
   | .shl | .shr => match shiftI op k a b.toNat with
     | some n => .br (decide (0 ≤ b)) (.done (setV st d (.one (.int k n)))) .fail
     | none => .fail
   | _ => if k = l then (match cmpI op a b with
     | some t => .done (setV st d (.one (.bool t)))
     | none => match arithI op k a b with
       | some n => .done (setV st d (.one (.int k n)))
       | none => match divI op k a b with
         | some n => .br (decide (b = 0)) .fail (.done (setV st d (.one (.int k n))))
         | none => .fail) else .fail
 | .one (.str a), .one (.str b) =>
   match op with
   | .add => .br (Nat.ble (a.size + b.size) lim) (.done (setV st d (.one (.str (a ++ b))))) .fail
   | .eql => .done (setV st d (.one (.bool (strEq a b))))
   | .neq => .done (setV st d (.one (.bool (!strEq a b))))
   | _ => .fail
 | .one (.bool a), .one (.bool b) =>
   match op, T.kind t with
   | .eql, some .bool => .done (setV st d (.one (.bool (a == b))))
   | .neq, some .bool => .done (setV st d (.one (.bool (!(a == b)))))
   | _, _ => .fail
 | .one .nils, .one .nils =>
   match op, T.elem t with
   | .eql, some _ => .done (setV st d (.one (.bool true)))
   | .neq, some _ => .done (setV st d (.one (.bool false)))
   | _, _ => .fail
 | .one (.nn _ _), .one .nils =>
   match op, T.elem t with
   | .eql, some _ => .done (setV st d (.one (.bool false)))
   | .neq, some _ => .done (setV st d (.one (.bool true)))
   | _, _ => .fail
 | .agg l, .agg m =>
   bif T.eq t && T.fits t l then (match op, cellsEq l m with
   | .eql, some t => .done (setV st d (.one (.bool t)))
   | .neq, some t => .done (setV st d (.one (.bool (!t))))
   | _, _ => .fail) else .fail
 | _, _ => .fail
end Go.TM
namespace Go.TM
open Go
def CV.solid : CV → Bool
 | .bad => false
 | _ => true
def V.solid : V → Bool
 | .one c => c.solid
 | .agg cs => cs.all CV.solid
 | .tup _ => false
def newArr (st : St) (d : Option Nat) (A : Arr) : N :=
 match d with
 | some d => match nth st d with
   | some s0 => .done (upd (fun s => { s with v := .one (.ref d 0 (s0.ag + 1) .full), arrs := [some A], ag := s0.ag + 1 }) st d)
   | none => .fail
 | none => .fail
def newBox (st : St) (d : Option Nat) (cs : List CV) : N :=
 match d with
 | some d => match nth st d with
   | some s0 => .done (upd (fun s => { s with v := .one (.ptr d (s0.bg + 1) 0), box := some cs, bg := s0.bg + 1 }) st d)
   | none => .fail
 | none => .fail
def plainCells (r : RT) : List CV := (rowCells r (zeroR r)).map fun | .shr _ _ => .nils | c => c
def takeCells (n off : Nat) (cs : List CV) : Option (List CV) :=
 let l := (cs.drop off).take n
 bif Nat.beq l.length n then some l else none
def putCells (cs : List CV) (off : Nat) (l : List CV) : Option (List CV) :=
 bif Nat.ble (off + l.length) cs.length then some (cs.take off ++ l ++ cs.drop (off + l.length)) else none
def mkV (T : Tab) (t : Nat) (l : List CV) : V := bif T.agg t then .agg l else (match l with | [c] => .one c | _ => .one .bad)
def loadN (T : Tab) (st : St) (d : Option Nat) (t : Nat) (a : V) : N :=
 match a, T.cells t with
 | .one (.ptr b g off), some n => match box? st b g with
   | some cs => match takeCells n off cs with
     | some l => .done (setV st d (mkV T t l))
     | none => .fail
   | none => .fail
 | .one (.rpt r x off), some n => match takeCells n off (rowCells r x) with
   | some l => .done (setV st d (mkV T t l))
   | none => .fail
 | .one (.rptl r xs off), some n => .row r xs[0]? fun x => match takeCells n off (rowCells r x) with
   | some l => .done (setV st d (mkV T t l))
   | none => .fail
 | .one (.ept a j g i off), some n => match arr? st a j g with
   | some A => (match A.md with
     | .sh => .row A.r A.xs[i]? fun x => match takeCells n off (rowCells A.r x) with
       | some l => .done (setV st d (mkV T t l))
       | none => .fail
     | .dp => .row A.r A.xs[i]? fun x => match takeCells n off (dpCells a j g (epO st a) i 0 A.r x) with
       | some l => .done (setV st d (mkV T t l))
       | none => .fail
     | .ho _ => .fail)
   | none => .fail
 | _, _ => .fail
def rowPut (r : RT) (x : denR r) : (off : Nat) → List CV → Option (denR r)
 | _, [] => some x
 | off, c :: l => match rowPut r x (off + 1) l with
   | some y => rowSet r y off c
   | none => none
def Arr.put (A : Arr) (ys : List (denR A.r)) : Arr := { A with xs := ys }
def storeN (T : Tab) (st : St) (t : Nat) (a v : V) : N :=
 match a, T.cells t with
 | .one (.ptr b g off), some n => match box? st b g with
   | some cs => bif v.solid && Nat.beq v.cells.length n then (match putCells cs off v.cells with
     | some l => .done (upd (fun s => { s with box := some l }) st b)
     | none => .fail) else .fail
   | none => .fail
 | .one (.ept a j g i off), some n => match arr? st a j g with
   | some A => bif v.solid && A.own && Nat.beq v.cells.length n && Nat.blt 0 n then
       (bif Nat.beq n A.r.width && A.r.slices && Nat.beq off 0 then
         (match A.md with
         | .sh => rowOf st A.r v.cells fun x m => bif m.all (fun p => !(Nat.beq p.1 a && Nat.beq p.2 j)) then
           .row A.r A.xs[i]? (fun _ => .done (setArr (freeze st m) a j (some (A.put (A.xs.set i x))))) else .fail
         | .dp => (match rowDp st A.r v.cells with
           | some p => bif distinct (somesP p.2) && (somesP p.2).all (fun p => !(Nat.beq p.1 a && Nat.beq p.2 j)) then
             .row A.r A.xs[i]? (fun _ => .done (setArr (killNames st (somesP p.2)) a j (some (A.put (A.xs.set i p.1))))) else .fail
           | none => .fail)
         | .ho q => (match rowDp st A.r v.cells with
           | some p => bif distinct (somesP p.2) && (somesP p.2).all (fun p => !(Nat.beq p.1 a && Nat.beq p.2 j)) then
             .br (Nat.beq i q) (.row A.r A.xs[i]? (fun _ => .done (setArr (killNames st (somesP p.2)) a j (some { A.put (A.xs.set i p.1) with md := .dp })))) .fail else .fail
           | none => .fail))
       else bif A.md.hol then .fail else .row A.r A.xs[i]? fun x => match rowPut A.r x off v.cells with
         | some y => .done (setArr st a j (some (A.put (A.xs.set i y))))
         | none => .fail) else .fail
   | none => .fail
 | _, _ => .fail
def indexN (T : Tab) (st : St) (d : Option Nat) (t : Nat) (x ix : V) : N :=
 match T.elem t, x, ix with
 | some (q, _), .one (.shr r xs), .one (.int _ i) => match castL q xs with
   | some ys => .br (decide (0 ≤ i)) (.row q ys[i.toNat]? fun y => .done (setV st d (.one (.rpt q y 0)))) .fail
   | none => .fail
 | some (q, _), .one (.ref a j g w), .one (.int _ i) => match arr? st a j g with
   | some A => match castL q A.xs with
     | some ys => (match A.own with
       | false => bif !A.md.is .sh then .fail else .br (decide (0 ≤ i)) (.row q (w.app ys)[i.toNat]? fun y => .done (setV st d (.one (.rpt q y 0)))) .fail
       | true => .br (decide (0 ≤ i)) (.br (Nat.blt i.toNat (w.app ys).length) (.done (setV st d (.one (.ept a j g (w.idx i.toNat) 0)))) .fail) .fail)
     | none => .fail
   | none => .fail
 | _, _, _ => .fail
def withBounds (n : Nat) (lo hi : Option V) (k : Option Nat → Option Nat → N) : N :=
 let withHi (l : Option Nat) : N := match hi with
   | none => k l none
   | some (.one (.int _ h)) => .br (decide ((match l with | some l => (l : Int) | none => 0) ≤ h)) (.br (decide (h ≤ n)) (k l (some h.toNat)) .fail) .fail
   | _ => .fail
 match lo with
 | none => withHi none
 | some (.one (.int _ l)) => .br (decide (0 ≤ l)) (match hi with
   | none => .br (decide (l ≤ n)) (withHi (some l.toNat)) .fail
   | _ => withHi (some l.toNat)) .fail
 | _ => .fail
def viewOf (n : Nat) : Option Nat → Option Nat → View
 | none, none => .full
 | some l, none => .from l
 | none, some h => .sub 0 h
 | some l, some h => .sub l (h - l)
def View.of (w : View) (n : Nat) (lo hi : Option Nat) : View :=
 match lo, hi with
 | none, none => w
 | some l, none => (match w with | .full => .from l | .from a => .from (a + l) | .sub a m => .sub (a + l) (m - l))
 | none, some h => .sub w.lo h
 | some l, some h => .sub (w.lo + l) (h - l)
def sliceN (T : Tab) (st : St) (d : Option Nat) (t : Nat) (x : V) (lo hi : Option V) : N :=
 match x with
 | .one (.str s) => match T.kind t with
   | some .str => withBounds s.size lo hi fun l h =>
     .done (setV st d (.one (.str (s.extract (l.getD 0) (h.getD s.size)))))
   | _ => .fail
 | .one .nils => match T.elem t with
   | some _ => withBounds 0 lo hi fun _ _ => .done (setV st d (.one .nils))
   | none => .fail
 | .one (.shr r xs) => match T.elem t with
   | some (q, _) => match castL q xs with
     | some ys => withBounds ys.length lo hi fun l h => .done (setV st d (.one (.shr q ((viewOf ys.length l h).app ys))))
     | none => .fail
   | none => .fail
 | .one (.ref a j g w) => match T.elem t, arr? st a j g with
   | some (q, _), some A => match castL q A.xs with
     | some ys => withBounds (w.app ys).length lo hi fun l h => .done (setV st d (.one (.ref a j g (w.of (w.app ys).length l h))))
     | none => .fail
   | _, _ => .fail
 | _ => .fail
def lenN (T : Tab) (st : St) (d : Option Nat) (t : Nat) (x : V) : N :=
 match x with
 | .one (.str s) => match T.kind t with
   | some .str => .done (setV st d (.one (.int .i64 s.size)))
   | _ => .fail
 | .one .nils => match T.elem t with
   | some _ => .done (setV st d (.one (.int .i64 0)))
   | none => .fail
 | .one (.shr _ xs) => match T.elem t with
   | some _ => .done (setV st d (.one (.int .i64 xs.length)))
   | none => .fail
 | .one (.ref a j g w) => match T.elem t, arr? st a j g with
   | some _, some A => .done (setV st d (.one (.int .i64 (w.app A.xs).length)))
   | _, _ => .fail
 | _ => .fail
def dpOf (st : St) : V → Option (Nat × Nat × Arr)
 | .one (.ref a j g .full) => match arr? st a j g with
   | some A => bif A.own && A.md.is .dp then some (a, j, A) else none
   | none => none
 | _ => none
def appendDp (st : St) (d : Option Nat) (r : RT) (bytes : Nat) (x : V) (b k : Nat) (ys : List (denR r)) : N :=
 match x with
 | .one .nils => .br (Nat.ble ((([] : List (denR r)).length + ys.length) * bytes) lim) (newArr (killNames st [(b, k)]) d { r := r, own := true, xs := [] ++ ys, md := .dp }) .fail
 | .one (.ref a j g w) => match dpOf st (.one (.ref a j g w)) with
   | some (_, _, A) => (match castL r A.xs with
     | some xs => bif !(Nat.beq a b && Nat.beq j k) then .br (Nat.ble ((xs.length + ys.length) * bytes) lim) (newArr (killNames st [(a, j), (b, k)]) d { r := r, own := true, xs := xs ++ ys, md := .dp }) .fail else .fail
     | none => .fail)
   | none => .fail
 | _ => .fail
def appendN (T : Tab) (st : St) (d : Option Nat) (t : Nat) (x y : V) : N :=
 match T.elem t with
 | none => .fail
 | some (r, bytes) =>
   match dpOf st y with
   | some (b, k, B) => (match castL r B.xs with | some ys => appendDp st d r bytes x b k ys | none => .fail)
   | none =>
   let out (xs : List (denR r)) (used : List (Nat × Nat)) : N :=
     match y with
     | .one c => withRows st r c fun ys =>
         .br (Nat.ble ((xs.length + ys.length) * bytes) lim)
           (newArr (used.foldl (fun s p => setArr s p.1 p.2 none) st) d { r := r, own := true, xs := xs ++ ys }) .fail
     | _ => .fail
   match x with
   | .one .nils => out [] []
   | .one (.ref a j g w) => match arr? st a j g with
     | some A => bif A.own && A.md.is .sh then (match castL r A.xs with | some xs => out (w.app xs) [(a, j)] | none => .fail) else .fail
     | none => .fail
   | _ => .fail
def makeN (T : Tab) (st : St) (d : Option Nat) (t : Nat) (len cap : V) : N :=
 match T.elem t, len, cap with
 | some (r, bytes), .one (.int .i64 n), .one (.int .i64 c) =>
   .br (decide (n = c)) (.br (decide (0 ≤ n)) (.br (Nat.ble (n.toNat * bytes) lim)
     (newArr st d { r := r, own := true, xs := List.replicate n.toNat (zeroR r), md := bif T.dp t then .dp else .sh }) .fail) .fail) .fail
 | _, _, _ => .fail
def withParts (st : St) (r : RT) : (i : Nat) → List (Nat × V) → (k : List (denR r) → List (Nat × Nat) → N) → N
 | _, [], k => k [] []
 | i, (p, v) :: l, k => bif v.solid && Nat.beq p i then rowOf st r v.cells fun x m => withParts st r (i + 1) l fun xs m' => k (x :: xs) (m ++ m') else .fail
def partDp (st : St) (r : RT) : List (Nat × V) → Option (List (denR r) × List (Option (Nat × Nat)))
 | [] => some ([], [])
 | [(p, v)] => bif v.solid && Nat.beq p 0 then (match rowDp st r v.cells with | some q => some ([q.1], q.2) | none => none) else none
 | _ => none
def buildSliceN (T : Tab) (st : St) (d : Option Nat) (t len : Nat) (parts : List (Nat × V)) : N :=
 match T.elem t with
 | some (r, _) => bif Nat.beq parts.length len && Nat.ble (len * r.width) 16777216 then
     (match (bif T.dp t then partDp st r parts else none) with
     | some p => bif distinct (somesP p.2) then newArr (killNames st (somesP p.2)) d { r := r, own := true, xs := p.1, md := .dp } else .fail
     | none => withParts st r 0 parts fun xs m => newArr (freeze st m) d { r := r, own := true, xs := xs })
   else .fail
 | none => .fail
def fillCells (T : Tab) (t : Nat) (cs : List CV) : List (Nat × V) → Option (List CV)
 | [] => some cs
 | (f, v) :: l => match T.off t f, T.fsz t f with
   | some o, some s => bif v.solid && Nat.beq v.cells.length s then (match putCells cs o v.cells with
     | some cs' => fillCells T t cs' l
     | none => none) else none
   | _, _ => none
def View.isFull : View → Bool
 | .full => true
 | _ => false
def genAg (st : St) (s : Nat) : Nat := match nth st s with | some x => x.ag | none => 0
def expC (st : St) (own : Bool) : CV → Option (OV × Option Lb × List (Nat × Nat))
 | .int q n => some (.int q n, none, [])
 | .bool b => some (.bool b, none, [])
 | .str s => some (.str s, none, [])
 | .nils => some (.nils, none, [])
 | .shr r xs => some (.shr r xs, none, [])
 | .nn r xs => some (.shr r xs, none, [])
 | .ref a j g w => match arr? st a j g with
   | some A => bif A.md.hol then none else bif own && A.own && (A.md.is .sh || w.isFull) then some (.own { A with xs := w.app A.xs }, some (.sp a j), []) else some (.shr A.r (w.app A.xs), none, [(a, j)])
   | none => none
 | .dref a j g e _ _ q ys => match arr? st a j g with
   | some A => bif A.md.is .dp && Nat.beq e (epO st a) then some (.shr q ys, none, [(a, j)]) else none
   | none => none
 | .rpt r x off => bif Nat.beq off 0 then some (.rpt r [x], none, []) else none
 | .rptl r xs off => bif Nat.beq off 0 then some (.rpt r xs, none, []) else none
 | .fn f rs xs => some (.fn f rs xs, none, [])
 | _ => none
def expL (st : St) (own : Bool) : List CV → Option (List OV × List (Option Lb) × List (Nat × Nat))
 | [] => some ([], [], [])
 | c :: l => match expC st own c, expL st own l with
   | some (o, u, r), some (os, us, rs) => some (o :: os, u :: us, r ++ rs)
   | _, _ => none
def somes : List (Option Lb) → List Lb
 | [] => []
 | some l :: ls => l :: somes ls
 | none :: ls => somes ls
def Pm.isOwn : Pm → Bool
 | .own => true
 | _ => false
def lendC (st : St) : CV → Bool
 | .ref a j g w => (match w with | .full => true | _ => false) && (match arr? st a j g with | some A => A.own | none => false)
 | _ => true
def expArg (st : St) (m : Pm) : V → Option (AV × List Lb × List Lb × List (Nat × Nat))
 | .one (.ptr b g off) => match box? st b g with
   | some cs => (match expL st true cs with
     | some (os, u, r) => bif Nat.beq off 0 then some (.box os, .box b :: somes u, somes u, r) else none
     | none => none)
   | none => none
 | .one (.ref a j g w) => match m with
   | .io => (match w, arr? st a j g with
     | .full, some A => bif A.own && !A.md.hol then some (.io A, [.sp a j], [], []) else none
     | _, _ => none)
   | m => match expL st m.isOwn [.ref a j g w] with
     | some (os, u, r) => some (.val false os, somes u, somes u, r)
     | none => none
 | .one c => match expL st false [c] with
   | some (os, u, r) => some (.val false os, somes u, somes u, r)
   | none => none
 | .agg cs => match m with
   | .lend => (match expL st true cs with
     | some (os, u, r) => bif cs.all (lendC st) then some (.lend os, somes u, [], r) else none
     | none => none)
   | m => match expL st m.isOwn cs with
     | some (os, u, r) => some (.val true os, somes u, somes u, r)
     | none => none
 | .tup _ => none
def expAll (st : St) : List (Pm × V) → Option (List AV × List Lb × List Lb × List (Nat × Nat))
 | [] => some ([], [], [], [])
 | (m, v) :: l => match expArg st m v, expAll st l with
   | some (a, u, q, r), some (as, us, qs, rs) => some (a :: as, u ++ us, q ++ qs, r ++ rs)
   | _, _ => none
def noTwice : List Lb → Bool
 | [] => true
 | x :: l => l.all (fun y => !(Lb.same x y)) && noTwice l
def apart (used : List Lb) (reads : List (Nat × Nat)) : Bool :=
 reads.all fun p => used.all fun q => !(Lb.same q (.sp p.1 p.2))
def killAll (st : St) : List Lb → St
 | [] => st
 | .sp a j :: l => killAll (setArr st a j none) l
 | _ :: l => killAll st l
def OV.plain : OV → Bool
 | .own A => !A.r.slices || A.md.is .dp
 | .shr _ _ => false
 | .rpt _ _ => false
 | .fn _ _ _ => false
 | _ => true
def XV.plain : XV → Bool
 | .io A => !A.r.slices || A.md.is .dp
 | .box os => os.all OV.plain
 | .lend As => As.all fun | some A => !A.r.slices || A.md.is .dp | none => true
def Res.plain (r : Res) : Bool :=
 r.outs.all (fun o => o.ovs.all OV.plain) && r.exts.all XV.plain
def backL (st : St) : (j : Nat) → List CV → List (Option Arr) → Option St
 | _, [], _ => some st
 | j, .ref a k g _ :: cs, As => match nth As j, arr? st a k g with
   | some (some B), some _ => backL (setArr st a k (some B)) (j + 1) cs As
   | _, _ => none
 | j, _ :: cs, As => backL st (j + 1) cs As
def backP (st : St) (m : Pm) (v : V) (xs : List XV) : Option (St × List XV) :=
 match v with
 | .one (.ptr b g _) => match xs with
   | .box os :: xs => (match nth st b, box? st b g with
     | some s0, some _ => some (upd (fun s => { s with box := some (cellOfOV b (s0.ag + 1) 0 os), arrs := arrsOfOV os, ag := s0.ag + 1 }) st b, xs)
     | _, _ => none)
   | _ => none
 | .one (.ref a j g _) => match m with
   | .io => (match xs, arr? st a j g with
     | .io A :: xs, some _ => some (setArr st a j (some A), xs)
     | _, _ => none)
   | _ => some (st, xs)
 | .agg cs => match m with
   | .lend => (match xs with
     | .lend As :: xs => (backL st 0 cs As).map fun st' => (st', xs)
     | _ => none)
   | _ => some (st, xs)
 | _ => some (st, xs)
def backAll (st : St) : List (Pm × V) → List XV → Option St
 | [], [] => some st
 | [], _ => none
 | (m, v) :: l, xs => match backP st m v xs with
   | some (st', xs') => backAll st' l xs'
   | none => none
def modes (a b c : Pm) : List V → List (Pm × V)
 | [] => []
 | [x] => [(a, x)]
 | [x, y] => [(a, x), (b, y)]
 | x :: y :: z :: l => (a, x) :: (b, y) :: (c, z) :: l.map fun v => (.shr, v)
def refsOf : List CV → List (Nat × Nat)
 | [] => []
 | .ref a j _ _ :: l => (a, j) :: refsOf l
 | _ :: l => refsOf l
def fzOf (st : St) : List (Pm × V) → List (Nat × Nat)
 | [] => []
 | (.own, .one (.ptr b g _)) :: l => (match box? st b g with | some cs => refsOf cs | none => []) ++ fzOf st l
 | (.pick q, .one (.ptr b g _)) :: l => (match box? st b g with | some cs => refsOf (q.filterMap (nth cs)) | none => []) ++ fzOf st l
 | _ :: l => fzOf st l
def bump (st : St) : St := st.map fun s => { s with ep := s.ep + 1 }
def callB (st : St) (d : Option Nat) (sem : Sem1) (ms : List (Pm × V)) (fin : St → N) : N :=
   match expAll st ms with
   | some (avs, used, kills, reads) => bif noTwice used && apart used reads then (match sem avs with
     | some A => .row A.r A.o fun x => (match backAll (killAll (bump (bif (A.res x).plain then st else freeze st reads)) kills) ms (A.res x).exts with
       | some st' => (match layRes st' d (A.res x).outs with
         | some st'' => fin st''
         | none => .fail)
       | none => .fail)
     | none => .fail) else .fail
   | none => .fail
structure Dr where
 a : Nat
 j : Nat
 g : Nat
 e : Nat
 i : Nat
 k : Nat
 q : RT
 ys : List (denR q)
def drefsL : List CV → List Dr
 | [] => []
 | .dref a j g e i k q ys :: l => ⟨a, j, g, e, i, k, q, ys⟩ :: drefsL l
 | _ :: l => drefsL l
def drefsM : List (Pm × V) → List Dr
 | [] => []
 | (.io, .one c) :: l => drefsL [c] ++ drefsM l
 | (.lend, .agg cs) :: l => drefsL cs ++ drefsM l
 | _ :: l => drefsM l
def incr : List Nat → Bool
 | [] => true
 | [_] => true
 | a :: b :: l => Nat.blt a b && incr (b :: l)
def Dr.arr (x : Dr) : Arr := { r := x.q, own := true, xs := x.ys, md := bif x.q.slices then .dp else .sh }
def splitOf (st : St) (ms : List (Pm × V)) : Option (Dr × Arr × List Dr) :=
 match drefsM ms with
 | [] => none
 | x :: l => match arr? st x.a x.j x.g with
   | some A => bif A.own && A.md.is .dp && Nat.beq x.e (epO st x.a) && l.all (fun y => Nat.beq y.a x.a && Nat.beq y.j x.j && Nat.beq y.g x.g && Nat.beq y.e x.e && Nat.beq y.i x.i) &&
       incr ((x :: l).map (·.k)) && !Nat.beq x.a (st.length - 1) then some (x, A, x :: l) else none
   | none => none
def posOf (k : Nat) : (n : Nat) → List Dr → Nat
 | n, [] => n
 | n, x :: l => bif Nat.beq x.k k then n else posOf k (n + 1) l
def undC (P g : Nat) (l : List Dr) : CV → CV
 | .dref _ _ _ _ _ k _ _ => .ref P (posOf k 0 l) g .full
 | c => c
def undV (P g : Nat) (l : List Dr) : Pm × V → Pm × V
 | (.io, .one c) => (.io, .one (undC P g l c))
 | (.lend, .agg cs) => (.lend, .agg (cs.map (undC P g l)))
 | x => x
def splitSt (st : St) (x : Dr) (A : Arr) (l : List Dr) : St :=
 upd (fun s => { s with arrs := l.map (fun y => some y.arr), ag := s.ag + 1, ep := s.ep + 1 }) (setArr st x.a x.j (some { A with md := .ho x.i })) (st.length - 1)
def joinRow (st : St) (P g : Nat) (r : RT) : (n : Nat) → List Dr → denR r → Option (denR r)
 | _, [], z => some z
 | n, y :: l, z => match arr? st P n g with
   | some B => bif B.own && B.md.is (bif y.q.slices then .dp else .sh) then (match castL y.q B.xs with
     | some ys => (match rowSetSl r z y.k y.q ys with
       | some z' => joinRow st P g r (n + 1) l z'
       | none => none)
     | none => none) else none
   | none => none
def mergeN (P g : Nat) (x : Dr) (A : Arr) (l : List Dr) (st : St) : N :=
 match arr? st x.a x.j x.g with
 | some H => bif H.md.hol then (.row A.r A.xs[x.i]? fun z => match joinRow st P g A.r 0 l z with
   | some z' => .done (setArr (upd (fun s => { s with arrs := [], ep := s.ep + 1 }) st P) x.a x.j (some (A.put (A.xs.set x.i z'))))
   | none => .fail) else .fail
 | none => .fail
def appendT (T : Tab) (st : St) (d : Option Nat) (t : Nat) (x y : V) : N :=
 match splitOf st [(.io, x)] with
 | none => appendN T st d t x y
 | some (z, A, l) => appendN T (splitSt st z A l) d t (undV (st.length - 1) (genAg st (st.length - 1) + 1) l (.io, x)).2 y
def spApp (st : St) (o : Oper) : Bool :=
 match o.op with
 | .call { callee := .builtin .append, args := args, argTypes := _ } => (match args.toList with
   | x :: _ => (splitOf st [(.io, opd st x)]).isSome
   | _ => false)
 | _ => false
def callS (st : St) (d : Option Nat) (sem : Sem1) (ms : List (Pm × V)) : N :=
 match splitOf st ms with
 | none => callB st d sem ms .done
 | some (x, A, l) => callB (splitSt st x A l) d sem (ms.map (undV (st.length - 1) (genAg st (st.length - 1) + 1) l)) (mergeN (st.length - 1) (genAg st (st.length - 1) + 1) x A l)
def thawC (st : St) : CV → CV
 | .ref a j g .full => match arr? st a j g with
   | some A => bif A.own then .ref a j g .full else bif A.md.is .sh then .shr A.r A.xs else .ref a j g .full
   | none => .ref a j g .full
 | x => x
def thawV (st : St) : V → V
 | .one x => .one (thawC st x)
 | .agg cs => .agg (cs.map (thawC st))
 | x => x
def thawS (st : St) (s : Sl) : Sl := { s with v := thawV st s.v, box := s.box.map fun cs => cs.map (thawC st) }
def thaw (st : St) : St := st.map (thawS st)
def Pm.isPick : Pm → Bool
 | .pick _ => true
 | _ => false
def thawP (ms : List (Pm × V)) (st : St) : St := bif ms.any (fun m => m.1.isPick) then thaw st else st
def callN (S : Sems) (st : St) (d : Option Nat) (f : FuncId) (args : List V) : N :=
 match S f with
 | none => .fail
 | some (a, b, c, sem) => callS (thawP (modes a b c args) (freeze st (fzOf st (modes a b c args)))) d sem (modes a b c args)
def plainRow : List CV → Option ((r : RT) × denR r)
 | [] => some ⟨.nil, ()⟩
 | .int k n :: l => match plainRow l with | some ⟨r, x⟩ => some ⟨.cons (.int k) r, (n, x)⟩ | none => none
 | .bool b :: l => match plainRow l with | some ⟨r, x⟩ => some ⟨.cons .bool r, (b, x)⟩ | none => none
 | .str s :: l => match plainRow l with | some ⟨r, x⟩ => some ⟨.cons .str r, (s, x)⟩ | none => none
 | .shr q xs :: l => match plainRow l with | some ⟨r, x⟩ => some ⟨.cons (.sl q) r, (xs, x)⟩ | none => none
 | _ => none
def dropBox (st : St) (b : Nat) : St := upd (fun s => { s with box := none }) st b
def rnV (b g : Nat) (r : RT) (x : denR r) : V → V
 | .one (.ptr b' g' off) => bif Nat.beq b' b && Nat.beq g' g then .one (.rpt r x off) else .one (.ptr b' g' off)
 | v => v
def rnPtr (st : St) (b g : Nat) (r : RT) (x : denR r) : St := st.map fun s => { s with v := rnV b g r x s.v }
def capN (st : St) (t : Nat) : Option (St × ((r : RT) × List (denR r))) :=
 match getV st t with
 | .one (.rpt r x off) => bif Nat.beq off 0 then some (st, ⟨r, [x]⟩) else none
 | .one (.rptl r xs off) => bif Nat.beq off 0 then some (st, ⟨r, xs⟩) else none
 | .one (.ptr b g off) => match box? st b g with
   | some cs => bif Nat.beq off 0 then (match plainRow cs with
     | some ⟨r, x⟩ => some (rnPtr (dropBox st b) b g r x, ⟨r, [x]⟩)
     | none => none) else none
   | none => none
 | _ => none
def capsN (st : St) : List Operand → Option (St × ((rs : RT) × denR rs))
 | [] => some (st, ⟨.nil, ()⟩)
 | .tmp t :: l => match capN st t with
   | some (st', ⟨r, ys⟩) => (match capsN st' l with
     | some (st'', ⟨rs, xs⟩) => some (st'', ⟨.cons (.sl r) rs, (ys, xs)⟩)
     | none => none)
   | none => none
 | _ => none
def capVs : (rs : RT) → denR rs → List V
 | .nil, _ => []
 | .cons (.sl r) rs, x => .one (.rptl r x.1 0) :: capVs rs x.2
 | .cons _ rs, x => .one .bad :: capVs rs x.2
def byteI (y : denR (.cons (.int .u8) .nil)) : Int := y.1
def bytesOf (ys : List (denR (.cons (.int .u8) .nil))) : ByteArray := ys.foldl (fun r y => r.push (UInt8.ofNat (byteI y).toNat)) ByteArray.empty
def opN (T : Tab) (S : Sems) (st : St) (o : Oper) : N :=
 match o.op with
 | .move x | .assign x => .done (setV st o.dst (opd st x))
 | .pick c a b => match opd st c with
   | .one (.bool x) => .br x (.done (setV st o.dst (opd st a))) (.done (setV st o.dst (opd st b)))
   | _ => .fail
 | .alloc t => match T.row t with
   | some r => newBox st o.dst (plainCells r)
   | none => .fail
 | .box t x => match T.cells t with
   | some n => bif (opd st x).solid && Nat.beq (opd st x).cells.length n then (match (bif T.cap t then plainRow (opd st x).cells else none) with
     | some ⟨r, y⟩ => .done (setV st o.dst (.one (.rpt r y 0)))
     | none => newBox st o.dst (opd st x).cells) else .fail
   | none => .fail
 | .build t parts => match T.row t, T.agg t with
   | some r, true => (match fillCells T t (plainCells r) (parts.toList.map fun p => (p.1, opd st p.2)) with
     | some cs => .done (setV st o.dst (.agg cs))
     | none => .fail)
   | _, _ => .fail
 | .buildSlice t len parts => buildSliceN T st o.dst t len (parts.toList.map fun p => (p.1, opd st p.2))
 | .load t a => loadN T st o.dst t (opd st a)
 | .store t a v => (match o.dst with
   | none => storeN T st t (opd st a) (opd st v)
   | some _ => .fail)
 | .nilCheck x => match opd st x with
   | .one (.ptr b g off) => (match box? st b g with
     | some _ => .done (setV st o.dst (.one (.ptr b g off)))
     | none => .fail)
   | .one (.ept a j g i off) => (match arr? st a j g with
     | some _ => .done (setV st o.dst (.one (.ept a j g i off)))
     | none => .fail)
   | _ => .fail
 | .binOp op t x y _ => binN T st o.dst op t (opd st x) (opd st y)
 | .unOp .not _ x => match opd st x with
   | .one (.bool b) => .done (setV st o.dst (.one (.bool (!b))))
   | _ => .fail
 | .convert s t x => match T.kind s, T.kind t, opd st x with
   | some (.int _), some (.int k), .one (.int _ n) => .done (setV st o.dst (.one (.int k (k.wrap n))))
   | some .str, some .str, .one (.str b) => .done (setV st o.dst (.one (.str b)))
   | none, some .str, .one c => (match T.elem s with
     | some (.cons (.int .u8) .nil, _) => withRows st (.cons (.int .u8) .nil) c fun ys => .done (setV st o.dst (.one (.str (bytesOf ys))))
     | _ => .fail)
   | _, _, _ => .fail
 | .makeSlice t l c => makeN T st o.dst t (opd st l) (opd st c)
 | .slice t x lo hi none => sliceN T st o.dst t (opd st x) (lo.map (opd st)) (hi.map (opd st))
 | .fieldAddr t x f => match opd st x, T.off t f with
   | .one (.ptr b g off), some k => (match box? st b g with
     | some _ => .done (setV st o.dst (.one (.ptr b g (off + k))))
     | none => .fail)
   | .one (.ept a j g i off), some k => (match arr? st a j g with
     | some _ => .done (setV st o.dst (.one (.ept a j g i (off + k))))
     | none => .fail)
   | .one (.rpt r x off), some k => .done (setV st o.dst (.one (.rpt r x (off + k))))
   | .one (.rptl r xs off), some k => .done (setV st o.dst (.one (.rptl r xs (off + k))))
   | _, _ => .fail
 | .field t x f => match opd st x, T.off t f with
   | .agg cs, some k => bif T.one t f then (match nth cs k with
     | some c => .done (setV st o.dst (.one c))
     | none => .fail) else .fail
   | _, _ => .fail
 | .indexAddr t x i => indexN T st o.dst t (opd st x) (opd st i)
 | .index t x i => match T.kind t, opd st x, opd st i with
   | some .str, .one (.str s), .one (.int _ n) => .br (decide (0 ≤ n)) (.br (decide (n < s.size)) (.done (setV st o.dst (.one (.int .u8 (byteAt s n))))) .fail) .fail
   | _, _, _ => .fail
 | .extract t i => match opd st t with
   | .tup vs => match nth vs i with
     | some v => .done (setV st o.dst v)
     | none => .fail
   | _ => .fail
 | .call { callee := .value (.func f), args := args, argTypes := _ } => callN S st o.dst f (args.toList.map (opd st))
 | .call { callee := .value (.tmp t), args := args, argTypes := _ } => (match getV st t with
   | .one (.fn g rs xs) => .row rs xs[0]? fun x => callN S st o.dst g (args.toList.map (opd st) ++ capVs rs x)
   | _ => .fail)
 | .makeFunc (.func g) first caps => bif first.isEmpty then (match capsN st caps.toList with
   | some (st', ⟨rs, x⟩) => .done (setV st' o.dst (.one (.fn g rs [x])))
   | none => .fail) else .fail
 | .call { callee := .builtin b, args := args, argTypes := ts } => match b, args.toList, ts.toList with
   | .len, [x], [t] => lenN T st o.dst t (opd st x)
   | .append, [x, y], [t, u] => bif Nat.beq t u then appendT T st o.dst t (opd st x) (opd st y) else .fail
   | .min, [x, y], _ => (match opd st x, opd st y with
     | .one (.int k a), .one (.int _ b) => .done (setV st o.dst (.one (.int k (if b < a then b else a))))
     | _, _ => .fail)
   | .max, [x, y], _ => (match opd st x, opd st y with
     | .one (.int k a), .one (.int _ b) => .done (setV st o.dst (.one (.int k (if b > a then b else a))))
     | _, _ => .fail)
   | .min, [x, y, z], _ => (match opd st x, opd st y, opd st z with
     | .one (.int k a), .one (.int _ b), .one (.int _ c) => .done (setV st o.dst (.one (.int k (if c < (if b < a then b else a) then c else (if b < a then b else a)))))
     | _, _, _ => .fail)
   | _, _, _ => .fail
 | _ => .fail
def guardN (T : Tab) (S : Sems) (ops : List Oper) (st : St) (o : Oper) : N :=
 match o.guard with
 | none => opN T S st o
 | some (j, want) => match (nth ops j).bind (·.dst) with
   | some d => match getV st d with
     | .one (.bool b) =>
       let yes (x : Bool) : N := opN T S (setV st (some d) (.one (.bool x))) o
       let no (x : Bool) : N := .done (setV (setV st (some d) (.one (.bool x))) o.dst (.tup []))
       .br b (bif want then yes true else no true) (bif want then no false else yes false)
     | .tup [] => .done (setV st o.dst (.tup []))
     | _ => .fail
   | none => .fail
inductive Ex where
 | normal
 | exit (n : Nat)
 | ret
open Classical in
noncomputable def both {R : Type} (a b : Option R) : Option R := if a = b then a else none
theorem both_self {R : Type} (a : Option R) : both a a = a := by unfold both; rw [if_pos rfl]
theorem both_some {R : Type} {a b : Option R} {r : R} (h : both a b = some r) : a = some r ∧ b = some r := by
 unfold both at h
 split at h
 · rename_i e; exact ⟨h, e ▸ h⟩
 · cases h
section
variable {R : Type} (T : Tab) (S : Sems)
def opsK (ops : List Oper) : List Oper → St → (St → Option R) → Option R
 | [], st, k => k st
 | o :: r, st, k => (guardN T S ops st o).fold fun st' => opsK ops r st' k
inductive Kd where
 | any | take | one | last
inductive Pl where
 | nil
 | op (i : Nat) (kd : Kd) (p : Pl)
 | alt (p q : Pl)
def quietB (st : St) (ms : List (Pm × V)) : Bool :=
 match expAll st ms with
   | some (_, used, _, _) => used.isEmpty
   | none => true
def quietArgs (S : Sems) (st : St) (f : FuncId) (args : List V) : Bool :=
 match S f with
 | some (a, b, c, _) => (match splitOf (thawP (modes a b c args) (freeze st (fzOf st (modes a b c args)))) (modes a b c args) with | none => quietB (thawP (modes a b c args) (freeze st (fzOf st (modes a b c args)))) (modes a b c args) | some _ => false)
 | none => true
def kindOk (S : Sems) (st : St) (o : Oper) : Kd → Bool
 | .any => match o.op with
   | .move _ | .assign _ | .pick _ _ _ | .nilCheck _ | .binOp _ _ _ _ _ | .unOp _ _ _ | .slice _ _ _ _ _ | .fieldAddr _ _ _ | .indexAddr _ _ _ | .index _ _ _ | .extract _ _ | .build _ _ | .field _ _ _ => true
   | .convert _ _ x => (match opd st x with | .one (.dref _ _ _ _ _ _ _ _) => false | .one (.shr _ _) => false | .one (.nn _ _) => false | .one (.ref _ _ _ _) => false | .one .nils => false | _ => true)
   | .call { callee := .builtin b, .. } => (match b with | .len | .min | .max => true | _ => false)
   | _ => false
 | .take => match o.op with
   | .load _ _ => true
   | _ => false
 | .one => match o.op with
   | .store _ _ _ => false
   | .call { callee := .builtin b, .. } => (match b with | .len | .min | .max => true | _ => false)
   | .call { callee := .value (.func f), args := args, .. } => quietArgs S st f (args.toList.map (opd st))
   | .call { callee := .value (.tmp t), args := args, .. } => (match getV st t with
     | .one (.fn g rs xs) => (match xs[0]? with | some x => quietArgs S st g (args.toList.map (opd st) ++ capVs rs x) | none => true)
     | _ => true)
   | _ => true
 | .last => true
noncomputable def drawnK (ops : List Oper) : Pl → St → (St → Option R) → Option R
 | .nil, st, k => k st
 | .op i kd r, st, k => match nth ops i with
   | some o => bif kindOk S st o kd then (guardN T S ops st o).fold fun st' => drawnK ops r st' k else none
   | none => none
 | .alt p q, st, k => both (drawnK ops p st k) (drawnK ops q st k)
abbrev Loops (R : Type) := Nat → Code → St → (Ex → St → Option R) → Option R
abbrev Draws := Nat → Pl
noncomputable def codeK (D : Draws) (L : Loops R) : Code → St → (Ex → St → Option R) → Option R
 | .skip, st, k => k .normal st
 | .region _ ops false, st, k => opsK T S ops.toList ops.toList st fun st' => k .normal st'
 | .region id ops true, st, k => drawnK T S ops.toList (D id) st fun st' => k .normal st'
 | .seq a b, st, k => codeK D L a st fun e st' => match e with
   | .normal => codeK D L b st' k
   | e => k e st'
 | .cond (.tmp c) a b, st, k => match getV st c with
   | .one (.bool x) => bif x then codeK D L a (setV st (some c) (.one (.bool true))) k else codeK D L b (setV st (some c) (.one (.bool false))) k
   | _ => none
 | .block id (.loop b), st, k => L id b st k
 | .block id b, st, k => codeK D L b st fun e st' => match e with
   | .exit n => bif Nat.beq n id then k .normal st' else k (.exit n) st'
   | e => k e st'
 | .exit id, st, k => k (.exit id) st
 | .ret, st, k => k .ret st
 | _, _, _ => none
end
end Go.TM
namespace Go.TM
open Go Go.RowKit
@[simp] theorem nth_nil {α : Type} (n : Nat) : nth ([] : List α) n = none := rfl
theorem nth_eq {α : Type} (l : List α) (n : Nat) : nth l n = l[n]? := by
 induction l generalizing n with
 | nil => simp
 | cons x l ih => cases n <;> simp [nth, ih]
theorem nth_upd_same {α : Type} (f : α → α) (l : List α) (n : Nat) : nth (upd f l n) n = (nth l n).map f := by
 induction l generalizing n with
 | nil => rfl
 | cons x l ih => cases n <;> simp [upd, nth, ih]
theorem nth_upd_ne {α : Type} (f : α → α) (l : List α) {n m : Nat} (h : m ≠ n) : nth (upd f l n) m = nth l m := by
 induction l generalizing n m with
 | nil => rfl
 | cons x l ih =>
   cases n with
   | zero => cases m with
     | zero => exact absurd rfl h
     | succ m => rfl
   | succ n => cases m with
     | zero => rfl
     | succ m => simp only [upd, nth]; exact ih (by omega)
theorem nth_upd {α : Type} (f : α → α) (l : List α) (n m : Nat) : nth (upd f l n) m = if m = n then (nth l m).map f else nth l m := by
 by_cases h : m = n
 · subst h; simp [nth_upd_same]
 · simp [h, nth_upd_ne f l h]
theorem nth_lt {α : Type} {l : List α} {n : Nat} {x : α} (h : nth l n = some x) : n < l.length := by
 rw [nth_eq] at h; exact (List.getElem?_eq_some_iff.1 h).1
def asL {r : RT} (xs : den (.sl r)) : List (denR r) := xs
mutual
def RepTy (w : World) (ok : Nat → Prop) : (t : Ty) → Value → den t → Prop
 | .int k, v, n => v = .int k n
 | .bool, v, b => v = .bool b
 | .str, v, s => v = .string s
 | .sl r, v, xs => (v = .slice none 0 0 ∧ asL xs = []) ∨
     ∃ a cap, v = .slice (some a) (asL xs).length cap ∧ (asL xs).length ≤ cap ∧
       (asL xs ≠ [] → a.spot = none ∧ a.block < w.heap.size ∧ ok a.block) ∧
       ∀ i x, (asL xs)[i]? = some x → RepR w ok r a.block (a.off + i * r.width) x
def RepR (w : World) (ok : Nat → Prop) : (r : RT) → (b off : Nat) → denR r → Prop
 | .nil, _, _, _ => True
 | .cons t r, b, off, x => (∃ v, w.cell? ⟨b, off, none⟩ = some v ∧ RepTy w ok t v x.1) ∧ RepR w ok r b (off + 1) x.2
end
theorem repSl (w : World) (ok : Nat → Prop) (r : RT) (v : Value) (xs : List (denR r)) : RepTy w ok (.sl r) v xs ↔
   ((v = .slice none 0 0 ∧ xs = []) ∨ ∃ a cap, v = .slice (some a) xs.length cap ∧ xs.length ≤ cap ∧
       (xs ≠ [] → a.spot = none ∧ a.block < w.heap.size ∧ ok a.block) ∧ ∀ i x, xs[i]? = some x → RepR w ok r a.block (a.off + i * r.width) x) := by
 have := RepTy.eq_4 w ok v r xs; exact this ▸ Iff.rfl
theorem repInt {w : World} {ok : Nat → Prop} {k : IntKind} {v : Value} {n : Int} : RepTy w ok (.int k) v n ↔ v = .int k n := RepTy.eq_1 w ok v k n ▸ Iff.rfl
theorem repBool {w : World} {ok : Nat → Prop} {v : Value} {b : Bool} : RepTy w ok .bool v b ↔ v = .bool b := RepTy.eq_2 w ok v b ▸ Iff.rfl
theorem repStr {w : World} {ok : Nat → Prop} {v : Value} {s : ByteArray} : RepTy w ok .str v s ↔ v = .string s := RepTy.eq_3 w ok v s ▸ Iff.rfl
structure Stays (w w' : World) (ok ok' : Nat → Prop) : Prop where
 size : w.heap.size ≤ w'.heap.size
 block : ∀ b, b < w.heap.size → ok b → w'.heap[b]? = w.heap[b]?
 ok : ∀ b, b < w.heap.size → ok b → ok' b
theorem cell_lt {w : World} {a : Addr} {v : Value} (h : w.cell? a = some v) : a.block < w.heap.size := World.block_lt_of_cell? w a h
mutual
theorem RepTy.stays {w w' : World} {ok ok' : Nat → Prop} (h : Stays w w' ok ok') : (t : Ty) → (v : Value) → (x : den t) → RepTy w ok t v x → RepTy w' ok' t v x
 | .int _, _, _, hr => by unfold RepTy at hr ⊢; exact hr
 | .bool, _, _, hr => by unfold RepTy at hr ⊢; exact hr
 | .str, _, _, hr => by unfold RepTy at hr ⊢; exact hr
 | .sl r, v, xs, hr => by
   unfold RepTy at hr ⊢; rcases hr with hr | ⟨a, cap, hv, hc, ha, hx⟩
   · exact .inl hr
   · refine .inr ⟨a, cap, hv, hc, fun hne => ?_, fun i x hi => ?_⟩
     · obtain ⟨hs, hb, hok⟩ := ha hne; exact ⟨hs, Nat.lt_of_lt_of_le hb h.size, h.ok _ hb hok⟩
     · have hne : asL xs ≠ [] := by intro e; rw [e] at hi; simp at hi
       obtain ⟨hs, hb, hok⟩ := ha hne; exact RepR.stays h r _ _ x (h.block _ hb hok) (hx i x hi)
theorem RepR.stays {w w' : World} {ok ok' : Nat → Prop} (h : Stays w w' ok ok') : (r : RT) → (b off : Nat) → (x : denR r) → w'.heap[b]? = w.heap[b]? → RepR w ok r b off x → RepR w' ok' r b off x
 | .nil, _, _, _, _, _ => by unfold RepR; trivial
 | .cons t r, b, off, x, hok, hr => by
   unfold RepR at hr ⊢; obtain ⟨⟨v, hv, hx⟩, hr⟩ := hr; refine ⟨⟨v, ?_, RepTy.stays h t v x.1 hx⟩, RepR.stays h r b (off + 1) x.2 hok hr⟩; rw [World.cell?_of_block (w := w) hok]; exact hv
end
inductive Loc where
 | nil
 | at (b off cap : Nat)
structure Cz where
 bx : Nat → Nat
 lc : Nat → Nat → Loc
 own : Nat → Option Lb
def Cz.ok (c : Cz) (b : Nat) : Prop := c.own b = none
def genB (st : St) (s : Nat) : Nat := match nth st s with | some x => x.bg | none => 0
def genA (st : St) (s : Nat) : Nat := match nth st s with | some x => x.ag | none => 0
def SlAt (l : Loc) (W lo n : Nat) (v : Value) : Prop :=
 match l with
 | .nil => v = .slice none 0 0 ∧ n = 0
 | .at b off cap => ∃ a c, v = .slice (some a) n c ∧ n ≤ c ∧ lo + c ≤ cap ∧ (c ≠ 0 → a = ⟨b, off + lo * W, none⟩)
mutual
def DepTy (w : World) (P : List Nat → Nat → Prop) : (t : Ty) → (p : List Nat) → Value → den t → Prop
 | .int k, _, v, n => v = .int k n
 | .bool, _, v, b => v = .bool b
 | .str, _, v, s => v = .string s
 | .sl r, p, v, xs => ∃ lc : Loc, SlAt lc r.width 0 (asL xs).length v ∧ v.oneCell' = true ∧ ((lc = .nil ∧ asL xs = []) ∨ ∃ b off cap, lc = .at b off cap ∧
     P p b ∧ (asL xs).length ≤ cap ∧ (∃ cur ty, w.heap[b]? = some (.cells cur ty (0, 0)) ∧ off + cap * r.width ≤ cur.size) ∧
       ∀ i x, (asL xs)[i]? = some x → DepR w P r (p ++ [i]) 0 b (off + i * r.width) x)
def DepR (w : World) (P : List Nat → Nat → Prop) : (r : RT) → (p : List Nat) → (k b off : Nat) → denR r → Prop
 | .nil, _, _, _, _, _ => True
 | .cons t r, p, k, b, off, x => (∃ v, w.cell? ⟨b, off, none⟩ = some v ∧ DepTy w P t (p ++ [k]) v x.1) ∧ DepR w P r p (k + 1) b (off + 1) x.2
end
theorem depSl (w : World) (P : List Nat → Nat → Prop) (r : RT) (p : List Nat) (v : Value) (xs : List (denR r)) : DepTy w P (.sl r) p v xs ↔
   ∃ lc : Loc, SlAt lc r.width 0 xs.length v ∧ v.oneCell' = true ∧ ((lc = .nil ∧ xs = []) ∨ ∃ b off cap, lc = .at b off cap ∧
     P p b ∧ xs.length ≤ cap ∧ (∃ cur ty, w.heap[b]? = some (.cells cur ty (0, 0)) ∧ off + cap * r.width ≤ cur.size) ∧
       ∀ (i : Nat) x, xs[i]? = some x → DepR w P r (p ++ [i]) 0 b (off + i * r.width) x) := by
 have := DepTy.eq_4 w P p v r xs; exact this ▸ Iff.rfl
theorem depInt {w : World} {P : List Nat → Nat → Prop} {k : IntKind} {p : List Nat} {v : Value} {n : Int} : DepTy w P (.int k) p v n ↔ v = .int k n := DepTy.eq_1 w P p v k n ▸ Iff.rfl
theorem depBool {w : World} {P : List Nat → Nat → Prop} {p : List Nat} {v : Value} {n : Bool} : DepTy w P .bool p v n ↔ v = .bool n := DepTy.eq_2 w P p v n ▸ Iff.rfl
theorem depStr {w : World} {P : List Nat → Nat → Prop} {p : List Nat} {v : Value} {n : ByteArray} : DepTy w P .str p v n ↔ v = .string n := DepTy.eq_3 w P p v n ▸ Iff.rfl
mutual
theorem DepTy.go {w w' : World} {P P' : List Nat → Nat → Prop} : (t : Ty) → (p p' : List Nat) → (hP : ∀ q b, P (p ++ q) b → w'.heap[b]? = w.heap[b]? ∧ P' (p' ++ q) b) → (v : Value) → (x : den t) → DepTy w P t p v x → DepTy w' P' t p' v x
 | .int _, _, _, _, _, _, h => by unfold DepTy at h ⊢; exact h
 | .bool, _, _, _, _, _, h => by unfold DepTy at h ⊢; exact h
 | .str, _, _, _, _, _, h => by unfold DepTy at h ⊢; exact h
 | .sl r, p, p', hP, v, xs, h => by
   unfold DepTy at h ⊢; obtain ⟨lc, h1, h0, h2⟩ := h; refine ⟨lc, h1, h0, h2.imp id ?_⟩
   rintro ⟨b, off, cap, e, h3, h4, ⟨cur, ty, h5, h6⟩, h7⟩
   obtain ⟨hw, hb⟩ := hP [] b (by simpa using h3); refine ⟨b, off, cap, e, by simpa using hb, h4, ⟨cur, ty, by rw [hw]; exact h5, h6⟩, fun i x hx => DepR.go r (p ++ [i]) (p' ++ [i]) (fun q k hk => ?_) 0 b _ x hw (h7 i x hx)⟩; have := hP ([i] ++ q) k (by rw [← List.append_assoc]; exact hk); rw [← List.append_assoc] at this; exact this
theorem DepR.go {w w' : World} {P P' : List Nat → Nat → Prop} : (r : RT) → (p p' : List Nat) → (hP : ∀ q b, P (p ++ q) b → w'.heap[b]? = w.heap[b]? ∧ P' (p' ++ q) b) → (k b off : Nat) → (x : denR r) → w'.heap[b]? = w.heap[b]? → DepR w P r p k b off x → DepR w' P' r p' k b off x
 | .nil, _, _, _, _, _, _, _, _, _ => by unfold DepR; trivial
 | .cons t r, p, p', hP, k, b, off, x, hw, h => by
   unfold DepR at h ⊢; obtain ⟨⟨v, h1, h2⟩, h3⟩ := h; refine ⟨⟨v, by rw [World.cell?_of_block (w := w) hw]; exact h1, DepTy.go t (p ++ [k]) (p' ++ [k]) (fun q b hb => ?_) v x.1 h2⟩, DepR.go r p p' hP (k + 1) b (off + 1) x.2 hw h3⟩; have := hP ([k] ++ q) b (by rw [← List.append_assoc]; exact hb); rw [← List.append_assoc] at this; exact this
end
theorem slAt_slice {lc : Loc} {W lo n : Nat} {v : Value} (h : SlAt lc W lo n v) : (v = .slice none 0 0 ∧ n = 0) ∨ ∃ b off cap a c, lc = .at b off cap ∧ v = .slice (some a) n c ∧ n ≤ c ∧ lo + c ≤ cap ∧ (c ≠ 0 → a = ⟨b, off + lo * W, none⟩) := by
 cases lc with
 | nil => exact .inl h
 | «at» b off cap =>
   obtain ⟨a, c, h1, h2, h3, h4⟩ := h; exact .inr ⟨b, off, cap, a, c, rfl, h1, h2, h3, h4⟩
mutual
theorem DepTy.rep {w : World} {P : List Nat → Nat → Prop} {ok : Nat → Prop} (hP : ∀ p b, P p b → ok b) : (t : Ty) → (p : List Nat) → (v : Value) → (x : den t) → DepTy w P t p v x → RepTy w ok t v x
 | .int _, _, _, _, h => by unfold DepTy at h; unfold RepTy; exact h
 | .bool, _, _, _, h => by unfold DepTy at h; unfold RepTy; exact h
 | .str, _, _, _, h => by unfold DepTy at h; unfold RepTy; exact h
 | .sl r, p, v, xs, h => by
   unfold DepTy at h; unfold RepTy; obtain ⟨lc, h1, h0, h2⟩ := h; rcases slAt_slice h1 with ⟨e1, e2⟩ | ⟨b, off, cap, a, c, e1, e2, e3, e4, e5⟩
   · exact .inl ⟨e1, List.length_eq_zero_iff.1 e2⟩
   · rcases h2 with ⟨e, _⟩ | ⟨b', off', cap', e, h3, h4, ⟨cur, ty, h5, h6⟩, h7⟩
     · rw [e] at e1; cases e1
     · rw [e] at e1; injection e1 with q1 q2 q3; subst q1 q2 q3; have hne : asL xs ≠ [] → a = ⟨b', off', none⟩ := by
         intro hne; have := List.length_pos_iff.2 hne; have := e5 (by omega); simpa using this
       refine .inr ⟨a, c, e2, e3, fun hn => ?_, fun i x hx => ?_⟩
       · rw [hne hn]; exact ⟨rfl, (Array.getElem?_eq_some_iff.1 h5).1, hP _ _ h3⟩
       · rw [hne (by intro e; rw [e] at hx; simp at hx)]; exact DepR.rep hP r _ 0 b' _ x (h7 i x hx)
theorem DepR.rep {w : World} {P : List Nat → Nat → Prop} {ok : Nat → Prop} (hP : ∀ p b, P p b → ok b) : (r : RT) → (p : List Nat) → (k b off : Nat) → (x : denR r) → DepR w P r p k b off x → RepR w ok r b off x
 | .nil, _, _, _, _, _, _ => by unfold RepR; trivial
 | .cons t r, p, k, b, off, x, h => by
   unfold DepR at h; unfold RepR; obtain ⟨⟨v, h1, h2⟩, h3⟩ := h; exact ⟨⟨v, h1, DepTy.rep hP t _ v x.1 h2⟩, DepR.rep hP r p (k + 1) b (off + 1) x.2 h3⟩
end
def RowsOk (c : Cz) (w : World) (l : Lb) (A : Arr) (b off : Nat) : Prop :=
 match A.md with
 | .sh => ∀ (i : Nat) x, A.xs[i]? = some x → RepR w c.ok A.r b (off + i * A.r.width) x
 | .dp => ∃ g : Nat → List Nat, g b = [] ∧ ∀ (i : Nat) x, A.xs[i]? = some x → DepR w (fun p k => c.own k = some l ∧ g k = p) A.r [i] 0 b (off + i * A.r.width) x
 | .ho q => A.own = true → ∃ g : Nat → List Nat, g b = [] ∧ ∀ (i : Nat) x, i ≠ q → A.xs[i]? = some x → DepR w (fun p k => c.own k = some l ∧ g k = p) A.r [i] 0 b (off + i * A.r.width) x
theorem RowsOk.go {c c' : Cz} {w w' : World} {l l' : Lb} {A : Arr} {b off : Nat} (h : RowsOk c w l A b off) (hs : A.md = .sh → Stays w w' c.ok c'.ok) (hb : w'.heap[b]? = w.heap[b]?)
   (hd : A.md ≠ .sh → ∀ k, c.own k = some l → w'.heap[k]? = w.heap[k]? ∧ c'.own k = some l') : RowsOk c' w' l' A b off := by
 unfold RowsOk at h ⊢
 cases hm : A.md with
 | sh => rw [hm] at h; exact fun i x hx => RepR.stays (hs hm) _ _ _ _ hb (h i x hx)
 | dp =>
   rw [hm] at h; obtain ⟨g, h1, h2⟩ := h; exact ⟨g, h1, fun i x hx => DepR.go _ [i] [i] (fun q k hk => ⟨(hd (by rw [hm]; simp) k hk.1).1, (hd (by rw [hm]; simp) k hk.1).2, hk.2⟩) _ _ _ _ hb (h2 i x hx)⟩
 | ho q =>
   rw [hm] at h; intro ho; obtain ⟨g, h1, h2⟩ := h ho; exact ⟨g, h1, fun i x hq hx => DepR.go _ [i] [i] (fun q k hk => ⟨(hd (by rw [hm]; simp) k hk.1).1, (hd (by rw [hm]; simp) k hk.1).2, hk.2⟩) _ _ _ _ hb (h2 i x hq hx)⟩
theorem RowsOk.sh {c : Cz} {w : World} {l : Lb} {A : Arr} {b off : Nat} (hm : A.md = .sh) : RowsOk c w l A b off ↔ ∀ (i : Nat) x, A.xs[i]? = some x → RepR w c.ok A.r b (off + i * A.r.width) x := by
 unfold RowsOk; rw [hm]
def PtrAt (w : World) (ok : Nat → Prop) (r : RT) (v : Value) (xs : List (denR r)) : Prop :=
 ∃ b o, v = .pointer (some ⟨b, o, none⟩) ∧ b < w.heap.size ∧ ok b ∧ ∀ x, xs[0]? = some x → RepR w ok r b o x
def CapsAt (w : World) (ok : Nat → Prop) : (rs : RT) → List Value → denR rs → Prop
 | .nil, vs, _ => vs = []
 | .cons (.sl r) rs, vs, x => ∃ v l, vs = v :: l ∧ PtrAt w ok r v (asL x.1) ∧ CapsAt w ok rs l x.2
 | .cons _ _, _, _ => False
def FnAt (w : World) (ok : Nat → Prop) (g : Nat) (rs : RT) (v : Value) (xs : List (denR rs)) : Prop :=
 ∃ caps, v = .func (.func g) #[] caps ∧ ∀ x, xs[0]? = some x → CapsAt w ok rs caps.toList x
theorem PtrAt.stays {w w' : World} {ok ok' : Nat → Prop} (h : Stays w w' ok ok') {r : RT} {v : Value} {xs : List (denR r)} (hp : PtrAt w ok r v xs) : PtrAt w' ok' r v xs := by
 obtain ⟨b, o, h1, h2, h3, h4⟩ := hp; exact ⟨b, o, h1, Nat.lt_of_lt_of_le h2 h.size, h.ok b h2 h3, fun x hx => RepR.stays h r b o x (h.block b h2 h3) (h4 x hx)⟩
theorem CapsAt.stays {w w' : World} {ok ok' : Nat → Prop} (h : Stays w w' ok ok') : (rs : RT) → (vs : List Value) → (x : denR rs) → CapsAt w ok rs vs x → CapsAt w' ok' rs vs x
 | .nil, _, _, hc => hc
 | .cons (.sl r) rs, vs, x, hc => by
   obtain ⟨v, l, h1, h2, h3⟩ := hc; exact ⟨v, l, h1, h2.stays h, CapsAt.stays h rs l x.2 h3⟩
 | .cons (.int _) _, _, _, hc => hc.elim
 | .cons .bool _, _, _, hc => hc.elim
 | .cons .str _, _, _, hc => hc.elim
theorem FnAt.stays {w w' : World} {ok ok' : Nat → Prop} (h : Stays w w' ok ok') {g : Nat} {rs : RT} {v : Value} {xs : List (denR rs)} (hf : FnAt w ok g rs v xs) : FnAt w' ok' g rs v xs := by
 obtain ⟨caps, h1, h2⟩ := hf; exact ⟨caps, h1, fun x hx => CapsAt.stays h rs _ x (h2 x hx)⟩
def RelC (c : Cz) (st : St) (w : World) : CV → Value → Prop
 | .bad, _ => True
 | .int k n, v => v = .int k n
 | .bool b, v => v = .bool b
 | .str s, v => v = .string s
 | .nils, v => v = .slice none 0 0
 | .nilp, v => v = .pointer none
 | .shr r xs, v => RepTy w c.ok (.sl r) v xs
 | .nn r xs, v => RepTy w c.ok (.sl r) v xs ∧ v ≠ .slice none 0 0
 | .ref a j g vw, v => v.oneCell' = true ∧ g ≤ genA st a ∧ ∀ A, arr? st a j g = some A → SlAt (c.lc a j) A.r.width vw.lo (vw.app A.xs).length v
 | .ptr b g off, v => v.oneCell' = true ∧ g ≤ genB st b ∧ ∀ cs, box? st b g = some cs → v = .pointer (some ⟨c.bx b, off, none⟩)
 | .ept a j g i off, v => v.oneCell' = true ∧ g ≤ genA st a ∧ ∀ A, arr? st a j g = some A → i < A.xs.length ∧ ∃ b o cap, c.lc a j = .at b o cap ∧ v = .pointer (some ⟨b, o + i * A.r.width + off, none⟩)
 | .rpt r x off, v => ∃ b o, v = .pointer (some ⟨b, o + off, none⟩) ∧ b < w.heap.size ∧ c.ok b ∧ RepR w c.ok r b o x
 | .rptl r xs off, v => ∃ b o, v = .pointer (some ⟨b, o + off, none⟩) ∧ b < w.heap.size ∧ c.ok b ∧ ∀ x, xs[0]? = some x → RepR w c.ok r b o x
 | .fn g rs xs, v => FnAt w c.ok g rs v xs
 | .dref a j g e i k q ys, v => v.oneCell' = true ∧ g ≤ genA st a ∧ e ≤ epO st a ∧ ∀ A, arr? st a j g = some A → epO st a = e →
     A.md = .dp ∧ (∃ x, A.xs[i]? = some x ∧ rowSl A.r x k = some ⟨q, ys⟩) ∧ ∃ b o cap, c.lc a j = .at b o cap ∧ w.cell? ⟨b, o + i * A.r.width + k, none⟩ = some v
def RelL (c : Cz) (st : St) (w : World) (cs : List CV) (vs : List Value) : Prop :=
 cs.length = vs.length ∧ ∀ (i : Nat) x v, cs[i]? = some x → vs[i]? = some v → RelC c st w x v
def RelV1 (c : Cz) (st : St) (w : World) : V → Value → Prop
 | .one x, v => RelC c st w x v
 | .agg cs, v => ∃ vs, v = .agg vs ∧ RelL c st w cs vs.toList
 | .tup _, _ => False
def RelV (c : Cz) (st : St) (w : World) : V → Value → Prop
 | .tup us, v => ∃ vs, v = .tuple vs ∧ us.length = vs.size ∧ ∀ (i : Nat) x y, us[i]? = some x → vs[i]? = some y → RelV1 c st w x y
 | x, v => RelV1 c st w x v
def BoxOk (c : Cz) (st : St) (w : World) (s : Nat) (cs : List CV) : Prop :=
 c.own (c.bx s) = some (.box s) ∧ ∃ vs ty, w.heap[c.bx s]? = some (.cells vs ty (0, 0)) ∧ RelL c st w cs vs.toList
def ArrOk (c : Cz) (w : World) (s j : Nat) (A : Arr) : Prop :=
 match c.lc s j with
 | .nil => A.xs = []
 | .at b off cap => (match A.own with | true => c.own b = some (.sp s j) | false => c.own b = none) ∧ A.xs.length ≤ cap ∧
     (∃ cur ty, w.heap[b]? = some (.cells cur ty (0, 0)) ∧ off + cap * A.r.width ≤ cur.size) ∧
     RowsOk c w (.sp s j) A b off
inductive Anc where
 | arr (a j g W n : Nat) (l : Loc)
 | box (b g blk : Nat)
def AnOk (c : Cz) (st : St) : Anc → Prop
 | .arr a j g W n l => g ≤ genA st a ∧ ∀ A, arr? st a j g = some A → A.r.width = W ∧ A.xs.length = n ∧ c.lc a j = l
 | .box b g blk => g ≤ genB st b ∧ ∀ cs, box? st b g = some cs → c.bx b = blk
structure Mu where
 m : Nat → Prop
 ok : Nat → Prop
 an : List Anc
structure Rel (w0 : World) (mu : Mu) (c : Cz) (st : St) (a : Act) (w : World) : Prop where
 regs : ∀ t, RelV c st w (getV st t) (a.eval (.tmp t))
 boxes : ∀ s sl cs, nth st s = some sl → sl.box = some cs → BoxOk c st w s cs
 arrs : ∀ s j sl A, nth st s = some sl → nth sl.arrs j = some (some A) → ArrOk c w s j A
 owned : ∀ b l, c.own b = some l → b < w.heap.size ∧ (l = .out ∨ w0.heap.size ≤ b ∨ mu.m b)
 free : ∀ b, b < w0.heap.size → c.own b = none → mu.m b ∨ mu.ok b
 kept : w.os = w0.os ∧ w.tape = w0.tape ∧ w.output = w0.output ∧ w0.heap.size ≤ w.heap.size
 old : ∀ k, k < w0.heap.size → ¬ mu.m k → w.heap[k]? = w0.heap[k]?
 plain : a.defers = []
 anch : ∀ p ∈ mu.an, AnOk c st p
end Go.TM
namespace Go.TM
open Go Go.RowKit
theorem bif_some {α : Type} {b : Bool} {x : Option α} {y : α} (h : (bif b then x else none) = some y) : b = true ∧ x = some y := by
 cases b
 · simp at h
 · exact ⟨rfl, h⟩
theorem bifN_some {b : Bool} {x : N} {y : St} (h : (bif b then x else N.fail).val = some y) : b = true ∧ x.val = some y := by
 cases b
 · simp [N.val] at h
 · exact ⟨rfl, h⟩
theorem arr?_some {st : St} {a j g : Nat} {A : Arr} (h : arr? st a j g = some A) : ∃ sl, nth st a = some sl ∧ sl.ag = g ∧ nth sl.arrs j = some (some A) := by
 unfold arr? at h
 cases hs : nth st a with
 | none => simp [hs] at h
 | some sl =>
   simp only [hs] at h; obtain ⟨h1, h2⟩ := bif_some h; refine ⟨sl, rfl, Nat.eq_of_beq_eq_true h1, ?_⟩
   cases hj : nth sl.arrs j with
   | none => simp [hj] at h2
   | some o => cases o with
     | none => simp [hj] at h2
     | some B => simp [hj] at h2; rw [h2]
theorem box?_some {st : St} {b g : Nat} {cs : List CV} (h : box? st b g = some cs) : ∃ sl, nth st b = some sl ∧ sl.bg = g ∧ sl.box = some cs := by
 unfold box? at h
 cases hs : nth st b with
 | none => simp [hs] at h
 | some sl =>
   simp only [hs] at h; obtain ⟨h1, h2⟩ := bif_some h; exact ⟨sl, rfl, Nat.eq_of_beq_eq_true h1, h2⟩
theorem View.app_length {r s : RT} (w : View) (xs : List (denR r)) (ys : List (denR s)) (h : xs.length = ys.length) : (w.app xs).length = (w.app ys).length := by
 cases w <;> simp [View.app, h]
structure Fw (c : Cz) (st : St) (w : World) (c' : Cz) (st' : St) (w' : World) : Prop where
 stays : Stays w w' c.ok c'.ok
 refs : ∀ a j g A', g ≤ genA st a → arr? st' a j g = some A' → ∃ A, arr? st a j g = some A ∧ A'.r.width = A.r.width ∧ A'.xs.length = A.xs.length ∧ c'.lc a j = c.lc a j ∧
   (epO st' a = epO st a → A' = A ∧ ∀ b o cap, c.lc a j = .at b o cap → w'.heap[b]? = w.heap[b]?)
 bxs : ∀ b g cs', g ≤ genB st b → box? st' b g = some cs' → (∃ cs, box? st b g = some cs) ∧ c'.bx b = c.bx b
 gA : ∀ a, genA st a ≤ genA st' a
 gB : ∀ b, genB st b ≤ genB st' b
 gE : ∀ a, epO st a ≤ epO st' a
theorem Fw.relC {c : Cz} {st : St} {w : World} {c' : Cz} {st' : St} {w' : World} (h : Fw c st w c' st' w') {x : CV} {v : Value} (hr : RelC c st w x v) : RelC c' st' w' x v := by
 cases x with
 | bad => trivial
 | int k n => exact hr
 | bool b => exact hr
 | str s => exact hr
 | nils => exact hr
 | nilp => exact hr
 | shr r xs => exact RepTy.stays h.stays _ _ _ hr
 | nn r xs => exact ⟨RepTy.stays h.stays _ _ _ hr.1, hr.2⟩
 | ref a j g vw =>
   refine ⟨hr.1, Nat.le_trans hr.2.1 (h.gA a), fun A' hA' => ?_⟩; obtain ⟨A, hA, hw, hl, hlc, _⟩ := h.refs a j g A' hr.2.1 hA'; have := hr.2.2 A hA; rw [hlc, hw, View.app_length vw A'.xs A.xs hl]; exact this
 | ptr b g off =>
   refine ⟨hr.1, Nat.le_trans hr.2.1 (h.gB b), fun cs hcs => ?_⟩; obtain ⟨⟨cs0, h0⟩, hb⟩ := h.bxs b g cs hr.2.1 hcs; rw [hb]; exact hr.2.2 cs0 h0
 | ept a j g i off =>
   refine ⟨hr.1, Nat.le_trans hr.2.1 (h.gA a), fun A' hA' => ?_⟩; obtain ⟨A, hA, hw, hl, hlc, _⟩ := h.refs a j g A' hr.2.1 hA'; have := hr.2.2 A hA; rw [hlc, hw, hl]; exact this
 | dref a j g e i k q ys =>
   obtain ⟨h1, h2, h3, h4⟩ := hr; refine ⟨h1, Nat.le_trans h2 (h.gA a), Nat.le_trans h3 (h.gE a), fun A' hA' he => ?_⟩; obtain ⟨A, hA, hw, hl, hlc, hs⟩ := h.refs a j g A' h2 hA'; have he' : epO st' a = epO st a := by have := h.gE a; omega
   obtain ⟨rfl, hb⟩ := hs he'; obtain ⟨k1, k2, b, o, cap, k3, k4⟩ := h4 A' hA (by omega); exact ⟨k1, k2, b, o, cap, by rw [hlc]; exact k3, by rw [World.cell?_of_block (w := w) (hb b o cap k3)]; exact k4⟩
 | rpt r x off =>
   obtain ⟨b, o, hv, hb, hok, hx⟩ := hr; exact ⟨b, o, hv, Nat.lt_of_lt_of_le hb h.stays.size, h.stays.ok b hb hok, RepR.stays h.stays r b o x (h.stays.block b hb hok) hx⟩
 | rptl r xs off =>
   obtain ⟨b, o, hv, hb, hok, hx⟩ := hr; exact ⟨b, o, hv, Nat.lt_of_lt_of_le hb h.stays.size, h.stays.ok b hb hok, fun x hx' => RepR.stays h.stays r b o x (h.stays.block b hb hok) (hx x hx')⟩
 | fn g rs xs => exact FnAt.stays h.stays hr
theorem Fw.relL {c : Cz} {st : St} {w : World} {c' : Cz} {st' : St} {w' : World} (h : Fw c st w c' st' w') {cs : List CV} {vs : List Value} (hr : RelL c st w cs vs) : RelL c' st' w' cs vs :=
 ⟨hr.1, fun i x v hx hv => h.relC (hr.2 i x v hx hv)⟩
theorem Fw.relV1 {c : Cz} {st : St} {w : World} {c' : Cz} {st' : St} {w' : World} (h : Fw c st w c' st' w') {x : V} {v : Value} (hr : RelV1 c st w x v) : RelV1 c' st' w' x v := by
 cases x with
 | one x => exact h.relC hr
 | agg cs => obtain ⟨vs, hv, hl⟩ := hr; exact ⟨vs, hv, h.relL hl⟩
 | tup us => exact hr
theorem Fw.relV {c : Cz} {st : St} {w : World} {c' : Cz} {st' : St} {w' : World} (h : Fw c st w c' st' w') {x : V} {v : Value} (hr : RelV c st w x v) : RelV c' st' w' x v := by
 cases x with
 | one x => exact h.relV1 (x := .one x) hr
 | agg cs => exact h.relV1 (x := .agg cs) hr
 | tup us =>
   obtain ⟨vs, hv, hl, he⟩ := hr; exact ⟨vs, hv, hl, fun i x y hx hy => h.relV1 (he i x y hx hy)⟩
theorem Fw.anch {c : Cz} {st : St} {w : World} {c' : Cz} {st' : St} {w' : World} (h : Fw c st w c' st' w') {p : Anc} (hp : AnOk c st p) : AnOk c' st' p := by
 cases p with
 | arr a j g W n l =>
   refine ⟨Nat.le_trans hp.1 (h.gA a), fun A' hA' => ?_⟩; obtain ⟨A, hA, hw, hl, hlc, _⟩ := h.refs a j g A' hp.1 hA'; obtain ⟨h1, h2, h3⟩ := hp.2 A hA; exact ⟨hw.trans h1, hl.trans h2, hlc.trans h3⟩
 | box b g blk =>
   refine ⟨Nat.le_trans hp.1 (h.gB b), fun cs hcs => ?_⟩; obtain ⟨⟨cs0, h0⟩, hb⟩ := h.bxs b g cs hp.1 hcs; exact hb.trans (hp.2 cs0 h0)
theorem ArrOk.go {c c' : Cz} {w w' : World} {s j : Nat} {A : Arr} (h : ArrOk c w s j A) (hs : Stays w w' c.ok c'.ok) (hl : c'.lc s j = c.lc s j)
   (hb : ∀ b, c.own b = some (.sp s j) → w'.heap[b]? = w.heap[b]? ∧ c'.own b = c.own b) : ArrOk c' w' s j A := by
 unfold ArrOk at h ⊢; rw [hl]
 cases hc : c.lc s j with
 | nil => simpa [hc] using h
 | «at» b off cap =>
   rw [hc] at h; obtain ⟨h1, h2, ⟨cur, ty, h3, h4⟩, h5⟩ := h; have hlt : b < w.heap.size := (Array.getElem?_eq_some_iff.1 h3).1; have hwo : w'.heap[b]? = w.heap[b]? ∧ c'.own b = c.own b := by
     cases ho : A.own with
     | true => rw [ho] at h1; exact hb b h1
     | false => rw [ho] at h1; exact ⟨hs.block b hlt h1, (hs.ok b hlt h1 : c'.own b = none).trans h1.symm⟩
   refine ⟨?_, h2, ⟨cur, ty, by rw [hwo.1]; exact h3, h4⟩, h5.go (fun _ => hs) hwo.1 (fun _ k hk => ⟨(hb k hk).1, (hb k hk).2.trans hk⟩)⟩; rw [hwo.2]; exact h1
theorem BoxOk.go {c : Cz} {st : St} {w : World} {c' : Cz} {st' : St} {w' : World} (h : Fw c st w c' st' w') {s : Nat} {cs : List CV} (hb : BoxOk c st w s cs)
   (hx : c'.bx s = c.bx s) (ho : c'.own (c.bx s) = c.own (c.bx s)) (hw : w'.heap[c.bx s]? = w.heap[c.bx s]?) : BoxOk c' st' w' s cs := by
 obtain ⟨h1, vs, ty, h2, h3⟩ := hb; exact ⟨by rw [hx, ho]; exact h1, vs, ty, by rw [hx, hw]; exact h2, h.relL h3⟩
theorem getV_setV (st : St) (d : Option Nat) (v : V) (t : Nat) : getV (setV st d v) t = if d = some t ∧ t < st.length then v else getV st t := by
 cases d with
 | none => simp [setV]
 | some u =>
   unfold getV setV; rw [nth_upd]
   by_cases h : t = u
   · subst h; simp only [if_true, true_and]
     by_cases hl : t < st.length
     · have : nth st t = some st[t] := by rw [nth_eq]; exact List.getElem?_eq_getElem hl
       simp [this, hl]
     · have : nth st t = none := by rw [nth_eq]; exact List.getElem?_eq_none (by omega)
       simp [this, hl]
   · have : ¬ (some u = some t ∧ t < st.length) := by rintro ⟨e, _⟩; exact h (Option.some.inj e).symm
     rw [if_neg h, if_neg this]
theorem nth_setV (st : St) (d : Option Nat) (v : V) (s : Nat) : ∃ f : Sl → Sl, (∀ x, (f x).box = x.box ∧ (f x).bg = x.bg ∧ (f x).arrs = x.arrs ∧ (f x).ag = x.ag ∧ (f x).ep = x.ep) ∧ nth (setV st d v) s = (nth st s).map f := by
 cases d with
 | none => exact ⟨id, fun _ => ⟨rfl, rfl, rfl, rfl, rfl⟩, by simp [setV]⟩
 | some t =>
   unfold setV
   by_cases h : s = t
   · subst h; exact ⟨fun x => { x with v := v }, fun _ => ⟨rfl, rfl, rfl, rfl, rfl⟩, nth_upd_same _ _ _⟩
   · exact ⟨id, fun _ => ⟨rfl, rfl, rfl, rfl, rfl⟩, by simp [nth_upd_ne _ _ h]⟩
theorem arr?_setV (st : St) (d : Option Nat) (v : V) (a j g : Nat) : arr? (setV st d v) a j g = arr? st a j g := by
 obtain ⟨f, hf, hn⟩ := nth_setV st d v a; unfold arr?; rw [hn]
 cases nth st a with
 | none => rfl
 | some s => obtain ⟨_, _, h3, h4, _⟩ := hf s; simp [h3, h4]
theorem box?_setV (st : St) (d : Option Nat) (v : V) (b g : Nat) : box? (setV st d v) b g = box? st b g := by
 obtain ⟨f, hf, hn⟩ := nth_setV st d v b; unfold box?; rw [hn]
 cases nth st b with
 | none => rfl
 | some s => obtain ⟨h1, h2, _, _, _⟩ := hf s; simp [h1, h2]
theorem genA_setV (st : St) (d : Option Nat) (v : V) (a : Nat) : genA (setV st d v) a = genA st a := by
 obtain ⟨f, hf, hn⟩ := nth_setV st d v a; unfold genA; rw [hn]
 cases nth st a with
 | none => rfl
 | some s => exact (hf s).2.2.2.1
theorem epO_setV (st : St) (d : Option Nat) (v : V) (a : Nat) : epO (setV st d v) a = epO st a := by
 obtain ⟨f, hf, hn⟩ := nth_setV st d v a; unfold epO; rw [hn]
 cases nth st a with
 | none => rfl
 | some s => exact (hf s).2.2.2.2
theorem genB_setV (st : St) (d : Option Nat) (v : V) (a : Nat) : genB (setV st d v) a = genB st a := by
 obtain ⟨f, hf, hn⟩ := nth_setV st d v a; unfold genB; rw [hn]
 cases nth st a with
 | none => rfl
 | some s => exact (hf s).2.1
theorem Stays.refl (w : World) (ok : Nat → Prop) : Stays w w ok ok := ⟨Nat.le_refl _, fun _ _ _ => rfl, fun _ _ h => h⟩
theorem Fw.setV (c : Cz) (st : St) (w : World) (d : Option Nat) (v : V) : Fw c st w c (setV st d v) w where
 stays := Stays.refl w _
 refs a j g A' _ h := ⟨A', by rwa [arr?_setV] at h, rfl, rfl, rfl, fun _ => ⟨rfl, fun _ _ _ _ => rfl⟩⟩
 bxs b g cs' _ h := ⟨⟨cs', by rwa [box?_setV] at h⟩, rfl⟩
 gA a := by rw [genA_setV]; exact Nat.le_refl _
 gB a := by rw [genB_setV]; exact Nat.le_refl _
 gE a := by rw [epO_setV]; exact Nat.le_refl _
theorem eval_put (a : Act) (d : Option Tmp) (v : Value) (t : Nat) : (a.put d v).eval (.tmp t) = if d = some t ∧ t < a.tmps.size then v else a.eval (.tmp t) := by
 cases d with
 | none => simp [Act.put]
 | some u =>
   simp only [Act.put, Act.eval, Array.getD_eq_getD_getElem?, Array.getElem?_setIfInBounds]
   by_cases h : u = t
   · subst h
     by_cases hl : u < a.tmps.size <;> simp [hl]
   · have : ¬ (some u = some t ∧ t < a.tmps.size) := by rintro ⟨e, _⟩; exact h (Option.some.inj e)
     rw [if_neg this]; simp [h]
theorem Rel.setV {w0 : World} {mu : Mu} {c : Cz} {st : St} {a : Act} {w : World} (h : Rel w0 mu c st a w) {d : Option Nat} {v : V} {u : Value}
   (hv : RelV c st w v u) (hd : ∀ t, d = some t → t < a.tmps.size) : Rel w0 mu c (setV st d v) (a.put d u) w where
 regs t := by
   have hg := Fw.setV c st w d v; rw [getV_setV, eval_put]
   by_cases hdt : d = some t
   · have := hd t hdt
     by_cases hl : t < st.length
     · rw [if_pos ⟨hdt, hl⟩, if_pos ⟨hdt, this⟩]; exact hg.relV hv
     · have e : getV st t = .one .bad := by
         unfold getV; rw [nth_eq, List.getElem?_eq_none (by omega)]
       rw [if_neg (fun h => hl h.2), e]; trivial
   · rw [if_neg (fun h => hdt h.1), if_neg (fun h => hdt h.1)]; exact hg.relV (h.regs t)
 boxes s sl cs hs hb := by
   obtain ⟨f, hf, hn⟩ := nth_setV st d v s; rw [hn] at hs
   cases hx : nth st s with
   | none => rw [hx] at hs; simp at hs
   | some s0 =>
     rw [hx] at hs; simp at hs; subst hs; rw [(hf s0).1] at hb; exact (h.boxes s s0 cs hx hb).go (Fw.setV c st w d v) rfl rfl rfl
 arrs s j sl A hs hb := by
   obtain ⟨f, hf, hn⟩ := nth_setV st d v s; rw [hn] at hs
   cases hx : nth st s with
   | none => rw [hx] at hs; simp at hs
   | some s0 =>
     rw [hx] at hs; simp at hs; subst hs; rw [(hf s0).2.2.1] at hb; exact h.arrs s j s0 A hx hb
 owned := h.owned
 free := h.free
 kept := h.kept
 old := h.old
 anch p hp := (Fw.setV c st w d v).anch (h.anch p hp)
 plain := by
   have := h.plain
   cases d <;> simpa [Act.put] using this
theorem Rel.arrOf {w0 : World} {mu : Mu} {c : Cz} {st : St} {a : Act} {w : World} (h : Rel w0 mu c st a w) {s j g : Nat} {A : Arr} (hA : arr? st s j g = some A) : ArrOk c w s j A := by
 obtain ⟨sl, h1, _, h3⟩ := arr?_some hA; exact h.arrs s j sl A h1 h3
theorem ArrOk.lt {c : Cz} {w : World} {s j : Nat} {A : Arr} (h : ArrOk c w s j A) {b off cap : Nat} (hl : c.lc s j = .at b off cap) : b < w.heap.size := by
 unfold ArrOk at h; rw [hl] at h; obtain ⟨_, _, ⟨cur, t, h3, _⟩, _⟩ := h; exact (Array.getElem?_eq_some_iff.1 h3).1
end Go.TM
namespace Go.TM
open Go Go.RowKit
def ZeroL : RT → List Value → Prop
 | .nil, vs => vs = []
 | .cons (.int k) r, vs => ∃ l, vs = .int k 0 :: l ∧ ZeroL r l
 | .cons .bool r, vs => ∃ l, vs = .bool false :: l ∧ ZeroL r l
 | .cons .str r, vs => ∃ l, vs = .string ByteArray.empty :: l ∧ ZeroL r l
 | .cons (.sl _) r, vs => ∃ l, vs = .slice none 0 0 :: l ∧ ZeroL r l
def descOf : Ty → TypeDesc → Prop
 | .int k, d => d = .int k
 | .bool, d => d = .bool
 | .str, d => d = .string
 | .sl _, _ => False
structure TabOk (P : Program) (T : Tab) : Prop where
 cells : ∀ t n, T.cells t = some n → (P.info? t).map (·.size) = some n
 agg : ∀ t n, T.cells t = some n → ∃ d, P.underlying t = some d ∧ d.isRow = T.agg t ∧ (T.agg t = false → n = 1)
 off : ∀ t f k, T.off t f = some k → ∃ fs fld n, P.underlying t = some (.struct fs) ∧ fs[f]? = some fld ∧ fld.offset = k ∧ (P.info? fld.type).map (·.size) = some (n + 1)
 bld : ∀ t, T.agg t = true → ∃ fs places, P.underlying t = some (.struct fs) ∧ fs.toList.mapM (fun f => (P.info? f.type).map fun i => (f.offset, i.size)) = some places ∧
   ∀ f o s, T.off t f = some o → T.fsz t f = some s → places[f]? = some (o, s)
 row : ∀ t r, T.row t = some r → ∃ i z, P.info? t = some i ∧ i.zero = some z ∧ ZeroL r z.cells.toList
 elem : ∀ t r b, T.elem t = some (r, b) → ∃ e i z, P.underlying t = some (.slice e) ∧ P.info? e = some i ∧ i.size = r.width ∧ 0 < r.width ∧ i.bytes = b ∧ 0 < b ∧ i.zero = some z ∧ ZeroL r z.cells.toList
 u8 : ∀ t e b, T.elem t = some (.cons (.int .u8) .nil, b) → P.underlying t = some (.slice e) → P.underlying e = some (.int .u8)
 kind : ∀ t y, T.kind t = some y → ∃ d, P.underlying t = some d ∧ descOf y d
 one : ∀ t f, T.one t f = true → ∃ fs fld d, P.underlying t = some (.struct fs) ∧ fs[f]? = some fld ∧ P.underlying fld.type = some d ∧ d.isRow = false
theorem RelC.one {c : Cz} {st : St} {w : World} {x : CV} {v : Value} (h : RelC c st w x v) (hs : x.solid = true) : v.oneCell' = true := by
 cases x with
 | bad => simp [CV.solid] at hs
 | int k n => simp only [RelC] at h; subst h; rfl
 | bool b => simp only [RelC] at h; subst h; rfl
 | str s => simp only [RelC] at h; subst h; rfl
 | nils => simp only [RelC] at h; subst h; rfl
 | nilp => simp only [RelC] at h; subst h; rfl
 | shr r xs =>
   rcases (repSl _ _ _ _ _).1 h with ⟨rfl, _⟩ | ⟨a, cap, rfl, _⟩ <;> rfl
 | nn r xs =>
   rcases (repSl _ _ _ _ _).1 h.1 with ⟨rfl, _⟩ | ⟨a, cap, rfl, _⟩ <;> rfl
 | ref a j g vw => exact h.1
 | ptr b g off => exact h.1
 | ept a j g i off => exact h.1
 | rpt r x off => obtain ⟨b, o, rfl, _⟩ := h; rfl
 | rptl r x off => obtain ⟨b, o, rfl, _⟩ := h; rfl
 | fn g rs xs => obtain ⟨caps, rfl, _⟩ := h; rfl
 | dref a j g e i k q ys => exact h.1
theorem cells_one {v : Value} (h : v.oneCell' = true) : v.cells = #[v] := by cases v <;> first | rfl | simp [Value.oneCell'] at h
theorem RelV.cells {c : Cz} {st : St} {w : World} {x : V} {v : Value} (h : RelV c st w x v) (hs : x.solid = true) :
   RelL c st w x.cells v.cells.toList ∧ ∀ u ∈ v.cells.toList, u.oneCell' = true := by
 cases x with
 | one x =>
   have h1 : v.oneCell' = true := RelC.one (x := x) h hs; rw [cells_one h1]; refine ⟨⟨rfl, fun i y u hy hu => ?_⟩, fun u hu => by simp at hu; rw [hu]; exact h1⟩
   cases i with
   | zero => simp [V.cells] at hy hu; rw [← hy, ← hu]; exact h
   | succ i => simp [V.cells] at hy
 | agg cs =>
   obtain ⟨vs, rfl, hl⟩ := h; refine ⟨hl, fun u hu => ?_⟩; obtain ⟨i, hi, hu⟩ := List.mem_iff_getElem.1 hu; have hi' : i < cs.length := by rw [hl.1]; exact hi
   have := hl.2 i cs[i] u (List.getElem?_eq_getElem hi') (by rw [← hu]; exact List.getElem?_eq_getElem hi); exact this.one (List.all_eq_true.1 hs _ (List.getElem_mem hi'))
 | tup us => simp [V.solid] at hs
def Cz.newBox (c : Cz) (d b : Nat) : Cz :=
 { bx := fun s => if s = d then b else c.bx s, lc := c.lc, own := fun k => if k = b then some (.box d) else c.own k }
theorem stays_alloc (w : World) (o : Obj) (ok ok' : Nat → Prop) (h : ∀ b, b < w.heap.size → ok b → ok' b) : Stays w (w.alloc o) ok ok' where
 size := by simp
 block b hb _ := heap_alloc_old w o b hb
 ok := h
theorem Rel.own_lt {w0 : World} {mu : Mu} {c : Cz} {st : St} {a : Act} {w : World} (h : Rel w0 mu c st a w) {b : Nat} {l : Lb} (hb : c.own b = some l) : b < w.heap.size := (h.owned b l hb).1
theorem Rel.newBox {w0 : World} {mu : Mu} {c : Cz} {st : St} {a : Act} {w : World} (h : Rel w0 mu c st a w) {d : Nat} {s0 : Sl} {cs : List CV} {vs : Array Value} {ty : TypeId}
   (hs0 : nth st d = some s0) (hd : d < a.tmps.size) (hl : RelL c st w cs vs.toList) :
   Rel w0 mu (c.newBox d w.heap.size) (upd (fun s => { s with v := .one (.ptr d (s0.bg + 1) 0), box := some cs, bg := s0.bg + 1 }) st d)
     (a.put (some d) (.pointer (some ⟨w.heap.size, 0, none⟩))) (w.alloc (.cells vs ty (0, 0))) := by
 have hn : ∀ s, nth (upd (fun s => { s with v := .one (.ptr d (s0.bg + 1) 0), box := some cs, bg := s0.bg + 1 }) st d) s =
     if s = d then some { s0 with v := .one (.ptr d (s0.bg + 1) 0), box := some cs, bg := s0.bg + 1 } else nth st s := by
   intro s; rw [nth_upd]
   by_cases e : s = d
   · subst e; simp [hs0]
   · simp [e]
 generalize upd (fun s => { s with v := .one (.ptr d (s0.bg + 1) 0), box := some cs, bg := s0.bg + 1 }) st d = st' at hn ⊢; have hok : ∀ b, b < w.heap.size → c.ok b → (c.newBox d w.heap.size).ok b := by
   intro b hb hc; unfold Cz.ok Cz.newBox; simp only [if_neg (show b ≠ w.heap.size by omega)]; exact hc
 have hA : ∀ a' j g, arr? st' a' j g = arr? st a' j g := by
   intro a' j g; unfold arr?; rw [hn]
   by_cases e : a' = d
   · subst e; simp [hs0]
   · simp [e]
 have hgA : ∀ a', genA st' a' = genA st a' := by
   intro a'; unfold genA; rw [hn]
   by_cases e : a' = d
   · subst e; simp [hs0]
   · simp [e]
 have hfw : Fw c st w (c.newBox d w.heap.size) st' (w.alloc (.cells vs ty (0, 0))) := {
   stays := stays_alloc w _ _ _ hok
   refs := fun a' j g A' _ hA' => ⟨A', by rw [← hA]; exact hA', rfl, rfl, rfl, fun _ => ⟨rfl, fun b o cap hlc => by
     exact heap_alloc_old w _ b ((h.arrOf (g := g) (by rw [← hA]; exact hA')).lt hlc)⟩⟩
   bxs := fun b g cs' hg hb => by
     unfold box? at hb ⊢; rw [hn] at hb
     by_cases e : b = d
     · subst e; simp only [if_true] at hb; unfold genB at hg; rw [hs0] at hg; have : Nat.beq (s0.bg + 1) g = false := by
         cases hq : Nat.beq (s0.bg + 1) g
         · rfl
         · have := Nat.eq_of_beq_eq_true hq; simp at hg; omega
       simp [this] at hb
     · simp only [e, if_false] at hb; exact ⟨⟨cs', hb⟩, by simp [Cz.newBox, e]⟩
   gA := fun a' => by rw [hgA]; exact Nat.le_refl _
   gB := fun b => by
     unfold genB; rw [hn]
     by_cases e : b = d
     · subst e; simp [hs0]
     · simp [e]
   gE := fun a' => by
     unfold epO; rw [hn]
     by_cases e : a' = d
     · subst e; simp [hs0]
     · simp [e] }
 exact {
   regs := fun t => by
     have e1 : getV st' t = if t = d then .one (.ptr d (s0.bg + 1) 0) else getV st t := by
       unfold getV; rw [hn]
       by_cases e : t = d <;> simp [e]
     rw [e1, eval_put]
     by_cases e : t = d
     · subst e; simp only [if_true, true_and, hd]; refine ⟨rfl, ?_, fun cs' hcs' => by simp [Cz.newBox]⟩; unfold genB; rw [hn]; simp
     · simp only [e, if_false]; rw [if_neg (fun h => e (Option.some.inj h.1).symm)]; exact hfw.relV (h.regs t)
   boxes := fun s sl cs' hs hb => by
     rw [hn] at hs
     by_cases e : s = d
     · subst e; simp only [if_true, Option.some.injEq] at hs; subst hs; simp only [Option.some.injEq] at hb; subst hb; exact ⟨by simp [Cz.newBox], vs, ty, by simp only [Cz.newBox, if_true]; exact heap_alloc_new w _, hfw.relL hl⟩
     · simp only [e, if_false] at hs; have hb0 := h.boxes s sl cs' hs hb; have hlt := h.own_lt hb0.1; exact hb0.go hfw (by simp [Cz.newBox, e]) (by simp only [Cz.newBox]; rw [if_neg (by omega)]) (heap_alloc_old w _ _ hlt)
   arrs := fun s j sl A hs hA' => by
     rw [hn] at hs; have ha : ArrOk c w s j A := by
       by_cases e : s = d
       · subst e; simp only [if_true, Option.some.injEq] at hs; subst hs; exact h.arrs s j s0 A hs0 hA'
       · simp only [e, if_false] at hs; exact h.arrs s j sl A hs hA'
     refine ha.go hfw.stays rfl (fun b hb => ?_); have hlt : b < w.heap.size := h.own_lt hb; exact ⟨heap_alloc_old w _ b hlt, by simp only [Cz.newBox]; rw [if_neg (by omega)]⟩
   owned := fun b l hb => by
     simp only [Cz.newBox] at hb
     by_cases e : b = w.heap.size
     · subst e; exact ⟨by simp, .inr (.inl h.kept.2.2.2)⟩
     · rw [if_neg e] at hb; have := h.owned b l hb; exact ⟨Nat.lt_of_lt_of_le this.1 (by simp), this.2⟩
   free := fun b hb h1 => by
     simp only [Cz.newBox] at h1
     by_cases e : b = w.heap.size
     · rw [if_pos e] at h1; cases h1
     · rw [if_neg e] at h1; exact h.free b hb h1
   kept := ⟨h.kept.1, h.kept.2.1, h.kept.2.2.1, Nat.le_trans h.kept.2.2.2 (by simp)⟩
   old := fun k hk hm => by
     rw [heap_alloc_old w _ k (Nat.lt_of_lt_of_le hk h.kept.2.2.2)]; exact h.old k hk hm
   anch := fun p hp => hfw.anch (h.anch p hp)
   plain := h.plain }
end Go.TM
namespace Go.TM
open Go Go.RowKit
theorem opd_rel {w0 : World} {mu : Mu} {c : Cz} {st : St} {a : Act} {w : World} (h : Rel w0 mu c st a w) (x : Operand) : RelV c st w (opd st x) (a.eval x) := by
 unfold opd
 split <;> first | exact h.regs _ | rfl | trivial
theorem RelL.take {c : Cz} {st : St} {w : World} {cs : List CV} {vs : List Value} (h : RelL c st w cs vs) (off n : Nat) : RelL c st w ((cs.drop off).take n) ((vs.drop off).take n) := by
 refine ⟨by simp [h.1], fun i x v hx hv => ?_⟩; rw [List.getElem?_take] at hx hv
 by_cases hi : i < n
 · rw [if_pos hi, List.getElem?_drop] at hx hv; exact h.2 _ x v hx hv
 · rw [if_neg hi] at hx; simp at hx
theorem takeCells_some {n off : Nat} {cs l : List CV} (h : takeCells n off cs = some l) : l = (cs.drop off).take n ∧ l.length = n := by
 unfold takeCells at h; obtain ⟨h1, h2⟩ := bif_some h; have := Option.some.inj h2; subst this; exact ⟨rfl, Nat.eq_of_beq_eq_true h1⟩
def valOf (agg : Bool) (vs : List Value) : Value := if agg then .agg vs.toArray else vs.headD undef
theorem run_loadVar_cells {P : Program} {T : Tab} (hT : TabOk P T) {t n : Nat} (ht : T.cells t = some n) (w : World) (b o : Nat) (vs : List Value) (hv : w.rangeAt b o vs) (hn : vs.length = n) :
   (loadVar t ⟨b, o, none⟩).run P w = .ok (valOf (T.agg t) vs) w := by
 obtain ⟨d, hu, hd, h1⟩ := hT.agg t n ht
 cases hg : T.agg t with
 | true =>
   rw [hg] at hd; have := run_loadVar_mid (P := P) w b o t vs d hv hu hd (by rw [hT.cells t n ht, hn]); simpa [valOf] using this
 | false =>
   have hn1 := h1 hg; obtain ⟨v, rfl⟩ : ∃ v, vs = [v] := by
     cases vs with
     | nil => simp at hn; omega
     | cons v l => cases l with
       | nil => exact ⟨v, rfl⟩
       | cons _ _ => simp at hn; omega
   have hagg : (isAgg t).run P w = .ok false w := by
     unfold isAgg; rw [Sem.run_bind, run_underlying hu w]; rw [hg] at hd
     cases d <;> simp_all [TypeDesc.isRow]
   have hc : w.cell? ⟨b, o, none⟩ = some v := by have := hv 0 v rfl; simpa using this
   simp [loadVar, Sem.run_bind, hagg, valOf, run_load, hc]
theorem mkV_rel {c : Cz} {st : St} {w : World} {T : Tab} {t : Nat} {l : List CV} {vs : List Value} (h : RelL c st w l vs) (h1 : T.agg t = false → l.length = 1) :
   RelV c st w (mkV T t l) (valOf (T.agg t) vs) := by
 unfold mkV valOf
 cases hg : T.agg t with
 | true => exact ⟨vs.toArray, rfl, by simpa using h⟩
 | false =>
   have hl := h1 hg
   cases l with
   | nil => simp at hl
   | cons x l => cases l with
     | cons _ _ => simp at hl
     | nil => cases vs with
       | nil => have := h.1; simp at this
       | cons v vs => exact h.2 0 x v rfl rfl
theorem rangeAt_box {w : World} {b off : Nat} {vs : Array Value} {ty : TypeId} {fr : Nat × Nat} (h : w.heap[b]? = some (.cells vs ty fr)) (n : Nat) : w.rangeAt b off ((vs.toList.drop off).take n) := by
 intro j v hv; rw [cell_of_row w b (off + j) vs ty fr h]; rw [List.getElem?_take] at hv
 by_cases hj : j < n
 · rw [if_pos hj, List.getElem?_drop] at hv; simpa using hv
 · rw [if_neg hj] at hv; simp at hv
theorem repR_cells {w : World} {c : Cz} {st : St} : (r : RT) → (b off : Nat) → (x : denR r) → RepR w c.ok r b off x →
   ∃ vs, vs.length = r.width ∧ w.rangeAt b off vs ∧ RelL c st w (rowCells r x) vs
 | .nil, _, _, _, _ => ⟨[], rfl, fun j v h => by simp at h, rfl, fun i x v h => by simp [rowCells] at h⟩
 | .cons t r, b, off, x, h => by
   unfold RepR at h; obtain ⟨⟨v, hv, hx⟩, hr⟩ := h; obtain ⟨vs, h1, h2, h3, h4⟩ := repR_cells r b (off + 1) x.2 hr; refine ⟨v :: vs, by simp [RT.width, h1], fun j u hu => ?_, by simp [rowCells, h3], fun i y u hy hu => ?_⟩
   · cases j with
     | zero => simp at hu; rw [← hu]; exact hv
     | succ j =>
       simp at hu; have := h2 j u hu; rw [show off + (j + 1) = off + 1 + j by omega]; exact this
   · cases i with
     | zero =>
       simp [rowCells] at hy hu; subst hy hu
       cases t with
       | int k => unfold RepTy at hx; exact hx
       | bool => unfold RepTy at hx; exact hx
       | str => unfold RepTy at hx; exact hx
       | sl q => exact hx
     | succ i =>
       simp [rowCells] at hy hu; exact h4 i y u hy hu
theorem depR_cells {w : World} {P : List Nat → Nat → Prop} {c : Cz} {st : St} {a j g e i : Nat} {A : Arr} {x0 : denR A.r} {bb o cap : Nat} (hA : arr? st a j g = some A) (he : e = epO st a) (hg : g ≤ genA st a) (hm : A.md = .dp) (hx0 : A.xs[i]? = some x0) (hlc : c.lc a j = .at bb o cap) :
   (r : RT) → (p : List Nat) → (k : Nat) → (x : denR r) → (∀ k', rowSl r x k' = rowSl A.r x0 (k + k')) → DepR w P r p k bb (o + i * A.r.width + k) x →
   ∃ vs, vs.length = r.width ∧ w.rangeAt bb (o + i * A.r.width + k) vs ∧ RelL c st w (dpCells a j g e i k r x) vs
 | .nil, _, _, _, _, _ => ⟨[], rfl, fun j v h => by simp at h, rfl, fun i x v h => by simp [dpCells] at h⟩
 | .cons t r, p, k, x, hs, h => by
   unfold DepR at h; obtain ⟨⟨v, hv, hx⟩, hr⟩ := h; obtain ⟨vs, h1, h2, h3, h4⟩ := depR_cells hA he hg hm hx0 hlc r p (k + 1) x.2 (fun k' => by
     rw [show k + 1 + k' = k + (k' + 1) by omega, ← hs]
     cases t <;> rfl) (by rw [show o + i * A.r.width + (k + 1) = o + i * A.r.width + k + 1 by omega]; exact hr)
   refine ⟨v :: vs, by simp [RT.width, h1], fun j u hu => ?_, by simp [dpCells, h3], fun i' y u hy hu => ?_⟩
   · cases j with
     | zero => simp at hu; rw [← hu]; exact hv
     | succ j =>
       simp at hu; have := h2 j u hu; rw [show o + i * A.r.width + k + (j + 1) = o + i * A.r.width + (k + 1) + j by omega]; exact this
   · cases i' with
     | zero =>
       simp [dpCells] at hy hu; subst hy hu
       cases t with
       | int k => exact depInt.1 hx
       | bool => exact depBool.1 hx
       | str => exact depStr.1 hx
       | sl q =>
         have hx := (depSl _ _ _ _ _ _).1 hx; obtain ⟨lc, _, q1, _⟩ := hx; refine ⟨q1, hg, by rw [he]; exact Nat.le_refl _, fun A' hA' _ => ?_⟩; rw [hA] at hA'; cases hA'; refine ⟨hm, ⟨x0, hx0, ?_⟩, bb, o, cap, hlc, hv⟩; have := hs 0; rw [Nat.add_zero] at this; rw [← this]; rfl
     | succ i' =>
       simp [dpCells] at hy hu; exact h4 i' y u hy hu
theorem rangeAt_sub {w : World} {b off : Nat} {vs : List Value} (h : w.rangeAt b off vs) (k n : Nat) : w.rangeAt b (off + k) ((vs.drop k).take n) := by
 intro j v hv; rw [List.getElem?_take] at hv
 by_cases hj : j < n
 · rw [if_pos hj, List.getElem?_drop] at hv; rw [Nat.add_assoc]; exact h _ v hv
 · rw [if_neg hj] at hv; simp at hv
def Keep (w w' : World) : Prop := w.heap.size ≤ w'.heap.size ∧ ∀ b, b < w.heap.size → w'.heap[b]? = w.heap[b]?
theorem Keep.refl (w : World) : Keep w w := ⟨Nat.le_refl _, fun _ _ => rfl⟩
theorem Keep.trans {w w' w'' : World} (h : Keep w w') (h' : Keep w' w'') : Keep w w'' :=
 ⟨Nat.le_trans h.1 h'.1, fun b hb => (h'.2 b (Nat.lt_of_lt_of_le hb h.1)).trans (h.2 b hb)⟩
theorem Keep.alloc (w : World) (b : Obj) : Keep w (w.alloc b) := ⟨by simp, fun k hk => heap_alloc_old w b k hk⟩
theorem Keep.range {w w' : World} (h : Keep w w') {b o : Nat} {vs : List Value} (hr : w.rangeAt b o vs) : w'.rangeAt b o vs := by
 intro j v hj; have h1 := hr j v hj; rw [World.cell?_of_block (w := w) (h.2 b (cell_lt h1))]; exact h1
theorem loadN_ok {P : Program} {T : Tab} (hT : TabOk P T) {w0 : World} {mu : Mu} {c : Cz} {st : St} {a : Act} {w : World} (h : Rel w0 mu c st a w)
   {d : Option Nat} {t : Nat} {x : V} {u : Value} (hx : RelV c st w x u) {st' : St} (hv : (loadN T st d t x).val = some st') (hd : ∀ k, d = some k → k < a.tmps.size) :
   ∃ v, (∀ w' : World, Keep w w' → (Instr.loadAt t u).run P w' = .ok v w') ∧ Rel w0 mu c st' (a.put d v) w := by
 have key : ∀ (b o n : Nat) (l : List CV) (vs : List Value), T.cells t = some n → u = .pointer (some ⟨b, o, none⟩) → w.rangeAt b o vs → vs.length = n → RelL c st w l vs →
     (N.done (TM.setV st d (mkV T t l))).val = some st' → ∃ v, (∀ w' : World, Keep w w' → (Instr.loadAt t u).run P w' = .ok v w') ∧ Rel w0 mu c st' (a.put d v) w := by
   intro b o n l vs hn hu hr hlen hl hst; simp only [N.val, Option.some.injEq] at hst; subst hst; obtain ⟨dd, _, _, h1⟩ := hT.agg t n hn; refine ⟨valOf (T.agg t) vs, fun w' hk => ?_, h.setV (mkV_rel hl (fun hg => by rw [hl.1, hlen]; exact h1 hg)) hd⟩; subst hu; have hr' : w'.rangeAt b o vs := hk.range hr; simp only [Instr.loadAt, Instr.sureAddr, Sem.run_bind, Sem.run_pure, Result.andThen_ok, run_loadVar_cells hT hn w' b o vs hr' hlen]
 cases hn : T.cells t with
 | none => cases x with
   | one y => cases y <;> simp [loadN, hn, N.val] at hv
   | agg _ => simp [loadN, N.val] at hv
   | tup _ => simp [loadN, N.val] at hv
 | some n => cases x with
   | agg _ => simp [loadN, N.val] at hv
   | tup _ => simp [loadN, N.val] at hv
   | one y => cases y with
     | bad | int _ _ | bool _ | str _ | nils | nilp | shr _ _ | nn _ _ | ref _ _ _ _ | fn _ _ _ | dref _ _ _ _ _ _ _ _ => simp [loadN, N.val] at hv
     | ptr b g off =>
       simp only [loadN, hn] at hv
       cases hb : box? st b g with
       | none => simp [hb, N.val] at hv
       | some cs =>
         simp only [hb] at hv
         cases htk : takeCells n off cs with
         | none => simp [htk, N.val] at hv
         | some l =>
           simp only [htk] at hv; obtain ⟨rfl, hlen⟩ := takeCells_some htk; obtain ⟨sl, hs1, hs2, hs3⟩ := box?_some hb; obtain ⟨ho, vs, ty, hh, hl⟩ := h.boxes b sl cs hs1 hs3; have hu := hx.2.2 cs hb; refine key _ _ n _ ((vs.toList.drop off).take n) hn hu (rangeAt_box hh n) ?_ (hl.take off n) hv; rw [← (hl.take off n).1]; exact hlen
     | rpt r y off =>
       simp only [loadN, hn] at hv
       cases htk : takeCells n off (rowCells r y) with
       | none => simp [htk, N.val] at hv
       | some l =>
         simp only [htk] at hv; obtain ⟨rfl, hlen⟩ := takeCells_some htk; obtain ⟨b, o, hu, hlt, hok, hrep⟩ := hx; obtain ⟨vs, h1, h2, h3⟩ := repR_cells (st := st) r b o y hrep; refine key _ _ n _ ((vs.drop off).take n) hn hu (rangeAt_sub h2 off n) ?_ (h3.take off n) hv; rw [← (h3.take off n).1]; exact hlen
     | rptl r ys off =>
       simp only [loadN, hn] at hv
       cases hy : ys[0]? with
       | none => simp [hy, N.val] at hv
       | some y =>
       simp only [hy] at hv; change (match takeCells n off (rowCells r y) with | some l => N.done (TM.setV st d (mkV T t l)) | none => N.fail).val = some st' at hv
       cases htk : takeCells n off (rowCells r y) with
       | none => simp [htk, N.val] at hv
       | some l =>
         simp only [htk] at hv; obtain ⟨rfl, hlen⟩ := takeCells_some htk; obtain ⟨b, o, hu, hlt, hok, hrep⟩ := hx; obtain ⟨vs, h1, h2, h3⟩ := repR_cells (st := st) r b o y (hrep y hy); refine key _ _ n _ ((vs.drop off).take n) hn hu (rangeAt_sub h2 off n) ?_ (h3.take off n) hv; rw [← (h3.take off n).1]; exact hlen
     | ept a' j g i off =>
       simp only [loadN, hn] at hv
       cases hA : arr? st a' j g with
       | none => simp [hA, N.val] at hv
       | some A =>
         simp only [hA] at hv; obtain ⟨sl, hs1, hs2, hs3⟩ := arr?_some hA; have hao := h.arrs a' j sl A hs1 hs3; obtain ⟨hi, b, o, cap, hlc, hu⟩ := hx.2.2 A hA; unfold ArrOk at hao; rw [hlc] at hao; obtain ⟨_, _, _, hrow⟩ := hao
         cases hm : A.md with
         | ho _ => rw [hm] at hv; simp [N.val] at hv
         | sh =>
           rw [hm] at hv; simp only at hv
           cases hxi : A.xs[i]? with
           | none => simp [hxi, N.val] at hv
           | some y =>
             simp only [hxi] at hv; change (match takeCells n off (rowCells A.r y) with | some l => N.done (TM.setV st d (mkV T t l)) | none => N.fail).val = some st' at hv
             cases htk : takeCells n off (rowCells A.r y) with
             | none => simp [htk, N.val] at hv
             | some l =>
               simp only [htk] at hv; obtain ⟨rfl, hlen⟩ := takeCells_some htk; obtain ⟨vs, h1, h2, h3⟩ := repR_cells (st := st) A.r b _ y ((RowsOk.sh hm).1 hrow i y hxi); refine key _ _ n _ ((vs.drop off).take n) hn hu (rangeAt_sub h2 off n) ?_ (h3.take off n) hv; rw [← (h3.take off n).1]; exact hlen
         | dp =>
           rw [hm] at hv; simp only at hv
           cases hxi : A.xs[i]? with
           | none => simp [hxi, N.val] at hv
           | some y =>
             simp only [hxi] at hv; change (match takeCells n off (dpCells a' j g (epO st a') i 0 A.r y) with | some l => N.done (TM.setV st d (mkV T t l)) | none => N.fail).val = some st' at hv
             cases htk : takeCells n off (dpCells a' j g (epO st a') i 0 A.r y) with
             | none => simp [htk, N.val] at hv
             | some l =>
               simp only [htk] at hv; obtain ⟨rfl, hlen⟩ := takeCells_some htk; unfold RowsOk at hrow; rw [hm] at hrow; obtain ⟨gg, _, hrow⟩ := hrow; obtain ⟨vs, h1, h2, h3⟩ := depR_cells (st := st) hA rfl hx.2.1 hm hxi hlc A.r _ 0 y (fun k' => by rw [Nat.zero_add]) (hrow i y hxi); rw [Nat.add_zero] at h2; refine key _ _ n _ ((vs.drop off).take n) hn hu (rangeAt_sub h2 off n) ?_ (h3.take off n) hv; rw [← (h3.take off n).1]; exact hlen
end Go.TM
namespace Go.TM
open Go Go.RowKit
def RepVs (w : World) (ok : Nat → Prop) : (r : RT) → List Value → denR r → Prop
 | .nil, vs, _ => vs = []
 | .cons t r, vs, x => ∃ v l, vs = v :: l ∧ RepTy w ok t v x.1 ∧ RepVs w ok r l x.2
theorem RepVs.length {w : World} {ok : Nat → Prop} : (r : RT) → (vs : List Value) → (x : denR r) → RepVs w ok r vs x → vs.length = r.width
 | .nil, vs, _, h => by simp only [RepVs] at h; subst h; rfl
 | .cons t r, vs, x, h => by
   obtain ⟨v, l, rfl, _, h⟩ := h; simp [RT.width, RepVs.length r l x.2 h]
theorem repR_iff {w : World} {ok : Nat → Prop} : (r : RT) → (b off : Nat) → (x : denR r) → (RepR w ok r b off x ↔ ∃ vs, w.rangeAt b off vs ∧ RepVs w ok r vs x)
 | .nil, _, _, _ => by
   unfold RepR; exact ⟨fun _ => ⟨[], fun j v h => by simp at h, rfl⟩, fun _ => trivial⟩
 | .cons t r, b, off, x => by
   unfold RepR
   constructor
   · rintro ⟨⟨v, hv, hx⟩, hr⟩
     obtain ⟨vs, h1, h2⟩ := (repR_iff r b (off + 1) x.2).1 hr; refine ⟨v :: vs, fun j u hu => ?_, v, vs, rfl, hx, h2⟩
     cases j with
     | zero => simp at hu; rw [← hu]; exact hv
     | succ j =>
       simp at hu; rw [show off + (j + 1) = off + 1 + j by omega]; exact h1 j u hu
   · rintro ⟨vs, h1, v, l, rfl, hx, h2⟩
     refine ⟨⟨v, h1 0 v rfl, hx⟩, (repR_iff r b (off + 1) x.2).2 ⟨l, fun j u hu => ?_, h2⟩⟩; have := h1 (j + 1) u (by simpa using hu); rw [show off + 1 + j = off + (j + 1) by omega]; exact this
theorem RepVs.stays {w w' : World} {ok ok' : Nat → Prop} (h : Stays w w' ok ok') : (r : RT) → (vs : List Value) → (x : denR r) → RepVs w ok r vs x → RepVs w' ok' r vs x
 | .nil, _, _, hr => hr
 | .cons t r, _, x, ⟨v, l, e, hx, hr⟩ => ⟨v, l, e, RepTy.stays h t v x.1 hx, RepVs.stays h r l x.2 hr⟩
theorem rowSet_rep {w : World} {c : Cz} {st : St} : (r : RT) → (x : denR r) → (k : Nat) → (y : CV) → (z : denR r) → (vs : List Value) → (u : Value) →
   rowSet r x k y = some z → RelC c st w y u → RepVs w c.ok r vs x → RepVs w c.ok r (vs.set k u) z
 | .nil, _, _, _, _, _, _, h, _, _ => by simp [rowSet] at h
 | .cons t r, x, 0, y, z, vs, u, h, hu, hv => by
   obtain ⟨v, l, rfl, hx, hr⟩ := hv
   cases t with
   | int k => cases y <;> simp [rowSet] at h
              obtain ⟨rfl, h⟩ := h; obtain rfl := Option.some.inj h; refine ⟨u, l, rfl, ?_, hr⟩; unfold RepTy; exact hu
   | bool => cases y <;> simp [rowSet] at h
             obtain rfl := Option.some.inj h; refine ⟨u, l, rfl, ?_, hr⟩; unfold RepTy; exact hu
   | str => cases y <;> simp [rowSet] at h
            obtain rfl := Option.some.inj h; refine ⟨u, l, rfl, ?_, hr⟩; unfold RepTy; exact hu
   | sl q => cases y <;> simp [rowSet] at h
 | .cons t r, x, k + 1, y, z, vs, u, h, hu, hv => by
   obtain ⟨v, l, rfl, hx, hr⟩ := hv; have h' : (rowSet r x.2 k y).map (fun z => ((x.1, z) : denR (.cons t r))) = some z := by cases t <;> (simp only [rowSet] at h; exact h)
   cases hq : rowSet r x.2 k y with
   | none => simp [hq] at h'
   | some z' =>
     rw [hq] at h'; obtain rfl := Option.some.inj h'; exact ⟨v, l.set k u, rfl, hx, rowSet_rep r x.2 k y z' l u hq hu hr⟩
def splice (vs : List Value) (off : Nat) (us : List Value) : List Value := vs.take off ++ us ++ vs.drop (off + us.length)
theorem splice_cons {vs : List Value} {off : Nat} {u : Value} {us : List Value} (h : off < vs.length) : splice vs off (u :: us) = (splice vs (off + 1) us).set off u := by
 unfold splice; apply List.ext_getElem?; intro k; simp only [List.getElem?_set, List.getElem?_append, List.length_append, List.length_take, List.length_cons, List.getElem?_drop, List.getElem?_cons]
 by_cases h1 : k < off
 · have a1 : min off vs.length = off := by omega
   have a2 : min (off + 1) vs.length = off + 1 := by omega
   have a3 : off ≠ k := by omega
   simp only [a1, a2, a3, if_false, h1, show k < off + (us.length + 1) by omega, show k < off + 1 + us.length by omega, show k < off + 1 by omega, if_true, List.getElem?_take]
 · by_cases h2 : k = off
   · subst h2; have a1 : min k vs.length = k := by omega
     have a2 : min (k + 1) vs.length = k + 1 := by omega
     have a3 : min k vs.length - k = 0 := by omega
     simp [a1, a2, h]; omega
   · have a1 : min off vs.length = off := by omega
     have a2 : min (off + 1) vs.length = off + 1 := by omega
     obtain ⟨m, rfl⟩ : ∃ m, k = off + 1 + m := ⟨k - (off + 1), by omega⟩; have a3 : off ≠ off + 1 + m := by omega
     simp only [a1, a2, a3, if_false, show ¬ off + 1 + m < off by omega, show off + 1 + m - off = m + 1 by omega, show ¬ off + 1 + m < off + 1 by omega, show off + 1 + m - (off + 1) = m by omega,
       Nat.add_one_ne_zero, Nat.add_sub_cancel]
     by_cases h3 : m < us.length
     · rw [if_pos (by omega), if_pos (by omega)]
     · rw [if_neg (by omega), if_neg (by omega)]
       congr 1
       omega
theorem splice_length {vs : List Value} {off : Nat} {us : List Value} (h : off + us.length ≤ vs.length) : (splice vs off us).length = vs.length := by
 unfold splice; simp; omega
theorem rowPut_rep {w : World} {c : Cz} {st : St} (r : RT) (x : denR r) : (off : Nat) → (cs : List CV) → (z : denR r) → (vs us : List Value) → off + us.length ≤ vs.length →
   rowPut r x off cs = some z → RelL c st w cs us → RepVs w c.ok r vs x → RepVs w c.ok r (splice vs off us) z
 | off, [], z, vs, us, _, h, hl, hv => by
   have : us = [] := by have := hl.1; simp at this; exact List.length_eq_zero_iff.1 this.symm
   subst this; simp [rowPut] at h; subst h; simp [splice]; exact hv
 | off, y :: l, z, vs, us, hle, h, hl, hv => by
   cases us with
   | nil => have := hl.1; simp at this
   | cons u us =>
     simp only [rowPut] at h
     cases hq : rowPut r x (off + 1) l with
     | none => simp [hq] at h
     | some y' =>
       simp only [hq] at h; simp at hle; have ih := rowPut_rep r x (off + 1) l y' vs us (by omega) hq ⟨by have := hl.1; simpa using this, fun i a b ha hb => hl.2 (i + 1) a b (by simpa using ha) (by simpa using hb)⟩ hv; rw [splice_cons (by omega)]; exact rowSet_rep r y' off y z _ u h (hl.2 0 y u rfl rfl) ih
theorem stays_setRow {w : World} {c : Cz} {b : Nat} {l : Lb} (hb : c.own b = some l) (cur : Array Value) : Stays w (w.setRow b cur) c.ok c.ok where
 size := by simp [World.setRow]
 block k _ hk := setRow_other w b k cur (fun e => by subst e; unfold Cz.ok at hk; rw [hb] at hk; cases hk)
 ok _ _ h := h
theorem run_storeAt {P : Program} {T : Tab} (hT : TabOk P T) {t n : Nat} (ht : T.cells t = some n) (w : World) (b o : Nat) (v : Value) (hn : v.cells.toList.length = n) (h1 : ∀ u ∈ v.cells.toList, u.oneCell' = true)
   {cur : Array Value} {ty : TypeId} (hg : w.heap[b]? = some (.cells cur ty (0, 0))) (hle : o + n ≤ cur.size) :
   (Instr.storeAt t (.pointer (some ⟨b, o, none⟩)) v).run P w = .ok () (w.setRow b (splice cur.toList o v.cells.toList).toArray) := by
 have hs := run_storeCells_at P b o ty v.cells.toList 0 cur w hg (by omega) h1; have hi := hT.cells t n ht
 cases hq : P.info? t with
 | none => simp [hq] at hi
 | some i =>
   have hsz : v.cells.size = i.size := by simp [hq] at hi; rw [hi, ← hn]; simp
   simp only [Nat.add_zero] at hs; simp [Instr.storeAt, Instr.sureAddr, storeVar, sizeOf, typeInfo, hq, hsz, hs, splice]
end Go.TM
namespace Go.TM
open Go Go.RowKit
theorem View.app_get {α : Type} (vw : View) (xs : List α) {i : Nat} {x : α} (h : (vw.app xs)[i]? = some x) : xs[vw.lo + i]? = some x := by
 cases vw with
 | full => simpa [View.app, View.lo] using h
 | «from» lo => simpa [View.app, View.lo, List.getElem?_drop] using h
 | sub lo n =>
   simp only [View.app, View.lo, List.getElem?_take, List.getElem?_drop] at h ⊢
   by_cases hi : i < n
   · rwa [if_pos hi] at h
   · rw [if_neg hi] at h; simp at h
theorem slAt_rep {c : Cz} {w : World} {s j : Nat} {A : Arr} (h : ArrOk c w s j A) {vw : View} {u : Value} (hu : SlAt (c.lc s j) A.r.width vw.lo (vw.app A.xs).length u)
   {ok : Nat → Prop} (h1 : ∀ b, c.ok b → ok b) (h2 : ∀ b, A.own = true ∨ A.md = .dp → c.own b = some (.sp s j) → ok b) (hmd : A.md.hol = false) : RepTy w ok (.sl A.r) u (vw.app A.xs) := by
 rw [repSl]
 cases hl : c.lc s j with
 | nil =>
   unfold SlAt at hu; rw [hl] at hu; obtain ⟨rfl, hn⟩ := hu; exact .inl ⟨rfl, List.length_eq_zero_iff.1 hn⟩
 | «at» b off cap =>
   unfold SlAt at hu; rw [hl] at hu; obtain ⟨a, k, rfl, hk, hcap, ha⟩ := hu; unfold ArrOk at h; rw [hl] at h; obtain ⟨h0, _, ⟨cur, ty, h3, _⟩, h5⟩ := h; have h5 : ∀ (i : Nat) x, A.xs[i]? = some x → RepR w ok A.r b (off + i * A.r.width) x := by
     unfold RowsOk at h5
     cases hm : A.md with
     | sh => rw [hm] at h5; exact fun i x hx => RepR.stays ⟨Nat.le_refl _, fun _ _ _ => rfl, fun b _ hb => h1 b hb⟩ _ _ _ x rfl (h5 i x hx)
     | dp =>
       rw [hm] at h5; obtain ⟨g, _, h5⟩ := h5; exact fun i x hx => DepR.rep (fun p k hk => h2 k (.inr hm) hk.1) _ _ _ _ _ x (h5 i x hx)
     | ho _ => rw [hm] at hmd; cases hmd
   have hob : ok b := by
     cases ho : A.own with
     | true => rw [ho] at h0; exact h2 b (.inl ho) h0
     | false => rw [ho] at h0; exact h1 b h0
   have hs : Stays w w c.ok ok := ⟨Nat.le_refl _, fun _ _ _ => rfl, fun b _ hb => h1 b hb⟩; refine .inr ⟨a, k, rfl, hk, fun hne => ?_, fun i x hi => ?_⟩
   · have : k ≠ 0 := by
       have := List.length_pos_iff.2 hne; omega
     rw [ha this]; exact ⟨rfl, (Array.getElem?_eq_some_iff.1 h3).1, hob⟩
   · have hk0 : k ≠ 0 := by
       have := (List.getElem?_eq_some_iff.1 hi).1; omega
     rw [ha hk0]; have := h5 _ x (View.app_get vw A.xs hi); have e : off + vw.lo * A.r.width + i * A.r.width = off + (vw.lo + i) * A.r.width := by rw [Nat.add_mul]; omega
     show RepR w ok A.r b (off + vw.lo * A.r.width + i * A.r.width) x; rw [e]; exact this
theorem castL_some {r s : RT} {xs : List (denR r)} {ys : List (denR s)} (h : castL s xs = some ys) : ∃ e : r = s, ys = e ▸ xs := by
 unfold castL at h
 cases hq : RT.eq? r s with
 | none => simp [hq] at h
 | some p => obtain ⟨e⟩ := p; simp [hq] at h; exact ⟨e, h.symm⟩
def Cz.drop1 (c : Cz) (a j : Nat) : Cz :=
 { c with own := fun k => match c.own k with | some (.sp s i) => if s = a ∧ i = j then none else some (.sp s i) | l => l }
theorem Cz.drop1_ok {c : Cz} {a j b : Nat} (h : c.ok b) : (c.drop1 a j).ok b := by
 unfold Cz.ok Cz.drop1 at *; simp [h]
theorem Cz.drop1_sp {c : Cz} {a j b : Nat} (h : c.own b = some (.sp a j)) : (c.drop1 a j).ok b := by
 unfold Cz.ok Cz.drop1; simp [h]
theorem Cz.drop1_some {c : Cz} {a j b : Nat} {l : Lb} (h : (c.drop1 a j).own b = some l) : c.own b = some l := by
 unfold Cz.drop1 at h; simp only at h
 cases hc : c.own b with
 | none => simp [hc] at h
 | some l' => cases l' with
   | box s => simp [hc] at h; rw [h]
   | out => simp [hc] at h; rw [h]
   | pend i k => simp [hc] at h; rw [h]
   | pbox i => simp [hc] at h; rw [h]
   | pres k => simp [hc] at h; rw [h]
   | sp s i =>
     simp only [hc] at h
     by_cases e : s = a ∧ i = j
     · simp [e] at h
     · rw [if_neg e] at h; exact h
theorem Cz.drop1_keep {c : Cz} {a j b : Nat} {l : Lb} (h : c.own b = some l) (hne : l ≠ .sp a j) : (c.drop1 a j).own b = some l := by
 unfold Cz.drop1; simp only [h]
 cases l with
 | box s => rfl
 | out => rfl
 | pend i k => rfl
 | pbox i => rfl
 | pres k => rfl
 | sp s i =>
   simp only; rw [if_neg]
   rintro ⟨rfl, rfl⟩
   exact hne rfl
def freeze1 (st : St) (a j : Nat) : St := upd (fun s => { s with arrs := upd (fun A => A.map Arr.fz) s.arrs j, ep := s.ep + 1 }) st a
theorem freeze_cons (st : St) (a j : Nat) (l : List (Nat × Nat)) : freeze st ((a, j) :: l) = freeze (freeze1 st a j) l := rfl
theorem nth_freeze1 (st : St) (a j s : Nat) : ∃ f : Sl → Sl, (∀ x, (f x).v = x.v ∧ (f x).box = x.box ∧ (f x).bg = x.bg ∧ (f x).ag = x.ag ∧
     (∀ i, nth (f x).arrs i = if s = a ∧ i = j then (nth x.arrs i).map (fun A => A.map Arr.fz) else nth x.arrs i) ∧ (f x).ep = if s = a then x.ep + 1 else x.ep) ∧ nth (freeze1 st a j) s = (nth st s).map f := by
 unfold freeze1
 by_cases h : s = a
 · subst h; refine ⟨fun s => { s with arrs := upd (fun A => A.map Arr.fz) s.arrs j, ep := s.ep + 1 }, fun x => ⟨rfl, rfl, rfl, rfl, fun i => ?_, by simp⟩, nth_upd_same _ _ _⟩; simp only [nth_upd, true_and]
 · refine ⟨id, fun x => ⟨rfl, rfl, rfl, rfl, fun i => ?_, by simp [h]⟩, by rw [nth_upd_ne _ _ h]; simp⟩; simp [h]
theorem epO_freeze1 (st : St) (a j b : Nat) : epO st b ≤ epO (freeze1 st a j) b ∧ (epO (freeze1 st a j) b = epO st b → b ≠ a ∨ nth st b = none) := by
 obtain ⟨f, hf, hn⟩ := nth_freeze1 st a j b; unfold epO; rw [hn]
 cases hx : nth st b with
 | none => simp
 | some x =>
   simp only [Option.map_some]; rw [(hf x).2.2.2.2.2]
   by_cases e : b = a
   · rw [if_pos e]; exact ⟨by omega, fun h => by omega⟩
   · rw [if_neg e]; exact ⟨Nat.le_refl _, fun _ => .inl e⟩
theorem getV_freeze1 (st : St) (a j t : Nat) : getV (freeze1 st a j) t = getV st t := by
 obtain ⟨f, hf, hn⟩ := nth_freeze1 st a j t; unfold getV; rw [hn]
 cases nth st t with
 | none => rfl
 | some x => exact (hf x).1
theorem arr?_freeze1 {st : St} {a j a' j' g : Nat} {A' : Arr} (h : arr? (freeze1 st a j) a' j' g = some A') : ∃ A, arr? st a' j' g = some A ∧ A'.r.width = A.r.width ∧ A'.xs.length = A.xs.length ∧ (a' ≠ a → A' = A) := by
 obtain ⟨sl, h1, h2, h3⟩ := arr?_some h; obtain ⟨f, hf, hn⟩ := nth_freeze1 st a j a'; rw [hn] at h1
 cases hx : nth st a' with
 | none => rw [hx] at h1; simp at h1
 | some x =>
   rw [hx] at h1; simp at h1; subst h1; obtain ⟨_, _, _, f4, f5, _⟩ := hf x; rw [f5] at h3; rw [f4] at h2; have key : ∃ A, nth x.arrs j' = some (some A) ∧ A'.r.width = A.r.width ∧ A'.xs.length = A.xs.length ∧ (a' ≠ a → A' = A) := by
     by_cases e : a' = a ∧ j' = j
     · rw [if_pos e] at h3
       cases hj : nth x.arrs j' with
       | none => simp [hj] at h3
       | some o => cases o with
         | none => simp [hj] at h3
         | some A => simp [hj] at h3; subst h3; exact ⟨A, rfl, rfl, rfl, fun h => absurd e.1 h⟩
     · rw [if_neg e] at h3; exact ⟨A', h3, rfl, rfl, fun _ => rfl⟩
   obtain ⟨A, k1, k2, k3⟩ := key; refine ⟨A, ?_, k2, k3⟩; unfold arr?; rw [hx]; have : Nat.beq x.ag g = true := by rw [h2]; exact Nat.beq_refl g
   simp [this, k1]
theorem box?_freeze1 (st : St) (a j b g : Nat) : box? (freeze1 st a j) b g = box? st b g := by
 obtain ⟨f, hf, hn⟩ := nth_freeze1 st a j b; unfold box?; rw [hn]
 cases nth st b with
 | none => rfl
 | some x => obtain ⟨_, h2, h3, _⟩ := hf x; simp [h2, h3]
theorem genA_freeze1 (st : St) (a j b : Nat) : genA (freeze1 st a j) b = genA st b := by
 obtain ⟨f, hf, hn⟩ := nth_freeze1 st a j b; unfold genA; rw [hn]
 cases nth st b with
 | none => rfl
 | some x => exact (hf x).2.2.2.1
theorem genB_freeze1 (st : St) (a j b : Nat) : genB (freeze1 st a j) b = genB st b := by
 obtain ⟨f, hf, hn⟩ := nth_freeze1 st a j b; unfold genB; rw [hn]
 cases nth st b with
 | none => rfl
 | some x => exact (hf x).2.2.1
theorem Fw.freeze1 (c : Cz) (st : St) (w : World) (a j : Nat) : Fw c st w (c.drop1 a j) (freeze1 st a j) w where
 stays := ⟨Nat.le_refl _, fun _ _ _ => rfl, fun _ _ h => Cz.drop1_ok h⟩
 refs a' j' g A' _ hA' := by
   obtain ⟨A, h1, h2, h3, h4⟩ := arr?_freeze1 hA'; refine ⟨A, h1, h2, h3, rfl, fun he => ⟨?_, fun _ _ _ _ => rfl⟩⟩; rcases (epO_freeze1 st a j a').2 he with e | e
   · exact h4 e
   · unfold arr? at h1; rw [e] at h1; cases h1
 bxs b g cs' _ h := ⟨⟨cs', by rwa [box?_freeze1] at h⟩, rfl⟩
 gA b := by rw [genA_freeze1]; exact Nat.le_refl _
 gB b := by rw [genB_freeze1]; exact Nat.le_refl _
 gE b := (epO_freeze1 st a j b).1
theorem Rel.freeze1 {w0 : World} {mu : Mu} {c : Cz} {st : St} {a : Act} {w : World} (h : Rel w0 mu c st a w) (s j : Nat) : Rel w0 mu (c.drop1 s j) (freeze1 st s j) a w where
 regs t := by rw [getV_freeze1]; exact (Fw.freeze1 c st w s j).relV (h.regs t)
 boxes b sl cs hs hb := by
   obtain ⟨f, hf, hn⟩ := nth_freeze1 st s j b; rw [hn] at hs
   cases hx : nth st b with
   | none => rw [hx] at hs; simp at hs
   | some x =>
     rw [hx] at hs; simp at hs; subst hs; rw [(hf x).2.1] at hb; have h0 := h.boxes b x cs hx hb; exact h0.go (Fw.freeze1 c st w s j) rfl (by rw [h0.1]; exact Cz.drop1_keep h0.1 (by simp)) rfl
 arrs b i sl A hs hb := by
   obtain ⟨f, hf, hn⟩ := nth_freeze1 st s j b; rw [hn] at hs
   cases hx : nth st b with
   | none => rw [hx] at hs; simp at hs
   | some x =>
     rw [hx] at hs; simp at hs; subst hs; rw [(hf x).2.2.2.2.1 i] at hb
     by_cases e : b = s ∧ i = j
     · rw [if_pos e] at hb
       cases hj : nth x.arrs i with
       | none => simp [hj] at hb
       | some o => cases o with
         | none => simp [hj] at hb
         | some B =>
           simp [hj] at hb; subst hb; have h0 := h.arrs b i x B hx hj; unfold ArrOk at h0 ⊢; show match c.lc b i with | .nil => _ | .at b off cap => _
           cases hl : c.lc b i with
           | nil => rw [hl] at h0; exact h0
           | «at» k off cap =>
             rw [hl] at h0; obtain ⟨h1, h2, h3, h4⟩ := h0; refine ⟨?_, h2, h3, ?_⟩
             · show (c.drop1 s j).own k = none
               cases ho : B.own with
               | true => rw [ho] at h1; obtain ⟨rfl, rfl⟩ := e; exact Cz.drop1_sp h1
               | false => rw [ho] at h1; exact Cz.drop1_ok h1
             · unfold RowsOk at h4 ⊢; show match B.md.fz with | .sh => _ | .dp => _ | .ho _ => _
               cases hm : B.md with
               | sh => rw [hm] at h4; exact fun i x hi => RepR.stays (Fw.freeze1 c st w s j).stays _ _ _ x rfl (h4 i x hi)
               | dp =>
                 rw [hm] at h4; obtain ⟨g, _, h4⟩ := h4; obtain ⟨rfl, rfl⟩ := e; exact fun i x hi => DepR.rep (fun p k hk => Cz.drop1_sp hk.1) _ _ _ _ _ x (h4 i x hi)
               | ho q => exact fun e => by cases e
     · rw [if_neg e] at hb; have h0 := h.arrs b i x A hx hb; refine h0.go (Fw.freeze1 c st w s j).stays rfl (fun k h1 => ⟨rfl, ?_⟩); rw [h1]; exact Cz.drop1_keep h1 (by rintro e'; injection e' with e1 e2; exact e ⟨e1, e2⟩)
 owned b l hb := h.owned b l (Cz.drop1_some hb)
 free b hb h1 := by
   cases hc : c.own b with
   | none => exact h.free b hb hc
   | some l =>
     rcases (h.owned b l hc).2 with h2 | h2 | h2
     · subst h2; unfold Cz.drop1 at h1; simp [hc] at h1
     · omega
     · exact .inl h2
 kept := h.kept
 old := h.old
 anch p hp := (Fw.freeze1 c st w s j).anch (h.anch p hp)
 plain := h.plain
def Cz.drop (c : Cz) : List (Nat × Nat) → Cz
 | [] => c
 | (a, j) :: l => (c.drop1 a j).drop l
theorem Rel.freeze {w0 : World} {mu : Mu} {a : Act} {w : World} : (m : List (Nat × Nat)) → {c : Cz} → {st : St} → Rel w0 mu c st a w → Rel w0 mu (c.drop m) (freeze st m) a w
 | [], _, _, h => h
 | (s, j) :: m, _, _, h => Rel.freeze m (h.freeze1 s j)
theorem Cz.drop_ok : (m : List (Nat × Nat)) → (c : Cz) → (b : Nat) → c.ok b → (c.drop m).ok b
 | [], _, _, h => h
 | (a, j) :: m, c, b, h => Cz.drop_ok m (c.drop1 a j) b (Cz.drop1_ok h)
theorem Cz.drop_sp : (m : List (Nat × Nat)) → (c : Cz) → (b : Nat) → {a j : Nat} → c.own b = some (.sp a j) → (a, j) ∈ m → (c.drop m).ok b
 | [], _, _, _, _, _, h => by simp at h
 | (a', j') :: m, c, b, a, j, h, hm => by
   by_cases e : a' = a ∧ j' = j
   · obtain ⟨rfl, rfl⟩ := e; exact Cz.drop_ok m _ b (Cz.drop1_sp h)
   · refine Cz.drop_sp m (c.drop1 a' j') b (Cz.drop1_keep h (by rintro e'; injection e' with e1 e2; exact e ⟨e1.symm, e2.symm⟩)) ?_; rcases List.mem_cons.1 hm with h' | h'
     · injection h' with e1 e2; exact absurd ⟨e1.symm, e2.symm⟩ e
     · exact h'
theorem Cz.drop_lc : (m : List (Nat × Nat)) → (c : Cz) → (c.drop m).lc = c.lc ∧ (c.drop m).bx = c.bx
 | [], _ => ⟨rfl, rfl⟩
 | (a, j) :: m, c => Cz.drop_lc m (c.drop1 a j)
theorem Cz.drop_keep : (m : List (Nat × Nat)) → (c : Cz) → (b : Nat) → {l : Lb} → c.own b = some l → (∀ p ∈ m, l ≠ .sp p.1 p.2) → (c.drop m).own b = some l
 | [], _, _, _, h, _ => h
 | (a, j) :: m, c, b, l, h, hm => Cz.drop_keep m (c.drop1 a j) b (Cz.drop1_keep h (hm (a, j) (by simp))) (fun p hp => hm p (by simp [hp]))
theorem Fw.trans {c c1 c2 : Cz} {st st1 st2 : St} {w w1 w2 : World} (h : Fw c st w c1 st1 w1) (k : Fw c1 st1 w1 c2 st2 w2) : Fw c st w c2 st2 w2 where
 stays := ⟨Nat.le_trans h.stays.size k.stays.size, fun b hb ho => (k.stays.block b (Nat.lt_of_lt_of_le hb h.stays.size) (h.stays.ok b hb ho)).trans (h.stays.block b hb ho),
   fun b hb ho => k.stays.ok b (Nat.lt_of_lt_of_le hb h.stays.size) (h.stays.ok b hb ho)⟩
 refs a j g A' hg hA' := by
   obtain ⟨A1, h1, h2, h3, h4, h5⟩ := k.refs a j g A' (Nat.le_trans hg (h.gA a)) hA'; obtain ⟨A, k1, k2, k3, k4, k5⟩ := h.refs a j g A1 hg h1; refine ⟨A, k1, h2.trans k2, h3.trans k3, h4.trans k4, fun he => ?_⟩; have g1 := h.gE a; have g2 := k.gE a; obtain ⟨e1, e2⟩ := h5 (by omega); obtain ⟨e3, e4⟩ := k5 (by omega); exact ⟨e1.trans e3, fun b o cap hl => (e2 b o cap (by rw [k4]; exact hl)).trans (e4 b o cap hl)⟩
 bxs b g cs' hg hb := by
   obtain ⟨⟨cs1, h1⟩, h2⟩ := k.bxs b g cs' (Nat.le_trans hg (h.gB b)) hb; obtain ⟨h3, h4⟩ := h.bxs b g cs1 hg h1; exact ⟨h3, h2.trans h4⟩
 gA a := Nat.le_trans (h.gA a) (k.gA a)
 gB b := Nat.le_trans (h.gB b) (k.gB b)
 gE b := Nat.le_trans (h.gE b) (k.gE b)
theorem Fw.refl (c : Cz) (st : St) (w : World) : Fw c st w c st w := ⟨Stays.refl w _, fun _ _ _ A' _ h => ⟨A', h, rfl, rfl, rfl, fun _ => ⟨rfl, fun _ _ _ _ => rfl⟩⟩, fun _ _ cs' _ h => ⟨⟨cs', h⟩, rfl⟩, fun _ => Nat.le_refl _, fun _ => Nat.le_refl _, fun _ => Nat.le_refl _⟩
theorem Fw.freeze (w : World) : (m : List (Nat × Nat)) → (c : Cz) → (st : St) → Fw c st w (c.drop m) (freeze st m) w
 | [], c, st => Fw.refl c st w
 | (a, j) :: m, c, st => (Fw.freeze1 c st w a j).trans (Fw.freeze w m (c.drop1 a j) (TM.freeze1 st a j))
theorem rowOf_ok {w0 : World} {mu : Mu} {c : Cz} {st : St} {a : Act} {w : World} (h : Rel w0 mu c st a w) : (r : RT) → (cs : List CV) → (us : List Value) → RelL c st w cs us →
   (k : denR r → List (Nat × Nat) → N) → {st' : St} → (rowOf st r cs k).val = some st' →
   ∃ x m, (k x m).val = some st' ∧ (∀ p ∈ m, ∃ g A, arr? st p.1 p.2 g = some A) ∧
     ∀ ok : Nat → Prop, (∀ b, c.ok b → ok b) → (∀ p ∈ m, ∀ b, c.own b = some (.sp p.1 p.2) → ok b) → RepVs w ok r us x
 | .nil, cs, us, hl, k, st', hv => by
   cases cs with
   | cons _ _ => simp [rowOf, N.val] at hv
   | nil =>
     have : us = [] := by have := hl.1; simp at this; exact List.length_eq_zero_iff.1 this.symm
     subst this; exact ⟨(), [], hv, fun p hp => by simp at hp, fun _ _ _ => rfl⟩
 | .cons t r, cs, us, hl, k, st', hv => by
   cases cs with
   | nil => cases t <;> simp [rowOf, N.val] at hv
   | cons y cs =>
     cases us with
     | nil => have := hl.1; simp at this
     | cons u us =>
       have hu : RelC c st w y u := hl.2 0 y u rfl rfl; have hl' : RelL c st w cs us := ⟨by have := hl.1; simpa using this, fun i a b ha hb => hl.2 (i + 1) a b (by simpa using ha) (by simpa using hb)⟩; have plain : ∀ (d : den t), (∀ ok : Nat → Prop, (∀ b, c.ok b → ok b) → RepTy w ok t u d) → (rowOf st r cs (fun x m => k (d, x) m)).val = some st' →
           ∃ x m, (k x m).val = some st' ∧ (∀ p ∈ m, ∃ g A, arr? st p.1 p.2 g = some A) ∧
             ∀ ok : Nat → Prop, (∀ b, c.ok b → ok b) → (∀ p ∈ m, ∀ b, c.own b = some (.sp p.1 p.2) → ok b) → RepVs w ok (.cons t r) (u :: us) x := by
         intro d hd hv; obtain ⟨x, m, h1, h2, h3⟩ := rowOf_ok h r cs us hl' _ hv; exact ⟨(d, x), m, h1, h2, fun ok ho hm => ⟨u, us, rfl, hd ok ho, h3 ok ho hm⟩⟩
       cases t with
       | int q =>
         cases y with
         | int l n =>
           simp only [rowOf] at hv
           by_cases e : q = l
           · rw [if_pos e] at hv; exact plain n (fun ok _ => repInt.2 (by rw [e]; exact hu)) hv
           · rw [if_neg e] at hv; simp [N.val] at hv
         | _ => simp [rowOf, N.val] at hv
       | bool =>
         cases y with
         | bool b => exact plain b (fun ok _ => repBool.2 hu) (by simpa only [rowOf] using hv)
         | _ => simp [rowOf, N.val] at hv
       | str =>
         cases y with
         | str s => exact plain s (fun ok _ => repStr.2 hu) (by simpa only [rowOf] using hv)
         | _ => simp [rowOf, N.val] at hv
       | sl q =>
         cases y with
         | nils => exact plain ([] : List (denR q)) (fun ok _ => (repSl _ _ _ _ _).2 (.inl ⟨hu, rfl⟩)) (by simpa only [rowOf] using hv)
         | shr r' ys =>
           simp only [rowOf] at hv
           cases hc : castL q ys with
           | none => simp [hc, N.val] at hv
           | some zs =>
             simp only [hc] at hv; obtain ⟨rfl, rfl⟩ := castL_some hc; exact plain _ (fun ok ho => RepTy.stays ⟨Nat.le_refl _, fun _ _ _ => rfl, fun b _ hb => ho b hb⟩ _ _ _ hu) hv
         | ref a' j g vw =>
           simp only [rowOf] at hv
           cases hA : arr? st a' j g with
           | none => simp [hA, N.val] at hv
           | some A =>
             simp only [hA] at hv; have hmd : A.md.hol = false := by
               cases hm : A.md with
               | ho _ => rw [hm] at hv; simp [N.val] at hv
               | _ => rfl
             have hv : (match castL q A.xs with
                 | some ys => rowOf st r cs (fun x m => k (vw.app ys, x) ((a', j) :: m))
                 | none => .fail).val = some st' := by
               cases hm : A.md with
               | ho _ => rw [hm] at hmd; cases hmd
               | sh => rw [hm] at hv; exact hv
               | dp => rw [hm] at hv; exact hv
             cases hc : castL q A.xs with
             | none => simp [hc, N.val] at hv
             | some ys =>
               simp only [hc] at hv; obtain ⟨e, he⟩ := castL_some hc; subst e; simp only at he; subst he; obtain ⟨sl, hs1, hs2, hs3⟩ := arr?_some hA; have hao := h.arrs a' j sl A hs1 hs3; obtain ⟨x, m, h1, h2, h3⟩ := rowOf_ok h r cs us hl' _ hv; refine ⟨(vw.app A.xs, x), (a', j) :: m, h1, fun p hp => ?_, fun ok ho hm => ⟨u, us, rfl, ?_, h3 ok ho (fun p hp => hm p (by simp [hp]))⟩⟩
               · rcases List.mem_cons.1 hp with rfl | hp
                 · exact ⟨g, A, hA⟩
                 · exact h2 p hp
               · exact slAt_rep hao (hu.2.2 A hA) ho (fun k _ hk => hm (a', j) (by simp) k hk) hmd
         | _ => simp [rowOf, N.val] at hv
end Go.TM
namespace Go.TM
open Go Go.RowKit
theorem putCells_some {cs l m : List CV} {off : Nat} (h : putCells cs off l = some m) : off + l.length ≤ cs.length ∧ m = cs.take off ++ l ++ cs.drop (off + l.length) := by
 unfold putCells at h; obtain ⟨h1, h2⟩ := bif_some h; exact ⟨Nat.le_of_ble_eq_true h1, (Option.some.inj h2).symm⟩
theorem RelL.splice {c : Cz} {st : St} {w : World} {cs l : List CV} {vs us : List Value} (h : RelL c st w cs vs) (hl : RelL c st w l us) (off : Nat) (hle : off + l.length ≤ cs.length) :
   RelL c st w (cs.take off ++ l ++ cs.drop (off + l.length)) (TM.splice vs off us) := by
 have e1 := h.1; have e2 := hl.1; refine ⟨by rw [splice_length (by omega)]; simp; omega, fun i x v hx hv => ?_⟩; unfold TM.splice at hv; rw [List.getElem?_append, List.getElem?_append] at hx hv; simp only [List.length_append, List.length_take] at hx hv; have a1 : min off cs.length = off := by omega
 have a2 : min off vs.length = off := by omega
 rw [a1] at hx; rw [a2, ← e2] at hv
 by_cases h1 : i < off + l.length
 · rw [if_pos h1] at hx hv
   by_cases h2 : i < off
   · rw [if_pos h2, List.getElem?_take, if_pos h2] at hx hv; exact h.2 i x v hx hv
   · rw [if_neg h2] at hx hv; exact hl.2 _ x v hx hv
 · rw [if_neg h1, List.getElem?_drop] at hx hv; exact h.2 _ x v hx hv
theorem Rel.storeBox {w0 : World} {mu : Mu} {c : Cz} {st : St} {a : Act} {w : World} (h : Rel w0 mu c st a w) {b : Nat} {s0 : Sl} {cs l : List CV} {vs cur' : Array Value} {ty : TypeId}
   (hs : nth st b = some s0) (hb : s0.box = some cs) (hg : w.heap[c.bx b]? = some (.cells vs ty (0, 0))) (hl : RelL c st w l cur'.toList) :
   Rel w0 mu c (upd (fun s => { s with box := some l }) st b) a (w.setRow (c.bx b) cur') := by
 have hown := (h.boxes b s0 cs hs hb).1; have hn : ∀ s, nth (upd (fun s => { s with box := some l }) st b) s = if s = b then some { s0 with box := some l } else nth st s := by
   intro s; rw [nth_upd]
   by_cases e : s = b
   · subst e; simp [hs]
   · simp [e]
 generalize upd (fun s => { s with box := some l }) st b = st' at hn ⊢; have hst := stays_setRow (w := w) hown cur'; have hoth : ∀ k, k ≠ c.bx b → (w.setRow (c.bx b) cur').heap[k]? = w.heap[k]? := fun k hk => setRow_other w _ k cur' hk
 have hfw : Fw c st w c st' (w.setRow (c.bx b) cur') := {
   stays := hst
   refs := fun a' j g A' _ hA' => by
     have hA0 : arr? st a' j g = some A' := by
       unfold arr? at hA' ⊢; rw [hn] at hA'
       by_cases e : a' = b
       · subst e; simpa [hs] using hA'
       · simpa [e] using hA'
     refine ⟨A', hA0, rfl, rfl, rfl, fun _ => ⟨rfl, fun k o cap hl => hoth k ?_⟩⟩; have ha := h.arrOf hA0; unfold ArrOk at ha; rw [hl] at ha; intro e; subst e; obtain ⟨h1, _⟩ := ha; rw [hown] at h1
     cases ho : A'.own <;> simp [ho] at h1
   bxs := fun b' g cs' _ hb' => by
     refine ⟨?_, rfl⟩; unfold box? at hb' ⊢; rw [hn] at hb'
     by_cases e : b' = b
     · subst e; simp only [if_true] at hb'; obtain ⟨h1, _⟩ := bif_some hb'; exact ⟨cs, by simp [hs, h1, hb]⟩
     · simp only [e, if_false] at hb'; exact ⟨cs', hb'⟩
   gA := fun a' => by
     unfold genA; rw [hn]
     by_cases e : a' = b
     · subst e; simp [hs]
     · simp [e]
   gB := fun a' => by
     unfold genB; rw [hn]
     by_cases e : a' = b
     · subst e; simp [hs]
     · simp [e]
   gE := fun a' => by
     unfold epO; rw [hn]
     by_cases e : a' = b
     · subst e; simp [hs]
     · simp [e] }
 exact {
   regs := fun t => by
     have e1 : getV st' t = getV st t := by
       unfold getV; rw [hn]
       by_cases e : t = b
       · subst e; simp [hs]
       · simp [e]
     rw [e1]; exact hfw.relV (h.regs t)
   boxes := fun s sl cs' hs' hb' => by
     rw [hn] at hs'
     by_cases e : s = b
     · subst e; simp only [if_true, Option.some.injEq] at hs'; subst hs'; simp only [Option.some.injEq] at hb'; subst hb'; exact ⟨hown, cur', ty, setRow_heap w _ vs cur' ty (0, 0) hg, hfw.relL hl⟩
     · simp only [e, if_false] at hs'; have h0 := h.boxes s sl cs' hs' hb'; refine h0.go hfw rfl rfl (hoth _ ?_); intro e'; have := h0.1; rw [e', hown] at this; injection this with this; injection this with this; exact e this.symm
   arrs := fun s j sl A hs' hA' => by
     rw [hn] at hs'; have ha : ArrOk c w s j A := by
       by_cases e : s = b
       · subst e; simp only [if_true, Option.some.injEq] at hs'; subst hs'; exact h.arrs s j s0 A hs hA'
       · simp only [e, if_false] at hs'; exact h.arrs s j sl A hs' hA'
     refine ha.go hst rfl (fun k h1 => ⟨hoth k ?_, rfl⟩); intro e; subst e; rw [hown] at h1
     cases h1
   owned := fun k l hk => by
     have := h.owned k l hk; exact ⟨by simpa [World.setRow] using this.1, this.2⟩
   free := h.free
   kept := ⟨h.kept.1, h.kept.2.1, h.kept.2.2.1, by simpa [World.setRow] using h.kept.2.2.2⟩
   old := fun k hk hm => by
     rw [hoth k (fun e => by
       have := (h.owned _ _ hown).2; rcases this with this | this | this
       · cases this
       · subst e; omega
       · subst e; exact hm this)]
     exact h.old k hk hm
   anch := fun p hp => hfw.anch (h.anch p hp)
   plain := h.plain }
theorem Rel.storeArrM {w0 : World} {mu : Mu} {c : Cz} {st : St} {a : Act} {w : World} (h : Rel w0 mu c st a w) {s j : Nat} {s0 : Sl} {A : Arr} {b off cap : Nat} {cur cur' : Array Value} {ty : TypeId}
   {md' : Md} {ys : List (denR A.r)} (hs : nth st s = some s0) (hA : nth s0.arrs j = some (some A)) (hown : A.own = true) (hlc : c.lc s j = .at b off cap)
   (hg : w.heap[b]? = some (.cells cur ty (0, 0))) (hsz : cur'.size = cur.size) (hlen : ys.length = A.xs.length)
   (hrow : RowsOk c (w.setRow b cur') (.sp s j) { A with xs := ys, md := md' } b off) :
   Rel w0 mu c (setArr st s j (some { A with xs := ys, md := md' })) a (w.setRow b cur') := by
 have h0 := h.arrs s j s0 A hs hA; unfold ArrOk at h0; rw [hlc] at h0; obtain ⟨h1, h2, ⟨cur0, ty0, h3, h4⟩, h5⟩ := h0; rw [hown] at h1; have hc0 : cur0 = cur := by rw [hg] at h3; injection h3 with h3; injection h3 with h3; exact h3.symm
 subst hc0; have hn : ∀ k, nth (setArr st s j (some { A with xs := ys, md := md' })) k = if k = s then some { s0 with arrs := upd (fun _ => some { A with xs := ys, md := md' }) s0.arrs j, ep := s0.ep + 1 } else nth st k := by
   intro k; unfold setArr; rw [nth_upd]
   by_cases e : k = s
   · subst e; simp [hs]
   · simp [e]
 generalize setArr st s j (some { A with xs := ys, md := md' }) = st' at hn ⊢; have hst := stays_setRow (w := w) h1 cur'; have hoth : ∀ k, k ≠ b → (w.setRow b cur').heap[k]? = w.heap[k]? := fun k hk => setRow_other w _ k cur' hk
 have hfw : Fw c st w c st' (w.setRow b cur') := {
   stays := hst
   refs := fun a' j' g A' _ hA' => by
     obtain ⟨sl, k1, k2, k3⟩ := arr?_some hA'; rw [hn] at k1
     by_cases e : a' = s
     · subst e; simp only [if_true, Option.some.injEq] at k1; subst k1; simp only at k2 k3; rw [nth_upd] at k3
       by_cases e2 : j' = j
       · subst e2; rw [if_pos rfl, hA] at k3; simp only [Option.map_some, Option.some.injEq] at k3; subst k3; refine ⟨A, ?_, rfl, hlen, rfl, fun he => ?_⟩
         · unfold arr?; rw [hs]; have : Nat.beq s0.ag g = true := by rw [k2]; exact Nat.beq_refl g
           simp [this, hA]
         · unfold epO at he; rw [hn, if_pos rfl, hs] at he; simp at he
       · rw [if_neg e2] at k3; refine ⟨A', ?_, rfl, rfl, rfl, fun he => ?_⟩
         · unfold arr?; rw [hs]; have : Nat.beq s0.ag g = true := by rw [k2]; exact Nat.beq_refl g
           simp [this, k3]
         · unfold epO at he; rw [hn, if_pos rfl, hs] at he; simp at he
     · rw [if_neg e] at k1; have hA0 : arr? st a' j' g = some A' := by
         unfold arr?; rw [k1]; have : Nat.beq sl.ag g = true := by rw [k2]; exact Nat.beq_refl g
         simp [this, k3]
       refine ⟨A', hA0, rfl, rfl, rfl, fun _ => ⟨rfl, fun k o cap' hl => hoth k ?_⟩⟩; have ha := h.arrOf hA0; unfold ArrOk at ha; rw [hl] at ha
       rintro rfl
       obtain ⟨g1, _⟩ := ha; rw [h1] at g1
       cases ho : A'.own with
       | true => simp [ho] at g1; exact e g1.1.symm
       | false => simp [ho] at g1
   bxs := fun b' g cs' _ hb' => by
     refine ⟨⟨cs', ?_⟩, rfl⟩; unfold box? at hb' ⊢; rw [hn] at hb'
     by_cases e : b' = s
     · subst e; simpa [hs] using hb'
     · simpa [e] using hb'
   gA := fun a' => by
     unfold genA; rw [hn]
     by_cases e : a' = s
     · subst e; simp [hs]
     · simp [e]
   gB := fun a' => by
     unfold genB; rw [hn]
     by_cases e : a' = s
     · subst e; simp [hs]
     · simp [e]
   gE := fun a' => by
     unfold epO; rw [hn]
     by_cases e : a' = s
     · subst e; simp [hs]
     · simp [e] }
 exact {
   regs := fun t => by
     have e1 : getV st' t = getV st t := by
       unfold getV; rw [hn]
       by_cases e : t = s
       · subst e; simp [hs]
       · simp [e]
     rw [e1]; exact hfw.relV (h.regs t)
   boxes := fun k sl cs' hs' hb' => by
     rw [hn] at hs'; have hbx : BoxOk c st w k cs' := by
       by_cases e : k = s
       · subst e; simp only [if_true, Option.some.injEq] at hs'; subst hs'; exact h.boxes k s0 cs' hs hb'
       · simp only [e, if_false] at hs'; exact h.boxes k sl cs' hs' hb'
     refine hbx.go hfw rfl rfl (hoth _ ?_); intro e; have := hbx.1; rw [e, h1] at this; simp at this
   arrs := fun k i sl B hs' hB => by
     rw [hn] at hs'
     by_cases e : k = s ∧ i = j
     · obtain ⟨rfl, rfl⟩ := e; simp only [if_true, Option.some.injEq] at hs'; subst hs'; simp only at hB; rw [nth_upd, if_pos rfl, hA] at hB; simp only [Option.map_some, Option.some.injEq] at hB; subst hB; unfold ArrOk; rw [hlc]; refine ⟨by rw [hown]; exact h1, by simp only; rw [hlen]; exact h2, ⟨cur', ty, setRow_heap w b cur0 cur' ty (0, 0) hg, by simp only; rw [hsz]; exact h4⟩, hrow⟩
     · have ha : ArrOk c w k i B := by
         by_cases e2 : k = s
         · subst e2; simp only [if_true, Option.some.injEq] at hs'; subst hs'; simp only at hB; rw [nth_upd, if_neg (fun e3 => e ⟨rfl, e3⟩)] at hB; exact h.arrs k i s0 B hs hB
         · rw [if_neg e2] at hs'; exact h.arrs k i sl B hs' hB
       refine ha.go hst rfl (fun k' g1 => ⟨hoth k' ?_, rfl⟩)
       rintro rfl
       rw [h1] at g1; simp at g1; exact e ⟨g1.1.symm, g1.2.symm⟩
   owned := fun k l hk => by
     have := h.owned k l hk; exact ⟨by simpa [World.setRow] using this.1, this.2⟩
   free := h.free
   kept := ⟨h.kept.1, h.kept.2.1, h.kept.2.2.1, by simpa [World.setRow] using h.kept.2.2.2⟩
   old := fun k hk hm => by
     rw [hoth k (fun e => by
       have := (h.owned _ _ h1).2; rcases this with this | this | this
       · cases this
       · subst e; omega
       · subst e; exact hm this)]
     exact h.old k hk hm
   anch := fun p hp => hfw.anch (h.anch p hp)
   plain := h.plain }
theorem Rel.storeArr {w0 : World} {mu : Mu} {c : Cz} {st : St} {a : Act} {w : World} (h : Rel w0 mu c st a w) {s j : Nat} {s0 : Sl} {A : Arr} {b off cap : Nat} {cur cur' : Array Value} {ty : TypeId}
   {ys : List (denR A.r)} (hs : nth st s = some s0) (hA : nth s0.arrs j = some (some A)) (hown : A.own = true) (hlc : c.lc s j = .at b off cap)
   (hg : w.heap[b]? = some (.cells cur ty (0, 0))) (hsz : cur'.size = cur.size) (hlen : ys.length = A.xs.length)
   (hrow : RowsOk c (w.setRow b cur') (.sp s j) { A with xs := ys } b off) :
   Rel w0 mu c (setArr st s j (some { A with xs := ys })) a (w.setRow b cur') := h.storeArrM hs hA hown hlc hg hsz hlen hrow
end Go.TM
namespace Go.TM
open Go Go.RowKit
theorem rowSet_bound : (r : RT) → (x : denR r) → (k : Nat) → (y : CV) → {z : denR r} → rowSet r x k y = some z → k < r.width
 | .nil, _, _, _, _, h => by simp [rowSet] at h
 | .cons t r, x, 0, y, z, _ => by simp [RT.width]
 | .cons t r, x, k + 1, y, z, h => by
   have h' : (rowSet r x.2 k y).map (fun z => ((x.1, z) : denR (.cons t r))) = some z := by cases t <;> (simp only [rowSet] at h; exact h)
   cases hq : rowSet r x.2 k y with
   | none => rw [hq] at h'; cases h'
   | some z' => have := rowSet_bound r x.2 k y hq; simp [RT.width]; omega
theorem rowPut_bound (r : RT) (x : denR r) : (off : Nat) → (cs : List CV) → {z : denR r} → rowPut r x off cs = some z → cs ≠ [] → off + cs.length ≤ r.width
 | _, [], _, _, h => absurd rfl h
 | off, y :: l, z, h, _ => by
   simp only [rowPut] at h
   cases hq : rowPut r x (off + 1) l with
   | none => simp [hq] at h
   | some y' =>
     simp only [hq] at h; have h1 := rowSet_bound r y' off y h
     cases l with
     | nil => simp; omega
     | cons y2 l2 => have := rowPut_bound r x (off + 1) (y2 :: l2) hq (by simp); simp at this ⊢; omega
theorem splice_get {vs us : List Value} {off k : Nat} (hle : off + us.length ≤ vs.length) : (splice vs off us)[k]? = if off ≤ k ∧ k < off + us.length then us[k - off]? else vs[k]? := by
 unfold splice; simp only [List.getElem?_append, List.length_append, List.length_take, List.getElem?_take, List.getElem?_drop]; have a1 : min off vs.length = off := by omega
 rw [a1]
 by_cases h1 : k < off
 · rw [if_pos (by omega), if_pos h1, if_pos h1, if_neg (by omega)]
 · by_cases h2 : k < off + us.length
   · rw [if_pos h2, if_neg h1, if_pos ⟨by omega, h2⟩]
   · rw [if_neg h2, if_neg (by omega)]
     congr 1
     omega
theorem freeze_arr : (m : List (Nat × Nat)) → {st : St} → {a j : Nat} → {sl : Sl} → {A : Arr} → nth st a = some sl → nth sl.arrs j = some (some A) → (a, j) ∉ m →
   ∃ sl', nth (freeze st m) a = some sl' ∧ nth sl'.arrs j = some (some A)
 | [], _, _, _, sl, _, h1, h2, _ => ⟨sl, h1, h2⟩
 | (b, i) :: m, st, a, j, sl, A, h1, h2, hm => by
   rw [freeze_cons]; obtain ⟨f, hf, hn⟩ := nth_freeze1 st b i a; refine freeze_arr m (sl := f sl) (A := A) (by rw [hn, h1]; rfl) ?_ (fun h => hm (by simp [h])); rw [(hf sl).2.2.2.2.1 j, if_neg]
   · exact h2
   · rintro ⟨rfl, rfl⟩; exact hm (by simp)
theorem rows_written {c : Cz} {w : World} {b off : Nat} {r : RT} {xs : List (denR r)} {cur : Array Value} {ty : TypeId} {l : Lb} (hown : c.own b = some l)
   (hg : w.heap[b]? = some (.cells cur ty (0, 0))) (hrow : ∀ (i : Nat) x, xs[i]? = some x → RepR w c.ok r b (off + i * r.width) x)
   {i k : Nat} {x y : denR r} {us : List Value} (hx : xs[i]? = some x) (hle : k + us.length ≤ r.width) (hsz : off + i * r.width + r.width ≤ cur.size)
   (hy : ∀ vs, RepVs w c.ok r vs x → RepVs w c.ok r (splice vs k us) y) :
   ∀ (i' : Nat) x', (xs.set i y)[i']? = some x' → RepR (w.setRow b (splice cur.toList (off + i * r.width + k) us).toArray) c.ok r b (off + i' * r.width) x' := by
 have hst := stays_setRow (w := w) hown (splice cur.toList (off + i * r.width + k) us).toArray; have hg' := setRow_heap w b cur (splice cur.toList (off + i * r.width + k) us).toArray ty (0, 0) hg; have hcell : ∀ q, (w.setRow b (splice cur.toList (off + i * r.width + k) us).toArray).cell? ⟨b, q, none⟩ =
     if off + i * r.width + k ≤ q ∧ q < off + i * r.width + k + us.length then us[q - (off + i * r.width + k)]? else w.cell? ⟨b, q, none⟩ := by
   intro q; rw [cell_of_row _ b q _ ty (0, 0) hg', cell_of_row w b q cur ty (0, 0) hg]; simp only [List.getElem?_toArray]; rw [splice_get (by simp; omega)]; simp
 intro i' x' hx'; rw [List.getElem?_set] at hx'
 by_cases e : i = i'
 · subst e; rw [if_pos rfl] at hx'; have hi : i < xs.length := (List.getElem?_eq_some_iff.1 hx).1; rw [if_pos hi] at hx'; obtain rfl := Option.some.inj hx'; obtain ⟨vs, h1, h2⟩ := (repR_iff r b _ x).1 (hrow i x hx); have hvl := RepVs.length r vs x h2; refine (repR_iff r b _ y).2 ⟨splice vs k us, fun q v hv => ?_, RepVs.stays hst r _ y (hy vs h2)⟩; rw [splice_get (by omega)] at hv; rw [hcell]
   by_cases hq : k ≤ q ∧ q < k + us.length
   · rw [if_pos hq] at hv; rw [if_pos (by omega), show off + i * r.width + q - (off + i * r.width + k) = q - k by omega]; exact hv
   · rw [if_neg hq] at hv; rw [if_neg (by omega)]; exact h1 q v hv
 · rw [if_neg e] at hx'; obtain ⟨vs, h1, h2⟩ := (repR_iff r b _ x').1 (hrow i' x' hx'); have hvl := RepVs.length r vs x' h2; refine (repR_iff r b _ x').2 ⟨vs, fun q v hv => ?_, RepVs.stays hst r _ x' h2⟩; have hq : q < r.width := by rw [← hvl]; exact (List.getElem?_eq_some_iff.1 hv).1
   rw [hcell, if_neg]
   · exact h1 q v hv
   · rintro ⟨g1, g2⟩
     rcases Nat.lt_or_gt_of_ne e with h | h
     · have : (i + 1) * r.width ≤ i' * r.width := Nat.mul_le_mul_right _ h; rw [Nat.add_mul] at this; omega
     · have : (i' + 1) * r.width ≤ i * r.width := Nat.mul_le_mul_right _ h; rw [Nat.add_mul] at this; omega
theorem rows_writtenQ {w : World} {b off : Nat} {r : RT} {xs : List (denR r)} {cur : Array Value} {ty : TypeId}
   (hg : w.heap[b]? = some (.cells cur ty (0, 0))) {Q : Nat → List Value → denR r → Prop} (hrow : ∀ (i : Nat) x, xs[i]? = some x → ∃ vs, w.rangeAt b (off + i * r.width) vs ∧ vs.length = r.width ∧ Q i vs x)
   {i k : Nat} {x y : denR r} {us : List Value} (hx : xs[i]? = some x) (hle : k + us.length ≤ r.width) (hsz : off + i * r.width + r.width ≤ cur.size)
   (hy : ∀ vs, vs.length = r.width → Q i vs x → Q i (splice vs k us) y) :
   ∀ (i' : Nat) x', (xs.set i y)[i']? = some x' → ∃ vs, (w.setRow b (splice cur.toList (off + i * r.width + k) us).toArray).rangeAt b (off + i' * r.width) vs ∧ Q i' vs x' := by
 have hg' := setRow_heap w b cur (splice cur.toList (off + i * r.width + k) us).toArray ty (0, 0) hg; have hcell : ∀ q, (w.setRow b (splice cur.toList (off + i * r.width + k) us).toArray).cell? ⟨b, q, none⟩ =
     if off + i * r.width + k ≤ q ∧ q < off + i * r.width + k + us.length then us[q - (off + i * r.width + k)]? else w.cell? ⟨b, q, none⟩ := by
   intro q; rw [cell_of_row _ b q _ ty (0, 0) hg', cell_of_row w b q cur ty (0, 0) hg]; simp only [List.getElem?_toArray]; rw [splice_get (by simp; omega)]; simp
 intro i' x' hx'; rw [List.getElem?_set] at hx'
 by_cases e : i = i'
 · subst e; rw [if_pos rfl] at hx'; have hi : i < xs.length := (List.getElem?_eq_some_iff.1 hx).1; rw [if_pos hi] at hx'; obtain rfl := Option.some.inj hx'; obtain ⟨vs, h1, hvl, h2⟩ := hrow i x hx; refine ⟨splice vs k us, fun q v hv => ?_, hy vs hvl h2⟩; rw [splice_get (by omega)] at hv; rw [hcell]
   by_cases hq : k ≤ q ∧ q < k + us.length
   · rw [if_pos hq] at hv; rw [if_pos (by omega), show off + i * r.width + q - (off + i * r.width + k) = q - k by omega]; exact hv
   · rw [if_neg hq] at hv; rw [if_neg (by omega)]; exact h1 q v hv
 · rw [if_neg e] at hx'; obtain ⟨vs, h1, hvl, h2⟩ := hrow i' x' hx'; refine ⟨vs, fun q v hv => ?_, h2⟩; have hq : q < r.width := by rw [← hvl]; exact (List.getElem?_eq_some_iff.1 hv).1
   rw [hcell, if_neg]
   · exact h1 q v hv
   · rintro ⟨g1, g2⟩
     rcases Nat.lt_or_gt_of_ne e with h | h
     · have : (i + 1) * r.width ≤ i' * r.width := Nat.mul_le_mul_right _ h; rw [Nat.add_mul] at this; omega
     · have : (i' + 1) * r.width ≤ i * r.width := Nat.mul_le_mul_right _ h; rw [Nat.add_mul] at this; omega
theorem rows_writtenX {w : World} {b off : Nat} {r : RT} {xs : List (denR r)} {cur : Array Value} {ty : TypeId}
   (hg : w.heap[b]? = some (.cells cur ty (0, 0))) {Q : Nat → List Value → denR r → Prop} {i : Nat} (hrow : ∀ (i' : Nat) x, i' ≠ i → xs[i']? = some x → ∃ vs, w.rangeAt b (off + i' * r.width) vs ∧ vs.length = r.width ∧ Q i' vs x)
   {x y : denR r} {us : List Value} (hx : xs[i]? = some x) (hle : us.length = r.width) (hsz : off + i * r.width + r.width ≤ cur.size) (hy : Q i us y) :
   ∀ (i' : Nat) x', (xs.set i y)[i']? = some x' → ∃ vs, (w.setRow b (splice cur.toList (off + i * r.width + 0) us).toArray).rangeAt b (off + i' * r.width) vs ∧ Q i' vs x' := by
 have hg' := setRow_heap w b cur (splice cur.toList (off + i * r.width + 0) us).toArray ty (0, 0) hg; have hcell : ∀ q, (w.setRow b (splice cur.toList (off + i * r.width + 0) us).toArray).cell? ⟨b, q, none⟩ =
     if off + i * r.width ≤ q ∧ q < off + i * r.width + us.length then us[q - (off + i * r.width)]? else w.cell? ⟨b, q, none⟩ := by
   intro q; rw [cell_of_row _ b q _ ty (0, 0) hg', cell_of_row w b q cur ty (0, 0) hg]; simp only [List.getElem?_toArray]; rw [splice_get (by simp; omega)]; simp
 intro i' x' hx'; rw [List.getElem?_set] at hx'
 by_cases e : i = i'
 · subst e; rw [if_pos rfl] at hx'; have hi : i < xs.length := (List.getElem?_eq_some_iff.1 hx).1; rw [if_pos hi] at hx'; obtain rfl := Option.some.inj hx'; refine ⟨us, fun q v hv => ?_, hy⟩; have hq : q < us.length := (List.getElem?_eq_some_iff.1 hv).1; rw [hcell, if_pos (by omega), show off + i * r.width + q - (off + i * r.width) = q by omega]; exact hv
 · rw [if_neg e] at hx'; obtain ⟨vs, h1, hvl, h2⟩ := hrow i' x' (fun h => e h.symm) hx'; refine ⟨vs, fun q v hv => ?_, h2⟩; have hq : q < r.width := by rw [← hvl]; exact (List.getElem?_eq_some_iff.1 hv).1
   rw [hcell, if_neg]
   · exact h1 q v hv
   · rintro ⟨g1, g2⟩
     rcases Nat.lt_or_gt_of_ne e with h | h
     · have : (i + 1) * r.width ≤ i' * r.width := Nat.mul_le_mul_right _ h; rw [Nat.add_mul] at this; omega
     · have : (i' + 1) * r.width ≤ i * r.width := Nat.mul_le_mul_right _ h; rw [Nat.add_mul] at this; omega
end Go.TM
namespace Go.TM
open Go Go.RowKit
def RdS (w : World) (ok : Nat → Prop) (r : RT) (u : Value) (ys : List (denR r)) : Prop :=
 (u = .slice none 0 0 ∧ ys = []) ∨ ∃ a cap, u = .slice (some a) ys.length cap ∧ (ys ≠ [] → a.spot = none) ∧ ∀ (i : Nat) y, ys[i]? = some y → RepR w ok r a.block (a.off + i * r.width) y
def RowsVs (w : World) (ok : Nat → Prop) (r : RT) : List Value → List (denR r) → Prop
 | vs, [] => vs = []
 | vs, x :: xs => ∃ l1 l2, vs = l1 ++ l2 ∧ RepVs w ok r l1 x ∧ RowsVs w ok r l2 xs
theorem RowsVs.length {w : World} {ok : Nat → Prop} {r : RT} : (vs : List Value) → (xs : List (denR r)) → RowsVs w ok r vs xs → vs.length = xs.length * r.width
 | vs, [], h => by simp only [RowsVs] at h; subst h; simp
 | vs, x :: xs, h => by
   obtain ⟨l1, l2, rfl, h1, h2⟩ := h; have a1 := RepVs.length r l1 x h1; have a2 := RowsVs.length l2 xs h2; simp [a1, a2, Nat.add_mul]; omega
theorem RowsVs.stays {w w' : World} {ok ok' : Nat → Prop} (h : Stays w w' ok ok') {r : RT} : (vs : List Value) → (xs : List (denR r)) → RowsVs w ok r vs xs → RowsVs w' ok' r vs xs
 | _, [], hr => hr
 | _, x :: xs, ⟨l1, l2, e, h1, h2⟩ => ⟨l1, l2, e, RepVs.stays h r l1 x h1, RowsVs.stays h l2 xs h2⟩
theorem RowsVs.append {w : World} {ok : Nat → Prop} {r : RT} : (vs us : List Value) → (xs ys : List (denR r)) → RowsVs w ok r vs xs → RowsVs w ok r us ys → RowsVs w ok r (vs ++ us) (xs ++ ys)
 | vs, us, [], ys, h, k => by simp only [RowsVs] at h; subst h; simpa using k
 | vs, us, x :: xs, ys, ⟨l1, l2, e, h1, h2⟩, k => ⟨l1, l2 ++ us, by rw [e, List.append_assoc], h1, RowsVs.append l2 us xs ys h2 k⟩
theorem RowsVs.one {w : World} {ok : Nat → Prop} {r : RT} {vs : List Value} {x : denR r} (h : RepVs w ok r vs x) : RowsVs w ok r vs [x] := ⟨vs, [], by simp, h, rfl⟩
theorem rows_of_rep {w : World} {ok : Nat → Prop} {r : RT} (b : Nat) : (off : Nat) → (xs : List (denR r)) → (∀ (i : Nat) x, xs[i]? = some x → RepR w ok r b (off + i * r.width) x) →
   ∃ vs, w.rangeAt b off vs ∧ RowsVs w ok r vs xs
 | _, [], _ => ⟨[], fun j v h => by simp at h, rfl⟩
 | off, x :: xs, h => by
   obtain ⟨l1, h1, h2⟩ := (repR_iff r b off x).1 (by have := h 0 x rfl; simpa using this); obtain ⟨l2, h3, h4⟩ := rows_of_rep b (off + r.width) xs (fun i y hy => by
     have := h (i + 1) y (by simpa using hy); rw [Nat.add_mul, Nat.one_mul] at this; rw [show off + r.width + i * r.width = off + (i * r.width + r.width) by omega]; exact this)
   have hl := RepVs.length r l1 x h2; refine ⟨l1 ++ l2, fun j v hv => ?_, l1, l2, rfl, h2, h4⟩; rw [List.getElem?_append] at hv
   by_cases hj : j < l1.length
   · rw [if_pos hj] at hv; exact h1 j v hv
   · rw [if_neg hj] at hv; have := h3 _ v hv; rw [show off + r.width + (j - l1.length) = off + j by omega] at this; exact this
theorem rep_of_rows {w : World} {ok : Nat → Prop} {r : RT} {b : Nat} : (off : Nat) → (vs : List Value) → (xs : List (denR r)) → RowsVs w ok r vs xs → w.rangeAt b off vs →
   ∀ (i : Nat) x, xs[i]? = some x → RepR w ok r b (off + i * r.width) x
 | _, _, [], _, _, i, x, h => by simp at h
 | off, vs, y :: xs, ⟨l1, l2, e, h1, h2⟩, hr, i, x, h => by
   subst e; have hl := RepVs.length r l1 y h1
   cases i with
   | zero =>
     simp at h; subst h; rw [repR_iff]; refine ⟨l1, fun j v hv => ?_, h1⟩; have hj : j < l1.length := (List.getElem?_eq_some_iff.1 hv).1; have := hr j v (by rw [List.getElem?_append, if_pos hj]; exact hv); simpa using this
   | succ i =>
     have := rep_of_rows (off + r.width) l2 xs h2 (fun j v hv => by
       have := hr (l1.length + j) v (by rw [List.getElem?_append, if_neg (by omega)]; simpa using hv); rw [show off + r.width + j = off + (l1.length + j) by omega]; exact this) i x (by simpa using h)
     rw [Nat.add_mul, Nat.one_mul]; rw [show off + (i * r.width + r.width) = off + r.width + i * r.width by omega]; exact this
theorem RepTy.one {w : World} {ok : Nat → Prop} {t : Ty} {v : Value} {x : den t} (h : RepTy w ok t v x) : v.oneCell' = true := by
 cases t with
 | int k => rw [repInt.1 h]; rfl
 | bool => rw [repBool.1 h]; rfl
 | str => rw [repStr.1 h]; rfl
 | sl r =>
   rcases (repSl w ok r v x).1 h with ⟨rfl, _⟩ | ⟨a, cap, rfl, _⟩ <;> rfl
theorem RepVs.one {w : World} {ok : Nat → Prop} : (r : RT) → (vs : List Value) → (x : denR r) → RepVs w ok r vs x → ∀ v ∈ vs, v.oneCell' = true
 | .nil, vs, _, h, v, hv => by simp only [RepVs] at h; subst h; simp at hv
 | .cons t r, vs, x, ⟨u, l, e, hx, hr⟩, v, hv => by
   subst e; rcases List.mem_cons.1 hv with rfl | hv
   · exact hx.one
   · exact RepVs.one r l x.2 hr v hv
theorem RowsVs.ones {w : World} {ok : Nat → Prop} {r : RT} : (vs : List Value) → (xs : List (denR r)) → RowsVs w ok r vs xs → ∀ v ∈ vs, v.oneCell' = true
 | vs, [], h, v, hv => by simp only [RowsVs] at h; subst h; simp at hv
 | vs, x :: xs, ⟨l1, l2, e, h1, h2⟩, v, hv => by
   subst e; rcases List.mem_append.1 hv with hv | hv
   · exact RepVs.one r l1 x h1 v hv
   · exact RowsVs.ones l2 xs h2 v hv
theorem withRows_ok {w0 : World} {mu : Mu} {c : Cz} {st : St} {a : Act} {w : World} (h : Rel w0 mu c st a w) {r : RT} {x : CV} {u : Value} (hx : RelC c st w x u)
   {k : List (denR r) → N} {st' : St} (hv : (withRows st r x k).val = some st') : ∃ ys, (k ys).val = some st' ∧ RdS w c.ok r u ys := by
 cases x with
 | shr r' xs =>
   simp only [withRows] at hv
   cases hc : castL r xs with
   | none => simp [hc, N.val] at hv
   | some ys =>
     simp only [hc] at hv; obtain ⟨rfl, rfl⟩ := castL_some hc; refine ⟨_, hv, ?_⟩; rcases (repSl _ _ _ _ _).1 hx with h1 | ⟨a', cap, h1, h2, h3, h4⟩
     · exact .inl h1
     · exact .inr ⟨a', cap, h1, fun hne => (h3 hne).1, h4⟩
 | nn r' xs =>
   simp only [withRows] at hv
   cases hc : castL r xs with
   | none => simp [hc, N.val] at hv
   | some ys =>
     simp only [hc] at hv; obtain ⟨rfl, rfl⟩ := castL_some hc; refine ⟨_, hv, ?_⟩; rcases (repSl _ _ _ _ _).1 hx.1 with h1 | ⟨a', cap, h1, h2, h3, h4⟩
     · exact .inl h1
     · exact .inr ⟨a', cap, h1, fun hne => (h3 hne).1, h4⟩
 | nils => exact ⟨[], by simpa only [withRows] using hv, .inl ⟨hx, rfl⟩⟩
 | ref a' j g vw =>
   simp only [withRows] at hv
   cases hA : arr? st a' j g with
   | none => simp [hA, N.val] at hv
   | some A =>
     simp only [hA] at hv; have hmd : A.md = .sh := by
       cases hm : A.md with
       | sh => rfl
       | dp => rw [hm] at hv; simp [N.val] at hv
       | ho _ => rw [hm] at hv; simp [N.val] at hv
     rw [hmd] at hv; simp only at hv
     cases hc : castL r A.xs with
     | none => simp [hc, N.val] at hv
     | some ys =>
       simp only [hc] at hv; obtain ⟨e, he⟩ := castL_some hc; subst e; simp only at he; subst he; obtain ⟨sl, hs1, hs2, hs3⟩ := arr?_some hA; have hao := h.arrs a' j sl A hs1 hs3; refine ⟨vw.app A.xs, hv, ?_⟩; clear hv; have hs := hx.2.2 A hA
       cases hl : c.lc a' j with
       | nil =>
         unfold SlAt at hs; rw [hl] at hs; exact .inl ⟨hs.1, List.length_eq_zero_iff.1 hs.2⟩
       | «at» b off cap =>
         unfold SlAt at hs; rw [hl] at hs; obtain ⟨ad, k', rfl, hk, hcap, ha⟩ := hs; unfold ArrOk at hao; rw [hl] at hao; obtain ⟨_, _, _, h5⟩ := hao; have hne : vw.app A.xs ≠ [] → k' ≠ 0 := by
           intro hne; have := List.length_pos_iff.2 hne; omega
         refine .inr ⟨ad, k', rfl, fun h => by rw [ha (hne h)], fun i y hy => ?_⟩; have hk0 : k' ≠ 0 := hne (by intro e; rw [e] at hy; simp at hy); rw [ha hk0]; have := (RowsOk.sh hmd).1 h5 _ y (View.app_get vw A.xs hy); have e : off + vw.lo * A.r.width + i * A.r.width = off + (vw.lo + i) * A.r.width := by rw [Nat.add_mul]; omega
         show RepR w c.ok A.r b (off + vw.lo * A.r.width + i * A.r.width) y; rw [e]; exact this
 | _ => simp [withRows, N.val] at hv
theorem Rel.place {w0 : World} {mu : Mu} {c c' : Cz} {st : St} {a : Act} {w w' : World} (h : Rel w0 mu c st a w) {d B : Nat} {s0 : Sl} {A : Arr} {v : Value}
   (hs0 : nth st d = some s0) (hd : d < a.tmps.size)
   (hbx : c'.bx = c.bx) (hlc : ∀ s j, ¬ (s = d ∧ j = 0) → c'.lc s j = c.lc s j) (hown : ∀ k, k ≠ B → c'.own k = c.own k)
   (hoB : c'.own B = some (.sp d 0) ∨ (c'.own B = c.own B ∧ w'.heap[B]? = w.heap[B]?))
   (hB : w.heap.size ≤ B ∨ ∃ s j, c.own B = some (.sp s j) ∧ (s = d ∨ ∀ sl A, nth st s = some sl → nth sl.arrs j ≠ some (some A)))
   (hBn : c'.own B = some (.sp d 0) → B < w'.heap.size)
   (hw : ∀ k, k < w.heap.size → k ≠ B → w'.heap[k]? = w.heap[k]?) (hos : w'.os = w.os ∧ w'.tape = w.tape ∧ w'.output = w.output ∧ w.heap.size ≤ w'.heap.size)
   (hA : ArrOk c' w' d 0 A) (hv1 : v.oneCell' = true) (hv : SlAt (c'.lc d 0) A.r.width 0 A.xs.length v) :
   Rel w0 mu c' (upd (fun s => { s with v := .one (.ref d 0 (s0.ag + 1) .full), arrs := [some A], ag := s0.ag + 1 }) st d) (a.put (some d) v) w' := by
 have hn : ∀ s, nth (upd (fun s => { s with v := .one (.ref d 0 (s0.ag + 1) .full), arrs := [some A], ag := s0.ag + 1 }) st d) s =
     if s = d then some { s0 with v := .one (.ref d 0 (s0.ag + 1) .full), arrs := [some A], ag := s0.ag + 1 } else nth st s := by
   intro s; rw [nth_upd]
   by_cases e : s = d
   · subst e; simp [hs0]
   · simp [e]
 generalize upd (fun s => { s with v := .one (.ref d 0 (s0.ag + 1) .full), arrs := [some A], ag := s0.ag + 1 }) st d = st' at hn ⊢; have hnB : ∀ k, k < w.heap.size → c.ok k → k ≠ B := by
   rintro k hk hok rfl
   rcases hB with hB | ⟨s, j, hB, _⟩
   · omega
   · unfold Cz.ok at hok; rw [hB] at hok; cases hok
 have hst : Stays w w' c.ok c'.ok := ⟨hos.2.2.2, fun k hk hok => hw k hk (hnB k hk hok), fun k hk hok => by unfold Cz.ok; rw [hown k (hnB k hk hok)]; exact hok⟩; have hfw : Fw c st w c' st' w' := {
   stays := hst
   refs := fun a' j g A' hg hA' => by
     by_cases e : a' = d
     · subst e; obtain ⟨sl, k1, k2, k3⟩ := arr?_some hA'; rw [hn, if_pos rfl] at k1; obtain rfl := Option.some.inj k1; simp only at k2; unfold genA at hg; rw [hs0] at hg; simp only at hg; omega
     · have hA0 : arr? st a' j g = some A' := by
         unfold arr? at hA' ⊢; rw [hn, if_neg e] at hA'; exact hA'
       refine ⟨A', hA0, rfl, rfl, hlc a' j (fun h => e h.1), fun _ => ⟨rfl, fun k off cap hl => ?_⟩⟩; have ha := h.arrOf hA0; have hlt := ha.lt hl; unfold ArrOk at ha; rw [hl] at ha; obtain ⟨g1, _⟩ := ha; refine hw k hlt ?_
       rintro rfl
       rcases hB with hB | ⟨s', j', hB, hB'⟩
       · omega
       · rw [hB] at g1
         cases ho : A'.own with
         | true =>
           simp [ho] at g1; obtain ⟨rfl, rfl⟩ := g1; obtain ⟨sl, q1, _, q3⟩ := arr?_some hA0; rcases hB' with hB' | hB'
           · exact e hB'
           · exact hB' sl A' q1 q3
         | false => simp [ho] at g1
   bxs := fun b' g cs' _ hb' => by
     refine ⟨⟨cs', ?_⟩, by rw [hbx]⟩; unfold box? at hb' ⊢; rw [hn] at hb'
     by_cases e : b' = d
     · subst e; simpa [hs0] using hb'
     · simpa [e] using hb'
   gA := fun a' => by
     unfold genA; rw [hn]
     by_cases e : a' = d
     · subst e; simp [hs0]
     · simp [e]
   gB := fun a' => by
     unfold genB; rw [hn]
     by_cases e : a' = d
     · subst e; simp [hs0]
     · simp [e]
   gE := fun a' => by
     unfold epO; rw [hn]
     by_cases e : a' = d
     · subst e; simp [hs0]
     · simp [e] }
 exact {
   regs := fun t => by
     have e1 : getV st' t = if t = d then .one (.ref d 0 (s0.ag + 1) .full) else getV st t := by
       unfold getV; rw [hn]
       by_cases e : t = d <;> simp [e]
     rw [e1, eval_put]
     by_cases e : t = d
     · subst e; simp only [if_true, true_and, hd]; refine ⟨hv1, ?_, fun A' hA' => ?_⟩
       · unfold genA; rw [hn]; simp
       · obtain ⟨sl, k1, k2, k3⟩ := arr?_some hA'; rw [hn, if_pos rfl] at k1; obtain rfl := Option.some.inj k1; simp [nth] at k3; subst k3; exact hv
     · simp only [e, if_false]; rw [if_neg (fun h => e (Option.some.inj h.1).symm)]; exact hfw.relV (h.regs t)
   boxes := fun s sl cs' hs hb => by
     rw [hn] at hs; have hbx' : BoxOk c st w s cs' := by
       by_cases e : s = d
       · subst e; rw [if_pos rfl] at hs; obtain rfl := Option.some.inj hs; exact h.boxes s s0 cs' hs0 hb
       · rw [if_neg e] at hs; exact h.boxes s sl cs' hs hb
     have hlt := h.own_lt hbx'.1; have hne : c.bx s ≠ B := by
       intro e; rcases hB with hB | ⟨s', j, hB, _⟩
       · omega
       · rw [← e, hbx'.1] at hB; cases hB
     exact hbx'.go hfw (by rw [hbx]) (hown _ hne) (hw _ hlt hne)
   arrs := fun s j sl A' hs hA' => by
     rw [hn] at hs
     by_cases e : s = d
     · subst e; rw [if_pos rfl] at hs; obtain rfl := Option.some.inj hs
       cases j with
       | zero => simp [nth] at hA'; subst hA'; exact hA
       | succ j => simp [nth] at hA'
     · rw [if_neg e] at hs; have ha := h.arrs s j sl A' hs hA'; refine ha.go hst (hlc s j (fun h => e h.1)) (fun k g1 => ?_); have hlt : k < w.heap.size := h.own_lt g1; have hne : k ≠ B := by
         rintro rfl
         rcases hB with hB | ⟨s', j', hB, hB'⟩
         · omega
         · rw [hB] at g1; simp at g1; obtain ⟨rfl, rfl⟩ := g1; rcases hB' with hB' | hB'
           · exact e hB'
           · exact hB' sl A' hs hA'
       exact ⟨hw k hlt hne, hown k hne⟩
   owned := fun b l hb => by
     by_cases e : b = B
     · subst e; rcases hoB with hoB | ⟨hoB, _⟩
       · refine ⟨hBn hoB, ?_⟩; rcases hB with hB | ⟨s', j', hB, _⟩
         · exact .inr (.inl (Nat.le_trans h.kept.2.2.2 hB))
         · rcases (h.owned _ _ hB).2 with h2 | h2
           · cases h2
           · exact .inr h2
       · rw [hoB] at hb; have := h.owned b l hb; exact ⟨Nat.lt_of_lt_of_le this.1 hos.2.2.2, this.2⟩
     · rw [hown b e] at hb; have := h.owned b l hb; exact ⟨Nat.lt_of_lt_of_le this.1 hos.2.2.2, this.2⟩
   free := fun b hb h1 => by
     by_cases e : b = B
     · subst e; rcases hB with hB | ⟨s', j', hB, _⟩
       · have := h.kept.2.2.2; omega
       · rcases (h.owned _ _ hB).2 with h2 | h2 | h2
         · cases h2
         · omega
         · exact .inl h2
     · rw [hown b e] at h1; exact h.free b hb h1
   kept := ⟨hos.1.trans h.kept.1, hos.2.1.trans h.kept.2.1, hos.2.2.1.trans h.kept.2.2.1, Nat.le_trans h.kept.2.2.2 hos.2.2.2⟩
   old := fun k hk hm => by
     have hk' := Nat.lt_of_lt_of_le hk h.kept.2.2.2; rw [hw k hk' (fun e => ?_)]
     · exact h.old k hk hm
     · subst e; rcases hB with hB | ⟨s', j', hB, _⟩
       · omega
       · rcases (h.owned _ _ hB).2 with h2 | h2 | h2
         · cases h2
         · omega
         · exact hm h2
   anch := fun p hp => hfw.anch (h.anch p hp)
   plain := h.plain }
end Go.TM
namespace Go.TM
open Go Go.RowKit
theorem Rel.killFw {w0 : World} {mu : Mu} {c : Cz} {st : St} {a : Act} {w : World} (_h : Rel w0 mu c st a w) (s j : Nat) : Fw c st w c (setArr st s j none) w := by
 have hn : ∀ k, ∃ f : Sl → Sl, (∀ x, (f x).v = x.v ∧ (f x).box = x.box ∧ (f x).bg = x.bg ∧ (f x).ag = x.ag ∧
     (∀ i, nth (f x).arrs i = if k = s ∧ i = j then (nth x.arrs i).map (fun _ => none) else nth x.arrs i) ∧ (f x).ep = if k = s then x.ep + 1 else x.ep) ∧ nth (setArr st s j none) k = (nth st k).map f := by
   intro k; unfold setArr
   by_cases e : k = s
   · subst e; refine ⟨fun s => { s with arrs := upd (fun _ => none) s.arrs j, ep := s.ep + 1 }, fun x => ⟨rfl, rfl, rfl, rfl, fun i => ?_, by simp⟩, nth_upd_same _ _ _⟩; simp only [nth_upd, true_and]
   · refine ⟨id, fun x => ⟨rfl, rfl, rfl, rfl, fun i => ?_, by simp [e]⟩, by rw [nth_upd_ne _ _ e]; simp⟩; simp [e]
 generalize setArr st s j none = st' at hn ⊢; exact {
   stays := Stays.refl w _
   refs := fun a' j' g A' _ hA' => by
     obtain ⟨sl, k1, k2, k3⟩ := arr?_some hA'; obtain ⟨f, hf, hk⟩ := hn a'; rw [hk] at k1
     cases hx : nth st a' with
     | none => rw [hx] at k1; simp at k1
     | some x =>
       rw [hx] at k1; simp at k1; subst k1; rw [(hf x).2.2.2.2.1 j'] at k3; rw [(hf x).2.2.2.1] at k2; refine ⟨A', ?_, rfl, rfl, rfl, fun _ => ⟨rfl, fun _ _ _ _ => rfl⟩⟩
       by_cases e : a' = s ∧ j' = j
       · rw [if_pos e] at k3
         cases hq : nth x.arrs j' <;> simp [hq] at k3
       · rw [if_neg e] at k3; unfold arr?; rw [hx]; have : Nat.beq x.ag g = true := by rw [k2]; exact Nat.beq_refl g
         simp [this, k3]
   bxs := fun b g cs' _ hb => by
     refine ⟨⟨cs', ?_⟩, rfl⟩; obtain ⟨f, hf, hk⟩ := hn b; unfold box? at hb ⊢; rw [hk] at hb
     cases hx : nth st b with
     | none => rw [hx] at hb; simp at hb
     | some x => rw [hx] at hb; simpa [(hf x).2.1, (hf x).2.2.1] using hb
   gA := fun b => by
     obtain ⟨f, hf, hk⟩ := hn b; unfold genA; rw [hk]
     cases hx : nth st b with
     | none => simp
     | some x => simp [(hf x).2.2.2.1]
   gB := fun b => by
     obtain ⟨f, hf, hk⟩ := hn b; unfold genB; rw [hk]
     cases hx : nth st b with
     | none => simp
     | some x => simp [(hf x).2.2.1]
   gE := fun b => by
     obtain ⟨f, hf, hk⟩ := hn b; unfold epO; rw [hk]
     cases hx : nth st b with
     | none => simp
     | some x =>
       simp only [Option.map_some]; rw [(hf x).2.2.2.2.2]
       split <;> omega }
theorem Rel.kill {w0 : World} {mu : Mu} {c : Cz} {st : St} {a : Act} {w : World} (h : Rel w0 mu c st a w) (s j : Nat) :
   Rel w0 mu c (setArr st s j none) a w ∧ ∀ sl A, nth (setArr st s j none) s = some sl → nth sl.arrs j ≠ some (some A) := by
 have hn : ∀ k, ∃ f : Sl → Sl, (∀ x, (f x).v = x.v ∧ (f x).box = x.box ∧ (f x).bg = x.bg ∧ (f x).ag = x.ag ∧
     (∀ i, nth (f x).arrs i = if k = s ∧ i = j then (nth x.arrs i).map (fun _ => none) else nth x.arrs i) ∧ (f x).ep = if k = s then x.ep + 1 else x.ep) ∧ nth (setArr st s j none) k = (nth st k).map f := by
   intro k; unfold setArr
   by_cases e : k = s
   · subst e; refine ⟨fun s => { s with arrs := upd (fun _ => none) s.arrs j, ep := s.ep + 1 }, fun x => ⟨rfl, rfl, rfl, rfl, fun i => ?_, by simp⟩, nth_upd_same _ _ _⟩; simp only [nth_upd, true_and]
   · refine ⟨id, fun x => ⟨rfl, rfl, rfl, rfl, fun i => ?_, by simp [e]⟩, by rw [nth_upd_ne _ _ e]; simp⟩; simp [e]
 generalize setArr st s j none = st' at hn ⊢; have hfw : Fw c st w c st' w := {
   stays := Stays.refl w _
   refs := fun a' j' g A' _ hA' => by
     obtain ⟨sl, k1, k2, k3⟩ := arr?_some hA'; obtain ⟨f, hf, hk⟩ := hn a'; rw [hk] at k1
     cases hx : nth st a' with
     | none => rw [hx] at k1; simp at k1
     | some x =>
       rw [hx] at k1; simp at k1; subst k1; rw [(hf x).2.2.2.2.1 j'] at k3; rw [(hf x).2.2.2.1] at k2; refine ⟨A', ?_, rfl, rfl, rfl, fun _ => ⟨rfl, fun _ _ _ _ => rfl⟩⟩
       by_cases e : a' = s ∧ j' = j
       · rw [if_pos e] at k3
         cases hq : nth x.arrs j' <;> simp [hq] at k3
       · rw [if_neg e] at k3; unfold arr?; rw [hx]; have : Nat.beq x.ag g = true := by rw [k2]; exact Nat.beq_refl g
         simp [this, k3]
   bxs := fun b g cs' _ hb => by
     refine ⟨⟨cs', ?_⟩, rfl⟩; obtain ⟨f, hf, hk⟩ := hn b; unfold box? at hb ⊢; rw [hk] at hb
     cases hx : nth st b with
     | none => rw [hx] at hb; simp at hb
     | some x => rw [hx] at hb; simpa [(hf x).2.1, (hf x).2.2.1] using hb
   gA := fun b => by
     obtain ⟨f, hf, hk⟩ := hn b; unfold genA; rw [hk]
     cases hx : nth st b with
     | none => simp
     | some x => simp [(hf x).2.2.2.1]
   gB := fun b => by
     obtain ⟨f, hf, hk⟩ := hn b; unfold genB; rw [hk]
     cases hx : nth st b with
     | none => simp
     | some x => simp [(hf x).2.2.1]
   gE := fun b => by
     obtain ⟨f, hf, hk⟩ := hn b; unfold epO; rw [hk]
     cases hx : nth st b with
     | none => simp
     | some x =>
       simp only [Option.map_some]; rw [(hf x).2.2.2.2.2]
       split <;> omega }
 refine ⟨{
   regs := fun t => by
     obtain ⟨f, hf, hk⟩ := hn t; have : getV st' t = getV st t := by
       unfold getV; rw [hk]
       cases hx : nth st t with
       | none => rfl
       | some x => exact (hf x).1
     rw [this]; exact hfw.relV (h.regs t)
   boxes := fun b sl cs hs hb => by
     obtain ⟨f, hf, hk⟩ := hn b; rw [hk] at hs
     cases hx : nth st b with
     | none => rw [hx] at hs; simp at hs
     | some x =>
       rw [hx] at hs; simp at hs; subst hs; rw [(hf x).2.1] at hb; exact (h.boxes b x cs hx hb).go hfw rfl rfl rfl
   arrs := fun b i sl A hs hA => by
     obtain ⟨f, hf, hk⟩ := hn b; rw [hk] at hs
     cases hx : nth st b with
     | none => rw [hx] at hs; simp at hs
     | some x =>
       rw [hx] at hs; simp at hs; subst hs; rw [(hf x).2.2.2.2.1 i] at hA
       by_cases e : b = s ∧ i = j
       · rw [if_pos e] at hA
         cases hq : nth x.arrs i <;> simp [hq] at hA
       · rw [if_neg e] at hA; exact h.arrs b i x A hx hA
   owned := h.owned
   free := h.free
   kept := h.kept
   old := h.old
   anch := fun p hp => hfw.anch (h.anch p hp)
   plain := h.plain }, fun sl A hs => ?_⟩
 obtain ⟨f, hf, hk⟩ := hn s; rw [hk] at hs
 cases hx : nth st s with
 | none => rw [hx] at hs; simp at hs
 | some x =>
   rw [hx] at hs; simp at hs; subst hs; rw [(hf x).2.2.2.2.1 j, if_pos ⟨rfl, rfl⟩]
   cases nth x.arrs j <;> simp
def Cz.newArr (c : Cz) (d : Nat) (L : Loc) (B : Option Nat) : Cz :=
 { bx := c.bx, lc := fun s j => if s = d ∧ j = 0 then L else c.lc s j, own := fun k => if B = some k then some (.sp d 0) else c.own k }
theorem newArr_some {st : St} {d : Option Nat} {A : Arr} {st' : St} (h : (newArr st d A).val = some st') :
   ∃ k s0, d = some k ∧ nth st k = some s0 ∧ st' = upd (fun s => { s with v := .one (.ref k 0 (s0.ag + 1) .full), arrs := [some A], ag := s0.ag + 1 }) st k := by
 unfold newArr at h
 cases d with
 | none => simp [N.val] at h
 | some k =>
   cases hs : nth st k with
   | none => simp [hs, N.val] at h
   | some s0 =>
     simp only [hs, N.val, Option.some.injEq] at h; exact ⟨k, s0, rfl, hs, h.symm⟩
theorem newBox_some {st : St} {d : Option Nat} {cs : List CV} {st' : St} (h : (newBox st d cs).val = some st') :
   ∃ k s0, d = some k ∧ nth st k = some s0 ∧ st' = upd (fun s => { s with v := .one (.ptr k (s0.bg + 1) 0), box := some cs, bg := s0.bg + 1 }) st k := by
 unfold newBox at h
 cases d with
 | none => simp [N.val] at h
 | some k =>
   cases hs : nth st k with
   | none => simp [hs, N.val] at h
   | some s0 =>
     simp only [hs, N.val, Option.some.injEq] at h; exact ⟨k, s0, rfl, hs, h.symm⟩
theorem Rel.fresh {w0 : World} {mu : Mu} {c : Cz} {st : St} {a : Act} {w : World} (h : Rel w0 mu c st a w) {d : Nat} {s0 : Sl} {r : RT} {xs : List (denR r)} {cur : Array Value} {ty cap : Nat}
   (hs0 : nth st d = some s0) (hd : d < a.tmps.size) (hle : xs.length ≤ cap) (hsz : cap * r.width ≤ cur.size) {vs : List Value} (hvs : RowsVs w c.ok r vs xs) (hpre : cur.toList.take vs.length = vs) :
   ∃ c', Rel w0 mu c' (upd (fun s => { s with v := .one (.ref d 0 (s0.ag + 1) .full), arrs := [some { r := r, own := true, xs := xs }], ag := s0.ag + 1 }) st d)
     (a.put (some d) (.slice (some ⟨w.heap.size, 0, none⟩) xs.length cap)) (w.alloc (.cells cur ty (0, 0))) := by
 have hnew := heap_alloc_new w (.cells cur ty (0, 0)); refine ⟨c.newArr d (.at w.heap.size 0 cap) (some w.heap.size), h.place (B := w.heap.size) (A := { r := r, own := true, xs := xs }) hs0 hd rfl ?_ ?_ (.inl ?_) (.inl (Nat.le_refl _)) (fun _ => by simp) (fun k hk _ => heap_alloc_old w _ k hk)
   ⟨rfl, rfl, rfl, by simp⟩ ?_ rfl ?_⟩
 · intro s j hne; simp [Cz.newArr, hne]
 · intro k hk; simp only [Cz.newArr]; rw [if_neg (by intro e; exact hk (Option.some.inj e).symm)]
 · simp [Cz.newArr]
 · have hst : Stays w (w.alloc (.cells cur ty (0, 0))) c.ok (c.newArr d (.at w.heap.size 0 cap) (some w.heap.size)).ok := stays_alloc w _ _ _ (fun b hb hok => by
     unfold Cz.ok Cz.newArr; simp only; rw [if_neg (by intro e; have := Option.some.inj e; omega)]; exact hok)
   unfold ArrOk; simp only [Cz.newArr, and_self, if_true]; refine ⟨trivial, hle, ⟨cur, ty, hnew, by simpa using hsz⟩, ?_⟩; refine (RowsOk.sh rfl).2 ?_; refine rep_of_rows 0 vs xs (RowsVs.stays hst vs xs hvs) (fun j v hv => ?_); rw [cell_of_row _ _ _ cur ty (0, 0) hnew, Nat.zero_add]; have hj : j < vs.length := (List.getElem?_eq_some_iff.1 hv).1; rw [← hpre, List.getElem?_take, if_pos hj] at hv; simpa using hv
 · simp only [Cz.newArr, and_self, if_true]; exact ⟨_, cap, rfl, hle, by omega, fun _ => by simp⟩
theorem run_append_in {P : Program} {t ty e : TypeId} {i : TypeInfo} (ht : P.underlying t = some (.slice e)) (hi : P.info? e = some i) (w : World)
   (g o sLen sCap : Nat) (cur : Array Value) (te : TypeId) (hg : w.heap[g]? = some (.cells cur te (0, 0)))
   (a : Addr) (m c : Nat) (news : List Value) (hl : news.length = m * i.size) (hnews : ∀ j u, news[j]? = some u → w.cell? (a.add j) = some u) (h1 : ∀ u ∈ news, u.oneCell' = true)
   (hroom : sLen + m ≤ sCap) (hfit : o + sLen * i.size + news.length ≤ cur.size) :
   (Builtin.append_ #[t, t] ty #[.slice (some ⟨g, o, none⟩) sLen sCap, .slice (some a) m c]).run P w =
     .ok (.slice (some ⟨g, o, none⟩) (sLen + m) sCap) (w.setRow g (splice cur.toList (o + sLen * i.size) news).toArray) := by
 have hf := run_firstCells_some (P := P) w i.size m a m c news hl hnews; have hst := run_storeCells_at P g (o + sLen * i.size) te news 0 cur w hg (by simpa using hfit) h1; simp only [Nat.add_zero] at hst; simp [Builtin.append_, run_underlying ht, sizeOf, typeInfo, hi, Builtin.lenOf, hroom, hf, Addr.add_mid, hst, splice]
theorem run_append_nothing {P : Program} {t ty e : TypeId} {i : TypeInfo} (ht : P.underlying t = some (.slice e)) (hi : P.info? e = some i) (w : World) (base : Option Addr) (sLen sCap : Nat) (hle : sLen ≤ sCap)
   (x : Value) (hx : (x = .slice none 0 0) ∨ ∃ a c, x = .slice (some a) 0 c) :
   (Builtin.append_ #[t, t] ty #[.slice base sLen sCap, x]).run P w = .ok (.slice base sLen sCap) w := by
 rcases hx with rfl | ⟨a, c, rfl⟩
 · cases base <;> simp [Builtin.append_, run_underlying ht, sizeOf, typeInfo, hi, Builtin.lenOf, Builtin.firstCells, hle, storeCells]
 · cases base <;> simp [Builtin.append_, run_underlying ht, sizeOf, typeInfo, hi, Builtin.lenOf, Builtin.firstCells, hle, storeCells, loadCells, loadCellsFrom]
end Go.TM
namespace Go.TM
open Go Go.RowKit
def DepVs (w : World) (P : List Nat → Nat → Prop) : (r : RT) → (p : List Nat) → (k : Nat) → List Value → denR r → Prop
 | .nil, _, _, vs, _ => vs = []
 | .cons t r, p, k, vs, x => ∃ v l, vs = v :: l ∧ DepTy w P t (p ++ [k]) v x.1 ∧ DepVs w P r p (k + 1) l x.2
theorem DepVs.length {w : World} {P : List Nat → Nat → Prop} : (r : RT) → (p : List Nat) → (k : Nat) → (vs : List Value) → (x : denR r) → DepVs w P r p k vs x → vs.length = r.width
 | .nil, _, _, vs, _, h => by simp only [DepVs] at h; subst h; rfl
 | .cons t r, p, k, vs, x, h => by
   obtain ⟨v, l, rfl, _, h⟩ := h; simp [RT.width, DepVs.length r p (k + 1) l x.2 h]
theorem depR_iff {w : World} {P : List Nat → Nat → Prop} : (r : RT) → (p : List Nat) → (k b off : Nat) → (x : denR r) → (DepR w P r p k b off x ↔ ∃ vs, w.rangeAt b off vs ∧ DepVs w P r p k vs x)
 | .nil, _, _, _, _, _ => by
   unfold DepR; exact ⟨fun _ => ⟨[], fun j v h => by simp at h, rfl⟩, fun _ => trivial⟩
 | .cons t r, p, k, b, off, x => by
   unfold DepR
   constructor
   · rintro ⟨⟨v, hv, hx⟩, hr⟩
     obtain ⟨vs, h1, h2⟩ := (depR_iff r p (k + 1) b (off + 1) x.2).1 hr; refine ⟨v :: vs, fun j u hu => ?_, v, vs, rfl, hx, h2⟩
     cases j with
     | zero => simp at hu; rw [← hu]; exact hv
     | succ j =>
       simp at hu; rw [show off + (j + 1) = off + 1 + j by omega]; exact h1 j u hu
   · rintro ⟨vs, h1, v, l, rfl, hx, h2⟩
     refine ⟨⟨v, h1 0 v rfl, hx⟩, (depR_iff r p (k + 1) b (off + 1) x.2).2 ⟨l, fun j u hu => ?_, h2⟩⟩; have := h1 (j + 1) u (by simpa using hu); rw [show off + 1 + j = off + (j + 1) by omega]; exact this
theorem DepVs.go {w w' : World} {P P' : List Nat → Nat → Prop} : (r : RT) → (p p' : List Nat) → (hP : ∀ q b, P (p ++ q) b → w'.heap[b]? = w.heap[b]? ∧ P' (p' ++ q) b) → (k : Nat) → (vs : List Value) → (x : denR r) → DepVs w P r p k vs x → DepVs w' P' r p' k vs x
 | .nil, _, _, _, _, _, _, h => h
 | .cons t r, p, p', hP, k, vs, x, h => by
   obtain ⟨v, l, e, h1, h2⟩ := h; refine ⟨v, l, e, DepTy.go t (p ++ [k]) (p' ++ [k]) (fun q b hb => ?_) v x.1 h1, DepVs.go r p p' hP (k + 1) l x.2 h2⟩; have := hP ([k] ++ q) b (by rw [← List.append_assoc]; exact hb); rw [← List.append_assoc] at this; exact this
theorem rowSet_dep {w : World} {P : List Nat → Nat → Prop} {c : Cz} {st : St} {w1 : World} : (r : RT) → (p : List Nat) → (k0 : Nat) → (x : denR r) → (k : Nat) → (y : CV) → (z : denR r) → (vs : List Value) → (u : Value) →
   rowSet r x k y = some z → RelC c st w1 y u → DepVs w P r p k0 vs x → DepVs w P r p k0 (vs.set k u) z
 | .nil, _, _, _, _, _, _, _, _, h, _, _ => by simp [rowSet] at h
 | .cons t r, p, k0, x, 0, y, z, vs, u, h, hu, hv => by
   obtain ⟨v, l, rfl, hx, hr⟩ := hv
   cases t with
   | int k => cases y <;> simp [rowSet] at h
              obtain ⟨rfl, h⟩ := h; obtain rfl := Option.some.inj h; exact ⟨u, l, rfl, depInt.2 hu, hr⟩
   | bool => cases y <;> simp [rowSet] at h
             obtain rfl := Option.some.inj h; exact ⟨u, l, rfl, depBool.2 hu, hr⟩
   | str => cases y <;> simp [rowSet] at h
            obtain rfl := Option.some.inj h; exact ⟨u, l, rfl, depStr.2 hu, hr⟩
   | sl q => cases y <;> simp [rowSet] at h
 | .cons t r, p, k0, x, k + 1, y, z, vs, u, h, hu, hv => by
   obtain ⟨v, l, rfl, hx, hr⟩ := hv; have h' : (rowSet r x.2 k y).map (fun z => ((x.1, z) : denR (.cons t r))) = some z := by cases t <;> (simp only [rowSet] at h; exact h)
   cases hq : rowSet r x.2 k y with
   | none => simp [hq] at h'
   | some z' =>
     rw [hq] at h'; obtain rfl := Option.some.inj h'; exact ⟨v, l.set k u, rfl, hx, rowSet_dep r p (k0 + 1) x.2 k y z' l u hq hu hr⟩
theorem rowPut_dep {w : World} {P : List Nat → Nat → Prop} {c : Cz} {st : St} {w1 : World} (r : RT) (p : List Nat) (k0 : Nat) (x : denR r) : (off : Nat) → (cs : List CV) → (z : denR r) → (vs us : List Value) → off + us.length ≤ vs.length →
   rowPut r x off cs = some z → RelL c st w1 cs us → DepVs w P r p k0 vs x → DepVs w P r p k0 (splice vs off us) z
 | off, [], z, vs, us, _, h, hl, hv => by
   have : us = [] := by have := hl.1; simp at this; exact List.length_eq_zero_iff.1 this.symm
   subst this; simp [rowPut] at h; subst h; simp [splice]; exact hv
 | off, y :: l, z, vs, us, hle, h, hl, hv => by
   cases us with
   | nil => have := hl.1; simp at this
   | cons u us =>
     simp only [rowPut] at h
     cases hq : rowPut r x (off + 1) l with
     | none => simp [hq] at h
     | some y' =>
       simp only [hq] at h; simp at hle; have ih := rowPut_dep r p k0 x (off + 1) l y' vs us (by omega) hq ⟨by have := hl.1; simpa using this, fun i a b ha hb => hl.2 (i + 1) a b (by simpa using ha) (by simpa using hb)⟩ hv; rw [splice_cons (by omega)]; exact rowSet_dep r p k0 y' off y z _ u h (hl.2 0 y u rfl rfl) ih
mutual
theorem RepTy.dep {w : World} {P : List Nat → Nat → Prop} {ok : Nat → Prop} : (t : Ty) → (p : List Nat) → (v : Value) → (x : den t) → RT.slices (.cons t .nil) = false → RepTy w ok t v x → DepTy w P t p v x
 | .int _, _, _, _, _, h => depInt.2 (repInt.1 h)
 | .bool, _, _, _, _, h => depBool.2 (repBool.1 h)
 | .str, _, _, _, _, h => depStr.2 (repStr.1 h)
 | .sl _, _, _, _, hs, _ => by simp [RT.slices] at hs
theorem RepR.dep {w : World} {P : List Nat → Nat → Prop} {ok : Nat → Prop} : (r : RT) → (p : List Nat) → (k b off : Nat) → (x : denR r) → r.slices = false → RepR w ok r b off x → DepR w P r p k b off x
 | .nil, _, _, _, _, _, _, _ => by unfold DepR; trivial
 | .cons t r, p, k, b, off, x, hs, h => by
   unfold RepR at h; unfold DepR; obtain ⟨⟨v, h1, h2⟩, h3⟩ := h; refine ⟨⟨v, h1, RepTy.dep t _ v x.1 ?_ h2⟩, RepR.dep r p (k + 1) b (off + 1) x.2 ?_ h3⟩
   · cases t <;> simp_all [RT.slices]
   · cases t <;> simp_all [RT.slices]
end
theorem DepR.plainRep {w : World} {P : List Nat → Nat → Prop} {ok : Nat → Prop} : (r : RT) → (p : List Nat) → (k b off : Nat) → (x : denR r) → r.slices = false → DepR w P r p k b off x → RepR w ok r b off x
 | .nil, _, _, _, _, _, _, _ => by unfold RepR; trivial
 | .cons t r, p, k, b, off, x, hs, h => by
   unfold DepR at h; unfold RepR; obtain ⟨⟨v, h1, h2⟩, h3⟩ := h; refine ⟨⟨v, h1, ?_⟩, DepR.plainRep r p (k + 1) b (off + 1) x.2 (by cases t <;> simp_all [RT.slices]) h3⟩
   cases t with
   | int _ => exact repInt.2 (depInt.1 h2)
   | bool => exact repBool.2 (depBool.1 h2)
   | str => exact repStr.2 (depStr.1 h2)
   | sl _ => simp [RT.slices] at hs
theorem RowsOk.putSh {c : Cz} {w : World} {l : Lb} {A : Arr} {b off : Nat} (hm : A.md = .sh) {ys : List (denR A.r)} (h : ∀ (i : Nat) x, ys[i]? = some x → RepR w c.ok A.r b (off + i * A.r.width) x) : RowsOk c w l { A with xs := ys } b off := by
 unfold RowsOk; show match A.md with | .sh => _ | .dp => _ | .ho _ => _
 rw [hm]; exact h
def RT.md (q : RT) : Md := bif q.slices then .dp else .sh
theorem absorb1 {c : Cz} {w : World} {s j : Nat} {A : Arr} (h : ArrOk c w s j A) (ho : A.own = true) (hm : A.md = A.r.md) {v : Value} (h1 : v.oneCell' = true) (hv : SlAt (c.lc s j) A.r.width 0 A.xs.length v) :
   ∃ g : Nat → List Nat, ∀ (P : List Nat → Nat → Prop) (p : List Nat), (∀ k, c.own k = some (.sp s j) → P (p ++ g k) k) → DepTy w P (.sl A.r) p v A.xs := by
 unfold ArrOk at h
 cases hl : c.lc s j with
 | nil =>
   rw [hl] at h hv; exact ⟨fun _ => [], fun P p _ => (depSl _ _ _ _ _ _).2 ⟨.nil, hv, h1, .inl ⟨rfl, h⟩⟩⟩
 | «at» b off cap =>
   rw [hl] at h hv; obtain ⟨h0, h2, h3, h4⟩ := h; rw [ho] at h0; unfold RowsOk at h4; rw [hm] at h4; unfold RT.md at h4
   cases hs : A.r.slices with
   | false =>
     rw [hs] at h4; refine ⟨fun _ => [], fun P p hP => (depSl _ _ _ _ _ _).2 ⟨_, hv, h1, .inr ⟨b, off, cap, rfl, ?_, h2, h3, fun i x hx => RepR.dep _ _ _ _ _ x hs (h4 i x hx)⟩⟩⟩; simpa using hP b h0
   | true =>
     rw [hs] at h4; obtain ⟨g, g1, g2⟩ := h4; refine ⟨g, fun P p hP => (depSl _ _ _ _ _ _).2 ⟨_, hv, h1, .inr ⟨b, off, cap, rfl, ?_, h2, h3, fun i x hx => DepR.go _ [i] (p ++ [i]) (fun q k hk => ⟨rfl, ?_⟩) _ _ _ x rfl (g2 i x hx)⟩⟩⟩
     · have := hP b h0
       rwa [g1, List.append_nil] at this
     · have := hP k hk.1; rw [hk.2] at this
       rwa [List.append_assoc]
theorem absorb1' {c : Cz} {w : World} {s j : Nat} {A : Arr} (h : ArrOk c w s j A) (ho : A.own = true) (hm : A.md = A.r.md) :
   ∃ g : Nat → List Nat, ∀ v : Value, v.oneCell' = true → SlAt (c.lc s j) A.r.width 0 A.xs.length v → ∀ (P : List Nat → Nat → Prop) (p : List Nat), (∀ k, c.own k = some (.sp s j) → P (p ++ g k) k) → DepTy w P (.sl A.r) p v A.xs := by
 by_cases e : ∃ v : Value, v.oneCell' = true ∧ SlAt (c.lc s j) A.r.width 0 A.xs.length v
 · unfold ArrOk at h
   cases hl : c.lc s j with
   | nil =>
     rw [hl] at h; exact ⟨fun _ => [], fun v h1 hv P p _ => (depSl _ _ _ _ _ _).2 ⟨.nil, hv, h1, .inl ⟨rfl, h⟩⟩⟩
   | «at» b off cap =>
     rw [hl] at h; obtain ⟨h0, h2, h3, h4⟩ := h; rw [ho] at h0; unfold RowsOk at h4; rw [hm] at h4; unfold RT.md at h4
     cases hs : A.r.slices with
     | false =>
       rw [hs] at h4; refine ⟨fun _ => [], fun v h1 hv P p hP => (depSl _ _ _ _ _ _).2 ⟨_, hv, h1, .inr ⟨b, off, cap, rfl, ?_, h2, h3, fun i x hx => RepR.dep _ _ _ _ _ x hs (h4 i x hx)⟩⟩⟩; simpa using hP b h0
     | true =>
       rw [hs] at h4; obtain ⟨g, g1, g2⟩ := h4; refine ⟨g, fun v h1 hv P p hP => (depSl _ _ _ _ _ _).2 ⟨_, hv, h1, .inr ⟨b, off, cap, rfl, ?_, h2, h3, fun i x hx => DepR.go _ [i] (p ++ [i]) (fun q k hk => ⟨rfl, ?_⟩) _ _ _ x rfl (g2 i x hx)⟩⟩⟩
       · have := hP b h0
         rwa [g1, List.append_nil] at this
       · have := hP k hk.1; rw [hk.2] at this
         rwa [List.append_assoc]
 · exact ⟨fun _ => [], fun v h1 h2 => absurd ⟨v, h1, h2⟩ e⟩
theorem rowDp_ok {w0 : World} {mu : Mu} {c : Cz} {st : St} {a : Act} {w : World} (h : Rel w0 mu c st a w) : (r : RT) → (cs : List CV) → (us : List Value) → RelL c st w cs us → {x : denR r} → {m : List (Option (Nat × Nat))} → rowDp st r cs = some (x, m) →
   m.length = r.width ∧ (∀ (col : Nat) (n : Nat × Nat), m[col]? = some (some n) → ∃ g A, arr? st n.1 n.2 g = some A ∧ A.own = true) ∧
   ∃ G : Nat → Nat → List Nat, ∀ (P : List Nat → Nat → Prop) (p : List Nat) (k0 : Nat), (∀ (col : Nat) (n : Nat × Nat) (k : Nat), m[col]? = some (some n) → c.own k = some (.sp n.1 n.2) → P (p ++ [k0 + col] ++ G col k) k) → DepVs w P r p k0 us x
 | .nil, cs, us, hl, x, m, hv => by
   cases cs with
   | cons _ _ => simp [rowDp] at hv
   | nil =>
     have : us = [] := by have := hl.1; simp at this; exact List.length_eq_zero_iff.1 this.symm
     subst this; simp only [rowDp, Option.some.injEq, Prod.mk.injEq] at hv; obtain ⟨_, rfl⟩ := hv; exact ⟨rfl, fun col n h => by simp at h, fun _ _ => [], fun _ _ _ _ => rfl⟩
 | .cons t r, cs, us, hl, x, m, hv => by
   cases cs with
   | nil => cases t <;> simp [rowDp] at hv
   | cons y cs =>
     cases us with
     | nil => have := hl.1; simp at this
     | cons u us =>
       have hu : RelC c st w y u := hl.2 0 y u rfl rfl; have hl' : RelL c st w cs us := ⟨by have := hl.1; simpa using this, fun i a b ha hb => hl.2 (i + 1) a b (by simpa using ha) (by simpa using hb)⟩; have cell : ∀ (d : den t) (o : Option (Nat × Nat)) (z : denR r) (m' : List (Option (Nat × Nat))), rowDp st r cs = some (z, m') → (∀ n, o = some n → ∃ g A, arr? st n.1 n.2 g = some A ∧ A.own = true) →
           (∃ g : Nat → List Nat, ∀ (P : List Nat → Nat → Prop) (p : List Nat), (∀ n k, o = some n → c.own k = some (.sp n.1 n.2) → P (p ++ g k) k) → DepTy w P t p u d) → x = (d, z) → m = o :: m' →
           m.length = (RT.cons t r).width ∧ (∀ (col : Nat) (n : Nat × Nat), m[col]? = some (some n) → ∃ g A, arr? st n.1 n.2 g = some A ∧ A.own = true) ∧
           ∃ G : Nat → Nat → List Nat, ∀ (P : List Nat → Nat → Prop) (p : List Nat) (k0 : Nat), (∀ (col : Nat) (n : Nat × Nat) (k : Nat), m[col]? = some (some n) → c.own k = some (.sp n.1 n.2) → P (p ++ [k0 + col] ++ G col k) k) → DepVs w P (.cons t r) p k0 (u :: us) x := by
         intro d o z m' hz ho hd e1 e2; subst e1 e2; obtain ⟨g1, g2, G, g3⟩ := rowDp_ok h r cs us hl' hz; obtain ⟨g, hd⟩ := hd; refine ⟨by simp [RT.width, g1], fun col n hc => ?_, fun col => match col with | 0 => g | col + 1 => G col, fun P p k0 hP => ⟨u, us, rfl, hd P _ fun n k hn hk => ?_, g3 P p (k0 + 1) fun col n k hc hk => ?_⟩⟩
         · cases col with
           | zero => exact ho n (by simpa using hc)
           | succ col => exact g2 col n (by simpa using hc)
         · have := hP 0 n k (by simp [hn]) hk; simpa using this
         · have := hP (col + 1) n k (by simpa using hc) hk
           rwa [show k0 + (col + 1) = k0 + 1 + col by omega] at this
       have plain : ∀ (d : den t), (∀ (P : List Nat → Nat → Prop) (p : List Nat), DepTy w P t p u d) → (match rowDp st r cs with | some p => some ((d, p.1), none :: p.2) | none => (none : Option (denR (.cons t r) × List (Option (Nat × Nat))))) = some (x, m) →
           m.length = (RT.cons t r).width ∧ (∀ (col : Nat) (n : Nat × Nat), m[col]? = some (some n) → ∃ g A, arr? st n.1 n.2 g = some A ∧ A.own = true) ∧
           ∃ G : Nat → Nat → List Nat, ∀ (P : List Nat → Nat → Prop) (p : List Nat) (k0 : Nat), (∀ (col : Nat) (n : Nat × Nat) (k : Nat), m[col]? = some (some n) → c.own k = some (.sp n.1 n.2) → P (p ++ [k0 + col] ++ G col k) k) → DepVs w P (.cons t r) p k0 (u :: us) x := by
         intro d hd hv
         cases hz : rowDp st r cs with
         | none => rw [hz] at hv; cases hv
         | some q =>
           rw [hz] at hv; have hv := Option.some.inj hv; exact cell d none q.1 q.2 hz (fun n e => by cases e) ⟨fun _ => [], fun P p _ => hd P p⟩ (congrArg Prod.fst hv).symm (congrArg Prod.snd hv).symm
       cases t with
       | int q =>
         cases y with
         | int l n =>
           simp only [rowDp] at hv
           by_cases e : q = l
           · rw [if_pos e] at hv; exact plain n (fun P p => depInt.2 (by rw [e]; exact hu)) hv
           · rw [if_neg e] at hv; cases hv
         | _ => simp [rowDp] at hv
       | bool =>
         cases y with
         | bool b => exact plain b (fun P p => depBool.2 hu) (by simp only [rowDp] at hv; exact hv)
         | _ => simp [rowDp] at hv
       | str =>
         cases y with
         | str s => exact plain s (fun P p => depStr.2 hu) (by simp only [rowDp] at hv; exact hv)
         | _ => simp [rowDp] at hv
       | sl q =>
         cases y with
         | nils => exact plain ([] : List (denR q)) (fun P p => (depSl _ _ _ _ _ _).2 ⟨.nil, ⟨hu, rfl⟩, by rw [show u = .slice none 0 0 from hu]; rfl, .inl ⟨rfl, rfl⟩⟩) (by simp only [rowDp] at hv; exact hv)
         | ref a' j g vw =>
           cases vw with
           | full =>
             simp only [rowDp] at hv
             cases hA : arr? st a' j g with
             | none => simp [hA] at hv
             | some A =>
               simp only [hA] at hv; obtain ⟨hc, hv'⟩ := bif_some hv; clear hv; rw [Bool.and_eq_true] at hc; have hm := Md.is_iff.1 hc.2
               cases hcl : castL q A.xs with
               | none => rw [hcl] at hv'; cases hv'
               | some ys =>
                 rw [hcl] at hv'; simp only at hv'
                 cases hz : rowDp st r cs with
                 | none => rw [hz] at hv'; cases hv'
                 | some qq =>
                   rw [hz] at hv'; have hv' := Option.some.inj hv'; obtain ⟨e, he⟩ := castL_some hcl; subst e; simp only at he; subst he; refine cell A.xs (some (a', j)) qq.1 qq.2 hz (fun n e => by cases e; exact ⟨g, A, hA, hc.1⟩) ?_ (congrArg Prod.fst hv').symm (congrArg Prod.snd hv').symm; obtain ⟨gg, h2⟩ := absorb1 (h.arrOf hA) hc.1 hm hu.1 (hu.2.2 A hA); exact ⟨gg, fun P p hP => h2 P p fun k hk => hP (a', j) k rfl hk⟩
           | «from» _ => simp [rowDp] at hv
           | sub _ _ => simp [rowDp] at hv
         | _ => simp [rowDp] at hv
theorem killNames_ok {w0 : World} {mu : Mu} {c : Cz} {a : Act} {w : World} : (m : List (Nat × Nat)) → {st : St} → Rel w0 mu c st a w → Rel w0 mu c (killNames st m) a w ∧ (∀ n ∈ m, ∀ sl A, nth (killNames st m) n.1 = some sl → nth sl.arrs n.2 ≠ some (some A)) ∧
   (∀ s j sl A, (s, j) ∉ m → nth st s = some sl → nth sl.arrs j = some (some A) → ∃ sl', nth (killNames st m) s = some sl' ∧ nth sl'.arrs j = some (some A)) ∧ Fw c st w c (killNames st m) w ∧ ∀ s j A, (∀ sl, nth st s = some sl → nth sl.arrs j ≠ some (some A)) → ∀ sl, nth (killNames st m) s = some sl → nth sl.arrs j ≠ some (some A)
 | [], st, h => ⟨h, by simp, fun s j sl A _ h1 h2 => ⟨sl, h1, h2⟩, Fw.refl c st w, fun s j A h => h⟩
 | (s0, j0) :: m, st, h => by
   obtain ⟨k1, k2⟩ := h.kill s0 j0; obtain ⟨h1, h2, h3, h4, h5⟩ := killNames_ok m k1; have hn : ∀ k, ∃ f : Sl → Sl, (∀ x, ∀ i, nth (f x).arrs i = if k = s0 ∧ i = j0 then (nth x.arrs i).map (fun _ => none) else nth x.arrs i) ∧ nth (setArr st s0 j0 none) k = (nth st k).map f := by
     intro k; unfold setArr
     by_cases e : k = s0
     · subst e; refine ⟨fun s => { s with arrs := upd (fun _ => none) s.arrs j0, ep := s.ep + 1 }, fun x i => ?_, nth_upd_same _ _ _⟩; simp only [nth_upd, true_and]
     · refine ⟨id, fun x i => ?_, by rw [nth_upd_ne _ _ e]; simp⟩; simp [e]
   have keep : ∀ s j A, (∀ sl, nth st s = some sl → nth sl.arrs j ≠ some (some A)) → ∀ sl, nth (setArr st s0 j0 none) s = some sl → nth sl.arrs j ≠ some (some A) := by
     intro s j A hq sl hs; obtain ⟨f, hf, hk⟩ := hn s; rw [hk] at hs
     cases hx : nth st s with
     | none => rw [hx] at hs; cases hs
     | some x =>
       rw [hx] at hs; simp at hs; subst hs; rw [hf]
       split
       · cases nth x.arrs j <;> simp
       · exact hq x hx
   refine ⟨h1, fun n hm sl A hs => ?_, fun s j sl A hm hs hA => ?_, ?_, fun s j A hq => h5 s j A (keep s j A hq)⟩
   · rcases List.mem_cons.1 hm with rfl | hm
     · exact h5 s0 j0 A (fun sl hs => k2 sl A hs) sl hs
     · exact h2 n hm sl A hs
   · obtain ⟨f, hf, hk⟩ := hn s; refine h3 s j (f sl) A (fun hm' => hm (List.mem_cons_of_mem _ hm')) (by rw [hk, hs]; rfl) ?_; rw [hf, if_neg]
     · exact hA
     · rintro ⟨rfl, rfl⟩; exact hm List.mem_cons_self
   · refine Fw.trans ?_ h4; exact (h.killFw s0 j0)
open Classical in
noncomputable def Cz.relab (c : Cz) (m : List (Nat × Nat)) (l : Lb) : Cz :=
 { bx := c.bx, lc := c.lc, own := fun k => if ∃ n ∈ m, c.own k = some (.sp n.1 n.2) then some l else c.own k }
theorem Cz.relab_in {c : Cz} {m : List (Nat × Nat)} {l : Lb} {k : Nat} {n : Nat × Nat} (hm : n ∈ m) (h : c.own k = some (.sp n.1 n.2)) : (c.relab m l).own k = some l := by
 unfold Cz.relab; simp only; rw [if_pos ⟨n, hm, h⟩]
theorem Cz.relab_out {c : Cz} {m : List (Nat × Nat)} {l : Lb} {k : Nat} (h : ∀ n ∈ m, c.own k ≠ some (.sp n.1 n.2)) : (c.relab m l).own k = c.own k := by
 unfold Cz.relab; simp only; rw [if_neg]; rintro ⟨n, hm, e⟩; exact h n hm e
theorem Cz.relab_ok {c : Cz} {m : List (Nat × Nat)} {l : Lb} {k : Nat} : (c.relab m l).ok k ↔ c.ok k := by
 unfold Cz.ok
 by_cases h : ∃ n ∈ m, c.own k = some (.sp n.1 n.2)
 · obtain ⟨n, hm, e⟩ := h; rw [Cz.relab_in hm e, e]; simp
 · rw [Cz.relab_out (fun n hm e => h ⟨n, hm, e⟩)]
theorem Fw.relab (c : Cz) (st : St) (w : World) (m : List (Nat × Nat)) (l : Lb) : Fw c st w (c.relab m l) st w :=
 ⟨⟨Nat.le_refl _, fun _ _ _ => rfl, fun _ _ h => Cz.relab_ok.2 h⟩, fun _ _ _ A' _ h => ⟨A', h, rfl, rfl, rfl, fun _ => ⟨rfl, fun _ _ _ _ => rfl⟩⟩, fun _ _ cs' _ h => ⟨⟨cs', h⟩, rfl⟩, fun _ => Nat.le_refl _, fun _ => Nat.le_refl _, fun _ => Nat.le_refl _⟩
theorem Rel.relab {w0 : World} {mu : Mu} {c : Cz} {st : St} {a : Act} {w : World} (h : Rel w0 mu c st a w) {m : List (Nat × Nat)} (hd : ∀ n ∈ m, ∀ sl A, nth st n.1 = some sl → nth sl.arrs n.2 ≠ some (some A)) (s j : Nat) : Rel w0 mu (c.relab m (.sp s j)) st a w where
 regs t := (Fw.relab c st w m _).relV (h.regs t)
 boxes b sl cs hs hb := by
   have h0 := h.boxes b sl cs hs hb; exact h0.go (Fw.relab c st w m _) rfl (Cz.relab_out fun n _ => by rw [h0.1]; simp) rfl
 arrs b i sl A hs hA := by
   have h0 := h.arrs b i sl A hs hA; refine h0.go (Fw.relab c st w m _).stays rfl (fun k hk => ⟨rfl, Cz.relab_out fun n hn e => ?_⟩); rw [hk] at e; injection e with e; injection e with e1 e2; subst e1 e2; exact hd n hn sl A hs hA
 owned b l hb := by
   by_cases e : ∃ n ∈ m, c.own b = some (.sp n.1 n.2)
   · obtain ⟨n, hm, e⟩ := e; rw [Cz.relab_in hm e] at hb
     cases hb
     obtain ⟨h1, h2⟩ := h.owned b _ e; exact ⟨h1, .inr (h2.resolve_left (by simp))⟩
   · rw [Cz.relab_out (fun n hm e' => e ⟨n, hm, e'⟩)] at hb; exact h.owned b l hb
 free b hb h1 := h.free b hb (Cz.relab_ok.1 h1)
 kept := h.kept
 old := h.old
 plain := h.plain
 anch p hp := (Fw.relab c st w m _).anch (h.anch p hp)
theorem distinct_nodup : {m : List (Nat × Nat)} → distinct m = true → m.Nodup
 | [], _ => List.nodup_nil
 | x :: l, h => by
   simp only [distinct, Bool.and_eq_true, List.all_eq_true] at h; refine List.nodup_cons.2 ⟨fun hm => ?_, distinct_nodup h.2⟩; have := h.1 x hm; simp at this
theorem mem_somesP {n : Nat × Nat} : {m : List (Option (Nat × Nat))} → n ∈ somesP m → ∃ col : Nat, m[col]? = some (some n)
 | [], h => by simp [somesP] at h
 | none :: m, h => by
   obtain ⟨col, hc⟩ := mem_somesP (m := m) h; exact ⟨col + 1, by simpa using hc⟩
 | some p :: m, h => by
   rcases List.mem_cons.1 h with rfl | h
   · exact ⟨0, rfl⟩
   · obtain ⟨col, hc⟩ := mem_somesP (m := m) h; exact ⟨col + 1, by simpa using hc⟩
theorem somesP_mem {n : Nat × Nat} : {m : List (Option (Nat × Nat))} → {col : Nat} → m[col]? = some (some n) → n ∈ somesP m
 | [], _, h => by simp at h
 | none :: m, 0, h => by simp at h
 | none :: m, col + 1, h => somesP_mem (m := m) (col := col) (by simpa using h)
 | some p :: m, 0, h => by simp at h; subst h; exact List.mem_cons_self
 | some p :: m, col + 1, h => List.mem_cons_of_mem _ (somesP_mem (m := m) (col := col) (by simpa using h))
theorem somesP_one {n : Nat × Nat} : {m : List (Option (Nat × Nat))} → (somesP m).Nodup → {a b : Nat} → m[a]? = some (some n) → m[b]? = some (some n) → a = b
 | [], _, a, _, h, _ => by simp at h
 | none :: m, hn, a, b, h, h' => by
   cases a with
   | zero => simp at h
   | succ a => cases b with
     | zero => simp at h'
     | succ b => exact congrArg (· + 1) (somesP_one (m := m) (a := a) (b := b) hn (by simpa using h) (by simpa using h'))
 | some p :: m, hn, a, b, h, h' => by
   have hn' := List.nodup_cons.1 hn
   cases a with
   | zero =>
     simp at h; subst h
     cases b with
     | zero => rfl
     | succ b => exact absurd (somesP_mem (m := m) (col := b) (by simpa using h')) hn'.1
   | succ a =>
     cases b with
     | zero => simp at h'; subst h'; exact absurd (somesP_mem (m := m) (col := a) (by simpa using h)) hn'.1
     | succ b => exact congrArg (· + 1) (somesP_one (m := m) (a := a) (b := b) hn'.2 (by simpa using h) (by simpa using h'))
theorem newPlaces {c : Cz} {m : List (Option (Nat × Nat))} (hn : (somesP m).Nodup) (G : Nat → Nat → List Nat) (g : Nat → List Nat) (p : List Nat) (l : Lb) (hl : ∀ n ∈ somesP m, l ≠ .sp n.1 n.2) :
   ∃ g' : Nat → List Nat, (∀ k, c.own k = some l → g' k = g k) ∧ ∀ (col : Nat) (n : Nat × Nat) (k : Nat), m[col]? = some (some n) → c.own k = some (.sp n.1 n.2) → g' k = p ++ [col] ++ G col k := by
 have key : ∀ k, ∃ q : List Nat, (c.own k = some l → q = g k) ∧ ∀ (col : Nat) (n : Nat × Nat), m[col]? = some (some n) → c.own k = some (.sp n.1 n.2) → q = p ++ [col] ++ G col k := by
   intro k
   by_cases e : ∃ (col : Nat) (n : Nat × Nat), m[col]? = some (some n) ∧ c.own k = some (.sp n.1 n.2)
   · obtain ⟨col, n, e1, e2⟩ := e; refine ⟨p ++ [col] ++ G col k, fun h => ?_, fun col' n' h1 h2 => ?_⟩
     · rw [e2] at h; cases h; exact absurd rfl (hl n (somesP_mem e1))
     · rw [e2] at h2; injection h2 with h2; injection h2 with q1 q2; have : n = n' := Prod.ext q1 q2; subst this; rw [somesP_one hn h1 e1]
   · exact ⟨g k, fun _ => rfl, fun col n h1 h2 => absurd ⟨col, n, h1, h2⟩ e⟩
 obtain ⟨g', h⟩ := Classical.axiomOfChoice key; exact ⟨g', fun k => (h k).1, fun col n k => (h k).2 col n⟩
theorem storeN_ok {P : Program} {T : Tab} (hT : TabOk P T) {w0 : World} {mu : Mu} {c : Cz} {st : St} {a : Act} {w : World} (h : Rel w0 mu c st a w)
   {t : Nat} {x v : V} {ux uv : Value} (hx : RelV c st w x ux) (hv : RelV c st w v uv) {st' : St} (hs : (storeN T st t x v).val = some st') :
   ∃ w', (Instr.storeAt t ux uv).run P w = .ok () w' ∧ ∃ c', Rel w0 mu c' st' a w' := by
 cases hn : T.cells t with
 | none => cases x with
   | one y => cases y <;> simp [storeN, hn, N.val] at hs
   | agg _ => simp [storeN, N.val] at hs
   | tup _ => simp [storeN, N.val] at hs
 | some n => cases x with
   | agg _ => simp [storeN, N.val] at hs
   | tup _ => simp [storeN, N.val] at hs
   | one y => cases y with
     | bad | int _ _ | bool _ | str _ | nils | nilp | shr _ _ | nn _ _ | ref _ _ _ _ | rpt _ _ _ | rptl _ _ _ | fn _ _ _ | dref _ _ _ _ _ _ _ _ => simp [storeN, N.val] at hs
     | ptr b g off =>
       simp only [storeN, hn] at hs
       cases hb : box? st b g with
       | none => simp [hb, N.val] at hs
       | some cs =>
         simp only [hb] at hs; obtain ⟨hc, hs⟩ := bifN_some hs; rw [Bool.and_eq_true] at hc
         cases hp : putCells cs off v.cells with
         | none => simp [hp, N.val] at hs
         | some l =>
           simp only [hp, N.val, Option.some.injEq] at hs; subst hs; obtain ⟨hle, rfl⟩ := putCells_some hp; obtain ⟨sl, hs1, hs2, hs3⟩ := box?_some hb; obtain ⟨ho, vs, ty, hh, hl⟩ := h.boxes b sl cs hs1 hs3; obtain ⟨hcl, hone⟩ := hv.cells hc.1; have hu := hx.2.2 cs hb; subst hu; have hlen : uv.cells.toList.length = n := by rw [← hcl.1]; exact Nat.eq_of_beq_eq_true hc.2
           have hvl := hl.1; have hcl1 := hcl.1; refine ⟨_, run_storeAt hT hn w (c.bx b) off uv hlen hone hh (by simp at hvl ⊢; omega), c, ?_⟩; refine h.storeBox hs1 hs3 hh ?_; simpa using hl.splice hcl off hle
     | ept a' j g i off =>
       simp only [storeN, hn] at hs
       cases hA : arr? st a' j g with
       | none => simp [hA, N.val] at hs
       | some A =>
         simp only [hA] at hs; obtain ⟨hc, hz⟩ := bifN_some hs; clear hs; rw [Bool.and_eq_true, Bool.and_eq_true, Bool.and_eq_true] at hc; obtain ⟨⟨⟨hsol, hown⟩, hlen0⟩, hn0⟩ := hc; have hn0 : 0 < n := by simp [Nat.blt] at hn0; omega
         obtain ⟨sl, hs1, hs2, hs3⟩ := arr?_some hA; have hao := h.arrs a' j sl A hs1 hs3; obtain ⟨hi, b, o, cap, hlc, hu⟩ := hx.2.2 A hA; have hao' := hao; unfold ArrOk at hao'; rw [hlc] at hao'; obtain ⟨ho, hcap, ⟨cur, ty, hg, hsz⟩, hrow⟩ := hao'; rw [hown] at ho; obtain ⟨hcl, hone⟩ := hv.cells hsol; have hlen : uv.cells.toList.length = n := by rw [← hcl.1]; exact Nat.eq_of_beq_eq_true hlen0
         have hbig : o + i * A.r.width + A.r.width ≤ cur.size := by
           have : (i + 1) * A.r.width ≤ cap * A.r.width := Nat.mul_le_mul_right _ (by omega); rw [Nat.add_mul] at this; omega
         subst hu
         cases hw : Nat.beq n A.r.width && A.r.slices && Nat.beq off 0 with
         | false =>
           rw [hw] at hz; simp only [cond_false] at hz
           cases hm : A.md with
           | ho _ => rw [hm] at hz; simp [N.val, Md.hol] at hz
           | sh =>
             rw [hm] at hz; simp only [Md.hol, cond_false] at hz; have hrow := (RowsOk.sh hm).1 hrow
             cases hxi : A.xs[i]? with
             | none => simp [hxi, N.val] at hz
             | some x0 =>
               simp only [hxi] at hz; change (match rowPut A.r x0 off v.cells with | some y => N.done (setArr st a' j (some (A.put (A.xs.set i y)))) | none => N.fail).val = some st' at hz
               cases hp : rowPut A.r x0 off v.cells with
               | none => simp [hp, N.val] at hz
               | some y =>
                 simp only [hp, N.val, Option.some.injEq] at hz; subst hz; have hcl1 := hcl.1; have hbd : off + uv.cells.toList.length ≤ A.r.width := by
                   rw [← hcl1]; exact rowPut_bound A.r x0 off v.cells hp (by intro e; rw [e] at hcl1; simp at hcl1; simp at hlen; omega)
                 refine ⟨_, run_storeAt hT hn w b (o + i * A.r.width + off) uv hlen hone hg (by omega), c, ?_⟩; exact h.storeArr hs1 hs3 hown hlc hg (by rw [List.size_toArray, splice_length (by simp at hbd ⊢; omega)]; simp) (by simp)
                   (RowsOk.putSh hm (rows_written ho hg hrow hxi hbd hbig (fun vs hvs => rowPut_rep A.r x0 off v.cells y vs _ (by rw [RepVs.length A.r vs x0 hvs]; exact hbd) hp hcl hvs)))
           | dp =>
             rw [hm] at hz; simp only [Md.hol, cond_false] at hz; unfold RowsOk at hrow; rw [hm] at hrow; obtain ⟨gg, hg0, hrow⟩ := hrow
             cases hxi : A.xs[i]? with
             | none => simp [hxi, N.val] at hz
             | some x0 =>
               simp only [hxi] at hz; change (match rowPut A.r x0 off v.cells with | some y => N.done (setArr st a' j (some (A.put (A.xs.set i y)))) | none => N.fail).val = some st' at hz
               cases hp : rowPut A.r x0 off v.cells with
               | none => simp [hp, N.val] at hz
               | some y =>
                 simp only [hp, N.val, Option.some.injEq] at hz; subst hz; have hcl1 := hcl.1; have hbd : off + uv.cells.toList.length ≤ A.r.width := by
                   rw [← hcl1]; exact rowPut_bound A.r x0 off v.cells hp (by intro e; rw [e] at hcl1; simp at hcl1; simp at hlen; omega)
                 refine ⟨_, run_storeAt hT hn w b (o + i * A.r.width + off) uv hlen hone hg (by omega), c, ?_⟩; refine h.storeArr hs1 hs3 hown hlc hg (by rw [List.size_toArray, splice_length (by simp at hbd ⊢; omega)]; simp) (by simp) ?_; unfold RowsOk; show match A.md with | .sh => _ | .dp => _ | .ho _ => _
                 rw [hm]; refine ⟨gg, hg0, fun i' x' hx' => ?_⟩; obtain ⟨vs, q1, q2⟩ := rows_writtenQ hg (Q := fun i vs x => DepVs w (fun p k => c.own k = some (.sp a' j) ∧ gg k = p) A.r [i] 0 vs x) (fun i x hx => by
                   obtain ⟨vs, q1, q2⟩ := (depR_iff _ _ _ _ _ _).1 (hrow i x hx); exact ⟨vs, q1, DepVs.length _ _ _ _ _ q2, q2⟩) hxi hbd hbig (fun vs hvl hvs => rowPut_dep A.r [i] 0 x0 off v.cells y vs _ (by rw [hvl]; exact hbd) hp hcl hvs) i' x' hx'
                 refine (depR_iff _ _ _ _ _ _).2 ⟨vs, q1, DepVs.go _ [i'] [i'] (fun q k hk => ⟨setRow_other w b k _ ?_, hk⟩) 0 vs x' q2⟩
                 rintro rfl
                 rw [hg0] at hk; simp at hk
         | true =>
           rw [hw] at hz; simp only [cond_true] at hz; rw [Bool.and_eq_true, Bool.and_eq_true] at hw; have hnW := Nat.eq_of_beq_eq_true hw.1.1; have hoff := Nat.eq_of_beq_eq_true hw.2; subst hoff; have hul : uv.cells.toList.length = A.r.width := by rw [hlen, hnW]
           have hspl : ∀ vs : List Value, vs.length = A.r.width → splice vs 0 uv.cells.toList = uv.cells.toList := by
             intro vs hvl; unfold splice; rw [List.drop_eq_nil_of_le (by omega)]; simp
           cases hm : A.md with
           | ho q0 =>
             rw [hm] at hz; simp only at hz
             cases hrd : rowDp st A.r v.cells with
             | none => rw [hrd] at hz; simp [N.val] at hz
             | some pq =>
               obtain ⟨x1, m⟩ := pq; rw [hrd] at hz; simp only at hz; obtain ⟨hma, h1⟩ := bifN_some hz; clear hz; rw [Bool.and_eq_true] at hma; have hnd := distinct_nodup hma.1; have hnm : (a', j) ∉ somesP m := by
                 intro hmem; have := List.all_eq_true.1 hma.2 _ hmem; simp at this
               obtain ⟨hiq, h1'⟩ : Nat.beq i q0 = true ∧ (N.row A.r A.xs[i]? (fun _ => N.done (setArr (killNames st (somesP m)) a' j (some { A.put (A.xs.set i x1) with md := .dp })))).val = some st' := by
                 cases hb : Nat.beq i q0 with
                 | true => rw [hb] at h1; exact ⟨rfl, h1⟩
                 | false => rw [hb] at h1; cases h1
               have hiq := Nat.eq_of_beq_eq_true hiq; clear h1; have h1 := h1'; clear h1'; subst hiq
               cases hxi : A.xs[i]? with
               | none => simp [hxi, N.val] at h1
               | some x0 =>
                 simp only [hxi] at h1; change some _ = some st' at h1; obtain rfl := Option.some.inj h1; obtain ⟨hml, hmo, G, hG⟩ := rowDp_ok h A.r v.cells _ hcl hrd; unfold RowsOk at hrow; rw [hm] at hrow; obtain ⟨gg, hg0, hrow⟩ := hrow hown; obtain ⟨hk1, hk2, hk3, _, _⟩ := killNames_ok (somesP m) h; have hR := hk1.relab hk2 a' j; obtain ⟨sl', g1, g2⟩ := hk3 a' j sl A hnm hs1 hs3; have hlne : ∀ n ∈ somesP m, Lb.sp a' j ≠ .sp n.1 n.2 := by
                   intro n hn e; injection e with e1 e2; exact hnm (by rw [show (a', j) = n from Prod.ext e1 e2]; exact hn)
                 obtain ⟨g', p1, p2⟩ := newPlaces (c := c) hnd G gg [i] (.sp a' j) hlne; have hkeep : ∀ k, c.own k = some (.sp a' j) → (c.relab (somesP m) (.sp a' j)).own k = some (.sp a' j) := by
                   intro k hk; rw [Cz.relab_out (fun n hn e => by rw [hk] at e; exact hlne n hn (Option.some.inj e))]; exact hk
                 refine ⟨_, run_storeAt hT hn w b (o + i * A.r.width + 0) uv hlen hone hg (by omega), c.relab (somesP m) (.sp a' j), ?_⟩; refine hR.storeArrM (A := A) (ys := A.xs.set i x1) (md' := .dp) g1 g2 hown hlc hg (by rw [List.size_toArray, splice_length (by simp at hul ⊢; omega)]; simp) (by simp) ?_; unfold RowsOk; show ∃ g, _; refine ⟨g', by rw [p1 b ho]; exact hg0, fun i' x' hx' => ?_⟩; have hbne : ∀ q k, g' k = [i'] ++ q → k ≠ b := by
                   rintro q k hk rfl
                   rw [p1 k ho, hg0] at hk; simp at hk
                 obtain ⟨vs, q1, q2⟩ := rows_writtenX hg (Q := fun i vs x => DepVs w (fun p k => (c.relab (somesP m) (.sp a' j)).own k = some (.sp a' j) ∧ g' k = p) A.r [i] 0 vs x) (fun i x hne hx => by
                   obtain ⟨vs, q1, q2⟩ := (depR_iff _ _ _ _ _ _).1 (hrow i x hne hx); exact ⟨vs, q1, DepVs.length _ _ _ _ _ q2, DepVs.go _ [i] [i] (fun q k hk => ⟨rfl, hkeep k hk.1, by rw [p1 k hk.1]; exact hk.2⟩) 0 vs x q2⟩) hxi hul hbig (by
                     refine hG _ [i] 0 fun col n k hc hk => ⟨Cz.relab_in (somesP_mem hc) hk, ?_⟩
                     rw [p2 col n k hc hk, Nat.zero_add]) i' x' hx'
                 exact (depR_iff _ _ _ _ _ _).2 ⟨vs, q1, DepVs.go _ [i'] [i'] (fun q k hk => ⟨setRow_other w b k _ (hbne q k hk.2), hk⟩) 0 vs x' q2⟩
           | sh =>
             rw [hm] at hz; simp only at hz; have hrow := (RowsOk.sh hm).1 hrow; obtain ⟨x1, m, h1, h2, h3⟩ := rowOf_ok h A.r v.cells _ hcl _ hz; obtain ⟨hma, h1⟩ := bifN_some h1
             cases hxi : A.xs[i]? with
             | none => simp [hxi, N.val] at h1
             | some x0 =>
               simp only [hxi] at h1; change some _ = some st' at h1; obtain rfl := Option.some.inj h1; have hnm : (a', j) ∉ m := by
                 intro hmem; have := List.all_eq_true.1 hma _ hmem; simp at this
               have hf := h.freeze m; obtain ⟨sl', g1, g2⟩ := freeze_arr m hs1 hs3 hnm; have hlc' : (c.drop m).lc a' j = .at b o cap := by rw [(Cz.drop_lc m c).1]; exact hlc
               have ho' : (c.drop m).own b = some (.sp a' j) := Cz.drop_keep m c b ho (fun p hp => by
                 intro e; injection e with e1 e2; exact hnm (by rw [e1, e2]; exact hp))
               have hrow' : ∀ (i : Nat) x, A.xs[i]? = some x → RepR w (c.drop m).ok A.r b (o + i * A.r.width) x := fun i x hx =>
                 RepR.stays (Fw.freeze w m c st).stays _ _ _ x rfl (hrow i x hx)
               have hx1 : RepVs w (c.drop m).ok A.r uv.cells.toList x1 := h3 _ (fun k hk => Cz.drop_ok m c k hk) (fun p hp k hk => Cz.drop_sp m c k hk hp); refine ⟨_, run_storeAt hT hn w b (o + i * A.r.width + 0) uv hlen hone hg (by omega), c.drop m, ?_⟩; refine hf.storeArr g1 g2 hown hlc' hg (by rw [List.size_toArray, splice_length (by simp at hul ⊢; omega)]; simp) (by simp) (RowsOk.putSh hm ?_); refine rows_written ho' hg hrow' hxi (k := 0) (by omega) hbig (fun vs hvs => ?_); rw [hspl vs (RepVs.length A.r vs x0 hvs)]; exact hx1
           | dp =>
             rw [hm] at hz; simp only at hz
             cases hrd : rowDp st A.r v.cells with
             | none => rw [hrd] at hz; simp [N.val] at hz
             | some pq =>
               obtain ⟨x1, m⟩ := pq; rw [hrd] at hz; simp only at hz; obtain ⟨hma, h1⟩ := bifN_some hz; clear hz; rw [Bool.and_eq_true] at hma; have hnd := distinct_nodup hma.1; have hnm : (a', j) ∉ somesP m := by
                 intro hmem; have := List.all_eq_true.1 hma.2 _ hmem; simp at this
               cases hxi : A.xs[i]? with
               | none => simp [hxi, N.val] at h1
               | some x0 =>
                 simp only [hxi] at h1; change some _ = some st' at h1; obtain rfl := Option.some.inj h1; obtain ⟨hml, hmo, G, hG⟩ := rowDp_ok h A.r v.cells _ hcl hrd; unfold RowsOk at hrow; rw [hm] at hrow; obtain ⟨gg, hg0, hrow⟩ := hrow; obtain ⟨hk1, hk2, hk3, _, _⟩ := killNames_ok (somesP m) h; have hR := hk1.relab hk2 a' j; obtain ⟨sl', g1, g2⟩ := hk3 a' j sl A hnm hs1 hs3; have hlne : ∀ n ∈ somesP m, Lb.sp a' j ≠ .sp n.1 n.2 := by
                   intro n hn e; injection e with e1 e2; exact hnm (by rw [show (a', j) = n from Prod.ext e1 e2]; exact hn)
                 obtain ⟨g', p1, p2⟩ := newPlaces (c := c) hnd G gg [i] (.sp a' j) hlne; have hkeep : ∀ k, c.own k = some (.sp a' j) → (c.relab (somesP m) (.sp a' j)).own k = some (.sp a' j) := by
                   intro k hk; rw [Cz.relab_out (fun n hn e => by rw [hk] at e; exact hlne n hn (Option.some.inj e))]; exact hk
                 refine ⟨_, run_storeAt hT hn w b (o + i * A.r.width + 0) uv hlen hone hg (by omega), c.relab (somesP m) (.sp a' j), ?_⟩; refine hR.storeArr g1 g2 hown hlc hg (by rw [List.size_toArray, splice_length (by simp at hul ⊢; omega)]; simp) (by simp) ?_; unfold RowsOk; show match A.md with | .sh => _ | .dp => _ | .ho _ => _
                 rw [hm]; refine ⟨g', by rw [p1 b ho]; exact hg0, fun i' x' hx' => ?_⟩; have hbne : ∀ q k, g' k = [i'] ++ q → k ≠ b := by
                   rintro q k hk rfl
                   rw [p1 k ho, hg0] at hk; simp at hk
                 obtain ⟨vs, q1, q2⟩ := rows_writtenQ hg (Q := fun i vs x => DepVs w (fun p k => (c.relab (somesP m) (.sp a' j)).own k = some (.sp a' j) ∧ g' k = p) A.r [i] 0 vs x) (fun i x hx => by
                   obtain ⟨vs, q1, q2⟩ := (depR_iff _ _ _ _ _ _).1 (hrow i x hx); exact ⟨vs, q1, DepVs.length _ _ _ _ _ q2, DepVs.go _ [i] [i] (fun q k hk => ⟨rfl, hkeep k hk.1, by rw [p1 k hk.1]; exact hk.2⟩) 0 vs x q2⟩) hxi (k := 0) (us := uv.cells.toList) (by omega) hbig (fun vs hvl _ => by
                     rw [hspl vs hvl]; refine hG _ [i] 0 fun col n k hc hk => ⟨Cz.relab_in (somesP_mem hc) hk, ?_⟩
                     rw [p2 col n k hc hk, Nat.zero_add]) i' x' hx'
                 exact (depR_iff _ _ _ _ _ _).2 ⟨vs, q1, DepVs.go _ [i'] [i'] (fun q k hk => ⟨setRow_other w b k _ (hbne q k hk.2), hk⟩) 0 vs x' q2⟩
end Go.TM
namespace Go.TM
open Go Go.RowKit
theorem Fw.heap {c : Cz} {st : St} {w w' : World} (hh : w'.heap = w.heap) : Fw c st w c st w' where
 stays := ⟨by rw [hh]; exact Nat.le_refl _, fun b _ _ => by rw [hh], fun _ _ h => h⟩
 refs _ _ _ A' _ h := ⟨A', h, rfl, rfl, rfl, fun _ => ⟨rfl, fun _ _ _ _ => by rw [hh]⟩⟩
 bxs _ _ cs' _ h := ⟨⟨cs', h⟩, rfl⟩
 gA _ := Nat.le_refl _
 gB _ := Nat.le_refl _
 gE _ := Nat.le_refl _
theorem Rel.heap {w0 : World} {mu : Mu} {c : Cz} {st : St} {a : Act} {w w' : World} (h : Rel w0 mu c st a w) (hh : w'.heap = w.heap) (ho : w'.os = w.os ∧ w'.tape = w.tape ∧ w'.output = w.output) :
   Rel w0 mu c st a w' where
 regs t := (Fw.heap hh).relV (h.regs t)
 boxes s sl cs hs hb := (h.boxes s sl cs hs hb).go (Fw.heap hh) rfl rfl (by rw [hh])
 arrs s j sl A hs hA := (h.arrs s j sl A hs hA).go (Fw.heap (c := c) (st := st) hh).stays rfl (fun b _ => ⟨by rw [hh], rfl⟩)
 owned b l hb := by rw [hh]; exact h.owned b l hb
 free := h.free
 kept := ⟨ho.1.trans h.kept.1, ho.2.1.trans h.kept.2.1, ho.2.2.trans h.kept.2.2.1, by rw [hh]; exact h.kept.2.2.2⟩
 old k hk hm := by rw [hh]; exact h.old k hk hm
 anch p hp := (Fw.heap hh).anch (h.anch p hp)
 plain := h.plain
theorem Rel.drew {w0 : World} {mu : Mu} {c : Cz} {st : St} {a : Act} {w : World} (h : Rel w0 mu c st a w) : Rel w0 mu c st a w.drew := h.heap rfl ⟨rfl, rfl, rfl⟩
theorem ZeroL.length : (r : RT) → (vs : List Value) → ZeroL r vs → vs.length = r.width
 | .nil, vs, h => by simp only [ZeroL] at h; subst h; rfl
 | .cons (.int _) r, vs, ⟨l, h, h'⟩ => by subst h; simp [RT.width, ZeroL.length r l h']
 | .cons .bool r, vs, ⟨l, h, h'⟩ => by subst h; simp [RT.width, ZeroL.length r l h']
 | .cons .str r, vs, ⟨l, h, h'⟩ => by subst h; simp [RT.width, ZeroL.length r l h']
 | .cons (.sl _) r, vs, ⟨l, h, h'⟩ => by subst h; simp [RT.width, ZeroL.length r l h']
theorem RdS.cells {w : World} {ok : Nat → Prop} {r : RT} {u : Value} {ys : List (denR r)} (h : RdS w ok r u ys) :
   (ys = [] ∧ (u = .slice none 0 0 ∨ ∃ a c, u = .slice (some a) 0 c)) ∨
   (ys ≠ [] ∧ ∃ a c vs, u = .slice (some a) ys.length c ∧ RowsVs w ok r vs ys ∧ ∀ (j : Nat) v, vs[j]? = some v → w.cell? (a.add j) = some v) := by
 rcases h with ⟨rfl, rfl⟩ | ⟨a, c, rfl, hs, hr⟩
 · exact .inl ⟨rfl, .inl rfl⟩
 · by_cases e : ys = []
   · subst e; exact .inl ⟨rfl, .inr ⟨a, c, rfl⟩⟩
   · obtain ⟨vs, h1, h2⟩ := rows_of_rep a.block a.off ys hr; refine .inr ⟨e, a, c, vs, rfl, h2, fun j v hv => ?_⟩; have : a = ⟨a.block, a.off, none⟩ := by have := hs e; cases a; simp at this ⊢; exact this
     rw [this, Addr.add_mid]; exact h1 j v hv
theorem append_raw {P : Program} {T : Tab} (hT : TabOk P T) {w : World} {t ty : Nat} {r : RT} {bytes : Nat} (ht : T.elem t = some (r, bytes)) {ux uy : Value} {nx ny : Nat} {vx vy : List Value} {xb : Option Nat}
   (hb : (nx + ny) * bytes ≤ lim) (hvx : vx.length = nx * r.width) (hvy : vy.length = ny * r.width) (oy : ∀ u ∈ vy, u.oneCell' = true)
   (hy : (ny = 0 ∧ (uy = .slice none 0 0 ∨ ∃ a c, uy = .slice (some a) 0 c)) ∨ (ny ≠ 0 ∧ ∃ a c, uy = .slice (some a) ny c ∧ ∀ (j : Nat) v, vy[j]? = some v → w.cell? (a.add j) = some v))
   (hx : (xb = none ∧ ux = .slice none 0 0 ∧ nx = 0) ∨ ∃ b off lo cap n ad cur te, xb = some b ∧ ux = .slice (some ad) nx n ∧ nx ≤ n ∧ lo + n ≤ cap ∧ (n ≠ 0 → ad = ⟨b, off + lo * r.width, none⟩) ∧
     w.heap[b]? = some (.cells cur te (0, 0)) ∧ off + cap * r.width ≤ cur.size ∧ w.rangeAt b (off + lo * r.width) vx) :
   ∃ v w', (Builtin.append_ #[t, t] ty #[ux, uy]).run P w = .ok v w' ∧ (w'.os = w.os ∧ w'.tape = w.tape ∧ w'.output = w.output ∧ w.heap.size ≤ w'.heap.size) ∧
     ((nx = 0 ∧ ny = 0 ∧ w' = w ∧ v = .slice none 0 0) ∨ ∃ B o cp cur te, v.oneCell' = true ∧ SlAt (.at B o cp) r.width 0 (nx + ny) v ∧ nx + ny ≤ cp ∧ w'.heap[B]? = some (.cells cur te (0, 0)) ∧ o + cp * r.width ≤ cur.size ∧
       w'.rangeAt B o (vx ++ vy) ∧ (∀ k, k < w.heap.size → k ≠ B → w'.heap[k]? = w.heap[k]?) ∧ (w.heap.size ≤ B ∨ xb = some B)) := by
 obtain ⟨e, i, z, hu, hi, hsz, hwid, hby, hbpos, hz, hzl⟩ := hT.elem t r bytes ht; have hzlen : z.cells.size = r.width := by have := ZeroL.length r _ hzl; simpa using this
 have hlim : (nx + ny) * bytes ≤ 140737488355328 := by unfold lim at hb; omega
 have hneed : nx + ny ≤ 140737488355328 := by
   have : (nx + ny) * 1 ≤ (nx + ny) * bytes := Nat.mul_le_mul_left _ hbpos; omega
 have grown : ∀ (old : Nat) (run : (Builtin.append_ #[t, t] ty #[ux, uy]).run P w = .ok (.slice (some ⟨w.heap.size, 0, none⟩) (nx + ny) (grownCap w (nx + ny) old e)) (w.drew.alloc (.cells (vx.toArray ++ vy.toArray ++ Builtin.zeroCells z.cells (grownCap w (nx + ny) old e - (nx + ny))) e (0, 0)))),
     ∃ v w', (Builtin.append_ #[t, t] ty #[ux, uy]).run P w = .ok v w' ∧ (w'.os = w.os ∧ w'.tape = w.tape ∧ w'.output = w.output ∧ w.heap.size ≤ w'.heap.size) ∧
     ((nx = 0 ∧ ny = 0 ∧ w' = w ∧ v = .slice none 0 0) ∨ ∃ B o cp cur te, v.oneCell' = true ∧ SlAt (.at B o cp) r.width 0 (nx + ny) v ∧ nx + ny ≤ cp ∧ w'.heap[B]? = some (.cells cur te (0, 0)) ∧ o + cp * r.width ≤ cur.size ∧
       w'.rangeAt B o (vx ++ vy) ∧ (∀ k, k < w.heap.size → k ≠ B → w'.heap[k]? = w.heap[k]?) ∧ (w.heap.size ≤ B ∨ xb = some B)) := by
   intro old run; have hge := grownCap_ge w (nx + ny) old e; have hmul : grownCap w (nx + ny) old e * r.width = (nx + ny) * r.width + (grownCap w (nx + ny) old e - (nx + ny)) * r.width := by
     rw [← Nat.add_mul]; congr 1; omega
   have hnew := heap_alloc_new w.drew (.cells (vx.toArray ++ vy.toArray ++ Builtin.zeroCells z.cells (grownCap w (nx + ny) old e - (nx + ny))) e (0, 0)); refine ⟨_, _, run, ⟨rfl, rfl, rfl, by simp⟩, .inr ⟨w.heap.size, 0, grownCap w (nx + ny) old e, _, e, rfl, ⟨_, _, rfl, hge, by omega, fun _ => by simp⟩, hge, hnew, ?_, ?_, fun k hk _ => heap_alloc_old w.drew _ k hk, .inl (Nat.le_refl _)⟩⟩
   · rw [Array.size_append, Array.size_append, List.size_toArray, List.size_toArray, size_zeroCells, hzlen, hvx, hvy, hmul, Nat.add_mul]; omega
   · intro q v hv; rw [show w.heap.size = w.drew.heap.size from rfl, cell_of_row _ _ _ _ e (0, 0) hnew, Nat.zero_add]; have hq : q < (vx ++ vy).length := (List.getElem?_eq_some_iff.1 hv).1; have e1 : (vx.toArray ++ vy.toArray ++ Builtin.zeroCells z.cells (grownCap w (nx + ny) old e - (nx + ny))).toList =
         (vx ++ vy) ++ (Builtin.zeroCells z.cells (grownCap w (nx + ny) old e - (nx + ny))).toList := by simp
     rw [← Array.getElem?_toList, e1, List.getElem?_append_left hq]; exact hv
 rcases hy with ⟨rfl, hyn⟩ | ⟨hyne, ay, cy, rfl, hcy⟩
 · -- nothing is put behind
   have hvy0 : vy = [] := by simpa using hvy
   subst hvy0; rcases hx with ⟨_, rfl, rfl⟩ | ⟨b, off, lo, cap, n, ad, cur, te, hxb, rfl, hle, hcap, had, hg, hsz', hr⟩
   · exact ⟨_, w, run_append_nothing hu hi w none 0 0 (Nat.le_refl _) uy hyn, ⟨rfl, rfl, rfl, Nat.le_refl _⟩, .inl ⟨rfl, rfl, rfl, rfl⟩⟩
   · refine ⟨_, w, run_append_nothing hu hi w (some ad) nx n hle uy hyn, ⟨rfl, rfl, rfl, Nat.le_refl _⟩, .inr ⟨b, off + lo * r.width, n, cur, te, rfl, ⟨ad, n, rfl, hle, by omega, fun hn => by rw [had hn]; simp⟩, hle, hg, ?_, by simpa using hr, fun _ _ _ => rfl, .inr hxb⟩⟩; have : (lo + n) * r.width ≤ cap * r.width := Nat.mul_le_mul_right _ hcap; rw [Nat.add_mul] at this; omega
 · have hyl : 0 < ny := Nat.pos_of_ne_zero hyne; rcases hx with ⟨_, rfl, rfl⟩ | ⟨b, off, lo, cap, n, ad, cur, te, hxb, rfl, hle, hcap, had, hg, hsz', hrx⟩
   · have hvx0 : vx = [] := by simpa using hvx
     subst hvx0; have hr := run_append_nil (P := P) w t ty e i z hu hi hz ay ny cy vy (by rw [hvy, hsz]) hcy hyl (by omega) (by rw [hby]; simp at hlim; omega); refine grown 0 ?_; simpa using hr
   · by_cases hroom : nx + ny ≤ n
     · -- it goes into the room that there is
       have hn0 : n ≠ 0 := by omega
       rw [had hn0]; have hbig : off + lo * r.width + n * r.width ≤ cur.size := by
         have : (lo + n) * r.width ≤ cap * r.width := Nat.mul_le_mul_right _ hcap; rw [Nat.add_mul] at this; omega
       have hfit : off + lo * r.width + nx * r.width + vy.length ≤ cur.size := by
         have : (nx + ny) * r.width ≤ n * r.width := Nat.mul_le_mul_right _ hroom; rw [Nat.add_mul] at this; omega
       have hr := run_append_in (P := P) (ty := ty) hu hi w b (off + lo * r.width) nx n cur te hg ay ny cy vy (by rw [hvy, hsz]) hcy oy hroom (by rw [hsz]; exact hfit); rw [hsz] at hr; have hg' := setRow_heap w b cur (splice cur.toList (off + lo * r.width + nx * r.width) vy).toArray te (0, 0) hg; have hoth : ∀ k, k ≠ b → (w.setRow b (splice cur.toList (off + lo * r.width + nx * r.width) vy).toArray).heap[k]? = w.heap[k]? := fun k hk => setRow_other w _ k _ hk
       refine ⟨_, _, hr, ⟨rfl, rfl, rfl, by simp [World.setRow]⟩, .inr ⟨b, off + lo * r.width, n, _, te, rfl, ⟨_, n, rfl, hroom, by omega, fun _ => by simp⟩, hroom, hg', ?_, ?_, fun k _ hk => hoth k hk, .inr hxb⟩⟩
       · rw [List.size_toArray, splice_length (by simpa using hfit)]; simpa using hbig
       · intro q v hv; rw [cell_of_row _ _ _ _ te (0, 0) hg']; simp only [List.getElem?_toArray]; rw [splice_get (by simpa using hfit)]; rw [List.getElem?_append] at hv
         by_cases hq : q < vx.length
         · rw [if_pos hq] at hv; rw [if_neg (by omega)]; have := hrx q v hv; rw [cell_of_row w b _ cur te (0, 0) hg] at this; simpa using this
         · rw [if_neg hq] at hv; have hq2 : q - vx.length < vy.length := (List.getElem?_eq_some_iff.1 hv).1; rw [if_pos (by omega), show off + lo * r.width + q - (off + lo * r.width + nx * r.width) = q - vx.length by omega]; exact hv
     · -- it grows
       have hr := run_append_grow (P := P) w t ty e i z hu hi hz ad nx n vx (by rw [hvx, hsz]) (fun q v hv => by
           have hq : q < vx.length := (List.getElem?_eq_some_iff.1 hv).1; have hn0 : n ≠ 0 := by
             intro e0; have : nx = 0 := by omega
             rw [this] at hvx; simp at hvx; rw [hvx] at hq; simp at hq
           rw [had hn0, Addr.add_mid]; exact hrx q v hv)
         ay ny cy vy (by rw [hvy, hsz]) hcy (by omega) (by omega) (growslice_fits (by omega) (by rw [hby]; exact hlim))
       exact grown n hr
theorem append_ok {P : Program} {T : Tab} (hT : TabOk P T) {w0 : World} {mu : Mu} {c : Cz} {st1 : St} {a : Act} {w : World} (h1 : Rel w0 mu c st1 a w)
   {t ty : Nat} {r : RT} {bytes : Nat} (ht : T.elem t = some (r, bytes)) {ux uy : Value} {xs ys : List (denR r)} {d : Nat} {s0 : Sl} (hs0 : nth st1 d = some s0) (hd : d < a.tmps.size)
   (hb : (xs.length + ys.length) * bytes ≤ lim) (hy : RdS w c.ok r uy ys)
   (hx : (ux = .slice none 0 0 ∧ xs = []) ∨ ∃ s j b off lo cap n ad, c.own b = some (.sp s j) ∧ (∀ sl A, nth st1 s = some sl → nth sl.arrs j ≠ some (some A)) ∧
     ux = .slice (some ad) xs.length n ∧ xs.length ≤ n ∧ lo + n ≤ cap ∧ (n ≠ 0 → ad = ⟨b, off + lo * r.width, none⟩) ∧
     (∃ cur ty, w.heap[b]? = some (.cells cur ty (0, 0)) ∧ off + cap * r.width ≤ cur.size) ∧ ∀ (i : Nat) x, xs[i]? = some x → RepR w c.ok r b (off + (lo + i) * r.width) x) :
   ∃ v w', (Builtin.append_ #[t, t] ty #[ux, uy]).run P w = .ok v w' ∧
     ∃ c', Rel w0 mu c' (upd (fun s => { s with v := .one (.ref d 0 (s0.ag + 1) .full), arrs := [some { r := r, own := true, xs := xs ++ ys }], ag := s0.ag + 1 }) st1 d) (a.put (some d) v) w' := by
 obtain ⟨vy, hvy, hy'⟩ : ∃ vy, RowsVs w c.ok r vy ys ∧ ((ys.length = 0 ∧ (uy = .slice none 0 0 ∨ ∃ a c, uy = .slice (some a) 0 c)) ∨ (ys.length ≠ 0 ∧ ∃ a c, uy = .slice (some a) ys.length c ∧ ∀ (j : Nat) v, vy[j]? = some v → w.cell? (a.add j) = some v)) := by
   rcases hy.cells with ⟨rfl, hyn⟩ | ⟨hyne, ay, cy, vy, rfl, hvy, hcy⟩
   · exact ⟨[], rfl, .inl ⟨rfl, hyn⟩⟩
   · exact ⟨vy, hvy, .inr ⟨fun h => hyne (List.length_eq_zero_iff.1 h), ay, cy, rfl, hcy⟩⟩
 obtain ⟨vx, xb, hvx, hxb, hx'⟩ : ∃ (vx : List Value) (xb : Option Nat), RowsVs w c.ok r vx xs ∧ (∀ b, xb = some b → ∃ s j, c.own b = some (.sp s j) ∧ ∀ sl A, nth st1 s = some sl → nth sl.arrs j ≠ some (some A)) ∧
     ((xb = none ∧ ux = .slice none 0 0 ∧ xs.length = 0) ∨ ∃ b off lo cap n ad cur te, xb = some b ∧ ux = .slice (some ad) xs.length n ∧ xs.length ≤ n ∧ lo + n ≤ cap ∧ (n ≠ 0 → ad = ⟨b, off + lo * r.width, none⟩) ∧
     w.heap[b]? = some (.cells cur te (0, 0)) ∧ off + cap * r.width ≤ cur.size ∧ w.rangeAt b (off + lo * r.width) vx) := by
   rcases hx with ⟨rfl, rfl⟩ | ⟨s, j, b, off, lo, cap, n, ad, hown, hdead, rfl, hle, hcap, had, ⟨cur, te, hg, hsz'⟩, hrow⟩
   · exact ⟨[], none, rfl, (fun _ e => by cases e), .inl ⟨rfl, rfl, rfl⟩⟩
   · obtain ⟨vx, hrx, hvx⟩ := rows_of_rep b (off + lo * r.width) xs (fun i x hx => by
       have := hrow i x hx; rw [Nat.add_mul] at this; rw [show off + lo * r.width + i * r.width = off + (lo * r.width + i * r.width) by omega]; exact this)
     exact ⟨vx, some b, hvx, fun b' e => by cases e; exact ⟨s, j, hown, hdead⟩, .inr ⟨b, off, lo, cap, n, ad, cur, te, rfl, rfl, hle, hcap, had, hg, hsz', hrx⟩⟩
 obtain ⟨v, w', hrun, hos, hres⟩ := append_raw hT (ty := ty) ht hb (RowsVs.length vx xs hvx) (RowsVs.length vy ys hvy) (RowsVs.ones vy ys hvy) hy' hx'; refine ⟨v, w', hrun, ?_⟩; rcases hres with ⟨e1, e2, rfl, rfl⟩ | ⟨B, o, cp, cur, te, v1, v2, hle, hg, hsz, hr, hoth, hB⟩
 · have : xs = [] := List.length_eq_zero_iff.1 e1; subst this; have : ys = [] := List.length_eq_zero_iff.1 e2; subst this; refine ⟨c.newArr d .nil none, h1.place (B := w'.heap.size) (A := { r := r, own := true, xs := [] ++ [] }) hs0 hd rfl ?_ (fun k _ => by simp [Cz.newArr]) (.inr ⟨by simp [Cz.newArr], rfl⟩) (.inl (Nat.le_refl _)) ?_ (fun _ _ _ => rfl) ⟨rfl, rfl, rfl, Nat.le_refl _⟩ ?_ rfl ?_⟩
   · intro s j hne; simp [Cz.newArr, hne]
   · intro hc; simp [Cz.newArr] at hc; have := h1.own_lt hc; omega
   · unfold ArrOk; simp [Cz.newArr]
   · simp [Cz.newArr, SlAt]
 · have hBlt : B < w'.heap.size := (Array.getElem?_eq_some_iff.1 hg).1; have hBown : w.heap.size ≤ B ∨ ∃ s j, c.own B = some (.sp s j) ∧ (s = d ∨ ∀ sl A, nth st1 s = some sl → nth sl.arrs j ≠ some (some A)) := by
     rcases hB with hB | hB
     · exact .inl hB
     · obtain ⟨s, j, q1, q2⟩ := hxb B hB; exact .inr ⟨s, j, q1, .inr q2⟩
   have hnB : ∀ k, k < w.heap.size → c.ok k → k ≠ B := by
     rintro k hk hok rfl
     rcases hBown with hB | ⟨s, j, hB, _⟩
     · omega
     · unfold Cz.ok at hok; rw [hB] at hok; cases hok
   have hst : Stays w w' c.ok (c.newArr d (.at B o cp) (some B)).ok := ⟨hos.2.2.2, fun k hk hok => hoth k hk (hnB k hk hok), fun k hk hok => by
     unfold Cz.ok Cz.newArr; simp only; rw [if_neg]
     · exact hok
     · intro e'; exact hnB k hk hok (Option.some.inj e').symm⟩
   refine ⟨c.newArr d (.at B o cp) (some B), h1.place (B := B) (A := { r := r, own := true, xs := xs ++ ys }) hs0 hd rfl ?_ ?_ (.inl (by simp [Cz.newArr])) hBown (fun _ => hBlt) hoth hos ?_ v1 ?_⟩
   · intro s j hne; simp [Cz.newArr, hne]
   · intro k hk; simp only [Cz.newArr]; rw [if_neg (by intro e'; exact hk (Option.some.inj e').symm)]
   · unfold ArrOk; simp only [Cz.newArr, and_self, if_true]; refine ⟨trivial, by simpa using hle, ⟨cur, te, hg, hsz⟩, (RowsOk.sh rfl).2 ?_⟩; exact rep_of_rows _ (vx ++ vy) (xs ++ ys) (RowsVs.append vx vy xs ys (RowsVs.stays hst _ _ hvx) (RowsVs.stays hst _ _ hvy)) hr
   · simp only [Cz.newArr, and_self, if_true, List.length_append]; exact v2
def DowsVs (w : World) (P : List Nat → Nat → Prop) (r : RT) : (i : Nat) → List Value → List (denR r) → Prop
 | _, vs, [] => vs = []
 | i, vs, x :: xs => ∃ l1 l2, vs = l1 ++ l2 ∧ DepVs w P r [i] 0 l1 x ∧ DowsVs w P r (i + 1) l2 xs
theorem DowsVs.length {w : World} {P : List Nat → Nat → Prop} {r : RT} : (i : Nat) → (vs : List Value) → (xs : List (denR r)) → DowsVs w P r i vs xs → vs.length = xs.length * r.width
 | _, vs, [], h => by simp only [DowsVs] at h; subst h; simp
 | i, vs, x :: xs, h => by
   obtain ⟨l1, l2, rfl, h1, h2⟩ := h; have a1 := DepVs.length r [i] 0 l1 x h1; have a2 := DowsVs.length (i + 1) l2 xs h2; simp [a1, a2, Nat.add_mul]; omega
theorem DowsVs.append {w : World} {P : List Nat → Nat → Prop} {r : RT} : (i : Nat) → (vs us : List Value) → (xs ys : List (denR r)) → DowsVs w P r i vs xs → DowsVs w P r (i + xs.length) us ys → DowsVs w P r i (vs ++ us) (xs ++ ys)
 | i, vs, us, [], ys, h, k => by simp only [DowsVs] at h; subst h; simpa using k
 | i, vs, us, x :: xs, ys, ⟨l1, l2, e, h1, h2⟩, k => ⟨l1, l2 ++ us, by rw [e, List.append_assoc], h1, DowsVs.append (i + 1) l2 us xs ys h2 (by rw [show i + 1 + xs.length = i + (x :: xs).length by simp; omega]; exact k)⟩
theorem DowsVs.go {w w' : World} {P P' : List Nat → Nat → Prop} {r : RT} (sh : Nat) (hP : ∀ i q b, P ([i] ++ q) b → w'.heap[b]? = w.heap[b]? ∧ P' ([i + sh] ++ q) b) : (i : Nat) → (vs : List Value) → (xs : List (denR r)) → DowsVs w P r i vs xs → DowsVs w' P' r (i + sh) vs xs
 | _, _, [], h => h
 | i, vs, x :: xs, ⟨l1, l2, e, h1, h2⟩ => ⟨l1, l2, e, DepVs.go r [i] [i + sh] (fun q b hb => hP i q b hb) 0 l1 x h1, by rw [show i + sh + 1 = i + 1 + sh by omega]; exact DowsVs.go sh hP (i + 1) l2 xs h2⟩
theorem DepTy.one {w : World} {P : List Nat → Nat → Prop} {t : Ty} {p : List Nat} {v : Value} {x : den t} (h : DepTy w P t p v x) : v.oneCell' = true := by
 cases t with
 | int k => rw [depInt.1 h]; rfl
 | bool => rw [depBool.1 h]; rfl
 | str => rw [depStr.1 h]; rfl
 | sl r => obtain ⟨lc, _, h1, _⟩ := (depSl w P r p v x).1 h; exact h1
theorem DepVs.one {w : World} {P : List Nat → Nat → Prop} : (r : RT) → (p : List Nat) → (k : Nat) → (vs : List Value) → (x : denR r) → DepVs w P r p k vs x → ∀ v ∈ vs, v.oneCell' = true
 | .nil, _, _, vs, _, h, v, hv => by simp only [DepVs] at h; subst h; simp at hv
 | .cons t r, p, k, vs, x, ⟨u, l, e, hx, hr⟩, v, hv => by
   subst e; rcases List.mem_cons.1 hv with rfl | hv
   · exact hx.one
   · exact DepVs.one r p (k + 1) l x.2 hr v hv
theorem DowsVs.ones {w : World} {P : List Nat → Nat → Prop} {r : RT} : (i : Nat) → (vs : List Value) → (xs : List (denR r)) → DowsVs w P r i vs xs → ∀ v ∈ vs, v.oneCell' = true
 | _, vs, [], h, v, hv => by simp only [DowsVs] at h; subst h; simp at hv
 | i, vs, x :: xs, ⟨l1, l2, e, h1, h2⟩, v, hv => by
   subst e; rcases List.mem_append.1 hv with hv | hv
   · exact DepVs.one r _ _ l1 x h1 v hv
   · exact DowsVs.ones (i + 1) l2 xs h2 v hv
theorem dows_of_dep {w : World} {P : List Nat → Nat → Prop} {r : RT} (b : Nat) : (off i0 : Nat) → (xs : List (denR r)) → (∀ (i : Nat) x, xs[i]? = some x → DepR w P r [i0 + i] 0 b (off + i * r.width) x) →
   ∃ vs, w.rangeAt b off vs ∧ DowsVs w P r i0 vs xs
 | _, _, [], _ => ⟨[], fun j v h => by simp at h, rfl⟩
 | off, i0, x :: xs, h => by
   obtain ⟨l1, h1, h2⟩ := (depR_iff r [i0] 0 b off x).1 (by have := h 0 x rfl; simpa using this); obtain ⟨l2, h3, h4⟩ := dows_of_dep b (off + r.width) (i0 + 1) xs (fun i y hy => by
     have := h (i + 1) y (by simpa using hy); rw [Nat.add_mul, Nat.one_mul] at this; rw [show off + r.width + i * r.width = off + (i * r.width + r.width) by omega, show i0 + 1 + i = i0 + (i + 1) by omega]; exact this)
   have hl := DepVs.length r _ _ l1 x h2; refine ⟨l1 ++ l2, fun j v hv => ?_, l1, l2, rfl, h2, h4⟩; rw [List.getElem?_append] at hv
   by_cases hj : j < l1.length
   · rw [if_pos hj] at hv; exact h1 j v hv
   · rw [if_neg hj] at hv; have := h3 _ v hv; rw [show off + r.width + (j - l1.length) = off + j by omega] at this; exact this
theorem dep_of_dows {w : World} {P : List Nat → Nat → Prop} {r : RT} {b : Nat} : (off i0 : Nat) → (vs : List Value) → (xs : List (denR r)) → DowsVs w P r i0 vs xs → w.rangeAt b off vs →
   ∀ (i : Nat) x, xs[i]? = some x → DepR w P r [i0 + i] 0 b (off + i * r.width) x
 | _, _, _, [], _, _, i, x, h => by simp at h
 | off, i0, vs, y :: xs, ⟨l1, l2, e, h1, h2⟩, hr, i, x, h => by
   subst e; have hl := DepVs.length r _ _ l1 y h1
   cases i with
   | zero =>
     simp at h; subst h; rw [depR_iff]; refine ⟨l1, fun j v hv => ?_, by simpa using h1⟩; have hj : j < l1.length := (List.getElem?_eq_some_iff.1 hv).1; have := hr j v (by rw [List.getElem?_append, if_pos hj]; exact hv); simpa using this
   | succ i =>
     have := dep_of_dows (off + r.width) (i0 + 1) l2 xs h2 (fun j v hv => by
       have := hr (l1.length + j) v (by rw [List.getElem?_append, if_neg (by omega)]; simpa using hv); rw [show off + r.width + j = off + (l1.length + j) by omega]; exact this) i x (by simpa using h)
     rw [Nat.add_mul, Nat.one_mul]; rw [show off + (i * r.width + r.width) = off + r.width + i * r.width by omega, show i0 + (i + 1) = i0 + 1 + i by omega]; exact this
theorem Rel.freshDp {w0 : World} {mu : Mu} {c : Cz} {st : St} {a : Act} {w : World} (h : Rel w0 mu c st a w) {d : Nat} {s0 : Sl} {r : RT} {xs : List (denR r)} {cur : Array Value} {ty cap : Nat} {P : List Nat → Nat → Prop} {g : Nat → List Nat}
   (hs0 : nth st d = some s0) (hd : d < a.tmps.size) (hle : xs.length ≤ cap) (hsz : cap * r.width ≤ cur.size) {vs : List Value} (hvs : DowsVs w P r 0 vs xs) (hP : ∀ i q k, P ([i] ++ q) k → c.own k = some (.sp d 0) ∧ g k = [i] ++ q) (hpre : cur.toList.take vs.length = vs) :
   ∃ c', Rel w0 mu c' (upd (fun s => { s with v := .one (.ref d 0 (s0.ag + 1) .full), arrs := [some { r := r, own := true, xs := xs, md := .dp }], ag := s0.ag + 1 }) st d)
     (a.put (some d) (.slice (some ⟨w.heap.size, 0, none⟩) xs.length cap)) (w.alloc (.cells cur ty (0, 0))) := by
 have hnew := heap_alloc_new w (.cells cur ty (0, 0)); refine ⟨c.newArr d (.at w.heap.size 0 cap) (some w.heap.size), h.place (B := w.heap.size) (A := { r := r, own := true, xs := xs, md := .dp }) hs0 hd rfl ?_ ?_ (.inl ?_) (.inl (Nat.le_refl _)) (fun _ => by simp) (fun k hk _ => heap_alloc_old w _ k hk)
   ⟨rfl, rfl, rfl, by simp⟩ ?_ rfl ?_⟩
 · intro s j hne; simp [Cz.newArr, hne]
 · intro k hk; simp only [Cz.newArr]; rw [if_neg (by intro e; exact hk (Option.some.inj e).symm)]
 · simp [Cz.newArr]
 · unfold ArrOk; simp only [Cz.newArr, and_self, if_true]; refine ⟨trivial, hle, ⟨cur, ty, hnew, by simpa using hsz⟩, fun k => if k = w.heap.size then [] else g k, by simp, ?_⟩; have hD := DowsVs.go (w' := w.alloc (.cells cur ty (0, 0))) (P' := fun p k => (if some w.heap.size = some k then some (Lb.sp d 0) else c.own k) = some (.sp d 0) ∧ (if k = w.heap.size then [] else g k) = p) 0 (fun i q k hk => by
     obtain ⟨q1, q2⟩ := hP i q k hk; have hlt := h.own_lt q1; refine ⟨heap_alloc_old w _ k hlt, ?_, by rw [if_neg (by omega)]; exact q2⟩; rw [if_neg (by intro e; have := Option.some.inj e; omega)]; exact q1) 0 vs xs hvs
   have := dep_of_dows 0 0 vs xs hD (fun j v hv => by
     rw [cell_of_row _ _ _ cur ty (0, 0) hnew, Nat.zero_add]; have hj : j < vs.length := (List.getElem?_eq_some_iff.1 hv).1; rw [← hpre, List.getElem?_take, if_pos hj] at hv; simpa using hv)
   intro i x hx; have h2 := this i x hx; rw [Nat.zero_add] at h2; exact h2
 · simp only [Cz.newArr, and_self, if_true]; exact ⟨_, cap, rfl, hle, by omega, fun _ => by simp⟩
theorem zero_dep {w : World} {P : List Nat → Nat → Prop} : (r : RT) → (p : List Nat) → (k : Nat) → (vs : List Value) → ZeroL r vs → DepVs w P r p k vs (zeroR r)
 | .nil, _, _, vs, h => h
 | .cons (.int q) r, p, k, vs, ⟨l, h, h'⟩ => ⟨.int q 0, l, h, depInt.2 rfl, zero_dep r p (k + 1) l h'⟩
 | .cons .bool r, p, k, vs, ⟨l, h, h'⟩ => ⟨.bool false, l, h, depBool.2 rfl, zero_dep r p (k + 1) l h'⟩
 | .cons .str r, p, k, vs, ⟨l, h, h'⟩ => ⟨.string ByteArray.empty, l, h, depStr.2 rfl, zero_dep r p (k + 1) l h'⟩
 | .cons (.sl q) r, p, k, vs, ⟨l, h, h'⟩ => ⟨.slice none 0 0, l, h, (depSl _ _ _ _ _ _).2 ⟨.nil, ⟨rfl, rfl⟩, rfl, .inl ⟨rfl, rfl⟩⟩, zero_dep r p (k + 1) l h'⟩
theorem DowsVs.replicate {w : World} {P : List Nat → Nat → Prop} {r : RT} {vs : List Value} {x : denR r} (h : ∀ i, DepVs w P r [i] 0 vs x) : (n i : Nat) → DowsVs w P r i ((List.replicate n vs).flatten) (List.replicate n x)
 | 0, _ => rfl
 | n + 1, i => ⟨vs, (List.replicate n vs).flatten, by simp [List.replicate_succ], h i, DowsVs.replicate h n (i + 1)⟩
theorem append_dp {P : Program} {T : Tab} (hT : TabOk P T) {w0 : World} {mu : Mu} {c : Cz} {st1 : St} {a : Act} {w : World} (h1 : Rel w0 mu c st1 a w)
   {t ty : Nat} {r : RT} {bytes : Nat} (ht : T.elem t = some (r, bytes)) {ux uy : Value} {xs ys : List (denR r)} {vx vy : List Value} {PX PY : List Nat → Nat → Prop} {g : Nat → List Nat} {xb : Option Nat} {d : Nat} {s0 : Sl} (hs0 : nth st1 d = some s0) (hd : d < a.tmps.size)
   (hb : (xs.length + ys.length) * bytes ≤ lim) (hvx : DowsVs w PX r 0 vx xs) (hvy : DowsVs w PY r 0 vy ys)
   (hPX : ∀ i q k, PX ([i] ++ q) k → xb ≠ some k ∧ c.own k = some (.sp d 0) ∧ g k = [i] ++ q) (hPY : ∀ i q k, PY ([i] ++ q) k → xb ≠ some k ∧ c.own k = some (.sp d 0) ∧ g k = [i + xs.length] ++ q)
   (hy : (ys.length = 0 ∧ (uy = .slice none 0 0 ∨ ∃ a c, uy = .slice (some a) 0 c)) ∨ (ys.length ≠ 0 ∧ ∃ a c, uy = .slice (some a) ys.length c ∧ ∀ (j : Nat) v, vy[j]? = some v → w.cell? (a.add j) = some v))
   (hxb : ∀ b, xb = some b → c.own b = some (.sp d 0))
   (hx : (xb = none ∧ ux = .slice none 0 0 ∧ xs.length = 0) ∨ ∃ b off lo cap n ad cur te, xb = some b ∧ ux = .slice (some ad) xs.length n ∧ xs.length ≤ n ∧ lo + n ≤ cap ∧ (n ≠ 0 → ad = ⟨b, off + lo * r.width, none⟩) ∧
     w.heap[b]? = some (.cells cur te (0, 0)) ∧ off + cap * r.width ≤ cur.size ∧ w.rangeAt b (off + lo * r.width) vx) :
   ∃ v w', (Builtin.append_ #[t, t] ty #[ux, uy]).run P w = .ok v w' ∧
     ∃ c', Rel w0 mu c' (upd (fun s => { s with v := .one (.ref d 0 (s0.ag + 1) .full), arrs := [some { r := r, own := true, xs := xs ++ ys, md := .dp }], ag := s0.ag + 1 }) st1 d) (a.put (some d) v) w' := by
 obtain ⟨v, w', hrun, hos, hres⟩ := append_raw hT (ty := ty) ht hb (DowsVs.length 0 vx xs hvx) (DowsVs.length 0 vy ys hvy) (DowsVs.ones 0 vy ys hvy) hy hx; refine ⟨v, w', hrun, ?_⟩; rcases hres with ⟨e1, e2, rfl, rfl⟩ | ⟨B, o, cp, cur, te, v1, v2, hle, hg, hsz, hr, hoth, hB⟩
 · have : xs = [] := List.length_eq_zero_iff.1 e1; subst this; have : ys = [] := List.length_eq_zero_iff.1 e2; subst this; refine ⟨c.newArr d .nil none, h1.place (B := w'.heap.size) (A := { r := r, own := true, xs := [] ++ [], md := .dp }) hs0 hd rfl ?_ (fun k _ => by simp [Cz.newArr]) (.inr ⟨by simp [Cz.newArr], rfl⟩) (.inl (Nat.le_refl _)) ?_ (fun _ _ _ => rfl) ⟨rfl, rfl, rfl, Nat.le_refl _⟩ ?_ rfl ?_⟩
   · intro s j hne; simp [Cz.newArr, hne]
   · intro hc; simp [Cz.newArr] at hc; have := h1.own_lt hc; omega
   · unfold ArrOk; simp [Cz.newArr]
   · simp [Cz.newArr, SlAt]
 · have hBlt : B < w'.heap.size := (Array.getElem?_eq_some_iff.1 hg).1; have hBown : w.heap.size ≤ B ∨ ∃ s j, c.own B = some (.sp s j) ∧ (s = d ∨ ∀ sl A, nth st1 s = some sl → nth sl.arrs j ≠ some (some A)) := by
     rcases hB with hB | hB
     · exact .inl hB
     · exact .inr ⟨d, 0, hxb B hB, .inl rfl⟩
   have hne : ∀ k, c.own k = some (.sp d 0) → xb ≠ some k → k ≠ B := by
     rintro k hk hx rfl
     rcases hB with hB | hB
     · have := h1.own_lt hk; omega
     · exact hx hB
   refine ⟨c.newArr d (.at B o cp) (some B), h1.place (B := B) (A := { r := r, own := true, xs := xs ++ ys, md := .dp }) hs0 hd rfl ?_ ?_ (.inl (by simp [Cz.newArr])) hBown (fun _ => hBlt) hoth hos ?_ v1 ?_⟩
   · intro s j hne; simp [Cz.newArr, hne]
   · intro k hk; simp only [Cz.newArr]; rw [if_neg (by intro e'; exact hk (Option.some.inj e').symm)]
   · unfold ArrOk; simp only [Cz.newArr, and_self, if_true]; refine ⟨trivial, by simpa using hle, ⟨cur, te, hg, hsz⟩, fun k => if k = B then [] else g k, by simp, ?_⟩; have go : ∀ (PP : List Nat → Nat → Prop) (sh : Nat), (∀ i q k, PP ([i] ++ q) k → xb ≠ some k ∧ c.own k = some (.sp d 0) ∧ g k = [i + sh] ++ q) → ∀ i q k, PP ([i] ++ q) k → w'.heap[k]? = w.heap[k]? ∧
         ((if B = k then some (Lb.sp d 0) else c.own k) = some (.sp d 0) ∧ (if k = B then [] else g k) = [i + sh] ++ q) := by
       intro PP sh hPP i q k hk; obtain ⟨q1, q2, q3⟩ := hPP i q k hk; have := hne k q2 q1; refine ⟨hoth k (h1.own_lt q2) this, ?_, by rw [if_neg this]; exact q3⟩; rw [if_neg (fun e => this e.symm)]; exact q2
     have hD := DowsVs.append 0 vx vy xs ys (DowsVs.go (w' := w') (P' := fun p k => (if B = k then some (Lb.sp d 0) else c.own k) = some (.sp d 0) ∧ (if k = B then [] else g k) = p) 0 (go PX 0 (fun i q k hk => hPX i q k hk)) 0 vx xs hvx) (by
       rw [Nat.zero_add]; have := DowsVs.go (w' := w') (P' := fun p k => (if B = k then some (Lb.sp d 0) else c.own k) = some (.sp d 0) ∧ (if k = B then [] else g k) = p) xs.length (go PY xs.length hPY) 0 vy ys hvy
       rwa [Nat.zero_add] at this)
     have := dep_of_dows o 0 (vx ++ vy) (xs ++ ys) hD hr; intro i x hx; have h2 := this i x hx; rw [Nat.zero_add] at h2; simpa using h2
   · simp only [Cz.newArr, and_self, if_true, List.length_append]; exact v2
end Go.TM
