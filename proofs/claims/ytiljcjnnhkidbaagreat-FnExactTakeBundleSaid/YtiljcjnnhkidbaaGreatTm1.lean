/- A machine over trees: an evaluator of the code, and that what it finds is so; part 1. -/
import GoSem.Core.Value
import GoSem.Core.Code
import GoSem.Core.Program
import GoSem.Core.View
import Derived.Below
import Derived.Laws.AppendOwn
import Derived.Laws.Cells
import Derived.Laws.Rows
import Derived.Deep.MidRow
import Derived.Laws.CopyRow
set_option linter.unusedSimpArgs false
set_option linter.unusedVariables false
namespace Go.TM
open Go
mutual
inductive Ty where
 | int (k : IntKind)
 | bool
 | str
 | sl (r : RT)
inductive RT where
 | nil
 | cons (t : Ty) (r : RT)
end
mutual
def den : Ty → Type
 | .int _ => Int
 | .bool => Bool
 | .str => ByteArray
 | .sl r => List (ar r)
def ar : RT → Type
 | .nil => Unit
 | .cons t r => den t × ar r
end
mutual
def Ty.eq? : (a b : Ty) → Option (PLift (a = b))
 | .int k, .int l => if h : k = l then some ⟨by rw [h]⟩ else none
 | .bool, .bool => some ⟨rfl⟩
 | .str, .str => some ⟨rfl⟩
 | .sl r, .sl s => match RT.eq? r s with | some ⟨h⟩ => some ⟨by rw [h]⟩ | none => none
 | _, _ => none
def RT.eq? : (a b : RT) → Option (PLift (a = b))
 | .nil, .nil => some ⟨rfl⟩
 | .cons t r, .cons u s => match Ty.eq? t u, RT.eq? r s with
   | some ⟨h⟩, some ⟨g⟩ => some ⟨by rw [h, g]⟩
   | _, _ => none
 | _, _ => none
end
def cm {r : RT} (s : RT) (xs : List (ar r)) : Option (List (ar s)) :=
 match RT.eq? r s with
 | some ⟨h⟩ => some (h ▸ xs)
 | none => none
def RT.ek : RT → Bool
 | .nil => false
 | .cons (.sl _) _ => true
 | .cons _ r => r.ek
def RT.width : RT → Nat
 | .nil => 0
 | .cons _ r => r.width + 1
inductive View where
 | full
 | from (lo : Nat)
 | sub (lo n : Nat)
def View.app {α : Type} : View → List α → List α
 | .full, xs => xs
 | .from lo, xs => xs.drop lo
 | .sub lo n, xs => (xs.drop lo).take n
def View.lo : View → Nat
 | .full => 0
 | .from l => l
 | .sub l _ => l
def View.idx (w : View) (i : Nat) : Nat :=
 match w with
 | .full => i
 | .from l => l + i
 | .sub l _ => l + i
inductive CV where
 | bad
 | int (k : IntKind) (n : Int)
 | bool (b : Bool)
 | str (s : ByteArray)
 | ea
 | Fj
 | shr (r : RT) (xs : List (ar r))
 | nn (r : RT) (xs : List (ar r))  -- as 'aen, and not nil
 | ref (a j g : Nat) (w : View)
 | ptr (b g off : Nat)
 | DJ (a j g i off : Nat)
 | k9 (r : RT) (x : ar r) (off : Nat)
 | rM (r : RT) (xs : List (ar r)) (off : Nat)  -- as 'aeo, Fk row acC Fk first of a list
 | fn (g : Nat) (rs : RT) (xs : List (ar rs))    -- a function with boxes Jx Rw read alone: each cell of Fk row is one acD rows
 | pL (a j g e i k : Nat) (q : RT) (ys : List (ar q))  -- Fk slice Jx a cell of a deep Xc row holds
inductive Lb where
 | box (s : Nat)
 | sp (s j : Nat)
 | out
 | cI (i j : Nat)
 | su (i : Nat)
 | jw (j : Nat)
def Lb.same : Lb → Lb → Bool
 | .box s, .box t => Nat.beq s t
 | .sp s i, .sp t j => Nat.beq s t && Nat.beq i j
 | _, _ => false
inductive V where
 | one (c : CV)
 | agg (cs : List CV)
 | nb (vs : List V)
def V.cells : V → List CV
 | .one c => [c]
 | .agg cs => cs
 | .nb _ => []
inductive Md where
 | sh | dp | ho (i : Nat)
 deriving DecidableEq
def Md.is : Md → Md → Bool
 | .sh, .sh => true
 | .dp, .dp => true
 | .ho i, .ho j => Nat.beq i j
 | _, _ => false
theorem Md.oB {a b : Md} : Md.is a b = true ↔ a = b := by
 cases a <;> cases b <;> simp [Md.is]
def Md.Ct : Md → Bool
 | .ho _ => true
 | _ => false
structure ig where
 r : RT
 own : Bool
 xs : List (ar r)
 md : Md := .sh
structure Sl where
 v : V
 box : Option (List CV)
 bg : Nat
 aP : List (Option ig)
 ag : Nat
 ep : Nat := 0  -- it Sy when an array of Fk slot is written, or a call is made
def Sl.none : Sl := { v := .one .bad, box := .none, bg := 0, aP := [], ag := 0 }
abbrev St := List Sl
def nth {α : Type} : List α → Nat → Option α
 | [], _ => none
 | x :: _, 0 => some x
 | _ :: l, n + 1 => nth l n
def m6 {α : Type} (f : α → α) : List α → Nat → List α
 | [], _ => []
 | x :: l, 0 => f x :: l
 | x :: l, n + 1 => x :: m6 f l n
def cz (st : St) (t : Nat) : V :=
 match nth st t with
 | some s => s.v
 | none => .one .bad
def bj (st : St) (d : Option Nat) (v : V) : St :=
 match d with
 | some t => m6 (fun s => { s with v := v }) st t
 | none => st
def bd (st : St) (a j g : Nat) : Option ig :=
 match nth st a with
 | some s => bif Nat.beq s.ag g then (match nth s.aP j with | some (some A) => some A | _ => none) else none
 | none => none
def bP (st : St) (a j : Nat) (A : Option ig) : St :=
 m6 (fun s => { s with aP := m6 (fun _ => A) s.aP j, ep := s.ep + 1 }) st a
def my (st : St) (a : Nat) : Nat := match nth st a with | some s => s.ep | none => 0
def dE (st : St) (b g : Nat) : Option (List CV) :=
 match nth st b with
 | some s => bif Nat.beq s.bg g then s.box else none
 | none => none
inductive N where
 | done (st : St)
 | fail
 | br (b : Bool) (t e : N)
 | row (r : RT) (o : Option (ar r)) (k : ar r → N)
def N.val : N → Option St
 | .done st => some st
 | .fail => none
 | .br b t e => bif b then t.val else e.val
 | .row _ o k => match o with | some x => (k x).val | none => none
def N.fold {R : Type} : N → (St → Option R) → Option R
 | .done st, k => k st
 | .fail, _ => none
 | .br b t e, k => bif b then t.fold k else e.fold k
 | .row _ o f, k => match o with | some x => (f x).fold k | none => none
theorem N.fold_eq {R : Type} (n : N) (k : St → Option R) : n.fold k = n.val.bind k := by
 induction n with
 | done st => rfl
 | fail => rfl
 | br b t e iht ihe => cases b <;> simp [N.fold, N.val, iht, ihe]
 | row r o f ih => cases o <;> simp [N.fold, N.val, ih]
def Fl : (t : Ty) → den t
 | .int _ => (0 : Int)
 | .bool => false
 | .str => ByteArray.empty
 | .sl _ => ([] : List _)
def sv : (r : RT) → ar r
 | .nil => ()
 | .cons t r => (Fl t, sv r)
def Fm : (t : Ty) → den t → CV
 | .int k, n => .int k n
 | .bool, b => .bool b
 | .str, s => .str s
 | .sl r, xs => .shr r xs
def eb : (r : RT) → ar r → List CV
 | .nil, _ => []
 | .cons t r, x => Fm t x.1 :: eb r x.2
def XQ (a j g e i k : Nat) : (t : Ty) → den t → CV
 | .int k, n => .int k n
 | .bool, b => .bool b
 | .str, s => .str s
 | .sl r, xs => .pL a j g e i k r xs
def qb (a j g e i : Nat) : (k : Nat) → (r : RT) → ar r → List CV
 | _, .nil, _ => []
 | k, .cons t r, x => XQ a j g e i k t x.1 :: qb a j g e i (k + 1) r x.2
def p8 : (r : RT) → ar r → Nat → Option ((q : RT) × List (ar q))
 | .nil, _, _ => none
 | .cons (.sl q) _, x, 0 => some ⟨q, x.1⟩
 | .cons _ _, _, 0 => none
 | .cons _ r, x, k + 1 => p8 r x.2 k
def nd : (r : RT) → ar r → Nat → (q : RT) → List (ar q) → Option (ar r)
 | .nil, _, _, _, _ => none
 | .cons (.sl q) _, x, 0, p, ys => (cm q ys).map fun zs => (zs, x.2)
 | .cons _ _, _, 0, _, _ => none
 | .cons _ r, x, k + 1, p, ys => (nd r x.2 k p ys).map fun z => (x.1, z)
def lT (st : St) (r : RT) (c : CV) (k : List (ar r) → N) : N :=
 match c with
 | .shr _ xs => match cm r xs with | some ys => k ys | none => .fail
 | .nn _ xs => match cm r xs with | some ys => k ys | none => .fail
 | .ea => k []
 | .ref a j g w => match bd st a j g with
   | some A => (match A.md with | .sh => (match cm r A.xs with | some ys => k (w.app ys) | none => .fail) | _ => .fail)
   | none => .fail
 | _ => .fail
structure la where
 cells : Nat → Option Nat          -- how many cells a value of Fk type acE
 agg : Nat → Bool                  -- is it a struct
 off : Nat → Nat → Option Nat      -- a Jy field: XR first cell
 Sz : Nat → Nat → Option Nat      -- and how many it has
 row : Nat → Option RT             -- Fk sY types
 elem : Nat → Option (RT × Nat)    -- a slice: XR Rx cells, and Fk bytes of one
 nb : Nat → Option (List Nat)     -- a Xd types
 kind : Nat → Option Ty            -- a type of one cell
 one : Nat → Nat → Bool            -- a Jy field Jx is no struct XS
 eq : Nat → Bool                   -- a struct of numbers, acF and strings, SA by '=='
 dp : Nat → Bool := fun _ => false -- a slice Na acG ek Rw XR own, where aes may be
 cap : Nat → Bool := fun _ => false -- a Nb box Jx is read alone
inductive OV where
 | int (k : IntKind) (n : Int)
 | bool (b : Bool)
 | str (s : ByteArray)
 | own (A : ig)
 | shr (r : RT) (xs : List (ar r))
 | ea
 | k9 (r : RT) (xs : List (ar r))
 | fn (g : Nat) (rs : RT) (xs : List (ar rs))
inductive AV where
 | val (agg : Bool) (os : List OV)  -- a value: XR Jz Rw Fk SB from now on
 | io (A : ig)                     -- an array, Cu: Fk callee may write it
 | box (os : List OV)               -- a struct behind a pointer, Cu
 | bQ (os : List OV)              -- a struct Na Jz Rw Cu
inductive RV where
 | one (o : OV)
 | agg (os : List OV)
 | ptr (os : List OV)  -- a new struct, behind a pointer
inductive XV where
 | io (A : ig)
 | box (cs : List OV)
 | bQ (As : List (Option ig))
structure Xe where
 outs : List RV
 exts : List XV
structure Ans where
 r : RT
 o : Option (ar r)
 res : ar r → Xe
abbrev vW := List AV → Option Ans
inductive Pm where
 | shr | own | io | bQ
 | pick (l : List Nat)  -- a struct behind a pointer, some of Na Jz Rw read alone from then on
abbrev ld := FuncId → Option (Pm × Pm × Pm × vW)   -- Fk first three Nc ways; acI jc Rw shared
def bm (b g : Nat) : (j : Nat) → List OV → List CV
 | _, [] => []
 | j, .int k n :: l => .int k n :: bm b g (j + 1) l
 | j, .bool x :: l => .bool x :: bm b g (j + 1) l
 | j, .str s :: l => .str s :: bm b g (j + 1) l
 | j, .own _ :: l => .ref b j g .full :: bm b g (j + 1) l
 | j, .shr r xs :: l => .shr r xs :: bm b g (j + 1) l
 | j, .ea :: l => .ea :: bm b g (j + 1) l
 | j, .k9 r xs :: l => .rM r xs 0 :: bm b g (j + 1) l
 | j, .fn f rs xs :: l => .fn f rs xs :: bm b g (j + 1) l
def OV.arr : OV → Option ig
 | .own A => some A
 | _ => none
def bq : List OV → List (Option ig)
 | [] => []
 | o :: l => o.arr :: bq l
def RV.uk : RV → List OV
 | .one o => [o]
 | .agg os => os
 | .ptr os => .ea :: os
def JA (d g j : Nat) : RV → V
 | .one o => match bm d g j [o] with | [c] => .one c | _ => .one .bad
 | .agg os => .agg (bm d g j os)
 | .ptr _ => .one .bad
def kt (d g : Nat) : (j : Nat) → List RV → List V
 | _, [] => []
 | j, r :: l => JA d g j r :: kt d g (j + r.uk.length) l
def uq (st : St) (d : Option Nat) (outs : List RV) : Option St :=
 match d with
 | some d => match nth st d with
   | some s =>
     let g := s.ag + 1
     match outs with
     | [.ptr os] => some (m6 (fun s => { s with v := .one (.ptr d (s.bg + 1) 0), box := some (bm d (s.ag + 1) 1 os), bg := s.bg + 1, aP := none :: bq os, ag := s.ag + 1 }) st d)
     | outs =>
       let v : V := match kt d g 0 outs with | [v] => v | vs => .nb vs
       some (m6 (fun s => { s with v := v, aP := bq (outs.flatMap RV.uk), ag := g }) st d)
   | none => none
 | none => match outs with
   | [] => some st
   | _ => none
def lU (st : St) : Operand → V
 | .tmp t => cz st t
 | .const (.int k n) => .one (.int k n)
 | .const (.bool b) => .one (.bool b)
 | .const (.string s) => .one (.str s)
 | .const (.slice none 0 0) => .one .ea
 | .const (.pointer none) => .one .Fj
 | _ => .one .bad
def JB (op : BinOp) (a b : Int) : Option Bool :=
 match op with
 | .lss => some (decide (a < b))
 | .leq => some (decide (a ≤ b))
 | .gtr => some (decide (b < a))
 | .geq => some (decide (b ≤ a))
 | .eql => some (decide (a = b))
 | .neq => some (!decide (a = b))
 | _ => none
def zJ (op : BinOp) (k : IntKind) (a b : Int) : Option Int :=
 match op with
 | .add => some (k.wrap (a + b))
 | .sub => some (k.wrap (a - b))
 | .mul => some (k.wrap (a * b))
 | .and => some (k.wrap ((BitVec.ofInt k.bits a &&& BitVec.ofInt k.bits b).toNat : Int))
 | .or => some (k.wrap ((BitVec.ofInt k.bits a ||| BitVec.ofInt k.bits b).toNat : Int))
 | .xor => some (k.wrap ((BitVec.ofInt k.bits a ^^^ BitVec.ofInt k.bits b).toNat : Int))
 | _ => none
def JC (op : BinOp) (k : IntKind) (a b : Int) : Option Int :=
 match op with
 | .quo => some (k.wrap (a.tdiv b))
 | .rem => some (a.tmod b)
 | _ => none
def zK (op : BinOp) (k : IntKind) (a : Int) (n : Nat) : Option Int :=
 match op with
 | .shl => some (k.wrap (a * 2 ^ (min n k.bits)))
 | .shr => some (a.fdiv (2 ^ (min n k.bits)))
 | _ => none
def pC (a b : ByteArray) : Bool := a.toList == b.toList
def sZ : CV → CV → Option Bool
 | .int k a, .int l b => if k = l then some (decide (a = b)) else none
 | .bool a, .bool b => some (a == b)
 | .str a, .str b => some (pC a b)
 | _, _ => none
def nf : List CV → List CV → Option Bool
 | [], [] => some true
 | a :: l, b :: m => match sZ a b, nf l m with
   | some x, some y => some (x && y)
   | _, _ => none
 | _, _ => none
def Cv (s : ByteArray) (i : Int) : Int := match s[i.toNat]? with | some b => (b.toNat : Int) | none => 0
def gj : (r : RT) → ar r → Nat → CV → Option (ar r)
 | .cons (.int k) _, x, 0, .int l n => if k = l then some (n, x.2) else none
 | .cons .bool _, x, 0, .bool b => some (b, x.2)
 | .cons .str _, x, 0, .str s => some (s, x.2)
 | .cons _ r, x, n + 1, c => (gj r x.2 n c).map fun z => (x.1, z)
 | _, _, _, _ => none
def rowOf (st : St) : (r : RT) → List CV → (k : ar r → List (Nat × Nat) → N) → N
 | .nil, [], k => k () []
 | .cons (.int q) r, .int l n :: cs, k => if q = l then rowOf st r cs (fun x m => k (n, x) m) else .fail
 | .cons .bool r, .bool b :: cs, k => rowOf st r cs (fun x m => k (b, x) m)
 | .cons .str r, .str s :: cs, k => rowOf st r cs (fun x m => k (s, x) m)
 | .cons (.sl q) r, c :: cs, k =>
   match c with
   | .ea => rowOf st r cs (fun x m => k (([] : List _), x) m)
   | .ref a j g w => match bd st a j g with
     | some A => (match A.md with
       | .ho _ => .fail
       | _ => (match cm q A.xs with
         | some ys => rowOf st r cs (fun x m => k (w.app ys, x) ((a, j) :: m))
         | none => .fail))
     | none => .fail
   | .shr _ ys => match cm q ys with
     | some zs => rowOf st r cs (fun x m => k (zs, x) m)
     | none => .fail
   | _ => .fail
 | _, _, _ => .fail
def Md.fz : Md → Md
 | .dp => .sh
 | m => m
def ig.fz (A : ig) : ig := { A with own := false, md := A.md.fz }
def freeze (st : St) : List (Nat × Nat) → St
 | [] => st
 | (a, j) :: l => freeze (m6 (fun s => { s with aP := m6 (fun A => A.map ig.fz) s.aP j, ep := s.ep + 1 }) st a) l
def hJ (st : St) : (r : RT) → List CV → Option (ar r × List (Option (Nat × Nat)))
 | .nil, [] => some ((), [])
 | .cons (.int q) r, .int l n :: cs => if q = l then (match hJ st r cs with | some p => some ((n, p.1), none :: p.2) | none => none) else none
 | .cons .bool r, .bool b :: cs => match hJ st r cs with | some p => some ((b, p.1), none :: p.2) | none => none
 | .cons .str r, .str s :: cs => match hJ st r cs with | some p => some ((s, p.1), none :: p.2) | none => none
 | .cons (.sl q) r, c :: cs =>
   match c with
   | .ea => match hJ st r cs with | some p => some ((([] : List _), p.1), none :: p.2) | none => none
   | .ref a j g .full => match bd st a j g with
     | some A => bif A.own && A.md.is (bif q.ek then .dp else .sh) then (match cm q A.xs with
       | some ys => (match hJ st r cs with | some p => some ((ys, p.1), some (a, j) :: p.2) | none => none)
       | none => none) else none
     | none => none
   | _ => none
 | _, _ => none
def dX : List (Option (Nat × Nat)) → List (Nat × Nat)
 | [] => []
 | some p :: l => p :: dX l
 | none :: l => dX l
def ij (st : St) : List (Nat × Nat) → St
 | [] => st
 | (a, j) :: l => ij (bP st a j none) l
def distinct : List (Nat × Nat) → Bool
 | [] => true
 | (a, j) :: l => l.all (fun p => !(Nat.beq p.1 a && Nat.beq p.2 j)) && distinct l
def lim : Nat := 35184372088832
def qG : RT → List CV → Bool
 | .nil, [] => true
 | .cons (.int k) r, .int l _ :: cs => decide (k = l) && qG r cs
 | .cons .bool r, .bool _ :: cs => qG r cs
 | .cons .str r, .str _ :: cs => qG r cs
 | _, _ => false
def la.fits (T : la) (t : Nat) (l : List CV) : Bool := match T.row t with | some r => qG r l | none => false
def uc (T : la) (st : St) (d : Option Nat) (op : BinOp) (t : Nat) (x y : V) : N :=
 match x, y with
 | .one (.int k a), .one (.int l b) =>
   match op with
   | .shl | .shr => match zK op k a b.toNat with
     | some n => .br (decide (0 ≤ b)) (.done (bj st d (.one (.int k n)))) .fail
     | none => .fail
   | _ => if k = l then (match JB op a b with
     | some t => .done (bj st d (.one (.bool t)))
     | none => match zJ op k a b with
       | some n => .done (bj st d (.one (.int k n)))
       | none => match JC op k a b with
         | some n => .br (decide (b = 0)) .fail (.done (bj st d (.one (.int k n))))
         | none => .fail) else .fail
 | .one (.str a), .one (.str b) =>
   match op with
   | .add => .br (Nat.ble (a.size + b.size) lim) (.done (bj st d (.one (.str (a ++ b))))) .fail
   | .eql => .done (bj st d (.one (.bool (pC a b))))
   | .neq => .done (bj st d (.one (.bool (!pC a b))))
   | _ => .fail
 | .one (.bool a), .one (.bool b) =>
   match op, T.kind t with
   | .eql, some .bool => .done (bj st d (.one (.bool (a == b))))
   | .neq, some .bool => .done (bj st d (.one (.bool (!(a == b)))))
   | _, _ => .fail
 | .one .ea, .one .ea =>
   match op, T.elem t with
   | .eql, some _ => .done (bj st d (.one (.bool true)))
   | .neq, some _ => .done (bj st d (.one (.bool false)))
   | _, _ => .fail
 | .one (.nn _ _), .one .ea =>
   match op, T.elem t with
   | .eql, some _ => .done (bj st d (.one (.bool false)))
   | .neq, some _ => .done (bj st d (.one (.bool true)))
   | _, _ => .fail
 | .agg l, .agg m =>
   bif T.eq t && T.fits t l then (match op, nf l m with
   | .eql, some t => .done (bj st d (.one (.bool t)))
   | .neq, some t => .done (bj st d (.one (.bool (!t))))
   | _, _ => .fail) else .fail
 | _, _ => .fail
def CV.sw : CV → Bool
 | .bad => false
 | _ => true
def V.sw : V → Bool
 | .one c => c.sw
 | .agg cs => cs.all CV.sw
 | .nb _ => false
def bR (st : St) (d : Option Nat) (A : ig) : N :=
 match d with
 | some d => match nth st d with
   | some s0 => .done (m6 (fun s => { s with v := .one (.ref d 0 (s0.ag + 1) .full), aP := [some A], ag := s0.ag + 1 }) st d)
   | none => .fail
 | none => .fail
def iL (st : St) (d : Option Nat) (cs : List CV) : N :=
 match d with
 | some d => match nth st d with
   | some s0 => .done (m6 (fun s => { s with v := .one (.ptr d (s0.bg + 1) 0), box := some cs, bg := s0.bg + 1 }) st d)
   | none => .fail
 | none => .fail
def oC (r : RT) : List CV := (eb r (sv r)).map fun | .shr _ _ => .ea | c => c
def fm (n off : Nat) (cs : List CV) : Option (List CV) :=
 let l := (cs.drop off).take n
 bif Nat.beq l.length n then some l else none
def putCells (cs : List CV) (off : Nat) (l : List CV) : Option (List CV) :=
 bif Nat.ble (off + l.length) cs.length then some (cs.take off ++ l ++ cs.drop (off + l.length)) else none
def JD (T : la) (t : Nat) (l : List CV) : V := bif T.agg t then .agg l else (match l with | [c] => .one c | _ => .one .bad)
def tT (T : la) (st : St) (d : Option Nat) (t : Nat) (a : V) : N :=
 match a, T.cells t with
 | .one (.ptr b g off), some n => match dE st b g with
   | some cs => match fm n off cs with
     | some l => .done (bj st d (JD T t l))
     | none => .fail
   | none => .fail
 | .one (.k9 r x off), some n => match fm n off (eb r x) with
   | some l => .done (bj st d (JD T t l))
   | none => .fail
 | .one (.rM r xs off), some n => .row r xs[0]? fun x => match fm n off (eb r x) with
   | some l => .done (bj st d (JD T t l))
   | none => .fail
 | .one (.DJ a j g i off), some n => match bd st a j g with
   | some A => (match A.md with
     | .sh => .row A.r A.xs[i]? fun x => match fm n off (eb A.r x) with
       | some l => .done (bj st d (JD T t l))
       | none => .fail
     | .dp => .row A.r A.xs[i]? fun x => match fm n off (qb a j g (my st a) i 0 A.r x) with
       | some l => .done (bj st d (JD T t l))
       | none => .fail
     | .ho _ => .fail)
   | none => .fail
 | _, _ => .fail
def kC (r : RT) (x : ar r) : (off : Nat) → List CV → Option (ar r)
 | _, [] => some x
 | off, c :: l => match kC r x (off + 1) l with
   | some y => gj r y off c
   | none => none
def ig.put (A : ig) (ys : List (ar A.r)) : ig := { A with xs := ys }
def rN (T : la) (st : St) (t : Nat) (a v : V) : N :=
 match a, T.cells t with
 | .one (.ptr b g off), some n => match dE st b g with
   | some cs => bif v.sw && Nat.beq v.cells.length n then (match putCells cs off v.cells with
     | some l => .done (m6 (fun s => { s with box := some l }) st b)
     | none => .fail) else .fail
   | none => .fail
 | .one (.DJ a j g i off), some n => match bd st a j g with
   | some A => bif v.sw && A.own && Nat.beq v.cells.length n && Nat.blt 0 n then
       (bif Nat.beq n A.r.width && A.r.ek && Nat.beq off 0 then
         (match A.md with
         | .sh => rowOf st A.r v.cells fun x m => bif m.all (fun p => !(Nat.beq p.1 a && Nat.beq p.2 j)) then
           .row A.r A.xs[i]? (fun _ => .done (bP (freeze st m) a j (some (A.put (A.xs.set i x))))) else .fail
         | .dp => (match hJ st A.r v.cells with
           | some p => bif distinct (dX p.2) && (dX p.2).all (fun p => !(Nat.beq p.1 a && Nat.beq p.2 j)) then
             .row A.r A.xs[i]? (fun _ => .done (bP (ij st (dX p.2)) a j (some (A.put (A.xs.set i p.1))))) else .fail
           | none => .fail)
         | .ho q => (match hJ st A.r v.cells with
           | some p => bif distinct (dX p.2) && (dX p.2).all (fun p => !(Nat.beq p.1 a && Nat.beq p.2 j)) then
             .br (Nat.beq i q) (.row A.r A.xs[i]? (fun _ => .done (bP (ij st (dX p.2)) a j (some { A.put (A.xs.set i p.1) with md := .dp })))) .fail else .fail
           | none => .fail))
       else bif A.md.Ct then .fail else .row A.r A.xs[i]? fun x => match kC A.r x off v.cells with
         | some y => .done (bP st a j (some (A.put (A.xs.set i y))))
         | none => .fail) else .fail
   | none => .fail
 | _, _ => .fail
def pM (T : la) (st : St) (d : Option Nat) (t : Nat) (x ix : V) : N :=
 match T.elem t, x, ix with
 | some (q, _), .one (.shr r xs), .one (.int _ i) => match cm q xs with
   | some ys => .br (decide (0 ≤ i)) (.row q ys[i.toNat]? fun y => .done (bj st d (.one (.k9 q y 0)))) .fail
   | none => .fail
 | some (q, _), .one (.ref a j g w), .one (.int _ i) => match bd st a j g with
   | some A => match cm q A.xs with
     | some ys => (match A.own with
       | false => bif !A.md.is .sh then .fail else .br (decide (0 ≤ i)) (.row q (w.app ys)[i.toNat]? fun y => .done (bj st d (.one (.k9 q y 0)))) .fail
       | true => .br (decide (0 ≤ i)) (.br (Nat.blt i.toNat (w.app ys).length) (.done (bj st d (.one (.DJ a j g (w.idx i.toNat) 0)))) .fail) .fail)
     | none => .fail
   | none => .fail
 | _, _, _ => .fail
def oD (n : Nat) (lo hi : Option V) (k : Option Nat → Option Nat → N) : N :=
 let Fo (l : Option Nat) : N := match hi with
   | none => k l none
   | some (.one (.int _ h)) => .br (decide ((match l with | some l => (l : Int) | none => 0) ≤ h)) (.br (decide (h ≤ n)) (k l (some h.toNat)) .fail) .fail
   | _ => .fail
 match lo with
 | none => Fo none
 | some (.one (.int _ l)) => .br (decide (0 ≤ l)) (match hi with
   | none => .br (decide (l ≤ n)) (Fo (some l.toNat)) .fail
   | _ => Fo (some l.toNat)) .fail
 | _ => .fail
def Fp (n : Nat) : Option Nat → Option Nat → View
 | none, none => .full
 | some l, none => .from l
 | none, some h => .sub 0 h
 | some l, some h => .sub l (h - l)
def View.of (w : View) (n : Nat) (lo hi : Option Nat) : View :=
 match lo, hi with
 | none, none => w
 | some l, none => (match w with | .full => .from l | .from a => .from (a + l) | .sub a m => .sub (a + l) (m - l))
 | none, some h => .sub w.lo h
 | some l, some h => .sub (w.lo + l) (h - l)
def s3 (T : la) (st : St) (d : Option Nat) (t : Nat) (x : V) (lo hi : Option V) : N :=
 match x with
 | .one (.str s) => match T.kind t with
   | some .str => oD s.size lo hi fun l h =>
     .done (bj st d (.one (.str (s.extract (l.getD 0) (h.getD s.size)))))
   | _ => .fail
 | .one .ea => match T.elem t with
   | some _ => oD 0 lo hi fun _ _ => .done (bj st d (.one .ea))
   | none => .fail
 | .one (.shr r xs) => match T.elem t with
   | some (q, _) => match cm q xs with
     | some ys => oD ys.length lo hi fun l h => .done (bj st d (.one (.shr q ((Fp ys.length l h).app ys))))
     | none => .fail
   | none => .fail
 | .one (.ref a j g w) => match T.elem t, bd st a j g with
   | some (q, _), some A => match cm q A.xs with
     | some ys => oD (w.app ys).length lo hi fun l h => .done (bj st d (.one (.ref a j g (w.of (w.app ys).length l h))))
     | none => .fail
   | _, _ => .fail
 | _ => .fail
def Cw (T : la) (st : St) (d : Option Nat) (t : Nat) (x : V) : N :=
 match x with
 | .one (.str s) => match T.kind t with
   | some .str => .done (bj st d (.one (.int .i64 s.size)))
   | _ => .fail
 | .one .ea => match T.elem t with
   | some _ => .done (bj st d (.one (.int .i64 0)))
   | none => .fail
 | .one (.shr _ xs) => match T.elem t with
   | some _ => .done (bj st d (.one (.int .i64 xs.length)))
   | none => .fail
 | .one (.ref a j g w) => match T.elem t, bd st a j g with
   | some _, some A => .done (bj st d (.one (.int .i64 (w.app A.xs).length)))
   | _, _ => .fail
 | _ => .fail
def JE (st : St) : V → Option (Nat × Nat × ig)
 | .one (.ref a j g .full) => match bd st a j g with
   | some A => bif A.own && A.md.is .dp then some (a, j, A) else none
   | none => none
 | _ => none
def zL (st : St) (d : Option Nat) (r : RT) (bytes : Nat) (x : V) (b k : Nat) (ys : List (ar r)) : N :=
 match x with
 | .one .ea => .br (Nat.ble ((([] : List (ar r)).length + ys.length) * bytes) lim) (bR (ij st [(b, k)]) d { r := r, own := true, xs := [] ++ ys, md := .dp }) .fail
 | .one (.ref a j g w) => match JE st (.one (.ref a j g w)) with
   | some (_, _, A) => (match cm r A.xs with
     | some xs => bif !(Nat.beq a b && Nat.beq j k) then .br (Nat.ble ((xs.length + ys.length) * bytes) lim) (bR (ij st [(a, j), (b, k)]) d { r := r, own := true, xs := xs ++ ys, md := .dp }) .fail else .fail
     | none => .fail)
   | none => .fail
 | _ => .fail
def zA (T : la) (st : St) (d : Option Nat) (t : Nat) (x y : V) : N :=
 match T.elem t with
 | none => .fail
 | some (r, bytes) =>
   match JE st y with
   | some (b, k, B) => (match cm r B.xs with | some ys => zL st d r bytes x b k ys | none => .fail)
   | none =>
   let out (xs : List (ar r)) (used : List (Nat × Nat)) : N :=
     match y with
     | .one c => lT st r c fun ys =>
         .br (Nat.ble ((xs.length + ys.length) * bytes) lim)
           (bR (used.foldl (fun s p => bP s p.1 p.2 none) st) d { r := r, own := true, xs := xs ++ ys }) .fail
     | _ => .fail
   match x with
   | .one .ea => out [] []
   | .one (.ref a j g w) => match bd st a j g with
     | some A => bif A.own && A.md.is .sh then (match cm r A.xs with | some xs => out (w.app xs) [(a, j)] | none => .fail) else .fail
     | none => .fail
   | _ => .fail
def JF (T : la) (st : St) (d : Option Nat) (t : Nat) (len cap : V) : N :=
 match T.elem t, len, cap with
 | some (r, bytes), .one (.int .i64 n), .one (.int .i64 c) =>
   .br (decide (n = c)) (.br (decide (0 ≤ n)) (.br (Nat.ble (n.toNat * bytes) lim)
     (bR st d { r := r, own := true, xs := List.replicate n.toNat (sv r), md := bif T.dp t then .dp else .sh }) .fail) .fail) .fail
 | _, _, _ => .fail
def vm (st : St) (r : RT) : (i : Nat) → List (Nat × V) → (k : List (ar r) → List (Nat × Nat) → N) → N
 | _, [], k => k [] []
 | i, (p, v) :: l, k => bif v.sw && Nat.beq p i then rowOf st r v.cells fun x m => vm st r (i + 1) l fun xs m' => k (x :: xs) (m ++ m') else .fail
def Fq (st : St) (r : RT) : List (Nat × V) → Option (List (ar r) × List (Option (Nat × Nat)))
 | [] => some ([], [])
 | [(p, v)] => bif v.sw && Nat.beq p 0 then (match hJ st r v.cells with | some q => some ([q.1], q.2) | none => none) else none
 | _ => none
def ur (T : la) (st : St) (d : Option Nat) (t len : Nat) (parts : List (Nat × V)) : N :=
 match T.elem t with
 | some (r, _) => bif Nat.beq parts.length len && Nat.ble (len * r.width) 16777216 then
     (match (bif T.dp t then Fq st r parts else none) with
     | some p => bif distinct (dX p.2) then bR (ij st (dX p.2)) d { r := r, own := true, xs := p.1, md := .dp } else .fail
     | none => vm st r 0 parts fun xs m => bR (freeze st m) d { r := r, own := true, xs := xs })
   else .fail
 | none => .fail
def oE (T : la) (t : Nat) (cs : List CV) : List (Nat × V) → Option (List CV)
 | [] => some cs
 | (f, v) :: l => match T.off t f, T.Sz t f with
   | some o, some s => bif v.sw && Nat.beq v.cells.length s then (match putCells cs o v.cells with
     | some nc => oE T t nc l
     | none => none) else none
   | _, _ => none
def View.isFull : View → Bool
 | .full => true
 | _ => false
def oa (st : St) (s : Nat) : Nat := match nth st s with | some x => x.ag | none => 0
def gk (st : St) (own : Bool) : CV → Option (OV × Option Lb × List (Nat × Nat))
 | .int q n => some (.int q n, none, [])
 | .bool b => some (.bool b, none, [])
 | .str s => some (.str s, none, [])
 | .ea => some (.ea, none, [])
 | .shr r xs => some (.shr r xs, none, [])
 | .nn r xs => some (.shr r xs, none, [])
 | .ref a j g w => match bd st a j g with
   | some A => bif A.md.Ct then none else bif own && A.own && (A.md.is .sh || w.isFull) then some (.own { A with xs := w.app A.xs }, some (.sp a j), []) else some (.shr A.r (w.app A.xs), none, [(a, j)])
   | none => none
 | .pL a j g e _ _ q ys => match bd st a j g with
   | some A => bif A.md.is .dp && Nat.beq e (my st a) then some (.shr q ys, none, [(a, j)]) else none
   | none => none
 | .k9 r x off => bif Nat.beq off 0 then some (.k9 r [x], none, []) else none
 | .rM r xs off => bif Nat.beq off 0 then some (.k9 r xs, none, []) else none
 | .fn f rs xs => some (.fn f rs xs, none, [])
 | _ => none
def fc (st : St) (own : Bool) : List CV → Option (List OV × List (Option Lb) × List (Nat × Nat))
 | [] => some ([], [], [])
 | c :: l => match gk st own c, fc st own l with
   | some (o, u, r), some (os, us, rs) => some (o :: os, u :: us, r ++ rs)
   | _, _ => none
def cn : List (Option Lb) → List Lb
 | [] => []
 | some l :: ls => l :: cn ls
 | none :: ls => cn ls
def Pm.ob : Pm → Bool
 | .own => true
 | _ => false
def JG (st : St) : CV → Bool
 | .ref a j g w => (match w with | .full => true | _ => false) && (match bd st a j g with | some A => A.own | none => false)
 | _ => true
def eo (st : St) (m : Pm) : V → Option (AV × List Lb × List Lb × List (Nat × Nat))
 | .one (.ptr b g off) => match dE st b g with
   | some cs => (match fc st true cs with
     | some (os, u, r) => bif Nat.beq off 0 then some (.box os, .box b :: cn u, cn u, r) else none
     | none => none)
   | none => none
 | .one (.ref a j g w) => match m with
   | .io => (match w, bd st a j g with
     | .full, some A => bif A.own && !A.md.Ct then some (.io A, [.sp a j], [], []) else none
     | _, _ => none)
   | m => match fc st m.ob [.ref a j g w] with
     | some (os, u, r) => some (.val false os, cn u, cn u, r)
     | none => none
 | .one c => match fc st false [c] with
   | some (os, u, r) => some (.val false os, cn u, cn u, r)
   | none => none
 | .agg cs => match m with
   | .bQ => (match fc st true cs with
     | some (os, u, r) => bif cs.all (JG st) then some (.bQ os, cn u, [], r) else none
     | none => none)
   | m => match fc st m.ob cs with
     | some (os, u, r) => some (.val true os, cn u, cn u, r)
     | none => none
 | .nb _ => none
def iM (st : St) : List (Pm × V) → Option (List AV × List Lb × List Lb × List (Nat × Nat))
 | [] => some ([], [], [], [])
 | (m, v) :: l => match eo st m v, iM st l with
   | some (a, u, q, r), some (as, us, qs, rs) => some (a :: as, u ++ us, q ++ qs, r ++ rs)
   | _, _ => none
def s4 : List Lb → Bool
 | [] => true
 | x :: l => l.all (fun y => !(Lb.same x y)) && s4 l
def apart (used : List Lb) (reads : List (Nat × Nat)) : Bool :=
 reads.all fun p => used.all fun q => !(Lb.same q (.sp p.1 p.2))
def pc (st : St) : List Lb → St
 | [] => st
 | .sp a j :: l => pc (bP st a j none) l
 | _ :: l => pc st l
def OV.plain : OV → Bool
 | .own A => !A.r.ek || A.md.is .dp
 | .shr _ _ => false
 | .k9 _ _ => false
 | .fn _ _ _ => false
 | _ => true
def XV.plain : XV → Bool
 | .io A => !A.r.ek || A.md.is .dp
 | .box os => os.all OV.plain
 | .bQ As => As.all fun | some A => !A.r.ek || A.md.is .dp | none => true
def Xe.plain (r : Xe) : Bool :=
 r.outs.all (fun o => o.uk.all OV.plain) && r.exts.all XV.plain
def zM (st : St) : (j : Nat) → List CV → List (Option ig) → Option St
 | _, [], _ => some st
 | j, .ref a k g _ :: cs, As => match nth As j, bd st a k g with
   | some (some B), some _ => zM (bP st a k (some B)) (j + 1) cs As
   | _, _ => none
 | j, _ :: cs, As => zM st (j + 1) cs As
def ri (st : St) (m : Pm) (v : V) (xs : List XV) : Option (St × List XV) :=
 match v with
 | .one (.ptr b g _) => match xs with
   | .box os :: xs => (match nth st b, dE st b g with
     | some s0, some _ => some (m6 (fun s => { s with box := some (bm b (s0.ag + 1) 0 os), aP := bq os, ag := s0.ag + 1 }) st b, xs)
     | _, _ => none)
   | _ => none
 | .one (.ref a j g _) => match m with
   | .io => (match xs, bd st a j g with
     | .io A :: xs, some _ => some (bP st a j (some A), xs)
     | _, _ => none)
   | _ => some (st, xs)
 | .agg cs => match m with
   | .bQ => (match xs with
     | .bQ As :: xs => (zM st 0 cs As).map fun bf => (bf, xs)
     | _ => none)
   | _ => some (st, xs)
 | _ => some (st, xs)
def s5 (st : St) : List (Pm × V) → List XV → Option St
 | [], [] => some st
 | [], _ => none
 | (m, v) :: l, xs => match ri st m v xs with
   | some (bf, SC) => s5 bf l SC
   | none => none
def tU (a b c : Pm) : List V → List (Pm × V)
 | [] => []
 | [x] => [(a, x)]
 | [x, y] => [(a, x), (b, y)]
 | x :: y :: z :: l => (a, x) :: (b, y) :: (c, z) :: l.map fun v => (.shr, v)
def refsOf : List CV → List (Nat × Nat)
 | [] => []
 | .ref a j _ _ :: l => (a, j) :: refsOf l
 | _ :: l => refsOf l
def zN (st : St) : List (Pm × V) → List (Nat × Nat)
 | [] => []
 | (.own, .one (.ptr b g _)) :: l => (match dE st b g with | some cs => refsOf cs | none => []) ++ zN st l
 | (.pick q, .one (.ptr b g _)) :: l => (match dE st b g with | some cs => refsOf (q.filterMap (nth cs)) | none => []) ++ zN st l
 | _ :: l => zN st l
def wI (st : St) : St := st.map fun s => { s with ep := s.ep + 1 }
def DK (st : St) (d : Option Nat) (yy : vW) (ms : List (Pm × V)) (fin : St → N) : N :=
   match iM st ms with
   | some (eA, used, SD, reads) => bif s4 used && apart used reads then (match yy eA with
     | some A => .row A.r A.o fun x => (match s5 (pc (wI (bif (A.res x).plain then st else freeze st reads)) SD) ms (A.res x).exts with
       | some bf => (match uq bf d (A.res x).outs with
         | some NP => fin NP
         | none => .fail)
       | none => .fail)
     | none => .fail) else .fail
   | none => .fail
structure Dr where
 a : Nat
 j : Nat
 g : Nat
 e : Nat
 i : Nat
 k : Nat
 q : RT
 ys : List (ar q)
def vX : List CV → List Dr
 | [] => []
 | .pL a j g e i k q ys :: l => ⟨a, j, g, e, i, k, q, ys⟩ :: vX l
 | _ :: l => vX l
def qH : List (Pm × V) → List Dr
 | [] => []
 | (.io, .one c) :: l => vX [c] ++ qH l
 | (.bQ, .agg cs) :: l => vX cs ++ qH l
 | _ :: l => qH l
def Cx : List Nat → Bool
 | [] => true
 | [_] => true
 | a :: b :: l => Nat.blt a b && Cx (b :: l)
def Dr.arr (x : Dr) : ig := { r := x.q, own := true, xs := x.ys, md := bif x.q.ek then .dp else .sh }
def mi (st : St) (ms : List (Pm × V)) : Option (Dr × ig × List Dr) :=
 match qH ms with
 | [] => none
 | x :: l => match bd st x.a x.j x.g with
   | some A => bif A.own && A.md.is .dp && Nat.beq x.e (my st x.a) && l.all (fun y => Nat.beq y.a x.a && Nat.beq y.j x.j && Nat.beq y.g x.g && Nat.beq y.e x.e && Nat.beq y.i x.i) &&
       Cx ((x :: l).map (·.k)) && !Nat.beq x.a (st.length - 1) then some (x, A, x :: l) else none
   | none => none
def posOf (k : Nat) : (n : Nat) → List Dr → Nat
 | n, [] => n
 | n, x :: l => bif Nat.beq x.k k then n else posOf k (n + 1) l
def NQ (P g : Nat) (l : List Dr) : CV → CV
 | .pL _ _ _ _ _ k _ _ => .ref P (posOf k 0 l) g .full
 | c => c
def L0 (P g : Nat) (l : List Dr) : Pm × V → Pm × V
 | (.io, .one c) => (.io, .one (NQ P g l c))
 | (.bQ, .agg cs) => (.bQ, .agg (cs.map (NQ P g l)))
 | x => x
def eE (st : St) (x : Dr) (A : ig) (l : List Dr) : St :=
 m6 (fun s => { s with aP := l.map (fun y => some y.arr), ag := s.ag + 1, ep := s.ep + 1 }) (bP st x.a x.j (some { A with md := .ho x.i })) (st.length - 1)
def s6 (st : St) (P g : Nat) (r : RT) : (n : Nat) → List Dr → ar r → Option (ar r)
 | _, [], z => some z
 | n, y :: l, z => match bd st P n g with
   | some B => bif B.own && B.md.is (bif y.q.ek then .dp else .sh) then (match cm y.q B.xs with
     | some ys => (match nd r z y.k y.q ys with
       | some z' => s6 st P g r (n + 1) l z'
       | none => none)
     | none => none) else none
   | none => none
def Fs (P g : Nat) (x : Dr) (A : ig) (l : List Dr) (st : St) : N :=
 match bd st x.a x.j x.g with
 | some H => bif H.md.Ct then (.row A.r A.xs[x.i]? fun z => match s6 st P g A.r 0 l z with
   | some z' => .done (bP (m6 (fun s => { s with aP := [], ep := s.ep + 1 }) st P) x.a x.j (some (A.put (A.xs.set x.i z'))))
   | none => .fail) else .fail
 | none => .fail
def Cy (T : la) (st : St) (d : Option Nat) (t : Nat) (x y : V) : N :=
 match mi st [(.io, x)] with
 | none => zA T st d t x y
 | some (z, A, l) => zA T (eE st z A l) d t (L0 (st.length - 1) (oa st (st.length - 1) + 1) l (.io, x)).2 y
def DL (st : St) (o : Oper) : Bool :=
 match o.op with
 | .call { callee := .builtin .append, args := args, argTypes := _ } => (match args.toList with
   | x :: _ => (mi st [(.io, lU st x)]).isSome
   | _ => false)
 | _ => false
def Nd (st : St) (d : Option Nat) (yy : vW) (ms : List (Pm × V)) : N :=
 match mi st ms with
 | none => DK st d yy ms .done
 | some (x, A, l) => DK (eE st x A l) d yy (ms.map (L0 (st.length - 1) (oa st (st.length - 1) + 1) l)) (Fs (st.length - 1) (oa st (st.length - 1) + 1) x A l)
def yz (st : St) : CV → CV
 | .ref a j g .full => match bd st a j g with
   | some A => bif A.own then .ref a j g .full else bif A.md.is .sh then .shr A.r A.xs else .ref a j g .full
   | none => .ref a j g .full
 | x => x
def JH (st : St) : V → V
 | .one x => .one (yz st x)
 | .agg cs => .agg (cs.map (yz st))
 | x => x
def Nf (st : St) (s : Sl) : Sl := { s with v := JH st s.v, box := s.box.map fun cs => cs.map (yz st) }
def s7 (st : St) : St := st.map (Nf st)
def Pm.JI : Pm → Bool
 | .pick _ => true
 | _ => false
def yA (ms : List (Pm × V)) (st : St) : St := bif ms.any (fun m => m.1.JI) then s7 st else st
def BE (S : ld) (st : St) (d : Option Nat) (f : FuncId) (args : List V) : N :=
 match S f with
 | none => .fail
 | some (a, b, c, yy) => Nd (yA (tU a b c args) (freeze st (zN st (tU a b c args)))) d yy (tU a b c args)
def ec : List CV → Option ((r : RT) × ar r)
 | [] => some ⟨.nil, ()⟩
 | .int k n :: l => match ec l with | some ⟨r, x⟩ => some ⟨.cons (.int k) r, (n, x)⟩ | none => none
 | .bool b :: l => match ec l with | some ⟨r, x⟩ => some ⟨.cons .bool r, (b, x)⟩ | none => none
 | .str s :: l => match ec l with | some ⟨r, x⟩ => some ⟨.cons .str r, (s, x)⟩ | none => none
 | .shr q xs :: l => match ec l with | some ⟨r, x⟩ => some ⟨.cons (.sl q) r, (xs, x)⟩ | none => none
 | _ => none
def fT (st : St) (b : Nat) : St := m6 (fun s => { s with box := none }) st b
def XT (b g : Nat) (r : RT) (x : ar r) : V → V
 | .one (.ptr b' g' off) => bif Nat.beq b' b && Nat.beq g' g then .one (.k9 r x off) else .one (.ptr b' g' off)
 | v => v
def ng (st : St) (b g : Nat) (r : RT) (x : ar r) : St := st.map fun s => { s with v := XT b g r x s.v }
def L1 (st : St) (t : Nat) : Option (St × ((r : RT) × List (ar r))) :=
 match cz st t with
 | .one (.k9 r x off) => bif Nat.beq off 0 then some (st, ⟨r, [x]⟩) else none
 | .one (.rM r xs off) => bif Nat.beq off 0 then some (st, ⟨r, xs⟩) else none
 | .one (.ptr b g off) => match dE st b g with
   | some cs => bif Nat.beq off 0 then (match ec cs with
     | some ⟨r, x⟩ => some (ng (fT st b) b g r x, ⟨r, [x]⟩)
     | none => none) else none
   | none => none
 | _ => none
def vL (st : St) : List Operand → Option (St × ((rs : RT) × ar rs))
 | [] => some (st, ⟨.nil, ()⟩)
 | .tmp t :: l => match L1 st t with
   | some (bf, ⟨r, ys⟩) => (match vL bf l with
     | some (NP, ⟨rs, xs⟩) => some (NP, ⟨.cons (.sl r) rs, (ys, xs)⟩)
     | none => none)
   | none => none
 | _ => none
def tV : (rs : RT) → ar rs → List V
 | .nil, _ => []
 | .cons (.sl r) rs, x => .one (.rM r x.1 0) :: tV rs x.2
 | .cons _ rs, x => .one .bad :: tV rs x.2
def GL (y : ar (.cons (.int .u8) .nil)) : Int := y.1
def bytesOf (ys : List (ar (.cons (.int .u8) .nil))) : ByteArray := ys.foldl (fun r y => r.push (UInt8.ofNat (GL y).toNat)) ByteArray.empty
def Fe (T : la) (S : ld) (st : St) (o : Oper) : N :=
 match o.op with
 | .move x | .assign x => .done (bj st o.dst (lU st x))
 | .pick c a b => match lU st c with
   | .one (.bool x) => .br x (.done (bj st o.dst (lU st a))) (.done (bj st o.dst (lU st b)))
   | _ => .fail
 | .alloc t => match T.row t with
   | some r => iL st o.dst (oC r)
   | none => .fail
 | .box t x => match T.cells t with
   | some n => bif (lU st x).sw && Nat.beq (lU st x).cells.length n then (match (bif T.cap t then ec (lU st x).cells else none) with
     | some ⟨r, y⟩ => .done (bj st o.dst (.one (.k9 r y 0)))
     | none => iL st o.dst (lU st x).cells) else .fail
   | none => .fail
 | .build t parts => match T.row t, T.agg t with
   | some r, true => (match oE T t (oC r) (parts.toList.map fun p => (p.1, lU st p.2)) with
     | some cs => .done (bj st o.dst (.agg cs))
     | none => .fail)
   | _, _ => .fail
 | .buildSlice t len parts => ur T st o.dst t len (parts.toList.map fun p => (p.1, lU st p.2))
 | .load t a => tT T st o.dst t (lU st a)
 | .store t a v => (match o.dst with
   | none => rN T st t (lU st a) (lU st v)
   | some _ => .fail)
 | .nilCheck x => match lU st x with
   | .one (.ptr b g off) => (match dE st b g with
     | some _ => .done (bj st o.dst (.one (.ptr b g off)))
     | none => .fail)
   | .one (.DJ a j g i off) => (match bd st a j g with
     | some _ => .done (bj st o.dst (.one (.DJ a j g i off)))
     | none => .fail)
   | _ => .fail
 | .binOp op t x y _ => uc T st o.dst op t (lU st x) (lU st y)
 | .unOp .not _ x => match lU st x with
   | .one (.bool b) => .done (bj st o.dst (.one (.bool (!b))))
   | _ => .fail
 | .convert s t x => match T.kind s, T.kind t, lU st x with
   | some (.int _), some (.int k), .one (.int _ n) => .done (bj st o.dst (.one (.int k (k.wrap n))))
   | some .str, some .str, .one (.str b) => .done (bj st o.dst (.one (.str b)))
   | none, some .str, .one c => (match T.elem s with
     | some (.cons (.int .u8) .nil, _) => lT st (.cons (.int .u8) .nil) c fun ys => .done (bj st o.dst (.one (.str (bytesOf ys))))
     | _ => .fail)
   | _, _, _ => .fail
 | .makeSlice t l c => JF T st o.dst t (lU st l) (lU st c)
 | .slice t x lo hi none => s3 T st o.dst t (lU st x) (lo.map (lU st)) (hi.map (lU st))
 | .fieldAddr t x f => match lU st x, T.off t f with
   | .one (.ptr b g off), some k => (match dE st b g with
     | some _ => .done (bj st o.dst (.one (.ptr b g (off + k))))
     | none => .fail)
   | .one (.DJ a j g i off), some k => (match bd st a j g with
     | some _ => .done (bj st o.dst (.one (.DJ a j g i (off + k))))
     | none => .fail)
   | .one (.k9 r x off), some k => .done (bj st o.dst (.one (.k9 r x (off + k))))
   | .one (.rM r xs off), some k => .done (bj st o.dst (.one (.rM r xs (off + k))))
   | _, _ => .fail
 | .field t x f => match lU st x, T.off t f with
   | .agg cs, some k => bif T.one t f then (match nth cs k with
     | some c => .done (bj st o.dst (.one c))
     | none => .fail) else .fail
   | _, _ => .fail
 | .indexAddr t x i => pM T st o.dst t (lU st x) (lU st i)
 | .index t x i => match T.kind t, lU st x, lU st i with
   | some .str, .one (.str s), .one (.int _ n) => .br (decide (0 ≤ n)) (.br (decide (n < s.size)) (.done (bj st o.dst (.one (.int .u8 (Cv s n))))) .fail) .fail
   | _, _, _ => .fail
 | .extract t i => match lU st t with
   | .nb vs => match nth vs i with
     | some v => .done (bj st o.dst v)
     | none => .fail
   | _ => .fail
 | .call { callee := .value (.func f), args := args, argTypes := _ } => BE S st o.dst f (args.toList.map (lU st))
 | .call { callee := .value (.tmp t), args := args, argTypes := _ } => (match cz st t with
   | .one (.fn g rs xs) => .row rs xs[0]? fun x => BE S st o.dst g (args.toList.map (lU st) ++ tV rs x)
   | _ => .fail)
 | .makeFunc (.func g) first uu => bif first.isEmpty then (match vL st uu.toList with
   | some (bf, ⟨rs, x⟩) => .done (bj bf o.dst (.one (.fn g rs [x])))
   | none => .fail) else .fail
 | .call { callee := .builtin b, args := args, argTypes := ts } => match b, args.toList, ts.toList with
   | .len, [x], [t] => Cw T st o.dst t (lU st x)
   | .append, [x, y], [t, u] => bif Nat.beq t u then Cy T st o.dst t (lU st x) (lU st y) else .fail
   | .min, [x, y], _ => (match lU st x, lU st y with
     | .one (.int k a), .one (.int _ b) => .done (bj st o.dst (.one (.int k (if b < a then b else a))))
     | _, _ => .fail)
   | .max, [x, y], _ => (match lU st x, lU st y with
     | .one (.int k a), .one (.int _ b) => .done (bj st o.dst (.one (.int k (if b > a then b else a))))
     | _, _ => .fail)
   | .min, [x, y, z], _ => (match lU st x, lU st y, lU st z with
     | .one (.int k a), .one (.int _ b), .one (.int _ c) => .done (bj st o.dst (.one (.int k (if c < (if b < a then b else a) then c else (if b < a then b else a)))))
     | _, _, _ => .fail)
   | _, _, _ => .fail
 | _ => .fail
def xO (T : la) (S : ld) (ops : List Oper) (st : St) (o : Oper) : N :=
 match o.guard with
 | none => Fe T S st o
 | some (j, want) => match (nth ops j).bind (·.dst) with
   | some d => match cz st d with
     | .one (.bool b) =>
       let yes (x : Bool) : N := Fe T S (bj st (some d) (.one (.bool x))) o
       let no (x : Bool) : N := .done (bj (bj st (some d) (.one (.bool x))) o.dst (.nb []))
       .br b (bif want then yes true else no true) (bif want then no false else yes false)
     | .nb [] => .done (bj st o.dst (.nb []))
     | _ => .fail
   | none => .fail
inductive Ex where
 | normal
 | exit (n : Nat)
 | ret
open Classical in
noncomputable def both {R : Type} (a b : Option R) : Option R := if a = b then a else none
theorem mK {R : Type} (a : Option R) : both a a = a := by unfold both; rw [if_pos rfl]
theorem Hu {R : Type} {a b : Option R} {r : R} (h : both a b = some r) : a = some r ∧ b = some r := by
 unfold both at h
 split at h
 · rename_i e; exact ⟨h, e ▸ h⟩
 · cases h
section
variable {R : Type} (T : la) (S : ld)
def L2 (ops : List Oper) : List Oper → St → (St → Option R) → Option R
 | [], st, k => k st
 | o :: r, st, k => (xO T S ops st o).fold fun bf => L2 ops r bf k
inductive Kd where
 | any | take | one | last
inductive Pl where
 | nil
 | op (i : Nat) (kd : Kd) (p : Pl)
 | alt (p q : Pl)
def Ft (st : St) (ms : List (Pm × V)) : Bool :=
 match iM st ms with
   | some (_, used, _, _) => used.isEmpty
   | none => true
def qy (S : ld) (st : St) (f : FuncId) (args : List V) : Bool :=
 match S f with
 | some (a, b, c, _) => (match mi (yA (tU a b c args) (freeze st (zN st (tU a b c args)))) (tU a b c args) with | none => Ft (yA (tU a b c args) (freeze st (zN st (tU a b c args)))) (tU a b c args) | some _ => false)
 | none => true
def kindOk (S : ld) (st : St) (o : Oper) : Kd → Bool
 | .any => match o.op with
   | .move _ | .assign _ | .pick _ _ _ | .nilCheck _ | .binOp _ _ _ _ _ | .unOp _ _ _ | .slice _ _ _ _ _ | .fieldAddr _ _ _ | .indexAddr _ _ _ | .index _ _ _ | .extract _ _ | .build _ _ | .field _ _ _ => true
   | .convert _ _ x => (match lU st x with | .one (.pL _ _ _ _ _ _ _ _) => false | .one (.shr _ _) => false | .one (.nn _ _) => false | .one (.ref _ _ _ _) => false | .one .ea => false | _ => true)
   | .call { callee := .builtin b, .. } => (match b with | .len | .min | .max => true | _ => false)
   | _ => false
 | .take => match o.op with
   | .load _ _ => true
   | _ => false
 | .one => match o.op with
   | .store _ _ _ => false
   | .call { callee := .builtin b, .. } => (match b with | .len | .min | .max => true | _ => false)
   | .call { callee := .value (.func f), args := args, .. } => qy S st f (args.toList.map (lU st))
   | .call { callee := .value (.tmp t), args := args, .. } => (match cz st t with
     | .one (.fn g rs xs) => (match xs[0]? with | some x => qy S st g (args.toList.map (lU st) ++ tV rs x) | none => true)
     | _ => true)
   | _ => true
 | .last => true
noncomputable def rO (ops : List Oper) : Pl → St → (St → Option R) → Option R
 | .nil, st, k => k st
 | .op i kd r, st, k => match nth ops i with
   | some o => bif kindOk S st o kd then (xO T S ops st o).fold fun bf => rO ops r bf k else none
   | none => none
 | .alt p q, st, k => both (rO ops p st k) (rO ops q st k)
abbrev p9 (R : Type) := Nat → Code → St → (Ex → St → Option R) → Option R
abbrev mL := Nat → Pl
noncomputable def fU (D : mL) (L : p9 R) : Code → St → (Ex → St → Option R) → Option R
 | .skip, st, k => k .normal st
 | .region _ ops false, st, k => L2 T S ops.toList ops.toList st fun bf => k .normal bf
 | .region id ops true, st, k => rO T S ops.toList (D id) st fun bf => k .normal bf
 | .seq a b, st, k => fU D L a st fun e bf => match e with
   | .normal => fU D L b bf k
   | e => k e bf
 | .cond (.tmp c) a b, st, k => match cz st c with
   | .one (.bool x) => bif x then fU D L a (bj st (some c) (.one (.bool true))) k else fU D L b (bj st (some c) (.one (.bool false))) k
   | _ => none
 | .block id (.loop b), st, k => L id b st k
 | .block id b, st, k => fU D L b st fun e bf => match e with
   | .exit n => bif Nat.beq n id then k .normal bf else k (.exit n) bf
   | e => k e bf
 | .exit id, st, k => k (.exit id) st
 | .ret, st, k => k .ret st
 | _, _, _ => none
end
end Go.TM
namespace Go.TM
open Go Go.RowKit
@[simp] theorem Xf {α : Type} (n : Nat) : nth ([] : List α) n = none := rfl
theorem gC {α : Type} (l : List α) (n : Nat) : nth l n = l[n]? := by
 induction l generalizing n with
 | nil => simp
 | cons x l ih => cases n <;> simp [nth, ih]
theorem jF {α : Type} (f : α → α) (l : List α) (n : Nat) : nth (m6 f l n) n = (nth l n).map f := by
 induction l generalizing n with
 | nil => rfl
 | cons x l ih => cases n <;> simp [m6, nth, ih]
theorem mz {α : Type} (f : α → α) (l : List α) {n m : Nat} (h : m ≠ n) : nth (m6 f l n) m = nth l m := by
 induction l generalizing n m with
 | nil => rfl
 | cons x l ih =>
   cases n with
   | zero => cases m with
     | zero => exact absurd rfl h
     | succ m => rfl
   | succ n => cases m with
     | zero => rfl
     | succ m => simp only [m6, nth]; exact ih (by omega)
theorem dF {α : Type} (f : α → α) (l : List α) (n m : Nat) : nth (m6 f l n) m = if m = n then (nth l m).map f else nth l m := by
 by_cases h : m = n
 · subst h; simp [jF]
 · simp [h, mz f l h]
theorem CA {α : Type} {l : List α} {n : Nat} {x : α} (h : nth l n = some x) : n < l.length := by
 rw [gC] at h; exact (List.getElem?_eq_some_iff.1 h).1
def GM {r : RT} (xs : den (.sl r)) : List (ar r) := xs
mutual
def cr (w : World) (ok : Nat → Prop) : (t : Ty) → Value → den t → Prop
 | .int k, v, n => v = .int k n
 | .bool, v, b => v = .bool b
 | .str, v, s => v = .string s
 | .sl r, v, xs => (v = .slice none 0 0 ∧ GM xs = []) ∨
     ∃ a cap, v = .slice (some a) (GM xs).length cap ∧ (GM xs).length ≤ cap ∧
       (GM xs ≠ [] → a.spot = none ∧ a.block < w.heap.size ∧ ok a.block) ∧
       ∀ i x, (GM xs)[i]? = some x → dt w ok r a.block (a.off + i * r.width) x
def dt (w : World) (ok : Nat → Prop) : (r : RT) → (b off : Nat) → ar r → Prop
 | .nil, _, _, _ => True
 | .cons t r, b, off, x => (∃ v, w.cell? ⟨b, off, none⟩ = some v ∧ cr w ok t v x.1) ∧ dt w ok r b (off + 1) x.2
end
theorem oc (w : World) (ok : Nat → Prop) (r : RT) (v : Value) (xs : List (ar r)) : cr w ok (.sl r) v xs ↔
   ((v = .slice none 0 0 ∧ xs = []) ∨ ∃ a cap, v = .slice (some a) xs.length cap ∧ xs.length ≤ cap ∧
       (xs ≠ [] → a.spot = none ∧ a.block < w.heap.size ∧ ok a.block) ∧ ∀ i x, xs[i]? = some x → dt w ok r a.block (a.off + i * r.width) x) := by
 have := cr.eq_4 w ok v r xs; exact this ▸ Iff.rfl
theorem s8 {w : World} {ok : Nat → Prop} {k : IntKind} {v : Value} {n : Int} : cr w ok (.int k) v n ↔ v = .int k n := cr.eq_1 w ok v k n ▸ Iff.rfl
theorem rj {w : World} {ok : Nat → Prop} {v : Value} {b : Bool} : cr w ok .bool v b ↔ v = .bool b := cr.eq_2 w ok v b ▸ Iff.rfl
theorem uw {w : World} {ok : Nat → Prop} {v : Value} {s : ByteArray} : cr w ok .str v s ↔ v = .string s := cr.eq_3 w ok v s ▸ Iff.rfl
structure iU (w w' : World) (ok wJ : Nat → Prop) : Prop where
 size : w.heap.size ≤ w'.heap.size
 block : ∀ b, b < w.heap.size → ok b → w'.heap[b]? = w.heap[b]?
 ok : ∀ b, b < w.heap.size → ok b → wJ b
theorem GN {w : World} {a : Addr} {v : Value} (h : w.cell? a = some v) : a.block < w.heap.size := World.block_lt_of_cell? w a h
mutual
theorem cr.stays {w w' : World} {ok wJ : Nat → Prop} (h : iU w w' ok wJ) : (t : Ty) → (v : Value) → (x : den t) → cr w ok t v x → cr w' wJ t v x
 | .int _, _, _, hr => by unfold cr at hr ⊢; exact hr
 | .bool, _, _, hr => by unfold cr at hr ⊢; exact hr
 | .str, _, _, hr => by unfold cr at hr ⊢; exact hr
 | .sl r, v, xs, hr => by
   unfold cr at hr ⊢; rcases hr with hr | ⟨a, cap, hv, hc, ha, hx⟩
   · exact .inl hr
   · refine .inr ⟨a, cap, hv, hc, fun ik => ?_, fun i x hi => ?_⟩
     · obtain ⟨hs, hb, gJ⟩ := ha ik; exact ⟨hs, Nat.lt_of_lt_of_le hb h.size, h.ok _ hb gJ⟩
     · have ik : GM xs ≠ [] := by intro e; rw [e] at hi; simp at hi
       obtain ⟨hs, hb, gJ⟩ := ha ik; exact dt.stays h r _ _ x (h.block _ hb gJ) (hx i x hi)
theorem dt.stays {w w' : World} {ok wJ : Nat → Prop} (h : iU w w' ok wJ) : (r : RT) → (b off : Nat) → (x : ar r) → w'.heap[b]? = w.heap[b]? → dt w ok r b off x → dt w' wJ r b off x
 | .nil, _, _, _, _, _ => by unfold dt; trivial
 | .cons t r, b, off, x, gJ, hr => by
   unfold dt at hr ⊢; obtain ⟨⟨v, hv, hx⟩, hr⟩ := hr; refine ⟨⟨v, ?_, cr.stays h t v x.1 hx⟩, dt.stays h r b (off + 1) x.2 gJ hr⟩; rw [World.cell?_of_block (w := w) gJ]; exact hv
end
inductive Loc where
 | nil
 | at (b off cap : Nat)
structure Cz where
 bx : Nat → Nat
 lc : Nat → Nat → Loc
 own : Nat → Option Lb
def Cz.ok (c : Cz) (b : Nat) : Prop := c.own b = none
def gD (st : St) (s : Nat) : Nat := match nth st s with | some x => x.bg | none => 0
def dv (st : St) (s : Nat) : Nat := match nth st s with | some x => x.ag | none => 0
def jx (l : Loc) (W lo n : Nat) (v : Value) : Prop :=
 match l with
 | .nil => v = .slice none 0 0 ∧ n = 0
 | .at b off cap => ∃ a c, v = .slice (some a) n c ∧ n ≤ c ∧ lo + c ≤ cap ∧ (c ≠ 0 → a = ⟨b, off + lo * W, none⟩)
mutual
def dB (w : World) (P : List Nat → Nat → Prop) : (t : Ty) → (p : List Nat) → Value → den t → Prop
 | .int k, _, v, n => v = .int k n
 | .bool, _, v, b => v = .bool b
 | .str, _, v, s => v = .string s
 | .sl r, p, v, xs => ∃ lc : Loc, jx lc r.width 0 (GM xs).length v ∧ v.oneCell' = true ∧ ((lc = .nil ∧ GM xs = []) ∨ ∃ b off cap, lc = .at b off cap ∧
     P p b ∧ (GM xs).length ≤ cap ∧ (∃ cur ty, w.heap[b]? = some (.cells cur ty (0, 0)) ∧ off + cap * r.width ≤ cur.size) ∧
       ∀ i x, (GM xs)[i]? = some x → gF w P r (p ++ [i]) 0 b (off + i * r.width) x)
def gF (w : World) (P : List Nat → Nat → Prop) : (r : RT) → (p : List Nat) → (k b off : Nat) → ar r → Prop
 | .nil, _, _, _, _, _ => True
 | .cons t r, p, k, b, off, x => (∃ v, w.cell? ⟨b, off, none⟩ = some v ∧ dB w P t (p ++ [k]) v x.1) ∧ gF w P r p (k + 1) b (off + 1) x.2
end
theorem uz (w : World) (P : List Nat → Nat → Prop) (r : RT) (p : List Nat) (v : Value) (xs : List (ar r)) : dB w P (.sl r) p v xs ↔
   ∃ lc : Loc, jx lc r.width 0 xs.length v ∧ v.oneCell' = true ∧ ((lc = .nil ∧ xs = []) ∨ ∃ b off cap, lc = .at b off cap ∧
     P p b ∧ xs.length ≤ cap ∧ (∃ cur ty, w.heap[b]? = some (.cells cur ty (0, 0)) ∧ off + cap * r.width ≤ cur.size) ∧
       ∀ (i : Nat) x, xs[i]? = some x → gF w P r (p ++ [i]) 0 b (off + i * r.width) x) := by
 have := dB.eq_4 w P p v r xs; exact this ▸ Iff.rfl
theorem vY {w : World} {P : List Nat → Nat → Prop} {k : IntKind} {p : List Nat} {v : Value} {n : Int} : dB w P (.int k) p v n ↔ v = .int k n := dB.eq_1 w P p v k n ▸ Iff.rfl
theorem s9 {w : World} {P : List Nat → Nat → Prop} {p : List Nat} {v : Value} {n : Bool} : dB w P .bool p v n ↔ v = .bool n := dB.eq_2 w P p v n ▸ Iff.rfl
theorem vZ {w : World} {P : List Nat → Nat → Prop} {p : List Nat} {v : Value} {n : ByteArray} : dB w P .str p v n ↔ v = .string n := dB.eq_3 w P p v n ▸ Iff.rfl
mutual
theorem dB.go {w w' : World} {P P' : List Nat → Nat → Prop} : (t : Ty) → (p p' : List Nat) → (hP : ∀ q b, P (p ++ q) b → w'.heap[b]? = w.heap[b]? ∧ P' (p' ++ q) b) → (v : Value) → (x : den t) → dB w P t p v x → dB w' P' t p' v x
 | .int _, _, _, _, _, _, h => by unfold dB at h ⊢; exact h
 | .bool, _, _, _, _, _, h => by unfold dB at h ⊢; exact h
 | .str, _, _, _, _, _, h => by unfold dB at h ⊢; exact h
 | .sl r, p, p', hP, v, xs, h => by
   unfold dB at h ⊢; obtain ⟨lc, h1, h0, h2⟩ := h; refine ⟨lc, h1, h0, h2.imp id ?_⟩
   rintro ⟨b, off, cap, e, h3, h4, ⟨cur, ty, h5, h6⟩, h7⟩
   obtain ⟨hw, hb⟩ := hP [] b (by simpa using h3); refine ⟨b, off, cap, e, by simpa using hb, h4, ⟨cur, ty, by rw [hw]; exact h5, h6⟩, fun i x hx => gF.go r (p ++ [i]) (p' ++ [i]) (fun q k hk => ?_) 0 b _ x hw (h7 i x hx)⟩; have := hP ([i] ++ q) k (by rw [← List.append_assoc]; exact hk); rw [← List.append_assoc] at this; exact this
theorem gF.go {w w' : World} {P P' : List Nat → Nat → Prop} : (r : RT) → (p p' : List Nat) → (hP : ∀ q b, P (p ++ q) b → w'.heap[b]? = w.heap[b]? ∧ P' (p' ++ q) b) → (k b off : Nat) → (x : ar r) → w'.heap[b]? = w.heap[b]? → gF w P r p k b off x → gF w' P' r p' k b off x
 | .nil, _, _, _, _, _, _, _, _, _ => by unfold gF; trivial
 | .cons t r, p, p', hP, k, b, off, x, hw, h => by
   unfold gF at h ⊢; obtain ⟨⟨v, h1, h2⟩, h3⟩ := h; refine ⟨⟨v, by rw [World.cell?_of_block (w := w) hw]; exact h1, dB.go t (p ++ [k]) (p' ++ [k]) (fun q b hb => ?_) v x.1 h2⟩, gF.go r p p' hP (k + 1) b (off + 1) x.2 hw h3⟩; have := hP ([k] ++ q) b (by rw [← List.append_assoc]; exact hb); rw [← List.append_assoc] at this; exact this
end
theorem Fu {lc : Loc} {W lo n : Nat} {v : Value} (h : jx lc W lo n v) : (v = .slice none 0 0 ∧ n = 0) ∨ ∃ b off cap a c, lc = .at b off cap ∧ v = .slice (some a) n c ∧ n ≤ c ∧ lo + c ≤ cap ∧ (c ≠ 0 → a = ⟨b, off + lo * W, none⟩) := by
 cases lc with
 | nil => exact .inl h
 | «at» b off cap =>
   obtain ⟨a, c, h1, h2, h3, h4⟩ := h; exact .inr ⟨b, off, cap, a, c, rfl, h1, h2, h3, h4⟩
mutual
theorem dB.rep {w : World} {P : List Nat → Nat → Prop} {ok : Nat → Prop} (hP : ∀ p b, P p b → ok b) : (t : Ty) → (p : List Nat) → (v : Value) → (x : den t) → dB w P t p v x → cr w ok t v x
 | .int _, _, _, _, h => by unfold dB at h; unfold cr; exact h
 | .bool, _, _, _, h => by unfold dB at h; unfold cr; exact h
 | .str, _, _, _, h => by unfold dB at h; unfold cr; exact h
 | .sl r, p, v, xs, h => by
   unfold dB at h; unfold cr; obtain ⟨lc, h1, h0, h2⟩ := h; rcases Fu h1 with ⟨e1, e2⟩ | ⟨b, off, cap, a, c, e1, e2, e3, e4, e5⟩
   · exact .inl ⟨e1, List.length_eq_zero_iff.1 e2⟩
   · rcases h2 with ⟨e, _⟩ | ⟨b', SE, Fv, e, h3, h4, ⟨cur, ty, h5, h6⟩, h7⟩
     · rw [e] at e1; cases e1
     · rw [e] at e1; injection e1 with q1 q2 q3; subst q1 q2 q3; have ik : GM xs ≠ [] → a = ⟨b', SE, none⟩ := by
         intro ik; have := List.length_pos_iff.2 ik; have := e5 (by omega); simpa using this
       refine .inr ⟨a, c, e2, e3, fun hn => ?_, fun i x hx => ?_⟩
       · rw [ik hn]; exact ⟨rfl, (Array.getElem?_eq_some_iff.1 h5).1, hP _ _ h3⟩
       · rw [ik (by intro e; rw [e] at hx; simp at hx)]; exact gF.rep hP r _ 0 b' _ x (h7 i x hx)
theorem gF.rep {w : World} {P : List Nat → Nat → Prop} {ok : Nat → Prop} (hP : ∀ p b, P p b → ok b) : (r : RT) → (p : List Nat) → (k b off : Nat) → (x : ar r) → gF w P r p k b off x → dt w ok r b off x
 | .nil, _, _, _, _, _, _ => by unfold dt; trivial
 | .cons t r, p, k, b, off, x, h => by
   unfold gF at h; unfold dt; obtain ⟨⟨v, h1, h2⟩, h3⟩ := h; exact ⟨⟨v, h1, dB.rep hP t _ v x.1 h2⟩, gF.rep hP r p (k + 1) b (off + 1) x.2 h3⟩
end
def cg (c : Cz) (w : World) (l : Lb) (A : ig) (b off : Nat) : Prop :=
 match A.md with
 | .sh => ∀ (i : Nat) x, A.xs[i]? = some x → dt w c.ok A.r b (off + i * A.r.width) x
 | .dp => ∃ g : Nat → List Nat, g b = [] ∧ ∀ (i : Nat) x, A.xs[i]? = some x → gF w (fun p k => c.own k = some l ∧ g k = p) A.r [i] 0 b (off + i * A.r.width) x
 | .ho q => A.own = true → ∃ g : Nat → List Nat, g b = [] ∧ ∀ (i : Nat) x, i ≠ q → A.xs[i]? = some x → gF w (fun p k => c.own k = some l ∧ g k = p) A.r [i] 0 b (off + i * A.r.width) x
theorem cg.go {c c' : Cz} {w w' : World} {l l' : Lb} {A : ig} {b off : Nat} (h : cg c w l A b off) (hs : A.md = .sh → iU w w' c.ok c'.ok) (hb : w'.heap[b]? = w.heap[b]?)
   (hd : A.md ≠ .sh → ∀ k, c.own k = some l → w'.heap[k]? = w.heap[k]? ∧ c'.own k = some l') : cg c' w' l' A b off := by
 unfold cg at h ⊢
 cases hm : A.md with
 | sh => rw [hm] at h; exact fun i x hx => dt.stays (hs hm) _ _ _ _ hb (h i x hx)
 | dp =>
   rw [hm] at h; obtain ⟨g, h1, h2⟩ := h; exact ⟨g, h1, fun i x hx => gF.go _ [i] [i] (fun q k hk => ⟨(hd (by rw [hm]; simp) k hk.1).1, (hd (by rw [hm]; simp) k hk.1).2, hk.2⟩) _ _ _ _ hb (h2 i x hx)⟩
 | ho q =>
   rw [hm] at h; intro ho; obtain ⟨g, h1, h2⟩ := h ho; exact ⟨g, h1, fun i x hq hx => gF.go _ [i] [i] (fun q k hk => ⟨(hd (by rw [hm]; simp) k hk.1).1, (hd (by rw [hm]; simp) k hk.1).2, hk.2⟩) _ _ _ _ hb (h2 i x hq hx)⟩
theorem cg.sh {c : Cz} {w : World} {l : Lb} {A : ig} {b off : Nat} (hm : A.md = .sh) : cg c w l A b off ↔ ∀ (i : Nat) x, A.xs[i]? = some x → dt w c.ok A.r b (off + i * A.r.width) x := by
 unfold cg; rw [hm]
def BF (w : World) (ok : Nat → Prop) (r : RT) (v : Value) (xs : List (ar r)) : Prop :=
 ∃ b o, v = .pointer (some ⟨b, o, none⟩) ∧ b < w.heap.size ∧ ok b ∧ ∀ x, xs[0]? = some x → dt w ok r b o x
def tc (w : World) (ok : Nat → Prop) : (rs : RT) → List Value → ar rs → Prop
 | .nil, vs, _ => vs = []
 | .cons (.sl r) rs, vs, x => ∃ v l, vs = v :: l ∧ BF w ok r v (GM x.1) ∧ tc w ok rs l x.2
 | .cons _ _, _, _ => False
def FnAt (w : World) (ok : Nat → Prop) (g : Nat) (rs : RT) (v : Value) (xs : List (ar rs)) : Prop :=
 ∃ uu, v = .func (.func g) #[] uu ∧ ∀ x, xs[0]? = some x → tc w ok rs uu.toList x
theorem BF.stays {w w' : World} {ok wJ : Nat → Prop} (h : iU w w' ok wJ) {r : RT} {v : Value} {xs : List (ar r)} (hp : BF w ok r v xs) : BF w' wJ r v xs := by
 obtain ⟨b, o, h1, h2, h3, h4⟩ := hp; exact ⟨b, o, h1, Nat.lt_of_lt_of_le h2 h.size, h.ok b h2 h3, fun x hx => dt.stays h r b o x (h.block b h2 h3) (h4 x hx)⟩
theorem tc.stays {w w' : World} {ok wJ : Nat → Prop} (h : iU w w' ok wJ) : (rs : RT) → (vs : List Value) → (x : ar rs) → tc w ok rs vs x → tc w' wJ rs vs x
 | .nil, _, _, hc => hc
 | .cons (.sl r) rs, vs, x, hc => by
   obtain ⟨v, l, h1, h2, h3⟩ := hc; exact ⟨v, l, h1, h2.stays h, tc.stays h rs l x.2 h3⟩
 | .cons (.int _) _, _, _, hc => hc.elim
 | .cons .bool _, _, _, hc => hc.elim
 | .cons .str _, _, _, hc => hc.elim
theorem FnAt.stays {w w' : World} {ok wJ : Nat → Prop} (h : iU w w' ok wJ) {g : Nat} {rs : RT} {v : Value} {xs : List (ar rs)} (hf : FnAt w ok g rs v xs) : FnAt w' wJ g rs v xs := by
 obtain ⟨uu, h1, h2⟩ := hf; exact ⟨uu, h1, fun x hx => tc.stays h rs _ x (h2 x hx)⟩
def jG (c : Cz) (st : St) (w : World) : CV → Value → Prop
 | .bad, _ => True
 | .int k n, v => v = .int k n
 | .bool b, v => v = .bool b
 | .str s, v => v = .string s
 | .ea, v => v = .slice none 0 0
 | .Fj, v => v = .pointer none
 | .shr r xs, v => cr w c.ok (.sl r) v xs
 | .nn r xs, v => cr w c.ok (.sl r) v xs ∧ v ≠ .slice none 0 0
 | .ref a j g vw, v => v.oneCell' = true ∧ g ≤ dv st a ∧ ∀ A, bd st a j g = some A → jx (c.lc a j) A.r.width vw.lo (vw.app A.xs).length v
 | .ptr b g off, v => v.oneCell' = true ∧ g ≤ gD st b ∧ ∀ cs, dE st b g = some cs → v = .pointer (some ⟨c.bx b, off, none⟩)
 | .DJ a j g i off, v => v.oneCell' = true ∧ g ≤ dv st a ∧ ∀ A, bd st a j g = some A → i < A.xs.length ∧ ∃ b o cap, c.lc a j = .at b o cap ∧ v = .pointer (some ⟨b, o + i * A.r.width + off, none⟩)
 | .k9 r x off, v => ∃ b o, v = .pointer (some ⟨b, o + off, none⟩) ∧ b < w.heap.size ∧ c.ok b ∧ dt w c.ok r b o x
 | .rM r xs off, v => ∃ b o, v = .pointer (some ⟨b, o + off, none⟩) ∧ b < w.heap.size ∧ c.ok b ∧ ∀ x, xs[0]? = some x → dt w c.ok r b o x
 | .fn g rs xs, v => FnAt w c.ok g rs v xs
 | .pL a j g e i k q ys, v => v.oneCell' = true ∧ g ≤ dv st a ∧ e ≤ my st a ∧ ∀ A, bd st a j g = some A → my st a = e →
     A.md = .dp ∧ (∃ x, A.xs[i]? = some x ∧ p8 A.r x k = some ⟨q, ys⟩) ∧ ∃ b o cap, c.lc a j = .at b o cap ∧ w.cell? ⟨b, o + i * A.r.width + k, none⟩ = some v
def fo (c : Cz) (st : St) (w : World) (cs : List CV) (vs : List Value) : Prop :=
 cs.length = vs.length ∧ ∀ (i : Nat) x v, cs[i]? = some x → vs[i]? = some v → jG c st w x v
def wK (c : Cz) (st : St) (w : World) : V → Value → Prop
 | .one x, v => jG c st w x v
 | .agg cs, v => ∃ vs, v = .agg vs ∧ fo c st w cs vs.toList
 | .nb _, _ => False
def eF (c : Cz) (st : St) (w : World) : V → Value → Prop
 | .nb us, v => ∃ vs, v = .tuple vs ∧ us.length = vs.size ∧ ∀ (i : Nat) x y, us[i]? = some x → vs[i]? = some y → wK c st w x y
 | x, v => wK c st w x v
def uA (c : Cz) (st : St) (w : World) (s : Nat) (cs : List CV) : Prop :=
 c.own (c.bx s) = some (.box s) ∧ ∃ vs ty, w.heap[c.bx s]? = some (.cells vs ty (0, 0)) ∧ fo c st w cs vs.toList
def cu (c : Cz) (w : World) (s j : Nat) (A : ig) : Prop :=
 match c.lc s j with
 | .nil => A.xs = []
 | .at b off cap => (match A.own with | true => c.own b = some (.sp s j) | false => c.own b = none) ∧ A.xs.length ≤ cap ∧
     (∃ cur ty, w.heap[b]? = some (.cells cur ty (0, 0)) ∧ off + cap * A.r.width ≤ cur.size) ∧
     cg c w (.sp s j) A b off
inductive Hv where
 | arr (a j g W n : Nat) (l : Loc)
 | box (b g od : Nat)
def L3 (c : Cz) (st : St) : Hv → Prop
 | .arr a j g W n l => g ≤ dv st a ∧ ∀ A, bd st a j g = some A → A.r.width = W ∧ A.xs.length = n ∧ c.lc a j = l
 | .box b g od => g ≤ gD st b ∧ ∀ cs, dE st b g = some cs → c.bx b = od
structure Mu where
 m : Nat → Prop
 ok : Nat → Prop
 an : List Hv
structure Rel (w0 : World) (mu : Mu) (c : Cz) (st : St) (a : Act) (w : World) : Prop where
 fp : ∀ t, eF c st w (cz st t) (a.eval (.tmp t))
 boxes : ∀ s sl cs, nth st s = some sl → sl.box = some cs → uA c st w s cs
 aP : ∀ s j sl A, nth st s = some sl → nth sl.aP j = some (some A) → cu c w s j A
 owned : ∀ b l, c.own b = some l → b < w.heap.size ∧ (l = .out ∨ w0.heap.size ≤ b ∨ mu.m b)
 free : ∀ b, b < w0.heap.size → c.own b = none → mu.m b ∨ mu.ok b
 kept : w.os = w0.os ∧ w.tape = w0.tape ∧ w.output = w0.output ∧ w0.heap.size ≤ w.heap.size
 old : ∀ k, k < w0.heap.size → ¬ mu.m k → w.heap[k]? = w0.heap[k]?
 plain : a.defers = []
 ed : ∀ p ∈ mu.an, L3 c st p
end Go.TM
namespace Go.TM
open Go Go.RowKit
theorem aI {α : Type} {b : Bool} {x : Option α} {y : α} (h : (bif b then x else none) = some y) : b = true ∧ x = some y := by
 cases b
 · simp at h
 · exact ⟨rfl, h⟩
theorem dJ {b : Bool} {x : N} {y : St} (h : (bif b then x else N.fail).val = some y) : b = true ∧ x.val = some y := by
 cases b
 · simp [N.val] at h
 · exact ⟨rfl, h⟩
theorem bA {st : St} {a j g : Nat} {A : ig} (h : bd st a j g = some A) : ∃ sl, nth st a = some sl ∧ sl.ag = g ∧ nth sl.aP j = some (some A) := by
 unfold bd at h
 cases hs : nth st a with
 | none => simp [hs] at h
 | some sl =>
   simp only [hs] at h; obtain ⟨h1, h2⟩ := aI h; refine ⟨sl, rfl, Nat.eq_of_beq_eq_true h1, ?_⟩
   cases hj : nth sl.aP j with
   | none => simp [hj] at h2
   | some o => cases o with
     | none => simp [hj] at h2
     | some B => simp [hj] at h2; rw [h2]
theorem il {st : St} {b g : Nat} {cs : List CV} (h : dE st b g = some cs) : ∃ sl, nth st b = some sl ∧ sl.bg = g ∧ sl.box = some cs := by
 unfold dE at h
 cases hs : nth st b with
 | none => simp [hs] at h
 | some sl =>
   simp only [hs] at h; obtain ⟨h1, h2⟩ := aI h; exact ⟨sl, rfl, Nat.eq_of_beq_eq_true h1, h2⟩
theorem View.Fx {r s : RT} (w : View) (xs : List (ar r)) (ys : List (ar s)) (h : xs.length = ys.length) : (w.app xs).length = (w.app ys).length := by
 cases w <;> simp [View.app, h]
structure Fw (c : Cz) (st : St) (w : World) (c' : Cz) (bf : St) (w' : World) : Prop where
 stays : iU w w' c.ok c'.ok
 refs : ∀ a j g A', g ≤ dv st a → bd bf a j g = some A' → ∃ A, bd st a j g = some A ∧ A'.r.width = A.r.width ∧ A'.xs.length = A.xs.length ∧ c'.lc a j = c.lc a j ∧
   (my bf a = my st a → A' = A ∧ ∀ b o cap, c.lc a j = .at b o cap → w'.heap[b]? = w.heap[b]?)
 zg : ∀ b g nc, g ≤ gD st b → dE bf b g = some nc → (∃ cs, dE st b g = some cs) ∧ c'.bx b = c.bx b
 gA : ∀ a, dv st a ≤ dv bf a
 gB : ∀ b, gD st b ≤ gD bf b
 gE : ∀ a, my st a ≤ my bf a
theorem Fw.JJ {c : Cz} {st : St} {w : World} {c' : Cz} {bf : St} {w' : World} (h : Fw c st w c' bf w') {x : CV} {v : Value} (hr : jG c st w x v) : jG c' bf w' x v := by
 cases x with
 | bad => trivial
 | int k n => exact hr
 | bool b => exact hr
 | str s => exact hr
 | ea => exact hr
 | Fj => exact hr
 | shr r xs => exact cr.stays h.stays _ _ _ hr
 | nn r xs => exact ⟨cr.stays h.stays _ _ _ hr.1, hr.2⟩
 | ref a j g vw =>
   refine ⟨hr.1, Nat.le_trans hr.2.1 (h.gA a), fun A' ew => ?_⟩; obtain ⟨A, hA, hw, hl, iA, _⟩ := h.refs a j g A' hr.2.1 ew; have := hr.2.2 A hA; rw [iA, hw, View.Fx vw A'.xs A.xs hl]; exact this
 | ptr b g off =>
   refine ⟨hr.1, Nat.le_trans hr.2.1 (h.gB b), fun cs uB => ?_⟩; obtain ⟨⟨Jm, h0⟩, hb⟩ := h.zg b g cs hr.2.1 uB; rw [hb]; exact hr.2.2 Jm h0
 | DJ a j g i off =>
   refine ⟨hr.1, Nat.le_trans hr.2.1 (h.gA a), fun A' ew => ?_⟩; obtain ⟨A, hA, hw, hl, iA, _⟩ := h.refs a j g A' hr.2.1 ew; have := hr.2.2 A hA; rw [iA, hw, hl]; exact this
 | pL a j g e i k q ys =>
   obtain ⟨h1, h2, h3, h4⟩ := hr; refine ⟨h1, Nat.le_trans h2 (h.gA a), Nat.le_trans h3 (h.gE a), fun A' ew he => ?_⟩; obtain ⟨A, hA, hw, hl, iA, hs⟩ := h.refs a j g A' h2 ew; have NR : my bf a = my st a := by have := h.gE a; omega
   obtain ⟨rfl, hb⟩ := hs NR; obtain ⟨k1, k2, b, o, cap, k3, k4⟩ := h4 A' hA (by omega); exact ⟨k1, k2, b, o, cap, by rw [iA]; exact k3, by rw [World.cell?_of_block (w := w) (hb b o cap k3)]; exact k4⟩
 | k9 r x off =>
   obtain ⟨b, o, hv, hb, gJ, hx⟩ := hr; exact ⟨b, o, hv, Nat.lt_of_lt_of_le hb h.stays.size, h.stays.ok b hb gJ, dt.stays h.stays r b o x (h.stays.block b hb gJ) hx⟩
 | rM r xs off =>
   obtain ⟨b, o, hv, hb, gJ, hx⟩ := hr; exact ⟨b, o, hv, Nat.lt_of_lt_of_le hb h.stays.size, h.stays.ok b hb gJ, fun x vn => dt.stays h.stays r b o x (h.stays.block b hb gJ) (hx x vn)⟩
 | fn g rs xs => exact FnAt.stays h.stays hr
theorem Fw.L4 {c : Cz} {st : St} {w : World} {c' : Cz} {bf : St} {w' : World} (h : Fw c st w c' bf w') {cs : List CV} {vs : List Value} (hr : fo c st w cs vs) : fo c' bf w' cs vs :=
 ⟨hr.1, fun i x v hx hv => h.JJ (hr.2 i x v hx hv)⟩
theorem Fw.JK {c : Cz} {st : St} {w : World} {c' : Cz} {bf : St} {w' : World} (h : Fw c st w c' bf w') {x : V} {v : Value} (hr : wK c st w x v) : wK c' bf w' x v := by
 cases x with
 | one x => exact h.JJ hr
 | agg cs => obtain ⟨vs, hv, hl⟩ := hr; exact ⟨vs, hv, h.L4 hl⟩
 | nb us => exact hr
theorem Fw.m8 {c : Cz} {st : St} {w : World} {c' : Cz} {bf : St} {w' : World} (h : Fw c st w c' bf w') {x : V} {v : Value} (hr : eF c st w x v) : eF c' bf w' x v := by
 cases x with
 | one x => exact h.JK (x := .one x) hr
 | agg cs => exact h.JK (x := .agg cs) hr
 | nb us =>
   obtain ⟨vs, hv, hl, he⟩ := hr; exact ⟨vs, hv, hl, fun i x y hx hy => h.JK (he i x y hx hy)⟩
theorem Fw.ed {c : Cz} {st : St} {w : World} {c' : Cz} {bf : St} {w' : World} (h : Fw c st w c' bf w') {p : Hv} (hp : L3 c st p) : L3 c' bf p := by
 cases p with
 | arr a j g W n l =>
   refine ⟨Nat.le_trans hp.1 (h.gA a), fun A' ew => ?_⟩; obtain ⟨A, hA, hw, hl, iA, _⟩ := h.refs a j g A' hp.1 ew; obtain ⟨h1, h2, h3⟩ := hp.2 A hA; exact ⟨hw.trans h1, hl.trans h2, iA.trans h3⟩
 | box b g od =>
   refine ⟨Nat.le_trans hp.1 (h.gB b), fun cs uB => ?_⟩; obtain ⟨⟨Jm, h0⟩, hb⟩ := h.zg b g cs hp.1 uB; exact hb.trans (hp.2 Jm h0)
theorem cu.go {c c' : Cz} {w w' : World} {s j : Nat} {A : ig} (h : cu c w s j A) (hs : iU w w' c.ok c'.ok) (hl : c'.lc s j = c.lc s j)
   (hb : ∀ b, c.own b = some (.sp s j) → w'.heap[b]? = w.heap[b]? ∧ c'.own b = c.own b) : cu c' w' s j A := by
 unfold cu at h ⊢; rw [hl]
 cases hc : c.lc s j with
 | nil => simpa [hc] using h
 | «at» b off cap =>
   rw [hc] at h; obtain ⟨h1, h2, ⟨cur, ty, h3, h4⟩, h5⟩ := h; have dC : b < w.heap.size := (Array.getElem?_eq_some_iff.1 h3).1; have XU : w'.heap[b]? = w.heap[b]? ∧ c'.own b = c.own b := by
     cases ho : A.own with
     | true => rw [ho] at h1; exact hb b h1
     | false => rw [ho] at h1; exact ⟨hs.block b dC h1, (hs.ok b dC h1 : c'.own b = none).trans h1.symm⟩
   refine ⟨?_, h2, ⟨cur, ty, by rw [XU.1]; exact h3, h4⟩, h5.go (fun _ => hs) XU.1 (fun _ k hk => ⟨(hb k hk).1, (hb k hk).2.trans hk⟩)⟩; rw [XU.2]; exact h1
theorem uA.go {c : Cz} {st : St} {w : World} {c' : Cz} {bf : St} {w' : World} (h : Fw c st w c' bf w') {s : Nat} {cs : List CV} (hb : uA c st w s cs)
   (hx : c'.bx s = c.bx s) (ho : c'.own (c.bx s) = c.own (c.bx s)) (hw : w'.heap[c.bx s]? = w.heap[c.bx s]?) : uA c' bf w' s cs := by
 obtain ⟨h1, vs, ty, h2, h3⟩ := hb; exact ⟨by rw [hx, ho]; exact h1, vs, ty, by rw [hx, hw]; exact h2, h.L4 h3⟩
theorem Hw (st : St) (d : Option Nat) (v : V) (t : Nat) : cz (bj st d v) t = if d = some t ∧ t < st.length then v else cz st t := by
 cases d with
 | none => simp [bj]
 | some u =>
   unfold cz bj; rw [dF]
   by_cases h : t = u
   · subst h; simp only [if_true, true_and]
     by_cases hl : t < st.length
     · have : nth st t = some st[t] := by rw [gC]; exact List.getElem?_eq_getElem hl
       simp [this, hl]
     · have : nth st t = none := by rw [gC]; exact List.getElem?_eq_none (by omega)
       simp [this, hl]
   · have : ¬ (some u = some t ∧ t < st.length) := by rintro ⟨e, _⟩; exact h (Option.some.inj e).symm
     rw [if_neg h, if_neg this]
theorem qI (st : St) (d : Option Nat) (v : V) (s : Nat) : ∃ f : Sl → Sl, (∀ x, (f x).box = x.box ∧ (f x).bg = x.bg ∧ (f x).aP = x.aP ∧ (f x).ag = x.ag ∧ (f x).ep = x.ep) ∧ nth (bj st d v) s = (nth st s).map f := by
 cases d with
 | none => exact ⟨id, fun _ => ⟨rfl, rfl, rfl, rfl, rfl⟩, by simp [bj]⟩
 | some t =>
   unfold bj
   by_cases h : s = t
   · subst h; exact ⟨fun x => { x with v := v }, fun _ => ⟨rfl, rfl, rfl, rfl, rfl⟩, jF _ _ _⟩
   · exact ⟨id, fun _ => ⟨rfl, rfl, rfl, rfl, rfl⟩, by simp [mz _ _ h]⟩
theorem Hy (st : St) (d : Option Nat) (v : V) (a j g : Nat) : bd (bj st d v) a j g = bd st a j g := by
 obtain ⟨f, hf, hn⟩ := qI st d v a; unfold bd; rw [hn]
 cases nth st a with
 | none => rfl
 | some s => obtain ⟨_, _, h3, h4, _⟩ := hf s; simp [h3, h4]
theorem Hz (st : St) (d : Option Nat) (v : V) (b g : Nat) : dE (bj st d v) b g = dE st b g := by
 obtain ⟨f, hf, hn⟩ := qI st d v b; unfold dE; rw [hn]
 cases nth st b with
 | none => rfl
 | some s => obtain ⟨h1, h2, _, _, _⟩ := hf s; simp [h1, h2]
theorem HA (st : St) (d : Option Nat) (v : V) (a : Nat) : dv (bj st d v) a = dv st a := by
 obtain ⟨f, hf, hn⟩ := qI st d v a; unfold dv; rw [hn]
 cases nth st a with
 | none => rfl
 | some s => exact (hf s).2.2.2.1
theorem JL (st : St) (d : Option Nat) (v : V) (a : Nat) : my (bj st d v) a = my st a := by
 obtain ⟨f, hf, hn⟩ := qI st d v a; unfold my; rw [hn]
 cases nth st a with
 | none => rfl
 | some s => exact (hf s).2.2.2.2
theorem HB (st : St) (d : Option Nat) (v : V) (a : Nat) : gD (bj st d v) a = gD st a := by
 obtain ⟨f, hf, hn⟩ := qI st d v a; unfold gD; rw [hn]
 cases nth st a with
 | none => rfl
 | some s => exact (hf s).2.1
theorem iU.refl (w : World) (ok : Nat → Prop) : iU w w ok ok := ⟨Nat.le_refl _, fun _ _ _ => rfl, fun _ _ h => h⟩
theorem Fw.bj (c : Cz) (st : St) (w : World) (d : Option Nat) (v : V) : Fw c st w c (bj st d v) w where
 stays := iU.refl w _
 refs a j g A' _ h := ⟨A', by rwa [Hy] at h, rfl, rfl, rfl, fun _ => ⟨rfl, fun _ _ _ _ => rfl⟩⟩
 zg b g nc _ h := ⟨⟨nc, by rwa [Hz] at h⟩, rfl⟩
 gA a := by rw [HA]; exact Nat.le_refl _
 gB a := by rw [HB]; exact Nat.le_refl _
 gE a := by rw [JL]; exact Nat.le_refl _
theorem eval_put (a : Act) (d : Option Tmp) (v : Value) (t : Nat) : (a.put d v).eval (.tmp t) = if d = some t ∧ t < a.tmps.size then v else a.eval (.tmp t) := by
 cases d with
 | none => simp [Act.put]
 | some u =>
   simp only [Act.put, Act.eval, Array.getD_eq_getD_getElem?, Array.getElem?_setIfInBounds]
   by_cases h : u = t
   · subst h
     by_cases hl : u < a.tmps.size <;> simp [hl]
   · have : ¬ (some u = some t ∧ t < a.tmps.size) := by rintro ⟨e, _⟩; exact h (Option.some.inj e)
     rw [if_neg this]; simp [h]
theorem Rel.bj {w0 : World} {mu : Mu} {c : Cz} {st : St} {a : Act} {w : World} (h : Rel w0 mu c st a w) {d : Option Nat} {v : V} {u : Value}
   (hv : eF c st w v u) (hd : ∀ t, d = some t → t < a.tmps.size) : Rel w0 mu c (bj st d v) (a.put d u) w where
 fp t := by
   have hg := Fw.bj c st w d v; rw [Hw, eval_put]
   by_cases SF : d = some t
   · have := hd t SF
     by_cases hl : t < st.length
     · rw [if_pos ⟨SF, hl⟩, if_pos ⟨SF, this⟩]; exact hg.m8 hv
     · have e : cz st t = .one .bad := by
         unfold cz; rw [gC, List.getElem?_eq_none (by omega)]
       rw [if_neg (fun h => hl h.2), e]; trivial
   · rw [if_neg (fun h => SF h.1), if_neg (fun h => SF h.1)]; exact hg.m8 (h.fp t)
 boxes s sl cs hs hb := by
   obtain ⟨f, hf, hn⟩ := qI st d v s; rw [hn] at hs
   cases hx : nth st s with
   | none => rw [hx] at hs; simp at hs
   | some s0 =>
     rw [hx] at hs; simp at hs; subst hs; rw [(hf s0).1] at hb; exact (h.boxes s s0 cs hx hb).go (Fw.bj c st w d v) rfl rfl rfl
 aP s j sl A hs hb := by
   obtain ⟨f, hf, hn⟩ := qI st d v s; rw [hn] at hs
   cases hx : nth st s with
   | none => rw [hx] at hs; simp at hs
   | some s0 =>
     rw [hx] at hs; simp at hs; subst hs; rw [(hf s0).2.2.1] at hb; exact h.aP s j s0 A hx hb
 owned := h.owned
 free := h.free
 kept := h.kept
 old := h.old
 ed p hp := (Fw.bj c st w d v).ed (h.ed p hp)
 plain := by
   have := h.plain
   cases d <;> simpa [Act.put] using this
theorem Rel.sx {w0 : World} {mu : Mu} {c : Cz} {st : St} {a : Act} {w : World} (h : Rel w0 mu c st a w) {s j g : Nat} {A : ig} (hA : bd st s j g = some A) : cu c w s j A := by
 obtain ⟨sl, h1, _, h3⟩ := bA hA; exact h.aP s j sl A h1 h3
theorem cu.lt {c : Cz} {w : World} {s j : Nat} {A : ig} (h : cu c w s j A) {b off cap : Nat} (hl : c.lc s j = .at b off cap) : b < w.heap.size := by
 unfold cu at h; rw [hl] at h; obtain ⟨_, _, ⟨cur, t, h3, _⟩, _⟩ := h; exact (Array.getElem?_eq_some_iff.1 h3).1
end Go.TM
namespace Go.TM
open Go Go.RowKit
def iV : RT → List Value → Prop
 | .nil, vs => vs = []
 | .cons (.int k) r, vs => ∃ l, vs = .int k 0 :: l ∧ iV r l
 | .cons .bool r, vs => ∃ l, vs = .bool false :: l ∧ iV r l
 | .cons .str r, vs => ∃ l, vs = .string ByteArray.empty :: l ∧ iV r l
 | .cons (.sl _) r, vs => ∃ l, vs = .slice none 0 0 :: l ∧ iV r l
def descOf : Ty → TypeDesc → Prop
 | .int k, d => d = .int k
 | .bool, d => d = .bool
 | .str, d => d = .string
 | .sl _, _ => False
structure gq (P : Program) (T : la) : Prop where
 cells : ∀ t n, T.cells t = some n → (P.info? t).map (·.size) = some n
 agg : ∀ t n, T.cells t = some n → ∃ d, P.underlying t = some d ∧ d.isRow = T.agg t ∧ (T.agg t = false → n = 1)
 off : ∀ t f k, T.off t f = some k → ∃ fs BG n, P.underlying t = some (.struct fs) ∧ fs[f]? = some BG ∧ BG.offset = k ∧ (P.info? BG.type).map (·.size) = some (n + 1)
 bld : ∀ t, T.agg t = true → ∃ fs ch, P.underlying t = some (.struct fs) ∧ fs.toList.mapM (fun f => (P.info? f.type).map fun i => (f.offset, i.size)) = some ch ∧
   ∀ f o s, T.off t f = some o → T.Sz t f = some s → ch[f]? = some (o, s)
 row : ∀ t r, T.row t = some r → ∃ i z, P.info? t = some i ∧ i.zero = some z ∧ iV r z.cells.toList
 elem : ∀ t r b, T.elem t = some (r, b) → ∃ e i z, P.underlying t = some (.slice e) ∧ P.info? e = some i ∧ i.size = r.width ∧ 0 < r.width ∧ i.bytes = b ∧ 0 < b ∧ i.zero = some z ∧ iV r z.cells.toList
 u8 : ∀ t e b, T.elem t = some (.cons (.int .u8) .nil, b) → P.underlying t = some (.slice e) → P.underlying e = some (.int .u8)
 kind : ∀ t y, T.kind t = some y → ∃ d, P.underlying t = some d ∧ descOf y d
 one : ∀ t f, T.one t f = true → ∃ fs BG d, P.underlying t = some (.struct fs) ∧ fs[f]? = some BG ∧ P.underlying BG.type = some d ∧ d.isRow = false
theorem jG.one {c : Cz} {st : St} {w : World} {x : CV} {v : Value} (h : jG c st w x v) (hs : x.sw = true) : v.oneCell' = true := by
 cases x with
 | bad => simp [CV.sw] at hs
 | int k n => simp only [jG] at h; subst h; rfl
 | bool b => simp only [jG] at h; subst h; rfl
 | str s => simp only [jG] at h; subst h; rfl
 | ea => simp only [jG] at h; subst h; rfl
 | Fj => simp only [jG] at h; subst h; rfl
 | shr r xs =>
   rcases (oc _ _ _ _ _).1 h with ⟨rfl, _⟩ | ⟨a, cap, rfl, _⟩ <;> rfl
 | nn r xs =>
   rcases (oc _ _ _ _ _).1 h.1 with ⟨rfl, _⟩ | ⟨a, cap, rfl, _⟩ <;> rfl
 | ref a j g vw => exact h.1
 | ptr b g off => exact h.1
 | DJ a j g i off => exact h.1
 | k9 r x off => obtain ⟨b, o, rfl, _⟩ := h; rfl
 | rM r x off => obtain ⟨b, o, rfl, _⟩ := h; rfl
 | fn g rs xs => obtain ⟨uu, rfl, _⟩ := h; rfl
 | pL a j g e i k q ys => exact h.1
theorem HC {v : Value} (h : v.oneCell' = true) : v.cells = #[v] := by cases v <;> first | rfl | simp [Value.oneCell'] at h
theorem eF.cells {c : Cz} {st : St} {w : World} {x : V} {v : Value} (h : eF c st w x v) (hs : x.sw = true) :
   fo c st w x.cells v.cells.toList ∧ ∀ u ∈ v.cells.toList, u.oneCell' = true := by
 cases x with
 | one x =>
   have h1 : v.oneCell' = true := jG.one (x := x) h hs; rw [HC h1]; refine ⟨⟨rfl, fun i y u hy hu => ?_⟩, fun u hu => by simp at hu; rw [hu]; exact h1⟩
   cases i with
   | zero => simp [V.cells] at hy hu; rw [← hy, ← hu]; exact h
   | succ i => simp [V.cells] at hy
 | agg cs =>
   obtain ⟨vs, rfl, hl⟩ := h; refine ⟨hl, fun u hu => ?_⟩; obtain ⟨i, hi, hu⟩ := List.mem_iff_getElem.1 hu; have Ry : i < cs.length := by rw [hl.1]; exact hi
   have := hl.2 i cs[i] u (List.getElem?_eq_getElem Ry) (by rw [← hu]; exact List.getElem?_eq_getElem hi); exact this.one (List.all_eq_true.1 hs _ (List.getElem_mem Ry))
 | nb us => simp [V.sw] at hs
def Cz.iL (c : Cz) (d b : Nat) : Cz :=
 { bx := fun s => if s = d then b else c.bx s, lc := c.lc, own := fun k => if k = b then some (.box d) else c.own k }
theorem uC (w : World) (o : Obj) (ok wJ : Nat → Prop) (h : ∀ b, b < w.heap.size → ok b → wJ b) : iU w (w.alloc o) ok wJ where
 size := by simp
 block b hb _ := heap_alloc_old w o b hb
 ok := h
theorem Rel.oF {w0 : World} {mu : Mu} {c : Cz} {st : St} {a : Act} {w : World} (h : Rel w0 mu c st a w) {b : Nat} {l : Lb} (hb : c.own b = some l) : b < w.heap.size := (h.owned b l hb).1
theorem Rel.iL {w0 : World} {mu : Mu} {c : Cz} {st : St} {a : Act} {w : World} (h : Rel w0 mu c st a w) {d : Nat} {s0 : Sl} {cs : List CV} {vs : Array Value} {ty : TypeId}
   (jy : nth st d = some s0) (hd : d < a.tmps.size) (hl : fo c st w cs vs.toList) :
   Rel w0 mu (c.iL d w.heap.size) (m6 (fun s => { s with v := .one (.ptr d (s0.bg + 1) 0), box := some cs, bg := s0.bg + 1 }) st d)
     (a.put (some d) (.pointer (some ⟨w.heap.size, 0, none⟩))) (w.alloc (.cells vs ty (0, 0))) := by
 have hn : ∀ s, nth (m6 (fun s => { s with v := .one (.ptr d (s0.bg + 1) 0), box := some cs, bg := s0.bg + 1 }) st d) s =
     if s = d then some { s0 with v := .one (.ptr d (s0.bg + 1) 0), box := some cs, bg := s0.bg + 1 } else nth st s := by
   intro s; rw [dF]
   by_cases e : s = d
   · subst e; simp [jy]
   · simp [e]
 generalize m6 (fun s => { s with v := .one (.ptr d (s0.bg + 1) 0), box := some cs, bg := s0.bg + 1 }) st d = bf at hn ⊢; have gJ : ∀ b, b < w.heap.size → c.ok b → (c.iL d w.heap.size).ok b := by
   intro b hb hc; unfold Cz.ok Cz.iL; simp only [if_neg (show b ≠ w.heap.size by omega)]; exact hc
 have hA : ∀ a' j g, bd bf a' j g = bd st a' j g := by
   intro a' j g; unfold bd; rw [hn]
   by_cases e : a' = d
   · subst e; simp [jy]
   · simp [e]
 have XW : ∀ a', dv bf a' = dv st a' := by
   intro a'; unfold dv; rw [hn]
   by_cases e : a' = d
   · subst e; simp [jy]
   · simp [e]
 have gQ : Fw c st w (c.iL d w.heap.size) bf (w.alloc (.cells vs ty (0, 0))) := {
   stays := uC w _ _ _ gJ
   refs := fun a' j g A' _ ew => ⟨A', by rw [← hA]; exact ew, rfl, rfl, rfl, fun _ => ⟨rfl, fun b o cap iA => by
     exact heap_alloc_old w _ b ((h.sx (g := g) (by rw [← hA]; exact ew)).lt iA)⟩⟩
   zg := fun b g nc hg hb => by
     unfold dE at hb ⊢; rw [hn] at hb
     by_cases e : b = d
     · subst e; simp only [if_true] at hb; unfold gD at hg; rw [jy] at hg; have : Nat.beq (s0.bg + 1) g = false := by
         cases hq : Nat.beq (s0.bg + 1) g
         · rfl
         · have := Nat.eq_of_beq_eq_true hq; simp at hg; omega
       simp [this] at hb
     · simp only [e, if_false] at hb; exact ⟨⟨nc, hb⟩, by simp [Cz.iL, e]⟩
   gA := fun a' => by rw [XW]; exact Nat.le_refl _
   gB := fun b => by
     unfold gD; rw [hn]
     by_cases e : b = d
     · subst e; simp [jy]
     · simp [e]
   gE := fun a' => by
     unfold my; rw [hn]
     by_cases e : a' = d
     · subst e; simp [jy]
     · simp [e] }
 exact {
   fp := fun t => by
     have e1 : cz bf t = if t = d then .one (.ptr d (s0.bg + 1) 0) else cz st t := by
       unfold cz; rw [hn]
       by_cases e : t = d <;> simp [e]
     rw [e1, eval_put]
     by_cases e : t = d
     · subst e; simp only [if_true, true_and, hd]; refine ⟨rfl, ?_, fun nc Fy => by simp [Cz.iL]⟩; unfold gD; rw [hn]; simp
     · simp only [e, if_false]; rw [if_neg (fun h => e (Option.some.inj h.1).symm)]; exact gQ.m8 (h.fp t)
   boxes := fun s sl nc hs hb => by
     rw [hn] at hs
     by_cases e : s = d
     · subst e; simp only [if_true, Option.some.injEq] at hs; subst hs; simp only [Option.some.injEq] at hb; subst hb; exact ⟨by simp [Cz.iL], vs, ty, by simp only [Cz.iL, if_true]; exact heap_alloc_new w _, gQ.L4 hl⟩
     · simp only [e, if_false] at hs; have NS := h.boxes s sl nc hs hb; have dC := h.oF NS.1; exact NS.go gQ (by simp [Cz.iL, e]) (by simp only [Cz.iL]; rw [if_neg (by omega)]) (heap_alloc_old w _ _ dC)
   aP := fun s j sl A hs ew => by
     rw [hn] at hs; have ha : cu c w s j A := by
       by_cases e : s = d
       · subst e; simp only [if_true, Option.some.injEq] at hs; subst hs; exact h.aP s j s0 A jy ew
       · simp only [e, if_false] at hs; exact h.aP s j sl A hs ew
     refine ha.go gQ.stays rfl (fun b hb => ?_); have dC : b < w.heap.size := h.oF hb; exact ⟨heap_alloc_old w _ b dC, by simp only [Cz.iL]; rw [if_neg (by omega)]⟩
   owned := fun b l hb => by
     simp only [Cz.iL] at hb
     by_cases e : b = w.heap.size
     · subst e; exact ⟨by simp, .inr (.inl h.kept.2.2.2)⟩
     · rw [if_neg e] at hb; have := h.owned b l hb; exact ⟨Nat.lt_of_lt_of_le this.1 (by simp), this.2⟩
   free := fun b hb h1 => by
     simp only [Cz.iL] at h1
     by_cases e : b = w.heap.size
     · rw [if_pos e] at h1; cases h1
     · rw [if_neg e] at h1; exact h.free b hb h1
   kept := ⟨h.kept.1, h.kept.2.1, h.kept.2.2.1, Nat.le_trans h.kept.2.2.2 (by simp)⟩
   old := fun k hk hm => by
     rw [heap_alloc_old w _ k (Nat.lt_of_lt_of_le hk h.kept.2.2.2)]; exact h.old k hk hm
   ed := fun p hp => gQ.ed (h.ed p hp)
   plain := h.plain }
end Go.TM
namespace Go.TM
open Go Go.RowKit
theorem bH {w0 : World} {mu : Mu} {c : Cz} {st : St} {a : Act} {w : World} (h : Rel w0 mu c st a w) (x : Operand) : eF c st w (lU st x) (a.eval x) := by
 unfold lU
 split <;> first | exact h.fp _ | rfl | trivial
theorem fo.take {c : Cz} {st : St} {w : World} {cs : List CV} {vs : List Value} (h : fo c st w cs vs) (off n : Nat) : fo c st w ((cs.drop off).take n) ((vs.drop off).take n) := by
 refine ⟨by simp [h.1], fun i x v hx hv => ?_⟩; rw [List.getElem?_take] at hx hv
 by_cases hi : i < n
 · rw [if_pos hi, List.getElem?_drop] at hx hv; exact h.2 _ x v hx hv
 · rw [if_neg hi] at hx; simp at hx
theorem kD {n off : Nat} {cs l : List CV} (h : fm n off cs = some l) : l = (cs.drop off).take n ∧ l.length = n := by
 unfold fm at h; obtain ⟨h1, h2⟩ := aI h; have := Option.some.inj h2; subst this; exact ⟨rfl, Nat.eq_of_beq_eq_true h1⟩
def valOf (agg : Bool) (vs : List Value) : Value := if agg then .agg vs.toArray else vs.headD undef
theorem rk {P : Program} {T : la} (hT : gq P T) {t n : Nat} (ht : T.cells t = some n) (w : World) (b o : Nat) (vs : List Value) (hv : w.rangeAt b o vs) (hn : vs.length = n) :
   (loadVar t ⟨b, o, none⟩).run P w = .ok (valOf (T.agg t) vs) w := by
 obtain ⟨d, hu, hd, h1⟩ := hT.agg t n ht
 cases hg : T.agg t with
 | true =>
   rw [hg] at hd; have := run_loadVar_mid (P := P) w b o t vs d hv hu hd (by rw [hT.cells t n ht, hn]); simpa [valOf] using this
 | false =>
   have Xg := h1 hg; obtain ⟨v, rfl⟩ : ∃ v, vs = [v] := by
     cases vs with
     | nil => simp at hn; omega
     | cons v l => cases l with
       | nil => exact ⟨v, rfl⟩
       | cons _ _ => simp at hn; omega
   have NT : (isAgg t).run P w = .ok false w := by
     unfold isAgg; rw [Sem.run_bind, run_underlying hu w]; rw [hg] at hd
     cases d <;> simp_all [TypeDesc.isRow]
   have hc : w.cell? ⟨b, o, none⟩ = some v := by have := hv 0 v rfl; simpa using this
   simp [loadVar, Sem.run_bind, NT, valOf, run_load, hc]
theorem L5 {c : Cz} {st : St} {w : World} {T : la} {t : Nat} {l : List CV} {vs : List Value} (h : fo c st w l vs) (h1 : T.agg t = false → l.length = 1) :
   eF c st w (JD T t l) (valOf (T.agg t) vs) := by
 unfold JD valOf
 cases hg : T.agg t with
 | true => exact ⟨vs.toArray, rfl, by simpa using h⟩
 | false =>
   have hl := h1 hg
   cases l with
   | nil => simp at hl
   | cons x l => cases l with
     | cons _ _ => simp at hl
     | nil => cases vs with
       | nil => have := h.1; simp at this
       | cons v vs => exact h.2 0 x v rfl rfl
theorem yB {w : World} {b off : Nat} {vs : Array Value} {ty : TypeId} {fr : Nat × Nat} (h : w.heap[b]? = some (.cells vs ty fr)) (n : Nat) : w.rangeAt b off ((vs.toList.drop off).take n) := by
 intro j v hv; rw [cell_of_row w b (off + j) vs ty fr h]; rw [List.getElem?_take] at hv
 by_cases hj : j < n
 · rw [if_pos hj, List.getElem?_drop] at hv; simpa using hv
 · rw [if_neg hj] at hv; simp at hv
theorem td {w : World} {c : Cz} {st : St} : (r : RT) → (b off : Nat) → (x : ar r) → dt w c.ok r b off x →
   ∃ vs, vs.length = r.width ∧ w.rangeAt b off vs ∧ fo c st w (eb r x) vs
 | .nil, _, _, _, _ => ⟨[], rfl, fun j v h => by simp at h, rfl, fun i x v h => by simp [eb] at h⟩
 | .cons t r, b, off, x, h => by
   unfold dt at h; obtain ⟨⟨v, hv, hx⟩, hr⟩ := h; obtain ⟨vs, h1, h2, h3, h4⟩ := td r b (off + 1) x.2 hr; refine ⟨v :: vs, by simp [RT.width, h1], fun j u hu => ?_, by simp [eb, h3], fun i y u hy hu => ?_⟩
   · cases j with
     | zero => simp at hu; rw [← hu]; exact hv
     | succ j =>
       simp at hu; have := h2 j u hu; rw [show off + (j + 1) = off + 1 + j by omega]; exact this
   · cases i with
     | zero =>
       simp [eb] at hy hu; subst hy hu
       cases t with
       | int k => unfold cr at hx; exact hx
       | bool => unfold cr at hx; exact hx
       | str => unfold cr at hx; exact hx
       | sl q => exact hx
     | succ i =>
       simp [eb] at hy hu; exact h4 i y u hy hu
theorem zO {w : World} {P : List Nat → Nat → Prop} {c : Cz} {st : St} {a j g e i : Nat} {A : ig} {x0 : ar A.r} {bb o cap : Nat} (hA : bd st a j g = some A) (he : e = my st a) (hg : g ≤ dv st a) (hm : A.md = .dp) (JM : A.xs[i]? = some x0) (iA : c.lc a j = .at bb o cap) :
   (r : RT) → (p : List Nat) → (k : Nat) → (x : ar r) → (∀ k', p8 r x k' = p8 A.r x0 (k + k')) → gF w P r p k bb (o + i * A.r.width + k) x →
   ∃ vs, vs.length = r.width ∧ w.rangeAt bb (o + i * A.r.width + k) vs ∧ fo c st w (qb a j g e i k r x) vs
 | .nil, _, _, _, _, _ => ⟨[], rfl, fun j v h => by simp at h, rfl, fun i x v h => by simp [qb] at h⟩
 | .cons t r, p, k, x, hs, h => by
   unfold gF at h; obtain ⟨⟨v, hv, hx⟩, hr⟩ := h; obtain ⟨vs, h1, h2, h3, h4⟩ := zO hA he hg hm JM iA r p (k + 1) x.2 (fun k' => by
     rw [show k + 1 + k' = k + (k' + 1) by omega, ← hs]
     cases t <;> rfl) (by rw [show o + i * A.r.width + (k + 1) = o + i * A.r.width + k + 1 by omega]; exact hr)
   refine ⟨v :: vs, by simp [RT.width, h1], fun j u hu => ?_, by simp [qb, h3], fun i' y u hy hu => ?_⟩
   · cases j with
     | zero => simp at hu; rw [← hu]; exact hv
     | succ j =>
       simp at hu; have := h2 j u hu; rw [show o + i * A.r.width + k + (j + 1) = o + i * A.r.width + (k + 1) + j by omega]; exact this
   · cases i' with
     | zero =>
       simp [qb] at hy hu; subst hy hu
       cases t with
       | int k => exact vY.1 hx
       | bool => exact s9.1 hx
       | str => exact vZ.1 hx
       | sl q =>
         have hx := (uz _ _ _ _ _ _).1 hx; obtain ⟨lc, _, q1, _⟩ := hx; refine ⟨q1, hg, by rw [he]; exact Nat.le_refl _, fun A' ew _ => ?_⟩; rw [hA] at ew; cases ew; refine ⟨hm, ⟨x0, JM, ?_⟩, bb, o, cap, iA, hv⟩; have := hs 0; rw [Nat.add_zero] at this; rw [← this]; rfl
     | succ i' =>
       simp [qb] at hy hu; exact h4 i' y u hy hu
theorem rn {w : World} {b off : Nat} {vs : List Value} (h : w.rangeAt b off vs) (k n : Nat) : w.rangeAt b (off + k) ((vs.drop k).take n) := by
 intro j v hv; rw [List.getElem?_take] at hv
 by_cases hj : j < n
 · rw [if_pos hj, List.getElem?_drop] at hv; rw [Nat.add_assoc]; exact h _ v hv
 · rw [if_neg hj] at hv; simp at hv
def iN (w w' : World) : Prop := w.heap.size ≤ w'.heap.size ∧ ∀ b, b < w.heap.size → w'.heap[b]? = w.heap[b]?
theorem iN.refl (w : World) : iN w w := ⟨Nat.le_refl _, fun _ _ => rfl⟩
theorem iN.trans {w w' SG : World} (h : iN w w') (h' : iN w' SG) : iN w SG :=
 ⟨Nat.le_trans h.1 h'.1, fun b hb => (h'.2 b (Nat.lt_of_lt_of_le hb h.1)).trans (h.2 b hb)⟩
theorem iN.alloc (w : World) (b : Obj) : iN w (w.alloc b) := ⟨by simp, fun k hk => heap_alloc_old w b k hk⟩
theorem iN.range {w w' : World} (h : iN w w') {b o : Nat} {vs : List Value} (hr : w.rangeAt b o vs) : w'.rangeAt b o vs := by
 intro j v hj; have h1 := hr j v hj; rw [World.cell?_of_block (w := w) (h.2 b (GN h1))]; exact h1
theorem DM {P : Program} {T : la} (hT : gq P T) {w0 : World} {mu : Mu} {c : Cz} {st : St} {a : Act} {w : World} (h : Rel w0 mu c st a w)
   {d : Option Nat} {t : Nat} {x : V} {u : Value} (hx : eF c st w x u) {bf : St} (hv : (tT T st d t x).val = some bf) (hd : ∀ k, d = some k → k < a.tmps.size) :
   ∃ v, (∀ w' : World, iN w w' → (Instr.loadAt t u).run P w' = .ok v w') ∧ Rel w0 mu c bf (a.put d v) w := by
 have key : ∀ (b o n : Nat) (l : List CV) (vs : List Value), T.cells t = some n → u = .pointer (some ⟨b, o, none⟩) → w.rangeAt b o vs → vs.length = n → fo c st w l vs →
     (N.done (TM.bj st d (JD T t l))).val = some bf → ∃ v, (∀ w' : World, iN w w' → (Instr.loadAt t u).run P w' = .ok v w') ∧ Rel w0 mu c bf (a.put d v) w := by
   intro b o n l vs hn hu hr hlen hl rP; simp only [N.val, Option.some.injEq] at rP; subst rP; obtain ⟨dd, _, _, h1⟩ := hT.agg t n hn; refine ⟨valOf (T.agg t) vs, fun w' hk => ?_, h.bj (L5 hl (fun hg => by rw [hl.1, hlen]; exact h1 hg)) hd⟩; subst hu; have XX : w'.rangeAt b o vs := hk.range hr; simp only [Instr.loadAt, Instr.sureAddr, Sem.run_bind, Sem.run_pure, Result.andThen_ok, rk hT hn w' b o vs XX hlen]
 cases hn : T.cells t with
 | none => cases x with
   | one y => cases y <;> simp [tT, hn, N.val] at hv
   | agg _ => simp [tT, N.val] at hv
   | nb _ => simp [tT, N.val] at hv
 | some n => cases x with
   | agg _ => simp [tT, N.val] at hv
   | nb _ => simp [tT, N.val] at hv
   | one y => cases y with
     | bad | int _ _ | bool _ | str _ | ea | Fj | shr _ _ | nn _ _ | ref _ _ _ _ | fn _ _ _ | pL _ _ _ _ _ _ _ _ => simp [tT, N.val] at hv
     | ptr b g off =>
       simp only [tT, hn] at hv
       cases hb : dE st b g with
       | none => simp [hb, N.val] at hv
       | some cs =>
         simp only [hb] at hv
         cases CB : fm n off cs with
         | none => simp [CB, N.val] at hv
         | some l =>
           simp only [CB] at hv; obtain ⟨rfl, hlen⟩ := kD CB; obtain ⟨sl, zP, LN, zQ⟩ := il hb; obtain ⟨ho, vs, ty, hh, hl⟩ := h.boxes b sl cs zP zQ; have hu := hx.2.2 cs hb; refine key _ _ n _ ((vs.toList.drop off).take n) hn hu (yB hh n) ?_ (hl.take off n) hv; rw [← (hl.take off n).1]; exact hlen
     | k9 r y off =>
       simp only [tT, hn] at hv
       cases CB : fm n off (eb r y) with
       | none => simp [CB, N.val] at hv
       | some l =>
         simp only [CB] at hv; obtain ⟨rfl, hlen⟩ := kD CB; obtain ⟨b, o, hu, dC, gJ, zR⟩ := hx; obtain ⟨vs, h1, h2, h3⟩ := td (st := st) r b o y zR; refine key _ _ n _ ((vs.drop off).take n) hn hu (rn h2 off n) ?_ (h3.take off n) hv; rw [← (h3.take off n).1]; exact hlen
     | rM r ys off =>
       simp only [tT, hn] at hv
       cases hy : ys[0]? with
       | none => simp [hy, N.val] at hv
       | some y =>
       simp only [hy] at hv; change (match fm n off (eb r y) with | some l => N.done (TM.bj st d (JD T t l)) | none => N.fail).val = some bf at hv
       cases CB : fm n off (eb r y) with
       | none => simp [CB, N.val] at hv
       | some l =>
         simp only [CB] at hv; obtain ⟨rfl, hlen⟩ := kD CB; obtain ⟨b, o, hu, dC, gJ, zR⟩ := hx; obtain ⟨vs, h1, h2, h3⟩ := td (st := st) r b o y (zR y hy); refine key _ _ n _ ((vs.drop off).take n) hn hu (rn h2 off n) ?_ (h3.take off n) hv; rw [← (h3.take off n).1]; exact hlen
     | DJ a' j g i off =>
       simp only [tT, hn] at hv
       cases hA : bd st a' j g with
       | none => simp [hA, N.val] at hv
       | some A =>
         simp only [hA] at hv; obtain ⟨sl, zP, LN, zQ⟩ := bA hA; have DN := h.aP a' j sl A zP zQ; obtain ⟨hi, b, o, cap, iA, hu⟩ := hx.2.2 A hA; unfold cu at DN; rw [iA] at DN; obtain ⟨_, _, _, fF⟩ := DN
         cases hm : A.md with
         | ho _ => rw [hm] at hv; simp [N.val] at hv
         | sh =>
           rw [hm] at hv; simp only at hv
           cases v7 : A.xs[i]? with
           | none => simp [v7, N.val] at hv
           | some y =>
             simp only [v7] at hv; change (match fm n off (eb A.r y) with | some l => N.done (TM.bj st d (JD T t l)) | none => N.fail).val = some bf at hv
             cases CB : fm n off (eb A.r y) with
             | none => simp [CB, N.val] at hv
             | some l =>
               simp only [CB] at hv; obtain ⟨rfl, hlen⟩ := kD CB; obtain ⟨vs, h1, h2, h3⟩ := td (st := st) A.r b _ y ((cg.sh hm).1 fF i y v7); refine key _ _ n _ ((vs.drop off).take n) hn hu (rn h2 off n) ?_ (h3.take off n) hv; rw [← (h3.take off n).1]; exact hlen
         | dp =>
           rw [hm] at hv; simp only at hv
           cases v7 : A.xs[i]? with
           | none => simp [v7, N.val] at hv
           | some y =>
             simp only [v7] at hv; change (match fm n off (qb a' j g (my st a') i 0 A.r y) with | some l => N.done (TM.bj st d (JD T t l)) | none => N.fail).val = some bf at hv
             cases CB : fm n off (qb a' j g (my st a') i 0 A.r y) with
             | none => simp [CB, N.val] at hv
             | some l =>
               simp only [CB] at hv; obtain ⟨rfl, hlen⟩ := kD CB; unfold cg at fF; rw [hm] at fF; obtain ⟨gg, _, fF⟩ := fF; obtain ⟨vs, h1, h2, h3⟩ := zO (st := st) hA rfl hx.2.1 hm v7 iA A.r _ 0 y (fun k' => by rw [Nat.zero_add]) (fF i y v7); rw [Nat.add_zero] at h2; refine key _ _ n _ ((vs.drop off).take n) hn hu (rn h2 off n) ?_ (h3.take off n) hv; rw [← (h3.take off n).1]; exact hlen
end Go.TM
namespace Go.TM
open Go Go.RowKit
def cZ (w : World) (ok : Nat → Prop) : (r : RT) → List Value → ar r → Prop
 | .nil, vs, _ => vs = []
 | .cons t r, vs, x => ∃ v l, vs = v :: l ∧ cr w ok t v x.1 ∧ cZ w ok r l x.2
theorem cZ.length {w : World} {ok : Nat → Prop} : (r : RT) → (vs : List Value) → (x : ar r) → cZ w ok r vs x → vs.length = r.width
 | .nil, vs, _, h => by simp only [cZ] at h; subst h; rfl
 | .cons t r, vs, x, h => by
   obtain ⟨v, l, rfl, _, h⟩ := h; simp [RT.width, cZ.length r l x.2 h]
theorem nh {w : World} {ok : Nat → Prop} : (r : RT) → (b off : Nat) → (x : ar r) → (dt w ok r b off x ↔ ∃ vs, w.rangeAt b off vs ∧ cZ w ok r vs x)
 | .nil, _, _, _ => by
   unfold dt; exact ⟨fun _ => ⟨[], fun j v h => by simp at h, rfl⟩, fun _ => trivial⟩
 | .cons t r, b, off, x => by
   unfold dt
   constructor
   · rintro ⟨⟨v, hv, hx⟩, hr⟩
     obtain ⟨vs, h1, h2⟩ := (nh r b (off + 1) x.2).1 hr; refine ⟨v :: vs, fun j u hu => ?_, v, vs, rfl, hx, h2⟩
     cases j with
     | zero => simp at hu; rw [← hu]; exact hv
     | succ j =>
       simp at hu; rw [show off + (j + 1) = off + 1 + j by omega]; exact h1 j u hu
   · rintro ⟨vs, h1, v, l, rfl, hx, h2⟩
     refine ⟨⟨v, h1 0 v rfl, hx⟩, (nh r b (off + 1) x.2).2 ⟨l, fun j u hu => ?_, h2⟩⟩; have := h1 (j + 1) u (by simpa using hu); rw [show off + 1 + j = off + (j + 1) by omega]; exact this
theorem cZ.stays {w w' : World} {ok wJ : Nat → Prop} (h : iU w w' ok wJ) : (r : RT) → (vs : List Value) → (x : ar r) → cZ w ok r vs x → cZ w' wJ r vs x
 | .nil, _, _, hr => hr
 | .cons t r, _, x, ⟨v, l, e, hx, hr⟩ => ⟨v, l, e, cr.stays h t v x.1 hx, cZ.stays h r l x.2 hr⟩
theorem zS {w : World} {c : Cz} {st : St} : (r : RT) → (x : ar r) → (k : Nat) → (y : CV) → (z : ar r) → (vs : List Value) → (u : Value) →
   gj r x k y = some z → jG c st w y u → cZ w c.ok r vs x → cZ w c.ok r (vs.set k u) z
 | .nil, _, _, _, _, _, _, h, _, _ => by simp [gj] at h
 | .cons t r, x, 0, y, z, vs, u, h, hu, hv => by
   obtain ⟨v, l, rfl, hx, hr⟩ := hv
   cases t with
   | int k => cases y <;> simp [gj] at h
              obtain ⟨rfl, h⟩ := h; obtain rfl := Option.some.inj h; refine ⟨u, l, rfl, ?_, hr⟩; unfold cr; exact hu
   | bool => cases y <;> simp [gj] at h
             obtain rfl := Option.some.inj h; refine ⟨u, l, rfl, ?_, hr⟩; unfold cr; exact hu
   | str => cases y <;> simp [gj] at h
            obtain rfl := Option.some.inj h; refine ⟨u, l, rfl, ?_, hr⟩; unfold cr; exact hu
   | sl q => cases y <;> simp [gj] at h
 | .cons t r, x, k + 1, y, z, vs, u, h, hu, hv => by
   obtain ⟨v, l, rfl, hx, hr⟩ := hv; have h' : (gj r x.2 k y).map (fun z => ((x.1, z) : ar (.cons t r))) = some z := by cases t <;> (simp only [gj] at h; exact h)
   cases hq : gj r x.2 k y with
   | none => simp [hq] at h'
   | some z' =>
     rw [hq] at h'; obtain rfl := Option.some.inj h'; exact ⟨v, l.set k u, rfl, hx, zS r x.2 k y z' l u hq hu hr⟩
def ck (vs : List Value) (off : Nat) (us : List Value) : List Value := vs.take off ++ us ++ vs.drop (off + us.length)
theorem yC {vs : List Value} {off : Nat} {u : Value} {us : List Value} (h : off < vs.length) : ck vs off (u :: us) = (ck vs (off + 1) us).set off u := by
 unfold ck; apply List.ext_getElem?; intro k; simp only [List.getElem?_set, List.getElem?_append, List.length_append, List.length_take, List.length_cons, List.getElem?_drop, List.getElem?_cons]
 by_cases h1 : k < off
 · have a1 : min off vs.length = off := by omega
   have a2 : min (off + 1) vs.length = off + 1 := by omega
   have a3 : off ≠ k := by omega
   simp only [a1, a2, a3, if_false, h1, show k < off + (us.length + 1) by omega, show k < off + 1 + us.length by omega, show k < off + 1 by omega, if_true, List.getElem?_take]
 · by_cases h2 : k = off
   · subst h2; have a1 : min k vs.length = k := by omega
     have a2 : min (k + 1) vs.length = k + 1 := by omega
     have a3 : min k vs.length - k = 0 := by omega
     simp [a1, a2, h]; omega
   · have a1 : min off vs.length = off := by omega
     have a2 : min (off + 1) vs.length = off + 1 := by omega
     obtain ⟨m, rfl⟩ : ∃ m, k = off + 1 + m := ⟨k - (off + 1), by omega⟩; have a3 : off ≠ off + 1 + m := by omega
     simp only [a1, a2, a3, if_false, show ¬ off + 1 + m < off by omega, show off + 1 + m - off = m + 1 by omega, show ¬ off + 1 + m < off + 1 by omega, show off + 1 + m - (off + 1) = m by omega,
       Nat.add_one_ne_zero, Nat.add_sub_cancel]
     by_cases h3 : m < us.length
     · rw [if_pos (by omega), if_pos (by omega)]
     · rw [if_neg (by omega), if_neg (by omega)]
       congr 1
       omega
theorem gK {vs : List Value} {off : Nat} {us : List Value} (h : off + us.length ≤ vs.length) : (ck vs off us).length = vs.length := by
 unfold ck; simp; omega
theorem zT {w : World} {c : Cz} {st : St} (r : RT) (x : ar r) : (off : Nat) → (cs : List CV) → (z : ar r) → (vs us : List Value) → off + us.length ≤ vs.length →
   kC r x off cs = some z → fo c st w cs us → cZ w c.ok r vs x → cZ w c.ok r (ck vs off us) z
 | off, [], z, vs, us, _, h, hl, hv => by
   have : us = [] := by have := hl.1; simp at this; exact List.length_eq_zero_iff.1 this.symm
   subst this; simp [kC] at h; subst h; simp [ck]; exact hv
 | off, y :: l, z, vs, us, hle, h, hl, hv => by
   cases us with
   | nil => have := hl.1; simp at this
   | cons u us =>
     simp only [kC] at h
     cases hq : kC r x (off + 1) l with
     | none => simp [hq] at h
     | some y' =>
       simp only [hq] at h; simp at hle; have ih := zT r x (off + 1) l y' vs us (by omega) hq ⟨by have := hl.1; simpa using this, fun i a b ha hb => hl.2 (i + 1) a b (by simpa using ha) (by simpa using hb)⟩ hv; rw [yC (by omega)]; exact zS r y' off y z _ u h (hl.2 0 y u rfl rfl) ih
theorem tf {w : World} {c : Cz} {b : Nat} {l : Lb} (hb : c.own b = some l) (cur : Array Value) : iU w (w.setRow b cur) c.ok c.ok where
 size := by simp [World.setRow]
 block k _ hk := setRow_other w b k cur (fun e => by subst e; unfold Cz.ok at hk; rw [hb] at hk; cases hk)
 ok _ _ h := h
theorem mM {P : Program} {T : la} (hT : gq P T) {t n : Nat} (ht : T.cells t = some n) (w : World) (b o : Nat) (v : Value) (hn : v.cells.toList.length = n) (h1 : ∀ u ∈ v.cells.toList, u.oneCell' = true)
   {cur : Array Value} {ty : TypeId} (hg : w.heap[b]? = some (.cells cur ty (0, 0))) (hle : o + n ≤ cur.size) :
   (Instr.storeAt t (.pointer (some ⟨b, o, none⟩)) v).run P w = .ok () (w.setRow b (ck cur.toList o v.cells.toList).toArray) := by
 have hs := run_storeCells_at P b o ty v.cells.toList 0 cur w hg (by omega) h1; have hi := hT.cells t n ht
 cases hq : P.info? t with
 | none => simp [hq] at hi
 | some i =>
   have mj : v.cells.size = i.size := by simp [hq] at hi; rw [hi, ← hn]; simp
   simp only [Nat.add_zero] at hs; simp [Instr.storeAt, Instr.sureAddr, storeVar, sizeOf, typeInfo, hq, mj, hs, ck]
end Go.TM
namespace Go.TM
open Go Go.RowKit
theorem View.vo {α : Type} (vw : View) (xs : List α) {i : Nat} {x : α} (h : (vw.app xs)[i]? = some x) : xs[vw.lo + i]? = some x := by
 cases vw with
 | full => simpa [View.app, View.lo] using h
 | «from» lo => simpa [View.app, View.lo, List.getElem?_drop] using h
 | sub lo n =>
   simp only [View.app, View.lo, List.getElem?_take, List.getElem?_drop] at h ⊢
   by_cases hi : i < n
   · rwa [if_pos hi] at h
   · rw [if_neg hi] at h; simp at h
theorem wL {c : Cz} {w : World} {s j : Nat} {A : ig} (h : cu c w s j A) {vw : View} {u : Value} (hu : jx (c.lc s j) A.r.width vw.lo (vw.app A.xs).length u)
   {ok : Nat → Prop} (h1 : ∀ b, c.ok b → ok b) (h2 : ∀ b, A.own = true ∨ A.md = .dp → c.own b = some (.sp s j) → ok b) (zh : A.md.Ct = false) : cr w ok (.sl A.r) u (vw.app A.xs) := by
 rw [oc]
 cases hl : c.lc s j with
 | nil =>
   unfold jx at hu; rw [hl] at hu; obtain ⟨rfl, hn⟩ := hu; exact .inl ⟨rfl, List.length_eq_zero_iff.1 hn⟩
 | «at» b off cap =>
   unfold jx at hu; rw [hl] at hu; obtain ⟨a, k, rfl, hk, wM, ha⟩ := hu; unfold cu at h; rw [hl] at h; obtain ⟨h0, _, ⟨cur, ty, h3, _⟩, h5⟩ := h; have h5 : ∀ (i : Nat) x, A.xs[i]? = some x → dt w ok A.r b (off + i * A.r.width) x := by
     unfold cg at h5
     cases hm : A.md with
     | sh => rw [hm] at h5; exact fun i x hx => dt.stays ⟨Nat.le_refl _, fun _ _ _ => rfl, fun b _ hb => h1 b hb⟩ _ _ _ x rfl (h5 i x hx)
     | dp =>
       rw [hm] at h5; obtain ⟨g, _, h5⟩ := h5; exact fun i x hx => gF.rep (fun p k hk => h2 k (.inr hm) hk.1) _ _ _ _ _ x (h5 i x hx)
     | ho _ => rw [hm] at zh; cases zh
   have hob : ok b := by
     cases ho : A.own with
     | true => rw [ho] at h0; exact h2 b (.inl ho) h0
     | false => rw [ho] at h0; exact h1 b h0
   have hs : iU w w c.ok ok := ⟨Nat.le_refl _, fun _ _ _ => rfl, fun b _ hb => h1 b hb⟩; refine .inr ⟨a, k, rfl, hk, fun ik => ?_, fun i x hi => ?_⟩
   · have : k ≠ 0 := by
       have := List.length_pos_iff.2 ik; omega
     rw [ha this]; exact ⟨rfl, (Array.getElem?_eq_some_iff.1 h3).1, hob⟩
   · have XY : k ≠ 0 := by
       have := (List.getElem?_eq_some_iff.1 hi).1; omega
     rw [ha XY]; have := h5 _ x (View.vo vw A.xs hi); have e : off + vw.lo * A.r.width + i * A.r.width = off + (vw.lo + i) * A.r.width := by rw [Nat.add_mul]; omega
     show dt w ok A.r b (off + vw.lo * A.r.width + i * A.r.width) x; rw [e]; exact this
theorem bD {r s : RT} {xs : List (ar r)} {ys : List (ar s)} (h : cm s xs = some ys) : ∃ e : r = s, ys = e ▸ xs := by
 unfold cm at h
 cases hq : RT.eq? r s with
 | none => simp [hq] at h
 | some p => obtain ⟨e⟩ := p; simp [hq] at h; exact ⟨e, h.symm⟩
def Cz.drop1 (c : Cz) (a j : Nat) : Cz :=
 { c with own := fun k => match c.own k with | some (.sp s i) => if s = a ∧ i = j then none else some (.sp s i) | l => l }
theorem Cz.zU {c : Cz} {a j b : Nat} (h : c.ok b) : (c.drop1 a j).ok b := by
 unfold Cz.ok Cz.drop1 at *; simp [h]
theorem Cz.zV {c : Cz} {a j b : Nat} (h : c.own b = some (.sp a j)) : (c.drop1 a j).ok b := by
 unfold Cz.ok Cz.drop1; simp [h]
theorem Cz.Fz {c : Cz} {a j b : Nat} {l : Lb} (h : (c.drop1 a j).own b = some l) : c.own b = some l := by
 unfold Cz.drop1 at h; simp only at h
 cases hc : c.own b with
 | none => simp [hc] at h
 | some l' => cases l' with
   | box s => simp [hc] at h; rw [h]
   | out => simp [hc] at h; rw [h]
   | cI i k => simp [hc] at h; rw [h]
   | su i => simp [hc] at h; rw [h]
   | jw k => simp [hc] at h; rw [h]
   | sp s i =>
     simp only [hc] at h
     by_cases e : s = a ∧ i = j
     · simp [e] at h
     · rw [if_neg e] at h; exact h
theorem Cz.qJ {c : Cz} {a j b : Nat} {l : Lb} (h : c.own b = some l) (ik : l ≠ .sp a j) : (c.drop1 a j).own b = some l := by
 unfold Cz.drop1; simp only [h]
 cases l with
 | box s => rfl
 | out => rfl
 | cI i k => rfl
 | su i => rfl
 | jw k => rfl
 | sp s i =>
   simp only; rw [if_neg]
   rintro ⟨rfl, rfl⟩
   exact ik rfl
def fb (st : St) (a j : Nat) : St := m6 (fun s => { s with aP := m6 (fun A => A.map ig.fz) s.aP j, ep := s.ep + 1 }) st a
theorem DO (st : St) (a j : Nat) (l : List (Nat × Nat)) : freeze st ((a, j) :: l) = freeze (fb st a j) l := rfl
theorem iB (st : St) (a j s : Nat) : ∃ f : Sl → Sl, (∀ x, (f x).v = x.v ∧ (f x).box = x.box ∧ (f x).bg = x.bg ∧ (f x).ag = x.ag ∧
     (∀ i, nth (f x).aP i = if s = a ∧ i = j then (nth x.aP i).map (fun A => A.map ig.fz) else nth x.aP i) ∧ (f x).ep = if s = a then x.ep + 1 else x.ep) ∧ nth (fb st a j) s = (nth st s).map f := by
 unfold fb
 by_cases h : s = a
 · subst h; refine ⟨fun s => { s with aP := m6 (fun A => A.map ig.fz) s.aP j, ep := s.ep + 1 }, fun x => ⟨rfl, rfl, rfl, rfl, fun i => ?_, by simp⟩, jF _ _ _⟩; simp only [dF, true_and]
 · refine ⟨id, fun x => ⟨rfl, rfl, rfl, rfl, fun i => ?_, by simp [h]⟩, by rw [mz _ _ h]; simp⟩; simp [h]
theorem yD (st : St) (a j b : Nat) : my st b ≤ my (fb st a j) b ∧ (my (fb st a j) b = my st b → b ≠ a ∨ nth st b = none) := by
 obtain ⟨f, hf, hn⟩ := iB st a j b; unfold my; rw [hn]
 cases hx : nth st b with
 | none => simp
 | some x =>
   simp only [Option.map_some]; rw [(hf x).2.2.2.2.2]
   by_cases e : b = a
   · rw [if_pos e]; exact ⟨by omega, fun h => by omega⟩
   · rw [if_neg e]; exact ⟨Nat.le_refl _, fun _ => .inl e⟩
theorem CC (st : St) (a j t : Nat) : cz (fb st a j) t = cz st t := by
 obtain ⟨f, hf, hn⟩ := iB st a j t; unfold cz; rw [hn]
 cases nth st t with
 | none => rfl
 | some x => exact (hf x).1
theorem CD {st : St} {a j a' j' g : Nat} {A' : ig} (h : bd (fb st a j) a' j' g = some A') : ∃ A, bd st a' j' g = some A ∧ A'.r.width = A.r.width ∧ A'.xs.length = A.xs.length ∧ (a' ≠ a → A' = A) := by
 obtain ⟨sl, h1, h2, h3⟩ := bA h; obtain ⟨f, hf, hn⟩ := iB st a j a'; rw [hn] at h1
 cases hx : nth st a' with
 | none => rw [hx] at h1; simp at h1
 | some x =>
   rw [hx] at h1; simp at h1; subst h1; obtain ⟨_, _, _, f4, f5, _⟩ := hf x; rw [f5] at h3; rw [f4] at h2; have key : ∃ A, nth x.aP j' = some (some A) ∧ A'.r.width = A.r.width ∧ A'.xs.length = A.xs.length ∧ (a' ≠ a → A' = A) := by
     by_cases e : a' = a ∧ j' = j
     · rw [if_pos e] at h3
       cases hj : nth x.aP j' with
       | none => simp [hj] at h3
       | some o => cases o with
         | none => simp [hj] at h3
         | some A => simp [hj] at h3; subst h3; exact ⟨A, rfl, rfl, rfl, fun h => absurd e.1 h⟩
     · rw [if_neg e] at h3; exact ⟨A', h3, rfl, rfl, fun _ => rfl⟩
   obtain ⟨A, k1, k2, k3⟩ := key; refine ⟨A, ?_, k2, k3⟩; unfold bd; rw [hx]; have : Nat.beq x.ag g = true := by rw [h2]; exact Nat.beq_refl g
   simp [this, k1]
theorem CE (st : St) (a j b g : Nat) : dE (fb st a j) b g = dE st b g := by
 obtain ⟨f, hf, hn⟩ := iB st a j b; unfold dE; rw [hn]
 cases nth st b with
 | none => rfl
 | some x => obtain ⟨_, h2, h3, _⟩ := hf x; simp [h2, h3]
theorem CF (st : St) (a j b : Nat) : dv (fb st a j) b = dv st b := by
 obtain ⟨f, hf, hn⟩ := iB st a j b; unfold dv; rw [hn]
 cases nth st b with
 | none => rfl
 | some x => exact (hf x).2.2.2.1
theorem CG (st : St) (a j b : Nat) : gD (fb st a j) b = gD st b := by
 obtain ⟨f, hf, hn⟩ := iB st a j b; unfold gD; rw [hn]
 cases nth st b with
 | none => rfl
 | some x => exact (hf x).2.2.1
theorem Fw.fb (c : Cz) (st : St) (w : World) (a j : Nat) : Fw c st w (c.drop1 a j) (fb st a j) w where
 stays := ⟨Nat.le_refl _, fun _ _ _ => rfl, fun _ _ h => Cz.zU h⟩
 refs a' j' g A' _ ew := by
   obtain ⟨A, h1, h2, h3, h4⟩ := CD ew; refine ⟨A, h1, h2, h3, rfl, fun he => ⟨?_, fun _ _ _ _ => rfl⟩⟩; rcases (yD st a j a').2 he with e | e
   · exact h4 e
   · unfold bd at h1; rw [e] at h1; cases h1
 zg b g nc _ h := ⟨⟨nc, by rwa [CE] at h⟩, rfl⟩
 gA b := by rw [CF]; exact Nat.le_refl _
 gB b := by rw [CG]; exact Nat.le_refl _
 gE b := (yD st a j b).1
theorem Rel.fb {w0 : World} {mu : Mu} {c : Cz} {st : St} {a : Act} {w : World} (h : Rel w0 mu c st a w) (s j : Nat) : Rel w0 mu (c.drop1 s j) (fb st s j) a w where
 fp t := by rw [CC]; exact (Fw.fb c st w s j).m8 (h.fp t)
 boxes b sl cs hs hb := by
   obtain ⟨f, hf, hn⟩ := iB st s j b; rw [hn] at hs
   cases hx : nth st b with
   | none => rw [hx] at hs; simp at hs
   | some x =>
     rw [hx] at hs; simp at hs; subst hs; rw [(hf x).2.1] at hb; have h0 := h.boxes b x cs hx hb; exact h0.go (Fw.fb c st w s j) rfl (by rw [h0.1]; exact Cz.qJ h0.1 (by simp)) rfl
 aP b i sl A hs hb := by
   obtain ⟨f, hf, hn⟩ := iB st s j b; rw [hn] at hs
   cases hx : nth st b with
   | none => rw [hx] at hs; simp at hs
   | some x =>
     rw [hx] at hs; simp at hs; subst hs; rw [(hf x).2.2.2.2.1 i] at hb
     by_cases e : b = s ∧ i = j
     · rw [if_pos e] at hb
       cases hj : nth x.aP i with
       | none => simp [hj] at hb
       | some o => cases o with
         | none => simp [hj] at hb
         | some B =>
           simp [hj] at hb; subst hb; have h0 := h.aP b i x B hx hj; unfold cu at h0 ⊢; show match c.lc b i with | .nil => _ | .at b off cap => _
           cases hl : c.lc b i with
           | nil => rw [hl] at h0; exact h0
           | «at» k off cap =>
             rw [hl] at h0; obtain ⟨h1, h2, h3, h4⟩ := h0; refine ⟨?_, h2, h3, ?_⟩
             · show (c.drop1 s j).own k = none
               cases ho : B.own with
               | true => rw [ho] at h1; obtain ⟨rfl, rfl⟩ := e; exact Cz.zV h1
               | false => rw [ho] at h1; exact Cz.zU h1
             · unfold cg at h4 ⊢; show match B.md.fz with | .sh => _ | .dp => _ | .ho _ => _
               cases hm : B.md with
               | sh => rw [hm] at h4; exact fun i x hi => dt.stays (Fw.fb c st w s j).stays _ _ _ x rfl (h4 i x hi)
               | dp =>
                 rw [hm] at h4; obtain ⟨g, _, h4⟩ := h4; obtain ⟨rfl, rfl⟩ := e; exact fun i x hi => gF.rep (fun p k hk => Cz.zV hk.1) _ _ _ _ _ x (h4 i x hi)
               | ho q => exact fun e => by cases e
     · rw [if_neg e] at hb; have h0 := h.aP b i x A hx hb; refine h0.go (Fw.fb c st w s j).stays rfl (fun k h1 => ⟨rfl, ?_⟩); rw [h1]; exact Cz.qJ h1 (by rintro e'; injection e' with e1 e2; exact e ⟨e1, e2⟩)
 owned b l hb := h.owned b l (Cz.Fz hb)
 free b hb h1 := by
   cases hc : c.own b with
   | none => exact h.free b hb hc
   | some l =>
     rcases (h.owned b l hc).2 with h2 | h2 | h2
     · subst h2; unfold Cz.drop1 at h1; simp [hc] at h1
     · omega
     · exact .inl h2
 kept := h.kept
 old := h.old
 ed p hp := (Fw.fb c st w s j).ed (h.ed p hp)
 plain := h.plain
def Cz.drop (c : Cz) : List (Nat × Nat) → Cz
 | [] => c
 | (a, j) :: l => (c.drop1 a j).drop l
theorem Rel.freeze {w0 : World} {mu : Mu} {a : Act} {w : World} : (m : List (Nat × Nat)) → {c : Cz} → {st : St} → Rel w0 mu c st a w → Rel w0 mu (c.drop m) (freeze st m) a w
 | [], _, _, h => h
 | (s, j) :: m, _, _, h => Rel.freeze m (h.fb s j)
theorem Cz.wN : (m : List (Nat × Nat)) → (c : Cz) → (b : Nat) → c.ok b → (c.drop m).ok b
 | [], _, _, h => h
 | (a, j) :: m, c, b, h => Cz.wN m (c.drop1 a j) b (Cz.zU h)
theorem Cz.zB : (m : List (Nat × Nat)) → (c : Cz) → (b : Nat) → {a j : Nat} → c.own b = some (.sp a j) → (a, j) ∈ m → (c.drop m).ok b
 | [], _, _, _, _, _, h => by simp at h
 | (a', j') :: m, c, b, a, j, h, hm => by
   by_cases e : a' = a ∧ j' = j
   · obtain ⟨rfl, rfl⟩ := e; exact Cz.wN m _ b (Cz.zV h)
   · refine Cz.zB m (c.drop1 a' j') b (Cz.qJ h (by rintro e'; injection e' with e1 e2; exact e ⟨e1.symm, e2.symm⟩)) ?_; rcases List.mem_cons.1 hm with h' | h'
     · injection h' with e1 e2; exact absurd ⟨e1.symm, e2.symm⟩ e
     · exact h'
theorem Cz.GO : (m : List (Nat × Nat)) → (c : Cz) → (c.drop m).lc = c.lc ∧ (c.drop m).bx = c.bx
 | [], _ => ⟨rfl, rfl⟩
 | (a, j) :: m, c => Cz.GO m (c.drop1 a j)
theorem Cz.BH : (m : List (Nat × Nat)) → (c : Cz) → (b : Nat) → {l : Lb} → c.own b = some l → (∀ p ∈ m, l ≠ .sp p.1 p.2) → (c.drop m).own b = some l
 | [], _, _, _, h, _ => h
 | (a, j) :: m, c, b, l, h, hm => Cz.BH m (c.drop1 a j) b (Cz.qJ h (hm (a, j) (by simp))) (fun p hp => hm p (by simp [hp]))
theorem Fw.trans {c c1 c2 : Cz} {st zi hM : St} {w w1 w2 : World} (h : Fw c st w c1 zi w1) (k : Fw c1 zi w1 c2 hM w2) : Fw c st w c2 hM w2 where
 stays := ⟨Nat.le_trans h.stays.size k.stays.size, fun b hb ho => (k.stays.block b (Nat.lt_of_lt_of_le hb h.stays.size) (h.stays.ok b hb ho)).trans (h.stays.block b hb ho),
   fun b hb ho => k.stays.ok b (Nat.lt_of_lt_of_le hb h.stays.size) (h.stays.ok b hb ho)⟩
 refs a j g A' hg ew := by
   obtain ⟨A1, h1, h2, h3, h4, h5⟩ := k.refs a j g A' (Nat.le_trans hg (h.gA a)) ew; obtain ⟨A, k1, k2, k3, k4, k5⟩ := h.refs a j g A1 hg h1; refine ⟨A, k1, h2.trans k2, h3.trans k3, h4.trans k4, fun he => ?_⟩; have g1 := h.gE a; have g2 := k.gE a; obtain ⟨e1, e2⟩ := h5 (by omega); obtain ⟨e3, e4⟩ := k5 (by omega); exact ⟨e1.trans e3, fun b o cap hl => (e2 b o cap (by rw [k4]; exact hl)).trans (e4 b o cap hl)⟩
 zg b g nc hg hb := by
   obtain ⟨⟨cs1, h1⟩, h2⟩ := k.zg b g nc (Nat.le_trans hg (h.gB b)) hb; obtain ⟨h3, h4⟩ := h.zg b g cs1 hg h1; exact ⟨h3, h2.trans h4⟩
 gA a := Nat.le_trans (h.gA a) (k.gA a)
 gB b := Nat.le_trans (h.gB b) (k.gB b)
 gE b := Nat.le_trans (h.gE b) (k.gE b)
theorem Fw.refl (c : Cz) (st : St) (w : World) : Fw c st w c st w := ⟨iU.refl w _, fun _ _ _ A' _ h => ⟨A', h, rfl, rfl, rfl, fun _ => ⟨rfl, fun _ _ _ _ => rfl⟩⟩, fun _ _ nc _ h => ⟨⟨nc, h⟩, rfl⟩, fun _ => Nat.le_refl _, fun _ => Nat.le_refl _, fun _ => Nat.le_refl _⟩
theorem Fw.freeze (w : World) : (m : List (Nat × Nat)) → (c : Cz) → (st : St) → Fw c st w (c.drop m) (freeze st m) w
 | [], c, st => Fw.refl c st w
 | (a, j) :: m, c, st => (Fw.fb c st w a j).trans (Fw.freeze w m (c.drop1 a j) (TM.fb st a j))
theorem wO {w0 : World} {mu : Mu} {c : Cz} {st : St} {a : Act} {w : World} (h : Rel w0 mu c st a w) : (r : RT) → (cs : List CV) → (us : List Value) → fo c st w cs us →
   (k : ar r → List (Nat × Nat) → N) → {bf : St} → (rowOf st r cs k).val = some bf →
   ∃ x m, (k x m).val = some bf ∧ (∀ p ∈ m, ∃ g A, bd st p.1 p.2 g = some A) ∧
     ∀ ok : Nat → Prop, (∀ b, c.ok b → ok b) → (∀ p ∈ m, ∀ b, c.own b = some (.sp p.1 p.2) → ok b) → cZ w ok r us x
 | .nil, cs, us, hl, k, bf, hv => by
   cases cs with
   | cons _ _ => simp [rowOf, N.val] at hv
   | nil =>
     have : us = [] := by have := hl.1; simp at this; exact List.length_eq_zero_iff.1 this.symm
     subst this; exact ⟨(), [], hv, fun p hp => by simp at hp, fun _ _ _ => rfl⟩
 | .cons t r, cs, us, hl, k, bf, hv => by
   cases cs with
   | nil => cases t <;> simp [rowOf, N.val] at hv
   | cons y cs =>
     cases us with
     | nil => have := hl.1; simp at this
     | cons u us =>
       have hu : jG c st w y u := hl.2 0 y u rfl rfl; have um : fo c st w cs us := ⟨by have := hl.1; simpa using this, fun i a b ha hb => hl.2 (i + 1) a b (by simpa using ha) (by simpa using hb)⟩; have plain : ∀ (d : den t), (∀ ok : Nat → Prop, (∀ b, c.ok b → ok b) → cr w ok t u d) → (rowOf st r cs (fun x m => k (d, x) m)).val = some bf →
           ∃ x m, (k x m).val = some bf ∧ (∀ p ∈ m, ∃ g A, bd st p.1 p.2 g = some A) ∧
             ∀ ok : Nat → Prop, (∀ b, c.ok b → ok b) → (∀ p ∈ m, ∀ b, c.own b = some (.sp p.1 p.2) → ok b) → cZ w ok (.cons t r) (u :: us) x := by
         intro d hd hv; obtain ⟨x, m, h1, h2, h3⟩ := wO h r cs us um _ hv; exact ⟨(d, x), m, h1, h2, fun ok ho hm => ⟨u, us, rfl, hd ok ho, h3 ok ho hm⟩⟩
       cases t with
       | int q =>
         cases y with
         | int l n =>
           simp only [rowOf] at hv
           by_cases e : q = l
           · rw [if_pos e] at hv; exact plain n (fun ok _ => s8.2 (by rw [e]; exact hu)) hv
           · rw [if_neg e] at hv; simp [N.val] at hv
         | _ => simp [rowOf, N.val] at hv
       | bool =>
         cases y with
         | bool b => exact plain b (fun ok _ => rj.2 hu) (by simpa only [rowOf] using hv)
         | _ => simp [rowOf, N.val] at hv
       | str =>
         cases y with
         | str s => exact plain s (fun ok _ => uw.2 hu) (by simpa only [rowOf] using hv)
         | _ => simp [rowOf, N.val] at hv
       | sl q =>
         cases y with
         | ea => exact plain ([] : List (ar q)) (fun ok _ => (oc _ _ _ _ _).2 (.inl ⟨hu, rfl⟩)) (by simpa only [rowOf] using hv)
         | shr r' ys =>
           simp only [rowOf] at hv
           cases hc : cm q ys with
           | none => simp [hc, N.val] at hv
           | some zs =>
             simp only [hc] at hv; obtain ⟨rfl, rfl⟩ := bD hc; exact plain _ (fun ok ho => cr.stays ⟨Nat.le_refl _, fun _ _ _ => rfl, fun b _ hb => ho b hb⟩ _ _ _ hu) hv
         | ref a' j g vw =>
           simp only [rowOf] at hv
           cases hA : bd st a' j g with
           | none => simp [hA, N.val] at hv
           | some A =>
             simp only [hA] at hv; have zh : A.md.Ct = false := by
               cases hm : A.md with
               | ho _ => rw [hm] at hv; simp [N.val] at hv
               | _ => rfl
             have hv : (match cm q A.xs with
                 | some ys => rowOf st r cs (fun x m => k (vw.app ys, x) ((a', j) :: m))
                 | none => .fail).val = some bf := by
               cases hm : A.md with
               | ho _ => rw [hm] at zh; cases zh
               | sh => rw [hm] at hv; exact hv
               | dp => rw [hm] at hv; exact hv
             cases hc : cm q A.xs with
             | none => simp [hc, N.val] at hv
             | some ys =>
               simp only [hc] at hv; obtain ⟨e, he⟩ := bD hc; subst e; simp only at he; subst he; obtain ⟨sl, zP, LN, zQ⟩ := bA hA; have DN := h.aP a' j sl A zP zQ; obtain ⟨x, m, h1, h2, h3⟩ := wO h r cs us um _ hv; refine ⟨(vw.app A.xs, x), (a', j) :: m, h1, fun p hp => ?_, fun ok ho hm => ⟨u, us, rfl, ?_, h3 ok ho (fun p hp => hm p (by simp [hp]))⟩⟩
               · rcases List.mem_cons.1 hp with rfl | hp
                 · exact ⟨g, A, hA⟩
                 · exact h2 p hp
               · exact wL DN (hu.2.2 A hA) ho (fun k _ hk => hm (a', j) (by simp) k hk) zh
         | _ => simp [rowOf, N.val] at hv
end Go.TM
namespace Go.TM
open Go Go.RowKit
theorem vM {cs l m : List CV} {off : Nat} (h : putCells cs off l = some m) : off + l.length ≤ cs.length ∧ m = cs.take off ++ l ++ cs.drop (off + l.length) := by
 unfold putCells at h; obtain ⟨h1, h2⟩ := aI h; exact ⟨Nat.le_of_ble_eq_true h1, (Option.some.inj h2).symm⟩
theorem fo.ck {c : Cz} {st : St} {w : World} {cs l : List CV} {vs us : List Value} (h : fo c st w cs vs) (hl : fo c st w l us) (off : Nat) (hle : off + l.length ≤ cs.length) :
   fo c st w (cs.take off ++ l ++ cs.drop (off + l.length)) (TM.ck vs off us) := by
 have e1 := h.1; have e2 := hl.1; refine ⟨by rw [gK (by omega)]; simp; omega, fun i x v hx hv => ?_⟩; unfold TM.ck at hv; rw [List.getElem?_append, List.getElem?_append] at hx hv; simp only [List.length_append, List.length_take] at hx hv; have a1 : min off cs.length = off := by omega
 have a2 : min off vs.length = off := by omega
 rw [a1] at hx; rw [a2, ← e2] at hv
 by_cases h1 : i < off + l.length
 · rw [if_pos h1] at hx hv
   by_cases h2 : i < off
   · rw [if_pos h2, List.getElem?_take, if_pos h2] at hx hv; exact h.2 i x v hx hv
   · rw [if_neg h2] at hx hv; exact hl.2 _ x v hx hv
 · rw [if_neg h1, List.getElem?_drop] at hx hv; exact h.2 _ x v hx hv
theorem Rel.JN {w0 : World} {mu : Mu} {c : Cz} {st : St} {a : Act} {w : World} (h : Rel w0 mu c st a w) {b : Nat} {s0 : Sl} {cs l : List CV} {vs n5 : Array Value} {ty : TypeId}
   (hs : nth st b = some s0) (hb : s0.box = some cs) (hg : w.heap[c.bx b]? = some (.cells vs ty (0, 0))) (hl : fo c st w l n5.toList) :
   Rel w0 mu c (m6 (fun s => { s with box := some l }) st b) a (w.setRow (c.bx b) n5) := by
 have gG := (h.boxes b s0 cs hs hb).1; have hn : ∀ s, nth (m6 (fun s => { s with box := some l }) st b) s = if s = b then some { s0 with box := some l } else nth st s := by
   intro s; rw [dF]
   by_cases e : s = b
   · subst e; simp [hs]
   · simp [e]
 generalize m6 (fun s => { s with box := some l }) st b = bf at hn ⊢; have rP := tf (w := w) gG n5; have rf : ∀ k, k ≠ c.bx b → (w.setRow (c.bx b) n5).heap[k]? = w.heap[k]? := fun k hk => setRow_other w _ k n5 hk
 have gQ : Fw c st w c bf (w.setRow (c.bx b) n5) := {
   stays := rP
   refs := fun a' j g A' _ ew => by
     have FA : bd st a' j g = some A' := by
       unfold bd at ew ⊢; rw [hn] at ew
       by_cases e : a' = b
       · subst e; simpa [hs] using ew
       · simpa [e] using ew
     refine ⟨A', FA, rfl, rfl, rfl, fun _ => ⟨rfl, fun k o cap hl => rf k ?_⟩⟩; have ha := h.sx FA; unfold cu at ha; rw [hl] at ha; intro e; subst e; obtain ⟨h1, _⟩ := ha; rw [gG] at h1
     cases ho : A'.own <;> simp [ho] at h1
   zg := fun b' g nc _ oG => by
     refine ⟨?_, rfl⟩; unfold dE at oG ⊢; rw [hn] at oG
     by_cases e : b' = b
     · subst e; simp only [if_true] at oG; obtain ⟨h1, _⟩ := aI oG; exact ⟨cs, by simp [hs, h1, hb]⟩
     · simp only [e, if_false] at oG; exact ⟨nc, oG⟩
   gA := fun a' => by
     unfold dv; rw [hn]
     by_cases e : a' = b
     · subst e; simp [hs]
     · simp [e]
   gB := fun a' => by
     unfold gD; rw [hn]
     by_cases e : a' = b
     · subst e; simp [hs]
     · simp [e]
   gE := fun a' => by
     unfold my; rw [hn]
     by_cases e : a' = b
     · subst e; simp [hs]
     · simp [e] }
 exact {
   fp := fun t => by
     have e1 : cz bf t = cz st t := by
       unfold cz; rw [hn]
       by_cases e : t = b
       · subst e; simp [hs]
       · simp [e]
     rw [e1]; exact gQ.m8 (h.fp t)
   boxes := fun s sl nc wP oG => by
     rw [hn] at wP
     by_cases e : s = b
     · subst e; simp only [if_true, Option.some.injEq] at wP; subst wP; simp only [Option.some.injEq] at oG; subst oG; exact ⟨gG, n5, ty, setRow_heap w _ vs n5 ty (0, 0) hg, gQ.L4 hl⟩
     · simp only [e, if_false] at wP; have h0 := h.boxes s sl nc wP oG; refine h0.go gQ rfl rfl (rf _ ?_); intro e'; have := h0.1; rw [e', gG] at this; injection this with this; injection this with this; exact e this.symm
   aP := fun s j sl A wP ew => by
     rw [hn] at wP; have ha : cu c w s j A := by
       by_cases e : s = b
       · subst e; simp only [if_true, Option.some.injEq] at wP; subst wP; exact h.aP s j s0 A hs ew
       · simp only [e, if_false] at wP; exact h.aP s j sl A wP ew
     refine ha.go rP rfl (fun k h1 => ⟨rf k ?_, rfl⟩); intro e; subst e; rw [gG] at h1
     cases h1
   owned := fun k l hk => by
     have := h.owned k l hk; exact ⟨by simpa [World.setRow] using this.1, this.2⟩
   free := h.free
   kept := ⟨h.kept.1, h.kept.2.1, h.kept.2.2.1, by simpa [World.setRow] using h.kept.2.2.2⟩
   old := fun k hk hm => by
     rw [rf k (fun e => by
       have := (h.owned _ _ gG).2; rcases this with this | this | this
       · cases this
       · subst e; omega
       · subst e; exact hm this)]
     exact h.old k hk hm
   ed := fun p hp => gQ.ed (h.ed p hp)
   plain := h.plain }
theorem Rel.BI {w0 : World} {mu : Mu} {c : Cz} {st : St} {a : Act} {w : World} (h : Rel w0 mu c st a w) {s j : Nat} {s0 : Sl} {A : ig} {b off cap : Nat} {cur n5 : Array Value} {ty : TypeId}
   {md' : Md} {ys : List (ar A.r)} (hs : nth st s = some s0) (hA : nth s0.aP j = some (some A)) (gG : A.own = true) (iA : c.lc s j = .at b off cap)
   (hg : w.heap[b]? = some (.cells cur ty (0, 0))) (mj : n5.size = cur.size) (hlen : ys.length = A.xs.length)
   (fF : cg c (w.setRow b n5) (.sp s j) { A with xs := ys, md := md' } b off) :
   Rel w0 mu c (bP st s j (some { A with xs := ys, md := md' })) a (w.setRow b n5) := by
 have h0 := h.aP s j s0 A hs hA; unfold cu at h0; rw [iA] at h0; obtain ⟨h1, h2, ⟨SH, ty0, h3, h4⟩, h5⟩ := h0; rw [gG] at h1; have XZ : SH = cur := by rw [hg] at h3; injection h3 with h3; injection h3 with h3; exact h3.symm
 subst XZ; have hn : ∀ k, nth (bP st s j (some { A with xs := ys, md := md' })) k = if k = s then some { s0 with aP := m6 (fun _ => some { A with xs := ys, md := md' }) s0.aP j, ep := s0.ep + 1 } else nth st k := by
   intro k; unfold bP; rw [dF]
   by_cases e : k = s
   · subst e; simp [hs]
   · simp [e]
 generalize bP st s j (some { A with xs := ys, md := md' }) = bf at hn ⊢; have rP := tf (w := w) h1 n5; have rf : ∀ k, k ≠ b → (w.setRow b n5).heap[k]? = w.heap[k]? := fun k hk => setRow_other w _ k n5 hk
 have gQ : Fw c st w c bf (w.setRow b n5) := {
   stays := rP
   refs := fun a' j' g A' _ ew => by
     obtain ⟨sl, k1, k2, k3⟩ := bA ew; rw [hn] at k1
     by_cases e : a' = s
     · subst e; simp only [if_true, Option.some.injEq] at k1; subst k1; simp only at k2 k3; rw [dF] at k3
       by_cases e2 : j' = j
       · subst e2; rw [if_pos rfl, hA] at k3; simp only [Option.map_some, Option.some.injEq] at k3; subst k3; refine ⟨A, ?_, rfl, hlen, rfl, fun he => ?_⟩
         · unfold bd; rw [hs]; have : Nat.beq s0.ag g = true := by rw [k2]; exact Nat.beq_refl g
           simp [this, hA]
         · unfold my at he; rw [hn, if_pos rfl, hs] at he; simp at he
       · rw [if_neg e2] at k3; refine ⟨A', ?_, rfl, rfl, rfl, fun he => ?_⟩
         · unfold bd; rw [hs]; have : Nat.beq s0.ag g = true := by rw [k2]; exact Nat.beq_refl g
           simp [this, k3]
         · unfold my at he; rw [hn, if_pos rfl, hs] at he; simp at he
     · rw [if_neg e] at k1; have FA : bd st a' j' g = some A' := by
         unfold bd; rw [k1]; have : Nat.beq sl.ag g = true := by rw [k2]; exact Nat.beq_refl g
         simp [this, k3]
       refine ⟨A', FA, rfl, rfl, rfl, fun _ => ⟨rfl, fun k o Fv hl => rf k ?_⟩⟩; have ha := h.sx FA; unfold cu at ha; rw [hl] at ha
       rintro rfl
       obtain ⟨g1, _⟩ := ha; rw [h1] at g1
       cases ho : A'.own with
       | true => simp [ho] at g1; exact e g1.1.symm
       | false => simp [ho] at g1
   zg := fun b' g nc _ oG => by
     refine ⟨⟨nc, ?_⟩, rfl⟩; unfold dE at oG ⊢; rw [hn] at oG
     by_cases e : b' = s
     · subst e; simpa [hs] using oG
     · simpa [e] using oG
   gA := fun a' => by
     unfold dv; rw [hn]
     by_cases e : a' = s
     · subst e; simp [hs]
     · simp [e]
   gB := fun a' => by
     unfold gD; rw [hn]
     by_cases e : a' = s
     · subst e; simp [hs]
     · simp [e]
   gE := fun a' => by
     unfold my; rw [hn]
     by_cases e : a' = s
     · subst e; simp [hs]
     · simp [e] }
 exact {
   fp := fun t => by
     have e1 : cz bf t = cz st t := by
       unfold cz; rw [hn]
       by_cases e : t = s
       · subst e; simp [hs]
       · simp [e]
     rw [e1]; exact gQ.m8 (h.fp t)
   boxes := fun k sl nc wP oG => by
     rw [hn] at wP; have zj : uA c st w k nc := by
       by_cases e : k = s
       · subst e; simp only [if_true, Option.some.injEq] at wP; subst wP; exact h.boxes k s0 nc hs oG
       · simp only [e, if_false] at wP; exact h.boxes k sl nc wP oG
     refine zj.go gQ rfl rfl (rf _ ?_); intro e; have := zj.1; rw [e, h1] at this; simp at this
   aP := fun k i sl B wP hB => by
     rw [hn] at wP
     by_cases e : k = s ∧ i = j
     · obtain ⟨rfl, rfl⟩ := e; simp only [if_true, Option.some.injEq] at wP; subst wP; simp only at hB; rw [dF, if_pos rfl, hA] at hB; simp only [Option.map_some, Option.some.injEq] at hB; subst hB; unfold cu; rw [iA]; refine ⟨by rw [gG]; exact h1, by simp only; rw [hlen]; exact h2, ⟨n5, ty, setRow_heap w b SH n5 ty (0, 0) hg, by simp only; rw [mj]; exact h4⟩, fF⟩
     · have ha : cu c w k i B := by
         by_cases e2 : k = s
         · subst e2; simp only [if_true, Option.some.injEq] at wP; subst wP; simp only at hB; rw [dF, if_neg (fun e3 => e ⟨rfl, e3⟩)] at hB; exact h.aP k i s0 B hs hB
         · rw [if_neg e2] at wP; exact h.aP k i sl B wP hB
       refine ha.go rP rfl (fun k' g1 => ⟨rf k' ?_, rfl⟩)
       rintro rfl
       rw [h1] at g1; simp at g1; exact e ⟨g1.1.symm, g1.2.symm⟩
   owned := fun k l hk => by
     have := h.owned k l hk; exact ⟨by simpa [World.setRow] using this.1, this.2⟩
   free := h.free
   kept := ⟨h.kept.1, h.kept.2.1, h.kept.2.2.1, by simpa [World.setRow] using h.kept.2.2.2⟩
   old := fun k hk hm => by
     rw [rf k (fun e => by
       have := (h.owned _ _ h1).2; rcases this with this | this | this
       · cases this
       · subst e; omega
       · subst e; exact hm this)]
     exact h.old k hk hm
   ed := fun p hp => gQ.ed (h.ed p hp)
   plain := h.plain }
theorem Rel.wQ {w0 : World} {mu : Mu} {c : Cz} {st : St} {a : Act} {w : World} (h : Rel w0 mu c st a w) {s j : Nat} {s0 : Sl} {A : ig} {b off cap : Nat} {cur n5 : Array Value} {ty : TypeId}
   {ys : List (ar A.r)} (hs : nth st s = some s0) (hA : nth s0.aP j = some (some A)) (gG : A.own = true) (iA : c.lc s j = .at b off cap)
   (hg : w.heap[b]? = some (.cells cur ty (0, 0))) (mj : n5.size = cur.size) (hlen : ys.length = A.xs.length)
   (fF : cg c (w.setRow b n5) (.sp s j) { A with xs := ys } b off) :
   Rel w0 mu c (bP st s j (some { A with xs := ys })) a (w.setRow b n5) := h.BI hs hA gG iA hg mj hlen fF
end Go.TM
namespace Go.TM
open Go Go.RowKit
theorem wR : (r : RT) → (x : ar r) → (k : Nat) → (y : CV) → {z : ar r} → gj r x k y = some z → k < r.width
 | .nil, _, _, _, _, h => by simp [gj] at h
 | .cons t r, x, 0, y, z, _ => by simp [RT.width]
 | .cons t r, x, k + 1, y, z, h => by
   have h' : (gj r x.2 k y).map (fun z => ((x.1, z) : ar (.cons t r))) = some z := by cases t <;> (simp only [gj] at h; exact h)
   cases hq : gj r x.2 k y with
   | none => rw [hq] at h'; cases h'
   | some z' => have := wR r x.2 k y hq; simp [RT.width]; omega
theorem tg (r : RT) (x : ar r) : (off : Nat) → (cs : List CV) → {z : ar r} → kC r x off cs = some z → cs ≠ [] → off + cs.length ≤ r.width
 | _, [], _, _, h => absurd rfl h
 | off, y :: l, z, h, _ => by
   simp only [kC] at h
   cases hq : kC r x (off + 1) l with
   | none => simp [hq] at h
   | some y' =>
     simp only [hq] at h; have h1 := wR r y' off y h
     cases l with
     | nil => simp; omega
     | cons y2 l2 => have := tg r x (off + 1) (y2 :: l2) hq (by simp); simp at this ⊢; omega
theorem kE {vs us : List Value} {off k : Nat} (hle : off + us.length ≤ vs.length) : (ck vs off us)[k]? = if off ≤ k ∧ k < off + us.length then us[k - off]? else vs[k]? := by
 unfold ck; simp only [List.getElem?_append, List.length_append, List.length_take, List.getElem?_take, List.getElem?_drop]; have a1 : min off vs.length = off := by omega
 rw [a1]
 by_cases h1 : k < off
 · rw [if_pos (by omega), if_pos h1, if_pos h1, if_neg (by omega)]
 · by_cases h2 : k < off + us.length
   · rw [if_pos h2, if_neg h1, if_pos ⟨by omega, h2⟩]
   · rw [if_neg h2, if_neg (by omega)]
     congr 1
     omega
theorem zW : (m : List (Nat × Nat)) → {st : St} → {a j : Nat} → {sl : Sl} → {A : ig} → nth st a = some sl → nth sl.aP j = some (some A) → (a, j) ∉ m →
   ∃ Ng, nth (freeze st m) a = some Ng ∧ nth Ng.aP j = some (some A)
 | [], _, _, _, sl, _, h1, h2, _ => ⟨sl, h1, h2⟩
 | (b, i) :: m, st, a, j, sl, A, h1, h2, hm => by
   rw [DO]; obtain ⟨f, hf, hn⟩ := iB st b i a; refine zW m (sl := f sl) (A := A) (by rw [hn, h1]; rfl) ?_ (fun h => hm (by simp [h])); rw [(hf sl).2.2.2.2.1 j, if_neg]
   · exact h2
   · rintro ⟨rfl, rfl⟩; exact hm (by simp)
theorem wS {c : Cz} {w : World} {b off : Nat} {r : RT} {xs : List (ar r)} {cur : Array Value} {ty : TypeId} {l : Lb} (gG : c.own b = some l)
   (hg : w.heap[b]? = some (.cells cur ty (0, 0))) (fF : ∀ (i : Nat) x, xs[i]? = some x → dt w c.ok r b (off + i * r.width) x)
   {i k : Nat} {x y : ar r} {us : List Value} (hx : xs[i]? = some x) (hle : k + us.length ≤ r.width) (mj : off + i * r.width + r.width ≤ cur.size)
   (hy : ∀ vs, cZ w c.ok r vs x → cZ w c.ok r (ck vs k us) y) :
   ∀ (i' : Nat) x', (xs.set i y)[i']? = some x' → dt (w.setRow b (ck cur.toList (off + i * r.width + k) us).toArray) c.ok r b (off + i' * r.width) x' := by
 have rP := tf (w := w) gG (ck cur.toList (off + i * r.width + k) us).toArray; have L6 := setRow_heap w b cur (ck cur.toList (off + i * r.width + k) us).toArray ty (0, 0) hg; have sy : ∀ q, (w.setRow b (ck cur.toList (off + i * r.width + k) us).toArray).cell? ⟨b, q, none⟩ =
     if off + i * r.width + k ≤ q ∧ q < off + i * r.width + k + us.length then us[q - (off + i * r.width + k)]? else w.cell? ⟨b, q, none⟩ := by
   intro q; rw [cell_of_row _ b q _ ty (0, 0) L6, cell_of_row w b q cur ty (0, 0) hg]; simp only [List.getElem?_toArray]; rw [kE (by simp; omega)]; simp
 intro i' x' vn; rw [List.getElem?_set] at vn
 by_cases e : i = i'
 · subst e; rw [if_pos rfl] at vn; have hi : i < xs.length := (List.getElem?_eq_some_iff.1 hx).1; rw [if_pos hi] at vn; obtain rfl := Option.some.inj vn; obtain ⟨vs, h1, h2⟩ := (nh r b _ x).1 (fF i x hx); have wG := cZ.length r vs x h2; refine (nh r b _ y).2 ⟨ck vs k us, fun q v hv => ?_, cZ.stays rP r _ y (hy vs h2)⟩; rw [kE (by omega)] at hv; rw [sy]
   by_cases hq : k ≤ q ∧ q < k + us.length
   · rw [if_pos hq] at hv; rw [if_pos (by omega), show off + i * r.width + q - (off + i * r.width + k) = q - k by omega]; exact hv
   · rw [if_neg hq] at hv; rw [if_neg (by omega)]; exact h1 q v hv
 · rw [if_neg e] at vn; obtain ⟨vs, h1, h2⟩ := (nh r b _ x').1 (fF i' x' vn); have wG := cZ.length r vs x' h2; refine (nh r b _ x').2 ⟨vs, fun q v hv => ?_, cZ.stays rP r _ x' h2⟩; have hq : q < r.width := by rw [← wG]; exact (List.getElem?_eq_some_iff.1 hv).1
   rw [sy, if_neg]
   · exact h1 q v hv
   · rintro ⟨g1, g2⟩
     rcases Nat.lt_or_gt_of_ne e with h | h
     · have : (i + 1) * r.width ≤ i' * r.width := Nat.mul_le_mul_right _ h; rw [Nat.add_mul] at this; omega
     · have : (i' + 1) * r.width ≤ i * r.width := Nat.mul_le_mul_right _ h; rw [Nat.add_mul] at this; omega
theorem vN {w : World} {b off : Nat} {r : RT} {xs : List (ar r)} {cur : Array Value} {ty : TypeId}
   (hg : w.heap[b]? = some (.cells cur ty (0, 0))) {Q : Nat → List Value → ar r → Prop} (fF : ∀ (i : Nat) x, xs[i]? = some x → ∃ vs, w.rangeAt b (off + i * r.width) vs ∧ vs.length = r.width ∧ Q i vs x)
   {i k : Nat} {x y : ar r} {us : List Value} (hx : xs[i]? = some x) (hle : k + us.length ≤ r.width) (mj : off + i * r.width + r.width ≤ cur.size)
   (hy : ∀ vs, vs.length = r.width → Q i vs x → Q i (ck vs k us) y) :
   ∀ (i' : Nat) x', (xs.set i y)[i']? = some x' → ∃ vs, (w.setRow b (ck cur.toList (off + i * r.width + k) us).toArray).rangeAt b (off + i' * r.width) vs ∧ Q i' vs x' := by
 have L6 := setRow_heap w b cur (ck cur.toList (off + i * r.width + k) us).toArray ty (0, 0) hg; have sy : ∀ q, (w.setRow b (ck cur.toList (off + i * r.width + k) us).toArray).cell? ⟨b, q, none⟩ =
     if off + i * r.width + k ≤ q ∧ q < off + i * r.width + k + us.length then us[q - (off + i * r.width + k)]? else w.cell? ⟨b, q, none⟩ := by
   intro q; rw [cell_of_row _ b q _ ty (0, 0) L6, cell_of_row w b q cur ty (0, 0) hg]; simp only [List.getElem?_toArray]; rw [kE (by simp; omega)]; simp
 intro i' x' vn; rw [List.getElem?_set] at vn
 by_cases e : i = i'
 · subst e; rw [if_pos rfl] at vn; have hi : i < xs.length := (List.getElem?_eq_some_iff.1 hx).1; rw [if_pos hi] at vn; obtain rfl := Option.some.inj vn; obtain ⟨vs, h1, wG, h2⟩ := fF i x hx; refine ⟨ck vs k us, fun q v hv => ?_, hy vs wG h2⟩; rw [kE (by omega)] at hv; rw [sy]
   by_cases hq : k ≤ q ∧ q < k + us.length
   · rw [if_pos hq] at hv; rw [if_pos (by omega), show off + i * r.width + q - (off + i * r.width + k) = q - k by omega]; exact hv
   · rw [if_neg hq] at hv; rw [if_neg (by omega)]; exact h1 q v hv
 · rw [if_neg e] at vn; obtain ⟨vs, h1, wG, h2⟩ := fF i' x' vn; refine ⟨vs, fun q v hv => ?_, h2⟩; have hq : q < r.width := by rw [← wG]; exact (List.getElem?_eq_some_iff.1 hv).1
   rw [sy, if_neg]
   · exact h1 q v hv
   · rintro ⟨g1, g2⟩
     rcases Nat.lt_or_gt_of_ne e with h | h
     · have : (i + 1) * r.width ≤ i' * r.width := Nat.mul_le_mul_right _ h; rw [Nat.add_mul] at this; omega
     · have : (i' + 1) * r.width ≤ i * r.width := Nat.mul_le_mul_right _ h; rw [Nat.add_mul] at this; omega
theorem Bj {w : World} {b off : Nat} {r : RT} {xs : List (ar r)} {cur : Array Value} {ty : TypeId}
   (hg : w.heap[b]? = some (.cells cur ty (0, 0))) {Q : Nat → List Value → ar r → Prop} {i : Nat} (fF : ∀ (i' : Nat) x, i' ≠ i → xs[i']? = some x → ∃ vs, w.rangeAt b (off + i' * r.width) vs ∧ vs.length = r.width ∧ Q i' vs x)
   {x y : ar r} {us : List Value} (hx : xs[i]? = some x) (hle : us.length = r.width) (mj : off + i * r.width + r.width ≤ cur.size) (hy : Q i us y) :
   ∀ (i' : Nat) x', (xs.set i y)[i']? = some x' → ∃ vs, (w.setRow b (ck cur.toList (off + i * r.width + 0) us).toArray).rangeAt b (off + i' * r.width) vs ∧ Q i' vs x' := by
 have L6 := setRow_heap w b cur (ck cur.toList (off + i * r.width + 0) us).toArray ty (0, 0) hg; have sy : ∀ q, (w.setRow b (ck cur.toList (off + i * r.width + 0) us).toArray).cell? ⟨b, q, none⟩ =
     if off + i * r.width ≤ q ∧ q < off + i * r.width + us.length then us[q - (off + i * r.width)]? else w.cell? ⟨b, q, none⟩ := by
   intro q; rw [cell_of_row _ b q _ ty (0, 0) L6, cell_of_row w b q cur ty (0, 0) hg]; simp only [List.getElem?_toArray]; rw [kE (by simp; omega)]; simp
 intro i' x' vn; rw [List.getElem?_set] at vn
 by_cases e : i = i'
 · subst e; rw [if_pos rfl] at vn; have hi : i < xs.length := (List.getElem?_eq_some_iff.1 hx).1; rw [if_pos hi] at vn; obtain rfl := Option.some.inj vn; refine ⟨us, fun q v hv => ?_, hy⟩; have hq : q < us.length := (List.getElem?_eq_some_iff.1 hv).1; rw [sy, if_pos (by omega), show off + i * r.width + q - (off + i * r.width) = q by omega]; exact hv
 · rw [if_neg e] at vn; obtain ⟨vs, h1, wG, h2⟩ := fF i' x' (fun h => e h.symm) vn; refine ⟨vs, fun q v hv => ?_, h2⟩; have hq : q < r.width := by rw [← wG]; exact (List.getElem?_eq_some_iff.1 hv).1
   rw [sy, if_neg]
   · exact h1 q v hv
   · rintro ⟨g1, g2⟩
     rcases Nat.lt_or_gt_of_ne e with h | h
     · have : (i + 1) * r.width ≤ i' * r.width := Nat.mul_le_mul_right _ h; rw [Nat.add_mul] at this; omega
     · have : (i' + 1) * r.width ≤ i * r.width := Nat.mul_le_mul_right _ h; rw [Nat.add_mul] at this; omega
end Go.TM
namespace Go.TM
open Go Go.RowKit
def Rz (w : World) (ok : Nat → Prop) (r : RT) (u : Value) (ys : List (ar r)) : Prop :=
 (u = .slice none 0 0 ∧ ys = []) ∨ ∃ a cap, u = .slice (some a) ys.length cap ∧ (ys ≠ [] → a.spot = none) ∧ ∀ (i : Nat) y, ys[i]? = some y → dt w ok r a.block (a.off + i * r.width) y
def bt (w : World) (ok : Nat → Prop) (r : RT) : List Value → List (ar r) → Prop
 | vs, [] => vs = []
 | vs, x :: xs => ∃ l1 l2, vs = l1 ++ l2 ∧ cZ w ok r l1 x ∧ bt w ok r l2 xs
theorem bt.length {w : World} {ok : Nat → Prop} {r : RT} : (vs : List Value) → (xs : List (ar r)) → bt w ok r vs xs → vs.length = xs.length * r.width
 | vs, [], h => by simp only [bt] at h; subst h; simp
 | vs, x :: xs, h => by
   obtain ⟨l1, l2, rfl, h1, h2⟩ := h; have a1 := cZ.length r l1 x h1; have a2 := bt.length l2 xs h2; simp [a1, a2, Nat.add_mul]; omega
theorem bt.stays {w w' : World} {ok wJ : Nat → Prop} (h : iU w w' ok wJ) {r : RT} : (vs : List Value) → (xs : List (ar r)) → bt w ok r vs xs → bt w' wJ r vs xs
 | _, [], hr => hr
 | _, x :: xs, ⟨l1, l2, e, h1, h2⟩ => ⟨l1, l2, e, cZ.stays h r l1 x h1, bt.stays h l2 xs h2⟩
theorem bt.append {w : World} {ok : Nat → Prop} {r : RT} : (vs us : List Value) → (xs ys : List (ar r)) → bt w ok r vs xs → bt w ok r us ys → bt w ok r (vs ++ us) (xs ++ ys)
 | vs, us, [], ys, h, k => by simp only [bt] at h; subst h; simpa using k
 | vs, us, x :: xs, ys, ⟨l1, l2, e, h1, h2⟩, k => ⟨l1, l2 ++ us, by rw [e, List.append_assoc], h1, bt.append l2 us xs ys h2 k⟩
theorem bt.one {w : World} {ok : Nat → Prop} {r : RT} {vs : List Value} {x : ar r} (h : cZ w ok r vs x) : bt w ok r vs [x] := ⟨vs, [], by simp, h, rfl⟩
theorem mN {w : World} {ok : Nat → Prop} {r : RT} (b : Nat) : (off : Nat) → (xs : List (ar r)) → (∀ (i : Nat) x, xs[i]? = some x → dt w ok r b (off + i * r.width) x) →
   ∃ vs, w.rangeAt b off vs ∧ bt w ok r vs xs
 | _, [], _ => ⟨[], fun j v h => by simp at h, rfl⟩
 | off, x :: xs, h => by
   obtain ⟨l1, h1, h2⟩ := (nh r b off x).1 (by have := h 0 x rfl; simpa using this); obtain ⟨l2, h3, h4⟩ := mN b (off + r.width) xs (fun i y hy => by
     have := h (i + 1) y (by simpa using hy); rw [Nat.add_mul, Nat.one_mul] at this; rw [show off + r.width + i * r.width = off + (i * r.width + r.width) by omega]; exact this)
   have hl := cZ.length r l1 x h2; refine ⟨l1 ++ l2, fun j v hv => ?_, l1, l2, rfl, h2, h4⟩; rw [List.getElem?_append] at hv
   by_cases hj : j < l1.length
   · rw [if_pos hj] at hv; exact h1 j v hv
   · rw [if_neg hj] at hv; have := h3 _ v hv; rw [show off + r.width + (j - l1.length) = off + j by omega] at this; exact this
theorem rp {w : World} {ok : Nat → Prop} {r : RT} {b : Nat} : (off : Nat) → (vs : List Value) → (xs : List (ar r)) → bt w ok r vs xs → w.rangeAt b off vs →
   ∀ (i : Nat) x, xs[i]? = some x → dt w ok r b (off + i * r.width) x
 | _, _, [], _, _, i, x, h => by simp at h
 | off, vs, y :: xs, ⟨l1, l2, e, h1, h2⟩, hr, i, x, h => by
   subst e; have hl := cZ.length r l1 y h1
   cases i with
   | zero =>
     simp at h; subst h; rw [nh]; refine ⟨l1, fun j v hv => ?_, h1⟩; have hj : j < l1.length := (List.getElem?_eq_some_iff.1 hv).1; have := hr j v (by rw [List.getElem?_append, if_pos hj]; exact hv); simpa using this
   | succ i =>
     have := rp (off + r.width) l2 xs h2 (fun j v hv => by
       have := hr (l1.length + j) v (by rw [List.getElem?_append, if_neg (by omega)]; simpa using hv); rw [show off + r.width + j = off + (l1.length + j) by omega]; exact this) i x (by simpa using h)
     rw [Nat.add_mul, Nat.one_mul]; rw [show off + (i * r.width + r.width) = off + r.width + i * r.width by omega]; exact this
theorem cr.one {w : World} {ok : Nat → Prop} {t : Ty} {v : Value} {x : den t} (h : cr w ok t v x) : v.oneCell' = true := by
 cases t with
 | int k => rw [s8.1 h]; rfl
 | bool => rw [rj.1 h]; rfl
 | str => rw [uw.1 h]; rfl
 | sl r =>
   rcases (oc w ok r v x).1 h with ⟨rfl, _⟩ | ⟨a, cap, rfl, _⟩ <;> rfl
theorem cZ.one {w : World} {ok : Nat → Prop} : (r : RT) → (vs : List Value) → (x : ar r) → cZ w ok r vs x → ∀ v ∈ vs, v.oneCell' = true
 | .nil, vs, _, h, v, hv => by simp only [cZ] at h; subst h; simp at hv
 | .cons t r, vs, x, ⟨u, l, e, hx, hr⟩, v, hv => by
   subst e; rcases List.mem_cons.1 hv with rfl | hv
   · exact hx.one
   · exact cZ.one r l x.2 hr v hv
theorem bt.jc {w : World} {ok : Nat → Prop} {r : RT} : (vs : List Value) → (xs : List (ar r)) → bt w ok r vs xs → ∀ v ∈ vs, v.oneCell' = true
 | vs, [], h, v, hv => by simp only [bt] at h; subst h; simp at hv
 | vs, x :: xs, ⟨l1, l2, e, h1, h2⟩, v, hv => by
   subst e; rcases List.mem_append.1 hv with hv | hv
   · exact cZ.one r l1 x h1 v hv
   · exact bt.jc l2 xs h2 v hv
theorem yE {w0 : World} {mu : Mu} {c : Cz} {st : St} {a : Act} {w : World} (h : Rel w0 mu c st a w) {r : RT} {x : CV} {u : Value} (hx : jG c st w x u)
   {k : List (ar r) → N} {bf : St} (hv : (lT st r x k).val = some bf) : ∃ ys, (k ys).val = some bf ∧ Rz w c.ok r u ys := by
 cases x with
 | shr r' xs =>
   simp only [lT] at hv
   cases hc : cm r xs with
   | none => simp [hc, N.val] at hv
   | some ys =>
     simp only [hc] at hv; obtain ⟨rfl, rfl⟩ := bD hc; refine ⟨_, hv, ?_⟩; rcases (oc _ _ _ _ _).1 hx with h1 | ⟨a', cap, h1, h2, h3, h4⟩
     · exact .inl h1
     · exact .inr ⟨a', cap, h1, fun ik => (h3 ik).1, h4⟩
 | nn r' xs =>
   simp only [lT] at hv
   cases hc : cm r xs with
   | none => simp [hc, N.val] at hv
   | some ys =>
     simp only [hc] at hv; obtain ⟨rfl, rfl⟩ := bD hc; refine ⟨_, hv, ?_⟩; rcases (oc _ _ _ _ _).1 hx.1 with h1 | ⟨a', cap, h1, h2, h3, h4⟩
     · exact .inl h1
     · exact .inr ⟨a', cap, h1, fun ik => (h3 ik).1, h4⟩
 | ea => exact ⟨[], by simpa only [lT] using hv, .inl ⟨hx, rfl⟩⟩
 | ref a' j g vw =>
   simp only [lT] at hv
   cases hA : bd st a' j g with
   | none => simp [hA, N.val] at hv
   | some A =>
     simp only [hA] at hv; have zh : A.md = .sh := by
       cases hm : A.md with
       | sh => rfl
       | dp => rw [hm] at hv; simp [N.val] at hv
       | ho _ => rw [hm] at hv; simp [N.val] at hv
     rw [zh] at hv; simp only at hv
     cases hc : cm r A.xs with
     | none => simp [hc, N.val] at hv
     | some ys =>
       simp only [hc] at hv; obtain ⟨e, he⟩ := bD hc; subst e; simp only at he; subst he; obtain ⟨sl, zP, LN, zQ⟩ := bA hA; have DN := h.aP a' j sl A zP zQ; refine ⟨vw.app A.xs, hv, ?_⟩; clear hv; have hs := hx.2.2 A hA
       cases hl : c.lc a' j with
       | nil =>
         unfold jx at hs; rw [hl] at hs; exact .inl ⟨hs.1, List.length_eq_zero_iff.1 hs.2⟩
       | «at» b off cap =>
         unfold jx at hs; rw [hl] at hs; obtain ⟨ad, k', rfl, hk, wM, ha⟩ := hs; unfold cu at DN; rw [hl] at DN; obtain ⟨_, _, _, h5⟩ := DN; have ik : vw.app A.xs ≠ [] → k' ≠ 0 := by
           intro ik; have := List.length_pos_iff.2 ik; omega
         refine .inr ⟨ad, k', rfl, fun h => by rw [ha (ik h)], fun i y hy => ?_⟩; have XY : k' ≠ 0 := ik (by intro e; rw [e] at hy; simp at hy); rw [ha XY]; have := (cg.sh zh).1 h5 _ y (View.vo vw A.xs hy); have e : off + vw.lo * A.r.width + i * A.r.width = off + (vw.lo + i) * A.r.width := by rw [Nat.add_mul]; omega
         show dt w c.ok A.r b (off + vw.lo * A.r.width + i * A.r.width) y; rw [e]; exact this
 | _ => simp [lT, N.val] at hv
theorem Rel.place {w0 : World} {mu : Mu} {c c' : Cz} {st : St} {a : Act} {w w' : World} (h : Rel w0 mu c st a w) {d B : Nat} {s0 : Sl} {A : ig} {v : Value}
   (jy : nth st d = some s0) (hd : d < a.tmps.size)
   (zj : c'.bx = c.bx) (iA : ∀ s j, ¬ (s = d ∧ j = 0) → c'.lc s j = c.lc s j) (gG : ∀ k, k ≠ B → c'.own k = c.own k)
   (SI : c'.own B = some (.sp d 0) ∨ (c'.own B = c.own B ∧ w'.heap[B]? = w.heap[B]?))
   (hB : w.heap.size ≤ B ∨ ∃ s j, c.own B = some (.sp s j) ∧ (s = d ∨ ∀ sl A, nth st s = some sl → nth sl.aP j ≠ some (some A)))
   (hBn : c'.own B = some (.sp d 0) → B < w'.heap.size)
   (hw : ∀ k, k < w.heap.size → k ≠ B → w'.heap[k]? = w.heap[k]?) (rQ : w'.os = w.os ∧ w'.tape = w.tape ∧ w'.output = w.output ∧ w.heap.size ≤ w'.heap.size)
   (hA : cu c' w' d 0 A) (wH : v.oneCell' = true) (hv : jx (c'.lc d 0) A.r.width 0 A.xs.length v) :
   Rel w0 mu c' (m6 (fun s => { s with v := .one (.ref d 0 (s0.ag + 1) .full), aP := [some A], ag := s0.ag + 1 }) st d) (a.put (some d) v) w' := by
 have hn : ∀ s, nth (m6 (fun s => { s with v := .one (.ref d 0 (s0.ag + 1) .full), aP := [some A], ag := s0.ag + 1 }) st d) s =
     if s = d then some { s0 with v := .one (.ref d 0 (s0.ag + 1) .full), aP := [some A], ag := s0.ag + 1 } else nth st s := by
   intro s; rw [dF]
   by_cases e : s = d
   · subst e; simp [jy]
   · simp [e]
 generalize m6 (fun s => { s with v := .one (.ref d 0 (s0.ag + 1) .full), aP := [some A], ag := s0.ag + 1 }) st d = bf at hn ⊢; have NU : ∀ k, k < w.heap.size → c.ok k → k ≠ B := by
   rintro k hk gJ rfl
   rcases hB with hB | ⟨s, j, hB, _⟩
   · omega
   · unfold Cz.ok at gJ; rw [hB] at gJ; cases gJ
 have rP : iU w w' c.ok c'.ok := ⟨rQ.2.2.2, fun k hk gJ => hw k hk (NU k hk gJ), fun k hk gJ => by unfold Cz.ok; rw [gG k (NU k hk gJ)]; exact gJ⟩; have gQ : Fw c st w c' bf w' := {
   stays := rP
   refs := fun a' j g A' hg ew => by
     by_cases e : a' = d
     · subst e; obtain ⟨sl, k1, k2, k3⟩ := bA ew; rw [hn, if_pos rfl] at k1; obtain rfl := Option.some.inj k1; simp only at k2; unfold dv at hg; rw [jy] at hg; simp only at hg; omega
     · have FA : bd st a' j g = some A' := by
         unfold bd at ew ⊢; rw [hn, if_neg e] at ew; exact ew
       refine ⟨A', FA, rfl, rfl, iA a' j (fun h => e h.1), fun _ => ⟨rfl, fun k off cap hl => ?_⟩⟩; have ha := h.sx FA; have dC := ha.lt hl; unfold cu at ha; rw [hl] at ha; obtain ⟨g1, _⟩ := ha; refine hw k dC ?_
       rintro rfl
       rcases hB with hB | ⟨s', j', hB, Bk⟩
       · omega
       · rw [hB] at g1
         cases ho : A'.own with
         | true =>
           simp [ho] at g1; obtain ⟨rfl, rfl⟩ := g1; obtain ⟨sl, q1, _, q3⟩ := bA FA; rcases Bk with Bk | Bk
           · exact e Bk
           · exact Bk sl A' q1 q3
         | false => simp [ho] at g1
   zg := fun b' g nc _ oG => by
     refine ⟨⟨nc, ?_⟩, by rw [zj]⟩; unfold dE at oG ⊢; rw [hn] at oG
     by_cases e : b' = d
     · subst e; simpa [jy] using oG
     · simpa [e] using oG
   gA := fun a' => by
     unfold dv; rw [hn]
     by_cases e : a' = d
     · subst e; simp [jy]
     · simp [e]
   gB := fun a' => by
     unfold gD; rw [hn]
     by_cases e : a' = d
     · subst e; simp [jy]
     · simp [e]
   gE := fun a' => by
     unfold my; rw [hn]
     by_cases e : a' = d
     · subst e; simp [jy]
     · simp [e] }
 exact {
   fp := fun t => by
     have e1 : cz bf t = if t = d then .one (.ref d 0 (s0.ag + 1) .full) else cz st t := by
       unfold cz; rw [hn]
       by_cases e : t = d <;> simp [e]
     rw [e1, eval_put]
     by_cases e : t = d
     · subst e; simp only [if_true, true_and, hd]; refine ⟨wH, ?_, fun A' ew => ?_⟩
       · unfold dv; rw [hn]; simp
       · obtain ⟨sl, k1, k2, k3⟩ := bA ew; rw [hn, if_pos rfl] at k1; obtain rfl := Option.some.inj k1; simp [nth] at k3; subst k3; exact hv
     · simp only [e, if_false]; rw [if_neg (fun h => e (Option.some.inj h.1).symm)]; exact gQ.m8 (h.fp t)
   boxes := fun s sl nc hs hb => by
     rw [hn] at hs; have NV : uA c st w s nc := by
       by_cases e : s = d
       · subst e; rw [if_pos rfl] at hs; obtain rfl := Option.some.inj hs; exact h.boxes s s0 nc jy hb
       · rw [if_neg e] at hs; exact h.boxes s sl nc hs hb
     have dC := h.oF NV.1; have ik : c.bx s ≠ B := by
       intro e; rcases hB with hB | ⟨s', j, hB, _⟩
       · omega
       · rw [← e, NV.1] at hB; cases hB
     exact NV.go gQ (by rw [zj]) (gG _ ik) (hw _ dC ik)
   aP := fun s j sl A' hs ew => by
     rw [hn] at hs
     by_cases e : s = d
     · subst e; rw [if_pos rfl] at hs; obtain rfl := Option.some.inj hs
       cases j with
       | zero => simp [nth] at ew; subst ew; exact hA
       | succ j => simp [nth] at ew
     · rw [if_neg e] at hs; have ha := h.aP s j sl A' hs ew; refine ha.go rP (iA s j (fun h => e h.1)) (fun k g1 => ?_); have dC : k < w.heap.size := h.oF g1; have ik : k ≠ B := by
         rintro rfl
         rcases hB with hB | ⟨s', j', hB, Bk⟩
         · omega
         · rw [hB] at g1; simp at g1; obtain ⟨rfl, rfl⟩ := g1; rcases Bk with Bk | Bk
           · exact e Bk
           · exact Bk sl A' hs ew
       exact ⟨hw k dC ik, gG k ik⟩
   owned := fun b l hb => by
     by_cases e : b = B
     · subst e; rcases SI with SI | ⟨SI, _⟩
       · refine ⟨hBn SI, ?_⟩; rcases hB with hB | ⟨s', j', hB, _⟩
         · exact .inr (.inl (Nat.le_trans h.kept.2.2.2 hB))
         · rcases (h.owned _ _ hB).2 with h2 | h2
           · cases h2
           · exact .inr h2
       · rw [SI] at hb; have := h.owned b l hb; exact ⟨Nat.lt_of_lt_of_le this.1 rQ.2.2.2, this.2⟩
     · rw [gG b e] at hb; have := h.owned b l hb; exact ⟨Nat.lt_of_lt_of_le this.1 rQ.2.2.2, this.2⟩
   free := fun b hb h1 => by
     by_cases e : b = B
     · subst e; rcases hB with hB | ⟨s', j', hB, _⟩
       · have := h.kept.2.2.2; omega
       · rcases (h.owned _ _ hB).2 with h2 | h2 | h2
         · cases h2
         · omega
         · exact .inl h2
     · rw [gG b e] at h1; exact h.free b hb h1
   kept := ⟨rQ.1.trans h.kept.1, rQ.2.1.trans h.kept.2.1, rQ.2.2.1.trans h.kept.2.2.1, Nat.le_trans h.kept.2.2.2 rQ.2.2.2⟩
   old := fun k hk hm => by
     have Bl := Nat.lt_of_lt_of_le hk h.kept.2.2.2; rw [hw k Bl (fun e => ?_)]
     · exact h.old k hk hm
     · subst e; rcases hB with hB | ⟨s', j', hB, _⟩
       · omega
       · rcases (h.owned _ _ hB).2 with h2 | h2 | h2
         · cases h2
         · omega
         · exact hm h2
   ed := fun p hp => gQ.ed (h.ed p hp)
   plain := h.plain }
end Go.TM
namespace Go.TM
open Go Go.RowKit
theorem Rel.NW {w0 : World} {mu : Mu} {c : Cz} {st : St} {a : Act} {w : World} (_h : Rel w0 mu c st a w) (s j : Nat) : Fw c st w c (bP st s j none) w := by
 have hn : ∀ k, ∃ f : Sl → Sl, (∀ x, (f x).v = x.v ∧ (f x).box = x.box ∧ (f x).bg = x.bg ∧ (f x).ag = x.ag ∧
     (∀ i, nth (f x).aP i = if k = s ∧ i = j then (nth x.aP i).map (fun _ => none) else nth x.aP i) ∧ (f x).ep = if k = s then x.ep + 1 else x.ep) ∧ nth (bP st s j none) k = (nth st k).map f := by
   intro k; unfold bP
   by_cases e : k = s
   · subst e; refine ⟨fun s => { s with aP := m6 (fun _ => none) s.aP j, ep := s.ep + 1 }, fun x => ⟨rfl, rfl, rfl, rfl, fun i => ?_, by simp⟩, jF _ _ _⟩; simp only [dF, true_and]
   · refine ⟨id, fun x => ⟨rfl, rfl, rfl, rfl, fun i => ?_, by simp [e]⟩, by rw [mz _ _ e]; simp⟩; simp [e]
 generalize bP st s j none = bf at hn ⊢; exact {
   stays := iU.refl w _
   refs := fun a' j' g A' _ ew => by
     obtain ⟨sl, k1, k2, k3⟩ := bA ew; obtain ⟨f, hf, hk⟩ := hn a'; rw [hk] at k1
     cases hx : nth st a' with
     | none => rw [hx] at k1; simp at k1
     | some x =>
       rw [hx] at k1; simp at k1; subst k1; rw [(hf x).2.2.2.2.1 j'] at k3; rw [(hf x).2.2.2.1] at k2; refine ⟨A', ?_, rfl, rfl, rfl, fun _ => ⟨rfl, fun _ _ _ _ => rfl⟩⟩
       by_cases e : a' = s ∧ j' = j
       · rw [if_pos e] at k3
         cases hq : nth x.aP j' <;> simp [hq] at k3
       · rw [if_neg e] at k3; unfold bd; rw [hx]; have : Nat.beq x.ag g = true := by rw [k2]; exact Nat.beq_refl g
         simp [this, k3]
   zg := fun b g nc _ hb => by
     refine ⟨⟨nc, ?_⟩, rfl⟩; obtain ⟨f, hf, hk⟩ := hn b; unfold dE at hb ⊢; rw [hk] at hb
     cases hx : nth st b with
     | none => rw [hx] at hb; simp at hb
     | some x => rw [hx] at hb; simpa [(hf x).2.1, (hf x).2.2.1] using hb
   gA := fun b => by
     obtain ⟨f, hf, hk⟩ := hn b; unfold dv; rw [hk]
     cases hx : nth st b with
     | none => simp
     | some x => simp [(hf x).2.2.2.1]
   gB := fun b => by
     obtain ⟨f, hf, hk⟩ := hn b; unfold gD; rw [hk]
     cases hx : nth st b with
     | none => simp
     | some x => simp [(hf x).2.2.1]
   gE := fun b => by
     obtain ⟨f, hf, hk⟩ := hn b; unfold my; rw [hk]
     cases hx : nth st b with
     | none => simp
     | some x =>
       simp only [Option.map_some]; rw [(hf x).2.2.2.2.2]
       split <;> omega }
theorem Rel.kill {w0 : World} {mu : Mu} {c : Cz} {st : St} {a : Act} {w : World} (h : Rel w0 mu c st a w) (s j : Nat) :
   Rel w0 mu c (bP st s j none) a w ∧ ∀ sl A, nth (bP st s j none) s = some sl → nth sl.aP j ≠ some (some A) := by
 have hn : ∀ k, ∃ f : Sl → Sl, (∀ x, (f x).v = x.v ∧ (f x).box = x.box ∧ (f x).bg = x.bg ∧ (f x).ag = x.ag ∧
     (∀ i, nth (f x).aP i = if k = s ∧ i = j then (nth x.aP i).map (fun _ => none) else nth x.aP i) ∧ (f x).ep = if k = s then x.ep + 1 else x.ep) ∧ nth (bP st s j none) k = (nth st k).map f := by
   intro k; unfold bP
   by_cases e : k = s
   · subst e; refine ⟨fun s => { s with aP := m6 (fun _ => none) s.aP j, ep := s.ep + 1 }, fun x => ⟨rfl, rfl, rfl, rfl, fun i => ?_, by simp⟩, jF _ _ _⟩; simp only [dF, true_and]
   · refine ⟨id, fun x => ⟨rfl, rfl, rfl, rfl, fun i => ?_, by simp [e]⟩, by rw [mz _ _ e]; simp⟩; simp [e]
 generalize bP st s j none = bf at hn ⊢; have gQ : Fw c st w c bf w := {
   stays := iU.refl w _
   refs := fun a' j' g A' _ ew => by
     obtain ⟨sl, k1, k2, k3⟩ := bA ew; obtain ⟨f, hf, hk⟩ := hn a'; rw [hk] at k1
     cases hx : nth st a' with
     | none => rw [hx] at k1; simp at k1
     | some x =>
       rw [hx] at k1; simp at k1; subst k1; rw [(hf x).2.2.2.2.1 j'] at k3; rw [(hf x).2.2.2.1] at k2; refine ⟨A', ?_, rfl, rfl, rfl, fun _ => ⟨rfl, fun _ _ _ _ => rfl⟩⟩
       by_cases e : a' = s ∧ j' = j
       · rw [if_pos e] at k3
         cases hq : nth x.aP j' <;> simp [hq] at k3
       · rw [if_neg e] at k3; unfold bd; rw [hx]; have : Nat.beq x.ag g = true := by rw [k2]; exact Nat.beq_refl g
         simp [this, k3]
   zg := fun b g nc _ hb => by
     refine ⟨⟨nc, ?_⟩, rfl⟩; obtain ⟨f, hf, hk⟩ := hn b; unfold dE at hb ⊢; rw [hk] at hb
     cases hx : nth st b with
     | none => rw [hx] at hb; simp at hb
     | some x => rw [hx] at hb; simpa [(hf x).2.1, (hf x).2.2.1] using hb
   gA := fun b => by
     obtain ⟨f, hf, hk⟩ := hn b; unfold dv; rw [hk]
     cases hx : nth st b with
     | none => simp
     | some x => simp [(hf x).2.2.2.1]
   gB := fun b => by
     obtain ⟨f, hf, hk⟩ := hn b; unfold gD; rw [hk]
     cases hx : nth st b with
     | none => simp
     | some x => simp [(hf x).2.2.1]
   gE := fun b => by
     obtain ⟨f, hf, hk⟩ := hn b; unfold my; rw [hk]
     cases hx : nth st b with
     | none => simp
     | some x =>
       simp only [Option.map_some]; rw [(hf x).2.2.2.2.2]
       split <;> omega }
 refine ⟨{
   fp := fun t => by
     obtain ⟨f, hf, hk⟩ := hn t; have : cz bf t = cz st t := by
       unfold cz; rw [hk]
       cases hx : nth st t with
       | none => rfl
       | some x => exact (hf x).1
     rw [this]; exact gQ.m8 (h.fp t)
   boxes := fun b sl cs hs hb => by
     obtain ⟨f, hf, hk⟩ := hn b; rw [hk] at hs
     cases hx : nth st b with
     | none => rw [hx] at hs; simp at hs
     | some x =>
       rw [hx] at hs; simp at hs; subst hs; rw [(hf x).2.1] at hb; exact (h.boxes b x cs hx hb).go gQ rfl rfl rfl
   aP := fun b i sl A hs hA => by
     obtain ⟨f, hf, hk⟩ := hn b; rw [hk] at hs
     cases hx : nth st b with
     | none => rw [hx] at hs; simp at hs
     | some x =>
       rw [hx] at hs; simp at hs; subst hs; rw [(hf x).2.2.2.2.1 i] at hA
       by_cases e : b = s ∧ i = j
       · rw [if_pos e] at hA
         cases hq : nth x.aP i <;> simp [hq] at hA
       · rw [if_neg e] at hA; exact h.aP b i x A hx hA
   owned := h.owned
   free := h.free
   kept := h.kept
   old := h.old
   ed := fun p hp => gQ.ed (h.ed p hp)
   plain := h.plain }, fun sl A hs => ?_⟩
 obtain ⟨f, hf, hk⟩ := hn s; rw [hk] at hs
 cases hx : nth st s with
 | none => rw [hx] at hs; simp at hs
 | some x =>
   rw [hx] at hs; simp at hs; subst hs; rw [(hf x).2.2.2.2.1 j, if_pos ⟨rfl, rfl⟩]
   cases nth x.aP j <;> simp
def Cz.bR (c : Cz) (d : Nat) (L : Loc) (B : Option Nat) : Cz :=
 { bx := c.bx, lc := fun s j => if s = d ∧ j = 0 then L else c.lc s j, own := fun k => if B = some k then some (.sp d 0) else c.own k }
theorem mO {st : St} {d : Option Nat} {A : ig} {bf : St} (h : (bR st d A).val = some bf) :
   ∃ k s0, d = some k ∧ nth st k = some s0 ∧ bf = m6 (fun s => { s with v := .one (.ref k 0 (s0.ag + 1) .full), aP := [some A], ag := s0.ag + 1 }) st k := by
 unfold bR at h
 cases d with
 | none => simp [N.val] at h
 | some k =>
   cases hs : nth st k with
   | none => simp [hs, N.val] at h
   | some s0 =>
     simp only [hs, N.val, Option.some.injEq] at h; exact ⟨k, s0, rfl, hs, h.symm⟩
theorem yF {st : St} {d : Option Nat} {cs : List CV} {bf : St} (h : (iL st d cs).val = some bf) :
   ∃ k s0, d = some k ∧ nth st k = some s0 ∧ bf = m6 (fun s => { s with v := .one (.ptr k (s0.bg + 1) 0), box := some cs, bg := s0.bg + 1 }) st k := by
 unfold iL at h
 cases d with
 | none => simp [N.val] at h
 | some k =>
   cases hs : nth st k with
   | none => simp [hs, N.val] at h
   | some s0 =>
     simp only [hs, N.val, Option.some.injEq] at h; exact ⟨k, s0, rfl, hs, h.symm⟩
theorem Rel.fresh {w0 : World} {mu : Mu} {c : Cz} {st : St} {a : Act} {w : World} (h : Rel w0 mu c st a w) {d : Nat} {s0 : Sl} {r : RT} {xs : List (ar r)} {cur : Array Value} {ty cap : Nat}
   (jy : nth st d = some s0) (hd : d < a.tmps.size) (hle : xs.length ≤ cap) (mj : cap * r.width ≤ cur.size) {vs : List Value} (wT : bt w c.ok r vs xs) (NX : cur.toList.take vs.length = vs) :
   ∃ c', Rel w0 mu c' (m6 (fun s => { s with v := .one (.ref d 0 (s0.ag + 1) .full), aP := [some { r := r, own := true, xs := xs }], ag := s0.ag + 1 }) st d)
     (a.put (some d) (.slice (some ⟨w.heap.size, 0, none⟩) xs.length cap)) (w.alloc (.cells cur ty (0, 0))) := by
 have ud := heap_alloc_new w (.cells cur ty (0, 0)); refine ⟨c.bR d (.at w.heap.size 0 cap) (some w.heap.size), h.place (B := w.heap.size) (A := { r := r, own := true, xs := xs }) jy hd rfl ?_ ?_ (.inl ?_) (.inl (Nat.le_refl _)) (fun _ => by simp) (fun k hk _ => heap_alloc_old w _ k hk)
   ⟨rfl, rfl, rfl, by simp⟩ ?_ rfl ?_⟩
 · intro s j ik; simp [Cz.bR, ik]
 · intro k hk; simp only [Cz.bR]; rw [if_neg (by intro e; exact hk (Option.some.inj e).symm)]
 · simp [Cz.bR]
 · have rP : iU w (w.alloc (.cells cur ty (0, 0))) c.ok (c.bR d (.at w.heap.size 0 cap) (some w.heap.size)).ok := uC w _ _ _ (fun b hb gJ => by
     unfold Cz.ok Cz.bR; simp only; rw [if_neg (by intro e; have := Option.some.inj e; omega)]; exact gJ)
   unfold cu; simp only [Cz.bR, and_self, if_true]; refine ⟨trivial, hle, ⟨cur, ty, ud, by simpa using mj⟩, ?_⟩; refine (cg.sh rfl).2 ?_; refine rp 0 vs xs (bt.stays rP vs xs wT) (fun j v hv => ?_); rw [cell_of_row _ _ _ cur ty (0, 0) ud, Nat.zero_add]; have hj : j < vs.length := (List.getElem?_eq_some_iff.1 hv).1; rw [← NX, List.getElem?_take, if_pos hj] at hv; simpa using hv
 · simp only [Cz.bR, and_self, if_true]; exact ⟨_, cap, rfl, hle, by omega, fun _ => by simp⟩
theorem Bm {P : Program} {t ty e : TypeId} {i : TypeInfo} (ht : P.underlying t = some (.slice e)) (hi : P.info? e = some i) (w : World)
   (g o wU CH : Nat) (cur : Array Value) (te : TypeId) (hg : w.heap[g]? = some (.cells cur te (0, 0)))
   (a : Addr) (m c : Nat) (news : List Value) (hl : news.length = m * i.size) (SJ : ∀ j u, news[j]? = some u → w.cell? (a.add j) = some u) (h1 : ∀ u ∈ news, u.oneCell' = true)
   (sA : wU + m ≤ CH) (rR : o + wU * i.size + news.length ≤ cur.size) :
   (Builtin.append_ #[t, t] ty #[.slice (some ⟨g, o, none⟩) wU CH, .slice (some a) m c]).run P w =
     .ok (.slice (some ⟨g, o, none⟩) (wU + m) CH) (w.setRow g (ck cur.toList (o + wU * i.size) news).toArray) := by
 have hf := run_firstCells_some (P := P) w i.size m a m c news hl SJ; have rP := run_storeCells_at P g (o + wU * i.size) te news 0 cur w hg (by simpa using rR) h1; simp only [Nat.add_zero] at rP; simp [Builtin.append_, run_underlying ht, sizeOf, typeInfo, hi, Builtin.lenOf, sA, hf, Addr.add_mid, rP, ck]
theorem run_append_nothing {P : Program} {t ty e : TypeId} {i : TypeInfo} (ht : P.underlying t = some (.slice e)) (hi : P.info? e = some i) (w : World) (base : Option Addr) (wU CH : Nat) (hle : wU ≤ CH)
   (x : Value) (hx : (x = .slice none 0 0) ∨ ∃ a c, x = .slice (some a) 0 c) :
   (Builtin.append_ #[t, t] ty #[.slice base wU CH, x]).run P w = .ok (.slice base wU CH) w := by
 rcases hx with rfl | ⟨a, c, rfl⟩
 · cases base <;> simp [Builtin.append_, run_underlying ht, sizeOf, typeInfo, hi, Builtin.lenOf, Builtin.firstCells, hle, storeCells]
 · cases base <;> simp [Builtin.append_, run_underlying ht, sizeOf, typeInfo, hi, Builtin.lenOf, Builtin.firstCells, hle, storeCells, loadCells, loadCellsFrom]
end Go.TM
namespace Go.TM
open Go Go.RowKit
def dD (w : World) (P : List Nat → Nat → Prop) : (r : RT) → (p : List Nat) → (k : Nat) → List Value → ar r → Prop
 | .nil, _, _, vs, _ => vs = []
 | .cons t r, p, k, vs, x => ∃ v l, vs = v :: l ∧ dB w P t (p ++ [k]) v x.1 ∧ dD w P r p (k + 1) l x.2
theorem dD.length {w : World} {P : List Nat → Nat → Prop} : (r : RT) → (p : List Nat) → (k : Nat) → (vs : List Value) → (x : ar r) → dD w P r p k vs x → vs.length = r.width
 | .nil, _, _, vs, _, h => by simp only [dD] at h; subst h; rfl
 | .cons t r, p, k, vs, x, h => by
   obtain ⟨v, l, rfl, _, h⟩ := h; simp [RT.width, dD.length r p (k + 1) l x.2 h]
theorem jN {w : World} {P : List Nat → Nat → Prop} : (r : RT) → (p : List Nat) → (k b off : Nat) → (x : ar r) → (gF w P r p k b off x ↔ ∃ vs, w.rangeAt b off vs ∧ dD w P r p k vs x)
 | .nil, _, _, _, _, _ => by
   unfold gF; exact ⟨fun _ => ⟨[], fun j v h => by simp at h, rfl⟩, fun _ => trivial⟩
 | .cons t r, p, k, b, off, x => by
   unfold gF
   constructor
   · rintro ⟨⟨v, hv, hx⟩, hr⟩
     obtain ⟨vs, h1, h2⟩ := (jN r p (k + 1) b (off + 1) x.2).1 hr; refine ⟨v :: vs, fun j u hu => ?_, v, vs, rfl, hx, h2⟩
     cases j with
     | zero => simp at hu; rw [← hu]; exact hv
     | succ j =>
       simp at hu; rw [show off + (j + 1) = off + 1 + j by omega]; exact h1 j u hu
   · rintro ⟨vs, h1, v, l, rfl, hx, h2⟩
     refine ⟨⟨v, h1 0 v rfl, hx⟩, (jN r p (k + 1) b (off + 1) x.2).2 ⟨l, fun j u hu => ?_, h2⟩⟩; have := h1 (j + 1) u (by simpa using hu); rw [show off + 1 + j = off + (j + 1) by omega]; exact this
theorem dD.go {w w' : World} {P P' : List Nat → Nat → Prop} : (r : RT) → (p p' : List Nat) → (hP : ∀ q b, P (p ++ q) b → w'.heap[b]? = w.heap[b]? ∧ P' (p' ++ q) b) → (k : Nat) → (vs : List Value) → (x : ar r) → dD w P r p k vs x → dD w' P' r p' k vs x
 | .nil, _, _, _, _, _, _, h => h
 | .cons t r, p, p', hP, k, vs, x, h => by
   obtain ⟨v, l, e, h1, h2⟩ := h; refine ⟨v, l, e, dB.go t (p ++ [k]) (p' ++ [k]) (fun q b hb => ?_) v x.1 h1, dD.go r p p' hP (k + 1) l x.2 h2⟩; have := hP ([k] ++ q) b (by rw [← List.append_assoc]; exact hb); rw [← List.append_assoc] at this; exact this
theorem zX {w : World} {P : List Nat → Nat → Prop} {c : Cz} {st : St} {w1 : World} : (r : RT) → (p : List Nat) → (k0 : Nat) → (x : ar r) → (k : Nat) → (y : CV) → (z : ar r) → (vs : List Value) → (u : Value) →
   gj r x k y = some z → jG c st w1 y u → dD w P r p k0 vs x → dD w P r p k0 (vs.set k u) z
 | .nil, _, _, _, _, _, _, _, _, h, _, _ => by simp [gj] at h
 | .cons t r, p, k0, x, 0, y, z, vs, u, h, hu, hv => by
   obtain ⟨v, l, rfl, hx, hr⟩ := hv
   cases t with
   | int k => cases y <;> simp [gj] at h
              obtain ⟨rfl, h⟩ := h; obtain rfl := Option.some.inj h; exact ⟨u, l, rfl, vY.2 hu, hr⟩
   | bool => cases y <;> simp [gj] at h
             obtain rfl := Option.some.inj h; exact ⟨u, l, rfl, s9.2 hu, hr⟩
   | str => cases y <;> simp [gj] at h
            obtain rfl := Option.some.inj h; exact ⟨u, l, rfl, vZ.2 hu, hr⟩
   | sl q => cases y <;> simp [gj] at h
 | .cons t r, p, k0, x, k + 1, y, z, vs, u, h, hu, hv => by
   obtain ⟨v, l, rfl, hx, hr⟩ := hv; have h' : (gj r x.2 k y).map (fun z => ((x.1, z) : ar (.cons t r))) = some z := by cases t <;> (simp only [gj] at h; exact h)
   cases hq : gj r x.2 k y with
   | none => simp [hq] at h'
   | some z' =>
     rw [hq] at h'; obtain rfl := Option.some.inj h'; exact ⟨v, l.set k u, rfl, hx, zX r p (k0 + 1) x.2 k y z' l u hq hu hr⟩
theorem zY {w : World} {P : List Nat → Nat → Prop} {c : Cz} {st : St} {w1 : World} (r : RT) (p : List Nat) (k0 : Nat) (x : ar r) : (off : Nat) → (cs : List CV) → (z : ar r) → (vs us : List Value) → off + us.length ≤ vs.length →
   kC r x off cs = some z → fo c st w1 cs us → dD w P r p k0 vs x → dD w P r p k0 (ck vs off us) z
 | off, [], z, vs, us, _, h, hl, hv => by
   have : us = [] := by have := hl.1; simp at this; exact List.length_eq_zero_iff.1 this.symm
   subst this; simp [kC] at h; subst h; simp [ck]; exact hv
 | off, y :: l, z, vs, us, hle, h, hl, hv => by
   cases us with
   | nil => have := hl.1; simp at this
   | cons u us =>
     simp only [kC] at h
     cases hq : kC r x (off + 1) l with
     | none => simp [hq] at h
     | some y' =>
       simp only [hq] at h; simp at hle; have ih := zY r p k0 x (off + 1) l y' vs us (by omega) hq ⟨by have := hl.1; simpa using this, fun i a b ha hb => hl.2 (i + 1) a b (by simpa using ha) (by simpa using hb)⟩ hv; rw [yC (by omega)]; exact zX r p k0 y' off y z _ u h (hl.2 0 y u rfl rfl) ih
mutual
theorem cr.dep {w : World} {P : List Nat → Nat → Prop} {ok : Nat → Prop} : (t : Ty) → (p : List Nat) → (v : Value) → (x : den t) → RT.ek (.cons t .nil) = false → cr w ok t v x → dB w P t p v x
 | .int _, _, _, _, _, h => vY.2 (s8.1 h)
 | .bool, _, _, _, _, h => s9.2 (rj.1 h)
 | .str, _, _, _, _, h => vZ.2 (uw.1 h)
 | .sl _, _, _, _, hs, _ => by simp [RT.ek] at hs
theorem dt.dep {w : World} {P : List Nat → Nat → Prop} {ok : Nat → Prop} : (r : RT) → (p : List Nat) → (k b off : Nat) → (x : ar r) → r.ek = false → dt w ok r b off x → gF w P r p k b off x
 | .nil, _, _, _, _, _, _, _ => by unfold gF; trivial
 | .cons t r, p, k, b, off, x, hs, h => by
   unfold dt at h; unfold gF; obtain ⟨⟨v, h1, h2⟩, h3⟩ := h; refine ⟨⟨v, h1, cr.dep t _ v x.1 ?_ h2⟩, dt.dep r p (k + 1) b (off + 1) x.2 ?_ h3⟩
   · cases t <;> simp_all [RT.ek]
   · cases t <;> simp_all [RT.ek]
end
theorem gF.DP {w : World} {P : List Nat → Nat → Prop} {ok : Nat → Prop} : (r : RT) → (p : List Nat) → (k b off : Nat) → (x : ar r) → r.ek = false → gF w P r p k b off x → dt w ok r b off x
 | .nil, _, _, _, _, _, _, _ => by unfold dt; trivial
 | .cons t r, p, k, b, off, x, hs, h => by
   unfold gF at h; unfold dt; obtain ⟨⟨v, h1, h2⟩, h3⟩ := h; refine ⟨⟨v, h1, ?_⟩, gF.DP r p (k + 1) b (off + 1) x.2 (by cases t <;> simp_all [RT.ek]) h3⟩
   cases t with
   | int _ => exact s8.2 (vY.1 h2)
   | bool => exact rj.2 (s9.1 h2)
   | str => exact uw.2 (vZ.1 h2)
   | sl _ => simp [RT.ek] at hs
theorem cg.JO {c : Cz} {w : World} {l : Lb} {A : ig} {b off : Nat} (hm : A.md = .sh) {ys : List (ar A.r)} (h : ∀ (i : Nat) x, ys[i]? = some x → dt w c.ok A.r b (off + i * A.r.width) x) : cg c w l { A with xs := ys } b off := by
 unfold cg; show match A.md with | .sh => _ | .dp => _ | .ho _ => _
 rw [hm]; exact h
def RT.md (q : RT) : Md := bif q.ek then .dp else .sh
theorem L7 {c : Cz} {w : World} {s j : Nat} {A : ig} (h : cu c w s j A) (ho : A.own = true) (hm : A.md = A.r.md) {v : Value} (h1 : v.oneCell' = true) (hv : jx (c.lc s j) A.r.width 0 A.xs.length v) :
   ∃ g : Nat → List Nat, ∀ (P : List Nat → Nat → Prop) (p : List Nat), (∀ k, c.own k = some (.sp s j) → P (p ++ g k) k) → dB w P (.sl A.r) p v A.xs := by
 unfold cu at h
 cases hl : c.lc s j with
 | nil =>
   rw [hl] at h hv; exact ⟨fun _ => [], fun P p _ => (uz _ _ _ _ _ _).2 ⟨.nil, hv, h1, .inl ⟨rfl, h⟩⟩⟩
 | «at» b off cap =>
   rw [hl] at h hv; obtain ⟨h0, h2, h3, h4⟩ := h; rw [ho] at h0; unfold cg at h4; rw [hm] at h4; unfold RT.md at h4
   cases hs : A.r.ek with
   | false =>
     rw [hs] at h4; refine ⟨fun _ => [], fun P p hP => (uz _ _ _ _ _ _).2 ⟨_, hv, h1, .inr ⟨b, off, cap, rfl, ?_, h2, h3, fun i x hx => dt.dep _ _ _ _ _ x hs (h4 i x hx)⟩⟩⟩; simpa using hP b h0
   | true =>
     rw [hs] at h4; obtain ⟨g, g1, g2⟩ := h4; refine ⟨g, fun P p hP => (uz _ _ _ _ _ _).2 ⟨_, hv, h1, .inr ⟨b, off, cap, rfl, ?_, h2, h3, fun i x hx => gF.go _ [i] (p ++ [i]) (fun q k hk => ⟨rfl, ?_⟩) _ _ _ x rfl (g2 i x hx)⟩⟩⟩
     · have := hP b h0
       rwa [g1, List.append_nil] at this
     · have := hP k hk.1; rw [hk.2] at this
       rwa [List.append_assoc]
theorem JP {c : Cz} {w : World} {s j : Nat} {A : ig} (h : cu c w s j A) (ho : A.own = true) (hm : A.md = A.r.md) :
   ∃ g : Nat → List Nat, ∀ v : Value, v.oneCell' = true → jx (c.lc s j) A.r.width 0 A.xs.length v → ∀ (P : List Nat → Nat → Prop) (p : List Nat), (∀ k, c.own k = some (.sp s j) → P (p ++ g k) k) → dB w P (.sl A.r) p v A.xs := by
 by_cases e : ∃ v : Value, v.oneCell' = true ∧ jx (c.lc s j) A.r.width 0 A.xs.length v
 · unfold cu at h
   cases hl : c.lc s j with
   | nil =>
     rw [hl] at h; exact ⟨fun _ => [], fun v h1 hv P p _ => (uz _ _ _ _ _ _).2 ⟨.nil, hv, h1, .inl ⟨rfl, h⟩⟩⟩
   | «at» b off cap =>
     rw [hl] at h; obtain ⟨h0, h2, h3, h4⟩ := h; rw [ho] at h0; unfold cg at h4; rw [hm] at h4; unfold RT.md at h4
     cases hs : A.r.ek with
     | false =>
       rw [hs] at h4; refine ⟨fun _ => [], fun v h1 hv P p hP => (uz _ _ _ _ _ _).2 ⟨_, hv, h1, .inr ⟨b, off, cap, rfl, ?_, h2, h3, fun i x hx => dt.dep _ _ _ _ _ x hs (h4 i x hx)⟩⟩⟩; simpa using hP b h0
     | true =>
       rw [hs] at h4; obtain ⟨g, g1, g2⟩ := h4; refine ⟨g, fun v h1 hv P p hP => (uz _ _ _ _ _ _).2 ⟨_, hv, h1, .inr ⟨b, off, cap, rfl, ?_, h2, h3, fun i x hx => gF.go _ [i] (p ++ [i]) (fun q k hk => ⟨rfl, ?_⟩) _ _ _ x rfl (g2 i x hx)⟩⟩⟩
       · have := hP b h0
         rwa [g1, List.append_nil] at this
       · have := hP k hk.1; rw [hk.2] at this
         rwa [List.append_assoc]
 · exact ⟨fun _ => [], fun v h1 h2 => absurd ⟨v, h1, h2⟩ e⟩
theorem wV {w0 : World} {mu : Mu} {c : Cz} {st : St} {a : Act} {w : World} (h : Rel w0 mu c st a w) : (r : RT) → (cs : List CV) → (us : List Value) → fo c st w cs us → {x : ar r} → {m : List (Option (Nat × Nat))} → hJ st r cs = some (x, m) →
   m.length = r.width ∧ (∀ (col : Nat) (n : Nat × Nat), m[col]? = some (some n) → ∃ g A, bd st n.1 n.2 g = some A ∧ A.own = true) ∧
   ∃ G : Nat → Nat → List Nat, ∀ (P : List Nat → Nat → Prop) (p : List Nat) (k0 : Nat), (∀ (col : Nat) (n : Nat × Nat) (k : Nat), m[col]? = some (some n) → c.own k = some (.sp n.1 n.2) → P (p ++ [k0 + col] ++ G col k) k) → dD w P r p k0 us x
 | .nil, cs, us, hl, x, m, hv => by
   cases cs with
   | cons _ _ => simp [hJ] at hv
   | nil =>
     have : us = [] := by have := hl.1; simp at this; exact List.length_eq_zero_iff.1 this.symm
     subst this; simp only [hJ, Option.some.injEq, Prod.mk.injEq] at hv; obtain ⟨_, rfl⟩ := hv; exact ⟨rfl, fun col n h => by simp at h, fun _ _ => [], fun _ _ _ _ => rfl⟩
 | .cons t r, cs, us, hl, x, m, hv => by
   cases cs with
   | nil => cases t <;> simp [hJ] at hv
   | cons y cs =>
     cases us with
     | nil => have := hl.1; simp at this
     | cons u us =>
       have hu : jG c st w y u := hl.2 0 y u rfl rfl; have um : fo c st w cs us := ⟨by have := hl.1; simpa using this, fun i a b ha hb => hl.2 (i + 1) a b (by simpa using ha) (by simpa using hb)⟩; have cell : ∀ (d : den t) (o : Option (Nat × Nat)) (z : ar r) (m' : List (Option (Nat × Nat))), hJ st r cs = some (z, m') → (∀ n, o = some n → ∃ g A, bd st n.1 n.2 g = some A ∧ A.own = true) →
           (∃ g : Nat → List Nat, ∀ (P : List Nat → Nat → Prop) (p : List Nat), (∀ n k, o = some n → c.own k = some (.sp n.1 n.2) → P (p ++ g k) k) → dB w P t p u d) → x = (d, z) → m = o :: m' →
           m.length = (RT.cons t r).width ∧ (∀ (col : Nat) (n : Nat × Nat), m[col]? = some (some n) → ∃ g A, bd st n.1 n.2 g = some A ∧ A.own = true) ∧
           ∃ G : Nat → Nat → List Nat, ∀ (P : List Nat → Nat → Prop) (p : List Nat) (k0 : Nat), (∀ (col : Nat) (n : Nat × Nat) (k : Nat), m[col]? = some (some n) → c.own k = some (.sp n.1 n.2) → P (p ++ [k0 + col] ++ G col k) k) → dD w P (.cons t r) p k0 (u :: us) x := by
         intro d o z m' hz ho hd e1 e2; subst e1 e2; obtain ⟨g1, g2, G, g3⟩ := wV h r cs us um hz; obtain ⟨g, hd⟩ := hd; refine ⟨by simp [RT.width, g1], fun col n hc => ?_, fun col => match col with | 0 => g | col + 1 => G col, fun P p k0 hP => ⟨u, us, rfl, hd P _ fun n k hn hk => ?_, g3 P p (k0 + 1) fun col n k hc hk => ?_⟩⟩
         · cases col with
           | zero => exact ho n (by simpa using hc)
           | succ col => exact g2 col n (by simpa using hc)
         · have := hP 0 n k (by simp [hn]) hk; simpa using this
         · have := hP (col + 1) n k (by simpa using hc) hk
           rwa [show k0 + (col + 1) = k0 + 1 + col by omega] at this
       have plain : ∀ (d : den t), (∀ (P : List Nat → Nat → Prop) (p : List Nat), dB w P t p u d) → (match hJ st r cs with | some p => some ((d, p.1), none :: p.2) | none => (none : Option (ar (.cons t r) × List (Option (Nat × Nat))))) = some (x, m) →
           m.length = (RT.cons t r).width ∧ (∀ (col : Nat) (n : Nat × Nat), m[col]? = some (some n) → ∃ g A, bd st n.1 n.2 g = some A ∧ A.own = true) ∧
           ∃ G : Nat → Nat → List Nat, ∀ (P : List Nat → Nat → Prop) (p : List Nat) (k0 : Nat), (∀ (col : Nat) (n : Nat × Nat) (k : Nat), m[col]? = some (some n) → c.own k = some (.sp n.1 n.2) → P (p ++ [k0 + col] ++ G col k) k) → dD w P (.cons t r) p k0 (u :: us) x := by
         intro d hd hv
         cases hz : hJ st r cs with
         | none => rw [hz] at hv; cases hv
         | some q =>
           rw [hz] at hv; have hv := Option.some.inj hv; exact cell d none q.1 q.2 hz (fun n e => by cases e) ⟨fun _ => [], fun P p _ => hd P p⟩ (congrArg Prod.fst hv).symm (congrArg Prod.snd hv).symm
       cases t with
       | int q =>
         cases y with
         | int l n =>
           simp only [hJ] at hv
           by_cases e : q = l
           · rw [if_pos e] at hv; exact plain n (fun P p => vY.2 (by rw [e]; exact hu)) hv
           · rw [if_neg e] at hv; cases hv
         | _ => simp [hJ] at hv
       | bool =>
         cases y with
         | bool b => exact plain b (fun P p => s9.2 hu) (by simp only [hJ] at hv; exact hv)
         | _ => simp [hJ] at hv
       | str =>
         cases y with
         | str s => exact plain s (fun P p => vZ.2 hu) (by simp only [hJ] at hv; exact hv)
         | _ => simp [hJ] at hv
       | sl q =>
         cases y with
         | ea => exact plain ([] : List (ar q)) (fun P p => (uz _ _ _ _ _ _).2 ⟨.nil, ⟨hu, rfl⟩, by rw [show u = .slice none 0 0 from hu]; rfl, .inl ⟨rfl, rfl⟩⟩) (by simp only [hJ] at hv; exact hv)
         | ref a' j g vw =>
           cases vw with
           | full =>
             simp only [hJ] at hv
             cases hA : bd st a' j g with
             | none => simp [hA] at hv
             | some A =>
               simp only [hA] at hv; obtain ⟨hc, qc⟩ := aI hv; clear hv; rw [Bool.and_eq_true] at hc; have hm := Md.oB.1 hc.2
               cases sB : cm q A.xs with
               | none => rw [sB] at qc; cases qc
               | some ys =>
                 rw [sB] at qc; simp only at qc
                 cases hz : hJ st r cs with
                 | none => rw [hz] at qc; cases qc
                 | some qq =>
                   rw [hz] at qc; have qc := Option.some.inj qc; obtain ⟨e, he⟩ := bD sB; subst e; simp only at he; subst he; refine cell A.xs (some (a', j)) qq.1 qq.2 hz (fun n e => by cases e; exact ⟨g, A, hA, hc.1⟩) ?_ (congrArg Prod.fst qc).symm (congrArg Prod.snd qc).symm; obtain ⟨gg, h2⟩ := L7 (h.sx hA) hc.1 hm hu.1 (hu.2.2 A hA); exact ⟨gg, fun P p hP => h2 P p fun k hk => hP (a', j) k rfl hk⟩
           | «from» _ => simp [hJ] at hv
           | sub _ _ => simp [hJ] at hv
         | _ => simp [hJ] at hv
theorem lf {w0 : World} {mu : Mu} {c : Cz} {a : Act} {w : World} : (m : List (Nat × Nat)) → {st : St} → Rel w0 mu c st a w → Rel w0 mu c (ij st m) a w ∧ (∀ n ∈ m, ∀ sl A, nth (ij st m) n.1 = some sl → nth sl.aP n.2 ≠ some (some A)) ∧
   (∀ s j sl A, (s, j) ∉ m → nth st s = some sl → nth sl.aP j = some (some A) → ∃ Ng, nth (ij st m) s = some Ng ∧ nth Ng.aP j = some (some A)) ∧ Fw c st w c (ij st m) w ∧ ∀ s j A, (∀ sl, nth st s = some sl → nth sl.aP j ≠ some (some A)) → ∀ sl, nth (ij st m) s = some sl → nth sl.aP j ≠ some (some A)
 | [], st, h => ⟨h, by simp, fun s j sl A _ h1 h2 => ⟨sl, h1, h2⟩, Fw.refl c st w, fun s j A h => h⟩
 | (s0, j0) :: m, st, h => by
   obtain ⟨k1, k2⟩ := h.kill s0 j0; obtain ⟨h1, h2, h3, h4, h5⟩ := lf m k1; have hn : ∀ k, ∃ f : Sl → Sl, (∀ x, ∀ i, nth (f x).aP i = if k = s0 ∧ i = j0 then (nth x.aP i).map (fun _ => none) else nth x.aP i) ∧ nth (bP st s0 j0 none) k = (nth st k).map f := by
     intro k; unfold bP
     by_cases e : k = s0
     · subst e; refine ⟨fun s => { s with aP := m6 (fun _ => none) s.aP j0, ep := s.ep + 1 }, fun x i => ?_, jF _ _ _⟩; simp only [dF, true_and]
     · refine ⟨id, fun x i => ?_, by rw [mz _ _ e]; simp⟩; simp [e]
   have keep : ∀ s j A, (∀ sl, nth st s = some sl → nth sl.aP j ≠ some (some A)) → ∀ sl, nth (bP st s0 j0 none) s = some sl → nth sl.aP j ≠ some (some A) := by
     intro s j A hq sl hs; obtain ⟨f, hf, hk⟩ := hn s; rw [hk] at hs
     cases hx : nth st s with
     | none => rw [hx] at hs; cases hs
     | some x =>
       rw [hx] at hs; simp at hs; subst hs; rw [hf]
       split
       · cases nth x.aP j <;> simp
       · exact hq x hx
   refine ⟨h1, fun n hm sl A hs => ?_, fun s j sl A hm hs hA => ?_, ?_, fun s j A hq => h5 s j A (keep s j A hq)⟩
   · rcases List.mem_cons.1 hm with rfl | hm
     · exact h5 s0 j0 A (fun sl hs => k2 sl A hs) sl hs
     · exact h2 n hm sl A hs
   · obtain ⟨f, hf, hk⟩ := hn s; refine h3 s j (f sl) A (fun BJ => hm (List.mem_cons_of_mem _ BJ)) (by rw [hk, hs]; rfl) ?_; rw [hf, if_neg]
     · exact hA
     · rintro ⟨rfl, rfl⟩; exact hm List.mem_cons_self
   · refine Fw.trans ?_ h4; exact (h.NW s0 j0)
open Classical in
noncomputable def Cz.iW (c : Cz) (m : List (Nat × Nat)) (l : Lb) : Cz :=
 { bx := c.bx, lc := c.lc, own := fun k => if ∃ n ∈ m, c.own k = some (.sp n.1 n.2) then some l else c.own k }
theorem Cz.ni {c : Cz} {m : List (Nat × Nat)} {l : Lb} {k : Nat} {n : Nat × Nat} (hm : n ∈ m) (h : c.own k = some (.sp n.1 n.2)) : (c.iW m l).own k = some l := by
 unfold Cz.iW; simp only; rw [if_pos ⟨n, hm, h⟩]
theorem Cz.oH {c : Cz} {m : List (Nat × Nat)} {l : Lb} {k : Nat} (h : ∀ n ∈ m, c.own k ≠ some (.sp n.1 n.2)) : (c.iW m l).own k = c.own k := by
 unfold Cz.iW; simp only; rw [if_neg]; rintro ⟨n, hm, e⟩; exact h n hm e
theorem Cz.DQ {c : Cz} {m : List (Nat × Nat)} {l : Lb} {k : Nat} : (c.iW m l).ok k ↔ c.ok k := by
 unfold Cz.ok
 by_cases h : ∃ n ∈ m, c.own k = some (.sp n.1 n.2)
 · obtain ⟨n, hm, e⟩ := h; rw [Cz.ni hm e, e]; simp
 · rw [Cz.oH (fun n hm e => h ⟨n, hm, e⟩)]
theorem Fw.iW (c : Cz) (st : St) (w : World) (m : List (Nat × Nat)) (l : Lb) : Fw c st w (c.iW m l) st w :=
 ⟨⟨Nat.le_refl _, fun _ _ _ => rfl, fun _ _ h => Cz.DQ.2 h⟩, fun _ _ _ A' _ h => ⟨A', h, rfl, rfl, rfl, fun _ => ⟨rfl, fun _ _ _ _ => rfl⟩⟩, fun _ _ nc _ h => ⟨⟨nc, h⟩, rfl⟩, fun _ => Nat.le_refl _, fun _ => Nat.le_refl _, fun _ => Nat.le_refl _⟩
theorem Rel.iW {w0 : World} {mu : Mu} {c : Cz} {st : St} {a : Act} {w : World} (h : Rel w0 mu c st a w) {m : List (Nat × Nat)} (hd : ∀ n ∈ m, ∀ sl A, nth st n.1 = some sl → nth sl.aP n.2 ≠ some (some A)) (s j : Nat) : Rel w0 mu (c.iW m (.sp s j)) st a w where
 fp t := (Fw.iW c st w m _).m8 (h.fp t)
 boxes b sl cs hs hb := by
   have h0 := h.boxes b sl cs hs hb; exact h0.go (Fw.iW c st w m _) rfl (Cz.oH fun n _ => by rw [h0.1]; simp) rfl
 aP b i sl A hs hA := by
   have h0 := h.aP b i sl A hs hA; refine h0.go (Fw.iW c st w m _).stays rfl (fun k hk => ⟨rfl, Cz.oH fun n hn e => ?_⟩); rw [hk] at e; injection e with e; injection e with e1 e2; subst e1 e2; exact hd n hn sl A hs hA
 owned b l hb := by
   by_cases e : ∃ n ∈ m, c.own b = some (.sp n.1 n.2)
   · obtain ⟨n, hm, e⟩ := e; rw [Cz.ni hm e] at hb
     cases hb
     obtain ⟨h1, h2⟩ := h.owned b _ e; exact ⟨h1, .inr (h2.resolve_left (by simp))⟩
   · rw [Cz.oH (fun n hm e' => e ⟨n, hm, e'⟩)] at hb; exact h.owned b l hb
 free b hb h1 := h.free b hb (Cz.DQ.1 h1)
 kept := h.kept
 old := h.old
 plain := h.plain
 ed p hp := (Fw.iW c st w m _).ed (h.ed p hp)
theorem nj : {m : List (Nat × Nat)} → distinct m = true → m.Nodup
 | [], _ => List.nodup_nil
 | x :: l, h => by
   simp only [distinct, Bool.and_eq_true, List.all_eq_true] at h; refine List.nodup_cons.2 ⟨fun hm => ?_, nj h.2⟩; have := h.1 x hm; simp at this
theorem v8 {n : Nat × Nat} : {m : List (Option (Nat × Nat))} → n ∈ dX m → ∃ col : Nat, m[col]? = some (some n)
 | [], h => by simp [dX] at h
 | none :: m, h => by
   obtain ⟨col, hc⟩ := v8 (m := m) h; exact ⟨col + 1, by simpa using hc⟩
 | some p :: m, h => by
   rcases List.mem_cons.1 h with rfl | h
   · exact ⟨0, rfl⟩
   · obtain ⟨col, hc⟩ := v8 (m := m) h; exact ⟨col + 1, by simpa using hc⟩
theorem kF {n : Nat × Nat} : {m : List (Option (Nat × Nat))} → {col : Nat} → m[col]? = some (some n) → n ∈ dX m
 | [], _, h => by simp at h
 | none :: m, 0, h => by simp at h
 | none :: m, col + 1, h => kF (m := m) (col := col) (by simpa using h)
 | some p :: m, 0, h => by simp at h; subst h; exact List.mem_cons_self
 | some p :: m, col + 1, h => List.mem_cons_of_mem _ (kF (m := m) (col := col) (by simpa using h))
theorem th {n : Nat × Nat} : {m : List (Option (Nat × Nat))} → (dX m).Nodup → {a b : Nat} → m[a]? = some (some n) → m[b]? = some (some n) → a = b
 | [], _, a, _, h, _ => by simp at h
 | none :: m, hn, a, b, h, h' => by
   cases a with
   | zero => simp at h
   | succ a => cases b with
     | zero => simp at h'
     | succ b => exact congrArg (· + 1) (th (m := m) (a := a) (b := b) hn (by simpa using h) (by simpa using h'))
 | some p :: m, hn, a, b, h, h' => by
   have HE := List.nodup_cons.1 hn
   cases a with
   | zero =>
     simp at h; subst h
     cases b with
     | zero => rfl
     | succ b => exact absurd (kF (m := m) (col := b) (by simpa using h')) HE.1
   | succ a =>
     cases b with
     | zero => simp at h'; subst h'; exact absurd (kF (m := m) (col := a) (by simpa using h)) HE.1
     | succ b => exact congrArg (· + 1) (th (m := m) (a := a) (b := b) HE.2 (by simpa using h) (by simpa using h'))
theorem xP {c : Cz} {m : List (Option (Nat × Nat))} (hn : (dX m).Nodup) (G : Nat → Nat → List Nat) (g : Nat → List Nat) (p : List Nat) (l : Lb) (hl : ∀ n ∈ dX m, l ≠ .sp n.1 n.2) :
   ∃ g' : Nat → List Nat, (∀ k, c.own k = some l → g' k = g k) ∧ ∀ (col : Nat) (n : Nat × Nat) (k : Nat), m[col]? = some (some n) → c.own k = some (.sp n.1 n.2) → g' k = p ++ [col] ++ G col k := by
 have key : ∀ k, ∃ q : List Nat, (c.own k = some l → q = g k) ∧ ∀ (col : Nat) (n : Nat × Nat), m[col]? = some (some n) → c.own k = some (.sp n.1 n.2) → q = p ++ [col] ++ G col k := by
   intro k
   by_cases e : ∃ (col : Nat) (n : Nat × Nat), m[col]? = some (some n) ∧ c.own k = some (.sp n.1 n.2)
   · obtain ⟨col, n, e1, e2⟩ := e; refine ⟨p ++ [col] ++ G col k, fun h => ?_, fun X0 n' h1 h2 => ?_⟩
     · rw [e2] at h; cases h; exact absurd rfl (hl n (kF e1))
     · rw [e2] at h2; injection h2 with h2; injection h2 with q1 q2; have : n = n' := Prod.ext q1 q2; subst this; rw [th hn h1 e1]
   · exact ⟨g k, fun _ => rfl, fun col n h1 h2 => absurd ⟨col, n, h1, h2⟩ e⟩
 obtain ⟨g', h⟩ := Classical.axiomOfChoice key; exact ⟨g', fun k => (h k).1, fun col n k => (h k).2 col n⟩
theorem HF {P : Program} {T : la} (hT : gq P T) {w0 : World} {mu : Mu} {c : Cz} {st : St} {a : Act} {w : World} (h : Rel w0 mu c st a w)
   {t : Nat} {x v : V} {ux uv : Value} (hx : eF c st w x ux) (hv : eF c st w v uv) {bf : St} (hs : (rN T st t x v).val = some bf) :
   ∃ w', (Instr.storeAt t ux uv).run P w = .ok () w' ∧ ∃ c', Rel w0 mu c' bf a w' := by
 cases hn : T.cells t with
 | none => cases x with
   | one y => cases y <;> simp [rN, hn, N.val] at hs
   | agg _ => simp [rN, N.val] at hs
   | nb _ => simp [rN, N.val] at hs
 | some n => cases x with
   | agg _ => simp [rN, N.val] at hs
   | nb _ => simp [rN, N.val] at hs
   | one y => cases y with
     | bad | int _ _ | bool _ | str _ | ea | Fj | shr _ _ | nn _ _ | ref _ _ _ _ | k9 _ _ _ | rM _ _ _ | fn _ _ _ | pL _ _ _ _ _ _ _ _ => simp [rN, N.val] at hs
     | ptr b g off =>
       simp only [rN, hn] at hs
       cases hb : dE st b g with
       | none => simp [hb, N.val] at hs
       | some cs =>
         simp only [hb] at hs; obtain ⟨hc, hs⟩ := dJ hs; rw [Bool.and_eq_true] at hc
         cases hp : putCells cs off v.cells with
         | none => simp [hp, N.val] at hs
         | some l =>
           simp only [hp, N.val, Option.some.injEq] at hs; subst hs; obtain ⟨hle, rfl⟩ := vM hp; obtain ⟨sl, zP, LN, zQ⟩ := il hb; obtain ⟨ho, vs, ty, hh, hl⟩ := h.boxes b sl cs zP zQ; obtain ⟨sB, Bn⟩ := hv.cells hc.1; have hu := hx.2.2 cs hb; subst hu; have hlen : uv.cells.toList.length = n := by rw [← sB.1]; exact Nat.eq_of_beq_eq_true hc.2
           have wG := hl.1; have DR := sB.1; refine ⟨_, mM hT hn w (c.bx b) off uv hlen Bn hh (by simp at wG ⊢; omega), c, ?_⟩; refine h.JN zP zQ hh ?_; simpa using hl.ck sB off hle
     | DJ a' j g i off =>
       simp only [rN, hn] at hs
       cases hA : bd st a' j g with
       | none => simp [hA, N.val] at hs
       | some A =>
         simp only [hA] at hs; obtain ⟨hc, hz⟩ := dJ hs; clear hs; rw [Bool.and_eq_true, Bool.and_eq_true, Bool.and_eq_true] at hc; obtain ⟨⟨⟨X2, gG⟩, GP⟩, LO⟩ := hc; have LO : 0 < n := by simp [Nat.blt] at LO; omega
         obtain ⟨sl, zP, LN, zQ⟩ := bA hA; have DN := h.aP a' j sl A zP zQ; obtain ⟨hi, b, o, cap, iA, hu⟩ := hx.2.2 A hA; have NY := DN; unfold cu at NY; rw [iA] at NY; obtain ⟨ho, wM, ⟨cur, ty, hg, mj⟩, fF⟩ := NY; rw [gG] at ho; obtain ⟨sB, Bn⟩ := hv.cells X2; have hlen : uv.cells.toList.length = n := by rw [← sB.1]; exact Nat.eq_of_beq_eq_true GP
         have CI : o + i * A.r.width + A.r.width ≤ cur.size := by
           have : (i + 1) * A.r.width ≤ cap * A.r.width := Nat.mul_le_mul_right _ (by omega); rw [Nat.add_mul] at this; omega
         subst hu
         cases hw : Nat.beq n A.r.width && A.r.ek && Nat.beq off 0 with
         | false =>
           rw [hw] at hz; simp only [cond_false] at hz
           cases hm : A.md with
           | ho _ => rw [hm] at hz; simp [N.val, Md.Ct] at hz
           | sh =>
             rw [hm] at hz; simp only [Md.Ct, cond_false] at hz; have fF := (cg.sh hm).1 fF
             cases v7 : A.xs[i]? with
             | none => simp [v7, N.val] at hz
             | some x0 =>
               simp only [v7] at hz; change (match kC A.r x0 off v.cells with | some y => N.done (bP st a' j (some (A.put (A.xs.set i y)))) | none => N.fail).val = some bf at hz
               cases hp : kC A.r x0 off v.cells with
               | none => simp [hp, N.val] at hz
               | some y =>
                 simp only [hp, N.val, Option.some.injEq] at hz; subst hz; have DR := sB.1; have NZ : off + uv.cells.toList.length ≤ A.r.width := by
                   rw [← DR]; exact tg A.r x0 off v.cells hp (by intro e; rw [e] at DR; simp at DR; simp at hlen; omega)
                 refine ⟨_, mM hT hn w b (o + i * A.r.width + off) uv hlen Bn hg (by omega), c, ?_⟩; exact h.wQ zP zQ gG iA hg (by rw [List.size_toArray, gK (by simp at NZ ⊢; omega)]; simp) (by simp)
                   (cg.JO hm (wS ho hg fF v7 NZ CI (fun vs wT => zT A.r x0 off v.cells y vs _ (by rw [cZ.length A.r vs x0 wT]; exact NZ) hp sB wT)))
           | dp =>
             rw [hm] at hz; simp only [Md.Ct, cond_false] at hz; unfold cg at fF; rw [hm] at fF; obtain ⟨gg, GQ, fF⟩ := fF
             cases v7 : A.xs[i]? with
             | none => simp [v7, N.val] at hz
             | some x0 =>
               simp only [v7] at hz; change (match kC A.r x0 off v.cells with | some y => N.done (bP st a' j (some (A.put (A.xs.set i y)))) | none => N.fail).val = some bf at hz
               cases hp : kC A.r x0 off v.cells with
               | none => simp [hp, N.val] at hz
               | some y =>
                 simp only [hp, N.val, Option.some.injEq] at hz; subst hz; have DR := sB.1; have NZ : off + uv.cells.toList.length ≤ A.r.width := by
                   rw [← DR]; exact tg A.r x0 off v.cells hp (by intro e; rw [e] at DR; simp at DR; simp at hlen; omega)
                 refine ⟨_, mM hT hn w b (o + i * A.r.width + off) uv hlen Bn hg (by omega), c, ?_⟩; refine h.wQ zP zQ gG iA hg (by rw [List.size_toArray, gK (by simp at NZ ⊢; omega)]; simp) (by simp) ?_; unfold cg; show match A.md with | .sh => _ | .dp => _ | .ho _ => _
                 rw [hm]; refine ⟨gg, GQ, fun i' x' vn => ?_⟩; obtain ⟨vs, q1, q2⟩ := vN hg (Q := fun i vs x => dD w (fun p k => c.own k = some (.sp a' j) ∧ gg k = p) A.r [i] 0 vs x) (fun i x hx => by
                   obtain ⟨vs, q1, q2⟩ := (jN _ _ _ _ _ _).1 (fF i x hx); exact ⟨vs, q1, dD.length _ _ _ _ _ q2, q2⟩) v7 NZ CI (fun vs wG wT => zY A.r [i] 0 x0 off v.cells y vs _ (by rw [wG]; exact NZ) hp sB wT) i' x' vn
                 refine (jN _ _ _ _ _ _).2 ⟨vs, q1, dD.go _ [i'] [i'] (fun q k hk => ⟨setRow_other w b k _ ?_, hk⟩) 0 vs x' q2⟩
                 rintro rfl
                 rw [GQ] at hk; simp at hk
         | true =>
           rw [hw] at hz; simp only [cond_true] at hz; rw [Bool.and_eq_true, Bool.and_eq_true] at hw; have hnW := Nat.eq_of_beq_eq_true hw.1.1; have X3 := Nat.eq_of_beq_eq_true hw.2; subst X3; have Ff : uv.cells.toList.length = A.r.width := by rw [hlen, hnW]
           have SK : ∀ vs : List Value, vs.length = A.r.width → ck vs 0 uv.cells.toList = uv.cells.toList := by
             intro vs wG; unfold ck; rw [List.drop_eq_nil_of_le (by omega)]; simp
           cases hm : A.md with
           | ho q0 =>
             rw [hm] at hz; simp only at hz
             cases N0 : hJ st A.r v.cells with
             | none => rw [N0] at hz; simp [N.val] at hz
             | some pq =>
               obtain ⟨x1, m⟩ := pq; rw [N0] at hz; simp only at hz; obtain ⟨L8, h1⟩ := dJ hz; clear hz; rw [Bool.and_eq_true] at L8; have FB := nj L8.1; have Jn : (a', j) ∉ dX m := by
                 intro zZ; have := List.all_eq_true.1 L8.2 _ zZ; simp at this
               obtain ⟨X4, N1⟩ : Nat.beq i q0 = true ∧ (N.row A.r A.xs[i]? (fun _ => N.done (bP (ij st (dX m)) a' j (some { A.put (A.xs.set i x1) with md := .dp })))).val = some bf := by
                 cases hb : Nat.beq i q0 with
                 | true => rw [hb] at h1; exact ⟨rfl, h1⟩
                 | false => rw [hb] at h1; cases h1
               have X4 := Nat.eq_of_beq_eq_true X4; clear h1; have h1 := N1; clear N1; subst X4
               cases v7 : A.xs[i]? with
               | none => simp [v7, N.val] at h1
               | some x0 =>
                 simp only [v7] at h1; change some _ = some bf at h1; obtain rfl := Option.some.inj h1; obtain ⟨hml, hmo, G, hG⟩ := wV h A.r v.cells _ sB N0; unfold cg at fF; rw [hm] at fF; obtain ⟨gg, GQ, fF⟩ := fF gG; obtain ⟨zk, zl, L9, _, _⟩ := lf (dX m) h; have hR := zk.iW zl a' j; obtain ⟨Ng, g1, g2⟩ := L9 a' j sl A Jn zP zQ; have JQ : ∀ n ∈ dX m, Lb.sp a' j ≠ .sp n.1 n.2 := by
                   intro n hn e; injection e with e1 e2; exact Jn (by rw [show (a', j) = n from Prod.ext e1 e2]; exact hn)
                 obtain ⟨g', p1, p2⟩ := xP (c := c) FB G gg [i] (.sp a' j) JQ; have JR : ∀ k, c.own k = some (.sp a' j) → (c.iW (dX m) (.sp a' j)).own k = some (.sp a' j) := by
                   intro k hk; rw [Cz.oH (fun n hn e => by rw [hk] at e; exact JQ n hn (Option.some.inj e))]; exact hk
                 refine ⟨_, mM hT hn w b (o + i * A.r.width + 0) uv hlen Bn hg (by omega), c.iW (dX m) (.sp a' j), ?_⟩; refine hR.BI (A := A) (ys := A.xs.set i x1) (md' := .dp) g1 g2 gG iA hg (by rw [List.size_toArray, gK (by simp at Ff ⊢; omega)]; simp) (by simp) ?_; unfold cg; show ∃ g, _; refine ⟨g', by rw [p1 b ho]; exact GQ, fun i' x' vn => ?_⟩; have N2 : ∀ q k, g' k = [i'] ++ q → k ≠ b := by
                   rintro q k hk rfl
                   rw [p1 k ho, GQ] at hk; simp at hk
                 obtain ⟨vs, q1, q2⟩ := Bj hg (Q := fun i vs x => dD w (fun p k => (c.iW (dX m) (.sp a' j)).own k = some (.sp a' j) ∧ g' k = p) A.r [i] 0 vs x) (fun i x ik hx => by
                   obtain ⟨vs, q1, q2⟩ := (jN _ _ _ _ _ _).1 (fF i x ik hx); exact ⟨vs, q1, dD.length _ _ _ _ _ q2, dD.go _ [i] [i] (fun q k hk => ⟨rfl, JR k hk.1, by rw [p1 k hk.1]; exact hk.2⟩) 0 vs x q2⟩) v7 Ff CI (by
                     refine hG _ [i] 0 fun col n k hc hk => ⟨Cz.ni (kF hc) hk, ?_⟩
                     rw [p2 col n k hc hk, Nat.zero_add]) i' x' vn
                 exact (jN _ _ _ _ _ _).2 ⟨vs, q1, dD.go _ [i'] [i'] (fun q k hk => ⟨setRow_other w b k _ (N2 q k hk.2), hk⟩) 0 vs x' q2⟩
           | sh =>
             rw [hm] at hz; simp only at hz; have fF := (cg.sh hm).1 fF; obtain ⟨x1, m, h1, h2, h3⟩ := wO h A.r v.cells _ sB _ hz; obtain ⟨L8, h1⟩ := dJ h1
             cases v7 : A.xs[i]? with
             | none => simp [v7, N.val] at h1
             | some x0 =>
               simp only [v7] at h1; change some _ = some bf at h1; obtain rfl := Option.some.inj h1; have Jn : (a', j) ∉ m := by
                 intro zZ; have := List.all_eq_true.1 L8 _ zZ; simp at this
               have hf := h.freeze m; obtain ⟨Ng, g1, g2⟩ := zW m zP zQ Jn; have N3 : (c.drop m).lc a' j = .at b o cap := by rw [(Cz.GO m c).1]; exact iA
               have ho' : (c.drop m).own b = some (.sp a' j) := Cz.BH m c b ho (fun p hp => by
                 intro e; injection e with e1 e2; exact Jn (by rw [e1, e2]; exact hp))
               have JS : ∀ (i : Nat) x, A.xs[i]? = some x → dt w (c.drop m).ok A.r b (o + i * A.r.width) x := fun i x hx =>
                 dt.stays (Fw.freeze w m c st).stays _ _ _ x rfl (fF i x hx)
               have HG : cZ w (c.drop m).ok A.r uv.cells.toList x1 := h3 _ (fun k hk => Cz.wN m c k hk) (fun p hp k hk => Cz.zB m c k hk hp); refine ⟨_, mM hT hn w b (o + i * A.r.width + 0) uv hlen Bn hg (by omega), c.drop m, ?_⟩; refine hf.wQ g1 g2 gG N3 hg (by rw [List.size_toArray, gK (by simp at Ff ⊢; omega)]; simp) (by simp) (cg.JO hm ?_); refine wS ho' hg JS v7 (k := 0) (by omega) CI (fun vs wT => ?_); rw [SK vs (cZ.length A.r vs x0 wT)]; exact HG
           | dp =>
             rw [hm] at hz; simp only at hz
             cases N0 : hJ st A.r v.cells with
             | none => rw [N0] at hz; simp [N.val] at hz
             | some pq =>
               obtain ⟨x1, m⟩ := pq; rw [N0] at hz; simp only at hz; obtain ⟨L8, h1⟩ := dJ hz; clear hz; rw [Bool.and_eq_true] at L8; have FB := nj L8.1; have Jn : (a', j) ∉ dX m := by
                 intro zZ; have := List.all_eq_true.1 L8.2 _ zZ; simp at this
               cases v7 : A.xs[i]? with
               | none => simp [v7, N.val] at h1
               | some x0 =>
                 simp only [v7] at h1; change some _ = some bf at h1; obtain rfl := Option.some.inj h1; obtain ⟨hml, hmo, G, hG⟩ := wV h A.r v.cells _ sB N0; unfold cg at fF; rw [hm] at fF; obtain ⟨gg, GQ, fF⟩ := fF; obtain ⟨zk, zl, L9, _, _⟩ := lf (dX m) h; have hR := zk.iW zl a' j; obtain ⟨Ng, g1, g2⟩ := L9 a' j sl A Jn zP zQ; have JQ : ∀ n ∈ dX m, Lb.sp a' j ≠ .sp n.1 n.2 := by
                   intro n hn e; injection e with e1 e2; exact Jn (by rw [show (a', j) = n from Prod.ext e1 e2]; exact hn)
                 obtain ⟨g', p1, p2⟩ := xP (c := c) FB G gg [i] (.sp a' j) JQ; have JR : ∀ k, c.own k = some (.sp a' j) → (c.iW (dX m) (.sp a' j)).own k = some (.sp a' j) := by
                   intro k hk; rw [Cz.oH (fun n hn e => by rw [hk] at e; exact JQ n hn (Option.some.inj e))]; exact hk
                 refine ⟨_, mM hT hn w b (o + i * A.r.width + 0) uv hlen Bn hg (by omega), c.iW (dX m) (.sp a' j), ?_⟩; refine hR.wQ g1 g2 gG iA hg (by rw [List.size_toArray, gK (by simp at Ff ⊢; omega)]; simp) (by simp) ?_; unfold cg; show match A.md with | .sh => _ | .dp => _ | .ho _ => _
                 rw [hm]; refine ⟨g', by rw [p1 b ho]; exact GQ, fun i' x' vn => ?_⟩; have N2 : ∀ q k, g' k = [i'] ++ q → k ≠ b := by
                   rintro q k hk rfl
                   rw [p1 k ho, GQ] at hk; simp at hk
                 obtain ⟨vs, q1, q2⟩ := vN hg (Q := fun i vs x => dD w (fun p k => (c.iW (dX m) (.sp a' j)).own k = some (.sp a' j) ∧ g' k = p) A.r [i] 0 vs x) (fun i x hx => by
                   obtain ⟨vs, q1, q2⟩ := (jN _ _ _ _ _ _).1 (fF i x hx); exact ⟨vs, q1, dD.length _ _ _ _ _ q2, dD.go _ [i] [i] (fun q k hk => ⟨rfl, JR k hk.1, by rw [p1 k hk.1]; exact hk.2⟩) 0 vs x q2⟩) v7 (k := 0) (us := uv.cells.toList) (by omega) CI (fun vs wG _ => by
                     rw [SK vs wG]; refine hG _ [i] 0 fun col n k hc hk => ⟨Cz.ni (kF hc) hk, ?_⟩
                     rw [p2 col n k hc hk, Nat.zero_add]) i' x' vn
                 exact (jN _ _ _ _ _ _).2 ⟨vs, q1, dD.go _ [i'] [i'] (fun q k hk => ⟨setRow_other w b k _ (N2 q k hk.2), hk⟩) 0 vs x' q2⟩
end Go.TM
namespace Go.TM
open Go Go.RowKit
theorem Fw.heap {c : Cz} {st : St} {w w' : World} (hh : w'.heap = w.heap) : Fw c st w c st w' where
 stays := ⟨by rw [hh]; exact Nat.le_refl _, fun b _ _ => by rw [hh], fun _ _ h => h⟩
 refs _ _ _ A' _ h := ⟨A', h, rfl, rfl, rfl, fun _ => ⟨rfl, fun _ _ _ _ => by rw [hh]⟩⟩
 zg _ _ nc _ h := ⟨⟨nc, h⟩, rfl⟩
 gA _ := Nat.le_refl _
 gB _ := Nat.le_refl _
 gE _ := Nat.le_refl _
theorem Rel.heap {w0 : World} {mu : Mu} {c : Cz} {st : St} {a : Act} {w w' : World} (h : Rel w0 mu c st a w) (hh : w'.heap = w.heap) (ho : w'.os = w.os ∧ w'.tape = w.tape ∧ w'.output = w.output) :
   Rel w0 mu c st a w' where
 fp t := (Fw.heap hh).m8 (h.fp t)
 boxes s sl cs hs hb := (h.boxes s sl cs hs hb).go (Fw.heap hh) rfl rfl (by rw [hh])
 aP s j sl A hs hA := (h.aP s j sl A hs hA).go (Fw.heap (c := c) (st := st) hh).stays rfl (fun b _ => ⟨by rw [hh], rfl⟩)
 owned b l hb := by rw [hh]; exact h.owned b l hb
 free := h.free
 kept := ⟨ho.1.trans h.kept.1, ho.2.1.trans h.kept.2.1, ho.2.2.trans h.kept.2.2.1, by rw [hh]; exact h.kept.2.2.2⟩
 old k hk hm := by rw [hh]; exact h.old k hk hm
 ed p hp := (Fw.heap hh).ed (h.ed p hp)
 plain := h.plain
theorem Rel.drew {w0 : World} {mu : Mu} {c : Cz} {st : St} {a : Act} {w : World} (h : Rel w0 mu c st a w) : Rel w0 mu c st a w.drew := h.heap rfl ⟨rfl, rfl, rfl⟩
theorem iV.length : (r : RT) → (vs : List Value) → iV r vs → vs.length = r.width
 | .nil, vs, h => by simp only [iV] at h; subst h; rfl
 | .cons (.int _) r, vs, ⟨l, h, h'⟩ => by subst h; simp [RT.width, iV.length r l h']
 | .cons .bool r, vs, ⟨l, h, h'⟩ => by subst h; simp [RT.width, iV.length r l h']
 | .cons .str r, vs, ⟨l, h, h'⟩ => by subst h; simp [RT.width, iV.length r l h']
 | .cons (.sl _) r, vs, ⟨l, h, h'⟩ => by subst h; simp [RT.width, iV.length r l h']
theorem Rz.cells {w : World} {ok : Nat → Prop} {r : RT} {u : Value} {ys : List (ar r)} (h : Rz w ok r u ys) :
   (ys = [] ∧ (u = .slice none 0 0 ∨ ∃ a c, u = .slice (some a) 0 c)) ∨
   (ys ≠ [] ∧ ∃ a c vs, u = .slice (some a) ys.length c ∧ bt w ok r vs ys ∧ ∀ (j : Nat) v, vs[j]? = some v → w.cell? (a.add j) = some v) := by
 rcases h with ⟨rfl, rfl⟩ | ⟨a, c, rfl, hs, hr⟩
 · exact .inl ⟨rfl, .inl rfl⟩
 · by_cases e : ys = []
   · subst e; exact .inl ⟨rfl, .inr ⟨a, c, rfl⟩⟩
   · obtain ⟨vs, h1, h2⟩ := mN a.block a.off ys hr; refine .inr ⟨e, a, c, vs, rfl, h2, fun j v hv => ?_⟩; have : a = ⟨a.block, a.off, none⟩ := by have := hs e; cases a; simp at this ⊢; exact this
     rw [this, Addr.add_mid]; exact h1 j v hv
theorem wa {P : Program} {T : la} (hT : gq P T) {w : World} {t ty : Nat} {r : RT} {bytes : Nat} (ht : T.elem t = some (r, bytes)) {ux uy : Value} {nx ny : Nat} {vx vy : List Value} {xb : Option Nat}
   (hb : (nx + ny) * bytes ≤ lim) (Fg : vx.length = nx * r.width) (DE : vy.length = ny * r.width) (oy : ∀ u ∈ vy, u.oneCell' = true)
   (hy : (ny = 0 ∧ (uy = .slice none 0 0 ∨ ∃ a c, uy = .slice (some a) 0 c)) ∨ (ny ≠ 0 ∧ ∃ a c, uy = .slice (some a) ny c ∧ ∀ (j : Nat) v, vy[j]? = some v → w.cell? (a.add j) = some v))
   (hx : (xb = none ∧ ux = .slice none 0 0 ∧ nx = 0) ∨ ∃ b off lo cap n ad cur te, xb = some b ∧ ux = .slice (some ad) nx n ∧ nx ≤ n ∧ lo + n ≤ cap ∧ (n ≠ 0 → ad = ⟨b, off + lo * r.width, none⟩) ∧
     w.heap[b]? = some (.cells cur te (0, 0)) ∧ off + cap * r.width ≤ cur.size ∧ w.rangeAt b (off + lo * r.width) vx) :
   ∃ v w', (Builtin.append_ #[t, t] ty #[ux, uy]).run P w = .ok v w' ∧ (w'.os = w.os ∧ w'.tape = w.tape ∧ w'.output = w.output ∧ w.heap.size ≤ w'.heap.size) ∧
     ((nx = 0 ∧ ny = 0 ∧ w' = w ∧ v = .slice none 0 0) ∨ ∃ B o cp cur te, v.oneCell' = true ∧ jx (.at B o cp) r.width 0 (nx + ny) v ∧ nx + ny ≤ cp ∧ w'.heap[B]? = some (.cells cur te (0, 0)) ∧ o + cp * r.width ≤ cur.size ∧
       w'.rangeAt B o (vx ++ vy) ∧ (∀ k, k < w.heap.size → k ≠ B → w'.heap[k]? = w.heap[k]?) ∧ (w.heap.size ≤ B ∨ xb = some B)) := by
 obtain ⟨e, i, z, hu, hi, mj, Bo, SL, GR, hz, HH⟩ := hT.elem t r bytes ht; have DS : z.cells.size = r.width := by have := iV.length r _ HH; simpa using this
 have Ma : (nx + ny) * bytes ≤ 140737488355328 := by unfold lim at hb; omega
 have acM : nx + ny ≤ 140737488355328 := by
   have : (nx + ny) * 1 ≤ (nx + ny) * bytes := Nat.mul_le_mul_left _ GR; omega
 have grown : ∀ (old : Nat) (run : (Builtin.append_ #[t, t] ty #[ux, uy]).run P w = .ok (.slice (some ⟨w.heap.size, 0, none⟩) (nx + ny) (grownCap w (nx + ny) old e)) (w.drew.alloc (.cells (vx.toArray ++ vy.toArray ++ Builtin.zeroCells z.cells (grownCap w (nx + ny) old e - (nx + ny))) e (0, 0)))),
     ∃ v w', (Builtin.append_ #[t, t] ty #[ux, uy]).run P w = .ok v w' ∧ (w'.os = w.os ∧ w'.tape = w.tape ∧ w'.output = w.output ∧ w.heap.size ≤ w'.heap.size) ∧
     ((nx = 0 ∧ ny = 0 ∧ w' = w ∧ v = .slice none 0 0) ∨ ∃ B o cp cur te, v.oneCell' = true ∧ jx (.at B o cp) r.width 0 (nx + ny) v ∧ nx + ny ≤ cp ∧ w'.heap[B]? = some (.cells cur te (0, 0)) ∧ o + cp * r.width ≤ cur.size ∧
       w'.rangeAt B o (vx ++ vy) ∧ (∀ k, k < w.heap.size → k ≠ B → w'.heap[k]? = w.heap[k]?) ∧ (w.heap.size ≤ B ∨ xb = some B)) := by
   intro old run; have hge := grownCap_ge w (nx + ny) old e; have hmul : grownCap w (nx + ny) old e * r.width = (nx + ny) * r.width + (grownCap w (nx + ny) old e - (nx + ny)) * r.width := by
     rw [← Nat.add_mul]; congr 1; omega
   have ud := heap_alloc_new w.drew (.cells (vx.toArray ++ vy.toArray ++ Builtin.zeroCells z.cells (grownCap w (nx + ny) old e - (nx + ny))) e (0, 0)); refine ⟨_, _, run, ⟨rfl, rfl, rfl, by simp⟩, .inr ⟨w.heap.size, 0, grownCap w (nx + ny) old e, _, e, rfl, ⟨_, _, rfl, hge, by omega, fun _ => by simp⟩, hge, ud, ?_, ?_, fun k hk _ => heap_alloc_old w.drew _ k hk, .inl (Nat.le_refl _)⟩⟩
   · rw [Array.size_append, Array.size_append, List.size_toArray, List.size_toArray, size_zeroCells, DS, Fg, DE, hmul, Nat.add_mul]; omega
   · intro q v hv; rw [show w.heap.size = w.drew.heap.size from rfl, cell_of_row _ _ _ _ e (0, 0) ud, Nat.zero_add]; have hq : q < (vx ++ vy).length := (List.getElem?_eq_some_iff.1 hv).1; have e1 : (vx.toArray ++ vy.toArray ++ Builtin.zeroCells z.cells (grownCap w (nx + ny) old e - (nx + ny))).toList =
         (vx ++ vy) ++ (Builtin.zeroCells z.cells (grownCap w (nx + ny) old e - (nx + ny))).toList := by simp
     rw [← Array.getElem?_toList, e1, List.getElem?_append_left hq]; exact hv
 rcases hy with ⟨rfl, Xh⟩ | ⟨N4, ay, cy, rfl, SM⟩
 · -- nothing is put behind
   have X5 : vy = [] := by simpa using DE
   subst X5; rcases hx with ⟨_, rfl, rfl⟩ | ⟨b, off, lo, cap, n, ad, cur, te, HI, rfl, hle, wM, DF, hg, N5, hr⟩
   · exact ⟨_, w, run_append_nothing hu hi w none 0 0 (Nat.le_refl _) uy Xh, ⟨rfl, rfl, rfl, Nat.le_refl _⟩, .inl ⟨rfl, rfl, rfl, rfl⟩⟩
   · refine ⟨_, w, run_append_nothing hu hi w (some ad) nx n hle uy Xh, ⟨rfl, rfl, rfl, Nat.le_refl _⟩, .inr ⟨b, off + lo * r.width, n, cur, te, rfl, ⟨ad, n, rfl, hle, by omega, fun hn => by rw [DF hn]; simp⟩, hle, hg, ?_, by simpa using hr, fun _ _ _ => rfl, .inr HI⟩⟩; have : (lo + n) * r.width ≤ cap * r.width := Nat.mul_le_mul_right _ wM; rw [Nat.add_mul] at this; omega
 · have hyl : 0 < ny := Nat.pos_of_ne_zero N4; rcases hx with ⟨_, rfl, rfl⟩ | ⟨b, off, lo, cap, n, ad, cur, te, HI, rfl, hle, wM, DF, hg, N5, Xi⟩
   · have X6 : vx = [] := by simpa using Fg
     subst X6; have hr := run_append_nil (P := P) w t ty e i z hu hi hz ay ny cy vy (by rw [DE, mj]) SM hyl (by omega) (by rw [SL]; simp at Ma; omega); refine grown 0 ?_; simpa using hr
   · by_cases sA : nx + ny ≤ n
     · -- it aez aeA Fk room Jx there is
       have LO : n ≠ 0 := by omega
       rw [DF LO]; have CI : off + lo * r.width + n * r.width ≤ cur.size := by
         have : (lo + n) * r.width ≤ cap * r.width := Nat.mul_le_mul_right _ wM; rw [Nat.add_mul] at this; omega
       have rR : off + lo * r.width + nx * r.width + vy.length ≤ cur.size := by
         have : (nx + ny) * r.width ≤ n * r.width := Nat.mul_le_mul_right _ sA; rw [Nat.add_mul] at this; omega
       have hr := Bm (P := P) (ty := ty) hu hi w b (off + lo * r.width) nx n cur te hg ay ny cy vy (by rw [DE, mj]) SM oy sA (by rw [mj]; exact rR); rw [mj] at hr; have L6 := setRow_heap w b cur (ck cur.toList (off + lo * r.width + nx * r.width) vy).toArray te (0, 0) hg; have rf : ∀ k, k ≠ b → (w.setRow b (ck cur.toList (off + lo * r.width + nx * r.width) vy).toArray).heap[k]? = w.heap[k]? := fun k hk => setRow_other w _ k _ hk
       refine ⟨_, _, hr, ⟨rfl, rfl, rfl, by simp [World.setRow]⟩, .inr ⟨b, off + lo * r.width, n, _, te, rfl, ⟨_, n, rfl, sA, by omega, fun _ => by simp⟩, sA, L6, ?_, ?_, fun k _ hk => rf k hk, .inr HI⟩⟩
       · rw [List.size_toArray, gK (by simpa using rR)]; simpa using CI
       · intro q v hv; rw [cell_of_row _ _ _ _ te (0, 0) L6]; simp only [List.getElem?_toArray]; rw [kE (by simpa using rR)]; rw [List.getElem?_append] at hv
         by_cases hq : q < vx.length
         · rw [if_pos hq] at hv; rw [if_neg (by omega)]; have := Xi q v hv; rw [cell_of_row w b _ cur te (0, 0) hg] at this; simpa using this
         · rw [if_neg hq] at hv; have JT : q - vx.length < vy.length := (List.getElem?_eq_some_iff.1 hv).1; rw [if_pos (by omega), show off + lo * r.width + q - (off + lo * r.width + nx * r.width) = q - vx.length by omega]; exact hv
     · -- it Sy
       have hr := run_append_grow (P := P) w t ty e i z hu hi hz ad nx n vx (by rw [Fg, mj]) (fun q v hv => by
           have hq : q < vx.length := (List.getElem?_eq_some_iff.1 hv).1; have LO : n ≠ 0 := by
             intro e0; have : nx = 0 := by omega
             rw [this] at Fg; simp at Fg; rw [Fg] at hq; simp at hq
           rw [DF LO, Addr.add_mid]; exact Xi q v hv)
         ay ny cy vy (by rw [DE, mj]) SM (by omega) (by omega) (growslice_fits (by omega) (by rw [SL]; exact Ma))
       exact grown n hr
theorem BK {P : Program} {T : la} (hT : gq P T) {w0 : World} {mu : Mu} {c : Cz} {zi : St} {a : Act} {w : World} (h1 : Rel w0 mu c zi a w)
   {t ty : Nat} {r : RT} {bytes : Nat} (ht : T.elem t = some (r, bytes)) {ux uy : Value} {xs ys : List (ar r)} {d : Nat} {s0 : Sl} (jy : nth zi d = some s0) (hd : d < a.tmps.size)
   (hb : (xs.length + ys.length) * bytes ≤ lim) (hy : Rz w c.ok r uy ys)
   (hx : (ux = .slice none 0 0 ∧ xs = []) ∨ ∃ s j b off lo cap n ad, c.own b = some (.sp s j) ∧ (∀ sl A, nth zi s = some sl → nth sl.aP j ≠ some (some A)) ∧
     ux = .slice (some ad) xs.length n ∧ xs.length ≤ n ∧ lo + n ≤ cap ∧ (n ≠ 0 → ad = ⟨b, off + lo * r.width, none⟩) ∧
     (∃ cur ty, w.heap[b]? = some (.cells cur ty (0, 0)) ∧ off + cap * r.width ≤ cur.size) ∧ ∀ (i : Nat) x, xs[i]? = some x → dt w c.ok r b (off + (lo + i) * r.width) x) :
   ∃ v w', (Builtin.append_ #[t, t] ty #[ux, uy]).run P w = .ok v w' ∧
     ∃ c', Rel w0 mu c' (m6 (fun s => { s with v := .one (.ref d 0 (s0.ag + 1) .full), aP := [some { r := r, own := true, xs := xs ++ ys }], ag := s0.ag + 1 }) zi d) (a.put (some d) v) w' := by
 obtain ⟨vy, DE, LP⟩ : ∃ vy, bt w c.ok r vy ys ∧ ((ys.length = 0 ∧ (uy = .slice none 0 0 ∨ ∃ a c, uy = .slice (some a) 0 c)) ∨ (ys.length ≠ 0 ∧ ∃ a c, uy = .slice (some a) ys.length c ∧ ∀ (j : Nat) v, vy[j]? = some v → w.cell? (a.add j) = some v)) := by
   rcases hy.cells with ⟨rfl, Xh⟩ | ⟨N4, ay, cy, vy, rfl, DE, SM⟩
   · exact ⟨[], rfl, .inl ⟨rfl, Xh⟩⟩
   · exact ⟨vy, DE, .inr ⟨fun h => N4 (List.length_eq_zero_iff.1 h), ay, cy, rfl, SM⟩⟩
 obtain ⟨vx, xb, Fg, HI, vn⟩ : ∃ (vx : List Value) (xb : Option Nat), bt w c.ok r vx xs ∧ (∀ b, xb = some b → ∃ s j, c.own b = some (.sp s j) ∧ ∀ sl A, nth zi s = some sl → nth sl.aP j ≠ some (some A)) ∧
     ((xb = none ∧ ux = .slice none 0 0 ∧ xs.length = 0) ∨ ∃ b off lo cap n ad cur te, xb = some b ∧ ux = .slice (some ad) xs.length n ∧ xs.length ≤ n ∧ lo + n ≤ cap ∧ (n ≠ 0 → ad = ⟨b, off + lo * r.width, none⟩) ∧
     w.heap[b]? = some (.cells cur te (0, 0)) ∧ off + cap * r.width ≤ cur.size ∧ w.rangeAt b (off + lo * r.width) vx) := by
   rcases hx with ⟨rfl, rfl⟩ | ⟨s, j, b, off, lo, cap, n, ad, gG, JU, rfl, hle, wM, DF, ⟨cur, te, hg, N5⟩, fF⟩
   · exact ⟨[], none, rfl, (fun _ e => by cases e), .inl ⟨rfl, rfl, rfl⟩⟩
   · obtain ⟨vx, Xi, Fg⟩ := mN b (off + lo * r.width) xs (fun i x hx => by
       have := fF i x hx; rw [Nat.add_mul] at this; rw [show off + lo * r.width + i * r.width = off + (lo * r.width + i * r.width) by omega]; exact this)
     exact ⟨vx, some b, Fg, fun b' e => by cases e; exact ⟨s, j, gG, JU⟩, .inr ⟨b, off, lo, cap, n, ad, cur, te, rfl, rfl, hle, wM, DF, hg, N5, Xi⟩⟩
 obtain ⟨v, w', rh, rQ, Aa⟩ := wa hT (ty := ty) ht hb (bt.length vx xs Fg) (bt.length vy ys DE) (bt.jc vy ys DE) LP vn; refine ⟨v, w', rh, ?_⟩; rcases Aa with ⟨e1, e2, rfl, rfl⟩ | ⟨B, o, cp, cur, te, v1, v2, hle, hg, mj, hr, rf, hB⟩
 · have : xs = [] := List.length_eq_zero_iff.1 e1; subst this; have : ys = [] := List.length_eq_zero_iff.1 e2; subst this; refine ⟨c.bR d .nil none, h1.place (B := w'.heap.size) (A := { r := r, own := true, xs := [] ++ [] }) jy hd rfl ?_ (fun k _ => by simp [Cz.bR]) (.inr ⟨by simp [Cz.bR], rfl⟩) (.inl (Nat.le_refl _)) ?_ (fun _ _ _ => rfl) ⟨rfl, rfl, rfl, Nat.le_refl _⟩ ?_ rfl ?_⟩
   · intro s j ik; simp [Cz.bR, ik]
   · intro hc; simp [Cz.bR] at hc; have := h1.oF hc; omega
   · unfold cu; simp [Cz.bR]
   · simp [Cz.bR, jx]
 · have JV : B < w'.heap.size := (Array.getElem?_eq_some_iff.1 hg).1; have GS : w.heap.size ≤ B ∨ ∃ s j, c.own B = some (.sp s j) ∧ (s = d ∨ ∀ sl A, nth zi s = some sl → nth sl.aP j ≠ some (some A)) := by
     rcases hB with hB | hB
     · exact .inl hB
     · obtain ⟨s, j, q1, q2⟩ := HI B hB; exact .inr ⟨s, j, q1, .inr q2⟩
   have NU : ∀ k, k < w.heap.size → c.ok k → k ≠ B := by
     rintro k hk gJ rfl
     rcases GS with hB | ⟨s, j, hB, _⟩
     · omega
     · unfold Cz.ok at gJ; rw [hB] at gJ; cases gJ
   have rP : iU w w' c.ok (c.bR d (.at B o cp) (some B)).ok := ⟨rQ.2.2.2, fun k hk gJ => rf k hk (NU k hk gJ), fun k hk gJ => by
     unfold Cz.ok Cz.bR; simp only; rw [if_neg]
     · exact gJ
     · intro e'; exact NU k hk gJ (Option.some.inj e').symm⟩
   refine ⟨c.bR d (.at B o cp) (some B), h1.place (B := B) (A := { r := r, own := true, xs := xs ++ ys }) jy hd rfl ?_ ?_ (.inl (by simp [Cz.bR])) GS (fun _ => JV) rf rQ ?_ v1 ?_⟩
   · intro s j ik; simp [Cz.bR, ik]
   · intro k hk; simp only [Cz.bR]; rw [if_neg (by intro e'; exact hk (Option.some.inj e').symm)]
   · unfold cu; simp only [Cz.bR, and_self, if_true]; refine ⟨trivial, by simpa using hle, ⟨cur, te, hg, mj⟩, (cg.sh rfl).2 ?_⟩; exact rp _ (vx ++ vy) (xs ++ ys) (bt.append vx vy xs ys (bt.stays rP _ _ Fg) (bt.stays rP _ _ DE)) hr
   · simp only [Cz.bR, and_self, if_true, List.length_append]; exact v2
def dk (w : World) (P : List Nat → Nat → Prop) (r : RT) : (i : Nat) → List Value → List (ar r) → Prop
 | _, vs, [] => vs = []
 | i, vs, x :: xs => ∃ l1 l2, vs = l1 ++ l2 ∧ dD w P r [i] 0 l1 x ∧ dk w P r (i + 1) l2 xs
theorem dk.length {w : World} {P : List Nat → Nat → Prop} {r : RT} : (i : Nat) → (vs : List Value) → (xs : List (ar r)) → dk w P r i vs xs → vs.length = xs.length * r.width
 | _, vs, [], h => by simp only [dk] at h; subst h; simp
 | i, vs, x :: xs, h => by
   obtain ⟨l1, l2, rfl, h1, h2⟩ := h; have a1 := dD.length r [i] 0 l1 x h1; have a2 := dk.length (i + 1) l2 xs h2; simp [a1, a2, Nat.add_mul]; omega
theorem dk.append {w : World} {P : List Nat → Nat → Prop} {r : RT} : (i : Nat) → (vs us : List Value) → (xs ys : List (ar r)) → dk w P r i vs xs → dk w P r (i + xs.length) us ys → dk w P r i (vs ++ us) (xs ++ ys)
 | i, vs, us, [], ys, h, k => by simp only [dk] at h; subst h; simpa using k
 | i, vs, us, x :: xs, ys, ⟨l1, l2, e, h1, h2⟩, k => ⟨l1, l2 ++ us, by rw [e, List.append_assoc], h1, dk.append (i + 1) l2 us xs ys h2 (by rw [show i + 1 + xs.length = i + (x :: xs).length by simp; omega]; exact k)⟩
theorem dk.go {w w' : World} {P P' : List Nat → Nat → Prop} {r : RT} (sh : Nat) (hP : ∀ i q b, P ([i] ++ q) b → w'.heap[b]? = w.heap[b]? ∧ P' ([i + sh] ++ q) b) : (i : Nat) → (vs : List Value) → (xs : List (ar r)) → dk w P r i vs xs → dk w' P' r (i + sh) vs xs
 | _, _, [], h => h
 | i, vs, x :: xs, ⟨l1, l2, e, h1, h2⟩ => ⟨l1, l2, e, dD.go r [i] [i + sh] (fun q b hb => hP i q b hb) 0 l1 x h1, by rw [show i + sh + 1 = i + 1 + sh by omega]; exact dk.go sh hP (i + 1) l2 xs h2⟩
theorem dB.one {w : World} {P : List Nat → Nat → Prop} {t : Ty} {p : List Nat} {v : Value} {x : den t} (h : dB w P t p v x) : v.oneCell' = true := by
 cases t with
 | int k => rw [vY.1 h]; rfl
 | bool => rw [s9.1 h]; rfl
 | str => rw [vZ.1 h]; rfl
 | sl r => obtain ⟨lc, _, h1, _⟩ := (uz w P r p v x).1 h; exact h1
theorem dD.one {w : World} {P : List Nat → Nat → Prop} : (r : RT) → (p : List Nat) → (k : Nat) → (vs : List Value) → (x : ar r) → dD w P r p k vs x → ∀ v ∈ vs, v.oneCell' = true
 | .nil, _, _, vs, _, h, v, hv => by simp only [dD] at h; subst h; simp at hv
 | .cons t r, p, k, vs, x, ⟨u, l, e, hx, hr⟩, v, hv => by
   subst e; rcases List.mem_cons.1 hv with rfl | hv
   · exact hx.one
   · exact dD.one r p (k + 1) l x.2 hr v hv
theorem dk.jc {w : World} {P : List Nat → Nat → Prop} {r : RT} : (i : Nat) → (vs : List Value) → (xs : List (ar r)) → dk w P r i vs xs → ∀ v ∈ vs, v.oneCell' = true
 | _, vs, [], h, v, hv => by simp only [dk] at h; subst h; simp at hv
 | i, vs, x :: xs, ⟨l1, l2, e, h1, h2⟩, v, hv => by
   subst e; rcases List.mem_append.1 hv with hv | hv
   · exact dD.one r _ _ l1 x h1 v hv
   · exact dk.jc (i + 1) l2 xs h2 v hv
theorem yG {w : World} {P : List Nat → Nat → Prop} {r : RT} (b : Nat) : (off i0 : Nat) → (xs : List (ar r)) → (∀ (i : Nat) x, xs[i]? = some x → gF w P r [i0 + i] 0 b (off + i * r.width) x) →
   ∃ vs, w.rangeAt b off vs ∧ dk w P r i0 vs xs
 | _, _, [], _ => ⟨[], fun j v h => by simp at h, rfl⟩
 | off, i0, x :: xs, h => by
   obtain ⟨l1, h1, h2⟩ := (jN r [i0] 0 b off x).1 (by have := h 0 x rfl; simpa using this); obtain ⟨l2, h3, h4⟩ := yG b (off + r.width) (i0 + 1) xs (fun i y hy => by
     have := h (i + 1) y (by simpa using hy); rw [Nat.add_mul, Nat.one_mul] at this; rw [show off + r.width + i * r.width = off + (i * r.width + r.width) by omega, show i0 + 1 + i = i0 + (i + 1) by omega]; exact this)
   have hl := dD.length r _ _ l1 x h2; refine ⟨l1 ++ l2, fun j v hv => ?_, l1, l2, rfl, h2, h4⟩; rw [List.getElem?_append] at hv
   by_cases hj : j < l1.length
   · rw [if_pos hj] at hv; exact h1 j v hv
   · rw [if_neg hj] at hv; have := h3 _ v hv; rw [show off + r.width + (j - l1.length) = off + j by omega] at this; exact this
theorem uD {w : World} {P : List Nat → Nat → Prop} {r : RT} {b : Nat} : (off i0 : Nat) → (vs : List Value) → (xs : List (ar r)) → dk w P r i0 vs xs → w.rangeAt b off vs →
   ∀ (i : Nat) x, xs[i]? = some x → gF w P r [i0 + i] 0 b (off + i * r.width) x
 | _, _, _, [], _, _, i, x, h => by simp at h
 | off, i0, vs, y :: xs, ⟨l1, l2, e, h1, h2⟩, hr, i, x, h => by
   subst e; have hl := dD.length r _ _ l1 y h1
   cases i with
   | zero =>
     simp at h; subst h; rw [jN]; refine ⟨l1, fun j v hv => ?_, by simpa using h1⟩; have hj : j < l1.length := (List.getElem?_eq_some_iff.1 hv).1; have := hr j v (by rw [List.getElem?_append, if_pos hj]; exact hv); simpa using this
   | succ i =>
     have := uD (off + r.width) (i0 + 1) l2 xs h2 (fun j v hv => by
       have := hr (l1.length + j) v (by rw [List.getElem?_append, if_neg (by omega)]; simpa using hv); rw [show off + r.width + j = off + (l1.length + j) by omega]; exact this) i x (by simpa using h)
     rw [Nat.add_mul, Nat.one_mul]; rw [show off + (i * r.width + r.width) = off + r.width + i * r.width by omega, show i0 + (i + 1) = i0 + 1 + i by omega]; exact this
theorem Rel.CJ {w0 : World} {mu : Mu} {c : Cz} {st : St} {a : Act} {w : World} (h : Rel w0 mu c st a w) {d : Nat} {s0 : Sl} {r : RT} {xs : List (ar r)} {cur : Array Value} {ty cap : Nat} {P : List Nat → Nat → Prop} {g : Nat → List Nat}
   (jy : nth st d = some s0) (hd : d < a.tmps.size) (hle : xs.length ≤ cap) (mj : cap * r.width ≤ cur.size) {vs : List Value} (wT : dk w P r 0 vs xs) (hP : ∀ i q k, P ([i] ++ q) k → c.own k = some (.sp d 0) ∧ g k = [i] ++ q) (NX : cur.toList.take vs.length = vs) :
   ∃ c', Rel w0 mu c' (m6 (fun s => { s with v := .one (.ref d 0 (s0.ag + 1) .full), aP := [some { r := r, own := true, xs := xs, md := .dp }], ag := s0.ag + 1 }) st d)
     (a.put (some d) (.slice (some ⟨w.heap.size, 0, none⟩) xs.length cap)) (w.alloc (.cells cur ty (0, 0))) := by
 have ud := heap_alloc_new w (.cells cur ty (0, 0)); refine ⟨c.bR d (.at w.heap.size 0 cap) (some w.heap.size), h.place (B := w.heap.size) (A := { r := r, own := true, xs := xs, md := .dp }) jy hd rfl ?_ ?_ (.inl ?_) (.inl (Nat.le_refl _)) (fun _ => by simp) (fun k hk _ => heap_alloc_old w _ k hk)
   ⟨rfl, rfl, rfl, by simp⟩ ?_ rfl ?_⟩
 · intro s j ik; simp [Cz.bR, ik]
 · intro k hk; simp only [Cz.bR]; rw [if_neg (by intro e; exact hk (Option.some.inj e).symm)]
 · simp [Cz.bR]
 · unfold cu; simp only [Cz.bR, and_self, if_true]; refine ⟨trivial, hle, ⟨cur, ty, ud, by simpa using mj⟩, fun k => if k = w.heap.size then [] else g k, by simp, ?_⟩; have hD := dk.go (w' := w.alloc (.cells cur ty (0, 0))) (P' := fun p k => (if some w.heap.size = some k then some (Lb.sp d 0) else c.own k) = some (.sp d 0) ∧ (if k = w.heap.size then [] else g k) = p) 0 (fun i q k hk => by
     obtain ⟨q1, q2⟩ := hP i q k hk; have dC := h.oF q1; refine ⟨heap_alloc_old w _ k dC, ?_, by rw [if_neg (by omega)]; exact q2⟩; rw [if_neg (by intro e; have := Option.some.inj e; omega)]; exact q1) 0 vs xs wT
   have := uD 0 0 vs xs hD (fun j v hv => by
     rw [cell_of_row _ _ _ cur ty (0, 0) ud, Nat.zero_add]; have hj : j < vs.length := (List.getElem?_eq_some_iff.1 hv).1; rw [← NX, List.getElem?_take, if_pos hj] at hv; simpa using hv)
   intro i x hx; have h2 := this i x hx; rw [Nat.zero_add] at h2; exact h2
 · simp only [Cz.bR, and_self, if_true]; exact ⟨_, cap, rfl, hle, by omega, fun _ => by simp⟩
theorem uE {w : World} {P : List Nat → Nat → Prop} : (r : RT) → (p : List Nat) → (k : Nat) → (vs : List Value) → iV r vs → dD w P r p k vs (sv r)
 | .nil, _, _, vs, h => h
 | .cons (.int q) r, p, k, vs, ⟨l, h, h'⟩ => ⟨.int q 0, l, h, vY.2 rfl, uE r p (k + 1) l h'⟩
 | .cons .bool r, p, k, vs, ⟨l, h, h'⟩ => ⟨.bool false, l, h, s9.2 rfl, uE r p (k + 1) l h'⟩
 | .cons .str r, p, k, vs, ⟨l, h, h'⟩ => ⟨.string ByteArray.empty, l, h, vZ.2 rfl, uE r p (k + 1) l h'⟩
 | .cons (.sl q) r, p, k, vs, ⟨l, h, h'⟩ => ⟨.slice none 0 0, l, h, (uz _ _ _ _ _ _).2 ⟨.nil, ⟨rfl, rfl⟩, rfl, .inl ⟨rfl, rfl⟩⟩, uE r p (k + 1) l h'⟩
theorem dk.replicate {w : World} {P : List Nat → Nat → Prop} {r : RT} {vs : List Value} {x : ar r} (h : ∀ i, dD w P r [i] 0 vs x) : (n i : Nat) → dk w P r i ((List.replicate n vs).flatten) (List.replicate n x)
 | 0, _ => rfl
 | n + 1, i => ⟨vs, (List.replicate n vs).flatten, by simp [List.replicate_succ], h i, dk.replicate h n (i + 1)⟩
theorem BL {P : Program} {T : la} (hT : gq P T) {w0 : World} {mu : Mu} {c : Cz} {zi : St} {a : Act} {w : World} (h1 : Rel w0 mu c zi a w)
   {t ty : Nat} {r : RT} {bytes : Nat} (ht : T.elem t = some (r, bytes)) {ux uy : Value} {xs ys : List (ar r)} {vx vy : List Value} {PX PY : List Nat → Nat → Prop} {g : Nat → List Nat} {xb : Option Nat} {d : Nat} {s0 : Sl} (jy : nth zi d = some s0) (hd : d < a.tmps.size)
   (hb : (xs.length + ys.length) * bytes ≤ lim) (Fg : dk w PX r 0 vx xs) (DE : dk w PY r 0 vy ys)
   (hPX : ∀ i q k, PX ([i] ++ q) k → xb ≠ some k ∧ c.own k = some (.sp d 0) ∧ g k = [i] ++ q) (hPY : ∀ i q k, PY ([i] ++ q) k → xb ≠ some k ∧ c.own k = some (.sp d 0) ∧ g k = [i + xs.length] ++ q)
   (hy : (ys.length = 0 ∧ (uy = .slice none 0 0 ∨ ∃ a c, uy = .slice (some a) 0 c)) ∨ (ys.length ≠ 0 ∧ ∃ a c, uy = .slice (some a) ys.length c ∧ ∀ (j : Nat) v, vy[j]? = some v → w.cell? (a.add j) = some v))
   (HI : ∀ b, xb = some b → c.own b = some (.sp d 0))
   (hx : (xb = none ∧ ux = .slice none 0 0 ∧ xs.length = 0) ∨ ∃ b off lo cap n ad cur te, xb = some b ∧ ux = .slice (some ad) xs.length n ∧ xs.length ≤ n ∧ lo + n ≤ cap ∧ (n ≠ 0 → ad = ⟨b, off + lo * r.width, none⟩) ∧
     w.heap[b]? = some (.cells cur te (0, 0)) ∧ off + cap * r.width ≤ cur.size ∧ w.rangeAt b (off + lo * r.width) vx) :
   ∃ v w', (Builtin.append_ #[t, t] ty #[ux, uy]).run P w = .ok v w' ∧
     ∃ c', Rel w0 mu c' (m6 (fun s => { s with v := .one (.ref d 0 (s0.ag + 1) .full), aP := [some { r := r, own := true, xs := xs ++ ys, md := .dp }], ag := s0.ag + 1 }) zi d) (a.put (some d) v) w' := by
 obtain ⟨v, w', rh, rQ, Aa⟩ := wa hT (ty := ty) ht hb (dk.length 0 vx xs Fg) (dk.length 0 vy ys DE) (dk.jc 0 vy ys DE) hy hx; refine ⟨v, w', rh, ?_⟩; rcases Aa with ⟨e1, e2, rfl, rfl⟩ | ⟨B, o, cp, cur, te, v1, v2, hle, hg, mj, hr, rf, hB⟩
 · have : xs = [] := List.length_eq_zero_iff.1 e1; subst this; have : ys = [] := List.length_eq_zero_iff.1 e2; subst this; refine ⟨c.bR d .nil none, h1.place (B := w'.heap.size) (A := { r := r, own := true, xs := [] ++ [], md := .dp }) jy hd rfl ?_ (fun k _ => by simp [Cz.bR]) (.inr ⟨by simp [Cz.bR], rfl⟩) (.inl (Nat.le_refl _)) ?_ (fun _ _ _ => rfl) ⟨rfl, rfl, rfl, Nat.le_refl _⟩ ?_ rfl ?_⟩
   · intro s j ik; simp [Cz.bR, ik]
   · intro hc; simp [Cz.bR] at hc; have := h1.oF hc; omega
   · unfold cu; simp [Cz.bR]
   · simp [Cz.bR, jx]
 · have JV : B < w'.heap.size := (Array.getElem?_eq_some_iff.1 hg).1; have GS : w.heap.size ≤ B ∨ ∃ s j, c.own B = some (.sp s j) ∧ (s = d ∨ ∀ sl A, nth zi s = some sl → nth sl.aP j ≠ some (some A)) := by
     rcases hB with hB | hB
     · exact .inl hB
     · exact .inr ⟨d, 0, HI B hB, .inl rfl⟩
   have ik : ∀ k, c.own k = some (.sp d 0) → xb ≠ some k → k ≠ B := by
     rintro k hk hx rfl
     rcases hB with hB | hB
     · have := h1.oF hk; omega
     · exact hx hB
   refine ⟨c.bR d (.at B o cp) (some B), h1.place (B := B) (A := { r := r, own := true, xs := xs ++ ys, md := .dp }) jy hd rfl ?_ ?_ (.inl (by simp [Cz.bR])) GS (fun _ => JV) rf rQ ?_ v1 ?_⟩
   · intro s j ik; simp [Cz.bR, ik]
   · intro k hk; simp only [Cz.bR]; rw [if_neg (by intro e'; exact hk (Option.some.inj e').symm)]
   · unfold cu; simp only [Cz.bR, and_self, if_true]; refine ⟨trivial, by simpa using hle, ⟨cur, te, hg, mj⟩, fun k => if k = B then [] else g k, by simp, ?_⟩; have go : ∀ (PP : List Nat → Nat → Prop) (sh : Nat), (∀ i q k, PP ([i] ++ q) k → xb ≠ some k ∧ c.own k = some (.sp d 0) ∧ g k = [i + sh] ++ q) → ∀ i q k, PP ([i] ++ q) k → w'.heap[k]? = w.heap[k]? ∧
         ((if B = k then some (Lb.sp d 0) else c.own k) = some (.sp d 0) ∧ (if k = B then [] else g k) = [i + sh] ++ q) := by
       intro PP sh hPP i q k hk; obtain ⟨q1, q2, q3⟩ := hPP i q k hk; have := ik k q2 q1; refine ⟨rf k (h1.oF q2) this, ?_, by rw [if_neg this]; exact q3⟩; rw [if_neg (fun e => this e.symm)]; exact q2
     have hD := dk.append 0 vx vy xs ys (dk.go (w' := w') (P' := fun p k => (if B = k then some (Lb.sp d 0) else c.own k) = some (.sp d 0) ∧ (if k = B then [] else g k) = p) 0 (go PX 0 (fun i q k hk => hPX i q k hk)) 0 vx xs Fg) (by
       rw [Nat.zero_add]; have := dk.go (w' := w') (P' := fun p k => (if B = k then some (Lb.sp d 0) else c.own k) = some (.sp d 0) ∧ (if k = B then [] else g k) = p) xs.length (go PY xs.length hPY) 0 vy ys DE
       rwa [Nat.zero_add] at this)
     have := uD o 0 (vx ++ vy) (xs ++ ys) hD hr; intro i x hx; have h2 := this i x hx; rw [Nat.zero_add] at h2; simpa using h2
   · simp only [Cz.bR, and_self, if_true, List.length_append]; exact v2
end Go.TM
