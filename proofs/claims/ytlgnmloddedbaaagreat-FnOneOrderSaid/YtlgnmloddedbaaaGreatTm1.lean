/- A machine over trees: an evaluator of the code, and that what it finds is so; part 1. -/
import GoSem.Core.Value
import GoSem.Core.Code
import GoSem.Core.Program
import GoSem.Core.View
import Derived.Below
import Derived.Laws.AppendOwn
import Derived.Laws.Cells
import Derived.Laws.Rows
import Derived.Deep.MidRow
import Derived.Laws.CopyRow
set_option linter.unusedSimpArgs false
set_option linter.unusedVariables false
namespace Go.TM
open Go
mutual
inductive Ty where
 | int (k : IntKind)
 | bool
 | str
 | sl (r : RT)
inductive RT where
 | nil
 | cons (t : Ty) (r : RT)
end
mutual
def den : Ty → Type
 | .int _ => Int
 | .bool => Bool
 | .str => ByteArray
 | .sl r => List (ar r)
def ar : RT → Type
 | .nil => Unit
 | .cons t r => den t × ar r
end
mutual
def Ty.eq? : (a b : Ty) → Option (PLift (a = b))
 | .int k, .int l => if h : k = l then some ⟨by rw [h]⟩ else none
 | .bool, .bool => some ⟨rfl⟩
 | .str, .str => some ⟨rfl⟩
 | .sl r, .sl s => match RT.eq? r s with | some ⟨h⟩ => some ⟨by rw [h]⟩ | none => none
 | _, _ => none
def RT.eq? : (a b : RT) → Option (PLift (a = b))
 | .nil, .nil => some ⟨rfl⟩
 | .cons t r, .cons u s => match Ty.eq? t u, RT.eq? r s with
   | some ⟨h⟩, some ⟨g⟩ => some ⟨by rw [h, g]⟩
   | _, _ => none
 | _, _ => none
end
def bw {r : RT} (s : RT) (xs : List (ar r)) : Option (List (ar s)) :=
 match RT.eq? r s with
 | some ⟨h⟩ => some (h ▸ xs)
 | none => none
def RT.dN : RT → Bool
 | .nil => false
 | .cons (.sl _) _ => true
 | .cons _ r => r.dN
def RT.width : RT → Nat
 | .nil => 0
 | .cons _ r => r.width + 1
inductive View where
 | full
 | from (lo : Nat)
 | sub (lo n : Nat)
def View.app {α : Type} : View → List α → List α
 | .full, xs => xs
 | .from lo, xs => xs.drop lo
 | .sub lo n, xs => (xs.drop lo).take n
def View.lo : View → Nat
 | .full => 0
 | .from l => l
 | .sub l _ => l
def View.idx (w : View) (i : Nat) : Nat :=
 match w with
 | .full => i
 | .from l => l + i
 | .sub l _ => l + i
inductive CV where
 | bad
 | int (k : IntKind) (n : Int)
 | bool (b : Bool)
 | str (s : ByteArray)
 | dD
 | Jr
 | shr (r : RT) (xs : List (ar r))
 | nn (r : RT) (xs : List (ar r))  -- as 'ak6, and not nil
 | ref (a j g : Nat) (w : View)
 | ptr (b g off : Nat)
 | Hs (a j g i off : Nat)
 | lf (r : RT) (x : ar r) (off : Nat)
 | sn (r : RT) (xs : List (ar r)) (off : Nat)  -- as 'ak7, Js row ajH Js first of a list
 | fn (g : Nat) (rs : RT) (xs : List (ar rs))    -- a function with boxes Oh YG read alone: each cell of Js row is one ajI rows
 | oU (a j g e i k : Nat) (q : RT) (ys : List (ar q))  -- Js slice Oh a cell of a deep adx row holds
inductive Lb where
 | box (s : Nat)
 | sp (s j : Nat)
 | out
 | bG (i j : Nat)
 | sE (i : Nat)
 | il (j : Nat)
def Lb.same : Lb → Lb → Bool
 | .box s, .box t => Nat.beq s t
 | .sp s i, .sp t j => Nat.beq s t && Nat.beq i j
 | _, _ => false
inductive V where
 | one (c : CV)
 | agg (cs : List CV)
 | mz (vs : List V)
def V.cells : V → List CV
 | .one c => [c]
 | .agg cs => cs
 | .mz _ => []
inductive Md where
 | sh | dp | ho (i : Nat)
 deriving DecidableEq
def Md.is : Md → Md → Bool
 | .sh, .sh => true
 | .dp, .dp => true
 | .ho i, .ho j => Nat.beq i j
 | _, _ => false
theorem Md.lS {a b : Md} : Md.is a b = true ↔ a = b := by
 cases a <;> cases b <;> simp [Md.is]
def Md.E2 : Md → Bool
 | .ho _ => true
 | _ => false
structure gP where
 r : RT
 own : Bool
 xs : List (ar r)
 md : Md := .sh
structure Sl where
 v : V
 box : Option (List CV)
 bg : Nat
 aK : List (Option gP)
 ag : Nat
 ep : Nat := 0  -- it Zk when an array of Js slot is written, or a call is made
def Sl.none : Sl := { v := .one .bad, box := .none, bg := 0, aK := [], ag := 0 }
abbrev St := List Sl
def nth {α : Type} : List α → Nat → Option α
 | [], _ => none
 | x :: _, 0 => some x
 | _ :: l, n + 1 => nth l n
def mq {α : Type} (f : α → α) : List α → Nat → List α
 | [], _ => []
 | x :: l, 0 => f x :: l
 | x :: l, n + 1 => x :: mq f l n
def bK (st : St) (t : Nat) : V :=
 match nth st t with
 | some s => s.v
 | none => .one .bad
def aS (st : St) (d : Option Nat) (v : V) : St :=
 match d with
 | some t => mq (fun s => { s with v := v }) st t
 | none => st
def aQ (st : St) (a j g : Nat) : Option gP :=
 match nth st a with
 | some s => bif Nat.beq s.ag g then (match nth s.aK j with | some (some A) => some A | _ => none) else none
 | none => none
def bo (st : St) (a j : Nat) (A : Option gP) : St :=
 mq (fun s => { s with aK := mq (fun _ => A) s.aK j, ep := s.ep + 1 }) st a
def lT (st : St) (a : Nat) : Nat := match nth st a with | some s => s.ep | none => 0
def di (st : St) (b g : Nat) : Option (List CV) :=
 match nth st b with
 | some s => bif Nat.beq s.bg g then s.box else none
 | none => none
inductive N where
 | done (st : St)
 | fail
 | br (b : Bool) (t e : N)
 | row (r : RT) (o : Option (ar r)) (k : ar r → N)
def N.val : N → Option St
 | .done st => some st
 | .fail => none
 | .br b t e => bif b then t.val else e.val
 | .row _ o k => match o with | some x => (k x).val | none => none
def N.fold {R : Type} : N → (St → Option R) → Option R
 | .done st, k => k st
 | .fail, _ => none
 | .br b t e, k => bif b then t.fold k else e.fold k
 | .row _ o f, k => match o with | some x => (f x).fold k | none => none
theorem N.fold_eq {R : Type} (n : N) (k : St → Option R) : n.fold k = n.val.bind k := by
 induction n with
 | done st => rfl
 | fail => rfl
 | br b t e iht ihe => cases b <;> simp [N.fold, N.val, iht, ihe]
 | row r o f ih => cases o <;> simp [N.fold, N.val, ih]
def Jt : (t : Ty) → den t
 | .int _ => (0 : Int)
 | .bool => false
 | .str => ByteArray.empty
 | .sl _ => ([] : List _)
def sF : (r : RT) → ar r
 | .nil => ()
 | .cons t r => (Jt t, sF r)
def Ju : (t : Ty) → den t → CV
 | .int k, n => .int k n
 | .bool, b => .bool b
 | .str, s => .str s
 | .sl r, xs => .shr r xs
def dG : (r : RT) → ar r → List CV
 | .nil, _ => []
 | .cons t r, x => Ju t x.1 :: dG r x.2
def aeb (a j g e i k : Nat) : (t : Ty) → den t → CV
 | .int k, n => .int k n
 | .bool, b => .bool b
 | .str, s => .str s
 | .sl r, xs => .oU a j g e i k r xs
def pR (a j g e i : Nat) : (k : Nat) → (r : RT) → ar r → List CV
 | _, .nil, _ => []
 | k, .cons t r, x => aeb a j g e i k t x.1 :: pR a j g e i (k + 1) r x.2
def pL : (r : RT) → ar r → Nat → Option ((q : RT) × List (ar q))
 | .nil, _, _ => none
 | .cons (.sl q) _, x, 0 => some ⟨q, x.1⟩
 | .cons _ _, _, 0 => none
 | .cons _ r, x, k + 1 => pL r x.2 k
def mB : (r : RT) → ar r → Nat → (q : RT) → List (ar q) → Option (ar r)
 | .nil, _, _, _, _ => none
 | .cons (.sl q) _, x, 0, p, ys => (bw q ys).map fun zs => (zs, x.2)
 | .cons _ _, _, 0, _, _ => none
 | .cons _ r, x, k + 1, p, ys => (mB r x.2 k p ys).map fun z => (x.1, z)
def ly (st : St) (r : RT) (c : CV) (k : List (ar r) → N) : N :=
 match c with
 | .shr _ xs => match bw r xs with | some ys => k ys | none => .fail
 | .nn _ xs => match bw r xs with | some ys => k ys | none => .fail
 | .dD => k []
 | .ref a j g w => match aQ st a j g with
   | some A => (match A.md with | .sh => (match bw r A.xs with | some ys => k (w.app ys) | none => .fail) | _ => .fail)
   | none => .fail
 | _ => .fail
structure ki where
 cells : Nat → Option Nat          -- how many cells a value of Js type ajJ
 agg : Nat → Bool                  -- is it a struct
 off : Nat → Nat → Option Nat      -- a Oi field: its first cell
 Zl : Nat → Nat → Option Nat      -- and how many it has
 row : Nat → Option RT             -- Js ti types
 elem : Nat → Option (RT × Nat)    -- a slice: its YH cells, and Js bytes of one
 mz : Nat → Option (List Nat)     -- a ady types
 kind : Nat → Option Ty            -- a type of one cell
 one : Nat → Nat → Bool            -- a Oi field Oh is no struct aed
 eq : Nat → Bool                   -- a struct of numbers, ajK and strings, Zm by '=='
 dp : Nat → Bool := fun _ => false -- a slice S7 ajL dN YG its own, where alb may be
 cap : Nat → Bool := fun _ => false -- a S8 box Oh is read alone
inductive OV where
 | int (k : IntKind) (n : Int)
 | bool (b : Bool)
 | str (s : ByteArray)
 | own (A : gP)
 | shr (r : RT) (xs : List (ar r))
 | dD
 | lf (r : RT) (xs : List (ar r))
 | fn (g : Nat) (rs : RT) (xs : List (ar rs))
inductive AV where
 | val (agg : Bool) (os : List OV)  -- a value: its Oj YG Js Zn from now on
 | io (A : gP)                     -- an array, Gk: Js callee may write it
 | box (os : List OV)               -- a struct behind a pointer, Gk
 | bB (os : List OV)              -- a struct S7 Oj YG Gk
inductive RV where
 | one (o : OV)
 | agg (os : List OV)
 | ptr (os : List OV)  -- a new struct, behind a pointer
inductive XV where
 | io (A : gP)
 | box (cs : List OV)
 | bB (As : List (Option gP))
structure Res where
 outs : List RV
 exts : List XV
structure Ans where
 r : RT
 o : Option (ar r)
 res : ar r → Res
abbrev u6 := List AV → Option Ans
inductive Pm where
 | shr | own | io | bB
 | pick (l : List Nat)  -- a struct behind a pointer, some of S7 Oj YG read alone from then on
abbrev ju := FuncId → Option (Pm × Pm × Pm × u6)   -- Js first three S9 ways; ajN kj YG shared
def aV (b g : Nat) : (j : Nat) → List OV → List CV
 | _, [] => []
 | j, .int k n :: l => .int k n :: aV b g (j + 1) l
 | j, .bool x :: l => .bool x :: aV b g (j + 1) l
 | j, .str s :: l => .str s :: aV b g (j + 1) l
 | j, .own _ :: l => .ref b j g .full :: aV b g (j + 1) l
 | j, .shr r xs :: l => .shr r xs :: aV b g (j + 1) l
 | j, .dD :: l => .dD :: aV b g (j + 1) l
 | j, .lf r xs :: l => .sn r xs 0 :: aV b g (j + 1) l
 | j, .fn f rs xs :: l => .fn f rs xs :: aV b g (j + 1) l
def OV.arr : OV → Option gP
 | .own A => some A
 | _ => none
def aY : List OV → List (Option gP)
 | [] => []
 | o :: l => o.arr :: aY l
def RV.vp : RV → List OV
 | .one o => [o]
 | .agg os => os
 | .ptr os => .dD :: os
def Ol (d g j : Nat) : RV → V
 | .one o => match aV d g j [o] with | [c] => .one c | _ => .one .bad
 | .agg os => .agg (aV d g j os)
 | .ptr _ => .one .bad
def j2 (d g : Nat) : (j : Nat) → List RV → List V
 | _, [] => []
 | j, r :: l => Ol d g j r :: j2 d g (j + r.vp.length) l
def vq (st : St) (d : Option Nat) (outs : List RV) : Option St :=
 match d with
 | some d => match nth st d with
   | some s =>
     let g := s.ag + 1
     match outs with
     | [.ptr os] => some (mq (fun s => { s with v := .one (.ptr d (s.bg + 1) 0), box := some (aV d (s.ag + 1) 1 os), bg := s.bg + 1, aK := none :: aY os, ag := s.ag + 1 }) st d)
     | outs =>
       let v : V := match j2 d g 0 outs with | [v] => v | vs => .mz vs
       some (mq (fun s => { s with v := v, aK := aY (outs.flatMap RV.vp), ag := g }) st d)
   | none => none
 | none => match outs with
   | [] => some st
   | _ => none
def lz (st : St) : Operand → V
 | .tmp t => bK st t
 | .const (.int k n) => .one (.int k n)
 | .const (.bool b) => .one (.bool b)
 | .const (.string s) => .one (.str s)
 | .const (.slice none 0 0) => .one .dD
 | .const (.pointer none) => .one .Jr
 | _ => .one .bad
def Om (op : BinOp) (a b : Int) : Option Bool :=
 match op with
 | .lss => some (decide (a < b))
 | .leq => some (decide (a ≤ b))
 | .gtr => some (decide (b < a))
 | .geq => some (decide (b ≤ a))
 | .eql => some (decide (a = b))
 | .neq => some (!decide (a = b))
 | _ => none
def Cv (op : BinOp) (k : IntKind) (a b : Int) : Option Int :=
 match op with
 | .add => some (k.wrap (a + b))
 | .sub => some (k.wrap (a - b))
 | .mul => some (k.wrap (a * b))
 | .and => some (k.wrap ((BitVec.ofInt k.bits a &&& BitVec.ofInt k.bits b).toNat : Int))
 | .or => some (k.wrap ((BitVec.ofInt k.bits a ||| BitVec.ofInt k.bits b).toNat : Int))
 | .xor => some (k.wrap ((BitVec.ofInt k.bits a ^^^ BitVec.ofInt k.bits b).toNat : Int))
 | _ => none
def On (op : BinOp) (k : IntKind) (a b : Int) : Option Int :=
 match op with
 | .quo => some (k.wrap (a.tdiv b))
 | .rem => some (a.tmod b)
 | _ => none
def Cw (op : BinOp) (k : IntKind) (a : Int) (n : Nat) : Option Int :=
 match op with
 | .shl => some (k.wrap (a * 2 ^ (min n k.bits)))
 | .shr => some (a.fdiv (2 ^ (min n k.bits)))
 | _ => none
def j3 (a b : ByteArray) : Bool := a.toList == b.toList
def tj : CV → CV → Option Bool
 | .int k a, .int l b => if k = l then some (decide (a = b)) else none
 | .bool a, .bool b => some (a == b)
 | .str a, .str b => some (j3 a b)
 | _, _ => none
def mC : List CV → List CV → Option Bool
 | [], [] => some true
 | a :: l, b :: m => match tj a b, mC l m with
   | some x, some y => some (x && y)
   | _, _ => none
 | _, _ => none
def Gl (s : ByteArray) (i : Int) : Int := match s[i.toNat]? with | some b => (b.toNat : Int) | none => 0
def fx : (r : RT) → ar r → Nat → CV → Option (ar r)
 | .cons (.int k) _, x, 0, .int l n => if k = l then some (n, x.2) else none
 | .cons .bool _, x, 0, .bool b => some (b, x.2)
 | .cons .str _, x, 0, .str s => some (s, x.2)
 | .cons _ r, x, n + 1, c => (fx r x.2 n c).map fun z => (x.1, z)
 | _, _, _, _ => none
def rowOf (st : St) : (r : RT) → List CV → (k : ar r → List (Nat × Nat) → N) → N
 | .nil, [], k => k () []
 | .cons (.int q) r, .int l n :: cs, k => if q = l then rowOf st r cs (fun x m => k (n, x) m) else .fail
 | .cons .bool r, .bool b :: cs, k => rowOf st r cs (fun x m => k (b, x) m)
 | .cons .str r, .str s :: cs, k => rowOf st r cs (fun x m => k (s, x) m)
 | .cons (.sl q) r, c :: cs, k =>
   match c with
   | .dD => rowOf st r cs (fun x m => k (([] : List _), x) m)
   | .ref a j g w => match aQ st a j g with
     | some A => (match A.md with
       | .ho _ => .fail
       | _ => (match bw q A.xs with
         | some ys => rowOf st r cs (fun x m => k (w.app ys, x) ((a, j) :: m))
         | none => .fail))
     | none => .fail
   | .shr _ ys => match bw q ys with
     | some zs => rowOf st r cs (fun x m => k (zs, x) m)
     | none => .fail
   | _ => .fail
 | _, _, _ => .fail
def Md.fz : Md → Md
 | .dp => .sh
 | m => m
def gP.fz (A : gP) : gP := { A with own := false, md := A.md.fz }
def freeze (st : St) : List (Nat × Nat) → St
 | [] => st
 | (a, j) :: l => freeze (mq (fun s => { s with aK := mq (fun A => A.map gP.fz) s.aK j, ep := s.ep + 1 }) st a) l
def gC (st : St) : (r : RT) → List CV → Option (ar r × List (Option (Nat × Nat)))
 | .nil, [] => some ((), [])
 | .cons (.int q) r, .int l n :: cs => if q = l then (match gC st r cs with | some p => some ((n, p.1), none :: p.2) | none => none) else none
 | .cons .bool r, .bool b :: cs => match gC st r cs with | some p => some ((b, p.1), none :: p.2) | none => none
 | .cons .str r, .str s :: cs => match gC st r cs with | some p => some ((s, p.1), none :: p.2) | none => none
 | .cons (.sl q) r, c :: cs =>
   match c with
   | .dD => match gC st r cs with | some p => some ((([] : List _), p.1), none :: p.2) | none => none
   | .ref a j g .full => match aQ st a j g with
     | some A => bif A.own && A.md.is (bif q.dN then .dp else .sh) then (match bw q A.xs with
       | some ys => (match gC st r cs with | some p => some ((ys, p.1), some (a, j) :: p.2) | none => none)
       | none => none) else none
     | none => none
   | _ => none
 | _, _ => none
def dE : List (Option (Nat × Nat)) → List (Nat × Nat)
 | [] => []
 | some p :: l => p :: dE l
 | none :: l => dE l
def gT (st : St) : List (Nat × Nat) → St
 | [] => st
 | (a, j) :: l => gT (bo st a j none) l
def distinct : List (Nat × Nat) → Bool
 | [] => true
 | (a, j) :: l => l.all (fun p => !(Nat.beq p.1 a && Nat.beq p.2 j)) && distinct l
def lim : Nat := 35184372088832
def qB : RT → List CV → Bool
 | .nil, [] => true
 | .cons (.int k) r, .int l _ :: cs => decide (k = l) && qB r cs
 | .cons .bool r, .bool _ :: cs => qB r cs
 | .cons .str r, .str _ :: cs => qB r cs
 | _, _ => false
def ki.fits (T : ki) (t : Nat) (l : List CV) : Bool := match T.row t with | some r => qB r l | none => false
def u7 (T : ki) (st : St) (d : Option Nat) (op : BinOp) (t : Nat) (x y : V) : N :=
 match x, y with
 | .one (.int k a), .one (.int l b) =>
   match op with
   | .shl | .shr => match Cw op k a b.toNat with
     | some n => .br (decide (0 ≤ b)) (.done (aS st d (.one (.int k n)))) .fail
     | none => .fail
   | _ => if k = l then (match Om op a b with
     | some t => .done (aS st d (.one (.bool t)))
     | none => match Cv op k a b with
       | some n => .done (aS st d (.one (.int k n)))
       | none => match On op k a b with
         | some n => .br (decide (b = 0)) .fail (.done (aS st d (.one (.int k n))))
         | none => .fail) else .fail
 | .one (.str a), .one (.str b) =>
   match op with
   | .add => .br (Nat.ble (a.size + b.size) lim) (.done (aS st d (.one (.str (a ++ b))))) .fail
   | .eql => .done (aS st d (.one (.bool (j3 a b))))
   | .neq => .done (aS st d (.one (.bool (!j3 a b))))
   | _ => .fail
 | .one (.bool a), .one (.bool b) =>
   match op, T.kind t with
   | .eql, some .bool => .done (aS st d (.one (.bool (a == b))))
   | .neq, some .bool => .done (aS st d (.one (.bool (!(a == b)))))
   | _, _ => .fail
 | .one .dD, .one .dD =>
   match op, T.elem t with
   | .eql, some _ => .done (aS st d (.one (.bool true)))
   | .neq, some _ => .done (aS st d (.one (.bool false)))
   | _, _ => .fail
 | .one (.nn _ _), .one .dD =>
   match op, T.elem t with
   | .eql, some _ => .done (aS st d (.one (.bool false)))
   | .neq, some _ => .done (aS st d (.one (.bool true)))
   | _, _ => .fail
 | .agg l, .agg m =>
   bif T.eq t && T.fits t l then (match op, mC l m with
   | .eql, some t => .done (aS st d (.one (.bool t)))
   | .neq, some t => .done (aS st d (.one (.bool (!t))))
   | _, _ => .fail) else .fail
 | _, _ => .fail
def CV.sG : CV → Bool
 | .bad => false
 | _ => true
def V.sG : V → Bool
 | .one c => c.sG
 | .agg cs => cs.all CV.sG
 | .mz _ => false
def bp (st : St) (d : Option Nat) (A : gP) : N :=
 match d with
 | some d => match nth st d with
   | some s0 => .done (mq (fun s => { s with v := .one (.ref d 0 (s0.ag + 1) .full), aK := [some A], ag := s0.ag + 1 }) st d)
   | none => .fail
 | none => .fail
def iH (st : St) (d : Option Nat) (cs : List CV) : N :=
 match d with
 | some d => match nth st d with
   | some s0 => .done (mq (fun s => { s with v := .one (.ptr d (s0.bg + 1) 0), box := some cs, bg := s0.bg + 1 }) st d)
   | none => .fail
 | none => .fail
def nE (r : RT) : List CV := (dG r (sF r)).map fun | .shr _ _ => .dD | c => c
def eG (n off : Nat) (cs : List CV) : Option (List CV) :=
 let l := (cs.drop off).take n
 bif Nat.beq l.length n then some l else none
def putCells (cs : List CV) (off : Nat) (l : List CV) : Option (List CV) :=
 bif Nat.ble (off + l.length) cs.length then some (cs.take off ++ l ++ cs.drop (off + l.length)) else none
def Oo (T : ki) (t : Nat) (l : List CV) : V := bif T.agg t then .agg l else (match l with | [c] => .one c | _ => .one .bad)
def uR (T : ki) (st : St) (d : Option Nat) (t : Nat) (a : V) : N :=
 match a, T.cells t with
 | .one (.ptr b g off), some n => match di st b g with
   | some cs => match eG n off cs with
     | some l => .done (aS st d (Oo T t l))
     | none => .fail
   | none => .fail
 | .one (.lf r x off), some n => match eG n off (dG r x) with
   | some l => .done (aS st d (Oo T t l))
   | none => .fail
 | .one (.sn r xs off), some n => .row r xs[0]? fun x => match eG n off (dG r x) with
   | some l => .done (aS st d (Oo T t l))
   | none => .fail
 | .one (.Hs a j g i off), some n => match aQ st a j g with
   | some A => (match A.md with
     | .sh => .row A.r A.xs[i]? fun x => match eG n off (dG A.r x) with
       | some l => .done (aS st d (Oo T t l))
       | none => .fail
     | .dp => .row A.r A.xs[i]? fun x => match eG n off (pR a j g (lT st a) i 0 A.r x) with
       | some l => .done (aS st d (Oo T t l))
       | none => .fail
     | .ho _ => .fail)
   | none => .fail
 | _, _ => .fail
def km (r : RT) (x : ar r) : (off : Nat) → List CV → Option (ar r)
 | _, [] => some x
 | off, c :: l => match km r x (off + 1) l with
   | some y => fx r y off c
   | none => none
def gP.put (A : gP) (ys : List (ar A.r)) : gP := { A with xs := ys }
def so (T : ki) (st : St) (t : Nat) (a v : V) : N :=
 match a, T.cells t with
 | .one (.ptr b g off), some n => match di st b g with
   | some cs => bif v.sG && Nat.beq v.cells.length n then (match putCells cs off v.cells with
     | some l => .done (mq (fun s => { s with box := some l }) st b)
     | none => .fail) else .fail
   | none => .fail
 | .one (.Hs a j g i off), some n => match aQ st a j g with
   | some A => bif v.sG && A.own && Nat.beq v.cells.length n && Nat.blt 0 n then
       (bif Nat.beq n A.r.width && A.r.dN && Nat.beq off 0 then
         (match A.md with
         | .sh => rowOf st A.r v.cells fun x m => bif m.all (fun p => !(Nat.beq p.1 a && Nat.beq p.2 j)) then
           .row A.r A.xs[i]? (fun _ => .done (bo (freeze st m) a j (some (A.put (A.xs.set i x))))) else .fail
         | .dp => (match gC st A.r v.cells with
           | some p => bif distinct (dE p.2) && (dE p.2).all (fun p => !(Nat.beq p.1 a && Nat.beq p.2 j)) then
             .row A.r A.xs[i]? (fun _ => .done (bo (gT st (dE p.2)) a j (some (A.put (A.xs.set i p.1))))) else .fail
           | none => .fail)
         | .ho q => (match gC st A.r v.cells with
           | some p => bif distinct (dE p.2) && (dE p.2).all (fun p => !(Nat.beq p.1 a && Nat.beq p.2 j)) then
             .br (Nat.beq i q) (.row A.r A.xs[i]? (fun _ => .done (bo (gT st (dE p.2)) a j (some { A.put (A.xs.set i p.1) with md := .dp })))) .fail else .fail
           | none => .fail))
       else bif A.md.E2 then .fail else .row A.r A.xs[i]? fun x => match km A.r x off v.cells with
         | some y => .done (bo st a j (some (A.put (A.xs.set i y))))
         | none => .fail) else .fail
   | none => .fail
 | _, _ => .fail
def oV (T : ki) (st : St) (d : Option Nat) (t : Nat) (x ix : V) : N :=
 match T.elem t, x, ix with
 | some (q, _), .one (.shr r xs), .one (.int _ i) => match bw q xs with
   | some ys => .br (decide (0 ≤ i)) (.row q ys[i.toNat]? fun y => .done (aS st d (.one (.lf q y 0)))) .fail
   | none => .fail
 | some (q, _), .one (.ref a j g w), .one (.int _ i) => match aQ st a j g with
   | some A => match bw q A.xs with
     | some ys => (match A.own with
       | false => bif !A.md.is .sh then .fail else .br (decide (0 ≤ i)) (.row q (w.app ys)[i.toNat]? fun y => .done (aS st d (.one (.lf q y 0)))) .fail
       | true => .br (decide (0 ≤ i)) (.br (Nat.blt i.toNat (w.app ys).length) (.done (aS st d (.one (.Hs a j g (w.idx i.toNat) 0)))) .fail) .fail)
     | none => .fail
   | none => .fail
 | _, _, _ => .fail
def nF (n : Nat) (lo hi : Option V) (k : Option Nat → Option Nat → N) : N :=
 let Jv (l : Option Nat) : N := match hi with
   | none => k l none
   | some (.one (.int _ h)) => .br (decide ((match l with | some l => (l : Int) | none => 0) ≤ h)) (.br (decide (h ≤ n)) (k l (some h.toNat)) .fail) .fail
   | _ => .fail
 match lo with
 | none => Jv none
 | some (.one (.int _ l)) => .br (decide (0 ≤ l)) (match hi with
   | none => .br (decide (l ≤ n)) (Jv (some l.toNat)) .fail
   | _ => Jv (some l.toNat)) .fail
 | _ => .fail
def Jw (n : Nat) : Option Nat → Option Nat → View
 | none, none => .full
 | some l, none => .from l
 | none, some h => .sub 0 h
 | some l, some h => .sub l (h - l)
def View.of (w : View) (n : Nat) (lo hi : Option Nat) : View :=
 match lo, hi with
 | none, none => w
 | some l, none => (match w with | .full => .from l | .from a => .from (a + l) | .sub a m => .sub (a + l) (m - l))
 | none, some h => .sub w.lo h
 | some l, some h => .sub (w.lo + l) (h - l)
def tk (T : ki) (st : St) (d : Option Nat) (t : Nat) (x : V) (lo hi : Option V) : N :=
 match x with
 | .one (.str s) => match T.kind t with
   | some .str => nF s.size lo hi fun l h =>
     .done (aS st d (.one (.str (s.extract (l.getD 0) (h.getD s.size)))))
   | _ => .fail
 | .one .dD => match T.elem t with
   | some _ => nF 0 lo hi fun _ _ => .done (aS st d (.one .dD))
   | none => .fail
 | .one (.shr r xs) => match T.elem t with
   | some (q, _) => match bw q xs with
     | some ys => nF ys.length lo hi fun l h => .done (aS st d (.one (.shr q ((Jw ys.length l h).app ys))))
     | none => .fail
   | none => .fail
 | .one (.ref a j g w) => match T.elem t, aQ st a j g with
   | some (q, _), some A => match bw q A.xs with
     | some ys => nF (w.app ys).length lo hi fun l h => .done (aS st d (.one (.ref a j g (w.of (w.app ys).length l h))))
     | none => .fail
   | _, _ => .fail
 | _ => .fail
def Gm (T : ki) (st : St) (d : Option Nat) (t : Nat) (x : V) : N :=
 match x with
 | .one (.str s) => match T.kind t with
   | some .str => .done (aS st d (.one (.int .i64 s.size)))
   | _ => .fail
 | .one .dD => match T.elem t with
   | some _ => .done (aS st d (.one (.int .i64 0)))
   | none => .fail
 | .one (.shr _ xs) => match T.elem t with
   | some _ => .done (aS st d (.one (.int .i64 xs.length)))
   | none => .fail
 | .one (.ref a j g w) => match T.elem t, aQ st a j g with
   | some _, some A => .done (aS st d (.one (.int .i64 (w.app A.xs).length)))
   | _, _ => .fail
 | _ => .fail
def Oq (st : St) : V → Option (Nat × Nat × gP)
 | .one (.ref a j g .full) => match aQ st a j g with
   | some A => bif A.own && A.md.is .dp then some (a, j, A) else none
   | none => none
 | _ => none
def Cx (st : St) (d : Option Nat) (r : RT) (bytes : Nat) (x : V) (b k : Nat) (ys : List (ar r)) : N :=
 match x with
 | .one .dD => .br (Nat.ble ((([] : List (ar r)).length + ys.length) * bytes) lim) (bp (gT st [(b, k)]) d { r := r, own := true, xs := [] ++ ys, md := .dp }) .fail
 | .one (.ref a j g w) => match Oq st (.one (.ref a j g w)) with
   | some (_, _, A) => (match bw r A.xs with
     | some xs => bif !(Nat.beq a b && Nat.beq j k) then .br (Nat.ble ((xs.length + ys.length) * bytes) lim) (bp (gT st [(a, j), (b, k)]) d { r := r, own := true, xs := xs ++ ys, md := .dp }) .fail else .fail
     | none => .fail)
   | none => .fail
 | _ => .fail
def Cj (T : ki) (st : St) (d : Option Nat) (t : Nat) (x y : V) : N :=
 match T.elem t with
 | none => .fail
 | some (r, bytes) =>
   match Oq st y with
   | some (b, k, B) => (match bw r B.xs with | some ys => Cx st d r bytes x b k ys | none => .fail)
   | none =>
   let out (xs : List (ar r)) (used : List (Nat × Nat)) : N :=
     match y with
     | .one c => ly st r c fun ys =>
         .br (Nat.ble ((xs.length + ys.length) * bytes) lim)
           (bp (used.foldl (fun s p => bo s p.1 p.2 none) st) d { r := r, own := true, xs := xs ++ ys }) .fail
     | _ => .fail
   match x with
   | .one .dD => out [] []
   | .one (.ref a j g w) => match aQ st a j g with
     | some A => bif A.own && A.md.is .sh then (match bw r A.xs with | some xs => out (w.app xs) [(a, j)] | none => .fail) else .fail
     | none => .fail
   | _ => .fail
def Ot (T : ki) (st : St) (d : Option Nat) (t : Nat) (len cap : V) : N :=
 match T.elem t, len, cap with
 | some (r, bytes), .one (.int .i64 n), .one (.int .i64 c) =>
   .br (decide (n = c)) (.br (decide (0 ≤ n)) (.br (Nat.ble (n.toNat * bytes) lim)
     (bp st d { r := r, own := true, xs := List.replicate n.toNat (sF r), md := bif T.dp t then .dp else .sh }) .fail) .fail) .fail
 | _, _, _ => .fail
def wJ (st : St) (r : RT) : (i : Nat) → List (Nat × V) → (k : List (ar r) → List (Nat × Nat) → N) → N
 | _, [], k => k [] []
 | i, (p, v) :: l, k => bif v.sG && Nat.beq p i then rowOf st r v.cells fun x m => wJ st r (i + 1) l fun xs m' => k (x :: xs) (m ++ m') else .fail
def Jx (st : St) (r : RT) : List (Nat × V) → Option (List (ar r) × List (Option (Nat × Nat)))
 | [] => some ([], [])
 | [(p, v)] => bif v.sG && Nat.beq p 0 then (match gC st r v.cells with | some q => some ([q.1], q.2) | none => none) else none
 | _ => none
def vr (T : ki) (st : St) (d : Option Nat) (t len : Nat) (parts : List (Nat × V)) : N :=
 match T.elem t with
 | some (r, _) => bif Nat.beq parts.length len && Nat.ble (len * r.width) 16777216 then
     (match (bif T.dp t then Jx st r parts else none) with
     | some p => bif distinct (dE p.2) then bp (gT st (dE p.2)) d { r := r, own := true, xs := p.1, md := .dp } else .fail
     | none => wJ st r 0 parts fun xs m => bp (freeze st m) d { r := r, own := true, xs := xs })
   else .fail
 | none => .fail
def nG (T : ki) (t : Nat) (cs : List CV) : List (Nat × V) → Option (List CV)
 | [] => some cs
 | (f, v) :: l => match T.off t f, T.Zl t f with
   | some o, some s => bif v.sG && Nat.beq v.cells.length s then (match putCells cs o v.cells with
     | some mA => nG T t mA l
     | none => none) else none
   | _, _ => none
def View.isFull : View → Bool
 | .full => true
 | _ => false
def nw (st : St) (s : Nat) : Nat := match nth st s with | some x => x.ag | none => 0
def fy (st : St) (own : Bool) : CV → Option (OV × Option Lb × List (Nat × Nat))
 | .int q n => some (.int q n, none, [])
 | .bool b => some (.bool b, none, [])
 | .str s => some (.str s, none, [])
 | .dD => some (.dD, none, [])
 | .shr r xs => some (.shr r xs, none, [])
 | .nn r xs => some (.shr r xs, none, [])
 | .ref a j g w => match aQ st a j g with
   | some A => bif A.md.E2 then none else bif own && A.own && (A.md.is .sh || w.isFull) then some (.own { A with xs := w.app A.xs }, some (.sp a j), []) else some (.shr A.r (w.app A.xs), none, [(a, j)])
   | none => none
 | .oU a j g e _ _ q ys => match aQ st a j g with
   | some A => bif A.md.is .dp && Nat.beq e (lT st a) then some (.shr q ys, none, [(a, j)]) else none
   | none => none
 | .lf r x off => bif Nat.beq off 0 then some (.lf r [x], none, []) else none
 | .sn r xs off => bif Nat.beq off 0 then some (.lf r xs, none, []) else none
 | .fn f rs xs => some (.fn f rs xs, none, [])
 | _ => none
def eF (st : St) (own : Bool) : List CV → Option (List OV × List (Option Lb) × List (Nat × Nat))
 | [] => some ([], [], [])
 | c :: l => match fy st own c, eF st own l with
   | some (o, u, r), some (os, us, rs) => some (o :: os, u :: us, r ++ rs)
   | _, _ => none
def bF : List (Option Lb) → List Lb
 | [] => []
 | some l :: ls => l :: bF ls
 | none :: ls => bF ls
def Pm.nz : Pm → Bool
 | .own => true
 | _ => false
def Ou (st : St) : CV → Bool
 | .ref a j g w => (match w with | .full => true | _ => false) && (match aQ st a j g with | some A => A.own | none => false)
 | _ => true
def dO (st : St) (m : Pm) : V → Option (AV × List Lb × List Lb × List (Nat × Nat))
 | .one (.ptr b g off) => match di st b g with
   | some cs => (match eF st true cs with
     | some (os, u, r) => bif Nat.beq off 0 then some (.box os, .box b :: bF u, bF u, r) else none
     | none => none)
   | none => none
 | .one (.ref a j g w) => match m with
   | .io => (match w, aQ st a j g with
     | .full, some A => bif A.own && !A.md.E2 then some (.io A, [.sp a j], [], []) else none
     | _, _ => none)
   | m => match eF st m.nz [.ref a j g w] with
     | some (os, u, r) => some (.val false os, bF u, bF u, r)
     | none => none
 | .one c => match eF st false [c] with
   | some (os, u, r) => some (.val false os, bF u, bF u, r)
   | none => none
 | .agg cs => match m with
   | .bB => (match eF st true cs with
     | some (os, u, r) => bif cs.all (Ou st) then some (.bB os, bF u, [], r) else none
     | none => none)
   | m => match eF st m.nz cs with
     | some (os, u, r) => some (.val true os, bF u, bF u, r)
     | none => none
 | .mz _ => none
def iI (st : St) : List (Pm × V) → Option (List AV × List Lb × List Lb × List (Nat × Nat))
 | [] => some ([], [], [], [])
 | (m, v) :: l => match dO st m v, iI st l with
   | some (a, u, q, r), some (as, us, qs, rs) => some (a :: as, u ++ us, q ++ qs, r ++ rs)
   | _, _ => none
def tl : List Lb → Bool
 | [] => true
 | x :: l => l.all (fun y => !(Lb.same x y)) && tl l
def apart (used : List Lb) (reads : List (Nat × Nat)) : Bool :=
 reads.all fun p => used.all fun q => !(Lb.same q (.sp p.1 p.2))
def n8 (st : St) : List Lb → St
 | [] => st
 | .sp a j :: l => n8 (bo st a j none) l
 | _ :: l => n8 st l
def OV.plain : OV → Bool
 | .own A => !A.r.dN || A.md.is .dp
 | .shr _ _ => false
 | .lf _ _ => false
 | .fn _ _ _ => false
 | _ => true
def XV.plain : XV → Bool
 | .io A => !A.r.dN || A.md.is .dp
 | .box os => os.all OV.plain
 | .bB As => As.all fun | some A => !A.r.dN || A.md.is .dp | none => true
def Res.plain (r : Res) : Bool :=
 r.outs.all (fun o => o.vp.all OV.plain) && r.exts.all XV.plain
def Cy (st : St) : (j : Nat) → List CV → List (Option gP) → Option St
 | _, [], _ => some st
 | j, .ref a k g _ :: cs, As => match nth As j, aQ st a k g with
   | some (some B), some _ => Cy (bo st a k (some B)) (j + 1) cs As
   | _, _ => none
 | j, _ :: cs, As => Cy st (j + 1) cs As
def rM (st : St) (m : Pm) (v : V) (xs : List XV) : Option (St × List XV) :=
 match v with
 | .one (.ptr b g _) => match xs with
   | .box os :: xs => (match nth st b, di st b g with
     | some s0, some _ => some (mq (fun s => { s with box := some (aV b (s0.ag + 1) 0 os), aK := aY os, ag := s0.ag + 1 }) st b, xs)
     | _, _ => none)
   | _ => none
 | .one (.ref a j g _) => match m with
   | .io => (match xs, aQ st a j g with
     | .io A :: xs, some _ => some (bo st a j (some A), xs)
     | _, _ => none)
   | _ => some (st, xs)
 | .agg cs => match m with
   | .bB => (match xs with
     | .bB As :: xs => (Cy st 0 cs As).map fun aP => (aP, xs)
     | _ => none)
   | _ => some (st, xs)
 | _ => some (st, xs)
def tn (st : St) : List (Pm × V) → List XV → Option St
 | [], [] => some st
 | [], _ => none
 | (m, v) :: l, xs => match rM st m v xs with
   | some (aP, Zo) => tn aP l Zo
   | none => none
def uS (a b c : Pm) : List V → List (Pm × V)
 | [] => []
 | [x] => [(a, x)]
 | [x, y] => [(a, x), (b, y)]
 | x :: y :: z :: l => (a, x) :: (b, y) :: (c, z) :: l.map fun v => (.shr, v)
def refsOf : List CV → List (Nat × Nat)
 | [] => []
 | .ref a j _ _ :: l => (a, j) :: refsOf l
 | _ :: l => refsOf l
def CA (st : St) : List (Pm × V) → List (Nat × Nat)
 | [] => []
 | (.own, .one (.ptr b g _)) :: l => (match di st b g with | some cs => refsOf cs | none => []) ++ CA st l
 | (.pick q, .one (.ptr b g _)) :: l => (match di st b g with | some cs => refsOf (q.filterMap (nth cs)) | none => []) ++ CA st l
 | _ :: l => CA st l
def yT (st : St) : St := st.map fun s => { s with ep := s.ep + 1 }
def Ht (st : St) (d : Option Nat) (Bk : u6) (ms : List (Pm × V)) (fin : St → N) : N :=
   match iI st ms with
   | some (dt, used, Zp, reads) => bif tl used && apart used reads then (match Bk dt with
     | some A => .row A.r A.o fun x => (match tn (n8 (yT (bif (A.res x).plain then st else freeze st reads)) Zp) ms (A.res x).exts with
       | some aP => (match vq aP d (A.res x).outs with
         | some Ui => fin Ui
         | none => .fail)
       | none => .fail)
     | none => .fail) else .fail
   | none => .fail
structure Dr where
 a : Nat
 j : Nat
 g : Nat
 e : Nat
 i : Nat
 k : Nat
 q : RT
 ys : List (ar q)
def xD : List CV → List Dr
 | [] => []
 | .oU a j g e i k q ys :: l => ⟨a, j, g, e, i, k, q, ys⟩ :: xD l
 | _ :: l => xD l
def qC : List (Pm × V) → List Dr
 | [] => []
 | (.io, .one c) :: l => xD [c] ++ qC l
 | (.bB, .agg cs) :: l => xD cs ++ qC l
 | _ :: l => qC l
def Gn : List Nat → Bool
 | [] => true
 | [_] => true
 | a :: b :: l => Nat.blt a b && Gn (b :: l)
def Dr.arr (x : Dr) : gP := { r := x.q, own := true, xs := x.ys, md := bif x.q.dN then .dp else .sh }
def lG (st : St) (ms : List (Pm × V)) : Option (Dr × gP × List Dr) :=
 match qC ms with
 | [] => none
 | x :: l => match aQ st x.a x.j x.g with
   | some A => bif A.own && A.md.is .dp && Nat.beq x.e (lT st x.a) && l.all (fun y => Nat.beq y.a x.a && Nat.beq y.j x.j && Nat.beq y.g x.g && Nat.beq y.e x.e && Nat.beq y.i x.i) &&
       Gn ((x :: l).map (·.k)) && !Nat.beq x.a (st.length - 1) then some (x, A, x :: l) else none
   | none => none
def posOf (k : Nat) : (n : Nat) → List Dr → Nat
 | n, [] => n
 | n, x :: l => bif Nat.beq x.k k then n else posOf k (n + 1) l
def Uj (P g : Nat) (l : List Dr) : CV → CV
 | .oU _ _ _ _ _ k _ _ => .ref P (posOf k 0 l) g .full
 | c => c
def Rq (P g : Nat) (l : List Dr) : Pm × V → Pm × V
 | (.io, .one c) => (.io, .one (Uj P g l c))
 | (.bB, .agg cs) => (.bB, .agg (cs.map (Uj P g l)))
 | x => x
def dS (st : St) (x : Dr) (A : gP) (l : List Dr) : St :=
 mq (fun s => { s with aK := l.map (fun y => some y.arr), ag := s.ag + 1, ep := s.ep + 1 }) (bo st x.a x.j (some { A with md := .ho x.i })) (st.length - 1)
def tp (st : St) (P g : Nat) (r : RT) : (n : Nat) → List Dr → ar r → Option (ar r)
 | _, [], z => some z
 | n, y :: l, z => match aQ st P n g with
   | some B => bif B.own && B.md.is (bif y.q.dN then .dp else .sh) then (match bw y.q B.xs with
     | some ys => (match mB r z y.k y.q ys with
       | some z' => tp st P g r (n + 1) l z'
       | none => none)
     | none => none) else none
   | none => none
def Jy (P g : Nat) (x : Dr) (A : gP) (l : List Dr) (st : St) : N :=
 match aQ st x.a x.j x.g with
 | some H => bif H.md.E2 then (.row A.r A.xs[x.i]? fun z => match tp st P g A.r 0 l z with
   | some z' => .done (bo (mq (fun s => { s with aK := [], ep := s.ep + 1 }) st P) x.a x.j (some (A.put (A.xs.set x.i z'))))
   | none => .fail) else .fail
 | none => .fail
def Gp (T : ki) (st : St) (d : Option Nat) (t : Nat) (x y : V) : N :=
 match lG st [(.io, x)] with
 | none => Cj T st d t x y
 | some (z, A, l) => Cj T (dS st z A l) d t (Rq (st.length - 1) (nw st (st.length - 1) + 1) l (.io, x)).2 y
def Hu (st : St) (o : Oper) : Bool :=
 match o.op with
 | .call { callee := .builtin .append, args := args, argTypes := _ } => (match args.toList with
   | x :: _ => (lG st [(.io, lz st x)]).isSome
   | _ => false)
 | _ => false
def Ta (st : St) (d : Option Nat) (Bk : u6) (ms : List (Pm × V)) : N :=
 match lG st ms with
 | none => Ht st d Bk ms .done
 | some (x, A, l) => Ht (dS st x A l) d Bk (ms.map (Rq (st.length - 1) (nw st (st.length - 1) + 1) l)) (Jy (st.length - 1) (nw st (st.length - 1) + 1) x A l)
def Bl (st : St) : CV → CV
 | .ref a j g .full => match aQ st a j g with
   | some A => bif A.own then .ref a j g .full else bif A.md.is .sh then .shr A.r A.xs else .ref a j g .full
   | none => .ref a j g .full
 | x => x
def Ov (st : St) : V → V
 | .one x => .one (Bl st x)
 | .agg cs => .agg (cs.map (Bl st))
 | x => x
def Tb (st : St) (s : Sl) : Sl := { s with v := Ov st s.v, box := s.box.map fun cs => cs.map (Bl st) }
def tu (st : St) : St := st.map (Tb st)
def Pm.Ow : Pm → Bool
 | .pick _ => true
 | _ => false
def Bm (ms : List (Pm × V)) (st : St) : St := bif ms.any (fun m => m.1.Ow) then tu st else st
def E3 (S : ju) (st : St) (d : Option Nat) (f : FuncId) (args : List V) : N :=
 match S f with
 | none => .fail
 | some (a, b, c, Bk) => Ta (Bm (uS a b c args) (freeze st (CA st (uS a b c args)))) d Bk (uS a b c args)
def dH : List CV → Option ((r : RT) × ar r)
 | [] => some ⟨.nil, ()⟩
 | .int k n :: l => match dH l with | some ⟨r, x⟩ => some ⟨.cons (.int k) r, (n, x)⟩ | none => none
 | .bool b :: l => match dH l with | some ⟨r, x⟩ => some ⟨.cons .bool r, (b, x)⟩ | none => none
 | .str s :: l => match dH l with | some ⟨r, x⟩ => some ⟨.cons .str r, (s, x)⟩ | none => none
 | .shr q xs :: l => match dH l with | some ⟨r, x⟩ => some ⟨.cons (.sl q) r, (xs, x)⟩ | none => none
 | _ => none
def fj (st : St) (b : Nat) : St := mq (fun s => { s with box := none }) st b
def rnV (b g : Nat) (r : RT) (x : ar r) : V → V
 | .one (.ptr b' g' off) => bif Nat.beq b' b && Nat.beq g' g then .one (.lf r x off) else .one (.ptr b' g' off)
 | v => v
def mD (st : St) (b g : Nat) (r : RT) (x : ar r) : St := st.map fun s => { s with v := rnV b g r x s.v }
def Rr (st : St) (t : Nat) : Option (St × ((r : RT) × List (ar r))) :=
 match bK st t with
 | .one (.lf r x off) => bif Nat.beq off 0 then some (st, ⟨r, [x]⟩) else none
 | .one (.sn r xs off) => bif Nat.beq off 0 then some (st, ⟨r, xs⟩) else none
 | .one (.ptr b g off) => match di st b g with
   | some cs => bif Nat.beq off 0 then (match dH cs with
     | some ⟨r, x⟩ => some (mD (fj st b) b g r x, ⟨r, [x]⟩)
     | none => none) else none
   | none => none
 | _ => none
def xq (st : St) : List Operand → Option (St × ((rs : RT) × ar rs))
 | [] => some (st, ⟨.nil, ()⟩)
 | .tmp t :: l => match Rr st t with
   | some (aP, ⟨r, ys⟩) => (match xq aP l with
     | some (Ui, ⟨rs, xs⟩) => some (Ui, ⟨.cons (.sl r) rs, (ys, xs)⟩)
     | none => none)
   | none => none
 | _ => none
def uT : (rs : RT) → ar rs → List V
 | .nil, _ => []
 | .cons (.sl r) rs, x => .one (.sn r x.1 0) :: uT rs x.2
 | .cons _ rs, x => .one .bad :: uT rs x.2
def Ld (y : ar (.cons (.int .u8) .nil)) : Int := y.1
def bytesOf (ys : List (ar (.cons (.int .u8) .nil))) : ByteArray := ys.foldl (fun r y => r.push (UInt8.ofNat (Ld y).toNat)) ByteArray.empty
def Jk (T : ki) (S : ju) (st : St) (o : Oper) : N :=
 match o.op with
 | .move x | .assign x => .done (aS st o.dst (lz st x))
 | .pick c a b => match lz st c with
   | .one (.bool x) => .br x (.done (aS st o.dst (lz st a))) (.done (aS st o.dst (lz st b)))
   | _ => .fail
 | .alloc t => match T.row t with
   | some r => iH st o.dst (nE r)
   | none => .fail
 | .box t x => match T.cells t with
   | some n => bif (lz st x).sG && Nat.beq (lz st x).cells.length n then (match (bif T.cap t then dH (lz st x).cells else none) with
     | some ⟨r, y⟩ => .done (aS st o.dst (.one (.lf r y 0)))
     | none => iH st o.dst (lz st x).cells) else .fail
   | none => .fail
 | .build t parts => match T.row t, T.agg t with
   | some r, true => (match nG T t (nE r) (parts.toList.map fun p => (p.1, lz st p.2)) with
     | some cs => .done (aS st o.dst (.agg cs))
     | none => .fail)
   | _, _ => .fail
 | .buildSlice t len parts => vr T st o.dst t len (parts.toList.map fun p => (p.1, lz st p.2))
 | .load t a => uR T st o.dst t (lz st a)
 | .store t a v => (match o.dst with
   | none => so T st t (lz st a) (lz st v)
   | some _ => .fail)
 | .nilCheck x => match lz st x with
   | .one (.ptr b g off) => (match di st b g with
     | some _ => .done (aS st o.dst (.one (.ptr b g off)))
     | none => .fail)
   | .one (.Hs a j g i off) => (match aQ st a j g with
     | some _ => .done (aS st o.dst (.one (.Hs a j g i off)))
     | none => .fail)
   | _ => .fail
 | .binOp op t x y _ => u7 T st o.dst op t (lz st x) (lz st y)
 | .unOp .not _ x => match lz st x with
   | .one (.bool b) => .done (aS st o.dst (.one (.bool (!b))))
   | _ => .fail
 | .convert s t x => match T.kind s, T.kind t, lz st x with
   | some (.int _), some (.int k), .one (.int _ n) => .done (aS st o.dst (.one (.int k (k.wrap n))))
   | some .str, some .str, .one (.str b) => .done (aS st o.dst (.one (.str b)))
   | none, some .str, .one c => (match T.elem s with
     | some (.cons (.int .u8) .nil, _) => ly st (.cons (.int .u8) .nil) c fun ys => .done (aS st o.dst (.one (.str (bytesOf ys))))
     | _ => .fail)
   | _, _, _ => .fail
 | .makeSlice t l c => Ot T st o.dst t (lz st l) (lz st c)
 | .slice t x lo hi none => tk T st o.dst t (lz st x) (lo.map (lz st)) (hi.map (lz st))
 | .fieldAddr t x f => match lz st x, T.off t f with
   | .one (.ptr b g off), some k => (match di st b g with
     | some _ => .done (aS st o.dst (.one (.ptr b g (off + k))))
     | none => .fail)
   | .one (.Hs a j g i off), some k => (match aQ st a j g with
     | some _ => .done (aS st o.dst (.one (.Hs a j g i (off + k))))
     | none => .fail)
   | .one (.lf r x off), some k => .done (aS st o.dst (.one (.lf r x (off + k))))
   | .one (.sn r xs off), some k => .done (aS st o.dst (.one (.sn r xs (off + k))))
   | _, _ => .fail
 | .field t x f => match lz st x, T.off t f with
   | .agg cs, some k => bif T.one t f then (match nth cs k with
     | some c => .done (aS st o.dst (.one c))
     | none => .fail) else .fail
   | _, _ => .fail
 | .indexAddr t x i => oV T st o.dst t (lz st x) (lz st i)
 | .index t x i => match T.kind t, lz st x, lz st i with
   | some .str, .one (.str s), .one (.int _ n) => .br (decide (0 ≤ n)) (.br (decide (n < s.size)) (.done (aS st o.dst (.one (.int .u8 (Gl s n))))) .fail) .fail
   | _, _, _ => .fail
 | .extract t i => match lz st t with
   | .mz vs => match nth vs i with
     | some v => .done (aS st o.dst v)
     | none => .fail
   | _ => .fail
 | .call { callee := .value (.func f), args := args, argTypes := _ } => E3 S st o.dst f (args.toList.map (lz st))
 | .call { callee := .value (.tmp t), args := args, argTypes := _ } => (match bK st t with
   | .one (.fn g rs xs) => .row rs xs[0]? fun x => E3 S st o.dst g (args.toList.map (lz st) ++ uT rs x)
   | _ => .fail)
 | .makeFunc (.func g) first vt => bif first.isEmpty then (match xq st vt.toList with
   | some (aP, ⟨rs, x⟩) => .done (aS aP o.dst (.one (.fn g rs [x])))
   | none => .fail) else .fail
 | .call { callee := .builtin b, args := args, argTypes := ts } => match b, args.toList, ts.toList with
   | .len, [x], [t] => Gm T st o.dst t (lz st x)
   | .append, [x, y], [t, u] => bif Nat.beq t u then Gp T st o.dst t (lz st x) (lz st y) else .fail
   | .min, [x, y], _ => (match lz st x, lz st y with
     | .one (.int k a), .one (.int _ b) => .done (aS st o.dst (.one (.int k (if b < a then b else a))))
     | _, _ => .fail)
   | .max, [x, y], _ => (match lz st x, lz st y with
     | .one (.int k a), .one (.int _ b) => .done (aS st o.dst (.one (.int k (if b > a then b else a))))
     | _, _ => .fail)
   | .min, [x, y, z], _ => (match lz st x, lz st y, lz st z with
     | .one (.int k a), .one (.int _ b), .one (.int _ c) => .done (aS st o.dst (.one (.int k (if c < (if b < a then b else a) then c else (if b < a then b else a)))))
     | _, _, _ => .fail)
   | _, _, _ => .fail
 | _ => .fail
def vu (T : ki) (S : ju) (ops : List Oper) (st : St) (o : Oper) : N :=
 match o.guard with
 | none => Jk T S st o
 | some (j, want) => match (nth ops j).bind (·.dst) with
   | some d => match bK st d with
     | .one (.bool b) =>
       let yes (x : Bool) : N := Jk T S (aS st (some d) (.one (.bool x))) o
       let no (x : Bool) : N := .done (aS (aS st (some d) (.one (.bool x))) o.dst (.mz []))
       .br b (bif want then yes true else no true) (bif want then no false else yes false)
     | .mz [] => .done (aS st o.dst (.mz []))
     | _ => .fail
   | none => .fail
inductive Ex where
 | normal
 | exit (n : Nat)
 | ret
open Classical in
noncomputable def both {R : Type} (a b : Option R) : Option R := if a = b then a else none
theorem bZ {R : Type} (a : Option R) : both a a = a := by unfold both; rw [if_pos rfl]
theorem Mb {R : Type} {a b : Option R} {r : R} (h : both a b = some r) : a = some r ∧ b = some r := by
 unfold both at h
 split at h
 · rename_i e; exact ⟨h, e ▸ h⟩
 · cases h
section
variable {R : Type} (T : ki) (S : ju)
def Mc (ops : List Oper) : List Oper → St → (St → Option R) → Option R
 | [], st, k => k st
 | o :: r, st, k => (vu T S ops st o).fold fun aP => Mc ops r aP k
inductive Kd where
 | any | take | one | last
inductive Pl where
 | nil
 | op (i : Nat) (kd : Kd) (p : Pl)
 | alt (p q : Pl)
def Jz (st : St) (ms : List (Pm × V)) : Bool :=
 match iI st ms with
   | some (_, used, _, _) => used.isEmpty
   | none => true
def qm (S : ju) (st : St) (f : FuncId) (args : List V) : Bool :=
 match S f with
 | some (a, b, c, _) => (match lG (Bm (uS a b c args) (freeze st (CA st (uS a b c args)))) (uS a b c args) with | none => Jz (Bm (uS a b c args) (freeze st (CA st (uS a b c args)))) (uS a b c args) | some _ => false)
 | none => true
def kindOk (S : ju) (st : St) (o : Oper) : Kd → Bool
 | .any => match o.op with
   | .move _ | .assign _ | .pick _ _ _ | .nilCheck _ | .binOp _ _ _ _ _ | .unOp _ _ _ | .slice _ _ _ _ _ | .fieldAddr _ _ _ | .indexAddr _ _ _ | .index _ _ _ | .extract _ _ | .build _ _ | .field _ _ _ => true
   | .convert _ _ x => (match lz st x with | .one (.oU _ _ _ _ _ _ _ _) => false | .one (.shr _ _) => false | .one (.nn _ _) => false | .one (.ref _ _ _ _) => false | .one .dD => false | _ => true)
   | .call { callee := .builtin b, .. } => (match b with | .len | .min | .max => true | _ => false)
   | _ => false
 | .take => match o.op with
   | .load _ _ => true
   | _ => false
 | .one => match o.op with
   | .store _ _ _ => false
   | .call { callee := .builtin b, .. } => (match b with | .len | .min | .max => true | _ => false)
   | .call { callee := .value (.func f), args := args, .. } => qm S st f (args.toList.map (lz st))
   | .call { callee := .value (.tmp t), args := args, .. } => (match bK st t with
     | .one (.fn g rs xs) => (match xs[0]? with | some x => qm S st g (args.toList.map (lz st) ++ uT rs x) | none => true)
     | _ => true)
   | _ => true
 | .last => true
noncomputable def oW (ops : List Oper) : Pl → St → (St → Option R) → Option R
 | .nil, st, k => k st
 | .op i kd r, st, k => match nth ops i with
   | some o => bif kindOk S st o kd then (vu T S ops st o).fold fun aP => oW ops r aP k else none
   | none => none
 | .alt p q, st, k => both (oW ops p st k) (oW ops q st k)
abbrev mE (R : Type) := Nat → Code → St → (Ex → St → Option R) → Option R
abbrev kn := Nat → Pl
noncomputable def dI (D : kn) (L : mE R) : Code → St → (Ex → St → Option R) → Option R
 | .skip, st, k => k .normal st
 | .region _ ops false, st, k => Mc T S ops.toList ops.toList st fun aP => k .normal aP
 | .region id ops true, st, k => oW T S ops.toList (D id) st fun aP => k .normal aP
 | .seq a b, st, k => dI D L a st fun e aP => match e with
   | .normal => dI D L b aP k
   | e => k e aP
 | .cond (.tmp c) a b, st, k => match bK st c with
   | .one (.bool x) => bif x then dI D L a (aS st (some c) (.one (.bool true))) k else dI D L b (aS st (some c) (.one (.bool false))) k
   | _ => none
 | .block id (.loop b), st, k => L id b st k
 | .block id b, st, k => dI D L b st fun e aP => match e with
   | .exit n => bif Nat.beq n id then k .normal aP else k (.exit n) aP
   | e => k e aP
 | .exit id, st, k => k (.exit id) st
 | .ret, st, k => k .ret st
 | _, _, _ => none
end
end Go.TM
namespace Go.TM
open Go Go.RowKit
@[simp] theorem adA {α : Type} (n : Nat) : nth ([] : List α) n = none := rfl
theorem fL {α : Type} (l : List α) (n : Nat) : nth l n = l[n]? := by
 induction l generalizing n with
 | nil => simp
 | cons x l ih => cases n <;> simp [nth, ih]
theorem jv {α : Type} (f : α → α) (l : List α) (n : Nat) : nth (mq f l n) n = (nth l n).map f := by
 induction l generalizing n with
 | nil => rfl
 | cons x l ih => cases n <;> simp [mq, nth, ih]
theorem lU {α : Type} (f : α → α) (l : List α) {n m : Nat} (h : m ≠ n) : nth (mq f l n) m = nth l m := by
 induction l generalizing n m with
 | nil => rfl
 | cons x l ih =>
   cases n with
   | zero => cases m with
     | zero => exact absurd rfl h
     | succ m => rfl
   | succ n => cases m with
     | zero => rfl
     | succ m => simp only [mq, nth]; exact ih (by omega)
theorem dn {α : Type} (f : α → α) (l : List α) (n m : Nat) : nth (mq f l n) m = if m = n then (nth l m).map f else nth l m := by
 by_cases h : m = n
 · subst h; simp [jv]
 · simp [h, lU f l h]
theorem Gq {α : Type} {l : List α} {n : Nat} {x : α} (h : nth l n = some x) : n < l.length := by
 rw [fL] at h; exact (List.getElem?_eq_some_iff.1 h).1
def Le {r : RT} (xs : den (.sl r)) : List (ar r) := xs
mutual
def bH (w : World) (ok : Nat → Prop) : (t : Ty) → Value → den t → Prop
 | .int k, v, n => v = .int k n
 | .bool, v, b => v = .bool b
 | .str, v, s => v = .string s
 | .sl r, v, xs => (v = .slice none 0 0 ∧ Le xs = []) ∨
     ∃ a cap, v = .slice (some a) (Le xs).length cap ∧ (Le xs).length ≤ cap ∧
       (Le xs ≠ [] → a.spot = none ∧ a.block < w.heap.size ∧ ok a.block) ∧
       ∀ i x, (Le xs)[i]? = some x → cn w ok r a.block (a.off + i * r.width) x
def cn (w : World) (ok : Nat → Prop) : (r : RT) → (b off : Nat) → ar r → Prop
 | .nil, _, _, _ => True
 | .cons t r, b, off, x => (∃ v, w.cell? ⟨b, off, none⟩ = some v ∧ bH w ok t v x.1) ∧ cn w ok r b (off + 1) x.2
end
theorem nA (w : World) (ok : Nat → Prop) (r : RT) (v : Value) (xs : List (ar r)) : bH w ok (.sl r) v xs ↔
   ((v = .slice none 0 0 ∧ xs = []) ∨ ∃ a cap, v = .slice (some a) xs.length cap ∧ xs.length ≤ cap ∧
       (xs ≠ [] → a.spot = none ∧ a.block < w.heap.size ∧ ok a.block) ∧ ∀ i x, xs[i]? = some x → cn w ok r a.block (a.off + i * r.width) x) := by
 have := bH.eq_4 w ok v r xs; exact this ▸ Iff.rfl
theorem qD {w : World} {ok : Nat → Prop} {k : IntKind} {v : Value} {n : Int} : bH w ok (.int k) v n ↔ v = .int k n := bH.eq_1 w ok v k n ▸ Iff.rfl
theorem rN {w : World} {ok : Nat → Prop} {v : Value} {b : Bool} : bH w ok .bool v b ↔ v = .bool b := bH.eq_2 w ok v b ▸ Iff.rfl
theorem vv {w : World} {ok : Nat → Prop} {v : Value} {s : ByteArray} : bH w ok .str v s ↔ v = .string s := bH.eq_3 w ok v s ▸ Iff.rfl
structure iW (w w' : World) (ok yU : Nat → Prop) : Prop where
 size : w.heap.size ≤ w'.heap.size
 block : ∀ b, b < w.heap.size → ok b → w'.heap[b]? = w.heap[b]?
 ok : ∀ b, b < w.heap.size → ok b → yU b
theorem Lf {w : World} {a : Addr} {v : Value} (h : w.cell? a = some v) : a.block < w.heap.size := World.block_lt_of_cell? w a h
mutual
theorem bH.stays {w w' : World} {ok yU : Nat → Prop} (h : iW w w' ok yU) : (t : Ty) → (v : Value) → (x : den t) → bH w ok t v x → bH w' yU t v x
 | .int _, _, _, hr => by unfold bH at hr ⊢; exact hr
 | .bool, _, _, hr => by unfold bH at hr ⊢; exact hr
 | .str, _, _, hr => by unfold bH at hr ⊢; exact hr
 | .sl r, v, xs, hr => by
   unfold bH at hr ⊢; rcases hr with hr | ⟨a, cap, hv, hc, ha, hx⟩
   · exact .inl hr
   · refine .inr ⟨a, cap, hv, hc, fun fe => ?_, fun i x hi => ?_⟩
     · obtain ⟨hs, hb, fH⟩ := ha fe; exact ⟨hs, Nat.lt_of_lt_of_le hb h.size, h.ok _ hb fH⟩
     · have fe : Le xs ≠ [] := by intro e; rw [e] at hi; simp at hi
       obtain ⟨hs, hb, fH⟩ := ha fe; exact cn.stays h r _ _ x (h.block _ hb fH) (hx i x hi)
theorem cn.stays {w w' : World} {ok yU : Nat → Prop} (h : iW w w' ok yU) : (r : RT) → (b off : Nat) → (x : ar r) → w'.heap[b]? = w.heap[b]? → cn w ok r b off x → cn w' yU r b off x
 | .nil, _, _, _, _, _ => by unfold cn; trivial
 | .cons t r, b, off, x, fH, hr => by
   unfold cn at hr ⊢; obtain ⟨⟨v, hv, hx⟩, hr⟩ := hr; refine ⟨⟨v, ?_, bH.stays h t v x.1 hx⟩, cn.stays h r b (off + 1) x.2 fH hr⟩; rw [World.cell?_of_block (w := w) fH]; exact hv
end
inductive Loc where
 | nil
 | at (b off cap : Nat)
structure Cz where
 bx : Nat → Nat
 lc : Nat → Nat → Loc
 own : Nat → Option Lb
def Cz.ok (c : Cz) (b : Nat) : Prop := c.own b = none
def fM (st : St) (s : Nat) : Nat := match nth st s with | some x => x.bg | none => 0
def cQ (st : St) (s : Nat) : Nat := match nth st s with | some x => x.ag | none => 0
def je (l : Loc) (W lo n : Nat) (v : Value) : Prop :=
 match l with
 | .nil => v = .slice none 0 0 ∧ n = 0
 | .at b off cap => ∃ a c, v = .slice (some a) n c ∧ n ≤ c ∧ lo + c ≤ cap ∧ (c ≠ 0 → a = ⟨b, off + lo * W, none⟩)
mutual
def de (w : World) (P : List Nat → Nat → Prop) : (t : Ty) → (p : List Nat) → Value → den t → Prop
 | .int k, _, v, n => v = .int k n
 | .bool, _, v, b => v = .bool b
 | .str, _, v, s => v = .string s
 | .sl r, p, v, xs => ∃ lc : Loc, je lc r.width 0 (Le xs).length v ∧ v.oneCell' = true ∧ ((lc = .nil ∧ Le xs = []) ∨ ∃ b off cap, lc = .at b off cap ∧
     P p b ∧ (Le xs).length ≤ cap ∧ (∃ cur ty, w.heap[b]? = some (.cells cur ty (0, 0)) ∧ off + cap * r.width ≤ cur.size) ∧
       ∀ i x, (Le xs)[i]? = some x → fN w P r (p ++ [i]) 0 b (off + i * r.width) x)
def fN (w : World) (P : List Nat → Nat → Prop) : (r : RT) → (p : List Nat) → (k b off : Nat) → ar r → Prop
 | .nil, _, _, _, _, _ => True
 | .cons t r, p, k, b, off, x => (∃ v, w.cell? ⟨b, off, none⟩ = some v ∧ de w P t (p ++ [k]) v x.1) ∧ fN w P r p (k + 1) b (off + 1) x.2
end
theorem vz (w : World) (P : List Nat → Nat → Prop) (r : RT) (p : List Nat) (v : Value) (xs : List (ar r)) : de w P (.sl r) p v xs ↔
   ∃ lc : Loc, je lc r.width 0 xs.length v ∧ v.oneCell' = true ∧ ((lc = .nil ∧ xs = []) ∨ ∃ b off cap, lc = .at b off cap ∧
     P p b ∧ xs.length ≤ cap ∧ (∃ cur ty, w.heap[b]? = some (.cells cur ty (0, 0)) ∧ off + cap * r.width ≤ cur.size) ∧
       ∀ (i : Nat) x, xs[i]? = some x → fN w P r (p ++ [i]) 0 b (off + i * r.width) x) := by
 have := de.eq_4 w P p v r xs; exact this ▸ Iff.rfl
theorem xE {w : World} {P : List Nat → Nat → Prop} {k : IntKind} {p : List Nat} {v : Value} {n : Int} : de w P (.int k) p v n ↔ v = .int k n := de.eq_1 w P p v k n ▸ Iff.rfl
theorem tv {w : World} {P : List Nat → Nat → Prop} {p : List Nat} {v : Value} {n : Bool} : de w P .bool p v n ↔ v = .bool n := de.eq_2 w P p v n ▸ Iff.rfl
theorem xF {w : World} {P : List Nat → Nat → Prop} {p : List Nat} {v : Value} {n : ByteArray} : de w P .str p v n ↔ v = .string n := de.eq_3 w P p v n ▸ Iff.rfl
mutual
theorem de.go {w w' : World} {P P' : List Nat → Nat → Prop} : (t : Ty) → (p p' : List Nat) → (hP : ∀ q b, P (p ++ q) b → w'.heap[b]? = w.heap[b]? ∧ P' (p' ++ q) b) → (v : Value) → (x : den t) → de w P t p v x → de w' P' t p' v x
 | .int _, _, _, _, _, _, h => by unfold de at h ⊢; exact h
 | .bool, _, _, _, _, _, h => by unfold de at h ⊢; exact h
 | .str, _, _, _, _, _, h => by unfold de at h ⊢; exact h
 | .sl r, p, p', hP, v, xs, h => by
   unfold de at h ⊢; obtain ⟨lc, h1, h0, h2⟩ := h; refine ⟨lc, h1, h0, h2.imp id ?_⟩
   rintro ⟨b, off, cap, e, h3, h4, ⟨cur, ty, h5, h6⟩, h7⟩
   obtain ⟨hw, hb⟩ := hP [] b (by simpa using h3); refine ⟨b, off, cap, e, by simpa using hb, h4, ⟨cur, ty, by rw [hw]; exact h5, h6⟩, fun i x hx => fN.go r (p ++ [i]) (p' ++ [i]) (fun q k hk => ?_) 0 b _ x hw (h7 i x hx)⟩; have := hP ([i] ++ q) k (by rw [← List.append_assoc]; exact hk); rw [← List.append_assoc] at this; exact this
theorem fN.go {w w' : World} {P P' : List Nat → Nat → Prop} : (r : RT) → (p p' : List Nat) → (hP : ∀ q b, P (p ++ q) b → w'.heap[b]? = w.heap[b]? ∧ P' (p' ++ q) b) → (k b off : Nat) → (x : ar r) → w'.heap[b]? = w.heap[b]? → fN w P r p k b off x → fN w' P' r p' k b off x
 | .nil, _, _, _, _, _, _, _, _, _ => by unfold fN; trivial
 | .cons t r, p, p', hP, k, b, off, x, hw, h => by
   unfold fN at h ⊢; obtain ⟨⟨v, h1, h2⟩, h3⟩ := h; refine ⟨⟨v, by rw [World.cell?_of_block (w := w) hw]; exact h1, de.go t (p ++ [k]) (p' ++ [k]) (fun q b hb => ?_) v x.1 h2⟩, fN.go r p p' hP (k + 1) b (off + 1) x.2 hw h3⟩; have := hP ([k] ++ q) b (by rw [← List.append_assoc]; exact hb); rw [← List.append_assoc] at this; exact this
end
theorem JA {lc : Loc} {W lo n : Nat} {v : Value} (h : je lc W lo n v) : (v = .slice none 0 0 ∧ n = 0) ∨ ∃ b off cap a c, lc = .at b off cap ∧ v = .slice (some a) n c ∧ n ≤ c ∧ lo + c ≤ cap ∧ (c ≠ 0 → a = ⟨b, off + lo * W, none⟩) := by
 cases lc with
 | nil => exact .inl h
 | «at» b off cap =>
   obtain ⟨a, c, h1, h2, h3, h4⟩ := h; exact .inr ⟨b, off, cap, a, c, rfl, h1, h2, h3, h4⟩
mutual
theorem de.rep {w : World} {P : List Nat → Nat → Prop} {ok : Nat → Prop} (hP : ∀ p b, P p b → ok b) : (t : Ty) → (p : List Nat) → (v : Value) → (x : den t) → de w P t p v x → bH w ok t v x
 | .int _, _, _, _, h => by unfold de at h; unfold bH; exact h
 | .bool, _, _, _, h => by unfold de at h; unfold bH; exact h
 | .str, _, _, _, h => by unfold de at h; unfold bH; exact h
 | .sl r, p, v, xs, h => by
   unfold de at h; unfold bH; obtain ⟨lc, h1, h0, h2⟩ := h; rcases JA h1 with ⟨e1, e2⟩ | ⟨b, off, cap, a, c, e1, e2, e3, e4, e5⟩
   · exact .inl ⟨e1, List.length_eq_zero_iff.1 e2⟩
   · rcases h2 with ⟨e, _⟩ | ⟨b', Zq, JB, e, h3, h4, ⟨cur, ty, h5, h6⟩, h7⟩
     · rw [e] at e1; cases e1
     · rw [e] at e1; injection e1 with q1 q2 q3; subst q1 q2 q3; have fe : Le xs ≠ [] → a = ⟨b', Zq, none⟩ := by
         intro fe; have := List.length_pos_iff.2 fe; have := e5 (by omega); simpa using this
       refine .inr ⟨a, c, e2, e3, fun hn => ?_, fun i x hx => ?_⟩
       · rw [fe hn]; exact ⟨rfl, (Array.getElem?_eq_some_iff.1 h5).1, hP _ _ h3⟩
       · rw [fe (by intro e; rw [e] at hx; simp at hx)]; exact fN.rep hP r _ 0 b' _ x (h7 i x hx)
theorem fN.rep {w : World} {P : List Nat → Nat → Prop} {ok : Nat → Prop} (hP : ∀ p b, P p b → ok b) : (r : RT) → (p : List Nat) → (k b off : Nat) → (x : ar r) → fN w P r p k b off x → cn w ok r b off x
 | .nil, _, _, _, _, _, _ => by unfold cn; trivial
 | .cons t r, p, k, b, off, x, h => by
   unfold fN at h; unfold cn; obtain ⟨⟨v, h1, h2⟩, h3⟩ := h; exact ⟨⟨v, h1, de.rep hP t _ v x.1 h2⟩, fN.rep hP r p (k + 1) b (off + 1) x.2 h3⟩
end
def bm (c : Cz) (w : World) (l : Lb) (A : gP) (b off : Nat) : Prop :=
 match A.md with
 | .sh => ∀ (i : Nat) x, A.xs[i]? = some x → cn w c.ok A.r b (off + i * A.r.width) x
 | .dp => ∃ g : Nat → List Nat, g b = [] ∧ ∀ (i : Nat) x, A.xs[i]? = some x → fN w (fun p k => c.own k = some l ∧ g k = p) A.r [i] 0 b (off + i * A.r.width) x
 | .ho q => A.own = true → ∃ g : Nat → List Nat, g b = [] ∧ ∀ (i : Nat) x, i ≠ q → A.xs[i]? = some x → fN w (fun p k => c.own k = some l ∧ g k = p) A.r [i] 0 b (off + i * A.r.width) x
theorem bm.go {c c' : Cz} {w w' : World} {l l' : Lb} {A : gP} {b off : Nat} (h : bm c w l A b off) (hs : A.md = .sh → iW w w' c.ok c'.ok) (hb : w'.heap[b]? = w.heap[b]?)
   (hd : A.md ≠ .sh → ∀ k, c.own k = some l → w'.heap[k]? = w.heap[k]? ∧ c'.own k = some l') : bm c' w' l' A b off := by
 unfold bm at h ⊢
 cases hm : A.md with
 | sh => rw [hm] at h; exact fun i x hx => cn.stays (hs hm) _ _ _ _ hb (h i x hx)
 | dp =>
   rw [hm] at h; obtain ⟨g, h1, h2⟩ := h; exact ⟨g, h1, fun i x hx => fN.go _ [i] [i] (fun q k hk => ⟨(hd (by rw [hm]; simp) k hk.1).1, (hd (by rw [hm]; simp) k hk.1).2, hk.2⟩) _ _ _ _ hb (h2 i x hx)⟩
 | ho q =>
   rw [hm] at h; intro ho; obtain ⟨g, h1, h2⟩ := h ho; exact ⟨g, h1, fun i x hq hx => fN.go _ [i] [i] (fun q k hk => ⟨(hd (by rw [hm]; simp) k hk.1).1, (hd (by rw [hm]; simp) k hk.1).2, hk.2⟩) _ _ _ _ hb (h2 i x hq hx)⟩
theorem bm.sh {c : Cz} {w : World} {l : Lb} {A : gP} {b off : Nat} (hm : A.md = .sh) : bm c w l A b off ↔ ∀ (i : Nat) x, A.xs[i]? = some x → cn w c.ok A.r b (off + i * A.r.width) x := by
 unfold bm; rw [hm]
def E4 (w : World) (ok : Nat → Prop) (r : RT) (v : Value) (xs : List (ar r)) : Prop :=
 ∃ b o, v = .pointer (some ⟨b, o, none⟩) ∧ b < w.heap.size ∧ ok b ∧ ∀ x, xs[0]? = some x → cn w ok r b o x
def tw (w : World) (ok : Nat → Prop) : (rs : RT) → List Value → ar rs → Prop
 | .nil, vs, _ => vs = []
 | .cons (.sl r) rs, vs, x => ∃ v l, vs = v :: l ∧ E4 w ok r v (Le x.1) ∧ tw w ok rs l x.2
 | .cons _ _, _, _ => False
def FnAt (w : World) (ok : Nat → Prop) (g : Nat) (rs : RT) (v : Value) (xs : List (ar rs)) : Prop :=
 ∃ vt, v = .func (.func g) #[] vt ∧ ∀ x, xs[0]? = some x → tw w ok rs vt.toList x
theorem E4.stays {w w' : World} {ok yU : Nat → Prop} (h : iW w w' ok yU) {r : RT} {v : Value} {xs : List (ar r)} (hp : E4 w ok r v xs) : E4 w' yU r v xs := by
 obtain ⟨b, o, h1, h2, h3, h4⟩ := hp; exact ⟨b, o, h1, Nat.lt_of_lt_of_le h2 h.size, h.ok b h2 h3, fun x hx => cn.stays h r b o x (h.block b h2 h3) (h4 x hx)⟩
theorem tw.stays {w w' : World} {ok yU : Nat → Prop} (h : iW w w' ok yU) : (rs : RT) → (vs : List Value) → (x : ar rs) → tw w ok rs vs x → tw w' yU rs vs x
 | .nil, _, _, hc => hc
 | .cons (.sl r) rs, vs, x, hc => by
   obtain ⟨v, l, h1, h2, h3⟩ := hc; exact ⟨v, l, h1, h2.stays h, tw.stays h rs l x.2 h3⟩
 | .cons (.int _) _, _, _, hc => hc.elim
 | .cons .bool _, _, _, hc => hc.elim
 | .cons .str _, _, _, hc => hc.elim
theorem FnAt.stays {w w' : World} {ok yU : Nat → Prop} (h : iW w w' ok yU) {g : Nat} {rs : RT} {v : Value} {xs : List (ar rs)} (hf : FnAt w ok g rs v xs) : FnAt w' yU g rs v xs := by
 obtain ⟨vt, h1, h2⟩ := hf; exact ⟨vt, h1, fun x hx => tw.stays h rs _ x (h2 x hx)⟩
def jw (c : Cz) (st : St) (w : World) : CV → Value → Prop
 | .bad, _ => True
 | .int k n, v => v = .int k n
 | .bool b, v => v = .bool b
 | .str s, v => v = .string s
 | .dD, v => v = .slice none 0 0
 | .Jr, v => v = .pointer none
 | .shr r xs, v => bH w c.ok (.sl r) v xs
 | .nn r xs, v => bH w c.ok (.sl r) v xs ∧ v ≠ .slice none 0 0
 | .ref a j g vw, v => v.oneCell' = true ∧ g ≤ cQ st a ∧ ∀ A, aQ st a j g = some A → je (c.lc a j) A.r.width vw.lo (vw.app A.xs).length v
 | .ptr b g off, v => v.oneCell' = true ∧ g ≤ fM st b ∧ ∀ cs, di st b g = some cs → v = .pointer (some ⟨c.bx b, off, none⟩)
 | .Hs a j g i off, v => v.oneCell' = true ∧ g ≤ cQ st a ∧ ∀ A, aQ st a j g = some A → i < A.xs.length ∧ ∃ b o cap, c.lc a j = .at b o cap ∧ v = .pointer (some ⟨b, o + i * A.r.width + off, none⟩)
 | .lf r x off, v => ∃ b o, v = .pointer (some ⟨b, o + off, none⟩) ∧ b < w.heap.size ∧ c.ok b ∧ cn w c.ok r b o x
 | .sn r xs off, v => ∃ b o, v = .pointer (some ⟨b, o + off, none⟩) ∧ b < w.heap.size ∧ c.ok b ∧ ∀ x, xs[0]? = some x → cn w c.ok r b o x
 | .fn g rs xs, v => FnAt w c.ok g rs v xs
 | .oU a j g e i k q ys, v => v.oneCell' = true ∧ g ≤ cQ st a ∧ e ≤ lT st a ∧ ∀ A, aQ st a j g = some A → lT st a = e →
     A.md = .dp ∧ (∃ x, A.xs[i]? = some x ∧ pL A.r x k = some ⟨q, ys⟩) ∧ ∃ b o cap, c.lc a j = .at b o cap ∧ w.cell? ⟨b, o + i * A.r.width + k, none⟩ = some v
def eH (c : Cz) (st : St) (w : World) (cs : List CV) (vs : List Value) : Prop :=
 cs.length = vs.length ∧ ∀ (i : Nat) x v, cs[i]? = some x → vs[i]? = some v → jw c st w x v
def yV (c : Cz) (st : St) (w : World) : V → Value → Prop
 | .one x, v => jw c st w x v
 | .agg cs, v => ∃ vs, v = .agg vs ∧ eH c st w cs vs.toList
 | .mz _, _ => False
def dU (c : Cz) (st : St) (w : World) : V → Value → Prop
 | .mz us, v => ∃ vs, v = .tuple vs ∧ us.length = vs.size ∧ ∀ (i : Nat) x y, us[i]? = some x → vs[i]? = some y → yV c st w x y
 | x, v => yV c st w x v
def vA (c : Cz) (st : St) (w : World) (s : Nat) (cs : List CV) : Prop :=
 c.own (c.bx s) = some (.box s) ∧ ∃ vs ty, w.heap[c.bx s]? = some (.cells vs ty (0, 0)) ∧ eH c st w cs vs.toList
def bI (c : Cz) (w : World) (s j : Nat) (A : gP) : Prop :=
 match c.lc s j with
 | .nil => A.xs = []
 | .at b off cap => (match A.own with | true => c.own b = some (.sp s j) | false => c.own b = none) ∧ A.xs.length ≤ cap ∧
     (∃ cur ty, w.heap[b]? = some (.cells cur ty (0, 0)) ∧ off + cap * A.r.width ≤ cur.size) ∧
     bm c w (.sp s j) A b off
inductive Me where
 | arr (a j g W n : Nat) (l : Loc)
 | box (b g nB : Nat)
def Rs (c : Cz) (st : St) : Me → Prop
 | .arr a j g W n l => g ≤ cQ st a ∧ ∀ A, aQ st a j g = some A → A.r.width = W ∧ A.xs.length = n ∧ c.lc a j = l
 | .box b g nB => g ≤ fM st b ∧ ∀ cs, di st b g = some cs → c.bx b = nB
structure Mu where
 m : Nat → Prop
 ok : Nat → Prop
 an : List Me
structure Rel (w0 : World) (mu : Mu) (c : Cz) (st : St) (a : Act) (w : World) : Prop where
 eI : ∀ t, dU c st w (bK st t) (a.eval (.tmp t))
 boxes : ∀ s sl cs, nth st s = some sl → sl.box = some cs → vA c st w s cs
 aK : ∀ s j sl A, nth st s = some sl → nth sl.aK j = some (some A) → bI c w s j A
 owned : ∀ b l, c.own b = some l → b < w.heap.size ∧ (l = .out ∨ w0.heap.size ≤ b ∨ mu.m b)
 free : ∀ b, b < w0.heap.size → c.own b = none → mu.m b ∨ mu.ok b
 kept : w.os = w0.os ∧ w.tape = w0.tape ∧ w.output = w0.output ∧ w0.heap.size ≤ w.heap.size
 old : ∀ k, k < w0.heap.size → ¬ mu.m k → w.heap[k]? = w0.heap[k]?
 plain : a.defers = []
 dJ : ∀ p ∈ mu.an, Rs c st p
end Go.TM
namespace Go.TM
open Go Go.RowKit
theorem aH {α : Type} {b : Bool} {x : Option α} {y : α} (h : (bif b then x else none) = some y) : b = true ∧ x = some y := by
 cases b
 · simp at h
 · exact ⟨rfl, h⟩
theorem dv {b : Bool} {x : N} {y : St} (h : (bif b then x else N.fail).val = some y) : b = true ∧ x.val = some y := by
 cases b
 · simp [N.val] at h
 · exact ⟨rfl, h⟩
theorem ba {st : St} {a j g : Nat} {A : gP} (h : aQ st a j g = some A) : ∃ sl, nth st a = some sl ∧ sl.ag = g ∧ nth sl.aK j = some (some A) := by
 unfold aQ at h
 cases hs : nth st a with
 | none => simp [hs] at h
 | some sl =>
   simp only [hs] at h; obtain ⟨h1, h2⟩ := aH h; refine ⟨sl, rfl, Nat.eq_of_beq_eq_true h1, ?_⟩
   cases hj : nth sl.aK j with
   | none => simp [hj] at h2
   | some o => cases o with
     | none => simp [hj] at h2
     | some B => simp [hj] at h2; rw [h2]
theorem gU {st : St} {b g : Nat} {cs : List CV} (h : di st b g = some cs) : ∃ sl, nth st b = some sl ∧ sl.bg = g ∧ sl.box = some cs := by
 unfold di at h
 cases hs : nth st b with
 | none => simp [hs] at h
 | some sl =>
   simp only [hs] at h; obtain ⟨h1, h2⟩ := aH h; exact ⟨sl, rfl, Nat.eq_of_beq_eq_true h1, h2⟩
theorem View.JC {r s : RT} (w : View) (xs : List (ar r)) (ys : List (ar s)) (h : xs.length = ys.length) : (w.app xs).length = (w.app ys).length := by
 cases w <;> simp [View.app, h]
structure Fw (c : Cz) (st : St) (w : World) (c' : Cz) (aP : St) (w' : World) : Prop where
 stays : iW w w' c.ok c'.ok
 refs : ∀ a j g A', g ≤ cQ st a → aQ aP a j g = some A' → ∃ A, aQ st a j g = some A ∧ A'.r.width = A.r.width ∧ A'.xs.length = A.xs.length ∧ c'.lc a j = c.lc a j ∧
   (lT aP a = lT st a → A' = A ∧ ∀ b o cap, c.lc a j = .at b o cap → w'.heap[b]? = w.heap[b]?)
 B8 : ∀ b g mA, g ≤ fM st b → di aP b g = some mA → (∃ cs, di st b g = some cs) ∧ c'.bx b = c.bx b
 gA : ∀ a, cQ st a ≤ cQ aP a
 gB : ∀ b, fM st b ≤ fM aP b
 gE : ∀ a, lT st a ≤ lT aP a
theorem Fw.Ox {c : Cz} {st : St} {w : World} {c' : Cz} {aP : St} {w' : World} (h : Fw c st w c' aP w') {x : CV} {v : Value} (hr : jw c st w x v) : jw c' aP w' x v := by
 cases x with
 | bad => trivial
 | int k n => exact hr
 | bool b => exact hr
 | str s => exact hr
 | dD => exact hr
 | Jr => exact hr
 | shr r xs => exact bH.stays h.stays _ _ _ hr
 | nn r xs => exact ⟨bH.stays h.stays _ _ _ hr.1, hr.2⟩
 | ref a j g vw =>
   refine ⟨hr.1, Nat.le_trans hr.2.1 (h.gA a), fun A' dQ => ?_⟩; obtain ⟨A, hA, hw, hl, gV, _⟩ := h.refs a j g A' hr.2.1 dQ; have := hr.2.2 A hA; rw [gV, hw, View.JC vw A'.xs A.xs hl]; exact this
 | ptr b g off =>
   refine ⟨hr.1, Nat.le_trans hr.2.1 (h.gB b), fun cs tz => ?_⟩; obtain ⟨⟨N7, h0⟩, hb⟩ := h.B8 b g cs hr.2.1 tz; rw [hb]; exact hr.2.2 N7 h0
 | Hs a j g i off =>
   refine ⟨hr.1, Nat.le_trans hr.2.1 (h.gA a), fun A' dQ => ?_⟩; obtain ⟨A, hA, hw, hl, gV, _⟩ := h.refs a j g A' hr.2.1 dQ; have := hr.2.2 A hA; rw [gV, hw, hl]; exact this
 | oU a j g e i k q ys =>
   obtain ⟨h1, h2, h3, h4⟩ := hr; refine ⟨h1, Nat.le_trans h2 (h.gA a), Nat.le_trans h3 (h.gE a), fun A' dQ he => ?_⟩; obtain ⟨A, hA, hw, hl, gV, hs⟩ := h.refs a j g A' h2 dQ; have Uk : lT aP a = lT st a := by have := h.gE a; omega
   obtain ⟨rfl, hb⟩ := hs Uk; obtain ⟨k1, k2, b, o, cap, k3, k4⟩ := h4 A' hA (by omega); exact ⟨k1, k2, b, o, cap, by rw [gV]; exact k3, by rw [World.cell?_of_block (w := w) (hb b o cap k3)]; exact k4⟩
 | lf r x off =>
   obtain ⟨b, o, hv, hb, fH, hx⟩ := hr; exact ⟨b, o, hv, Nat.lt_of_lt_of_le hb h.stays.size, h.stays.ok b hb fH, cn.stays h.stays r b o x (h.stays.block b hb fH) hx⟩
 | sn r xs off =>
   obtain ⟨b, o, hv, hb, fH, hx⟩ := hr; exact ⟨b, o, hv, Nat.lt_of_lt_of_le hb h.stays.size, h.stays.ok b hb fH, fun x rF => cn.stays h.stays r b o x (h.stays.block b hb fH) (hx x rF)⟩
 | fn g rs xs => exact FnAt.stays h.stays hr
theorem Fw.Rt {c : Cz} {st : St} {w : World} {c' : Cz} {aP : St} {w' : World} (h : Fw c st w c' aP w') {cs : List CV} {vs : List Value} (hr : eH c st w cs vs) : eH c' aP w' cs vs :=
 ⟨hr.1, fun i x v hx hv => h.Ox (hr.2 i x v hx hv)⟩
theorem Fw.Oy {c : Cz} {st : St} {w : World} {c' : Cz} {aP : St} {w' : World} (h : Fw c st w c' aP w') {x : V} {v : Value} (hr : yV c st w x v) : yV c' aP w' x v := by
 cases x with
 | one x => exact h.Ox hr
 | agg cs => obtain ⟨vs, hv, hl⟩ := hr; exact ⟨vs, hv, h.Rt hl⟩
 | mz us => exact hr
theorem Fw.mr {c : Cz} {st : St} {w : World} {c' : Cz} {aP : St} {w' : World} (h : Fw c st w c' aP w') {x : V} {v : Value} (hr : dU c st w x v) : dU c' aP w' x v := by
 cases x with
 | one x => exact h.Oy (x := .one x) hr
 | agg cs => exact h.Oy (x := .agg cs) hr
 | mz us =>
   obtain ⟨vs, hv, hl, he⟩ := hr; exact ⟨vs, hv, hl, fun i x y hx hy => h.Oy (he i x y hx hy)⟩
theorem Fw.dJ {c : Cz} {st : St} {w : World} {c' : Cz} {aP : St} {w' : World} (h : Fw c st w c' aP w') {p : Me} (hp : Rs c st p) : Rs c' aP p := by
 cases p with
 | arr a j g W n l =>
   refine ⟨Nat.le_trans hp.1 (h.gA a), fun A' dQ => ?_⟩; obtain ⟨A, hA, hw, hl, gV, _⟩ := h.refs a j g A' hp.1 dQ; obtain ⟨h1, h2, h3⟩ := hp.2 A hA; exact ⟨hw.trans h1, hl.trans h2, gV.trans h3⟩
 | box b g nB =>
   refine ⟨Nat.le_trans hp.1 (h.gB b), fun cs tz => ?_⟩; obtain ⟨⟨N7, h0⟩, hb⟩ := h.B8 b g cs hp.1 tz; exact hb.trans (hp.2 N7 h0)
theorem bI.go {c c' : Cz} {w w' : World} {s j : Nat} {A : gP} (h : bI c w s j A) (hs : iW w w' c.ok c'.ok) (hl : c'.lc s j = c.lc s j)
   (hb : ∀ b, c.own b = some (.sp s j) → w'.heap[b]? = w.heap[b]? ∧ c'.own b = c.own b) : bI c' w' s j A := by
 unfold bI at h ⊢; rw [hl]
 cases hc : c.lc s j with
 | nil => simpa [hc] using h
 | «at» b off cap =>
   rw [hc] at h; obtain ⟨h1, h2, ⟨cur, ty, h3, h4⟩, h5⟩ := h; have bN : b < w.heap.size := (Array.getElem?_eq_some_iff.1 h3).1; have hwo : w'.heap[b]? = w.heap[b]? ∧ c'.own b = c.own b := by
     cases ho : A.own with
     | true => rw [ho] at h1; exact hb b h1
     | false => rw [ho] at h1; exact ⟨hs.block b bN h1, (hs.ok b bN h1 : c'.own b = none).trans h1.symm⟩
   refine ⟨?_, h2, ⟨cur, ty, by rw [hwo.1]; exact h3, h4⟩, h5.go (fun _ => hs) hwo.1 (fun _ k hk => ⟨(hb k hk).1, (hb k hk).2.trans hk⟩)⟩; rw [hwo.2]; exact h1
theorem vA.go {c : Cz} {st : St} {w : World} {c' : Cz} {aP : St} {w' : World} (h : Fw c st w c' aP w') {s : Nat} {cs : List CV} (hb : vA c st w s cs)
   (hx : c'.bx s = c.bx s) (ho : c'.own (c.bx s) = c.own (c.bx s)) (hw : w'.heap[c.bx s]? = w.heap[c.bx s]?) : vA c' aP w' s cs := by
 obtain ⟨h1, vs, ty, h2, h3⟩ := hb; exact ⟨by rw [hx, ho]; exact h1, vs, ty, by rw [hx, hw]; exact h2, h.Rt h3⟩
theorem Mf (st : St) (d : Option Nat) (v : V) (t : Nat) : bK (aS st d v) t = if d = some t ∧ t < st.length then v else bK st t := by
 cases d with
 | none => simp [aS]
 | some u =>
   unfold bK aS; rw [dn]
   by_cases h : t = u
   · subst h; simp only [if_true, true_and]
     by_cases hl : t < st.length
     · have : nth st t = some st[t] := by rw [fL]; exact List.getElem?_eq_getElem hl
       simp [this, hl]
     · have : nth st t = none := by rw [fL]; exact List.getElem?_eq_none (by omega)
       simp [this, hl]
   · have : ¬ (some u = some t ∧ t < st.length) := by rintro ⟨e, _⟩; exact h (Option.some.inj e).symm
     rw [if_neg h, if_neg this]
theorem qE (st : St) (d : Option Nat) (v : V) (s : Nat) : ∃ f : Sl → Sl, (∀ x, (f x).box = x.box ∧ (f x).bg = x.bg ∧ (f x).aK = x.aK ∧ (f x).ag = x.ag ∧ (f x).ep = x.ep) ∧ nth (aS st d v) s = (nth st s).map f := by
 cases d with
 | none => exact ⟨id, fun _ => ⟨rfl, rfl, rfl, rfl, rfl⟩, by simp [aS]⟩
 | some t =>
   unfold aS
   by_cases h : s = t
   · subst h; exact ⟨fun x => { x with v := v }, fun _ => ⟨rfl, rfl, rfl, rfl, rfl⟩, jv _ _ _⟩
   · exact ⟨id, fun _ => ⟨rfl, rfl, rfl, rfl, rfl⟩, by simp [lU _ _ h]⟩
theorem Mg (st : St) (d : Option Nat) (v : V) (a j g : Nat) : aQ (aS st d v) a j g = aQ st a j g := by
 obtain ⟨f, hf, hn⟩ := qE st d v a; unfold aQ; rw [hn]
 cases nth st a with
 | none => rfl
 | some s => obtain ⟨_, _, h3, h4, _⟩ := hf s; simp [h3, h4]
theorem Mh (st : St) (d : Option Nat) (v : V) (b g : Nat) : di (aS st d v) b g = di st b g := by
 obtain ⟨f, hf, hn⟩ := qE st d v b; unfold di; rw [hn]
 cases nth st b with
 | none => rfl
 | some s => obtain ⟨h1, h2, _, _, _⟩ := hf s; simp [h1, h2]
theorem Mi (st : St) (d : Option Nat) (v : V) (a : Nat) : cQ (aS st d v) a = cQ st a := by
 obtain ⟨f, hf, hn⟩ := qE st d v a; unfold cQ; rw [hn]
 cases nth st a with
 | none => rfl
 | some s => exact (hf s).2.2.2.1
theorem Oz (st : St) (d : Option Nat) (v : V) (a : Nat) : lT (aS st d v) a = lT st a := by
 obtain ⟨f, hf, hn⟩ := qE st d v a; unfold lT; rw [hn]
 cases nth st a with
 | none => rfl
 | some s => exact (hf s).2.2.2.2
theorem Mj (st : St) (d : Option Nat) (v : V) (a : Nat) : fM (aS st d v) a = fM st a := by
 obtain ⟨f, hf, hn⟩ := qE st d v a; unfold fM; rw [hn]
 cases nth st a with
 | none => rfl
 | some s => exact (hf s).2.1
theorem iW.refl (w : World) (ok : Nat → Prop) : iW w w ok ok := ⟨Nat.le_refl _, fun _ _ _ => rfl, fun _ _ h => h⟩
theorem Fw.aS (c : Cz) (st : St) (w : World) (d : Option Nat) (v : V) : Fw c st w c (aS st d v) w where
 stays := iW.refl w _
 refs a j g A' _ h := ⟨A', by rwa [Mg] at h, rfl, rfl, rfl, fun _ => ⟨rfl, fun _ _ _ _ => rfl⟩⟩
 B8 b g mA _ h := ⟨⟨mA, by rwa [Mh] at h⟩, rfl⟩
 gA a := by rw [Mi]; exact Nat.le_refl _
 gB a := by rw [Mj]; exact Nat.le_refl _
 gE a := by rw [Oz]; exact Nat.le_refl _
theorem eval_put (a : Act) (d : Option Tmp) (v : Value) (t : Nat) : (a.put d v).eval (.tmp t) = if d = some t ∧ t < a.tmps.size then v else a.eval (.tmp t) := by
 cases d with
 | none => simp [Act.put]
 | some u =>
   simp only [Act.put, Act.eval, Array.getD_eq_getD_getElem?, Array.getElem?_setIfInBounds]
   by_cases h : u = t
   · subst h
     by_cases hl : u < a.tmps.size <;> simp [hl]
   · have : ¬ (some u = some t ∧ t < a.tmps.size) := by rintro ⟨e, _⟩; exact h (Option.some.inj e)
     rw [if_neg this]; simp [h]
theorem Rel.aS {w0 : World} {mu : Mu} {c : Cz} {st : St} {a : Act} {w : World} (h : Rel w0 mu c st a w) {d : Option Nat} {v : V} {u : Value}
   (hv : dU c st w v u) (hd : ∀ t, d = some t → t < a.tmps.size) : Rel w0 mu c (aS st d v) (a.put d u) w where
 eI t := by
   have hg := Fw.aS c st w d v; rw [Mf, eval_put]
   by_cases Zr : d = some t
   · have := hd t Zr
     by_cases hl : t < st.length
     · rw [if_pos ⟨Zr, hl⟩, if_pos ⟨Zr, this⟩]; exact hg.mr hv
     · have e : bK st t = .one .bad := by
         unfold bK; rw [fL, List.getElem?_eq_none (by omega)]
       rw [if_neg (fun h => hl h.2), e]; trivial
   · rw [if_neg (fun h => Zr h.1), if_neg (fun h => Zr h.1)]; exact hg.mr (h.eI t)
 boxes s sl cs hs hb := by
   obtain ⟨f, hf, hn⟩ := qE st d v s; rw [hn] at hs
   cases hx : nth st s with
   | none => rw [hx] at hs; simp at hs
   | some s0 =>
     rw [hx] at hs; simp at hs; subst hs; rw [(hf s0).1] at hb; exact (h.boxes s s0 cs hx hb).go (Fw.aS c st w d v) rfl rfl rfl
 aK s j sl A hs hb := by
   obtain ⟨f, hf, hn⟩ := qE st d v s; rw [hn] at hs
   cases hx : nth st s with
   | none => rw [hx] at hs; simp at hs
   | some s0 =>
     rw [hx] at hs; simp at hs; subst hs; rw [(hf s0).2.2.1] at hb; exact h.aK s j s0 A hx hb
 owned := h.owned
 free := h.free
 kept := h.kept
 old := h.old
 dJ p hp := (Fw.aS c st w d v).dJ (h.dJ p hp)
 plain := by
   have := h.plain
   cases d <;> simpa [Act.put] using this
theorem Rel.sH {w0 : World} {mu : Mu} {c : Cz} {st : St} {a : Act} {w : World} (h : Rel w0 mu c st a w) {s j g : Nat} {A : gP} (hA : aQ st s j g = some A) : bI c w s j A := by
 obtain ⟨sl, h1, _, h3⟩ := ba hA; exact h.aK s j sl A h1 h3
theorem bI.lt {c : Cz} {w : World} {s j : Nat} {A : gP} (h : bI c w s j A) {b off cap : Nat} (hl : c.lc s j = .at b off cap) : b < w.heap.size := by
 unfold bI at h; rw [hl] at h; obtain ⟨_, _, ⟨cur, t, h3, _⟩, _⟩ := h; exact (Array.getElem?_eq_some_iff.1 h3).1
end Go.TM
namespace Go.TM
open Go Go.RowKit
def iX : RT → List Value → Prop
 | .nil, vs => vs = []
 | .cons (.int k) r, vs => ∃ l, vs = .int k 0 :: l ∧ iX r l
 | .cons .bool r, vs => ∃ l, vs = .bool false :: l ∧ iX r l
 | .cons .str r, vs => ∃ l, vs = .string ByteArray.empty :: l ∧ iX r l
 | .cons (.sl _) r, vs => ∃ l, vs = .slice none 0 0 :: l ∧ iX r l
def descOf : Ty → TypeDesc → Prop
 | .int k, d => d = .int k
 | .bool, d => d = .bool
 | .str, d => d = .string
 | .sl _, _ => False
structure fI (P : Program) (T : ki) : Prop where
 cells : ∀ t n, T.cells t = some n → (P.info? t).map (·.size) = some n
 agg : ∀ t n, T.cells t = some n → ∃ d, P.underlying t = some d ∧ d.isRow = T.agg t ∧ (T.agg t = false → n = 1)
 off : ∀ t f k, T.off t f = some k → ∃ fs rG n, P.underlying t = some (.struct fs) ∧ fs[f]? = some rG ∧ rG.offset = k ∧ (P.info? rG.type).map (·.size) = some (n + 1)
 bld : ∀ t, T.agg t = true → ∃ fs bT, P.underlying t = some (.struct fs) ∧ fs.toList.mapM (fun f => (P.info? f.type).map fun i => (f.offset, i.size)) = some bT ∧
   ∀ f o s, T.off t f = some o → T.Zl t f = some s → bT[f]? = some (o, s)
 row : ∀ t r, T.row t = some r → ∃ i z, P.info? t = some i ∧ i.zero = some z ∧ iX r z.cells.toList
 elem : ∀ t r b, T.elem t = some (r, b) → ∃ e i z, P.underlying t = some (.slice e) ∧ P.info? e = some i ∧ i.size = r.width ∧ 0 < r.width ∧ i.bytes = b ∧ 0 < b ∧ i.zero = some z ∧ iX r z.cells.toList
 u8 : ∀ t e b, T.elem t = some (.cons (.int .u8) .nil, b) → P.underlying t = some (.slice e) → P.underlying e = some (.int .u8)
 kind : ∀ t y, T.kind t = some y → ∃ d, P.underlying t = some d ∧ descOf y d
 one : ∀ t f, T.one t f = true → ∃ fs rG d, P.underlying t = some (.struct fs) ∧ fs[f]? = some rG ∧ P.underlying rG.type = some d ∧ d.isRow = false
theorem jw.one {c : Cz} {st : St} {w : World} {x : CV} {v : Value} (h : jw c st w x v) (hs : x.sG = true) : v.oneCell' = true := by
 cases x with
 | bad => simp [CV.sG] at hs
 | int k n => simp only [jw] at h; subst h; rfl
 | bool b => simp only [jw] at h; subst h; rfl
 | str s => simp only [jw] at h; subst h; rfl
 | dD => simp only [jw] at h; subst h; rfl
 | Jr => simp only [jw] at h; subst h; rfl
 | shr r xs =>
   rcases (nA _ _ _ _ _).1 h with ⟨rfl, _⟩ | ⟨a, cap, rfl, _⟩ <;> rfl
 | nn r xs =>
   rcases (nA _ _ _ _ _).1 h.1 with ⟨rfl, _⟩ | ⟨a, cap, rfl, _⟩ <;> rfl
 | ref a j g vw => exact h.1
 | ptr b g off => exact h.1
 | Hs a j g i off => exact h.1
 | lf r x off => obtain ⟨b, o, rfl, _⟩ := h; rfl
 | sn r x off => obtain ⟨b, o, rfl, _⟩ := h; rfl
 | fn g rs xs => obtain ⟨vt, rfl, _⟩ := h; rfl
 | oU a j g e i k q ys => exact h.1
theorem Mk {v : Value} (h : v.oneCell' = true) : v.cells = #[v] := by cases v <;> first | rfl | simp [Value.oneCell'] at h
theorem dU.cells {c : Cz} {st : St} {w : World} {x : V} {v : Value} (h : dU c st w x v) (hs : x.sG = true) :
   eH c st w x.cells v.cells.toList ∧ ∀ u ∈ v.cells.toList, u.oneCell' = true := by
 cases x with
 | one x =>
   have h1 : v.oneCell' = true := jw.one (x := x) h hs; rw [Mk h1]; refine ⟨⟨rfl, fun i y u hy hu => ?_⟩, fun u hu => by simp at hu; rw [hu]; exact h1⟩
   cases i with
   | zero => simp [V.cells] at hy hu; rw [← hy, ← hu]; exact h
   | succ i => simp [V.cells] at hy
 | agg cs =>
   obtain ⟨vs, rfl, hl⟩ := h; refine ⟨hl, fun u hu => ?_⟩; obtain ⟨i, hi, hu⟩ := List.mem_iff_getElem.1 hu; have Hv : i < cs.length := by rw [hl.1]; exact hi
   have := hl.2 i cs[i] u (List.getElem?_eq_getElem Hv) (by rw [← hu]; exact List.getElem?_eq_getElem hi); exact this.one (List.all_eq_true.1 hs _ (List.getElem_mem Hv))
 | mz us => simp [V.sG] at hs
def Cz.iH (c : Cz) (d b : Nat) : Cz :=
 { bx := fun s => if s = d then b else c.bx s, lc := c.lc, own := fun k => if k = b then some (.box d) else c.own k }
theorem vB (w : World) (o : Obj) (ok yU : Nat → Prop) (h : ∀ b, b < w.heap.size → ok b → yU b) : iW w (w.alloc o) ok yU where
 size := by simp
 block b hb _ := heap_alloc_old w o b hb
 ok := h
theorem Rel.nH {w0 : World} {mu : Mu} {c : Cz} {st : St} {a : Act} {w : World} (h : Rel w0 mu c st a w) {b : Nat} {l : Lb} (hb : c.own b = some l) : b < w.heap.size := (h.owned b l hb).1
theorem Rel.iH {w0 : World} {mu : Mu} {c : Cz} {st : St} {a : Act} {w : World} (h : Rel w0 mu c st a w) {d : Nat} {s0 : Sl} {cs : List CV} {vs : Array Value} {ty : TypeId}
   (iE : nth st d = some s0) (hd : d < a.tmps.size) (hl : eH c st w cs vs.toList) :
   Rel w0 mu (c.iH d w.heap.size) (mq (fun s => { s with v := .one (.ptr d (s0.bg + 1) 0), box := some cs, bg := s0.bg + 1 }) st d)
     (a.put (some d) (.pointer (some ⟨w.heap.size, 0, none⟩))) (w.alloc (.cells vs ty (0, 0))) := by
 have hn : ∀ s, nth (mq (fun s => { s with v := .one (.ptr d (s0.bg + 1) 0), box := some cs, bg := s0.bg + 1 }) st d) s =
     if s = d then some { s0 with v := .one (.ptr d (s0.bg + 1) 0), box := some cs, bg := s0.bg + 1 } else nth st s := by
   intro s; rw [dn]
   by_cases e : s = d
   · subst e; simp [iE]
   · simp [e]
 generalize mq (fun s => { s with v := .one (.ptr d (s0.bg + 1) 0), box := some cs, bg := s0.bg + 1 }) st d = aP at hn ⊢; have fH : ∀ b, b < w.heap.size → c.ok b → (c.iH d w.heap.size).ok b := by
   intro b hb hc; unfold Cz.ok Cz.iH; simp only [if_neg (show b ≠ w.heap.size by omega)]; exact hc
 have hA : ∀ a' j g, aQ aP a' j g = aQ st a' j g := by
   intro a' j g; unfold aQ; rw [hn]
   by_cases e : a' = d
   · subst e; simp [iE]
   · simp [e]
 have hgA : ∀ a', cQ aP a' = cQ st a' := by
   intro a'; unfold cQ; rw [hn]
   by_cases e : a' = d
   · subst e; simp [iE]
   · simp [e]
 have gj : Fw c st w (c.iH d w.heap.size) aP (w.alloc (.cells vs ty (0, 0))) := {
   stays := vB w _ _ _ fH
   refs := fun a' j g A' _ dQ => ⟨A', by rw [← hA]; exact dQ, rfl, rfl, rfl, fun _ => ⟨rfl, fun b o cap gV => by
     exact heap_alloc_old w _ b ((h.sH (g := g) (by rw [← hA]; exact dQ)).lt gV)⟩⟩
   B8 := fun b g mA hg hb => by
     unfold di at hb ⊢; rw [hn] at hb
     by_cases e : b = d
     · subst e; simp only [if_true] at hb; unfold fM at hg; rw [iE] at hg; have : Nat.beq (s0.bg + 1) g = false := by
         cases hq : Nat.beq (s0.bg + 1) g
         · rfl
         · have := Nat.eq_of_beq_eq_true hq; simp at hg; omega
       simp [this] at hb
     · simp only [e, if_false] at hb; exact ⟨⟨mA, hb⟩, by simp [Cz.iH, e]⟩
   gA := fun a' => by rw [hgA]; exact Nat.le_refl _
   gB := fun b => by
     unfold fM; rw [hn]
     by_cases e : b = d
     · subst e; simp [iE]
     · simp [e]
   gE := fun a' => by
     unfold lT; rw [hn]
     by_cases e : a' = d
     · subst e; simp [iE]
     · simp [e] }
 exact {
   eI := fun t => by
     have e1 : bK aP t = if t = d then .one (.ptr d (s0.bg + 1) 0) else bK st t := by
       unfold bK; rw [hn]
       by_cases e : t = d <;> simp [e]
     rw [e1, eval_put]
     by_cases e : t = d
     · subst e; simp only [if_true, true_and, hd]; refine ⟨rfl, ?_, fun mA JD => by simp [Cz.iH]⟩; unfold fM; rw [hn]; simp
     · simp only [e, if_false]; rw [if_neg (fun h => e (Option.some.inj h.1).symm)]; exact gj.mr (h.eI t)
   boxes := fun s sl mA hs hb => by
     rw [hn] at hs
     by_cases e : s = d
     · subst e; simp only [if_true, Option.some.injEq] at hs; subst hs; simp only [Option.some.injEq] at hb; subst hb; exact ⟨by simp [Cz.iH], vs, ty, by simp only [Cz.iH, if_true]; exact heap_alloc_new w _, gj.Rt hl⟩
     · simp only [e, if_false] at hs; have Ul := h.boxes s sl mA hs hb; have bN := h.nH Ul.1; exact Ul.go gj (by simp [Cz.iH, e]) (by simp only [Cz.iH]; rw [if_neg (by omega)]) (heap_alloc_old w _ _ bN)
   aK := fun s j sl A hs dQ => by
     rw [hn] at hs; have ha : bI c w s j A := by
       by_cases e : s = d
       · subst e; simp only [if_true, Option.some.injEq] at hs; subst hs; exact h.aK s j s0 A iE dQ
       · simp only [e, if_false] at hs; exact h.aK s j sl A hs dQ
     refine ha.go gj.stays rfl (fun b hb => ?_); have bN : b < w.heap.size := h.nH hb; exact ⟨heap_alloc_old w _ b bN, by simp only [Cz.iH]; rw [if_neg (by omega)]⟩
   owned := fun b l hb => by
     simp only [Cz.iH] at hb
     by_cases e : b = w.heap.size
     · subst e; exact ⟨by simp, .inr (.inl h.kept.2.2.2)⟩
     · rw [if_neg e] at hb; have := h.owned b l hb; exact ⟨Nat.lt_of_lt_of_le this.1 (by simp), this.2⟩
   free := fun b hb h1 => by
     simp only [Cz.iH] at h1
     by_cases e : b = w.heap.size
     · rw [if_pos e] at h1; cases h1
     · rw [if_neg e] at h1; exact h.free b hb h1
   kept := ⟨h.kept.1, h.kept.2.1, h.kept.2.2.1, Nat.le_trans h.kept.2.2.2 (by simp)⟩
   old := fun k hk hm => by
     rw [heap_alloc_old w _ k (Nat.lt_of_lt_of_le hk h.kept.2.2.2)]; exact h.old k hk hm
   dJ := fun p hp => gj.dJ (h.dJ p hp)
   plain := h.plain }
end Go.TM
namespace Go.TM
open Go Go.RowKit
theorem bh {w0 : World} {mu : Mu} {c : Cz} {st : St} {a : Act} {w : World} (h : Rel w0 mu c st a w) (x : Operand) : dU c st w (lz st x) (a.eval x) := by
 unfold lz
 split <;> first | exact h.eI _ | rfl | trivial
theorem eH.take {c : Cz} {st : St} {w : World} {cs : List CV} {vs : List Value} (h : eH c st w cs vs) (off n : Nat) : eH c st w ((cs.drop off).take n) ((vs.drop off).take n) := by
 refine ⟨by simp [h.1], fun i x v hx hv => ?_⟩; rw [List.getElem?_take] at hx hv
 by_cases hi : i < n
 · rw [if_pos hi, List.getElem?_drop] at hx hv; exact h.2 _ x v hx hv
 · rw [if_neg hi] at hx; simp at hx
theorem ko {n off : Nat} {cs l : List CV} (h : eG n off cs = some l) : l = (cs.drop off).take n ∧ l.length = n := by
 unfold eG at h; obtain ⟨h1, h2⟩ := aH h; have := Option.some.inj h2; subst this; exact ⟨rfl, Nat.eq_of_beq_eq_true h1⟩
def valOf (agg : Bool) (vs : List Value) : Value := if agg then .agg vs.toArray else vs.headD undef
theorem rO {P : Program} {T : ki} (hT : fI P T) {t n : Nat} (ht : T.cells t = some n) (w : World) (b o : Nat) (vs : List Value) (hv : w.rangeAt b o vs) (hn : vs.length = n) :
   (loadVar t ⟨b, o, none⟩).run P w = .ok (valOf (T.agg t) vs) w := by
 obtain ⟨d, hu, hd, h1⟩ := hT.agg t n ht
 cases hg : T.agg t with
 | true =>
   rw [hg] at hd; have := run_loadVar_mid (P := P) w b o t vs d hv hu hd (by rw [hT.cells t n ht, hn]); simpa [valOf] using this
 | false =>
   have YI := h1 hg; obtain ⟨v, rfl⟩ : ∃ v, vs = [v] := by
     cases vs with
     | nil => simp at hn; omega
     | cons v l => cases l with
       | nil => exact ⟨v, rfl⟩
       | cons _ _ => simp at hn; omega
   have Um : (isAgg t).run P w = .ok false w := by
     unfold isAgg; rw [Sem.run_bind, run_underlying hu w]; rw [hg] at hd
     cases d <;> simp_all [TypeDesc.isRow]
   have hc : w.cell? ⟨b, o, none⟩ = some v := by have := hv 0 v rfl; simpa using this
   simp [loadVar, Sem.run_bind, Um, valOf, run_load, hc]
theorem Ru {c : Cz} {st : St} {w : World} {T : ki} {t : Nat} {l : List CV} {vs : List Value} (h : eH c st w l vs) (h1 : T.agg t = false → l.length = 1) :
   dU c st w (Oo T t l) (valOf (T.agg t) vs) := by
 unfold Oo valOf
 cases hg : T.agg t with
 | true => exact ⟨vs.toArray, rfl, by simpa using h⟩
 | false =>
   have hl := h1 hg
   cases l with
   | nil => simp at hl
   | cons x l => cases l with
     | cons _ _ => simp at hl
     | nil => cases vs with
       | nil => have := h.1; simp at this
       | cons v vs => exact h.2 0 x v rfl rfl
theorem Bn {w : World} {b off : Nat} {vs : Array Value} {ty : TypeId} {fr : Nat × Nat} (h : w.heap[b]? = some (.cells vs ty fr)) (n : Nat) : w.rangeAt b off ((vs.toList.drop off).take n) := by
 intro j v hv; rw [cell_of_row w b (off + j) vs ty fr h]; rw [List.getElem?_take] at hv
 by_cases hj : j < n
 · rw [if_pos hj, List.getElem?_drop] at hv; simpa using hv
 · rw [if_neg hj] at hv; simp at hv
theorem tC {w : World} {c : Cz} {st : St} : (r : RT) → (b off : Nat) → (x : ar r) → cn w c.ok r b off x →
   ∃ vs, vs.length = r.width ∧ w.rangeAt b off vs ∧ eH c st w (dG r x) vs
 | .nil, _, _, _, _ => ⟨[], rfl, fun j v h => by simp at h, rfl, fun i x v h => by simp [dG] at h⟩
 | .cons t r, b, off, x, h => by
   unfold cn at h; obtain ⟨⟨v, hv, hx⟩, hr⟩ := h; obtain ⟨vs, h1, h2, h3, h4⟩ := tC r b (off + 1) x.2 hr; refine ⟨v :: vs, by simp [RT.width, h1], fun j u hu => ?_, by simp [dG, h3], fun i y u hy hu => ?_⟩
   · cases j with
     | zero => simp at hu; rw [← hu]; exact hv
     | succ j =>
       simp at hu; have := h2 j u hu; rw [show off + (j + 1) = off + 1 + j by omega]; exact this
   · cases i with
     | zero =>
       simp [dG] at hy hu; subst hy hu
       cases t with
       | int k => unfold bH at hx; exact hx
       | bool => unfold bH at hx; exact hx
       | str => unfold bH at hx; exact hx
       | sl q => exact hx
     | succ i =>
       simp [dG] at hy hu; exact h4 i y u hy hu
theorem CB {w : World} {P : List Nat → Nat → Prop} {c : Cz} {st : St} {a j g e i : Nat} {A : gP} {x0 : ar A.r} {bb o cap : Nat} (hA : aQ st a j g = some A) (he : e = lT st a) (hg : g ≤ cQ st a) (hm : A.md = .dp) (OA : A.xs[i]? = some x0) (gV : c.lc a j = .at bb o cap) :
   (r : RT) → (p : List Nat) → (k : Nat) → (x : ar r) → (∀ k', pL r x k' = pL A.r x0 (k + k')) → fN w P r p k bb (o + i * A.r.width + k) x →
   ∃ vs, vs.length = r.width ∧ w.rangeAt bb (o + i * A.r.width + k) vs ∧ eH c st w (pR a j g e i k r x) vs
 | .nil, _, _, _, _, _ => ⟨[], rfl, fun j v h => by simp at h, rfl, fun i x v h => by simp [pR] at h⟩
 | .cons t r, p, k, x, hs, h => by
   unfold fN at h; obtain ⟨⟨v, hv, hx⟩, hr⟩ := h; obtain ⟨vs, h1, h2, h3, h4⟩ := CB hA he hg hm OA gV r p (k + 1) x.2 (fun k' => by
     rw [show k + 1 + k' = k + (k' + 1) by omega, ← hs]
     cases t <;> rfl) (by rw [show o + i * A.r.width + (k + 1) = o + i * A.r.width + k + 1 by omega]; exact hr)
   refine ⟨v :: vs, by simp [RT.width, h1], fun j u hu => ?_, by simp [pR, h3], fun i' y u hy hu => ?_⟩
   · cases j with
     | zero => simp at hu; rw [← hu]; exact hv
     | succ j =>
       simp at hu; have := h2 j u hu; rw [show o + i * A.r.width + k + (j + 1) = o + i * A.r.width + (k + 1) + j by omega]; exact this
   · cases i' with
     | zero =>
       simp [pR] at hy hu; subst hy hu
       cases t with
       | int k => exact xE.1 hx
       | bool => exact tv.1 hx
       | str => exact xF.1 hx
       | sl q =>
         have hx := (vz _ _ _ _ _ _).1 hx; obtain ⟨lc, _, q1, _⟩ := hx; refine ⟨q1, hg, by rw [he]; exact Nat.le_refl _, fun A' dQ _ => ?_⟩; rw [hA] at dQ; cases dQ; refine ⟨hm, ⟨x0, OA, ?_⟩, bb, o, cap, gV, hv⟩; have := hs 0; rw [Nat.add_zero] at this; rw [← this]; rfl
     | succ i' =>
       simp [pR] at hy hu; exact h4 i' y u hy hu
theorem rP {w : World} {b off : Nat} {vs : List Value} (h : w.rangeAt b off vs) (k n : Nat) : w.rangeAt b (off + k) ((vs.drop k).take n) := by
 intro j v hv; rw [List.getElem?_take] at hv
 by_cases hj : j < n
 · rw [if_pos hj, List.getElem?_drop] at hv; rw [Nat.add_assoc]; exact h _ v hv
 · rw [if_neg hj] at hv; simp at hv
def iJ (w w' : World) : Prop := w.heap.size ≤ w'.heap.size ∧ ∀ b, b < w.heap.size → w'.heap[b]? = w.heap[b]?
theorem iJ.refl (w : World) : iJ w w := ⟨Nat.le_refl _, fun _ _ => rfl⟩
theorem iJ.trans {w w' Zs : World} (h : iJ w w') (h' : iJ w' Zs) : iJ w Zs :=
 ⟨Nat.le_trans h.1 h'.1, fun b hb => (h'.2 b (Nat.lt_of_lt_of_le hb h.1)).trans (h.2 b hb)⟩
theorem iJ.alloc (w : World) (b : Obj) : iJ w (w.alloc b) := ⟨by simp, fun k hk => heap_alloc_old w b k hk⟩
theorem iJ.range {w w' : World} (h : iJ w w') {b o : Nat} {vs : List Value} (hr : w.rangeAt b o vs) : w'.rangeAt b o vs := by
 intro j v hj; have h1 := hr j v hj; rw [World.cell?_of_block (w := w) (h.2 b (Lf h1))]; exact h1
theorem Hw {P : Program} {T : ki} (hT : fI P T) {w0 : World} {mu : Mu} {c : Cz} {st : St} {a : Act} {w : World} (h : Rel w0 mu c st a w)
   {d : Option Nat} {t : Nat} {x : V} {u : Value} (hx : dU c st w x u) {aP : St} (hv : (uR T st d t x).val = some aP) (hd : ∀ k, d = some k → k < a.tmps.size) :
   ∃ v, (∀ w' : World, iJ w w' → (Instr.loadAt t u).run P w' = .ok v w') ∧ Rel w0 mu c aP (a.put d v) w := by
 have key : ∀ (b o n : Nat) (l : List CV) (vs : List Value), T.cells t = some n → u = .pointer (some ⟨b, o, none⟩) → w.rangeAt b o vs → vs.length = n → eH c st w l vs →
     (N.done (TM.aS st d (Oo T t l))).val = some aP → ∃ v, (∀ w' : World, iJ w w' → (Instr.loadAt t u).run P w' = .ok v w') ∧ Rel w0 mu c aP (a.put d v) w := by
   intro b o n l vs hn hu hr hlen hl qn; simp only [N.val, Option.some.injEq] at qn; subst qn; obtain ⟨dd, _, _, h1⟩ := hT.agg t n hn; refine ⟨valOf (T.agg t) vs, fun w' hk => ?_, h.aS (Ru hl (fun hg => by rw [hl.1, hlen]; exact h1 hg)) hd⟩; subst hu; have hr' : w'.rangeAt b o vs := hk.range hr; simp only [Instr.loadAt, Instr.sureAddr, Sem.run_bind, Sem.run_pure, Result.andThen_ok, rO hT hn w' b o vs hr' hlen]
 cases hn : T.cells t with
 | none => cases x with
   | one y => cases y <;> simp [uR, hn, N.val] at hv
   | agg _ => simp [uR, N.val] at hv
   | mz _ => simp [uR, N.val] at hv
 | some n => cases x with
   | agg _ => simp [uR, N.val] at hv
   | mz _ => simp [uR, N.val] at hv
   | one y => cases y with
     | bad | int _ _ | bool _ | str _ | dD | Jr | shr _ _ | nn _ _ | ref _ _ _ _ | fn _ _ _ | oU _ _ _ _ _ _ _ _ => simp [uR, N.val] at hv
     | ptr b g off =>
       simp only [uR, hn] at hv
       cases hb : di st b g with
       | none => simp [hb, N.val] at hv
       | some cs =>
         simp only [hb] at hv
         cases B9 : eG n off cs with
         | none => simp [B9, N.val] at hv
         | some l =>
           simp only [B9] at hv; obtain ⟨rfl, hlen⟩ := ko B9; obtain ⟨sl, CC, Q2, CD⟩ := gU hb; obtain ⟨ho, vs, ty, hh, hl⟩ := h.boxes b sl cs CC CD; have hu := hx.2.2 cs hb; refine key _ _ n _ ((vs.toList.drop off).take n) hn hu (Bn hh n) ?_ (hl.take off n) hv; rw [← (hl.take off n).1]; exact hlen
     | lf r y off =>
       simp only [uR, hn] at hv
       cases B9 : eG n off (dG r y) with
       | none => simp [B9, N.val] at hv
       | some l =>
         simp only [B9] at hv; obtain ⟨rfl, hlen⟩ := ko B9; obtain ⟨b, o, hu, bN, fH, CE⟩ := hx; obtain ⟨vs, h1, h2, h3⟩ := tC (st := st) r b o y CE; refine key _ _ n _ ((vs.drop off).take n) hn hu (rP h2 off n) ?_ (h3.take off n) hv; rw [← (h3.take off n).1]; exact hlen
     | sn r ys off =>
       simp only [uR, hn] at hv
       cases hy : ys[0]? with
       | none => simp [hy, N.val] at hv
       | some y =>
       simp only [hy] at hv; change (match eG n off (dG r y) with | some l => N.done (TM.aS st d (Oo T t l)) | none => N.fail).val = some aP at hv
       cases B9 : eG n off (dG r y) with
       | none => simp [B9, N.val] at hv
       | some l =>
         simp only [B9] at hv; obtain ⟨rfl, hlen⟩ := ko B9; obtain ⟨b, o, hu, bN, fH, CE⟩ := hx; obtain ⟨vs, h1, h2, h3⟩ := tC (st := st) r b o y (CE y hy); refine key _ _ n _ ((vs.drop off).take n) hn hu (rP h2 off n) ?_ (h3.take off n) hv; rw [← (h3.take off n).1]; exact hlen
     | Hs a' j g i off =>
       simp only [uR, hn] at hv
       cases hA : aQ st a' j g with
       | none => simp [hA, N.val] at hv
       | some A =>
         simp only [hA] at hv; obtain ⟨sl, CC, Q2, CD⟩ := ba hA; have Hy := h.aK a' j sl A CC CD; obtain ⟨hi, b, o, cap, gV, hu⟩ := hx.2.2 A hA; unfold bI at Hy; rw [gV] at Hy; obtain ⟨_, _, _, eV⟩ := Hy
         cases hm : A.md with
         | ho _ => rw [hm] at hv; simp [N.val] at hv
         | sh =>
           rw [hm] at hv; simp only at hv
           cases xh : A.xs[i]? with
           | none => simp [xh, N.val] at hv
           | some y =>
             simp only [xh] at hv; change (match eG n off (dG A.r y) with | some l => N.done (TM.aS st d (Oo T t l)) | none => N.fail).val = some aP at hv
             cases B9 : eG n off (dG A.r y) with
             | none => simp [B9, N.val] at hv
             | some l =>
               simp only [B9] at hv; obtain ⟨rfl, hlen⟩ := ko B9; obtain ⟨vs, h1, h2, h3⟩ := tC (st := st) A.r b _ y ((bm.sh hm).1 eV i y xh); refine key _ _ n _ ((vs.drop off).take n) hn hu (rP h2 off n) ?_ (h3.take off n) hv; rw [← (h3.take off n).1]; exact hlen
         | dp =>
           rw [hm] at hv; simp only at hv
           cases xh : A.xs[i]? with
           | none => simp [xh, N.val] at hv
           | some y =>
             simp only [xh] at hv; change (match eG n off (pR a' j g (lT st a') i 0 A.r y) with | some l => N.done (TM.aS st d (Oo T t l)) | none => N.fail).val = some aP at hv
             cases B9 : eG n off (pR a' j g (lT st a') i 0 A.r y) with
             | none => simp [B9, N.val] at hv
             | some l =>
               simp only [B9] at hv; obtain ⟨rfl, hlen⟩ := ko B9; unfold bm at eV; rw [hm] at eV; obtain ⟨gg, _, eV⟩ := eV; obtain ⟨vs, h1, h2, h3⟩ := CB (st := st) hA rfl hx.2.1 hm xh gV A.r _ 0 y (fun k' => by rw [Nat.zero_add]) (eV i y xh); rw [Nat.add_zero] at h2; refine key _ _ n _ ((vs.drop off).take n) hn hu (rP h2 off n) ?_ (h3.take off n) hv; rw [← (h3.take off n).1]; exact hlen
end Go.TM
namespace Go.TM
open Go Go.RowKit
def cD (w : World) (ok : Nat → Prop) : (r : RT) → List Value → ar r → Prop
 | .nil, vs, _ => vs = []
 | .cons t r, vs, x => ∃ v l, vs = v :: l ∧ bH w ok t v x.1 ∧ cD w ok r l x.2
theorem cD.length {w : World} {ok : Nat → Prop} : (r : RT) → (vs : List Value) → (x : ar r) → cD w ok r vs x → vs.length = r.width
 | .nil, vs, _, h => by simp only [cD] at h; subst h; rfl
 | .cons t r, vs, x, h => by
   obtain ⟨v, l, rfl, _, h⟩ := h; simp [RT.width, cD.length r l x.2 h]
theorem mF {w : World} {ok : Nat → Prop} : (r : RT) → (b off : Nat) → (x : ar r) → (cn w ok r b off x ↔ ∃ vs, w.rangeAt b off vs ∧ cD w ok r vs x)
 | .nil, _, _, _ => by
   unfold cn; exact ⟨fun _ => ⟨[], fun j v h => by simp at h, rfl⟩, fun _ => trivial⟩
 | .cons t r, b, off, x => by
   unfold cn
   constructor
   · rintro ⟨⟨v, hv, hx⟩, hr⟩
     obtain ⟨vs, h1, h2⟩ := (mF r b (off + 1) x.2).1 hr; refine ⟨v :: vs, fun j u hu => ?_, v, vs, rfl, hx, h2⟩
     cases j with
     | zero => simp at hu; rw [← hu]; exact hv
     | succ j =>
       simp at hu; rw [show off + (j + 1) = off + 1 + j by omega]; exact h1 j u hu
   · rintro ⟨vs, h1, v, l, rfl, hx, h2⟩
     refine ⟨⟨v, h1 0 v rfl, hx⟩, (mF r b (off + 1) x.2).2 ⟨l, fun j u hu => ?_, h2⟩⟩; have := h1 (j + 1) u (by simpa using hu); rw [show off + 1 + j = off + (j + 1) by omega]; exact this
theorem cD.stays {w w' : World} {ok yU : Nat → Prop} (h : iW w w' ok yU) : (r : RT) → (vs : List Value) → (x : ar r) → cD w ok r vs x → cD w' yU r vs x
 | .nil, _, _, hr => hr
 | .cons t r, _, x, ⟨v, l, e, hx, hr⟩ => ⟨v, l, e, bH.stays h t v x.1 hx, cD.stays h r l x.2 hr⟩
theorem CF {w : World} {c : Cz} {st : St} : (r : RT) → (x : ar r) → (k : Nat) → (y : CV) → (z : ar r) → (vs : List Value) → (u : Value) →
   fx r x k y = some z → jw c st w y u → cD w c.ok r vs x → cD w c.ok r (vs.set k u) z
 | .nil, _, _, _, _, _, _, h, _, _ => by simp [fx] at h
 | .cons t r, x, 0, y, z, vs, u, h, hu, hv => by
   obtain ⟨v, l, rfl, hx, hr⟩ := hv
   cases t with
   | int k => cases y <;> simp [fx] at h
              obtain ⟨rfl, h⟩ := h; obtain rfl := Option.some.inj h; refine ⟨u, l, rfl, ?_, hr⟩; unfold bH; exact hu
   | bool => cases y <;> simp [fx] at h
             obtain rfl := Option.some.inj h; refine ⟨u, l, rfl, ?_, hr⟩; unfold bH; exact hu
   | str => cases y <;> simp [fx] at h
            obtain rfl := Option.some.inj h; refine ⟨u, l, rfl, ?_, hr⟩; unfold bH; exact hu
   | sl q => cases y <;> simp [fx] at h
 | .cons t r, x, k + 1, y, z, vs, u, h, hu, hv => by
   obtain ⟨v, l, rfl, hx, hr⟩ := hv; have h' : (fx r x.2 k y).map (fun z => ((x.1, z) : ar (.cons t r))) = some z := by cases t <;> (simp only [fx] at h; exact h)
   cases hq : fx r x.2 k y with
   | none => simp [hq] at h'
   | some z' =>
     rw [hq] at h'; obtain rfl := Option.some.inj h'; exact ⟨v, l.set k u, rfl, hx, CF r x.2 k y z' l u hq hu hr⟩
def bC (vs : List Value) (off : Nat) (us : List Value) : List Value := vs.take off ++ us ++ vs.drop (off + us.length)
theorem Bo {vs : List Value} {off : Nat} {u : Value} {us : List Value} (h : off < vs.length) : bC vs off (u :: us) = (bC vs (off + 1) us).set off u := by
 unfold bC; apply List.ext_getElem?; intro k; simp only [List.getElem?_set, List.getElem?_append, List.length_append, List.length_take, List.length_cons, List.getElem?_drop, List.getElem?_cons]
 by_cases h1 : k < off
 · have a1 : min off vs.length = off := by omega
   have a2 : min (off + 1) vs.length = off + 1 := by omega
   have a3 : off ≠ k := by omega
   simp only [a1, a2, a3, if_false, h1, show k < off + (us.length + 1) by omega, show k < off + 1 + us.length by omega, show k < off + 1 by omega, if_true, List.getElem?_take]
 · by_cases h2 : k = off
   · subst h2; have a1 : min k vs.length = k := by omega
     have a2 : min (k + 1) vs.length = k + 1 := by omega
     have a3 : min k vs.length - k = 0 := by omega
     simp [a1, a2, h]; omega
   · have a1 : min off vs.length = off := by omega
     have a2 : min (off + 1) vs.length = off + 1 := by omega
     obtain ⟨m, rfl⟩ : ∃ m, k = off + 1 + m := ⟨k - (off + 1), by omega⟩; have a3 : off ≠ off + 1 + m := by omega
     simp only [a1, a2, a3, if_false, show ¬ off + 1 + m < off by omega, show off + 1 + m - off = m + 1 by omega, show ¬ off + 1 + m < off + 1 by omega, show off + 1 + m - (off + 1) = m by omega,
       Nat.add_one_ne_zero, Nat.add_sub_cancel]
     by_cases h3 : m < us.length
     · rw [if_pos (by omega), if_pos (by omega)]
     · rw [if_neg (by omega), if_neg (by omega)]
       congr 1
       omega
theorem ga {vs : List Value} {off : Nat} {us : List Value} (h : off + us.length ≤ vs.length) : (bC vs off us).length = vs.length := by
 unfold bC; simp; omega
theorem CG {w : World} {c : Cz} {st : St} (r : RT) (x : ar r) : (off : Nat) → (cs : List CV) → (z : ar r) → (vs us : List Value) → off + us.length ≤ vs.length →
   km r x off cs = some z → eH c st w cs us → cD w c.ok r vs x → cD w c.ok r (bC vs off us) z
 | off, [], z, vs, us, _, h, hl, hv => by
   have : us = [] := by have := hl.1; simp at this; exact List.length_eq_zero_iff.1 this.symm
   subst this; simp [km] at h; subst h; simp [bC]; exact hv
 | off, y :: l, z, vs, us, hle, h, hl, hv => by
   cases us with
   | nil => have := hl.1; simp at this
   | cons u us =>
     simp only [km] at h
     cases hq : km r x (off + 1) l with
     | none => simp [hq] at h
     | some y' =>
       simp only [hq] at h; simp at hle; have ih := CG r x (off + 1) l y' vs us (by omega) hq ⟨by have := hl.1; simpa using this, fun i a b ha hb => hl.2 (i + 1) a b (by simpa using ha) (by simpa using hb)⟩ hv; rw [Bo (by omega)]; exact CF r y' off y z _ u h (hl.2 0 y u rfl rfl) ih
theorem tD {w : World} {c : Cz} {b : Nat} {l : Lb} (hb : c.own b = some l) (cur : Array Value) : iW w (w.setRow b cur) c.ok c.ok where
 size := by simp [World.setRow]
 block k _ hk := setRow_other w b k cur (fun e => by subst e; unfold Cz.ok at hk; rw [hb] at hk; cases hk)
 ok _ _ h := h
theorem me {P : Program} {T : ki} (hT : fI P T) {t n : Nat} (ht : T.cells t = some n) (w : World) (b o : Nat) (v : Value) (hn : v.cells.toList.length = n) (h1 : ∀ u ∈ v.cells.toList, u.oneCell' = true)
   {cur : Array Value} {ty : TypeId} (hg : w.heap[b]? = some (.cells cur ty (0, 0))) (hle : o + n ≤ cur.size) :
   (Instr.storeAt t (.pointer (some ⟨b, o, none⟩)) v).run P w = .ok () (w.setRow b (bC cur.toList o v.cells.toList).toArray) := by
 have hs := run_storeCells_at P b o ty v.cells.toList 0 cur w hg (by omega) h1; have hi := hT.cells t n ht
 cases hq : P.info? t with
 | none => simp [hq] at hi
 | some i =>
   have kO : v.cells.size = i.size := by simp [hq] at hi; rw [hi, ← hn]; simp
   simp only [Nat.add_zero] at hs; simp [Instr.storeAt, Instr.sureAddr, storeVar, sizeOf, typeInfo, hq, kO, hs, bC]
end Go.TM
namespace Go.TM
open Go Go.RowKit
theorem View.wK {α : Type} (vw : View) (xs : List α) {i : Nat} {x : α} (h : (vw.app xs)[i]? = some x) : xs[vw.lo + i]? = some x := by
 cases vw with
 | full => simpa [View.app, View.lo] using h
 | «from» lo => simpa [View.app, View.lo, List.getElem?_drop] using h
 | sub lo n =>
   simp only [View.app, View.lo, List.getElem?_take, List.getElem?_drop] at h ⊢
   by_cases hi : i < n
   · rwa [if_pos hi] at h
   · rw [if_neg hi] at h; simp at h
theorem yW {c : Cz} {w : World} {s j : Nat} {A : gP} (h : bI c w s j A) {vw : View} {u : Value} (hu : je (c.lc s j) A.r.width vw.lo (vw.app A.xs).length u)
   {ok : Nat → Prop} (h1 : ∀ b, c.ok b → ok b) (h2 : ∀ b, A.own = true ∨ A.md = .dp → c.own b = some (.sp s j) → ok b) (xi : A.md.E2 = false) : bH w ok (.sl A.r) u (vw.app A.xs) := by
 rw [nA]
 cases hl : c.lc s j with
 | nil =>
   unfold je at hu; rw [hl] at hu; obtain ⟨rfl, hn⟩ := hu; exact .inl ⟨rfl, List.length_eq_zero_iff.1 hn⟩
 | «at» b off cap =>
   unfold je at hu; rw [hl] at hu; obtain ⟨a, k, rfl, hk, yX, ha⟩ := hu; unfold bI at h; rw [hl] at h; obtain ⟨h0, _, ⟨cur, ty, h3, _⟩, h5⟩ := h; have h5 : ∀ (i : Nat) x, A.xs[i]? = some x → cn w ok A.r b (off + i * A.r.width) x := by
     unfold bm at h5
     cases hm : A.md with
     | sh => rw [hm] at h5; exact fun i x hx => cn.stays ⟨Nat.le_refl _, fun _ _ _ => rfl, fun b _ hb => h1 b hb⟩ _ _ _ x rfl (h5 i x hx)
     | dp =>
       rw [hm] at h5; obtain ⟨g, _, h5⟩ := h5; exact fun i x hx => fN.rep (fun p k hk => h2 k (.inr hm) hk.1) _ _ _ _ _ x (h5 i x hx)
     | ho _ => rw [hm] at xi; cases xi
   have hob : ok b := by
     cases ho : A.own with
     | true => rw [ho] at h0; exact h2 b (.inl ho) h0
     | false => rw [ho] at h0; exact h1 b h0
   have hs : iW w w c.ok ok := ⟨Nat.le_refl _, fun _ _ _ => rfl, fun b _ hb => h1 b hb⟩; refine .inr ⟨a, k, rfl, hk, fun fe => ?_, fun i x hi => ?_⟩
   · have : k ≠ 0 := by
       have := List.length_pos_iff.2 fe; omega
     rw [ha this]; exact ⟨rfl, (Array.getElem?_eq_some_iff.1 h3).1, hob⟩
   · have hk0 : k ≠ 0 := by
       have := (List.getElem?_eq_some_iff.1 hi).1; omega
     rw [ha hk0]; have := h5 _ x (View.wK vw A.xs hi); have e : off + vw.lo * A.r.width + i * A.r.width = off + (vw.lo + i) * A.r.width := by rw [Nat.add_mul]; omega
     show cn w ok A.r b (off + vw.lo * A.r.width + i * A.r.width) x; rw [e]; exact this
theorem a7 {r s : RT} {xs : List (ar r)} {ys : List (ar s)} (h : bw s xs = some ys) : ∃ e : r = s, ys = e ▸ xs := by
 unfold bw at h
 cases hq : RT.eq? r s with
 | none => simp [hq] at h
 | some p => obtain ⟨e⟩ := p; simp [hq] at h; exact ⟨e, h.symm⟩
def Cz.drop1 (c : Cz) (a j : Nat) : Cz :=
 { c with own := fun k => match c.own k with | some (.sp s i) => if s = a ∧ i = j then none else some (.sp s i) | l => l }
theorem Cz.CH {c : Cz} {a j b : Nat} (h : c.ok b) : (c.drop1 a j).ok b := by
 unfold Cz.ok Cz.drop1 at *; simp [h]
theorem Cz.CI {c : Cz} {a j b : Nat} (h : c.own b = some (.sp a j)) : (c.drop1 a j).ok b := by
 unfold Cz.ok Cz.drop1; simp [h]
theorem Cz.JE {c : Cz} {a j b : Nat} {l : Lb} (h : (c.drop1 a j).own b = some l) : c.own b = some l := by
 unfold Cz.drop1 at h; simp only at h
 cases hc : c.own b with
 | none => simp [hc] at h
 | some l' => cases l' with
   | box s => simp [hc] at h; rw [h]
   | out => simp [hc] at h; rw [h]
   | bG i k => simp [hc] at h; rw [h]
   | sE i => simp [hc] at h; rw [h]
   | il k => simp [hc] at h; rw [h]
   | sp s i =>
     simp only [hc] at h
     by_cases e : s = a ∧ i = j
     · simp [e] at h
     · rw [if_neg e] at h; exact h
theorem Cz.qF {c : Cz} {a j b : Nat} {l : Lb} (h : c.own b = some l) (fe : l ≠ .sp a j) : (c.drop1 a j).own b = some l := by
 unfold Cz.drop1; simp only [h]
 cases l with
 | box s => rfl
 | out => rfl
 | bG i k => rfl
 | sE i => rfl
 | il k => rfl
 | sp s i =>
   simp only; rw [if_neg]
   rintro ⟨rfl, rfl⟩
   exact fe rfl
def eB (st : St) (a j : Nat) : St := mq (fun s => { s with aK := mq (fun A => A.map gP.fz) s.aK j, ep := s.ep + 1 }) st a
theorem Hz (st : St) (a j : Nat) (l : List (Nat × Nat)) : freeze st ((a, j) :: l) = freeze (eB st a j) l := rfl
theorem im (st : St) (a j s : Nat) : ∃ f : Sl → Sl, (∀ x, (f x).v = x.v ∧ (f x).box = x.box ∧ (f x).bg = x.bg ∧ (f x).ag = x.ag ∧
     (∀ i, nth (f x).aK i = if s = a ∧ i = j then (nth x.aK i).map (fun A => A.map gP.fz) else nth x.aK i) ∧ (f x).ep = if s = a then x.ep + 1 else x.ep) ∧ nth (eB st a j) s = (nth st s).map f := by
 unfold eB
 by_cases h : s = a
 · subst h; refine ⟨fun s => { s with aK := mq (fun A => A.map gP.fz) s.aK j, ep := s.ep + 1 }, fun x => ⟨rfl, rfl, rfl, rfl, fun i => ?_, by simp⟩, jv _ _ _⟩; simp only [dn, true_and]
 · refine ⟨id, fun x => ⟨rfl, rfl, rfl, rfl, fun i => ?_, by simp [h]⟩, by rw [lU _ _ h]; simp⟩; simp [h]
theorem Bp (st : St) (a j b : Nat) : lT st b ≤ lT (eB st a j) b ∧ (lT (eB st a j) b = lT st b → b ≠ a ∨ nth st b = none) := by
 obtain ⟨f, hf, hn⟩ := im st a j b; unfold lT; rw [hn]
 cases hx : nth st b with
 | none => simp
 | some x =>
   simp only [Option.map_some]; rw [(hf x).2.2.2.2.2]
   by_cases e : b = a
   · rw [if_pos e]; exact ⟨by omega, fun h => by omega⟩
   · rw [if_neg e]; exact ⟨Nat.le_refl _, fun _ => .inl e⟩
theorem Gr (st : St) (a j t : Nat) : bK (eB st a j) t = bK st t := by
 obtain ⟨f, hf, hn⟩ := im st a j t; unfold bK; rw [hn]
 cases nth st t with
 | none => rfl
 | some x => exact (hf x).1
theorem Gs {st : St} {a j a' j' g : Nat} {A' : gP} (h : aQ (eB st a j) a' j' g = some A') : ∃ A, aQ st a' j' g = some A ∧ A'.r.width = A.r.width ∧ A'.xs.length = A.xs.length ∧ (a' ≠ a → A' = A) := by
 obtain ⟨sl, h1, h2, h3⟩ := ba h; obtain ⟨f, hf, hn⟩ := im st a j a'; rw [hn] at h1
 cases hx : nth st a' with
 | none => rw [hx] at h1; simp at h1
 | some x =>
   rw [hx] at h1; simp at h1; subst h1; obtain ⟨_, _, _, f4, f5, _⟩ := hf x; rw [f5] at h3; rw [f4] at h2; have key : ∃ A, nth x.aK j' = some (some A) ∧ A'.r.width = A.r.width ∧ A'.xs.length = A.xs.length ∧ (a' ≠ a → A' = A) := by
     by_cases e : a' = a ∧ j' = j
     · rw [if_pos e] at h3
       cases hj : nth x.aK j' with
       | none => simp [hj] at h3
       | some o => cases o with
         | none => simp [hj] at h3
         | some A => simp [hj] at h3; subst h3; exact ⟨A, rfl, rfl, rfl, fun h => absurd e.1 h⟩
     · rw [if_neg e] at h3; exact ⟨A', h3, rfl, rfl, fun _ => rfl⟩
   obtain ⟨A, k1, k2, k3⟩ := key; refine ⟨A, ?_, k2, k3⟩; unfold aQ; rw [hx]; have : Nat.beq x.ag g = true := by rw [h2]; exact Nat.beq_refl g
   simp [this, k1]
theorem Gt (st : St) (a j b g : Nat) : di (eB st a j) b g = di st b g := by
 obtain ⟨f, hf, hn⟩ := im st a j b; unfold di; rw [hn]
 cases nth st b with
 | none => rfl
 | some x => obtain ⟨_, h2, h3, _⟩ := hf x; simp [h2, h3]
theorem Gu (st : St) (a j b : Nat) : cQ (eB st a j) b = cQ st b := by
 obtain ⟨f, hf, hn⟩ := im st a j b; unfold cQ; rw [hn]
 cases nth st b with
 | none => rfl
 | some x => exact (hf x).2.2.2.1
theorem Gv (st : St) (a j b : Nat) : fM (eB st a j) b = fM st b := by
 obtain ⟨f, hf, hn⟩ := im st a j b; unfold fM; rw [hn]
 cases nth st b with
 | none => rfl
 | some x => exact (hf x).2.2.1
theorem Fw.eB (c : Cz) (st : St) (w : World) (a j : Nat) : Fw c st w (c.drop1 a j) (eB st a j) w where
 stays := ⟨Nat.le_refl _, fun _ _ _ => rfl, fun _ _ h => Cz.CH h⟩
 refs a' j' g A' _ dQ := by
   obtain ⟨A, h1, h2, h3, h4⟩ := Gs dQ; refine ⟨A, h1, h2, h3, rfl, fun he => ⟨?_, fun _ _ _ _ => rfl⟩⟩; rcases (Bp st a j a').2 he with e | e
   · exact h4 e
   · unfold aQ at h1; rw [e] at h1; cases h1
 B8 b g mA _ h := ⟨⟨mA, by rwa [Gt] at h⟩, rfl⟩
 gA b := by rw [Gu]; exact Nat.le_refl _
 gB b := by rw [Gv]; exact Nat.le_refl _
 gE b := (Bp st a j b).1
theorem Rel.eB {w0 : World} {mu : Mu} {c : Cz} {st : St} {a : Act} {w : World} (h : Rel w0 mu c st a w) (s j : Nat) : Rel w0 mu (c.drop1 s j) (eB st s j) a w where
 eI t := by rw [Gr]; exact (Fw.eB c st w s j).mr (h.eI t)
 boxes b sl cs hs hb := by
   obtain ⟨f, hf, hn⟩ := im st s j b; rw [hn] at hs
   cases hx : nth st b with
   | none => rw [hx] at hs; simp at hs
   | some x =>
     rw [hx] at hs; simp at hs; subst hs; rw [(hf x).2.1] at hb; have h0 := h.boxes b x cs hx hb; exact h0.go (Fw.eB c st w s j) rfl (by rw [h0.1]; exact Cz.qF h0.1 (by simp)) rfl
 aK b i sl A hs hb := by
   obtain ⟨f, hf, hn⟩ := im st s j b; rw [hn] at hs
   cases hx : nth st b with
   | none => rw [hx] at hs; simp at hs
   | some x =>
     rw [hx] at hs; simp at hs; subst hs; rw [(hf x).2.2.2.2.1 i] at hb
     by_cases e : b = s ∧ i = j
     · rw [if_pos e] at hb
       cases hj : nth x.aK i with
       | none => simp [hj] at hb
       | some o => cases o with
         | none => simp [hj] at hb
         | some B =>
           simp [hj] at hb; subst hb; have h0 := h.aK b i x B hx hj; unfold bI at h0 ⊢; show match c.lc b i with | .nil => _ | .at b off cap => _
           cases hl : c.lc b i with
           | nil => rw [hl] at h0; exact h0
           | «at» k off cap =>
             rw [hl] at h0; obtain ⟨h1, h2, h3, h4⟩ := h0; refine ⟨?_, h2, h3, ?_⟩
             · show (c.drop1 s j).own k = none
               cases ho : B.own with
               | true => rw [ho] at h1; obtain ⟨rfl, rfl⟩ := e; exact Cz.CI h1
               | false => rw [ho] at h1; exact Cz.CH h1
             · unfold bm at h4 ⊢; show match B.md.fz with | .sh => _ | .dp => _ | .ho _ => _
               cases hm : B.md with
               | sh => rw [hm] at h4; exact fun i x hi => cn.stays (Fw.eB c st w s j).stays _ _ _ x rfl (h4 i x hi)
               | dp =>
                 rw [hm] at h4; obtain ⟨g, _, h4⟩ := h4; obtain ⟨rfl, rfl⟩ := e; exact fun i x hi => fN.rep (fun p k hk => Cz.CI hk.1) _ _ _ _ _ x (h4 i x hi)
               | ho q => exact fun e => by cases e
     · rw [if_neg e] at hb; have h0 := h.aK b i x A hx hb; refine h0.go (Fw.eB c st w s j).stays rfl (fun k h1 => ⟨rfl, ?_⟩); rw [h1]; exact Cz.qF h1 (by rintro e'; injection e' with e1 e2; exact e ⟨e1, e2⟩)
 owned b l hb := h.owned b l (Cz.JE hb)
 free b hb h1 := by
   cases hc : c.own b with
   | none => exact h.free b hb hc
   | some l =>
     rcases (h.owned b l hc).2 with h2 | h2 | h2
     · subst h2; unfold Cz.drop1 at h1; simp [hc] at h1
     · omega
     · exact .inl h2
 kept := h.kept
 old := h.old
 dJ p hp := (Fw.eB c st w s j).dJ (h.dJ p hp)
 plain := h.plain
def Cz.drop (c : Cz) : List (Nat × Nat) → Cz
 | [] => c
 | (a, j) :: l => (c.drop1 a j).drop l
theorem Rel.freeze {w0 : World} {mu : Mu} {a : Act} {w : World} : (m : List (Nat × Nat)) → {c : Cz} → {st : St} → Rel w0 mu c st a w → Rel w0 mu (c.drop m) (freeze st m) a w
 | [], _, _, h => h
 | (s, j) :: m, _, _, h => Rel.freeze m (h.eB s j)
theorem Cz.yY : (m : List (Nat × Nat)) → (c : Cz) → (b : Nat) → c.ok b → (c.drop m).ok b
 | [], _, _, h => h
 | (a, j) :: m, c, b, h => Cz.yY m (c.drop1 a j) b (Cz.CH h)
theorem Cz.Ck : (m : List (Nat × Nat)) → (c : Cz) → (b : Nat) → {a j : Nat} → c.own b = some (.sp a j) → (a, j) ∈ m → (c.drop m).ok b
 | [], _, _, _, _, _, h => by simp at h
 | (a', j') :: m, c, b, a, j, h, hm => by
   by_cases e : a' = a ∧ j' = j
   · obtain ⟨rfl, rfl⟩ := e; exact Cz.yY m _ b (Cz.CI h)
   · refine Cz.Ck m (c.drop1 a' j') b (Cz.qF h (by rintro e'; injection e' with e1 e2; exact e ⟨e1.symm, e2.symm⟩)) ?_; rcases List.mem_cons.1 hm with h' | h'
     · injection h' with e1 e2; exact absurd ⟨e1.symm, e2.symm⟩ e
     · exact h'
theorem Cz.Lg : (m : List (Nat × Nat)) → (c : Cz) → (c.drop m).lc = c.lc ∧ (c.drop m).bx = c.bx
 | [], _ => ⟨rfl, rfl⟩
 | (a, j) :: m, c => Cz.Lg m (c.drop1 a j)
theorem Cz.E5 : (m : List (Nat × Nat)) → (c : Cz) → (b : Nat) → {l : Lb} → c.own b = some l → (∀ p ∈ m, l ≠ .sp p.1 p.2) → (c.drop m).own b = some l
 | [], _, _, _, h, _ => h
 | (a, j) :: m, c, b, l, h, hm => Cz.E5 m (c.drop1 a j) b (Cz.qF h (hm (a, j) (by simp))) (fun p hp => hm p (by simp [hp]))
theorem Fw.trans {c c1 c2 : Cz} {st Ak gD : St} {w w1 w2 : World} (h : Fw c st w c1 Ak w1) (k : Fw c1 Ak w1 c2 gD w2) : Fw c st w c2 gD w2 where
 stays := ⟨Nat.le_trans h.stays.size k.stays.size, fun b hb ho => (k.stays.block b (Nat.lt_of_lt_of_le hb h.stays.size) (h.stays.ok b hb ho)).trans (h.stays.block b hb ho),
   fun b hb ho => k.stays.ok b (Nat.lt_of_lt_of_le hb h.stays.size) (h.stays.ok b hb ho)⟩
 refs a j g A' hg dQ := by
   obtain ⟨A1, h1, h2, h3, h4, h5⟩ := k.refs a j g A' (Nat.le_trans hg (h.gA a)) dQ; obtain ⟨A, k1, k2, k3, k4, k5⟩ := h.refs a j g A1 hg h1; refine ⟨A, k1, h2.trans k2, h3.trans k3, h4.trans k4, fun he => ?_⟩; have g1 := h.gE a; have g2 := k.gE a; obtain ⟨e1, e2⟩ := h5 (by omega); obtain ⟨e3, e4⟩ := k5 (by omega); exact ⟨e1.trans e3, fun b o cap hl => (e2 b o cap (by rw [k4]; exact hl)).trans (e4 b o cap hl)⟩
 B8 b g mA hg hb := by
   obtain ⟨⟨cs1, h1⟩, h2⟩ := k.B8 b g mA (Nat.le_trans hg (h.gB b)) hb; obtain ⟨h3, h4⟩ := h.B8 b g cs1 hg h1; exact ⟨h3, h2.trans h4⟩
 gA a := Nat.le_trans (h.gA a) (k.gA a)
 gB b := Nat.le_trans (h.gB b) (k.gB b)
 gE b := Nat.le_trans (h.gE b) (k.gE b)
theorem Fw.refl (c : Cz) (st : St) (w : World) : Fw c st w c st w := ⟨iW.refl w _, fun _ _ _ A' _ h => ⟨A', h, rfl, rfl, rfl, fun _ => ⟨rfl, fun _ _ _ _ => rfl⟩⟩, fun _ _ mA _ h => ⟨⟨mA, h⟩, rfl⟩, fun _ => Nat.le_refl _, fun _ => Nat.le_refl _, fun _ => Nat.le_refl _⟩
theorem Fw.freeze (w : World) : (m : List (Nat × Nat)) → (c : Cz) → (st : St) → Fw c st w (c.drop m) (freeze st m) w
 | [], c, st => Fw.refl c st w
 | (a, j) :: m, c, st => (Fw.eB c st w a j).trans (Fw.freeze w m (c.drop1 a j) (TM.eB st a j))
theorem yZ {w0 : World} {mu : Mu} {c : Cz} {st : St} {a : Act} {w : World} (h : Rel w0 mu c st a w) : (r : RT) → (cs : List CV) → (us : List Value) → eH c st w cs us →
   (k : ar r → List (Nat × Nat) → N) → {aP : St} → (rowOf st r cs k).val = some aP →
   ∃ x m, (k x m).val = some aP ∧ (∀ p ∈ m, ∃ g A, aQ st p.1 p.2 g = some A) ∧
     ∀ ok : Nat → Prop, (∀ b, c.ok b → ok b) → (∀ p ∈ m, ∀ b, c.own b = some (.sp p.1 p.2) → ok b) → cD w ok r us x
 | .nil, cs, us, hl, k, aP, hv => by
   cases cs with
   | cons _ _ => simp [rowOf, N.val] at hv
   | nil =>
     have : us = [] := by have := hl.1; simp at this; exact List.length_eq_zero_iff.1 this.symm
     subst this; exact ⟨(), [], hv, fun p hp => by simp at hp, fun _ _ _ => rfl⟩
 | .cons t r, cs, us, hl, k, aP, hv => by
   cases cs with
   | nil => cases t <;> simp [rowOf, N.val] at hv
   | cons y cs =>
     cases us with
     | nil => have := hl.1; simp at this
     | cons u us =>
       have hu : jw c st w y u := hl.2 0 y u rfl rfl; have xr : eH c st w cs us := ⟨by have := hl.1; simpa using this, fun i a b ha hb => hl.2 (i + 1) a b (by simpa using ha) (by simpa using hb)⟩; have plain : ∀ (d : den t), (∀ ok : Nat → Prop, (∀ b, c.ok b → ok b) → bH w ok t u d) → (rowOf st r cs (fun x m => k (d, x) m)).val = some aP →
           ∃ x m, (k x m).val = some aP ∧ (∀ p ∈ m, ∃ g A, aQ st p.1 p.2 g = some A) ∧
             ∀ ok : Nat → Prop, (∀ b, c.ok b → ok b) → (∀ p ∈ m, ∀ b, c.own b = some (.sp p.1 p.2) → ok b) → cD w ok (.cons t r) (u :: us) x := by
         intro d hd hv; obtain ⟨x, m, h1, h2, h3⟩ := yZ h r cs us xr _ hv; exact ⟨(d, x), m, h1, h2, fun ok ho hm => ⟨u, us, rfl, hd ok ho, h3 ok ho hm⟩⟩
       cases t with
       | int q =>
         cases y with
         | int l n =>
           simp only [rowOf] at hv
           by_cases e : q = l
           · rw [if_pos e] at hv; exact plain n (fun ok _ => qD.2 (by rw [e]; exact hu)) hv
           · rw [if_neg e] at hv; simp [N.val] at hv
         | _ => simp [rowOf, N.val] at hv
       | bool =>
         cases y with
         | bool b => exact plain b (fun ok _ => rN.2 hu) (by simpa only [rowOf] using hv)
         | _ => simp [rowOf, N.val] at hv
       | str =>
         cases y with
         | str s => exact plain s (fun ok _ => vv.2 hu) (by simpa only [rowOf] using hv)
         | _ => simp [rowOf, N.val] at hv
       | sl q =>
         cases y with
         | dD => exact plain ([] : List (ar q)) (fun ok _ => (nA _ _ _ _ _).2 (.inl ⟨hu, rfl⟩)) (by simpa only [rowOf] using hv)
         | shr r' ys =>
           simp only [rowOf] at hv
           cases hc : bw q ys with
           | none => simp [hc, N.val] at hv
           | some zs =>
             simp only [hc] at hv; obtain ⟨rfl, rfl⟩ := a7 hc; exact plain _ (fun ok ho => bH.stays ⟨Nat.le_refl _, fun _ _ _ => rfl, fun b _ hb => ho b hb⟩ _ _ _ hu) hv
         | ref a' j g vw =>
           simp only [rowOf] at hv
           cases hA : aQ st a' j g with
           | none => simp [hA, N.val] at hv
           | some A =>
             simp only [hA] at hv; have xi : A.md.E2 = false := by
               cases hm : A.md with
               | ho _ => rw [hm] at hv; simp [N.val] at hv
               | _ => rfl
             have hv : (match bw q A.xs with
                 | some ys => rowOf st r cs (fun x m => k (vw.app ys, x) ((a', j) :: m))
                 | none => .fail).val = some aP := by
               cases hm : A.md with
               | ho _ => rw [hm] at xi; cases xi
               | sh => rw [hm] at hv; exact hv
               | dp => rw [hm] at hv; exact hv
             cases hc : bw q A.xs with
             | none => simp [hc, N.val] at hv
             | some ys =>
               simp only [hc] at hv; obtain ⟨e, he⟩ := a7 hc; subst e; simp only at he; subst he; obtain ⟨sl, CC, Q2, CD⟩ := ba hA; have Hy := h.aK a' j sl A CC CD; obtain ⟨x, m, h1, h2, h3⟩ := yZ h r cs us xr _ hv; refine ⟨(vw.app A.xs, x), (a', j) :: m, h1, fun p hp => ?_, fun ok ho hm => ⟨u, us, rfl, ?_, h3 ok ho (fun p hp => hm p (by simp [hp]))⟩⟩
               · rcases List.mem_cons.1 hp with rfl | hp
                 · exact ⟨g, A, hA⟩
                 · exact h2 p hp
               · exact yW Hy (hu.2.2 A hA) ho (fun k _ hk => hm (a', j) (by simp) k hk) xi
         | _ => simp [rowOf, N.val] at hv
end Go.TM
namespace Go.TM
open Go Go.RowKit
theorem xt {cs l m : List CV} {off : Nat} (h : putCells cs off l = some m) : off + l.length ≤ cs.length ∧ m = cs.take off ++ l ++ cs.drop (off + l.length) := by
 unfold putCells at h; obtain ⟨h1, h2⟩ := aH h; exact ⟨Nat.le_of_ble_eq_true h1, (Option.some.inj h2).symm⟩
theorem eH.bC {c : Cz} {st : St} {w : World} {cs l : List CV} {vs us : List Value} (h : eH c st w cs vs) (hl : eH c st w l us) (off : Nat) (hle : off + l.length ≤ cs.length) :
   eH c st w (cs.take off ++ l ++ cs.drop (off + l.length)) (TM.bC vs off us) := by
 have e1 := h.1; have e2 := hl.1; refine ⟨by rw [ga (by omega)]; simp; omega, fun i x v hx hv => ?_⟩; unfold TM.bC at hv; rw [List.getElem?_append, List.getElem?_append] at hx hv; simp only [List.length_append, List.length_take] at hx hv; have a1 : min off cs.length = off := by omega
 have a2 : min off vs.length = off := by omega
 rw [a1] at hx; rw [a2, ← e2] at hv
 by_cases h1 : i < off + l.length
 · rw [if_pos h1] at hx hv
   by_cases h2 : i < off
   · rw [if_pos h2, List.getElem?_take, if_pos h2] at hx hv; exact h.2 i x v hx hv
   · rw [if_neg h2] at hx hv; exact hl.2 _ x v hx hv
 · rw [if_neg h1, List.getElem?_drop] at hx hv; exact h.2 _ x v hx hv
theorem Rel.OB {w0 : World} {mu : Mu} {c : Cz} {st : St} {a : Act} {w : World} (h : Rel w0 mu c st a w) {b : Nat} {s0 : Sl} {cs l : List CV} {vs nu : Array Value} {ty : TypeId}
   (hs : nth st b = some s0) (hb : s0.box = some cs) (hg : w.heap[c.bx b]? = some (.cells vs ty (0, 0))) (hl : eH c st w l nu.toList) :
   Rel w0 mu c (mq (fun s => { s with box := some l }) st b) a (w.setRow (c.bx b) nu) := by
 have eW := (h.boxes b s0 cs hs hb).1; have hn : ∀ s, nth (mq (fun s => { s with box := some l }) st b) s = if s = b then some { s0 with box := some l } else nth st s := by
   intro s; rw [dn]
   by_cases e : s = b
   · subst e; simp [hs]
   · simp [e]
 generalize mq (fun s => { s with box := some l }) st b = aP at hn ⊢; have qn := tD (w := w) eW nu; have rI : ∀ k, k ≠ c.bx b → (w.setRow (c.bx b) nu).heap[k]? = w.heap[k]? := fun k hk => setRow_other w _ k nu hk
 have gj : Fw c st w c aP (w.setRow (c.bx b) nu) := {
   stays := qn
   refs := fun a' j g A' _ dQ => by
     have JF : aQ st a' j g = some A' := by
       unfold aQ at dQ ⊢; rw [hn] at dQ
       by_cases e : a' = b
       · subst e; simpa [hs] using dQ
       · simpa [e] using dQ
     refine ⟨A', JF, rfl, rfl, rfl, fun _ => ⟨rfl, fun k o cap hl => rI k ?_⟩⟩; have ha := h.sH JF; unfold bI at ha; rw [hl] at ha; intro e; subst e; obtain ⟨h1, _⟩ := ha; rw [eW] at h1
     cases ho : A'.own <;> simp [ho] at h1
   B8 := fun b' g mA _ lV => by
     refine ⟨?_, rfl⟩; unfold di at lV ⊢; rw [hn] at lV
     by_cases e : b' = b
     · subst e; simp only [if_true] at lV; obtain ⟨h1, _⟩ := aH lV; exact ⟨cs, by simp [hs, h1, hb]⟩
     · simp only [e, if_false] at lV; exact ⟨mA, lV⟩
   gA := fun a' => by
     unfold cQ; rw [hn]
     by_cases e : a' = b
     · subst e; simp [hs]
     · simp [e]
   gB := fun a' => by
     unfold fM; rw [hn]
     by_cases e : a' = b
     · subst e; simp [hs]
     · simp [e]
   gE := fun a' => by
     unfold lT; rw [hn]
     by_cases e : a' = b
     · subst e; simp [hs]
     · simp [e] }
 exact {
   eI := fun t => by
     have e1 : bK aP t = bK st t := by
       unfold bK; rw [hn]
       by_cases e : t = b
       · subst e; simp [hs]
       · simp [e]
     rw [e1]; exact gj.mr (h.eI t)
   boxes := fun s sl mA za lV => by
     rw [hn] at za
     by_cases e : s = b
     · subst e; simp only [if_true, Option.some.injEq] at za; subst za; simp only [Option.some.injEq] at lV; subst lV; exact ⟨eW, nu, ty, setRow_heap w _ vs nu ty (0, 0) hg, gj.Rt hl⟩
     · simp only [e, if_false] at za; have h0 := h.boxes s sl mA za lV; refine h0.go gj rfl rfl (rI _ ?_); intro e'; have := h0.1; rw [e', eW] at this; injection this with this; injection this with this; exact e this.symm
   aK := fun s j sl A za dQ => by
     rw [hn] at za; have ha : bI c w s j A := by
       by_cases e : s = b
       · subst e; simp only [if_true, Option.some.injEq] at za; subst za; exact h.aK s j s0 A hs dQ
       · simp only [e, if_false] at za; exact h.aK s j sl A za dQ
     refine ha.go qn rfl (fun k h1 => ⟨rI k ?_, rfl⟩); intro e; subst e; rw [eW] at h1
     cases h1
   owned := fun k l hk => by
     have := h.owned k l hk; exact ⟨by simpa [World.setRow] using this.1, this.2⟩
   free := h.free
   kept := ⟨h.kept.1, h.kept.2.1, h.kept.2.2.1, by simpa [World.setRow] using h.kept.2.2.2⟩
   old := fun k hk hm => by
     rw [rI k (fun e => by
       have := (h.owned _ _ eW).2; rcases this with this | this | this
       · cases this
       · subst e; omega
       · subst e; exact hm this)]
     exact h.old k hk hm
   dJ := fun p hp => gj.dJ (h.dJ p hp)
   plain := h.plain }
theorem Rel.E6 {w0 : World} {mu : Mu} {c : Cz} {st : St} {a : Act} {w : World} (h : Rel w0 mu c st a w) {s j : Nat} {s0 : Sl} {A : gP} {b off cap : Nat} {cur nu : Array Value} {ty : TypeId}
   {md' : Md} {ys : List (ar A.r)} (hs : nth st s = some s0) (hA : nth s0.aK j = some (some A)) (eW : A.own = true) (gV : c.lc s j = .at b off cap)
   (hg : w.heap[b]? = some (.cells cur ty (0, 0))) (kO : nu.size = cur.size) (hlen : ys.length = A.xs.length)
   (eV : bm c (w.setRow b nu) (.sp s j) { A with xs := ys, md := md' } b off) :
   Rel w0 mu c (bo st s j (some { A with xs := ys, md := md' })) a (w.setRow b nu) := by
 have h0 := h.aK s j s0 A hs hA; unfold bI at h0; rw [gV] at h0; obtain ⟨h1, h2, ⟨Zt, ty0, h3, h4⟩, h5⟩ := h0; rw [eW] at h1; have hc0 : Zt = cur := by rw [hg] at h3; injection h3 with h3; injection h3 with h3; exact h3.symm
 subst hc0; have hn : ∀ k, nth (bo st s j (some { A with xs := ys, md := md' })) k = if k = s then some { s0 with aK := mq (fun _ => some { A with xs := ys, md := md' }) s0.aK j, ep := s0.ep + 1 } else nth st k := by
   intro k; unfold bo; rw [dn]
   by_cases e : k = s
   · subst e; simp [hs]
   · simp [e]
 generalize bo st s j (some { A with xs := ys, md := md' }) = aP at hn ⊢; have qn := tD (w := w) h1 nu; have rI : ∀ k, k ≠ b → (w.setRow b nu).heap[k]? = w.heap[k]? := fun k hk => setRow_other w _ k nu hk
 have gj : Fw c st w c aP (w.setRow b nu) := {
   stays := qn
   refs := fun a' j' g A' _ dQ => by
     obtain ⟨sl, k1, k2, k3⟩ := ba dQ; rw [hn] at k1
     by_cases e : a' = s
     · subst e; simp only [if_true, Option.some.injEq] at k1; subst k1; simp only at k2 k3; rw [dn] at k3
       by_cases e2 : j' = j
       · subst e2; rw [if_pos rfl, hA] at k3; simp only [Option.map_some, Option.some.injEq] at k3; subst k3; refine ⟨A, ?_, rfl, hlen, rfl, fun he => ?_⟩
         · unfold aQ; rw [hs]; have : Nat.beq s0.ag g = true := by rw [k2]; exact Nat.beq_refl g
           simp [this, hA]
         · unfold lT at he; rw [hn, if_pos rfl, hs] at he; simp at he
       · rw [if_neg e2] at k3; refine ⟨A', ?_, rfl, rfl, rfl, fun he => ?_⟩
         · unfold aQ; rw [hs]; have : Nat.beq s0.ag g = true := by rw [k2]; exact Nat.beq_refl g
           simp [this, k3]
         · unfold lT at he; rw [hn, if_pos rfl, hs] at he; simp at he
     · rw [if_neg e] at k1; have JF : aQ st a' j' g = some A' := by
         unfold aQ; rw [k1]; have : Nat.beq sl.ag g = true := by rw [k2]; exact Nat.beq_refl g
         simp [this, k3]
       refine ⟨A', JF, rfl, rfl, rfl, fun _ => ⟨rfl, fun k o JB hl => rI k ?_⟩⟩; have ha := h.sH JF; unfold bI at ha; rw [hl] at ha
       rintro rfl
       obtain ⟨g1, _⟩ := ha; rw [h1] at g1
       cases ho : A'.own with
       | true => simp [ho] at g1; exact e g1.1.symm
       | false => simp [ho] at g1
   B8 := fun b' g mA _ lV => by
     refine ⟨⟨mA, ?_⟩, rfl⟩; unfold di at lV ⊢; rw [hn] at lV
     by_cases e : b' = s
     · subst e; simpa [hs] using lV
     · simpa [e] using lV
   gA := fun a' => by
     unfold cQ; rw [hn]
     by_cases e : a' = s
     · subst e; simp [hs]
     · simp [e]
   gB := fun a' => by
     unfold fM; rw [hn]
     by_cases e : a' = s
     · subst e; simp [hs]
     · simp [e]
   gE := fun a' => by
     unfold lT; rw [hn]
     by_cases e : a' = s
     · subst e; simp [hs]
     · simp [e] }
 exact {
   eI := fun t => by
     have e1 : bK aP t = bK st t := by
       unfold bK; rw [hn]
       by_cases e : t = s
       · subst e; simp [hs]
       · simp [e]
     rw [e1]; exact gj.mr (h.eI t)
   boxes := fun k sl mA za lV => by
     rw [hn] at za; have Ca : vA c st w k mA := by
       by_cases e : k = s
       · subst e; simp only [if_true, Option.some.injEq] at za; subst za; exact h.boxes k s0 mA hs lV
       · simp only [e, if_false] at za; exact h.boxes k sl mA za lV
     refine Ca.go gj rfl rfl (rI _ ?_); intro e; have := Ca.1; rw [e, h1] at this; simp at this
   aK := fun k i sl B za hB => by
     rw [hn] at za
     by_cases e : k = s ∧ i = j
     · obtain ⟨rfl, rfl⟩ := e; simp only [if_true, Option.some.injEq] at za; subst za; simp only at hB; rw [dn, if_pos rfl, hA] at hB; simp only [Option.map_some, Option.some.injEq] at hB; subst hB; unfold bI; rw [gV]; refine ⟨by rw [eW]; exact h1, by simp only; rw [hlen]; exact h2, ⟨nu, ty, setRow_heap w b Zt nu ty (0, 0) hg, by simp only; rw [kO]; exact h4⟩, eV⟩
     · have ha : bI c w k i B := by
         by_cases e2 : k = s
         · subst e2; simp only [if_true, Option.some.injEq] at za; subst za; simp only at hB; rw [dn, if_neg (fun e3 => e ⟨rfl, e3⟩)] at hB; exact h.aK k i s0 B hs hB
         · rw [if_neg e2] at za; exact h.aK k i sl B za hB
       refine ha.go qn rfl (fun k' g1 => ⟨rI k' ?_, rfl⟩)
       rintro rfl
       rw [h1] at g1; simp at g1; exact e ⟨g1.1.symm, g1.2.symm⟩
   owned := fun k l hk => by
     have := h.owned k l hk; exact ⟨by simpa [World.setRow] using this.1, this.2⟩
   free := h.free
   kept := ⟨h.kept.1, h.kept.2.1, h.kept.2.2.1, by simpa [World.setRow] using h.kept.2.2.2⟩
   old := fun k hk hm => by
     rw [rI k (fun e => by
       have := (h.owned _ _ h1).2; rcases this with this | this | this
       · cases this
       · subst e; omega
       · subst e; exact hm this)]
     exact h.old k hk hm
   dJ := fun p hp => gj.dJ (h.dJ p hp)
   plain := h.plain }
theorem Rel.zb {w0 : World} {mu : Mu} {c : Cz} {st : St} {a : Act} {w : World} (h : Rel w0 mu c st a w) {s j : Nat} {s0 : Sl} {A : gP} {b off cap : Nat} {cur nu : Array Value} {ty : TypeId}
   {ys : List (ar A.r)} (hs : nth st s = some s0) (hA : nth s0.aK j = some (some A)) (eW : A.own = true) (gV : c.lc s j = .at b off cap)
   (hg : w.heap[b]? = some (.cells cur ty (0, 0))) (kO : nu.size = cur.size) (hlen : ys.length = A.xs.length)
   (eV : bm c (w.setRow b nu) (.sp s j) { A with xs := ys } b off) :
   Rel w0 mu c (bo st s j (some { A with xs := ys })) a (w.setRow b nu) := h.E6 hs hA eW gV hg kO hlen eV
end Go.TM
namespace Go.TM
open Go Go.RowKit
theorem zc : (r : RT) → (x : ar r) → (k : Nat) → (y : CV) → {z : ar r} → fx r x k y = some z → k < r.width
 | .nil, _, _, _, _, h => by simp [fx] at h
 | .cons t r, x, 0, y, z, _ => by simp [RT.width]
 | .cons t r, x, k + 1, y, z, h => by
   have h' : (fx r x.2 k y).map (fun z => ((x.1, z) : ar (.cons t r))) = some z := by cases t <;> (simp only [fx] at h; exact h)
   cases hq : fx r x.2 k y with
   | none => rw [hq] at h'; cases h'
   | some z' => have := zc r x.2 k y hq; simp [RT.width]; omega
theorem tE (r : RT) (x : ar r) : (off : Nat) → (cs : List CV) → {z : ar r} → km r x off cs = some z → cs ≠ [] → off + cs.length ≤ r.width
 | _, [], _, _, h => absurd rfl h
 | off, y :: l, z, h, _ => by
   simp only [km] at h
   cases hq : km r x (off + 1) l with
   | none => simp [hq] at h
   | some y' =>
     simp only [hq] at h; have h1 := zc r y' off y h
     cases l with
     | nil => simp; omega
     | cons y2 l2 => have := tE r x (off + 1) (y2 :: l2) hq (by simp); simp at this ⊢; omega
theorem kq {vs us : List Value} {off k : Nat} (hle : off + us.length ≤ vs.length) : (bC vs off us)[k]? = if off ≤ k ∧ k < off + us.length then us[k - off]? else vs[k]? := by
 unfold bC; simp only [List.getElem?_append, List.length_append, List.length_take, List.getElem?_take, List.getElem?_drop]; have a1 : min off vs.length = off := by omega
 rw [a1]
 by_cases h1 : k < off
 · rw [if_pos (by omega), if_pos h1, if_pos h1, if_neg (by omega)]
 · by_cases h2 : k < off + us.length
   · rw [if_pos h2, if_neg h1, if_pos ⟨by omega, h2⟩]
   · rw [if_neg h2, if_neg (by omega)]
     congr 1
     omega
theorem CJ : (m : List (Nat × Nat)) → {st : St} → {a j : Nat} → {sl : Sl} → {A : gP} → nth st a = some sl → nth sl.aK j = some (some A) → (a, j) ∉ m →
   ∃ Tc, nth (freeze st m) a = some Tc ∧ nth Tc.aK j = some (some A)
 | [], _, _, _, sl, _, h1, h2, _ => ⟨sl, h1, h2⟩
 | (b, i) :: m, st, a, j, sl, A, h1, h2, hm => by
   rw [Hz]; obtain ⟨f, hf, hn⟩ := im st b i a; refine CJ m (sl := f sl) (A := A) (by rw [hn, h1]; rfl) ?_ (fun h => hm (by simp [h])); rw [(hf sl).2.2.2.2.1 j, if_neg]
   · exact h2
   · rintro ⟨rfl, rfl⟩; exact hm (by simp)
theorem zd {c : Cz} {w : World} {b off : Nat} {r : RT} {xs : List (ar r)} {cur : Array Value} {ty : TypeId} {l : Lb} (eW : c.own b = some l)
   (hg : w.heap[b]? = some (.cells cur ty (0, 0))) (eV : ∀ (i : Nat) x, xs[i]? = some x → cn w c.ok r b (off + i * r.width) x)
   {i k : Nat} {x y : ar r} {us : List Value} (hx : xs[i]? = some x) (hle : k + us.length ≤ r.width) (kO : off + i * r.width + r.width ≤ cur.size)
   (hy : ∀ vs, cD w c.ok r vs x → cD w c.ok r (bC vs k us) y) :
   ∀ (i' : Nat) x', (xs.set i y)[i']? = some x' → cn (w.setRow b (bC cur.toList (off + i * r.width + k) us).toArray) c.ok r b (off + i' * r.width) x' := by
 have qn := tD (w := w) eW (bC cur.toList (off + i * r.width + k) us).toArray; have Rv := setRow_heap w b cur (bC cur.toList (off + i * r.width + k) us).toArray ty (0, 0) hg; have sI : ∀ q, (w.setRow b (bC cur.toList (off + i * r.width + k) us).toArray).cell? ⟨b, q, none⟩ =
     if off + i * r.width + k ≤ q ∧ q < off + i * r.width + k + us.length then us[q - (off + i * r.width + k)]? else w.cell? ⟨b, q, none⟩ := by
   intro q; rw [cell_of_row _ b q _ ty (0, 0) Rv, cell_of_row w b q cur ty (0, 0) hg]; simp only [List.getElem?_toArray]; rw [kq (by simp; omega)]; simp
 intro i' x' rF; rw [List.getElem?_set] at rF
 by_cases e : i = i'
 · subst e; rw [if_pos rfl] at rF; have hi : i < xs.length := (List.getElem?_eq_some_iff.1 hx).1; rw [if_pos hi] at rF; obtain rfl := Option.some.inj rF; obtain ⟨vs, h1, h2⟩ := (mF r b _ x).1 (eV i x hx); have yQ := cD.length r vs x h2; refine (mF r b _ y).2 ⟨bC vs k us, fun q v hv => ?_, cD.stays qn r _ y (hy vs h2)⟩; rw [kq (by omega)] at hv; rw [sI]
   by_cases hq : k ≤ q ∧ q < k + us.length
   · rw [if_pos hq] at hv; rw [if_pos (by omega), show off + i * r.width + q - (off + i * r.width + k) = q - k by omega]; exact hv
   · rw [if_neg hq] at hv; rw [if_neg (by omega)]; exact h1 q v hv
 · rw [if_neg e] at rF; obtain ⟨vs, h1, h2⟩ := (mF r b _ x').1 (eV i' x' rF); have yQ := cD.length r vs x' h2; refine (mF r b _ x').2 ⟨vs, fun q v hv => ?_, cD.stays qn r _ x' h2⟩; have hq : q < r.width := by rw [← yQ]; exact (List.getElem?_eq_some_iff.1 hv).1
   rw [sI, if_neg]
   · exact h1 q v hv
   · rintro ⟨g1, g2⟩
     rcases Nat.lt_or_gt_of_ne e with h | h
     · have : (i + 1) * r.width ≤ i' * r.width := Nat.mul_le_mul_right _ h; rw [Nat.add_mul] at this; omega
     · have : (i' + 1) * r.width ≤ i * r.width := Nat.mul_le_mul_right _ h; rw [Nat.add_mul] at this; omega
theorem xu {w : World} {b off : Nat} {r : RT} {xs : List (ar r)} {cur : Array Value} {ty : TypeId}
   (hg : w.heap[b]? = some (.cells cur ty (0, 0))) {Q : Nat → List Value → ar r → Prop} (eV : ∀ (i : Nat) x, xs[i]? = some x → ∃ vs, w.rangeAt b (off + i * r.width) vs ∧ vs.length = r.width ∧ Q i vs x)
   {i k : Nat} {x y : ar r} {us : List Value} (hx : xs[i]? = some x) (hle : k + us.length ≤ r.width) (kO : off + i * r.width + r.width ≤ cur.size)
   (hy : ∀ vs, vs.length = r.width → Q i vs x → Q i (bC vs k us) y) :
   ∀ (i' : Nat) x', (xs.set i y)[i']? = some x' → ∃ vs, (w.setRow b (bC cur.toList (off + i * r.width + k) us).toArray).rangeAt b (off + i' * r.width) vs ∧ Q i' vs x' := by
 have Rv := setRow_heap w b cur (bC cur.toList (off + i * r.width + k) us).toArray ty (0, 0) hg; have sI : ∀ q, (w.setRow b (bC cur.toList (off + i * r.width + k) us).toArray).cell? ⟨b, q, none⟩ =
     if off + i * r.width + k ≤ q ∧ q < off + i * r.width + k + us.length then us[q - (off + i * r.width + k)]? else w.cell? ⟨b, q, none⟩ := by
   intro q; rw [cell_of_row _ b q _ ty (0, 0) Rv, cell_of_row w b q cur ty (0, 0) hg]; simp only [List.getElem?_toArray]; rw [kq (by simp; omega)]; simp
 intro i' x' rF; rw [List.getElem?_set] at rF
 by_cases e : i = i'
 · subst e; rw [if_pos rfl] at rF; have hi : i < xs.length := (List.getElem?_eq_some_iff.1 hx).1; rw [if_pos hi] at rF; obtain rfl := Option.some.inj rF; obtain ⟨vs, h1, yQ, h2⟩ := eV i x hx; refine ⟨bC vs k us, fun q v hv => ?_, hy vs yQ h2⟩; rw [kq (by omega)] at hv; rw [sI]
   by_cases hq : k ≤ q ∧ q < k + us.length
   · rw [if_pos hq] at hv; rw [if_pos (by omega), show off + i * r.width + q - (off + i * r.width + k) = q - k by omega]; exact hv
   · rw [if_neg hq] at hv; rw [if_neg (by omega)]; exact h1 q v hv
 · rw [if_neg e] at rF; obtain ⟨vs, h1, yQ, h2⟩ := eV i' x' rF; refine ⟨vs, fun q v hv => ?_, h2⟩; have hq : q < r.width := by rw [← yQ]; exact (List.getElem?_eq_some_iff.1 hv).1
   rw [sI, if_neg]
   · exact h1 q v hv
   · rintro ⟨g1, g2⟩
     rcases Nat.lt_or_gt_of_ne e with h | h
     · have : (i + 1) * r.width ≤ i' * r.width := Nat.mul_le_mul_right _ h; rw [Nat.add_mul] at this; omega
     · have : (i' + 1) * r.width ≤ i * r.width := Nat.mul_le_mul_right _ h; rw [Nat.add_mul] at this; omega
theorem Ev {w : World} {b off : Nat} {r : RT} {xs : List (ar r)} {cur : Array Value} {ty : TypeId}
   (hg : w.heap[b]? = some (.cells cur ty (0, 0))) {Q : Nat → List Value → ar r → Prop} {i : Nat} (eV : ∀ (i' : Nat) x, i' ≠ i → xs[i']? = some x → ∃ vs, w.rangeAt b (off + i' * r.width) vs ∧ vs.length = r.width ∧ Q i' vs x)
   {x y : ar r} {us : List Value} (hx : xs[i]? = some x) (hle : us.length = r.width) (kO : off + i * r.width + r.width ≤ cur.size) (hy : Q i us y) :
   ∀ (i' : Nat) x', (xs.set i y)[i']? = some x' → ∃ vs, (w.setRow b (bC cur.toList (off + i * r.width + 0) us).toArray).rangeAt b (off + i' * r.width) vs ∧ Q i' vs x' := by
 have Rv := setRow_heap w b cur (bC cur.toList (off + i * r.width + 0) us).toArray ty (0, 0) hg; have sI : ∀ q, (w.setRow b (bC cur.toList (off + i * r.width + 0) us).toArray).cell? ⟨b, q, none⟩ =
     if off + i * r.width ≤ q ∧ q < off + i * r.width + us.length then us[q - (off + i * r.width)]? else w.cell? ⟨b, q, none⟩ := by
   intro q; rw [cell_of_row _ b q _ ty (0, 0) Rv, cell_of_row w b q cur ty (0, 0) hg]; simp only [List.getElem?_toArray]; rw [kq (by simp; omega)]; simp
 intro i' x' rF; rw [List.getElem?_set] at rF
 by_cases e : i = i'
 · subst e; rw [if_pos rfl] at rF; have hi : i < xs.length := (List.getElem?_eq_some_iff.1 hx).1; rw [if_pos hi] at rF; obtain rfl := Option.some.inj rF; refine ⟨us, fun q v hv => ?_, hy⟩; have hq : q < us.length := (List.getElem?_eq_some_iff.1 hv).1; rw [sI, if_pos (by omega), show off + i * r.width + q - (off + i * r.width) = q by omega]; exact hv
 · rw [if_neg e] at rF; obtain ⟨vs, h1, yQ, h2⟩ := eV i' x' (fun h => e h.symm) rF; refine ⟨vs, fun q v hv => ?_, h2⟩; have hq : q < r.width := by rw [← yQ]; exact (List.getElem?_eq_some_iff.1 hv).1
   rw [sI, if_neg]
   · exact h1 q v hv
   · rintro ⟨g1, g2⟩
     rcases Nat.lt_or_gt_of_ne e with h | h
     · have : (i + 1) * r.width ≤ i' * r.width := Nat.mul_le_mul_right _ h; rw [Nat.add_mul] at this; omega
     · have : (i' + 1) * r.width ≤ i * r.width := Nat.mul_le_mul_right _ h; rw [Nat.add_mul] at this; omega
end Go.TM
namespace Go.TM
open Go Go.RowKit
def YJ (w : World) (ok : Nat → Prop) (r : RT) (u : Value) (ys : List (ar r)) : Prop :=
 (u = .slice none 0 0 ∧ ys = []) ∨ ∃ a cap, u = .slice (some a) ys.length cap ∧ (ys ≠ [] → a.spot = none) ∧ ∀ (i : Nat) y, ys[i]? = some y → cn w ok r a.block (a.off + i * r.width) y
def aW (w : World) (ok : Nat → Prop) (r : RT) : List Value → List (ar r) → Prop
 | vs, [] => vs = []
 | vs, x :: xs => ∃ l1 l2, vs = l1 ++ l2 ∧ cD w ok r l1 x ∧ aW w ok r l2 xs
theorem aW.length {w : World} {ok : Nat → Prop} {r : RT} : (vs : List Value) → (xs : List (ar r)) → aW w ok r vs xs → vs.length = xs.length * r.width
 | vs, [], h => by simp only [aW] at h; subst h; simp
 | vs, x :: xs, h => by
   obtain ⟨l1, l2, rfl, h1, h2⟩ := h; have a1 := cD.length r l1 x h1; have a2 := aW.length l2 xs h2; simp [a1, a2, Nat.add_mul]; omega
theorem aW.stays {w w' : World} {ok yU : Nat → Prop} (h : iW w w' ok yU) {r : RT} : (vs : List Value) → (xs : List (ar r)) → aW w ok r vs xs → aW w' yU r vs xs
 | _, [], hr => hr
 | _, x :: xs, ⟨l1, l2, e, h1, h2⟩ => ⟨l1, l2, e, cD.stays h r l1 x h1, aW.stays h l2 xs h2⟩
theorem aW.append {w : World} {ok : Nat → Prop} {r : RT} : (vs us : List Value) → (xs ys : List (ar r)) → aW w ok r vs xs → aW w ok r us ys → aW w ok r (vs ++ us) (xs ++ ys)
 | vs, us, [], ys, h, k => by simp only [aW] at h; subst h; simpa using k
 | vs, us, x :: xs, ys, ⟨l1, l2, e, h1, h2⟩, k => ⟨l1, l2 ++ us, by rw [e, List.append_assoc], h1, aW.append l2 us xs ys h2 k⟩
theorem aW.one {w : World} {ok : Nat → Prop} {r : RT} {vs : List Value} {x : ar r} (h : cD w ok r vs x) : aW w ok r vs [x] := ⟨vs, [], by simp, h, rfl⟩
theorem kr {w : World} {ok : Nat → Prop} {r : RT} (b : Nat) : (off : Nat) → (xs : List (ar r)) → (∀ (i : Nat) x, xs[i]? = some x → cn w ok r b (off + i * r.width) x) →
   ∃ vs, w.rangeAt b off vs ∧ aW w ok r vs xs
 | _, [], _ => ⟨[], fun j v h => by simp at h, rfl⟩
 | off, x :: xs, h => by
   obtain ⟨l1, h1, h2⟩ := (mF r b off x).1 (by have := h 0 x rfl; simpa using this); obtain ⟨l2, h3, h4⟩ := kr b (off + r.width) xs (fun i y hy => by
     have := h (i + 1) y (by simpa using hy); rw [Nat.add_mul, Nat.one_mul] at this; rw [show off + r.width + i * r.width = off + (i * r.width + r.width) by omega]; exact this)
   have hl := cD.length r l1 x h2; refine ⟨l1 ++ l2, fun j v hv => ?_, l1, l2, rfl, h2, h4⟩; rw [List.getElem?_append] at hv
   by_cases hj : j < l1.length
   · rw [if_pos hj] at hv; exact h1 j v hv
   · rw [if_neg hj] at hv; have := h3 _ v hv; rw [show off + r.width + (j - l1.length) = off + j by omega] at this; exact this
theorem rQ {w : World} {ok : Nat → Prop} {r : RT} {b : Nat} : (off : Nat) → (vs : List Value) → (xs : List (ar r)) → aW w ok r vs xs → w.rangeAt b off vs →
   ∀ (i : Nat) x, xs[i]? = some x → cn w ok r b (off + i * r.width) x
 | _, _, [], _, _, i, x, h => by simp at h
 | off, vs, y :: xs, ⟨l1, l2, e, h1, h2⟩, hr, i, x, h => by
   subst e; have hl := cD.length r l1 y h1
   cases i with
   | zero =>
     simp at h; subst h; rw [mF]; refine ⟨l1, fun j v hv => ?_, h1⟩; have hj : j < l1.length := (List.getElem?_eq_some_iff.1 hv).1; have := hr j v (by rw [List.getElem?_append, if_pos hj]; exact hv); simpa using this
   | succ i =>
     have := rQ (off + r.width) l2 xs h2 (fun j v hv => by
       have := hr (l1.length + j) v (by rw [List.getElem?_append, if_neg (by omega)]; simpa using hv); rw [show off + r.width + j = off + (l1.length + j) by omega]; exact this) i x (by simpa using h)
     rw [Nat.add_mul, Nat.one_mul]; rw [show off + (i * r.width + r.width) = off + r.width + i * r.width by omega]; exact this
theorem bH.one {w : World} {ok : Nat → Prop} {t : Ty} {v : Value} {x : den t} (h : bH w ok t v x) : v.oneCell' = true := by
 cases t with
 | int k => rw [qD.1 h]; rfl
 | bool => rw [rN.1 h]; rfl
 | str => rw [vv.1 h]; rfl
 | sl r =>
   rcases (nA w ok r v x).1 h with ⟨rfl, _⟩ | ⟨a, cap, rfl, _⟩ <;> rfl
theorem cD.one {w : World} {ok : Nat → Prop} : (r : RT) → (vs : List Value) → (x : ar r) → cD w ok r vs x → ∀ v ∈ vs, v.oneCell' = true
 | .nil, vs, _, h, v, hv => by simp only [cD] at h; subst h; simp at hv
 | .cons t r, vs, x, ⟨u, l, e, hx, hr⟩, v, hv => by
   subst e; rcases List.mem_cons.1 hv with rfl | hv
   · exact hx.one
   · exact cD.one r l x.2 hr v hv
theorem aW.kj {w : World} {ok : Nat → Prop} {r : RT} : (vs : List Value) → (xs : List (ar r)) → aW w ok r vs xs → ∀ v ∈ vs, v.oneCell' = true
 | vs, [], h, v, hv => by simp only [aW] at h; subst h; simp at hv
 | vs, x :: xs, ⟨l1, l2, e, h1, h2⟩, v, hv => by
   subst e; rcases List.mem_append.1 hv with hv | hv
   · exact cD.one r l1 x h1 v hv
   · exact aW.kj l2 xs h2 v hv
theorem Bq {w0 : World} {mu : Mu} {c : Cz} {st : St} {a : Act} {w : World} (h : Rel w0 mu c st a w) {r : RT} {x : CV} {u : Value} (hx : jw c st w x u)
   {k : List (ar r) → N} {aP : St} (hv : (ly st r x k).val = some aP) : ∃ ys, (k ys).val = some aP ∧ YJ w c.ok r u ys := by
 cases x with
 | shr r' xs =>
   simp only [ly] at hv
   cases hc : bw r xs with
   | none => simp [hc, N.val] at hv
   | some ys =>
     simp only [hc] at hv; obtain ⟨rfl, rfl⟩ := a7 hc; refine ⟨_, hv, ?_⟩; rcases (nA _ _ _ _ _).1 hx with h1 | ⟨a', cap, h1, h2, h3, h4⟩
     · exact .inl h1
     · exact .inr ⟨a', cap, h1, fun fe => (h3 fe).1, h4⟩
 | nn r' xs =>
   simp only [ly] at hv
   cases hc : bw r xs with
   | none => simp [hc, N.val] at hv
   | some ys =>
     simp only [hc] at hv; obtain ⟨rfl, rfl⟩ := a7 hc; refine ⟨_, hv, ?_⟩; rcases (nA _ _ _ _ _).1 hx.1 with h1 | ⟨a', cap, h1, h2, h3, h4⟩
     · exact .inl h1
     · exact .inr ⟨a', cap, h1, fun fe => (h3 fe).1, h4⟩
 | dD => exact ⟨[], by simpa only [ly] using hv, .inl ⟨hx, rfl⟩⟩
 | ref a' j g vw =>
   simp only [ly] at hv
   cases hA : aQ st a' j g with
   | none => simp [hA, N.val] at hv
   | some A =>
     simp only [hA] at hv; have xi : A.md = .sh := by
       cases hm : A.md with
       | sh => rfl
       | dp => rw [hm] at hv; simp [N.val] at hv
       | ho _ => rw [hm] at hv; simp [N.val] at hv
     rw [xi] at hv; simp only at hv
     cases hc : bw r A.xs with
     | none => simp [hc, N.val] at hv
     | some ys =>
       simp only [hc] at hv; obtain ⟨e, he⟩ := a7 hc; subst e; simp only at he; subst he; obtain ⟨sl, CC, Q2, CD⟩ := ba hA; have Hy := h.aK a' j sl A CC CD; refine ⟨vw.app A.xs, hv, ?_⟩; clear hv; have hs := hx.2.2 A hA
       cases hl : c.lc a' j with
       | nil =>
         unfold je at hs; rw [hl] at hs; exact .inl ⟨hs.1, List.length_eq_zero_iff.1 hs.2⟩
       | «at» b off cap =>
         unfold je at hs; rw [hl] at hs; obtain ⟨ad, k', rfl, hk, yX, ha⟩ := hs; unfold bI at Hy; rw [hl] at Hy; obtain ⟨_, _, _, h5⟩ := Hy; have fe : vw.app A.xs ≠ [] → k' ≠ 0 := by
           intro fe; have := List.length_pos_iff.2 fe; omega
         refine .inr ⟨ad, k', rfl, fun h => by rw [ha (fe h)], fun i y hy => ?_⟩; have hk0 : k' ≠ 0 := fe (by intro e; rw [e] at hy; simp at hy); rw [ha hk0]; have := (bm.sh xi).1 h5 _ y (View.wK vw A.xs hy); have e : off + vw.lo * A.r.width + i * A.r.width = off + (vw.lo + i) * A.r.width := by rw [Nat.add_mul]; omega
         show cn w c.ok A.r b (off + vw.lo * A.r.width + i * A.r.width) y; rw [e]; exact this
 | _ => simp [ly, N.val] at hv
theorem Rel.place {w0 : World} {mu : Mu} {c c' : Cz} {st : St} {a : Act} {w w' : World} (h : Rel w0 mu c st a w) {d B : Nat} {s0 : Sl} {A : gP} {v : Value}
   (iE : nth st d = some s0) (hd : d < a.tmps.size)
   (Ca : c'.bx = c.bx) (gV : ∀ s j, ¬ (s = d ∧ j = 0) → c'.lc s j = c.lc s j) (eW : ∀ k, k ≠ B → c'.own k = c.own k)
   (Zu : c'.own B = some (.sp d 0) ∨ (c'.own B = c.own B ∧ w'.heap[B]? = w.heap[B]?))
   (hB : w.heap.size ≤ B ∨ ∃ s j, c.own B = some (.sp s j) ∧ (s = d ∨ ∀ sl A, nth st s = some sl → nth sl.aK j ≠ some (some A)))
   (hBn : c'.own B = some (.sp d 0) → B < w'.heap.size)
   (hw : ∀ k, k < w.heap.size → k ≠ B → w'.heap[k]? = w.heap[k]?) (sq : w'.os = w.os ∧ w'.tape = w.tape ∧ w'.output = w.output ∧ w.heap.size ≤ w'.heap.size)
   (hA : bI c' w' d 0 A) (yR : v.oneCell' = true) (hv : je (c'.lc d 0) A.r.width 0 A.xs.length v) :
   Rel w0 mu c' (mq (fun s => { s with v := .one (.ref d 0 (s0.ag + 1) .full), aK := [some A], ag := s0.ag + 1 }) st d) (a.put (some d) v) w' := by
 have hn : ∀ s, nth (mq (fun s => { s with v := .one (.ref d 0 (s0.ag + 1) .full), aK := [some A], ag := s0.ag + 1 }) st d) s =
     if s = d then some { s0 with v := .one (.ref d 0 (s0.ag + 1) .full), aK := [some A], ag := s0.ag + 1 } else nth st s := by
   intro s; rw [dn]
   by_cases e : s = d
   · subst e; simp [iE]
   · simp [e]
 generalize mq (fun s => { s with v := .one (.ref d 0 (s0.ag + 1) .full), aK := [some A], ag := s0.ag + 1 }) st d = aP at hn ⊢; have Un : ∀ k, k < w.heap.size → c.ok k → k ≠ B := by
   rintro k hk fH rfl
   rcases hB with hB | ⟨s, j, hB, _⟩
   · omega
   · unfold Cz.ok at fH; rw [hB] at fH; cases fH
 have qn : iW w w' c.ok c'.ok := ⟨sq.2.2.2, fun k hk fH => hw k hk (Un k hk fH), fun k hk fH => by unfold Cz.ok; rw [eW k (Un k hk fH)]; exact fH⟩; have gj : Fw c st w c' aP w' := {
   stays := qn
   refs := fun a' j g A' hg dQ => by
     by_cases e : a' = d
     · subst e; obtain ⟨sl, k1, k2, k3⟩ := ba dQ; rw [hn, if_pos rfl] at k1; obtain rfl := Option.some.inj k1; simp only at k2; unfold cQ at hg; rw [iE] at hg; simp only at hg; omega
     · have JF : aQ st a' j g = some A' := by
         unfold aQ at dQ ⊢; rw [hn, if_neg e] at dQ; exact dQ
       refine ⟨A', JF, rfl, rfl, gV a' j (fun h => e h.1), fun _ => ⟨rfl, fun k off cap hl => ?_⟩⟩; have ha := h.sH JF; have bN := ha.lt hl; unfold bI at ha; rw [hl] at ha; obtain ⟨g1, _⟩ := ha; refine hw k bN ?_
       rintro rfl
       rcases hB with hB | ⟨s', j', hB, Ew⟩
       · omega
       · rw [hB] at g1
         cases ho : A'.own with
         | true =>
           simp [ho] at g1; obtain ⟨rfl, rfl⟩ := g1; obtain ⟨sl, q1, _, q3⟩ := ba JF; rcases Ew with Ew | Ew
           · exact e Ew
           · exact Ew sl A' q1 q3
         | false => simp [ho] at g1
   B8 := fun b' g mA _ lV => by
     refine ⟨⟨mA, ?_⟩, by rw [Ca]⟩; unfold di at lV ⊢; rw [hn] at lV
     by_cases e : b' = d
     · subst e; simpa [iE] using lV
     · simpa [e] using lV
   gA := fun a' => by
     unfold cQ; rw [hn]
     by_cases e : a' = d
     · subst e; simp [iE]
     · simp [e]
   gB := fun a' => by
     unfold fM; rw [hn]
     by_cases e : a' = d
     · subst e; simp [iE]
     · simp [e]
   gE := fun a' => by
     unfold lT; rw [hn]
     by_cases e : a' = d
     · subst e; simp [iE]
     · simp [e] }
 exact {
   eI := fun t => by
     have e1 : bK aP t = if t = d then .one (.ref d 0 (s0.ag + 1) .full) else bK st t := by
       unfold bK; rw [hn]
       by_cases e : t = d <;> simp [e]
     rw [e1, eval_put]
     by_cases e : t = d
     · subst e; simp only [if_true, true_and, hd]; refine ⟨yR, ?_, fun A' dQ => ?_⟩
       · unfold cQ; rw [hn]; simp
       · obtain ⟨sl, k1, k2, k3⟩ := ba dQ; rw [hn, if_pos rfl] at k1; obtain rfl := Option.some.inj k1; simp [nth] at k3; subst k3; exact hv
     · simp only [e, if_false]; rw [if_neg (fun h => e (Option.some.inj h.1).symm)]; exact gj.mr (h.eI t)
   boxes := fun s sl mA hs hb => by
     rw [hn] at hs; have Uo : vA c st w s mA := by
       by_cases e : s = d
       · subst e; rw [if_pos rfl] at hs; obtain rfl := Option.some.inj hs; exact h.boxes s s0 mA iE hb
       · rw [if_neg e] at hs; exact h.boxes s sl mA hs hb
     have bN := h.nH Uo.1; have fe : c.bx s ≠ B := by
       intro e; rcases hB with hB | ⟨s', j, hB, _⟩
       · omega
       · rw [← e, Uo.1] at hB; cases hB
     exact Uo.go gj (by rw [Ca]) (eW _ fe) (hw _ bN fe)
   aK := fun s j sl A' hs dQ => by
     rw [hn] at hs
     by_cases e : s = d
     · subst e; rw [if_pos rfl] at hs; obtain rfl := Option.some.inj hs
       cases j with
       | zero => simp [nth] at dQ; subst dQ; exact hA
       | succ j => simp [nth] at dQ
     · rw [if_neg e] at hs; have ha := h.aK s j sl A' hs dQ; refine ha.go qn (gV s j (fun h => e h.1)) (fun k g1 => ?_); have bN : k < w.heap.size := h.nH g1; have fe : k ≠ B := by
         rintro rfl
         rcases hB with hB | ⟨s', j', hB, Ew⟩
         · omega
         · rw [hB] at g1; simp at g1; obtain ⟨rfl, rfl⟩ := g1; rcases Ew with Ew | Ew
           · exact e Ew
           · exact Ew sl A' hs dQ
       exact ⟨hw k bN fe, eW k fe⟩
   owned := fun b l hb => by
     by_cases e : b = B
     · subst e; rcases Zu with Zu | ⟨Zu, _⟩
       · refine ⟨hBn Zu, ?_⟩; rcases hB with hB | ⟨s', j', hB, _⟩
         · exact .inr (.inl (Nat.le_trans h.kept.2.2.2 hB))
         · rcases (h.owned _ _ hB).2 with h2 | h2
           · cases h2
           · exact .inr h2
       · rw [Zu] at hb; have := h.owned b l hb; exact ⟨Nat.lt_of_lt_of_le this.1 sq.2.2.2, this.2⟩
     · rw [eW b e] at hb; have := h.owned b l hb; exact ⟨Nat.lt_of_lt_of_le this.1 sq.2.2.2, this.2⟩
   free := fun b hb h1 => by
     by_cases e : b = B
     · subst e; rcases hB with hB | ⟨s', j', hB, _⟩
       · have := h.kept.2.2.2; omega
       · rcases (h.owned _ _ hB).2 with h2 | h2 | h2
         · cases h2
         · omega
         · exact .inl h2
     · rw [eW b e] at h1; exact h.free b hb h1
   kept := ⟨sq.1.trans h.kept.1, sq.2.1.trans h.kept.2.1, sq.2.2.1.trans h.kept.2.2.1, Nat.le_trans h.kept.2.2.2 sq.2.2.2⟩
   old := fun k hk hm => by
     have Cb := Nat.lt_of_lt_of_le hk h.kept.2.2.2; rw [hw k Cb (fun e => ?_)]
     · exact h.old k hk hm
     · subst e; rcases hB with hB | ⟨s', j', hB, _⟩
       · omega
       · rcases (h.owned _ _ hB).2 with h2 | h2 | h2
         · cases h2
         · omega
         · exact hm h2
   dJ := fun p hp => gj.dJ (h.dJ p hp)
   plain := h.plain }
end Go.TM
namespace Go.TM
open Go Go.RowKit
theorem Rel.Up {w0 : World} {mu : Mu} {c : Cz} {st : St} {a : Act} {w : World} (_h : Rel w0 mu c st a w) (s j : Nat) : Fw c st w c (bo st s j none) w := by
 have hn : ∀ k, ∃ f : Sl → Sl, (∀ x, (f x).v = x.v ∧ (f x).box = x.box ∧ (f x).bg = x.bg ∧ (f x).ag = x.ag ∧
     (∀ i, nth (f x).aK i = if k = s ∧ i = j then (nth x.aK i).map (fun _ => none) else nth x.aK i) ∧ (f x).ep = if k = s then x.ep + 1 else x.ep) ∧ nth (bo st s j none) k = (nth st k).map f := by
   intro k; unfold bo
   by_cases e : k = s
   · subst e; refine ⟨fun s => { s with aK := mq (fun _ => none) s.aK j, ep := s.ep + 1 }, fun x => ⟨rfl, rfl, rfl, rfl, fun i => ?_, by simp⟩, jv _ _ _⟩; simp only [dn, true_and]
   · refine ⟨id, fun x => ⟨rfl, rfl, rfl, rfl, fun i => ?_, by simp [e]⟩, by rw [lU _ _ e]; simp⟩; simp [e]
 generalize bo st s j none = aP at hn ⊢; exact {
   stays := iW.refl w _
   refs := fun a' j' g A' _ dQ => by
     obtain ⟨sl, k1, k2, k3⟩ := ba dQ; obtain ⟨f, hf, hk⟩ := hn a'; rw [hk] at k1
     cases hx : nth st a' with
     | none => rw [hx] at k1; simp at k1
     | some x =>
       rw [hx] at k1; simp at k1; subst k1; rw [(hf x).2.2.2.2.1 j'] at k3; rw [(hf x).2.2.2.1] at k2; refine ⟨A', ?_, rfl, rfl, rfl, fun _ => ⟨rfl, fun _ _ _ _ => rfl⟩⟩
       by_cases e : a' = s ∧ j' = j
       · rw [if_pos e] at k3
         cases hq : nth x.aK j' <;> simp [hq] at k3
       · rw [if_neg e] at k3; unfold aQ; rw [hx]; have : Nat.beq x.ag g = true := by rw [k2]; exact Nat.beq_refl g
         simp [this, k3]
   B8 := fun b g mA _ hb => by
     refine ⟨⟨mA, ?_⟩, rfl⟩; obtain ⟨f, hf, hk⟩ := hn b; unfold di at hb ⊢; rw [hk] at hb
     cases hx : nth st b with
     | none => rw [hx] at hb; simp at hb
     | some x => rw [hx] at hb; simpa [(hf x).2.1, (hf x).2.2.1] using hb
   gA := fun b => by
     obtain ⟨f, hf, hk⟩ := hn b; unfold cQ; rw [hk]
     cases hx : nth st b with
     | none => simp
     | some x => simp [(hf x).2.2.2.1]
   gB := fun b => by
     obtain ⟨f, hf, hk⟩ := hn b; unfold fM; rw [hk]
     cases hx : nth st b with
     | none => simp
     | some x => simp [(hf x).2.2.1]
   gE := fun b => by
     obtain ⟨f, hf, hk⟩ := hn b; unfold lT; rw [hk]
     cases hx : nth st b with
     | none => simp
     | some x =>
       simp only [Option.map_some]; rw [(hf x).2.2.2.2.2]
       split <;> omega }
theorem Rel.kill {w0 : World} {mu : Mu} {c : Cz} {st : St} {a : Act} {w : World} (h : Rel w0 mu c st a w) (s j : Nat) :
   Rel w0 mu c (bo st s j none) a w ∧ ∀ sl A, nth (bo st s j none) s = some sl → nth sl.aK j ≠ some (some A) := by
 have hn : ∀ k, ∃ f : Sl → Sl, (∀ x, (f x).v = x.v ∧ (f x).box = x.box ∧ (f x).bg = x.bg ∧ (f x).ag = x.ag ∧
     (∀ i, nth (f x).aK i = if k = s ∧ i = j then (nth x.aK i).map (fun _ => none) else nth x.aK i) ∧ (f x).ep = if k = s then x.ep + 1 else x.ep) ∧ nth (bo st s j none) k = (nth st k).map f := by
   intro k; unfold bo
   by_cases e : k = s
   · subst e; refine ⟨fun s => { s with aK := mq (fun _ => none) s.aK j, ep := s.ep + 1 }, fun x => ⟨rfl, rfl, rfl, rfl, fun i => ?_, by simp⟩, jv _ _ _⟩; simp only [dn, true_and]
   · refine ⟨id, fun x => ⟨rfl, rfl, rfl, rfl, fun i => ?_, by simp [e]⟩, by rw [lU _ _ e]; simp⟩; simp [e]
 generalize bo st s j none = aP at hn ⊢; have gj : Fw c st w c aP w := {
   stays := iW.refl w _
   refs := fun a' j' g A' _ dQ => by
     obtain ⟨sl, k1, k2, k3⟩ := ba dQ; obtain ⟨f, hf, hk⟩ := hn a'; rw [hk] at k1
     cases hx : nth st a' with
     | none => rw [hx] at k1; simp at k1
     | some x =>
       rw [hx] at k1; simp at k1; subst k1; rw [(hf x).2.2.2.2.1 j'] at k3; rw [(hf x).2.2.2.1] at k2; refine ⟨A', ?_, rfl, rfl, rfl, fun _ => ⟨rfl, fun _ _ _ _ => rfl⟩⟩
       by_cases e : a' = s ∧ j' = j
       · rw [if_pos e] at k3
         cases hq : nth x.aK j' <;> simp [hq] at k3
       · rw [if_neg e] at k3; unfold aQ; rw [hx]; have : Nat.beq x.ag g = true := by rw [k2]; exact Nat.beq_refl g
         simp [this, k3]
   B8 := fun b g mA _ hb => by
     refine ⟨⟨mA, ?_⟩, rfl⟩; obtain ⟨f, hf, hk⟩ := hn b; unfold di at hb ⊢; rw [hk] at hb
     cases hx : nth st b with
     | none => rw [hx] at hb; simp at hb
     | some x => rw [hx] at hb; simpa [(hf x).2.1, (hf x).2.2.1] using hb
   gA := fun b => by
     obtain ⟨f, hf, hk⟩ := hn b; unfold cQ; rw [hk]
     cases hx : nth st b with
     | none => simp
     | some x => simp [(hf x).2.2.2.1]
   gB := fun b => by
     obtain ⟨f, hf, hk⟩ := hn b; unfold fM; rw [hk]
     cases hx : nth st b with
     | none => simp
     | some x => simp [(hf x).2.2.1]
   gE := fun b => by
     obtain ⟨f, hf, hk⟩ := hn b; unfold lT; rw [hk]
     cases hx : nth st b with
     | none => simp
     | some x =>
       simp only [Option.map_some]; rw [(hf x).2.2.2.2.2]
       split <;> omega }
 refine ⟨{
   eI := fun t => by
     obtain ⟨f, hf, hk⟩ := hn t; have : bK aP t = bK st t := by
       unfold bK; rw [hk]
       cases hx : nth st t with
       | none => rfl
       | some x => exact (hf x).1
     rw [this]; exact gj.mr (h.eI t)
   boxes := fun b sl cs hs hb => by
     obtain ⟨f, hf, hk⟩ := hn b; rw [hk] at hs
     cases hx : nth st b with
     | none => rw [hx] at hs; simp at hs
     | some x =>
       rw [hx] at hs; simp at hs; subst hs; rw [(hf x).2.1] at hb; exact (h.boxes b x cs hx hb).go gj rfl rfl rfl
   aK := fun b i sl A hs hA => by
     obtain ⟨f, hf, hk⟩ := hn b; rw [hk] at hs
     cases hx : nth st b with
     | none => rw [hx] at hs; simp at hs
     | some x =>
       rw [hx] at hs; simp at hs; subst hs; rw [(hf x).2.2.2.2.1 i] at hA
       by_cases e : b = s ∧ i = j
       · rw [if_pos e] at hA
         cases hq : nth x.aK i <;> simp [hq] at hA
       · rw [if_neg e] at hA; exact h.aK b i x A hx hA
   owned := h.owned
   free := h.free
   kept := h.kept
   old := h.old
   dJ := fun p hp => gj.dJ (h.dJ p hp)
   plain := h.plain }, fun sl A hs => ?_⟩
 obtain ⟨f, hf, hk⟩ := hn s; rw [hk] at hs
 cases hx : nth st s with
 | none => rw [hx] at hs; simp at hs
 | some x =>
   rw [hx] at hs; simp at hs; subst hs; rw [(hf x).2.2.2.2.1 j, if_pos ⟨rfl, rfl⟩]
   cases nth x.aK j <;> simp
def Cz.bp (c : Cz) (d : Nat) (L : Loc) (B : Option Nat) : Cz :=
 { bx := c.bx, lc := fun s j => if s = d ∧ j = 0 then L else c.lc s j, own := fun k => if B = some k then some (.sp d 0) else c.own k }
theorem mf {st : St} {d : Option Nat} {A : gP} {aP : St} (h : (bp st d A).val = some aP) :
   ∃ k s0, d = some k ∧ nth st k = some s0 ∧ aP = mq (fun s => { s with v := .one (.ref k 0 (s0.ag + 1) .full), aK := [some A], ag := s0.ag + 1 }) st k := by
 unfold bp at h
 cases d with
 | none => simp [N.val] at h
 | some k =>
   cases hs : nth st k with
   | none => simp [hs, N.val] at h
   | some s0 =>
     simp only [hs, N.val, Option.some.injEq] at h; exact ⟨k, s0, rfl, hs, h.symm⟩
theorem Br {st : St} {d : Option Nat} {cs : List CV} {aP : St} (h : (iH st d cs).val = some aP) :
   ∃ k s0, d = some k ∧ nth st k = some s0 ∧ aP = mq (fun s => { s with v := .one (.ptr k (s0.bg + 1) 0), box := some cs, bg := s0.bg + 1 }) st k := by
 unfold iH at h
 cases d with
 | none => simp [N.val] at h
 | some k =>
   cases hs : nth st k with
   | none => simp [hs, N.val] at h
   | some s0 =>
     simp only [hs, N.val, Option.some.injEq] at h; exact ⟨k, s0, rfl, hs, h.symm⟩
theorem Rel.fresh {w0 : World} {mu : Mu} {c : Cz} {st : St} {a : Act} {w : World} (h : Rel w0 mu c st a w) {d : Nat} {s0 : Sl} {r : RT} {xs : List (ar r)} {cur : Array Value} {ty cap : Nat}
   (iE : nth st d = some s0) (hd : d < a.tmps.size) (hle : xs.length ≤ cap) (kO : cap * r.width ≤ cur.size) {vs : List Value} (ze : aW w c.ok r vs xs) (Uq : cur.toList.take vs.length = vs) :
   ∃ c', Rel w0 mu c' (mq (fun s => { s with v := .one (.ref d 0 (s0.ag + 1) .full), aK := [some { r := r, own := true, xs := xs }], ag := s0.ag + 1 }) st d)
     (a.put (some d) (.slice (some ⟨w.heap.size, 0, none⟩) xs.length cap)) (w.alloc (.cells cur ty (0, 0))) := by
 have sJ := heap_alloc_new w (.cells cur ty (0, 0)); refine ⟨c.bp d (.at w.heap.size 0 cap) (some w.heap.size), h.place (B := w.heap.size) (A := { r := r, own := true, xs := xs }) iE hd rfl ?_ ?_ (.inl ?_) (.inl (Nat.le_refl _)) (fun _ => by simp) (fun k hk _ => heap_alloc_old w _ k hk)
   ⟨rfl, rfl, rfl, by simp⟩ ?_ rfl ?_⟩
 · intro s j fe; simp [Cz.bp, fe]
 · intro k hk; simp only [Cz.bp]; rw [if_neg (by intro e; exact hk (Option.some.inj e).symm)]
 · simp [Cz.bp]
 · have qn : iW w (w.alloc (.cells cur ty (0, 0))) c.ok (c.bp d (.at w.heap.size 0 cap) (some w.heap.size)).ok := vB w _ _ _ (fun b hb fH => by
     unfold Cz.ok Cz.bp; simp only; rw [if_neg (by intro e; have := Option.some.inj e; omega)]; exact fH)
   unfold bI; simp only [Cz.bp, and_self, if_true]; refine ⟨trivial, hle, ⟨cur, ty, sJ, by simpa using kO⟩, ?_⟩; refine (bm.sh rfl).2 ?_; refine rQ 0 vs xs (aW.stays qn vs xs ze) (fun j v hv => ?_); rw [cell_of_row _ _ _ cur ty (0, 0) sJ, Nat.zero_add]; have hj : j < vs.length := (List.getElem?_eq_some_iff.1 hv).1; rw [← Uq, List.getElem?_take, if_pos hj] at hv; simpa using hv
 · simp only [Cz.bp, and_self, if_true]; exact ⟨_, cap, rfl, hle, by omega, fun _ => by simp⟩
theorem Ey {P : Program} {t ty e : TypeId} {i : TypeInfo} (ht : P.underlying t = some (.slice e)) (hi : P.info? e = some i) (w : World)
   (g o zf Gw : Nat) (cur : Array Value) (te : TypeId) (hg : w.heap[g]? = some (.cells cur te (0, 0)))
   (a : Addr) (m c : Nat) (news : List Value) (hl : news.length = m * i.size) (CK : ∀ j u, news[j]? = some u → w.cell? (a.add j) = some u) (h1 : ∀ u ∈ news, u.oneCell' = true)
   (sK : zf + m ≤ Gw) (qG : o + zf * i.size + news.length ≤ cur.size) :
   (Builtin.append_ #[t, t] ty #[.slice (some ⟨g, o, none⟩) zf Gw, .slice (some a) m c]).run P w =
     .ok (.slice (some ⟨g, o, none⟩) (zf + m) Gw) (w.setRow g (bC cur.toList (o + zf * i.size) news).toArray) := by
 have hf := run_firstCells_some (P := P) w i.size m a m c news hl CK; have qn := run_storeCells_at P g (o + zf * i.size) te news 0 cur w hg (by simpa using qG) h1; simp only [Nat.add_zero] at qn; simp [Builtin.append_, run_underlying ht, sizeOf, typeInfo, hi, Builtin.lenOf, sK, hf, Addr.add_mid, qn, bC]
theorem run_append_nothing {P : Program} {t ty e : TypeId} {i : TypeInfo} (ht : P.underlying t = some (.slice e)) (hi : P.info? e = some i) (w : World) (base : Option Addr) (zf Gw : Nat) (hle : zf ≤ Gw)
   (x : Value) (hx : (x = .slice none 0 0) ∨ ∃ a c, x = .slice (some a) 0 c) :
   (Builtin.append_ #[t, t] ty #[.slice base zf Gw, x]).run P w = .ok (.slice base zf Gw) w := by
 rcases hx with rfl | ⟨a, c, rfl⟩
 · cases base <;> simp [Builtin.append_, run_underlying ht, sizeOf, typeInfo, hi, Builtin.lenOf, Builtin.firstCells, hle, storeCells]
 · cases base <;> simp [Builtin.append_, run_underlying ht, sizeOf, typeInfo, hi, Builtin.lenOf, Builtin.firstCells, hle, storeCells, loadCells, loadCellsFrom]
end Go.TM
namespace Go.TM
open Go Go.RowKit
def dg (w : World) (P : List Nat → Nat → Prop) : (r : RT) → (p : List Nat) → (k : Nat) → List Value → ar r → Prop
 | .nil, _, _, vs, _ => vs = []
 | .cons t r, p, k, vs, x => ∃ v l, vs = v :: l ∧ de w P t (p ++ [k]) v x.1 ∧ dg w P r p (k + 1) l x.2
theorem dg.length {w : World} {P : List Nat → Nat → Prop} : (r : RT) → (p : List Nat) → (k : Nat) → (vs : List Value) → (x : ar r) → dg w P r p k vs x → vs.length = r.width
 | .nil, _, _, vs, _, h => by simp only [dg] at h; subst h; rfl
 | .cons t r, p, k, vs, x, h => by
   obtain ⟨v, l, rfl, _, h⟩ := h; simp [RT.width, dg.length r p (k + 1) l x.2 h]
theorem jE {w : World} {P : List Nat → Nat → Prop} : (r : RT) → (p : List Nat) → (k b off : Nat) → (x : ar r) → (fN w P r p k b off x ↔ ∃ vs, w.rangeAt b off vs ∧ dg w P r p k vs x)
 | .nil, _, _, _, _, _ => by
   unfold fN; exact ⟨fun _ => ⟨[], fun j v h => by simp at h, rfl⟩, fun _ => trivial⟩
 | .cons t r, p, k, b, off, x => by
   unfold fN
   constructor
   · rintro ⟨⟨v, hv, hx⟩, hr⟩
     obtain ⟨vs, h1, h2⟩ := (jE r p (k + 1) b (off + 1) x.2).1 hr; refine ⟨v :: vs, fun j u hu => ?_, v, vs, rfl, hx, h2⟩
     cases j with
     | zero => simp at hu; rw [← hu]; exact hv
     | succ j =>
       simp at hu; rw [show off + (j + 1) = off + 1 + j by omega]; exact h1 j u hu
   · rintro ⟨vs, h1, v, l, rfl, hx, h2⟩
     refine ⟨⟨v, h1 0 v rfl, hx⟩, (jE r p (k + 1) b (off + 1) x.2).2 ⟨l, fun j u hu => ?_, h2⟩⟩; have := h1 (j + 1) u (by simpa using hu); rw [show off + 1 + j = off + (j + 1) by omega]; exact this
theorem dg.go {w w' : World} {P P' : List Nat → Nat → Prop} : (r : RT) → (p p' : List Nat) → (hP : ∀ q b, P (p ++ q) b → w'.heap[b]? = w.heap[b]? ∧ P' (p' ++ q) b) → (k : Nat) → (vs : List Value) → (x : ar r) → dg w P r p k vs x → dg w' P' r p' k vs x
 | .nil, _, _, _, _, _, _, h => h
 | .cons t r, p, p', hP, k, vs, x, h => by
   obtain ⟨v, l, e, h1, h2⟩ := h; refine ⟨v, l, e, de.go t (p ++ [k]) (p' ++ [k]) (fun q b hb => ?_) v x.1 h1, dg.go r p p' hP (k + 1) l x.2 h2⟩; have := hP ([k] ++ q) b (by rw [← List.append_assoc]; exact hb); rw [← List.append_assoc] at this; exact this
theorem CL {w : World} {P : List Nat → Nat → Prop} {c : Cz} {st : St} {w1 : World} : (r : RT) → (p : List Nat) → (k0 : Nat) → (x : ar r) → (k : Nat) → (y : CV) → (z : ar r) → (vs : List Value) → (u : Value) →
   fx r x k y = some z → jw c st w1 y u → dg w P r p k0 vs x → dg w P r p k0 (vs.set k u) z
 | .nil, _, _, _, _, _, _, _, _, h, _, _ => by simp [fx] at h
 | .cons t r, p, k0, x, 0, y, z, vs, u, h, hu, hv => by
   obtain ⟨v, l, rfl, hx, hr⟩ := hv
   cases t with
   | int k => cases y <;> simp [fx] at h
              obtain ⟨rfl, h⟩ := h; obtain rfl := Option.some.inj h; exact ⟨u, l, rfl, xE.2 hu, hr⟩
   | bool => cases y <;> simp [fx] at h
             obtain rfl := Option.some.inj h; exact ⟨u, l, rfl, tv.2 hu, hr⟩
   | str => cases y <;> simp [fx] at h
            obtain rfl := Option.some.inj h; exact ⟨u, l, rfl, xF.2 hu, hr⟩
   | sl q => cases y <;> simp [fx] at h
 | .cons t r, p, k0, x, k + 1, y, z, vs, u, h, hu, hv => by
   obtain ⟨v, l, rfl, hx, hr⟩ := hv; have h' : (fx r x.2 k y).map (fun z => ((x.1, z) : ar (.cons t r))) = some z := by cases t <;> (simp only [fx] at h; exact h)
   cases hq : fx r x.2 k y with
   | none => simp [hq] at h'
   | some z' =>
     rw [hq] at h'; obtain rfl := Option.some.inj h'; exact ⟨v, l.set k u, rfl, hx, CL r p (k0 + 1) x.2 k y z' l u hq hu hr⟩
theorem CM {w : World} {P : List Nat → Nat → Prop} {c : Cz} {st : St} {w1 : World} (r : RT) (p : List Nat) (k0 : Nat) (x : ar r) : (off : Nat) → (cs : List CV) → (z : ar r) → (vs us : List Value) → off + us.length ≤ vs.length →
   km r x off cs = some z → eH c st w1 cs us → dg w P r p k0 vs x → dg w P r p k0 (bC vs off us) z
 | off, [], z, vs, us, _, h, hl, hv => by
   have : us = [] := by have := hl.1; simp at this; exact List.length_eq_zero_iff.1 this.symm
   subst this; simp [km] at h; subst h; simp [bC]; exact hv
 | off, y :: l, z, vs, us, hle, h, hl, hv => by
   cases us with
   | nil => have := hl.1; simp at this
   | cons u us =>
     simp only [km] at h
     cases hq : km r x (off + 1) l with
     | none => simp [hq] at h
     | some y' =>
       simp only [hq] at h; simp at hle; have ih := CM r p k0 x (off + 1) l y' vs us (by omega) hq ⟨by have := hl.1; simpa using this, fun i a b ha hb => hl.2 (i + 1) a b (by simpa using ha) (by simpa using hb)⟩ hv; rw [Bo (by omega)]; exact CL r p k0 y' off y z _ u h (hl.2 0 y u rfl rfl) ih
mutual
theorem bH.dep {w : World} {P : List Nat → Nat → Prop} {ok : Nat → Prop} : (t : Ty) → (p : List Nat) → (v : Value) → (x : den t) → RT.dN (.cons t .nil) = false → bH w ok t v x → de w P t p v x
 | .int _, _, _, _, _, h => xE.2 (qD.1 h)
 | .bool, _, _, _, _, h => tv.2 (rN.1 h)
 | .str, _, _, _, _, h => xF.2 (vv.1 h)
 | .sl _, _, _, _, hs, _ => by simp [RT.dN] at hs
theorem cn.dep {w : World} {P : List Nat → Nat → Prop} {ok : Nat → Prop} : (r : RT) → (p : List Nat) → (k b off : Nat) → (x : ar r) → r.dN = false → cn w ok r b off x → fN w P r p k b off x
 | .nil, _, _, _, _, _, _, _ => by unfold fN; trivial
 | .cons t r, p, k, b, off, x, hs, h => by
   unfold cn at h; unfold fN; obtain ⟨⟨v, h1, h2⟩, h3⟩ := h; refine ⟨⟨v, h1, bH.dep t _ v x.1 ?_ h2⟩, cn.dep r p (k + 1) b (off + 1) x.2 ?_ h3⟩
   · cases t <;> simp_all [RT.dN]
   · cases t <;> simp_all [RT.dN]
end
theorem fN.HA {w : World} {P : List Nat → Nat → Prop} {ok : Nat → Prop} : (r : RT) → (p : List Nat) → (k b off : Nat) → (x : ar r) → r.dN = false → fN w P r p k b off x → cn w ok r b off x
 | .nil, _, _, _, _, _, _, _ => by unfold cn; trivial
 | .cons t r, p, k, b, off, x, hs, h => by
   unfold fN at h; unfold cn; obtain ⟨⟨v, h1, h2⟩, h3⟩ := h; refine ⟨⟨v, h1, ?_⟩, fN.HA r p (k + 1) b (off + 1) x.2 (by cases t <;> simp_all [RT.dN]) h3⟩
   cases t with
   | int _ => exact qD.2 (xE.1 h2)
   | bool => exact rN.2 (tv.1 h2)
   | str => exact vv.2 (xF.1 h2)
   | sl _ => simp [RT.dN] at hs
theorem bm.OC {c : Cz} {w : World} {l : Lb} {A : gP} {b off : Nat} (hm : A.md = .sh) {ys : List (ar A.r)} (h : ∀ (i : Nat) x, ys[i]? = some x → cn w c.ok A.r b (off + i * A.r.width) x) : bm c w l { A with xs := ys } b off := by
 unfold bm; show match A.md with | .sh => _ | .dp => _ | .ho _ => _
 rw [hm]; exact h
def RT.md (q : RT) : Md := bif q.dN then .dp else .sh
theorem Rw {c : Cz} {w : World} {s j : Nat} {A : gP} (h : bI c w s j A) (ho : A.own = true) (hm : A.md = A.r.md) {v : Value} (h1 : v.oneCell' = true) (hv : je (c.lc s j) A.r.width 0 A.xs.length v) :
   ∃ g : Nat → List Nat, ∀ (P : List Nat → Nat → Prop) (p : List Nat), (∀ k, c.own k = some (.sp s j) → P (p ++ g k) k) → de w P (.sl A.r) p v A.xs := by
 unfold bI at h
 cases hl : c.lc s j with
 | nil =>
   rw [hl] at h hv; exact ⟨fun _ => [], fun P p _ => (vz _ _ _ _ _ _).2 ⟨.nil, hv, h1, .inl ⟨rfl, h⟩⟩⟩
 | «at» b off cap =>
   rw [hl] at h hv; obtain ⟨h0, h2, h3, h4⟩ := h; rw [ho] at h0; unfold bm at h4; rw [hm] at h4; unfold RT.md at h4
   cases hs : A.r.dN with
   | false =>
     rw [hs] at h4; refine ⟨fun _ => [], fun P p hP => (vz _ _ _ _ _ _).2 ⟨_, hv, h1, .inr ⟨b, off, cap, rfl, ?_, h2, h3, fun i x hx => cn.dep _ _ _ _ _ x hs (h4 i x hx)⟩⟩⟩; simpa using hP b h0
   | true =>
     rw [hs] at h4; obtain ⟨g, g1, g2⟩ := h4; refine ⟨g, fun P p hP => (vz _ _ _ _ _ _).2 ⟨_, hv, h1, .inr ⟨b, off, cap, rfl, ?_, h2, h3, fun i x hx => fN.go _ [i] (p ++ [i]) (fun q k hk => ⟨rfl, ?_⟩) _ _ _ x rfl (g2 i x hx)⟩⟩⟩
     · have := hP b h0
       rwa [g1, List.append_nil] at this
     · have := hP k hk.1; rw [hk.2] at this
       rwa [List.append_assoc]
theorem OD {c : Cz} {w : World} {s j : Nat} {A : gP} (h : bI c w s j A) (ho : A.own = true) (hm : A.md = A.r.md) :
   ∃ g : Nat → List Nat, ∀ v : Value, v.oneCell' = true → je (c.lc s j) A.r.width 0 A.xs.length v → ∀ (P : List Nat → Nat → Prop) (p : List Nat), (∀ k, c.own k = some (.sp s j) → P (p ++ g k) k) → de w P (.sl A.r) p v A.xs := by
 by_cases e : ∃ v : Value, v.oneCell' = true ∧ je (c.lc s j) A.r.width 0 A.xs.length v
 · unfold bI at h
   cases hl : c.lc s j with
   | nil =>
     rw [hl] at h; exact ⟨fun _ => [], fun v h1 hv P p _ => (vz _ _ _ _ _ _).2 ⟨.nil, hv, h1, .inl ⟨rfl, h⟩⟩⟩
   | «at» b off cap =>
     rw [hl] at h; obtain ⟨h0, h2, h3, h4⟩ := h; rw [ho] at h0; unfold bm at h4; rw [hm] at h4; unfold RT.md at h4
     cases hs : A.r.dN with
     | false =>
       rw [hs] at h4; refine ⟨fun _ => [], fun v h1 hv P p hP => (vz _ _ _ _ _ _).2 ⟨_, hv, h1, .inr ⟨b, off, cap, rfl, ?_, h2, h3, fun i x hx => cn.dep _ _ _ _ _ x hs (h4 i x hx)⟩⟩⟩; simpa using hP b h0
     | true =>
       rw [hs] at h4; obtain ⟨g, g1, g2⟩ := h4; refine ⟨g, fun v h1 hv P p hP => (vz _ _ _ _ _ _).2 ⟨_, hv, h1, .inr ⟨b, off, cap, rfl, ?_, h2, h3, fun i x hx => fN.go _ [i] (p ++ [i]) (fun q k hk => ⟨rfl, ?_⟩) _ _ _ x rfl (g2 i x hx)⟩⟩⟩
       · have := hP b h0
         rwa [g1, List.append_nil] at this
       · have := hP k hk.1; rw [hk.2] at this
         rwa [List.append_assoc]
 · exact ⟨fun _ => [], fun v h1 h2 => absurd ⟨v, h1, h2⟩ e⟩
theorem zg {w0 : World} {mu : Mu} {c : Cz} {st : St} {a : Act} {w : World} (h : Rel w0 mu c st a w) : (r : RT) → (cs : List CV) → (us : List Value) → eH c st w cs us → {x : ar r} → {m : List (Option (Nat × Nat))} → gC st r cs = some (x, m) →
   m.length = r.width ∧ (∀ (col : Nat) (n : Nat × Nat), m[col]? = some (some n) → ∃ g A, aQ st n.1 n.2 g = some A ∧ A.own = true) ∧
   ∃ G : Nat → Nat → List Nat, ∀ (P : List Nat → Nat → Prop) (p : List Nat) (k0 : Nat), (∀ (col : Nat) (n : Nat × Nat) (k : Nat), m[col]? = some (some n) → c.own k = some (.sp n.1 n.2) → P (p ++ [k0 + col] ++ G col k) k) → dg w P r p k0 us x
 | .nil, cs, us, hl, x, m, hv => by
   cases cs with
   | cons _ _ => simp [gC] at hv
   | nil =>
     have : us = [] := by have := hl.1; simp at this; exact List.length_eq_zero_iff.1 this.symm
     subst this; simp only [gC, Option.some.injEq, Prod.mk.injEq] at hv; obtain ⟨_, rfl⟩ := hv; exact ⟨rfl, fun col n h => by simp at h, fun _ _ => [], fun _ _ _ _ => rfl⟩
 | .cons t r, cs, us, hl, x, m, hv => by
   cases cs with
   | nil => cases t <;> simp [gC] at hv
   | cons y cs =>
     cases us with
     | nil => have := hl.1; simp at this
     | cons u us =>
       have hu : jw c st w y u := hl.2 0 y u rfl rfl; have xr : eH c st w cs us := ⟨by have := hl.1; simpa using this, fun i a b ha hb => hl.2 (i + 1) a b (by simpa using ha) (by simpa using hb)⟩; have cell : ∀ (d : den t) (o : Option (Nat × Nat)) (z : ar r) (m' : List (Option (Nat × Nat))), gC st r cs = some (z, m') → (∀ n, o = some n → ∃ g A, aQ st n.1 n.2 g = some A ∧ A.own = true) →
           (∃ g : Nat → List Nat, ∀ (P : List Nat → Nat → Prop) (p : List Nat), (∀ n k, o = some n → c.own k = some (.sp n.1 n.2) → P (p ++ g k) k) → de w P t p u d) → x = (d, z) → m = o :: m' →
           m.length = (RT.cons t r).width ∧ (∀ (col : Nat) (n : Nat × Nat), m[col]? = some (some n) → ∃ g A, aQ st n.1 n.2 g = some A ∧ A.own = true) ∧
           ∃ G : Nat → Nat → List Nat, ∀ (P : List Nat → Nat → Prop) (p : List Nat) (k0 : Nat), (∀ (col : Nat) (n : Nat × Nat) (k : Nat), m[col]? = some (some n) → c.own k = some (.sp n.1 n.2) → P (p ++ [k0 + col] ++ G col k) k) → dg w P (.cons t r) p k0 (u :: us) x := by
         intro d o z m' hz ho hd e1 e2; subst e1 e2; obtain ⟨g1, g2, G, g3⟩ := zg h r cs us xr hz; obtain ⟨g, hd⟩ := hd; refine ⟨by simp [RT.width, g1], fun col n hc => ?_, fun col => match col with | 0 => g | col + 1 => G col, fun P p k0 hP => ⟨u, us, rfl, hd P _ fun n k hn hk => ?_, g3 P p (k0 + 1) fun col n k hc hk => ?_⟩⟩
         · cases col with
           | zero => exact ho n (by simpa using hc)
           | succ col => exact g2 col n (by simpa using hc)
         · have := hP 0 n k (by simp [hn]) hk; simpa using this
         · have := hP (col + 1) n k (by simpa using hc) hk
           rwa [show k0 + (col + 1) = k0 + 1 + col by omega] at this
       have plain : ∀ (d : den t), (∀ (P : List Nat → Nat → Prop) (p : List Nat), de w P t p u d) → (match gC st r cs with | some p => some ((d, p.1), none :: p.2) | none => (none : Option (ar (.cons t r) × List (Option (Nat × Nat))))) = some (x, m) →
           m.length = (RT.cons t r).width ∧ (∀ (col : Nat) (n : Nat × Nat), m[col]? = some (some n) → ∃ g A, aQ st n.1 n.2 g = some A ∧ A.own = true) ∧
           ∃ G : Nat → Nat → List Nat, ∀ (P : List Nat → Nat → Prop) (p : List Nat) (k0 : Nat), (∀ (col : Nat) (n : Nat × Nat) (k : Nat), m[col]? = some (some n) → c.own k = some (.sp n.1 n.2) → P (p ++ [k0 + col] ++ G col k) k) → dg w P (.cons t r) p k0 (u :: us) x := by
         intro d hd hv
         cases hz : gC st r cs with
         | none => rw [hz] at hv; cases hv
         | some q =>
           rw [hz] at hv; have hv := Option.some.inj hv; exact cell d none q.1 q.2 hz (fun n e => by cases e) ⟨fun _ => [], fun P p _ => hd P p⟩ (congrArg Prod.fst hv).symm (congrArg Prod.snd hv).symm
       cases t with
       | int q =>
         cases y with
         | int l n =>
           simp only [gC] at hv
           by_cases e : q = l
           · rw [if_pos e] at hv; exact plain n (fun P p => xE.2 (by rw [e]; exact hu)) hv
           · rw [if_neg e] at hv; cases hv
         | _ => simp [gC] at hv
       | bool =>
         cases y with
         | bool b => exact plain b (fun P p => tv.2 hu) (by simp only [gC] at hv; exact hv)
         | _ => simp [gC] at hv
       | str =>
         cases y with
         | str s => exact plain s (fun P p => xF.2 hu) (by simp only [gC] at hv; exact hv)
         | _ => simp [gC] at hv
       | sl q =>
         cases y with
         | dD => exact plain ([] : List (ar q)) (fun P p => (vz _ _ _ _ _ _).2 ⟨.nil, ⟨hu, rfl⟩, by rw [show u = .slice none 0 0 from hu]; rfl, .inl ⟨rfl, rfl⟩⟩) (by simp only [gC] at hv; exact hv)
         | ref a' j g vw =>
           cases vw with
           | full =>
             simp only [gC] at hv
             cases hA : aQ st a' j g with
             | none => simp [hA] at hv
             | some A =>
               simp only [hA] at hv; obtain ⟨hc, nv⟩ := aH hv; clear hv; rw [Bool.and_eq_true] at hc; have hm := Md.lS.1 hc.2
               cases oT : bw q A.xs with
               | none => rw [oT] at nv; cases nv
               | some ys =>
                 rw [oT] at nv; simp only at nv
                 cases hz : gC st r cs with
                 | none => rw [hz] at nv; cases nv
                 | some qq =>
                   rw [hz] at nv; have nv := Option.some.inj nv; obtain ⟨e, he⟩ := a7 oT; subst e; simp only at he; subst he; refine cell A.xs (some (a', j)) qq.1 qq.2 hz (fun n e => by cases e; exact ⟨g, A, hA, hc.1⟩) ?_ (congrArg Prod.fst nv).symm (congrArg Prod.snd nv).symm; obtain ⟨gg, h2⟩ := Rw (h.sH hA) hc.1 hm hu.1 (hu.2.2 A hA); exact ⟨gg, fun P p hP => h2 P p fun k hk => hP (a', j) k rfl hk⟩
           | «from» _ => simp [gC] at hv
           | sub _ _ => simp [gC] at hv
         | _ => simp [gC] at hv
theorem kP {w0 : World} {mu : Mu} {c : Cz} {a : Act} {w : World} : (m : List (Nat × Nat)) → {st : St} → Rel w0 mu c st a w → Rel w0 mu c (gT st m) a w ∧ (∀ n ∈ m, ∀ sl A, nth (gT st m) n.1 = some sl → nth sl.aK n.2 ≠ some (some A)) ∧
   (∀ s j sl A, (s, j) ∉ m → nth st s = some sl → nth sl.aK j = some (some A) → ∃ Tc, nth (gT st m) s = some Tc ∧ nth Tc.aK j = some (some A)) ∧ Fw c st w c (gT st m) w ∧ ∀ s j A, (∀ sl, nth st s = some sl → nth sl.aK j ≠ some (some A)) → ∀ sl, nth (gT st m) s = some sl → nth sl.aK j ≠ some (some A)
 | [], st, h => ⟨h, by simp, fun s j sl A _ h1 h2 => ⟨sl, h1, h2⟩, Fw.refl c st w, fun s j A h => h⟩
 | (s0, j0) :: m, st, h => by
   obtain ⟨k1, k2⟩ := h.kill s0 j0; obtain ⟨h1, h2, h3, h4, h5⟩ := kP m k1; have hn : ∀ k, ∃ f : Sl → Sl, (∀ x, ∀ i, nth (f x).aK i = if k = s0 ∧ i = j0 then (nth x.aK i).map (fun _ => none) else nth x.aK i) ∧ nth (bo st s0 j0 none) k = (nth st k).map f := by
     intro k; unfold bo
     by_cases e : k = s0
     · subst e; refine ⟨fun s => { s with aK := mq (fun _ => none) s.aK j0, ep := s.ep + 1 }, fun x i => ?_, jv _ _ _⟩; simp only [dn, true_and]
     · refine ⟨id, fun x i => ?_, by rw [lU _ _ e]; simp⟩; simp [e]
   have keep : ∀ s j A, (∀ sl, nth st s = some sl → nth sl.aK j ≠ some (some A)) → ∀ sl, nth (bo st s0 j0 none) s = some sl → nth sl.aK j ≠ some (some A) := by
     intro s j A hq sl hs; obtain ⟨f, hf, hk⟩ := hn s; rw [hk] at hs
     cases hx : nth st s with
     | none => rw [hx] at hs; cases hs
     | some x =>
       rw [hx] at hs; simp at hs; subst hs; rw [hf]
       split
       · cases nth x.aK j <;> simp
       · exact hq x hx
   refine ⟨h1, fun n hm sl A hs => ?_, fun s j sl A hm hs hA => ?_, ?_, fun s j A hq => h5 s j A (keep s j A hq)⟩
   · rcases List.mem_cons.1 hm with rfl | hm
     · exact h5 s0 j0 A (fun sl hs => k2 sl A hs) sl hs
     · exact h2 n hm sl A hs
   · obtain ⟨f, hf, hk⟩ := hn s; refine h3 s j (f sl) A (fun Bs => hm (List.mem_cons_of_mem _ Bs)) (by rw [hk, hs]; rfl) ?_; rw [hf, if_neg]
     · exact hA
     · rintro ⟨rfl, rfl⟩; exact hm List.mem_cons_self
   · refine Fw.trans ?_ h4; exact (h.Up s0 j0)
open Classical in
noncomputable def Cz.iY (c : Cz) (m : List (Nat × Nat)) (l : Lb) : Cz :=
 { bx := c.bx, lc := c.lc, own := fun k => if ∃ n ∈ m, c.own k = some (.sp n.1 n.2) then some l else c.own k }
theorem Cz.mG {c : Cz} {m : List (Nat × Nat)} {l : Lb} {k : Nat} {n : Nat × Nat} (hm : n ∈ m) (h : c.own k = some (.sp n.1 n.2)) : (c.iY m l).own k = some l := by
 unfold Cz.iY; simp only; rw [if_pos ⟨n, hm, h⟩]
theorem Cz.nI {c : Cz} {m : List (Nat × Nat)} {l : Lb} {k : Nat} (h : ∀ n ∈ m, c.own k ≠ some (.sp n.1 n.2)) : (c.iY m l).own k = c.own k := by
 unfold Cz.iY; simp only; rw [if_neg]; rintro ⟨n, hm, e⟩; exact h n hm e
theorem Cz.HB {c : Cz} {m : List (Nat × Nat)} {l : Lb} {k : Nat} : (c.iY m l).ok k ↔ c.ok k := by
 unfold Cz.ok
 by_cases h : ∃ n ∈ m, c.own k = some (.sp n.1 n.2)
 · obtain ⟨n, hm, e⟩ := h; rw [Cz.mG hm e, e]; simp
 · rw [Cz.nI (fun n hm e => h ⟨n, hm, e⟩)]
theorem Fw.iY (c : Cz) (st : St) (w : World) (m : List (Nat × Nat)) (l : Lb) : Fw c st w (c.iY m l) st w :=
 ⟨⟨Nat.le_refl _, fun _ _ _ => rfl, fun _ _ h => Cz.HB.2 h⟩, fun _ _ _ A' _ h => ⟨A', h, rfl, rfl, rfl, fun _ => ⟨rfl, fun _ _ _ _ => rfl⟩⟩, fun _ _ mA _ h => ⟨⟨mA, h⟩, rfl⟩, fun _ => Nat.le_refl _, fun _ => Nat.le_refl _, fun _ => Nat.le_refl _⟩
theorem Rel.iY {w0 : World} {mu : Mu} {c : Cz} {st : St} {a : Act} {w : World} (h : Rel w0 mu c st a w) {m : List (Nat × Nat)} (hd : ∀ n ∈ m, ∀ sl A, nth st n.1 = some sl → nth sl.aK n.2 ≠ some (some A)) (s j : Nat) : Rel w0 mu (c.iY m (.sp s j)) st a w where
 eI t := (Fw.iY c st w m _).mr (h.eI t)
 boxes b sl cs hs hb := by
   have h0 := h.boxes b sl cs hs hb; exact h0.go (Fw.iY c st w m _) rfl (Cz.nI fun n _ => by rw [h0.1]; simp) rfl
 aK b i sl A hs hA := by
   have h0 := h.aK b i sl A hs hA; refine h0.go (Fw.iY c st w m _).stays rfl (fun k hk => ⟨rfl, Cz.nI fun n hn e => ?_⟩); rw [hk] at e; injection e with e; injection e with e1 e2; subst e1 e2; exact hd n hn sl A hs hA
 owned b l hb := by
   by_cases e : ∃ n ∈ m, c.own b = some (.sp n.1 n.2)
   · obtain ⟨n, hm, e⟩ := e; rw [Cz.mG hm e] at hb
     cases hb
     obtain ⟨h1, h2⟩ := h.owned b _ e; exact ⟨h1, .inr (h2.resolve_left (by simp))⟩
   · rw [Cz.nI (fun n hm e' => e ⟨n, hm, e'⟩)] at hb; exact h.owned b l hb
 free b hb h1 := h.free b hb (Cz.HB.1 h1)
 kept := h.kept
 old := h.old
 plain := h.plain
 dJ p hp := (Fw.iY c st w m _).dJ (h.dJ p hp)
theorem mH : {m : List (Nat × Nat)} → distinct m = true → m.Nodup
 | [], _ => List.nodup_nil
 | x :: l, h => by
   simp only [distinct, Bool.and_eq_true, List.all_eq_true] at h; refine List.nodup_cons.2 ⟨fun hm => ?_, mH h.2⟩; have := h.1 x hm; simp at this
theorem xG {n : Nat × Nat} : {m : List (Option (Nat × Nat))} → n ∈ dE m → ∃ col : Nat, m[col]? = some (some n)
 | [], h => by simp [dE] at h
 | none :: m, h => by
   obtain ⟨col, hc⟩ := xG (m := m) h; exact ⟨col + 1, by simpa using hc⟩
 | some p :: m, h => by
   rcases List.mem_cons.1 h with rfl | h
   · exact ⟨0, rfl⟩
   · obtain ⟨col, hc⟩ := xG (m := m) h; exact ⟨col + 1, by simpa using hc⟩
theorem kt {n : Nat × Nat} : {m : List (Option (Nat × Nat))} → {col : Nat} → m[col]? = some (some n) → n ∈ dE m
 | [], _, h => by simp at h
 | none :: m, 0, h => by simp at h
 | none :: m, col + 1, h => kt (m := m) (col := col) (by simpa using h)
 | some p :: m, 0, h => by simp at h; subst h; exact List.mem_cons_self
 | some p :: m, col + 1, h => List.mem_cons_of_mem _ (kt (m := m) (col := col) (by simpa using h))
theorem tF {n : Nat × Nat} : {m : List (Option (Nat × Nat))} → (dE m).Nodup → {a b : Nat} → m[a]? = some (some n) → m[b]? = some (some n) → a = b
 | [], _, a, _, h, _ => by simp at h
 | none :: m, hn, a, b, h, h' => by
   cases a with
   | zero => simp at h
   | succ a => cases b with
     | zero => simp at h'
     | succ b => exact congrArg (· + 1) (tF (m := m) (a := a) (b := b) hn (by simpa using h) (by simpa using h'))
 | some p :: m, hn, a, b, h, h' => by
   have Ml := List.nodup_cons.1 hn
   cases a with
   | zero =>
     simp at h; subst h
     cases b with
     | zero => rfl
     | succ b => exact absurd (kt (m := m) (col := b) (by simpa using h')) Ml.1
   | succ a =>
     cases b with
     | zero => simp at h'; subst h'; exact absurd (kt (m := m) (col := a) (by simpa using h)) Ml.1
     | succ b => exact congrArg (· + 1) (tF (m := m) (a := a) (b := b) Ml.2 (by simpa using h) (by simpa using h'))
theorem Am {c : Cz} {m : List (Option (Nat × Nat))} (hn : (dE m).Nodup) (G : Nat → Nat → List Nat) (g : Nat → List Nat) (p : List Nat) (l : Lb) (hl : ∀ n ∈ dE m, l ≠ .sp n.1 n.2) :
   ∃ g' : Nat → List Nat, (∀ k, c.own k = some l → g' k = g k) ∧ ∀ (col : Nat) (n : Nat × Nat) (k : Nat), m[col]? = some (some n) → c.own k = some (.sp n.1 n.2) → g' k = p ++ [col] ++ G col k := by
 have key : ∀ k, ∃ q : List Nat, (c.own k = some l → q = g k) ∧ ∀ (col : Nat) (n : Nat × Nat), m[col]? = some (some n) → c.own k = some (.sp n.1 n.2) → q = p ++ [col] ++ G col k := by
   intro k
   by_cases e : ∃ (col : Nat) (n : Nat × Nat), m[col]? = some (some n) ∧ c.own k = some (.sp n.1 n.2)
   · obtain ⟨col, n, e1, e2⟩ := e; refine ⟨p ++ [col] ++ G col k, fun h => ?_, fun aej n' h1 h2 => ?_⟩
     · rw [e2] at h; cases h; exact absurd rfl (hl n (kt e1))
     · rw [e2] at h2; injection h2 with h2; injection h2 with q1 q2; have : n = n' := Prod.ext q1 q2; subst this; rw [tF hn h1 e1]
   · exact ⟨g k, fun _ => rfl, fun col n h1 h2 => absurd ⟨col, n, h1, h2⟩ e⟩
 obtain ⟨g', h⟩ := Classical.axiomOfChoice key; exact ⟨g', fun k => (h k).1, fun col n k => (h k).2 col n⟩
theorem Mm {P : Program} {T : ki} (hT : fI P T) {w0 : World} {mu : Mu} {c : Cz} {st : St} {a : Act} {w : World} (h : Rel w0 mu c st a w)
   {t : Nat} {x v : V} {ux uv : Value} (hx : dU c st w x ux) (hv : dU c st w v uv) {aP : St} (hs : (so T st t x v).val = some aP) :
   ∃ w', (Instr.storeAt t ux uv).run P w = .ok () w' ∧ ∃ c', Rel w0 mu c' aP a w' := by
 cases hn : T.cells t with
 | none => cases x with
   | one y => cases y <;> simp [so, hn, N.val] at hs
   | agg _ => simp [so, N.val] at hs
   | mz _ => simp [so, N.val] at hs
 | some n => cases x with
   | agg _ => simp [so, N.val] at hs
   | mz _ => simp [so, N.val] at hs
   | one y => cases y with
     | bad | int _ _ | bool _ | str _ | dD | Jr | shr _ _ | nn _ _ | ref _ _ _ _ | lf _ _ _ | sn _ _ _ | fn _ _ _ | oU _ _ _ _ _ _ _ _ => simp [so, N.val] at hs
     | ptr b g off =>
       simp only [so, hn] at hs
       cases hb : di st b g with
       | none => simp [hb, N.val] at hs
       | some cs =>
         simp only [hb] at hs; obtain ⟨hc, hs⟩ := dv hs; rw [Bool.and_eq_true] at hc
         cases hp : putCells cs off v.cells with
         | none => simp [hp, N.val] at hs
         | some l =>
           simp only [hp, N.val, Option.some.injEq] at hs; subst hs; obtain ⟨hle, rfl⟩ := xt hp; obtain ⟨sl, CC, Q2, CD⟩ := gU hb; obtain ⟨ho, vs, ty, hh, hl⟩ := h.boxes b sl cs CC CD; obtain ⟨oT, Cc⟩ := hv.cells hc.1; have hu := hx.2.2 cs hb; subst hu; have hlen : uv.cells.toList.length = n := by rw [← oT.1]; exact Nat.eq_of_beq_eq_true hc.2
           have yQ := hl.1; have HC := oT.1; refine ⟨_, me hT hn w (c.bx b) off uv hlen Cc hh (by simp at yQ ⊢; omega), c, ?_⟩; refine h.OB CC CD hh ?_; simpa using hl.bC oT off hle
     | Hs a' j g i off =>
       simp only [so, hn] at hs
       cases hA : aQ st a' j g with
       | none => simp [hA, N.val] at hs
       | some A =>
         simp only [hA] at hs; obtain ⟨hc, hz⟩ := dv hs; clear hs; rw [Bool.and_eq_true, Bool.and_eq_true, Bool.and_eq_true] at hc; obtain ⟨⟨⟨aek, eW⟩, Lh⟩, Q3⟩ := hc; have Q3 : 0 < n := by simp [Nat.blt] at Q3; omega
         obtain ⟨sl, CC, Q2, CD⟩ := ba hA; have Hy := h.aK a' j sl A CC CD; obtain ⟨hi, b, o, cap, gV, hu⟩ := hx.2.2 A hA; have Ur := Hy; unfold bI at Ur; rw [gV] at Ur; obtain ⟨ho, yX, ⟨cur, ty, hg, kO⟩, eV⟩ := Ur; rw [eW] at ho; obtain ⟨oT, Cc⟩ := hv.cells aek; have hlen : uv.cells.toList.length = n := by rw [← oT.1]; exact Nat.eq_of_beq_eq_true Lh
         have Gx : o + i * A.r.width + A.r.width ≤ cur.size := by
           have : (i + 1) * A.r.width ≤ cap * A.r.width := Nat.mul_le_mul_right _ (by omega); rw [Nat.add_mul] at this; omega
         subst hu
         cases hw : Nat.beq n A.r.width && A.r.dN && Nat.beq off 0 with
         | false =>
           rw [hw] at hz; simp only [cond_false] at hz
           cases hm : A.md with
           | ho _ => rw [hm] at hz; simp [N.val, Md.E2] at hz
           | sh =>
             rw [hm] at hz; simp only [Md.E2, cond_false] at hz; have eV := (bm.sh hm).1 eV
             cases xh : A.xs[i]? with
             | none => simp [xh, N.val] at hz
             | some x0 =>
               simp only [xh] at hz; change (match km A.r x0 off v.cells with | some y => N.done (bo st a' j (some (A.put (A.xs.set i y)))) | none => N.fail).val = some aP at hz
               cases hp : km A.r x0 off v.cells with
               | none => simp [hp, N.val] at hz
               | some y =>
                 simp only [hp, N.val, Option.some.injEq] at hz; subst hz; have HC := oT.1; have Us : off + uv.cells.toList.length ≤ A.r.width := by
                   rw [← HC]; exact tE A.r x0 off v.cells hp (by intro e; rw [e] at HC; simp at HC; simp at hlen; omega)
                 refine ⟨_, me hT hn w b (o + i * A.r.width + off) uv hlen Cc hg (by omega), c, ?_⟩; exact h.zb CC CD eW gV hg (by rw [List.size_toArray, ga (by simp at Us ⊢; omega)]; simp) (by simp)
                   (bm.OC hm (zd ho hg eV xh Us Gx (fun vs ze => CG A.r x0 off v.cells y vs _ (by rw [cD.length A.r vs x0 ze]; exact Us) hp oT ze)))
           | dp =>
             rw [hm] at hz; simp only [Md.E2, cond_false] at hz; unfold bm at eV; rw [hm] at eV; obtain ⟨gg, Li, eV⟩ := eV
             cases xh : A.xs[i]? with
             | none => simp [xh, N.val] at hz
             | some x0 =>
               simp only [xh] at hz; change (match km A.r x0 off v.cells with | some y => N.done (bo st a' j (some (A.put (A.xs.set i y)))) | none => N.fail).val = some aP at hz
               cases hp : km A.r x0 off v.cells with
               | none => simp [hp, N.val] at hz
               | some y =>
                 simp only [hp, N.val, Option.some.injEq] at hz; subst hz; have HC := oT.1; have Us : off + uv.cells.toList.length ≤ A.r.width := by
                   rw [← HC]; exact tE A.r x0 off v.cells hp (by intro e; rw [e] at HC; simp at HC; simp at hlen; omega)
                 refine ⟨_, me hT hn w b (o + i * A.r.width + off) uv hlen Cc hg (by omega), c, ?_⟩; refine h.zb CC CD eW gV hg (by rw [List.size_toArray, ga (by simp at Us ⊢; omega)]; simp) (by simp) ?_; unfold bm; show match A.md with | .sh => _ | .dp => _ | .ho _ => _
                 rw [hm]; refine ⟨gg, Li, fun i' x' rF => ?_⟩; obtain ⟨vs, q1, q2⟩ := xu hg (Q := fun i vs x => dg w (fun p k => c.own k = some (.sp a' j) ∧ gg k = p) A.r [i] 0 vs x) (fun i x hx => by
                   obtain ⟨vs, q1, q2⟩ := (jE _ _ _ _ _ _).1 (eV i x hx); exact ⟨vs, q1, dg.length _ _ _ _ _ q2, q2⟩) xh Us Gx (fun vs yQ ze => CM A.r [i] 0 x0 off v.cells y vs _ (by rw [yQ]; exact Us) hp oT ze) i' x' rF
                 refine (jE _ _ _ _ _ _).2 ⟨vs, q1, dg.go _ [i'] [i'] (fun q k hk => ⟨setRow_other w b k _ ?_, hk⟩) 0 vs x' q2⟩
                 rintro rfl
                 rw [Li] at hk; simp at hk
         | true =>
           rw [hw] at hz; simp only [cond_true] at hz; rw [Bool.and_eq_true, Bool.and_eq_true] at hw; have hnW := Nat.eq_of_beq_eq_true hw.1.1; have ael := Nat.eq_of_beq_eq_true hw.2; subst ael; have E7 : uv.cells.toList.length = A.r.width := by rw [hlen, hnW]
           have Zv : ∀ vs : List Value, vs.length = A.r.width → bC vs 0 uv.cells.toList = uv.cells.toList := by
             intro vs yQ; unfold bC; rw [List.drop_eq_nil_of_le (by omega)]; simp
           cases hm : A.md with
           | ho q0 =>
             rw [hm] at hz; simp only at hz
             cases Ut : gC st A.r v.cells with
             | none => rw [Ut] at hz; simp [N.val] at hz
             | some pq =>
               obtain ⟨x1, m⟩ := pq; rw [Ut] at hz; simp only at hz; obtain ⟨Rx, h1⟩ := dv hz; clear hz; rw [Bool.and_eq_true] at Rx; have JG := mH Rx.1; have N8 : (a', j) ∉ dE m := by
                 intro zh; have := List.all_eq_true.1 Rx.2 _ zh; simp at this
               obtain ⟨hiq, Uu⟩ : Nat.beq i q0 = true ∧ (N.row A.r A.xs[i]? (fun _ => N.done (bo (gT st (dE m)) a' j (some { A.put (A.xs.set i x1) with md := .dp })))).val = some aP := by
                 cases hb : Nat.beq i q0 with
                 | true => rw [hb] at h1; exact ⟨rfl, h1⟩
                 | false => rw [hb] at h1; cases h1
               have hiq := Nat.eq_of_beq_eq_true hiq; clear h1; have h1 := Uu; clear Uu; subst hiq
               cases xh : A.xs[i]? with
               | none => simp [xh, N.val] at h1
               | some x0 =>
                 simp only [xh] at h1; change some _ = some aP at h1; obtain rfl := Option.some.inj h1; obtain ⟨Ry, hmo, G, hG⟩ := zg h A.r v.cells _ oT Ut; unfold bm at eV; rw [hm] at eV; obtain ⟨gg, Li, eV⟩ := eV eW; obtain ⟨yS, kQ, hk3, _, _⟩ := kP (dE m) h; have hR := yS.iY kQ a' j; obtain ⟨Tc, g1, g2⟩ := hk3 a' j sl A N8 CC CD; have OE : ∀ n ∈ dE m, Lb.sp a' j ≠ .sp n.1 n.2 := by
                   intro n hn e; injection e with e1 e2; exact N8 (by rw [show (a', j) = n from Prod.ext e1 e2]; exact hn)
                 obtain ⟨g', p1, p2⟩ := Am (c := c) JG G gg [i] (.sp a' j) OE; have CN : ∀ k, c.own k = some (.sp a' j) → (c.iY (dE m) (.sp a' j)).own k = some (.sp a' j) := by
                   intro k hk; rw [Cz.nI (fun n hn e => by rw [hk] at e; exact OE n hn (Option.some.inj e))]; exact hk
                 refine ⟨_, me hT hn w b (o + i * A.r.width + 0) uv hlen Cc hg (by omega), c.iY (dE m) (.sp a' j), ?_⟩; refine hR.E6 (A := A) (ys := A.xs.set i x1) (md' := .dp) g1 g2 eW gV hg (by rw [List.size_toArray, ga (by simp at E7 ⊢; omega)]; simp) (by simp) ?_; unfold bm; show ∃ g, _; refine ⟨g', by rw [p1 b ho]; exact Li, fun i' x' rF => ?_⟩; have Uv : ∀ q k, g' k = [i'] ++ q → k ≠ b := by
                   rintro q k hk rfl
                   rw [p1 k ho, Li] at hk; simp at hk
                 obtain ⟨vs, q1, q2⟩ := Ev hg (Q := fun i vs x => dg w (fun p k => (c.iY (dE m) (.sp a' j)).own k = some (.sp a' j) ∧ g' k = p) A.r [i] 0 vs x) (fun i x fe hx => by
                   obtain ⟨vs, q1, q2⟩ := (jE _ _ _ _ _ _).1 (eV i x fe hx); exact ⟨vs, q1, dg.length _ _ _ _ _ q2, dg.go _ [i] [i] (fun q k hk => ⟨rfl, CN k hk.1, by rw [p1 k hk.1]; exact hk.2⟩) 0 vs x q2⟩) xh E7 Gx (by
                     refine hG _ [i] 0 fun col n k hc hk => ⟨Cz.mG (kt hc) hk, ?_⟩
                     rw [p2 col n k hc hk, Nat.zero_add]) i' x' rF
                 exact (jE _ _ _ _ _ _).2 ⟨vs, q1, dg.go _ [i'] [i'] (fun q k hk => ⟨setRow_other w b k _ (Uv q k hk.2), hk⟩) 0 vs x' q2⟩
           | sh =>
             rw [hm] at hz; simp only at hz; have eV := (bm.sh hm).1 eV; obtain ⟨x1, m, h1, h2, h3⟩ := yZ h A.r v.cells _ oT _ hz; obtain ⟨Rx, h1⟩ := dv h1
             cases xh : A.xs[i]? with
             | none => simp [xh, N.val] at h1
             | some x0 =>
               simp only [xh] at h1; change some _ = some aP at h1; obtain rfl := Option.some.inj h1; have N8 : (a', j) ∉ m := by
                 intro zh; have := List.all_eq_true.1 Rx _ zh; simp at this
               have hf := h.freeze m; obtain ⟨Tc, g1, g2⟩ := CJ m CC CD N8; have Uw : (c.drop m).lc a' j = .at b o cap := by rw [(Cz.Lg m c).1]; exact gV
               have ho' : (c.drop m).own b = some (.sp a' j) := Cz.E5 m c b ho (fun p hp => by
                 intro e; injection e with e1 e2; exact N8 (by rw [e1, e2]; exact hp))
               have OF : ∀ (i : Nat) x, A.xs[i]? = some x → cn w (c.drop m).ok A.r b (o + i * A.r.width) x := fun i x hx =>
                 cn.stays (Fw.freeze w m c st).stays _ _ _ x rfl (eV i x hx)
               have JH : cD w (c.drop m).ok A.r uv.cells.toList x1 := h3 _ (fun k hk => Cz.yY m c k hk) (fun p hp k hk => Cz.Ck m c k hk hp); refine ⟨_, me hT hn w b (o + i * A.r.width + 0) uv hlen Cc hg (by omega), c.drop m, ?_⟩; refine hf.zb g1 g2 eW Uw hg (by rw [List.size_toArray, ga (by simp at E7 ⊢; omega)]; simp) (by simp) (bm.OC hm ?_); refine zd ho' hg OF xh (k := 0) (by omega) Gx (fun vs ze => ?_); rw [Zv vs (cD.length A.r vs x0 ze)]; exact JH
           | dp =>
             rw [hm] at hz; simp only at hz
             cases Ut : gC st A.r v.cells with
             | none => rw [Ut] at hz; simp [N.val] at hz
             | some pq =>
               obtain ⟨x1, m⟩ := pq; rw [Ut] at hz; simp only at hz; obtain ⟨Rx, h1⟩ := dv hz; clear hz; rw [Bool.and_eq_true] at Rx; have JG := mH Rx.1; have N8 : (a', j) ∉ dE m := by
                 intro zh; have := List.all_eq_true.1 Rx.2 _ zh; simp at this
               cases xh : A.xs[i]? with
               | none => simp [xh, N.val] at h1
               | some x0 =>
                 simp only [xh] at h1; change some _ = some aP at h1; obtain rfl := Option.some.inj h1; obtain ⟨Ry, hmo, G, hG⟩ := zg h A.r v.cells _ oT Ut; unfold bm at eV; rw [hm] at eV; obtain ⟨gg, Li, eV⟩ := eV; obtain ⟨yS, kQ, hk3, _, _⟩ := kP (dE m) h; have hR := yS.iY kQ a' j; obtain ⟨Tc, g1, g2⟩ := hk3 a' j sl A N8 CC CD; have OE : ∀ n ∈ dE m, Lb.sp a' j ≠ .sp n.1 n.2 := by
                   intro n hn e; injection e with e1 e2; exact N8 (by rw [show (a', j) = n from Prod.ext e1 e2]; exact hn)
                 obtain ⟨g', p1, p2⟩ := Am (c := c) JG G gg [i] (.sp a' j) OE; have CN : ∀ k, c.own k = some (.sp a' j) → (c.iY (dE m) (.sp a' j)).own k = some (.sp a' j) := by
                   intro k hk; rw [Cz.nI (fun n hn e => by rw [hk] at e; exact OE n hn (Option.some.inj e))]; exact hk
                 refine ⟨_, me hT hn w b (o + i * A.r.width + 0) uv hlen Cc hg (by omega), c.iY (dE m) (.sp a' j), ?_⟩; refine hR.zb g1 g2 eW gV hg (by rw [List.size_toArray, ga (by simp at E7 ⊢; omega)]; simp) (by simp) ?_; unfold bm; show match A.md with | .sh => _ | .dp => _ | .ho _ => _
                 rw [hm]; refine ⟨g', by rw [p1 b ho]; exact Li, fun i' x' rF => ?_⟩; have Uv : ∀ q k, g' k = [i'] ++ q → k ≠ b := by
                   rintro q k hk rfl
                   rw [p1 k ho, Li] at hk; simp at hk
                 obtain ⟨vs, q1, q2⟩ := xu hg (Q := fun i vs x => dg w (fun p k => (c.iY (dE m) (.sp a' j)).own k = some (.sp a' j) ∧ g' k = p) A.r [i] 0 vs x) (fun i x hx => by
                   obtain ⟨vs, q1, q2⟩ := (jE _ _ _ _ _ _).1 (eV i x hx); exact ⟨vs, q1, dg.length _ _ _ _ _ q2, dg.go _ [i] [i] (fun q k hk => ⟨rfl, CN k hk.1, by rw [p1 k hk.1]; exact hk.2⟩) 0 vs x q2⟩) xh (k := 0) (us := uv.cells.toList) (by omega) Gx (fun vs yQ _ => by
                     rw [Zv vs yQ]; refine hG _ [i] 0 fun col n k hc hk => ⟨Cz.mG (kt hc) hk, ?_⟩
                     rw [p2 col n k hc hk, Nat.zero_add]) i' x' rF
                 exact (jE _ _ _ _ _ _).2 ⟨vs, q1, dg.go _ [i'] [i'] (fun q k hk => ⟨setRow_other w b k _ (Uv q k hk.2), hk⟩) 0 vs x' q2⟩
end Go.TM
namespace Go.TM
open Go Go.RowKit
theorem Fw.heap {c : Cz} {st : St} {w w' : World} (hh : w'.heap = w.heap) : Fw c st w c st w' where
 stays := ⟨by rw [hh]; exact Nat.le_refl _, fun b _ _ => by rw [hh], fun _ _ h => h⟩
 refs _ _ _ A' _ h := ⟨A', h, rfl, rfl, rfl, fun _ => ⟨rfl, fun _ _ _ _ => by rw [hh]⟩⟩
 B8 _ _ mA _ h := ⟨⟨mA, h⟩, rfl⟩
 gA _ := Nat.le_refl _
 gB _ := Nat.le_refl _
 gE _ := Nat.le_refl _
theorem Rel.heap {w0 : World} {mu : Mu} {c : Cz} {st : St} {a : Act} {w w' : World} (h : Rel w0 mu c st a w) (hh : w'.heap = w.heap) (ho : w'.os = w.os ∧ w'.tape = w.tape ∧ w'.output = w.output) :
   Rel w0 mu c st a w' where
 eI t := (Fw.heap hh).mr (h.eI t)
 boxes s sl cs hs hb := (h.boxes s sl cs hs hb).go (Fw.heap hh) rfl rfl (by rw [hh])
 aK s j sl A hs hA := (h.aK s j sl A hs hA).go (Fw.heap (c := c) (st := st) hh).stays rfl (fun b _ => ⟨by rw [hh], rfl⟩)
 owned b l hb := by rw [hh]; exact h.owned b l hb
 free := h.free
 kept := ⟨ho.1.trans h.kept.1, ho.2.1.trans h.kept.2.1, ho.2.2.trans h.kept.2.2.1, by rw [hh]; exact h.kept.2.2.2⟩
 old k hk hm := by rw [hh]; exact h.old k hk hm
 dJ p hp := (Fw.heap hh).dJ (h.dJ p hp)
 plain := h.plain
theorem Rel.drew {w0 : World} {mu : Mu} {c : Cz} {st : St} {a : Act} {w : World} (h : Rel w0 mu c st a w) : Rel w0 mu c st a w.drew := h.heap rfl ⟨rfl, rfl, rfl⟩
theorem iX.length : (r : RT) → (vs : List Value) → iX r vs → vs.length = r.width
 | .nil, vs, h => by simp only [iX] at h; subst h; rfl
 | .cons (.int _) r, vs, ⟨l, h, h'⟩ => by subst h; simp [RT.width, iX.length r l h']
 | .cons .bool r, vs, ⟨l, h, h'⟩ => by subst h; simp [RT.width, iX.length r l h']
 | .cons .str r, vs, ⟨l, h, h'⟩ => by subst h; simp [RT.width, iX.length r l h']
 | .cons (.sl _) r, vs, ⟨l, h, h'⟩ => by subst h; simp [RT.width, iX.length r l h']
theorem YJ.cells {w : World} {ok : Nat → Prop} {r : RT} {u : Value} {ys : List (ar r)} (h : YJ w ok r u ys) :
   (ys = [] ∧ (u = .slice none 0 0 ∨ ∃ a c, u = .slice (some a) 0 c)) ∨
   (ys ≠ [] ∧ ∃ a c vs, u = .slice (some a) ys.length c ∧ aW w ok r vs ys ∧ ∀ (j : Nat) v, vs[j]? = some v → w.cell? (a.add j) = some v) := by
 rcases h with ⟨rfl, rfl⟩ | ⟨a, c, rfl, hs, hr⟩
 · exact .inl ⟨rfl, .inl rfl⟩
 · by_cases e : ys = []
   · subst e; exact .inl ⟨rfl, .inr ⟨a, c, rfl⟩⟩
   · obtain ⟨vs, h1, h2⟩ := kr a.block a.off ys hr; refine .inr ⟨e, a, c, vs, rfl, h2, fun j v hv => ?_⟩; have : a = ⟨a.block, a.off, none⟩ := by have := hs e; cases a; simp at this ⊢; exact this
     rw [this, Addr.add_mid]; exact h1 j v hv
theorem xH {P : Program} {T : ki} (hT : fI P T) {w : World} {t ty : Nat} {r : RT} {bytes : Nat} (ht : T.elem t = some (r, bytes)) {ux uy : Value} {nx ny : Nat} {vx vy : List Value} {xb : Option Nat}
   (hb : (nx + ny) * bytes ≤ lim) (Jl : vx.length = nx * r.width) (Hn : vy.length = ny * r.width) (oy : ∀ u ∈ vy, u.oneCell' = true)
   (hy : (ny = 0 ∧ (uy = .slice none 0 0 ∨ ∃ a c, uy = .slice (some a) 0 c)) ∨ (ny ≠ 0 ∧ ∃ a c, uy = .slice (some a) ny c ∧ ∀ (j : Nat) v, vy[j]? = some v → w.cell? (a.add j) = some v))
   (hx : (xb = none ∧ ux = .slice none 0 0 ∧ nx = 0) ∨ ∃ b off lo cap n ad cur te, xb = some b ∧ ux = .slice (some ad) nx n ∧ nx ≤ n ∧ lo + n ≤ cap ∧ (n ≠ 0 → ad = ⟨b, off + lo * r.width, none⟩) ∧
     w.heap[b]? = some (.cells cur te (0, 0)) ∧ off + cap * r.width ≤ cur.size ∧ w.rangeAt b (off + lo * r.width) vx) :
   ∃ v w', (Builtin.append_ #[t, t] ty #[ux, uy]).run P w = .ok v w' ∧ (w'.os = w.os ∧ w'.tape = w.tape ∧ w'.output = w.output ∧ w.heap.size ≤ w'.heap.size) ∧
     ((nx = 0 ∧ ny = 0 ∧ w' = w ∧ v = .slice none 0 0) ∨ ∃ B o cp cur te, v.oneCell' = true ∧ je (.at B o cp) r.width 0 (nx + ny) v ∧ nx + ny ≤ cp ∧ w'.heap[B]? = some (.cells cur te (0, 0)) ∧ o + cp * r.width ≤ cur.size ∧
       w'.rangeAt B o (vx ++ vy) ∧ (∀ k, k < w.heap.size → k ≠ B → w'.heap[k]? = w.heap[k]?) ∧ (w.heap.size ≤ B ∨ xb = some B)) := by
 obtain ⟨e, i, z, hu, hi, kO, CO, Zw, Lj, hz, Jm⟩ := hT.elem t r bytes ht; have HD : z.cells.size = r.width := by have := iX.length r _ Jm; simpa using this
 have Gy : (nx + ny) * bytes ≤ 140737488355328 := by unfold lim at hb; omega
 have ajP : nx + ny ≤ 140737488355328 := by
   have : (nx + ny) * 1 ≤ (nx + ny) * bytes := Nat.mul_le_mul_left _ Lj; omega
 have grown : ∀ (old : Nat) (run : (Builtin.append_ #[t, t] ty #[ux, uy]).run P w = .ok (.slice (some ⟨w.heap.size, 0, none⟩) (nx + ny) (grownCap w (nx + ny) old e)) (w.drew.alloc (.cells (vx.toArray ++ vy.toArray ++ Builtin.zeroCells z.cells (grownCap w (nx + ny) old e - (nx + ny))) e (0, 0)))),
     ∃ v w', (Builtin.append_ #[t, t] ty #[ux, uy]).run P w = .ok v w' ∧ (w'.os = w.os ∧ w'.tape = w.tape ∧ w'.output = w.output ∧ w.heap.size ≤ w'.heap.size) ∧
     ((nx = 0 ∧ ny = 0 ∧ w' = w ∧ v = .slice none 0 0) ∨ ∃ B o cp cur te, v.oneCell' = true ∧ je (.at B o cp) r.width 0 (nx + ny) v ∧ nx + ny ≤ cp ∧ w'.heap[B]? = some (.cells cur te (0, 0)) ∧ o + cp * r.width ≤ cur.size ∧
       w'.rangeAt B o (vx ++ vy) ∧ (∀ k, k < w.heap.size → k ≠ B → w'.heap[k]? = w.heap[k]?) ∧ (w.heap.size ≤ B ∨ xb = some B)) := by
   intro old run; have hge := grownCap_ge w (nx + ny) old e; have hmul : grownCap w (nx + ny) old e * r.width = (nx + ny) * r.width + (grownCap w (nx + ny) old e - (nx + ny)) * r.width := by
     rw [← Nat.add_mul]; congr 1; omega
   have sJ := heap_alloc_new w.drew (.cells (vx.toArray ++ vy.toArray ++ Builtin.zeroCells z.cells (grownCap w (nx + ny) old e - (nx + ny))) e (0, 0)); refine ⟨_, _, run, ⟨rfl, rfl, rfl, by simp⟩, .inr ⟨w.heap.size, 0, grownCap w (nx + ny) old e, _, e, rfl, ⟨_, _, rfl, hge, by omega, fun _ => by simp⟩, hge, sJ, ?_, ?_, fun k hk _ => heap_alloc_old w.drew _ k hk, .inl (Nat.le_refl _)⟩⟩
   · rw [Array.size_append, Array.size_append, List.size_toArray, List.size_toArray, size_zeroCells, HD, Jl, Hn, hmul, Nat.add_mul]; omega
   · intro q v hv; rw [show w.heap.size = w.drew.heap.size from rfl, cell_of_row _ _ _ _ e (0, 0) sJ, Nat.zero_add]; have hq : q < (vx ++ vy).length := (List.getElem?_eq_some_iff.1 hv).1; have e1 : (vx.toArray ++ vy.toArray ++ Builtin.zeroCells z.cells (grownCap w (nx + ny) old e - (nx + ny))).toList =
         (vx ++ vy) ++ (Builtin.zeroCells z.cells (grownCap w (nx + ny) old e - (nx + ny))).toList := by simp
     rw [← Array.getElem?_toList, e1, List.getElem?_append_left hq]; exact hv
 rcases hy with ⟨rfl, hyn⟩ | ⟨Ux, ay, cy, rfl, Zx⟩
 · -- nothing is put behind
   have aeo : vy = [] := by simpa using Hn
   subst aeo; rcases hx with ⟨_, rfl, rfl⟩ | ⟨b, off, lo, cap, n, ad, cur, te, Mn, rfl, hle, yX, Ho, hg, Uy, hr⟩
   · exact ⟨_, w, run_append_nothing hu hi w none 0 0 (Nat.le_refl _) uy hyn, ⟨rfl, rfl, rfl, Nat.le_refl _⟩, .inl ⟨rfl, rfl, rfl, rfl⟩⟩
   · refine ⟨_, w, run_append_nothing hu hi w (some ad) nx n hle uy hyn, ⟨rfl, rfl, rfl, Nat.le_refl _⟩, .inr ⟨b, off + lo * r.width, n, cur, te, rfl, ⟨ad, n, rfl, hle, by omega, fun hn => by rw [Ho hn]; simp⟩, hle, hg, ?_, by simpa using hr, fun _ _ _ => rfl, .inr Mn⟩⟩; have : (lo + n) * r.width ≤ cap * r.width := Nat.mul_le_mul_right _ yX; rw [Nat.add_mul] at this; omega
 · have hyl : 0 < ny := Nat.pos_of_ne_zero Ux; rcases hx with ⟨_, rfl, rfl⟩ | ⟨b, off, lo, cap, n, ad, cur, te, Mn, rfl, hle, yX, Ho, hg, Uy, hrx⟩
   · have aep : vx = [] := by simpa using Jl
     subst aep; have hr := run_append_nil (P := P) w t ty e i z hu hi hz ay ny cy vy (by rw [Hn, kO]) Zx hyl (by omega) (by rw [Zw]; simp at Gy; omega); refine grown 0 ?_; simpa using hr
   · by_cases sK : nx + ny ≤ n
     · -- it ali alj Js room Oh there is
       have Q3 : n ≠ 0 := by omega
       rw [Ho Q3]; have Gx : off + lo * r.width + n * r.width ≤ cur.size := by
         have : (lo + n) * r.width ≤ cap * r.width := Nat.mul_le_mul_right _ yX; rw [Nat.add_mul] at this; omega
       have qG : off + lo * r.width + nx * r.width + vy.length ≤ cur.size := by
         have : (nx + ny) * r.width ≤ n * r.width := Nat.mul_le_mul_right _ sK; rw [Nat.add_mul] at this; omega
       have hr := Ey (P := P) (ty := ty) hu hi w b (off + lo * r.width) nx n cur te hg ay ny cy vy (by rw [Hn, kO]) Zx oy sK (by rw [kO]; exact qG); rw [kO] at hr; have Rv := setRow_heap w b cur (bC cur.toList (off + lo * r.width + nx * r.width) vy).toArray te (0, 0) hg; have rI : ∀ k, k ≠ b → (w.setRow b (bC cur.toList (off + lo * r.width + nx * r.width) vy).toArray).heap[k]? = w.heap[k]? := fun k hk => setRow_other w _ k _ hk
       refine ⟨_, _, hr, ⟨rfl, rfl, rfl, by simp [World.setRow]⟩, .inr ⟨b, off + lo * r.width, n, _, te, rfl, ⟨_, n, rfl, sK, by omega, fun _ => by simp⟩, sK, Rv, ?_, ?_, fun k _ hk => rI k hk, .inr Mn⟩⟩
       · rw [List.size_toArray, ga (by simpa using qG)]; simpa using Gx
       · intro q v hv; rw [cell_of_row _ _ _ _ te (0, 0) Rv]; simp only [List.getElem?_toArray]; rw [kq (by simpa using qG)]; rw [List.getElem?_append] at hv
         by_cases hq : q < vx.length
         · rw [if_pos hq] at hv; rw [if_neg (by omega)]; have := hrx q v hv; rw [cell_of_row w b _ cur te (0, 0) hg] at this; simpa using this
         · rw [if_neg hq] at hv; have JI : q - vx.length < vy.length := (List.getElem?_eq_some_iff.1 hv).1; rw [if_pos (by omega), show off + lo * r.width + q - (off + lo * r.width + nx * r.width) = q - vx.length by omega]; exact hv
     · -- it Zk
       have hr := run_append_grow (P := P) w t ty e i z hu hi hz ad nx n vx (by rw [Jl, kO]) (fun q v hv => by
           have hq : q < vx.length := (List.getElem?_eq_some_iff.1 hv).1; have Q3 : n ≠ 0 := by
             intro e0; have : nx = 0 := by omega
             rw [this] at Jl; simp at Jl; rw [Jl] at hq; simp at hq
           rw [Ho Q3, Addr.add_mid]; exact hrx q v hv)
         ay ny cy vy (by rw [Hn, kO]) Zx (by omega) (by omega) (growslice_fits (by omega) (by rw [Zw]; exact Gy))
       exact grown n hr
theorem E8 {P : Program} {T : ki} (hT : fI P T) {w0 : World} {mu : Mu} {c : Cz} {Ak : St} {a : Act} {w : World} (h1 : Rel w0 mu c Ak a w)
   {t ty : Nat} {r : RT} {bytes : Nat} (ht : T.elem t = some (r, bytes)) {ux uy : Value} {xs ys : List (ar r)} {d : Nat} {s0 : Sl} (iE : nth Ak d = some s0) (hd : d < a.tmps.size)
   (hb : (xs.length + ys.length) * bytes ≤ lim) (hy : YJ w c.ok r uy ys)
   (hx : (ux = .slice none 0 0 ∧ xs = []) ∨ ∃ s j b off lo cap n ad, c.own b = some (.sp s j) ∧ (∀ sl A, nth Ak s = some sl → nth sl.aK j ≠ some (some A)) ∧
     ux = .slice (some ad) xs.length n ∧ xs.length ≤ n ∧ lo + n ≤ cap ∧ (n ≠ 0 → ad = ⟨b, off + lo * r.width, none⟩) ∧
     (∃ cur ty, w.heap[b]? = some (.cells cur ty (0, 0)) ∧ off + cap * r.width ≤ cur.size) ∧ ∀ (i : Nat) x, xs[i]? = some x → cn w c.ok r b (off + (lo + i) * r.width) x) :
   ∃ v w', (Builtin.append_ #[t, t] ty #[ux, uy]).run P w = .ok v w' ∧
     ∃ c', Rel w0 mu c' (mq (fun s => { s with v := .one (.ref d 0 (s0.ag + 1) .full), aK := [some { r := r, own := true, xs := xs ++ ys }], ag := s0.ag + 1 }) Ak d) (a.put (some d) v) w' := by
 obtain ⟨vy, Hn, Q4⟩ : ∃ vy, aW w c.ok r vy ys ∧ ((ys.length = 0 ∧ (uy = .slice none 0 0 ∨ ∃ a c, uy = .slice (some a) 0 c)) ∨ (ys.length ≠ 0 ∧ ∃ a c, uy = .slice (some a) ys.length c ∧ ∀ (j : Nat) v, vy[j]? = some v → w.cell? (a.add j) = some v)) := by
   rcases hy.cells with ⟨rfl, hyn⟩ | ⟨Ux, ay, cy, vy, rfl, Hn, Zx⟩
   · exact ⟨[], rfl, .inl ⟨rfl, hyn⟩⟩
   · exact ⟨vy, Hn, .inr ⟨fun h => Ux (List.length_eq_zero_iff.1 h), ay, cy, rfl, Zx⟩⟩
 obtain ⟨vx, xb, Jl, Mn, rF⟩ : ∃ (vx : List Value) (xb : Option Nat), aW w c.ok r vx xs ∧ (∀ b, xb = some b → ∃ s j, c.own b = some (.sp s j) ∧ ∀ sl A, nth Ak s = some sl → nth sl.aK j ≠ some (some A)) ∧
     ((xb = none ∧ ux = .slice none 0 0 ∧ xs.length = 0) ∨ ∃ b off lo cap n ad cur te, xb = some b ∧ ux = .slice (some ad) xs.length n ∧ xs.length ≤ n ∧ lo + n ≤ cap ∧ (n ≠ 0 → ad = ⟨b, off + lo * r.width, none⟩) ∧
     w.heap[b]? = some (.cells cur te (0, 0)) ∧ off + cap * r.width ≤ cur.size ∧ w.rangeAt b (off + lo * r.width) vx) := by
   rcases hx with ⟨rfl, rfl⟩ | ⟨s, j, b, off, lo, cap, n, ad, eW, OG, rfl, hle, yX, Ho, ⟨cur, te, hg, Uy⟩, eV⟩
   · exact ⟨[], none, rfl, (fun _ e => by cases e), .inl ⟨rfl, rfl, rfl⟩⟩
   · obtain ⟨vx, hrx, Jl⟩ := kr b (off + lo * r.width) xs (fun i x hx => by
       have := eV i x hx; rw [Nat.add_mul] at this; rw [show off + lo * r.width + i * r.width = off + (lo * r.width + i * r.width) by omega]; exact this)
     exact ⟨vx, some b, Jl, fun b' e => by cases e; exact ⟨s, j, eW, OG⟩, .inr ⟨b, off, lo, cap, n, ad, cur, te, rfl, rfl, hle, yX, Ho, hg, Uy, hrx⟩⟩
 obtain ⟨v, w', oE, sq, CP⟩ := xH hT (ty := ty) ht hb (aW.length vx xs Jl) (aW.length vy ys Hn) (aW.kj vy ys Hn) Q4 rF; refine ⟨v, w', oE, ?_⟩; rcases CP with ⟨e1, e2, rfl, rfl⟩ | ⟨B, o, cp, cur, te, v1, v2, hle, hg, kO, hr, rI, hB⟩
 · have : xs = [] := List.length_eq_zero_iff.1 e1; subst this; have : ys = [] := List.length_eq_zero_iff.1 e2; subst this; refine ⟨c.bp d .nil none, h1.place (B := w'.heap.size) (A := { r := r, own := true, xs := [] ++ [] }) iE hd rfl ?_ (fun k _ => by simp [Cz.bp]) (.inr ⟨by simp [Cz.bp], rfl⟩) (.inl (Nat.le_refl _)) ?_ (fun _ _ _ => rfl) ⟨rfl, rfl, rfl, Nat.le_refl _⟩ ?_ rfl ?_⟩
   · intro s j fe; simp [Cz.bp, fe]
   · intro hc; simp [Cz.bp] at hc; have := h1.nH hc; omega
   · unfold bI; simp [Cz.bp]
   · simp [Cz.bp, je]
 · have OH : B < w'.heap.size := (Array.getElem?_eq_some_iff.1 hg).1; have Lk : w.heap.size ≤ B ∨ ∃ s j, c.own B = some (.sp s j) ∧ (s = d ∨ ∀ sl A, nth Ak s = some sl → nth sl.aK j ≠ some (some A)) := by
     rcases hB with hB | hB
     · exact .inl hB
     · obtain ⟨s, j, q1, q2⟩ := Mn B hB; exact .inr ⟨s, j, q1, .inr q2⟩
   have Un : ∀ k, k < w.heap.size → c.ok k → k ≠ B := by
     rintro k hk fH rfl
     rcases Lk with hB | ⟨s, j, hB, _⟩
     · omega
     · unfold Cz.ok at fH; rw [hB] at fH; cases fH
   have qn : iW w w' c.ok (c.bp d (.at B o cp) (some B)).ok := ⟨sq.2.2.2, fun k hk fH => rI k hk (Un k hk fH), fun k hk fH => by
     unfold Cz.ok Cz.bp; simp only; rw [if_neg]
     · exact fH
     · intro e'; exact Un k hk fH (Option.some.inj e').symm⟩
   refine ⟨c.bp d (.at B o cp) (some B), h1.place (B := B) (A := { r := r, own := true, xs := xs ++ ys }) iE hd rfl ?_ ?_ (.inl (by simp [Cz.bp])) Lk (fun _ => OH) rI sq ?_ v1 ?_⟩
   · intro s j fe; simp [Cz.bp, fe]
   · intro k hk; simp only [Cz.bp]; rw [if_neg (by intro e'; exact hk (Option.some.inj e').symm)]
   · unfold bI; simp only [Cz.bp, and_self, if_true]; refine ⟨trivial, by simpa using hle, ⟨cur, te, hg, kO⟩, (bm.sh rfl).2 ?_⟩; exact rQ _ (vx ++ vy) (xs ++ ys) (aW.append vx vy xs ys (aW.stays qn _ _ Jl) (aW.stays qn _ _ Hn)) hr
   · simp only [Cz.bp, and_self, if_true, List.length_append]; exact v2
def cL (w : World) (P : List Nat → Nat → Prop) (r : RT) : (i : Nat) → List Value → List (ar r) → Prop
 | _, vs, [] => vs = []
 | i, vs, x :: xs => ∃ l1 l2, vs = l1 ++ l2 ∧ dg w P r [i] 0 l1 x ∧ cL w P r (i + 1) l2 xs
theorem cL.length {w : World} {P : List Nat → Nat → Prop} {r : RT} : (i : Nat) → (vs : List Value) → (xs : List (ar r)) → cL w P r i vs xs → vs.length = xs.length * r.width
 | _, vs, [], h => by simp only [cL] at h; subst h; simp
 | i, vs, x :: xs, h => by
   obtain ⟨l1, l2, rfl, h1, h2⟩ := h; have a1 := dg.length r [i] 0 l1 x h1; have a2 := cL.length (i + 1) l2 xs h2; simp [a1, a2, Nat.add_mul]; omega
theorem cL.append {w : World} {P : List Nat → Nat → Prop} {r : RT} : (i : Nat) → (vs us : List Value) → (xs ys : List (ar r)) → cL w P r i vs xs → cL w P r (i + xs.length) us ys → cL w P r i (vs ++ us) (xs ++ ys)
 | i, vs, us, [], ys, h, k => by simp only [cL] at h; subst h; simpa using k
 | i, vs, us, x :: xs, ys, ⟨l1, l2, e, h1, h2⟩, k => ⟨l1, l2 ++ us, by rw [e, List.append_assoc], h1, cL.append (i + 1) l2 us xs ys h2 (by rw [show i + 1 + xs.length = i + (x :: xs).length by simp; omega]; exact k)⟩
theorem cL.go {w w' : World} {P P' : List Nat → Nat → Prop} {r : RT} (sh : Nat) (hP : ∀ i q b, P ([i] ++ q) b → w'.heap[b]? = w.heap[b]? ∧ P' ([i + sh] ++ q) b) : (i : Nat) → (vs : List Value) → (xs : List (ar r)) → cL w P r i vs xs → cL w' P' r (i + sh) vs xs
 | _, _, [], h => h
 | i, vs, x :: xs, ⟨l1, l2, e, h1, h2⟩ => ⟨l1, l2, e, dg.go r [i] [i + sh] (fun q b hb => hP i q b hb) 0 l1 x h1, by rw [show i + sh + 1 = i + 1 + sh by omega]; exact cL.go sh hP (i + 1) l2 xs h2⟩
theorem de.one {w : World} {P : List Nat → Nat → Prop} {t : Ty} {p : List Nat} {v : Value} {x : den t} (h : de w P t p v x) : v.oneCell' = true := by
 cases t with
 | int k => rw [xE.1 h]; rfl
 | bool => rw [tv.1 h]; rfl
 | str => rw [xF.1 h]; rfl
 | sl r => obtain ⟨lc, _, h1, _⟩ := (vz w P r p v x).1 h; exact h1
theorem dg.one {w : World} {P : List Nat → Nat → Prop} : (r : RT) → (p : List Nat) → (k : Nat) → (vs : List Value) → (x : ar r) → dg w P r p k vs x → ∀ v ∈ vs, v.oneCell' = true
 | .nil, _, _, vs, _, h, v, hv => by simp only [dg] at h; subst h; simp at hv
 | .cons t r, p, k, vs, x, ⟨u, l, e, hx, hr⟩, v, hv => by
   subst e; rcases List.mem_cons.1 hv with rfl | hv
   · exact hx.one
   · exact dg.one r p (k + 1) l x.2 hr v hv
theorem cL.kj {w : World} {P : List Nat → Nat → Prop} {r : RT} : (i : Nat) → (vs : List Value) → (xs : List (ar r)) → cL w P r i vs xs → ∀ v ∈ vs, v.oneCell' = true
 | _, vs, [], h, v, hv => by simp only [cL] at h; subst h; simp at hv
 | i, vs, x :: xs, ⟨l1, l2, e, h1, h2⟩, v, hv => by
   subst e; rcases List.mem_append.1 hv with hv | hv
   · exact dg.one r _ _ l1 x h1 v hv
   · exact cL.kj (i + 1) l2 xs h2 v hv
theorem Bt {w : World} {P : List Nat → Nat → Prop} {r : RT} (b : Nat) : (off i0 : Nat) → (xs : List (ar r)) → (∀ (i : Nat) x, xs[i]? = some x → fN w P r [i0 + i] 0 b (off + i * r.width) x) →
   ∃ vs, w.rangeAt b off vs ∧ cL w P r i0 vs xs
 | _, _, [], _ => ⟨[], fun j v h => by simp at h, rfl⟩
 | off, i0, x :: xs, h => by
   obtain ⟨l1, h1, h2⟩ := (jE r [i0] 0 b off x).1 (by have := h 0 x rfl; simpa using this); obtain ⟨l2, h3, h4⟩ := Bt b (off + r.width) (i0 + 1) xs (fun i y hy => by
     have := h (i + 1) y (by simpa using hy); rw [Nat.add_mul, Nat.one_mul] at this; rw [show off + r.width + i * r.width = off + (i * r.width + r.width) by omega, show i0 + 1 + i = i0 + (i + 1) by omega]; exact this)
   have hl := dg.length r _ _ l1 x h2; refine ⟨l1 ++ l2, fun j v hv => ?_, l1, l2, rfl, h2, h4⟩; rw [List.getElem?_append] at hv
   by_cases hj : j < l1.length
   · rw [if_pos hj] at hv; exact h1 j v hv
   · rw [if_neg hj] at hv; have := h3 _ v hv; rw [show off + r.width + (j - l1.length) = off + j by omega] at this; exact this
theorem vC {w : World} {P : List Nat → Nat → Prop} {r : RT} {b : Nat} : (off i0 : Nat) → (vs : List Value) → (xs : List (ar r)) → cL w P r i0 vs xs → w.rangeAt b off vs →
   ∀ (i : Nat) x, xs[i]? = some x → fN w P r [i0 + i] 0 b (off + i * r.width) x
 | _, _, _, [], _, _, i, x, h => by simp at h
 | off, i0, vs, y :: xs, ⟨l1, l2, e, h1, h2⟩, hr, i, x, h => by
   subst e; have hl := dg.length r _ _ l1 y h1
   cases i with
   | zero =>
     simp at h; subst h; rw [jE]; refine ⟨l1, fun j v hv => ?_, by simpa using h1⟩; have hj : j < l1.length := (List.getElem?_eq_some_iff.1 hv).1; have := hr j v (by rw [List.getElem?_append, if_pos hj]; exact hv); simpa using this
   | succ i =>
     have := vC (off + r.width) (i0 + 1) l2 xs h2 (fun j v hv => by
       have := hr (l1.length + j) v (by rw [List.getElem?_append, if_neg (by omega)]; simpa using hv); rw [show off + r.width + j = off + (l1.length + j) by omega]; exact this) i x (by simpa using h)
     rw [Nat.add_mul, Nat.one_mul]; rw [show off + (i * r.width + r.width) = off + r.width + i * r.width by omega, show i0 + (i + 1) = i0 + 1 + i by omega]; exact this
theorem Rel.Gz {w0 : World} {mu : Mu} {c : Cz} {st : St} {a : Act} {w : World} (h : Rel w0 mu c st a w) {d : Nat} {s0 : Sl} {r : RT} {xs : List (ar r)} {cur : Array Value} {ty cap : Nat} {P : List Nat → Nat → Prop} {g : Nat → List Nat}
   (iE : nth st d = some s0) (hd : d < a.tmps.size) (hle : xs.length ≤ cap) (kO : cap * r.width ≤ cur.size) {vs : List Value} (ze : cL w P r 0 vs xs) (hP : ∀ i q k, P ([i] ++ q) k → c.own k = some (.sp d 0) ∧ g k = [i] ++ q) (Uq : cur.toList.take vs.length = vs) :
   ∃ c', Rel w0 mu c' (mq (fun s => { s with v := .one (.ref d 0 (s0.ag + 1) .full), aK := [some { r := r, own := true, xs := xs, md := .dp }], ag := s0.ag + 1 }) st d)
     (a.put (some d) (.slice (some ⟨w.heap.size, 0, none⟩) xs.length cap)) (w.alloc (.cells cur ty (0, 0))) := by
 have sJ := heap_alloc_new w (.cells cur ty (0, 0)); refine ⟨c.bp d (.at w.heap.size 0 cap) (some w.heap.size), h.place (B := w.heap.size) (A := { r := r, own := true, xs := xs, md := .dp }) iE hd rfl ?_ ?_ (.inl ?_) (.inl (Nat.le_refl _)) (fun _ => by simp) (fun k hk _ => heap_alloc_old w _ k hk)
   ⟨rfl, rfl, rfl, by simp⟩ ?_ rfl ?_⟩
 · intro s j fe; simp [Cz.bp, fe]
 · intro k hk; simp only [Cz.bp]; rw [if_neg (by intro e; exact hk (Option.some.inj e).symm)]
 · simp [Cz.bp]
 · unfold bI; simp only [Cz.bp, and_self, if_true]; refine ⟨trivial, hle, ⟨cur, ty, sJ, by simpa using kO⟩, fun k => if k = w.heap.size then [] else g k, by simp, ?_⟩; have hD := cL.go (w' := w.alloc (.cells cur ty (0, 0))) (P' := fun p k => (if some w.heap.size = some k then some (Lb.sp d 0) else c.own k) = some (.sp d 0) ∧ (if k = w.heap.size then [] else g k) = p) 0 (fun i q k hk => by
     obtain ⟨q1, q2⟩ := hP i q k hk; have bN := h.nH q1; refine ⟨heap_alloc_old w _ k bN, ?_, by rw [if_neg (by omega)]; exact q2⟩; rw [if_neg (by intro e; have := Option.some.inj e; omega)]; exact q1) 0 vs xs ze
   have := vC 0 0 vs xs hD (fun j v hv => by
     rw [cell_of_row _ _ _ cur ty (0, 0) sJ, Nat.zero_add]; have hj : j < vs.length := (List.getElem?_eq_some_iff.1 hv).1; rw [← Uq, List.getElem?_take, if_pos hj] at hv; simpa using hv)
   intro i x hx; have h2 := this i x hx; rw [Nat.zero_add] at h2; exact h2
 · simp only [Cz.bp, and_self, if_true]; exact ⟨_, cap, rfl, hle, by omega, fun _ => by simp⟩
theorem vD {w : World} {P : List Nat → Nat → Prop} : (r : RT) → (p : List Nat) → (k : Nat) → (vs : List Value) → iX r vs → dg w P r p k vs (sF r)
 | .nil, _, _, vs, h => h
 | .cons (.int q) r, p, k, vs, ⟨l, h, h'⟩ => ⟨.int q 0, l, h, xE.2 rfl, vD r p (k + 1) l h'⟩
 | .cons .bool r, p, k, vs, ⟨l, h, h'⟩ => ⟨.bool false, l, h, tv.2 rfl, vD r p (k + 1) l h'⟩
 | .cons .str r, p, k, vs, ⟨l, h, h'⟩ => ⟨.string ByteArray.empty, l, h, xF.2 rfl, vD r p (k + 1) l h'⟩
 | .cons (.sl q) r, p, k, vs, ⟨l, h, h'⟩ => ⟨.slice none 0 0, l, h, (vz _ _ _ _ _ _).2 ⟨.nil, ⟨rfl, rfl⟩, rfl, .inl ⟨rfl, rfl⟩⟩, vD r p (k + 1) l h'⟩
theorem cL.replicate {w : World} {P : List Nat → Nat → Prop} {r : RT} {vs : List Value} {x : ar r} (h : ∀ i, dg w P r [i] 0 vs x) : (n i : Nat) → cL w P r i ((List.replicate n vs).flatten) (List.replicate n x)
 | 0, _ => rfl
 | n + 1, i => ⟨vs, (List.replicate n vs).flatten, by simp [List.replicate_succ], h i, cL.replicate h n (i + 1)⟩
theorem E9 {P : Program} {T : ki} (hT : fI P T) {w0 : World} {mu : Mu} {c : Cz} {Ak : St} {a : Act} {w : World} (h1 : Rel w0 mu c Ak a w)
   {t ty : Nat} {r : RT} {bytes : Nat} (ht : T.elem t = some (r, bytes)) {ux uy : Value} {xs ys : List (ar r)} {vx vy : List Value} {PX PY : List Nat → Nat → Prop} {g : Nat → List Nat} {xb : Option Nat} {d : Nat} {s0 : Sl} (iE : nth Ak d = some s0) (hd : d < a.tmps.size)
   (hb : (xs.length + ys.length) * bytes ≤ lim) (Jl : cL w PX r 0 vx xs) (Hn : cL w PY r 0 vy ys)
   (hPX : ∀ i q k, PX ([i] ++ q) k → xb ≠ some k ∧ c.own k = some (.sp d 0) ∧ g k = [i] ++ q) (hPY : ∀ i q k, PY ([i] ++ q) k → xb ≠ some k ∧ c.own k = some (.sp d 0) ∧ g k = [i + xs.length] ++ q)
   (hy : (ys.length = 0 ∧ (uy = .slice none 0 0 ∨ ∃ a c, uy = .slice (some a) 0 c)) ∨ (ys.length ≠ 0 ∧ ∃ a c, uy = .slice (some a) ys.length c ∧ ∀ (j : Nat) v, vy[j]? = some v → w.cell? (a.add j) = some v))
   (Mn : ∀ b, xb = some b → c.own b = some (.sp d 0))
   (hx : (xb = none ∧ ux = .slice none 0 0 ∧ xs.length = 0) ∨ ∃ b off lo cap n ad cur te, xb = some b ∧ ux = .slice (some ad) xs.length n ∧ xs.length ≤ n ∧ lo + n ≤ cap ∧ (n ≠ 0 → ad = ⟨b, off + lo * r.width, none⟩) ∧
     w.heap[b]? = some (.cells cur te (0, 0)) ∧ off + cap * r.width ≤ cur.size ∧ w.rangeAt b (off + lo * r.width) vx) :
   ∃ v w', (Builtin.append_ #[t, t] ty #[ux, uy]).run P w = .ok v w' ∧
     ∃ c', Rel w0 mu c' (mq (fun s => { s with v := .one (.ref d 0 (s0.ag + 1) .full), aK := [some { r := r, own := true, xs := xs ++ ys, md := .dp }], ag := s0.ag + 1 }) Ak d) (a.put (some d) v) w' := by
 obtain ⟨v, w', oE, sq, CP⟩ := xH hT (ty := ty) ht hb (cL.length 0 vx xs Jl) (cL.length 0 vy ys Hn) (cL.kj 0 vy ys Hn) hy hx; refine ⟨v, w', oE, ?_⟩; rcases CP with ⟨e1, e2, rfl, rfl⟩ | ⟨B, o, cp, cur, te, v1, v2, hle, hg, kO, hr, rI, hB⟩
 · have : xs = [] := List.length_eq_zero_iff.1 e1; subst this; have : ys = [] := List.length_eq_zero_iff.1 e2; subst this; refine ⟨c.bp d .nil none, h1.place (B := w'.heap.size) (A := { r := r, own := true, xs := [] ++ [], md := .dp }) iE hd rfl ?_ (fun k _ => by simp [Cz.bp]) (.inr ⟨by simp [Cz.bp], rfl⟩) (.inl (Nat.le_refl _)) ?_ (fun _ _ _ => rfl) ⟨rfl, rfl, rfl, Nat.le_refl _⟩ ?_ rfl ?_⟩
   · intro s j fe; simp [Cz.bp, fe]
   · intro hc; simp [Cz.bp] at hc; have := h1.nH hc; omega
   · unfold bI; simp [Cz.bp]
   · simp [Cz.bp, je]
 · have OH : B < w'.heap.size := (Array.getElem?_eq_some_iff.1 hg).1; have Lk : w.heap.size ≤ B ∨ ∃ s j, c.own B = some (.sp s j) ∧ (s = d ∨ ∀ sl A, nth Ak s = some sl → nth sl.aK j ≠ some (some A)) := by
     rcases hB with hB | hB
     · exact .inl hB
     · exact .inr ⟨d, 0, Mn B hB, .inl rfl⟩
   have fe : ∀ k, c.own k = some (.sp d 0) → xb ≠ some k → k ≠ B := by
     rintro k hk hx rfl
     rcases hB with hB | hB
     · have := h1.nH hk; omega
     · exact hx hB
   refine ⟨c.bp d (.at B o cp) (some B), h1.place (B := B) (A := { r := r, own := true, xs := xs ++ ys, md := .dp }) iE hd rfl ?_ ?_ (.inl (by simp [Cz.bp])) Lk (fun _ => OH) rI sq ?_ v1 ?_⟩
   · intro s j fe; simp [Cz.bp, fe]
   · intro k hk; simp only [Cz.bp]; rw [if_neg (by intro e'; exact hk (Option.some.inj e').symm)]
   · unfold bI; simp only [Cz.bp, and_self, if_true]; refine ⟨trivial, by simpa using hle, ⟨cur, te, hg, kO⟩, fun k => if k = B then [] else g k, by simp, ?_⟩; have go : ∀ (PP : List Nat → Nat → Prop) (sh : Nat), (∀ i q k, PP ([i] ++ q) k → xb ≠ some k ∧ c.own k = some (.sp d 0) ∧ g k = [i + sh] ++ q) → ∀ i q k, PP ([i] ++ q) k → w'.heap[k]? = w.heap[k]? ∧
         ((if B = k then some (Lb.sp d 0) else c.own k) = some (.sp d 0) ∧ (if k = B then [] else g k) = [i + sh] ++ q) := by
       intro PP sh hPP i q k hk; obtain ⟨q1, q2, q3⟩ := hPP i q k hk; have := fe k q2 q1; refine ⟨rI k (h1.nH q2) this, ?_, by rw [if_neg this]; exact q3⟩; rw [if_neg (fun e => this e.symm)]; exact q2
     have hD := cL.append 0 vx vy xs ys (cL.go (w' := w') (P' := fun p k => (if B = k then some (Lb.sp d 0) else c.own k) = some (.sp d 0) ∧ (if k = B then [] else g k) = p) 0 (go PX 0 (fun i q k hk => hPX i q k hk)) 0 vx xs Jl) (by
       rw [Nat.zero_add]; have := cL.go (w' := w') (P' := fun p k => (if B = k then some (Lb.sp d 0) else c.own k) = some (.sp d 0) ∧ (if k = B then [] else g k) = p) xs.length (go PY xs.length hPY) 0 vy ys Hn
       rwa [Nat.zero_add] at this)
     have := vC o 0 (vx ++ vy) (xs ++ ys) hD hr; intro i x hx; have h2 := this i x hx; rw [Nat.zero_add] at h2; simpa using h2
   · simp only [Cz.bp, and_self, if_true, List.length_append]; exact v2
end Go.TM
