/- A machine over trees: an evaluator of the code, and that what it finds is so; part 1. -/
import GoSem.Core.Value
import GoSem.Core.Code
import GoSem.Core.Program
import GoSem.Core.View
import Derived.Below
import Derived.Laws.AppendOwn
import Derived.Laws.Cells
import Derived.Laws.Rows
import Derived.Deep.MidRow
import Derived.Laws.CopyRow
set_option linter.unusedSimpArgs false
set_option linter.unusedVariables false
namespace Go.TM
open Go
mutual
inductive Ty where
 | int (k : IntKind)
 | bool
 | str
 | sl (r : RT)
inductive RT where
 | nil
 | cons (t : Ty) (r : RT)
end
mutual
def den : Ty → Type
 | .int _ => Int
 | .bool => Bool
 | .str => ByteArray
 | .sl r => List (aq r)
def aq : RT → Type
 | .nil => Unit
 | .cons t r => den t × aq r
end
mutual
def Ty.eq? : (a b : Ty) → Option (PLift (a = b))
 | .int k, .int l => if h : k = l then some ⟨by rw [h]⟩ else none
 | .bool, .bool => some ⟨rfl⟩
 | .str, .str => some ⟨rfl⟩
 | .sl r, .sl s => match RT.eq? r s with | some ⟨h⟩ => some ⟨by rw [h]⟩ | none => none
 | _, _ => none
def RT.eq? : (a b : RT) → Option (PLift (a = b))
 | .nil, .nil => some ⟨rfl⟩
 | .cons t r, .cons u s => match Ty.eq? t u, RT.eq? r s with
   | some ⟨h⟩, some ⟨g⟩ => some ⟨by rw [h, g]⟩
   | _, _ => none
 | _, _ => none
end
def bA {r : RT} (s : RT) (xs : List (aq r)) : Option (List (aq s)) :=
 match RT.eq? r s with
 | some ⟨h⟩ => some (h ▸ xs)
 | none => none
def RT.dX : RT → Bool
 | .nil => false
 | .cons (.sl _) _ => true
 | .cons _ r => r.dX
def RT.width : RT → Nat
 | .nil => 0
 | .cons _ r => r.width + 1
inductive View where
 | full
 | from (lo : Nat)
 | sub (lo n : Nat)
def View.app {α : Type} : View → List α → List α
 | .full, xs => xs
 | .from lo, xs => xs.drop lo
 | .sub lo n, xs => (xs.drop lo).take n
def View.lo : View → Nat
 | .full => 0
 | .from l => l
 | .sub l _ => l
def View.idx (w : View) (i : Nat) : Nat :=
 match w with
 | .full => i
 | .from l => l + i
 | .sub l _ => l + i
inductive CV where
 | bad
 | int (k : IntKind) (n : Int)
 | bool (b : Bool)
 | str (s : ByteArray)
 | dL
 | H2
 | shr (r : RT) (xs : List (aq r))
 | nn (r : RT) (xs : List (aq r))  -- as 'agR, and not nil
 | ref (a j g : Nat) (w : View)
 | ptr (b g off : Nat)
 | F5 (a j g i off : Nat)
 | kC (r : RT) (x : aq r) (off : Nat)
 | re (r : RT) (xs : List (aq r)) (off : Nat)  -- as 'agS, H3 row afp H3 first of a list
 | fn (g : Nat) (rs : RT) (xs : List (aq rs))    -- a function with boxes ML VL read alone: each cell of H3 row is one afq rows
 | nQ (a j g e i k : Nat) (q : RT) (ys : List (aq q))  -- H3 slice ML a cell of a deep Zx row holds
inductive Lb where
 | box (s : Nat)
 | sp (s j : Nat)
 | out
 | bK (i j : Nat)
 | rE (i : Nat)
 | gM (j : Nat)
def Lb.same : Lb → Lb → Bool
 | .box s, .box t => Nat.beq s t
 | .sp s i, .sp t j => Nat.beq s t && Nat.beq i j
 | _, _ => false
inductive V where
 | one (c : CV)
 | agg (cs : List CV)
 | lU (vs : List V)
def V.cells : V → List CV
 | .one c => [c]
 | .agg cs => cs
 | .lU _ => []
inductive Md where
 | sh | dp | ho (i : Nat)
 deriving DecidableEq
def Md.is : Md → Md → Bool
 | .sh, .sh => true
 | .dp, .dp => true
 | .ho i, .ho j => Nat.beq i j
 | _, _ => false
theorem Md.lg {a b : Md} : Md.is a b = true ↔ a = b := by
 cases a <;> cases b <;> simp [Md.is]
def Md.DN : Md → Bool
 | .ho _ => true
 | _ => false
structure gr where
 r : RT
 own : Bool
 xs : List (aq r)
 md : Md := .sh
structure Sl where
 v : V
 box : Option (List CV)
 bg : Nat
 aJ : List (Option gr)
 ag : Nat
 ep : Nat := 0  -- it Wi when an array of H3 slot is written, or a call is made
def Sl.none : Sl := { v := .one .bad, box := .none, bg := 0, aJ := [], ag := 0 }
abbrev St := List Sl
def nth {α : Type} : List α → Nat → Option α
 | [], _ => none
 | x :: _, 0 => some x
 | _ :: l, n + 1 => nth l n
def lN {α : Type} (f : α → α) : List α → Nat → List α
 | [], _ => []
 | x :: l, 0 => f x :: l
 | x :: l, n + 1 => x :: lN f l n
def bW (st : St) (t : Nat) : V :=
 match nth st t with
 | some s => s.v
 | none => .one .bad
def aS (st : St) (d : Option Nat) (v : V) : St :=
 match d with
 | some t => lN (fun s => { s with v := v }) st t
 | none => st
def aQ (st : St) (a j g : Nat) : Option gr :=
 match nth st a with
 | some s => bif Nat.beq s.ag g then (match nth s.aJ j with | some (some A) => some A | _ => none) else none
 | none => none
def bo (st : St) (a j : Nat) (A : Option gr) : St :=
 lN (fun s => { s with aJ := lN (fun _ => A) s.aJ j, ep := s.ep + 1 }) st a
def lh (st : St) (a : Nat) : Nat := match nth st a with | some s => s.ep | none => 0
def dx (st : St) (b g : Nat) : Option (List CV) :=
 match nth st b with
 | some s => bif Nat.beq s.bg g then s.box else none
 | none => none
inductive N where
 | done (st : St)
 | fail
 | br (b : Bool) (t e : N)
 | row (r : RT) (o : Option (aq r)) (k : aq r → N)
def N.val : N → Option St
 | .done st => some st
 | .fail => none
 | .br b t e => bif b then t.val else e.val
 | .row _ o k => match o with | some x => (k x).val | none => none
def N.fold {R : Type} : N → (St → Option R) → Option R
 | .done st, k => k st
 | .fail, _ => none
 | .br b t e, k => bif b then t.fold k else e.fold k
 | .row _ o f, k => match o with | some x => (f x).fold k | none => none
theorem N.fold_eq {R : Type} (n : N) (k : St → Option R) : n.fold k = n.val.bind k := by
 induction n with
 | done st => rfl
 | fail => rfl
 | br b t e iht ihe => cases b <;> simp [N.fold, N.val, iht, ihe]
 | row r o f ih => cases o <;> simp [N.fold, N.val, ih]
def H4 : (t : Ty) → den t
 | .int _ => (0 : Int)
 | .bool => false
 | .str => ByteArray.empty
 | .sl _ => ([] : List _)
def rF : (r : RT) → aq r
 | .nil => ()
 | .cons t r => (H4 t, rF r)
def H5 : (t : Ty) → den t → CV
 | .int k, n => .int k n
 | .bool, b => .bool b
 | .str, s => .str s
 | .sl r, xs => .shr r xs
def dP : (r : RT) → aq r → List CV
 | .nil, _ => []
 | .cons t r, x => H5 t x.1 :: dP r x.2
def Z3 (a j g e i k : Nat) : (t : Ty) → den t → CV
 | .int k, n => .int k n
 | .bool, b => .bool b
 | .str, s => .str s
 | .sl r, xs => .nQ a j g e i k r xs
def oO (a j g e i : Nat) : (k : Nat) → (r : RT) → aq r → List CV
 | _, .nil, _ => []
 | k, .cons t r, x => Z3 a j g e i k t x.1 :: oO a j g e i (k + 1) r x.2
def oI : (r : RT) → aq r → Nat → Option ((q : RT) × List (aq q))
 | .nil, _, _ => none
 | .cons (.sl q) _, x, 0 => some ⟨q, x.1⟩
 | .cons _ _, _, 0 => none
 | .cons _ r, x, k + 1 => oI r x.2 k
def lW : (r : RT) → aq r → Nat → (q : RT) → List (aq q) → Option (aq r)
 | .nil, _, _, _, _ => none
 | .cons (.sl q) _, x, 0, p, ys => (bA q ys).map fun zs => (zs, x.2)
 | .cons _ _, _, 0, _, _ => none
 | .cons _ r, x, k + 1, p, ys => (lW r x.2 k p ys).map fun z => (x.1, z)
def kL (st : St) (r : RT) (c : CV) (k : List (aq r) → N) : N :=
 match c with
 | .shr _ xs => match bA r xs with | some ys => k ys | none => .fail
 | .nn _ xs => match bA r xs with | some ys => k ys | none => .fail
 | .dL => k []
 | .ref a j g w => match aQ st a j g with
   | some A => (match A.md with | .sh => (match bA r A.xs with | some ys => k (w.app ys) | none => .fail) | _ => .fail)
   | none => .fail
 | _ => .fail
structure kh where
 cells : Nat → Option Nat          -- how many cells a value of H3 type afr
 agg : Nat → Bool                  -- is it a struct
 off : Nat → Nat → Option Nat      -- a MM field: Z4 first cell
 Wj : Nat → Nat → Option Nat      -- and how many it has
 row : Nat → Option RT             -- H3 sn types
 elem : Nat → Option (RT × Nat)    -- a slice: Z4 VM cells, and H3 bytes of one
 lU : Nat → Option (List Nat)     -- a Zy types
 kind : Nat → Option Ty            -- a type of one cell
 one : Nat → Nat → Bool            -- a MM field ML is no struct Z5
 eq : Nat → Bool                   -- a struct of numbers, afs and strings, Wk by '=='
 dp : Nat → Bool := fun _ => false -- a slice QT aft dX VL Z4 own, where agW may be
 cap : Nat → Bool := fun _ => false -- a QU box ML is read alone
inductive OV where
 | int (k : IntKind) (n : Int)
 | bool (b : Bool)
 | str (s : ByteArray)
 | own (A : gr)
 | shr (r : RT) (xs : List (aq r))
 | dL
 | kC (r : RT) (xs : List (aq r))
 | fn (g : Nat) (rs : RT) (xs : List (aq rs))
inductive AV where
 | val (agg : Bool) (os : List OV)  -- a value: Z4 MN VL H3 Wl from now on
 | io (A : gr)                     -- an array, EL: H3 callee may write it
 | box (os : List OV)               -- a struct behind a pointer, EL
 | bD (os : List OV)              -- a struct QT MN VL EL
inductive RV where
 | one (o : OV)
 | agg (os : List OV)
 | ptr (os : List OV)  -- a new struct, behind a pointer
inductive XV where
 | io (A : gr)
 | box (cs : List OV)
 | bD (As : List (Option gr))
structure Zz where
 outs : List RV
 exts : List XV
structure Ans where
 r : RT
 o : Option (aq r)
 res : aq r → Zz
abbrev ud := List AV → Option Ans
inductive Pm where
 | shr | own | io | bD
 | pick (l : List Nat)  -- a struct behind a pointer, some of QT MN VL read alone from then on
abbrev jC := FuncId → Option (Pm × Pm × Pm × ud)   -- H3 first three QV ways; afv jS VL shared
def aV (b g : Nat) : (j : Nat) → List OV → List CV
 | _, [] => []
 | j, .int k n :: l => .int k n :: aV b g (j + 1) l
 | j, .bool x :: l => .bool x :: aV b g (j + 1) l
 | j, .str s :: l => .str s :: aV b g (j + 1) l
 | j, .own _ :: l => .ref b j g .full :: aV b g (j + 1) l
 | j, .shr r xs :: l => .shr r xs :: aV b g (j + 1) l
 | j, .dL :: l => .dL :: aV b g (j + 1) l
 | j, .kC r xs :: l => .re r xs 0 :: aV b g (j + 1) l
 | j, .fn f rs xs :: l => .fn f rs xs :: aV b g (j + 1) l
def OV.arr : OV → Option gr
 | .own A => some A
 | _ => none
def aX : List OV → List (Option gr)
 | [] => []
 | o :: l => o.arr :: aX l
def RV.uk : RV → List OV
 | .one o => [o]
 | .agg os => os
 | .ptr os => .dL :: os
def MO (d g j : Nat) : RV → V
 | .one o => match aV d g j [o] with | [c] => .one c | _ => .one .bad
 | .agg os => .agg (aV d g j os)
 | .ptr _ => .one .bad
def jH (d g : Nat) : (j : Nat) → List RV → List V
 | _, [] => []
 | j, r :: l => MO d g j r :: jH d g (j + r.uk.length) l
def um (st : St) (d : Option Nat) (outs : List RV) : Option St :=
 match d with
 | some d => match nth st d with
   | some s =>
     let g := s.ag + 1
     match outs with
     | [.ptr os] => some (lN (fun s => { s with v := .one (.ptr d (s.bg + 1) 0), box := some (aV d (s.ag + 1) 1 os), bg := s.bg + 1, aJ := none :: aX os, ag := s.ag + 1 }) st d)
     | outs =>
       let v : V := match jH d g 0 outs with | [v] => v | vs => .lU vs
       some (lN (fun s => { s with v := v, aJ := aX (outs.flatMap RV.uk), ag := g }) st d)
   | none => none
 | none => match outs with
   | [] => some st
   | _ => none
def kM (st : St) : Operand → V
 | .tmp t => bW st t
 | .const (.int k n) => .one (.int k n)
 | .const (.bool b) => .one (.bool b)
 | .const (.string s) => .one (.str s)
 | .const (.slice none 0 0) => .one .dL
 | .const (.pointer none) => .one .H2
 | _ => .one .bad
def MP (op : BinOp) (a b : Int) : Option Bool :=
 match op with
 | .lss => some (decide (a < b))
 | .leq => some (decide (a ≤ b))
 | .gtr => some (decide (b < a))
 | .geq => some (decide (b ≤ a))
 | .eql => some (decide (a = b))
 | .neq => some (!decide (a = b))
 | _ => none
def Bk (op : BinOp) (k : IntKind) (a b : Int) : Option Int :=
 match op with
 | .add => some (k.wrap (a + b))
 | .sub => some (k.wrap (a - b))
 | .mul => some (k.wrap (a * b))
 | .and => some (k.wrap ((BitVec.ofInt k.bits a &&& BitVec.ofInt k.bits b).toNat : Int))
 | .or => some (k.wrap ((BitVec.ofInt k.bits a ||| BitVec.ofInt k.bits b).toNat : Int))
 | .xor => some (k.wrap ((BitVec.ofInt k.bits a ^^^ BitVec.ofInt k.bits b).toNat : Int))
 | _ => none
def MQ (op : BinOp) (k : IntKind) (a b : Int) : Option Int :=
 match op with
 | .quo => some (k.wrap (a.tdiv b))
 | .rem => some (a.tmod b)
 | _ => none
def Bl (op : BinOp) (k : IntKind) (a : Int) (n : Nat) : Option Int :=
 match op with
 | .shl => some (k.wrap (a * 2 ^ (min n k.bits)))
 | .shr => some (a.fdiv (2 ^ (min n k.bits)))
 | _ => none
def lX (a b : ByteArray) : Bool := a.toList == b.toList
def so : CV → CV → Option Bool
 | .int k a, .int l b => if k = l then some (decide (a = b)) else none
 | .bool a, .bool b => some (a == b)
 | .str a, .str b => some (lX a b)
 | _, _ => none
def lY : List CV → List CV → Option Bool
 | [], [] => some true
 | a :: l, b :: m => match so a b, lY l m with
   | some x, some y => some (x && y)
   | _, _ => none
 | _, _ => none
def EM (s : ByteArray) (i : Int) : Int := match s[i.toNat]? with | some b => (b.toNat : Int) | none => 0
def fp : (r : RT) → aq r → Nat → CV → Option (aq r)
 | .cons (.int k) _, x, 0, .int l n => if k = l then some (n, x.2) else none
 | .cons .bool _, x, 0, .bool b => some (b, x.2)
 | .cons .str _, x, 0, .str s => some (s, x.2)
 | .cons _ r, x, n + 1, c => (fp r x.2 n c).map fun z => (x.1, z)
 | _, _, _, _ => none
def rowOf (st : St) : (r : RT) → List CV → (k : aq r → List (Nat × Nat) → N) → N
 | .nil, [], k => k () []
 | .cons (.int q) r, .int l n :: cs, k => if q = l then rowOf st r cs (fun x m => k (n, x) m) else .fail
 | .cons .bool r, .bool b :: cs, k => rowOf st r cs (fun x m => k (b, x) m)
 | .cons .str r, .str s :: cs, k => rowOf st r cs (fun x m => k (s, x) m)
 | .cons (.sl q) r, c :: cs, k =>
   match c with
   | .dL => rowOf st r cs (fun x m => k (([] : List _), x) m)
   | .ref a j g w => match aQ st a j g with
     | some A => (match A.md with
       | .ho _ => .fail
       | _ => (match bA q A.xs with
         | some ys => rowOf st r cs (fun x m => k (w.app ys, x) ((a, j) :: m))
         | none => .fail))
     | none => .fail
   | .shr _ ys => match bA q ys with
     | some zs => rowOf st r cs (fun x m => k (zs, x) m)
     | none => .fail
   | _ => .fail
 | _, _, _ => .fail
def Md.fz : Md → Md
 | .dp => .sh
 | m => m
def gr.fz (A : gr) : gr := { A with own := false, md := A.md.fz }
def freeze (st : St) : List (Nat × Nat) → St
 | [] => st
 | (a, j) :: l => freeze (lN (fun s => { s with aJ := lN (fun A => A.map gr.fz) s.aJ j, ep := s.ep + 1 }) st a) l
def gl (st : St) : (r : RT) → List CV → Option (aq r × List (Option (Nat × Nat)))
 | .nil, [] => some ((), [])
 | .cons (.int q) r, .int l n :: cs => if q = l then (match gl st r cs with | some p => some ((n, p.1), none :: p.2) | none => none) else none
 | .cons .bool r, .bool b :: cs => match gl st r cs with | some p => some ((b, p.1), none :: p.2) | none => none
 | .cons .str r, .str s :: cs => match gl st r cs with | some p => some ((s, p.1), none :: p.2) | none => none
 | .cons (.sl q) r, c :: cs =>
   match c with
   | .dL => match gl st r cs with | some p => some ((([] : List _), p.1), none :: p.2) | none => none
   | .ref a j g .full => match aQ st a j g with
     | some A => bif A.own && A.md.is (bif q.dX then .dp else .sh) then (match bA q A.xs with
       | some ys => (match gl st r cs with | some p => some ((ys, p.1), some (a, j) :: p.2) | none => none)
       | none => none) else none
     | none => none
   | _ => none
 | _, _ => none
def dM : List (Option (Nat × Nat)) → List (Nat × Nat)
 | [] => []
 | some p :: l => p :: dM l
 | none :: l => dM l
def gv (st : St) : List (Nat × Nat) → St
 | [] => st
 | (a, j) :: l => gv (bo st a j none) l
def distinct : List (Nat × Nat) → Bool
 | [] => true
 | (a, j) :: l => l.all (fun p => !(Nat.beq p.1 a && Nat.beq p.2 j)) && distinct l
def lim : Nat := 35184372088832
def pB : RT → List CV → Bool
 | .nil, [] => true
 | .cons (.int k) r, .int l _ :: cs => decide (k = l) && pB r cs
 | .cons .bool r, .bool _ :: cs => pB r cs
 | .cons .str r, .str _ :: cs => pB r cs
 | _, _ => false
def kh.fits (T : kh) (t : Nat) (l : List CV) : Bool := match T.row t with | some r => pB r l | none => false
def ue (T : kh) (st : St) (d : Option Nat) (op : BinOp) (t : Nat) (x y : V) : N :=
 match x, y with
 | .one (.int k a), .one (.int l b) =>
   match op with
   | .shl | .shr => match Bl op k a b.toNat with
     | some n => .br (decide (0 ≤ b)) (.done (aS st d (.one (.int k n)))) .fail
     | none => .fail
   | _ => if k = l then (match MP op a b with
     | some t => .done (aS st d (.one (.bool t)))
     | none => match Bk op k a b with
       | some n => .done (aS st d (.one (.int k n)))
       | none => match MQ op k a b with
         | some n => .br (decide (b = 0)) .fail (.done (aS st d (.one (.int k n))))
         | none => .fail) else .fail
 | .one (.str a), .one (.str b) =>
   match op with
   | .add => .br (Nat.ble (a.size + b.size) lim) (.done (aS st d (.one (.str (a ++ b))))) .fail
   | .eql => .done (aS st d (.one (.bool (lX a b))))
   | .neq => .done (aS st d (.one (.bool (!lX a b))))
   | _ => .fail
 | .one (.bool a), .one (.bool b) =>
   match op, T.kind t with
   | .eql, some .bool => .done (aS st d (.one (.bool (a == b))))
   | .neq, some .bool => .done (aS st d (.one (.bool (!(a == b)))))
   | _, _ => .fail
 | .one .dL, .one .dL =>
   match op, T.elem t with
   | .eql, some _ => .done (aS st d (.one (.bool true)))
   | .neq, some _ => .done (aS st d (.one (.bool false)))
   | _, _ => .fail
 | .one (.nn _ _), .one .dL =>
   match op, T.elem t with
   | .eql, some _ => .done (aS st d (.one (.bool false)))
   | .neq, some _ => .done (aS st d (.one (.bool true)))
   | _, _ => .fail
 | .agg l, .agg m =>
   bif T.eq t && T.fits t l then (match op, lY l m with
   | .eql, some t => .done (aS st d (.one (.bool t)))
   | .neq, some t => .done (aS st d (.one (.bool (!t))))
   | _, _ => .fail) else .fail
 | _, _ => .fail
def CV.rG : CV → Bool
 | .bad => false
 | _ => true
def V.rG : V → Bool
 | .one c => c.rG
 | .agg cs => cs.all CV.rG
 | .lU _ => false
def bp (st : St) (d : Option Nat) (A : gr) : N :=
 match d with
 | some d => match nth st d with
   | some s0 => .done (lN (fun s => { s with v := .one (.ref d 0 (s0.ag + 1) .full), aJ := [some A], ag := s0.ag + 1 }) st d)
   | none => .fail
 | none => .fail
def gX (st : St) (d : Option Nat) (cs : List CV) : N :=
 match d with
 | some d => match nth st d with
   | some s0 => .done (lN (fun s => { s with v := .one (.ptr d (s0.bg + 1) 0), box := some cs, bg := s0.bg + 1 }) st d)
   | none => .fail
 | none => .fail
def mG (r : RT) : List CV := (dP r (rF r)).map fun | .shr _ _ => .dL | c => c
def eJ (n off : Nat) (cs : List CV) : Option (List CV) :=
 let l := (cs.drop off).take n
 bif Nat.beq l.length n then some l else none
def putCells (cs : List CV) (off : Nat) (l : List CV) : Option (List CV) :=
 bif Nat.ble (off + l.length) cs.length then some (cs.take off ++ l ++ cs.drop (off + l.length)) else none
def MR (T : kh) (t : Nat) (l : List CV) : V := bif T.agg t then .agg l else (match l with | [c] => .one c | _ => .one .bad)
def tQ (T : kh) (st : St) (d : Option Nat) (t : Nat) (a : V) : N :=
 match a, T.cells t with
 | .one (.ptr b g off), some n => match dx st b g with
   | some cs => match eJ n off cs with
     | some l => .done (aS st d (MR T t l))
     | none => .fail
   | none => .fail
 | .one (.kC r x off), some n => match eJ n off (dP r x) with
   | some l => .done (aS st d (MR T t l))
   | none => .fail
 | .one (.re r xs off), some n => .row r xs[0]? fun x => match eJ n off (dP r x) with
   | some l => .done (aS st d (MR T t l))
   | none => .fail
 | .one (.F5 a j g i off), some n => match aQ st a j g with
   | some A => (match A.md with
     | .sh => .row A.r A.xs[i]? fun x => match eJ n off (dP A.r x) with
       | some l => .done (aS st d (MR T t l))
       | none => .fail
     | .dp => .row A.r A.xs[i]? fun x => match eJ n off (oO a j g (lh st a) i 0 A.r x) with
       | some l => .done (aS st d (MR T t l))
       | none => .fail
     | .ho _ => .fail)
   | none => .fail
 | _, _ => .fail
def jT (r : RT) (x : aq r) : (off : Nat) → List CV → Option (aq r)
 | _, [] => some x
 | off, c :: l => match jT r x (off + 1) l with
   | some y => fp r y off c
   | none => none
def gr.put (A : gr) (ys : List (aq A.r)) : gr := { A with xs := ys }
def rf (T : kh) (st : St) (t : Nat) (a v : V) : N :=
 match a, T.cells t with
 | .one (.ptr b g off), some n => match dx st b g with
   | some cs => bif v.rG && Nat.beq v.cells.length n then (match putCells cs off v.cells with
     | some l => .done (lN (fun s => { s with box := some l }) st b)
     | none => .fail) else .fail
   | none => .fail
 | .one (.F5 a j g i off), some n => match aQ st a j g with
   | some A => bif v.rG && A.own && Nat.beq v.cells.length n && Nat.blt 0 n then
       (bif Nat.beq n A.r.width && A.r.dX && Nat.beq off 0 then
         (match A.md with
         | .sh => rowOf st A.r v.cells fun x m => bif m.all (fun p => !(Nat.beq p.1 a && Nat.beq p.2 j)) then
           .row A.r A.xs[i]? (fun _ => .done (bo (freeze st m) a j (some (A.put (A.xs.set i x))))) else .fail
         | .dp => (match gl st A.r v.cells with
           | some p => bif distinct (dM p.2) && (dM p.2).all (fun p => !(Nat.beq p.1 a && Nat.beq p.2 j)) then
             .row A.r A.xs[i]? (fun _ => .done (bo (gv st (dM p.2)) a j (some (A.put (A.xs.set i p.1))))) else .fail
           | none => .fail)
         | .ho q => (match gl st A.r v.cells with
           | some p => bif distinct (dM p.2) && (dM p.2).all (fun p => !(Nat.beq p.1 a && Nat.beq p.2 j)) then
             .br (Nat.beq i q) (.row A.r A.xs[i]? (fun _ => .done (bo (gv st (dM p.2)) a j (some { A.put (A.xs.set i p.1) with md := .dp })))) .fail else .fail
           | none => .fail))
       else bif A.md.DN then .fail else .row A.r A.xs[i]? fun x => match jT A.r x off v.cells with
         | some y => .done (bo st a j (some (A.put (A.xs.set i y))))
         | none => .fail) else .fail
   | none => .fail
 | _, _ => .fail
def nR (T : kh) (st : St) (d : Option Nat) (t : Nat) (x ix : V) : N :=
 match T.elem t, x, ix with
 | some (q, _), .one (.shr r xs), .one (.int _ i) => match bA q xs with
   | some ys => .br (decide (0 ≤ i)) (.row q ys[i.toNat]? fun y => .done (aS st d (.one (.kC q y 0)))) .fail
   | none => .fail
 | some (q, _), .one (.ref a j g w), .one (.int _ i) => match aQ st a j g with
   | some A => match bA q A.xs with
     | some ys => (match A.own with
       | false => bif !A.md.is .sh then .fail else .br (decide (0 ≤ i)) (.row q (w.app ys)[i.toNat]? fun y => .done (aS st d (.one (.kC q y 0)))) .fail
       | true => .br (decide (0 ≤ i)) (.br (Nat.blt i.toNat (w.app ys).length) (.done (aS st d (.one (.F5 a j g (w.idx i.toNat) 0)))) .fail) .fail)
     | none => .fail
   | none => .fail
 | _, _, _ => .fail
def mH (n : Nat) (lo hi : Option V) (k : Option Nat → Option Nat → N) : N :=
 let H6 (l : Option Nat) : N := match hi with
   | none => k l none
   | some (.one (.int _ h)) => .br (decide ((match l with | some l => (l : Int) | none => 0) ≤ h)) (.br (decide (h ≤ n)) (k l (some h.toNat)) .fail) .fail
   | _ => .fail
 match lo with
 | none => H6 none
 | some (.one (.int _ l)) => .br (decide (0 ≤ l)) (match hi with
   | none => .br (decide (l ≤ n)) (H6 (some l.toNat)) .fail
   | _ => H6 (some l.toNat)) .fail
 | _ => .fail
def H7 (n : Nat) : Option Nat → Option Nat → View
 | none, none => .full
 | some l, none => .from l
 | none, some h => .sub 0 h
 | some l, some h => .sub l (h - l)
def View.of (w : View) (n : Nat) (lo hi : Option Nat) : View :=
 match lo, hi with
 | none, none => w
 | some l, none => (match w with | .full => .from l | .from a => .from (a + l) | .sub a m => .sub (a + l) (m - l))
 | none, some h => .sub w.lo h
 | some l, some h => .sub (w.lo + l) (h - l)
def sq (T : kh) (st : St) (d : Option Nat) (t : Nat) (x : V) (lo hi : Option V) : N :=
 match x with
 | .one (.str s) => match T.kind t with
   | some .str => mH s.size lo hi fun l h =>
     .done (aS st d (.one (.str (s.extract (l.getD 0) (h.getD s.size)))))
   | _ => .fail
 | .one .dL => match T.elem t with
   | some _ => mH 0 lo hi fun _ _ => .done (aS st d (.one .dL))
   | none => .fail
 | .one (.shr r xs) => match T.elem t with
   | some (q, _) => match bA q xs with
     | some ys => mH ys.length lo hi fun l h => .done (aS st d (.one (.shr q ((H7 ys.length l h).app ys))))
     | none => .fail
   | none => .fail
 | .one (.ref a j g w) => match T.elem t, aQ st a j g with
   | some (q, _), some A => match bA q A.xs with
     | some ys => mH (w.app ys).length lo hi fun l h => .done (aS st d (.one (.ref a j g (w.of (w.app ys).length l h))))
     | none => .fail
   | _, _ => .fail
 | _ => .fail
def EN (T : kh) (st : St) (d : Option Nat) (t : Nat) (x : V) : N :=
 match x with
 | .one (.str s) => match T.kind t with
   | some .str => .done (aS st d (.one (.int .i64 s.size)))
   | _ => .fail
 | .one .dL => match T.elem t with
   | some _ => .done (aS st d (.one (.int .i64 0)))
   | none => .fail
 | .one (.shr _ xs) => match T.elem t with
   | some _ => .done (aS st d (.one (.int .i64 xs.length)))
   | none => .fail
 | .one (.ref a j g w) => match T.elem t, aQ st a j g with
   | some _, some A => .done (aS st d (.one (.int .i64 (w.app A.xs).length)))
   | _, _ => .fail
 | _ => .fail
def MS (st : St) : V → Option (Nat × Nat × gr)
 | .one (.ref a j g .full) => match aQ st a j g with
   | some A => bif A.own && A.md.is .dp then some (a, j, A) else none
   | none => none
 | _ => none
def Bm (st : St) (d : Option Nat) (r : RT) (bytes : Nat) (x : V) (b k : Nat) (ys : List (aq r)) : N :=
 match x with
 | .one .dL => .br (Nat.ble ((([] : List (aq r)).length + ys.length) * bytes) lim) (bp (gv st [(b, k)]) d { r := r, own := true, xs := [] ++ ys, md := .dp }) .fail
 | .one (.ref a j g w) => match MS st (.one (.ref a j g w)) with
   | some (_, _, A) => (match bA r A.xs with
     | some xs => bif !(Nat.beq a b && Nat.beq j k) then .br (Nat.ble ((xs.length + ys.length) * bytes) lim) (bp (gv st [(a, j), (b, k)]) d { r := r, own := true, xs := xs ++ ys, md := .dp }) .fail else .fail
     | none => .fail)
   | none => .fail
 | _ => .fail
def A6 (T : kh) (st : St) (d : Option Nat) (t : Nat) (x y : V) : N :=
 match T.elem t with
 | none => .fail
 | some (r, bytes) =>
   match MS st y with
   | some (b, k, B) => (match bA r B.xs with | some ys => Bm st d r bytes x b k ys | none => .fail)
   | none =>
   let out (xs : List (aq r)) (used : List (Nat × Nat)) : N :=
     match y with
     | .one c => kL st r c fun ys =>
         .br (Nat.ble ((xs.length + ys.length) * bytes) lim)
           (bp (used.foldl (fun s p => bo s p.1 p.2 none) st) d { r := r, own := true, xs := xs ++ ys }) .fail
     | _ => .fail
   match x with
   | .one .dL => out [] []
   | .one (.ref a j g w) => match aQ st a j g with
     | some A => bif A.own && A.md.is .sh then (match bA r A.xs with | some xs => out (w.app xs) [(a, j)] | none => .fail) else .fail
     | none => .fail
   | _ => .fail
def MT (T : kh) (st : St) (d : Option Nat) (t : Nat) (len cap : V) : N :=
 match T.elem t, len, cap with
 | some (r, bytes), .one (.int .i64 n), .one (.int .i64 c) =>
   .br (decide (n = c)) (.br (decide (0 ≤ n)) (.br (Nat.ble (n.toNat * bytes) lim)
     (bp st d { r := r, own := true, xs := List.replicate n.toNat (rF r), md := bif T.dp t then .dp else .sh }) .fail) .fail) .fail
 | _, _, _ => .fail
def vL (st : St) (r : RT) : (i : Nat) → List (Nat × V) → (k : List (aq r) → List (Nat × Nat) → N) → N
 | _, [], k => k [] []
 | i, (p, v) :: l, k => bif v.rG && Nat.beq p i then rowOf st r v.cells fun x m => vL st r (i + 1) l fun xs m' => k (x :: xs) (m ++ m') else .fail
def H8 (st : St) (r : RT) : List (Nat × V) → Option (List (aq r) × List (Option (Nat × Nat)))
 | [] => some ([], [])
 | [(p, v)] => bif v.rG && Nat.beq p 0 then (match gl st r v.cells with | some q => some ([q.1], q.2) | none => none) else none
 | _ => none
def uo (T : kh) (st : St) (d : Option Nat) (t len : Nat) (parts : List (Nat × V)) : N :=
 match T.elem t with
 | some (r, _) => bif Nat.beq parts.length len && Nat.ble (len * r.width) 16777216 then
     (match (bif T.dp t then H8 st r parts else none) with
     | some p => bif distinct (dM p.2) then bp (gv st (dM p.2)) d { r := r, own := true, xs := p.1, md := .dp } else .fail
     | none => vL st r 0 parts fun xs m => bp (freeze st m) d { r := r, own := true, xs := xs })
   else .fail
 | none => .fail
def mI (T : kh) (t : Nat) (cs : List CV) : List (Nat × V) → Option (List CV)
 | [] => some cs
 | (f, v) :: l => match T.off t f, T.Wj t f with
   | some o, some s => bif v.rG && Nat.beq v.cells.length s then (match putCells cs o v.cells with
     | some lV => mI T t lV l
     | none => none) else none
   | _, _ => none
def View.isFull : View → Bool
 | .full => true
 | _ => false
def mA (st : St) (s : Nat) : Nat := match nth st s with | some x => x.ag | none => 0
def fq (st : St) (own : Bool) : CV → Option (OV × Option Lb × List (Nat × Nat))
 | .int q n => some (.int q n, none, [])
 | .bool b => some (.bool b, none, [])
 | .str s => some (.str s, none, [])
 | .dL => some (.dL, none, [])
 | .shr r xs => some (.shr r xs, none, [])
 | .nn r xs => some (.shr r xs, none, [])
 | .ref a j g w => match aQ st a j g with
   | some A => bif A.md.DN then none else bif own && A.own && (A.md.is .sh || w.isFull) then some (.own { A with xs := w.app A.xs }, some (.sp a j), []) else some (.shr A.r (w.app A.xs), none, [(a, j)])
   | none => none
 | .nQ a j g e _ _ q ys => match aQ st a j g with
   | some A => bif A.md.is .dp && Nat.beq e (lh st a) then some (.shr q ys, none, [(a, j)]) else none
   | none => none
 | .kC r x off => bif Nat.beq off 0 then some (.kC r [x], none, []) else none
 | .re r xs off => bif Nat.beq off 0 then some (.kC r xs, none, []) else none
 | .fn f rs xs => some (.fn f rs xs, none, [])
 | _ => none
def eI (st : St) (own : Bool) : List CV → Option (List OV × List (Option Lb) × List (Nat × Nat))
 | [] => some ([], [], [])
 | c :: l => match fq st own c, eI st own l with
   | some (o, u, r), some (os, us, rs) => some (o :: os, u :: us, r ++ rs)
   | _, _ => none
def bI : List (Option Lb) → List Lb
 | [] => []
 | some l :: ls => l :: bI ls
 | none :: ls => bI ls
def Pm.mB : Pm → Bool
 | .own => true
 | _ => false
def MU (st : St) : CV → Bool
 | .ref a j g w => (match w with | .full => true | _ => false) && (match aQ st a j g with | some A => A.own | none => false)
 | _ => true
def dY (st : St) (m : Pm) : V → Option (AV × List Lb × List Lb × List (Nat × Nat))
 | .one (.ptr b g off) => match dx st b g with
   | some cs => (match eI st true cs with
     | some (os, u, r) => bif Nat.beq off 0 then some (.box os, .box b :: bI u, bI u, r) else none
     | none => none)
   | none => none
 | .one (.ref a j g w) => match m with
   | .io => (match w, aQ st a j g with
     | .full, some A => bif A.own && !A.md.DN then some (.io A, [.sp a j], [], []) else none
     | _, _ => none)
   | m => match eI st m.mB [.ref a j g w] with
     | some (os, u, r) => some (.val false os, bI u, bI u, r)
     | none => none
 | .one c => match eI st false [c] with
   | some (os, u, r) => some (.val false os, bI u, bI u, r)
   | none => none
 | .agg cs => match m with
   | .bD => (match eI st true cs with
     | some (os, u, r) => bif cs.all (MU st) then some (.bD os, bI u, [], r) else none
     | none => none)
   | m => match eI st m.mB cs with
     | some (os, u, r) => some (.val true os, bI u, bI u, r)
     | none => none
 | .lU _ => none
def gY (st : St) : List (Pm × V) → Option (List AV × List Lb × List Lb × List (Nat × Nat))
 | [] => some ([], [], [], [])
 | (m, v) :: l => match dY st m v, gY st l with
   | some (a, u, q, r), some (as, us, qs, rs) => some (a :: as, u ++ us, q ++ qs, r ++ rs)
   | _, _ => none
def sr : List Lb → Bool
 | [] => true
 | x :: l => l.all (fun y => !(Lb.same x y)) && sr l
def apart (used : List Lb) (reads : List (Nat × Nat)) : Bool :=
 reads.all fun p => used.all fun q => !(Lb.same q (.sp p.1 p.2))
def m9 (st : St) : List Lb → St
 | [] => st
 | .sp a j :: l => m9 (bo st a j none) l
 | _ :: l => m9 st l
def OV.plain : OV → Bool
 | .own A => !A.r.dX || A.md.is .dp
 | .shr _ _ => false
 | .kC _ _ => false
 | .fn _ _ _ => false
 | _ => true
def XV.plain : XV → Bool
 | .io A => !A.r.dX || A.md.is .dp
 | .box os => os.all OV.plain
 | .bD As => As.all fun | some A => !A.r.dX || A.md.is .dp | none => true
def Zz.plain (r : Zz) : Bool :=
 r.outs.all (fun o => o.uk.all OV.plain) && r.exts.all XV.plain
def Bn (st : St) : (j : Nat) → List CV → List (Option gr) → Option St
 | _, [], _ => some st
 | j, .ref a k g _ :: cs, As => match nth As j, aQ st a k g with
   | some (some B), some _ => Bn (bo st a k (some B)) (j + 1) cs As
   | _, _ => none
 | j, _ :: cs, As => Bn st (j + 1) cs As
def qM (st : St) (m : Pm) (v : V) (xs : List XV) : Option (St × List XV) :=
 match v with
 | .one (.ptr b g _) => match xs with
   | .box os :: xs => (match nth st b, dx st b g with
     | some s0, some _ => some (lN (fun s => { s with box := some (aV b (s0.ag + 1) 0 os), aJ := aX os, ag := s0.ag + 1 }) st b, xs)
     | _, _ => none)
   | _ => none
 | .one (.ref a j g _) => match m with
   | .io => (match xs, aQ st a j g with
     | .io A :: xs, some _ => some (bo st a j (some A), xs)
     | _, _ => none)
   | _ => some (st, xs)
 | .agg cs => match m with
   | .bD => (match xs with
     | .bD As :: xs => (Bn st 0 cs As).map fun aP => (aP, xs)
     | _ => none)
   | _ => some (st, xs)
 | _ => some (st, xs)
def ss (st : St) : List (Pm × V) → List XV → Option St
 | [], [] => some st
 | [], _ => none
 | (m, v) :: l, xs => match qM st m v xs with
   | some (aP, Wm) => ss aP l Wm
   | none => none
def tR (a b c : Pm) : List V → List (Pm × V)
 | [] => []
 | [x] => [(a, x)]
 | [x, y] => [(a, x), (b, y)]
 | x :: y :: z :: l => (a, x) :: (b, y) :: (c, z) :: l.map fun v => (.shr, v)
def refsOf : List CV → List (Nat × Nat)
 | [] => []
 | .ref a j _ _ :: l => (a, j) :: refsOf l
 | _ :: l => refsOf l
def Bo (st : St) : List (Pm × V) → List (Nat × Nat)
 | [] => []
 | (.own, .one (.ptr b g _)) :: l => (match dx st b g with | some cs => refsOf cs | none => []) ++ Bo st l
 | (.pick q, .one (.ptr b g _)) :: l => (match dx st b g with | some cs => refsOf (q.filterMap (nth cs)) | none => []) ++ Bo st l
 | _ :: l => Bo st l
def xN (st : St) : St := st.map fun s => { s with ep := s.ep + 1 }
def F7 (st : St) (d : Option Nat) (zU : ud) (ms : List (Pm × V)) (fin : St → N) : N :=
   match gY st ms with
   | some (dC, used, Wn, reads) => bif sr used && apart used reads then (match zU dC with
     | some A => .row A.r A.o fun x => (match ss (m9 (xN (bif (A.res x).plain then st else freeze st reads)) Wn) ms (A.res x).exts with
       | some aP => (match um aP d (A.res x).outs with
         | some RQ => fin RQ
         | none => .fail)
       | none => .fail)
     | none => .fail) else .fail
   | none => .fail
structure Dr where
 a : Nat
 j : Nat
 g : Nat
 e : Nat
 i : Nat
 k : Nat
 q : RT
 ys : List (aq q)
def wC : List CV → List Dr
 | [] => []
 | .nQ a j g e i k q ys :: l => ⟨a, j, g, e, i, k, q, ys⟩ :: wC l
 | _ :: l => wC l
def pC : List (Pm × V) → List Dr
 | [] => []
 | (.io, .one c) :: l => wC [c] ++ pC l
 | (.bD, .agg cs) :: l => wC cs ++ pC l
 | _ :: l => pC l
def EO : List Nat → Bool
 | [] => true
 | [_] => true
 | a :: b :: l => Nat.blt a b && EO (b :: l)
def Dr.arr (x : Dr) : gr := { r := x.q, own := true, xs := x.ys, md := bif x.q.dX then .dp else .sh }
def kU (st : St) (ms : List (Pm × V)) : Option (Dr × gr × List Dr) :=
 match pC ms with
 | [] => none
 | x :: l => match aQ st x.a x.j x.g with
   | some A => bif A.own && A.md.is .dp && Nat.beq x.e (lh st x.a) && l.all (fun y => Nat.beq y.a x.a && Nat.beq y.j x.j && Nat.beq y.g x.g && Nat.beq y.e x.e && Nat.beq y.i x.i) &&
       EO ((x :: l).map (·.k)) && !Nat.beq x.a (st.length - 1) then some (x, A, x :: l) else none
   | none => none
def posOf (k : Nat) : (n : Nat) → List Dr → Nat
 | n, [] => n
 | n, x :: l => bif Nat.beq x.k k then n else posOf k (n + 1) l
def RR (P g : Nat) (l : List Dr) : CV → CV
 | .nQ _ _ _ _ _ k _ _ => .ref P (posOf k 0 l) g .full
 | c => c
def Px (P g : Nat) (l : List Dr) : Pm × V → Pm × V
 | (.io, .one c) => (.io, .one (RR P g l c))
 | (.bD, .agg cs) => (.bD, .agg (cs.map (RR P g l)))
 | x => x
def ek (st : St) (x : Dr) (A : gr) (l : List Dr) : St :=
 lN (fun s => { s with aJ := l.map (fun y => some y.arr), ag := s.ag + 1, ep := s.ep + 1 }) (bo st x.a x.j (some { A with md := .ho x.i })) (st.length - 1)
def su (st : St) (P g : Nat) (r : RT) : (n : Nat) → List Dr → aq r → Option (aq r)
 | _, [], z => some z
 | n, y :: l, z => match aQ st P n g with
   | some B => bif B.own && B.md.is (bif y.q.dX then .dp else .sh) then (match bA y.q B.xs with
     | some ys => (match lW r z y.k y.q ys with
       | some z' => su st P g r (n + 1) l z'
       | none => none)
     | none => none) else none
   | none => none
def H9 (P g : Nat) (x : Dr) (A : gr) (l : List Dr) (st : St) : N :=
 match aQ st x.a x.j x.g with
 | some H => bif H.md.DN then (.row A.r A.xs[x.i]? fun z => match su st P g A.r 0 l z with
   | some z' => .done (bo (lN (fun s => { s with aJ := [], ep := s.ep + 1 }) st P) x.a x.j (some (A.put (A.xs.set x.i z'))))
   | none => .fail) else .fail
 | none => .fail
def EP (T : kh) (st : St) (d : Option Nat) (t : Nat) (x y : V) : N :=
 match kU st [(.io, x)] with
 | none => A6 T st d t x y
 | some (z, A, l) => A6 T (ek st z A l) d t (Px (st.length - 1) (mA st (st.length - 1) + 1) l (.io, x)).2 y
def F8 (st : St) (o : Oper) : Bool :=
 match o.op with
 | .call { callee := .builtin .append, args := args, argTypes := _ } => (match args.toList with
   | x :: _ => (kU st [(.io, kM st x)]).isSome
   | _ => false)
 | _ => false
def QW (st : St) (d : Option Nat) (zU : ud) (ms : List (Pm × V)) : N :=
 match kU st ms with
 | none => F7 st d zU ms .done
 | some (x, A, l) => F7 (ek st x A l) d zU (ms.map (Px (st.length - 1) (mA st (st.length - 1) + 1) l)) (H9 (st.length - 1) (mA st (st.length - 1) + 1) x A l)
def zV (st : St) : CV → CV
 | .ref a j g .full => match aQ st a j g with
   | some A => bif A.own then .ref a j g .full else bif A.md.is .sh then .shr A.r A.xs else .ref a j g .full
   | none => .ref a j g .full
 | x => x
def MV (st : St) : V → V
 | .one x => .one (zV st x)
 | .agg cs => .agg (cs.map (zV st))
 | x => x
def QX (st : St) (s : Sl) : Sl := { s with v := MV st s.v, box := s.box.map fun cs => cs.map (zV st) }
def sv (st : St) : St := st.map (QX st)
def Pm.MW : Pm → Bool
 | .pick _ => true
 | _ => false
def zW (ms : List (Pm × V)) (st : St) : St := bif ms.any (fun m => m.1.MW) then sv st else st
def DO (S : jC) (st : St) (d : Option Nat) (f : FuncId) (args : List V) : N :=
 match S f with
 | none => .fail
 | some (a, b, c, zU) => QW (zW (tR a b c args) (freeze st (Bo st (tR a b c args)))) d zU (tR a b c args)
def dQ : List CV → Option ((r : RT) × aq r)
 | [] => some ⟨.nil, ()⟩
 | .int k n :: l => match dQ l with | some ⟨r, x⟩ => some ⟨.cons (.int k) r, (n, x)⟩ | none => none
 | .bool b :: l => match dQ l with | some ⟨r, x⟩ => some ⟨.cons .bool r, (b, x)⟩ | none => none
 | .str s :: l => match dQ l with | some ⟨r, x⟩ => some ⟨.cons .str r, (s, x)⟩ | none => none
 | .shr q xs :: l => match dQ l with | some ⟨r, x⟩ => some ⟨.cons (.sl q) r, (xs, x)⟩ | none => none
 | _ => none
def fk (st : St) (b : Nat) : St := lN (fun s => { s with box := none }) st b
def Z6 (b g : Nat) (r : RT) (x : aq r) : V → V
 | .one (.ptr b' g' off) => bif Nat.beq b' b && Nat.beq g' g then .one (.kC r x off) else .one (.ptr b' g' off)
 | v => v
def lZ (st : St) (b g : Nat) (r : RT) (x : aq r) : St := st.map fun s => { s with v := Z6 b g r x s.v }
def Py (st : St) (t : Nat) : Option (St × ((r : RT) × List (aq r))) :=
 match bW st t with
 | .one (.kC r x off) => bif Nat.beq off 0 then some (st, ⟨r, [x]⟩) else none
 | .one (.re r xs off) => bif Nat.beq off 0 then some (st, ⟨r, xs⟩) else none
 | .one (.ptr b g off) => match dx st b g with
   | some cs => bif Nat.beq off 0 then (match dQ cs with
     | some ⟨r, x⟩ => some (lZ (fk st b) b g r x, ⟨r, [x]⟩)
     | none => none) else none
   | none => none
 | _ => none
def wj (st : St) : List Operand → Option (St × ((rs : RT) × aq rs))
 | [] => some (st, ⟨.nil, ()⟩)
 | .tmp t :: l => match Py st t with
   | some (aP, ⟨r, ys⟩) => (match wj aP l with
     | some (RQ, ⟨rs, xs⟩) => some (RQ, ⟨.cons (.sl r) rs, (ys, xs)⟩)
     | none => none)
   | none => none
 | _ => none
def tS : (rs : RT) → aq rs → List V
 | .nil, _ => []
 | .cons (.sl r) rs, x => .one (.re r x.1 0) :: tS rs x.2
 | .cons _ rs, x => .one .bad :: tS rs x.2
def JY (y : aq (.cons (.int .u8) .nil)) : Int := y.1
def bytesOf (ys : List (aq (.cons (.int .u8) .nil))) : ByteArray := ys.foldl (fun r y => r.push (UInt8.ofNat (JY y).toNat)) ByteArray.empty
def HW (T : kh) (S : jC) (st : St) (o : Oper) : N :=
 match o.op with
 | .move x | .assign x => .done (aS st o.dst (kM st x))
 | .pick c a b => match kM st c with
   | .one (.bool x) => .br x (.done (aS st o.dst (kM st a))) (.done (aS st o.dst (kM st b)))
   | _ => .fail
 | .alloc t => match T.row t with
   | some r => gX st o.dst (mG r)
   | none => .fail
 | .box t x => match T.cells t with
   | some n => bif (kM st x).rG && Nat.beq (kM st x).cells.length n then (match (bif T.cap t then dQ (kM st x).cells else none) with
     | some ⟨r, y⟩ => .done (aS st o.dst (.one (.kC r y 0)))
     | none => gX st o.dst (kM st x).cells) else .fail
   | none => .fail
 | .build t parts => match T.row t, T.agg t with
   | some r, true => (match mI T t (mG r) (parts.toList.map fun p => (p.1, kM st p.2)) with
     | some cs => .done (aS st o.dst (.agg cs))
     | none => .fail)
   | _, _ => .fail
 | .buildSlice t len parts => uo T st o.dst t len (parts.toList.map fun p => (p.1, kM st p.2))
 | .load t a => tQ T st o.dst t (kM st a)
 | .store t a v => (match o.dst with
   | none => rf T st t (kM st a) (kM st v)
   | some _ => .fail)
 | .nilCheck x => match kM st x with
   | .one (.ptr b g off) => (match dx st b g with
     | some _ => .done (aS st o.dst (.one (.ptr b g off)))
     | none => .fail)
   | .one (.F5 a j g i off) => (match aQ st a j g with
     | some _ => .done (aS st o.dst (.one (.F5 a j g i off)))
     | none => .fail)
   | _ => .fail
 | .binOp op t x y _ => ue T st o.dst op t (kM st x) (kM st y)
 | .unOp .not _ x => match kM st x with
   | .one (.bool b) => .done (aS st o.dst (.one (.bool (!b))))
   | _ => .fail
 | .convert s t x => match T.kind s, T.kind t, kM st x with
   | some (.int _), some (.int k), .one (.int _ n) => .done (aS st o.dst (.one (.int k (k.wrap n))))
   | some .str, some .str, .one (.str b) => .done (aS st o.dst (.one (.str b)))
   | none, some .str, .one c => (match T.elem s with
     | some (.cons (.int .u8) .nil, _) => kL st (.cons (.int .u8) .nil) c fun ys => .done (aS st o.dst (.one (.str (bytesOf ys))))
     | _ => .fail)
   | _, _, _ => .fail
 | .makeSlice t l c => MT T st o.dst t (kM st l) (kM st c)
 | .slice t x lo hi none => sq T st o.dst t (kM st x) (lo.map (kM st)) (hi.map (kM st))
 | .fieldAddr t x f => match kM st x, T.off t f with
   | .one (.ptr b g off), some k => (match dx st b g with
     | some _ => .done (aS st o.dst (.one (.ptr b g (off + k))))
     | none => .fail)
   | .one (.F5 a j g i off), some k => (match aQ st a j g with
     | some _ => .done (aS st o.dst (.one (.F5 a j g i (off + k))))
     | none => .fail)
   | .one (.kC r x off), some k => .done (aS st o.dst (.one (.kC r x (off + k))))
   | .one (.re r xs off), some k => .done (aS st o.dst (.one (.re r xs (off + k))))
   | _, _ => .fail
 | .field t x f => match kM st x, T.off t f with
   | .agg cs, some k => bif T.one t f then (match nth cs k with
     | some c => .done (aS st o.dst (.one c))
     | none => .fail) else .fail
   | _, _ => .fail
 | .indexAddr t x i => nR T st o.dst t (kM st x) (kM st i)
 | .index t x i => match T.kind t, kM st x, kM st i with
   | some .str, .one (.str s), .one (.int _ n) => .br (decide (0 ≤ n)) (.br (decide (n < s.size)) (.done (aS st o.dst (.one (.int .u8 (EM s n))))) .fail) .fail
   | _, _, _ => .fail
 | .extract t i => match kM st t with
   | .lU vs => match nth vs i with
     | some v => .done (aS st o.dst v)
     | none => .fail
   | _ => .fail
 | .call { callee := .value (.func f), args := args, argTypes := _ } => DO S st o.dst f (args.toList.map (kM st))
 | .call { callee := .value (.tmp t), args := args, argTypes := _ } => (match bW st t with
   | .one (.fn g rs xs) => .row rs xs[0]? fun x => DO S st o.dst g (args.toList.map (kM st) ++ tS rs x)
   | _ => .fail)
 | .makeFunc (.func g) first uq => bif first.isEmpty then (match wj st uq.toList with
   | some (aP, ⟨rs, x⟩) => .done (aS aP o.dst (.one (.fn g rs [x])))
   | none => .fail) else .fail
 | .call { callee := .builtin b, args := args, argTypes := ts } => match b, args.toList, ts.toList with
   | .len, [x], [t] => EN T st o.dst t (kM st x)
   | .append, [x, y], [t, u] => bif Nat.beq t u then EP T st o.dst t (kM st x) (kM st y) else .fail
   | .min, [x, y], _ => (match kM st x, kM st y with
     | .one (.int k a), .one (.int _ b) => .done (aS st o.dst (.one (.int k (if b < a then b else a))))
     | _, _ => .fail)
   | .max, [x, y], _ => (match kM st x, kM st y with
     | .one (.int k a), .one (.int _ b) => .done (aS st o.dst (.one (.int k (if b > a then b else a))))
     | _, _ => .fail)
   | .min, [x, y, z], _ => (match kM st x, kM st y, kM st z with
     | .one (.int k a), .one (.int _ b), .one (.int _ c) => .done (aS st o.dst (.one (.int k (if c < (if b < a then b else a) then c else (if b < a then b else a)))))
     | _, _, _ => .fail)
   | _, _, _ => .fail
 | _ => .fail
def zj (T : kh) (S : jC) (ops : List Oper) (st : St) (o : Oper) : N :=
 match o.guard with
 | none => HW T S st o
 | some (j, want) => match (nth ops j).bind (·.dst) with
   | some d => match bW st d with
     | .one (.bool b) =>
       let yes (x : Bool) : N := HW T S (aS st (some d) (.one (.bool x))) o
       let no (x : Bool) : N := .done (aS (aS st (some d) (.one (.bool x))) o.dst (.lU []))
       .br b (bif want then yes true else no true) (bif want then no false else yes false)
     | .lU [] => .done (aS st o.dst (.lU []))
     | _ => .fail
   | none => .fail
inductive Ex where
 | normal
 | exit (n : Nat)
 | ret
open Classical in
noncomputable def both {R : Type} (a b : Option R) : Option R := if a = b then a else none
theorem cC {R : Type} (a : Option R) : both a a = a := by unfold both; rw [if_pos rfl]
theorem KN {R : Type} {a b : Option R} {r : R} (h : both a b = some r) : a = some r ∧ b = some r := by
 unfold both at h
 split at h
 · rename_i e; exact ⟨h, e ▸ h⟩
 · cases h
section
variable {R : Type} (T : kh) (S : jC)
def Pz (ops : List Oper) : List Oper → St → (St → Option R) → Option R
 | [], st, k => k st
 | o :: r, st, k => (zj T S ops st o).fold fun aP => Pz ops r aP k
inductive Kd where
 | any | take | one | last
inductive Pl where
 | nil
 | op (i : Nat) (kd : Kd) (p : Pl)
 | alt (p q : Pl)
def Ia (st : St) (ms : List (Pm × V)) : Bool :=
 match gY st ms with
   | some (_, used, _, _) => used.isEmpty
   | none => true
def pn (S : jC) (st : St) (f : FuncId) (args : List V) : Bool :=
 match S f with
 | some (a, b, c, _) => (match kU (zW (tR a b c args) (freeze st (Bo st (tR a b c args)))) (tR a b c args) with | none => Ia (zW (tR a b c args) (freeze st (Bo st (tR a b c args)))) (tR a b c args) | some _ => false)
 | none => true
def kindOk (S : jC) (st : St) (o : Oper) : Kd → Bool
 | .any => match o.op with
   | .move _ | .assign _ | .pick _ _ _ | .nilCheck _ | .binOp _ _ _ _ _ | .unOp _ _ _ | .slice _ _ _ _ _ | .fieldAddr _ _ _ | .indexAddr _ _ _ | .index _ _ _ | .extract _ _ | .build _ _ | .field _ _ _ => true
   | .convert _ _ x => (match kM st x with | .one (.nQ _ _ _ _ _ _ _ _) => false | .one (.shr _ _) => false | .one (.nn _ _) => false | .one (.ref _ _ _ _) => false | .one .dL => false | _ => true)
   | .call { callee := .builtin b, .. } => (match b with | .len | .min | .max => true | _ => false)
   | _ => false
 | .take => match o.op with
   | .load _ _ => true
   | _ => false
 | .one => match o.op with
   | .store _ _ _ => false
   | .call { callee := .builtin b, .. } => (match b with | .len | .min | .max => true | _ => false)
   | .call { callee := .value (.func f), args := args, .. } => pn S st f (args.toList.map (kM st))
   | .call { callee := .value (.tmp t), args := args, .. } => (match bW st t with
     | .one (.fn g rs xs) => (match xs[0]? with | some x => pn S st g (args.toList.map (kM st) ++ tS rs x) | none => true)
     | _ => true)
   | _ => true
 | .last => true
noncomputable def rh (ops : List Oper) : Pl → St → (St → Option R) → Option R
 | .nil, st, k => k st
 | .op i kd r, st, k => match nth ops i with
   | some o => bif kindOk S st o kd then (zj T S ops st o).fold fun aP => rh ops r aP k else none
   | none => none
 | .alt p q, st, k => both (rh ops p st k) (rh ops q st k)
abbrev l5 (R : Type) := Nat → Code → St → (Ex → St → Option R) → Option R
abbrev jU := Nat → Pl
noncomputable def eC (D : jU) (L : l5 R) : Code → St → (Ex → St → Option R) → Option R
 | .skip, st, k => k .normal st
 | .region _ ops false, st, k => Pz T S ops.toList ops.toList st fun aP => k .normal aP
 | .region id ops true, st, k => rh T S ops.toList (D id) st fun aP => k .normal aP
 | .seq a b, st, k => eC D L a st fun e aP => match e with
   | .normal => eC D L b aP k
   | e => k e aP
 | .cond (.tmp c) a b, st, k => match bW st c with
   | .one (.bool x) => bif x then eC D L a (aS st (some c) (.one (.bool true))) k else eC D L b (aS st (some c) (.one (.bool false))) k
   | _ => none
 | .block id (.loop b), st, k => L id b st k
 | .block id b, st, k => eC D L b st fun e aP => match e with
   | .exit n => bif Nat.beq n id then k .normal aP else k (.exit n) aP
   | e => k e aP
 | .exit id, st, k => k (.exit id) st
 | .ret, st, k => k .ret st
 | _, _, _ => none
end
end Go.TM
namespace Go.TM
open Go Go.RowKit
@[simp] theorem ZA {α : Type} (n : Nat) : nth ([] : List α) n = none := rfl
theorem fK {α : Type} (l : List α) (n : Nat) : nth l n = l[n]? := by
 induction l generalizing n with
 | nil => simp
 | cons x l ih => cases n <;> simp [nth, ih]
theorem iS {α : Type} (f : α → α) (l : List α) (n : Nat) : nth (lN f l n) n = (nth l n).map f := by
 induction l generalizing n with
 | nil => rfl
 | cons x l ih => cases n <;> simp [lN, nth, ih]
theorem lj {α : Type} (f : α → α) (l : List α) {n m : Nat} (h : m ≠ n) : nth (lN f l n) m = nth l m := by
 induction l generalizing n m with
 | nil => rfl
 | cons x l ih =>
   cases n with
   | zero => cases m with
     | zero => exact absurd rfl h
     | succ m => rfl
   | succ n => cases m with
     | zero => rfl
     | succ m => simp only [lN, nth]; exact ih (by omega)
theorem dz {α : Type} (f : α → α) (l : List α) (n m : Nat) : nth (lN f l n) m = if m = n then (nth l m).map f else nth l m := by
 by_cases h : m = n
 · subst h; simp [iS]
 · simp [h, lj f l h]
theorem ER {α : Type} {l : List α} {n : Nat} {x : α} (h : nth l n = some x) : n < l.length := by
 rw [fK] at h; exact (List.getElem?_eq_some_iff.1 h).1
def JZ {r : RT} (xs : den (.sl r)) : List (aq r) := xs
mutual
def bL (w : World) (ok : Nat → Prop) : (t : Ty) → Value → den t → Prop
 | .int k, v, n => v = .int k n
 | .bool, v, b => v = .bool b
 | .str, v, s => v = .string s
 | .sl r, v, xs => (v = .slice none 0 0 ∧ JZ xs = []) ∨
     ∃ a cap, v = .slice (some a) (JZ xs).length cap ∧ (JZ xs).length ≤ cap ∧
       (JZ xs ≠ [] → a.spot = none ∧ a.block < w.heap.size ∧ ok a.block) ∧
       ∀ i x, (JZ xs)[i]? = some x → cq w ok r a.block (a.off + i * r.width) x
def cq (w : World) (ok : Nat → Prop) : (r : RT) → (b off : Nat) → aq r → Prop
 | .nil, _, _, _ => True
 | .cons t r, b, off, x => (∃ v, w.cell? ⟨b, off, none⟩ = some v ∧ bL w ok t v x.1) ∧ cq w ok r b (off + 1) x.2
end
theorem mC (w : World) (ok : Nat → Prop) (r : RT) (v : Value) (xs : List (aq r)) : bL w ok (.sl r) v xs ↔
   ((v = .slice none 0 0 ∧ xs = []) ∨ ∃ a cap, v = .slice (some a) xs.length cap ∧ xs.length ≤ cap ∧
       (xs ≠ [] → a.spot = none ∧ a.block < w.heap.size ∧ ok a.block) ∧ ∀ i x, xs[i]? = some x → cq w ok r a.block (a.off + i * r.width) x) := by
 have := bL.eq_4 w ok v r xs; exact this ▸ Iff.rfl
theorem pD {w : World} {ok : Nat → Prop} {k : IntKind} {v : Value} {n : Int} : bL w ok (.int k) v n ↔ v = .int k n := bL.eq_1 w ok v k n ▸ Iff.rfl
theorem qN {w : World} {ok : Nat → Prop} {v : Value} {b : Bool} : bL w ok .bool v b ↔ v = .bool b := bL.eq_2 w ok v b ▸ Iff.rfl
theorem ur {w : World} {ok : Nat → Prop} {v : Value} {s : ByteArray} : bL w ok .str v s ↔ v = .string s := bL.eq_3 w ok v s ▸ Iff.rfl
structure ir (w w' : World) (ok xO : Nat → Prop) : Prop where
 size : w.heap.size ≤ w'.heap.size
 block : ∀ b, b < w.heap.size → ok b → w'.heap[b]? = w.heap[b]?
 ok : ∀ b, b < w.heap.size → ok b → xO b
theorem J0 {w : World} {a : Addr} {v : Value} (h : w.cell? a = some v) : a.block < w.heap.size := World.block_lt_of_cell? w a h
mutual
theorem bL.stays {w w' : World} {ok xO : Nat → Prop} (h : ir w w' ok xO) : (t : Ty) → (v : Value) → (x : den t) → bL w ok t v x → bL w' xO t v x
 | .int _, _, _, hr => by unfold bL at hr ⊢; exact hr
 | .bool, _, _, hr => by unfold bL at hr ⊢; exact hr
 | .str, _, _, hr => by unfold bL at hr ⊢; exact hr
 | .sl r, v, xs, hr => by
   unfold bL at hr ⊢; rcases hr with hr | ⟨a, cap, hv, hc, ha, hx⟩
   · exact .inl hr
   · refine .inr ⟨a, cap, hv, hc, fun fE => ?_, fun i x hi => ?_⟩
     · obtain ⟨hs, hb, fF⟩ := ha fE; exact ⟨hs, Nat.lt_of_lt_of_le hb h.size, h.ok _ hb fF⟩
     · have fE : JZ xs ≠ [] := by intro e; rw [e] at hi; simp at hi
       obtain ⟨hs, hb, fF⟩ := ha fE; exact cq.stays h r _ _ x (h.block _ hb fF) (hx i x hi)
theorem cq.stays {w w' : World} {ok xO : Nat → Prop} (h : ir w w' ok xO) : (r : RT) → (b off : Nat) → (x : aq r) → w'.heap[b]? = w.heap[b]? → cq w ok r b off x → cq w' xO r b off x
 | .nil, _, _, _, _, _ => by unfold cq; trivial
 | .cons t r, b, off, x, fF, hr => by
   unfold cq at hr ⊢; obtain ⟨⟨v, hv, hx⟩, hr⟩ := hr; refine ⟨⟨v, ?_, bL.stays h t v x.1 hx⟩, cq.stays h r b (off + 1) x.2 fF hr⟩; rw [World.cell?_of_block (w := w) fF]; exact hv
end
inductive Loc where
 | nil
 | at (b off cap : Nat)
structure Cz where
 bx : Nat → Nat
 lc : Nat → Nat → Loc
 own : Nat → Option Lb
def Cz.ok (c : Cz) (b : Nat) : Prop := c.own b = none
def fL (st : St) (s : Nat) : Nat := match nth st s with | some x => x.bg | none => 0
def cW (st : St) (s : Nat) : Nat := match nth st s with | some x => x.ag | none => 0
def iB (l : Loc) (W lo n : Nat) (v : Value) : Prop :=
 match l with
 | .nil => v = .slice none 0 0 ∧ n = 0
 | .at b off cap => ∃ a c, v = .slice (some a) n c ∧ n ≤ c ∧ lo + c ≤ cap ∧ (c ≠ 0 → a = ⟨b, off + lo * W, none⟩)
mutual
def dt (w : World) (P : List Nat → Nat → Prop) : (t : Ty) → (p : List Nat) → Value → den t → Prop
 | .int k, _, v, n => v = .int k n
 | .bool, _, v, b => v = .bool b
 | .str, _, v, s => v = .string s
 | .sl r, p, v, xs => ∃ lc : Loc, iB lc r.width 0 (JZ xs).length v ∧ v.oneCell' = true ∧ ((lc = .nil ∧ JZ xs = []) ∨ ∃ b off cap, lc = .at b off cap ∧
     P p b ∧ (JZ xs).length ≤ cap ∧ (∃ cur ty, w.heap[b]? = some (.cells cur ty (0, 0)) ∧ off + cap * r.width ≤ cur.size) ∧
       ∀ i x, (JZ xs)[i]? = some x → fM w P r (p ++ [i]) 0 b (off + i * r.width) x)
def fM (w : World) (P : List Nat → Nat → Prop) : (r : RT) → (p : List Nat) → (k b off : Nat) → aq r → Prop
 | .nil, _, _, _, _, _ => True
 | .cons t r, p, k, b, off, x => (∃ v, w.cell? ⟨b, off, none⟩ = some v ∧ dt w P t (p ++ [k]) v x.1) ∧ fM w P r p (k + 1) b (off + 1) x.2
end
theorem uu (w : World) (P : List Nat → Nat → Prop) (r : RT) (p : List Nat) (v : Value) (xs : List (aq r)) : dt w P (.sl r) p v xs ↔
   ∃ lc : Loc, iB lc r.width 0 xs.length v ∧ v.oneCell' = true ∧ ((lc = .nil ∧ xs = []) ∨ ∃ b off cap, lc = .at b off cap ∧
     P p b ∧ xs.length ≤ cap ∧ (∃ cur ty, w.heap[b]? = some (.cells cur ty (0, 0)) ∧ off + cap * r.width ≤ cur.size) ∧
       ∀ (i : Nat) x, xs[i]? = some x → fM w P r (p ++ [i]) 0 b (off + i * r.width) x) := by
 have := dt.eq_4 w P p v r xs; exact this ▸ Iff.rfl
theorem wD {w : World} {P : List Nat → Nat → Prop} {k : IntKind} {p : List Nat} {v : Value} {n : Int} : dt w P (.int k) p v n ↔ v = .int k n := dt.eq_1 w P p v k n ▸ Iff.rfl
theorem sw {w : World} {P : List Nat → Nat → Prop} {p : List Nat} {v : Value} {n : Bool} : dt w P .bool p v n ↔ v = .bool n := dt.eq_2 w P p v n ▸ Iff.rfl
theorem wE {w : World} {P : List Nat → Nat → Prop} {p : List Nat} {v : Value} {n : ByteArray} : dt w P .str p v n ↔ v = .string n := dt.eq_3 w P p v n ▸ Iff.rfl
mutual
theorem dt.go {w w' : World} {P P' : List Nat → Nat → Prop} : (t : Ty) → (p p' : List Nat) → (hP : ∀ q b, P (p ++ q) b → w'.heap[b]? = w.heap[b]? ∧ P' (p' ++ q) b) → (v : Value) → (x : den t) → dt w P t p v x → dt w' P' t p' v x
 | .int _, _, _, _, _, _, h => by unfold dt at h ⊢; exact h
 | .bool, _, _, _, _, _, h => by unfold dt at h ⊢; exact h
 | .str, _, _, _, _, _, h => by unfold dt at h ⊢; exact h
 | .sl r, p, p', hP, v, xs, h => by
   unfold dt at h ⊢; obtain ⟨lc, h1, h0, h2⟩ := h; refine ⟨lc, h1, h0, h2.imp id ?_⟩
   rintro ⟨b, off, cap, e, h3, h4, ⟨cur, ty, h5, h6⟩, h7⟩
   obtain ⟨hw, hb⟩ := hP [] b (by simpa using h3); refine ⟨b, off, cap, e, by simpa using hb, h4, ⟨cur, ty, by rw [hw]; exact h5, h6⟩, fun i x hx => fM.go r (p ++ [i]) (p' ++ [i]) (fun q k hk => ?_) 0 b _ x hw (h7 i x hx)⟩; have := hP ([i] ++ q) k (by rw [← List.append_assoc]; exact hk); rw [← List.append_assoc] at this; exact this
theorem fM.go {w w' : World} {P P' : List Nat → Nat → Prop} : (r : RT) → (p p' : List Nat) → (hP : ∀ q b, P (p ++ q) b → w'.heap[b]? = w.heap[b]? ∧ P' (p' ++ q) b) → (k b off : Nat) → (x : aq r) → w'.heap[b]? = w.heap[b]? → fM w P r p k b off x → fM w' P' r p' k b off x
 | .nil, _, _, _, _, _, _, _, _, _ => by unfold fM; trivial
 | .cons t r, p, p', hP, k, b, off, x, hw, h => by
   unfold fM at h ⊢; obtain ⟨⟨v, h1, h2⟩, h3⟩ := h; refine ⟨⟨v, by rw [World.cell?_of_block (w := w) hw]; exact h1, dt.go t (p ++ [k]) (p' ++ [k]) (fun q b hb => ?_) v x.1 h2⟩, fM.go r p p' hP (k + 1) b (off + 1) x.2 hw h3⟩; have := hP ([k] ++ q) b (by rw [← List.append_assoc]; exact hb); rw [← List.append_assoc] at this; exact this
end
theorem Ib {lc : Loc} {W lo n : Nat} {v : Value} (h : iB lc W lo n v) : (v = .slice none 0 0 ∧ n = 0) ∨ ∃ b off cap a c, lc = .at b off cap ∧ v = .slice (some a) n c ∧ n ≤ c ∧ lo + c ≤ cap ∧ (c ≠ 0 → a = ⟨b, off + lo * W, none⟩) := by
 cases lc with
 | nil => exact .inl h
 | «at» b off cap =>
   obtain ⟨a, c, h1, h2, h3, h4⟩ := h; exact .inr ⟨b, off, cap, a, c, rfl, h1, h2, h3, h4⟩
mutual
theorem dt.rep {w : World} {P : List Nat → Nat → Prop} {ok : Nat → Prop} (hP : ∀ p b, P p b → ok b) : (t : Ty) → (p : List Nat) → (v : Value) → (x : den t) → dt w P t p v x → bL w ok t v x
 | .int _, _, _, _, h => by unfold dt at h; unfold bL; exact h
 | .bool, _, _, _, h => by unfold dt at h; unfold bL; exact h
 | .str, _, _, _, h => by unfold dt at h; unfold bL; exact h
 | .sl r, p, v, xs, h => by
   unfold dt at h; unfold bL; obtain ⟨lc, h1, h0, h2⟩ := h; rcases Ib h1 with ⟨e1, e2⟩ | ⟨b, off, cap, a, c, e1, e2, e3, e4, e5⟩
   · exact .inl ⟨e1, List.length_eq_zero_iff.1 e2⟩
   · rcases h2 with ⟨e, _⟩ | ⟨b', Wo, Ic, e, h3, h4, ⟨cur, ty, h5, h6⟩, h7⟩
     · rw [e] at e1; cases e1
     · rw [e] at e1; injection e1 with q1 q2 q3; subst q1 q2 q3; have fE : JZ xs ≠ [] → a = ⟨b', Wo, none⟩ := by
         intro fE; have := List.length_pos_iff.2 fE; have := e5 (by omega); simpa using this
       refine .inr ⟨a, c, e2, e3, fun hn => ?_, fun i x hx => ?_⟩
       · rw [fE hn]; exact ⟨rfl, (Array.getElem?_eq_some_iff.1 h5).1, hP _ _ h3⟩
       · rw [fE (by intro e; rw [e] at hx; simp at hx)]; exact fM.rep hP r _ 0 b' _ x (h7 i x hx)
theorem fM.rep {w : World} {P : List Nat → Nat → Prop} {ok : Nat → Prop} (hP : ∀ p b, P p b → ok b) : (r : RT) → (p : List Nat) → (k b off : Nat) → (x : aq r) → fM w P r p k b off x → cq w ok r b off x
 | .nil, _, _, _, _, _, _ => by unfold cq; trivial
 | .cons t r, p, k, b, off, x, h => by
   unfold fM at h; unfold cq; obtain ⟨⟨v, h1, h2⟩, h3⟩ := h; exact ⟨⟨v, h1, dt.rep hP t _ v x.1 h2⟩, fM.rep hP r p (k + 1) b (off + 1) x.2 h3⟩
end
def bn (c : Cz) (w : World) (l : Lb) (A : gr) (b off : Nat) : Prop :=
 match A.md with
 | .sh => ∀ (i : Nat) x, A.xs[i]? = some x → cq w c.ok A.r b (off + i * A.r.width) x
 | .dp => ∃ g : Nat → List Nat, g b = [] ∧ ∀ (i : Nat) x, A.xs[i]? = some x → fM w (fun p k => c.own k = some l ∧ g k = p) A.r [i] 0 b (off + i * A.r.width) x
 | .ho q => A.own = true → ∃ g : Nat → List Nat, g b = [] ∧ ∀ (i : Nat) x, i ≠ q → A.xs[i]? = some x → fM w (fun p k => c.own k = some l ∧ g k = p) A.r [i] 0 b (off + i * A.r.width) x
theorem bn.go {c c' : Cz} {w w' : World} {l l' : Lb} {A : gr} {b off : Nat} (h : bn c w l A b off) (hs : A.md = .sh → ir w w' c.ok c'.ok) (hb : w'.heap[b]? = w.heap[b]?)
   (hd : A.md ≠ .sh → ∀ k, c.own k = some l → w'.heap[k]? = w.heap[k]? ∧ c'.own k = some l') : bn c' w' l' A b off := by
 unfold bn at h ⊢
 cases hm : A.md with
 | sh => rw [hm] at h; exact fun i x hx => cq.stays (hs hm) _ _ _ _ hb (h i x hx)
 | dp =>
   rw [hm] at h; obtain ⟨g, h1, h2⟩ := h; exact ⟨g, h1, fun i x hx => fM.go _ [i] [i] (fun q k hk => ⟨(hd (by rw [hm]; simp) k hk.1).1, (hd (by rw [hm]; simp) k hk.1).2, hk.2⟩) _ _ _ _ hb (h2 i x hx)⟩
 | ho q =>
   rw [hm] at h; intro ho; obtain ⟨g, h1, h2⟩ := h ho; exact ⟨g, h1, fun i x hq hx => fM.go _ [i] [i] (fun q k hk => ⟨(hd (by rw [hm]; simp) k hk.1).1, (hd (by rw [hm]; simp) k hk.1).2, hk.2⟩) _ _ _ _ hb (h2 i x hq hx)⟩
theorem bn.sh {c : Cz} {w : World} {l : Lb} {A : gr} {b off : Nat} (hm : A.md = .sh) : bn c w l A b off ↔ ∀ (i : Nat) x, A.xs[i]? = some x → cq w c.ok A.r b (off + i * A.r.width) x := by
 unfold bn; rw [hm]
def DP (w : World) (ok : Nat → Prop) (r : RT) (v : Value) (xs : List (aq r)) : Prop :=
 ∃ b o, v = .pointer (some ⟨b, o, none⟩) ∧ b < w.heap.size ∧ ok b ∧ ∀ x, xs[0]? = some x → cq w ok r b o x
def sx (w : World) (ok : Nat → Prop) : (rs : RT) → List Value → aq rs → Prop
 | .nil, vs, _ => vs = []
 | .cons (.sl r) rs, vs, x => ∃ v l, vs = v :: l ∧ DP w ok r v (JZ x.1) ∧ sx w ok rs l x.2
 | .cons _ _, _, _ => False
def FnAt (w : World) (ok : Nat → Prop) (g : Nat) (rs : RT) (v : Value) (xs : List (aq rs)) : Prop :=
 ∃ uq, v = .func (.func g) #[] uq ∧ ∀ x, xs[0]? = some x → sx w ok rs uq.toList x
theorem DP.stays {w w' : World} {ok xO : Nat → Prop} (h : ir w w' ok xO) {r : RT} {v : Value} {xs : List (aq r)} (hp : DP w ok r v xs) : DP w' xO r v xs := by
 obtain ⟨b, o, h1, h2, h3, h4⟩ := hp; exact ⟨b, o, h1, Nat.lt_of_lt_of_le h2 h.size, h.ok b h2 h3, fun x hx => cq.stays h r b o x (h.block b h2 h3) (h4 x hx)⟩
theorem sx.stays {w w' : World} {ok xO : Nat → Prop} (h : ir w w' ok xO) : (rs : RT) → (vs : List Value) → (x : aq rs) → sx w ok rs vs x → sx w' xO rs vs x
 | .nil, _, _, hc => hc
 | .cons (.sl r) rs, vs, x, hc => by
   obtain ⟨v, l, h1, h2, h3⟩ := hc; exact ⟨v, l, h1, h2.stays h, sx.stays h rs l x.2 h3⟩
 | .cons (.int _) _, _, _, hc => hc.elim
 | .cons .bool _, _, _, hc => hc.elim
 | .cons .str _, _, _, hc => hc.elim
theorem FnAt.stays {w w' : World} {ok xO : Nat → Prop} (h : ir w w' ok xO) {g : Nat} {rs : RT} {v : Value} {xs : List (aq rs)} (hf : FnAt w ok g rs v xs) : FnAt w' xO g rs v xs := by
 obtain ⟨uq, h1, h2⟩ := hf; exact ⟨uq, h1, fun x hx => sx.stays h rs _ x (h2 x hx)⟩
def iT (c : Cz) (st : St) (w : World) : CV → Value → Prop
 | .bad, _ => True
 | .int k n, v => v = .int k n
 | .bool b, v => v = .bool b
 | .str s, v => v = .string s
 | .dL, v => v = .slice none 0 0
 | .H2, v => v = .pointer none
 | .shr r xs, v => bL w c.ok (.sl r) v xs
 | .nn r xs, v => bL w c.ok (.sl r) v xs ∧ v ≠ .slice none 0 0
 | .ref a j g vw, v => v.oneCell' = true ∧ g ≤ cW st a ∧ ∀ A, aQ st a j g = some A → iB (c.lc a j) A.r.width vw.lo (vw.app A.xs).length v
 | .ptr b g off, v => v.oneCell' = true ∧ g ≤ fL st b ∧ ∀ cs, dx st b g = some cs → v = .pointer (some ⟨c.bx b, off, none⟩)
 | .F5 a j g i off, v => v.oneCell' = true ∧ g ≤ cW st a ∧ ∀ A, aQ st a j g = some A → i < A.xs.length ∧ ∃ b o cap, c.lc a j = .at b o cap ∧ v = .pointer (some ⟨b, o + i * A.r.width + off, none⟩)
 | .kC r x off, v => ∃ b o, v = .pointer (some ⟨b, o + off, none⟩) ∧ b < w.heap.size ∧ c.ok b ∧ cq w c.ok r b o x
 | .re r xs off, v => ∃ b o, v = .pointer (some ⟨b, o + off, none⟩) ∧ b < w.heap.size ∧ c.ok b ∧ ∀ x, xs[0]? = some x → cq w c.ok r b o x
 | .fn g rs xs, v => FnAt w c.ok g rs v xs
 | .nQ a j g e i k q ys, v => v.oneCell' = true ∧ g ≤ cW st a ∧ e ≤ lh st a ∧ ∀ A, aQ st a j g = some A → lh st a = e →
     A.md = .dp ∧ (∃ x, A.xs[i]? = some x ∧ oI A.r x k = some ⟨q, ys⟩) ∧ ∃ b o cap, c.lc a j = .at b o cap ∧ w.cell? ⟨b, o + i * A.r.width + k, none⟩ = some v
def eK (c : Cz) (st : St) (w : World) (cs : List CV) (vs : List Value) : Prop :=
 cs.length = vs.length ∧ ∀ (i : Nat) x v, cs[i]? = some x → vs[i]? = some v → iT c st w x v
def xP (c : Cz) (st : St) (w : World) : V → Value → Prop
 | .one x, v => iT c st w x v
 | .agg cs, v => ∃ vs, v = .agg vs ∧ eK c st w cs vs.toList
 | .lU _, _ => False
def eo (c : Cz) (st : St) (w : World) : V → Value → Prop
 | .lU us, v => ∃ vs, v = .tuple vs ∧ us.length = vs.size ∧ ∀ (i : Nat) x y, us[i]? = some x → vs[i]? = some y → xP c st w x y
 | x, v => xP c st w x v
def uw (c : Cz) (st : St) (w : World) (s : Nat) (cs : List CV) : Prop :=
 c.own (c.bx s) = some (.box s) ∧ ∃ vs ty, w.heap[c.bx s]? = some (.cells vs ty (0, 0)) ∧ eK c st w cs vs.toList
def bM (c : Cz) (w : World) (s j : Nat) (A : gr) : Prop :=
 match c.lc s j with
 | .nil => A.xs = []
 | .at b off cap => (match A.own with | true => c.own b = some (.sp s j) | false => c.own b = none) ∧ A.xs.length ≤ cap ∧
     (∃ cur ty, w.heap[b]? = some (.cells cur ty (0, 0)) ∧ off + cap * A.r.width ≤ cur.size) ∧
     bn c w (.sp s j) A b off
inductive KO where
 | arr (a j g W n : Nat) (l : Loc)
 | box (b g mD : Nat)
def PA (c : Cz) (st : St) : KO → Prop
 | .arr a j g W n l => g ≤ cW st a ∧ ∀ A, aQ st a j g = some A → A.r.width = W ∧ A.xs.length = n ∧ c.lc a j = l
 | .box b g mD => g ≤ fL st b ∧ ∀ cs, dx st b g = some cs → c.bx b = mD
structure Mu where
 m : Nat → Prop
 ok : Nat → Prop
 an : List KO
structure Rel (w0 : World) (mu : Mu) (c : Cz) (st : St) (a : Act) (w : World) : Prop where
 eL : ∀ t, eo c st w (bW st t) (a.eval (.tmp t))
 boxes : ∀ s sl cs, nth st s = some sl → sl.box = some cs → uw c st w s cs
 aJ : ∀ s j sl A, nth st s = some sl → nth sl.aJ j = some (some A) → bM c w s j A
 owned : ∀ b l, c.own b = some l → b < w.heap.size ∧ (l = .out ∨ w0.heap.size ≤ b ∨ mu.m b)
 free : ∀ b, b < w0.heap.size → c.own b = none → mu.m b ∨ mu.ok b
 kept : w.os = w0.os ∧ w.tape = w0.tape ∧ w.output = w0.output ∧ w0.heap.size ≤ w.heap.size
 old : ∀ k, k < w0.heap.size → ¬ mu.m k → w.heap[k]? = w0.heap[k]?
 plain : a.defers = []
 dR : ∀ p ∈ mu.an, PA c st p
end Go.TM
namespace Go.TM
open Go Go.RowKit
theorem aH {α : Type} {b : Bool} {x : Option α} {y : α} (h : (bif b then x else none) = some y) : b = true ∧ x = some y := by
 cases b
 · simp at h
 · exact ⟨rfl, h⟩
theorem dD {b : Bool} {x : N} {y : St} (h : (bif b then x else N.fail).val = some y) : b = true ∧ x.val = some y := by
 cases b
 · simp [N.val] at h
 · exact ⟨rfl, h⟩
theorem bc {st : St} {a j g : Nat} {A : gr} (h : aQ st a j g = some A) : ∃ sl, nth st a = some sl ∧ sl.ag = g ∧ nth sl.aJ j = some (some A) := by
 unfold aQ at h
 cases hs : nth st a with
 | none => simp [hs] at h
 | some sl =>
   simp only [hs] at h; obtain ⟨h1, h2⟩ := aH h; refine ⟨sl, rfl, Nat.eq_of_beq_eq_true h1, ?_⟩
   cases hj : nth sl.aJ j with
   | none => simp [hj] at h2
   | some o => cases o with
     | none => simp [hj] at h2
     | some B => simp [hj] at h2; rw [h2]
theorem gw {st : St} {b g : Nat} {cs : List CV} (h : dx st b g = some cs) : ∃ sl, nth st b = some sl ∧ sl.bg = g ∧ sl.box = some cs := by
 unfold dx at h
 cases hs : nth st b with
 | none => simp [hs] at h
 | some sl =>
   simp only [hs] at h; obtain ⟨h1, h2⟩ := aH h; exact ⟨sl, rfl, Nat.eq_of_beq_eq_true h1, h2⟩
theorem View.Ie {r s : RT} (w : View) (xs : List (aq r)) (ys : List (aq s)) (h : xs.length = ys.length) : (w.app xs).length = (w.app ys).length := by
 cases w <;> simp [View.app, h]
structure Fw (c : Cz) (st : St) (w : World) (c' : Cz) (aP : St) (w' : World) : Prop where
 stays : ir w w' c.ok c'.ok
 refs : ∀ a j g A', g ≤ cW st a → aQ aP a j g = some A' → ∃ A, aQ st a j g = some A ∧ A'.r.width = A.r.width ∧ A'.xs.length = A.xs.length ∧ c'.lc a j = c.lc a j ∧
   (lh aP a = lh st a → A' = A ∧ ∀ b o cap, c.lc a j = .at b o cap → w'.heap[b]? = w.heap[b]?)
 AR : ∀ b g lV, g ≤ fL st b → dx aP b g = some lV → (∃ cs, dx st b g = some cs) ∧ c'.bx b = c.bx b
 gA : ∀ a, cW st a ≤ cW aP a
 gB : ∀ b, fL st b ≤ fL aP b
 gE : ∀ a, lh st a ≤ lh aP a
theorem Fw.MX {c : Cz} {st : St} {w : World} {c' : Cz} {aP : St} {w' : World} (h : Fw c st w c' aP w') {x : CV} {v : Value} (hr : iT c st w x v) : iT c' aP w' x v := by
 cases x with
 | bad => trivial
 | int k n => exact hr
 | bool b => exact hr
 | str s => exact hr
 | dL => exact hr
 | H2 => exact hr
 | shr r xs => exact bL.stays h.stays _ _ _ hr
 | nn r xs => exact ⟨bL.stays h.stays _ _ _ hr.1, hr.2⟩
 | ref a j g vw =>
   refine ⟨hr.1, Nat.le_trans hr.2.1 (h.gA a), fun A' eb => ?_⟩; obtain ⟨A, hA, hw, hl, gz, _⟩ := h.refs a j g A' hr.2.1 eb; have := hr.2.2 A hA; rw [gz, hw, View.Ie vw A'.xs A.xs hl]; exact this
 | ptr b g off =>
   refine ⟨hr.1, Nat.le_trans hr.2.1 (h.gB b), fun cs sy => ?_⟩; obtain ⟨⟨MD, h0⟩, hb⟩ := h.AR b g cs hr.2.1 sy; rw [hb]; exact hr.2.2 MD h0
 | F5 a j g i off =>
   refine ⟨hr.1, Nat.le_trans hr.2.1 (h.gA a), fun A' eb => ?_⟩; obtain ⟨A, hA, hw, hl, gz, _⟩ := h.refs a j g A' hr.2.1 eb; have := hr.2.2 A hA; rw [gz, hw, hl]; exact this
 | nQ a j g e i k q ys =>
   obtain ⟨h1, h2, h3, h4⟩ := hr; refine ⟨h1, Nat.le_trans h2 (h.gA a), Nat.le_trans h3 (h.gE a), fun A' eb he => ?_⟩; obtain ⟨A, hA, hw, hl, gz, hs⟩ := h.refs a j g A' h2 eb; have RS : lh aP a = lh st a := by have := h.gE a; omega
   obtain ⟨rfl, hb⟩ := hs RS; obtain ⟨k1, k2, b, o, cap, k3, k4⟩ := h4 A' hA (by omega); exact ⟨k1, k2, b, o, cap, by rw [gz]; exact k3, by rw [World.cell?_of_block (w := w) (hb b o cap k3)]; exact k4⟩
 | kC r x off =>
   obtain ⟨b, o, hv, hb, fF, hx⟩ := hr; exact ⟨b, o, hv, Nat.lt_of_lt_of_le hb h.stays.size, h.stays.ok b hb fF, cq.stays h.stays r b o x (h.stays.block b hb fF) hx⟩
 | re r xs off =>
   obtain ⟨b, o, hv, hb, fF, hx⟩ := hr; exact ⟨b, o, hv, Nat.lt_of_lt_of_le hb h.stays.size, h.stays.ok b hb fF, fun x qu => cq.stays h.stays r b o x (h.stays.block b hb fF) (hx x qu)⟩
 | fn g rs xs => exact FnAt.stays h.stays hr
theorem Fw.PB {c : Cz} {st : St} {w : World} {c' : Cz} {aP : St} {w' : World} (h : Fw c st w c' aP w') {cs : List CV} {vs : List Value} (hr : eK c st w cs vs) : eK c' aP w' cs vs :=
 ⟨hr.1, fun i x v hx hv => h.MX (hr.2 i x v hx hv)⟩
theorem Fw.MY {c : Cz} {st : St} {w : World} {c' : Cz} {aP : St} {w' : World} (h : Fw c st w c' aP w') {x : V} {v : Value} (hr : xP c st w x v) : xP c' aP w' x v := by
 cases x with
 | one x => exact h.MX hr
 | agg cs => obtain ⟨vs, hv, hl⟩ := hr; exact ⟨vs, hv, h.PB hl⟩
 | lU us => exact hr
theorem Fw.lO {c : Cz} {st : St} {w : World} {c' : Cz} {aP : St} {w' : World} (h : Fw c st w c' aP w') {x : V} {v : Value} (hr : eo c st w x v) : eo c' aP w' x v := by
 cases x with
 | one x => exact h.MY (x := .one x) hr
 | agg cs => exact h.MY (x := .agg cs) hr
 | lU us =>
   obtain ⟨vs, hv, hl, he⟩ := hr; exact ⟨vs, hv, hl, fun i x y hx hy => h.MY (he i x y hx hy)⟩
theorem Fw.dR {c : Cz} {st : St} {w : World} {c' : Cz} {aP : St} {w' : World} (h : Fw c st w c' aP w') {p : KO} (hp : PA c st p) : PA c' aP p := by
 cases p with
 | arr a j g W n l =>
   refine ⟨Nat.le_trans hp.1 (h.gA a), fun A' eb => ?_⟩; obtain ⟨A, hA, hw, hl, gz, _⟩ := h.refs a j g A' hp.1 eb; obtain ⟨h1, h2, h3⟩ := hp.2 A hA; exact ⟨hw.trans h1, hl.trans h2, gz.trans h3⟩
 | box b g mD =>
   refine ⟨Nat.le_trans hp.1 (h.gB b), fun cs sy => ?_⟩; obtain ⟨⟨MD, h0⟩, hb⟩ := h.AR b g cs hp.1 sy; exact hb.trans (hp.2 MD h0)
theorem bM.go {c c' : Cz} {w w' : World} {s j : Nat} {A : gr} (h : bM c w s j A) (hs : ir w w' c.ok c'.ok) (hl : c'.lc s j = c.lc s j)
   (hb : ∀ b, c.own b = some (.sp s j) → w'.heap[b]? = w.heap[b]? ∧ c'.own b = c.own b) : bM c' w' s j A := by
 unfold bM at h ⊢; rw [hl]
 cases hc : c.lc s j with
 | nil => simpa [hc] using h
 | «at» b off cap =>
   rw [hc] at h; obtain ⟨h1, h2, ⟨cur, ty, h3, h4⟩, h5⟩ := h; have bX : b < w.heap.size := (Array.getElem?_eq_some_iff.1 h3).1; have Z7 : w'.heap[b]? = w.heap[b]? ∧ c'.own b = c.own b := by
     cases ho : A.own with
     | true => rw [ho] at h1; exact hb b h1
     | false => rw [ho] at h1; exact ⟨hs.block b bX h1, (hs.ok b bX h1 : c'.own b = none).trans h1.symm⟩
   refine ⟨?_, h2, ⟨cur, ty, by rw [Z7.1]; exact h3, h4⟩, h5.go (fun _ => hs) Z7.1 (fun _ k hk => ⟨(hb k hk).1, (hb k hk).2.trans hk⟩)⟩; rw [Z7.2]; exact h1
theorem uw.go {c : Cz} {st : St} {w : World} {c' : Cz} {aP : St} {w' : World} (h : Fw c st w c' aP w') {s : Nat} {cs : List CV} (hb : uw c st w s cs)
   (hx : c'.bx s = c.bx s) (ho : c'.own (c.bx s) = c.own (c.bx s)) (hw : w'.heap[c.bx s]? = w.heap[c.bx s]?) : uw c' aP w' s cs := by
 obtain ⟨h1, vs, ty, h2, h3⟩ := hb; exact ⟨by rw [hx, ho]; exact h1, vs, ty, by rw [hx, hw]; exact h2, h.PB h3⟩
theorem KP (st : St) (d : Option Nat) (v : V) (t : Nat) : bW (aS st d v) t = if d = some t ∧ t < st.length then v else bW st t := by
 cases d with
 | none => simp [aS]
 | some u =>
   unfold bW aS; rw [dz]
   by_cases h : t = u
   · subst h; simp only [if_true, true_and]
     by_cases hl : t < st.length
     · have : nth st t = some st[t] := by rw [fK]; exact List.getElem?_eq_getElem hl
       simp [this, hl]
     · have : nth st t = none := by rw [fK]; exact List.getElem?_eq_none (by omega)
       simp [this, hl]
   · have : ¬ (some u = some t ∧ t < st.length) := by rintro ⟨e, _⟩; exact h (Option.some.inj e).symm
     rw [if_neg h, if_neg this]
theorem pE (st : St) (d : Option Nat) (v : V) (s : Nat) : ∃ f : Sl → Sl, (∀ x, (f x).box = x.box ∧ (f x).bg = x.bg ∧ (f x).aJ = x.aJ ∧ (f x).ag = x.ag ∧ (f x).ep = x.ep) ∧ nth (aS st d v) s = (nth st s).map f := by
 cases d with
 | none => exact ⟨id, fun _ => ⟨rfl, rfl, rfl, rfl, rfl⟩, by simp [aS]⟩
 | some t =>
   unfold aS
   by_cases h : s = t
   · subst h; exact ⟨fun x => { x with v := v }, fun _ => ⟨rfl, rfl, rfl, rfl, rfl⟩, iS _ _ _⟩
   · exact ⟨id, fun _ => ⟨rfl, rfl, rfl, rfl, rfl⟩, by simp [lj _ _ h]⟩
theorem KQ (st : St) (d : Option Nat) (v : V) (a j g : Nat) : aQ (aS st d v) a j g = aQ st a j g := by
 obtain ⟨f, hf, hn⟩ := pE st d v a; unfold aQ; rw [hn]
 cases nth st a with
 | none => rfl
 | some s => obtain ⟨_, _, h3, h4, _⟩ := hf s; simp [h3, h4]
theorem KR (st : St) (d : Option Nat) (v : V) (b g : Nat) : dx (aS st d v) b g = dx st b g := by
 obtain ⟨f, hf, hn⟩ := pE st d v b; unfold dx; rw [hn]
 cases nth st b with
 | none => rfl
 | some s => obtain ⟨h1, h2, _, _, _⟩ := hf s; simp [h1, h2]
theorem KS (st : St) (d : Option Nat) (v : V) (a : Nat) : cW (aS st d v) a = cW st a := by
 obtain ⟨f, hf, hn⟩ := pE st d v a; unfold cW; rw [hn]
 cases nth st a with
 | none => rfl
 | some s => exact (hf s).2.2.2.1
theorem MZ (st : St) (d : Option Nat) (v : V) (a : Nat) : lh (aS st d v) a = lh st a := by
 obtain ⟨f, hf, hn⟩ := pE st d v a; unfold lh; rw [hn]
 cases nth st a with
 | none => rfl
 | some s => exact (hf s).2.2.2.2
theorem KT (st : St) (d : Option Nat) (v : V) (a : Nat) : fL (aS st d v) a = fL st a := by
 obtain ⟨f, hf, hn⟩ := pE st d v a; unfold fL; rw [hn]
 cases nth st a with
 | none => rfl
 | some s => exact (hf s).2.1
theorem ir.refl (w : World) (ok : Nat → Prop) : ir w w ok ok := ⟨Nat.le_refl _, fun _ _ _ => rfl, fun _ _ h => h⟩
theorem Fw.aS (c : Cz) (st : St) (w : World) (d : Option Nat) (v : V) : Fw c st w c (aS st d v) w where
 stays := ir.refl w _
 refs a j g A' _ h := ⟨A', by rwa [KQ] at h, rfl, rfl, rfl, fun _ => ⟨rfl, fun _ _ _ _ => rfl⟩⟩
 AR b g lV _ h := ⟨⟨lV, by rwa [KR] at h⟩, rfl⟩
 gA a := by rw [KS]; exact Nat.le_refl _
 gB a := by rw [KT]; exact Nat.le_refl _
 gE a := by rw [MZ]; exact Nat.le_refl _
theorem eval_put (a : Act) (d : Option Tmp) (v : Value) (t : Nat) : (a.put d v).eval (.tmp t) = if d = some t ∧ t < a.tmps.size then v else a.eval (.tmp t) := by
 cases d with
 | none => simp [Act.put]
 | some u =>
   simp only [Act.put, Act.eval, Array.getD_eq_getD_getElem?, Array.getElem?_setIfInBounds]
   by_cases h : u = t
   · subst h
     by_cases hl : u < a.tmps.size <;> simp [hl]
   · have : ¬ (some u = some t ∧ t < a.tmps.size) := by rintro ⟨e, _⟩; exact h (Option.some.inj e)
     rw [if_neg this]; simp [h]
theorem Rel.aS {w0 : World} {mu : Mu} {c : Cz} {st : St} {a : Act} {w : World} (h : Rel w0 mu c st a w) {d : Option Nat} {v : V} {u : Value}
   (hv : eo c st w v u) (hd : ∀ t, d = some t → t < a.tmps.size) : Rel w0 mu c (aS st d v) (a.put d u) w where
 eL t := by
   have hg := Fw.aS c st w d v; rw [KP, eval_put]
   by_cases Wp : d = some t
   · have := hd t Wp
     by_cases hl : t < st.length
     · rw [if_pos ⟨Wp, hl⟩, if_pos ⟨Wp, this⟩]; exact hg.lO hv
     · have e : bW st t = .one .bad := by
         unfold bW; rw [fK, List.getElem?_eq_none (by omega)]
       rw [if_neg (fun h => hl h.2), e]; trivial
   · rw [if_neg (fun h => Wp h.1), if_neg (fun h => Wp h.1)]; exact hg.lO (h.eL t)
 boxes s sl cs hs hb := by
   obtain ⟨f, hf, hn⟩ := pE st d v s; rw [hn] at hs
   cases hx : nth st s with
   | none => rw [hx] at hs; simp at hs
   | some s0 =>
     rw [hx] at hs; simp at hs; subst hs; rw [(hf s0).1] at hb; exact (h.boxes s s0 cs hx hb).go (Fw.aS c st w d v) rfl rfl rfl
 aJ s j sl A hs hb := by
   obtain ⟨f, hf, hn⟩ := pE st d v s; rw [hn] at hs
   cases hx : nth st s with
   | none => rw [hx] at hs; simp at hs
   | some s0 =>
     rw [hx] at hs; simp at hs; subst hs; rw [(hf s0).2.2.1] at hb; exact h.aJ s j s0 A hx hb
 owned := h.owned
 free := h.free
 kept := h.kept
 old := h.old
 dR p hp := (Fw.aS c st w d v).dR (h.dR p hp)
 plain := by
   have := h.plain
   cases d <;> simpa [Act.put] using this
theorem Rel.rH {w0 : World} {mu : Mu} {c : Cz} {st : St} {a : Act} {w : World} (h : Rel w0 mu c st a w) {s j g : Nat} {A : gr} (hA : aQ st s j g = some A) : bM c w s j A := by
 obtain ⟨sl, h1, _, h3⟩ := bc hA; exact h.aJ s j sl A h1 h3
theorem bM.lt {c : Cz} {w : World} {s j : Nat} {A : gr} (h : bM c w s j A) {b off cap : Nat} (hl : c.lc s j = .at b off cap) : b < w.heap.size := by
 unfold bM at h; rw [hl] at h; obtain ⟨_, _, ⟨cur, t, h3, _⟩, _⟩ := h; exact (Array.getElem?_eq_some_iff.1 h3).1
end Go.TM
namespace Go.TM
open Go Go.RowKit
def iu : RT → List Value → Prop
 | .nil, vs => vs = []
 | .cons (.int k) r, vs => ∃ l, vs = .int k 0 :: l ∧ iu r l
 | .cons .bool r, vs => ∃ l, vs = .bool false :: l ∧ iu r l
 | .cons .str r, vs => ∃ l, vs = .string ByteArray.empty :: l ∧ iu r l
 | .cons (.sl _) r, vs => ∃ l, vs = .slice none 0 0 :: l ∧ iu r l
def descOf : Ty → TypeDesc → Prop
 | .int k, d => d = .int k
 | .bool, d => d = .bool
 | .str, d => d = .string
 | .sl _, _ => False
structure fG (P : Program) (T : kh) : Prop where
 cells : ∀ t n, T.cells t = some n → (P.info? t).map (·.size) = some n
 agg : ∀ t n, T.cells t = some n → ∃ d, P.underlying t = some d ∧ d.isRow = T.agg t ∧ (T.agg t = false → n = 1)
 off : ∀ t f k, T.off t f = some k → ∃ fs DQ n, P.underlying t = some (.struct fs) ∧ fs[f]? = some DQ ∧ DQ.offset = k ∧ (P.info? DQ.type).map (·.size) = some (n + 1)
 bld : ∀ t, T.agg t = true → ∃ fs b9, P.underlying t = some (.struct fs) ∧ fs.toList.mapM (fun f => (P.info? f.type).map fun i => (f.offset, i.size)) = some b9 ∧
   ∀ f o s, T.off t f = some o → T.Wj t f = some s → b9[f]? = some (o, s)
 row : ∀ t r, T.row t = some r → ∃ i z, P.info? t = some i ∧ i.zero = some z ∧ iu r z.cells.toList
 elem : ∀ t r b, T.elem t = some (r, b) → ∃ e i z, P.underlying t = some (.slice e) ∧ P.info? e = some i ∧ i.size = r.width ∧ 0 < r.width ∧ i.bytes = b ∧ 0 < b ∧ i.zero = some z ∧ iu r z.cells.toList
 u8 : ∀ t e b, T.elem t = some (.cons (.int .u8) .nil, b) → P.underlying t = some (.slice e) → P.underlying e = some (.int .u8)
 kind : ∀ t y, T.kind t = some y → ∃ d, P.underlying t = some d ∧ descOf y d
 one : ∀ t f, T.one t f = true → ∃ fs DQ d, P.underlying t = some (.struct fs) ∧ fs[f]? = some DQ ∧ P.underlying DQ.type = some d ∧ d.isRow = false
theorem iT.one {c : Cz} {st : St} {w : World} {x : CV} {v : Value} (h : iT c st w x v) (hs : x.rG = true) : v.oneCell' = true := by
 cases x with
 | bad => simp [CV.rG] at hs
 | int k n => simp only [iT] at h; subst h; rfl
 | bool b => simp only [iT] at h; subst h; rfl
 | str s => simp only [iT] at h; subst h; rfl
 | dL => simp only [iT] at h; subst h; rfl
 | H2 => simp only [iT] at h; subst h; rfl
 | shr r xs =>
   rcases (mC _ _ _ _ _).1 h with ⟨rfl, _⟩ | ⟨a, cap, rfl, _⟩ <;> rfl
 | nn r xs =>
   rcases (mC _ _ _ _ _).1 h.1 with ⟨rfl, _⟩ | ⟨a, cap, rfl, _⟩ <;> rfl
 | ref a j g vw => exact h.1
 | ptr b g off => exact h.1
 | F5 a j g i off => exact h.1
 | kC r x off => obtain ⟨b, o, rfl, _⟩ := h; rfl
 | re r x off => obtain ⟨b, o, rfl, _⟩ := h; rfl
 | fn g rs xs => obtain ⟨uq, rfl, _⟩ := h; rfl
 | nQ a j g e i k q ys => exact h.1
theorem KU {v : Value} (h : v.oneCell' = true) : v.cells = #[v] := by cases v <;> first | rfl | simp [Value.oneCell'] at h
theorem eo.cells {c : Cz} {st : St} {w : World} {x : V} {v : Value} (h : eo c st w x v) (hs : x.rG = true) :
   eK c st w x.cells v.cells.toList ∧ ∀ u ∈ v.cells.toList, u.oneCell' = true := by
 cases x with
 | one x =>
   have h1 : v.oneCell' = true := iT.one (x := x) h hs; rw [KU h1]; refine ⟨⟨rfl, fun i y u hy hu => ?_⟩, fun u hu => by simp at hu; rw [hu]; exact h1⟩
   cases i with
   | zero => simp [V.cells] at hy hu; rw [← hy, ← hu]; exact h
   | succ i => simp [V.cells] at hy
 | agg cs =>
   obtain ⟨vs, rfl, hl⟩ := h; refine ⟨hl, fun u hu => ?_⟩; obtain ⟨i, hi, hu⟩ := List.mem_iff_getElem.1 hu; have M0 : i < cs.length := by rw [hl.1]; exact hi
   have := hl.2 i cs[i] u (List.getElem?_eq_getElem M0) (by rw [← hu]; exact List.getElem?_eq_getElem hi); exact this.one (List.all_eq_true.1 hs _ (List.getElem_mem M0))
 | lU us => simp [V.rG] at hs
def Cz.gX (c : Cz) (d b : Nat) : Cz :=
 { bx := fun s => if s = d then b else c.bx s, lc := c.lc, own := fun k => if k = b then some (.box d) else c.own k }
theorem uz (w : World) (o : Obj) (ok xO : Nat → Prop) (h : ∀ b, b < w.heap.size → ok b → xO b) : ir w (w.alloc o) ok xO where
 size := by simp
 block b hb _ := heap_alloc_old w o b hb
 ok := h
theorem Rel.mJ {w0 : World} {mu : Mu} {c : Cz} {st : St} {a : Act} {w : World} (h : Rel w0 mu c st a w) {b : Nat} {l : Lb} (hb : c.own b = some l) : b < w.heap.size := (h.owned b l hb).1
theorem Rel.gX {w0 : World} {mu : Mu} {c : Cz} {st : St} {a : Act} {w : World} (h : Rel w0 mu c st a w) {d : Nat} {s0 : Sl} {cs : List CV} {vs : Array Value} {ty : TypeId}
   (gW : nth st d = some s0) (hd : d < a.tmps.size) (hl : eK c st w cs vs.toList) :
   Rel w0 mu (c.gX d w.heap.size) (lN (fun s => { s with v := .one (.ptr d (s0.bg + 1) 0), box := some cs, bg := s0.bg + 1 }) st d)
     (a.put (some d) (.pointer (some ⟨w.heap.size, 0, none⟩))) (w.alloc (.cells vs ty (0, 0))) := by
 have hn : ∀ s, nth (lN (fun s => { s with v := .one (.ptr d (s0.bg + 1) 0), box := some cs, bg := s0.bg + 1 }) st d) s =
     if s = d then some { s0 with v := .one (.ptr d (s0.bg + 1) 0), box := some cs, bg := s0.bg + 1 } else nth st s := by
   intro s; rw [dz]
   by_cases e : s = d
   · subst e; simp [gW]
   · simp [e]
 generalize lN (fun s => { s with v := .one (.ptr d (s0.bg + 1) 0), box := some cs, bg := s0.bg + 1 }) st d = aP at hn ⊢; have fF : ∀ b, b < w.heap.size → c.ok b → (c.gX d w.heap.size).ok b := by
   intro b hb hc; unfold Cz.ok Cz.gX; simp only [if_neg (show b ≠ w.heap.size by omega)]; exact hc
 have hA : ∀ a' j g, aQ aP a' j g = aQ st a' j g := by
   intro a' j g; unfold aQ; rw [hn]
   by_cases e : a' = d
   · subst e; simp [gW]
   · simp [e]
 have Z8 : ∀ a', cW aP a' = cW st a' := by
   intro a'; unfold cW; rw [hn]
   by_cases e : a' = d
   · subst e; simp [gW]
   · simp [e]
 have ga : Fw c st w (c.gX d w.heap.size) aP (w.alloc (.cells vs ty (0, 0))) := {
   stays := uz w _ _ _ fF
   refs := fun a' j g A' _ eb => ⟨A', by rw [← hA]; exact eb, rfl, rfl, rfl, fun _ => ⟨rfl, fun b o cap gz => by
     exact heap_alloc_old w _ b ((h.rH (g := g) (by rw [← hA]; exact eb)).lt gz)⟩⟩
   AR := fun b g lV hg hb => by
     unfold dx at hb ⊢; rw [hn] at hb
     by_cases e : b = d
     · subst e; simp only [if_true] at hb; unfold fL at hg; rw [gW] at hg; have : Nat.beq (s0.bg + 1) g = false := by
         cases hq : Nat.beq (s0.bg + 1) g
         · rfl
         · have := Nat.eq_of_beq_eq_true hq; simp at hg; omega
       simp [this] at hb
     · simp only [e, if_false] at hb; exact ⟨⟨lV, hb⟩, by simp [Cz.gX, e]⟩
   gA := fun a' => by rw [Z8]; exact Nat.le_refl _
   gB := fun b => by
     unfold fL; rw [hn]
     by_cases e : b = d
     · subst e; simp [gW]
     · simp [e]
   gE := fun a' => by
     unfold lh; rw [hn]
     by_cases e : a' = d
     · subst e; simp [gW]
     · simp [e] }
 exact {
   eL := fun t => by
     have e1 : bW aP t = if t = d then .one (.ptr d (s0.bg + 1) 0) else bW st t := by
       unfold bW; rw [hn]
       by_cases e : t = d <;> simp [e]
     rw [e1, eval_put]
     by_cases e : t = d
     · subst e; simp only [if_true, true_and, hd]; refine ⟨rfl, ?_, fun lV Ig => by simp [Cz.gX]⟩; unfold fL; rw [hn]; simp
     · simp only [e, if_false]; rw [if_neg (fun h => e (Option.some.inj h.1).symm)]; exact ga.lO (h.eL t)
   boxes := fun s sl lV hs hb => by
     rw [hn] at hs
     by_cases e : s = d
     · subst e; simp only [if_true, Option.some.injEq] at hs; subst hs; simp only [Option.some.injEq] at hb; subst hb; exact ⟨by simp [Cz.gX], vs, ty, by simp only [Cz.gX, if_true]; exact heap_alloc_new w _, ga.PB hl⟩
     · simp only [e, if_false] at hs; have RU := h.boxes s sl lV hs hb; have bX := h.mJ RU.1; exact RU.go ga (by simp [Cz.gX, e]) (by simp only [Cz.gX]; rw [if_neg (by omega)]) (heap_alloc_old w _ _ bX)
   aJ := fun s j sl A hs eb => by
     rw [hn] at hs; have ha : bM c w s j A := by
       by_cases e : s = d
       · subst e; simp only [if_true, Option.some.injEq] at hs; subst hs; exact h.aJ s j s0 A gW eb
       · simp only [e, if_false] at hs; exact h.aJ s j sl A hs eb
     refine ha.go ga.stays rfl (fun b hb => ?_); have bX : b < w.heap.size := h.mJ hb; exact ⟨heap_alloc_old w _ b bX, by simp only [Cz.gX]; rw [if_neg (by omega)]⟩
   owned := fun b l hb => by
     simp only [Cz.gX] at hb
     by_cases e : b = w.heap.size
     · subst e; exact ⟨by simp, .inr (.inl h.kept.2.2.2)⟩
     · rw [if_neg e] at hb; have := h.owned b l hb; exact ⟨Nat.lt_of_lt_of_le this.1 (by simp), this.2⟩
   free := fun b hb h1 => by
     simp only [Cz.gX] at h1
     by_cases e : b = w.heap.size
     · rw [if_pos e] at h1; cases h1
     · rw [if_neg e] at h1; exact h.free b hb h1
   kept := ⟨h.kept.1, h.kept.2.1, h.kept.2.2.1, Nat.le_trans h.kept.2.2.2 (by simp)⟩
   old := fun k hk hm => by
     rw [heap_alloc_old w _ k (Nat.lt_of_lt_of_le hk h.kept.2.2.2)]; exact h.old k hk hm
   dR := fun p hp => ga.dR (h.dR p hp)
   plain := h.plain }
end Go.TM
namespace Go.TM
open Go Go.RowKit
theorem bh {w0 : World} {mu : Mu} {c : Cz} {st : St} {a : Act} {w : World} (h : Rel w0 mu c st a w) (x : Operand) : eo c st w (kM st x) (a.eval x) := by
 unfold kM
 split <;> first | exact h.eL _ | rfl | trivial
theorem eK.take {c : Cz} {st : St} {w : World} {cs : List CV} {vs : List Value} (h : eK c st w cs vs) (off n : Nat) : eK c st w ((cs.drop off).take n) ((vs.drop off).take n) := by
 refine ⟨by simp [h.1], fun i x v hx hv => ?_⟩; rw [List.getElem?_take] at hx hv
 by_cases hi : i < n
 · rw [if_pos hi, List.getElem?_drop] at hx hv; exact h.2 _ x v hx hv
 · rw [if_neg hi] at hx; simp at hx
theorem jV {n off : Nat} {cs l : List CV} (h : eJ n off cs = some l) : l = (cs.drop off).take n ∧ l.length = n := by
 unfold eJ at h; obtain ⟨h1, h2⟩ := aH h; have := Option.some.inj h2; subst this; exact ⟨rfl, Nat.eq_of_beq_eq_true h1⟩
def valOf (agg : Bool) (vs : List Value) : Value := if agg then .agg vs.toArray else vs.headD undef
theorem qO {P : Program} {T : kh} (hT : fG P T) {t n : Nat} (ht : T.cells t = some n) (w : World) (b o : Nat) (vs : List Value) (hv : w.rangeAt b o vs) (hn : vs.length = n) :
   (loadVar t ⟨b, o, none⟩).run P w = .ok (valOf (T.agg t) vs) w := by
 obtain ⟨d, hu, hd, h1⟩ := hT.agg t n ht
 cases hg : T.agg t with
 | true =>
   rw [hg] at hd; have := run_loadVar_mid (P := P) w b o t vs d hv hu hd (by rw [hT.cells t n ht, hn]); simpa [valOf] using this
 | false =>
   have VN := h1 hg; obtain ⟨v, rfl⟩ : ∃ v, vs = [v] := by
     cases vs with
     | nil => simp at hn; omega
     | cons v l => cases l with
       | nil => exact ⟨v, rfl⟩
       | cons _ _ => simp at hn; omega
   have RW : (isAgg t).run P w = .ok false w := by
     unfold isAgg; rw [Sem.run_bind, run_underlying hu w]; rw [hg] at hd
     cases d <;> simp_all [TypeDesc.isRow]
   have hc : w.cell? ⟨b, o, none⟩ = some v := by have := hv 0 v rfl; simpa using this
   simp [loadVar, Sem.run_bind, RW, valOf, run_load, hc]
theorem PC {c : Cz} {st : St} {w : World} {T : kh} {t : Nat} {l : List CV} {vs : List Value} (h : eK c st w l vs) (h1 : T.agg t = false → l.length = 1) :
   eo c st w (MR T t l) (valOf (T.agg t) vs) := by
 unfold MR valOf
 cases hg : T.agg t with
 | true => exact ⟨vs.toArray, rfl, by simpa using h⟩
 | false =>
   have hl := h1 hg
   cases l with
   | nil => simp at hl
   | cons x l => cases l with
     | cons _ _ => simp at hl
     | nil => cases vs with
       | nil => have := h.1; simp at this
       | cons v vs => exact h.2 0 x v rfl rfl
theorem zX {w : World} {b off : Nat} {vs : Array Value} {ty : TypeId} {fr : Nat × Nat} (h : w.heap[b]? = some (.cells vs ty fr)) (n : Nat) : w.rangeAt b off ((vs.toList.drop off).take n) := by
 intro j v hv; rw [cell_of_row w b (off + j) vs ty fr h]; rw [List.getElem?_take] at hv
 by_cases hj : j < n
 · rw [if_pos hj, List.getElem?_drop] at hv; simpa using hv
 · rw [if_neg hj] at hv; simp at hv
theorem sA {w : World} {c : Cz} {st : St} : (r : RT) → (b off : Nat) → (x : aq r) → cq w c.ok r b off x →
   ∃ vs, vs.length = r.width ∧ w.rangeAt b off vs ∧ eK c st w (dP r x) vs
 | .nil, _, _, _, _ => ⟨[], rfl, fun j v h => by simp at h, rfl, fun i x v h => by simp [dP] at h⟩
 | .cons t r, b, off, x, h => by
   unfold cq at h; obtain ⟨⟨v, hv, hx⟩, hr⟩ := h; obtain ⟨vs, h1, h2, h3, h4⟩ := sA r b (off + 1) x.2 hr; refine ⟨v :: vs, by simp [RT.width, h1], fun j u hu => ?_, by simp [dP, h3], fun i y u hy hu => ?_⟩
   · cases j with
     | zero => simp at hu; rw [← hu]; exact hv
     | succ j =>
       simp at hu; have := h2 j u hu; rw [show off + (j + 1) = off + 1 + j by omega]; exact this
   · cases i with
     | zero =>
       simp [dP] at hy hu; subst hy hu
       cases t with
       | int k => unfold bL at hx; exact hx
       | bool => unfold bL at hx; exact hx
       | str => unfold bL at hx; exact hx
       | sl q => exact hx
     | succ i =>
       simp [dP] at hy hu; exact h4 i y u hy hu
theorem Bp {w : World} {P : List Nat → Nat → Prop} {c : Cz} {st : St} {a j g e i : Nat} {A : gr} {x0 : aq A.r} {bb o cap : Nat} (hA : aQ st a j g = some A) (he : e = lh st a) (hg : g ≤ cW st a) (hm : A.md = .dp) (M1 : A.xs[i]? = some x0) (gz : c.lc a j = .at bb o cap) :
   (r : RT) → (p : List Nat) → (k : Nat) → (x : aq r) → (∀ k', oI r x k' = oI A.r x0 (k + k')) → fM w P r p k bb (o + i * A.r.width + k) x →
   ∃ vs, vs.length = r.width ∧ w.rangeAt bb (o + i * A.r.width + k) vs ∧ eK c st w (oO a j g e i k r x) vs
 | .nil, _, _, _, _, _ => ⟨[], rfl, fun j v h => by simp at h, rfl, fun i x v h => by simp [oO] at h⟩
 | .cons t r, p, k, x, hs, h => by
   unfold fM at h; obtain ⟨⟨v, hv, hx⟩, hr⟩ := h; obtain ⟨vs, h1, h2, h3, h4⟩ := Bp hA he hg hm M1 gz r p (k + 1) x.2 (fun k' => by
     rw [show k + 1 + k' = k + (k' + 1) by omega, ← hs]
     cases t <;> rfl) (by rw [show o + i * A.r.width + (k + 1) = o + i * A.r.width + k + 1 by omega]; exact hr)
   refine ⟨v :: vs, by simp [RT.width, h1], fun j u hu => ?_, by simp [oO, h3], fun i' y u hy hu => ?_⟩
   · cases j with
     | zero => simp at hu; rw [← hu]; exact hv
     | succ j =>
       simp at hu; have := h2 j u hu; rw [show o + i * A.r.width + k + (j + 1) = o + i * A.r.width + (k + 1) + j by omega]; exact this
   · cases i' with
     | zero =>
       simp [oO] at hy hu; subst hy hu
       cases t with
       | int k => exact wD.1 hx
       | bool => exact sw.1 hx
       | str => exact wE.1 hx
       | sl q =>
         have hx := (uu _ _ _ _ _ _).1 hx; obtain ⟨lc, _, q1, _⟩ := hx; refine ⟨q1, hg, by rw [he]; exact Nat.le_refl _, fun A' eb _ => ?_⟩; rw [hA] at eb; cases eb; refine ⟨hm, ⟨x0, M1, ?_⟩, bb, o, cap, gz, hv⟩; have := hs 0; rw [Nat.add_zero] at this; rw [← this]; rfl
     | succ i' =>
       simp [oO] at hy hu; exact h4 i' y u hy hu
theorem qP {w : World} {b off : Nat} {vs : List Value} (h : w.rangeAt b off vs) (k n : Nat) : w.rangeAt b (off + k) ((vs.drop k).take n) := by
 intro j v hv; rw [List.getElem?_take] at hv
 by_cases hj : j < n
 · rw [if_pos hj, List.getElem?_drop] at hv; rw [Nat.add_assoc]; exact h _ v hv
 · rw [if_neg hj] at hv; simp at hv
def gZ (w w' : World) : Prop := w.heap.size ≤ w'.heap.size ∧ ∀ b, b < w.heap.size → w'.heap[b]? = w.heap[b]?
theorem gZ.refl (w : World) : gZ w w := ⟨Nat.le_refl _, fun _ _ => rfl⟩
theorem gZ.trans {w w' Wq : World} (h : gZ w w') (h' : gZ w' Wq) : gZ w Wq :=
 ⟨Nat.le_trans h.1 h'.1, fun b hb => (h'.2 b (Nat.lt_of_lt_of_le hb h.1)).trans (h.2 b hb)⟩
theorem gZ.alloc (w : World) (b : Obj) : gZ w (w.alloc b) := ⟨by simp, fun k hk => heap_alloc_old w b k hk⟩
theorem gZ.range {w w' : World} (h : gZ w w') {b o : Nat} {vs : List Value} (hr : w.rangeAt b o vs) : w'.rangeAt b o vs := by
 intro j v hj; have h1 := hr j v hj; rw [World.cell?_of_block (w := w) (h.2 b (J0 h1))]; exact h1
theorem F9 {P : Program} {T : kh} (hT : fG P T) {w0 : World} {mu : Mu} {c : Cz} {st : St} {a : Act} {w : World} (h : Rel w0 mu c st a w)
   {d : Option Nat} {t : Nat} {x : V} {u : Value} (hx : eo c st w x u) {aP : St} (hv : (tQ T st d t x).val = some aP) (hd : ∀ k, d = some k → k < a.tmps.size) :
   ∃ v, (∀ w' : World, gZ w w' → (Instr.loadAt t u).run P w' = .ok v w') ∧ Rel w0 mu c aP (a.put d v) w := by
 have key : ∀ (b o n : Nat) (l : List CV) (vs : List Value), T.cells t = some n → u = .pointer (some ⟨b, o, none⟩) → w.rangeAt b o vs → vs.length = n → eK c st w l vs →
     (N.done (TM.aS st d (MR T t l))).val = some aP → ∃ v, (∀ w' : World, gZ w w' → (Instr.loadAt t u).run P w' = .ok v w') ∧ Rel w0 mu c aP (a.put d v) w := by
   intro b o n l vs hn hu hr hlen hl po; simp only [N.val, Option.some.injEq] at po; subst po; obtain ⟨dd, _, _, h1⟩ := hT.agg t n hn; refine ⟨valOf (T.agg t) vs, fun w' hk => ?_, h.aS (PC hl (fun hg => by rw [hl.1, hlen]; exact h1 hg)) hd⟩; subst hu; have Z9 : w'.rangeAt b o vs := hk.range hr; simp only [Instr.loadAt, Instr.sureAddr, Sem.run_bind, Sem.run_pure, Result.andThen_ok, qO hT hn w' b o vs Z9 hlen]
 cases hn : T.cells t with
 | none => cases x with
   | one y => cases y <;> simp [tQ, hn, N.val] at hv
   | agg _ => simp [tQ, N.val] at hv
   | lU _ => simp [tQ, N.val] at hv
 | some n => cases x with
   | agg _ => simp [tQ, N.val] at hv
   | lU _ => simp [tQ, N.val] at hv
   | one y => cases y with
     | bad | int _ _ | bool _ | str _ | dL | H2 | shr _ _ | nn _ _ | ref _ _ _ _ | fn _ _ _ | nQ _ _ _ _ _ _ _ _ => simp [tQ, N.val] at hv
     | ptr b g off =>
       simp only [tQ, hn] at hv
       cases hb : dx st b g with
       | none => simp [hb, N.val] at hv
       | some cs =>
         simp only [hb] at hv
         cases AS : eJ n off cs with
         | none => simp [AS, N.val] at hv
         | some l =>
           simp only [AS] at hv; obtain ⟨rfl, hlen⟩ := jV AS; obtain ⟨sl, Bq, Pk, Br⟩ := gw hb; obtain ⟨ho, vs, ty, hh, hl⟩ := h.boxes b sl cs Bq Br; have hu := hx.2.2 cs hb; refine key _ _ n _ ((vs.toList.drop off).take n) hn hu (zX hh n) ?_ (hl.take off n) hv; rw [← (hl.take off n).1]; exact hlen
     | kC r y off =>
       simp only [tQ, hn] at hv
       cases AS : eJ n off (dP r y) with
       | none => simp [AS, N.val] at hv
       | some l =>
         simp only [AS] at hv; obtain ⟨rfl, hlen⟩ := jV AS; obtain ⟨b, o, hu, bX, fF, Bs⟩ := hx; obtain ⟨vs, h1, h2, h3⟩ := sA (st := st) r b o y Bs; refine key _ _ n _ ((vs.drop off).take n) hn hu (qP h2 off n) ?_ (h3.take off n) hv; rw [← (h3.take off n).1]; exact hlen
     | re r ys off =>
       simp only [tQ, hn] at hv
       cases hy : ys[0]? with
       | none => simp [hy, N.val] at hv
       | some y =>
       simp only [hy] at hv; change (match eJ n off (dP r y) with | some l => N.done (TM.aS st d (MR T t l)) | none => N.fail).val = some aP at hv
       cases AS : eJ n off (dP r y) with
       | none => simp [AS, N.val] at hv
       | some l =>
         simp only [AS] at hv; obtain ⟨rfl, hlen⟩ := jV AS; obtain ⟨b, o, hu, bX, fF, Bs⟩ := hx; obtain ⟨vs, h1, h2, h3⟩ := sA (st := st) r b o y (Bs y hy); refine key _ _ n _ ((vs.drop off).take n) hn hu (qP h2 off n) ?_ (h3.take off n) hv; rw [← (h3.take off n).1]; exact hlen
     | F5 a' j g i off =>
       simp only [tQ, hn] at hv
       cases hA : aQ st a' j g with
       | none => simp [hA, N.val] at hv
       | some A =>
         simp only [hA] at hv; obtain ⟨sl, Bq, Pk, Br⟩ := bc hA; have Ga := h.aJ a' j sl A Bq Br; obtain ⟨hi, b, o, cap, gz, hu⟩ := hx.2.2 A hA; unfold bM at Ga; rw [gz] at Ga; obtain ⟨_, _, _, eX⟩ := Ga
         cases hm : A.md with
         | ho _ => rw [hm] at hv; simp [N.val] at hv
         | sh =>
           rw [hm] at hv; simp only at hv
           cases wF : A.xs[i]? with
           | none => simp [wF, N.val] at hv
           | some y =>
             simp only [wF] at hv; change (match eJ n off (dP A.r y) with | some l => N.done (TM.aS st d (MR T t l)) | none => N.fail).val = some aP at hv
             cases AS : eJ n off (dP A.r y) with
             | none => simp [AS, N.val] at hv
             | some l =>
               simp only [AS] at hv; obtain ⟨rfl, hlen⟩ := jV AS; obtain ⟨vs, h1, h2, h3⟩ := sA (st := st) A.r b _ y ((bn.sh hm).1 eX i y wF); refine key _ _ n _ ((vs.drop off).take n) hn hu (qP h2 off n) ?_ (h3.take off n) hv; rw [← (h3.take off n).1]; exact hlen
         | dp =>
           rw [hm] at hv; simp only at hv
           cases wF : A.xs[i]? with
           | none => simp [wF, N.val] at hv
           | some y =>
             simp only [wF] at hv; change (match eJ n off (oO a' j g (lh st a') i 0 A.r y) with | some l => N.done (TM.aS st d (MR T t l)) | none => N.fail).val = some aP at hv
             cases AS : eJ n off (oO a' j g (lh st a') i 0 A.r y) with
             | none => simp [AS, N.val] at hv
             | some l =>
               simp only [AS] at hv; obtain ⟨rfl, hlen⟩ := jV AS; unfold bn at eX; rw [hm] at eX; obtain ⟨gg, _, eX⟩ := eX; obtain ⟨vs, h1, h2, h3⟩ := Bp (st := st) hA rfl hx.2.1 hm wF gz A.r _ 0 y (fun k' => by rw [Nat.zero_add]) (eX i y wF); rw [Nat.add_zero] at h2; refine key _ _ n _ ((vs.drop off).take n) hn hu (qP h2 off n) ?_ (h3.take off n) hv; rw [← (h3.take off n).1]; exact hlen
end Go.TM
namespace Go.TM
open Go Go.RowKit
def cF (w : World) (ok : Nat → Prop) : (r : RT) → List Value → aq r → Prop
 | .nil, vs, _ => vs = []
 | .cons t r, vs, x => ∃ v l, vs = v :: l ∧ bL w ok t v x.1 ∧ cF w ok r l x.2
theorem cF.length {w : World} {ok : Nat → Prop} : (r : RT) → (vs : List Value) → (x : aq r) → cF w ok r vs x → vs.length = r.width
 | .nil, vs, _, h => by simp only [cF] at h; subst h; rfl
 | .cons t r, vs, x, h => by
   obtain ⟨v, l, rfl, _, h⟩ := h; simp [RT.width, cF.length r l x.2 h]
theorem l6 {w : World} {ok : Nat → Prop} : (r : RT) → (b off : Nat) → (x : aq r) → (cq w ok r b off x ↔ ∃ vs, w.rangeAt b off vs ∧ cF w ok r vs x)
 | .nil, _, _, _ => by
   unfold cq; exact ⟨fun _ => ⟨[], fun j v h => by simp at h, rfl⟩, fun _ => trivial⟩
 | .cons t r, b, off, x => by
   unfold cq
   constructor
   · rintro ⟨⟨v, hv, hx⟩, hr⟩
     obtain ⟨vs, h1, h2⟩ := (l6 r b (off + 1) x.2).1 hr; refine ⟨v :: vs, fun j u hu => ?_, v, vs, rfl, hx, h2⟩
     cases j with
     | zero => simp at hu; rw [← hu]; exact hv
     | succ j =>
       simp at hu; rw [show off + (j + 1) = off + 1 + j by omega]; exact h1 j u hu
   · rintro ⟨vs, h1, v, l, rfl, hx, h2⟩
     refine ⟨⟨v, h1 0 v rfl, hx⟩, (l6 r b (off + 1) x.2).2 ⟨l, fun j u hu => ?_, h2⟩⟩; have := h1 (j + 1) u (by simpa using hu); rw [show off + 1 + j = off + (j + 1) by omega]; exact this
theorem cF.stays {w w' : World} {ok xO : Nat → Prop} (h : ir w w' ok xO) : (r : RT) → (vs : List Value) → (x : aq r) → cF w ok r vs x → cF w' xO r vs x
 | .nil, _, _, hr => hr
 | .cons t r, _, x, ⟨v, l, e, hx, hr⟩ => ⟨v, l, e, bL.stays h t v x.1 hx, cF.stays h r l x.2 hr⟩
theorem Bt {w : World} {c : Cz} {st : St} : (r : RT) → (x : aq r) → (k : Nat) → (y : CV) → (z : aq r) → (vs : List Value) → (u : Value) →
   fp r x k y = some z → iT c st w y u → cF w c.ok r vs x → cF w c.ok r (vs.set k u) z
 | .nil, _, _, _, _, _, _, h, _, _ => by simp [fp] at h
 | .cons t r, x, 0, y, z, vs, u, h, hu, hv => by
   obtain ⟨v, l, rfl, hx, hr⟩ := hv
   cases t with
   | int k => cases y <;> simp [fp] at h
              obtain ⟨rfl, h⟩ := h; obtain rfl := Option.some.inj h; refine ⟨u, l, rfl, ?_, hr⟩; unfold bL; exact hu
   | bool => cases y <;> simp [fp] at h
             obtain rfl := Option.some.inj h; refine ⟨u, l, rfl, ?_, hr⟩; unfold bL; exact hu
   | str => cases y <;> simp [fp] at h
            obtain rfl := Option.some.inj h; refine ⟨u, l, rfl, ?_, hr⟩; unfold bL; exact hu
   | sl q => cases y <;> simp [fp] at h
 | .cons t r, x, k + 1, y, z, vs, u, h, hu, hv => by
   obtain ⟨v, l, rfl, hx, hr⟩ := hv; have h' : (fp r x.2 k y).map (fun z => ((x.1, z) : aq (.cons t r))) = some z := by cases t <;> (simp only [fp] at h; exact h)
   cases hq : fp r x.2 k y with
   | none => simp [hq] at h'
   | some z' =>
     rw [hq] at h'; obtain rfl := Option.some.inj h'; exact ⟨v, l.set k u, rfl, hx, Bt r x.2 k y z' l u hq hu hr⟩
def bE (vs : List Value) (off : Nat) (us : List Value) : List Value := vs.take off ++ us ++ vs.drop (off + us.length)
theorem zY {vs : List Value} {off : Nat} {u : Value} {us : List Value} (h : off < vs.length) : bE vs off (u :: us) = (bE vs (off + 1) us).set off u := by
 unfold bE; apply List.ext_getElem?; intro k; simp only [List.getElem?_set, List.getElem?_append, List.length_append, List.length_take, List.length_cons, List.getElem?_drop, List.getElem?_cons]
 by_cases h1 : k < off
 · have a1 : min off vs.length = off := by omega
   have a2 : min (off + 1) vs.length = off + 1 := by omega
   have a3 : off ≠ k := by omega
   simp only [a1, a2, a3, if_false, h1, show k < off + (us.length + 1) by omega, show k < off + 1 + us.length by omega, show k < off + 1 by omega, if_true, List.getElem?_take]
 · by_cases h2 : k = off
   · subst h2; have a1 : min k vs.length = k := by omega
     have a2 : min (k + 1) vs.length = k + 1 := by omega
     have a3 : min k vs.length - k = 0 := by omega
     simp [a1, a2, h]; omega
   · have a1 : min off vs.length = off := by omega
     have a2 : min (off + 1) vs.length = off + 1 := by omega
     obtain ⟨m, rfl⟩ : ∃ m, k = off + 1 + m := ⟨k - (off + 1), by omega⟩; have a3 : off ≠ off + 1 + m := by omega
     simp only [a1, a2, a3, if_false, show ¬ off + 1 + m < off by omega, show off + 1 + m - off = m + 1 by omega, show ¬ off + 1 + m < off + 1 by omega, show off + 1 + m - (off + 1) = m by omega,
       Nat.add_one_ne_zero, Nat.add_sub_cancel]
     by_cases h3 : m < us.length
     · rw [if_pos (by omega), if_pos (by omega)]
     · rw [if_neg (by omega), if_neg (by omega)]
       congr 1
       omega
theorem fX {vs : List Value} {off : Nat} {us : List Value} (h : off + us.length ≤ vs.length) : (bE vs off us).length = vs.length := by
 unfold bE; simp; omega
theorem Bu {w : World} {c : Cz} {st : St} (r : RT) (x : aq r) : (off : Nat) → (cs : List CV) → (z : aq r) → (vs us : List Value) → off + us.length ≤ vs.length →
   jT r x off cs = some z → eK c st w cs us → cF w c.ok r vs x → cF w c.ok r (bE vs off us) z
 | off, [], z, vs, us, _, h, hl, hv => by
   have : us = [] := by have := hl.1; simp at this; exact List.length_eq_zero_iff.1 this.symm
   subst this; simp [jT] at h; subst h; simp [bE]; exact hv
 | off, y :: l, z, vs, us, hle, h, hl, hv => by
   cases us with
   | nil => have := hl.1; simp at this
   | cons u us =>
     simp only [jT] at h
     cases hq : jT r x (off + 1) l with
     | none => simp [hq] at h
     | some y' =>
       simp only [hq] at h; simp at hle; have ih := Bu r x (off + 1) l y' vs us (by omega) hq ⟨by have := hl.1; simpa using this, fun i a b ha hb => hl.2 (i + 1) a b (by simpa using ha) (by simpa using hb)⟩ hv; rw [zY (by omega)]; exact Bt r y' off y z _ u h (hl.2 0 y u rfl rfl) ih
theorem sB {w : World} {c : Cz} {b : Nat} {l : Lb} (hb : c.own b = some l) (cur : Array Value) : ir w (w.setRow b cur) c.ok c.ok where
 size := by simp [World.setRow]
 block k _ hk := setRow_other w b k cur (fun e => by subst e; unfold Cz.ok at hk; rw [hb] at hk; cases hk)
 ok _ _ h := h
theorem lC {P : Program} {T : kh} (hT : fG P T) {t n : Nat} (ht : T.cells t = some n) (w : World) (b o : Nat) (v : Value) (hn : v.cells.toList.length = n) (h1 : ∀ u ∈ v.cells.toList, u.oneCell' = true)
   {cur : Array Value} {ty : TypeId} (hg : w.heap[b]? = some (.cells cur ty (0, 0))) (hle : o + n ≤ cur.size) :
   (Instr.storeAt t (.pointer (some ⟨b, o, none⟩)) v).run P w = .ok () (w.setRow b (bE cur.toList o v.cells.toList).toArray) := by
 have hs := run_storeCells_at P b o ty v.cells.toList 0 cur w hg (by omega) h1; have hi := hT.cells t n ht
 cases hq : P.info? t with
 | none => simp [hq] at hi
 | some i =>
   have ki : v.cells.size = i.size := by simp [hq] at hi; rw [hi, ← hn]; simp
   simp only [Nat.add_zero] at hs; simp [Instr.storeAt, Instr.sureAddr, storeVar, sizeOf, typeInfo, hq, ki, hs, bE]
end Go.TM
namespace Go.TM
open Go Go.RowKit
theorem View.vM {α : Type} (vw : View) (xs : List α) {i : Nat} {x : α} (h : (vw.app xs)[i]? = some x) : xs[vw.lo + i]? = some x := by
 cases vw with
 | full => simpa [View.app, View.lo] using h
 | «from» lo => simpa [View.app, View.lo, List.getElem?_drop] using h
 | sub lo n =>
   simp only [View.app, View.lo, List.getElem?_take, List.getElem?_drop] at h ⊢
   by_cases hi : i < n
   · rwa [if_pos hi] at h
   · rw [if_neg hi] at h; simp at h
theorem xQ {c : Cz} {w : World} {s j : Nat} {A : gr} (h : bM c w s j A) {vw : View} {u : Value} (hu : iB (c.lc s j) A.r.width vw.lo (vw.app A.xs).length u)
   {ok : Nat → Prop} (h1 : ∀ b, c.ok b → ok b) (h2 : ∀ b, A.own = true ∨ A.md = .dp → c.own b = some (.sp s j) → ok b) (v8 : A.md.DN = false) : bL w ok (.sl A.r) u (vw.app A.xs) := by
 rw [mC]
 cases hl : c.lc s j with
 | nil =>
   unfold iB at hu; rw [hl] at hu; obtain ⟨rfl, hn⟩ := hu; exact .inl ⟨rfl, List.length_eq_zero_iff.1 hn⟩
 | «at» b off cap =>
   unfold iB at hu; rw [hl] at hu; obtain ⟨a, k, rfl, hk, xR, ha⟩ := hu; unfold bM at h; rw [hl] at h; obtain ⟨h0, _, ⟨cur, ty, h3, _⟩, h5⟩ := h; have h5 : ∀ (i : Nat) x, A.xs[i]? = some x → cq w ok A.r b (off + i * A.r.width) x := by
     unfold bn at h5
     cases hm : A.md with
     | sh => rw [hm] at h5; exact fun i x hx => cq.stays ⟨Nat.le_refl _, fun _ _ _ => rfl, fun b _ hb => h1 b hb⟩ _ _ _ x rfl (h5 i x hx)
     | dp =>
       rw [hm] at h5; obtain ⟨g, _, h5⟩ := h5; exact fun i x hx => fM.rep (fun p k hk => h2 k (.inr hm) hk.1) _ _ _ _ _ x (h5 i x hx)
     | ho _ => rw [hm] at v8; cases v8
   have hob : ok b := by
     cases ho : A.own with
     | true => rw [ho] at h0; exact h2 b (.inl ho) h0
     | false => rw [ho] at h0; exact h1 b h0
   have hs : ir w w c.ok ok := ⟨Nat.le_refl _, fun _ _ _ => rfl, fun b _ hb => h1 b hb⟩; refine .inr ⟨a, k, rfl, hk, fun fE => ?_, fun i x hi => ?_⟩
   · have : k ≠ 0 := by
       have := List.length_pos_iff.2 fE; omega
     rw [ha this]; exact ⟨rfl, (Array.getElem?_eq_some_iff.1 h3).1, hob⟩
   · have hk0 : k ≠ 0 := by
       have := (List.getElem?_eq_some_iff.1 hi).1; omega
     rw [ha hk0]; have := h5 _ x (View.vM vw A.xs hi); have e : off + vw.lo * A.r.width + i * A.r.width = off + (vw.lo + i) * A.r.width := by rw [Nat.add_mul]; omega
     show cq w ok A.r b (off + vw.lo * A.r.width + i * A.r.width) x; rw [e]; exact this
theorem a6 {r s : RT} {xs : List (aq r)} {ys : List (aq s)} (h : bA s xs = some ys) : ∃ e : r = s, ys = e ▸ xs := by
 unfold bA at h
 cases hq : RT.eq? r s with
 | none => simp [hq] at h
 | some p => obtain ⟨e⟩ := p; simp [hq] at h; exact ⟨e, h.symm⟩
def Cz.drop1 (c : Cz) (a j : Nat) : Cz :=
 { c with own := fun k => match c.own k with | some (.sp s i) => if s = a ∧ i = j then none else some (.sp s i) | l => l }
theorem Cz.Bv {c : Cz} {a j b : Nat} (h : c.ok b) : (c.drop1 a j).ok b := by
 unfold Cz.ok Cz.drop1 at *; simp [h]
theorem Cz.Bw {c : Cz} {a j b : Nat} (h : c.own b = some (.sp a j)) : (c.drop1 a j).ok b := by
 unfold Cz.ok Cz.drop1; simp [h]
theorem Cz.Ih {c : Cz} {a j b : Nat} {l : Lb} (h : (c.drop1 a j).own b = some l) : c.own b = some l := by
 unfold Cz.drop1 at h; simp only at h
 cases hc : c.own b with
 | none => simp [hc] at h
 | some l' => cases l' with
   | box s => simp [hc] at h; rw [h]
   | out => simp [hc] at h; rw [h]
   | bK i k => simp [hc] at h; rw [h]
   | rE i => simp [hc] at h; rw [h]
   | gM k => simp [hc] at h; rw [h]
   | sp s i =>
     simp only [hc] at h
     by_cases e : s = a ∧ i = j
     · simp [e] at h
     · rw [if_neg e] at h; exact h
theorem Cz.pF {c : Cz} {a j b : Nat} {l : Lb} (h : c.own b = some l) (fE : l ≠ .sp a j) : (c.drop1 a j).own b = some l := by
 unfold Cz.drop1; simp only [h]
 cases l with
 | box s => rfl
 | out => rfl
 | bK i k => rfl
 | rE i => rfl
 | gM k => rfl
 | sp s i =>
   simp only; rw [if_neg]
   rintro ⟨rfl, rfl⟩
   exact fE rfl
def eG (st : St) (a j : Nat) : St := lN (fun s => { s with aJ := lN (fun A => A.map gr.fz) s.aJ j, ep := s.ep + 1 }) st a
theorem Gb (st : St) (a j : Nat) (l : List (Nat × Nat)) : freeze st ((a, j) :: l) = freeze (eG st a j) l := rfl
theorem gN (st : St) (a j s : Nat) : ∃ f : Sl → Sl, (∀ x, (f x).v = x.v ∧ (f x).box = x.box ∧ (f x).bg = x.bg ∧ (f x).ag = x.ag ∧
     (∀ i, nth (f x).aJ i = if s = a ∧ i = j then (nth x.aJ i).map (fun A => A.map gr.fz) else nth x.aJ i) ∧ (f x).ep = if s = a then x.ep + 1 else x.ep) ∧ nth (eG st a j) s = (nth st s).map f := by
 unfold eG
 by_cases h : s = a
 · subst h; refine ⟨fun s => { s with aJ := lN (fun A => A.map gr.fz) s.aJ j, ep := s.ep + 1 }, fun x => ⟨rfl, rfl, rfl, rfl, fun i => ?_, by simp⟩, iS _ _ _⟩; simp only [dz, true_and]
 · refine ⟨id, fun x => ⟨rfl, rfl, rfl, rfl, fun i => ?_, by simp [h]⟩, by rw [lj _ _ h]; simp⟩; simp [h]
theorem zZ (st : St) (a j b : Nat) : lh st b ≤ lh (eG st a j) b ∧ (lh (eG st a j) b = lh st b → b ≠ a ∨ nth st b = none) := by
 obtain ⟨f, hf, hn⟩ := gN st a j b; unfold lh; rw [hn]
 cases hx : nth st b with
 | none => simp
 | some x =>
   simp only [Option.map_some]; rw [(hf x).2.2.2.2.2]
   by_cases e : b = a
   · rw [if_pos e]; exact ⟨by omega, fun h => by omega⟩
   · rw [if_neg e]; exact ⟨Nat.le_refl _, fun _ => .inl e⟩
theorem ES (st : St) (a j t : Nat) : bW (eG st a j) t = bW st t := by
 obtain ⟨f, hf, hn⟩ := gN st a j t; unfold bW; rw [hn]
 cases nth st t with
 | none => rfl
 | some x => exact (hf x).1
theorem ET {st : St} {a j a' j' g : Nat} {A' : gr} (h : aQ (eG st a j) a' j' g = some A') : ∃ A, aQ st a' j' g = some A ∧ A'.r.width = A.r.width ∧ A'.xs.length = A.xs.length ∧ (a' ≠ a → A' = A) := by
 obtain ⟨sl, h1, h2, h3⟩ := bc h; obtain ⟨f, hf, hn⟩ := gN st a j a'; rw [hn] at h1
 cases hx : nth st a' with
 | none => rw [hx] at h1; simp at h1
 | some x =>
   rw [hx] at h1; simp at h1; subst h1; obtain ⟨_, _, _, f4, f5, _⟩ := hf x; rw [f5] at h3; rw [f4] at h2; have key : ∃ A, nth x.aJ j' = some (some A) ∧ A'.r.width = A.r.width ∧ A'.xs.length = A.xs.length ∧ (a' ≠ a → A' = A) := by
     by_cases e : a' = a ∧ j' = j
     · rw [if_pos e] at h3
       cases hj : nth x.aJ j' with
       | none => simp [hj] at h3
       | some o => cases o with
         | none => simp [hj] at h3
         | some A => simp [hj] at h3; subst h3; exact ⟨A, rfl, rfl, rfl, fun h => absurd e.1 h⟩
     · rw [if_neg e] at h3; exact ⟨A', h3, rfl, rfl, fun _ => rfl⟩
   obtain ⟨A, k1, k2, k3⟩ := key; refine ⟨A, ?_, k2, k3⟩; unfold aQ; rw [hx]; have : Nat.beq x.ag g = true := by rw [h2]; exact Nat.beq_refl g
   simp [this, k1]
theorem EU (st : St) (a j b g : Nat) : dx (eG st a j) b g = dx st b g := by
 obtain ⟨f, hf, hn⟩ := gN st a j b; unfold dx; rw [hn]
 cases nth st b with
 | none => rfl
 | some x => obtain ⟨_, h2, h3, _⟩ := hf x; simp [h2, h3]
theorem EV (st : St) (a j b : Nat) : cW (eG st a j) b = cW st b := by
 obtain ⟨f, hf, hn⟩ := gN st a j b; unfold cW; rw [hn]
 cases nth st b with
 | none => rfl
 | some x => exact (hf x).2.2.2.1
theorem EW (st : St) (a j b : Nat) : fL (eG st a j) b = fL st b := by
 obtain ⟨f, hf, hn⟩ := gN st a j b; unfold fL; rw [hn]
 cases nth st b with
 | none => rfl
 | some x => exact (hf x).2.2.1
theorem Fw.eG (c : Cz) (st : St) (w : World) (a j : Nat) : Fw c st w (c.drop1 a j) (eG st a j) w where
 stays := ⟨Nat.le_refl _, fun _ _ _ => rfl, fun _ _ h => Cz.Bv h⟩
 refs a' j' g A' _ eb := by
   obtain ⟨A, h1, h2, h3, h4⟩ := ET eb; refine ⟨A, h1, h2, h3, rfl, fun he => ⟨?_, fun _ _ _ _ => rfl⟩⟩; rcases (zZ st a j a').2 he with e | e
   · exact h4 e
   · unfold aQ at h1; rw [e] at h1; cases h1
 AR b g lV _ h := ⟨⟨lV, by rwa [EU] at h⟩, rfl⟩
 gA b := by rw [EV]; exact Nat.le_refl _
 gB b := by rw [EW]; exact Nat.le_refl _
 gE b := (zZ st a j b).1
theorem Rel.eG {w0 : World} {mu : Mu} {c : Cz} {st : St} {a : Act} {w : World} (h : Rel w0 mu c st a w) (s j : Nat) : Rel w0 mu (c.drop1 s j) (eG st s j) a w where
 eL t := by rw [ES]; exact (Fw.eG c st w s j).lO (h.eL t)
 boxes b sl cs hs hb := by
   obtain ⟨f, hf, hn⟩ := gN st s j b; rw [hn] at hs
   cases hx : nth st b with
   | none => rw [hx] at hs; simp at hs
   | some x =>
     rw [hx] at hs; simp at hs; subst hs; rw [(hf x).2.1] at hb; have h0 := h.boxes b x cs hx hb; exact h0.go (Fw.eG c st w s j) rfl (by rw [h0.1]; exact Cz.pF h0.1 (by simp)) rfl
 aJ b i sl A hs hb := by
   obtain ⟨f, hf, hn⟩ := gN st s j b; rw [hn] at hs
   cases hx : nth st b with
   | none => rw [hx] at hs; simp at hs
   | some x =>
     rw [hx] at hs; simp at hs; subst hs; rw [(hf x).2.2.2.2.1 i] at hb
     by_cases e : b = s ∧ i = j
     · rw [if_pos e] at hb
       cases hj : nth x.aJ i with
       | none => simp [hj] at hb
       | some o => cases o with
         | none => simp [hj] at hb
         | some B =>
           simp [hj] at hb; subst hb; have h0 := h.aJ b i x B hx hj; unfold bM at h0 ⊢; show match c.lc b i with | .nil => _ | .at b off cap => _
           cases hl : c.lc b i with
           | nil => rw [hl] at h0; exact h0
           | «at» k off cap =>
             rw [hl] at h0; obtain ⟨h1, h2, h3, h4⟩ := h0; refine ⟨?_, h2, h3, ?_⟩
             · show (c.drop1 s j).own k = none
               cases ho : B.own with
               | true => rw [ho] at h1; obtain ⟨rfl, rfl⟩ := e; exact Cz.Bw h1
               | false => rw [ho] at h1; exact Cz.Bv h1
             · unfold bn at h4 ⊢; show match B.md.fz with | .sh => _ | .dp => _ | .ho _ => _
               cases hm : B.md with
               | sh => rw [hm] at h4; exact fun i x hi => cq.stays (Fw.eG c st w s j).stays _ _ _ x rfl (h4 i x hi)
               | dp =>
                 rw [hm] at h4; obtain ⟨g, _, h4⟩ := h4; obtain ⟨rfl, rfl⟩ := e; exact fun i x hi => fM.rep (fun p k hk => Cz.Bw hk.1) _ _ _ _ _ x (h4 i x hi)
               | ho q => exact fun e => by cases e
     · rw [if_neg e] at hb; have h0 := h.aJ b i x A hx hb; refine h0.go (Fw.eG c st w s j).stays rfl (fun k h1 => ⟨rfl, ?_⟩); rw [h1]; exact Cz.pF h1 (by rintro e'; injection e' with e1 e2; exact e ⟨e1, e2⟩)
 owned b l hb := h.owned b l (Cz.Ih hb)
 free b hb h1 := by
   cases hc : c.own b with
   | none => exact h.free b hb hc
   | some l =>
     rcases (h.owned b l hc).2 with h2 | h2 | h2
     · subst h2; unfold Cz.drop1 at h1; simp [hc] at h1
     · omega
     · exact .inl h2
 kept := h.kept
 old := h.old
 dR p hp := (Fw.eG c st w s j).dR (h.dR p hp)
 plain := h.plain
def Cz.drop (c : Cz) : List (Nat × Nat) → Cz
 | [] => c
 | (a, j) :: l => (c.drop1 a j).drop l
theorem Rel.freeze {w0 : World} {mu : Mu} {a : Act} {w : World} : (m : List (Nat × Nat)) → {c : Cz} → {st : St} → Rel w0 mu c st a w → Rel w0 mu (c.drop m) (freeze st m) a w
 | [], _, _, h => h
 | (s, j) :: m, _, _, h => Rel.freeze m (h.eG s j)
theorem Cz.xS : (m : List (Nat × Nat)) → (c : Cz) → (b : Nat) → c.ok b → (c.drop m).ok b
 | [], _, _, h => h
 | (a, j) :: m, c, b, h => Cz.xS m (c.drop1 a j) b (Cz.Bv h)
theorem Cz.A7 : (m : List (Nat × Nat)) → (c : Cz) → (b : Nat) → {a j : Nat} → c.own b = some (.sp a j) → (a, j) ∈ m → (c.drop m).ok b
 | [], _, _, _, _, _, h => by simp at h
 | (a', j') :: m, c, b, a, j, h, hm => by
   by_cases e : a' = a ∧ j' = j
   · obtain ⟨rfl, rfl⟩ := e; exact Cz.xS m _ b (Cz.Bw h)
   · refine Cz.A7 m (c.drop1 a' j') b (Cz.pF h (by rintro e'; injection e' with e1 e2; exact e ⟨e1.symm, e2.symm⟩)) ?_; rcases List.mem_cons.1 hm with h' | h'
     · injection h' with e1 e2; exact absurd ⟨e1.symm, e2.symm⟩ e
     · exact h'
theorem Cz.J1 : (m : List (Nat × Nat)) → (c : Cz) → (c.drop m).lc = c.lc ∧ (c.drop m).bx = c.bx
 | [], _ => ⟨rfl, rfl⟩
 | (a, j) :: m, c => Cz.J1 m (c.drop1 a j)
theorem Cz.DR : (m : List (Nat × Nat)) → (c : Cz) → (b : Nat) → {l : Lb} → c.own b = some l → (∀ p ∈ m, l ≠ .sp p.1 p.2) → (c.drop m).own b = some l
 | [], _, _, _, h, _ => h
 | (a, j) :: m, c, b, l, h, hm => Cz.DR m (c.drop1 a j) b (Cz.pF h (hm (a, j) (by simp))) (fun p hp => hm p (by simp [hp]))
theorem Fw.trans {c c1 c2 : Cz} {st zi gm : St} {w w1 w2 : World} (h : Fw c st w c1 zi w1) (k : Fw c1 zi w1 c2 gm w2) : Fw c st w c2 gm w2 where
 stays := ⟨Nat.le_trans h.stays.size k.stays.size, fun b hb ho => (k.stays.block b (Nat.lt_of_lt_of_le hb h.stays.size) (h.stays.ok b hb ho)).trans (h.stays.block b hb ho),
   fun b hb ho => k.stays.ok b (Nat.lt_of_lt_of_le hb h.stays.size) (h.stays.ok b hb ho)⟩
 refs a j g A' hg eb := by
   obtain ⟨A1, h1, h2, h3, h4, h5⟩ := k.refs a j g A' (Nat.le_trans hg (h.gA a)) eb; obtain ⟨A, k1, k2, k3, k4, k5⟩ := h.refs a j g A1 hg h1; refine ⟨A, k1, h2.trans k2, h3.trans k3, h4.trans k4, fun he => ?_⟩; have g1 := h.gE a; have g2 := k.gE a; obtain ⟨e1, e2⟩ := h5 (by omega); obtain ⟨e3, e4⟩ := k5 (by omega); exact ⟨e1.trans e3, fun b o cap hl => (e2 b o cap (by rw [k4]; exact hl)).trans (e4 b o cap hl)⟩
 AR b g lV hg hb := by
   obtain ⟨⟨cs1, h1⟩, h2⟩ := k.AR b g lV (Nat.le_trans hg (h.gB b)) hb; obtain ⟨h3, h4⟩ := h.AR b g cs1 hg h1; exact ⟨h3, h2.trans h4⟩
 gA a := Nat.le_trans (h.gA a) (k.gA a)
 gB b := Nat.le_trans (h.gB b) (k.gB b)
 gE b := Nat.le_trans (h.gE b) (k.gE b)
theorem Fw.refl (c : Cz) (st : St) (w : World) : Fw c st w c st w := ⟨ir.refl w _, fun _ _ _ A' _ h => ⟨A', h, rfl, rfl, rfl, fun _ => ⟨rfl, fun _ _ _ _ => rfl⟩⟩, fun _ _ lV _ h => ⟨⟨lV, h⟩, rfl⟩, fun _ => Nat.le_refl _, fun _ => Nat.le_refl _, fun _ => Nat.le_refl _⟩
theorem Fw.freeze (w : World) : (m : List (Nat × Nat)) → (c : Cz) → (st : St) → Fw c st w (c.drop m) (freeze st m) w
 | [], c, st => Fw.refl c st w
 | (a, j) :: m, c, st => (Fw.eG c st w a j).trans (Fw.freeze w m (c.drop1 a j) (TM.eG st a j))
theorem xT {w0 : World} {mu : Mu} {c : Cz} {st : St} {a : Act} {w : World} (h : Rel w0 mu c st a w) : (r : RT) → (cs : List CV) → (us : List Value) → eK c st w cs us →
   (k : aq r → List (Nat × Nat) → N) → {aP : St} → (rowOf st r cs k).val = some aP →
   ∃ x m, (k x m).val = some aP ∧ (∀ p ∈ m, ∃ g A, aQ st p.1 p.2 g = some A) ∧
     ∀ ok : Nat → Prop, (∀ b, c.ok b → ok b) → (∀ p ∈ m, ∀ b, c.own b = some (.sp p.1 p.2) → ok b) → cF w ok r us x
 | .nil, cs, us, hl, k, aP, hv => by
   cases cs with
   | cons _ _ => simp [rowOf, N.val] at hv
   | nil =>
     have : us = [] := by have := hl.1; simp at this; exact List.length_eq_zero_iff.1 this.symm
     subst this; exact ⟨(), [], hv, fun p hp => by simp at hp, fun _ _ _ => rfl⟩
 | .cons t r, cs, us, hl, k, aP, hv => by
   cases cs with
   | nil => cases t <;> simp [rowOf, N.val] at hv
   | cons y cs =>
     cases us with
     | nil => have := hl.1; simp at this
     | cons u us =>
       have hu : iT c st w y u := hl.2 0 y u rfl rfl; have wk : eK c st w cs us := ⟨by have := hl.1; simpa using this, fun i a b ha hb => hl.2 (i + 1) a b (by simpa using ha) (by simpa using hb)⟩; have plain : ∀ (d : den t), (∀ ok : Nat → Prop, (∀ b, c.ok b → ok b) → bL w ok t u d) → (rowOf st r cs (fun x m => k (d, x) m)).val = some aP →
           ∃ x m, (k x m).val = some aP ∧ (∀ p ∈ m, ∃ g A, aQ st p.1 p.2 g = some A) ∧
             ∀ ok : Nat → Prop, (∀ b, c.ok b → ok b) → (∀ p ∈ m, ∀ b, c.own b = some (.sp p.1 p.2) → ok b) → cF w ok (.cons t r) (u :: us) x := by
         intro d hd hv; obtain ⟨x, m, h1, h2, h3⟩ := xT h r cs us wk _ hv; exact ⟨(d, x), m, h1, h2, fun ok ho hm => ⟨u, us, rfl, hd ok ho, h3 ok ho hm⟩⟩
       cases t with
       | int q =>
         cases y with
         | int l n =>
           simp only [rowOf] at hv
           by_cases e : q = l
           · rw [if_pos e] at hv; exact plain n (fun ok _ => pD.2 (by rw [e]; exact hu)) hv
           · rw [if_neg e] at hv; simp [N.val] at hv
         | _ => simp [rowOf, N.val] at hv
       | bool =>
         cases y with
         | bool b => exact plain b (fun ok _ => qN.2 hu) (by simpa only [rowOf] using hv)
         | _ => simp [rowOf, N.val] at hv
       | str =>
         cases y with
         | str s => exact plain s (fun ok _ => ur.2 hu) (by simpa only [rowOf] using hv)
         | _ => simp [rowOf, N.val] at hv
       | sl q =>
         cases y with
         | dL => exact plain ([] : List (aq q)) (fun ok _ => (mC _ _ _ _ _).2 (.inl ⟨hu, rfl⟩)) (by simpa only [rowOf] using hv)
         | shr r' ys =>
           simp only [rowOf] at hv
           cases hc : bA q ys with
           | none => simp [hc, N.val] at hv
           | some zs =>
             simp only [hc] at hv; obtain ⟨rfl, rfl⟩ := a6 hc; exact plain _ (fun ok ho => bL.stays ⟨Nat.le_refl _, fun _ _ _ => rfl, fun b _ hb => ho b hb⟩ _ _ _ hu) hv
         | ref a' j g vw =>
           simp only [rowOf] at hv
           cases hA : aQ st a' j g with
           | none => simp [hA, N.val] at hv
           | some A =>
             simp only [hA] at hv; have v8 : A.md.DN = false := by
               cases hm : A.md with
               | ho _ => rw [hm] at hv; simp [N.val] at hv
               | _ => rfl
             have hv : (match bA q A.xs with
                 | some ys => rowOf st r cs (fun x m => k (vw.app ys, x) ((a', j) :: m))
                 | none => .fail).val = some aP := by
               cases hm : A.md with
               | ho _ => rw [hm] at v8; cases v8
               | sh => rw [hm] at hv; exact hv
               | dp => rw [hm] at hv; exact hv
             cases hc : bA q A.xs with
             | none => simp [hc, N.val] at hv
             | some ys =>
               simp only [hc] at hv; obtain ⟨e, he⟩ := a6 hc; subst e; simp only at he; subst he; obtain ⟨sl, Bq, Pk, Br⟩ := bc hA; have Ga := h.aJ a' j sl A Bq Br; obtain ⟨x, m, h1, h2, h3⟩ := xT h r cs us wk _ hv; refine ⟨(vw.app A.xs, x), (a', j) :: m, h1, fun p hp => ?_, fun ok ho hm => ⟨u, us, rfl, ?_, h3 ok ho (fun p hp => hm p (by simp [hp]))⟩⟩
               · rcases List.mem_cons.1 hp with rfl | hp
                 · exact ⟨g, A, hA⟩
                 · exact h2 p hp
               · exact xQ Ga (hu.2.2 A hA) ho (fun k _ hk => hm (a', j) (by simp) k hk) v8
         | _ => simp [rowOf, N.val] at hv
end Go.TM
namespace Go.TM
open Go Go.RowKit
theorem wm {cs l m : List CV} {off : Nat} (h : putCells cs off l = some m) : off + l.length ≤ cs.length ∧ m = cs.take off ++ l ++ cs.drop (off + l.length) := by
 unfold putCells at h; obtain ⟨h1, h2⟩ := aH h; exact ⟨Nat.le_of_ble_eq_true h1, (Option.some.inj h2).symm⟩
theorem eK.bE {c : Cz} {st : St} {w : World} {cs l : List CV} {vs us : List Value} (h : eK c st w cs vs) (hl : eK c st w l us) (off : Nat) (hle : off + l.length ≤ cs.length) :
   eK c st w (cs.take off ++ l ++ cs.drop (off + l.length)) (TM.bE vs off us) := by
 have e1 := h.1; have e2 := hl.1; refine ⟨by rw [fX (by omega)]; simp; omega, fun i x v hx hv => ?_⟩; unfold TM.bE at hv; rw [List.getElem?_append, List.getElem?_append] at hx hv; simp only [List.length_append, List.length_take] at hx hv; have a1 : min off cs.length = off := by omega
 have a2 : min off vs.length = off := by omega
 rw [a1] at hx; rw [a2, ← e2] at hv
 by_cases h1 : i < off + l.length
 · rw [if_pos h1] at hx hv
   by_cases h2 : i < off
   · rw [if_pos h2, List.getElem?_take, if_pos h2] at hx hv; exact h.2 i x v hx hv
   · rw [if_neg h2] at hx hv; exact hl.2 _ x v hx hv
 · rw [if_neg h1, List.getElem?_drop] at hx hv; exact h.2 _ x v hx hv
theorem Rel.M3 {w0 : World} {mu : Mu} {c : Cz} {st : St} {a : Act} {w : World} (h : Rel w0 mu c st a w) {b : Nat} {s0 : Sl} {cs l : List CV} {vs mw : Array Value} {ty : TypeId}
   (hs : nth st b = some s0) (hb : s0.box = some cs) (hg : w.heap[c.bx b]? = some (.cells vs ty (0, 0))) (hl : eK c st w l mw.toList) :
   Rel w0 mu c (lN (fun s => { s with box := some l }) st b) a (w.setRow (c.bx b) mw) := by
 have eY := (h.boxes b s0 cs hs hb).1; have hn : ∀ s, nth (lN (fun s => { s with box := some l }) st b) s = if s = b then some { s0 with box := some l } else nth st s := by
   intro s; rw [dz]
   by_cases e : s = b
   · subst e; simp [hs]
   · simp [e]
 generalize lN (fun s => { s with box := some l }) st b = aP at hn ⊢; have po := sB (w := w) eY mw; have qy : ∀ k, k ≠ c.bx b → (w.setRow (c.bx b) mw).heap[k]? = w.heap[k]? := fun k hk => setRow_other w _ k mw hk
 have ga : Fw c st w c aP (w.setRow (c.bx b) mw) := {
   stays := po
   refs := fun a' j g A' _ eb => by
     have Ii : aQ st a' j g = some A' := by
       unfold aQ at eb ⊢; rw [hn] at eb
       by_cases e : a' = b
       · subst e; simpa [hs] using eb
       · simpa [e] using eb
     refine ⟨A', Ii, rfl, rfl, rfl, fun _ => ⟨rfl, fun k o cap hl => qy k ?_⟩⟩; have ha := h.rH Ii; unfold bM at ha; rw [hl] at ha; intro e; subst e; obtain ⟨h1, _⟩ := ha; rw [eY] at h1
     cases ho : A'.own <;> simp [ho] at h1
   AR := fun b' g lV _ lk => by
     refine ⟨?_, rfl⟩; unfold dx at lk ⊢; rw [hn] at lk
     by_cases e : b' = b
     · subst e; simp only [if_true] at lk; obtain ⟨h1, _⟩ := aH lk; exact ⟨cs, by simp [hs, h1, hb]⟩
     · simp only [e, if_false] at lk; exact ⟨lV, lk⟩
   gA := fun a' => by
     unfold cW; rw [hn]
     by_cases e : a' = b
     · subst e; simp [hs]
     · simp [e]
   gB := fun a' => by
     unfold fL; rw [hn]
     by_cases e : a' = b
     · subst e; simp [hs]
     · simp [e]
   gE := fun a' => by
     unfold lh; rw [hn]
     by_cases e : a' = b
     · subst e; simp [hs]
     · simp [e] }
 exact {
   eL := fun t => by
     have e1 : bW aP t = bW st t := by
       unfold bW; rw [hn]
       by_cases e : t = b
       · subst e; simp [hs]
       · simp [e]
     rw [e1]; exact ga.lO (h.eL t)
   boxes := fun s sl lV xU lk => by
     rw [hn] at xU
     by_cases e : s = b
     · subst e; simp only [if_true, Option.some.injEq] at xU; subst xU; simp only [Option.some.injEq] at lk; subst lk; exact ⟨eY, mw, ty, setRow_heap w _ vs mw ty (0, 0) hg, ga.PB hl⟩
     · simp only [e, if_false] at xU; have h0 := h.boxes s sl lV xU lk; refine h0.go ga rfl rfl (qy _ ?_); intro e'; have := h0.1; rw [e', eY] at this; injection this with this; injection this with this; exact e this.symm
   aJ := fun s j sl A xU eb => by
     rw [hn] at xU; have ha : bM c w s j A := by
       by_cases e : s = b
       · subst e; simp only [if_true, Option.some.injEq] at xU; subst xU; exact h.aJ s j s0 A hs eb
       · simp only [e, if_false] at xU; exact h.aJ s j sl A xU eb
     refine ha.go po rfl (fun k h1 => ⟨qy k ?_, rfl⟩); intro e; subst e; rw [eY] at h1
     cases h1
   owned := fun k l hk => by
     have := h.owned k l hk; exact ⟨by simpa [World.setRow] using this.1, this.2⟩
   free := h.free
   kept := ⟨h.kept.1, h.kept.2.1, h.kept.2.2.1, by simpa [World.setRow] using h.kept.2.2.2⟩
   old := fun k hk hm => by
     rw [qy k (fun e => by
       have := (h.owned _ _ eY).2; rcases this with this | this | this
       · cases this
       · subst e; omega
       · subst e; exact hm this)]
     exact h.old k hk hm
   dR := fun p hp => ga.dR (h.dR p hp)
   plain := h.plain }
theorem Rel.DS {w0 : World} {mu : Mu} {c : Cz} {st : St} {a : Act} {w : World} (h : Rel w0 mu c st a w) {s j : Nat} {s0 : Sl} {A : gr} {b off cap : Nat} {cur mw : Array Value} {ty : TypeId}
   {md' : Md} {ys : List (aq A.r)} (hs : nth st s = some s0) (hA : nth s0.aJ j = some (some A)) (eY : A.own = true) (gz : c.lc s j = .at b off cap)
   (hg : w.heap[b]? = some (.cells cur ty (0, 0))) (ki : mw.size = cur.size) (hlen : ys.length = A.xs.length)
   (eX : bn c (w.setRow b mw) (.sp s j) { A with xs := ys, md := md' } b off) :
   Rel w0 mu c (bo st s j (some { A with xs := ys, md := md' })) a (w.setRow b mw) := by
 have h0 := h.aJ s j s0 A hs hA; unfold bM at h0; rw [gz] at h0; obtain ⟨h1, h2, ⟨Wr, ty0, h3, h4⟩, h5⟩ := h0; rw [eY] at h1; have hc0 : Wr = cur := by rw [hg] at h3; injection h3 with h3; injection h3 with h3; exact h3.symm
 subst hc0; have hn : ∀ k, nth (bo st s j (some { A with xs := ys, md := md' })) k = if k = s then some { s0 with aJ := lN (fun _ => some { A with xs := ys, md := md' }) s0.aJ j, ep := s0.ep + 1 } else nth st k := by
   intro k; unfold bo; rw [dz]
   by_cases e : k = s
   · subst e; simp [hs]
   · simp [e]
 generalize bo st s j (some { A with xs := ys, md := md' }) = aP at hn ⊢; have po := sB (w := w) h1 mw; have qy : ∀ k, k ≠ b → (w.setRow b mw).heap[k]? = w.heap[k]? := fun k hk => setRow_other w _ k mw hk
 have ga : Fw c st w c aP (w.setRow b mw) := {
   stays := po
   refs := fun a' j' g A' _ eb => by
     obtain ⟨sl, k1, k2, k3⟩ := bc eb; rw [hn] at k1
     by_cases e : a' = s
     · subst e; simp only [if_true, Option.some.injEq] at k1; subst k1; simp only at k2 k3; rw [dz] at k3
       by_cases e2 : j' = j
       · subst e2; rw [if_pos rfl, hA] at k3; simp only [Option.map_some, Option.some.injEq] at k3; subst k3; refine ⟨A, ?_, rfl, hlen, rfl, fun he => ?_⟩
         · unfold aQ; rw [hs]; have : Nat.beq s0.ag g = true := by rw [k2]; exact Nat.beq_refl g
           simp [this, hA]
         · unfold lh at he; rw [hn, if_pos rfl, hs] at he; simp at he
       · rw [if_neg e2] at k3; refine ⟨A', ?_, rfl, rfl, rfl, fun he => ?_⟩
         · unfold aQ; rw [hs]; have : Nat.beq s0.ag g = true := by rw [k2]; exact Nat.beq_refl g
           simp [this, k3]
         · unfold lh at he; rw [hn, if_pos rfl, hs] at he; simp at he
     · rw [if_neg e] at k1; have Ii : aQ st a' j' g = some A' := by
         unfold aQ; rw [k1]; have : Nat.beq sl.ag g = true := by rw [k2]; exact Nat.beq_refl g
         simp [this, k3]
       refine ⟨A', Ii, rfl, rfl, rfl, fun _ => ⟨rfl, fun k o Ic hl => qy k ?_⟩⟩; have ha := h.rH Ii; unfold bM at ha; rw [hl] at ha
       rintro rfl
       obtain ⟨g1, _⟩ := ha; rw [h1] at g1
       cases ho : A'.own with
       | true => simp [ho] at g1; exact e g1.1.symm
       | false => simp [ho] at g1
   AR := fun b' g lV _ lk => by
     refine ⟨⟨lV, ?_⟩, rfl⟩; unfold dx at lk ⊢; rw [hn] at lk
     by_cases e : b' = s
     · subst e; simpa [hs] using lk
     · simpa [e] using lk
   gA := fun a' => by
     unfold cW; rw [hn]
     by_cases e : a' = s
     · subst e; simp [hs]
     · simp [e]
   gB := fun a' => by
     unfold fL; rw [hn]
     by_cases e : a' = s
     · subst e; simp [hs]
     · simp [e]
   gE := fun a' => by
     unfold lh; rw [hn]
     by_cases e : a' = s
     · subst e; simp [hs]
     · simp [e] }
 exact {
   eL := fun t => by
     have e1 : bW aP t = bW st t := by
       unfold bW; rw [hn]
       by_cases e : t = s
       · subst e; simp [hs]
       · simp [e]
     rw [e1]; exact ga.lO (h.eL t)
   boxes := fun k sl lV xU lk => by
     rw [hn] at xU; have AT : uw c st w k lV := by
       by_cases e : k = s
       · subst e; simp only [if_true, Option.some.injEq] at xU; subst xU; exact h.boxes k s0 lV hs lk
       · simp only [e, if_false] at xU; exact h.boxes k sl lV xU lk
     refine AT.go ga rfl rfl (qy _ ?_); intro e; have := AT.1; rw [e, h1] at this; simp at this
   aJ := fun k i sl B xU hB => by
     rw [hn] at xU
     by_cases e : k = s ∧ i = j
     · obtain ⟨rfl, rfl⟩ := e; simp only [if_true, Option.some.injEq] at xU; subst xU; simp only at hB; rw [dz, if_pos rfl, hA] at hB; simp only [Option.map_some, Option.some.injEq] at hB; subst hB; unfold bM; rw [gz]; refine ⟨by rw [eY]; exact h1, by simp only; rw [hlen]; exact h2, ⟨mw, ty, setRow_heap w b Wr mw ty (0, 0) hg, by simp only; rw [ki]; exact h4⟩, eX⟩
     · have ha : bM c w k i B := by
         by_cases e2 : k = s
         · subst e2; simp only [if_true, Option.some.injEq] at xU; subst xU; simp only at hB; rw [dz, if_neg (fun e3 => e ⟨rfl, e3⟩)] at hB; exact h.aJ k i s0 B hs hB
         · rw [if_neg e2] at xU; exact h.aJ k i sl B xU hB
       refine ha.go po rfl (fun k' g1 => ⟨qy k' ?_, rfl⟩)
       rintro rfl
       rw [h1] at g1; simp at g1; exact e ⟨g1.1.symm, g1.2.symm⟩
   owned := fun k l hk => by
     have := h.owned k l hk; exact ⟨by simpa [World.setRow] using this.1, this.2⟩
   free := h.free
   kept := ⟨h.kept.1, h.kept.2.1, h.kept.2.2.1, by simpa [World.setRow] using h.kept.2.2.2⟩
   old := fun k hk hm => by
     rw [qy k (fun e => by
       have := (h.owned _ _ h1).2; rcases this with this | this | this
       · cases this
       · subst e; omega
       · subst e; exact hm this)]
     exact h.old k hk hm
   dR := fun p hp => ga.dR (h.dR p hp)
   plain := h.plain }
theorem Rel.xV {w0 : World} {mu : Mu} {c : Cz} {st : St} {a : Act} {w : World} (h : Rel w0 mu c st a w) {s j : Nat} {s0 : Sl} {A : gr} {b off cap : Nat} {cur mw : Array Value} {ty : TypeId}
   {ys : List (aq A.r)} (hs : nth st s = some s0) (hA : nth s0.aJ j = some (some A)) (eY : A.own = true) (gz : c.lc s j = .at b off cap)
   (hg : w.heap[b]? = some (.cells cur ty (0, 0))) (ki : mw.size = cur.size) (hlen : ys.length = A.xs.length)
   (eX : bn c (w.setRow b mw) (.sp s j) { A with xs := ys } b off) :
   Rel w0 mu c (bo st s j (some { A with xs := ys })) a (w.setRow b mw) := h.DS hs hA eY gz hg ki hlen eX
end Go.TM
namespace Go.TM
open Go Go.RowKit
theorem xW : (r : RT) → (x : aq r) → (k : Nat) → (y : CV) → {z : aq r} → fp r x k y = some z → k < r.width
 | .nil, _, _, _, _, h => by simp [fp] at h
 | .cons t r, x, 0, y, z, _ => by simp [RT.width]
 | .cons t r, x, k + 1, y, z, h => by
   have h' : (fp r x.2 k y).map (fun z => ((x.1, z) : aq (.cons t r))) = some z := by cases t <;> (simp only [fp] at h; exact h)
   cases hq : fp r x.2 k y with
   | none => rw [hq] at h'; cases h'
   | some z' => have := xW r x.2 k y hq; simp [RT.width]; omega
theorem sC (r : RT) (x : aq r) : (off : Nat) → (cs : List CV) → {z : aq r} → jT r x off cs = some z → cs ≠ [] → off + cs.length ≤ r.width
 | _, [], _, _, h => absurd rfl h
 | off, y :: l, z, h, _ => by
   simp only [jT] at h
   cases hq : jT r x (off + 1) l with
   | none => simp [hq] at h
   | some y' =>
     simp only [hq] at h; have h1 := xW r y' off y h
     cases l with
     | nil => simp; omega
     | cons y2 l2 => have := sC r x (off + 1) (y2 :: l2) hq (by simp); simp at this ⊢; omega
theorem jW {vs us : List Value} {off k : Nat} (hle : off + us.length ≤ vs.length) : (bE vs off us)[k]? = if off ≤ k ∧ k < off + us.length then us[k - off]? else vs[k]? := by
 unfold bE; simp only [List.getElem?_append, List.length_append, List.length_take, List.getElem?_take, List.getElem?_drop]; have a1 : min off vs.length = off := by omega
 rw [a1]
 by_cases h1 : k < off
 · rw [if_pos (by omega), if_pos h1, if_pos h1, if_neg (by omega)]
 · by_cases h2 : k < off + us.length
   · rw [if_pos h2, if_neg h1, if_pos ⟨by omega, h2⟩]
   · rw [if_neg h2, if_neg (by omega)]
     congr 1
     omega
theorem Bx : (m : List (Nat × Nat)) → {st : St} → {a j : Nat} → {sl : Sl} → {A : gr} → nth st a = some sl → nth sl.aJ j = some (some A) → (a, j) ∉ m →
   ∃ QY, nth (freeze st m) a = some QY ∧ nth QY.aJ j = some (some A)
 | [], _, _, _, sl, _, h1, h2, _ => ⟨sl, h1, h2⟩
 | (b, i) :: m, st, a, j, sl, A, h1, h2, hm => by
   rw [Gb]; obtain ⟨f, hf, hn⟩ := gN st b i a; refine Bx m (sl := f sl) (A := A) (by rw [hn, h1]; rfl) ?_ (fun h => hm (by simp [h])); rw [(hf sl).2.2.2.2.1 j, if_neg]
   · exact h2
   · rintro ⟨rfl, rfl⟩; exact hm (by simp)
theorem xX {c : Cz} {w : World} {b off : Nat} {r : RT} {xs : List (aq r)} {cur : Array Value} {ty : TypeId} {l : Lb} (eY : c.own b = some l)
   (hg : w.heap[b]? = some (.cells cur ty (0, 0))) (eX : ∀ (i : Nat) x, xs[i]? = some x → cq w c.ok r b (off + i * r.width) x)
   {i k : Nat} {x y : aq r} {us : List Value} (hx : xs[i]? = some x) (hle : k + us.length ≤ r.width) (ki : off + i * r.width + r.width ≤ cur.size)
   (hy : ∀ vs, cF w c.ok r vs x → cF w c.ok r (bE vs k us) y) :
   ∀ (i' : Nat) x', (xs.set i y)[i']? = some x' → cq (w.setRow b (bE cur.toList (off + i * r.width + k) us).toArray) c.ok r b (off + i' * r.width) x' := by
 have po := sB (w := w) eY (bE cur.toList (off + i * r.width + k) us).toArray; have PD := setRow_heap w b cur (bE cur.toList (off + i * r.width + k) us).toArray ty (0, 0) hg; have rI : ∀ q, (w.setRow b (bE cur.toList (off + i * r.width + k) us).toArray).cell? ⟨b, q, none⟩ =
     if off + i * r.width + k ≤ q ∧ q < off + i * r.width + k + us.length then us[q - (off + i * r.width + k)]? else w.cell? ⟨b, q, none⟩ := by
   intro q; rw [cell_of_row _ b q _ ty (0, 0) PD, cell_of_row w b q cur ty (0, 0) hg]; simp only [List.getElem?_toArray]; rw [jW (by simp; omega)]; simp
 intro i' x' qu; rw [List.getElem?_set] at qu
 by_cases e : i = i'
 · subst e; rw [if_pos rfl] at qu; have hi : i < xs.length := (List.getElem?_eq_some_iff.1 hx).1; rw [if_pos hi] at qu; obtain rfl := Option.some.inj qu; obtain ⟨vs, h1, h2⟩ := (l6 r b _ x).1 (eX i x hx); have xK := cF.length r vs x h2; refine (l6 r b _ y).2 ⟨bE vs k us, fun q v hv => ?_, cF.stays po r _ y (hy vs h2)⟩; rw [jW (by omega)] at hv; rw [rI]
   by_cases hq : k ≤ q ∧ q < k + us.length
   · rw [if_pos hq] at hv; rw [if_pos (by omega), show off + i * r.width + q - (off + i * r.width + k) = q - k by omega]; exact hv
   · rw [if_neg hq] at hv; rw [if_neg (by omega)]; exact h1 q v hv
 · rw [if_neg e] at qu; obtain ⟨vs, h1, h2⟩ := (l6 r b _ x').1 (eX i' x' qu); have xK := cF.length r vs x' h2; refine (l6 r b _ x').2 ⟨vs, fun q v hv => ?_, cF.stays po r _ x' h2⟩; have hq : q < r.width := by rw [← xK]; exact (List.getElem?_eq_some_iff.1 hv).1
   rw [rI, if_neg]
   · exact h1 q v hv
   · rintro ⟨g1, g2⟩
     rcases Nat.lt_or_gt_of_ne e with h | h
     · have : (i + 1) * r.width ≤ i' * r.width := Nat.mul_le_mul_right _ h; rw [Nat.add_mul] at this; omega
     · have : (i' + 1) * r.width ≤ i * r.width := Nat.mul_le_mul_right _ h; rw [Nat.add_mul] at this; omega
theorem wo {w : World} {b off : Nat} {r : RT} {xs : List (aq r)} {cur : Array Value} {ty : TypeId}
   (hg : w.heap[b]? = some (.cells cur ty (0, 0))) {Q : Nat → List Value → aq r → Prop} (eX : ∀ (i : Nat) x, xs[i]? = some x → ∃ vs, w.rangeAt b (off + i * r.width) vs ∧ vs.length = r.width ∧ Q i vs x)
   {i k : Nat} {x y : aq r} {us : List Value} (hx : xs[i]? = some x) (hle : k + us.length ≤ r.width) (ki : off + i * r.width + r.width ≤ cur.size)
   (hy : ∀ vs, vs.length = r.width → Q i vs x → Q i (bE vs k us) y) :
   ∀ (i' : Nat) x', (xs.set i y)[i']? = some x' → ∃ vs, (w.setRow b (bE cur.toList (off + i * r.width + k) us).toArray).rangeAt b (off + i' * r.width) vs ∧ Q i' vs x' := by
 have PD := setRow_heap w b cur (bE cur.toList (off + i * r.width + k) us).toArray ty (0, 0) hg; have rI : ∀ q, (w.setRow b (bE cur.toList (off + i * r.width + k) us).toArray).cell? ⟨b, q, none⟩ =
     if off + i * r.width + k ≤ q ∧ q < off + i * r.width + k + us.length then us[q - (off + i * r.width + k)]? else w.cell? ⟨b, q, none⟩ := by
   intro q; rw [cell_of_row _ b q _ ty (0, 0) PD, cell_of_row w b q cur ty (0, 0) hg]; simp only [List.getElem?_toArray]; rw [jW (by simp; omega)]; simp
 intro i' x' qu; rw [List.getElem?_set] at qu
 by_cases e : i = i'
 · subst e; rw [if_pos rfl] at qu; have hi : i < xs.length := (List.getElem?_eq_some_iff.1 hx).1; rw [if_pos hi] at qu; obtain rfl := Option.some.inj qu; obtain ⟨vs, h1, xK, h2⟩ := eX i x hx; refine ⟨bE vs k us, fun q v hv => ?_, hy vs xK h2⟩; rw [jW (by omega)] at hv; rw [rI]
   by_cases hq : k ≤ q ∧ q < k + us.length
   · rw [if_pos hq] at hv; rw [if_pos (by omega), show off + i * r.width + q - (off + i * r.width + k) = q - k by omega]; exact hv
   · rw [if_neg hq] at hv; rw [if_neg (by omega)]; exact h1 q v hv
 · rw [if_neg e] at qu; obtain ⟨vs, h1, xK, h2⟩ := eX i' x' qu; refine ⟨vs, fun q v hv => ?_, h2⟩; have hq : q < r.width := by rw [← xK]; exact (List.getElem?_eq_some_iff.1 hv).1
   rw [rI, if_neg]
   · exact h1 q v hv
   · rintro ⟨g1, g2⟩
     rcases Nat.lt_or_gt_of_ne e with h | h
     · have : (i + 1) * r.width ≤ i' * r.width := Nat.mul_le_mul_right _ h; rw [Nat.add_mul] at this; omega
     · have : (i' + 1) * r.width ≤ i * r.width := Nat.mul_le_mul_right _ h; rw [Nat.add_mul] at this; omega
theorem De {w : World} {b off : Nat} {r : RT} {xs : List (aq r)} {cur : Array Value} {ty : TypeId}
   (hg : w.heap[b]? = some (.cells cur ty (0, 0))) {Q : Nat → List Value → aq r → Prop} {i : Nat} (eX : ∀ (i' : Nat) x, i' ≠ i → xs[i']? = some x → ∃ vs, w.rangeAt b (off + i' * r.width) vs ∧ vs.length = r.width ∧ Q i' vs x)
   {x y : aq r} {us : List Value} (hx : xs[i]? = some x) (hle : us.length = r.width) (ki : off + i * r.width + r.width ≤ cur.size) (hy : Q i us y) :
   ∀ (i' : Nat) x', (xs.set i y)[i']? = some x' → ∃ vs, (w.setRow b (bE cur.toList (off + i * r.width + 0) us).toArray).rangeAt b (off + i' * r.width) vs ∧ Q i' vs x' := by
 have PD := setRow_heap w b cur (bE cur.toList (off + i * r.width + 0) us).toArray ty (0, 0) hg; have rI : ∀ q, (w.setRow b (bE cur.toList (off + i * r.width + 0) us).toArray).cell? ⟨b, q, none⟩ =
     if off + i * r.width ≤ q ∧ q < off + i * r.width + us.length then us[q - (off + i * r.width)]? else w.cell? ⟨b, q, none⟩ := by
   intro q; rw [cell_of_row _ b q _ ty (0, 0) PD, cell_of_row w b q cur ty (0, 0) hg]; simp only [List.getElem?_toArray]; rw [jW (by simp; omega)]; simp
 intro i' x' qu; rw [List.getElem?_set] at qu
 by_cases e : i = i'
 · subst e; rw [if_pos rfl] at qu; have hi : i < xs.length := (List.getElem?_eq_some_iff.1 hx).1; rw [if_pos hi] at qu; obtain rfl := Option.some.inj qu; refine ⟨us, fun q v hv => ?_, hy⟩; have hq : q < us.length := (List.getElem?_eq_some_iff.1 hv).1; rw [rI, if_pos (by omega), show off + i * r.width + q - (off + i * r.width) = q by omega]; exact hv
 · rw [if_neg e] at qu; obtain ⟨vs, h1, xK, h2⟩ := eX i' x' (fun h => e h.symm) qu; refine ⟨vs, fun q v hv => ?_, h2⟩; have hq : q < r.width := by rw [← xK]; exact (List.getElem?_eq_some_iff.1 hv).1
   rw [rI, if_neg]
   · exact h1 q v hv
   · rintro ⟨g1, g2⟩
     rcases Nat.lt_or_gt_of_ne e with h | h
     · have : (i + 1) * r.width ≤ i' * r.width := Nat.mul_le_mul_right _ h; rw [Nat.add_mul] at this; omega
     · have : (i' + 1) * r.width ≤ i * r.width := Nat.mul_le_mul_right _ h; rw [Nat.add_mul] at this; omega
end Go.TM
namespace Go.TM
open Go Go.RowKit
def VO (w : World) (ok : Nat → Prop) (r : RT) (u : Value) (ys : List (aq r)) : Prop :=
 (u = .slice none 0 0 ∧ ys = []) ∨ ∃ a cap, u = .slice (some a) ys.length cap ∧ (ys ≠ [] → a.spot = none) ∧ ∀ (i : Nat) y, ys[i]? = some y → cq w ok r a.block (a.off + i * r.width) y
def aW (w : World) (ok : Nat → Prop) (r : RT) : List Value → List (aq r) → Prop
 | vs, [] => vs = []
 | vs, x :: xs => ∃ l1 l2, vs = l1 ++ l2 ∧ cF w ok r l1 x ∧ aW w ok r l2 xs
theorem aW.length {w : World} {ok : Nat → Prop} {r : RT} : (vs : List Value) → (xs : List (aq r)) → aW w ok r vs xs → vs.length = xs.length * r.width
 | vs, [], h => by simp only [aW] at h; subst h; simp
 | vs, x :: xs, h => by
   obtain ⟨l1, l2, rfl, h1, h2⟩ := h; have a1 := cF.length r l1 x h1; have a2 := aW.length l2 xs h2; simp [a1, a2, Nat.add_mul]; omega
theorem aW.stays {w w' : World} {ok xO : Nat → Prop} (h : ir w w' ok xO) {r : RT} : (vs : List Value) → (xs : List (aq r)) → aW w ok r vs xs → aW w' xO r vs xs
 | _, [], hr => hr
 | _, x :: xs, ⟨l1, l2, e, h1, h2⟩ => ⟨l1, l2, e, cF.stays h r l1 x h1, aW.stays h l2 xs h2⟩
theorem aW.append {w : World} {ok : Nat → Prop} {r : RT} : (vs us : List Value) → (xs ys : List (aq r)) → aW w ok r vs xs → aW w ok r us ys → aW w ok r (vs ++ us) (xs ++ ys)
 | vs, us, [], ys, h, k => by simp only [aW] at h; subst h; simpa using k
 | vs, us, x :: xs, ys, ⟨l1, l2, e, h1, h2⟩, k => ⟨l1, l2 ++ us, by rw [e, List.append_assoc], h1, aW.append l2 us xs ys h2 k⟩
theorem aW.one {w : World} {ok : Nat → Prop} {r : RT} {vs : List Value} {x : aq r} (h : cF w ok r vs x) : aW w ok r vs [x] := ⟨vs, [], by simp, h, rfl⟩
theorem jX {w : World} {ok : Nat → Prop} {r : RT} (b : Nat) : (off : Nat) → (xs : List (aq r)) → (∀ (i : Nat) x, xs[i]? = some x → cq w ok r b (off + i * r.width) x) →
   ∃ vs, w.rangeAt b off vs ∧ aW w ok r vs xs
 | _, [], _ => ⟨[], fun j v h => by simp at h, rfl⟩
 | off, x :: xs, h => by
   obtain ⟨l1, h1, h2⟩ := (l6 r b off x).1 (by have := h 0 x rfl; simpa using this); obtain ⟨l2, h3, h4⟩ := jX b (off + r.width) xs (fun i y hy => by
     have := h (i + 1) y (by simpa using hy); rw [Nat.add_mul, Nat.one_mul] at this; rw [show off + r.width + i * r.width = off + (i * r.width + r.width) by omega]; exact this)
   have hl := cF.length r l1 x h2; refine ⟨l1 ++ l2, fun j v hv => ?_, l1, l2, rfl, h2, h4⟩; rw [List.getElem?_append] at hv
   by_cases hj : j < l1.length
   · rw [if_pos hj] at hv; exact h1 j v hv
   · rw [if_neg hj] at hv; have := h3 _ v hv; rw [show off + r.width + (j - l1.length) = off + j by omega] at this; exact this
theorem qQ {w : World} {ok : Nat → Prop} {r : RT} {b : Nat} : (off : Nat) → (vs : List Value) → (xs : List (aq r)) → aW w ok r vs xs → w.rangeAt b off vs →
   ∀ (i : Nat) x, xs[i]? = some x → cq w ok r b (off + i * r.width) x
 | _, _, [], _, _, i, x, h => by simp at h
 | off, vs, y :: xs, ⟨l1, l2, e, h1, h2⟩, hr, i, x, h => by
   subst e; have hl := cF.length r l1 y h1
   cases i with
   | zero =>
     simp at h; subst h; rw [l6]; refine ⟨l1, fun j v hv => ?_, h1⟩; have hj : j < l1.length := (List.getElem?_eq_some_iff.1 hv).1; have := hr j v (by rw [List.getElem?_append, if_pos hj]; exact hv); simpa using this
   | succ i =>
     have := qQ (off + r.width) l2 xs h2 (fun j v hv => by
       have := hr (l1.length + j) v (by rw [List.getElem?_append, if_neg (by omega)]; simpa using hv); rw [show off + r.width + j = off + (l1.length + j) by omega]; exact this) i x (by simpa using h)
     rw [Nat.add_mul, Nat.one_mul]; rw [show off + (i * r.width + r.width) = off + r.width + i * r.width by omega]; exact this
theorem bL.one {w : World} {ok : Nat → Prop} {t : Ty} {v : Value} {x : den t} (h : bL w ok t v x) : v.oneCell' = true := by
 cases t with
 | int k => rw [pD.1 h]; rfl
 | bool => rw [qN.1 h]; rfl
 | str => rw [ur.1 h]; rfl
 | sl r =>
   rcases (mC w ok r v x).1 h with ⟨rfl, _⟩ | ⟨a, cap, rfl, _⟩ <;> rfl
theorem cF.one {w : World} {ok : Nat → Prop} : (r : RT) → (vs : List Value) → (x : aq r) → cF w ok r vs x → ∀ v ∈ vs, v.oneCell' = true
 | .nil, vs, _, h, v, hv => by simp only [cF] at h; subst h; simp at hv
 | .cons t r, vs, x, ⟨u, l, e, hx, hr⟩, v, hv => by
   subst e; rcases List.mem_cons.1 hv with rfl | hv
   · exact hx.one
   · exact cF.one r l x.2 hr v hv
theorem aW.jS {w : World} {ok : Nat → Prop} {r : RT} : (vs : List Value) → (xs : List (aq r)) → aW w ok r vs xs → ∀ v ∈ vs, v.oneCell' = true
 | vs, [], h, v, hv => by simp only [aW] at h; subst h; simp at hv
 | vs, x :: xs, ⟨l1, l2, e, h1, h2⟩, v, hv => by
   subst e; rcases List.mem_append.1 hv with hv | hv
   · exact cF.one r l1 x h1 v hv
   · exact aW.jS l2 xs h2 v hv
theorem z7 {w0 : World} {mu : Mu} {c : Cz} {st : St} {a : Act} {w : World} (h : Rel w0 mu c st a w) {r : RT} {x : CV} {u : Value} (hx : iT c st w x u)
   {k : List (aq r) → N} {aP : St} (hv : (kL st r x k).val = some aP) : ∃ ys, (k ys).val = some aP ∧ VO w c.ok r u ys := by
 cases x with
 | shr r' xs =>
   simp only [kL] at hv
   cases hc : bA r xs with
   | none => simp [hc, N.val] at hv
   | some ys =>
     simp only [hc] at hv; obtain ⟨rfl, rfl⟩ := a6 hc; refine ⟨_, hv, ?_⟩; rcases (mC _ _ _ _ _).1 hx with h1 | ⟨a', cap, h1, h2, h3, h4⟩
     · exact .inl h1
     · exact .inr ⟨a', cap, h1, fun fE => (h3 fE).1, h4⟩
 | nn r' xs =>
   simp only [kL] at hv
   cases hc : bA r xs with
   | none => simp [hc, N.val] at hv
   | some ys =>
     simp only [hc] at hv; obtain ⟨rfl, rfl⟩ := a6 hc; refine ⟨_, hv, ?_⟩; rcases (mC _ _ _ _ _).1 hx.1 with h1 | ⟨a', cap, h1, h2, h3, h4⟩
     · exact .inl h1
     · exact .inr ⟨a', cap, h1, fun fE => (h3 fE).1, h4⟩
 | dL => exact ⟨[], by simpa only [kL] using hv, .inl ⟨hx, rfl⟩⟩
 | ref a' j g vw =>
   simp only [kL] at hv
   cases hA : aQ st a' j g with
   | none => simp [hA, N.val] at hv
   | some A =>
     simp only [hA] at hv; have v8 : A.md = .sh := by
       cases hm : A.md with
       | sh => rfl
       | dp => rw [hm] at hv; simp [N.val] at hv
       | ho _ => rw [hm] at hv; simp [N.val] at hv
     rw [v8] at hv; simp only at hv
     cases hc : bA r A.xs with
     | none => simp [hc, N.val] at hv
     | some ys =>
       simp only [hc] at hv; obtain ⟨e, he⟩ := a6 hc; subst e; simp only at he; subst he; obtain ⟨sl, Bq, Pk, Br⟩ := bc hA; have Ga := h.aJ a' j sl A Bq Br; refine ⟨vw.app A.xs, hv, ?_⟩; clear hv; have hs := hx.2.2 A hA
       cases hl : c.lc a' j with
       | nil =>
         unfold iB at hs; rw [hl] at hs; exact .inl ⟨hs.1, List.length_eq_zero_iff.1 hs.2⟩
       | «at» b off cap =>
         unfold iB at hs; rw [hl] at hs; obtain ⟨ad, k', rfl, hk, xR, ha⟩ := hs; unfold bM at Ga; rw [hl] at Ga; obtain ⟨_, _, _, h5⟩ := Ga; have fE : vw.app A.xs ≠ [] → k' ≠ 0 := by
           intro fE; have := List.length_pos_iff.2 fE; omega
         refine .inr ⟨ad, k', rfl, fun h => by rw [ha (fE h)], fun i y hy => ?_⟩; have hk0 : k' ≠ 0 := fE (by intro e; rw [e] at hy; simp at hy); rw [ha hk0]; have := (bn.sh v8).1 h5 _ y (View.vM vw A.xs hy); have e : off + vw.lo * A.r.width + i * A.r.width = off + (vw.lo + i) * A.r.width := by rw [Nat.add_mul]; omega
         show cq w c.ok A.r b (off + vw.lo * A.r.width + i * A.r.width) y; rw [e]; exact this
 | _ => simp [kL, N.val] at hv
theorem Rel.place {w0 : World} {mu : Mu} {c c' : Cz} {st : St} {a : Act} {w w' : World} (h : Rel w0 mu c st a w) {d B : Nat} {s0 : Sl} {A : gr} {v : Value}
   (gW : nth st d = some s0) (hd : d < a.tmps.size)
   (AT : c'.bx = c.bx) (gz : ∀ s j, ¬ (s = d ∧ j = 0) → c'.lc s j = c.lc s j) (eY : ∀ k, k ≠ B → c'.own k = c.own k)
   (Ws : c'.own B = some (.sp d 0) ∨ (c'.own B = c.own B ∧ w'.heap[B]? = w.heap[B]?))
   (hB : w.heap.size ≤ B ∨ ∃ s j, c.own B = some (.sp s j) ∧ (s = d ∨ ∀ sl A, nth st s = some sl → nth sl.aJ j ≠ some (some A)))
   (hBn : c'.own B = some (.sp d 0) → B < w'.heap.size)
   (hw : ∀ k, k < w.heap.size → k ≠ B → w'.heap[k]? = w.heap[k]?) (ri : w'.os = w.os ∧ w'.tape = w.tape ∧ w'.output = w.output ∧ w.heap.size ≤ w'.heap.size)
   (hA : bM c' w' d 0 A) (xL : v.oneCell' = true) (hv : iB (c'.lc d 0) A.r.width 0 A.xs.length v) :
   Rel w0 mu c' (lN (fun s => { s with v := .one (.ref d 0 (s0.ag + 1) .full), aJ := [some A], ag := s0.ag + 1 }) st d) (a.put (some d) v) w' := by
 have hn : ∀ s, nth (lN (fun s => { s with v := .one (.ref d 0 (s0.ag + 1) .full), aJ := [some A], ag := s0.ag + 1 }) st d) s =
     if s = d then some { s0 with v := .one (.ref d 0 (s0.ag + 1) .full), aJ := [some A], ag := s0.ag + 1 } else nth st s := by
   intro s; rw [dz]
   by_cases e : s = d
   · subst e; simp [gW]
   · simp [e]
 generalize lN (fun s => { s with v := .one (.ref d 0 (s0.ag + 1) .full), aJ := [some A], ag := s0.ag + 1 }) st d = aP at hn ⊢; have RX : ∀ k, k < w.heap.size → c.ok k → k ≠ B := by
   rintro k hk fF rfl
   rcases hB with hB | ⟨s, j, hB, _⟩
   · omega
   · unfold Cz.ok at fF; rw [hB] at fF; cases fF
 have po : ir w w' c.ok c'.ok := ⟨ri.2.2.2, fun k hk fF => hw k hk (RX k hk fF), fun k hk fF => by unfold Cz.ok; rw [eY k (RX k hk fF)]; exact fF⟩; have ga : Fw c st w c' aP w' := {
   stays := po
   refs := fun a' j g A' hg eb => by
     by_cases e : a' = d
     · subst e; obtain ⟨sl, k1, k2, k3⟩ := bc eb; rw [hn, if_pos rfl] at k1; obtain rfl := Option.some.inj k1; simp only at k2; unfold cW at hg; rw [gW] at hg; simp only at hg; omega
     · have Ii : aQ st a' j g = some A' := by
         unfold aQ at eb ⊢; rw [hn, if_neg e] at eb; exact eb
       refine ⟨A', Ii, rfl, rfl, gz a' j (fun h => e h.1), fun _ => ⟨rfl, fun k off cap hl => ?_⟩⟩; have ha := h.rH Ii; have bX := ha.lt hl; unfold bM at ha; rw [hl] at ha; obtain ⟨g1, _⟩ := ha; refine hw k bX ?_
       rintro rfl
       rcases hB with hB | ⟨s', j', hB, Df⟩
       · omega
       · rw [hB] at g1
         cases ho : A'.own with
         | true =>
           simp [ho] at g1; obtain ⟨rfl, rfl⟩ := g1; obtain ⟨sl, q1, _, q3⟩ := bc Ii; rcases Df with Df | Df
           · exact e Df
           · exact Df sl A' q1 q3
         | false => simp [ho] at g1
   AR := fun b' g lV _ lk => by
     refine ⟨⟨lV, ?_⟩, by rw [AT]⟩; unfold dx at lk ⊢; rw [hn] at lk
     by_cases e : b' = d
     · subst e; simpa [gW] using lk
     · simpa [e] using lk
   gA := fun a' => by
     unfold cW; rw [hn]
     by_cases e : a' = d
     · subst e; simp [gW]
     · simp [e]
   gB := fun a' => by
     unfold fL; rw [hn]
     by_cases e : a' = d
     · subst e; simp [gW]
     · simp [e]
   gE := fun a' => by
     unfold lh; rw [hn]
     by_cases e : a' = d
     · subst e; simp [gW]
     · simp [e] }
 exact {
   eL := fun t => by
     have e1 : bW aP t = if t = d then .one (.ref d 0 (s0.ag + 1) .full) else bW st t := by
       unfold bW; rw [hn]
       by_cases e : t = d <;> simp [e]
     rw [e1, eval_put]
     by_cases e : t = d
     · subst e; simp only [if_true, true_and, hd]; refine ⟨xL, ?_, fun A' eb => ?_⟩
       · unfold cW; rw [hn]; simp
       · obtain ⟨sl, k1, k2, k3⟩ := bc eb; rw [hn, if_pos rfl] at k1; obtain rfl := Option.some.inj k1; simp [nth] at k3; subst k3; exact hv
     · simp only [e, if_false]; rw [if_neg (fun h => e (Option.some.inj h.1).symm)]; exact ga.lO (h.eL t)
   boxes := fun s sl lV hs hb => by
     rw [hn] at hs; have RY : uw c st w s lV := by
       by_cases e : s = d
       · subst e; rw [if_pos rfl] at hs; obtain rfl := Option.some.inj hs; exact h.boxes s s0 lV gW hb
       · rw [if_neg e] at hs; exact h.boxes s sl lV hs hb
     have bX := h.mJ RY.1; have fE : c.bx s ≠ B := by
       intro e; rcases hB with hB | ⟨s', j, hB, _⟩
       · omega
       · rw [← e, RY.1] at hB; cases hB
     exact RY.go ga (by rw [AT]) (eY _ fE) (hw _ bX fE)
   aJ := fun s j sl A' hs eb => by
     rw [hn] at hs
     by_cases e : s = d
     · subst e; rw [if_pos rfl] at hs; obtain rfl := Option.some.inj hs
       cases j with
       | zero => simp [nth] at eb; subst eb; exact hA
       | succ j => simp [nth] at eb
     · rw [if_neg e] at hs; have ha := h.aJ s j sl A' hs eb; refine ha.go po (gz s j (fun h => e h.1)) (fun k g1 => ?_); have bX : k < w.heap.size := h.mJ g1; have fE : k ≠ B := by
         rintro rfl
         rcases hB with hB | ⟨s', j', hB, Df⟩
         · omega
         · rw [hB] at g1; simp at g1; obtain ⟨rfl, rfl⟩ := g1; rcases Df with Df | Df
           · exact e Df
           · exact Df sl A' hs eb
       exact ⟨hw k bX fE, eY k fE⟩
   owned := fun b l hb => by
     by_cases e : b = B
     · subst e; rcases Ws with Ws | ⟨Ws, _⟩
       · refine ⟨hBn Ws, ?_⟩; rcases hB with hB | ⟨s', j', hB, _⟩
         · exact .inr (.inl (Nat.le_trans h.kept.2.2.2 hB))
         · rcases (h.owned _ _ hB).2 with h2 | h2
           · cases h2
           · exact .inr h2
       · rw [Ws] at hb; have := h.owned b l hb; exact ⟨Nat.lt_of_lt_of_le this.1 ri.2.2.2, this.2⟩
     · rw [eY b e] at hb; have := h.owned b l hb; exact ⟨Nat.lt_of_lt_of_le this.1 ri.2.2.2, this.2⟩
   free := fun b hb h1 => by
     by_cases e : b = B
     · subst e; rcases hB with hB | ⟨s', j', hB, _⟩
       · have := h.kept.2.2.2; omega
       · rcases (h.owned _ _ hB).2 with h2 | h2 | h2
         · cases h2
         · omega
         · exact .inl h2
     · rw [eY b e] at h1; exact h.free b hb h1
   kept := ⟨ri.1.trans h.kept.1, ri.2.1.trans h.kept.2.1, ri.2.2.1.trans h.kept.2.2.1, Nat.le_trans h.kept.2.2.2 ri.2.2.2⟩
   old := fun k hk hm => by
     have AU := Nat.lt_of_lt_of_le hk h.kept.2.2.2; rw [hw k AU (fun e => ?_)]
     · exact h.old k hk hm
     · subst e; rcases hB with hB | ⟨s', j', hB, _⟩
       · omega
       · rcases (h.owned _ _ hB).2 with h2 | h2 | h2
         · cases h2
         · omega
         · exact hm h2
   dR := fun p hp => ga.dR (h.dR p hp)
   plain := h.plain }
end Go.TM
namespace Go.TM
open Go Go.RowKit
theorem Rel.RZ {w0 : World} {mu : Mu} {c : Cz} {st : St} {a : Act} {w : World} (_h : Rel w0 mu c st a w) (s j : Nat) : Fw c st w c (bo st s j none) w := by
 have hn : ∀ k, ∃ f : Sl → Sl, (∀ x, (f x).v = x.v ∧ (f x).box = x.box ∧ (f x).bg = x.bg ∧ (f x).ag = x.ag ∧
     (∀ i, nth (f x).aJ i = if k = s ∧ i = j then (nth x.aJ i).map (fun _ => none) else nth x.aJ i) ∧ (f x).ep = if k = s then x.ep + 1 else x.ep) ∧ nth (bo st s j none) k = (nth st k).map f := by
   intro k; unfold bo
   by_cases e : k = s
   · subst e; refine ⟨fun s => { s with aJ := lN (fun _ => none) s.aJ j, ep := s.ep + 1 }, fun x => ⟨rfl, rfl, rfl, rfl, fun i => ?_, by simp⟩, iS _ _ _⟩; simp only [dz, true_and]
   · refine ⟨id, fun x => ⟨rfl, rfl, rfl, rfl, fun i => ?_, by simp [e]⟩, by rw [lj _ _ e]; simp⟩; simp [e]
 generalize bo st s j none = aP at hn ⊢; exact {
   stays := ir.refl w _
   refs := fun a' j' g A' _ eb => by
     obtain ⟨sl, k1, k2, k3⟩ := bc eb; obtain ⟨f, hf, hk⟩ := hn a'; rw [hk] at k1
     cases hx : nth st a' with
     | none => rw [hx] at k1; simp at k1
     | some x =>
       rw [hx] at k1; simp at k1; subst k1; rw [(hf x).2.2.2.2.1 j'] at k3; rw [(hf x).2.2.2.1] at k2; refine ⟨A', ?_, rfl, rfl, rfl, fun _ => ⟨rfl, fun _ _ _ _ => rfl⟩⟩
       by_cases e : a' = s ∧ j' = j
       · rw [if_pos e] at k3
         cases hq : nth x.aJ j' <;> simp [hq] at k3
       · rw [if_neg e] at k3; unfold aQ; rw [hx]; have : Nat.beq x.ag g = true := by rw [k2]; exact Nat.beq_refl g
         simp [this, k3]
   AR := fun b g lV _ hb => by
     refine ⟨⟨lV, ?_⟩, rfl⟩; obtain ⟨f, hf, hk⟩ := hn b; unfold dx at hb ⊢; rw [hk] at hb
     cases hx : nth st b with
     | none => rw [hx] at hb; simp at hb
     | some x => rw [hx] at hb; simpa [(hf x).2.1, (hf x).2.2.1] using hb
   gA := fun b => by
     obtain ⟨f, hf, hk⟩ := hn b; unfold cW; rw [hk]
     cases hx : nth st b with
     | none => simp
     | some x => simp [(hf x).2.2.2.1]
   gB := fun b => by
     obtain ⟨f, hf, hk⟩ := hn b; unfold fL; rw [hk]
     cases hx : nth st b with
     | none => simp
     | some x => simp [(hf x).2.2.1]
   gE := fun b => by
     obtain ⟨f, hf, hk⟩ := hn b; unfold lh; rw [hk]
     cases hx : nth st b with
     | none => simp
     | some x =>
       simp only [Option.map_some]; rw [(hf x).2.2.2.2.2]
       split <;> omega }
theorem Rel.kill {w0 : World} {mu : Mu} {c : Cz} {st : St} {a : Act} {w : World} (h : Rel w0 mu c st a w) (s j : Nat) :
   Rel w0 mu c (bo st s j none) a w ∧ ∀ sl A, nth (bo st s j none) s = some sl → nth sl.aJ j ≠ some (some A) := by
 have hn : ∀ k, ∃ f : Sl → Sl, (∀ x, (f x).v = x.v ∧ (f x).box = x.box ∧ (f x).bg = x.bg ∧ (f x).ag = x.ag ∧
     (∀ i, nth (f x).aJ i = if k = s ∧ i = j then (nth x.aJ i).map (fun _ => none) else nth x.aJ i) ∧ (f x).ep = if k = s then x.ep + 1 else x.ep) ∧ nth (bo st s j none) k = (nth st k).map f := by
   intro k; unfold bo
   by_cases e : k = s
   · subst e; refine ⟨fun s => { s with aJ := lN (fun _ => none) s.aJ j, ep := s.ep + 1 }, fun x => ⟨rfl, rfl, rfl, rfl, fun i => ?_, by simp⟩, iS _ _ _⟩; simp only [dz, true_and]
   · refine ⟨id, fun x => ⟨rfl, rfl, rfl, rfl, fun i => ?_, by simp [e]⟩, by rw [lj _ _ e]; simp⟩; simp [e]
 generalize bo st s j none = aP at hn ⊢; have ga : Fw c st w c aP w := {
   stays := ir.refl w _
   refs := fun a' j' g A' _ eb => by
     obtain ⟨sl, k1, k2, k3⟩ := bc eb; obtain ⟨f, hf, hk⟩ := hn a'; rw [hk] at k1
     cases hx : nth st a' with
     | none => rw [hx] at k1; simp at k1
     | some x =>
       rw [hx] at k1; simp at k1; subst k1; rw [(hf x).2.2.2.2.1 j'] at k3; rw [(hf x).2.2.2.1] at k2; refine ⟨A', ?_, rfl, rfl, rfl, fun _ => ⟨rfl, fun _ _ _ _ => rfl⟩⟩
       by_cases e : a' = s ∧ j' = j
       · rw [if_pos e] at k3
         cases hq : nth x.aJ j' <;> simp [hq] at k3
       · rw [if_neg e] at k3; unfold aQ; rw [hx]; have : Nat.beq x.ag g = true := by rw [k2]; exact Nat.beq_refl g
         simp [this, k3]
   AR := fun b g lV _ hb => by
     refine ⟨⟨lV, ?_⟩, rfl⟩; obtain ⟨f, hf, hk⟩ := hn b; unfold dx at hb ⊢; rw [hk] at hb
     cases hx : nth st b with
     | none => rw [hx] at hb; simp at hb
     | some x => rw [hx] at hb; simpa [(hf x).2.1, (hf x).2.2.1] using hb
   gA := fun b => by
     obtain ⟨f, hf, hk⟩ := hn b; unfold cW; rw [hk]
     cases hx : nth st b with
     | none => simp
     | some x => simp [(hf x).2.2.2.1]
   gB := fun b => by
     obtain ⟨f, hf, hk⟩ := hn b; unfold fL; rw [hk]
     cases hx : nth st b with
     | none => simp
     | some x => simp [(hf x).2.2.1]
   gE := fun b => by
     obtain ⟨f, hf, hk⟩ := hn b; unfold lh; rw [hk]
     cases hx : nth st b with
     | none => simp
     | some x =>
       simp only [Option.map_some]; rw [(hf x).2.2.2.2.2]
       split <;> omega }
 refine ⟨{
   eL := fun t => by
     obtain ⟨f, hf, hk⟩ := hn t; have : bW aP t = bW st t := by
       unfold bW; rw [hk]
       cases hx : nth st t with
       | none => rfl
       | some x => exact (hf x).1
     rw [this]; exact ga.lO (h.eL t)
   boxes := fun b sl cs hs hb => by
     obtain ⟨f, hf, hk⟩ := hn b; rw [hk] at hs
     cases hx : nth st b with
     | none => rw [hx] at hs; simp at hs
     | some x =>
       rw [hx] at hs; simp at hs; subst hs; rw [(hf x).2.1] at hb; exact (h.boxes b x cs hx hb).go ga rfl rfl rfl
   aJ := fun b i sl A hs hA => by
     obtain ⟨f, hf, hk⟩ := hn b; rw [hk] at hs
     cases hx : nth st b with
     | none => rw [hx] at hs; simp at hs
     | some x =>
       rw [hx] at hs; simp at hs; subst hs; rw [(hf x).2.2.2.2.1 i] at hA
       by_cases e : b = s ∧ i = j
       · rw [if_pos e] at hA
         cases hq : nth x.aJ i <;> simp [hq] at hA
       · rw [if_neg e] at hA; exact h.aJ b i x A hx hA
   owned := h.owned
   free := h.free
   kept := h.kept
   old := h.old
   dR := fun p hp => ga.dR (h.dR p hp)
   plain := h.plain }, fun sl A hs => ?_⟩
 obtain ⟨f, hf, hk⟩ := hn s; rw [hk] at hs
 cases hx : nth st s with
 | none => rw [hx] at hs; simp at hs
 | some x =>
   rw [hx] at hs; simp at hs; subst hs; rw [(hf x).2.2.2.2.1 j, if_pos ⟨rfl, rfl⟩]
   cases nth x.aJ j <;> simp
def Cz.bp (c : Cz) (d : Nat) (L : Loc) (B : Option Nat) : Cz :=
 { bx := c.bx, lc := fun s j => if s = d ∧ j = 0 then L else c.lc s j, own := fun k => if B = some k then some (.sp d 0) else c.own k }
theorem lD {st : St} {d : Option Nat} {A : gr} {aP : St} (h : (bp st d A).val = some aP) :
   ∃ k s0, d = some k ∧ nth st k = some s0 ∧ aP = lN (fun s => { s with v := .one (.ref k 0 (s0.ag + 1) .full), aJ := [some A], ag := s0.ag + 1 }) st k := by
 unfold bp at h
 cases d with
 | none => simp [N.val] at h
 | some k =>
   cases hs : nth st k with
   | none => simp [hs, N.val] at h
   | some s0 =>
     simp only [hs, N.val, Option.some.injEq] at h; exact ⟨k, s0, rfl, hs, h.symm⟩
theorem z8 {st : St} {d : Option Nat} {cs : List CV} {aP : St} (h : (gX st d cs).val = some aP) :
   ∃ k s0, d = some k ∧ nth st k = some s0 ∧ aP = lN (fun s => { s with v := .one (.ptr k (s0.bg + 1) 0), box := some cs, bg := s0.bg + 1 }) st k := by
 unfold gX at h
 cases d with
 | none => simp [N.val] at h
 | some k =>
   cases hs : nth st k with
   | none => simp [hs, N.val] at h
   | some s0 =>
     simp only [hs, N.val, Option.some.injEq] at h; exact ⟨k, s0, rfl, hs, h.symm⟩
theorem Rel.fresh {w0 : World} {mu : Mu} {c : Cz} {st : St} {a : Act} {w : World} (h : Rel w0 mu c st a w) {d : Nat} {s0 : Sl} {r : RT} {xs : List (aq r)} {cur : Array Value} {ty cap : Nat}
   (gW : nth st d = some s0) (hd : d < a.tmps.size) (hle : xs.length ≤ cap) (ki : cap * r.width ≤ cur.size) {vs : List Value} (xY : aW w c.ok r vs xs) (R0 : cur.toList.take vs.length = vs) :
   ∃ c', Rel w0 mu c' (lN (fun s => { s with v := .one (.ref d 0 (s0.ag + 1) .full), aJ := [some { r := r, own := true, xs := xs }], ag := s0.ag + 1 }) st d)
     (a.put (some d) (.slice (some ⟨w.heap.size, 0, none⟩) xs.length cap)) (w.alloc (.cells cur ty (0, 0))) := by
 have uA := heap_alloc_new w (.cells cur ty (0, 0)); refine ⟨c.bp d (.at w.heap.size 0 cap) (some w.heap.size), h.place (B := w.heap.size) (A := { r := r, own := true, xs := xs }) gW hd rfl ?_ ?_ (.inl ?_) (.inl (Nat.le_refl _)) (fun _ => by simp) (fun k hk _ => heap_alloc_old w _ k hk)
   ⟨rfl, rfl, rfl, by simp⟩ ?_ rfl ?_⟩
 · intro s j fE; simp [Cz.bp, fE]
 · intro k hk; simp only [Cz.bp]; rw [if_neg (by intro e; exact hk (Option.some.inj e).symm)]
 · simp [Cz.bp]
 · have po : ir w (w.alloc (.cells cur ty (0, 0))) c.ok (c.bp d (.at w.heap.size 0 cap) (some w.heap.size)).ok := uz w _ _ _ (fun b hb fF => by
     unfold Cz.ok Cz.bp; simp only; rw [if_neg (by intro e; have := Option.some.inj e; omega)]; exact fF)
   unfold bM; simp only [Cz.bp, and_self, if_true]; refine ⟨trivial, hle, ⟨cur, ty, uA, by simpa using ki⟩, ?_⟩; refine (bn.sh rfl).2 ?_; refine qQ 0 vs xs (aW.stays po vs xs xY) (fun j v hv => ?_); rw [cell_of_row _ _ _ cur ty (0, 0) uA, Nat.zero_add]; have hj : j < vs.length := (List.getElem?_eq_some_iff.1 hv).1; rw [← R0, List.getElem?_take, if_pos hj] at hv; simpa using hv
 · simp only [Cz.bp, and_self, if_true]; exact ⟨_, cap, rfl, hle, by omega, fun _ => by simp⟩
theorem Dg {P : Program} {t ty e : TypeId} {i : TypeInfo} (ht : P.underlying t = some (.slice e)) (hi : P.info? e = some i) (w : World)
   (g o xZ EX : Nat) (cur : Array Value) (te : TypeId) (hg : w.heap[g]? = some (.cells cur te (0, 0)))
   (a : Addr) (m c : Nat) (news : List Value) (hl : news.length = m * i.size) (By : ∀ j u, news[j]? = some u → w.cell? (a.add j) = some u) (h1 : ∀ u ∈ news, u.oneCell' = true)
   (rJ : xZ + m ≤ EX) (pG : o + xZ * i.size + news.length ≤ cur.size) :
   (Builtin.append_ #[t, t] ty #[.slice (some ⟨g, o, none⟩) xZ EX, .slice (some a) m c]).run P w =
     .ok (.slice (some ⟨g, o, none⟩) (xZ + m) EX) (w.setRow g (bE cur.toList (o + xZ * i.size) news).toArray) := by
 have hf := run_firstCells_some (P := P) w i.size m a m c news hl By; have po := run_storeCells_at P g (o + xZ * i.size) te news 0 cur w hg (by simpa using pG) h1; simp only [Nat.add_zero] at po; simp [Builtin.append_, run_underlying ht, sizeOf, typeInfo, hi, Builtin.lenOf, rJ, hf, Addr.add_mid, po, bE]
theorem run_append_nothing {P : Program} {t ty e : TypeId} {i : TypeInfo} (ht : P.underlying t = some (.slice e)) (hi : P.info? e = some i) (w : World) (base : Option Addr) (xZ EX : Nat) (hle : xZ ≤ EX)
   (x : Value) (hx : (x = .slice none 0 0) ∨ ∃ a c, x = .slice (some a) 0 c) :
   (Builtin.append_ #[t, t] ty #[.slice base xZ EX, x]).run P w = .ok (.slice base xZ EX) w := by
 rcases hx with rfl | ⟨a, c, rfl⟩
 · cases base <;> simp [Builtin.append_, run_underlying ht, sizeOf, typeInfo, hi, Builtin.lenOf, Builtin.firstCells, hle, storeCells]
 · cases base <;> simp [Builtin.append_, run_underlying ht, sizeOf, typeInfo, hi, Builtin.lenOf, Builtin.firstCells, hle, storeCells, loadCells, loadCellsFrom]
end Go.TM
namespace Go.TM
open Go Go.RowKit
def du (w : World) (P : List Nat → Nat → Prop) : (r : RT) → (p : List Nat) → (k : Nat) → List Value → aq r → Prop
 | .nil, _, _, vs, _ => vs = []
 | .cons t r, p, k, vs, x => ∃ v l, vs = v :: l ∧ dt w P t (p ++ [k]) v x.1 ∧ du w P r p (k + 1) l x.2
theorem du.length {w : World} {P : List Nat → Nat → Prop} : (r : RT) → (p : List Nat) → (k : Nat) → (vs : List Value) → (x : aq r) → du w P r p k vs x → vs.length = r.width
 | .nil, _, _, vs, _, h => by simp only [du] at h; subst h; rfl
 | .cons t r, p, k, vs, x, h => by
   obtain ⟨v, l, rfl, _, h⟩ := h; simp [RT.width, du.length r p (k + 1) l x.2 h]
theorem jc {w : World} {P : List Nat → Nat → Prop} : (r : RT) → (p : List Nat) → (k b off : Nat) → (x : aq r) → (fM w P r p k b off x ↔ ∃ vs, w.rangeAt b off vs ∧ du w P r p k vs x)
 | .nil, _, _, _, _, _ => by
   unfold fM; exact ⟨fun _ => ⟨[], fun j v h => by simp at h, rfl⟩, fun _ => trivial⟩
 | .cons t r, p, k, b, off, x => by
   unfold fM
   constructor
   · rintro ⟨⟨v, hv, hx⟩, hr⟩
     obtain ⟨vs, h1, h2⟩ := (jc r p (k + 1) b (off + 1) x.2).1 hr; refine ⟨v :: vs, fun j u hu => ?_, v, vs, rfl, hx, h2⟩
     cases j with
     | zero => simp at hu; rw [← hu]; exact hv
     | succ j =>
       simp at hu; rw [show off + (j + 1) = off + 1 + j by omega]; exact h1 j u hu
   · rintro ⟨vs, h1, v, l, rfl, hx, h2⟩
     refine ⟨⟨v, h1 0 v rfl, hx⟩, (jc r p (k + 1) b (off + 1) x.2).2 ⟨l, fun j u hu => ?_, h2⟩⟩; have := h1 (j + 1) u (by simpa using hu); rw [show off + 1 + j = off + (j + 1) by omega]; exact this
theorem du.go {w w' : World} {P P' : List Nat → Nat → Prop} : (r : RT) → (p p' : List Nat) → (hP : ∀ q b, P (p ++ q) b → w'.heap[b]? = w.heap[b]? ∧ P' (p' ++ q) b) → (k : Nat) → (vs : List Value) → (x : aq r) → du w P r p k vs x → du w' P' r p' k vs x
 | .nil, _, _, _, _, _, _, h => h
 | .cons t r, p, p', hP, k, vs, x, h => by
   obtain ⟨v, l, e, h1, h2⟩ := h; refine ⟨v, l, e, dt.go t (p ++ [k]) (p' ++ [k]) (fun q b hb => ?_) v x.1 h1, du.go r p p' hP (k + 1) l x.2 h2⟩; have := hP ([k] ++ q) b (by rw [← List.append_assoc]; exact hb); rw [← List.append_assoc] at this; exact this
theorem Bz {w : World} {P : List Nat → Nat → Prop} {c : Cz} {st : St} {w1 : World} : (r : RT) → (p : List Nat) → (k0 : Nat) → (x : aq r) → (k : Nat) → (y : CV) → (z : aq r) → (vs : List Value) → (u : Value) →
   fp r x k y = some z → iT c st w1 y u → du w P r p k0 vs x → du w P r p k0 (vs.set k u) z
 | .nil, _, _, _, _, _, _, _, _, h, _, _ => by simp [fp] at h
 | .cons t r, p, k0, x, 0, y, z, vs, u, h, hu, hv => by
   obtain ⟨v, l, rfl, hx, hr⟩ := hv
   cases t with
   | int k => cases y <;> simp [fp] at h
              obtain ⟨rfl, h⟩ := h; obtain rfl := Option.some.inj h; exact ⟨u, l, rfl, wD.2 hu, hr⟩
   | bool => cases y <;> simp [fp] at h
             obtain rfl := Option.some.inj h; exact ⟨u, l, rfl, sw.2 hu, hr⟩
   | str => cases y <;> simp [fp] at h
            obtain rfl := Option.some.inj h; exact ⟨u, l, rfl, wE.2 hu, hr⟩
   | sl q => cases y <;> simp [fp] at h
 | .cons t r, p, k0, x, k + 1, y, z, vs, u, h, hu, hv => by
   obtain ⟨v, l, rfl, hx, hr⟩ := hv; have h' : (fp r x.2 k y).map (fun z => ((x.1, z) : aq (.cons t r))) = some z := by cases t <;> (simp only [fp] at h; exact h)
   cases hq : fp r x.2 k y with
   | none => simp [hq] at h'
   | some z' =>
     rw [hq] at h'; obtain rfl := Option.some.inj h'; exact ⟨v, l.set k u, rfl, hx, Bz r p (k0 + 1) x.2 k y z' l u hq hu hr⟩
theorem BA {w : World} {P : List Nat → Nat → Prop} {c : Cz} {st : St} {w1 : World} (r : RT) (p : List Nat) (k0 : Nat) (x : aq r) : (off : Nat) → (cs : List CV) → (z : aq r) → (vs us : List Value) → off + us.length ≤ vs.length →
   jT r x off cs = some z → eK c st w1 cs us → du w P r p k0 vs x → du w P r p k0 (bE vs off us) z
 | off, [], z, vs, us, _, h, hl, hv => by
   have : us = [] := by have := hl.1; simp at this; exact List.length_eq_zero_iff.1 this.symm
   subst this; simp [jT] at h; subst h; simp [bE]; exact hv
 | off, y :: l, z, vs, us, hle, h, hl, hv => by
   cases us with
   | nil => have := hl.1; simp at this
   | cons u us =>
     simp only [jT] at h
     cases hq : jT r x (off + 1) l with
     | none => simp [hq] at h
     | some y' =>
       simp only [hq] at h; simp at hle; have ih := BA r p k0 x (off + 1) l y' vs us (by omega) hq ⟨by have := hl.1; simpa using this, fun i a b ha hb => hl.2 (i + 1) a b (by simpa using ha) (by simpa using hb)⟩ hv; rw [zY (by omega)]; exact Bz r p k0 y' off y z _ u h (hl.2 0 y u rfl rfl) ih
mutual
theorem bL.dep {w : World} {P : List Nat → Nat → Prop} {ok : Nat → Prop} : (t : Ty) → (p : List Nat) → (v : Value) → (x : den t) → RT.dX (.cons t .nil) = false → bL w ok t v x → dt w P t p v x
 | .int _, _, _, _, _, h => wD.2 (pD.1 h)
 | .bool, _, _, _, _, h => sw.2 (qN.1 h)
 | .str, _, _, _, _, h => wE.2 (ur.1 h)
 | .sl _, _, _, _, hs, _ => by simp [RT.dX] at hs
theorem cq.dep {w : World} {P : List Nat → Nat → Prop} {ok : Nat → Prop} : (r : RT) → (p : List Nat) → (k b off : Nat) → (x : aq r) → r.dX = false → cq w ok r b off x → fM w P r p k b off x
 | .nil, _, _, _, _, _, _, _ => by unfold fM; trivial
 | .cons t r, p, k, b, off, x, hs, h => by
   unfold cq at h; unfold fM; obtain ⟨⟨v, h1, h2⟩, h3⟩ := h; refine ⟨⟨v, h1, bL.dep t _ v x.1 ?_ h2⟩, cq.dep r p (k + 1) b (off + 1) x.2 ?_ h3⟩
   · cases t <;> simp_all [RT.dX]
   · cases t <;> simp_all [RT.dX]
end
theorem fM.Gc {w : World} {P : List Nat → Nat → Prop} {ok : Nat → Prop} : (r : RT) → (p : List Nat) → (k b off : Nat) → (x : aq r) → r.dX = false → fM w P r p k b off x → cq w ok r b off x
 | .nil, _, _, _, _, _, _, _ => by unfold cq; trivial
 | .cons t r, p, k, b, off, x, hs, h => by
   unfold fM at h; unfold cq; obtain ⟨⟨v, h1, h2⟩, h3⟩ := h; refine ⟨⟨v, h1, ?_⟩, fM.Gc r p (k + 1) b (off + 1) x.2 (by cases t <;> simp_all [RT.dX]) h3⟩
   cases t with
   | int _ => exact pD.2 (wD.1 h2)
   | bool => exact qN.2 (sw.1 h2)
   | str => exact ur.2 (wE.1 h2)
   | sl _ => simp [RT.dX] at hs
theorem bn.M4 {c : Cz} {w : World} {l : Lb} {A : gr} {b off : Nat} (hm : A.md = .sh) {ys : List (aq A.r)} (h : ∀ (i : Nat) x, ys[i]? = some x → cq w c.ok A.r b (off + i * A.r.width) x) : bn c w l { A with xs := ys } b off := by
 unfold bn; show match A.md with | .sh => _ | .dp => _ | .ho _ => _
 rw [hm]; exact h
def RT.md (q : RT) : Md := bif q.dX then .dp else .sh
theorem PE {c : Cz} {w : World} {s j : Nat} {A : gr} (h : bM c w s j A) (ho : A.own = true) (hm : A.md = A.r.md) {v : Value} (h1 : v.oneCell' = true) (hv : iB (c.lc s j) A.r.width 0 A.xs.length v) :
   ∃ g : Nat → List Nat, ∀ (P : List Nat → Nat → Prop) (p : List Nat), (∀ k, c.own k = some (.sp s j) → P (p ++ g k) k) → dt w P (.sl A.r) p v A.xs := by
 unfold bM at h
 cases hl : c.lc s j with
 | nil =>
   rw [hl] at h hv; exact ⟨fun _ => [], fun P p _ => (uu _ _ _ _ _ _).2 ⟨.nil, hv, h1, .inl ⟨rfl, h⟩⟩⟩
 | «at» b off cap =>
   rw [hl] at h hv; obtain ⟨h0, h2, h3, h4⟩ := h; rw [ho] at h0; unfold bn at h4; rw [hm] at h4; unfold RT.md at h4
   cases hs : A.r.dX with
   | false =>
     rw [hs] at h4; refine ⟨fun _ => [], fun P p hP => (uu _ _ _ _ _ _).2 ⟨_, hv, h1, .inr ⟨b, off, cap, rfl, ?_, h2, h3, fun i x hx => cq.dep _ _ _ _ _ x hs (h4 i x hx)⟩⟩⟩; simpa using hP b h0
   | true =>
     rw [hs] at h4; obtain ⟨g, g1, g2⟩ := h4; refine ⟨g, fun P p hP => (uu _ _ _ _ _ _).2 ⟨_, hv, h1, .inr ⟨b, off, cap, rfl, ?_, h2, h3, fun i x hx => fM.go _ [i] (p ++ [i]) (fun q k hk => ⟨rfl, ?_⟩) _ _ _ x rfl (g2 i x hx)⟩⟩⟩
     · have := hP b h0
       rwa [g1, List.append_nil] at this
     · have := hP k hk.1; rw [hk.2] at this
       rwa [List.append_assoc]
theorem M5 {c : Cz} {w : World} {s j : Nat} {A : gr} (h : bM c w s j A) (ho : A.own = true) (hm : A.md = A.r.md) :
   ∃ g : Nat → List Nat, ∀ v : Value, v.oneCell' = true → iB (c.lc s j) A.r.width 0 A.xs.length v → ∀ (P : List Nat → Nat → Prop) (p : List Nat), (∀ k, c.own k = some (.sp s j) → P (p ++ g k) k) → dt w P (.sl A.r) p v A.xs := by
 by_cases e : ∃ v : Value, v.oneCell' = true ∧ iB (c.lc s j) A.r.width 0 A.xs.length v
 · unfold bM at h
   cases hl : c.lc s j with
   | nil =>
     rw [hl] at h; exact ⟨fun _ => [], fun v h1 hv P p _ => (uu _ _ _ _ _ _).2 ⟨.nil, hv, h1, .inl ⟨rfl, h⟩⟩⟩
   | «at» b off cap =>
     rw [hl] at h; obtain ⟨h0, h2, h3, h4⟩ := h; rw [ho] at h0; unfold bn at h4; rw [hm] at h4; unfold RT.md at h4
     cases hs : A.r.dX with
     | false =>
       rw [hs] at h4; refine ⟨fun _ => [], fun v h1 hv P p hP => (uu _ _ _ _ _ _).2 ⟨_, hv, h1, .inr ⟨b, off, cap, rfl, ?_, h2, h3, fun i x hx => cq.dep _ _ _ _ _ x hs (h4 i x hx)⟩⟩⟩; simpa using hP b h0
     | true =>
       rw [hs] at h4; obtain ⟨g, g1, g2⟩ := h4; refine ⟨g, fun v h1 hv P p hP => (uu _ _ _ _ _ _).2 ⟨_, hv, h1, .inr ⟨b, off, cap, rfl, ?_, h2, h3, fun i x hx => fM.go _ [i] (p ++ [i]) (fun q k hk => ⟨rfl, ?_⟩) _ _ _ x rfl (g2 i x hx)⟩⟩⟩
       · have := hP b h0
         rwa [g1, List.append_nil] at this
       · have := hP k hk.1; rw [hk.2] at this
         rwa [List.append_assoc]
 · exact ⟨fun _ => [], fun v h1 h2 => absurd ⟨v, h1, h2⟩ e⟩
theorem x3 {w0 : World} {mu : Mu} {c : Cz} {st : St} {a : Act} {w : World} (h : Rel w0 mu c st a w) : (r : RT) → (cs : List CV) → (us : List Value) → eK c st w cs us → {x : aq r} → {m : List (Option (Nat × Nat))} → gl st r cs = some (x, m) →
   m.length = r.width ∧ (∀ (col : Nat) (n : Nat × Nat), m[col]? = some (some n) → ∃ g A, aQ st n.1 n.2 g = some A ∧ A.own = true) ∧
   ∃ G : Nat → Nat → List Nat, ∀ (P : List Nat → Nat → Prop) (p : List Nat) (k0 : Nat), (∀ (col : Nat) (n : Nat × Nat) (k : Nat), m[col]? = some (some n) → c.own k = some (.sp n.1 n.2) → P (p ++ [k0 + col] ++ G col k) k) → du w P r p k0 us x
 | .nil, cs, us, hl, x, m, hv => by
   cases cs with
   | cons _ _ => simp [gl] at hv
   | nil =>
     have : us = [] := by have := hl.1; simp at this; exact List.length_eq_zero_iff.1 this.symm
     subst this; simp only [gl, Option.some.injEq, Prod.mk.injEq] at hv; obtain ⟨_, rfl⟩ := hv; exact ⟨rfl, fun col n h => by simp at h, fun _ _ => [], fun _ _ _ _ => rfl⟩
 | .cons t r, cs, us, hl, x, m, hv => by
   cases cs with
   | nil => cases t <;> simp [gl] at hv
   | cons y cs =>
     cases us with
     | nil => have := hl.1; simp at this
     | cons u us =>
       have hu : iT c st w y u := hl.2 0 y u rfl rfl; have wk : eK c st w cs us := ⟨by have := hl.1; simpa using this, fun i a b ha hb => hl.2 (i + 1) a b (by simpa using ha) (by simpa using hb)⟩; have cell : ∀ (d : den t) (o : Option (Nat × Nat)) (z : aq r) (m' : List (Option (Nat × Nat))), gl st r cs = some (z, m') → (∀ n, o = some n → ∃ g A, aQ st n.1 n.2 g = some A ∧ A.own = true) →
           (∃ g : Nat → List Nat, ∀ (P : List Nat → Nat → Prop) (p : List Nat), (∀ n k, o = some n → c.own k = some (.sp n.1 n.2) → P (p ++ g k) k) → dt w P t p u d) → x = (d, z) → m = o :: m' →
           m.length = (RT.cons t r).width ∧ (∀ (col : Nat) (n : Nat × Nat), m[col]? = some (some n) → ∃ g A, aQ st n.1 n.2 g = some A ∧ A.own = true) ∧
           ∃ G : Nat → Nat → List Nat, ∀ (P : List Nat → Nat → Prop) (p : List Nat) (k0 : Nat), (∀ (col : Nat) (n : Nat × Nat) (k : Nat), m[col]? = some (some n) → c.own k = some (.sp n.1 n.2) → P (p ++ [k0 + col] ++ G col k) k) → du w P (.cons t r) p k0 (u :: us) x := by
         intro d o z m' hz ho hd e1 e2; subst e1 e2; obtain ⟨g1, g2, G, g3⟩ := x3 h r cs us wk hz; obtain ⟨g, hd⟩ := hd; refine ⟨by simp [RT.width, g1], fun col n hc => ?_, fun col => match col with | 0 => g | col + 1 => G col, fun P p k0 hP => ⟨u, us, rfl, hd P _ fun n k hn hk => ?_, g3 P p (k0 + 1) fun col n k hc hk => ?_⟩⟩
         · cases col with
           | zero => exact ho n (by simpa using hc)
           | succ col => exact g2 col n (by simpa using hc)
         · have := hP 0 n k (by simp [hn]) hk; simpa using this
         · have := hP (col + 1) n k (by simpa using hc) hk
           rwa [show k0 + (col + 1) = k0 + 1 + col by omega] at this
       have plain : ∀ (d : den t), (∀ (P : List Nat → Nat → Prop) (p : List Nat), dt w P t p u d) → (match gl st r cs with | some p => some ((d, p.1), none :: p.2) | none => (none : Option (aq (.cons t r) × List (Option (Nat × Nat))))) = some (x, m) →
           m.length = (RT.cons t r).width ∧ (∀ (col : Nat) (n : Nat × Nat), m[col]? = some (some n) → ∃ g A, aQ st n.1 n.2 g = some A ∧ A.own = true) ∧
           ∃ G : Nat → Nat → List Nat, ∀ (P : List Nat → Nat → Prop) (p : List Nat) (k0 : Nat), (∀ (col : Nat) (n : Nat × Nat) (k : Nat), m[col]? = some (some n) → c.own k = some (.sp n.1 n.2) → P (p ++ [k0 + col] ++ G col k) k) → du w P (.cons t r) p k0 (u :: us) x := by
         intro d hd hv
         cases hz : gl st r cs with
         | none => rw [hz] at hv; cases hv
         | some q =>
           rw [hz] at hv; have hv := Option.some.inj hv; exact cell d none q.1 q.2 hz (fun n e => by cases e) ⟨fun _ => [], fun P p _ => hd P p⟩ (congrArg Prod.fst hv).symm (congrArg Prod.snd hv).symm
       cases t with
       | int q =>
         cases y with
         | int l n =>
           simp only [gl] at hv
           by_cases e : q = l
           · rw [if_pos e] at hv; exact plain n (fun P p => wD.2 (by rw [e]; exact hu)) hv
           · rw [if_neg e] at hv; cases hv
         | _ => simp [gl] at hv
       | bool =>
         cases y with
         | bool b => exact plain b (fun P p => sw.2 hu) (by simp only [gl] at hv; exact hv)
         | _ => simp [gl] at hv
       | str =>
         cases y with
         | str s => exact plain s (fun P p => wE.2 hu) (by simp only [gl] at hv; exact hv)
         | _ => simp [gl] at hv
       | sl q =>
         cases y with
         | dL => exact plain ([] : List (aq q)) (fun P p => (uu _ _ _ _ _ _).2 ⟨.nil, ⟨hu, rfl⟩, by rw [show u = .slice none 0 0 from hu]; rfl, .inl ⟨rfl, rfl⟩⟩) (by simp only [gl] at hv; exact hv)
         | ref a' j g vw =>
           cases vw with
           | full =>
             simp only [gl] at hv
             cases hA : aQ st a' j g with
             | none => simp [hA] at hv
             | some A =>
               simp only [hA] at hv; obtain ⟨hc, my⟩ := aH hv; clear hv; rw [Bool.and_eq_true] at hc; have hm := Md.lg.1 hc.2
               cases oJ : bA q A.xs with
               | none => rw [oJ] at my; cases my
               | some ys =>
                 rw [oJ] at my; simp only at my
                 cases hz : gl st r cs with
                 | none => rw [hz] at my; cases my
                 | some qq =>
                   rw [hz] at my; have my := Option.some.inj my; obtain ⟨e, he⟩ := a6 oJ; subst e; simp only at he; subst he; refine cell A.xs (some (a', j)) qq.1 qq.2 hz (fun n e => by cases e; exact ⟨g, A, hA, hc.1⟩) ?_ (congrArg Prod.fst my).symm (congrArg Prod.snd my).symm; obtain ⟨gg, h2⟩ := PE (h.rH hA) hc.1 hm hu.1 (hu.2.2 A hA); exact ⟨gg, fun P p hP => h2 P p fun k hk => hP (a', j) k rfl hk⟩
           | «from» _ => simp [gl] at hv
           | sub _ _ => simp [gl] at hv
         | _ => simp [gl] at hv
theorem kj {w0 : World} {mu : Mu} {c : Cz} {a : Act} {w : World} : (m : List (Nat × Nat)) → {st : St} → Rel w0 mu c st a w → Rel w0 mu c (gv st m) a w ∧ (∀ n ∈ m, ∀ sl A, nth (gv st m) n.1 = some sl → nth sl.aJ n.2 ≠ some (some A)) ∧
   (∀ s j sl A, (s, j) ∉ m → nth st s = some sl → nth sl.aJ j = some (some A) → ∃ QY, nth (gv st m) s = some QY ∧ nth QY.aJ j = some (some A)) ∧ Fw c st w c (gv st m) w ∧ ∀ s j A, (∀ sl, nth st s = some sl → nth sl.aJ j ≠ some (some A)) → ∀ sl, nth (gv st m) s = some sl → nth sl.aJ j ≠ some (some A)
 | [], st, h => ⟨h, by simp, fun s j sl A _ h1 h2 => ⟨sl, h1, h2⟩, Fw.refl c st w, fun s j A h => h⟩
 | (s0, j0) :: m, st, h => by
   obtain ⟨k1, k2⟩ := h.kill s0 j0; obtain ⟨h1, h2, h3, h4, h5⟩ := kj m k1; have hn : ∀ k, ∃ f : Sl → Sl, (∀ x, ∀ i, nth (f x).aJ i = if k = s0 ∧ i = j0 then (nth x.aJ i).map (fun _ => none) else nth x.aJ i) ∧ nth (bo st s0 j0 none) k = (nth st k).map f := by
     intro k; unfold bo
     by_cases e : k = s0
     · subst e; refine ⟨fun s => { s with aJ := lN (fun _ => none) s.aJ j0, ep := s.ep + 1 }, fun x i => ?_, iS _ _ _⟩; simp only [dz, true_and]
     · refine ⟨id, fun x i => ?_, by rw [lj _ _ e]; simp⟩; simp [e]
   have keep : ∀ s j A, (∀ sl, nth st s = some sl → nth sl.aJ j ≠ some (some A)) → ∀ sl, nth (bo st s0 j0 none) s = some sl → nth sl.aJ j ≠ some (some A) := by
     intro s j A hq sl hs; obtain ⟨f, hf, hk⟩ := hn s; rw [hk] at hs
     cases hx : nth st s with
     | none => rw [hx] at hs; cases hs
     | some x =>
       rw [hx] at hs; simp at hs; subst hs; rw [hf]
       split
       · cases nth x.aJ j <;> simp
       · exact hq x hx
   refine ⟨h1, fun n hm sl A hs => ?_, fun s j sl A hm hs hA => ?_, ?_, fun s j A hq => h5 s j A (keep s j A hq)⟩
   · rcases List.mem_cons.1 hm with rfl | hm
     · exact h5 s0 j0 A (fun sl hs => k2 sl A hs) sl hs
     · exact h2 n hm sl A hs
   · obtain ⟨f, hf, hk⟩ := hn s; refine h3 s j (f sl) A (fun Aa => hm (List.mem_cons_of_mem _ Aa)) (by rw [hk, hs]; rfl) ?_; rw [hf, if_neg]
     · exact hA
     · rintro ⟨rfl, rfl⟩; exact hm List.mem_cons_self
   · refine Fw.trans ?_ h4; exact (h.RZ s0 j0)
open Classical in
noncomputable def Cz.iv (c : Cz) (m : List (Nat × Nat)) (l : Lb) : Cz :=
 { bx := c.bx, lc := c.lc, own := fun k => if ∃ n ∈ m, c.own k = some (.sp n.1 n.2) then some l else c.own k }
theorem Cz.l7 {c : Cz} {m : List (Nat × Nat)} {l : Lb} {k : Nat} {n : Nat × Nat} (hm : n ∈ m) (h : c.own k = some (.sp n.1 n.2)) : (c.iv m l).own k = some l := by
 unfold Cz.iv; simp only; rw [if_pos ⟨n, hm, h⟩]
theorem Cz.mK {c : Cz} {m : List (Nat × Nat)} {l : Lb} {k : Nat} (h : ∀ n ∈ m, c.own k ≠ some (.sp n.1 n.2)) : (c.iv m l).own k = c.own k := by
 unfold Cz.iv; simp only; rw [if_neg]; rintro ⟨n, hm, e⟩; exact h n hm e
theorem Cz.Gd {c : Cz} {m : List (Nat × Nat)} {l : Lb} {k : Nat} : (c.iv m l).ok k ↔ c.ok k := by
 unfold Cz.ok
 by_cases h : ∃ n ∈ m, c.own k = some (.sp n.1 n.2)
 · obtain ⟨n, hm, e⟩ := h; rw [Cz.l7 hm e, e]; simp
 · rw [Cz.mK (fun n hm e => h ⟨n, hm, e⟩)]
theorem Fw.iv (c : Cz) (st : St) (w : World) (m : List (Nat × Nat)) (l : Lb) : Fw c st w (c.iv m l) st w :=
 ⟨⟨Nat.le_refl _, fun _ _ _ => rfl, fun _ _ h => Cz.Gd.2 h⟩, fun _ _ _ A' _ h => ⟨A', h, rfl, rfl, rfl, fun _ => ⟨rfl, fun _ _ _ _ => rfl⟩⟩, fun _ _ lV _ h => ⟨⟨lV, h⟩, rfl⟩, fun _ => Nat.le_refl _, fun _ => Nat.le_refl _, fun _ => Nat.le_refl _⟩
theorem Rel.iv {w0 : World} {mu : Mu} {c : Cz} {st : St} {a : Act} {w : World} (h : Rel w0 mu c st a w) {m : List (Nat × Nat)} (hd : ∀ n ∈ m, ∀ sl A, nth st n.1 = some sl → nth sl.aJ n.2 ≠ some (some A)) (s j : Nat) : Rel w0 mu (c.iv m (.sp s j)) st a w where
 eL t := (Fw.iv c st w m _).lO (h.eL t)
 boxes b sl cs hs hb := by
   have h0 := h.boxes b sl cs hs hb; exact h0.go (Fw.iv c st w m _) rfl (Cz.mK fun n _ => by rw [h0.1]; simp) rfl
 aJ b i sl A hs hA := by
   have h0 := h.aJ b i sl A hs hA; refine h0.go (Fw.iv c st w m _).stays rfl (fun k hk => ⟨rfl, Cz.mK fun n hn e => ?_⟩); rw [hk] at e; injection e with e; injection e with e1 e2; subst e1 e2; exact hd n hn sl A hs hA
 owned b l hb := by
   by_cases e : ∃ n ∈ m, c.own b = some (.sp n.1 n.2)
   · obtain ⟨n, hm, e⟩ := e; rw [Cz.l7 hm e] at hb
     cases hb
     obtain ⟨h1, h2⟩ := h.owned b _ e; exact ⟨h1, .inr (h2.resolve_left (by simp))⟩
   · rw [Cz.mK (fun n hm e' => e ⟨n, hm, e'⟩)] at hb; exact h.owned b l hb
 free b hb h1 := h.free b hb (Cz.Gd.1 h1)
 kept := h.kept
 old := h.old
 plain := h.plain
 dR p hp := (Fw.iv c st w m _).dR (h.dR p hp)
theorem l8 : {m : List (Nat × Nat)} → distinct m = true → m.Nodup
 | [], _ => List.nodup_nil
 | x :: l, h => by
   simp only [distinct, Bool.and_eq_true, List.all_eq_true] at h; refine List.nodup_cons.2 ⟨fun hm => ?_, l8 h.2⟩; have := h.1 x hm; simp at this
theorem wG {n : Nat × Nat} : {m : List (Option (Nat × Nat))} → n ∈ dM m → ∃ col : Nat, m[col]? = some (some n)
 | [], h => by simp [dM] at h
 | none :: m, h => by
   obtain ⟨col, hc⟩ := wG (m := m) h; exact ⟨col + 1, by simpa using hc⟩
 | some p :: m, h => by
   rcases List.mem_cons.1 h with rfl | h
   · exact ⟨0, rfl⟩
   · obtain ⟨col, hc⟩ := wG (m := m) h; exact ⟨col + 1, by simpa using hc⟩
theorem jY {n : Nat × Nat} : {m : List (Option (Nat × Nat))} → {col : Nat} → m[col]? = some (some n) → n ∈ dM m
 | [], _, h => by simp at h
 | none :: m, 0, h => by simp at h
 | none :: m, col + 1, h => jY (m := m) (col := col) (by simpa using h)
 | some p :: m, 0, h => by simp at h; subst h; exact List.mem_cons_self
 | some p :: m, col + 1, h => List.mem_cons_of_mem _ (jY (m := m) (col := col) (by simpa using h))
theorem sD {n : Nat × Nat} : {m : List (Option (Nat × Nat))} → (dM m).Nodup → {a b : Nat} → m[a]? = some (some n) → m[b]? = some (some n) → a = b
 | [], _, a, _, h, _ => by simp at h
 | none :: m, hn, a, b, h, h' => by
   cases a with
   | zero => simp at h
   | succ a => cases b with
     | zero => simp at h'
     | succ b => exact congrArg (· + 1) (sD (m := m) (a := a) (b := b) hn (by simpa using h) (by simpa using h'))
 | some p :: m, hn, a, b, h, h' => by
   have KV := List.nodup_cons.1 hn
   cases a with
   | zero =>
     simp at h; subst h
     cases b with
     | zero => rfl
     | succ b => exact absurd (jY (m := m) (col := b) (by simpa using h')) KV.1
   | succ a =>
     cases b with
     | zero => simp at h'; subst h'; exact absurd (jY (m := m) (col := a) (by simpa using h)) KV.1
     | succ b => exact congrArg (· + 1) (sD (m := m) (a := a) (b := b) KV.2 (by simpa using h) (by simpa using h'))
theorem zk {c : Cz} {m : List (Option (Nat × Nat))} (hn : (dM m).Nodup) (G : Nat → Nat → List Nat) (g : Nat → List Nat) (p : List Nat) (l : Lb) (hl : ∀ n ∈ dM m, l ≠ .sp n.1 n.2) :
   ∃ g' : Nat → List Nat, (∀ k, c.own k = some l → g' k = g k) ∧ ∀ (col : Nat) (n : Nat × Nat) (k : Nat), m[col]? = some (some n) → c.own k = some (.sp n.1 n.2) → g' k = p ++ [col] ++ G col k := by
 have key : ∀ k, ∃ q : List Nat, (c.own k = some l → q = g k) ∧ ∀ (col : Nat) (n : Nat × Nat), m[col]? = some (some n) → c.own k = some (.sp n.1 n.2) → q = p ++ [col] ++ G col k := by
   intro k
   by_cases e : ∃ (col : Nat) (n : Nat × Nat), m[col]? = some (some n) ∧ c.own k = some (.sp n.1 n.2)
   · obtain ⟨col, n, e1, e2⟩ := e; refine ⟨p ++ [col] ++ G col k, fun h => ?_, fun aac n' h1 h2 => ?_⟩
     · rw [e2] at h; cases h; exact absurd rfl (hl n (jY e1))
     · rw [e2] at h2; injection h2 with h2; injection h2 with q1 q2; have : n = n' := Prod.ext q1 q2; subst this; rw [sD hn h1 e1]
   · exact ⟨g k, fun _ => rfl, fun col n h1 h2 => absurd ⟨col, n, h1, h2⟩ e⟩
 obtain ⟨g', h⟩ := Classical.axiomOfChoice key; exact ⟨g', fun k => (h k).1, fun col n k => (h k).2 col n⟩
theorem KW {P : Program} {T : kh} (hT : fG P T) {w0 : World} {mu : Mu} {c : Cz} {st : St} {a : Act} {w : World} (h : Rel w0 mu c st a w)
   {t : Nat} {x v : V} {ux uv : Value} (hx : eo c st w x ux) (hv : eo c st w v uv) {aP : St} (hs : (rf T st t x v).val = some aP) :
   ∃ w', (Instr.storeAt t ux uv).run P w = .ok () w' ∧ ∃ c', Rel w0 mu c' aP a w' := by
 cases hn : T.cells t with
 | none => cases x with
   | one y => cases y <;> simp [rf, hn, N.val] at hs
   | agg _ => simp [rf, N.val] at hs
   | lU _ => simp [rf, N.val] at hs
 | some n => cases x with
   | agg _ => simp [rf, N.val] at hs
   | lU _ => simp [rf, N.val] at hs
   | one y => cases y with
     | bad | int _ _ | bool _ | str _ | dL | H2 | shr _ _ | nn _ _ | ref _ _ _ _ | kC _ _ _ | re _ _ _ | fn _ _ _ | nQ _ _ _ _ _ _ _ _ => simp [rf, N.val] at hs
     | ptr b g off =>
       simp only [rf, hn] at hs
       cases hb : dx st b g with
       | none => simp [hb, N.val] at hs
       | some cs =>
         simp only [hb] at hs; obtain ⟨hc, hs⟩ := dD hs; rw [Bool.and_eq_true] at hc
         cases hp : putCells cs off v.cells with
         | none => simp [hp, N.val] at hs
         | some l =>
           simp only [hp, N.val, Option.some.injEq] at hs; subst hs; obtain ⟨hle, rfl⟩ := wm hp; obtain ⟨sl, Bq, Pk, Br⟩ := gw hb; obtain ⟨ho, vs, ty, hh, hl⟩ := h.boxes b sl cs Bq Br; obtain ⟨oJ, Dh⟩ := hv.cells hc.1; have hu := hx.2.2 cs hb; subst hu; have hlen : uv.cells.toList.length = n := by rw [← oJ.1]; exact Nat.eq_of_beq_eq_true hc.2
           have xK := hl.1; have Ge := oJ.1; refine ⟨_, lC hT hn w (c.bx b) off uv hlen Dh hh (by simp at xK ⊢; omega), c, ?_⟩; refine h.M3 Bq Br hh ?_; simpa using hl.bE oJ off hle
     | F5 a' j g i off =>
       simp only [rf, hn] at hs
       cases hA : aQ st a' j g with
       | none => simp [hA, N.val] at hs
       | some A =>
         simp only [hA] at hs; obtain ⟨hc, hz⟩ := dD hs; clear hs; rw [Bool.and_eq_true, Bool.and_eq_true, Bool.and_eq_true] at hc; obtain ⟨⟨⟨aad, eY⟩, J2⟩, Pn⟩ := hc; have Pn : 0 < n := by simp [Nat.blt] at Pn; omega
         obtain ⟨sl, Bq, Pk, Br⟩ := bc hA; have Ga := h.aJ a' j sl A Bq Br; obtain ⟨hi, b, o, cap, gz, hu⟩ := hx.2.2 A hA; have R1 := Ga; unfold bM at R1; rw [gz] at R1; obtain ⟨ho, xR, ⟨cur, ty, hg, ki⟩, eX⟩ := R1; rw [eY] at ho; obtain ⟨oJ, Dh⟩ := hv.cells aad; have hlen : uv.cells.toList.length = n := by rw [← oJ.1]; exact Nat.eq_of_beq_eq_true J2
         have EY : o + i * A.r.width + A.r.width ≤ cur.size := by
           have : (i + 1) * A.r.width ≤ cap * A.r.width := Nat.mul_le_mul_right _ (by omega); rw [Nat.add_mul] at this; omega
         subst hu
         cases hw : Nat.beq n A.r.width && A.r.dX && Nat.beq off 0 with
         | false =>
           rw [hw] at hz; simp only [cond_false] at hz
           cases hm : A.md with
           | ho _ => rw [hm] at hz; simp [N.val, Md.DN] at hz
           | sh =>
             rw [hm] at hz; simp only [Md.DN, cond_false] at hz; have eX := (bn.sh hm).1 eX
             cases wF : A.xs[i]? with
             | none => simp [wF, N.val] at hz
             | some x0 =>
               simp only [wF] at hz; change (match jT A.r x0 off v.cells with | some y => N.done (bo st a' j (some (A.put (A.xs.set i y)))) | none => N.fail).val = some aP at hz
               cases hp : jT A.r x0 off v.cells with
               | none => simp [hp, N.val] at hz
               | some y =>
                 simp only [hp, N.val, Option.some.injEq] at hz; subst hz; have Ge := oJ.1; have R2 : off + uv.cells.toList.length ≤ A.r.width := by
                   rw [← Ge]; exact sC A.r x0 off v.cells hp (by intro e; rw [e] at Ge; simp at Ge; simp at hlen; omega)
                 refine ⟨_, lC hT hn w b (o + i * A.r.width + off) uv hlen Dh hg (by omega), c, ?_⟩; exact h.xV Bq Br eY gz hg (by rw [List.size_toArray, fX (by simp at R2 ⊢; omega)]; simp) (by simp)
                   (bn.M4 hm (xX ho hg eX wF R2 EY (fun vs xY => Bu A.r x0 off v.cells y vs _ (by rw [cF.length A.r vs x0 xY]; exact R2) hp oJ xY)))
           | dp =>
             rw [hm] at hz; simp only [Md.DN, cond_false] at hz; unfold bn at eX; rw [hm] at eX; obtain ⟨gg, J3, eX⟩ := eX
             cases wF : A.xs[i]? with
             | none => simp [wF, N.val] at hz
             | some x0 =>
               simp only [wF] at hz; change (match jT A.r x0 off v.cells with | some y => N.done (bo st a' j (some (A.put (A.xs.set i y)))) | none => N.fail).val = some aP at hz
               cases hp : jT A.r x0 off v.cells with
               | none => simp [hp, N.val] at hz
               | some y =>
                 simp only [hp, N.val, Option.some.injEq] at hz; subst hz; have Ge := oJ.1; have R2 : off + uv.cells.toList.length ≤ A.r.width := by
                   rw [← Ge]; exact sC A.r x0 off v.cells hp (by intro e; rw [e] at Ge; simp at Ge; simp at hlen; omega)
                 refine ⟨_, lC hT hn w b (o + i * A.r.width + off) uv hlen Dh hg (by omega), c, ?_⟩; refine h.xV Bq Br eY gz hg (by rw [List.size_toArray, fX (by simp at R2 ⊢; omega)]; simp) (by simp) ?_; unfold bn; show match A.md with | .sh => _ | .dp => _ | .ho _ => _
                 rw [hm]; refine ⟨gg, J3, fun i' x' qu => ?_⟩; obtain ⟨vs, q1, q2⟩ := wo hg (Q := fun i vs x => du w (fun p k => c.own k = some (.sp a' j) ∧ gg k = p) A.r [i] 0 vs x) (fun i x hx => by
                   obtain ⟨vs, q1, q2⟩ := (jc _ _ _ _ _ _).1 (eX i x hx); exact ⟨vs, q1, du.length _ _ _ _ _ q2, q2⟩) wF R2 EY (fun vs xK xY => BA A.r [i] 0 x0 off v.cells y vs _ (by rw [xK]; exact R2) hp oJ xY) i' x' qu
                 refine (jc _ _ _ _ _ _).2 ⟨vs, q1, du.go _ [i'] [i'] (fun q k hk => ⟨setRow_other w b k _ ?_, hk⟩) 0 vs x' q2⟩
                 rintro rfl
                 rw [J3] at hk; simp at hk
         | true =>
           rw [hw] at hz; simp only [cond_true] at hz; rw [Bool.and_eq_true, Bool.and_eq_true] at hw; have hnW := Nat.eq_of_beq_eq_true hw.1.1; have aae := Nat.eq_of_beq_eq_true hw.2; subst aae; have DT : uv.cells.toList.length = A.r.width := by rw [hlen, hnW]
           have Wt : ∀ vs : List Value, vs.length = A.r.width → bE vs 0 uv.cells.toList = uv.cells.toList := by
             intro vs xK; unfold bE; rw [List.drop_eq_nil_of_le (by omega)]; simp
           cases hm : A.md with
           | ho q0 =>
             rw [hm] at hz; simp only at hz
             cases R3 : gl st A.r v.cells with
             | none => rw [R3] at hz; simp [N.val] at hz
             | some pq =>
               obtain ⟨x1, m⟩ := pq; rw [R3] at hz; simp only at hz; obtain ⟨PF, h1⟩ := dD hz; clear hz; rw [Bool.and_eq_true] at PF; have Ij := l8 PF.1; have ME : (a', j) ∉ dM m := by
                 intro x4; have := List.all_eq_true.1 PF.2 _ x4; simp at this
               obtain ⟨hiq, R4⟩ : Nat.beq i q0 = true ∧ (N.row A.r A.xs[i]? (fun _ => N.done (bo (gv st (dM m)) a' j (some { A.put (A.xs.set i x1) with md := .dp })))).val = some aP := by
                 cases hb : Nat.beq i q0 with
                 | true => rw [hb] at h1; exact ⟨rfl, h1⟩
                 | false => rw [hb] at h1; cases h1
               have hiq := Nat.eq_of_beq_eq_true hiq; clear h1; have h1 := R4; clear R4; subst hiq
               cases wF : A.xs[i]? with
               | none => simp [wF, N.val] at h1
               | some x0 =>
                 simp only [wF] at h1; change some _ = some aP at h1; obtain rfl := Option.some.inj h1; obtain ⟨PG, hmo, G, hG⟩ := x3 h A.r v.cells _ oJ R3; unfold bn at eX; rw [hm] at eX; obtain ⟨gg, J3, eX⟩ := eX eY; obtain ⟨xM, mL, ZB, _, _⟩ := kj (dM m) h; have hR := xM.iv mL a' j; obtain ⟨QY, g1, g2⟩ := ZB a' j sl A ME Bq Br; have M6 : ∀ n ∈ dM m, Lb.sp a' j ≠ .sp n.1 n.2 := by
                   intro n hn e; injection e with e1 e2; exact ME (by rw [show (a', j) = n from Prod.ext e1 e2]; exact hn)
                 obtain ⟨g', p1, p2⟩ := zk (c := c) Ij G gg [i] (.sp a' j) M6; have M7 : ∀ k, c.own k = some (.sp a' j) → (c.iv (dM m) (.sp a' j)).own k = some (.sp a' j) := by
                   intro k hk; rw [Cz.mK (fun n hn e => by rw [hk] at e; exact M6 n hn (Option.some.inj e))]; exact hk
                 refine ⟨_, lC hT hn w b (o + i * A.r.width + 0) uv hlen Dh hg (by omega), c.iv (dM m) (.sp a' j), ?_⟩; refine hR.DS (A := A) (ys := A.xs.set i x1) (md' := .dp) g1 g2 eY gz hg (by rw [List.size_toArray, fX (by simp at DT ⊢; omega)]; simp) (by simp) ?_; unfold bn; show ∃ g, _; refine ⟨g', by rw [p1 b ho]; exact J3, fun i' x' qu => ?_⟩; have R5 : ∀ q k, g' k = [i'] ++ q → k ≠ b := by
                   rintro q k hk rfl
                   rw [p1 k ho, J3] at hk; simp at hk
                 obtain ⟨vs, q1, q2⟩ := De hg (Q := fun i vs x => du w (fun p k => (c.iv (dM m) (.sp a' j)).own k = some (.sp a' j) ∧ g' k = p) A.r [i] 0 vs x) (fun i x fE hx => by
                   obtain ⟨vs, q1, q2⟩ := (jc _ _ _ _ _ _).1 (eX i x fE hx); exact ⟨vs, q1, du.length _ _ _ _ _ q2, du.go _ [i] [i] (fun q k hk => ⟨rfl, M7 k hk.1, by rw [p1 k hk.1]; exact hk.2⟩) 0 vs x q2⟩) wF DT EY (by
                     refine hG _ [i] 0 fun col n k hc hk => ⟨Cz.l7 (jY hc) hk, ?_⟩
                     rw [p2 col n k hc hk, Nat.zero_add]) i' x' qu
                 exact (jc _ _ _ _ _ _).2 ⟨vs, q1, du.go _ [i'] [i'] (fun q k hk => ⟨setRow_other w b k _ (R5 q k hk.2), hk⟩) 0 vs x' q2⟩
           | sh =>
             rw [hm] at hz; simp only at hz; have eX := (bn.sh hm).1 eX; obtain ⟨x1, m, h1, h2, h3⟩ := xT h A.r v.cells _ oJ _ hz; obtain ⟨PF, h1⟩ := dD h1
             cases wF : A.xs[i]? with
             | none => simp [wF, N.val] at h1
             | some x0 =>
               simp only [wF] at h1; change some _ = some aP at h1; obtain rfl := Option.some.inj h1; have ME : (a', j) ∉ m := by
                 intro x4; have := List.all_eq_true.1 PF _ x4; simp at this
               have hf := h.freeze m; obtain ⟨QY, g1, g2⟩ := Bx m Bq Br ME; have R6 : (c.drop m).lc a' j = .at b o cap := by rw [(Cz.J1 m c).1]; exact gz
               have ho' : (c.drop m).own b = some (.sp a' j) := Cz.DR m c b ho (fun p hp => by
                 intro e; injection e with e1 e2; exact ME (by rw [e1, e2]; exact hp))
               have M8 : ∀ (i : Nat) x, A.xs[i]? = some x → cq w (c.drop m).ok A.r b (o + i * A.r.width) x := fun i x hx =>
                 cq.stays (Fw.freeze w m c st).stays _ _ _ x rfl (eX i x hx)
               have Ik : cF w (c.drop m).ok A.r uv.cells.toList x1 := h3 _ (fun k hk => Cz.xS m c k hk) (fun p hp k hk => Cz.A7 m c k hk hp); refine ⟨_, lC hT hn w b (o + i * A.r.width + 0) uv hlen Dh hg (by omega), c.drop m, ?_⟩; refine hf.xV g1 g2 eY R6 hg (by rw [List.size_toArray, fX (by simp at DT ⊢; omega)]; simp) (by simp) (bn.M4 hm ?_); refine xX ho' hg M8 wF (k := 0) (by omega) EY (fun vs xY => ?_); rw [Wt vs (cF.length A.r vs x0 xY)]; exact Ik
           | dp =>
             rw [hm] at hz; simp only at hz
             cases R3 : gl st A.r v.cells with
             | none => rw [R3] at hz; simp [N.val] at hz
             | some pq =>
               obtain ⟨x1, m⟩ := pq; rw [R3] at hz; simp only at hz; obtain ⟨PF, h1⟩ := dD hz; clear hz; rw [Bool.and_eq_true] at PF; have Ij := l8 PF.1; have ME : (a', j) ∉ dM m := by
                 intro x4; have := List.all_eq_true.1 PF.2 _ x4; simp at this
               cases wF : A.xs[i]? with
               | none => simp [wF, N.val] at h1
               | some x0 =>
                 simp only [wF] at h1; change some _ = some aP at h1; obtain rfl := Option.some.inj h1; obtain ⟨PG, hmo, G, hG⟩ := x3 h A.r v.cells _ oJ R3; unfold bn at eX; rw [hm] at eX; obtain ⟨gg, J3, eX⟩ := eX; obtain ⟨xM, mL, ZB, _, _⟩ := kj (dM m) h; have hR := xM.iv mL a' j; obtain ⟨QY, g1, g2⟩ := ZB a' j sl A ME Bq Br; have M6 : ∀ n ∈ dM m, Lb.sp a' j ≠ .sp n.1 n.2 := by
                   intro n hn e; injection e with e1 e2; exact ME (by rw [show (a', j) = n from Prod.ext e1 e2]; exact hn)
                 obtain ⟨g', p1, p2⟩ := zk (c := c) Ij G gg [i] (.sp a' j) M6; have M7 : ∀ k, c.own k = some (.sp a' j) → (c.iv (dM m) (.sp a' j)).own k = some (.sp a' j) := by
                   intro k hk; rw [Cz.mK (fun n hn e => by rw [hk] at e; exact M6 n hn (Option.some.inj e))]; exact hk
                 refine ⟨_, lC hT hn w b (o + i * A.r.width + 0) uv hlen Dh hg (by omega), c.iv (dM m) (.sp a' j), ?_⟩; refine hR.xV g1 g2 eY gz hg (by rw [List.size_toArray, fX (by simp at DT ⊢; omega)]; simp) (by simp) ?_; unfold bn; show match A.md with | .sh => _ | .dp => _ | .ho _ => _
                 rw [hm]; refine ⟨g', by rw [p1 b ho]; exact J3, fun i' x' qu => ?_⟩; have R5 : ∀ q k, g' k = [i'] ++ q → k ≠ b := by
                   rintro q k hk rfl
                   rw [p1 k ho, J3] at hk; simp at hk
                 obtain ⟨vs, q1, q2⟩ := wo hg (Q := fun i vs x => du w (fun p k => (c.iv (dM m) (.sp a' j)).own k = some (.sp a' j) ∧ g' k = p) A.r [i] 0 vs x) (fun i x hx => by
                   obtain ⟨vs, q1, q2⟩ := (jc _ _ _ _ _ _).1 (eX i x hx); exact ⟨vs, q1, du.length _ _ _ _ _ q2, du.go _ [i] [i] (fun q k hk => ⟨rfl, M7 k hk.1, by rw [p1 k hk.1]; exact hk.2⟩) 0 vs x q2⟩) wF (k := 0) (us := uv.cells.toList) (by omega) EY (fun vs xK _ => by
                     rw [Wt vs xK]; refine hG _ [i] 0 fun col n k hc hk => ⟨Cz.l7 (jY hc) hk, ?_⟩
                     rw [p2 col n k hc hk, Nat.zero_add]) i' x' qu
                 exact (jc _ _ _ _ _ _).2 ⟨vs, q1, du.go _ [i'] [i'] (fun q k hk => ⟨setRow_other w b k _ (R5 q k hk.2), hk⟩) 0 vs x' q2⟩
end Go.TM
namespace Go.TM
open Go Go.RowKit
theorem Fw.heap {c : Cz} {st : St} {w w' : World} (hh : w'.heap = w.heap) : Fw c st w c st w' where
 stays := ⟨by rw [hh]; exact Nat.le_refl _, fun b _ _ => by rw [hh], fun _ _ h => h⟩
 refs _ _ _ A' _ h := ⟨A', h, rfl, rfl, rfl, fun _ => ⟨rfl, fun _ _ _ _ => by rw [hh]⟩⟩
 AR _ _ lV _ h := ⟨⟨lV, h⟩, rfl⟩
 gA _ := Nat.le_refl _
 gB _ := Nat.le_refl _
 gE _ := Nat.le_refl _
theorem Rel.heap {w0 : World} {mu : Mu} {c : Cz} {st : St} {a : Act} {w w' : World} (h : Rel w0 mu c st a w) (hh : w'.heap = w.heap) (ho : w'.os = w.os ∧ w'.tape = w.tape ∧ w'.output = w.output) :
   Rel w0 mu c st a w' where
 eL t := (Fw.heap hh).lO (h.eL t)
 boxes s sl cs hs hb := (h.boxes s sl cs hs hb).go (Fw.heap hh) rfl rfl (by rw [hh])
 aJ s j sl A hs hA := (h.aJ s j sl A hs hA).go (Fw.heap (c := c) (st := st) hh).stays rfl (fun b _ => ⟨by rw [hh], rfl⟩)
 owned b l hb := by rw [hh]; exact h.owned b l hb
 free := h.free
 kept := ⟨ho.1.trans h.kept.1, ho.2.1.trans h.kept.2.1, ho.2.2.trans h.kept.2.2.1, by rw [hh]; exact h.kept.2.2.2⟩
 old k hk hm := by rw [hh]; exact h.old k hk hm
 dR p hp := (Fw.heap hh).dR (h.dR p hp)
 plain := h.plain
theorem Rel.drew {w0 : World} {mu : Mu} {c : Cz} {st : St} {a : Act} {w : World} (h : Rel w0 mu c st a w) : Rel w0 mu c st a w.drew := h.heap rfl ⟨rfl, rfl, rfl⟩
theorem iu.length : (r : RT) → (vs : List Value) → iu r vs → vs.length = r.width
 | .nil, vs, h => by simp only [iu] at h; subst h; rfl
 | .cons (.int _) r, vs, ⟨l, h, h'⟩ => by subst h; simp [RT.width, iu.length r l h']
 | .cons .bool r, vs, ⟨l, h, h'⟩ => by subst h; simp [RT.width, iu.length r l h']
 | .cons .str r, vs, ⟨l, h, h'⟩ => by subst h; simp [RT.width, iu.length r l h']
 | .cons (.sl _) r, vs, ⟨l, h, h'⟩ => by subst h; simp [RT.width, iu.length r l h']
theorem VO.cells {w : World} {ok : Nat → Prop} {r : RT} {u : Value} {ys : List (aq r)} (h : VO w ok r u ys) :
   (ys = [] ∧ (u = .slice none 0 0 ∨ ∃ a c, u = .slice (some a) 0 c)) ∨
   (ys ≠ [] ∧ ∃ a c vs, u = .slice (some a) ys.length c ∧ aW w ok r vs ys ∧ ∀ (j : Nat) v, vs[j]? = some v → w.cell? (a.add j) = some v) := by
 rcases h with ⟨rfl, rfl⟩ | ⟨a, c, rfl, hs, hr⟩
 · exact .inl ⟨rfl, .inl rfl⟩
 · by_cases e : ys = []
   · subst e; exact .inl ⟨rfl, .inr ⟨a, c, rfl⟩⟩
   · obtain ⟨vs, h1, h2⟩ := jX a.block a.off ys hr; refine .inr ⟨e, a, c, vs, rfl, h2, fun j v hv => ?_⟩; have : a = ⟨a.block, a.off, none⟩ := by have := hs e; cases a; simp at this ⊢; exact this
     rw [this, Addr.add_mid]; exact h1 j v hv
theorem wH {P : Program} {T : kh} (hT : fG P T) {w : World} {t ty : Nat} {r : RT} {bytes : Nat} (ht : T.elem t = some (r, bytes)) {ux uy : Value} {nx ny : Nat} {vx vy : List Value} {xb : Option Nat}
   (hb : (nx + ny) * bytes ≤ lim) (HX : vx.length = nx * r.width) (FY : vy.length = ny * r.width) (oy : ∀ u ∈ vy, u.oneCell' = true)
   (hy : (ny = 0 ∧ (uy = .slice none 0 0 ∨ ∃ a c, uy = .slice (some a) 0 c)) ∨ (ny ≠ 0 ∧ ∃ a c, uy = .slice (some a) ny c ∧ ∀ (j : Nat) v, vy[j]? = some v → w.cell? (a.add j) = some v))
   (hx : (xb = none ∧ ux = .slice none 0 0 ∧ nx = 0) ∨ ∃ b off lo cap n ad cur te, xb = some b ∧ ux = .slice (some ad) nx n ∧ nx ≤ n ∧ lo + n ≤ cap ∧ (n ≠ 0 → ad = ⟨b, off + lo * r.width, none⟩) ∧
     w.heap[b]? = some (.cells cur te (0, 0)) ∧ off + cap * r.width ≤ cur.size ∧ w.rangeAt b (off + lo * r.width) vx) :
   ∃ v w', (Builtin.append_ #[t, t] ty #[ux, uy]).run P w = .ok v w' ∧ (w'.os = w.os ∧ w'.tape = w.tape ∧ w'.output = w.output ∧ w.heap.size ≤ w'.heap.size) ∧
     ((nx = 0 ∧ ny = 0 ∧ w' = w ∧ v = .slice none 0 0) ∨ ∃ B o cp cur te, v.oneCell' = true ∧ iB (.at B o cp) r.width 0 (nx + ny) v ∧ nx + ny ≤ cp ∧ w'.heap[B]? = some (.cells cur te (0, 0)) ∧ o + cp * r.width ≤ cur.size ∧
       w'.rangeAt B o (vx ++ vy) ∧ (∀ k, k < w.heap.size → k ≠ B → w'.heap[k]? = w.heap[k]?) ∧ (w.heap.size ≤ B ∨ xb = some B)) := by
 obtain ⟨e, i, z, hu, hi, ki, BB, Wu, J4, hz, HY⟩ := hT.elem t r bytes ht; have Gf : z.cells.size = r.width := by have := iu.length r _ HY; simpa using this
 have EZ : (nx + ny) * bytes ≤ 140737488355328 := by unfold lim at hb; omega
 have afy : nx + ny ≤ 140737488355328 := by
   have : (nx + ny) * 1 ≤ (nx + ny) * bytes := Nat.mul_le_mul_left _ J4; omega
 have grown : ∀ (old : Nat) (run : (Builtin.append_ #[t, t] ty #[ux, uy]).run P w = .ok (.slice (some ⟨w.heap.size, 0, none⟩) (nx + ny) (grownCap w (nx + ny) old e)) (w.drew.alloc (.cells (vx.toArray ++ vy.toArray ++ Builtin.zeroCells z.cells (grownCap w (nx + ny) old e - (nx + ny))) e (0, 0)))),
     ∃ v w', (Builtin.append_ #[t, t] ty #[ux, uy]).run P w = .ok v w' ∧ (w'.os = w.os ∧ w'.tape = w.tape ∧ w'.output = w.output ∧ w.heap.size ≤ w'.heap.size) ∧
     ((nx = 0 ∧ ny = 0 ∧ w' = w ∧ v = .slice none 0 0) ∨ ∃ B o cp cur te, v.oneCell' = true ∧ iB (.at B o cp) r.width 0 (nx + ny) v ∧ nx + ny ≤ cp ∧ w'.heap[B]? = some (.cells cur te (0, 0)) ∧ o + cp * r.width ≤ cur.size ∧
       w'.rangeAt B o (vx ++ vy) ∧ (∀ k, k < w.heap.size → k ≠ B → w'.heap[k]? = w.heap[k]?) ∧ (w.heap.size ≤ B ∨ xb = some B)) := by
   intro old run; have hge := grownCap_ge w (nx + ny) old e; have hmul : grownCap w (nx + ny) old e * r.width = (nx + ny) * r.width + (grownCap w (nx + ny) old e - (nx + ny)) * r.width := by
     rw [← Nat.add_mul]; congr 1; omega
   have uA := heap_alloc_new w.drew (.cells (vx.toArray ++ vy.toArray ++ Builtin.zeroCells z.cells (grownCap w (nx + ny) old e - (nx + ny))) e (0, 0)); refine ⟨_, _, run, ⟨rfl, rfl, rfl, by simp⟩, .inr ⟨w.heap.size, 0, grownCap w (nx + ny) old e, _, e, rfl, ⟨_, _, rfl, hge, by omega, fun _ => by simp⟩, hge, uA, ?_, ?_, fun k hk _ => heap_alloc_old w.drew _ k hk, .inl (Nat.le_refl _)⟩⟩
   · rw [Array.size_append, Array.size_append, List.size_toArray, List.size_toArray, size_zeroCells, Gf, HX, FY, hmul, Nat.add_mul]; omega
   · intro q v hv; rw [show w.heap.size = w.drew.heap.size from rfl, cell_of_row _ _ _ _ e (0, 0) uA, Nat.zero_add]; have hq : q < (vx ++ vy).length := (List.getElem?_eq_some_iff.1 hv).1; have e1 : (vx.toArray ++ vy.toArray ++ Builtin.zeroCells z.cells (grownCap w (nx + ny) old e - (nx + ny))).toList =
         (vx ++ vy) ++ (Builtin.zeroCells z.cells (grownCap w (nx + ny) old e - (nx + ny))).toList := by simp
     rw [← Array.getElem?_toList, e1, List.getElem?_append_left hq]; exact hv
 rcases hy with ⟨rfl, ZC⟩ | ⟨R7, ay, cy, rfl, Wv⟩
 · -- nothing is put behind
   have aag : vy = [] := by simpa using FY
   subst aag; rcases hx with ⟨_, rfl, rfl⟩ | ⟨b, off, lo, cap, n, ad, cur, te, KX, rfl, hle, xR, FZ, hg, R8, hr⟩
   · exact ⟨_, w, run_append_nothing hu hi w none 0 0 (Nat.le_refl _) uy ZC, ⟨rfl, rfl, rfl, Nat.le_refl _⟩, .inl ⟨rfl, rfl, rfl, rfl⟩⟩
   · refine ⟨_, w, run_append_nothing hu hi w (some ad) nx n hle uy ZC, ⟨rfl, rfl, rfl, Nat.le_refl _⟩, .inr ⟨b, off + lo * r.width, n, cur, te, rfl, ⟨ad, n, rfl, hle, by omega, fun hn => by rw [FZ hn]; simp⟩, hle, hg, ?_, by simpa using hr, fun _ _ _ => rfl, .inr KX⟩⟩; have : (lo + n) * r.width ≤ cap * r.width := Nat.mul_le_mul_right _ xR; rw [Nat.add_mul] at this; omega
 · have hyl : 0 < ny := Nat.pos_of_ne_zero R7; rcases hx with ⟨_, rfl, rfl⟩ | ⟨b, off, lo, cap, n, ad, cur, te, KX, rfl, hle, xR, FZ, hg, R8, ZD⟩
   · have aah : vx = [] := by simpa using HX
     subst aah; have hr := run_append_nil (P := P) w t ty e i z hu hi hz ay ny cy vy (by rw [FY, ki]) Wv hyl (by omega) (by rw [Wu]; simp at EZ; omega); refine grown 0 ?_; simpa using hr
   · by_cases rJ : nx + ny ≤ n
     · -- it ag3 ag4 H3 room ML there is
       have Pn : n ≠ 0 := by omega
       rw [FZ Pn]; have EY : off + lo * r.width + n * r.width ≤ cur.size := by
         have : (lo + n) * r.width ≤ cap * r.width := Nat.mul_le_mul_right _ xR; rw [Nat.add_mul] at this; omega
       have pG : off + lo * r.width + nx * r.width + vy.length ≤ cur.size := by
         have : (nx + ny) * r.width ≤ n * r.width := Nat.mul_le_mul_right _ rJ; rw [Nat.add_mul] at this; omega
       have hr := Dg (P := P) (ty := ty) hu hi w b (off + lo * r.width) nx n cur te hg ay ny cy vy (by rw [FY, ki]) Wv oy rJ (by rw [ki]; exact pG); rw [ki] at hr; have PD := setRow_heap w b cur (bE cur.toList (off + lo * r.width + nx * r.width) vy).toArray te (0, 0) hg; have qy : ∀ k, k ≠ b → (w.setRow b (bE cur.toList (off + lo * r.width + nx * r.width) vy).toArray).heap[k]? = w.heap[k]? := fun k hk => setRow_other w _ k _ hk
       refine ⟨_, _, hr, ⟨rfl, rfl, rfl, by simp [World.setRow]⟩, .inr ⟨b, off + lo * r.width, n, _, te, rfl, ⟨_, n, rfl, rJ, by omega, fun _ => by simp⟩, rJ, PD, ?_, ?_, fun k _ hk => qy k hk, .inr KX⟩⟩
       · rw [List.size_toArray, fX (by simpa using pG)]; simpa using EY
       · intro q v hv; rw [cell_of_row _ _ _ _ te (0, 0) PD]; simp only [List.getElem?_toArray]; rw [jW (by simpa using pG)]; rw [List.getElem?_append] at hv
         by_cases hq : q < vx.length
         · rw [if_pos hq] at hv; rw [if_neg (by omega)]; have := ZD q v hv; rw [cell_of_row w b _ cur te (0, 0) hg] at this; simpa using this
         · rw [if_neg hq] at hv; have Il : q - vx.length < vy.length := (List.getElem?_eq_some_iff.1 hv).1; rw [if_pos (by omega), show off + lo * r.width + q - (off + lo * r.width + nx * r.width) = q - vx.length by omega]; exact hv
     · -- it Wi
       have hr := run_append_grow (P := P) w t ty e i z hu hi hz ad nx n vx (by rw [HX, ki]) (fun q v hv => by
           have hq : q < vx.length := (List.getElem?_eq_some_iff.1 hv).1; have Pn : n ≠ 0 := by
             intro e0; have : nx = 0 := by omega
             rw [this] at HX; simp at HX; rw [HX] at hq; simp at hq
           rw [FZ Pn, Addr.add_mid]; exact ZD q v hv)
         ay ny cy vy (by rw [FY, ki]) Wv (by omega) (by omega) (growslice_fits (by omega) (by rw [Wu]; exact EZ))
       exact grown n hr
theorem DU {P : Program} {T : kh} (hT : fG P T) {w0 : World} {mu : Mu} {c : Cz} {zi : St} {a : Act} {w : World} (h1 : Rel w0 mu c zi a w)
   {t ty : Nat} {r : RT} {bytes : Nat} (ht : T.elem t = some (r, bytes)) {ux uy : Value} {xs ys : List (aq r)} {d : Nat} {s0 : Sl} (gW : nth zi d = some s0) (hd : d < a.tmps.size)
   (hb : (xs.length + ys.length) * bytes ≤ lim) (hy : VO w c.ok r uy ys)
   (hx : (ux = .slice none 0 0 ∧ xs = []) ∨ ∃ s j b off lo cap n ad, c.own b = some (.sp s j) ∧ (∀ sl A, nth zi s = some sl → nth sl.aJ j ≠ some (some A)) ∧
     ux = .slice (some ad) xs.length n ∧ xs.length ≤ n ∧ lo + n ≤ cap ∧ (n ≠ 0 → ad = ⟨b, off + lo * r.width, none⟩) ∧
     (∃ cur ty, w.heap[b]? = some (.cells cur ty (0, 0)) ∧ off + cap * r.width ≤ cur.size) ∧ ∀ (i : Nat) x, xs[i]? = some x → cq w c.ok r b (off + (lo + i) * r.width) x) :
   ∃ v w', (Builtin.append_ #[t, t] ty #[ux, uy]).run P w = .ok v w' ∧
     ∃ c', Rel w0 mu c' (lN (fun s => { s with v := .one (.ref d 0 (s0.ag + 1) .full), aJ := [some { r := r, own := true, xs := xs ++ ys }], ag := s0.ag + 1 }) zi d) (a.put (some d) v) w' := by
 obtain ⟨vy, FY, Po⟩ : ∃ vy, aW w c.ok r vy ys ∧ ((ys.length = 0 ∧ (uy = .slice none 0 0 ∨ ∃ a c, uy = .slice (some a) 0 c)) ∨ (ys.length ≠ 0 ∧ ∃ a c, uy = .slice (some a) ys.length c ∧ ∀ (j : Nat) v, vy[j]? = some v → w.cell? (a.add j) = some v)) := by
   rcases hy.cells with ⟨rfl, ZC⟩ | ⟨R7, ay, cy, vy, rfl, FY, Wv⟩
   · exact ⟨[], rfl, .inl ⟨rfl, ZC⟩⟩
   · exact ⟨vy, FY, .inr ⟨fun h => R7 (List.length_eq_zero_iff.1 h), ay, cy, rfl, Wv⟩⟩
 obtain ⟨vx, xb, HX, KX, qu⟩ : ∃ (vx : List Value) (xb : Option Nat), aW w c.ok r vx xs ∧ (∀ b, xb = some b → ∃ s j, c.own b = some (.sp s j) ∧ ∀ sl A, nth zi s = some sl → nth sl.aJ j ≠ some (some A)) ∧
     ((xb = none ∧ ux = .slice none 0 0 ∧ xs.length = 0) ∨ ∃ b off lo cap n ad cur te, xb = some b ∧ ux = .slice (some ad) xs.length n ∧ xs.length ≤ n ∧ lo + n ≤ cap ∧ (n ≠ 0 → ad = ⟨b, off + lo * r.width, none⟩) ∧
     w.heap[b]? = some (.cells cur te (0, 0)) ∧ off + cap * r.width ≤ cur.size ∧ w.rangeAt b (off + lo * r.width) vx) := by
   rcases hx with ⟨rfl, rfl⟩ | ⟨s, j, b, off, lo, cap, n, ad, eY, M9, rfl, hle, xR, FZ, ⟨cur, te, hg, R8⟩, eX⟩
   · exact ⟨[], none, rfl, (fun _ e => by cases e), .inl ⟨rfl, rfl, rfl⟩⟩
   · obtain ⟨vx, ZD, HX⟩ := jX b (off + lo * r.width) xs (fun i x hx => by
       have := eX i x hx; rw [Nat.add_mul] at this; rw [show off + lo * r.width + i * r.width = off + (lo * r.width + i * r.width) by omega]; exact this)
     exact ⟨vx, some b, HX, fun b' e => by cases e; exact ⟨s, j, eY, M9⟩, .inr ⟨b, off, lo, cap, n, ad, cur, te, rfl, rfl, hle, xR, FZ, hg, R8, ZD⟩⟩
 obtain ⟨v, w', ns, ri, BC⟩ := wH hT (ty := ty) ht hb (aW.length vx xs HX) (aW.length vy ys FY) (aW.jS vy ys FY) Po qu; refine ⟨v, w', ns, ?_⟩; rcases BC with ⟨e1, e2, rfl, rfl⟩ | ⟨B, o, cp, cur, te, v1, v2, hle, hg, ki, hr, qy, hB⟩
 · have : xs = [] := List.length_eq_zero_iff.1 e1; subst this; have : ys = [] := List.length_eq_zero_iff.1 e2; subst this; refine ⟨c.bp d .nil none, h1.place (B := w'.heap.size) (A := { r := r, own := true, xs := [] ++ [] }) gW hd rfl ?_ (fun k _ => by simp [Cz.bp]) (.inr ⟨by simp [Cz.bp], rfl⟩) (.inl (Nat.le_refl _)) ?_ (fun _ _ _ => rfl) ⟨rfl, rfl, rfl, Nat.le_refl _⟩ ?_ rfl ?_⟩
   · intro s j fE; simp [Cz.bp, fE]
   · intro hc; simp [Cz.bp] at hc; have := h1.mJ hc; omega
   · unfold bM; simp [Cz.bp]
   · simp [Cz.bp, iB]
 · have Na : B < w'.heap.size := (Array.getElem?_eq_some_iff.1 hg).1; have J5 : w.heap.size ≤ B ∨ ∃ s j, c.own B = some (.sp s j) ∧ (s = d ∨ ∀ sl A, nth zi s = some sl → nth sl.aJ j ≠ some (some A)) := by
     rcases hB with hB | hB
     · exact .inl hB
     · obtain ⟨s, j, q1, q2⟩ := KX B hB; exact .inr ⟨s, j, q1, .inr q2⟩
   have RX : ∀ k, k < w.heap.size → c.ok k → k ≠ B := by
     rintro k hk fF rfl
     rcases J5 with hB | ⟨s, j, hB, _⟩
     · omega
     · unfold Cz.ok at fF; rw [hB] at fF; cases fF
   have po : ir w w' c.ok (c.bp d (.at B o cp) (some B)).ok := ⟨ri.2.2.2, fun k hk fF => qy k hk (RX k hk fF), fun k hk fF => by
     unfold Cz.ok Cz.bp; simp only; rw [if_neg]
     · exact fF
     · intro e'; exact RX k hk fF (Option.some.inj e').symm⟩
   refine ⟨c.bp d (.at B o cp) (some B), h1.place (B := B) (A := { r := r, own := true, xs := xs ++ ys }) gW hd rfl ?_ ?_ (.inl (by simp [Cz.bp])) J5 (fun _ => Na) qy ri ?_ v1 ?_⟩
   · intro s j fE; simp [Cz.bp, fE]
   · intro k hk; simp only [Cz.bp]; rw [if_neg (by intro e'; exact hk (Option.some.inj e').symm)]
   · unfold bM; simp only [Cz.bp, and_self, if_true]; refine ⟨trivial, by simpa using hle, ⟨cur, te, hg, ki⟩, (bn.sh rfl).2 ?_⟩; exact qQ _ (vx ++ vy) (xs ++ ys) (aW.append vx vy xs ys (aW.stays po _ _ HX) (aW.stays po _ _ FY)) hr
   · simp only [Cz.bp, and_self, if_true, List.length_append]; exact v2
def cR (w : World) (P : List Nat → Nat → Prop) (r : RT) : (i : Nat) → List Value → List (aq r) → Prop
 | _, vs, [] => vs = []
 | i, vs, x :: xs => ∃ l1 l2, vs = l1 ++ l2 ∧ du w P r [i] 0 l1 x ∧ cR w P r (i + 1) l2 xs
theorem cR.length {w : World} {P : List Nat → Nat → Prop} {r : RT} : (i : Nat) → (vs : List Value) → (xs : List (aq r)) → cR w P r i vs xs → vs.length = xs.length * r.width
 | _, vs, [], h => by simp only [cR] at h; subst h; simp
 | i, vs, x :: xs, h => by
   obtain ⟨l1, l2, rfl, h1, h2⟩ := h; have a1 := du.length r [i] 0 l1 x h1; have a2 := cR.length (i + 1) l2 xs h2; simp [a1, a2, Nat.add_mul]; omega
theorem cR.append {w : World} {P : List Nat → Nat → Prop} {r : RT} : (i : Nat) → (vs us : List Value) → (xs ys : List (aq r)) → cR w P r i vs xs → cR w P r (i + xs.length) us ys → cR w P r i (vs ++ us) (xs ++ ys)
 | i, vs, us, [], ys, h, k => by simp only [cR] at h; subst h; simpa using k
 | i, vs, us, x :: xs, ys, ⟨l1, l2, e, h1, h2⟩, k => ⟨l1, l2 ++ us, by rw [e, List.append_assoc], h1, cR.append (i + 1) l2 us xs ys h2 (by rw [show i + 1 + xs.length = i + (x :: xs).length by simp; omega]; exact k)⟩
theorem cR.go {w w' : World} {P P' : List Nat → Nat → Prop} {r : RT} (sh : Nat) (hP : ∀ i q b, P ([i] ++ q) b → w'.heap[b]? = w.heap[b]? ∧ P' ([i + sh] ++ q) b) : (i : Nat) → (vs : List Value) → (xs : List (aq r)) → cR w P r i vs xs → cR w' P' r (i + sh) vs xs
 | _, _, [], h => h
 | i, vs, x :: xs, ⟨l1, l2, e, h1, h2⟩ => ⟨l1, l2, e, du.go r [i] [i + sh] (fun q b hb => hP i q b hb) 0 l1 x h1, by rw [show i + sh + 1 = i + 1 + sh by omega]; exact cR.go sh hP (i + 1) l2 xs h2⟩
theorem dt.one {w : World} {P : List Nat → Nat → Prop} {t : Ty} {p : List Nat} {v : Value} {x : den t} (h : dt w P t p v x) : v.oneCell' = true := by
 cases t with
 | int k => rw [wD.1 h]; rfl
 | bool => rw [sw.1 h]; rfl
 | str => rw [wE.1 h]; rfl
 | sl r => obtain ⟨lc, _, h1, _⟩ := (uu w P r p v x).1 h; exact h1
theorem du.one {w : World} {P : List Nat → Nat → Prop} : (r : RT) → (p : List Nat) → (k : Nat) → (vs : List Value) → (x : aq r) → du w P r p k vs x → ∀ v ∈ vs, v.oneCell' = true
 | .nil, _, _, vs, _, h, v, hv => by simp only [du] at h; subst h; simp at hv
 | .cons t r, p, k, vs, x, ⟨u, l, e, hx, hr⟩, v, hv => by
   subst e; rcases List.mem_cons.1 hv with rfl | hv
   · exact hx.one
   · exact du.one r p (k + 1) l x.2 hr v hv
theorem cR.jS {w : World} {P : List Nat → Nat → Prop} {r : RT} : (i : Nat) → (vs : List Value) → (xs : List (aq r)) → cR w P r i vs xs → ∀ v ∈ vs, v.oneCell' = true
 | _, vs, [], h, v, hv => by simp only [cR] at h; subst h; simp at hv
 | i, vs, x :: xs, ⟨l1, l2, e, h1, h2⟩, v, hv => by
   subst e; rcases List.mem_append.1 hv with hv | hv
   · exact du.one r _ _ l1 x h1 v hv
   · exact cR.jS (i + 1) l2 xs h2 v hv
theorem Ab {w : World} {P : List Nat → Nat → Prop} {r : RT} (b : Nat) : (off i0 : Nat) → (xs : List (aq r)) → (∀ (i : Nat) x, xs[i]? = some x → fM w P r [i0 + i] 0 b (off + i * r.width) x) →
   ∃ vs, w.rangeAt b off vs ∧ cR w P r i0 vs xs
 | _, _, [], _ => ⟨[], fun j v h => by simp at h, rfl⟩
 | off, i0, x :: xs, h => by
   obtain ⟨l1, h1, h2⟩ := (jc r [i0] 0 b off x).1 (by have := h 0 x rfl; simpa using this); obtain ⟨l2, h3, h4⟩ := Ab b (off + r.width) (i0 + 1) xs (fun i y hy => by
     have := h (i + 1) y (by simpa using hy); rw [Nat.add_mul, Nat.one_mul] at this; rw [show off + r.width + i * r.width = off + (i * r.width + r.width) by omega, show i0 + 1 + i = i0 + (i + 1) by omega]; exact this)
   have hl := du.length r _ _ l1 x h2; refine ⟨l1 ++ l2, fun j v hv => ?_, l1, l2, rfl, h2, h4⟩; rw [List.getElem?_append] at hv
   by_cases hj : j < l1.length
   · rw [if_pos hj] at hv; exact h1 j v hv
   · rw [if_neg hj] at hv; have := h3 _ v hv; rw [show off + r.width + (j - l1.length) = off + j by omega] at this; exact this
theorem uB {w : World} {P : List Nat → Nat → Prop} {r : RT} {b : Nat} : (off i0 : Nat) → (vs : List Value) → (xs : List (aq r)) → cR w P r i0 vs xs → w.rangeAt b off vs →
   ∀ (i : Nat) x, xs[i]? = some x → fM w P r [i0 + i] 0 b (off + i * r.width) x
 | _, _, _, [], _, _, i, x, h => by simp at h
 | off, i0, vs, y :: xs, ⟨l1, l2, e, h1, h2⟩, hr, i, x, h => by
   subst e; have hl := du.length r _ _ l1 y h1
   cases i with
   | zero =>
     simp at h; subst h; rw [jc]; refine ⟨l1, fun j v hv => ?_, by simpa using h1⟩; have hj : j < l1.length := (List.getElem?_eq_some_iff.1 hv).1; have := hr j v (by rw [List.getElem?_append, if_pos hj]; exact hv); simpa using this
   | succ i =>
     have := uB (off + r.width) (i0 + 1) l2 xs h2 (fun j v hv => by
       have := hr (l1.length + j) v (by rw [List.getElem?_append, if_neg (by omega)]; simpa using hv); rw [show off + r.width + j = off + (l1.length + j) by omega]; exact this) i x (by simpa using h)
     rw [Nat.add_mul, Nat.one_mul]; rw [show off + (i * r.width + r.width) = off + r.width + i * r.width by omega, show i0 + (i + 1) = i0 + 1 + i by omega]; exact this
theorem Rel.E0 {w0 : World} {mu : Mu} {c : Cz} {st : St} {a : Act} {w : World} (h : Rel w0 mu c st a w) {d : Nat} {s0 : Sl} {r : RT} {xs : List (aq r)} {cur : Array Value} {ty cap : Nat} {P : List Nat → Nat → Prop} {g : Nat → List Nat}
   (gW : nth st d = some s0) (hd : d < a.tmps.size) (hle : xs.length ≤ cap) (ki : cap * r.width ≤ cur.size) {vs : List Value} (xY : cR w P r 0 vs xs) (hP : ∀ i q k, P ([i] ++ q) k → c.own k = some (.sp d 0) ∧ g k = [i] ++ q) (R0 : cur.toList.take vs.length = vs) :
   ∃ c', Rel w0 mu c' (lN (fun s => { s with v := .one (.ref d 0 (s0.ag + 1) .full), aJ := [some { r := r, own := true, xs := xs, md := .dp }], ag := s0.ag + 1 }) st d)
     (a.put (some d) (.slice (some ⟨w.heap.size, 0, none⟩) xs.length cap)) (w.alloc (.cells cur ty (0, 0))) := by
 have uA := heap_alloc_new w (.cells cur ty (0, 0)); refine ⟨c.bp d (.at w.heap.size 0 cap) (some w.heap.size), h.place (B := w.heap.size) (A := { r := r, own := true, xs := xs, md := .dp }) gW hd rfl ?_ ?_ (.inl ?_) (.inl (Nat.le_refl _)) (fun _ => by simp) (fun k hk _ => heap_alloc_old w _ k hk)
   ⟨rfl, rfl, rfl, by simp⟩ ?_ rfl ?_⟩
 · intro s j fE; simp [Cz.bp, fE]
 · intro k hk; simp only [Cz.bp]; rw [if_neg (by intro e; exact hk (Option.some.inj e).symm)]
 · simp [Cz.bp]
 · unfold bM; simp only [Cz.bp, and_self, if_true]; refine ⟨trivial, hle, ⟨cur, ty, uA, by simpa using ki⟩, fun k => if k = w.heap.size then [] else g k, by simp, ?_⟩; have hD := cR.go (w' := w.alloc (.cells cur ty (0, 0))) (P' := fun p k => (if some w.heap.size = some k then some (Lb.sp d 0) else c.own k) = some (.sp d 0) ∧ (if k = w.heap.size then [] else g k) = p) 0 (fun i q k hk => by
     obtain ⟨q1, q2⟩ := hP i q k hk; have bX := h.mJ q1; refine ⟨heap_alloc_old w _ k bX, ?_, by rw [if_neg (by omega)]; exact q2⟩; rw [if_neg (by intro e; have := Option.some.inj e; omega)]; exact q1) 0 vs xs xY
   have := uB 0 0 vs xs hD (fun j v hv => by
     rw [cell_of_row _ _ _ cur ty (0, 0) uA, Nat.zero_add]; have hj : j < vs.length := (List.getElem?_eq_some_iff.1 hv).1; rw [← R0, List.getElem?_take, if_pos hj] at hv; simpa using hv)
   intro i x hx; have h2 := this i x hx; rw [Nat.zero_add] at h2; exact h2
 · simp only [Cz.bp, and_self, if_true]; exact ⟨_, cap, rfl, hle, by omega, fun _ => by simp⟩
theorem uC {w : World} {P : List Nat → Nat → Prop} : (r : RT) → (p : List Nat) → (k : Nat) → (vs : List Value) → iu r vs → du w P r p k vs (rF r)
 | .nil, _, _, vs, h => h
 | .cons (.int q) r, p, k, vs, ⟨l, h, h'⟩ => ⟨.int q 0, l, h, wD.2 rfl, uC r p (k + 1) l h'⟩
 | .cons .bool r, p, k, vs, ⟨l, h, h'⟩ => ⟨.bool false, l, h, sw.2 rfl, uC r p (k + 1) l h'⟩
 | .cons .str r, p, k, vs, ⟨l, h, h'⟩ => ⟨.string ByteArray.empty, l, h, wE.2 rfl, uC r p (k + 1) l h'⟩
 | .cons (.sl q) r, p, k, vs, ⟨l, h, h'⟩ => ⟨.slice none 0 0, l, h, (uu _ _ _ _ _ _).2 ⟨.nil, ⟨rfl, rfl⟩, rfl, .inl ⟨rfl, rfl⟩⟩, uC r p (k + 1) l h'⟩
theorem cR.replicate {w : World} {P : List Nat → Nat → Prop} {r : RT} {vs : List Value} {x : aq r} (h : ∀ i, du w P r [i] 0 vs x) : (n i : Nat) → cR w P r i ((List.replicate n vs).flatten) (List.replicate n x)
 | 0, _ => rfl
 | n + 1, i => ⟨vs, (List.replicate n vs).flatten, by simp [List.replicate_succ], h i, cR.replicate h n (i + 1)⟩
theorem DV {P : Program} {T : kh} (hT : fG P T) {w0 : World} {mu : Mu} {c : Cz} {zi : St} {a : Act} {w : World} (h1 : Rel w0 mu c zi a w)
   {t ty : Nat} {r : RT} {bytes : Nat} (ht : T.elem t = some (r, bytes)) {ux uy : Value} {xs ys : List (aq r)} {vx vy : List Value} {PX PY : List Nat → Nat → Prop} {g : Nat → List Nat} {xb : Option Nat} {d : Nat} {s0 : Sl} (gW : nth zi d = some s0) (hd : d < a.tmps.size)
   (hb : (xs.length + ys.length) * bytes ≤ lim) (HX : cR w PX r 0 vx xs) (FY : cR w PY r 0 vy ys)
   (hPX : ∀ i q k, PX ([i] ++ q) k → xb ≠ some k ∧ c.own k = some (.sp d 0) ∧ g k = [i] ++ q) (hPY : ∀ i q k, PY ([i] ++ q) k → xb ≠ some k ∧ c.own k = some (.sp d 0) ∧ g k = [i + xs.length] ++ q)
   (hy : (ys.length = 0 ∧ (uy = .slice none 0 0 ∨ ∃ a c, uy = .slice (some a) 0 c)) ∨ (ys.length ≠ 0 ∧ ∃ a c, uy = .slice (some a) ys.length c ∧ ∀ (j : Nat) v, vy[j]? = some v → w.cell? (a.add j) = some v))
   (KX : ∀ b, xb = some b → c.own b = some (.sp d 0))
   (hx : (xb = none ∧ ux = .slice none 0 0 ∧ xs.length = 0) ∨ ∃ b off lo cap n ad cur te, xb = some b ∧ ux = .slice (some ad) xs.length n ∧ xs.length ≤ n ∧ lo + n ≤ cap ∧ (n ≠ 0 → ad = ⟨b, off + lo * r.width, none⟩) ∧
     w.heap[b]? = some (.cells cur te (0, 0)) ∧ off + cap * r.width ≤ cur.size ∧ w.rangeAt b (off + lo * r.width) vx) :
   ∃ v w', (Builtin.append_ #[t, t] ty #[ux, uy]).run P w = .ok v w' ∧
     ∃ c', Rel w0 mu c' (lN (fun s => { s with v := .one (.ref d 0 (s0.ag + 1) .full), aJ := [some { r := r, own := true, xs := xs ++ ys, md := .dp }], ag := s0.ag + 1 }) zi d) (a.put (some d) v) w' := by
 obtain ⟨v, w', ns, ri, BC⟩ := wH hT (ty := ty) ht hb (cR.length 0 vx xs HX) (cR.length 0 vy ys FY) (cR.jS 0 vy ys FY) hy hx; refine ⟨v, w', ns, ?_⟩; rcases BC with ⟨e1, e2, rfl, rfl⟩ | ⟨B, o, cp, cur, te, v1, v2, hle, hg, ki, hr, qy, hB⟩
 · have : xs = [] := List.length_eq_zero_iff.1 e1; subst this; have : ys = [] := List.length_eq_zero_iff.1 e2; subst this; refine ⟨c.bp d .nil none, h1.place (B := w'.heap.size) (A := { r := r, own := true, xs := [] ++ [], md := .dp }) gW hd rfl ?_ (fun k _ => by simp [Cz.bp]) (.inr ⟨by simp [Cz.bp], rfl⟩) (.inl (Nat.le_refl _)) ?_ (fun _ _ _ => rfl) ⟨rfl, rfl, rfl, Nat.le_refl _⟩ ?_ rfl ?_⟩
   · intro s j fE; simp [Cz.bp, fE]
   · intro hc; simp [Cz.bp] at hc; have := h1.mJ hc; omega
   · unfold bM; simp [Cz.bp]
   · simp [Cz.bp, iB]
 · have Na : B < w'.heap.size := (Array.getElem?_eq_some_iff.1 hg).1; have J5 : w.heap.size ≤ B ∨ ∃ s j, c.own B = some (.sp s j) ∧ (s = d ∨ ∀ sl A, nth zi s = some sl → nth sl.aJ j ≠ some (some A)) := by
     rcases hB with hB | hB
     · exact .inl hB
     · exact .inr ⟨d, 0, KX B hB, .inl rfl⟩
   have fE : ∀ k, c.own k = some (.sp d 0) → xb ≠ some k → k ≠ B := by
     rintro k hk hx rfl
     rcases hB with hB | hB
     · have := h1.mJ hk; omega
     · exact hx hB
   refine ⟨c.bp d (.at B o cp) (some B), h1.place (B := B) (A := { r := r, own := true, xs := xs ++ ys, md := .dp }) gW hd rfl ?_ ?_ (.inl (by simp [Cz.bp])) J5 (fun _ => Na) qy ri ?_ v1 ?_⟩
   · intro s j fE; simp [Cz.bp, fE]
   · intro k hk; simp only [Cz.bp]; rw [if_neg (by intro e'; exact hk (Option.some.inj e').symm)]
   · unfold bM; simp only [Cz.bp, and_self, if_true]; refine ⟨trivial, by simpa using hle, ⟨cur, te, hg, ki⟩, fun k => if k = B then [] else g k, by simp, ?_⟩; have go : ∀ (PP : List Nat → Nat → Prop) (sh : Nat), (∀ i q k, PP ([i] ++ q) k → xb ≠ some k ∧ c.own k = some (.sp d 0) ∧ g k = [i + sh] ++ q) → ∀ i q k, PP ([i] ++ q) k → w'.heap[k]? = w.heap[k]? ∧
         ((if B = k then some (Lb.sp d 0) else c.own k) = some (.sp d 0) ∧ (if k = B then [] else g k) = [i + sh] ++ q) := by
       intro PP sh hPP i q k hk; obtain ⟨q1, q2, q3⟩ := hPP i q k hk; have := fE k q2 q1; refine ⟨qy k (h1.mJ q2) this, ?_, by rw [if_neg this]; exact q3⟩; rw [if_neg (fun e => this e.symm)]; exact q2
     have hD := cR.append 0 vx vy xs ys (cR.go (w' := w') (P' := fun p k => (if B = k then some (Lb.sp d 0) else c.own k) = some (.sp d 0) ∧ (if k = B then [] else g k) = p) 0 (go PX 0 (fun i q k hk => hPX i q k hk)) 0 vx xs HX) (by
       rw [Nat.zero_add]; have := cR.go (w' := w') (P' := fun p k => (if B = k then some (Lb.sp d 0) else c.own k) = some (.sp d 0) ∧ (if k = B then [] else g k) = p) xs.length (go PY xs.length hPY) 0 vy ys FY
       rwa [Nat.zero_add] at this)
     have := uB o 0 (vx ++ vy) (xs ++ ys) hD hr; intro i x hx; have h2 := this i x hx; rw [Nat.zero_add] at h2; simpa using h2
   · simp only [Cz.bp, and_self, if_true, List.length_append]; exact v2
end Go.TM
