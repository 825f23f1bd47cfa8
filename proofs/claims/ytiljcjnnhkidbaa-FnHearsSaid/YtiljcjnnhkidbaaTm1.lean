/- A machine over trees: an evaluator of the code, and that what it finds is so; part 1. -/
import GoSem.Core.Value
import GoSem.Core.Code
import GoSem.Core.Program
import GoSem.Core.View
import Derived.Below
import Derived.Laws.AppendOwn
import Derived.Laws.Cells
import Derived.Laws.Rows
import Derived.Deep.MidRow
import Derived.Laws.CopyRow
namespace Go.TM
open Go
mutual
inductive Ty where
 | int (k : IntKind)
 | bool
 | str
 | sl (r : RT)
inductive RT where
 | nil
 | cons (t : Ty) (r : RT)
end
mutual
def den : Ty → Type
 | .int _ => Int
 | .bool => Bool
 | .str => ByteArray
 | .sl r => List (ak r)
def ak : RT → Type
 | .nil => Unit
 | .cons t r => den t × ak r
end
mutual
def Ty.eq? : (a b : Ty) → Option (PLift (a = b))
 | .int k, .int l => if h : k = l then some ⟨by rw [h]⟩ else none
 | .bool, .bool => some ⟨rfl⟩
 | .str, .str => some ⟨rfl⟩
 | .sl r, .sl s => match RT.eq? r s with | some ⟨h⟩ => some ⟨by rw [h]⟩ | none => none
 | _, _ => none
def RT.eq? : (a b : RT) → Option (PLift (a = b))
 | .nil, .nil => some ⟨rfl⟩
 | .cons t r, .cons u s => match Ty.eq? t u, RT.eq? r s with
   | some ⟨h⟩, some ⟨g⟩ => some ⟨by rw [h, g]⟩
   | _, _ => none
 | _, _ => none
end
def bn {r : RT} (s : RT) (xs : List (ak r)) : Option (List (ak s)) :=
 match RT.eq? r s with
 | some ⟨h⟩ => some (h ▸ xs)
 | none => none
def RT.dB : RT → Bool
 | .nil => false
 | .cons (.sl _) _ => true
 | .cons _ r => r.dB
def RT.width : RT → Nat
 | .nil => 0
 | .cons _ r => r.width + 1
inductive View where
 | full
 | from (lo : Nat)
 | sub (lo n : Nat)
def View.app {α : Type} : View → List α → List α
 | .full, xs => xs
 | .from lo, xs => xs.drop lo
 | .sub lo n, xs => (xs.drop lo).take n
def View.lo : View → Nat
 | .full => 0
 | .from l => l
 | .sub l _ => l
def View.idx (w : View) (i : Nat) : Nat :=
 match w with
 | .full => i
 | .from l => l + i
 | .sub l _ => l + i
inductive CV where
 | bad
 | int (k : IntKind) (n : Int)
 | bool (b : Bool)
 | str (s : ByteArray)
 | di
 | F2
 | shr (r : RT) (xs : List (ak r))
 | nn (r : RT) (xs : List (ak r))  -- as 'ac9, and not nil
 | ref (a j g : Nat) (w : View)
 | ptr (b g off : Nat)
 | IJ (a j g i off : Nat)
 | j6 (r : RT) (x : ak r) (off : Nat)
 | ql (r : RT) (xs : List (ak r)) (off : Nat)  -- as 'ada, F3 row abr F3 first of a list
 | fn (g : Nat) (rs : RT) (xs : List (ak rs))    -- a function with boxes Kc SI read alone: each cell of F3 row is one abt rows
 | mW (a j g e i k : Nat) (q : RT) (ys : List (ak q))  -- F3 slice Kc a cell of a deep Xo row holds
inductive Lb where
 | box (s : Nat)
 | sp (s j : Nat)
 | out
 | bB (i j : Nat)
 | qD (i : Nat)
 | gn (j : Nat)
def Lb.same : Lb → Lb → Bool
 | .box s, .box t => Nat.beq s t
 | .sp s i, .sp t j => Nat.beq s t && Nat.beq i j
 | _, _ => false
inductive V where
 | one (c : CV)
 | agg (cs : List CV)
 | kV (vs : List V)
def V.cells : V → List CV
 | .one c => [c]
 | .agg cs => cs
 | .kV _ => []
inductive Md where
 | sh | dp | ho (i : Nat)
 deriving DecidableEq
def Md.is : Md → Md → Bool
 | .sh, .sh => true
 | .dp, .dp => true
 | .ho i, .ho j => Nat.beq i j
 | _, _ => false
theorem Md.kh {a b : Md} : Md.is a b = true ↔ a = b := by
 cases a <;> cases b <;> simp [Md.is]
def Md.C3 : Md → Bool
 | .ho _ => true
 | _ => false
structure fK where
 r : RT
 own : Bool
 xs : List (ak r)
 md : Md := .sh
structure Sl where
 v : V
 box : Option (List CV)
 bg : Nat
 aI : List (Option fK)
 ag : Nat
 ep : Nat := 0  -- it Tx when an array of F3 slot is written, or a call is made
def Sl.none : Sl := { v := .one .bad, box := .none, bg := 0, aI := [], ag := 0 }
abbrev St := List Sl
def nth {α : Type} : List α → Nat → Option α
 | [], _ => none
 | x :: _, 0 => some x
 | _ :: l, n + 1 => nth l n
def kP {α : Type} (f : α → α) : List α → Nat → List α
 | [], _ => []
 | x :: l, 0 => f x :: l
 | x :: l, n + 1 => x :: kP f l n
def bI (st : St) (t : Nat) : V :=
 match nth st t with
 | some s => s.v
 | none => .one .bad
def aT (st : St) (d : Option Nat) (v : V) : St :=
 match d with
 | some t => kP (fun s => { s with v := v }) st t
 | none => st
def aQ (st : St) (a j g : Nat) : Option fK :=
 match nth st a with
 | some s => bif Nat.beq s.ag g then (match nth s.aI j with | some (some A) => some A | _ => none) else none
 | none => none
def bf (st : St) (a j : Nat) (A : Option fK) : St :=
 kP (fun s => { s with aI := kP (fun _ => A) s.aI j, ep := s.ep + 1 }) st a
def kU (st : St) (a : Nat) : Nat := match nth st a with | some s => s.ep | none => 0
def cX (st : St) (b g : Nat) : Option (List CV) :=
 match nth st b with
 | some s => bif Nat.beq s.bg g then s.box else none
 | none => none
inductive N where
 | done (st : St)
 | fail
 | br (b : Bool) (t e : N)
 | row (r : RT) (o : Option (ak r)) (k : ak r → N)
def N.val : N → Option St
 | .done st => some st
 | .fail => none
 | .br b t e => bif b then t.val else e.val
 | .row _ o k => match o with | some x => (k x).val | none => none
def N.fold {R : Type} : N → (St → Option R) → Option R
 | .done st, k => k st
 | .fail, _ => none
 | .br b t e, k => bif b then t.fold k else e.fold k
 | .row _ o f, k => match o with | some x => (f x).fold k | none => none
theorem N.fold_eq {R : Type} (n : N) (k : St → Option R) : n.fold k = n.val.bind k := by
 induction n with
 | done st => rfl
 | fail => rfl
 | br b t e iht ihe => cases b <;> simp [N.fold, N.val, iht, ihe]
 | row r o f ih => cases o <;> simp [N.fold, N.val, ih]
def F4 : (t : Ty) → den t
 | .int _ => (0 : Int)
 | .bool => false
 | .str => ByteArray.empty
 | .sl _ => ([] : List _)
def qE : (r : RT) → ak r
 | .nil => ()
 | .cons t r => (F4 t, qE r)
def F6 : (t : Ty) → den t → CV
 | .int k, n => .int k n
 | .bool, b => .bool b
 | .str, s => .str s
 | .sl r, xs => .shr r xs
def dm : (r : RT) → ak r → List CV
 | .nil, _ => []
 | .cons t r, x => F6 t x.1 :: dm r x.2
def X4 (a j g e i k : Nat) : (t : Ty) → den t → CV
 | .int k, n => .int k n
 | .bool, b => .bool b
 | .str, s => .str s
 | .sl r, xs => .mW a j g e i k r xs
def nW (a j g e i : Nat) : (k : Nat) → (r : RT) → ak r → List CV
 | _, .nil, _ => []
 | k, .cons t r, x => X4 a j g e i k t x.1 :: nW a j g e i (k + 1) r x.2
def nR : (r : RT) → ak r → Nat → Option ((q : RT) × List (ak q))
 | .nil, _, _ => none
 | .cons (.sl q) _, x, 0 => some ⟨q, x.1⟩
 | .cons _ _, _, 0 => none
 | .cons _ r, x, k + 1 => nR r x.2 k
def kW : (r : RT) → ak r → Nat → (q : RT) → List (ak q) → Option (ak r)
 | .nil, _, _, _, _ => none
 | .cons (.sl q) _, x, 0, p, ys => (bn q ys).map fun zs => (zs, x.2)
 | .cons _ _, _, 0, _, _ => none
 | .cons _ r, x, k + 1, p, ys => (kW r x.2 k p ys).map fun z => (x.1, z)
def jP (st : St) (r : RT) (c : CV) (k : List (ak r) → N) : N :=
 match c with
 | .shr _ xs => match bn r xs with | some ys => k ys | none => .fail
 | .nn _ xs => match bn r xs with | some ys => k ys | none => .fail
 | .di => k []
 | .ref a j g w => match aQ st a j g with
   | some A => (match A.md with | .sh => (match bn r A.xs with | some ys => k (w.app ys) | none => .fail) | _ => .fail)
   | none => .fail
 | _ => .fail
structure jb where
 cells : Nat → Option Nat          -- how many cells a value of F3 type abu
 agg : Nat → Bool                  -- is it a struct
 off : Nat → Nat → Option Nat      -- a Ke field: X5 first cell
 Tz : Nat → Nat → Option Nat      -- and how many it has
 row : Nat → Option RT             -- F3 rf types
 elem : Nat → Option (RT × Nat)    -- a slice: X5 SJ cells, and F3 bytes of one
 kV : Nat → Option (List Nat)     -- a Xp types
 kind : Nat → Option Ty            -- a type of one cell
 one : Nat → Nat → Bool            -- a Ke field Kc is no struct X6
 eq : Nat → Bool                   -- a struct of numbers, abv and strings, TA by '=='
 dp : Nat → Bool := fun _ => false -- a slice ON abw dB SI X5 own, where adg may be
 cap : Nat → Bool := fun _ => false -- a OO box Kc is read alone
inductive OV where
 | int (k : IntKind) (n : Int)
 | bool (b : Bool)
 | str (s : ByteArray)
 | own (A : fK)
 | shr (r : RT) (xs : List (ak r))
 | di
 | j6 (r : RT) (xs : List (ak r))
 | fn (g : Nat) (rs : RT) (xs : List (ak rs))
inductive AV where
 | val (agg : Bool) (os : List OV)  -- a value: X5 Kf SI F3 TB from now on
 | io (A : fK)                     -- an array, C4: F3 callee may write it
 | box (os : List OV)               -- a struct behind a pointer, C4
 | bo (os : List OV)              -- a struct ON Kf SI C4
inductive RV where
 | one (o : OV)
 | agg (os : List OV)
 | ptr (os : List OV)  -- a new struct, behind a pointer
inductive XV where
 | io (A : fK)
 | box (cs : List OV)
 | bo (As : List (Option fK))
structure Xq where
 outs : List RV
 exts : List XV
structure Ans where
 r : RT
 o : Option (ak r)
 res : ak r → Xq
abbrev td := List AV → Option Ans
inductive Pm where
 | shr | own | io | bo
 | pick (l : List Nat)  -- a struct behind a pointer, some of ON Kf SI read alone from then on
abbrev hU := FuncId → Option (Pm × Pm × Pm × td)   -- F3 first three OQ ways; aby ju SI shared
def aU (b g : Nat) : (j : Nat) → List OV → List CV
 | _, [] => []
 | j, .int k n :: l => .int k n :: aU b g (j + 1) l
 | j, .bool x :: l => .bool x :: aU b g (j + 1) l
 | j, .str s :: l => .str s :: aU b g (j + 1) l
 | j, .own _ :: l => .ref b j g .full :: aU b g (j + 1) l
 | j, .shr r xs :: l => .shr r xs :: aU b g (j + 1) l
 | j, .di :: l => .di :: aU b g (j + 1) l
 | j, .j6 r xs :: l => .ql r xs 0 :: aU b g (j + 1) l
 | j, .fn f rs xs :: l => .fn f rs xs :: aU b g (j + 1) l
def OV.arr : OV → Option fK
 | .own A => some A
 | _ => none
def aV : List OV → List (Option fK)
 | [] => []
 | o :: l => o.arr :: aV l
def RV.tc : RV → List OV
 | .one o => [o]
 | .agg os => os
 | .ptr os => .di :: os
def Kg (d g j : Nat) : RV → V
 | .one o => match aU d g j [o] with | [c] => .one c | _ => .one .bad
 | .agg os => .agg (aU d g j os)
 | .ptr _ => .one .bad
def iS (d g : Nat) : (j : Nat) → List RV → List V
 | _, [] => []
 | j, r :: l => Kg d g j r :: iS d g (j + r.tc.length) l
def tf (st : St) (d : Option Nat) (outs : List RV) : Option St :=
 match d with
 | some d => match nth st d with
   | some s =>
     let g := s.ag + 1
     match outs with
     | [.ptr os] => some (kP (fun s => { s with v := .one (.ptr d (s.bg + 1) 0), box := some (aU d (s.ag + 1) 1 os), bg := s.bg + 1, aI := none :: aV os, ag := s.ag + 1 }) st d)
     | outs =>
       let v : V := match iS d g 0 outs with | [v] => v | vs => .kV vs
       some (kP (fun s => { s with v := v, aI := aV (outs.flatMap RV.tc), ag := g }) st d)
   | none => none
 | none => match outs with
   | [] => some st
   | _ => none
def jQ (st : St) : Operand → V
 | .tmp t => bI st t
 | .const (.int k n) => .one (.int k n)
 | .const (.bool b) => .one (.bool b)
 | .const (.string s) => .one (.str s)
 | .const (.slice none 0 0) => .one .di
 | .const (.pointer none) => .one .F2
 | _ => .one .bad
def Kh (op : BinOp) (a b : Int) : Option Bool :=
 match op with
 | .lss => some (decide (a < b))
 | .leq => some (decide (a ≤ b))
 | .gtr => some (decide (b < a))
 | .geq => some (decide (b ≤ a))
 | .eql => some (decide (a = b))
 | .neq => some (!decide (a = b))
 | _ => none
def zP (op : BinOp) (k : IntKind) (a b : Int) : Option Int :=
 match op with
 | .add => some (k.wrap (a + b))
 | .sub => some (k.wrap (a - b))
 | .mul => some (k.wrap (a * b))
 | .and => some (k.wrap ((BitVec.ofInt k.bits a &&& BitVec.ofInt k.bits b).toNat : Int))
 | .or => some (k.wrap ((BitVec.ofInt k.bits a ||| BitVec.ofInt k.bits b).toNat : Int))
 | .xor => some (k.wrap ((BitVec.ofInt k.bits a ^^^ BitVec.ofInt k.bits b).toNat : Int))
 | _ => none
def Ki (op : BinOp) (k : IntKind) (a b : Int) : Option Int :=
 match op with
 | .quo => some (k.wrap (a.tdiv b))
 | .rem => some (a.tmod b)
 | _ => none
def zQ (op : BinOp) (k : IntKind) (a : Int) (n : Nat) : Option Int :=
 match op with
 | .shl => some (k.wrap (a * 2 ^ (min n k.bits)))
 | .shr => some (a.fdiv (2 ^ (min n k.bits)))
 | _ => none
def oJ (a b : ByteArray) : Bool := a.toList == b.toList
def rh : CV → CV → Option Bool
 | .int k a, .int l b => if k = l then some (decide (a = b)) else none
 | .bool a, .bool b => some (a == b)
 | .str a, .str b => some (oJ a b)
 | _, _ => none
def kX : List CV → List CV → Option Bool
 | [], [] => some true
 | a :: l, b :: m => match rh a b, kX l m with
   | some x, some y => some (x && y)
   | _, _ => none
 | _, _ => none
def C5 (s : ByteArray) (i : Int) : Int := match s[i.toNat]? with | some b => (b.toNat : Int) | none => 0
def eT : (r : RT) → ak r → Nat → CV → Option (ak r)
 | .cons (.int k) _, x, 0, .int l n => if k = l then some (n, x.2) else none
 | .cons .bool _, x, 0, .bool b => some (b, x.2)
 | .cons .str _, x, 0, .str s => some (s, x.2)
 | .cons _ r, x, n + 1, c => (eT r x.2 n c).map fun z => (x.1, z)
 | _, _, _, _ => none
def rowOf (st : St) : (r : RT) → List CV → (k : ak r → List (Nat × Nat) → N) → N
 | .nil, [], k => k () []
 | .cons (.int q) r, .int l n :: cs, k => if q = l then rowOf st r cs (fun x m => k (n, x) m) else .fail
 | .cons .bool r, .bool b :: cs, k => rowOf st r cs (fun x m => k (b, x) m)
 | .cons .str r, .str s :: cs, k => rowOf st r cs (fun x m => k (s, x) m)
 | .cons (.sl q) r, c :: cs, k =>
   match c with
   | .di => rowOf st r cs (fun x m => k (([] : List _), x) m)
   | .ref a j g w => match aQ st a j g with
     | some A => (match A.md with
       | .ho _ => .fail
       | _ => (match bn q A.xs with
         | some ys => rowOf st r cs (fun x m => k (w.app ys, x) ((a, j) :: m))
         | none => .fail))
     | none => .fail
   | .shr _ ys => match bn q ys with
     | some zs => rowOf st r cs (fun x m => k (zs, x) m)
     | none => .fail
   | _ => .fail
 | _, _, _ => .fail
def Md.fz : Md → Md
 | .dp => .sh
 | m => m
def fK.fz (A : fK) : fK := { A with own := false, md := A.md.fz }
def freeze (st : St) : List (Nat × Nat) → St
 | [] => st
 | (a, j) :: l => freeze (kP (fun s => { s with aI := kP (fun A => A.map fK.fz) s.aI j, ep := s.ep + 1 }) st a) l
def fF (st : St) : (r : RT) → List CV → Option (ak r × List (Option (Nat × Nat)))
 | .nil, [] => some ((), [])
 | .cons (.int q) r, .int l n :: cs => if q = l then (match fF st r cs with | some p => some ((n, p.1), none :: p.2) | none => none) else none
 | .cons .bool r, .bool b :: cs => match fF st r cs with | some p => some ((b, p.1), none :: p.2) | none => none
 | .cons .str r, .str s :: cs => match fF st r cs with | some p => some ((s, p.1), none :: p.2) | none => none
 | .cons (.sl q) r, c :: cs =>
   match c with
   | .di => match fF st r cs with | some p => some ((([] : List _), p.1), none :: p.2) | none => none
   | .ref a j g .full => match aQ st a j g with
     | some A => bif A.own && A.md.is (bif q.dB then .dp else .sh) then (match bn q A.xs with
       | some ys => (match fF st r cs with | some p => some ((ys, p.1), some (a, j) :: p.2) | none => none)
       | none => none) else none
     | none => none
   | _ => none
 | _, _ => none
def dj : List (Option (Nat × Nat)) → List (Nat × Nat)
 | [] => []
 | some p :: l => p :: dj l
 | none :: l => dj l
def fL (st : St) : List (Nat × Nat) → St
 | [] => st
 | (a, j) :: l => fL (bf st a j none) l
def distinct : List (Nat × Nat) → Bool
 | [] => true
 | (a, j) :: l => l.all (fun p => !(Nat.beq p.1 a && Nat.beq p.2 j)) && distinct l
def lim : Nat := 35184372088832
def oK : RT → List CV → Bool
 | .nil, [] => true
 | .cons (.int k) r, .int l _ :: cs => decide (k = l) && oK r cs
 | .cons .bool r, .bool _ :: cs => oK r cs
 | .cons .str r, .str _ :: cs => oK r cs
 | _, _ => false
def jb.fits (T : jb) (t : Nat) (l : List CV) : Bool := match T.row t with | some r => oK r l | none => false
def sY (T : jb) (st : St) (d : Option Nat) (op : BinOp) (t : Nat) (x y : V) : N :=
 match x, y with
 | .one (.int k a), .one (.int l b) =>
   match op with
   | .shl | .shr => match zQ op k a b.toNat with
     | some n => .br (decide (0 ≤ b)) (.done (aT st d (.one (.int k n)))) .fail
     | none => .fail
   | _ => if k = l then (match Kh op a b with
     | some t => .done (aT st d (.one (.bool t)))
     | none => match zP op k a b with
       | some n => .done (aT st d (.one (.int k n)))
       | none => match Ki op k a b with
         | some n => .br (decide (b = 0)) .fail (.done (aT st d (.one (.int k n))))
         | none => .fail) else .fail
 | .one (.str a), .one (.str b) =>
   match op with
   | .add => .br (Nat.ble (a.size + b.size) lim) (.done (aT st d (.one (.str (a ++ b))))) .fail
   | .eql => .done (aT st d (.one (.bool (oJ a b))))
   | .neq => .done (aT st d (.one (.bool (!oJ a b))))
   | _ => .fail
 | .one (.bool a), .one (.bool b) =>
   match op, T.kind t with
   | .eql, some .bool => .done (aT st d (.one (.bool (a == b))))
   | .neq, some .bool => .done (aT st d (.one (.bool (!(a == b)))))
   | _, _ => .fail
 | .one .di, .one .di =>
   match op, T.elem t with
   | .eql, some _ => .done (aT st d (.one (.bool true)))
   | .neq, some _ => .done (aT st d (.one (.bool false)))
   | _, _ => .fail
 | .one (.nn _ _), .one .di =>
   match op, T.elem t with
   | .eql, some _ => .done (aT st d (.one (.bool false)))
   | .neq, some _ => .done (aT st d (.one (.bool true)))
   | _, _ => .fail
 | .agg l, .agg m =>
   bif T.eq t && T.fits t l then (match op, kX l m with
   | .eql, some t => .done (aT st d (.one (.bool t)))
   | .neq, some t => .done (aT st d (.one (.bool (!t))))
   | _, _ => .fail) else .fail
 | _, _ => .fail
def CV.qF : CV → Bool
 | .bad => false
 | _ => true
def V.qF : V → Bool
 | .one c => c.qF
 | .agg cs => cs.all CV.qF
 | .kV _ => false
def bj (st : St) (d : Option Nat) (A : fK) : N :=
 match d with
 | some d => match nth st d with
   | some s0 => .done (kP (fun s => { s with v := .one (.ref d 0 (s0.ag + 1) .full), aI := [some A], ag := s0.ag + 1 }) st d)
   | none => .fail
 | none => .fail
def gp (st : St) (d : Option Nat) (cs : List CV) : N :=
 match d with
 | some d => match nth st d with
   | some s0 => .done (kP (fun s => { s with v := .one (.ptr d (s0.bg + 1) 0), box := some cs, bg := s0.bg + 1 }) st d)
   | none => .fail
 | none => .fail
def lV (r : RT) : List CV := (dm r (qE r)).map fun | .shr _ _ => .di | c => c
def ei (n off : Nat) (cs : List CV) : Option (List CV) :=
 let l := (cs.drop off).take n
 bif Nat.beq l.length n then some l else none
def putCells (cs : List CV) (off : Nat) (l : List CV) : Option (List CV) :=
 bif Nat.ble (off + l.length) cs.length then some (cs.take off ++ l ++ cs.drop (off + l.length)) else none
def Kj (T : jb) (t : Nat) (l : List CV) : V := bif T.agg t then .agg l else (match l with | [c] => .one c | _ => .one .bad)
def sM (T : jb) (st : St) (d : Option Nat) (t : Nat) (a : V) : N :=
 match a, T.cells t with
 | .one (.ptr b g off), some n => match cX st b g with
   | some cs => match ei n off cs with
     | some l => .done (aT st d (Kj T t l))
     | none => .fail
   | none => .fail
 | .one (.j6 r x off), some n => match ei n off (dm r x) with
   | some l => .done (aT st d (Kj T t l))
   | none => .fail
 | .one (.ql r xs off), some n => .row r xs[0]? fun x => match ei n off (dm r x) with
   | some l => .done (aT st d (Kj T t l))
   | none => .fail
 | .one (.IJ a j g i off), some n => match aQ st a j g with
   | some A => (match A.md with
     | .sh => .row A.r A.xs[i]? fun x => match ei n off (dm A.r x) with
       | some l => .done (aT st d (Kj T t l))
       | none => .fail
     | .dp => .row A.r A.xs[i]? fun x => match ei n off (nW a j g (kU st a) i 0 A.r x) with
       | some l => .done (aT st d (Kj T t l))
       | none => .fail
     | .ho _ => .fail)
   | none => .fail
 | _, _ => .fail
def jc (r : RT) (x : ak r) : (off : Nat) → List CV → Option (ak r)
 | _, [] => some x
 | off, c :: l => match jc r x (off + 1) l with
   | some y => eT r y off c
   | none => none
def fK.put (A : fK) (ys : List (ak A.r)) : fK := { A with xs := ys }
def qm (T : jb) (st : St) (t : Nat) (a v : V) : N :=
 match a, T.cells t with
 | .one (.ptr b g off), some n => match cX st b g with
   | some cs => bif v.qF && Nat.beq v.cells.length n then (match putCells cs off v.cells with
     | some l => .done (kP (fun s => { s with box := some l }) st b)
     | none => .fail) else .fail
   | none => .fail
 | .one (.IJ a j g i off), some n => match aQ st a j g with
   | some A => bif v.qF && A.own && Nat.beq v.cells.length n && Nat.blt 0 n then
       (bif Nat.beq n A.r.width && A.r.dB && Nat.beq off 0 then
         (match A.md with
         | .sh => rowOf st A.r v.cells fun x m => bif m.all (fun p => !(Nat.beq p.1 a && Nat.beq p.2 j)) then
           .row A.r A.xs[i]? (fun _ => .done (bf (freeze st m) a j (some (A.put (A.xs.set i x))))) else .fail
         | .dp => (match fF st A.r v.cells with
           | some p => bif distinct (dj p.2) && (dj p.2).all (fun p => !(Nat.beq p.1 a && Nat.beq p.2 j)) then
             .row A.r A.xs[i]? (fun _ => .done (bf (fL st (dj p.2)) a j (some (A.put (A.xs.set i p.1))))) else .fail
           | none => .fail)
         | .ho q => (match fF st A.r v.cells with
           | some p => bif distinct (dj p.2) && (dj p.2).all (fun p => !(Nat.beq p.1 a && Nat.beq p.2 j)) then
             .br (Nat.beq i q) (.row A.r A.xs[i]? (fun _ => .done (bf (fL st (dj p.2)) a j (some { A.put (A.xs.set i p.1) with md := .dp })))) .fail else .fail
           | none => .fail))
       else bif A.md.C3 then .fail else .row A.r A.xs[i]? fun x => match jc A.r x off v.cells with
         | some y => .done (bf st a j (some (A.put (A.xs.set i y))))
         | none => .fail) else .fail
   | none => .fail
 | _, _ => .fail
def mX (T : jb) (st : St) (d : Option Nat) (t : Nat) (x ix : V) : N :=
 match T.elem t, x, ix with
 | some (q, _), .one (.shr r xs), .one (.int _ i) => match bn q xs with
   | some ys => .br (decide (0 ≤ i)) (.row q ys[i.toNat]? fun y => .done (aT st d (.one (.j6 q y 0)))) .fail
   | none => .fail
 | some (q, _), .one (.ref a j g w), .one (.int _ i) => match aQ st a j g with
   | some A => match bn q A.xs with
     | some ys => (match A.own with
       | false => bif !A.md.is .sh then .fail else .br (decide (0 ≤ i)) (.row q (w.app ys)[i.toNat]? fun y => .done (aT st d (.one (.j6 q y 0)))) .fail
       | true => .br (decide (0 ≤ i)) (.br (Nat.blt i.toNat (w.app ys).length) (.done (aT st d (.one (.IJ a j g (w.idx i.toNat) 0)))) .fail) .fail)
     | none => .fail
   | none => .fail
 | _, _, _ => .fail
def lW (n : Nat) (lo hi : Option V) (k : Option Nat → Option Nat → N) : N :=
 let F8 (l : Option Nat) : N := match hi with
   | none => k l none
   | some (.one (.int _ h)) => .br (decide ((match l with | some l => (l : Int) | none => 0) ≤ h)) (.br (decide (h ≤ n)) (k l (some h.toNat)) .fail) .fail
   | _ => .fail
 match lo with
 | none => F8 none
 | some (.one (.int _ l)) => .br (decide (0 ≤ l)) (match hi with
   | none => .br (decide (l ≤ n)) (F8 (some l.toNat)) .fail
   | _ => F8 (some l.toNat)) .fail
 | _ => .fail
def F9 (n : Nat) : Option Nat → Option Nat → View
 | none, none => .full
 | some l, none => .from l
 | none, some h => .sub 0 h
 | some l, some h => .sub l (h - l)
def View.of (w : View) (n : Nat) (lo hi : Option Nat) : View :=
 match lo, hi with
 | none, none => w
 | some l, none => (match w with | .full => .from l | .from a => .from (a + l) | .sub a m => .sub (a + l) (m - l))
 | none, some h => .sub w.lo h
 | some l, some h => .sub (w.lo + l) (h - l)
def ri (T : jb) (st : St) (d : Option Nat) (t : Nat) (x : V) (lo hi : Option V) : N :=
 match x with
 | .one (.str s) => match T.kind t with
   | some .str => lW s.size lo hi fun l h =>
     .done (aT st d (.one (.str (s.extract (l.getD 0) (h.getD s.size)))))
   | _ => .fail
 | .one .di => match T.elem t with
   | some _ => lW 0 lo hi fun _ _ => .done (aT st d (.one .di))
   | none => .fail
 | .one (.shr r xs) => match T.elem t with
   | some (q, _) => match bn q xs with
     | some ys => lW ys.length lo hi fun l h => .done (aT st d (.one (.shr q ((F9 ys.length l h).app ys))))
     | none => .fail
   | none => .fail
 | .one (.ref a j g w) => match T.elem t, aQ st a j g with
   | some (q, _), some A => match bn q A.xs with
     | some ys => lW (w.app ys).length lo hi fun l h => .done (aT st d (.one (.ref a j g (w.of (w.app ys).length l h))))
     | none => .fail
   | _, _ => .fail
 | _ => .fail
def C6 (T : jb) (st : St) (d : Option Nat) (t : Nat) (x : V) : N :=
 match x with
 | .one (.str s) => match T.kind t with
   | some .str => .done (aT st d (.one (.int .i64 s.size)))
   | _ => .fail
 | .one .di => match T.elem t with
   | some _ => .done (aT st d (.one (.int .i64 0)))
   | none => .fail
 | .one (.shr _ xs) => match T.elem t with
   | some _ => .done (aT st d (.one (.int .i64 xs.length)))
   | none => .fail
 | .one (.ref a j g w) => match T.elem t, aQ st a j g with
   | some _, some A => .done (aT st d (.one (.int .i64 (w.app A.xs).length)))
   | _, _ => .fail
 | _ => .fail
def Kk (st : St) : V → Option (Nat × Nat × fK)
 | .one (.ref a j g .full) => match aQ st a j g with
   | some A => bif A.own && A.md.is .dp then some (a, j, A) else none
   | none => none
 | _ => none
def zR (st : St) (d : Option Nat) (r : RT) (bytes : Nat) (x : V) (b k : Nat) (ys : List (ak r)) : N :=
 match x with
 | .one .di => .br (Nat.ble ((([] : List (ak r)).length + ys.length) * bytes) lim) (bj (fL st [(b, k)]) d { r := r, own := true, xs := [] ++ ys, md := .dp }) .fail
 | .one (.ref a j g w) => match Kk st (.one (.ref a j g w)) with
   | some (_, _, A) => (match bn r A.xs with
     | some xs => bif !(Nat.beq a b && Nat.beq j k) then .br (Nat.ble ((xs.length + ys.length) * bytes) lim) (bj (fL st [(a, j), (b, k)]) d { r := r, own := true, xs := xs ++ ys, md := .dp }) .fail else .fail
     | none => .fail)
   | none => .fail
 | _ => .fail
def zE (T : jb) (st : St) (d : Option Nat) (t : Nat) (x y : V) : N :=
 match T.elem t with
 | none => .fail
 | some (r, bytes) =>
   match Kk st y with
   | some (b, k, B) => (match bn r B.xs with | some ys => zR st d r bytes x b k ys | none => .fail)
   | none =>
   let out (xs : List (ak r)) (used : List (Nat × Nat)) : N :=
     match y with
     | .one c => jP st r c fun ys =>
         .br (Nat.ble ((xs.length + ys.length) * bytes) lim)
           (bj (used.foldl (fun s p => bf s p.1 p.2 none) st) d { r := r, own := true, xs := xs ++ ys }) .fail
     | _ => .fail
   match x with
   | .one .di => out [] []
   | .one (.ref a j g w) => match aQ st a j g with
     | some A => bif A.own && A.md.is .sh then (match bn r A.xs with | some xs => out (w.app xs) [(a, j)] | none => .fail) else .fail
     | none => .fail
   | _ => .fail
def Kl (T : jb) (st : St) (d : Option Nat) (t : Nat) (len cap : V) : N :=
 match T.elem t, len, cap with
 | some (r, bytes), .one (.int .i64 n), .one (.int .i64 c) =>
   .br (decide (n = c)) (.br (decide (0 ≤ n)) (.br (Nat.ble (n.toNat * bytes) lim)
     (bj st d { r := r, own := true, xs := List.replicate n.toNat (qE r), md := bif T.dp t then .dp else .sh }) .fail) .fail) .fail
 | _, _, _ => .fail
def uC (st : St) (r : RT) : (i : Nat) → List (Nat × V) → (k : List (ak r) → List (Nat × Nat) → N) → N
 | _, [], k => k [] []
 | i, (p, v) :: l, k => bif v.qF && Nat.beq p i then rowOf st r v.cells fun x m => uC st r (i + 1) l fun xs m' => k (x :: xs) (m ++ m') else .fail
def Ga (st : St) (r : RT) : List (Nat × V) → Option (List (ak r) × List (Option (Nat × Nat)))
 | [] => some ([], [])
 | [(p, v)] => bif v.qF && Nat.beq p 0 then (match fF st r v.cells with | some q => some ([q.1], q.2) | none => none) else none
 | _ => none
def tg (T : jb) (st : St) (d : Option Nat) (t len : Nat) (parts : List (Nat × V)) : N :=
 match T.elem t with
 | some (r, _) => bif Nat.beq parts.length len && Nat.ble (len * r.width) 16777216 then
     (match (bif T.dp t then Ga st r parts else none) with
     | some p => bif distinct (dj p.2) then bj (fL st (dj p.2)) d { r := r, own := true, xs := p.1, md := .dp } else .fail
     | none => uC st r 0 parts fun xs m => bj (freeze st m) d { r := r, own := true, xs := xs })
   else .fail
 | none => .fail
def lX (T : jb) (t : Nat) (cs : List CV) : List (Nat × V) → Option (List CV)
 | [] => some cs
 | (f, v) :: l => match T.off t f, T.Tz t f with
   | some o, some s => bif v.qF && Nat.beq v.cells.length s then (match putCells cs o v.cells with
     | some lF => lX T t lF l
     | none => none) else none
   | _, _ => none
def View.isFull : View → Bool
 | .full => true
 | _ => false
def lK (st : St) (s : Nat) : Nat := match nth st s with | some x => x.ag | none => 0
def eU (st : St) (own : Bool) : CV → Option (OV × Option Lb × List (Nat × Nat))
 | .int q n => some (.int q n, none, [])
 | .bool b => some (.bool b, none, [])
 | .str s => some (.str s, none, [])
 | .di => some (.di, none, [])
 | .shr r xs => some (.shr r xs, none, [])
 | .nn r xs => some (.shr r xs, none, [])
 | .ref a j g w => match aQ st a j g with
   | some A => bif A.md.C3 then none else bif own && A.own && (A.md.is .sh || w.isFull) then some (.own { A with xs := w.app A.xs }, some (.sp a j), []) else some (.shr A.r (w.app A.xs), none, [(a, j)])
   | none => none
 | .mW a j g e _ _ q ys => match aQ st a j g with
   | some A => bif A.md.is .dp && Nat.beq e (kU st a) then some (.shr q ys, none, [(a, j)]) else none
   | none => none
 | .j6 r x off => bif Nat.beq off 0 then some (.j6 r [x], none, []) else none
 | .ql r xs off => bif Nat.beq off 0 then some (.j6 r xs, none, []) else none
 | .fn f rs xs => some (.fn f rs xs, none, [])
 | _ => none
def ee (st : St) (own : Bool) : List CV → Option (List OV × List (Option Lb) × List (Nat × Nat))
 | [] => some ([], [], [])
 | c :: l => match eU st own c, ee st own l with
   | some (o, u, r), some (os, us, rs) => some (o :: os, u :: us, r ++ rs)
   | _, _ => none
def bt : List (Option Lb) → List Lb
 | [] => []
 | some l :: ls => l :: bt ls
 | none :: ls => bt ls
def Pm.lL : Pm → Bool
 | .own => true
 | _ => false
def Km (st : St) : CV → Bool
 | .ref a j g w => (match w with | .full => true | _ => false) && (match aQ st a j g with | some A => A.own | none => false)
 | _ => true
def dC (st : St) (m : Pm) : V → Option (AV × List Lb × List Lb × List (Nat × Nat))
 | .one (.ptr b g off) => match cX st b g with
   | some cs => (match ee st true cs with
     | some (os, u, r) => bif Nat.beq off 0 then some (.box os, .box b :: bt u, bt u, r) else none
     | none => none)
   | none => none
 | .one (.ref a j g w) => match m with
   | .io => (match w, aQ st a j g with
     | .full, some A => bif A.own && !A.md.C3 then some (.io A, [.sp a j], [], []) else none
     | _, _ => none)
   | m => match ee st m.lL [.ref a j g w] with
     | some (os, u, r) => some (.val false os, bt u, bt u, r)
     | none => none
 | .one c => match ee st false [c] with
   | some (os, u, r) => some (.val false os, bt u, bt u, r)
   | none => none
 | .agg cs => match m with
   | .bo => (match ee st true cs with
     | some (os, u, r) => bif cs.all (Km st) then some (.bo os, bt u, [], r) else none
     | none => none)
   | m => match ee st m.lL cs with
     | some (os, u, r) => some (.val true os, bt u, bt u, r)
     | none => none
 | .kV _ => none
def gq (st : St) : List (Pm × V) → Option (List AV × List Lb × List Lb × List (Nat × Nat))
 | [] => some ([], [], [], [])
 | (m, v) :: l => match dC st m v, gq st l with
   | some (a, u, q, r), some (as, us, qs, rs) => some (a :: as, u ++ us, q ++ qs, r ++ rs)
   | _, _ => none
def rj : List Lb → Bool
 | [] => true
 | x :: l => l.all (fun y => !(Lb.same x y)) && rj l
def apart (used : List Lb) (reads : List (Nat × Nat)) : Bool :=
 reads.all fun p => used.all fun q => !(Lb.same q (.sp p.1 p.2))
def mg (st : St) : List Lb → St
 | [] => st
 | .sp a j :: l => mg (bf st a j none) l
 | _ :: l => mg st l
def OV.plain : OV → Bool
 | .own A => !A.r.dB || A.md.is .dp
 | .shr _ _ => false
 | .j6 _ _ => false
 | .fn _ _ _ => false
 | _ => true
def XV.plain : XV → Bool
 | .io A => !A.r.dB || A.md.is .dp
 | .box os => os.all OV.plain
 | .bo As => As.all fun | some A => !A.r.dB || A.md.is .dp | none => true
def Xq.plain (r : Xq) : Bool :=
 r.outs.all (fun o => o.tc.all OV.plain) && r.exts.all XV.plain
def zS (st : St) : (j : Nat) → List CV → List (Option fK) → Option St
 | _, [], _ => some st
 | j, .ref a k g _ :: cs, As => match nth As j, aQ st a k g with
   | some (some B), some _ => zS (bf st a k (some B)) (j + 1) cs As
   | _, _ => none
 | j, _ :: cs, As => zS st (j + 1) cs As
def pY (st : St) (m : Pm) (v : V) (xs : List XV) : Option (St × List XV) :=
 match v with
 | .one (.ptr b g _) => match xs with
   | .box os :: xs => (match nth st b, cX st b g with
     | some s0, some _ => some (kP (fun s => { s with box := some (aU b (s0.ag + 1) 0 os), aI := aV os, ag := s0.ag + 1 }) st b, xs)
     | _, _ => none)
   | _ => none
 | .one (.ref a j g _) => match m with
   | .io => (match xs, aQ st a j g with
     | .io A :: xs, some _ => some (bf st a j (some A), xs)
     | _, _ => none)
   | _ => some (st, xs)
 | .agg cs => match m with
   | .bo => (match xs with
     | .bo As :: xs => (zS st 0 cs As).map fun aP => (aP, xs)
     | _ => none)
   | _ => some (st, xs)
 | _ => some (st, xs)
def rk (st : St) : List (Pm × V) → List XV → Option St
 | [], [] => some st
 | [], _ => none
 | (m, v) :: l, xs => match pY st m v xs with
   | some (aP, TC) => rk aP l TC
   | none => none
def sN (a b c : Pm) : List V → List (Pm × V)
 | [] => []
 | [x] => [(a, x)]
 | [x, y] => [(a, x), (b, y)]
 | x :: y :: z :: l => (a, x) :: (b, y) :: (c, z) :: l.map fun v => (.shr, v)
def refsOf : List CV → List (Nat × Nat)
 | [] => []
 | .ref a j _ _ :: l => (a, j) :: refsOf l
 | _ :: l => refsOf l
def zT (st : St) : List (Pm × V) → List (Nat × Nat)
 | [] => []
 | (.own, .one (.ptr b g _)) :: l => (match cX st b g with | some cs => refsOf cs | none => []) ++ zT st l
 | (.pick q, .one (.ptr b g _)) :: l => (match cX st b g with | some cs => refsOf (q.filterMap (nth cs)) | none => []) ++ zT st l
 | _ :: l => zT st l
def wO (st : St) : St := st.map fun s => { s with ep := s.ep + 1 }
def D9 (st : St) (d : Option Nat) (yz : td) (ms : List (Pm × V)) (fin : St → N) : N :=
   match gq st ms with
   | some (cN, used, TD, reads) => bif rj used && apart used reads then (match yz cN with
     | some A => .row A.r A.o fun x => (match rk (mg (wO (bif (A.res x).plain then st else freeze st reads)) TD) ms (A.res x).exts with
       | some aP => (match tf aP d (A.res x).outs with
         | some P7 => fin P7
         | none => .fail)
       | none => .fail)
     | none => .fail) else .fail
   | none => .fail
structure Dr where
 a : Nat
 j : Nat
 g : Nat
 e : Nat
 i : Nat
 k : Nat
 q : RT
 ys : List (ak q)
def vA : List CV → List Dr
 | [] => []
 | .mW a j g e i k q ys :: l => ⟨a, j, g, e, i, k, q, ys⟩ :: vA l
 | _ :: l => vA l
def oL : List (Pm × V) → List Dr
 | [] => []
 | (.io, .one c) :: l => vA [c] ++ oL l
 | (.bo, .agg cs) :: l => vA cs ++ oL l
 | _ :: l => oL l
def C7 : List Nat → Bool
 | [] => true
 | [_] => true
 | a :: b :: l => Nat.blt a b && C7 (b :: l)
def Dr.arr (x : Dr) : fK := { r := x.q, own := true, xs := x.ys, md := bif x.q.dB then .dp else .sh }
def j7 (st : St) (ms : List (Pm × V)) : Option (Dr × fK × List Dr) :=
 match oL ms with
 | [] => none
 | x :: l => match aQ st x.a x.j x.g with
   | some A => bif A.own && A.md.is .dp && Nat.beq x.e (kU st x.a) && l.all (fun y => Nat.beq y.a x.a && Nat.beq y.j x.j && Nat.beq y.g x.g && Nat.beq y.e x.e && Nat.beq y.i x.i) &&
       C7 ((x :: l).map (·.k)) && !Nat.beq x.a (st.length - 1) then some (x, A, x :: l) else none
   | none => none
def posOf (k : Nat) : (n : Nat) → List Dr → Nat
 | n, [] => n
 | n, x :: l => bif Nat.beq x.k k then n else posOf k (n + 1) l
def P8 (P g : Nat) (l : List Dr) : CV → CV
 | .mW _ _ _ _ _ k _ _ => .ref P (posOf k 0 l) g .full
 | c => c
def Nv (P g : Nat) (l : List Dr) : Pm × V → Pm × V
 | (.io, .one c) => (.io, .one (P8 P g l c))
 | (.bo, .agg cs) => (.bo, .agg (cs.map (P8 P g l)))
 | x => x
def dJ (st : St) (x : Dr) (A : fK) (l : List Dr) : St :=
 kP (fun s => { s with aI := l.map (fun y => some y.arr), ag := s.ag + 1, ep := s.ep + 1 }) (bf st x.a x.j (some { A with md := .ho x.i })) (st.length - 1)
def rn (st : St) (P g : Nat) (r : RT) : (n : Nat) → List Dr → ak r → Option (ak r)
 | _, [], z => some z
 | n, y :: l, z => match aQ st P n g with
   | some B => bif B.own && B.md.is (bif y.q.dB then .dp else .sh) then (match bn y.q B.xs with
     | some ys => (match kW r z y.k y.q ys with
       | some z' => rn st P g r (n + 1) l z'
       | none => none)
     | none => none) else none
   | none => none
def Gb (P g : Nat) (x : Dr) (A : fK) (l : List Dr) (st : St) : N :=
 match aQ st x.a x.j x.g with
 | some H => bif H.md.C3 then (.row A.r A.xs[x.i]? fun z => match rn st P g A.r 0 l z with
   | some z' => .done (bf (kP (fun s => { s with aI := [], ep := s.ep + 1 }) st P) x.a x.j (some (A.put (A.xs.set x.i z'))))
   | none => .fail) else .fail
 | none => .fail
def C8 (T : jb) (st : St) (d : Option Nat) (t : Nat) (x y : V) : N :=
 match j7 st [(.io, x)] with
 | none => zE T st d t x y
 | some (z, A, l) => zE T (dJ st z A l) d t (Nv (st.length - 1) (lK st (st.length - 1) + 1) l (.io, x)).2 y
def Ea (st : St) (o : Oper) : Bool :=
 match o.op with
 | .call { callee := .builtin .append, args := args, argTypes := _ } => (match args.toList with
   | x :: _ => (j7 st [(.io, jQ st x)]).isSome
   | _ => false)
 | _ => false
def OR (st : St) (d : Option Nat) (yz : td) (ms : List (Pm × V)) : N :=
 match j7 st ms with
 | none => D9 st d yz ms .done
 | some (x, A, l) => D9 (dJ st x A l) d yz (ms.map (Nv (st.length - 1) (lK st (st.length - 1) + 1) l)) (Gb (st.length - 1) (lK st (st.length - 1) + 1) x A l)
def yA (st : St) : CV → CV
 | .ref a j g .full => match aQ st a j g with
   | some A => bif A.own then .ref a j g .full else bif A.md.is .sh then .shr A.r A.xs else .ref a j g .full
   | none => .ref a j g .full
 | x => x
def Ko (st : St) : V → V
 | .one x => .one (yA st x)
 | .agg cs => .agg (cs.map (yA st))
 | x => x
def OS (st : St) (s : Sl) : Sl := { s with v := Ko st s.v, box := s.box.map fun cs => cs.map (yA st) }
def rp (st : St) : St := st.map (OS st)
def Pm.Kp : Pm → Bool
 | .pick _ => true
 | _ => false
def yB (ms : List (Pm × V)) (st : St) : St := bif ms.any (fun m => m.1.Kp) then rp st else st
def Cd (S : hU) (st : St) (d : Option Nat) (f : FuncId) (args : List V) : N :=
 match S f with
 | none => .fail
 | some (a, b, c, yz) => OR (yB (sN a b c args) (freeze st (zT st (sN a b c args)))) d yz (sN a b c args)
def dn : List CV → Option ((r : RT) × ak r)
 | [] => some ⟨.nil, ()⟩
 | .int k n :: l => match dn l with | some ⟨r, x⟩ => some ⟨.cons (.int k) r, (n, x)⟩ | none => none
 | .bool b :: l => match dn l with | some ⟨r, x⟩ => some ⟨.cons .bool r, (b, x)⟩ | none => none
 | .str s :: l => match dn l with | some ⟨r, x⟩ => some ⟨.cons .str r, (s, x)⟩ | none => none
 | .shr q xs :: l => match dn l with | some ⟨r, x⟩ => some ⟨.cons (.sl q) r, (xs, x)⟩ | none => none
 | _ => none
def eP (st : St) (b : Nat) : St := kP (fun s => { s with box := none }) st b
def Nw (st : St) (t : Nat) : Option (St × ((r : RT) × List (ak r))) :=
 match bI st t with
 | .one (.j6 r x off) => bif Nat.beq off 0 then some (st, ⟨r, [x]⟩) else none
 | .one (.ql r xs off) => bif Nat.beq off 0 then some (st, ⟨r, xs⟩) else none
 | .one (.ptr b g off) => match cX st b g with
   | some cs => bif Nat.beq off 0 then (match dn cs with
     | some ⟨r, x⟩ => some (eP st b, ⟨r, [x]⟩)
     | none => none) else none
   | none => none
 | _ => none
def vh (st : St) : List Operand → Option (St × ((rs : RT) × ak rs))
 | [] => some (st, ⟨.nil, ()⟩)
 | .tmp t :: l => match Nw st t with
   | some (aP, ⟨r, ys⟩) => (match vh aP l with
     | some (P7, ⟨rs, xs⟩) => some (P7, ⟨.cons (.sl r) rs, (ys, xs)⟩)
     | none => none)
   | none => none
 | _ => none
def sO : (rs : RT) → ak rs → List V
 | .nil, _ => []
 | .cons (.sl r) rs, x => .one (.ql r x.1 0) :: sO rs x.2
 | .cons _ rs, x => .one .bad :: sO rs x.2
def HY (y : ak (.cons (.int .u8) .nil)) : Int := y.1
def bytesOf (ys : List (ak (.cons (.int .u8) .nil))) : ByteArray := ys.foldl (fun r y => r.push (UInt8.ofNat (HY y).toNat)) ByteArray.empty
def FX (T : jb) (S : hU) (st : St) (o : Oper) : N :=
 match o.op with
 | .move x | .assign x => .done (aT st o.dst (jQ st x))
 | .pick c a b => match jQ st c with
   | .one (.bool x) => .br x (.done (aT st o.dst (jQ st a))) (.done (aT st o.dst (jQ st b)))
   | _ => .fail
 | .alloc t => match T.row t with
   | some r => gp st o.dst (lV r)
   | none => .fail
 | .box t x => match T.cells t with
   | some n => bif (jQ st x).qF && Nat.beq (jQ st x).cells.length n then (match (bif T.cap t then dn (jQ st x).cells else none) with
     | some ⟨r, y⟩ => .done (aT st o.dst (.one (.j6 r y 0)))
     | none => gp st o.dst (jQ st x).cells) else .fail
   | none => .fail
 | .build t parts => match T.row t, T.agg t with
   | some r, true => (match lX T t (lV r) (parts.toList.map fun p => (p.1, jQ st p.2)) with
     | some cs => .done (aT st o.dst (.agg cs))
     | none => .fail)
   | _, _ => .fail
 | .buildSlice t len parts => tg T st o.dst t len (parts.toList.map fun p => (p.1, jQ st p.2))
 | .load t a => sM T st o.dst t (jQ st a)
 | .store t a v => (match o.dst with
   | none => qm T st t (jQ st a) (jQ st v)
   | some _ => .fail)
 | .nilCheck x => match jQ st x with
   | .one (.ptr b g off) => (match cX st b g with
     | some _ => .done (aT st o.dst (.one (.ptr b g off)))
     | none => .fail)
   | _ => .fail
 | .binOp op t x y _ => sY T st o.dst op t (jQ st x) (jQ st y)
 | .unOp .not _ x => match jQ st x with
   | .one (.bool b) => .done (aT st o.dst (.one (.bool (!b))))
   | _ => .fail
 | .convert s t x => match T.kind s, T.kind t, jQ st x with
   | some (.int _), some (.int k), .one (.int _ n) => .done (aT st o.dst (.one (.int k (k.wrap n))))
   | some .str, some .str, .one (.str b) => .done (aT st o.dst (.one (.str b)))
   | none, some .str, .one c => (match T.elem s with
     | some (.cons (.int .u8) .nil, _) => jP st (.cons (.int .u8) .nil) c fun ys => .done (aT st o.dst (.one (.str (bytesOf ys))))
     | _ => .fail)
   | _, _, _ => .fail
 | .makeSlice t l c => Kl T st o.dst t (jQ st l) (jQ st c)
 | .slice t x lo hi none => ri T st o.dst t (jQ st x) (lo.map (jQ st)) (hi.map (jQ st))
 | .fieldAddr t x f => match jQ st x, T.off t f with
   | .one (.ptr b g off), some k => (match cX st b g with
     | some _ => .done (aT st o.dst (.one (.ptr b g (off + k))))
     | none => .fail)
   | .one (.IJ a j g i off), some k => (match aQ st a j g with
     | some _ => .done (aT st o.dst (.one (.IJ a j g i (off + k))))
     | none => .fail)
   | .one (.j6 r x off), some k => .done (aT st o.dst (.one (.j6 r x (off + k))))
   | .one (.ql r xs off), some k => .done (aT st o.dst (.one (.ql r xs (off + k))))
   | _, _ => .fail
 | .field t x f => match jQ st x, T.off t f with
   | .agg cs, some k => bif T.one t f then (match nth cs k with
     | some c => .done (aT st o.dst (.one c))
     | none => .fail) else .fail
   | _, _ => .fail
 | .indexAddr t x i => mX T st o.dst t (jQ st x) (jQ st i)
 | .index t x i => match T.kind t, jQ st x, jQ st i with
   | some .str, .one (.str s), .one (.int _ n) => .br (decide (0 ≤ n)) (.br (decide (n < s.size)) (.done (aT st o.dst (.one (.int .u8 (C5 s n))))) .fail) .fail
   | _, _, _ => .fail
 | .extract t i => match jQ st t with
   | .kV vs => match nth vs i with
     | some v => .done (aT st o.dst v)
     | none => .fail
   | _ => .fail
 | .call { callee := .value (.func f), args := args, argTypes := _ } => Cd S st o.dst f (args.toList.map (jQ st))
 | .call { callee := .value (.tmp t), args := args, argTypes := _ } => (match bI st t with
   | .one (.fn g rs xs) => .row rs xs[0]? fun x => Cd S st o.dst g (args.toList.map (jQ st) ++ sO rs x)
   | _ => .fail)
 | .makeFunc (.func g) first uU => bif first.isEmpty then (match vh st uU.toList with
   | some (aP, ⟨rs, x⟩) => .done (aT aP o.dst (.one (.fn g rs [x])))
   | none => .fail) else .fail
 | .call { callee := .builtin b, args := args, argTypes := ts } => match b, args.toList, ts.toList with
   | .len, [x], [t] => C6 T st o.dst t (jQ st x)
   | .append, [x, y], [t, u] => bif Nat.beq t u then C8 T st o.dst t (jQ st x) (jQ st y) else .fail
   | .min, [x, y], _ => (match jQ st x, jQ st y with
     | .one (.int k a), .one (.int _ b) => .done (aT st o.dst (.one (.int k (if b < a then b else a))))
     | _, _ => .fail)
   | .max, [x, y], _ => (match jQ st x, jQ st y with
     | .one (.int k a), .one (.int _ b) => .done (aT st o.dst (.one (.int k (if b > a then b else a))))
     | _, _ => .fail)
   | .min, [x, y, z], _ => (match jQ st x, jQ st y, jQ st z with
     | .one (.int k a), .one (.int _ b), .one (.int _ c) => .done (aT st o.dst (.one (.int k (if c < (if b < a then b else a) then c else (if b < a then b else a)))))
     | _, _, _ => .fail)
   | _, _, _ => .fail
 | _ => .fail
def th (T : jb) (S : hU) (ops : List Oper) (st : St) (o : Oper) : N :=
 match o.guard with
 | none => FX T S st o
 | some (j, want) => match (nth ops j).bind (·.dst) with
   | some d => match bI st d with
     | .one (.bool b) =>
       let yes (x : Bool) : N := FX T S (aT st (some d) (.one (.bool x))) o
       let no (x : Bool) : N := .done (aT (aT st (some d) (.one (.bool x))) o.dst (.kV []))
       .br b (bif want then yes true else no true) (bif want then no false else yes false)
     | .kV [] => .done (aT st o.dst (.kV []))
     | _ => .fail
   | none => .fail
inductive Ex where
 | normal
 | exit (n : Nat)
 | ret
open Classical in
noncomputable def both {R : Type} (a b : Option R) : Option R := if a = b then a else none
theorem dq {R : Type} (a : Option R) : both a a = a := by unfold both; rw [if_pos rfl]
theorem IK {R : Type} {a b : Option R} {r : R} (h : both a b = some r) : a = some r ∧ b = some r := by
 unfold both at h
 split at h
 · rename_i e; exact ⟨h, e ▸ h⟩
 · cases h
section
variable {R : Type} (T : jb) (S : hU)
def IL (ops : List Oper) : List Oper → St → (St → Option R) → Option R
 | [], st, k => k st
 | o :: r, st, k => (th T S ops st o).fold fun aP => IL ops r aP k
inductive Kd where
 | any | take | one | last
inductive Pl where
 | nil
 | op (i : Nat) (kd : Kd) (p : Pl)
 | alt (p q : Pl)
def Gc (st : St) (ms : List (Pm × V)) : Bool :=
 match gq st ms with
   | some (_, used, _, _) => used.isEmpty
   | none => true
def oA (S : hU) (st : St) (f : FuncId) (args : List V) : Bool :=
 match S f with
 | some (a, b, c, _) => (match j7 (yB (sN a b c args) (freeze st (zT st (sN a b c args)))) (sN a b c args) with | none => Gc (yB (sN a b c args) (freeze st (zT st (sN a b c args)))) (sN a b c args) | some _ => false)
 | none => true
def kindOk (S : hU) (st : St) (o : Oper) : Kd → Bool
 | .any => match o.op with
   | .move _ | .assign _ | .pick _ _ _ | .nilCheck _ | .binOp _ _ _ _ _ | .unOp _ _ _ | .slice _ _ _ _ _ | .fieldAddr _ _ _ | .indexAddr _ _ _ | .index _ _ _ | .extract _ _ | .build _ _ | .field _ _ _ => true
   | .convert _ _ x => (match jQ st x with | .one (.mW _ _ _ _ _ _ _ _) => false | .one (.shr _ _) => false | .one (.nn _ _) => false | .one (.ref _ _ _ _) => false | .one .di => false | _ => true)
   | .call { callee := .builtin b, .. } => (match b with | .len | .min | .max => true | _ => false)
   | _ => false
 | .take => match o.op with
   | .load _ _ => true
   | _ => false
 | .one => match o.op with
   | .store _ _ _ => false
   | .call { callee := .builtin b, .. } => (match b with | .len | .min | .max => true | _ => false)
   | .call { callee := .value (.func f), args := args, .. } => oA S st f (args.toList.map (jQ st))
   | .call { callee := .value (.tmp t), args := args, .. } => (match bI st t with
     | .one (.fn g rs xs) => (match xs[0]? with | some x => oA S st g (args.toList.map (jQ st) ++ sO rs x) | none => true)
     | _ => true)
   | _ => true
 | .last => true
noncomputable def mY (ops : List Oper) : Pl → St → (St → Option R) → Option R
 | .nil, st, k => k st
 | .op i kd r, st, k => match nth ops i with
   | some o => bif kindOk S st o kd then (th T S ops st o).fold fun aP => mY ops r aP k else none
   | none => none
 | .alt p q, st, k => both (mY ops p st k) (mY ops q st k)
abbrev kY (R : Type) := Nat → Code → St → (Ex → St → Option R) → Option R
abbrev jd := Nat → Pl
noncomputable def dt (D : jd) (L : kY R) : Code → St → (Ex → St → Option R) → Option R
 | .skip, st, k => k .normal st
 | .region _ ops false, st, k => IL T S ops.toList ops.toList st fun aP => k .normal aP
 | .region id ops true, st, k => mY T S ops.toList (D id) st fun aP => k .normal aP
 | .seq a b, st, k => dt D L a st fun e aP => match e with
   | .normal => dt D L b aP k
   | e => k e aP
 | .cond (.tmp c) a b, st, k => match bI st c with
   | .one (.bool x) => bif x then dt D L a (aT st (some c) (.one (.bool true))) k else dt D L b (aT st (some c) (.one (.bool false))) k
   | _ => none
 | .block id (.loop b), st, k => L id b st k
 | .block id b, st, k => dt D L b st fun e aP => match e with
   | .exit n => bif Nat.beq n id then k .normal aP else k (.exit n) aP
   | e => k e aP
 | .exit id, st, k => k (.exit id) st
 | .ret, st, k => k .ret st
 | _, _, _ => none
end
end Go.TM
namespace Go.TM
open Go Go.RowKit
@[simp] theorem Xr {α : Type} (n : Nat) : nth ([] : List α) n = none := rfl
theorem fm {α : Type} (l : List α) (n : Nat) : nth l n = l[n]? := by
 induction l generalizing n with
 | nil => simp
 | cons x l ih => cases n <;> simp [nth, ih]
theorem hY {α : Type} (f : α → α) (l : List α) (n : Nat) : nth (kP f l n) n = (nth l n).map f := by
 induction l generalizing n with
 | nil => rfl
 | cons x l ih => cases n <;> simp [kP, nth, ih]
theorem ki {α : Type} (f : α → α) (l : List α) {n m : Nat} (h : m ≠ n) : nth (kP f l n) m = nth l m := by
 induction l generalizing n m with
 | nil => rfl
 | cons x l ih =>
   cases n with
   | zero => cases m with
     | zero => exact absurd rfl h
     | succ m => rfl
   | succ n => cases m with
     | zero => rfl
     | succ m => simp only [kP, nth]; exact ih (by omega)
theorem cL {α : Type} (f : α → α) (l : List α) (n m : Nat) : nth (kP f l n) m = if m = n then (nth l m).map f else nth l m := by
 by_cases h : m = n
 · subst h; simp [hY]
 · simp [h, ki f l h]
theorem C9 {α : Type} {l : List α} {n : Nat} {x : α} (h : nth l n = some x) : n < l.length := by
 rw [fm] at h; exact (List.getElem?_eq_some_iff.1 h).1
def HZ {r : RT} (xs : den (.sl r)) : List (ak r) := xs
mutual
def bz (w : World) (ok : Nat → Prop) : (t : Ty) → Value → den t → Prop
 | .int k, v, n => v = .int k n
 | .bool, v, b => v = .bool b
 | .str, v, s => v = .string s
 | .sl r, v, xs => (v = .slice none 0 0 ∧ HZ xs = []) ∨
     ∃ a cap, v = .slice (some a) (HZ xs).length cap ∧ (HZ xs).length ≤ cap ∧
       (HZ xs ≠ [] → a.spot = none ∧ a.block < w.heap.size ∧ ok a.block) ∧
       ∀ i x, (HZ xs)[i]? = some x → bU w ok r a.block (a.off + i * r.width) x
def bU (w : World) (ok : Nat → Prop) : (r : RT) → (b off : Nat) → ak r → Prop
 | .nil, _, _, _ => True
 | .cons t r, b, off, x => (∃ v, w.cell? ⟨b, off, none⟩ = some v ∧ bz w ok t v x.1) ∧ bU w ok r b (off + 1) x.2
end
theorem lM (w : World) (ok : Nat → Prop) (r : RT) (v : Value) (xs : List (ak r)) : bz w ok (.sl r) v xs ↔
   ((v = .slice none 0 0 ∧ xs = []) ∨ ∃ a cap, v = .slice (some a) xs.length cap ∧ xs.length ≤ cap ∧
       (xs ≠ [] → a.spot = none ∧ a.block < w.heap.size ∧ ok a.block) ∧ ∀ i x, xs[i]? = some x → bU w ok r a.block (a.off + i * r.width) x) := by
 have := bz.eq_4 w ok v r xs; exact this ▸ Iff.rfl
theorem oM {w : World} {ok : Nat → Prop} {k : IntKind} {v : Value} {n : Int} : bz w ok (.int k) v n ↔ v = .int k n := bz.eq_1 w ok v k n ▸ Iff.rfl
theorem pZ {w : World} {ok : Nat → Prop} {v : Value} {b : Bool} : bz w ok .bool v b ↔ v = .bool b := bz.eq_2 w ok v b ▸ Iff.rfl
theorem ti {w : World} {ok : Nat → Prop} {v : Value} {s : ByteArray} : bz w ok .str v s ↔ v = .string s := bz.eq_3 w ok v s ▸ Iff.rfl
structure gH (w w' : World) (ok wP : Nat → Prop) : Prop where
 size : w.heap.size ≤ w'.heap.size
 block : ∀ b, b < w.heap.size → ok b → w'.heap[b]? = w.heap[b]?
 ok : ∀ b, b < w.heap.size → ok b → wP b
theorem H0 {w : World} {a : Addr} {v : Value} (h : w.cell? a = some v) : a.block < w.heap.size := World.block_lt_of_cell? w a h
mutual
theorem bz.stays {w w' : World} {ok wP : Nat → Prop} (h : gH w w' ok wP) : (t : Ty) → (v : Value) → (x : den t) → bz w ok t v x → bz w' wP t v x
 | .int _, _, _, hr => by unfold bz at hr ⊢; exact hr
 | .bool, _, _, hr => by unfold bz at hr ⊢; exact hr
 | .str, _, _, hr => by unfold bz at hr ⊢; exact hr
 | .sl r, v, xs, hr => by
   unfold bz at hr ⊢; rcases hr with hr | ⟨a, cap, hv, hc, ha, hx⟩
   · exact .inl hr
   · refine .inr ⟨a, cap, hv, hc, fun fk => ?_, fun i x hi => ?_⟩
     · obtain ⟨hs, hb, ff⟩ := ha fk; exact ⟨hs, Nat.lt_of_lt_of_le hb h.size, h.ok _ hb ff⟩
     · have fk : HZ xs ≠ [] := by intro e; rw [e] at hi; simp at hi
       obtain ⟨hs, hb, ff⟩ := ha fk; exact bU.stays h r _ _ x (h.block _ hb ff) (hx i x hi)
theorem bU.stays {w w' : World} {ok wP : Nat → Prop} (h : gH w w' ok wP) : (r : RT) → (b off : Nat) → (x : ak r) → w'.heap[b]? = w.heap[b]? → bU w ok r b off x → bU w' wP r b off x
 | .nil, _, _, _, _, _ => by unfold bU; trivial
 | .cons t r, b, off, x, ff, hr => by
   unfold bU at hr ⊢; obtain ⟨⟨v, hv, hx⟩, hr⟩ := hr; refine ⟨⟨v, ?_, bz.stays h t v x.1 hx⟩, bU.stays h r b (off + 1) x.2 ff hr⟩; rw [World.cell?_of_block (w := w) ff]; exact hv
end
inductive Loc where
 | nil
 | at (b off cap : Nat)
structure Cz where
 bx : Nat → Nat
 lc : Nat → Nat → Loc
 own : Nat → Option Lb
def Cz.ok (c : Cz) (b : Nat) : Prop := c.own b = none
def fI (st : St) (s : Nat) : Nat := match nth st s with | some x => x.bg | none => 0
def cD (st : St) (s : Nat) : Nat := match nth st s with | some x => x.ag | none => 0
def gP (l : Loc) (W lo n : Nat) (v : Value) : Prop :=
 match l with
 | .nil => v = .slice none 0 0 ∧ n = 0
 | .at b off cap => ∃ a c, v = .slice (some a) n c ∧ n ≤ c ∧ lo + c ≤ cap ∧ (c ≠ 0 → a = ⟨b, off + lo * W, none⟩)
mutual
def cE (w : World) (P : List Nat → Nat → Prop) : (t : Ty) → (p : List Nat) → Value → den t → Prop
 | .int k, _, v, n => v = .int k n
 | .bool, _, v, b => v = .bool b
 | .str, _, v, s => v = .string s
 | .sl r, p, v, xs => ∃ lc : Loc, gP lc r.width 0 (HZ xs).length v ∧ v.oneCell' = true ∧ ((lc = .nil ∧ HZ xs = []) ∨ ∃ b off cap, lc = .at b off cap ∧
     P p b ∧ (HZ xs).length ≤ cap ∧ (∃ cur ty, w.heap[b]? = some (.cells cur ty (0, 0)) ∧ off + cap * r.width ≤ cur.size) ∧
       ∀ i x, (HZ xs)[i]? = some x → fo w P r (p ++ [i]) 0 b (off + i * r.width) x)
def fo (w : World) (P : List Nat → Nat → Prop) : (r : RT) → (p : List Nat) → (k b off : Nat) → ak r → Prop
 | .nil, _, _, _, _, _ => True
 | .cons t r, p, k, b, off, x => (∃ v, w.cell? ⟨b, off, none⟩ = some v ∧ cE w P t (p ++ [k]) v x.1) ∧ fo w P r p (k + 1) b (off + 1) x.2
end
theorem tj (w : World) (P : List Nat → Nat → Prop) (r : RT) (p : List Nat) (v : Value) (xs : List (ak r)) : cE w P (.sl r) p v xs ↔
   ∃ lc : Loc, gP lc r.width 0 xs.length v ∧ v.oneCell' = true ∧ ((lc = .nil ∧ xs = []) ∨ ∃ b off cap, lc = .at b off cap ∧
     P p b ∧ xs.length ≤ cap ∧ (∃ cur ty, w.heap[b]? = some (.cells cur ty (0, 0)) ∧ off + cap * r.width ≤ cur.size) ∧
       ∀ (i : Nat) x, xs[i]? = some x → fo w P r (p ++ [i]) 0 b (off + i * r.width) x) := by
 have := cE.eq_4 w P p v r xs; exact this ▸ Iff.rfl
theorem vB {w : World} {P : List Nat → Nat → Prop} {k : IntKind} {p : List Nat} {v : Value} {n : Int} : cE w P (.int k) p v n ↔ v = .int k n := cE.eq_1 w P p v k n ▸ Iff.rfl
theorem rq {w : World} {P : List Nat → Nat → Prop} {p : List Nat} {v : Value} {n : Bool} : cE w P .bool p v n ↔ v = .bool n := cE.eq_2 w P p v n ▸ Iff.rfl
theorem vC {w : World} {P : List Nat → Nat → Prop} {p : List Nat} {v : Value} {n : ByteArray} : cE w P .str p v n ↔ v = .string n := cE.eq_3 w P p v n ▸ Iff.rfl
mutual
theorem cE.go {w w' : World} {P P' : List Nat → Nat → Prop} : (t : Ty) → (p p' : List Nat) → (hP : ∀ q b, P (p ++ q) b → w'.heap[b]? = w.heap[b]? ∧ P' (p' ++ q) b) → (v : Value) → (x : den t) → cE w P t p v x → cE w' P' t p' v x
 | .int _, _, _, _, _, _, h => by unfold cE at h ⊢; exact h
 | .bool, _, _, _, _, _, h => by unfold cE at h ⊢; exact h
 | .str, _, _, _, _, _, h => by unfold cE at h ⊢; exact h
 | .sl r, p, p', hP, v, xs, h => by
   unfold cE at h ⊢; obtain ⟨lc, h1, h0, h2⟩ := h; refine ⟨lc, h1, h0, h2.imp id ?_⟩
   rintro ⟨b, off, cap, e, h3, h4, ⟨cur, ty, h5, h6⟩, h7⟩
   obtain ⟨hw, hb⟩ := hP [] b (by simpa using h3); refine ⟨b, off, cap, e, by simpa using hb, h4, ⟨cur, ty, by rw [hw]; exact h5, h6⟩, fun i x hx => fo.go r (p ++ [i]) (p' ++ [i]) (fun q k hk => ?_) 0 b _ x hw (h7 i x hx)⟩; have := hP ([i] ++ q) k (by rw [← List.append_assoc]; exact hk); rw [← List.append_assoc] at this; exact this
theorem fo.go {w w' : World} {P P' : List Nat → Nat → Prop} : (r : RT) → (p p' : List Nat) → (hP : ∀ q b, P (p ++ q) b → w'.heap[b]? = w.heap[b]? ∧ P' (p' ++ q) b) → (k b off : Nat) → (x : ak r) → w'.heap[b]? = w.heap[b]? → fo w P r p k b off x → fo w' P' r p' k b off x
 | .nil, _, _, _, _, _, _, _, _, _ => by unfold fo; trivial
 | .cons t r, p, p', hP, k, b, off, x, hw, h => by
   unfold fo at h ⊢; obtain ⟨⟨v, h1, h2⟩, h3⟩ := h; refine ⟨⟨v, by rw [World.cell?_of_block (w := w) hw]; exact h1, cE.go t (p ++ [k]) (p' ++ [k]) (fun q b hb => ?_) v x.1 h2⟩, fo.go r p p' hP (k + 1) b (off + 1) x.2 hw h3⟩; have := hP ([k] ++ q) b (by rw [← List.append_assoc]; exact hb); rw [← List.append_assoc] at this; exact this
end
theorem Gd {lc : Loc} {W lo n : Nat} {v : Value} (h : gP lc W lo n v) : (v = .slice none 0 0 ∧ n = 0) ∨ ∃ b off cap a c, lc = .at b off cap ∧ v = .slice (some a) n c ∧ n ≤ c ∧ lo + c ≤ cap ∧ (c ≠ 0 → a = ⟨b, off + lo * W, none⟩) := by
 cases lc with
 | nil => exact .inl h
 | «at» b off cap =>
   obtain ⟨a, c, h1, h2, h3, h4⟩ := h; exact .inr ⟨b, off, cap, a, c, rfl, h1, h2, h3, h4⟩
mutual
theorem cE.rep {w : World} {P : List Nat → Nat → Prop} {ok : Nat → Prop} (hP : ∀ p b, P p b → ok b) : (t : Ty) → (p : List Nat) → (v : Value) → (x : den t) → cE w P t p v x → bz w ok t v x
 | .int _, _, _, _, h => by unfold cE at h; unfold bz; exact h
 | .bool, _, _, _, h => by unfold cE at h; unfold bz; exact h
 | .str, _, _, _, h => by unfold cE at h; unfold bz; exact h
 | .sl r, p, v, xs, h => by
   unfold cE at h; unfold bz; obtain ⟨lc, h1, h0, h2⟩ := h; rcases Gd h1 with ⟨e1, e2⟩ | ⟨b, off, cap, a, c, e1, e2, e3, e4, e5⟩
   · exact .inl ⟨e1, List.length_eq_zero_iff.1 e2⟩
   · rcases h2 with ⟨e, _⟩ | ⟨b', X7, Ge, e, h3, h4, ⟨cur, ty, h5, h6⟩, h7⟩
     · rw [e] at e1; cases e1
     · rw [e] at e1; injection e1 with q1 q2 q3; subst q1 q2 q3; have fk : HZ xs ≠ [] → a = ⟨b', X7, none⟩ := by
         intro fk; have := List.length_pos_iff.2 fk; have := e5 (by omega); simpa using this
       refine .inr ⟨a, c, e2, e3, fun hn => ?_, fun i x hx => ?_⟩
       · rw [fk hn]; exact ⟨rfl, (Array.getElem?_eq_some_iff.1 h5).1, hP _ _ h3⟩
       · rw [fk (by intro e; rw [e] at hx; simp at hx)]; exact fo.rep hP r _ 0 b' _ x (h7 i x hx)
theorem fo.rep {w : World} {P : List Nat → Nat → Prop} {ok : Nat → Prop} (hP : ∀ p b, P p b → ok b) : (r : RT) → (p : List Nat) → (k b off : Nat) → (x : ak r) → fo w P r p k b off x → bU w ok r b off x
 | .nil, _, _, _, _, _, _ => by unfold bU; trivial
 | .cons t r, p, k, b, off, x, h => by
   unfold fo at h; unfold bU; obtain ⟨⟨v, h1, h2⟩, h3⟩ := h; exact ⟨⟨v, h1, cE.rep hP t _ v x.1 h2⟩, fo.rep hP r p (k + 1) b (off + 1) x.2 h3⟩
end
def bh (c : Cz) (w : World) (l : Lb) (A : fK) (b off : Nat) : Prop :=
 match A.md with
 | .sh => ∀ (i : Nat) x, A.xs[i]? = some x → bU w c.ok A.r b (off + i * A.r.width) x
 | .dp => ∃ g : Nat → List Nat, g b = [] ∧ ∀ (i : Nat) x, A.xs[i]? = some x → fo w (fun p k => c.own k = some l ∧ g k = p) A.r [i] 0 b (off + i * A.r.width) x
 | .ho q => A.own = true → ∃ g : Nat → List Nat, g b = [] ∧ ∀ (i : Nat) x, i ≠ q → A.xs[i]? = some x → fo w (fun p k => c.own k = some l ∧ g k = p) A.r [i] 0 b (off + i * A.r.width) x
theorem bh.go {c c' : Cz} {w w' : World} {l l' : Lb} {A : fK} {b off : Nat} (h : bh c w l A b off) (hs : A.md = .sh → gH w w' c.ok c'.ok) (hb : w'.heap[b]? = w.heap[b]?)
   (hd : A.md ≠ .sh → ∀ k, c.own k = some l → w'.heap[k]? = w.heap[k]? ∧ c'.own k = some l') : bh c' w' l' A b off := by
 unfold bh at h ⊢
 cases hm : A.md with
 | sh => rw [hm] at h; exact fun i x hx => bU.stays (hs hm) _ _ _ _ hb (h i x hx)
 | dp =>
   rw [hm] at h; obtain ⟨g, h1, h2⟩ := h; exact ⟨g, h1, fun i x hx => fo.go _ [i] [i] (fun q k hk => ⟨(hd (by rw [hm]; simp) k hk.1).1, (hd (by rw [hm]; simp) k hk.1).2, hk.2⟩) _ _ _ _ hb (h2 i x hx)⟩
 | ho q =>
   rw [hm] at h; intro ho; obtain ⟨g, h1, h2⟩ := h ho; exact ⟨g, h1, fun i x hq hx => fo.go _ [i] [i] (fun q k hk => ⟨(hd (by rw [hm]; simp) k hk.1).1, (hd (by rw [hm]; simp) k hk.1).2, hk.2⟩) _ _ _ _ hb (h2 i x hq hx)⟩
theorem bh.sh {c : Cz} {w : World} {l : Lb} {A : fK} {b off : Nat} (hm : A.md = .sh) : bh c w l A b off ↔ ∀ (i : Nat) x, A.xs[i]? = some x → bU w c.ok A.r b (off + i * A.r.width) x := by
 unfold bh; rw [hm]
def Ce (w : World) (ok : Nat → Prop) (r : RT) (v : Value) (xs : List (ak r)) : Prop :=
 ∃ b o, v = .pointer (some ⟨b, o, none⟩) ∧ b < w.heap.size ∧ ok b ∧ ∀ x, xs[0]? = some x → bU w ok r b o x
def ru (w : World) (ok : Nat → Prop) : (rs : RT) → List Value → ak rs → Prop
 | .nil, vs, _ => vs = []
 | .cons (.sl r) rs, vs, x => ∃ v l, vs = v :: l ∧ Ce w ok r v (HZ x.1) ∧ ru w ok rs l x.2
 | .cons _ _, _, _ => False
def FnAt (w : World) (ok : Nat → Prop) (g : Nat) (rs : RT) (v : Value) (xs : List (ak rs)) : Prop :=
 ∃ uU, v = .func (.func g) #[] uU ∧ ∀ x, xs[0]? = some x → ru w ok rs uU.toList x
theorem Ce.stays {w w' : World} {ok wP : Nat → Prop} (h : gH w w' ok wP) {r : RT} {v : Value} {xs : List (ak r)} (hp : Ce w ok r v xs) : Ce w' wP r v xs := by
 obtain ⟨b, o, h1, h2, h3, h4⟩ := hp; exact ⟨b, o, h1, Nat.lt_of_lt_of_le h2 h.size, h.ok b h2 h3, fun x hx => bU.stays h r b o x (h.block b h2 h3) (h4 x hx)⟩
theorem ru.stays {w w' : World} {ok wP : Nat → Prop} (h : gH w w' ok wP) : (rs : RT) → (vs : List Value) → (x : ak rs) → ru w ok rs vs x → ru w' wP rs vs x
 | .nil, _, _, hc => hc
 | .cons (.sl r) rs, vs, x, hc => by
   obtain ⟨v, l, h1, h2, h3⟩ := hc; exact ⟨v, l, h1, h2.stays h, ru.stays h rs l x.2 h3⟩
 | .cons (.int _) _, _, _, hc => hc.elim
 | .cons .bool _, _, _, hc => hc.elim
 | .cons .str _, _, _, hc => hc.elim
theorem FnAt.stays {w w' : World} {ok wP : Nat → Prop} (h : gH w w' ok wP) {g : Nat} {rs : RT} {v : Value} {xs : List (ak rs)} (hf : FnAt w ok g rs v xs) : FnAt w' wP g rs v xs := by
 obtain ⟨uU, h1, h2⟩ := hf; exact ⟨uU, h1, fun x hx => ru.stays h rs _ x (h2 x hx)⟩
def ir (c : Cz) (st : St) (w : World) : CV → Value → Prop
 | .bad, _ => True
 | .int k n, v => v = .int k n
 | .bool b, v => v = .bool b
 | .str s, v => v = .string s
 | .di, v => v = .slice none 0 0
 | .F2, v => v = .pointer none
 | .shr r xs, v => bz w c.ok (.sl r) v xs
 | .nn r xs, v => bz w c.ok (.sl r) v xs ∧ v ≠ .slice none 0 0
 | .ref a j g vw, v => v.oneCell' = true ∧ g ≤ cD st a ∧ ∀ A, aQ st a j g = some A → gP (c.lc a j) A.r.width vw.lo (vw.app A.xs).length v
 | .ptr b g off, v => v.oneCell' = true ∧ g ≤ fI st b ∧ ∀ cs, cX st b g = some cs → v = .pointer (some ⟨c.bx b, off, none⟩)
 | .IJ a j g i off, v => v.oneCell' = true ∧ g ≤ cD st a ∧ ∀ A, aQ st a j g = some A → i < A.xs.length ∧ ∃ b o cap, c.lc a j = .at b o cap ∧ v = .pointer (some ⟨b, o + i * A.r.width + off, none⟩)
 | .j6 r x off, v => ∃ b o, v = .pointer (some ⟨b, o + off, none⟩) ∧ b < w.heap.size ∧ c.ok b ∧ bU w c.ok r b o x
 | .ql r xs off, v => ∃ b o, v = .pointer (some ⟨b, o + off, none⟩) ∧ b < w.heap.size ∧ c.ok b ∧ ∀ x, xs[0]? = some x → bU w c.ok r b o x
 | .fn g rs xs, v => FnAt w c.ok g rs v xs
 | .mW a j g e i k q ys, v => v.oneCell' = true ∧ g ≤ cD st a ∧ e ≤ kU st a ∧ ∀ A, aQ st a j g = some A → kU st a = e →
     A.md = .dp ∧ (∃ x, A.xs[i]? = some x ∧ nR A.r x k = some ⟨q, ys⟩) ∧ ∃ b o cap, c.lc a j = .at b o cap ∧ w.cell? ⟨b, o + i * A.r.width + k, none⟩ = some v
def ek (c : Cz) (st : St) (w : World) (cs : List CV) (vs : List Value) : Prop :=
 cs.length = vs.length ∧ ∀ (i : Nat) x v, cs[i]? = some x → vs[i]? = some v → ir c st w x v
def wQ (c : Cz) (st : St) (w : World) : V → Value → Prop
 | .one x, v => ir c st w x v
 | .agg cs, v => ∃ vs, v = .agg vs ∧ ek c st w cs vs.toList
 | .kV _, _ => False
def dV (c : Cz) (st : St) (w : World) : V → Value → Prop
 | .kV us, v => ∃ vs, v = .tuple vs ∧ us.length = vs.size ∧ ∀ (i : Nat) x y, us[i]? = some x → vs[i]? = some y → wQ c st w x y
 | x, v => wQ c st w x v
def tk (c : Cz) (st : St) (w : World) (s : Nat) (cs : List CV) : Prop :=
 c.own (c.bx s) = some (.box s) ∧ ∃ vs ty, w.heap[c.bx s]? = some (.cells vs ty (0, 0)) ∧ ek c st w cs vs.toList
def bA (c : Cz) (w : World) (s j : Nat) (A : fK) : Prop :=
 match c.lc s j with
 | .nil => A.xs = []
 | .at b off cap => (match A.own with | true => c.own b = some (.sp s j) | false => c.own b = none) ∧ A.xs.length ≤ cap ∧
     (∃ cur ty, w.heap[b]? = some (.cells cur ty (0, 0)) ∧ off + cap * A.r.width ≤ cur.size) ∧
     bh c w (.sp s j) A b off
inductive IM where
 | arr (a j g W n : Nat) (l : Loc)
 | box (b g lN : Nat)
def Nx (c : Cz) (st : St) : IM → Prop
 | .arr a j g W n l => g ≤ cD st a ∧ ∀ A, aQ st a j g = some A → A.r.width = W ∧ A.xs.length = n ∧ c.lc a j = l
 | .box b g lN => g ≤ fI st b ∧ ∀ cs, cX st b g = some cs → c.bx b = lN
structure Mu where
 m : Nat → Prop
 ok : Nat → Prop
 an : List IM
structure Rel (w0 : World) (mu : Mu) (c : Cz) (st : St) (a : Act) (w : World) : Prop where
 eO : ∀ t, dV c st w (bI st t) (a.eval (.tmp t))
 boxes : ∀ s sl cs, nth st s = some sl → sl.box = some cs → tk c st w s cs
 aI : ∀ s j sl A, nth st s = some sl → nth sl.aI j = some (some A) → bA c w s j A
 owned : ∀ b l, c.own b = some l → b < w.heap.size ∧ (l = .out ∨ w0.heap.size ≤ b ∨ mu.m b)
 free : ∀ b, b < w0.heap.size → c.own b = none → mu.m b ∨ mu.ok b
 kept : w.os = w0.os ∧ w.tape = w0.tape ∧ w.output = w0.output ∧ w0.heap.size ≤ w.heap.size
 old : ∀ k, k < w0.heap.size → ¬ mu.m k → w.heap[k]? = w0.heap[k]?
 plain : a.defers = []
 dK : ∀ p ∈ mu.an, Nx c st p
end Go.TM
namespace Go.TM
open Go Go.RowKit
theorem aD {α : Type} {b : Bool} {x : Option α} {y : α} (h : (bif b then x else none) = some y) : b = true ∧ x = some y := by
 cases b
 · simp at h
 · exact ⟨rfl, h⟩
theorem cQ {b : Bool} {x : N} {y : St} (h : (bif b then x else N.fail).val = some y) : b = true ∧ x.val = some y := by
 cases b
 · simp [N.val] at h
 · exact ⟨rfl, h⟩
theorem a7 {st : St} {a j g : Nat} {A : fK} (h : aQ st a j g = some A) : ∃ sl, nth st a = some sl ∧ sl.ag = g ∧ nth sl.aI j = some (some A) := by
 unfold aQ at h
 cases hs : nth st a with
 | none => simp [hs] at h
 | some sl =>
   simp only [hs] at h; obtain ⟨h1, h2⟩ := aD h; refine ⟨sl, rfl, Nat.eq_of_beq_eq_true h1, ?_⟩
   cases hj : nth sl.aI j with
   | none => simp [hj] at h2
   | some o => cases o with
     | none => simp [hj] at h2
     | some B => simp [hj] at h2; rw [h2]
theorem fM {st : St} {b g : Nat} {cs : List CV} (h : cX st b g = some cs) : ∃ sl, nth st b = some sl ∧ sl.bg = g ∧ sl.box = some cs := by
 unfold cX at h
 cases hs : nth st b with
 | none => simp [hs] at h
 | some sl =>
   simp only [hs] at h; obtain ⟨h1, h2⟩ := aD h; exact ⟨sl, rfl, Nat.eq_of_beq_eq_true h1, h2⟩
theorem View.Gf {r s : RT} (w : View) (xs : List (ak r)) (ys : List (ak s)) (h : xs.length = ys.length) : (w.app xs).length = (w.app ys).length := by
 cases w <;> simp [View.app, h]
structure Fw (c : Cz) (st : St) (w : World) (c' : Cz) (aP : St) (w' : World) : Prop where
 stays : gH w w' c.ok c'.ok
 refs : ∀ a j g A', g ≤ cD st a → aQ aP a j g = some A' → ∃ A, aQ st a j g = some A ∧ A'.r.width = A.r.width ∧ A'.xs.length = A.xs.length ∧ c'.lc a j = c.lc a j ∧
   (kU aP a = kU st a → A' = A ∧ ∀ b o cap, c.lc a j = .at b o cap → w'.heap[b]? = w.heap[b]?)
 zF : ∀ b g lF, g ≤ fI st b → cX aP b g = some lF → (∃ cs, cX st b g = some cs) ∧ c'.bx b = c.bx b
 gA : ∀ a, cD st a ≤ cD aP a
 gB : ∀ b, fI st b ≤ fI aP b
 gE : ∀ a, kU st a ≤ kU aP a
theorem Fw.Kq {c : Cz} {st : St} {w : World} {c' : Cz} {aP : St} {w' : World} (h : Fw c st w c' aP w') {x : CV} {v : Value} (hr : ir c st w x v) : ir c' aP w' x v := by
 cases x with
 | bad => trivial
 | int k n => exact hr
 | bool b => exact hr
 | str s => exact hr
 | di => exact hr
 | F2 => exact hr
 | shr r xs => exact bz.stays h.stays _ _ _ hr
 | nn r xs => exact ⟨bz.stays h.stays _ _ _ hr.1, hr.2⟩
 | ref a j g vw =>
   refine ⟨hr.1, Nat.le_trans hr.2.1 (h.gA a), fun A' dL => ?_⟩; obtain ⟨A, hA, hw, hl, fN, _⟩ := h.refs a j g A' hr.2.1 dL; have := hr.2.2 A hA; rw [fN, hw, View.Gf vw A'.xs A.xs hl]; exact this
 | ptr b g off =>
   refine ⟨hr.1, Nat.le_trans hr.2.1 (h.gB b), fun cs tl => ?_⟩; obtain ⟨⟨J4, h0⟩, hb⟩ := h.zF b g cs hr.2.1 tl; rw [hb]; exact hr.2.2 J4 h0
 | IJ a j g i off =>
   refine ⟨hr.1, Nat.le_trans hr.2.1 (h.gA a), fun A' dL => ?_⟩; obtain ⟨A, hA, hw, hl, fN, _⟩ := h.refs a j g A' hr.2.1 dL; have := hr.2.2 A hA; rw [fN, hw, hl]; exact this
 | mW a j g e i k q ys =>
   obtain ⟨h1, h2, h3, h4⟩ := hr; refine ⟨h1, Nat.le_trans h2 (h.gA a), Nat.le_trans h3 (h.gE a), fun A' dL he => ?_⟩; obtain ⟨A, hA, hw, hl, fN, hs⟩ := h.refs a j g A' h2 dL; have P9 : kU aP a = kU st a := by have := h.gE a; omega
   obtain ⟨rfl, hb⟩ := hs P9; obtain ⟨k1, k2, b, o, cap, k3, k4⟩ := h4 A' hA (by omega); exact ⟨k1, k2, b, o, cap, by rw [fN]; exact k3, by rw [World.cell?_of_block (w := w) (hb b o cap k3)]; exact k4⟩
 | j6 r x off =>
   obtain ⟨b, o, hv, hb, ff, hx⟩ := hr; exact ⟨b, o, hv, Nat.lt_of_lt_of_le hb h.stays.size, h.stays.ok b hb ff, bU.stays h.stays r b o x (h.stays.block b hb ff) hx⟩
 | ql r xs off =>
   obtain ⟨b, o, hv, hb, ff, hx⟩ := hr; exact ⟨b, o, hv, Nat.lt_of_lt_of_le hb h.stays.size, h.stays.ok b hb ff, fun x rb => bU.stays h.stays r b o x (h.stays.block b hb ff) (hx x rb)⟩
 | fn g rs xs => exact FnAt.stays h.stays hr
theorem Fw.Ny {c : Cz} {st : St} {w : World} {c' : Cz} {aP : St} {w' : World} (h : Fw c st w c' aP w') {cs : List CV} {vs : List Value} (hr : ek c st w cs vs) : ek c' aP w' cs vs :=
 ⟨hr.1, fun i x v hx hv => h.Kq (hr.2 i x v hx hv)⟩
theorem Fw.Kr {c : Cz} {st : St} {w : World} {c' : Cz} {aP : St} {w' : World} (h : Fw c st w c' aP w') {x : V} {v : Value} (hr : wQ c st w x v) : wQ c' aP w' x v := by
 cases x with
 | one x => exact h.Kq hr
 | agg cs => obtain ⟨vs, hv, hl⟩ := hr; exact ⟨vs, hv, h.Ny hl⟩
 | kV us => exact hr
theorem Fw.kZ {c : Cz} {st : St} {w : World} {c' : Cz} {aP : St} {w' : World} (h : Fw c st w c' aP w') {x : V} {v : Value} (hr : dV c st w x v) : dV c' aP w' x v := by
 cases x with
 | one x => exact h.Kr (x := .one x) hr
 | agg cs => exact h.Kr (x := .agg cs) hr
 | kV us =>
   obtain ⟨vs, hv, hl, he⟩ := hr; exact ⟨vs, hv, hl, fun i x y hx hy => h.Kr (he i x y hx hy)⟩
theorem Fw.dK {c : Cz} {st : St} {w : World} {c' : Cz} {aP : St} {w' : World} (h : Fw c st w c' aP w') {p : IM} (hp : Nx c st p) : Nx c' aP p := by
 cases p with
 | arr a j g W n l =>
   refine ⟨Nat.le_trans hp.1 (h.gA a), fun A' dL => ?_⟩; obtain ⟨A, hA, hw, hl, fN, _⟩ := h.refs a j g A' hp.1 dL; obtain ⟨h1, h2, h3⟩ := hp.2 A hA; exact ⟨hw.trans h1, hl.trans h2, fN.trans h3⟩
 | box b g lN =>
   refine ⟨Nat.le_trans hp.1 (h.gB b), fun cs tl => ?_⟩; obtain ⟨⟨J4, h0⟩, hb⟩ := h.zF b g cs hp.1 tl; exact hb.trans (hp.2 J4 h0)
theorem bA.go {c c' : Cz} {w w' : World} {s j : Nat} {A : fK} (h : bA c w s j A) (hs : gH w w' c.ok c'.ok) (hl : c'.lc s j = c.lc s j)
   (hb : ∀ b, c.own b = some (.sp s j) → w'.heap[b]? = w.heap[b]? ∧ c'.own b = c.own b) : bA c' w' s j A := by
 unfold bA at h ⊢; rw [hl]
 cases hc : c.lc s j with
 | nil => simpa [hc] using h
 | «at» b off cap =>
   rw [hc] at h; obtain ⟨h1, h2, ⟨cur, ty, h3, h4⟩, h5⟩ := h; have bP : b < w.heap.size := (Array.getElem?_eq_some_iff.1 h3).1; have X8 : w'.heap[b]? = w.heap[b]? ∧ c'.own b = c.own b := by
     cases ho : A.own with
     | true => rw [ho] at h1; exact hb b h1
     | false => rw [ho] at h1; exact ⟨hs.block b bP h1, (hs.ok b bP h1 : c'.own b = none).trans h1.symm⟩
   refine ⟨?_, h2, ⟨cur, ty, by rw [X8.1]; exact h3, h4⟩, h5.go (fun _ => hs) X8.1 (fun _ k hk => ⟨(hb k hk).1, (hb k hk).2.trans hk⟩)⟩; rw [X8.2]; exact h1
theorem tk.go {c : Cz} {st : St} {w : World} {c' : Cz} {aP : St} {w' : World} (h : Fw c st w c' aP w') {s : Nat} {cs : List CV} (hb : tk c st w s cs)
   (hx : c'.bx s = c.bx s) (ho : c'.own (c.bx s) = c.own (c.bx s)) (hw : w'.heap[c.bx s]? = w.heap[c.bx s]?) : tk c' aP w' s cs := by
 obtain ⟨h1, vs, ty, h2, h3⟩ := hb; exact ⟨by rw [hx, ho]; exact h1, vs, ty, by rw [hx, hw]; exact h2, h.Ny h3⟩
theorem IN (st : St) (d : Option Nat) (v : V) (t : Nat) : bI (aT st d v) t = if d = some t ∧ t < st.length then v else bI st t := by
 cases d with
 | none => simp [aT]
 | some u =>
   unfold bI aT; rw [cL]
   by_cases h : t = u
   · subst h; simp only [if_true, true_and]
     by_cases hl : t < st.length
     · have : nth st t = some st[t] := by rw [fm]; exact List.getElem?_eq_getElem hl
       simp [this, hl]
     · have : nth st t = none := by rw [fm]; exact List.getElem?_eq_none (by omega)
       simp [this, hl]
   · have : ¬ (some u = some t ∧ t < st.length) := by rintro ⟨e, _⟩; exact h (Option.some.inj e).symm
     rw [if_neg h, if_neg this]
theorem oN (st : St) (d : Option Nat) (v : V) (s : Nat) : ∃ f : Sl → Sl, (∀ x, (f x).box = x.box ∧ (f x).bg = x.bg ∧ (f x).aI = x.aI ∧ (f x).ag = x.ag ∧ (f x).ep = x.ep) ∧ nth (aT st d v) s = (nth st s).map f := by
 cases d with
 | none => exact ⟨id, fun _ => ⟨rfl, rfl, rfl, rfl, rfl⟩, by simp [aT]⟩
 | some t =>
   unfold aT
   by_cases h : s = t
   · subst h; exact ⟨fun x => { x with v := v }, fun _ => ⟨rfl, rfl, rfl, rfl, rfl⟩, hY _ _ _⟩
   · exact ⟨id, fun _ => ⟨rfl, rfl, rfl, rfl, rfl⟩, by simp [ki _ _ h]⟩
theorem IP (st : St) (d : Option Nat) (v : V) (a j g : Nat) : aQ (aT st d v) a j g = aQ st a j g := by
 obtain ⟨f, hf, hn⟩ := oN st d v a; unfold aQ; rw [hn]
 cases nth st a with
 | none => rfl
 | some s => obtain ⟨_, _, h3, h4, _⟩ := hf s; simp [h3, h4]
theorem IQ (st : St) (d : Option Nat) (v : V) (b g : Nat) : cX (aT st d v) b g = cX st b g := by
 obtain ⟨f, hf, hn⟩ := oN st d v b; unfold cX; rw [hn]
 cases nth st b with
 | none => rfl
 | some s => obtain ⟨h1, h2, _, _, _⟩ := hf s; simp [h1, h2]
theorem IS (st : St) (d : Option Nat) (v : V) (a : Nat) : cD (aT st d v) a = cD st a := by
 obtain ⟨f, hf, hn⟩ := oN st d v a; unfold cD; rw [hn]
 cases nth st a with
 | none => rfl
 | some s => exact (hf s).2.2.2.1
theorem Ks (st : St) (d : Option Nat) (v : V) (a : Nat) : kU (aT st d v) a = kU st a := by
 obtain ⟨f, hf, hn⟩ := oN st d v a; unfold kU; rw [hn]
 cases nth st a with
 | none => rfl
 | some s => exact (hf s).2.2.2.2
theorem IT (st : St) (d : Option Nat) (v : V) (a : Nat) : fI (aT st d v) a = fI st a := by
 obtain ⟨f, hf, hn⟩ := oN st d v a; unfold fI; rw [hn]
 cases nth st a with
 | none => rfl
 | some s => exact (hf s).2.1
theorem gH.refl (w : World) (ok : Nat → Prop) : gH w w ok ok := ⟨Nat.le_refl _, fun _ _ _ => rfl, fun _ _ h => h⟩
theorem Fw.aT (c : Cz) (st : St) (w : World) (d : Option Nat) (v : V) : Fw c st w c (aT st d v) w where
 stays := gH.refl w _
 refs a j g A' _ h := ⟨A', by rwa [IP] at h, rfl, rfl, rfl, fun _ => ⟨rfl, fun _ _ _ _ => rfl⟩⟩
 zF b g lF _ h := ⟨⟨lF, by rwa [IQ] at h⟩, rfl⟩
 gA a := by rw [IS]; exact Nat.le_refl _
 gB a := by rw [IT]; exact Nat.le_refl _
 gE a := by rw [Ks]; exact Nat.le_refl _
theorem eval_put (a : Act) (d : Option Tmp) (v : Value) (t : Nat) : (a.put d v).eval (.tmp t) = if d = some t ∧ t < a.tmps.size then v else a.eval (.tmp t) := by
 cases d with
 | none => simp [Act.put]
 | some u =>
   simp only [Act.put, Act.eval, Array.getD_eq_getD_getElem?, Array.getElem?_setIfInBounds]
   by_cases h : u = t
   · subst h
     by_cases hl : u < a.tmps.size <;> simp [hl]
   · have : ¬ (some u = some t ∧ t < a.tmps.size) := by rintro ⟨e, _⟩; exact h (Option.some.inj e)
     rw [if_neg this]; simp [h]
theorem Rel.aT {w0 : World} {mu : Mu} {c : Cz} {st : St} {a : Act} {w : World} (h : Rel w0 mu c st a w) {d : Option Nat} {v : V} {u : Value}
   (hv : dV c st w v u) (hd : ∀ t, d = some t → t < a.tmps.size) : Rel w0 mu c (aT st d v) (a.put d u) w where
 eO t := by
   have hg := Fw.aT c st w d v; rw [IN, eval_put]
   by_cases TE : d = some t
   · have := hd t TE
     by_cases hl : t < st.length
     · rw [if_pos ⟨TE, hl⟩, if_pos ⟨TE, this⟩]; exact hg.kZ hv
     · have e : bI st t = .one .bad := by
         unfold bI; rw [fm, List.getElem?_eq_none (by omega)]
       rw [if_neg (fun h => hl h.2), e]; trivial
   · rw [if_neg (fun h => TE h.1), if_neg (fun h => TE h.1)]; exact hg.kZ (h.eO t)
 boxes s sl cs hs hb := by
   obtain ⟨f, hf, hn⟩ := oN st d v s; rw [hn] at hs
   cases hx : nth st s with
   | none => rw [hx] at hs; simp at hs
   | some s0 =>
     rw [hx] at hs; simp at hs; subst hs; rw [(hf s0).1] at hb; exact (h.boxes s s0 cs hx hb).go (Fw.aT c st w d v) rfl rfl rfl
 aI s j sl A hs hb := by
   obtain ⟨f, hf, hn⟩ := oN st d v s; rw [hn] at hs
   cases hx : nth st s with
   | none => rw [hx] at hs; simp at hs
   | some s0 =>
     rw [hx] at hs; simp at hs; subst hs; rw [(hf s0).2.2.1] at hb; exact h.aI s j s0 A hx hb
 owned := h.owned
 free := h.free
 kept := h.kept
 old := h.old
 dK p hp := (Fw.aT c st w d v).dK (h.dK p hp)
 plain := by
   have := h.plain
   cases d <;> simpa [Act.put] using this
theorem Rel.qG {w0 : World} {mu : Mu} {c : Cz} {st : St} {a : Act} {w : World} (h : Rel w0 mu c st a w) {s j g : Nat} {A : fK} (hA : aQ st s j g = some A) : bA c w s j A := by
 obtain ⟨sl, h1, _, h3⟩ := a7 hA; exact h.aI s j sl A h1 h3
theorem bA.lt {c : Cz} {w : World} {s j : Nat} {A : fK} (h : bA c w s j A) {b off cap : Nat} (hl : c.lc s j = .at b off cap) : b < w.heap.size := by
 unfold bA at h; rw [hl] at h; obtain ⟨_, _, ⟨cur, t, h3, _⟩, _⟩ := h; exact (Array.getElem?_eq_some_iff.1 h3).1
end Go.TM
namespace Go.TM
open Go Go.RowKit
def gI : RT → List Value → Prop
 | .nil, vs => vs = []
 | .cons (.int k) r, vs => ∃ l, vs = .int k 0 :: l ∧ gI r l
 | .cons .bool r, vs => ∃ l, vs = .bool false :: l ∧ gI r l
 | .cons .str r, vs => ∃ l, vs = .string ByteArray.empty :: l ∧ gI r l
 | .cons (.sl _) r, vs => ∃ l, vs = .slice none 0 0 :: l ∧ gI r l
def descOf : Ty → TypeDesc → Prop
 | .int k, d => d = .int k
 | .bool, d => d = .bool
 | .str, d => d = .string
 | .sl _, _ => False
structure fh (P : Program) (T : jb) : Prop where
 cells : ∀ t n, T.cells t = some n → (P.info? t).map (·.size) = some n
 agg : ∀ t n, T.cells t = some n → ∃ d, P.underlying t = some d ∧ d.isRow = T.agg t ∧ (T.agg t = false → n = 1)
 off : ∀ t f k, T.off t f = some k → ∃ fs Cf n, P.underlying t = some (.struct fs) ∧ fs[f]? = some Cf ∧ Cf.offset = k ∧ (P.info? Cf.type).map (·.size) = some (n + 1)
 bld : ∀ t, T.agg t = true → ∃ fs bL, P.underlying t = some (.struct fs) ∧ fs.toList.mapM (fun f => (P.info? f.type).map fun i => (f.offset, i.size)) = some bL ∧
   ∀ f o s, T.off t f = some o → T.Tz t f = some s → bL[f]? = some (o, s)
 row : ∀ t r, T.row t = some r → ∃ i z, P.info? t = some i ∧ i.zero = some z ∧ gI r z.cells.toList
 elem : ∀ t r b, T.elem t = some (r, b) → ∃ e i z, P.underlying t = some (.slice e) ∧ P.info? e = some i ∧ i.size = r.width ∧ 0 < r.width ∧ i.bytes = b ∧ 0 < b ∧ i.zero = some z ∧ gI r z.cells.toList
 u8 : ∀ t e b, T.elem t = some (.cons (.int .u8) .nil, b) → P.underlying t = some (.slice e) → P.underlying e = some (.int .u8)
 kind : ∀ t y, T.kind t = some y → ∃ d, P.underlying t = some d ∧ descOf y d
 one : ∀ t f, T.one t f = true → ∃ fs Cf d, P.underlying t = some (.struct fs) ∧ fs[f]? = some Cf ∧ P.underlying Cf.type = some d ∧ d.isRow = false
theorem ir.one {c : Cz} {st : St} {w : World} {x : CV} {v : Value} (h : ir c st w x v) (hs : x.qF = true) : v.oneCell' = true := by
 cases x with
 | bad => simp [CV.qF] at hs
 | int k n => simp only [ir] at h; subst h; rfl
 | bool b => simp only [ir] at h; subst h; rfl
 | str s => simp only [ir] at h; subst h; rfl
 | di => simp only [ir] at h; subst h; rfl
 | F2 => simp only [ir] at h; subst h; rfl
 | shr r xs =>
   rcases (lM _ _ _ _ _).1 h with ⟨rfl, _⟩ | ⟨a, cap, rfl, _⟩ <;> rfl
 | nn r xs =>
   rcases (lM _ _ _ _ _).1 h.1 with ⟨rfl, _⟩ | ⟨a, cap, rfl, _⟩ <;> rfl
 | ref a j g vw => exact h.1
 | ptr b g off => exact h.1
 | IJ a j g i off => exact h.1
 | j6 r x off => obtain ⟨b, o, rfl, _⟩ := h; rfl
 | ql r x off => obtain ⟨b, o, rfl, _⟩ := h; rfl
 | fn g rs xs => obtain ⟨uU, rfl, _⟩ := h; rfl
 | mW a j g e i k q ys => exact h.1
theorem IU {v : Value} (h : v.oneCell' = true) : v.cells = #[v] := by cases v <;> first | rfl | simp [Value.oneCell'] at h
theorem dV.cells {c : Cz} {st : St} {w : World} {x : V} {v : Value} (h : dV c st w x v) (hs : x.qF = true) :
   ek c st w x.cells v.cells.toList ∧ ∀ u ∈ v.cells.toList, u.oneCell' = true := by
 cases x with
 | one x =>
   have h1 : v.oneCell' = true := ir.one (x := x) h hs; rw [IU h1]; refine ⟨⟨rfl, fun i y u hy hu => ?_⟩, fun u hu => by simp at hu; rw [hu]; exact h1⟩
   cases i with
   | zero => simp [V.cells] at hy hu; rw [← hy, ← hu]; exact h
   | succ i => simp [V.cells] at hy
 | agg cs =>
   obtain ⟨vs, rfl, hl⟩ := h; refine ⟨hl, fun u hu => ?_⟩; obtain ⟨i, hi, hu⟩ := List.mem_iff_getElem.1 hu; have Nz : i < cs.length := by rw [hl.1]; exact hi
   have := hl.2 i cs[i] u (List.getElem?_eq_getElem Nz) (by rw [← hu]; exact List.getElem?_eq_getElem hi); exact this.one (List.all_eq_true.1 hs _ (List.getElem_mem Nz))
 | kV us => simp [V.qF] at hs
def Cz.gp (c : Cz) (d b : Nat) : Cz :=
 { bx := fun s => if s = d then b else c.bx s, lc := c.lc, own := fun k => if k = b then some (.box d) else c.own k }
theorem tn (w : World) (o : Obj) (ok wP : Nat → Prop) (h : ∀ b, b < w.heap.size → ok b → wP b) : gH w (w.alloc o) ok wP where
 size := by simp
 block b hb _ := heap_alloc_old w o b hb
 ok := h
theorem Rel.mZ {w0 : World} {mu : Mu} {c : Cz} {st : St} {a : Act} {w : World} (h : Rel w0 mu c st a w) {b : Nat} {l : Lb} (hb : c.own b = some l) : b < w.heap.size := (h.owned b l hb).1
theorem Rel.gp {w0 : World} {mu : Mu} {c : Cz} {st : St} {a : Act} {w : World} (h : Rel w0 mu c st a w) {d : Nat} {s0 : Sl} {cs : List CV} {vs : Array Value} {ty : TypeId}
   (gm : nth st d = some s0) (hd : d < a.tmps.size) (hl : ek c st w cs vs.toList) :
   Rel w0 mu (c.gp d w.heap.size) (kP (fun s => { s with v := .one (.ptr d (s0.bg + 1) 0), box := some cs, bg := s0.bg + 1 }) st d)
     (a.put (some d) (.pointer (some ⟨w.heap.size, 0, none⟩))) (w.alloc (.cells vs ty (0, 0))) := by
 have hn : ∀ s, nth (kP (fun s => { s with v := .one (.ptr d (s0.bg + 1) 0), box := some cs, bg := s0.bg + 1 }) st d) s =
     if s = d then some { s0 with v := .one (.ptr d (s0.bg + 1) 0), box := some cs, bg := s0.bg + 1 } else nth st s := by
   intro s; rw [cL]
   by_cases e : s = d
   · subst e; simp [gm]
   · simp [e]
 generalize kP (fun s => { s with v := .one (.ptr d (s0.bg + 1) 0), box := some cs, bg := s0.bg + 1 }) st d = aP at hn ⊢; have ff : ∀ b, b < w.heap.size → c.ok b → (c.gp d w.heap.size).ok b := by
   intro b hb hc; unfold Cz.ok Cz.gp; simp only [if_neg (show b ≠ w.heap.size by omega)]; exact hc
 have hA : ∀ a' j g, aQ aP a' j g = aQ st a' j g := by
   intro a' j g; unfold aQ; rw [hn]
   by_cases e : a' = d
   · subst e; simp [gm]
   · simp [e]
 have X9 : ∀ a', cD aP a' = cD st a' := by
   intro a'; unfold cD; rw [hn]
   by_cases e : a' = d
   · subst e; simp [gm]
   · simp [e]
 have fB : Fw c st w (c.gp d w.heap.size) aP (w.alloc (.cells vs ty (0, 0))) := {
   stays := tn w _ _ _ ff
   refs := fun a' j g A' _ dL => ⟨A', by rw [← hA]; exact dL, rfl, rfl, rfl, fun _ => ⟨rfl, fun b o cap fN => by
     exact heap_alloc_old w _ b ((h.qG (g := g) (by rw [← hA]; exact dL)).lt fN)⟩⟩
   zF := fun b g lF hg hb => by
     unfold cX at hb ⊢; rw [hn] at hb
     by_cases e : b = d
     · subst e; simp only [if_true] at hb; unfold fI at hg; rw [gm] at hg; have : Nat.beq (s0.bg + 1) g = false := by
         cases hq : Nat.beq (s0.bg + 1) g
         · rfl
         · have := Nat.eq_of_beq_eq_true hq; simp at hg; omega
       simp [this] at hb
     · simp only [e, if_false] at hb; exact ⟨⟨lF, hb⟩, by simp [Cz.gp, e]⟩
   gA := fun a' => by rw [X9]; exact Nat.le_refl _
   gB := fun b => by
     unfold fI; rw [hn]
     by_cases e : b = d
     · subst e; simp [gm]
     · simp [e]
   gE := fun a' => by
     unfold kU; rw [hn]
     by_cases e : a' = d
     · subst e; simp [gm]
     · simp [e] }
 exact {
   eO := fun t => by
     have e1 : bI aP t = if t = d then .one (.ptr d (s0.bg + 1) 0) else bI st t := by
       unfold bI; rw [hn]
       by_cases e : t = d <;> simp [e]
     rw [e1, eval_put]
     by_cases e : t = d
     · subst e; simp only [if_true, true_and, hd]; refine ⟨rfl, ?_, fun lF Gg => by simp [Cz.gp]⟩; unfold fI; rw [hn]; simp
     · simp only [e, if_false]; rw [if_neg (fun h => e (Option.some.inj h.1).symm)]; exact fB.kZ (h.eO t)
   boxes := fun s sl lF hs hb => by
     rw [hn] at hs
     by_cases e : s = d
     · subst e; simp only [if_true, Option.some.injEq] at hs; subst hs; simp only [Option.some.injEq] at hb; subst hb; exact ⟨by simp [Cz.gp], vs, ty, by simp only [Cz.gp, if_true]; exact heap_alloc_new w _, fB.Ny hl⟩
     · simp only [e, if_false] at hs; have Qa := h.boxes s sl lF hs hb; have bP := h.mZ Qa.1; exact Qa.go fB (by simp [Cz.gp, e]) (by simp only [Cz.gp]; rw [if_neg (by omega)]) (heap_alloc_old w _ _ bP)
   aI := fun s j sl A hs dL => by
     rw [hn] at hs; have ha : bA c w s j A := by
       by_cases e : s = d
       · subst e; simp only [if_true, Option.some.injEq] at hs; subst hs; exact h.aI s j s0 A gm dL
       · simp only [e, if_false] at hs; exact h.aI s j sl A hs dL
     refine ha.go fB.stays rfl (fun b hb => ?_); have bP : b < w.heap.size := h.mZ hb; exact ⟨heap_alloc_old w _ b bP, by simp only [Cz.gp]; rw [if_neg (by omega)]⟩
   owned := fun b l hb => by
     simp only [Cz.gp] at hb
     by_cases e : b = w.heap.size
     · subst e; exact ⟨by simp, .inr (.inl h.kept.2.2.2)⟩
     · rw [if_neg e] at hb; have := h.owned b l hb; exact ⟨Nat.lt_of_lt_of_le this.1 (by simp), this.2⟩
   free := fun b hb h1 => by
     simp only [Cz.gp] at h1
     by_cases e : b = w.heap.size
     · rw [if_pos e] at h1; cases h1
     · rw [if_neg e] at h1; exact h.free b hb h1
   kept := ⟨h.kept.1, h.kept.2.1, h.kept.2.2.1, Nat.le_trans h.kept.2.2.2 (by simp)⟩
   old := fun k hk hm => by
     rw [heap_alloc_old w _ k (Nat.lt_of_lt_of_le hk h.kept.2.2.2)]; exact h.old k hk hm
   dK := fun p hp => fB.dK (h.dK p hp)
   plain := h.plain }
end Go.TM
namespace Go.TM
open Go Go.RowKit
theorem a8 {w0 : World} {mu : Mu} {c : Cz} {st : St} {a : Act} {w : World} (h : Rel w0 mu c st a w) (x : Operand) : dV c st w (jQ st x) (a.eval x) := by
 unfold jQ
 split <;> first | exact h.eO _ | rfl | trivial
theorem ek.take {c : Cz} {st : St} {w : World} {cs : List CV} {vs : List Value} (h : ek c st w cs vs) (off n : Nat) : ek c st w ((cs.drop off).take n) ((vs.drop off).take n) := by
 refine ⟨by simp [h.1], fun i x v hx hv => ?_⟩; rw [List.getElem?_take] at hx hv
 by_cases hi : i < n
 · rw [if_pos hi, List.getElem?_drop] at hx hv; exact h.2 _ x v hx hv
 · rw [if_neg hi] at hx; simp at hx
theorem je {n off : Nat} {cs l : List CV} (h : ei n off cs = some l) : l = (cs.drop off).take n ∧ l.length = n := by
 unfold ei at h; obtain ⟨h1, h2⟩ := aD h; have := Option.some.inj h2; subst this; exact ⟨rfl, Nat.eq_of_beq_eq_true h1⟩
def valOf (agg : Bool) (vs : List Value) : Value := if agg then .agg vs.toArray else vs.headD undef
theorem p5 {P : Program} {T : jb} (hT : fh P T) {t n : Nat} (ht : T.cells t = some n) (w : World) (b o : Nat) (vs : List Value) (hv : w.rangeAt b o vs) (hn : vs.length = n) :
   (loadVar t ⟨b, o, none⟩).run P w = .ok (valOf (T.agg t) vs) w := by
 obtain ⟨d, hu, hd, h1⟩ := hT.agg t n ht
 cases hg : T.agg t with
 | true =>
   rw [hg] at hd; have := run_loadVar_mid (P := P) w b o t vs d hv hu hd (by rw [hT.cells t n ht, hn]); simpa [valOf] using this
 | false =>
   have Xs := h1 hg; obtain ⟨v, rfl⟩ : ∃ v, vs = [v] := by
     cases vs with
     | nil => simp at hn; omega
     | cons v l => cases l with
       | nil => exact ⟨v, rfl⟩
       | cons _ _ => simp at hn; omega
   have Qb : (isAgg t).run P w = .ok false w := by
     unfold isAgg; rw [Sem.run_bind, run_underlying hu w]; rw [hg] at hd
     cases d <;> simp_all [TypeDesc.isRow]
   have hc : w.cell? ⟨b, o, none⟩ = some v := by have := hv 0 v rfl; simpa using this
   simp [loadVar, Sem.run_bind, Qb, valOf, run_load, hc]
theorem NA {c : Cz} {st : St} {w : World} {T : jb} {t : Nat} {l : List CV} {vs : List Value} (h : ek c st w l vs) (h1 : T.agg t = false → l.length = 1) :
   dV c st w (Kj T t l) (valOf (T.agg t) vs) := by
 unfold Kj valOf
 cases hg : T.agg t with
 | true => exact ⟨vs.toArray, rfl, by simpa using h⟩
 | false =>
   have hl := h1 hg
   cases l with
   | nil => simp at hl
   | cons x l => cases l with
     | cons _ _ => simp at hl
     | nil => cases vs with
       | nil => have := h.1; simp at this
       | cons v vs => exact h.2 0 x v rfl rfl
theorem yC {w : World} {b off : Nat} {vs : Array Value} {ty : TypeId} {fr : Nat × Nat} (h : w.heap[b]? = some (.cells vs ty fr)) (n : Nat) : w.rangeAt b off ((vs.toList.drop off).take n) := by
 intro j v hv; rw [cell_of_row w b (off + j) vs ty fr h]; rw [List.getElem?_take] at hv
 by_cases hj : j < n
 · rw [if_pos hj, List.getElem?_drop] at hv; simpa using hv
 · rw [if_neg hj] at hv; simp at hv
theorem rz {w : World} {c : Cz} {st : St} : (r : RT) → (b off : Nat) → (x : ak r) → bU w c.ok r b off x →
   ∃ vs, vs.length = r.width ∧ w.rangeAt b off vs ∧ ek c st w (dm r x) vs
 | .nil, _, _, _, _ => ⟨[], rfl, fun j v h => by simp at h, rfl, fun i x v h => by simp [dm] at h⟩
 | .cons t r, b, off, x, h => by
   unfold bU at h; obtain ⟨⟨v, hv, hx⟩, hr⟩ := h; obtain ⟨vs, h1, h2, h3, h4⟩ := rz r b (off + 1) x.2 hr; refine ⟨v :: vs, by simp [RT.width, h1], fun j u hu => ?_, by simp [dm, h3], fun i y u hy hu => ?_⟩
   · cases j with
     | zero => simp at hu; rw [← hu]; exact hv
     | succ j =>
       simp at hu; have := h2 j u hu; rw [show off + (j + 1) = off + 1 + j by omega]; exact this
   · cases i with
     | zero =>
       simp [dm] at hy hu; subst hy hu
       cases t with
       | int k => unfold bz at hx; exact hx
       | bool => unfold bz at hx; exact hx
       | str => unfold bz at hx; exact hx
       | sl q => exact hx
     | succ i =>
       simp [dm] at hy hu; exact h4 i y u hy hu
theorem zU {w : World} {P : List Nat → Nat → Prop} {c : Cz} {st : St} {a j g e i : Nat} {A : fK} {x0 : ak A.r} {bb o cap : Nat} (hA : aQ st a j g = some A) (he : e = kU st a) (hg : g ≤ cD st a) (hm : A.md = .dp) (Kt : A.xs[i]? = some x0) (fN : c.lc a j = .at bb o cap) :
   (r : RT) → (p : List Nat) → (k : Nat) → (x : ak r) → (∀ k', nR r x k' = nR A.r x0 (k + k')) → fo w P r p k bb (o + i * A.r.width + k) x →
   ∃ vs, vs.length = r.width ∧ w.rangeAt bb (o + i * A.r.width + k) vs ∧ ek c st w (nW a j g e i k r x) vs
 | .nil, _, _, _, _, _ => ⟨[], rfl, fun j v h => by simp at h, rfl, fun i x v h => by simp [nW] at h⟩
 | .cons t r, p, k, x, hs, h => by
   unfold fo at h; obtain ⟨⟨v, hv, hx⟩, hr⟩ := h; obtain ⟨vs, h1, h2, h3, h4⟩ := zU hA he hg hm Kt fN r p (k + 1) x.2 (fun k' => by
     rw [show k + 1 + k' = k + (k' + 1) by omega, ← hs]
     cases t <;> rfl) (by rw [show o + i * A.r.width + (k + 1) = o + i * A.r.width + k + 1 by omega]; exact hr)
   refine ⟨v :: vs, by simp [RT.width, h1], fun j u hu => ?_, by simp [nW, h3], fun i' y u hy hu => ?_⟩
   · cases j with
     | zero => simp at hu; rw [← hu]; exact hv
     | succ j =>
       simp at hu; have := h2 j u hu; rw [show o + i * A.r.width + k + (j + 1) = o + i * A.r.width + (k + 1) + j by omega]; exact this
   · cases i' with
     | zero =>
       simp [nW] at hy hu; subst hy hu
       cases t with
       | int k => exact vB.1 hx
       | bool => exact rq.1 hx
       | str => exact vC.1 hx
       | sl q =>
         have hx := (tj _ _ _ _ _ _).1 hx; obtain ⟨lc, _, q1, _⟩ := hx; refine ⟨q1, hg, by rw [he]; exact Nat.le_refl _, fun A' dL _ => ?_⟩; rw [hA] at dL; cases dL; refine ⟨hm, ⟨x0, Kt, ?_⟩, bb, o, cap, fN, hv⟩; have := hs 0; rw [Nat.add_zero] at this; rw [← this]; rfl
     | succ i' =>
       simp [nW] at hy hu; exact h4 i' y u hy hu
theorem p6 {w : World} {b off : Nat} {vs : List Value} (h : w.rangeAt b off vs) (k n : Nat) : w.rangeAt b (off + k) ((vs.drop k).take n) := by
 intro j v hv; rw [List.getElem?_take] at hv
 by_cases hj : j < n
 · rw [if_pos hj, List.getElem?_drop] at hv; rw [Nat.add_assoc]; exact h _ v hv
 · rw [if_neg hj] at hv; simp at hv
def gr (w w' : World) : Prop := w.heap.size ≤ w'.heap.size ∧ ∀ b, b < w.heap.size → w'.heap[b]? = w.heap[b]?
theorem gr.refl (w : World) : gr w w := ⟨Nat.le_refl _, fun _ _ => rfl⟩
theorem gr.trans {w w' TF : World} (h : gr w w') (h' : gr w' TF) : gr w TF :=
 ⟨Nat.le_trans h.1 h'.1, fun b hb => (h'.2 b (Nat.lt_of_lt_of_le hb h.1)).trans (h.2 b hb)⟩
theorem gr.alloc (w : World) (b : Obj) : gr w (w.alloc b) := ⟨by simp, fun k hk => heap_alloc_old w b k hk⟩
theorem gr.range {w w' : World} (h : gr w w') {b o : Nat} {vs : List Value} (hr : w.rangeAt b o vs) : w'.rangeAt b o vs := by
 intro j v hj; have h1 := hr j v hj; rw [World.cell?_of_block (w := w) (h.2 b (H0 h1))]; exact h1
theorem Eb {P : Program} {T : jb} (hT : fh P T) {w0 : World} {mu : Mu} {c : Cz} {st : St} {a : Act} {w : World} (h : Rel w0 mu c st a w)
   {d : Option Nat} {t : Nat} {x : V} {u : Value} (hx : dV c st w x u) {aP : St} (hv : (sM T st d t x).val = some aP) (hd : ∀ k, d = some k → k < a.tmps.size) :
   ∃ v, (∀ w' : World, gr w w' → (Instr.loadAt t u).run P w' = .ok v w') ∧ Rel w0 mu c aP (a.put d v) w := by
 have key : ∀ (b o n : Nat) (l : List CV) (vs : List Value), T.cells t = some n → u = .pointer (some ⟨b, o, none⟩) → w.rangeAt b o vs → vs.length = n → ek c st w l vs →
     (N.done (TM.aT st d (Kj T t l))).val = some aP → ∃ v, (∀ w' : World, gr w w' → (Instr.loadAt t u).run P w' = .ok v w') ∧ Rel w0 mu c aP (a.put d v) w := by
   intro b o n l vs hn hu hr hlen hl qn; simp only [N.val, Option.some.injEq] at qn; subst qn; obtain ⟨dd, _, _, h1⟩ := hT.agg t n hn; refine ⟨valOf (T.agg t) vs, fun w' hk => ?_, h.aT (NA hl (fun hg => by rw [hl.1, hlen]; exact h1 hg)) hd⟩; subst hu; have Ya : w'.rangeAt b o vs := hk.range hr; simp only [Instr.loadAt, Instr.sureAddr, Sem.run_bind, Sem.run_pure, Result.andThen_ok, p5 hT hn w' b o vs Ya hlen]
 cases hn : T.cells t with
 | none => cases x with
   | one y => cases y <;> simp [sM, hn, N.val] at hv
   | agg _ => simp [sM, N.val] at hv
   | kV _ => simp [sM, N.val] at hv
 | some n => cases x with
   | agg _ => simp [sM, N.val] at hv
   | kV _ => simp [sM, N.val] at hv
   | one y => cases y with
     | bad | int _ _ | bool _ | str _ | di | F2 | shr _ _ | nn _ _ | ref _ _ _ _ | fn _ _ _ | mW _ _ _ _ _ _ _ _ => simp [sM, N.val] at hv
     | ptr b g off =>
       simp only [sM, hn] at hv
       cases hb : cX st b g with
       | none => simp [hb, N.val] at hv
       | some cs =>
         simp only [hb] at hv
         cases zv : ei n off cs with
         | none => simp [zv, N.val] at hv
         | some l =>
           simp only [zv] at hv; obtain ⟨rfl, hlen⟩ := je zv; obtain ⟨sl, zV, Nk, zW⟩ := fM hb; obtain ⟨ho, vs, ty, hh, hl⟩ := h.boxes b sl cs zV zW; have hu := hx.2.2 cs hb; refine key _ _ n _ ((vs.toList.drop off).take n) hn hu (yC hh n) ?_ (hl.take off n) hv; rw [← (hl.take off n).1]; exact hlen
     | j6 r y off =>
       simp only [sM, hn] at hv
       cases zv : ei n off (dm r y) with
       | none => simp [zv, N.val] at hv
       | some l =>
         simp only [zv] at hv; obtain ⟨rfl, hlen⟩ := je zv; obtain ⟨b, o, hu, bP, ff, Ec⟩ := hx; obtain ⟨vs, h1, h2, h3⟩ := rz (st := st) r b o y Ec; refine key _ _ n _ ((vs.drop off).take n) hn hu (p6 h2 off n) ?_ (h3.take off n) hv; rw [← (h3.take off n).1]; exact hlen
     | ql r ys off =>
       simp only [sM, hn] at hv
       cases hy : ys[0]? with
       | none => simp [hy, N.val] at hv
       | some y =>
       simp only [hy] at hv; change (match ei n off (dm r y) with | some l => N.done (TM.aT st d (Kj T t l)) | none => N.fail).val = some aP at hv
       cases zv : ei n off (dm r y) with
       | none => simp [zv, N.val] at hv
       | some l =>
         simp only [zv] at hv; obtain ⟨rfl, hlen⟩ := je zv; obtain ⟨b, o, hu, bP, ff, Ec⟩ := hx; obtain ⟨vs, h1, h2, h3⟩ := rz (st := st) r b o y (Ec y hy); refine key _ _ n _ ((vs.drop off).take n) hn hu (p6 h2 off n) ?_ (h3.take off n) hv; rw [← (h3.take off n).1]; exact hlen
     | IJ a' j g i off =>
       simp only [sM, hn] at hv
       cases hA : aQ st a' j g with
       | none => simp [hA, N.val] at hv
       | some A =>
         simp only [hA] at hv; obtain ⟨sl, zV, Nk, zW⟩ := a7 hA; have Ed := h.aI a' j sl A zV zW; obtain ⟨hi, b, o, cap, fN, hu⟩ := hx.2.2 A hA; unfold bA at Ed; rw [fN] at Ed; obtain ⟨_, _, _, eG⟩ := Ed
         cases hm : A.md with
         | ho _ => rw [hm] at hv; simp [N.val] at hv
         | sh =>
           rw [hm] at hv; simp only at hv
           cases vD : A.xs[i]? with
           | none => simp [vD, N.val] at hv
           | some y =>
             simp only [vD] at hv; change (match ei n off (dm A.r y) with | some l => N.done (TM.aT st d (Kj T t l)) | none => N.fail).val = some aP at hv
             cases zv : ei n off (dm A.r y) with
             | none => simp [zv, N.val] at hv
             | some l =>
               simp only [zv] at hv; obtain ⟨rfl, hlen⟩ := je zv; obtain ⟨vs, h1, h2, h3⟩ := rz (st := st) A.r b _ y ((bh.sh hm).1 eG i y vD); refine key _ _ n _ ((vs.drop off).take n) hn hu (p6 h2 off n) ?_ (h3.take off n) hv; rw [← (h3.take off n).1]; exact hlen
         | dp =>
           rw [hm] at hv; simp only at hv
           cases vD : A.xs[i]? with
           | none => simp [vD, N.val] at hv
           | some y =>
             simp only [vD] at hv; change (match ei n off (nW a' j g (kU st a') i 0 A.r y) with | some l => N.done (TM.aT st d (Kj T t l)) | none => N.fail).val = some aP at hv
             cases zv : ei n off (nW a' j g (kU st a') i 0 A.r y) with
             | none => simp [zv, N.val] at hv
             | some l =>
               simp only [zv] at hv; obtain ⟨rfl, hlen⟩ := je zv; unfold bh at eG; rw [hm] at eG; obtain ⟨gg, _, eG⟩ := eG; obtain ⟨vs, h1, h2, h3⟩ := zU (st := st) hA rfl hx.2.1 hm vD fN A.r _ 0 y (fun k' => by rw [Nat.zero_add]) (eG i y vD); rw [Nat.add_zero] at h2; refine key _ _ n _ ((vs.drop off).take n) hn hu (p6 h2 off n) ?_ (h3.take off n) hv; rw [← (h3.take off n).1]; exact hlen
end Go.TM
namespace Go.TM
open Go Go.RowKit
def bZ (w : World) (ok : Nat → Prop) : (r : RT) → List Value → ak r → Prop
 | .nil, vs, _ => vs = []
 | .cons t r, vs, x => ∃ v l, vs = v :: l ∧ bz w ok t v x.1 ∧ bZ w ok r l x.2
theorem bZ.length {w : World} {ok : Nat → Prop} : (r : RT) → (vs : List Value) → (x : ak r) → bZ w ok r vs x → vs.length = r.width
 | .nil, vs, _, h => by simp only [bZ] at h; subst h; rfl
 | .cons t r, vs, x, h => by
   obtain ⟨v, l, rfl, _, h⟩ := h; simp [RT.width, bZ.length r l x.2 h]
theorem k9 {w : World} {ok : Nat → Prop} : (r : RT) → (b off : Nat) → (x : ak r) → (bU w ok r b off x ↔ ∃ vs, w.rangeAt b off vs ∧ bZ w ok r vs x)
 | .nil, _, _, _ => by
   unfold bU; exact ⟨fun _ => ⟨[], fun j v h => by simp at h, rfl⟩, fun _ => trivial⟩
 | .cons t r, b, off, x => by
   unfold bU
   constructor
   · rintro ⟨⟨v, hv, hx⟩, hr⟩
     obtain ⟨vs, h1, h2⟩ := (k9 r b (off + 1) x.2).1 hr; refine ⟨v :: vs, fun j u hu => ?_, v, vs, rfl, hx, h2⟩
     cases j with
     | zero => simp at hu; rw [← hu]; exact hv
     | succ j =>
       simp at hu; rw [show off + (j + 1) = off + 1 + j by omega]; exact h1 j u hu
   · rintro ⟨vs, h1, v, l, rfl, hx, h2⟩
     refine ⟨⟨v, h1 0 v rfl, hx⟩, (k9 r b (off + 1) x.2).2 ⟨l, fun j u hu => ?_, h2⟩⟩; have := h1 (j + 1) u (by simpa using hu); rw [show off + 1 + j = off + (j + 1) by omega]; exact this
theorem bZ.stays {w w' : World} {ok wP : Nat → Prop} (h : gH w w' ok wP) : (r : RT) → (vs : List Value) → (x : ak r) → bZ w ok r vs x → bZ w' wP r vs x
 | .nil, _, _, hr => hr
 | .cons t r, _, x, ⟨v, l, e, hx, hr⟩ => ⟨v, l, e, bz.stays h t v x.1 hx, bZ.stays h r l x.2 hr⟩
theorem zX {w : World} {c : Cz} {st : St} : (r : RT) → (x : ak r) → (k : Nat) → (y : CV) → (z : ak r) → (vs : List Value) → (u : Value) →
   eT r x k y = some z → ir c st w y u → bZ w c.ok r vs x → bZ w c.ok r (vs.set k u) z
 | .nil, _, _, _, _, _, _, h, _, _ => by simp [eT] at h
 | .cons t r, x, 0, y, z, vs, u, h, hu, hv => by
   obtain ⟨v, l, rfl, hx, hr⟩ := hv
   cases t with
   | int k => cases y <;> simp [eT] at h
              obtain ⟨rfl, h⟩ := h; obtain rfl := Option.some.inj h; refine ⟨u, l, rfl, ?_, hr⟩; unfold bz; exact hu
   | bool => cases y <;> simp [eT] at h
             obtain rfl := Option.some.inj h; refine ⟨u, l, rfl, ?_, hr⟩; unfold bz; exact hu
   | str => cases y <;> simp [eT] at h
            obtain rfl := Option.some.inj h; refine ⟨u, l, rfl, ?_, hr⟩; unfold bz; exact hu
   | sl q => cases y <;> simp [eT] at h
 | .cons t r, x, k + 1, y, z, vs, u, h, hu, hv => by
   obtain ⟨v, l, rfl, hx, hr⟩ := hv; have h' : (eT r x.2 k y).map (fun z => ((x.1, z) : ak (.cons t r))) = some z := by cases t <;> (simp only [eT] at h; exact h)
   cases hq : eT r x.2 k y with
   | none => simp [hq] at h'
   | some z' =>
     rw [hq] at h'; obtain rfl := Option.some.inj h'; exact ⟨v, l.set k u, rfl, hx, zX r x.2 k y z' l u hq hu hr⟩
def bp (vs : List Value) (off : Nat) (us : List Value) : List Value := vs.take off ++ us ++ vs.drop (off + us.length)
theorem yD {vs : List Value} {off : Nat} {u : Value} {us : List Value} (h : off < vs.length) : bp vs off (u :: us) = (bp vs (off + 1) us).set off u := by
 unfold bp; apply List.ext_getElem?; intro k; simp only [List.getElem?_set, List.getElem?_append, List.length_append, List.length_take, List.length_cons, List.getElem?_drop, List.getElem?_cons]
 by_cases h1 : k < off
 · have a1 : min off vs.length = off := by omega
   have a2 : min (off + 1) vs.length = off + 1 := by omega
   have a3 : off ≠ k := by omega
   simp only [a1, a2, a3, if_false, h1, show k < off + (us.length + 1) by omega, show k < off + 1 + us.length by omega, show k < off + 1 by omega, if_true, List.getElem?_take]
 · by_cases h2 : k = off
   · subst h2; have a1 : min k vs.length = k := by omega
     have a2 : min (k + 1) vs.length = k + 1 := by omega
     have a3 : min k vs.length - k = 0 := by omega
     simp [a1, a2, h]; omega
   · have a1 : min off vs.length = off := by omega
     have a2 : min (off + 1) vs.length = off + 1 := by omega
     obtain ⟨m, rfl⟩ : ∃ m, k = off + 1 + m := ⟨k - (off + 1), by omega⟩; have a3 : off ≠ off + 1 + m := by omega
     simp only [a1, a2, a3, if_false, show ¬ off + 1 + m < off by omega, show off + 1 + m - off = m + 1 by omega, show ¬ off + 1 + m < off + 1 by omega, show off + 1 + m - (off + 1) = m by omega,
       Nat.add_one_ne_zero, Nat.add_sub_cancel]
     by_cases h3 : m < us.length
     · rw [if_pos (by omega), if_pos (by omega)]
     · rw [if_neg (by omega), if_neg (by omega)]
       congr 1
       omega
theorem fw {vs : List Value} {off : Nat} {us : List Value} (h : off + us.length ≤ vs.length) : (bp vs off us).length = vs.length := by
 unfold bp; simp; omega
theorem zY {w : World} {c : Cz} {st : St} (r : RT) (x : ak r) : (off : Nat) → (cs : List CV) → (z : ak r) → (vs us : List Value) → off + us.length ≤ vs.length →
   jc r x off cs = some z → ek c st w cs us → bZ w c.ok r vs x → bZ w c.ok r (bp vs off us) z
 | off, [], z, vs, us, _, h, hl, hv => by
   have : us = [] := by have := hl.1; simp at this; exact List.length_eq_zero_iff.1 this.symm
   subst this; simp [jc] at h; subst h; simp [bp]; exact hv
 | off, y :: l, z, vs, us, hle, h, hl, hv => by
   cases us with
   | nil => have := hl.1; simp at this
   | cons u us =>
     simp only [jc] at h
     cases hq : jc r x (off + 1) l with
     | none => simp [hq] at h
     | some y' =>
       simp only [hq] at h; simp at hle; have ih := zY r x (off + 1) l y' vs us (by omega) hq ⟨by have := hl.1; simpa using this, fun i a b ha hb => hl.2 (i + 1) a b (by simpa using ha) (by simpa using hb)⟩ hv; rw [yD (by omega)]; exact zX r y' off y z _ u h (hl.2 0 y u rfl rfl) ih
theorem rB {w : World} {c : Cz} {b : Nat} {l : Lb} (hb : c.own b = some l) (cur : Array Value) : gH w (w.setRow b cur) c.ok c.ok where
 size := by simp [World.setRow]
 block k _ hk := setRow_other w b k cur (fun e => by subst e; unfold Cz.ok at hk; rw [hb] at hk; cases hk)
 ok _ _ h := h
theorem kD {P : Program} {T : jb} (hT : fh P T) {t n : Nat} (ht : T.cells t = some n) (w : World) (b o : Nat) (v : Value) (hn : v.cells.toList.length = n) (h1 : ∀ u ∈ v.cells.toList, u.oneCell' = true)
   {cur : Array Value} {ty : TypeId} (hg : w.heap[b]? = some (.cells cur ty (0, 0))) (hle : o + n ≤ cur.size) :
   (Instr.storeAt t (.pointer (some ⟨b, o, none⟩)) v).run P w = .ok () (w.setRow b (bp cur.toList o v.cells.toList).toArray) := by
 have hs := run_storeCells_at P b o ty v.cells.toList 0 cur w hg (by omega) h1; have hi := hT.cells t n ht
 cases hq : P.info? t with
 | none => simp [hq] at hi
 | some i =>
   have jv : v.cells.size = i.size := by simp [hq] at hi; rw [hi, ← hn]; simp
   simp only [Nat.add_zero] at hs; simp [Instr.storeAt, Instr.sureAddr, storeVar, sizeOf, typeInfo, hq, jv, hs, bp]
end Go.TM
namespace Go.TM
open Go Go.RowKit
theorem View.uD {α : Type} (vw : View) (xs : List α) {i : Nat} {x : α} (h : (vw.app xs)[i]? = some x) : xs[vw.lo + i]? = some x := by
 cases vw with
 | full => simpa [View.app, View.lo] using h
 | «from» lo => simpa [View.app, View.lo, List.getElem?_drop] using h
 | sub lo n =>
   simp only [View.app, View.lo, List.getElem?_take, List.getElem?_drop] at h ⊢
   by_cases hi : i < n
   · rwa [if_pos hi] at h
   · rw [if_neg hi] at h; simp at h
theorem wR {c : Cz} {w : World} {s j : Nat} {A : fK} (h : bA c w s j A) {vw : View} {u : Value} (hu : gP (c.lc s j) A.r.width vw.lo (vw.app A.xs).length u)
   {ok : Nat → Prop} (h1 : ∀ b, c.ok b → ok b) (h2 : ∀ b, A.own = true ∨ A.md = .dp → c.own b = some (.sp s j) → ok b) (uV : A.md.C3 = false) : bz w ok (.sl A.r) u (vw.app A.xs) := by
 rw [lM]
 cases hl : c.lc s j with
 | nil =>
   unfold gP at hu; rw [hl] at hu; obtain ⟨rfl, hn⟩ := hu; exact .inl ⟨rfl, List.length_eq_zero_iff.1 hn⟩
 | «at» b off cap =>
   unfold gP at hu; rw [hl] at hu; obtain ⟨a, k, rfl, hk, wS, ha⟩ := hu; unfold bA at h; rw [hl] at h; obtain ⟨h0, _, ⟨cur, ty, h3, _⟩, h5⟩ := h; have h5 : ∀ (i : Nat) x, A.xs[i]? = some x → bU w ok A.r b (off + i * A.r.width) x := by
     unfold bh at h5
     cases hm : A.md with
     | sh => rw [hm] at h5; exact fun i x hx => bU.stays ⟨Nat.le_refl _, fun _ _ _ => rfl, fun b _ hb => h1 b hb⟩ _ _ _ x rfl (h5 i x hx)
     | dp =>
       rw [hm] at h5; obtain ⟨g, _, h5⟩ := h5; exact fun i x hx => fo.rep (fun p k hk => h2 k (.inr hm) hk.1) _ _ _ _ _ x (h5 i x hx)
     | ho _ => rw [hm] at uV; cases uV
   have hob : ok b := by
     cases ho : A.own with
     | true => rw [ho] at h0; exact h2 b (.inl ho) h0
     | false => rw [ho] at h0; exact h1 b h0
   have hs : gH w w c.ok ok := ⟨Nat.le_refl _, fun _ _ _ => rfl, fun b _ hb => h1 b hb⟩; refine .inr ⟨a, k, rfl, hk, fun fk => ?_, fun i x hi => ?_⟩
   · have : k ≠ 0 := by
       have := List.length_pos_iff.2 fk; omega
     rw [ha this]; exact ⟨rfl, (Array.getElem?_eq_some_iff.1 h3).1, hob⟩
   · have Yb : k ≠ 0 := by
       have := (List.getElem?_eq_some_iff.1 hi).1; omega
     rw [ha Yb]; have := h5 _ x (View.uD vw A.xs hi); have e : off + vw.lo * A.r.width + i * A.r.width = off + (vw.lo + i) * A.r.width := by rw [Nat.add_mul]; omega
     show bU w ok A.r b (off + vw.lo * A.r.width + i * A.r.width) x; rw [e]; exact this
theorem aX {r s : RT} {xs : List (ak r)} {ys : List (ak s)} (h : bn s xs = some ys) : ∃ e : r = s, ys = e ▸ xs := by
 unfold bn at h
 cases hq : RT.eq? r s with
 | none => simp [hq] at h
 | some p => obtain ⟨e⟩ := p; simp [hq] at h; exact ⟨e, h.symm⟩
def Cz.drop1 (c : Cz) (a j : Nat) : Cz :=
 { c with own := fun k => match c.own k with | some (.sp s i) => if s = a ∧ i = j then none else some (.sp s i) | l => l }
theorem Cz.zZ {c : Cz} {a j b : Nat} (h : c.ok b) : (c.drop1 a j).ok b := by
 unfold Cz.ok Cz.drop1 at *; simp [h]
theorem Cz.z7 {c : Cz} {a j b : Nat} (h : c.own b = some (.sp a j)) : (c.drop1 a j).ok b := by
 unfold Cz.ok Cz.drop1; simp [h]
theorem Cz.Gh {c : Cz} {a j b : Nat} {l : Lb} (h : (c.drop1 a j).own b = some l) : c.own b = some l := by
 unfold Cz.drop1 at h; simp only at h
 cases hc : c.own b with
 | none => simp [hc] at h
 | some l' => cases l' with
   | box s => simp [hc] at h; rw [h]
   | out => simp [hc] at h; rw [h]
   | bB i k => simp [hc] at h; rw [h]
   | qD i => simp [hc] at h; rw [h]
   | gn k => simp [hc] at h; rw [h]
   | sp s i =>
     simp only [hc] at h
     by_cases e : s = a ∧ i = j
     · simp [e] at h
     · rw [if_neg e] at h; exact h
theorem Cz.oO {c : Cz} {a j b : Nat} {l : Lb} (h : c.own b = some l) (fk : l ≠ .sp a j) : (c.drop1 a j).own b = some l := by
 unfold Cz.drop1; simp only [h]
 cases l with
 | box s => rfl
 | out => rfl
 | bB i k => rfl
 | qD i => rfl
 | gn k => rfl
 | sp s i =>
   simp only; rw [if_neg]
   rintro ⟨rfl, rfl⟩
   exact fk rfl
def ec (st : St) (a j : Nat) : St := kP (fun s => { s with aI := kP (fun A => A.map fK.fz) s.aI j, ep := s.ep + 1 }) st a
theorem Ee (st : St) (a j : Nat) (l : List (Nat × Nat)) : freeze st ((a, j) :: l) = freeze (ec st a j) l := rfl
theorem ga (st : St) (a j s : Nat) : ∃ f : Sl → Sl, (∀ x, (f x).v = x.v ∧ (f x).box = x.box ∧ (f x).bg = x.bg ∧ (f x).ag = x.ag ∧
     (∀ i, nth (f x).aI i = if s = a ∧ i = j then (nth x.aI i).map (fun A => A.map fK.fz) else nth x.aI i) ∧ (f x).ep = if s = a then x.ep + 1 else x.ep) ∧ nth (ec st a j) s = (nth st s).map f := by
 unfold ec
 by_cases h : s = a
 · subst h; refine ⟨fun s => { s with aI := kP (fun A => A.map fK.fz) s.aI j, ep := s.ep + 1 }, fun x => ⟨rfl, rfl, rfl, rfl, fun i => ?_, by simp⟩, hY _ _ _⟩; simp only [cL, true_and]
 · refine ⟨id, fun x => ⟨rfl, rfl, rfl, rfl, fun i => ?_, by simp [h]⟩, by rw [ki _ _ h]; simp⟩; simp [h]
theorem yE (st : St) (a j b : Nat) : kU st b ≤ kU (ec st a j) b ∧ (kU (ec st a j) b = kU st b → b ≠ a ∨ nth st b = none) := by
 obtain ⟨f, hf, hn⟩ := ga st a j b; unfold kU; rw [hn]
 cases hx : nth st b with
 | none => simp
 | some x =>
   simp only [Option.map_some]; rw [(hf x).2.2.2.2.2]
   by_cases e : b = a
   · rw [if_pos e]; exact ⟨by omega, fun h => by omega⟩
   · rw [if_neg e]; exact ⟨Nat.le_refl _, fun _ => .inl e⟩
theorem Da (st : St) (a j t : Nat) : bI (ec st a j) t = bI st t := by
 obtain ⟨f, hf, hn⟩ := ga st a j t; unfold bI; rw [hn]
 cases nth st t with
 | none => rfl
 | some x => exact (hf x).1
theorem Db {st : St} {a j a' j' g : Nat} {A' : fK} (h : aQ (ec st a j) a' j' g = some A') : ∃ A, aQ st a' j' g = some A ∧ A'.r.width = A.r.width ∧ A'.xs.length = A.xs.length ∧ (a' ≠ a → A' = A) := by
 obtain ⟨sl, h1, h2, h3⟩ := a7 h; obtain ⟨f, hf, hn⟩ := ga st a j a'; rw [hn] at h1
 cases hx : nth st a' with
 | none => rw [hx] at h1; simp at h1
 | some x =>
   rw [hx] at h1; simp at h1; subst h1; obtain ⟨_, _, _, f4, f5, _⟩ := hf x; rw [f5] at h3; rw [f4] at h2; have key : ∃ A, nth x.aI j' = some (some A) ∧ A'.r.width = A.r.width ∧ A'.xs.length = A.xs.length ∧ (a' ≠ a → A' = A) := by
     by_cases e : a' = a ∧ j' = j
     · rw [if_pos e] at h3
       cases hj : nth x.aI j' with
       | none => simp [hj] at h3
       | some o => cases o with
         | none => simp [hj] at h3
         | some A => simp [hj] at h3; subst h3; exact ⟨A, rfl, rfl, rfl, fun h => absurd e.1 h⟩
     · rw [if_neg e] at h3; exact ⟨A', h3, rfl, rfl, fun _ => rfl⟩
   obtain ⟨A, k1, k2, k3⟩ := key; refine ⟨A, ?_, k2, k3⟩; unfold aQ; rw [hx]; have : Nat.beq x.ag g = true := by rw [h2]; exact Nat.beq_refl g
   simp [this, k1]
theorem Dc (st : St) (a j b g : Nat) : cX (ec st a j) b g = cX st b g := by
 obtain ⟨f, hf, hn⟩ := ga st a j b; unfold cX; rw [hn]
 cases nth st b with
 | none => rfl
 | some x => obtain ⟨_, h2, h3, _⟩ := hf x; simp [h2, h3]
theorem Dd (st : St) (a j b : Nat) : cD (ec st a j) b = cD st b := by
 obtain ⟨f, hf, hn⟩ := ga st a j b; unfold cD; rw [hn]
 cases nth st b with
 | none => rfl
 | some x => exact (hf x).2.2.2.1
theorem De (st : St) (a j b : Nat) : fI (ec st a j) b = fI st b := by
 obtain ⟨f, hf, hn⟩ := ga st a j b; unfold fI; rw [hn]
 cases nth st b with
 | none => rfl
 | some x => exact (hf x).2.2.1
theorem Fw.ec (c : Cz) (st : St) (w : World) (a j : Nat) : Fw c st w (c.drop1 a j) (ec st a j) w where
 stays := ⟨Nat.le_refl _, fun _ _ _ => rfl, fun _ _ h => Cz.zZ h⟩
 refs a' j' g A' _ dL := by
   obtain ⟨A, h1, h2, h3, h4⟩ := Db dL; refine ⟨A, h1, h2, h3, rfl, fun he => ⟨?_, fun _ _ _ _ => rfl⟩⟩; rcases (yE st a j a').2 he with e | e
   · exact h4 e
   · unfold aQ at h1; rw [e] at h1; cases h1
 zF b g lF _ h := ⟨⟨lF, by rwa [Dc] at h⟩, rfl⟩
 gA b := by rw [Dd]; exact Nat.le_refl _
 gB b := by rw [De]; exact Nat.le_refl _
 gE b := (yE st a j b).1
theorem Rel.ec {w0 : World} {mu : Mu} {c : Cz} {st : St} {a : Act} {w : World} (h : Rel w0 mu c st a w) (s j : Nat) : Rel w0 mu (c.drop1 s j) (ec st s j) a w where
 eO t := by rw [Da]; exact (Fw.ec c st w s j).kZ (h.eO t)
 boxes b sl cs hs hb := by
   obtain ⟨f, hf, hn⟩ := ga st s j b; rw [hn] at hs
   cases hx : nth st b with
   | none => rw [hx] at hs; simp at hs
   | some x =>
     rw [hx] at hs; simp at hs; subst hs; rw [(hf x).2.1] at hb; have h0 := h.boxes b x cs hx hb; exact h0.go (Fw.ec c st w s j) rfl (by rw [h0.1]; exact Cz.oO h0.1 (by simp)) rfl
 aI b i sl A hs hb := by
   obtain ⟨f, hf, hn⟩ := ga st s j b; rw [hn] at hs
   cases hx : nth st b with
   | none => rw [hx] at hs; simp at hs
   | some x =>
     rw [hx] at hs; simp at hs; subst hs; rw [(hf x).2.2.2.2.1 i] at hb
     by_cases e : b = s ∧ i = j
     · rw [if_pos e] at hb
       cases hj : nth x.aI i with
       | none => simp [hj] at hb
       | some o => cases o with
         | none => simp [hj] at hb
         | some B =>
           simp [hj] at hb; subst hb; have h0 := h.aI b i x B hx hj; unfold bA at h0 ⊢; show match c.lc b i with | .nil => _ | .at b off cap => _
           cases hl : c.lc b i with
           | nil => rw [hl] at h0; exact h0
           | «at» k off cap =>
             rw [hl] at h0; obtain ⟨h1, h2, h3, h4⟩ := h0; refine ⟨?_, h2, h3, ?_⟩
             · show (c.drop1 s j).own k = none
               cases ho : B.own with
               | true => rw [ho] at h1; obtain ⟨rfl, rfl⟩ := e; exact Cz.z7 h1
               | false => rw [ho] at h1; exact Cz.zZ h1
             · unfold bh at h4 ⊢; show match B.md.fz with | .sh => _ | .dp => _ | .ho _ => _
               cases hm : B.md with
               | sh => rw [hm] at h4; exact fun i x hi => bU.stays (Fw.ec c st w s j).stays _ _ _ x rfl (h4 i x hi)
               | dp =>
                 rw [hm] at h4; obtain ⟨g, _, h4⟩ := h4; obtain ⟨rfl, rfl⟩ := e; exact fun i x hi => fo.rep (fun p k hk => Cz.z7 hk.1) _ _ _ _ _ x (h4 i x hi)
               | ho q => exact fun e => by cases e
     · rw [if_neg e] at hb; have h0 := h.aI b i x A hx hb; refine h0.go (Fw.ec c st w s j).stays rfl (fun k h1 => ⟨rfl, ?_⟩); rw [h1]; exact Cz.oO h1 (by rintro e'; injection e' with e1 e2; exact e ⟨e1, e2⟩)
 owned b l hb := h.owned b l (Cz.Gh hb)
 free b hb h1 := by
   cases hc : c.own b with
   | none => exact h.free b hb hc
   | some l =>
     rcases (h.owned b l hc).2 with h2 | h2 | h2
     · subst h2; unfold Cz.drop1 at h1; simp [hc] at h1
     · omega
     · exact .inl h2
 kept := h.kept
 old := h.old
 dK p hp := (Fw.ec c st w s j).dK (h.dK p hp)
 plain := h.plain
def Cz.drop (c : Cz) : List (Nat × Nat) → Cz
 | [] => c
 | (a, j) :: l => (c.drop1 a j).drop l
theorem Rel.freeze {w0 : World} {mu : Mu} {a : Act} {w : World} : (m : List (Nat × Nat)) → {c : Cz} → {st : St} → Rel w0 mu c st a w → Rel w0 mu (c.drop m) (freeze st m) a w
 | [], _, _, h => h
 | (s, j) :: m, _, _, h => Rel.freeze m (h.ec s j)
theorem Cz.wT : (m : List (Nat × Nat)) → (c : Cz) → (b : Nat) → c.ok b → (c.drop m).ok b
 | [], _, _, h => h
 | (a, j) :: m, c, b, h => Cz.wT m (c.drop1 a j) b (Cz.zZ h)
theorem Cz.zG : (m : List (Nat × Nat)) → (c : Cz) → (b : Nat) → {a j : Nat} → c.own b = some (.sp a j) → (a, j) ∈ m → (c.drop m).ok b
 | [], _, _, _, _, _, h => by simp at h
 | (a', j') :: m, c, b, a, j, h, hm => by
   by_cases e : a' = a ∧ j' = j
   · obtain ⟨rfl, rfl⟩ := e; exact Cz.wT m _ b (Cz.z7 h)
   · refine Cz.zG m (c.drop1 a' j') b (Cz.oO h (by rintro e'; injection e' with e1 e2; exact e ⟨e1.symm, e2.symm⟩)) ?_; rcases List.mem_cons.1 hm with h' | h'
     · injection h' with e1 e2; exact absurd ⟨e1.symm, e2.symm⟩ e
     · exact h'
theorem Cz.H2 : (m : List (Nat × Nat)) → (c : Cz) → (c.drop m).lc = c.lc ∧ (c.drop m).bx = c.bx
 | [], _ => ⟨rfl, rfl⟩
 | (a, j) :: m, c => Cz.H2 m (c.drop1 a j)
theorem Cz.Cg : (m : List (Nat × Nat)) → (c : Cz) → (b : Nat) → {l : Lb} → c.own b = some l → (∀ p ∈ m, l ≠ .sp p.1 p.2) → (c.drop m).own b = some l
 | [], _, _, _, h, _ => h
 | (a, j) :: m, c, b, l, h, hm => Cz.Cg m (c.drop1 a j) b (Cz.oO h (hm (a, j) (by simp))) (fun p hp => hm p (by simp [hp]))
theorem Fw.trans {c c1 c2 : Cz} {st xY fG : St} {w w1 w2 : World} (h : Fw c st w c1 xY w1) (k : Fw c1 xY w1 c2 fG w2) : Fw c st w c2 fG w2 where
 stays := ⟨Nat.le_trans h.stays.size k.stays.size, fun b hb ho => (k.stays.block b (Nat.lt_of_lt_of_le hb h.stays.size) (h.stays.ok b hb ho)).trans (h.stays.block b hb ho),
   fun b hb ho => k.stays.ok b (Nat.lt_of_lt_of_le hb h.stays.size) (h.stays.ok b hb ho)⟩
 refs a j g A' hg dL := by
   obtain ⟨A1, h1, h2, h3, h4, h5⟩ := k.refs a j g A' (Nat.le_trans hg (h.gA a)) dL; obtain ⟨A, k1, k2, k3, k4, k5⟩ := h.refs a j g A1 hg h1; refine ⟨A, k1, h2.trans k2, h3.trans k3, h4.trans k4, fun he => ?_⟩; have g1 := h.gE a; have g2 := k.gE a; obtain ⟨e1, e2⟩ := h5 (by omega); obtain ⟨e3, e4⟩ := k5 (by omega); exact ⟨e1.trans e3, fun b o cap hl => (e2 b o cap (by rw [k4]; exact hl)).trans (e4 b o cap hl)⟩
 zF b g lF hg hb := by
   obtain ⟨⟨cs1, h1⟩, h2⟩ := k.zF b g lF (Nat.le_trans hg (h.gB b)) hb; obtain ⟨h3, h4⟩ := h.zF b g cs1 hg h1; exact ⟨h3, h2.trans h4⟩
 gA a := Nat.le_trans (h.gA a) (k.gA a)
 gB b := Nat.le_trans (h.gB b) (k.gB b)
 gE b := Nat.le_trans (h.gE b) (k.gE b)
theorem Fw.refl (c : Cz) (st : St) (w : World) : Fw c st w c st w := ⟨gH.refl w _, fun _ _ _ A' _ h => ⟨A', h, rfl, rfl, rfl, fun _ => ⟨rfl, fun _ _ _ _ => rfl⟩⟩, fun _ _ lF _ h => ⟨⟨lF, h⟩, rfl⟩, fun _ => Nat.le_refl _, fun _ => Nat.le_refl _, fun _ => Nat.le_refl _⟩
theorem Fw.freeze (w : World) : (m : List (Nat × Nat)) → (c : Cz) → (st : St) → Fw c st w (c.drop m) (freeze st m) w
 | [], c, st => Fw.refl c st w
 | (a, j) :: m, c, st => (Fw.ec c st w a j).trans (Fw.freeze w m (c.drop1 a j) (TM.ec st a j))
theorem wU {w0 : World} {mu : Mu} {c : Cz} {st : St} {a : Act} {w : World} (h : Rel w0 mu c st a w) : (r : RT) → (cs : List CV) → (us : List Value) → ek c st w cs us →
   (k : ak r → List (Nat × Nat) → N) → {aP : St} → (rowOf st r cs k).val = some aP →
   ∃ x m, (k x m).val = some aP ∧ (∀ p ∈ m, ∃ g A, aQ st p.1 p.2 g = some A) ∧
     ∀ ok : Nat → Prop, (∀ b, c.ok b → ok b) → (∀ p ∈ m, ∀ b, c.own b = some (.sp p.1 p.2) → ok b) → bZ w ok r us x
 | .nil, cs, us, hl, k, aP, hv => by
   cases cs with
   | cons _ _ => simp [rowOf, N.val] at hv
   | nil =>
     have : us = [] := by have := hl.1; simp at this; exact List.length_eq_zero_iff.1 this.symm
     subst this; exact ⟨(), [], hv, fun p hp => by simp at hp, fun _ _ _ => rfl⟩
 | .cons t r, cs, us, hl, k, aP, hv => by
   cases cs with
   | nil => cases t <;> simp [rowOf, N.val] at hv
   | cons y cs =>
     cases us with
     | nil => have := hl.1; simp at this
     | cons u us =>
       have hu : ir c st w y u := hl.2 0 y u rfl rfl; have vi : ek c st w cs us := ⟨by have := hl.1; simpa using this, fun i a b ha hb => hl.2 (i + 1) a b (by simpa using ha) (by simpa using hb)⟩; have plain : ∀ (d : den t), (∀ ok : Nat → Prop, (∀ b, c.ok b → ok b) → bz w ok t u d) → (rowOf st r cs (fun x m => k (d, x) m)).val = some aP →
           ∃ x m, (k x m).val = some aP ∧ (∀ p ∈ m, ∃ g A, aQ st p.1 p.2 g = some A) ∧
             ∀ ok : Nat → Prop, (∀ b, c.ok b → ok b) → (∀ p ∈ m, ∀ b, c.own b = some (.sp p.1 p.2) → ok b) → bZ w ok (.cons t r) (u :: us) x := by
         intro d hd hv; obtain ⟨x, m, h1, h2, h3⟩ := wU h r cs us vi _ hv; exact ⟨(d, x), m, h1, h2, fun ok ho hm => ⟨u, us, rfl, hd ok ho, h3 ok ho hm⟩⟩
       cases t with
       | int q =>
         cases y with
         | int l n =>
           simp only [rowOf] at hv
           by_cases e : q = l
           · rw [if_pos e] at hv; exact plain n (fun ok _ => oM.2 (by rw [e]; exact hu)) hv
           · rw [if_neg e] at hv; simp [N.val] at hv
         | _ => simp [rowOf, N.val] at hv
       | bool =>
         cases y with
         | bool b => exact plain b (fun ok _ => pZ.2 hu) (by simpa only [rowOf] using hv)
         | _ => simp [rowOf, N.val] at hv
       | str =>
         cases y with
         | str s => exact plain s (fun ok _ => ti.2 hu) (by simpa only [rowOf] using hv)
         | _ => simp [rowOf, N.val] at hv
       | sl q =>
         cases y with
         | di => exact plain ([] : List (ak q)) (fun ok _ => (lM _ _ _ _ _).2 (.inl ⟨hu, rfl⟩)) (by simpa only [rowOf] using hv)
         | shr r' ys =>
           simp only [rowOf] at hv
           cases hc : bn q ys with
           | none => simp [hc, N.val] at hv
           | some zs =>
             simp only [hc] at hv; obtain ⟨rfl, rfl⟩ := aX hc; exact plain _ (fun ok ho => bz.stays ⟨Nat.le_refl _, fun _ _ _ => rfl, fun b _ hb => ho b hb⟩ _ _ _ hu) hv
         | ref a' j g vw =>
           simp only [rowOf] at hv
           cases hA : aQ st a' j g with
           | none => simp [hA, N.val] at hv
           | some A =>
             simp only [hA] at hv; have uV : A.md.C3 = false := by
               cases hm : A.md with
               | ho _ => rw [hm] at hv; simp [N.val] at hv
               | _ => rfl
             have hv : (match bn q A.xs with
                 | some ys => rowOf st r cs (fun x m => k (vw.app ys, x) ((a', j) :: m))
                 | none => .fail).val = some aP := by
               cases hm : A.md with
               | ho _ => rw [hm] at uV; cases uV
               | sh => rw [hm] at hv; exact hv
               | dp => rw [hm] at hv; exact hv
             cases hc : bn q A.xs with
             | none => simp [hc, N.val] at hv
             | some ys =>
               simp only [hc] at hv; obtain ⟨e, he⟩ := aX hc; subst e; simp only at he; subst he; obtain ⟨sl, zV, Nk, zW⟩ := a7 hA; have Ed := h.aI a' j sl A zV zW; obtain ⟨x, m, h1, h2, h3⟩ := wU h r cs us vi _ hv; refine ⟨(vw.app A.xs, x), (a', j) :: m, h1, fun p hp => ?_, fun ok ho hm => ⟨u, us, rfl, ?_, h3 ok ho (fun p hp => hm p (by simp [hp]))⟩⟩
               · rcases List.mem_cons.1 hp with rfl | hp
                 · exact ⟨g, A, hA⟩
                 · exact h2 p hp
               · exact wR Ed (hu.2.2 A hA) ho (fun k _ hk => hm (a', j) (by simp) k hk) uV
         | _ => simp [rowOf, N.val] at hv
end Go.TM
namespace Go.TM
open Go Go.RowKit
theorem vj {cs l m : List CV} {off : Nat} (h : putCells cs off l = some m) : off + l.length ≤ cs.length ∧ m = cs.take off ++ l ++ cs.drop (off + l.length) := by
 unfold putCells at h; obtain ⟨h1, h2⟩ := aD h; exact ⟨Nat.le_of_ble_eq_true h1, (Option.some.inj h2).symm⟩
theorem ek.bp {c : Cz} {st : St} {w : World} {cs l : List CV} {vs us : List Value} (h : ek c st w cs vs) (hl : ek c st w l us) (off : Nat) (hle : off + l.length ≤ cs.length) :
   ek c st w (cs.take off ++ l ++ cs.drop (off + l.length)) (TM.bp vs off us) := by
 have e1 := h.1; have e2 := hl.1; refine ⟨by rw [fw (by omega)]; simp; omega, fun i x v hx hv => ?_⟩; unfold TM.bp at hv; rw [List.getElem?_append, List.getElem?_append] at hx hv; simp only [List.length_append, List.length_take] at hx hv; have a1 : min off cs.length = off := by omega
 have a2 : min off vs.length = off := by omega
 rw [a1] at hx; rw [a2, ← e2] at hv
 by_cases h1 : i < off + l.length
 · rw [if_pos h1] at hx hv
   by_cases h2 : i < off
   · rw [if_pos h2, List.getElem?_take, if_pos h2] at hx hv; exact h.2 i x v hx hv
   · rw [if_neg h2] at hx hv; exact hl.2 _ x v hx hv
 · rw [if_neg h1, List.getElem?_drop] at hx hv; exact h.2 _ x v hx hv
theorem Rel.Ku {w0 : World} {mu : Mu} {c : Cz} {st : St} {a : Act} {w : World} (h : Rel w0 mu c st a w) {b : Nat} {s0 : Sl} {cs l : List CV} {vs lG : Array Value} {ty : TypeId}
   (hs : nth st b = some s0) (hb : s0.box = some cs) (hg : w.heap[c.bx b]? = some (.cells vs ty (0, 0))) (hl : ek c st w l lG.toList) :
   Rel w0 mu c (kP (fun s => { s with box := some l }) st b) a (w.setRow (c.bx b) lG) := by
 have eH := (h.boxes b s0 cs hs hb).1; have hn : ∀ s, nth (kP (fun s => { s with box := some l }) st b) s = if s = b then some { s0 with box := some l } else nth st s := by
   intro s; rw [cL]
   by_cases e : s = b
   · subst e; simp [hs]
   · simp [e]
 generalize kP (fun s => { s with box := some l }) st b = aP at hn ⊢; have qn := rB (w := w) eH lG; have pL : ∀ k, k ≠ c.bx b → (w.setRow (c.bx b) lG).heap[k]? = w.heap[k]? := fun k hk => setRow_other w _ k lG hk
 have fB : Fw c st w c aP (w.setRow (c.bx b) lG) := {
   stays := qn
   refs := fun a' j g A' _ dL => by
     have Gi : aQ st a' j g = some A' := by
       unfold aQ at dL ⊢; rw [hn] at dL
       by_cases e : a' = b
       · subst e; simpa [hs] using dL
       · simpa [e] using dL
     refine ⟨A', Gi, rfl, rfl, rfl, fun _ => ⟨rfl, fun k o cap hl => pL k ?_⟩⟩; have ha := h.qG Gi; unfold bA at ha; rw [hl] at ha; intro e; subst e; obtain ⟨h1, _⟩ := ha; rw [eH] at h1
     cases ho : A'.own <;> simp [ho] at h1
   zF := fun b' g lF _ kj => by
     refine ⟨?_, rfl⟩; unfold cX at kj ⊢; rw [hn] at kj
     by_cases e : b' = b
     · subst e; simp only [if_true] at kj; obtain ⟨h1, _⟩ := aD kj; exact ⟨cs, by simp [hs, h1, hb]⟩
     · simp only [e, if_false] at kj; exact ⟨lF, kj⟩
   gA := fun a' => by
     unfold cD; rw [hn]
     by_cases e : a' = b
     · subst e; simp [hs]
     · simp [e]
   gB := fun a' => by
     unfold fI; rw [hn]
     by_cases e : a' = b
     · subst e; simp [hs]
     · simp [e]
   gE := fun a' => by
     unfold kU; rw [hn]
     by_cases e : a' = b
     · subst e; simp [hs]
     · simp [e] }
 exact {
   eO := fun t => by
     have e1 : bI aP t = bI st t := by
       unfold bI; rw [hn]
       by_cases e : t = b
       · subst e; simp [hs]
       · simp [e]
     rw [e1]; exact fB.kZ (h.eO t)
   boxes := fun s sl lF wV kj => by
     rw [hn] at wV
     by_cases e : s = b
     · subst e; simp only [if_true, Option.some.injEq] at wV; subst wV; simp only [Option.some.injEq] at kj; subst kj; exact ⟨eH, lG, ty, setRow_heap w _ vs lG ty (0, 0) hg, fB.Ny hl⟩
     · simp only [e, if_false] at wV; have h0 := h.boxes s sl lF wV kj; refine h0.go fB rfl rfl (pL _ ?_); intro e'; have := h0.1; rw [e', eH] at this; injection this with this; injection this with this; exact e this.symm
   aI := fun s j sl A wV dL => by
     rw [hn] at wV; have ha : bA c w s j A := by
       by_cases e : s = b
       · subst e; simp only [if_true, Option.some.injEq] at wV; subst wV; exact h.aI s j s0 A hs dL
       · simp only [e, if_false] at wV; exact h.aI s j sl A wV dL
     refine ha.go qn rfl (fun k h1 => ⟨pL k ?_, rfl⟩); intro e; subst e; rw [eH] at h1
     cases h1
   owned := fun k l hk => by
     have := h.owned k l hk; exact ⟨by simpa [World.setRow] using this.1, this.2⟩
   free := h.free
   kept := ⟨h.kept.1, h.kept.2.1, h.kept.2.2.1, by simpa [World.setRow] using h.kept.2.2.2⟩
   old := fun k hk hm => by
     rw [pL k (fun e => by
       have := (h.owned _ _ eH).2; rcases this with this | this | this
       · cases this
       · subst e; omega
       · subst e; exact hm this)]
     exact h.old k hk hm
   dK := fun p hp => fB.dK (h.dK p hp)
   plain := h.plain }
theorem Rel.Ch {w0 : World} {mu : Mu} {c : Cz} {st : St} {a : Act} {w : World} (h : Rel w0 mu c st a w) {s j : Nat} {s0 : Sl} {A : fK} {b off cap : Nat} {cur lG : Array Value} {ty : TypeId}
   {md' : Md} {ys : List (ak A.r)} (hs : nth st s = some s0) (hA : nth s0.aI j = some (some A)) (eH : A.own = true) (fN : c.lc s j = .at b off cap)
   (hg : w.heap[b]? = some (.cells cur ty (0, 0))) (jv : lG.size = cur.size) (hlen : ys.length = A.xs.length)
   (eG : bh c (w.setRow b lG) (.sp s j) { A with xs := ys, md := md' } b off) :
   Rel w0 mu c (bf st s j (some { A with xs := ys, md := md' })) a (w.setRow b lG) := by
 have h0 := h.aI s j s0 A hs hA; unfold bA at h0; rw [fN] at h0; obtain ⟨h1, h2, ⟨TG, ty0, h3, h4⟩, h5⟩ := h0; rw [eH] at h1; have Yc : TG = cur := by rw [hg] at h3; injection h3 with h3; injection h3 with h3; exact h3.symm
 subst Yc; have hn : ∀ k, nth (bf st s j (some { A with xs := ys, md := md' })) k = if k = s then some { s0 with aI := kP (fun _ => some { A with xs := ys, md := md' }) s0.aI j, ep := s0.ep + 1 } else nth st k := by
   intro k; unfold bf; rw [cL]
   by_cases e : k = s
   · subst e; simp [hs]
   · simp [e]
 generalize bf st s j (some { A with xs := ys, md := md' }) = aP at hn ⊢; have qn := rB (w := w) h1 lG; have pL : ∀ k, k ≠ b → (w.setRow b lG).heap[k]? = w.heap[k]? := fun k hk => setRow_other w _ k lG hk
 have fB : Fw c st w c aP (w.setRow b lG) := {
   stays := qn
   refs := fun a' j' g A' _ dL => by
     obtain ⟨sl, k1, k2, k3⟩ := a7 dL; rw [hn] at k1
     by_cases e : a' = s
     · subst e; simp only [if_true, Option.some.injEq] at k1; subst k1; simp only at k2 k3; rw [cL] at k3
       by_cases e2 : j' = j
       · subst e2; rw [if_pos rfl, hA] at k3; simp only [Option.map_some, Option.some.injEq] at k3; subst k3; refine ⟨A, ?_, rfl, hlen, rfl, fun he => ?_⟩
         · unfold aQ; rw [hs]; have : Nat.beq s0.ag g = true := by rw [k2]; exact Nat.beq_refl g
           simp [this, hA]
         · unfold kU at he; rw [hn, if_pos rfl, hs] at he; simp at he
       · rw [if_neg e2] at k3; refine ⟨A', ?_, rfl, rfl, rfl, fun he => ?_⟩
         · unfold aQ; rw [hs]; have : Nat.beq s0.ag g = true := by rw [k2]; exact Nat.beq_refl g
           simp [this, k3]
         · unfold kU at he; rw [hn, if_pos rfl, hs] at he; simp at he
     · rw [if_neg e] at k1; have Gi : aQ st a' j' g = some A' := by
         unfold aQ; rw [k1]; have : Nat.beq sl.ag g = true := by rw [k2]; exact Nat.beq_refl g
         simp [this, k3]
       refine ⟨A', Gi, rfl, rfl, rfl, fun _ => ⟨rfl, fun k o Ge hl => pL k ?_⟩⟩; have ha := h.qG Gi; unfold bA at ha; rw [hl] at ha
       rintro rfl
       obtain ⟨g1, _⟩ := ha; rw [h1] at g1
       cases ho : A'.own with
       | true => simp [ho] at g1; exact e g1.1.symm
       | false => simp [ho] at g1
   zF := fun b' g lF _ kj => by
     refine ⟨⟨lF, ?_⟩, rfl⟩; unfold cX at kj ⊢; rw [hn] at kj
     by_cases e : b' = s
     · subst e; simpa [hs] using kj
     · simpa [e] using kj
   gA := fun a' => by
     unfold cD; rw [hn]
     by_cases e : a' = s
     · subst e; simp [hs]
     · simp [e]
   gB := fun a' => by
     unfold fI; rw [hn]
     by_cases e : a' = s
     · subst e; simp [hs]
     · simp [e]
   gE := fun a' => by
     unfold kU; rw [hn]
     by_cases e : a' = s
     · subst e; simp [hs]
     · simp [e] }
 exact {
   eO := fun t => by
     have e1 : bI aP t = bI st t := by
       unfold bI; rw [hn]
       by_cases e : t = s
       · subst e; simp [hs]
       · simp [e]
     rw [e1]; exact fB.kZ (h.eO t)
   boxes := fun k sl lF wV kj => by
     rw [hn] at wV; have zw : tk c st w k lF := by
       by_cases e : k = s
       · subst e; simp only [if_true, Option.some.injEq] at wV; subst wV; exact h.boxes k s0 lF hs kj
       · simp only [e, if_false] at wV; exact h.boxes k sl lF wV kj
     refine zw.go fB rfl rfl (pL _ ?_); intro e; have := zw.1; rw [e, h1] at this; simp at this
   aI := fun k i sl B wV hB => by
     rw [hn] at wV
     by_cases e : k = s ∧ i = j
     · obtain ⟨rfl, rfl⟩ := e; simp only [if_true, Option.some.injEq] at wV; subst wV; simp only at hB; rw [cL, if_pos rfl, hA] at hB; simp only [Option.map_some, Option.some.injEq] at hB; subst hB; unfold bA; rw [fN]; refine ⟨by rw [eH]; exact h1, by simp only; rw [hlen]; exact h2, ⟨lG, ty, setRow_heap w b TG lG ty (0, 0) hg, by simp only; rw [jv]; exact h4⟩, eG⟩
     · have ha : bA c w k i B := by
         by_cases e2 : k = s
         · subst e2; simp only [if_true, Option.some.injEq] at wV; subst wV; simp only at hB; rw [cL, if_neg (fun e3 => e ⟨rfl, e3⟩)] at hB; exact h.aI k i s0 B hs hB
         · rw [if_neg e2] at wV; exact h.aI k i sl B wV hB
       refine ha.go qn rfl (fun k' g1 => ⟨pL k' ?_, rfl⟩)
       rintro rfl
       rw [h1] at g1; simp at g1; exact e ⟨g1.1.symm, g1.2.symm⟩
   owned := fun k l hk => by
     have := h.owned k l hk; exact ⟨by simpa [World.setRow] using this.1, this.2⟩
   free := h.free
   kept := ⟨h.kept.1, h.kept.2.1, h.kept.2.2.1, by simpa [World.setRow] using h.kept.2.2.2⟩
   old := fun k hk hm => by
     rw [pL k (fun e => by
       have := (h.owned _ _ h1).2; rcases this with this | this | this
       · cases this
       · subst e; omega
       · subst e; exact hm this)]
     exact h.old k hk hm
   dK := fun p hp => fB.dK (h.dK p hp)
   plain := h.plain }
theorem Rel.wW {w0 : World} {mu : Mu} {c : Cz} {st : St} {a : Act} {w : World} (h : Rel w0 mu c st a w) {s j : Nat} {s0 : Sl} {A : fK} {b off cap : Nat} {cur lG : Array Value} {ty : TypeId}
   {ys : List (ak A.r)} (hs : nth st s = some s0) (hA : nth s0.aI j = some (some A)) (eH : A.own = true) (fN : c.lc s j = .at b off cap)
   (hg : w.heap[b]? = some (.cells cur ty (0, 0))) (jv : lG.size = cur.size) (hlen : ys.length = A.xs.length)
   (eG : bh c (w.setRow b lG) (.sp s j) { A with xs := ys } b off) :
   Rel w0 mu c (bf st s j (some { A with xs := ys })) a (w.setRow b lG) := h.Ch hs hA eH fN hg jv hlen eG
end Go.TM
namespace Go.TM
open Go Go.RowKit
theorem wX : (r : RT) → (x : ak r) → (k : Nat) → (y : CV) → {z : ak r} → eT r x k y = some z → k < r.width
 | .nil, _, _, _, _, h => by simp [eT] at h
 | .cons t r, x, 0, y, z, _ => by simp [RT.width]
 | .cons t r, x, k + 1, y, z, h => by
   have h' : (eT r x.2 k y).map (fun z => ((x.1, z) : ak (.cons t r))) = some z := by cases t <;> (simp only [eT] at h; exact h)
   cases hq : eT r x.2 k y with
   | none => rw [hq] at h'; cases h'
   | some z' => have := wX r x.2 k y hq; simp [RT.width]; omega
theorem rC (r : RT) (x : ak r) : (off : Nat) → (cs : List CV) → {z : ak r} → jc r x off cs = some z → cs ≠ [] → off + cs.length ≤ r.width
 | _, [], _, _, h => absurd rfl h
 | off, y :: l, z, h, _ => by
   simp only [jc] at h
   cases hq : jc r x (off + 1) l with
   | none => simp [hq] at h
   | some y' =>
     simp only [hq] at h; have h1 := wX r y' off y h
     cases l with
     | nil => simp; omega
     | cons y2 l2 => have := rC r x (off + 1) (y2 :: l2) hq (by simp); simp at this ⊢; omega
theorem jf {vs us : List Value} {off k : Nat} (hle : off + us.length ≤ vs.length) : (bp vs off us)[k]? = if off ≤ k ∧ k < off + us.length then us[k - off]? else vs[k]? := by
 unfold bp; simp only [List.getElem?_append, List.length_append, List.length_take, List.getElem?_take, List.getElem?_drop]; have a1 : min off vs.length = off := by omega
 rw [a1]
 by_cases h1 : k < off
 · rw [if_pos (by omega), if_pos h1, if_pos h1, if_neg (by omega)]
 · by_cases h2 : k < off + us.length
   · rw [if_pos h2, if_neg h1, if_pos ⟨by omega, h2⟩]
   · rw [if_neg h2, if_neg (by omega)]
     congr 1
     omega
theorem z8 : (m : List (Nat × Nat)) → {st : St} → {a j : Nat} → {sl : Sl} → {A : fK} → nth st a = some sl → nth sl.aI j = some (some A) → (a, j) ∉ m →
   ∃ OT, nth (freeze st m) a = some OT ∧ nth OT.aI j = some (some A)
 | [], _, _, _, sl, _, h1, h2, _ => ⟨sl, h1, h2⟩
 | (b, i) :: m, st, a, j, sl, A, h1, h2, hm => by
   rw [Ee]; obtain ⟨f, hf, hn⟩ := ga st b i a; refine z8 m (sl := f sl) (A := A) (by rw [hn, h1]; rfl) ?_ (fun h => hm (by simp [h])); rw [(hf sl).2.2.2.2.1 j, if_neg]
   · exact h2
   · rintro ⟨rfl, rfl⟩; exact hm (by simp)
theorem wY {c : Cz} {w : World} {b off : Nat} {r : RT} {xs : List (ak r)} {cur : Array Value} {ty : TypeId} {l : Lb} (eH : c.own b = some l)
   (hg : w.heap[b]? = some (.cells cur ty (0, 0))) (eG : ∀ (i : Nat) x, xs[i]? = some x → bU w c.ok r b (off + i * r.width) x)
   {i k : Nat} {x y : ak r} {us : List Value} (hx : xs[i]? = some x) (hle : k + us.length ≤ r.width) (jv : off + i * r.width + r.width ≤ cur.size)
   (hy : ∀ vs, bZ w c.ok r vs x → bZ w c.ok r (bp vs k us) y) :
   ∀ (i' : Nat) x', (xs.set i y)[i']? = some x' → bU (w.setRow b (bp cur.toList (off + i * r.width + k) us).toArray) c.ok r b (off + i' * r.width) x' := by
 have qn := rB (w := w) eH (bp cur.toList (off + i * r.width + k) us).toArray; have NB := setRow_heap w b cur (bp cur.toList (off + i * r.width + k) us).toArray ty (0, 0) hg; have qH : ∀ q, (w.setRow b (bp cur.toList (off + i * r.width + k) us).toArray).cell? ⟨b, q, none⟩ =
     if off + i * r.width + k ≤ q ∧ q < off + i * r.width + k + us.length then us[q - (off + i * r.width + k)]? else w.cell? ⟨b, q, none⟩ := by
   intro q; rw [cell_of_row _ b q _ ty (0, 0) NB, cell_of_row w b q cur ty (0, 0) hg]; simp only [List.getElem?_toArray]; rw [jf (by simp; omega)]; simp
 intro i' x' rb; rw [List.getElem?_set] at rb
 by_cases e : i = i'
 · subst e; rw [if_pos rfl] at rb; have hi : i < xs.length := (List.getElem?_eq_some_iff.1 hx).1; rw [if_pos hi] at rb; obtain rfl := Option.some.inj rb; obtain ⟨vs, h1, h2⟩ := (k9 r b _ x).1 (eG i x hx); have wL := bZ.length r vs x h2; refine (k9 r b _ y).2 ⟨bp vs k us, fun q v hv => ?_, bZ.stays qn r _ y (hy vs h2)⟩; rw [jf (by omega)] at hv; rw [qH]
   by_cases hq : k ≤ q ∧ q < k + us.length
   · rw [if_pos hq] at hv; rw [if_pos (by omega), show off + i * r.width + q - (off + i * r.width + k) = q - k by omega]; exact hv
   · rw [if_neg hq] at hv; rw [if_neg (by omega)]; exact h1 q v hv
 · rw [if_neg e] at rb; obtain ⟨vs, h1, h2⟩ := (k9 r b _ x').1 (eG i' x' rb); have wL := bZ.length r vs x' h2; refine (k9 r b _ x').2 ⟨vs, fun q v hv => ?_, bZ.stays qn r _ x' h2⟩; have hq : q < r.width := by rw [← wL]; exact (List.getElem?_eq_some_iff.1 hv).1
   rw [qH, if_neg]
   · exact h1 q v hv
   · rintro ⟨g1, g2⟩
     rcases Nat.lt_or_gt_of_ne e with h | h
     · have : (i + 1) * r.width ≤ i' * r.width := Nat.mul_le_mul_right _ h; rw [Nat.add_mul] at this; omega
     · have : (i' + 1) * r.width ≤ i * r.width := Nat.mul_le_mul_right _ h; rw [Nat.add_mul] at this; omega
theorem vk {w : World} {b off : Nat} {r : RT} {xs : List (ak r)} {cur : Array Value} {ty : TypeId}
   (hg : w.heap[b]? = some (.cells cur ty (0, 0))) {Q : Nat → List Value → ak r → Prop} (eG : ∀ (i : Nat) x, xs[i]? = some x → ∃ vs, w.rangeAt b (off + i * r.width) vs ∧ vs.length = r.width ∧ Q i vs x)
   {i k : Nat} {x y : ak r} {us : List Value} (hx : xs[i]? = some x) (hle : k + us.length ≤ r.width) (jv : off + i * r.width + r.width ≤ cur.size)
   (hy : ∀ vs, vs.length = r.width → Q i vs x → Q i (bp vs k us) y) :
   ∀ (i' : Nat) x', (xs.set i y)[i']? = some x' → ∃ vs, (w.setRow b (bp cur.toList (off + i * r.width + k) us).toArray).rangeAt b (off + i' * r.width) vs ∧ Q i' vs x' := by
 have NB := setRow_heap w b cur (bp cur.toList (off + i * r.width + k) us).toArray ty (0, 0) hg; have qH : ∀ q, (w.setRow b (bp cur.toList (off + i * r.width + k) us).toArray).cell? ⟨b, q, none⟩ =
     if off + i * r.width + k ≤ q ∧ q < off + i * r.width + k + us.length then us[q - (off + i * r.width + k)]? else w.cell? ⟨b, q, none⟩ := by
   intro q; rw [cell_of_row _ b q _ ty (0, 0) NB, cell_of_row w b q cur ty (0, 0) hg]; simp only [List.getElem?_toArray]; rw [jf (by simp; omega)]; simp
 intro i' x' rb; rw [List.getElem?_set] at rb
 by_cases e : i = i'
 · subst e; rw [if_pos rfl] at rb; have hi : i < xs.length := (List.getElem?_eq_some_iff.1 hx).1; rw [if_pos hi] at rb; obtain rfl := Option.some.inj rb; obtain ⟨vs, h1, wL, h2⟩ := eG i x hx; refine ⟨bp vs k us, fun q v hv => ?_, hy vs wL h2⟩; rw [jf (by omega)] at hv; rw [qH]
   by_cases hq : k ≤ q ∧ q < k + us.length
   · rw [if_pos hq] at hv; rw [if_pos (by omega), show off + i * r.width + q - (off + i * r.width + k) = q - k by omega]; exact hv
   · rw [if_neg hq] at hv; rw [if_neg (by omega)]; exact h1 q v hv
 · rw [if_neg e] at rb; obtain ⟨vs, h1, wL, h2⟩ := eG i' x' rb; refine ⟨vs, fun q v hv => ?_, h2⟩; have hq : q < r.width := by rw [← wL]; exact (List.getElem?_eq_some_iff.1 hv).1
   rw [qH, if_neg]
   · exact h1 q v hv
   · rintro ⟨g1, g2⟩
     rcases Nat.lt_or_gt_of_ne e with h | h
     · have : (i + 1) * r.width ≤ i' * r.width := Nat.mul_le_mul_right _ h; rw [Nat.add_mul] at this; omega
     · have : (i' + 1) * r.width ≤ i * r.width := Nat.mul_le_mul_right _ h; rw [Nat.add_mul] at this; omega
theorem BJ {w : World} {b off : Nat} {r : RT} {xs : List (ak r)} {cur : Array Value} {ty : TypeId}
   (hg : w.heap[b]? = some (.cells cur ty (0, 0))) {Q : Nat → List Value → ak r → Prop} {i : Nat} (eG : ∀ (i' : Nat) x, i' ≠ i → xs[i']? = some x → ∃ vs, w.rangeAt b (off + i' * r.width) vs ∧ vs.length = r.width ∧ Q i' vs x)
   {x y : ak r} {us : List Value} (hx : xs[i]? = some x) (hle : us.length = r.width) (jv : off + i * r.width + r.width ≤ cur.size) (hy : Q i us y) :
   ∀ (i' : Nat) x', (xs.set i y)[i']? = some x' → ∃ vs, (w.setRow b (bp cur.toList (off + i * r.width + 0) us).toArray).rangeAt b (off + i' * r.width) vs ∧ Q i' vs x' := by
 have NB := setRow_heap w b cur (bp cur.toList (off + i * r.width + 0) us).toArray ty (0, 0) hg; have qH : ∀ q, (w.setRow b (bp cur.toList (off + i * r.width + 0) us).toArray).cell? ⟨b, q, none⟩ =
     if off + i * r.width ≤ q ∧ q < off + i * r.width + us.length then us[q - (off + i * r.width)]? else w.cell? ⟨b, q, none⟩ := by
   intro q; rw [cell_of_row _ b q _ ty (0, 0) NB, cell_of_row w b q cur ty (0, 0) hg]; simp only [List.getElem?_toArray]; rw [jf (by simp; omega)]; simp
 intro i' x' rb; rw [List.getElem?_set] at rb
 by_cases e : i = i'
 · subst e; rw [if_pos rfl] at rb; have hi : i < xs.length := (List.getElem?_eq_some_iff.1 hx).1; rw [if_pos hi] at rb; obtain rfl := Option.some.inj rb; refine ⟨us, fun q v hv => ?_, hy⟩; have hq : q < us.length := (List.getElem?_eq_some_iff.1 hv).1; rw [qH, if_pos (by omega), show off + i * r.width + q - (off + i * r.width) = q by omega]; exact hv
 · rw [if_neg e] at rb; obtain ⟨vs, h1, wL, h2⟩ := eG i' x' (fun h => e h.symm) rb; refine ⟨vs, fun q v hv => ?_, h2⟩; have hq : q < r.width := by rw [← wL]; exact (List.getElem?_eq_some_iff.1 hv).1
   rw [qH, if_neg]
   · exact h1 q v hv
   · rintro ⟨g1, g2⟩
     rcases Nat.lt_or_gt_of_ne e with h | h
     · have : (i + 1) * r.width ≤ i' * r.width := Nat.mul_le_mul_right _ h; rw [Nat.add_mul] at this; omega
     · have : (i' + 1) * r.width ≤ i * r.width := Nat.mul_le_mul_right _ h; rw [Nat.add_mul] at this; omega
end Go.TM
namespace Go.TM
open Go Go.RowKit
def SK (w : World) (ok : Nat → Prop) (r : RT) (u : Value) (ys : List (ak r)) : Prop :=
 (u = .slice none 0 0 ∧ ys = []) ∨ ∃ a cap, u = .slice (some a) ys.length cap ∧ (ys ≠ [] → a.spot = none) ∧ ∀ (i : Nat) y, ys[i]? = some y → bU w ok r a.block (a.off + i * r.width) y
def aY (w : World) (ok : Nat → Prop) (r : RT) : List Value → List (ak r) → Prop
 | vs, [] => vs = []
 | vs, x :: xs => ∃ l1 l2, vs = l1 ++ l2 ∧ bZ w ok r l1 x ∧ aY w ok r l2 xs
theorem aY.length {w : World} {ok : Nat → Prop} {r : RT} : (vs : List Value) → (xs : List (ak r)) → aY w ok r vs xs → vs.length = xs.length * r.width
 | vs, [], h => by simp only [aY] at h; subst h; simp
 | vs, x :: xs, h => by
   obtain ⟨l1, l2, rfl, h1, h2⟩ := h; have a1 := bZ.length r l1 x h1; have a2 := aY.length l2 xs h2; simp [a1, a2, Nat.add_mul]; omega
theorem aY.stays {w w' : World} {ok wP : Nat → Prop} (h : gH w w' ok wP) {r : RT} : (vs : List Value) → (xs : List (ak r)) → aY w ok r vs xs → aY w' wP r vs xs
 | _, [], hr => hr
 | _, x :: xs, ⟨l1, l2, e, h1, h2⟩ => ⟨l1, l2, e, bZ.stays h r l1 x h1, aY.stays h l2 xs h2⟩
theorem aY.append {w : World} {ok : Nat → Prop} {r : RT} : (vs us : List Value) → (xs ys : List (ak r)) → aY w ok r vs xs → aY w ok r us ys → aY w ok r (vs ++ us) (xs ++ ys)
 | vs, us, [], ys, h, k => by simp only [aY] at h; subst h; simpa using k
 | vs, us, x :: xs, ys, ⟨l1, l2, e, h1, h2⟩, k => ⟨l1, l2 ++ us, by rw [e, List.append_assoc], h1, aY.append l2 us xs ys h2 k⟩
theorem aY.one {w : World} {ok : Nat → Prop} {r : RT} {vs : List Value} {x : ak r} (h : bZ w ok r vs x) : aY w ok r vs [x] := ⟨vs, [], by simp, h, rfl⟩
theorem kE {w : World} {ok : Nat → Prop} {r : RT} (b : Nat) : (off : Nat) → (xs : List (ak r)) → (∀ (i : Nat) x, xs[i]? = some x → bU w ok r b (off + i * r.width) x) →
   ∃ vs, w.rangeAt b off vs ∧ aY w ok r vs xs
 | _, [], _ => ⟨[], fun j v h => by simp at h, rfl⟩
 | off, x :: xs, h => by
   obtain ⟨l1, h1, h2⟩ := (k9 r b off x).1 (by have := h 0 x rfl; simpa using this); obtain ⟨l2, h3, h4⟩ := kE b (off + r.width) xs (fun i y hy => by
     have := h (i + 1) y (by simpa using hy); rw [Nat.add_mul, Nat.one_mul] at this; rw [show off + r.width + i * r.width = off + (i * r.width + r.width) by omega]; exact this)
   have hl := bZ.length r l1 x h2; refine ⟨l1 ++ l2, fun j v hv => ?_, l1, l2, rfl, h2, h4⟩; rw [List.getElem?_append] at hv
   by_cases hj : j < l1.length
   · rw [if_pos hj] at hv; exact h1 j v hv
   · rw [if_neg hj] at hv; have := h3 _ v hv; rw [show off + r.width + (j - l1.length) = off + j by omega] at this; exact this
theorem p7 {w : World} {ok : Nat → Prop} {r : RT} {b : Nat} : (off : Nat) → (vs : List Value) → (xs : List (ak r)) → aY w ok r vs xs → w.rangeAt b off vs →
   ∀ (i : Nat) x, xs[i]? = some x → bU w ok r b (off + i * r.width) x
 | _, _, [], _, _, i, x, h => by simp at h
 | off, vs, y :: xs, ⟨l1, l2, e, h1, h2⟩, hr, i, x, h => by
   subst e; have hl := bZ.length r l1 y h1
   cases i with
   | zero =>
     simp at h; subst h; rw [k9]; refine ⟨l1, fun j v hv => ?_, h1⟩; have hj : j < l1.length := (List.getElem?_eq_some_iff.1 hv).1; have := hr j v (by rw [List.getElem?_append, if_pos hj]; exact hv); simpa using this
   | succ i =>
     have := p7 (off + r.width) l2 xs h2 (fun j v hv => by
       have := hr (l1.length + j) v (by rw [List.getElem?_append, if_neg (by omega)]; simpa using hv); rw [show off + r.width + j = off + (l1.length + j) by omega]; exact this) i x (by simpa using h)
     rw [Nat.add_mul, Nat.one_mul]; rw [show off + (i * r.width + r.width) = off + r.width + i * r.width by omega]; exact this
theorem bz.one {w : World} {ok : Nat → Prop} {t : Ty} {v : Value} {x : den t} (h : bz w ok t v x) : v.oneCell' = true := by
 cases t with
 | int k => rw [oM.1 h]; rfl
 | bool => rw [pZ.1 h]; rfl
 | str => rw [ti.1 h]; rfl
 | sl r =>
   rcases (lM w ok r v x).1 h with ⟨rfl, _⟩ | ⟨a, cap, rfl, _⟩ <;> rfl
theorem bZ.one {w : World} {ok : Nat → Prop} : (r : RT) → (vs : List Value) → (x : ak r) → bZ w ok r vs x → ∀ v ∈ vs, v.oneCell' = true
 | .nil, vs, _, h, v, hv => by simp only [bZ] at h; subst h; simp at hv
 | .cons t r, vs, x, ⟨u, l, e, hx, hr⟩, v, hv => by
   subst e; rcases List.mem_cons.1 hv with rfl | hv
   · exact hx.one
   · exact bZ.one r l x.2 hr v hv
theorem aY.ju {w : World} {ok : Nat → Prop} {r : RT} : (vs : List Value) → (xs : List (ak r)) → aY w ok r vs xs → ∀ v ∈ vs, v.oneCell' = true
 | vs, [], h, v, hv => by simp only [aY] at h; subst h; simp at hv
 | vs, x :: xs, ⟨l1, l2, e, h1, h2⟩, v, hv => by
   subst e; rcases List.mem_append.1 hv with hv | hv
   · exact bZ.one r l1 x h1 v hv
   · exact aY.ju l2 xs h2 v hv
theorem yF {w0 : World} {mu : Mu} {c : Cz} {st : St} {a : Act} {w : World} (h : Rel w0 mu c st a w) {r : RT} {x : CV} {u : Value} (hx : ir c st w x u)
   {k : List (ak r) → N} {aP : St} (hv : (jP st r x k).val = some aP) : ∃ ys, (k ys).val = some aP ∧ SK w c.ok r u ys := by
 cases x with
 | shr r' xs =>
   simp only [jP] at hv
   cases hc : bn r xs with
   | none => simp [hc, N.val] at hv
   | some ys =>
     simp only [hc] at hv; obtain ⟨rfl, rfl⟩ := aX hc; refine ⟨_, hv, ?_⟩; rcases (lM _ _ _ _ _).1 hx with h1 | ⟨a', cap, h1, h2, h3, h4⟩
     · exact .inl h1
     · exact .inr ⟨a', cap, h1, fun fk => (h3 fk).1, h4⟩
 | nn r' xs =>
   simp only [jP] at hv
   cases hc : bn r xs with
   | none => simp [hc, N.val] at hv
   | some ys =>
     simp only [hc] at hv; obtain ⟨rfl, rfl⟩ := aX hc; refine ⟨_, hv, ?_⟩; rcases (lM _ _ _ _ _).1 hx.1 with h1 | ⟨a', cap, h1, h2, h3, h4⟩
     · exact .inl h1
     · exact .inr ⟨a', cap, h1, fun fk => (h3 fk).1, h4⟩
 | di => exact ⟨[], by simpa only [jP] using hv, .inl ⟨hx, rfl⟩⟩
 | ref a' j g vw =>
   simp only [jP] at hv
   cases hA : aQ st a' j g with
   | none => simp [hA, N.val] at hv
   | some A =>
     simp only [hA] at hv; have uV : A.md = .sh := by
       cases hm : A.md with
       | sh => rfl
       | dp => rw [hm] at hv; simp [N.val] at hv
       | ho _ => rw [hm] at hv; simp [N.val] at hv
     rw [uV] at hv; simp only at hv
     cases hc : bn r A.xs with
     | none => simp [hc, N.val] at hv
     | some ys =>
       simp only [hc] at hv; obtain ⟨e, he⟩ := aX hc; subst e; simp only at he; subst he; obtain ⟨sl, zV, Nk, zW⟩ := a7 hA; have Ed := h.aI a' j sl A zV zW; refine ⟨vw.app A.xs, hv, ?_⟩; clear hv; have hs := hx.2.2 A hA
       cases hl : c.lc a' j with
       | nil =>
         unfold gP at hs; rw [hl] at hs; exact .inl ⟨hs.1, List.length_eq_zero_iff.1 hs.2⟩
       | «at» b off cap =>
         unfold gP at hs; rw [hl] at hs; obtain ⟨ad, k', rfl, hk, wS, ha⟩ := hs; unfold bA at Ed; rw [hl] at Ed; obtain ⟨_, _, _, h5⟩ := Ed; have fk : vw.app A.xs ≠ [] → k' ≠ 0 := by
           intro fk; have := List.length_pos_iff.2 fk; omega
         refine .inr ⟨ad, k', rfl, fun h => by rw [ha (fk h)], fun i y hy => ?_⟩; have Yb : k' ≠ 0 := fk (by intro e; rw [e] at hy; simp at hy); rw [ha Yb]; have := (bh.sh uV).1 h5 _ y (View.uD vw A.xs hy); have e : off + vw.lo * A.r.width + i * A.r.width = off + (vw.lo + i) * A.r.width := by rw [Nat.add_mul]; omega
         show bU w c.ok A.r b (off + vw.lo * A.r.width + i * A.r.width) y; rw [e]; exact this
 | _ => simp [jP, N.val] at hv
theorem Rel.place {w0 : World} {mu : Mu} {c c' : Cz} {st : St} {a : Act} {w w' : World} (h : Rel w0 mu c st a w) {d B : Nat} {s0 : Sl} {A : fK} {v : Value}
   (gm : nth st d = some s0) (hd : d < a.tmps.size)
   (zw : c'.bx = c.bx) (fN : ∀ s j, ¬ (s = d ∧ j = 0) → c'.lc s j = c.lc s j) (eH : ∀ k, k ≠ B → c'.own k = c.own k)
   (TH : c'.own B = some (.sp d 0) ∨ (c'.own B = c.own B ∧ w'.heap[B]? = w.heap[B]?))
   (hB : w.heap.size ≤ B ∨ ∃ s j, c.own B = some (.sp s j) ∧ (s = d ∨ ∀ sl A, nth st s = some sl → nth sl.aI j ≠ some (some A)))
   (hBn : c'.own B = some (.sp d 0) → B < w'.heap.size)
   (hw : ∀ k, k < w.heap.size → k ≠ B → w'.heap[k]? = w.heap[k]?) (qo : w'.os = w.os ∧ w'.tape = w.tape ∧ w'.output = w.output ∧ w.heap.size ≤ w'.heap.size)
   (hA : bA c' w' d 0 A) (wM : v.oneCell' = true) (hv : gP (c'.lc d 0) A.r.width 0 A.xs.length v) :
   Rel w0 mu c' (kP (fun s => { s with v := .one (.ref d 0 (s0.ag + 1) .full), aI := [some A], ag := s0.ag + 1 }) st d) (a.put (some d) v) w' := by
 have hn : ∀ s, nth (kP (fun s => { s with v := .one (.ref d 0 (s0.ag + 1) .full), aI := [some A], ag := s0.ag + 1 }) st d) s =
     if s = d then some { s0 with v := .one (.ref d 0 (s0.ag + 1) .full), aI := [some A], ag := s0.ag + 1 } else nth st s := by
   intro s; rw [cL]
   by_cases e : s = d
   · subst e; simp [gm]
   · simp [e]
 generalize kP (fun s => { s with v := .one (.ref d 0 (s0.ag + 1) .full), aI := [some A], ag := s0.ag + 1 }) st d = aP at hn ⊢; have Qc : ∀ k, k < w.heap.size → c.ok k → k ≠ B := by
   rintro k hk ff rfl
   rcases hB with hB | ⟨s, j, hB, _⟩
   · omega
   · unfold Cz.ok at ff; rw [hB] at ff; cases ff
 have qn : gH w w' c.ok c'.ok := ⟨qo.2.2.2, fun k hk ff => hw k hk (Qc k hk ff), fun k hk ff => by unfold Cz.ok; rw [eH k (Qc k hk ff)]; exact ff⟩; have fB : Fw c st w c' aP w' := {
   stays := qn
   refs := fun a' j g A' hg dL => by
     by_cases e : a' = d
     · subst e; obtain ⟨sl, k1, k2, k3⟩ := a7 dL; rw [hn, if_pos rfl] at k1; obtain rfl := Option.some.inj k1; simp only at k2; unfold cD at hg; rw [gm] at hg; simp only at hg; omega
     · have Gi : aQ st a' j g = some A' := by
         unfold aQ at dL ⊢; rw [hn, if_neg e] at dL; exact dL
       refine ⟨A', Gi, rfl, rfl, fN a' j (fun h => e h.1), fun _ => ⟨rfl, fun k off cap hl => ?_⟩⟩; have ha := h.qG Gi; have bP := ha.lt hl; unfold bA at ha; rw [hl] at ha; obtain ⟨g1, _⟩ := ha; refine hw k bP ?_
       rintro rfl
       rcases hB with hB | ⟨s', j', hB, BK⟩
       · omega
       · rw [hB] at g1
         cases ho : A'.own with
         | true =>
           simp [ho] at g1; obtain ⟨rfl, rfl⟩ := g1; obtain ⟨sl, q1, _, q3⟩ := a7 Gi; rcases BK with BK | BK
           · exact e BK
           · exact BK sl A' q1 q3
         | false => simp [ho] at g1
   zF := fun b' g lF _ kj => by
     refine ⟨⟨lF, ?_⟩, by rw [zw]⟩; unfold cX at kj ⊢; rw [hn] at kj
     by_cases e : b' = d
     · subst e; simpa [gm] using kj
     · simpa [e] using kj
   gA := fun a' => by
     unfold cD; rw [hn]
     by_cases e : a' = d
     · subst e; simp [gm]
     · simp [e]
   gB := fun a' => by
     unfold fI; rw [hn]
     by_cases e : a' = d
     · subst e; simp [gm]
     · simp [e]
   gE := fun a' => by
     unfold kU; rw [hn]
     by_cases e : a' = d
     · subst e; simp [gm]
     · simp [e] }
 exact {
   eO := fun t => by
     have e1 : bI aP t = if t = d then .one (.ref d 0 (s0.ag + 1) .full) else bI st t := by
       unfold bI; rw [hn]
       by_cases e : t = d <;> simp [e]
     rw [e1, eval_put]
     by_cases e : t = d
     · subst e; simp only [if_true, true_and, hd]; refine ⟨wM, ?_, fun A' dL => ?_⟩
       · unfold cD; rw [hn]; simp
       · obtain ⟨sl, k1, k2, k3⟩ := a7 dL; rw [hn, if_pos rfl] at k1; obtain rfl := Option.some.inj k1; simp [nth] at k3; subst k3; exact hv
     · simp only [e, if_false]; rw [if_neg (fun h => e (Option.some.inj h.1).symm)]; exact fB.kZ (h.eO t)
   boxes := fun s sl lF hs hb => by
     rw [hn] at hs; have Qd : tk c st w s lF := by
       by_cases e : s = d
       · subst e; rw [if_pos rfl] at hs; obtain rfl := Option.some.inj hs; exact h.boxes s s0 lF gm hb
       · rw [if_neg e] at hs; exact h.boxes s sl lF hs hb
     have bP := h.mZ Qd.1; have fk : c.bx s ≠ B := by
       intro e; rcases hB with hB | ⟨s', j, hB, _⟩
       · omega
       · rw [← e, Qd.1] at hB; cases hB
     exact Qd.go fB (by rw [zw]) (eH _ fk) (hw _ bP fk)
   aI := fun s j sl A' hs dL => by
     rw [hn] at hs
     by_cases e : s = d
     · subst e; rw [if_pos rfl] at hs; obtain rfl := Option.some.inj hs
       cases j with
       | zero => simp [nth] at dL; subst dL; exact hA
       | succ j => simp [nth] at dL
     · rw [if_neg e] at hs; have ha := h.aI s j sl A' hs dL; refine ha.go qn (fN s j (fun h => e h.1)) (fun k g1 => ?_); have bP : k < w.heap.size := h.mZ g1; have fk : k ≠ B := by
         rintro rfl
         rcases hB with hB | ⟨s', j', hB, BK⟩
         · omega
         · rw [hB] at g1; simp at g1; obtain ⟨rfl, rfl⟩ := g1; rcases BK with BK | BK
           · exact e BK
           · exact BK sl A' hs dL
       exact ⟨hw k bP fk, eH k fk⟩
   owned := fun b l hb => by
     by_cases e : b = B
     · subst e; rcases TH with TH | ⟨TH, _⟩
       · refine ⟨hBn TH, ?_⟩; rcases hB with hB | ⟨s', j', hB, _⟩
         · exact .inr (.inl (Nat.le_trans h.kept.2.2.2 hB))
         · rcases (h.owned _ _ hB).2 with h2 | h2
           · cases h2
           · exact .inr h2
       · rw [TH] at hb; have := h.owned b l hb; exact ⟨Nat.lt_of_lt_of_le this.1 qo.2.2.2, this.2⟩
     · rw [eH b e] at hb; have := h.owned b l hb; exact ⟨Nat.lt_of_lt_of_le this.1 qo.2.2.2, this.2⟩
   free := fun b hb h1 => by
     by_cases e : b = B
     · subst e; rcases hB with hB | ⟨s', j', hB, _⟩
       · have := h.kept.2.2.2; omega
       · rcases (h.owned _ _ hB).2 with h2 | h2 | h2
         · cases h2
         · omega
         · exact .inl h2
     · rw [eH b e] at h1; exact h.free b hb h1
   kept := ⟨qo.1.trans h.kept.1, qo.2.1.trans h.kept.2.1, qo.2.2.1.trans h.kept.2.2.1, Nat.le_trans h.kept.2.2.2 qo.2.2.2⟩
   old := fun k hk hm => by
     have yG := Nat.lt_of_lt_of_le hk h.kept.2.2.2; rw [hw k yG (fun e => ?_)]
     · exact h.old k hk hm
     · subst e; rcases hB with hB | ⟨s', j', hB, _⟩
       · omega
       · rcases (h.owned _ _ hB).2 with h2 | h2 | h2
         · cases h2
         · omega
         · exact hm h2
   dK := fun p hp => fB.dK (h.dK p hp)
   plain := h.plain }
end Go.TM
namespace Go.TM
open Go Go.RowKit
theorem Rel.Qe {w0 : World} {mu : Mu} {c : Cz} {st : St} {a : Act} {w : World} (_h : Rel w0 mu c st a w) (s j : Nat) : Fw c st w c (bf st s j none) w := by
 have hn : ∀ k, ∃ f : Sl → Sl, (∀ x, (f x).v = x.v ∧ (f x).box = x.box ∧ (f x).bg = x.bg ∧ (f x).ag = x.ag ∧
     (∀ i, nth (f x).aI i = if k = s ∧ i = j then (nth x.aI i).map (fun _ => none) else nth x.aI i) ∧ (f x).ep = if k = s then x.ep + 1 else x.ep) ∧ nth (bf st s j none) k = (nth st k).map f := by
   intro k; unfold bf
   by_cases e : k = s
   · subst e; refine ⟨fun s => { s with aI := kP (fun _ => none) s.aI j, ep := s.ep + 1 }, fun x => ⟨rfl, rfl, rfl, rfl, fun i => ?_, by simp⟩, hY _ _ _⟩; simp only [cL, true_and]
   · refine ⟨id, fun x => ⟨rfl, rfl, rfl, rfl, fun i => ?_, by simp [e]⟩, by rw [ki _ _ e]; simp⟩; simp [e]
 generalize bf st s j none = aP at hn ⊢; exact {
   stays := gH.refl w _
   refs := fun a' j' g A' _ dL => by
     obtain ⟨sl, k1, k2, k3⟩ := a7 dL; obtain ⟨f, hf, hk⟩ := hn a'; rw [hk] at k1
     cases hx : nth st a' with
     | none => rw [hx] at k1; simp at k1
     | some x =>
       rw [hx] at k1; simp at k1; subst k1; rw [(hf x).2.2.2.2.1 j'] at k3; rw [(hf x).2.2.2.1] at k2; refine ⟨A', ?_, rfl, rfl, rfl, fun _ => ⟨rfl, fun _ _ _ _ => rfl⟩⟩
       by_cases e : a' = s ∧ j' = j
       · rw [if_pos e] at k3
         cases hq : nth x.aI j' <;> simp [hq] at k3
       · rw [if_neg e] at k3; unfold aQ; rw [hx]; have : Nat.beq x.ag g = true := by rw [k2]; exact Nat.beq_refl g
         simp [this, k3]
   zF := fun b g lF _ hb => by
     refine ⟨⟨lF, ?_⟩, rfl⟩; obtain ⟨f, hf, hk⟩ := hn b; unfold cX at hb ⊢; rw [hk] at hb
     cases hx : nth st b with
     | none => rw [hx] at hb; simp at hb
     | some x => rw [hx] at hb; simpa [(hf x).2.1, (hf x).2.2.1] using hb
   gA := fun b => by
     obtain ⟨f, hf, hk⟩ := hn b; unfold cD; rw [hk]
     cases hx : nth st b with
     | none => simp
     | some x => simp [(hf x).2.2.2.1]
   gB := fun b => by
     obtain ⟨f, hf, hk⟩ := hn b; unfold fI; rw [hk]
     cases hx : nth st b with
     | none => simp
     | some x => simp [(hf x).2.2.1]
   gE := fun b => by
     obtain ⟨f, hf, hk⟩ := hn b; unfold kU; rw [hk]
     cases hx : nth st b with
     | none => simp
     | some x =>
       simp only [Option.map_some]; rw [(hf x).2.2.2.2.2]
       split <;> omega }
theorem Rel.kill {w0 : World} {mu : Mu} {c : Cz} {st : St} {a : Act} {w : World} (h : Rel w0 mu c st a w) (s j : Nat) :
   Rel w0 mu c (bf st s j none) a w ∧ ∀ sl A, nth (bf st s j none) s = some sl → nth sl.aI j ≠ some (some A) := by
 have hn : ∀ k, ∃ f : Sl → Sl, (∀ x, (f x).v = x.v ∧ (f x).box = x.box ∧ (f x).bg = x.bg ∧ (f x).ag = x.ag ∧
     (∀ i, nth (f x).aI i = if k = s ∧ i = j then (nth x.aI i).map (fun _ => none) else nth x.aI i) ∧ (f x).ep = if k = s then x.ep + 1 else x.ep) ∧ nth (bf st s j none) k = (nth st k).map f := by
   intro k; unfold bf
   by_cases e : k = s
   · subst e; refine ⟨fun s => { s with aI := kP (fun _ => none) s.aI j, ep := s.ep + 1 }, fun x => ⟨rfl, rfl, rfl, rfl, fun i => ?_, by simp⟩, hY _ _ _⟩; simp only [cL, true_and]
   · refine ⟨id, fun x => ⟨rfl, rfl, rfl, rfl, fun i => ?_, by simp [e]⟩, by rw [ki _ _ e]; simp⟩; simp [e]
 generalize bf st s j none = aP at hn ⊢; have fB : Fw c st w c aP w := {
   stays := gH.refl w _
   refs := fun a' j' g A' _ dL => by
     obtain ⟨sl, k1, k2, k3⟩ := a7 dL; obtain ⟨f, hf, hk⟩ := hn a'; rw [hk] at k1
     cases hx : nth st a' with
     | none => rw [hx] at k1; simp at k1
     | some x =>
       rw [hx] at k1; simp at k1; subst k1; rw [(hf x).2.2.2.2.1 j'] at k3; rw [(hf x).2.2.2.1] at k2; refine ⟨A', ?_, rfl, rfl, rfl, fun _ => ⟨rfl, fun _ _ _ _ => rfl⟩⟩
       by_cases e : a' = s ∧ j' = j
       · rw [if_pos e] at k3
         cases hq : nth x.aI j' <;> simp [hq] at k3
       · rw [if_neg e] at k3; unfold aQ; rw [hx]; have : Nat.beq x.ag g = true := by rw [k2]; exact Nat.beq_refl g
         simp [this, k3]
   zF := fun b g lF _ hb => by
     refine ⟨⟨lF, ?_⟩, rfl⟩; obtain ⟨f, hf, hk⟩ := hn b; unfold cX at hb ⊢; rw [hk] at hb
     cases hx : nth st b with
     | none => rw [hx] at hb; simp at hb
     | some x => rw [hx] at hb; simpa [(hf x).2.1, (hf x).2.2.1] using hb
   gA := fun b => by
     obtain ⟨f, hf, hk⟩ := hn b; unfold cD; rw [hk]
     cases hx : nth st b with
     | none => simp
     | some x => simp [(hf x).2.2.2.1]
   gB := fun b => by
     obtain ⟨f, hf, hk⟩ := hn b; unfold fI; rw [hk]
     cases hx : nth st b with
     | none => simp
     | some x => simp [(hf x).2.2.1]
   gE := fun b => by
     obtain ⟨f, hf, hk⟩ := hn b; unfold kU; rw [hk]
     cases hx : nth st b with
     | none => simp
     | some x =>
       simp only [Option.map_some]; rw [(hf x).2.2.2.2.2]
       split <;> omega }
 refine ⟨{
   eO := fun t => by
     obtain ⟨f, hf, hk⟩ := hn t; have : bI aP t = bI st t := by
       unfold bI; rw [hk]
       cases hx : nth st t with
       | none => rfl
       | some x => exact (hf x).1
     rw [this]; exact fB.kZ (h.eO t)
   boxes := fun b sl cs hs hb => by
     obtain ⟨f, hf, hk⟩ := hn b; rw [hk] at hs
     cases hx : nth st b with
     | none => rw [hx] at hs; simp at hs
     | some x =>
       rw [hx] at hs; simp at hs; subst hs; rw [(hf x).2.1] at hb; exact (h.boxes b x cs hx hb).go fB rfl rfl rfl
   aI := fun b i sl A hs hA => by
     obtain ⟨f, hf, hk⟩ := hn b; rw [hk] at hs
     cases hx : nth st b with
     | none => rw [hx] at hs; simp at hs
     | some x =>
       rw [hx] at hs; simp at hs; subst hs; rw [(hf x).2.2.2.2.1 i] at hA
       by_cases e : b = s ∧ i = j
       · rw [if_pos e] at hA
         cases hq : nth x.aI i <;> simp [hq] at hA
       · rw [if_neg e] at hA; exact h.aI b i x A hx hA
   owned := h.owned
   free := h.free
   kept := h.kept
   old := h.old
   dK := fun p hp => fB.dK (h.dK p hp)
   plain := h.plain }, fun sl A hs => ?_⟩
 obtain ⟨f, hf, hk⟩ := hn s; rw [hk] at hs
 cases hx : nth st s with
 | none => rw [hx] at hs; simp at hs
 | some x =>
   rw [hx] at hs; simp at hs; subst hs; rw [(hf x).2.2.2.2.1 j, if_pos ⟨rfl, rfl⟩]
   cases nth x.aI j <;> simp
def Cz.bj (c : Cz) (d : Nat) (L : Loc) (B : Option Nat) : Cz :=
 { bx := c.bx, lc := fun s j => if s = d ∧ j = 0 then L else c.lc s j, own := fun k => if B = some k then some (.sp d 0) else c.own k }
theorem kF {st : St} {d : Option Nat} {A : fK} {aP : St} (h : (bj st d A).val = some aP) :
   ∃ k s0, d = some k ∧ nth st k = some s0 ∧ aP = kP (fun s => { s with v := .one (.ref k 0 (s0.ag + 1) .full), aI := [some A], ag := s0.ag + 1 }) st k := by
 unfold bj at h
 cases d with
 | none => simp [N.val] at h
 | some k =>
   cases hs : nth st k with
   | none => simp [hs, N.val] at h
   | some s0 =>
     simp only [hs, N.val, Option.some.injEq] at h; exact ⟨k, s0, rfl, hs, h.symm⟩
theorem yH {st : St} {d : Option Nat} {cs : List CV} {aP : St} (h : (gp st d cs).val = some aP) :
   ∃ k s0, d = some k ∧ nth st k = some s0 ∧ aP = kP (fun s => { s with v := .one (.ptr k (s0.bg + 1) 0), box := some cs, bg := s0.bg + 1 }) st k := by
 unfold gp at h
 cases d with
 | none => simp [N.val] at h
 | some k =>
   cases hs : nth st k with
   | none => simp [hs, N.val] at h
   | some s0 =>
     simp only [hs, N.val, Option.some.injEq] at h; exact ⟨k, s0, rfl, hs, h.symm⟩
theorem Rel.fresh {w0 : World} {mu : Mu} {c : Cz} {st : St} {a : Act} {w : World} (h : Rel w0 mu c st a w) {d : Nat} {s0 : Sl} {r : RT} {xs : List (ak r)} {cur : Array Value} {ty cap : Nat}
   (gm : nth st d = some s0) (hd : d < a.tmps.size) (hle : xs.length ≤ cap) (jv : cap * r.width ≤ cur.size) {vs : List Value} (wZ : aY w c.ok r vs xs) (Qf : cur.toList.take vs.length = vs) :
   ∃ c', Rel w0 mu c' (kP (fun s => { s with v := .one (.ref d 0 (s0.ag + 1) .full), aI := [some { r := r, own := true, xs := xs }], ag := s0.ag + 1 }) st d)
     (a.put (some d) (.slice (some ⟨w.heap.size, 0, none⟩) xs.length cap)) (w.alloc (.cells cur ty (0, 0))) := by
 have tp := heap_alloc_new w (.cells cur ty (0, 0)); refine ⟨c.bj d (.at w.heap.size 0 cap) (some w.heap.size), h.place (B := w.heap.size) (A := { r := r, own := true, xs := xs }) gm hd rfl ?_ ?_ (.inl ?_) (.inl (Nat.le_refl _)) (fun _ => by simp) (fun k hk _ => heap_alloc_old w _ k hk)
   ⟨rfl, rfl, rfl, by simp⟩ ?_ rfl ?_⟩
 · intro s j fk; simp [Cz.bj, fk]
 · intro k hk; simp only [Cz.bj]; rw [if_neg (by intro e; exact hk (Option.some.inj e).symm)]
 · simp [Cz.bj]
 · have qn : gH w (w.alloc (.cells cur ty (0, 0))) c.ok (c.bj d (.at w.heap.size 0 cap) (some w.heap.size)).ok := tn w _ _ _ (fun b hb ff => by
     unfold Cz.ok Cz.bj; simp only; rw [if_neg (by intro e; have := Option.some.inj e; omega)]; exact ff)
   unfold bA; simp only [Cz.bj, and_self, if_true]; refine ⟨trivial, hle, ⟨cur, ty, tp, by simpa using jv⟩, ?_⟩; refine (bh.sh rfl).2 ?_; refine p7 0 vs xs (aY.stays qn vs xs wZ) (fun j v hv => ?_); rw [cell_of_row _ _ _ cur ty (0, 0) tp, Nat.zero_add]; have hj : j < vs.length := (List.getElem?_eq_some_iff.1 hv).1; rw [← Qf, List.getElem?_take, if_pos hj] at hv; simpa using hv
 · simp only [Cz.bj, and_self, if_true]; exact ⟨_, cap, rfl, hle, by omega, fun _ => by simp⟩
theorem BL {P : Program} {t ty e : TypeId} {i : TypeInfo} (ht : P.underlying t = some (.slice e)) (hi : P.info? e = some i) (w : World)
   (g o w5 Df : Nat) (cur : Array Value) (te : TypeId) (hg : w.heap[g]? = some (.cells cur te (0, 0)))
   (a : Addr) (m c : Nat) (news : List Value) (hl : news.length = m * i.size) (TI : ∀ j u, news[j]? = some u → w.cell? (a.add j) = some u) (h1 : ∀ u ∈ news, u.oneCell' = true)
   (qI : w5 + m ≤ Df) (oP : o + w5 * i.size + news.length ≤ cur.size) :
   (Builtin.append_ #[t, t] ty #[.slice (some ⟨g, o, none⟩) w5 Df, .slice (some a) m c]).run P w =
     .ok (.slice (some ⟨g, o, none⟩) (w5 + m) Df) (w.setRow g (bp cur.toList (o + w5 * i.size) news).toArray) := by
 have hf := run_firstCells_some (P := P) w i.size m a m c news hl TI; have qn := run_storeCells_at P g (o + w5 * i.size) te news 0 cur w hg (by simpa using oP) h1; simp only [Nat.add_zero] at qn; simp [Builtin.append_, run_underlying ht, sizeOf, typeInfo, hi, Builtin.lenOf, qI, hf, Addr.add_mid, qn, bp]
theorem run_append_nothing {P : Program} {t ty e : TypeId} {i : TypeInfo} (ht : P.underlying t = some (.slice e)) (hi : P.info? e = some i) (w : World) (base : Option Addr) (w5 Df : Nat) (hle : w5 ≤ Df)
   (x : Value) (hx : (x = .slice none 0 0) ∨ ∃ a c, x = .slice (some a) 0 c) :
   (Builtin.append_ #[t, t] ty #[.slice base w5 Df, x]).run P w = .ok (.slice base w5 Df) w := by
 rcases hx with rfl | ⟨a, c, rfl⟩
 · cases base <;> simp [Builtin.append_, run_underlying ht, sizeOf, typeInfo, hi, Builtin.lenOf, Builtin.firstCells, hle, storeCells]
 · cases base <;> simp [Builtin.append_, run_underlying ht, sizeOf, typeInfo, hi, Builtin.lenOf, Builtin.firstCells, hle, storeCells, loadCells, loadCellsFrom]
end Go.TM
namespace Go.TM
open Go Go.RowKit
def cF (w : World) (P : List Nat → Nat → Prop) : (r : RT) → (p : List Nat) → (k : Nat) → List Value → ak r → Prop
 | .nil, _, _, vs, _ => vs = []
 | .cons t r, p, k, vs, x => ∃ v l, vs = v :: l ∧ cE w P t (p ++ [k]) v x.1 ∧ cF w P r p (k + 1) l x.2
theorem cF.length {w : World} {P : List Nat → Nat → Prop} : (r : RT) → (p : List Nat) → (k : Nat) → (vs : List Value) → (x : ak r) → cF w P r p k vs x → vs.length = r.width
 | .nil, _, _, vs, _, h => by simp only [cF] at h; subst h; rfl
 | .cons t r, p, k, vs, x, h => by
   obtain ⟨v, l, rfl, _, h⟩ := h; simp [RT.width, cF.length r p (k + 1) l x.2 h]
theorem iu {w : World} {P : List Nat → Nat → Prop} : (r : RT) → (p : List Nat) → (k b off : Nat) → (x : ak r) → (fo w P r p k b off x ↔ ∃ vs, w.rangeAt b off vs ∧ cF w P r p k vs x)
 | .nil, _, _, _, _, _ => by
   unfold fo; exact ⟨fun _ => ⟨[], fun j v h => by simp at h, rfl⟩, fun _ => trivial⟩
 | .cons t r, p, k, b, off, x => by
   unfold fo
   constructor
   · rintro ⟨⟨v, hv, hx⟩, hr⟩
     obtain ⟨vs, h1, h2⟩ := (iu r p (k + 1) b (off + 1) x.2).1 hr; refine ⟨v :: vs, fun j u hu => ?_, v, vs, rfl, hx, h2⟩
     cases j with
     | zero => simp at hu; rw [← hu]; exact hv
     | succ j =>
       simp at hu; rw [show off + (j + 1) = off + 1 + j by omega]; exact h1 j u hu
   · rintro ⟨vs, h1, v, l, rfl, hx, h2⟩
     refine ⟨⟨v, h1 0 v rfl, hx⟩, (iu r p (k + 1) b (off + 1) x.2).2 ⟨l, fun j u hu => ?_, h2⟩⟩; have := h1 (j + 1) u (by simpa using hu); rw [show off + 1 + j = off + (j + 1) by omega]; exact this
theorem cF.go {w w' : World} {P P' : List Nat → Nat → Prop} : (r : RT) → (p p' : List Nat) → (hP : ∀ q b, P (p ++ q) b → w'.heap[b]? = w.heap[b]? ∧ P' (p' ++ q) b) → (k : Nat) → (vs : List Value) → (x : ak r) → cF w P r p k vs x → cF w' P' r p' k vs x
 | .nil, _, _, _, _, _, _, h => h
 | .cons t r, p, p', hP, k, vs, x, h => by
   obtain ⟨v, l, e, h1, h2⟩ := h; refine ⟨v, l, e, cE.go t (p ++ [k]) (p' ++ [k]) (fun q b hb => ?_) v x.1 h1, cF.go r p p' hP (k + 1) l x.2 h2⟩; have := hP ([k] ++ q) b (by rw [← List.append_assoc]; exact hb); rw [← List.append_assoc] at this; exact this
theorem Aa {w : World} {P : List Nat → Nat → Prop} {c : Cz} {st : St} {w1 : World} : (r : RT) → (p : List Nat) → (k0 : Nat) → (x : ak r) → (k : Nat) → (y : CV) → (z : ak r) → (vs : List Value) → (u : Value) →
   eT r x k y = some z → ir c st w1 y u → cF w P r p k0 vs x → cF w P r p k0 (vs.set k u) z
 | .nil, _, _, _, _, _, _, _, _, h, _, _ => by simp [eT] at h
 | .cons t r, p, k0, x, 0, y, z, vs, u, h, hu, hv => by
   obtain ⟨v, l, rfl, hx, hr⟩ := hv
   cases t with
   | int k => cases y <;> simp [eT] at h
              obtain ⟨rfl, h⟩ := h; obtain rfl := Option.some.inj h; exact ⟨u, l, rfl, vB.2 hu, hr⟩
   | bool => cases y <;> simp [eT] at h
             obtain rfl := Option.some.inj h; exact ⟨u, l, rfl, rq.2 hu, hr⟩
   | str => cases y <;> simp [eT] at h
            obtain rfl := Option.some.inj h; exact ⟨u, l, rfl, vC.2 hu, hr⟩
   | sl q => cases y <;> simp [eT] at h
 | .cons t r, p, k0, x, k + 1, y, z, vs, u, h, hu, hv => by
   obtain ⟨v, l, rfl, hx, hr⟩ := hv; have h' : (eT r x.2 k y).map (fun z => ((x.1, z) : ak (.cons t r))) = some z := by cases t <;> (simp only [eT] at h; exact h)
   cases hq : eT r x.2 k y with
   | none => simp [hq] at h'
   | some z' =>
     rw [hq] at h'; obtain rfl := Option.some.inj h'; exact ⟨v, l.set k u, rfl, hx, Aa r p (k0 + 1) x.2 k y z' l u hq hu hr⟩
theorem Ab {w : World} {P : List Nat → Nat → Prop} {c : Cz} {st : St} {w1 : World} (r : RT) (p : List Nat) (k0 : Nat) (x : ak r) : (off : Nat) → (cs : List CV) → (z : ak r) → (vs us : List Value) → off + us.length ≤ vs.length →
   jc r x off cs = some z → ek c st w1 cs us → cF w P r p k0 vs x → cF w P r p k0 (bp vs off us) z
 | off, [], z, vs, us, _, h, hl, hv => by
   have : us = [] := by have := hl.1; simp at this; exact List.length_eq_zero_iff.1 this.symm
   subst this; simp [jc] at h; subst h; simp [bp]; exact hv
 | off, y :: l, z, vs, us, hle, h, hl, hv => by
   cases us with
   | nil => have := hl.1; simp at this
   | cons u us =>
     simp only [jc] at h
     cases hq : jc r x (off + 1) l with
     | none => simp [hq] at h
     | some y' =>
       simp only [hq] at h; simp at hle; have ih := Ab r p k0 x (off + 1) l y' vs us (by omega) hq ⟨by have := hl.1; simpa using this, fun i a b ha hb => hl.2 (i + 1) a b (by simpa using ha) (by simpa using hb)⟩ hv; rw [yD (by omega)]; exact Aa r p k0 y' off y z _ u h (hl.2 0 y u rfl rfl) ih
mutual
theorem bz.dep {w : World} {P : List Nat → Nat → Prop} {ok : Nat → Prop} : (t : Ty) → (p : List Nat) → (v : Value) → (x : den t) → RT.dB (.cons t .nil) = false → bz w ok t v x → cE w P t p v x
 | .int _, _, _, _, _, h => vB.2 (oM.1 h)
 | .bool, _, _, _, _, h => rq.2 (pZ.1 h)
 | .str, _, _, _, _, h => vC.2 (ti.1 h)
 | .sl _, _, _, _, hs, _ => by simp [RT.dB] at hs
theorem bU.dep {w : World} {P : List Nat → Nat → Prop} {ok : Nat → Prop} : (r : RT) → (p : List Nat) → (k b off : Nat) → (x : ak r) → r.dB = false → bU w ok r b off x → fo w P r p k b off x
 | .nil, _, _, _, _, _, _, _ => by unfold fo; trivial
 | .cons t r, p, k, b, off, x, hs, h => by
   unfold bU at h; unfold fo; obtain ⟨⟨v, h1, h2⟩, h3⟩ := h; refine ⟨⟨v, h1, bz.dep t _ v x.1 ?_ h2⟩, bU.dep r p (k + 1) b (off + 1) x.2 ?_ h3⟩
   · cases t <;> simp_all [RT.dB]
   · cases t <;> simp_all [RT.dB]
end
theorem fo.Ef {w : World} {P : List Nat → Nat → Prop} {ok : Nat → Prop} : (r : RT) → (p : List Nat) → (k b off : Nat) → (x : ak r) → r.dB = false → fo w P r p k b off x → bU w ok r b off x
 | .nil, _, _, _, _, _, _, _ => by unfold bU; trivial
 | .cons t r, p, k, b, off, x, hs, h => by
   unfold fo at h; unfold bU; obtain ⟨⟨v, h1, h2⟩, h3⟩ := h; refine ⟨⟨v, h1, ?_⟩, fo.Ef r p (k + 1) b (off + 1) x.2 (by cases t <;> simp_all [RT.dB]) h3⟩
   cases t with
   | int _ => exact oM.2 (vB.1 h2)
   | bool => exact pZ.2 (rq.1 h2)
   | str => exact ti.2 (vC.1 h2)
   | sl _ => simp [RT.dB] at hs
theorem bh.Kv {c : Cz} {w : World} {l : Lb} {A : fK} {b off : Nat} (hm : A.md = .sh) {ys : List (ak A.r)} (h : ∀ (i : Nat) x, ys[i]? = some x → bU w c.ok A.r b (off + i * A.r.width) x) : bh c w l { A with xs := ys } b off := by
 unfold bh; show match A.md with | .sh => _ | .dp => _ | .ho _ => _
 rw [hm]; exact h
def RT.md (q : RT) : Md := bif q.dB then .dp else .sh
theorem NC {c : Cz} {w : World} {s j : Nat} {A : fK} (h : bA c w s j A) (ho : A.own = true) (hm : A.md = A.r.md) {v : Value} (h1 : v.oneCell' = true) (hv : gP (c.lc s j) A.r.width 0 A.xs.length v) :
   ∃ g : Nat → List Nat, ∀ (P : List Nat → Nat → Prop) (p : List Nat), (∀ k, c.own k = some (.sp s j) → P (p ++ g k) k) → cE w P (.sl A.r) p v A.xs := by
 unfold bA at h
 cases hl : c.lc s j with
 | nil =>
   rw [hl] at h hv; exact ⟨fun _ => [], fun P p _ => (tj _ _ _ _ _ _).2 ⟨.nil, hv, h1, .inl ⟨rfl, h⟩⟩⟩
 | «at» b off cap =>
   rw [hl] at h hv; obtain ⟨h0, h2, h3, h4⟩ := h; rw [ho] at h0; unfold bh at h4; rw [hm] at h4; unfold RT.md at h4
   cases hs : A.r.dB with
   | false =>
     rw [hs] at h4; refine ⟨fun _ => [], fun P p hP => (tj _ _ _ _ _ _).2 ⟨_, hv, h1, .inr ⟨b, off, cap, rfl, ?_, h2, h3, fun i x hx => bU.dep _ _ _ _ _ x hs (h4 i x hx)⟩⟩⟩; simpa using hP b h0
   | true =>
     rw [hs] at h4; obtain ⟨g, g1, g2⟩ := h4; refine ⟨g, fun P p hP => (tj _ _ _ _ _ _).2 ⟨_, hv, h1, .inr ⟨b, off, cap, rfl, ?_, h2, h3, fun i x hx => fo.go _ [i] (p ++ [i]) (fun q k hk => ⟨rfl, ?_⟩) _ _ _ x rfl (g2 i x hx)⟩⟩⟩
     · have := hP b h0
       rwa [g1, List.append_nil] at this
     · have := hP k hk.1; rw [hk.2] at this
       rwa [List.append_assoc]
theorem Kw {c : Cz} {w : World} {s j : Nat} {A : fK} (h : bA c w s j A) (ho : A.own = true) (hm : A.md = A.r.md) :
   ∃ g : Nat → List Nat, ∀ v : Value, v.oneCell' = true → gP (c.lc s j) A.r.width 0 A.xs.length v → ∀ (P : List Nat → Nat → Prop) (p : List Nat), (∀ k, c.own k = some (.sp s j) → P (p ++ g k) k) → cE w P (.sl A.r) p v A.xs := by
 by_cases e : ∃ v : Value, v.oneCell' = true ∧ gP (c.lc s j) A.r.width 0 A.xs.length v
 · unfold bA at h
   cases hl : c.lc s j with
   | nil =>
     rw [hl] at h; exact ⟨fun _ => [], fun v h1 hv P p _ => (tj _ _ _ _ _ _).2 ⟨.nil, hv, h1, .inl ⟨rfl, h⟩⟩⟩
   | «at» b off cap =>
     rw [hl] at h; obtain ⟨h0, h2, h3, h4⟩ := h; rw [ho] at h0; unfold bh at h4; rw [hm] at h4; unfold RT.md at h4
     cases hs : A.r.dB with
     | false =>
       rw [hs] at h4; refine ⟨fun _ => [], fun v h1 hv P p hP => (tj _ _ _ _ _ _).2 ⟨_, hv, h1, .inr ⟨b, off, cap, rfl, ?_, h2, h3, fun i x hx => bU.dep _ _ _ _ _ x hs (h4 i x hx)⟩⟩⟩; simpa using hP b h0
     | true =>
       rw [hs] at h4; obtain ⟨g, g1, g2⟩ := h4; refine ⟨g, fun v h1 hv P p hP => (tj _ _ _ _ _ _).2 ⟨_, hv, h1, .inr ⟨b, off, cap, rfl, ?_, h2, h3, fun i x hx => fo.go _ [i] (p ++ [i]) (fun q k hk => ⟨rfl, ?_⟩) _ _ _ x rfl (g2 i x hx)⟩⟩⟩
       · have := hP b h0
         rwa [g1, List.append_nil] at this
       · have := hP k hk.1; rw [hk.2] at this
         rwa [List.append_assoc]
 · exact ⟨fun _ => [], fun v h1 h2 => absurd ⟨v, h1, h2⟩ e⟩
theorem w6 {w0 : World} {mu : Mu} {c : Cz} {st : St} {a : Act} {w : World} (h : Rel w0 mu c st a w) : (r : RT) → (cs : List CV) → (us : List Value) → ek c st w cs us → {x : ak r} → {m : List (Option (Nat × Nat))} → fF st r cs = some (x, m) →
   m.length = r.width ∧ (∀ (col : Nat) (n : Nat × Nat), m[col]? = some (some n) → ∃ g A, aQ st n.1 n.2 g = some A ∧ A.own = true) ∧
   ∃ G : Nat → Nat → List Nat, ∀ (P : List Nat → Nat → Prop) (p : List Nat) (k0 : Nat), (∀ (col : Nat) (n : Nat × Nat) (k : Nat), m[col]? = some (some n) → c.own k = some (.sp n.1 n.2) → P (p ++ [k0 + col] ++ G col k) k) → cF w P r p k0 us x
 | .nil, cs, us, hl, x, m, hv => by
   cases cs with
   | cons _ _ => simp [fF] at hv
   | nil =>
     have : us = [] := by have := hl.1; simp at this; exact List.length_eq_zero_iff.1 this.symm
     subst this; simp only [fF, Option.some.injEq, Prod.mk.injEq] at hv; obtain ⟨_, rfl⟩ := hv; exact ⟨rfl, fun col n h => by simp at h, fun _ _ => [], fun _ _ _ _ => rfl⟩
 | .cons t r, cs, us, hl, x, m, hv => by
   cases cs with
   | nil => cases t <;> simp [fF] at hv
   | cons y cs =>
     cases us with
     | nil => have := hl.1; simp at this
     | cons u us =>
       have hu : ir c st w y u := hl.2 0 y u rfl rfl; have vi : ek c st w cs us := ⟨by have := hl.1; simpa using this, fun i a b ha hb => hl.2 (i + 1) a b (by simpa using ha) (by simpa using hb)⟩; have cell : ∀ (d : den t) (o : Option (Nat × Nat)) (z : ak r) (m' : List (Option (Nat × Nat))), fF st r cs = some (z, m') → (∀ n, o = some n → ∃ g A, aQ st n.1 n.2 g = some A ∧ A.own = true) →
           (∃ g : Nat → List Nat, ∀ (P : List Nat → Nat → Prop) (p : List Nat), (∀ n k, o = some n → c.own k = some (.sp n.1 n.2) → P (p ++ g k) k) → cE w P t p u d) → x = (d, z) → m = o :: m' →
           m.length = (RT.cons t r).width ∧ (∀ (col : Nat) (n : Nat × Nat), m[col]? = some (some n) → ∃ g A, aQ st n.1 n.2 g = some A ∧ A.own = true) ∧
           ∃ G : Nat → Nat → List Nat, ∀ (P : List Nat → Nat → Prop) (p : List Nat) (k0 : Nat), (∀ (col : Nat) (n : Nat × Nat) (k : Nat), m[col]? = some (some n) → c.own k = some (.sp n.1 n.2) → P (p ++ [k0 + col] ++ G col k) k) → cF w P (.cons t r) p k0 (u :: us) x := by
         intro d o z m' hz ho hd e1 e2; subst e1 e2; obtain ⟨g1, g2, G, g3⟩ := w6 h r cs us vi hz; obtain ⟨g, hd⟩ := hd; refine ⟨by simp [RT.width, g1], fun col n hc => ?_, fun col => match col with | 0 => g | col + 1 => G col, fun P p k0 hP => ⟨u, us, rfl, hd P _ fun n k hn hk => ?_, g3 P p (k0 + 1) fun col n k hc hk => ?_⟩⟩
         · cases col with
           | zero => exact ho n (by simpa using hc)
           | succ col => exact g2 col n (by simpa using hc)
         · have := hP 0 n k (by simp [hn]) hk; simpa using this
         · have := hP (col + 1) n k (by simpa using hc) hk
           rwa [show k0 + (col + 1) = k0 + 1 + col by omega] at this
       have plain : ∀ (d : den t), (∀ (P : List Nat → Nat → Prop) (p : List Nat), cE w P t p u d) → (match fF st r cs with | some p => some ((d, p.1), none :: p.2) | none => (none : Option (ak (.cons t r) × List (Option (Nat × Nat))))) = some (x, m) →
           m.length = (RT.cons t r).width ∧ (∀ (col : Nat) (n : Nat × Nat), m[col]? = some (some n) → ∃ g A, aQ st n.1 n.2 g = some A ∧ A.own = true) ∧
           ∃ G : Nat → Nat → List Nat, ∀ (P : List Nat → Nat → Prop) (p : List Nat) (k0 : Nat), (∀ (col : Nat) (n : Nat × Nat) (k : Nat), m[col]? = some (some n) → c.own k = some (.sp n.1 n.2) → P (p ++ [k0 + col] ++ G col k) k) → cF w P (.cons t r) p k0 (u :: us) x := by
         intro d hd hv
         cases hz : fF st r cs with
         | none => rw [hz] at hv; cases hv
         | some q =>
           rw [hz] at hv; have hv := Option.some.inj hv; exact cell d none q.1 q.2 hz (fun n e => by cases e) ⟨fun _ => [], fun P p _ => hd P p⟩ (congrArg Prod.fst hv).symm (congrArg Prod.snd hv).symm
       cases t with
       | int q =>
         cases y with
         | int l n =>
           simp only [fF] at hv
           by_cases e : q = l
           · rw [if_pos e] at hv; exact plain n (fun P p => vB.2 (by rw [e]; exact hu)) hv
           · rw [if_neg e] at hv; cases hv
         | _ => simp [fF] at hv
       | bool =>
         cases y with
         | bool b => exact plain b (fun P p => rq.2 hu) (by simp only [fF] at hv; exact hv)
         | _ => simp [fF] at hv
       | str =>
         cases y with
         | str s => exact plain s (fun P p => vC.2 hu) (by simp only [fF] at hv; exact hv)
         | _ => simp [fF] at hv
       | sl q =>
         cases y with
         | di => exact plain ([] : List (ak q)) (fun P p => (tj _ _ _ _ _ _).2 ⟨.nil, ⟨hu, rfl⟩, by rw [show u = .slice none 0 0 from hu]; rfl, .inl ⟨rfl, rfl⟩⟩) (by simp only [fF] at hv; exact hv)
         | ref a' j g vw =>
           cases vw with
           | full =>
             simp only [fF] at hv
             cases hA : aQ st a' j g with
             | none => simp [hA] at hv
             | some A =>
               simp only [hA] at hv; obtain ⟨hc, lH⟩ := aD hv; clear hv; rw [Bool.and_eq_true] at hc; have hm := Md.kh.1 hc.2
               cases oQ : bn q A.xs with
               | none => rw [oQ] at lH; cases lH
               | some ys =>
                 rw [oQ] at lH; simp only at lH
                 cases hz : fF st r cs with
                 | none => rw [hz] at lH; cases lH
                 | some qq =>
                   rw [hz] at lH; have lH := Option.some.inj lH; obtain ⟨e, he⟩ := aX oQ; subst e; simp only at he; subst he; refine cell A.xs (some (a', j)) qq.1 qq.2 hz (fun n e => by cases e; exact ⟨g, A, hA, hc.1⟩) ?_ (congrArg Prod.fst lH).symm (congrArg Prod.snd lH).symm; obtain ⟨gg, h2⟩ := NC (h.qG hA) hc.1 hm hu.1 (hu.2.2 A hA); exact ⟨gg, fun P p hP => h2 P p fun k hk => hP (a', j) k rfl hk⟩
           | «from» _ => simp [fF] at hv
           | sub _ _ => simp [fF] at hv
         | _ => simp [fF] at hv
theorem jw {w0 : World} {mu : Mu} {c : Cz} {a : Act} {w : World} : (m : List (Nat × Nat)) → {st : St} → Rel w0 mu c st a w → Rel w0 mu c (fL st m) a w ∧ (∀ n ∈ m, ∀ sl A, nth (fL st m) n.1 = some sl → nth sl.aI n.2 ≠ some (some A)) ∧
   (∀ s j sl A, (s, j) ∉ m → nth st s = some sl → nth sl.aI j = some (some A) → ∃ OT, nth (fL st m) s = some OT ∧ nth OT.aI j = some (some A)) ∧ Fw c st w c (fL st m) w ∧ ∀ s j A, (∀ sl, nth st s = some sl → nth sl.aI j ≠ some (some A)) → ∀ sl, nth (fL st m) s = some sl → nth sl.aI j ≠ some (some A)
 | [], st, h => ⟨h, by simp, fun s j sl A _ h1 h2 => ⟨sl, h1, h2⟩, Fw.refl c st w, fun s j A h => h⟩
 | (s0, j0) :: m, st, h => by
   obtain ⟨k1, k2⟩ := h.kill s0 j0; obtain ⟨h1, h2, h3, h4, h5⟩ := jw m k1; have hn : ∀ k, ∃ f : Sl → Sl, (∀ x, ∀ i, nth (f x).aI i = if k = s0 ∧ i = j0 then (nth x.aI i).map (fun _ => none) else nth x.aI i) ∧ nth (bf st s0 j0 none) k = (nth st k).map f := by
     intro k; unfold bf
     by_cases e : k = s0
     · subst e; refine ⟨fun s => { s with aI := kP (fun _ => none) s.aI j0, ep := s.ep + 1 }, fun x i => ?_, hY _ _ _⟩; simp only [cL, true_and]
     · refine ⟨id, fun x i => ?_, by rw [ki _ _ e]; simp⟩; simp [e]
   have keep : ∀ s j A, (∀ sl, nth st s = some sl → nth sl.aI j ≠ some (some A)) → ∀ sl, nth (bf st s0 j0 none) s = some sl → nth sl.aI j ≠ some (some A) := by
     intro s j A hq sl hs; obtain ⟨f, hf, hk⟩ := hn s; rw [hk] at hs
     cases hx : nth st s with
     | none => rw [hx] at hs; cases hs
     | some x =>
       rw [hx] at hs; simp at hs; subst hs; rw [hf]
       split
       · cases nth x.aI j <;> simp
       · exact hq x hx
   refine ⟨h1, fun n hm sl A hs => ?_, fun s j sl A hm hs hA => ?_, ?_, fun s j A hq => h5 s j A (keep s j A hq)⟩
   · rcases List.mem_cons.1 hm with rfl | hm
     · exact h5 s0 j0 A (fun sl hs => k2 sl A hs) sl hs
     · exact h2 n hm sl A hs
   · obtain ⟨f, hf, hk⟩ := hn s; refine h3 s j (f sl) A (fun Ac => hm (List.mem_cons_of_mem _ Ac)) (by rw [hk, hs]; rfl) ?_; rw [hf, if_neg]
     · exact hA
     · rintro ⟨rfl, rfl⟩; exact hm List.mem_cons_self
   · refine Fw.trans ?_ h4; exact (h.Qe s0 j0)
open Classical in
noncomputable def Cz.gJ (c : Cz) (m : List (Nat × Nat)) (l : Lb) : Cz :=
 { bx := c.bx, lc := c.lc, own := fun k => if ∃ n ∈ m, c.own k = some (.sp n.1 n.2) then some l else c.own k }
theorem Cz.la {c : Cz} {m : List (Nat × Nat)} {l : Lb} {k : Nat} {n : Nat × Nat} (hm : n ∈ m) (h : c.own k = some (.sp n.1 n.2)) : (c.gJ m l).own k = some l := by
 unfold Cz.gJ; simp only; rw [if_pos ⟨n, hm, h⟩]
theorem Cz.lY {c : Cz} {m : List (Nat × Nat)} {l : Lb} {k : Nat} (h : ∀ n ∈ m, c.own k ≠ some (.sp n.1 n.2)) : (c.gJ m l).own k = c.own k := by
 unfold Cz.gJ; simp only; rw [if_neg]; rintro ⟨n, hm, e⟩; exact h n hm e
theorem Cz.Eg {c : Cz} {m : List (Nat × Nat)} {l : Lb} {k : Nat} : (c.gJ m l).ok k ↔ c.ok k := by
 unfold Cz.ok
 by_cases h : ∃ n ∈ m, c.own k = some (.sp n.1 n.2)
 · obtain ⟨n, hm, e⟩ := h; rw [Cz.la hm e, e]; simp
 · rw [Cz.lY (fun n hm e => h ⟨n, hm, e⟩)]
theorem Fw.gJ (c : Cz) (st : St) (w : World) (m : List (Nat × Nat)) (l : Lb) : Fw c st w (c.gJ m l) st w :=
 ⟨⟨Nat.le_refl _, fun _ _ _ => rfl, fun _ _ h => Cz.Eg.2 h⟩, fun _ _ _ A' _ h => ⟨A', h, rfl, rfl, rfl, fun _ => ⟨rfl, fun _ _ _ _ => rfl⟩⟩, fun _ _ lF _ h => ⟨⟨lF, h⟩, rfl⟩, fun _ => Nat.le_refl _, fun _ => Nat.le_refl _, fun _ => Nat.le_refl _⟩
theorem Rel.gJ {w0 : World} {mu : Mu} {c : Cz} {st : St} {a : Act} {w : World} (h : Rel w0 mu c st a w) {m : List (Nat × Nat)} (hd : ∀ n ∈ m, ∀ sl A, nth st n.1 = some sl → nth sl.aI n.2 ≠ some (some A)) (s j : Nat) : Rel w0 mu (c.gJ m (.sp s j)) st a w where
 eO t := (Fw.gJ c st w m _).kZ (h.eO t)
 boxes b sl cs hs hb := by
   have h0 := h.boxes b sl cs hs hb; exact h0.go (Fw.gJ c st w m _) rfl (Cz.lY fun n _ => by rw [h0.1]; simp) rfl
 aI b i sl A hs hA := by
   have h0 := h.aI b i sl A hs hA; refine h0.go (Fw.gJ c st w m _).stays rfl (fun k hk => ⟨rfl, Cz.lY fun n hn e => ?_⟩); rw [hk] at e; injection e with e; injection e with e1 e2; subst e1 e2; exact hd n hn sl A hs hA
 owned b l hb := by
   by_cases e : ∃ n ∈ m, c.own b = some (.sp n.1 n.2)
   · obtain ⟨n, hm, e⟩ := e; rw [Cz.la hm e] at hb
     cases hb
     obtain ⟨h1, h2⟩ := h.owned b _ e; exact ⟨h1, .inr (h2.resolve_left (by simp))⟩
   · rw [Cz.lY (fun n hm e' => e ⟨n, hm, e'⟩)] at hb; exact h.owned b l hb
 free b hb h1 := h.free b hb (Cz.Eg.1 h1)
 kept := h.kept
 old := h.old
 plain := h.plain
 dK p hp := (Fw.gJ c st w m _).dK (h.dK p hp)
theorem ld : {m : List (Nat × Nat)} → distinct m = true → m.Nodup
 | [], _ => List.nodup_nil
 | x :: l, h => by
   simp only [distinct, Bool.and_eq_true, List.all_eq_true] at h; refine List.nodup_cons.2 ⟨fun hm => ?_, ld h.2⟩; have := h.1 x hm; simp at this
theorem vE {n : Nat × Nat} : {m : List (Option (Nat × Nat))} → n ∈ dj m → ∃ col : Nat, m[col]? = some (some n)
 | [], h => by simp [dj] at h
 | none :: m, h => by
   obtain ⟨col, hc⟩ := vE (m := m) h; exact ⟨col + 1, by simpa using hc⟩
 | some p :: m, h => by
   rcases List.mem_cons.1 h with rfl | h
   · exact ⟨0, rfl⟩
   · obtain ⟨col, hc⟩ := vE (m := m) h; exact ⟨col + 1, by simpa using hc⟩
theorem jg {n : Nat × Nat} : {m : List (Option (Nat × Nat))} → {col : Nat} → m[col]? = some (some n) → n ∈ dj m
 | [], _, h => by simp at h
 | none :: m, 0, h => by simp at h
 | none :: m, col + 1, h => jg (m := m) (col := col) (by simpa using h)
 | some p :: m, 0, h => by simp at h; subst h; exact List.mem_cons_self
 | some p :: m, col + 1, h => List.mem_cons_of_mem _ (jg (m := m) (col := col) (by simpa using h))
theorem rD {n : Nat × Nat} : {m : List (Option (Nat × Nat))} → (dj m).Nodup → {a b : Nat} → m[a]? = some (some n) → m[b]? = some (some n) → a = b
 | [], _, a, _, h, _ => by simp at h
 | none :: m, hn, a, b, h, h' => by
   cases a with
   | zero => simp at h
   | succ a => cases b with
     | zero => simp at h'
     | succ b => exact congrArg (· + 1) (rD (m := m) (a := a) (b := b) hn (by simpa using h) (by simpa using h'))
 | some p :: m, hn, a, b, h, h' => by
   have IV := List.nodup_cons.1 hn
   cases a with
   | zero =>
     simp at h; subst h
     cases b with
     | zero => rfl
     | succ b => exact absurd (jg (m := m) (col := b) (by simpa using h')) IV.1
   | succ a =>
     cases b with
     | zero => simp at h'; subst h'; exact absurd (jg (m := m) (col := a) (by simpa using h)) IV.1
     | succ b => exact congrArg (· + 1) (rD (m := m) (a := a) (b := b) IV.2 (by simpa using h) (by simpa using h'))
theorem xZ {c : Cz} {m : List (Option (Nat × Nat))} (hn : (dj m).Nodup) (G : Nat → Nat → List Nat) (g : Nat → List Nat) (p : List Nat) (l : Lb) (hl : ∀ n ∈ dj m, l ≠ .sp n.1 n.2) :
   ∃ g' : Nat → List Nat, (∀ k, c.own k = some l → g' k = g k) ∧ ∀ (col : Nat) (n : Nat × Nat) (k : Nat), m[col]? = some (some n) → c.own k = some (.sp n.1 n.2) → g' k = p ++ [col] ++ G col k := by
 have key : ∀ k, ∃ q : List Nat, (c.own k = some l → q = g k) ∧ ∀ (col : Nat) (n : Nat × Nat), m[col]? = some (some n) → c.own k = some (.sp n.1 n.2) → q = p ++ [col] ++ G col k := by
   intro k
   by_cases e : ∃ (col : Nat) (n : Nat × Nat), m[col]? = some (some n) ∧ c.own k = some (.sp n.1 n.2)
   · obtain ⟨col, n, e1, e2⟩ := e; refine ⟨p ++ [col] ++ G col k, fun h => ?_, fun Yd n' h1 h2 => ?_⟩
     · rw [e2] at h; cases h; exact absurd rfl (hl n (jg e1))
     · rw [e2] at h2; injection h2 with h2; injection h2 with q1 q2; have : n = n' := Prod.ext q1 q2; subst this; rw [rD hn h1 e1]
   · exact ⟨g k, fun _ => rfl, fun col n h1 h2 => absurd ⟨col, n, h1, h2⟩ e⟩
 obtain ⟨g', h⟩ := Classical.axiomOfChoice key; exact ⟨g', fun k => (h k).1, fun col n k => (h k).2 col n⟩
theorem IW {P : Program} {T : jb} (hT : fh P T) {w0 : World} {mu : Mu} {c : Cz} {st : St} {a : Act} {w : World} (h : Rel w0 mu c st a w)
   {t : Nat} {x v : V} {ux uv : Value} (hx : dV c st w x ux) (hv : dV c st w v uv) {aP : St} (hs : (qm T st t x v).val = some aP) :
   ∃ w', (Instr.storeAt t ux uv).run P w = .ok () w' ∧ ∃ c', Rel w0 mu c' aP a w' := by
 cases hn : T.cells t with
 | none => cases x with
   | one y => cases y <;> simp [qm, hn, N.val] at hs
   | agg _ => simp [qm, N.val] at hs
   | kV _ => simp [qm, N.val] at hs
 | some n => cases x with
   | agg _ => simp [qm, N.val] at hs
   | kV _ => simp [qm, N.val] at hs
   | one y => cases y with
     | bad | int _ _ | bool _ | str _ | di | F2 | shr _ _ | nn _ _ | ref _ _ _ _ | j6 _ _ _ | ql _ _ _ | fn _ _ _ | mW _ _ _ _ _ _ _ _ => simp [qm, N.val] at hs
     | ptr b g off =>
       simp only [qm, hn] at hs
       cases hb : cX st b g with
       | none => simp [hb, N.val] at hs
       | some cs =>
         simp only [hb] at hs; obtain ⟨hc, hs⟩ := cQ hs; rw [Bool.and_eq_true] at hc
         cases hp : putCells cs off v.cells with
         | none => simp [hp, N.val] at hs
         | some l =>
           simp only [hp, N.val, Option.some.injEq] at hs; subst hs; obtain ⟨hle, rfl⟩ := vj hp; obtain ⟨sl, zV, Nk, zW⟩ := fM hb; obtain ⟨ho, vs, ty, hh, hl⟩ := h.boxes b sl cs zV zW; obtain ⟨oQ, BM⟩ := hv.cells hc.1; have hu := hx.2.2 cs hb; subst hu; have hlen : uv.cells.toList.length = n := by rw [← oQ.1]; exact Nat.eq_of_beq_eq_true hc.2
           have wL := hl.1; have Eh := oQ.1; refine ⟨_, kD hT hn w (c.bx b) off uv hlen BM hh (by simp at wL ⊢; omega), c, ?_⟩; refine h.Ku zV zW hh ?_; simpa using hl.bp oQ off hle
     | IJ a' j g i off =>
       simp only [qm, hn] at hs
       cases hA : aQ st a' j g with
       | none => simp [hA, N.val] at hs
       | some A =>
         simp only [hA] at hs; obtain ⟨hc, hz⟩ := cQ hs; clear hs; rw [Bool.and_eq_true, Bool.and_eq_true, Bool.and_eq_true] at hc; obtain ⟨⟨⟨Ye, eH⟩, H3⟩, Nl⟩ := hc; have Nl : 0 < n := by simp [Nat.blt] at Nl; omega
         obtain ⟨sl, zV, Nk, zW⟩ := a7 hA; have Ed := h.aI a' j sl A zV zW; obtain ⟨hi, b, o, cap, fN, hu⟩ := hx.2.2 A hA; have Qg := Ed; unfold bA at Qg; rw [fN] at Qg; obtain ⟨ho, wS, ⟨cur, ty, hg, jv⟩, eG⟩ := Qg; rw [eH] at ho; obtain ⟨oQ, BM⟩ := hv.cells Ye; have hlen : uv.cells.toList.length = n := by rw [← oQ.1]; exact Nat.eq_of_beq_eq_true H3
         have Dg : o + i * A.r.width + A.r.width ≤ cur.size := by
           have : (i + 1) * A.r.width ≤ cap * A.r.width := Nat.mul_le_mul_right _ (by omega); rw [Nat.add_mul] at this; omega
         subst hu
         cases hw : Nat.beq n A.r.width && A.r.dB && Nat.beq off 0 with
         | false =>
           rw [hw] at hz; simp only [cond_false] at hz
           cases hm : A.md with
           | ho _ => rw [hm] at hz; simp [N.val, Md.C3] at hz
           | sh =>
             rw [hm] at hz; simp only [Md.C3, cond_false] at hz; have eG := (bh.sh hm).1 eG
             cases vD : A.xs[i]? with
             | none => simp [vD, N.val] at hz
             | some x0 =>
               simp only [vD] at hz; change (match jc A.r x0 off v.cells with | some y => N.done (bf st a' j (some (A.put (A.xs.set i y)))) | none => N.fail).val = some aP at hz
               cases hp : jc A.r x0 off v.cells with
               | none => simp [hp, N.val] at hz
               | some y =>
                 simp only [hp, N.val, Option.some.injEq] at hz; subst hz; have Eh := oQ.1; have Qh : off + uv.cells.toList.length ≤ A.r.width := by
                   rw [← Eh]; exact rC A.r x0 off v.cells hp (by intro e; rw [e] at Eh; simp at Eh; simp at hlen; omega)
                 refine ⟨_, kD hT hn w b (o + i * A.r.width + off) uv hlen BM hg (by omega), c, ?_⟩; exact h.wW zV zW eH fN hg (by rw [List.size_toArray, fw (by simp at Qh ⊢; omega)]; simp) (by simp)
                   (bh.Kv hm (wY ho hg eG vD Qh Dg (fun vs wZ => zY A.r x0 off v.cells y vs _ (by rw [bZ.length A.r vs x0 wZ]; exact Qh) hp oQ wZ)))
           | dp =>
             rw [hm] at hz; simp only [Md.C3, cond_false] at hz; unfold bh at eG; rw [hm] at eG; obtain ⟨gg, H4, eG⟩ := eG
             cases vD : A.xs[i]? with
             | none => simp [vD, N.val] at hz
             | some x0 =>
               simp only [vD] at hz; change (match jc A.r x0 off v.cells with | some y => N.done (bf st a' j (some (A.put (A.xs.set i y)))) | none => N.fail).val = some aP at hz
               cases hp : jc A.r x0 off v.cells with
               | none => simp [hp, N.val] at hz
               | some y =>
                 simp only [hp, N.val, Option.some.injEq] at hz; subst hz; have Eh := oQ.1; have Qh : off + uv.cells.toList.length ≤ A.r.width := by
                   rw [← Eh]; exact rC A.r x0 off v.cells hp (by intro e; rw [e] at Eh; simp at Eh; simp at hlen; omega)
                 refine ⟨_, kD hT hn w b (o + i * A.r.width + off) uv hlen BM hg (by omega), c, ?_⟩; refine h.wW zV zW eH fN hg (by rw [List.size_toArray, fw (by simp at Qh ⊢; omega)]; simp) (by simp) ?_; unfold bh; show match A.md with | .sh => _ | .dp => _ | .ho _ => _
                 rw [hm]; refine ⟨gg, H4, fun i' x' rb => ?_⟩; obtain ⟨vs, q1, q2⟩ := vk hg (Q := fun i vs x => cF w (fun p k => c.own k = some (.sp a' j) ∧ gg k = p) A.r [i] 0 vs x) (fun i x hx => by
                   obtain ⟨vs, q1, q2⟩ := (iu _ _ _ _ _ _).1 (eG i x hx); exact ⟨vs, q1, cF.length _ _ _ _ _ q2, q2⟩) vD Qh Dg (fun vs wL wZ => Ab A.r [i] 0 x0 off v.cells y vs _ (by rw [wL]; exact Qh) hp oQ wZ) i' x' rb
                 refine (iu _ _ _ _ _ _).2 ⟨vs, q1, cF.go _ [i'] [i'] (fun q k hk => ⟨setRow_other w b k _ ?_, hk⟩) 0 vs x' q2⟩
                 rintro rfl
                 rw [H4] at hk; simp at hk
         | true =>
           rw [hw] at hz; simp only [cond_true] at hz; rw [Bool.and_eq_true, Bool.and_eq_true] at hw; have hnW := Nat.eq_of_beq_eq_true hw.1.1; have Yf := Nat.eq_of_beq_eq_true hw.2; subst Yf; have FY : uv.cells.toList.length = A.r.width := by rw [hlen, hnW]
           have TJ : ∀ vs : List Value, vs.length = A.r.width → bp vs 0 uv.cells.toList = uv.cells.toList := by
             intro vs wL; unfold bp; rw [List.drop_eq_nil_of_le (by omega)]; simp
           cases hm : A.md with
           | ho q0 =>
             rw [hm] at hz; simp only at hz
             cases Qi : fF st A.r v.cells with
             | none => rw [Qi] at hz; simp [N.val] at hz
             | some pq =>
               obtain ⟨x1, m⟩ := pq; rw [Qi] at hz; simp only at hz; obtain ⟨ND, h1⟩ := cQ hz; clear hz; rw [Bool.and_eq_true] at ND; have Gj := ld ND.1; have J5 : (a', j) ∉ dj m := by
                 intro uW; have := List.all_eq_true.1 ND.2 _ uW; simp at this
               obtain ⟨Yg, Qj⟩ : Nat.beq i q0 = true ∧ (N.row A.r A.xs[i]? (fun _ => N.done (bf (fL st (dj m)) a' j (some { A.put (A.xs.set i x1) with md := .dp })))).val = some aP := by
                 cases hb : Nat.beq i q0 with
                 | true => rw [hb] at h1; exact ⟨rfl, h1⟩
                 | false => rw [hb] at h1; cases h1
               have Yg := Nat.eq_of_beq_eq_true Yg; clear h1; have h1 := Qj; clear Qj; subst Yg
               cases vD : A.xs[i]? with
               | none => simp [vD, N.val] at h1
               | some x0 =>
                 simp only [vD] at h1; change some _ = some aP at h1; obtain rfl := Option.some.inj h1; obtain ⟨NF, hmo, G, hG⟩ := w6 h A.r v.cells _ oQ Qi; unfold bh at eG; rw [hm] at eG; obtain ⟨gg, H4, eG⟩ := eG eH; obtain ⟨zx, qC, Xt, _, _⟩ := jw (dj m) h; have hR := zx.gJ qC a' j; obtain ⟨OT, g1, g2⟩ := Xt a' j sl A J5 zV zW; have Kx : ∀ n ∈ dj m, Lb.sp a' j ≠ .sp n.1 n.2 := by
                   intro n hn e; injection e with e1 e2; exact J5 (by rw [show (a', j) = n from Prod.ext e1 e2]; exact hn)
                 obtain ⟨g', p1, p2⟩ := xZ (c := c) Gj G gg [i] (.sp a' j) Kx; have Ky : ∀ k, c.own k = some (.sp a' j) → (c.gJ (dj m) (.sp a' j)).own k = some (.sp a' j) := by
                   intro k hk; rw [Cz.lY (fun n hn e => by rw [hk] at e; exact Kx n hn (Option.some.inj e))]; exact hk
                 refine ⟨_, kD hT hn w b (o + i * A.r.width + 0) uv hlen BM hg (by omega), c.gJ (dj m) (.sp a' j), ?_⟩; refine hR.Ch (A := A) (ys := A.xs.set i x1) (md' := .dp) g1 g2 eH fN hg (by rw [List.size_toArray, fw (by simp at FY ⊢; omega)]; simp) (by simp) ?_; unfold bh; show ∃ g, _; refine ⟨g', by rw [p1 b ho]; exact H4, fun i' x' rb => ?_⟩; have Qk : ∀ q k, g' k = [i'] ++ q → k ≠ b := by
                   rintro q k hk rfl
                   rw [p1 k ho, H4] at hk; simp at hk
                 obtain ⟨vs, q1, q2⟩ := BJ hg (Q := fun i vs x => cF w (fun p k => (c.gJ (dj m) (.sp a' j)).own k = some (.sp a' j) ∧ g' k = p) A.r [i] 0 vs x) (fun i x fk hx => by
                   obtain ⟨vs, q1, q2⟩ := (iu _ _ _ _ _ _).1 (eG i x fk hx); exact ⟨vs, q1, cF.length _ _ _ _ _ q2, cF.go _ [i] [i] (fun q k hk => ⟨rfl, Ky k hk.1, by rw [p1 k hk.1]; exact hk.2⟩) 0 vs x q2⟩) vD FY Dg (by
                     refine hG _ [i] 0 fun col n k hc hk => ⟨Cz.la (jg hc) hk, ?_⟩
                     rw [p2 col n k hc hk, Nat.zero_add]) i' x' rb
                 exact (iu _ _ _ _ _ _).2 ⟨vs, q1, cF.go _ [i'] [i'] (fun q k hk => ⟨setRow_other w b k _ (Qk q k hk.2), hk⟩) 0 vs x' q2⟩
           | sh =>
             rw [hm] at hz; simp only at hz; have eG := (bh.sh hm).1 eG; obtain ⟨x1, m, h1, h2, h3⟩ := wU h A.r v.cells _ oQ _ hz; obtain ⟨ND, h1⟩ := cQ h1
             cases vD : A.xs[i]? with
             | none => simp [vD, N.val] at h1
             | some x0 =>
               simp only [vD] at h1; change some _ = some aP at h1; obtain rfl := Option.some.inj h1; have J5 : (a', j) ∉ m := by
                 intro uW; have := List.all_eq_true.1 ND _ uW; simp at this
               have hf := h.freeze m; obtain ⟨OT, g1, g2⟩ := z8 m zV zW J5; have Ql : (c.drop m).lc a' j = .at b o cap := by rw [(Cz.H2 m c).1]; exact fN
               have ho' : (c.drop m).own b = some (.sp a' j) := Cz.Cg m c b ho (fun p hp => by
                 intro e; injection e with e1 e2; exact J5 (by rw [e1, e2]; exact hp))
               have Kz : ∀ (i : Nat) x, A.xs[i]? = some x → bU w (c.drop m).ok A.r b (o + i * A.r.width) x := fun i x hx =>
                 bU.stays (Fw.freeze w m c st).stays _ _ _ x rfl (eG i x hx)
               have Gk : bZ w (c.drop m).ok A.r uv.cells.toList x1 := h3 _ (fun k hk => Cz.wT m c k hk) (fun p hp k hk => Cz.zG m c k hk hp); refine ⟨_, kD hT hn w b (o + i * A.r.width + 0) uv hlen BM hg (by omega), c.drop m, ?_⟩; refine hf.wW g1 g2 eH Ql hg (by rw [List.size_toArray, fw (by simp at FY ⊢; omega)]; simp) (by simp) (bh.Kv hm ?_); refine wY ho' hg Kz vD (k := 0) (by omega) Dg (fun vs wZ => ?_); rw [TJ vs (bZ.length A.r vs x0 wZ)]; exact Gk
           | dp =>
             rw [hm] at hz; simp only at hz
             cases Qi : fF st A.r v.cells with
             | none => rw [Qi] at hz; simp [N.val] at hz
             | some pq =>
               obtain ⟨x1, m⟩ := pq; rw [Qi] at hz; simp only at hz; obtain ⟨ND, h1⟩ := cQ hz; clear hz; rw [Bool.and_eq_true] at ND; have Gj := ld ND.1; have J5 : (a', j) ∉ dj m := by
                 intro uW; have := List.all_eq_true.1 ND.2 _ uW; simp at this
               cases vD : A.xs[i]? with
               | none => simp [vD, N.val] at h1
               | some x0 =>
                 simp only [vD] at h1; change some _ = some aP at h1; obtain rfl := Option.some.inj h1; obtain ⟨NF, hmo, G, hG⟩ := w6 h A.r v.cells _ oQ Qi; unfold bh at eG; rw [hm] at eG; obtain ⟨gg, H4, eG⟩ := eG; obtain ⟨zx, qC, Xt, _, _⟩ := jw (dj m) h; have hR := zx.gJ qC a' j; obtain ⟨OT, g1, g2⟩ := Xt a' j sl A J5 zV zW; have Kx : ∀ n ∈ dj m, Lb.sp a' j ≠ .sp n.1 n.2 := by
                   intro n hn e; injection e with e1 e2; exact J5 (by rw [show (a', j) = n from Prod.ext e1 e2]; exact hn)
                 obtain ⟨g', p1, p2⟩ := xZ (c := c) Gj G gg [i] (.sp a' j) Kx; have Ky : ∀ k, c.own k = some (.sp a' j) → (c.gJ (dj m) (.sp a' j)).own k = some (.sp a' j) := by
                   intro k hk; rw [Cz.lY (fun n hn e => by rw [hk] at e; exact Kx n hn (Option.some.inj e))]; exact hk
                 refine ⟨_, kD hT hn w b (o + i * A.r.width + 0) uv hlen BM hg (by omega), c.gJ (dj m) (.sp a' j), ?_⟩; refine hR.wW g1 g2 eH fN hg (by rw [List.size_toArray, fw (by simp at FY ⊢; omega)]; simp) (by simp) ?_; unfold bh; show match A.md with | .sh => _ | .dp => _ | .ho _ => _
                 rw [hm]; refine ⟨g', by rw [p1 b ho]; exact H4, fun i' x' rb => ?_⟩; have Qk : ∀ q k, g' k = [i'] ++ q → k ≠ b := by
                   rintro q k hk rfl
                   rw [p1 k ho, H4] at hk; simp at hk
                 obtain ⟨vs, q1, q2⟩ := vk hg (Q := fun i vs x => cF w (fun p k => (c.gJ (dj m) (.sp a' j)).own k = some (.sp a' j) ∧ g' k = p) A.r [i] 0 vs x) (fun i x hx => by
                   obtain ⟨vs, q1, q2⟩ := (iu _ _ _ _ _ _).1 (eG i x hx); exact ⟨vs, q1, cF.length _ _ _ _ _ q2, cF.go _ [i] [i] (fun q k hk => ⟨rfl, Ky k hk.1, by rw [p1 k hk.1]; exact hk.2⟩) 0 vs x q2⟩) vD (k := 0) (us := uv.cells.toList) (by omega) Dg (fun vs wL _ => by
                     rw [TJ vs wL]; refine hG _ [i] 0 fun col n k hc hk => ⟨Cz.la (jg hc) hk, ?_⟩
                     rw [p2 col n k hc hk, Nat.zero_add]) i' x' rb
                 exact (iu _ _ _ _ _ _).2 ⟨vs, q1, cF.go _ [i'] [i'] (fun q k hk => ⟨setRow_other w b k _ (Qk q k hk.2), hk⟩) 0 vs x' q2⟩
end Go.TM
namespace Go.TM
open Go Go.RowKit
theorem Fw.heap {c : Cz} {st : St} {w w' : World} (hh : w'.heap = w.heap) : Fw c st w c st w' where
 stays := ⟨by rw [hh]; exact Nat.le_refl _, fun b _ _ => by rw [hh], fun _ _ h => h⟩
 refs _ _ _ A' _ h := ⟨A', h, rfl, rfl, rfl, fun _ => ⟨rfl, fun _ _ _ _ => by rw [hh]⟩⟩
 zF _ _ lF _ h := ⟨⟨lF, h⟩, rfl⟩
 gA _ := Nat.le_refl _
 gB _ := Nat.le_refl _
 gE _ := Nat.le_refl _
theorem Rel.heap {w0 : World} {mu : Mu} {c : Cz} {st : St} {a : Act} {w w' : World} (h : Rel w0 mu c st a w) (hh : w'.heap = w.heap) (ho : w'.os = w.os ∧ w'.tape = w.tape ∧ w'.output = w.output) :
   Rel w0 mu c st a w' where
 eO t := (Fw.heap hh).kZ (h.eO t)
 boxes s sl cs hs hb := (h.boxes s sl cs hs hb).go (Fw.heap hh) rfl rfl (by rw [hh])
 aI s j sl A hs hA := (h.aI s j sl A hs hA).go (Fw.heap (c := c) (st := st) hh).stays rfl (fun b _ => ⟨by rw [hh], rfl⟩)
 owned b l hb := by rw [hh]; exact h.owned b l hb
 free := h.free
 kept := ⟨ho.1.trans h.kept.1, ho.2.1.trans h.kept.2.1, ho.2.2.trans h.kept.2.2.1, by rw [hh]; exact h.kept.2.2.2⟩
 old k hk hm := by rw [hh]; exact h.old k hk hm
 dK p hp := (Fw.heap hh).dK (h.dK p hp)
 plain := h.plain
theorem Rel.drew {w0 : World} {mu : Mu} {c : Cz} {st : St} {a : Act} {w : World} (h : Rel w0 mu c st a w) : Rel w0 mu c st a w.drew := h.heap rfl ⟨rfl, rfl, rfl⟩
theorem gI.length : (r : RT) → (vs : List Value) → gI r vs → vs.length = r.width
 | .nil, vs, h => by simp only [gI] at h; subst h; rfl
 | .cons (.int _) r, vs, ⟨l, h, h'⟩ => by subst h; simp [RT.width, gI.length r l h']
 | .cons .bool r, vs, ⟨l, h, h'⟩ => by subst h; simp [RT.width, gI.length r l h']
 | .cons .str r, vs, ⟨l, h, h'⟩ => by subst h; simp [RT.width, gI.length r l h']
 | .cons (.sl _) r, vs, ⟨l, h, h'⟩ => by subst h; simp [RT.width, gI.length r l h']
theorem SK.cells {w : World} {ok : Nat → Prop} {r : RT} {u : Value} {ys : List (ak r)} (h : SK w ok r u ys) :
   (ys = [] ∧ (u = .slice none 0 0 ∨ ∃ a c, u = .slice (some a) 0 c)) ∨
   (ys ≠ [] ∧ ∃ a c vs, u = .slice (some a) ys.length c ∧ aY w ok r vs ys ∧ ∀ (j : Nat) v, vs[j]? = some v → w.cell? (a.add j) = some v) := by
 rcases h with ⟨rfl, rfl⟩ | ⟨a, c, rfl, hs, hr⟩
 · exact .inl ⟨rfl, .inl rfl⟩
 · by_cases e : ys = []
   · subst e; exact .inl ⟨rfl, .inr ⟨a, c, rfl⟩⟩
   · obtain ⟨vs, h1, h2⟩ := kE a.block a.off ys hr; refine .inr ⟨e, a, c, vs, rfl, h2, fun j v hv => ?_⟩; have : a = ⟨a.block, a.off, none⟩ := by have := hs e; cases a; simp at this ⊢; exact this
     rw [this, Addr.add_mid]; exact h1 j v hv
theorem vF {P : Program} {T : jb} (hT : fh P T) {w : World} {t ty : Nat} {r : RT} {bytes : Nat} (ht : T.elem t = some (r, bytes)) {ux uy : Value} {nx ny : Nat} {vx vy : List Value} {xb : Option Nat}
   (hb : (nx + ny) * bytes ≤ lim) (FZ : vx.length = nx * r.width) (D4 : vy.length = ny * r.width) (oy : ∀ u ∈ vy, u.oneCell' = true)
   (hy : (ny = 0 ∧ (uy = .slice none 0 0 ∨ ∃ a c, uy = .slice (some a) 0 c)) ∨ (ny ≠ 0 ∧ ∃ a c, uy = .slice (some a) ny c ∧ ∀ (j : Nat) v, vy[j]? = some v → w.cell? (a.add j) = some v))
   (hx : (xb = none ∧ ux = .slice none 0 0 ∧ nx = 0) ∨ ∃ b off lo cap n ad cur te, xb = some b ∧ ux = .slice (some ad) nx n ∧ nx ≤ n ∧ lo + n ≤ cap ∧ (n ≠ 0 → ad = ⟨b, off + lo * r.width, none⟩) ∧
     w.heap[b]? = some (.cells cur te (0, 0)) ∧ off + cap * r.width ≤ cur.size ∧ w.rangeAt b (off + lo * r.width) vx) :
   ∃ v w', (Builtin.append_ #[t, t] ty #[ux, uy]).run P w = .ok v w' ∧ (w'.os = w.os ∧ w'.tape = w.tape ∧ w'.output = w.output ∧ w.heap.size ≤ w'.heap.size) ∧
     ((nx = 0 ∧ ny = 0 ∧ w' = w ∧ v = .slice none 0 0) ∨ ∃ B o cp cur te, v.oneCell' = true ∧ gP (.at B o cp) r.width 0 (nx + ny) v ∧ nx + ny ≤ cp ∧ w'.heap[B]? = some (.cells cur te (0, 0)) ∧ o + cp * r.width ≤ cur.size ∧
       w'.rangeAt B o (vx ++ vy) ∧ (∀ k, k < w.heap.size → k ≠ B → w'.heap[k]? = w.heap[k]?) ∧ (w.heap.size ≤ B ∨ xb = some B)) := by
 obtain ⟨e, i, z, hu, hi, jv, BN, TL, H5, hz, IX⟩ := hT.elem t r bytes ht; have Ei : z.cells.size = r.width := by have := gI.length r _ IX; simpa using this
 have Dh : (nx + ny) * bytes ≤ 140737488355328 := by unfold lim at hb; omega
 have abB : nx + ny ≤ 140737488355328 := by
   have : (nx + ny) * 1 ≤ (nx + ny) * bytes := Nat.mul_le_mul_left _ H5; omega
 have grown : ∀ (old : Nat) (run : (Builtin.append_ #[t, t] ty #[ux, uy]).run P w = .ok (.slice (some ⟨w.heap.size, 0, none⟩) (nx + ny) (grownCap w (nx + ny) old e)) (w.drew.alloc (.cells (vx.toArray ++ vy.toArray ++ Builtin.zeroCells z.cells (grownCap w (nx + ny) old e - (nx + ny))) e (0, 0)))),
     ∃ v w', (Builtin.append_ #[t, t] ty #[ux, uy]).run P w = .ok v w' ∧ (w'.os = w.os ∧ w'.tape = w.tape ∧ w'.output = w.output ∧ w.heap.size ≤ w'.heap.size) ∧
     ((nx = 0 ∧ ny = 0 ∧ w' = w ∧ v = .slice none 0 0) ∨ ∃ B o cp cur te, v.oneCell' = true ∧ gP (.at B o cp) r.width 0 (nx + ny) v ∧ nx + ny ≤ cp ∧ w'.heap[B]? = some (.cells cur te (0, 0)) ∧ o + cp * r.width ≤ cur.size ∧
       w'.rangeAt B o (vx ++ vy) ∧ (∀ k, k < w.heap.size → k ≠ B → w'.heap[k]? = w.heap[k]?) ∧ (w.heap.size ≤ B ∨ xb = some B)) := by
   intro old run; have hge := grownCap_ge w (nx + ny) old e; have hmul : grownCap w (nx + ny) old e * r.width = (nx + ny) * r.width + (grownCap w (nx + ny) old e - (nx + ny)) * r.width := by
     rw [← Nat.add_mul]; congr 1; omega
   have tp := heap_alloc_new w.drew (.cells (vx.toArray ++ vy.toArray ++ Builtin.zeroCells z.cells (grownCap w (nx + ny) old e - (nx + ny))) e (0, 0)); refine ⟨_, _, run, ⟨rfl, rfl, rfl, by simp⟩, .inr ⟨w.heap.size, 0, grownCap w (nx + ny) old e, _, e, rfl, ⟨_, _, rfl, hge, by omega, fun _ => by simp⟩, hge, tp, ?_, ?_, fun k hk _ => heap_alloc_old w.drew _ k hk, .inl (Nat.le_refl _)⟩⟩
   · rw [Array.size_append, Array.size_append, List.size_toArray, List.size_toArray, size_zeroCells, Ei, FZ, D4, hmul, Nat.add_mul]; omega
   · intro q v hv; rw [show w.heap.size = w.drew.heap.size from rfl, cell_of_row _ _ _ _ e (0, 0) tp, Nat.zero_add]; have hq : q < (vx ++ vy).length := (List.getElem?_eq_some_iff.1 hv).1; have e1 : (vx.toArray ++ vy.toArray ++ Builtin.zeroCells z.cells (grownCap w (nx + ny) old e - (nx + ny))).toList =
         (vx ++ vy) ++ (Builtin.zeroCells z.cells (grownCap w (nx + ny) old e - (nx + ny))).toList := by simp
     rw [← Array.getElem?_toList, e1, List.getElem?_append_left hq]; exact hv
 rcases hy with ⟨rfl, Xu⟩ | ⟨Qm, ay, cy, rfl, TN⟩
 · -- nothing is put behind
   have Yh : vy = [] := by simpa using D4
   subst Yh; rcases hx with ⟨_, rfl, rfl⟩ | ⟨b, off, lo, cap, n, ad, cur, te, IY, rfl, hle, wS, D5, hg, Qn, hr⟩
   · exact ⟨_, w, run_append_nothing hu hi w none 0 0 (Nat.le_refl _) uy Xu, ⟨rfl, rfl, rfl, Nat.le_refl _⟩, .inl ⟨rfl, rfl, rfl, rfl⟩⟩
   · refine ⟨_, w, run_append_nothing hu hi w (some ad) nx n hle uy Xu, ⟨rfl, rfl, rfl, Nat.le_refl _⟩, .inr ⟨b, off + lo * r.width, n, cur, te, rfl, ⟨ad, n, rfl, hle, by omega, fun hn => by rw [D5 hn]; simp⟩, hle, hg, ?_, by simpa using hr, fun _ _ _ => rfl, .inr IY⟩⟩; have : (lo + n) * r.width ≤ cap * r.width := Nat.mul_le_mul_right _ wS; rw [Nat.add_mul] at this; omega
 · have hyl : 0 < ny := Nat.pos_of_ne_zero Qm; rcases hx with ⟨_, rfl, rfl⟩ | ⟨b, off, lo, cap, n, ad, cur, te, IY, rfl, hle, wS, D5, hg, Qn, Xv⟩
   · have Yi : vx = [] := by simpa using FZ
     subst Yi; have hr := run_append_nil (P := P) w t ty e i z hu hi hz ay ny cy vy (by rw [D4, jv]) TN hyl (by omega) (by rw [TL]; simp at Dh; omega); refine grown 0 ?_; simpa using hr
   · by_cases qI : nx + ny ≤ n
     · -- it adn ado F3 room Kc there is
       have Nl : n ≠ 0 := by omega
       rw [D5 Nl]; have Dg : off + lo * r.width + n * r.width ≤ cur.size := by
         have : (lo + n) * r.width ≤ cap * r.width := Nat.mul_le_mul_right _ wS; rw [Nat.add_mul] at this; omega
       have oP : off + lo * r.width + nx * r.width + vy.length ≤ cur.size := by
         have : (nx + ny) * r.width ≤ n * r.width := Nat.mul_le_mul_right _ qI; rw [Nat.add_mul] at this; omega
       have hr := BL (P := P) (ty := ty) hu hi w b (off + lo * r.width) nx n cur te hg ay ny cy vy (by rw [D4, jv]) TN oy qI (by rw [jv]; exact oP); rw [jv] at hr; have NB := setRow_heap w b cur (bp cur.toList (off + lo * r.width + nx * r.width) vy).toArray te (0, 0) hg; have pL : ∀ k, k ≠ b → (w.setRow b (bp cur.toList (off + lo * r.width + nx * r.width) vy).toArray).heap[k]? = w.heap[k]? := fun k hk => setRow_other w _ k _ hk
       refine ⟨_, _, hr, ⟨rfl, rfl, rfl, by simp [World.setRow]⟩, .inr ⟨b, off + lo * r.width, n, _, te, rfl, ⟨_, n, rfl, qI, by omega, fun _ => by simp⟩, qI, NB, ?_, ?_, fun k _ hk => pL k hk, .inr IY⟩⟩
       · rw [List.size_toArray, fw (by simpa using oP)]; simpa using Dg
       · intro q v hv; rw [cell_of_row _ _ _ _ te (0, 0) NB]; simp only [List.getElem?_toArray]; rw [jf (by simpa using oP)]; rw [List.getElem?_append] at hv
         by_cases hq : q < vx.length
         · rw [if_pos hq] at hv; rw [if_neg (by omega)]; have := Xv q v hv; rw [cell_of_row w b _ cur te (0, 0) hg] at this; simpa using this
         · rw [if_neg hq] at hv; have Gl : q - vx.length < vy.length := (List.getElem?_eq_some_iff.1 hv).1; rw [if_pos (by omega), show off + lo * r.width + q - (off + lo * r.width + nx * r.width) = q - vx.length by omega]; exact hv
     · -- it Tx
       have hr := run_append_grow (P := P) w t ty e i z hu hi hz ad nx n vx (by rw [FZ, jv]) (fun q v hv => by
           have hq : q < vx.length := (List.getElem?_eq_some_iff.1 hv).1; have Nl : n ≠ 0 := by
             intro e0; have : nx = 0 := by omega
             rw [this] at FZ; simp at FZ; rw [FZ] at hq; simp at hq
           rw [D5 Nl, Addr.add_mid]; exact Xv q v hv)
         ay ny cy vy (by rw [D4, jv]) TN (by omega) (by omega) (growslice_fits (by omega) (by rw [TL]; exact Dh))
       exact grown n hr
theorem Ci {P : Program} {T : jb} (hT : fh P T) {w0 : World} {mu : Mu} {c : Cz} {xY : St} {a : Act} {w : World} (h1 : Rel w0 mu c xY a w)
   {t ty : Nat} {r : RT} {bytes : Nat} (ht : T.elem t = some (r, bytes)) {ux uy : Value} {xs ys : List (ak r)} {d : Nat} {s0 : Sl} (gm : nth xY d = some s0) (hd : d < a.tmps.size)
   (hb : (xs.length + ys.length) * bytes ≤ lim) (hy : SK w c.ok r uy ys)
   (hx : (ux = .slice none 0 0 ∧ xs = []) ∨ ∃ s j b off lo cap n ad, c.own b = some (.sp s j) ∧ (∀ sl A, nth xY s = some sl → nth sl.aI j ≠ some (some A)) ∧
     ux = .slice (some ad) xs.length n ∧ xs.length ≤ n ∧ lo + n ≤ cap ∧ (n ≠ 0 → ad = ⟨b, off + lo * r.width, none⟩) ∧
     (∃ cur ty, w.heap[b]? = some (.cells cur ty (0, 0)) ∧ off + cap * r.width ≤ cur.size) ∧ ∀ (i : Nat) x, xs[i]? = some x → bU w c.ok r b (off + (lo + i) * r.width) x) :
   ∃ v w', (Builtin.append_ #[t, t] ty #[ux, uy]).run P w = .ok v w' ∧
     ∃ c', Rel w0 mu c' (kP (fun s => { s with v := .one (.ref d 0 (s0.ag + 1) .full), aI := [some { r := r, own := true, xs := xs ++ ys }], ag := s0.ag + 1 }) xY d) (a.put (some d) v) w' := by
 obtain ⟨vy, D4, Nn⟩ : ∃ vy, aY w c.ok r vy ys ∧ ((ys.length = 0 ∧ (uy = .slice none 0 0 ∨ ∃ a c, uy = .slice (some a) 0 c)) ∨ (ys.length ≠ 0 ∧ ∃ a c, uy = .slice (some a) ys.length c ∧ ∀ (j : Nat) v, vy[j]? = some v → w.cell? (a.add j) = some v)) := by
   rcases hy.cells with ⟨rfl, Xu⟩ | ⟨Qm, ay, cy, vy, rfl, D4, TN⟩
   · exact ⟨[], rfl, .inl ⟨rfl, Xu⟩⟩
   · exact ⟨vy, D4, .inr ⟨fun h => Qm (List.length_eq_zero_iff.1 h), ay, cy, rfl, TN⟩⟩
 obtain ⟨vx, xb, FZ, IY, rb⟩ : ∃ (vx : List Value) (xb : Option Nat), aY w c.ok r vx xs ∧ (∀ b, xb = some b → ∃ s j, c.own b = some (.sp s j) ∧ ∀ sl A, nth xY s = some sl → nth sl.aI j ≠ some (some A)) ∧
     ((xb = none ∧ ux = .slice none 0 0 ∧ xs.length = 0) ∨ ∃ b off lo cap n ad cur te, xb = some b ∧ ux = .slice (some ad) xs.length n ∧ xs.length ≤ n ∧ lo + n ≤ cap ∧ (n ≠ 0 → ad = ⟨b, off + lo * r.width, none⟩) ∧
     w.heap[b]? = some (.cells cur te (0, 0)) ∧ off + cap * r.width ≤ cur.size ∧ w.rangeAt b (off + lo * r.width) vx) := by
   rcases hx with ⟨rfl, rfl⟩ | ⟨s, j, b, off, lo, cap, n, ad, eH, KA, rfl, hle, wS, D5, ⟨cur, te, hg, Qn⟩, eG⟩
   · exact ⟨[], none, rfl, (fun _ e => by cases e), .inl ⟨rfl, rfl, rfl⟩⟩
   · obtain ⟨vx, Xv, FZ⟩ := kE b (off + lo * r.width) xs (fun i x hx => by
       have := eG i x hx; rw [Nat.add_mul] at this; rw [show off + lo * r.width + i * r.width = off + (lo * r.width + i * r.width) by omega]; exact this)
     exact ⟨vx, some b, FZ, fun b' e => by cases e; exact ⟨s, j, eH, KA⟩, .inr ⟨b, off, lo, cap, n, ad, cur, te, rfl, rfl, hle, wS, D5, hg, Qn, Xv⟩⟩
 obtain ⟨v, w', mz, qo, Ad⟩ := vF hT (ty := ty) ht hb (aY.length vx xs FZ) (aY.length vy ys D4) (aY.ju vy ys D4) Nn rb; refine ⟨v, w', mz, ?_⟩; rcases Ad with ⟨e1, e2, rfl, rfl⟩ | ⟨B, o, cp, cur, te, v1, v2, hle, hg, jv, hr, pL, hB⟩
 · have : xs = [] := List.length_eq_zero_iff.1 e1; subst this; have : ys = [] := List.length_eq_zero_iff.1 e2; subst this; refine ⟨c.bj d .nil none, h1.place (B := w'.heap.size) (A := { r := r, own := true, xs := [] ++ [] }) gm hd rfl ?_ (fun k _ => by simp [Cz.bj]) (.inr ⟨by simp [Cz.bj], rfl⟩) (.inl (Nat.le_refl _)) ?_ (fun _ _ _ => rfl) ⟨rfl, rfl, rfl, Nat.le_refl _⟩ ?_ rfl ?_⟩
   · intro s j fk; simp [Cz.bj, fk]
   · intro hc; simp [Cz.bj] at hc; have := h1.mZ hc; omega
   · unfold bA; simp [Cz.bj]
   · simp [Cz.bj, gP]
 · have KB : B < w'.heap.size := (Array.getElem?_eq_some_iff.1 hg).1; have H6 : w.heap.size ≤ B ∨ ∃ s j, c.own B = some (.sp s j) ∧ (s = d ∨ ∀ sl A, nth xY s = some sl → nth sl.aI j ≠ some (some A)) := by
     rcases hB with hB | hB
     · exact .inl hB
     · obtain ⟨s, j, q1, q2⟩ := IY B hB; exact .inr ⟨s, j, q1, .inr q2⟩
   have Qc : ∀ k, k < w.heap.size → c.ok k → k ≠ B := by
     rintro k hk ff rfl
     rcases H6 with hB | ⟨s, j, hB, _⟩
     · omega
     · unfold Cz.ok at ff; rw [hB] at ff; cases ff
   have qn : gH w w' c.ok (c.bj d (.at B o cp) (some B)).ok := ⟨qo.2.2.2, fun k hk ff => pL k hk (Qc k hk ff), fun k hk ff => by
     unfold Cz.ok Cz.bj; simp only; rw [if_neg]
     · exact ff
     · intro e'; exact Qc k hk ff (Option.some.inj e').symm⟩
   refine ⟨c.bj d (.at B o cp) (some B), h1.place (B := B) (A := { r := r, own := true, xs := xs ++ ys }) gm hd rfl ?_ ?_ (.inl (by simp [Cz.bj])) H6 (fun _ => KB) pL qo ?_ v1 ?_⟩
   · intro s j fk; simp [Cz.bj, fk]
   · intro k hk; simp only [Cz.bj]; rw [if_neg (by intro e'; exact hk (Option.some.inj e').symm)]
   · unfold bA; simp only [Cz.bj, and_self, if_true]; refine ⟨trivial, by simpa using hle, ⟨cur, te, hg, jv⟩, (bh.sh rfl).2 ?_⟩; exact p7 _ (vx ++ vy) (xs ++ ys) (aY.append vx vy xs ys (aY.stays qn _ _ FZ) (aY.stays qn _ _ D4)) hr
   · simp only [Cz.bj, and_self, if_true, List.length_append]; exact v2
def cg (w : World) (P : List Nat → Nat → Prop) (r : RT) : (i : Nat) → List Value → List (ak r) → Prop
 | _, vs, [] => vs = []
 | i, vs, x :: xs => ∃ l1 l2, vs = l1 ++ l2 ∧ cF w P r [i] 0 l1 x ∧ cg w P r (i + 1) l2 xs
theorem cg.length {w : World} {P : List Nat → Nat → Prop} {r : RT} : (i : Nat) → (vs : List Value) → (xs : List (ak r)) → cg w P r i vs xs → vs.length = xs.length * r.width
 | _, vs, [], h => by simp only [cg] at h; subst h; simp
 | i, vs, x :: xs, h => by
   obtain ⟨l1, l2, rfl, h1, h2⟩ := h; have a1 := cF.length r [i] 0 l1 x h1; have a2 := cg.length (i + 1) l2 xs h2; simp [a1, a2, Nat.add_mul]; omega
theorem cg.append {w : World} {P : List Nat → Nat → Prop} {r : RT} : (i : Nat) → (vs us : List Value) → (xs ys : List (ak r)) → cg w P r i vs xs → cg w P r (i + xs.length) us ys → cg w P r i (vs ++ us) (xs ++ ys)
 | i, vs, us, [], ys, h, k => by simp only [cg] at h; subst h; simpa using k
 | i, vs, us, x :: xs, ys, ⟨l1, l2, e, h1, h2⟩, k => ⟨l1, l2 ++ us, by rw [e, List.append_assoc], h1, cg.append (i + 1) l2 us xs ys h2 (by rw [show i + 1 + xs.length = i + (x :: xs).length by simp; omega]; exact k)⟩
theorem cg.go {w w' : World} {P P' : List Nat → Nat → Prop} {r : RT} (sh : Nat) (hP : ∀ i q b, P ([i] ++ q) b → w'.heap[b]? = w.heap[b]? ∧ P' ([i + sh] ++ q) b) : (i : Nat) → (vs : List Value) → (xs : List (ak r)) → cg w P r i vs xs → cg w' P' r (i + sh) vs xs
 | _, _, [], h => h
 | i, vs, x :: xs, ⟨l1, l2, e, h1, h2⟩ => ⟨l1, l2, e, cF.go r [i] [i + sh] (fun q b hb => hP i q b hb) 0 l1 x h1, by rw [show i + sh + 1 = i + 1 + sh by omega]; exact cg.go sh hP (i + 1) l2 xs h2⟩
theorem cE.one {w : World} {P : List Nat → Nat → Prop} {t : Ty} {p : List Nat} {v : Value} {x : den t} (h : cE w P t p v x) : v.oneCell' = true := by
 cases t with
 | int k => rw [vB.1 h]; rfl
 | bool => rw [rq.1 h]; rfl
 | str => rw [vC.1 h]; rfl
 | sl r => obtain ⟨lc, _, h1, _⟩ := (tj w P r p v x).1 h; exact h1
theorem cF.one {w : World} {P : List Nat → Nat → Prop} : (r : RT) → (p : List Nat) → (k : Nat) → (vs : List Value) → (x : ak r) → cF w P r p k vs x → ∀ v ∈ vs, v.oneCell' = true
 | .nil, _, _, vs, _, h, v, hv => by simp only [cF] at h; subst h; simp at hv
 | .cons t r, p, k, vs, x, ⟨u, l, e, hx, hr⟩, v, hv => by
   subst e; rcases List.mem_cons.1 hv with rfl | hv
   · exact hx.one
   · exact cF.one r p (k + 1) l x.2 hr v hv
theorem cg.ju {w : World} {P : List Nat → Nat → Prop} {r : RT} : (i : Nat) → (vs : List Value) → (xs : List (ak r)) → cg w P r i vs xs → ∀ v ∈ vs, v.oneCell' = true
 | _, vs, [], h, v, hv => by simp only [cg] at h; subst h; simp at hv
 | i, vs, x :: xs, ⟨l1, l2, e, h1, h2⟩, v, hv => by
   subst e; rcases List.mem_append.1 hv with hv | hv
   · exact cF.one r _ _ l1 x h1 v hv
   · exact cg.ju (i + 1) l2 xs h2 v hv
theorem yI {w : World} {P : List Nat → Nat → Prop} {r : RT} (b : Nat) : (off i0 : Nat) → (xs : List (ak r)) → (∀ (i : Nat) x, xs[i]? = some x → fo w P r [i0 + i] 0 b (off + i * r.width) x) →
   ∃ vs, w.rangeAt b off vs ∧ cg w P r i0 vs xs
 | _, _, [], _ => ⟨[], fun j v h => by simp at h, rfl⟩
 | off, i0, x :: xs, h => by
   obtain ⟨l1, h1, h2⟩ := (iu r [i0] 0 b off x).1 (by have := h 0 x rfl; simpa using this); obtain ⟨l2, h3, h4⟩ := yI b (off + r.width) (i0 + 1) xs (fun i y hy => by
     have := h (i + 1) y (by simpa using hy); rw [Nat.add_mul, Nat.one_mul] at this; rw [show off + r.width + i * r.width = off + (i * r.width + r.width) by omega, show i0 + 1 + i = i0 + (i + 1) by omega]; exact this)
   have hl := cF.length r _ _ l1 x h2; refine ⟨l1 ++ l2, fun j v hv => ?_, l1, l2, rfl, h2, h4⟩; rw [List.getElem?_append] at hv
   by_cases hj : j < l1.length
   · rw [if_pos hj] at hv; exact h1 j v hv
   · rw [if_neg hj] at hv; have := h3 _ v hv; rw [show off + r.width + (j - l1.length) = off + j by omega] at this; exact this
theorem tu {w : World} {P : List Nat → Nat → Prop} {r : RT} {b : Nat} : (off i0 : Nat) → (vs : List Value) → (xs : List (ak r)) → cg w P r i0 vs xs → w.rangeAt b off vs →
   ∀ (i : Nat) x, xs[i]? = some x → fo w P r [i0 + i] 0 b (off + i * r.width) x
 | _, _, _, [], _, _, i, x, h => by simp at h
 | off, i0, vs, y :: xs, ⟨l1, l2, e, h1, h2⟩, hr, i, x, h => by
   subst e; have hl := cF.length r _ _ l1 y h1
   cases i with
   | zero =>
     simp at h; subst h; rw [iu]; refine ⟨l1, fun j v hv => ?_, by simpa using h1⟩; have hj : j < l1.length := (List.getElem?_eq_some_iff.1 hv).1; have := hr j v (by rw [List.getElem?_append, if_pos hj]; exact hv); simpa using this
   | succ i =>
     have := tu (off + r.width) (i0 + 1) l2 xs h2 (fun j v hv => by
       have := hr (l1.length + j) v (by rw [List.getElem?_append, if_neg (by omega)]; simpa using hv); rw [show off + r.width + j = off + (l1.length + j) by omega]; exact this) i x (by simpa using h)
     rw [Nat.add_mul, Nat.one_mul]; rw [show off + (i * r.width + r.width) = off + r.width + i * r.width by omega, show i0 + (i + 1) = i0 + 1 + i by omega]; exact this
theorem Rel.Di {w0 : World} {mu : Mu} {c : Cz} {st : St} {a : Act} {w : World} (h : Rel w0 mu c st a w) {d : Nat} {s0 : Sl} {r : RT} {xs : List (ak r)} {cur : Array Value} {ty cap : Nat} {P : List Nat → Nat → Prop} {g : Nat → List Nat}
   (gm : nth st d = some s0) (hd : d < a.tmps.size) (hle : xs.length ≤ cap) (jv : cap * r.width ≤ cur.size) {vs : List Value} (wZ : cg w P r 0 vs xs) (hP : ∀ i q k, P ([i] ++ q) k → c.own k = some (.sp d 0) ∧ g k = [i] ++ q) (Qf : cur.toList.take vs.length = vs) :
   ∃ c', Rel w0 mu c' (kP (fun s => { s with v := .one (.ref d 0 (s0.ag + 1) .full), aI := [some { r := r, own := true, xs := xs, md := .dp }], ag := s0.ag + 1 }) st d)
     (a.put (some d) (.slice (some ⟨w.heap.size, 0, none⟩) xs.length cap)) (w.alloc (.cells cur ty (0, 0))) := by
 have tp := heap_alloc_new w (.cells cur ty (0, 0)); refine ⟨c.bj d (.at w.heap.size 0 cap) (some w.heap.size), h.place (B := w.heap.size) (A := { r := r, own := true, xs := xs, md := .dp }) gm hd rfl ?_ ?_ (.inl ?_) (.inl (Nat.le_refl _)) (fun _ => by simp) (fun k hk _ => heap_alloc_old w _ k hk)
   ⟨rfl, rfl, rfl, by simp⟩ ?_ rfl ?_⟩
 · intro s j fk; simp [Cz.bj, fk]
 · intro k hk; simp only [Cz.bj]; rw [if_neg (by intro e; exact hk (Option.some.inj e).symm)]
 · simp [Cz.bj]
 · unfold bA; simp only [Cz.bj, and_self, if_true]; refine ⟨trivial, hle, ⟨cur, ty, tp, by simpa using jv⟩, fun k => if k = w.heap.size then [] else g k, by simp, ?_⟩; have hD := cg.go (w' := w.alloc (.cells cur ty (0, 0))) (P' := fun p k => (if some w.heap.size = some k then some (Lb.sp d 0) else c.own k) = some (.sp d 0) ∧ (if k = w.heap.size then [] else g k) = p) 0 (fun i q k hk => by
     obtain ⟨q1, q2⟩ := hP i q k hk; have bP := h.mZ q1; refine ⟨heap_alloc_old w _ k bP, ?_, by rw [if_neg (by omega)]; exact q2⟩; rw [if_neg (by intro e; have := Option.some.inj e; omega)]; exact q1) 0 vs xs wZ
   have := tu 0 0 vs xs hD (fun j v hv => by
     rw [cell_of_row _ _ _ cur ty (0, 0) tp, Nat.zero_add]; have hj : j < vs.length := (List.getElem?_eq_some_iff.1 hv).1; rw [← Qf, List.getElem?_take, if_pos hj] at hv; simpa using hv)
   intro i x hx; have h2 := this i x hx; rw [Nat.zero_add] at h2; exact h2
 · simp only [Cz.bj, and_self, if_true]; exact ⟨_, cap, rfl, hle, by omega, fun _ => by simp⟩
theorem tv {w : World} {P : List Nat → Nat → Prop} : (r : RT) → (p : List Nat) → (k : Nat) → (vs : List Value) → gI r vs → cF w P r p k vs (qE r)
 | .nil, _, _, vs, h => h
 | .cons (.int q) r, p, k, vs, ⟨l, h, h'⟩ => ⟨.int q 0, l, h, vB.2 rfl, tv r p (k + 1) l h'⟩
 | .cons .bool r, p, k, vs, ⟨l, h, h'⟩ => ⟨.bool false, l, h, rq.2 rfl, tv r p (k + 1) l h'⟩
 | .cons .str r, p, k, vs, ⟨l, h, h'⟩ => ⟨.string ByteArray.empty, l, h, vC.2 rfl, tv r p (k + 1) l h'⟩
 | .cons (.sl q) r, p, k, vs, ⟨l, h, h'⟩ => ⟨.slice none 0 0, l, h, (tj _ _ _ _ _ _).2 ⟨.nil, ⟨rfl, rfl⟩, rfl, .inl ⟨rfl, rfl⟩⟩, tv r p (k + 1) l h'⟩
theorem cg.replicate {w : World} {P : List Nat → Nat → Prop} {r : RT} {vs : List Value} {x : ak r} (h : ∀ i, cF w P r [i] 0 vs x) : (n i : Nat) → cg w P r i ((List.replicate n vs).flatten) (List.replicate n x)
 | 0, _ => rfl
 | n + 1, i => ⟨vs, (List.replicate n vs).flatten, by simp [List.replicate_succ], h i, cg.replicate h n (i + 1)⟩
theorem Cj {P : Program} {T : jb} (hT : fh P T) {w0 : World} {mu : Mu} {c : Cz} {xY : St} {a : Act} {w : World} (h1 : Rel w0 mu c xY a w)
   {t ty : Nat} {r : RT} {bytes : Nat} (ht : T.elem t = some (r, bytes)) {ux uy : Value} {xs ys : List (ak r)} {vx vy : List Value} {PX PY : List Nat → Nat → Prop} {g : Nat → List Nat} {xb : Option Nat} {d : Nat} {s0 : Sl} (gm : nth xY d = some s0) (hd : d < a.tmps.size)
   (hb : (xs.length + ys.length) * bytes ≤ lim) (FZ : cg w PX r 0 vx xs) (D4 : cg w PY r 0 vy ys)
   (hPX : ∀ i q k, PX ([i] ++ q) k → xb ≠ some k ∧ c.own k = some (.sp d 0) ∧ g k = [i] ++ q) (hPY : ∀ i q k, PY ([i] ++ q) k → xb ≠ some k ∧ c.own k = some (.sp d 0) ∧ g k = [i + xs.length] ++ q)
   (hy : (ys.length = 0 ∧ (uy = .slice none 0 0 ∨ ∃ a c, uy = .slice (some a) 0 c)) ∨ (ys.length ≠ 0 ∧ ∃ a c, uy = .slice (some a) ys.length c ∧ ∀ (j : Nat) v, vy[j]? = some v → w.cell? (a.add j) = some v))
   (IY : ∀ b, xb = some b → c.own b = some (.sp d 0))
   (hx : (xb = none ∧ ux = .slice none 0 0 ∧ xs.length = 0) ∨ ∃ b off lo cap n ad cur te, xb = some b ∧ ux = .slice (some ad) xs.length n ∧ xs.length ≤ n ∧ lo + n ≤ cap ∧ (n ≠ 0 → ad = ⟨b, off + lo * r.width, none⟩) ∧
     w.heap[b]? = some (.cells cur te (0, 0)) ∧ off + cap * r.width ≤ cur.size ∧ w.rangeAt b (off + lo * r.width) vx) :
   ∃ v w', (Builtin.append_ #[t, t] ty #[ux, uy]).run P w = .ok v w' ∧
     ∃ c', Rel w0 mu c' (kP (fun s => { s with v := .one (.ref d 0 (s0.ag + 1) .full), aI := [some { r := r, own := true, xs := xs ++ ys, md := .dp }], ag := s0.ag + 1 }) xY d) (a.put (some d) v) w' := by
 obtain ⟨v, w', mz, qo, Ad⟩ := vF hT (ty := ty) ht hb (cg.length 0 vx xs FZ) (cg.length 0 vy ys D4) (cg.ju 0 vy ys D4) hy hx; refine ⟨v, w', mz, ?_⟩; rcases Ad with ⟨e1, e2, rfl, rfl⟩ | ⟨B, o, cp, cur, te, v1, v2, hle, hg, jv, hr, pL, hB⟩
 · have : xs = [] := List.length_eq_zero_iff.1 e1; subst this; have : ys = [] := List.length_eq_zero_iff.1 e2; subst this; refine ⟨c.bj d .nil none, h1.place (B := w'.heap.size) (A := { r := r, own := true, xs := [] ++ [], md := .dp }) gm hd rfl ?_ (fun k _ => by simp [Cz.bj]) (.inr ⟨by simp [Cz.bj], rfl⟩) (.inl (Nat.le_refl _)) ?_ (fun _ _ _ => rfl) ⟨rfl, rfl, rfl, Nat.le_refl _⟩ ?_ rfl ?_⟩
   · intro s j fk; simp [Cz.bj, fk]
   · intro hc; simp [Cz.bj] at hc; have := h1.mZ hc; omega
   · unfold bA; simp [Cz.bj]
   · simp [Cz.bj, gP]
 · have KB : B < w'.heap.size := (Array.getElem?_eq_some_iff.1 hg).1; have H6 : w.heap.size ≤ B ∨ ∃ s j, c.own B = some (.sp s j) ∧ (s = d ∨ ∀ sl A, nth xY s = some sl → nth sl.aI j ≠ some (some A)) := by
     rcases hB with hB | hB
     · exact .inl hB
     · exact .inr ⟨d, 0, IY B hB, .inl rfl⟩
   have fk : ∀ k, c.own k = some (.sp d 0) → xb ≠ some k → k ≠ B := by
     rintro k hk hx rfl
     rcases hB with hB | hB
     · have := h1.mZ hk; omega
     · exact hx hB
   refine ⟨c.bj d (.at B o cp) (some B), h1.place (B := B) (A := { r := r, own := true, xs := xs ++ ys, md := .dp }) gm hd rfl ?_ ?_ (.inl (by simp [Cz.bj])) H6 (fun _ => KB) pL qo ?_ v1 ?_⟩
   · intro s j fk; simp [Cz.bj, fk]
   · intro k hk; simp only [Cz.bj]; rw [if_neg (by intro e'; exact hk (Option.some.inj e').symm)]
   · unfold bA; simp only [Cz.bj, and_self, if_true]; refine ⟨trivial, by simpa using hle, ⟨cur, te, hg, jv⟩, fun k => if k = B then [] else g k, by simp, ?_⟩; have go : ∀ (PP : List Nat → Nat → Prop) (sh : Nat), (∀ i q k, PP ([i] ++ q) k → xb ≠ some k ∧ c.own k = some (.sp d 0) ∧ g k = [i + sh] ++ q) → ∀ i q k, PP ([i] ++ q) k → w'.heap[k]? = w.heap[k]? ∧
         ((if B = k then some (Lb.sp d 0) else c.own k) = some (.sp d 0) ∧ (if k = B then [] else g k) = [i + sh] ++ q) := by
       intro PP sh hPP i q k hk; obtain ⟨q1, q2, q3⟩ := hPP i q k hk; have := fk k q2 q1; refine ⟨pL k (h1.mZ q2) this, ?_, by rw [if_neg this]; exact q3⟩; rw [if_neg (fun e => this e.symm)]; exact q2
     have hD := cg.append 0 vx vy xs ys (cg.go (w' := w') (P' := fun p k => (if B = k then some (Lb.sp d 0) else c.own k) = some (.sp d 0) ∧ (if k = B then [] else g k) = p) 0 (go PX 0 (fun i q k hk => hPX i q k hk)) 0 vx xs FZ) (by
       rw [Nat.zero_add]; have := cg.go (w' := w') (P' := fun p k => (if B = k then some (Lb.sp d 0) else c.own k) = some (.sp d 0) ∧ (if k = B then [] else g k) = p) xs.length (go PY xs.length hPY) 0 vy ys D4
       rwa [Nat.zero_add] at this)
     have := tu o 0 (vx ++ vy) (xs ++ ys) hD hr; intro i x hx; have h2 := this i x hx; rw [Nat.zero_add] at h2; simpa using h2
   · simp only [Cz.bj, and_self, if_true, List.length_append]; exact v2
end Go.TM
