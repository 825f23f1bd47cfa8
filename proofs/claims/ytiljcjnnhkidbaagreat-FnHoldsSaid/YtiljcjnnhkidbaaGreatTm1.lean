/- A machine over trees: an evaluator of the code, and that what it finds is so; part 1. -/
import GoSem.Core.Value
import GoSem.Core.Code
import GoSem.Core.Program
import GoSem.Core.View
import Derived.Below
import Derived.Laws.AppendOwn
import Derived.Laws.Cells
import Derived.Laws.Rows
import Derived.Deep.MidRow
import Derived.Laws.CopyRow
namespace Go.TM
open Go
mutual
inductive Ty where
 | int (k : IntKind)
 | bool
 | str
 | sl (r : RT)
inductive RT where
 | nil
 | cons (t : Ty) (r : RT)
end
mutual
def den : Ty → Type
 | .int _ => Int
 | .bool => Bool
 | .str => ByteArray
 | .sl r => List (ak r)
def ak : RT → Type
 | .nil => Unit
 | .cons t r => den t × ak r
end
mutual
def Ty.eq? : (a b : Ty) → Option (PLift (a = b))
 | .int k, .int l => if h : k = l then some ⟨by rw [h]⟩ else none
 | .bool, .bool => some ⟨rfl⟩
 | .str, .str => some ⟨rfl⟩
 | .sl r, .sl s => match RT.eq? r s with | some ⟨h⟩ => some ⟨by rw [h]⟩ | none => none
 | _, _ => none
def RT.eq? : (a b : RT) → Option (PLift (a = b))
 | .nil, .nil => some ⟨rfl⟩
 | .cons t r, .cons u s => match Ty.eq? t u, RT.eq? r s with
   | some ⟨h⟩, some ⟨g⟩ => some ⟨by rw [h, g]⟩
   | _, _ => none
 | _, _ => none
end
def bo {r : RT} (s : RT) (xs : List (ak r)) : Option (List (ak s)) :=
 match RT.eq? r s with
 | some ⟨h⟩ => some (h ▸ xs)
 | none => none
def RT.dD : RT → Bool
 | .nil => false
 | .cons (.sl _) _ => true
 | .cons _ r => r.dD
def RT.width : RT → Nat
 | .nil => 0
 | .cons _ r => r.width + 1
inductive View where
 | full
 | from (lo : Nat)
 | sub (lo n : Nat)
def View.app {α : Type} : View → List α → List α
 | .full, xs => xs
 | .from lo, xs => xs.drop lo
 | .sub lo n, xs => (xs.drop lo).take n
def View.lo : View → Nat
 | .full => 0
 | .from l => l
 | .sub l _ => l
def View.idx (w : View) (i : Nat) : Nat :=
 match w with
 | .full => i
 | .from l => l + i
 | .sub l _ => l + i
inductive CV where
 | bad
 | int (k : IntKind) (n : Int)
 | bool (b : Bool)
 | str (s : ByteArray)
 | dq
 | Gt
 | shr (r : RT) (xs : List (ak r))
 | nn (r : RT) (xs : List (ak r))  -- as 'aer, and not nil
 | ref (a j g : Nat) (w : View)
 | ptr (b g off : Nat)
 | I9 (a j g i off : Nat)
 | ke (r : RT) (x : ak r) (off : Nat)
 | qi (r : RT) (xs : List (ak r)) (off : Nat)  -- as 'aes, Gu row ac3 Gu first of a list
 | fn (g : Nat) (rs : RT) (xs : List (ak rs))    -- a function with boxes KW Uj read alone: each cell of Gu row is one ac4 rows
 | mX (a j g e i k : Nat) (q : RT) (ys : List (ak q))  -- Gu slice KW a cell of a deep X2 row holds
inductive Lb where
 | box (s : Nat)
 | sp (s j : Nat)
 | out
 | bG (i j : Nat)
 | qA (i : Nat)
 | gp (j : Nat)
def Lb.same : Lb → Lb → Bool
 | .box s, .box t => Nat.beq s t
 | .sp s i, .sp t j => Nat.beq s t && Nat.beq i j
 | _, _ => false
inductive V where
 | one (c : CV)
 | agg (cs : List CV)
 | kX (vs : List V)
def V.cells : V → List CV
 | .one c => [c]
 | .agg cs => cs
 | .kX _ => []
inductive Md where
 | sh | dp | ho (i : Nat)
 deriving DecidableEq
def Md.is : Md → Md → Bool
 | .sh, .sh => true
 | .dp, .dp => true
 | .ho i, .ho j => Nat.beq i j
 | _, _ => false
theorem Md.kq {a b : Md} : Md.is a b = true ↔ a = b := by
 cases a <;> cases b <;> simp [Md.is]
def Md.Dj : Md → Bool
 | .ho _ => true
 | _ => false
structure fL where
 r : RT
 own : Bool
 xs : List (ak r)
 md : Md := .sh
structure Sl where
 v : V
 box : Option (List CV)
 bg : Nat
 aJ : List (Option fL)
 ag : Nat
 ep : Nat := 0  -- it UM when an array of Gu slot is written, or a call is made
def Sl.none : Sl := { v := .one .bad, box := .none, bg := 0, aJ := [], ag := 0 }
abbrev St := List Sl
def nth {α : Type} : List α → Nat → Option α
 | [], _ => none
 | x :: _, 0 => some x
 | _ :: l, n + 1 => nth l n
def kS {α : Type} (f : α → α) : List α → Nat → List α
 | [], _ => []
 | x :: l, 0 => f x :: l
 | x :: l, n + 1 => x :: kS f l n
def bI (st : St) (t : Nat) : V :=
 match nth st t with
 | some s => s.v
 | none => .one .bad
def aT (st : St) (d : Option Nat) (v : V) : St :=
 match d with
 | some t => kS (fun s => { s with v := v }) st t
 | none => st
def aQ (st : St) (a j g : Nat) : Option fL :=
 match nth st a with
 | some s => bif Nat.beq s.ag g then (match nth s.aJ j with | some (some A) => some A | _ => none) else none
 | none => none
def bh (st : St) (a j : Nat) (A : Option fL) : St :=
 kS (fun s => { s with aJ := kS (fun _ => A) s.aJ j, ep := s.ep + 1 }) st a
def kW (st : St) (a : Nat) : Nat := match nth st a with | some s => s.ep | none => 0
def de (st : St) (b g : Nat) : Option (List CV) :=
 match nth st b with
 | some s => bif Nat.beq s.bg g then s.box else none
 | none => none
inductive N where
 | done (st : St)
 | fail
 | br (b : Bool) (t e : N)
 | row (r : RT) (o : Option (ak r)) (k : ak r → N)
def N.val : N → Option St
 | .done st => some st
 | .fail => none
 | .br b t e => bif b then t.val else e.val
 | .row _ o k => match o with | some x => (k x).val | none => none
def N.fold {R : Type} : N → (St → Option R) → Option R
 | .done st, k => k st
 | .fail, _ => none
 | .br b t e, k => bif b then t.fold k else e.fold k
 | .row _ o f, k => match o with | some x => (f x).fold k | none => none
theorem N.fold_eq {R : Type} (n : N) (k : St → Option R) : n.fold k = n.val.bind k := by
 induction n with
 | done st => rfl
 | fail => rfl
 | br b t e iht ihe => cases b <;> simp [N.fold, N.val, iht, ihe]
 | row r o f ih => cases o <;> simp [N.fold, N.val, ih]
def Gv : (t : Ty) → den t
 | .int _ => (0 : Int)
 | .bool => false
 | .str => ByteArray.empty
 | .sl _ => ([] : List _)
def qB : (r : RT) → ak r
 | .nil => ()
 | .cons t r => (Gv t, qB r)
def Gw : (t : Ty) → den t → CV
 | .int k, n => .int k n
 | .bool, b => .bool b
 | .str, s => .str s
 | .sl r, xs => .shr r xs
def dv : (r : RT) → ak r → List CV
 | .nil, _ => []
 | .cons t r, x => Gw t x.1 :: dv r x.2
def Yy (a j g e i k : Nat) : (t : Ty) → den t → CV
 | .int k, n => .int k n
 | .bool, b => .bool b
 | .str, s => .str s
 | .sl r, xs => .mX a j g e i k r xs
def nW (a j g e i : Nat) : (k : Nat) → (r : RT) → ak r → List CV
 | _, .nil, _ => []
 | k, .cons t r, x => Yy a j g e i k t x.1 :: nW a j g e i (k + 1) r x.2
def nQ : (r : RT) → ak r → Nat → Option ((q : RT) × List (ak q))
 | .nil, _, _ => none
 | .cons (.sl q) _, x, 0 => some ⟨q, x.1⟩
 | .cons _ _, _, 0 => none
 | .cons _ r, x, k + 1 => nQ r x.2 k
def kY : (r : RT) → ak r → Nat → (q : RT) → List (ak q) → Option (ak r)
 | .nil, _, _, _, _ => none
 | .cons (.sl q) _, x, 0, p, ys => (bo q ys).map fun zs => (zs, x.2)
 | .cons _ _, _, 0, _, _ => none
 | .cons _ r, x, k + 1, p, ys => (kY r x.2 k p ys).map fun z => (x.1, z)
def jX (st : St) (r : RT) (c : CV) (k : List (ak r) → N) : N :=
 match c with
 | .shr _ xs => match bo r xs with | some ys => k ys | none => .fail
 | .nn _ xs => match bo r xs with | some ys => k ys | none => .fail
 | .dq => k []
 | .ref a j g w => match aQ st a j g with
   | some A => (match A.md with | .sh => (match bo r A.xs with | some ys => k (w.app ys) | none => .fail) | _ => .fail)
   | none => .fail
 | _ => .fail
structure jh where
 cells : Nat → Option Nat          -- how many cells a value of Gu type ac5
 agg : Nat → Bool                  -- is it a struct
 off : Nat → Nat → Option Nat      -- a KX field: Yz first cell
 UN : Nat → Nat → Option Nat      -- and how many it has
 row : Nat → Option RT             -- Gu rh types
 elem : Nat → Option (RT × Nat)    -- a slice: Yz Uk cells, and Gu bytes of one
 kX : Nat → Option (List Nat)     -- a X3 types
 kind : Nat → Option Ty            -- a type of one cell
 one : Nat → Nat → Bool            -- a KX field KW is no struct YA
 eq : Nat → Bool                   -- a struct of numbers, ac6 and strings, UO by '=='
 dp : Nat → Bool := fun _ => false -- a slice PC ac7 dD Uj Yz own, where aew may be
 cap : Nat → Bool := fun _ => false -- a PD box KW is read alone
inductive OV where
 | int (k : IntKind) (n : Int)
 | bool (b : Bool)
 | str (s : ByteArray)
 | own (A : fL)
 | shr (r : RT) (xs : List (ak r))
 | dq
 | ke (r : RT) (xs : List (ak r))
 | fn (g : Nat) (rs : RT) (xs : List (ak rs))
inductive AV where
 | val (agg : Bool) (os : List OV)  -- a value: Yz KY Uj Gu UP from now on
 | io (A : fL)                     -- an array, Dk: Gu callee may write it
 | box (os : List OV)               -- a struct behind a pointer, Dk
 | bp (os : List OV)              -- a struct PC KY Uj Dk
inductive RV where
 | one (o : OV)
 | agg (os : List OV)
 | ptr (os : List OV)  -- a new struct, behind a pointer
inductive XV where
 | io (A : fL)
 | box (cs : List OV)
 | bp (As : List (Option fL))
structure X4 where
 outs : List RV
 exts : List XV
structure Ans where
 r : RT
 o : Option (ak r)
 res : ak r → X4
abbrev tg := List AV → Option Ans
inductive Pm where
 | shr | own | io | bp
 | pick (l : List Nat)  -- a struct behind a pointer, some of PC KY Uj read alone from then on
abbrev hZ := FuncId → Option (Pm × Pm × Pm × tg)   -- Gu first three PE ways; ac9 jA Uj shared
def aU (b g : Nat) : (j : Nat) → List OV → List CV
 | _, [] => []
 | j, .int k n :: l => .int k n :: aU b g (j + 1) l
 | j, .bool x :: l => .bool x :: aU b g (j + 1) l
 | j, .str s :: l => .str s :: aU b g (j + 1) l
 | j, .own _ :: l => .ref b j g .full :: aU b g (j + 1) l
 | j, .shr r xs :: l => .shr r xs :: aU b g (j + 1) l
 | j, .dq :: l => .dq :: aU b g (j + 1) l
 | j, .ke r xs :: l => .qi r xs 0 :: aU b g (j + 1) l
 | j, .fn f rs xs :: l => .fn f rs xs :: aU b g (j + 1) l
def OV.arr : OV → Option fL
 | .own A => some A
 | _ => none
def aV : List OV → List (Option fL)
 | [] => []
 | o :: l => o.arr :: aV l
def RV.tf : RV → List OV
 | .one o => [o]
 | .agg os => os
 | .ptr os => .dq :: os
def KZ (d g j : Nat) : RV → V
 | .one o => match aU d g j [o] with | [c] => .one c | _ => .one .bad
 | .agg os => .agg (aU d g j os)
 | .ptr _ => .one .bad
def iY (d g : Nat) : (j : Nat) → List RV → List V
 | _, [] => []
 | j, r :: l => KZ d g j r :: iY d g (j + r.tf.length) l
def th (st : St) (d : Option Nat) (outs : List RV) : Option St :=
 match d with
 | some d => match nth st d with
   | some s =>
     let g := s.ag + 1
     match outs with
     | [.ptr os] => some (kS (fun s => { s with v := .one (.ptr d (s.bg + 1) 0), box := some (aU d (s.ag + 1) 1 os), bg := s.bg + 1, aJ := none :: aV os, ag := s.ag + 1 }) st d)
     | outs =>
       let v : V := match iY d g 0 outs with | [v] => v | vs => .kX vs
       some (kS (fun s => { s with v := v, aJ := aV (outs.flatMap RV.tf), ag := g }) st d)
   | none => none
 | none => match outs with
   | [] => some st
   | _ => none
def jY (st : St) : Operand → V
 | .tmp t => bI st t
 | .const (.int k n) => .one (.int k n)
 | .const (.bool b) => .one (.bool b)
 | .const (.string s) => .one (.str s)
 | .const (.slice none 0 0) => .one .dq
 | .const (.pointer none) => .one .Gt
 | _ => .one .bad
def K0 (op : BinOp) (a b : Int) : Option Bool :=
 match op with
 | .lss => some (decide (a < b))
 | .leq => some (decide (a ≤ b))
 | .gtr => some (decide (b < a))
 | .geq => some (decide (b ≤ a))
 | .eql => some (decide (a = b))
 | .neq => some (!decide (a = b))
 | _ => none
def zX (op : BinOp) (k : IntKind) (a b : Int) : Option Int :=
 match op with
 | .add => some (k.wrap (a + b))
 | .sub => some (k.wrap (a - b))
 | .mul => some (k.wrap (a * b))
 | .and => some (k.wrap ((BitVec.ofInt k.bits a &&& BitVec.ofInt k.bits b).toNat : Int))
 | .or => some (k.wrap ((BitVec.ofInt k.bits a ||| BitVec.ofInt k.bits b).toNat : Int))
 | .xor => some (k.wrap ((BitVec.ofInt k.bits a ^^^ BitVec.ofInt k.bits b).toNat : Int))
 | _ => none
def K1 (op : BinOp) (k : IntKind) (a b : Int) : Option Int :=
 match op with
 | .quo => some (k.wrap (a.tdiv b))
 | .rem => some (a.tmod b)
 | _ => none
def zY (op : BinOp) (k : IntKind) (a : Int) (n : Nat) : Option Int :=
 match op with
 | .shl => some (k.wrap (a * 2 ^ (min n k.bits)))
 | .shr => some (a.fdiv (2 ^ (min n k.bits)))
 | _ => none
def mz (a b : ByteArray) : Bool := a.toList == b.toList
def ri : CV → CV → Option Bool
 | .int k a, .int l b => if k = l then some (decide (a = b)) else none
 | .bool a, .bool b => some (a == b)
 | .str a, .str b => some (mz a b)
 | _, _ => none
def kZ : List CV → List CV → Option Bool
 | [], [] => some true
 | a :: l, b :: m => match ri a b, kZ l m with
   | some x, some y => some (x && y)
   | _, _ => none
 | _, _ => none
def Dl (s : ByteArray) (i : Int) : Int := match s[i.toNat]? with | some b => (b.toNat : Int) | none => 0
def eV : (r : RT) → ak r → Nat → CV → Option (ak r)
 | .cons (.int k) _, x, 0, .int l n => if k = l then some (n, x.2) else none
 | .cons .bool _, x, 0, .bool b => some (b, x.2)
 | .cons .str _, x, 0, .str s => some (s, x.2)
 | .cons _ r, x, n + 1, c => (eV r x.2 n c).map fun z => (x.1, z)
 | _, _, _, _ => none
def rowOf (st : St) : (r : RT) → List CV → (k : ak r → List (Nat × Nat) → N) → N
 | .nil, [], k => k () []
 | .cons (.int q) r, .int l n :: cs, k => if q = l then rowOf st r cs (fun x m => k (n, x) m) else .fail
 | .cons .bool r, .bool b :: cs, k => rowOf st r cs (fun x m => k (b, x) m)
 | .cons .str r, .str s :: cs, k => rowOf st r cs (fun x m => k (s, x) m)
 | .cons (.sl q) r, c :: cs, k =>
   match c with
   | .dq => rowOf st r cs (fun x m => k (([] : List _), x) m)
   | .ref a j g w => match aQ st a j g with
     | some A => (match A.md with
       | .ho _ => .fail
       | _ => (match bo q A.xs with
         | some ys => rowOf st r cs (fun x m => k (w.app ys, x) ((a, j) :: m))
         | none => .fail))
     | none => .fail
   | .shr _ ys => match bo q ys with
     | some zs => rowOf st r cs (fun x m => k (zs, x) m)
     | none => .fail
   | _ => .fail
 | _, _, _ => .fail
def Md.fz : Md → Md
 | .dp => .sh
 | m => m
def fL.fz (A : fL) : fL := { A with own := false, md := A.md.fz }
def freeze (st : St) : List (Nat × Nat) → St
 | [] => st
 | (a, j) :: l => freeze (kS (fun s => { s with aJ := kS (fun A => A.map fL.fz) s.aJ j, ep := s.ep + 1 }) st a) l
def fH (st : St) : (r : RT) → List CV → Option (ak r × List (Option (Nat × Nat)))
 | .nil, [] => some ((), [])
 | .cons (.int q) r, .int l n :: cs => if q = l then (match fH st r cs with | some p => some ((n, p.1), none :: p.2) | none => none) else none
 | .cons .bool r, .bool b :: cs => match fH st r cs with | some p => some ((b, p.1), none :: p.2) | none => none
 | .cons .str r, .str s :: cs => match fH st r cs with | some p => some ((s, p.1), none :: p.2) | none => none
 | .cons (.sl q) r, c :: cs =>
   match c with
   | .dq => match fH st r cs with | some p => some ((([] : List _), p.1), none :: p.2) | none => none
   | .ref a j g .full => match aQ st a j g with
     | some A => bif A.own && A.md.is (bif q.dD then .dp else .sh) then (match bo q A.xs with
       | some ys => (match fH st r cs with | some p => some ((ys, p.1), some (a, j) :: p.2) | none => none)
       | none => none) else none
     | none => none
   | _ => none
 | _, _ => none
def dt : List (Option (Nat × Nat)) → List (Nat × Nat)
 | [] => []
 | some p :: l => p :: dt l
 | none :: l => dt l
def fM (st : St) : List (Nat × Nat) → St
 | [] => st
 | (a, j) :: l => fM (bh st a j none) l
def distinct : List (Nat × Nat) → Bool
 | [] => true
 | (a, j) :: l => l.all (fun p => !(Nat.beq p.1 a && Nat.beq p.2 j)) && distinct l
def lim : Nat := 35184372088832
def oI : RT → List CV → Bool
 | .nil, [] => true
 | .cons (.int k) r, .int l _ :: cs => decide (k = l) && oI r cs
 | .cons .bool r, .bool _ :: cs => oI r cs
 | .cons .str r, .str _ :: cs => oI r cs
 | _, _ => false
def jh.fits (T : jh) (t : Nat) (l : List CV) : Bool := match T.row t with | some r => oI r l | none => false
def s5 (T : jh) (st : St) (d : Option Nat) (op : BinOp) (t : Nat) (x y : V) : N :=
 match x, y with
 | .one (.int k a), .one (.int l b) =>
   match op with
   | .shl | .shr => match zY op k a b.toNat with
     | some n => .br (decide (0 ≤ b)) (.done (aT st d (.one (.int k n)))) .fail
     | none => .fail
   | _ => if k = l then (match K0 op a b with
     | some t => .done (aT st d (.one (.bool t)))
     | none => match zX op k a b with
       | some n => .done (aT st d (.one (.int k n)))
       | none => match K1 op k a b with
         | some n => .br (decide (b = 0)) .fail (.done (aT st d (.one (.int k n))))
         | none => .fail) else .fail
 | .one (.str a), .one (.str b) =>
   match op with
   | .add => .br (Nat.ble (a.size + b.size) lim) (.done (aT st d (.one (.str (a ++ b))))) .fail
   | .eql => .done (aT st d (.one (.bool (mz a b))))
   | .neq => .done (aT st d (.one (.bool (!mz a b))))
   | _ => .fail
 | .one (.bool a), .one (.bool b) =>
   match op, T.kind t with
   | .eql, some .bool => .done (aT st d (.one (.bool (a == b))))
   | .neq, some .bool => .done (aT st d (.one (.bool (!(a == b)))))
   | _, _ => .fail
 | .one .dq, .one .dq =>
   match op, T.elem t with
   | .eql, some _ => .done (aT st d (.one (.bool true)))
   | .neq, some _ => .done (aT st d (.one (.bool false)))
   | _, _ => .fail
 | .one (.nn _ _), .one .dq =>
   match op, T.elem t with
   | .eql, some _ => .done (aT st d (.one (.bool false)))
   | .neq, some _ => .done (aT st d (.one (.bool true)))
   | _, _ => .fail
 | .agg l, .agg m =>
   bif T.eq t && T.fits t l then (match op, kZ l m with
   | .eql, some t => .done (aT st d (.one (.bool t)))
   | .neq, some t => .done (aT st d (.one (.bool (!t))))
   | _, _ => .fail) else .fail
 | _, _ => .fail
def CV.qC : CV → Bool
 | .bad => false
 | _ => true
def V.qC : V → Bool
 | .one c => c.qC
 | .agg cs => cs.all CV.qC
 | .kX _ => false
def bk (st : St) (d : Option Nat) (A : fL) : N :=
 match d with
 | some d => match nth st d with
   | some s0 => .done (kS (fun s => { s with v := .one (.ref d 0 (s0.ag + 1) .full), aJ := [some A], ag := s0.ag + 1 }) st d)
   | none => .fail
 | none => .fail
def gq (st : St) (d : Option Nat) (cs : List CV) : N :=
 match d with
 | some d => match nth st d with
   | some s0 => .done (kS (fun s => { s with v := .one (.ptr d (s0.bg + 1) 0), box := some cs, bg := s0.bg + 1 }) st d)
   | none => .fail
 | none => .fail
def lX (r : RT) : List CV := (dv r (qB r)).map fun | .shr _ _ => .dq | c => c
def ev (n off : Nat) (cs : List CV) : Option (List CV) :=
 let l := (cs.drop off).take n
 bif Nat.beq l.length n then some l else none
def putCells (cs : List CV) (off : Nat) (l : List CV) : Option (List CV) :=
 bif Nat.ble (off + l.length) cs.length then some (cs.take off ++ l ++ cs.drop (off + l.length)) else none
def K2 (T : jh) (t : Nat) (l : List CV) : V := bif T.agg t then .agg l else (match l with | [c] => .one c | _ => .one .bad)
def sN (T : jh) (st : St) (d : Option Nat) (t : Nat) (a : V) : N :=
 match a, T.cells t with
 | .one (.ptr b g off), some n => match de st b g with
   | some cs => match ev n off cs with
     | some l => .done (aT st d (K2 T t l))
     | none => .fail
   | none => .fail
 | .one (.ke r x off), some n => match ev n off (dv r x) with
   | some l => .done (aT st d (K2 T t l))
   | none => .fail
 | .one (.qi r xs off), some n => .row r xs[0]? fun x => match ev n off (dv r x) with
   | some l => .done (aT st d (K2 T t l))
   | none => .fail
 | .one (.I9 a j g i off), some n => match aQ st a j g with
   | some A => (match A.md with
     | .sh => .row A.r A.xs[i]? fun x => match ev n off (dv A.r x) with
       | some l => .done (aT st d (K2 T t l))
       | none => .fail
     | .dp => .row A.r A.xs[i]? fun x => match ev n off (nW a j g (kW st a) i 0 A.r x) with
       | some l => .done (aT st d (K2 T t l))
       | none => .fail
     | .ho _ => .fail)
   | none => .fail
 | _, _ => .fail
def ji (r : RT) (x : ak r) : (off : Nat) → List CV → Option (ak r)
 | _, [] => some x
 | off, c :: l => match ji r x (off + 1) l with
   | some y => eV r y off c
   | none => none
def fL.put (A : fL) (ys : List (ak A.r)) : fL := { A with xs := ys }
def qj (T : jh) (st : St) (t : Nat) (a v : V) : N :=
 match a, T.cells t with
 | .one (.ptr b g off), some n => match de st b g with
   | some cs => bif v.qC && Nat.beq v.cells.length n then (match putCells cs off v.cells with
     | some l => .done (kS (fun s => { s with box := some l }) st b)
     | none => .fail) else .fail
   | none => .fail
 | .one (.I9 a j g i off), some n => match aQ st a j g with
   | some A => bif v.qC && A.own && Nat.beq v.cells.length n && Nat.blt 0 n then
       (bif Nat.beq n A.r.width && A.r.dD && Nat.beq off 0 then
         (match A.md with
         | .sh => rowOf st A.r v.cells fun x m => bif m.all (fun p => !(Nat.beq p.1 a && Nat.beq p.2 j)) then
           .row A.r A.xs[i]? (fun _ => .done (bh (freeze st m) a j (some (A.put (A.xs.set i x))))) else .fail
         | .dp => (match fH st A.r v.cells with
           | some p => bif distinct (dt p.2) && (dt p.2).all (fun p => !(Nat.beq p.1 a && Nat.beq p.2 j)) then
             .row A.r A.xs[i]? (fun _ => .done (bh (fM st (dt p.2)) a j (some (A.put (A.xs.set i p.1))))) else .fail
           | none => .fail)
         | .ho q => (match fH st A.r v.cells with
           | some p => bif distinct (dt p.2) && (dt p.2).all (fun p => !(Nat.beq p.1 a && Nat.beq p.2 j)) then
             .br (Nat.beq i q) (.row A.r A.xs[i]? (fun _ => .done (bh (fM st (dt p.2)) a j (some { A.put (A.xs.set i p.1) with md := .dp })))) .fail else .fail
           | none => .fail))
       else bif A.md.Dj then .fail else .row A.r A.xs[i]? fun x => match ji A.r x off v.cells with
         | some y => .done (bh st a j (some (A.put (A.xs.set i y))))
         | none => .fail) else .fail
   | none => .fail
 | _, _ => .fail
def mY (T : jh) (st : St) (d : Option Nat) (t : Nat) (x ix : V) : N :=
 match T.elem t, x, ix with
 | some (q, _), .one (.shr r xs), .one (.int _ i) => match bo q xs with
   | some ys => .br (decide (0 ≤ i)) (.row q ys[i.toNat]? fun y => .done (aT st d (.one (.ke q y 0)))) .fail
   | none => .fail
 | some (q, _), .one (.ref a j g w), .one (.int _ i) => match aQ st a j g with
   | some A => match bo q A.xs with
     | some ys => (match A.own with
       | false => bif !A.md.is .sh then .fail else .br (decide (0 ≤ i)) (.row q (w.app ys)[i.toNat]? fun y => .done (aT st d (.one (.ke q y 0)))) .fail
       | true => .br (decide (0 ≤ i)) (.br (Nat.blt i.toNat (w.app ys).length) (.done (aT st d (.one (.I9 a j g (w.idx i.toNat) 0)))) .fail) .fail)
     | none => .fail
   | none => .fail
 | _, _, _ => .fail
def lY (n : Nat) (lo hi : Option V) (k : Option Nat → Option Nat → N) : N :=
 let Gx (l : Option Nat) : N := match hi with
   | none => k l none
   | some (.one (.int _ h)) => .br (decide ((match l with | some l => (l : Int) | none => 0) ≤ h)) (.br (decide (h ≤ n)) (k l (some h.toNat)) .fail) .fail
   | _ => .fail
 match lo with
 | none => Gx none
 | some (.one (.int _ l)) => .br (decide (0 ≤ l)) (match hi with
   | none => .br (decide (l ≤ n)) (Gx (some l.toNat)) .fail
   | _ => Gx (some l.toNat)) .fail
 | _ => .fail
def Gy (n : Nat) : Option Nat → Option Nat → View
 | none, none => .full
 | some l, none => .from l
 | none, some h => .sub 0 h
 | some l, some h => .sub l (h - l)
def View.of (w : View) (n : Nat) (lo hi : Option Nat) : View :=
 match lo, hi with
 | none, none => w
 | some l, none => (match w with | .full => .from l | .from a => .from (a + l) | .sub a m => .sub (a + l) (m - l))
 | none, some h => .sub w.lo h
 | some l, some h => .sub (w.lo + l) (h - l)
def rj (T : jh) (st : St) (d : Option Nat) (t : Nat) (x : V) (lo hi : Option V) : N :=
 match x with
 | .one (.str s) => match T.kind t with
   | some .str => lY s.size lo hi fun l h =>
     .done (aT st d (.one (.str (s.extract (l.getD 0) (h.getD s.size)))))
   | _ => .fail
 | .one .dq => match T.elem t with
   | some _ => lY 0 lo hi fun _ _ => .done (aT st d (.one .dq))
   | none => .fail
 | .one (.shr r xs) => match T.elem t with
   | some (q, _) => match bo q xs with
     | some ys => lY ys.length lo hi fun l h => .done (aT st d (.one (.shr q ((Gy ys.length l h).app ys))))
     | none => .fail
   | none => .fail
 | .one (.ref a j g w) => match T.elem t, aQ st a j g with
   | some (q, _), some A => match bo q A.xs with
     | some ys => lY (w.app ys).length lo hi fun l h => .done (aT st d (.one (.ref a j g (w.of (w.app ys).length l h))))
     | none => .fail
   | _, _ => .fail
 | _ => .fail
def Dm (T : jh) (st : St) (d : Option Nat) (t : Nat) (x : V) : N :=
 match x with
 | .one (.str s) => match T.kind t with
   | some .str => .done (aT st d (.one (.int .i64 s.size)))
   | _ => .fail
 | .one .dq => match T.elem t with
   | some _ => .done (aT st d (.one (.int .i64 0)))
   | none => .fail
 | .one (.shr _ xs) => match T.elem t with
   | some _ => .done (aT st d (.one (.int .i64 xs.length)))
   | none => .fail
 | .one (.ref a j g w) => match T.elem t, aQ st a j g with
   | some _, some A => .done (aT st d (.one (.int .i64 (w.app A.xs).length)))
   | _, _ => .fail
 | _ => .fail
def K3 (st : St) : V → Option (Nat × Nat × fL)
 | .one (.ref a j g .full) => match aQ st a j g with
   | some A => bif A.own && A.md.is .dp then some (a, j, A) else none
   | none => none
 | _ => none
def zZ (st : St) (d : Option Nat) (r : RT) (bytes : Nat) (x : V) (b k : Nat) (ys : List (ak r)) : N :=
 match x with
 | .one .dq => .br (Nat.ble ((([] : List (ak r)).length + ys.length) * bytes) lim) (bk (fM st [(b, k)]) d { r := r, own := true, xs := [] ++ ys, md := .dp }) .fail
 | .one (.ref a j g w) => match K3 st (.one (.ref a j g w)) with
   | some (_, _, A) => (match bo r A.xs with
     | some xs => bif !(Nat.beq a b && Nat.beq j k) then .br (Nat.ble ((xs.length + ys.length) * bytes) lim) (bk (fM st [(a, j), (b, k)]) d { r := r, own := true, xs := xs ++ ys, md := .dp }) .fail else .fail
     | none => .fail)
   | none => .fail
 | _ => .fail
def zL (T : jh) (st : St) (d : Option Nat) (t : Nat) (x y : V) : N :=
 match T.elem t with
 | none => .fail
 | some (r, bytes) =>
   match K3 st y with
   | some (b, k, B) => (match bo r B.xs with | some ys => zZ st d r bytes x b k ys | none => .fail)
   | none =>
   let out (xs : List (ak r)) (used : List (Nat × Nat)) : N :=
     match y with
     | .one c => jX st r c fun ys =>
         .br (Nat.ble ((xs.length + ys.length) * bytes) lim)
           (bk (used.foldl (fun s p => bh s p.1 p.2 none) st) d { r := r, own := true, xs := xs ++ ys }) .fail
     | _ => .fail
   match x with
   | .one .dq => out [] []
   | .one (.ref a j g w) => match aQ st a j g with
     | some A => bif A.own && A.md.is .sh then (match bo r A.xs with | some xs => out (w.app xs) [(a, j)] | none => .fail) else .fail
     | none => .fail
   | _ => .fail
def K4 (T : jh) (st : St) (d : Option Nat) (t : Nat) (len cap : V) : N :=
 match T.elem t, len, cap with
 | some (r, bytes), .one (.int .i64 n), .one (.int .i64 c) =>
   .br (decide (n = c)) (.br (decide (0 ≤ n)) (.br (Nat.ble (n.toNat * bytes) lim)
     (bk st d { r := r, own := true, xs := List.replicate n.toNat (qB r), md := bif T.dp t then .dp else .sh }) .fail) .fail) .fail
 | _, _, _ => .fail
def uF (st : St) (r : RT) : (i : Nat) → List (Nat × V) → (k : List (ak r) → List (Nat × Nat) → N) → N
 | _, [], k => k [] []
 | i, (p, v) :: l, k => bif v.qC && Nat.beq p i then rowOf st r v.cells fun x m => uF st r (i + 1) l fun xs m' => k (x :: xs) (m ++ m') else .fail
def Gz (st : St) (r : RT) : List (Nat × V) → Option (List (ak r) × List (Option (Nat × Nat)))
 | [] => some ([], [])
 | [(p, v)] => bif v.qC && Nat.beq p 0 then (match fH st r v.cells with | some q => some ([q.1], q.2) | none => none) else none
 | _ => none
def ti (T : jh) (st : St) (d : Option Nat) (t len : Nat) (parts : List (Nat × V)) : N :=
 match T.elem t with
 | some (r, _) => bif Nat.beq parts.length len && Nat.ble (len * r.width) 16777216 then
     (match (bif T.dp t then Gz st r parts else none) with
     | some p => bif distinct (dt p.2) then bk (fM st (dt p.2)) d { r := r, own := true, xs := p.1, md := .dp } else .fail
     | none => uF st r 0 parts fun xs m => bk (freeze st m) d { r := r, own := true, xs := xs })
   else .fail
 | none => .fail
def lZ (T : jh) (t : Nat) (cs : List CV) : List (Nat × V) → Option (List CV)
 | [] => some cs
 | (f, v) :: l => match T.off t f, T.UN t f with
   | some o, some s => bif v.qC && Nat.beq v.cells.length s then (match putCells cs o v.cells with
     | some lI => lZ T t lI l
     | none => none) else none
   | _, _ => none
def View.isFull : View → Bool
 | .full => true
 | _ => false
def lM (st : St) (s : Nat) : Nat := match nth st s with | some x => x.ag | none => 0
def eW (st : St) (own : Bool) : CV → Option (OV × Option Lb × List (Nat × Nat))
 | .int q n => some (.int q n, none, [])
 | .bool b => some (.bool b, none, [])
 | .str s => some (.str s, none, [])
 | .dq => some (.dq, none, [])
 | .shr r xs => some (.shr r xs, none, [])
 | .nn r xs => some (.shr r xs, none, [])
 | .ref a j g w => match aQ st a j g with
   | some A => bif A.md.Dj then none else bif own && A.own && (A.md.is .sh || w.isFull) then some (.own { A with xs := w.app A.xs }, some (.sp a j), []) else some (.shr A.r (w.app A.xs), none, [(a, j)])
   | none => none
 | .mX a j g e _ _ q ys => match aQ st a j g with
   | some A => bif A.md.is .dp && Nat.beq e (kW st a) then some (.shr q ys, none, [(a, j)]) else none
   | none => none
 | .ke r x off => bif Nat.beq off 0 then some (.ke r [x], none, []) else none
 | .qi r xs off => bif Nat.beq off 0 then some (.ke r xs, none, []) else none
 | .fn f rs xs => some (.fn f rs xs, none, [])
 | _ => none
def ei (st : St) (own : Bool) : List CV → Option (List OV × List (Option Lb) × List (Nat × Nat))
 | [] => some ([], [], [])
 | c :: l => match eW st own c, ei st own l with
   | some (o, u, r), some (os, us, rs) => some (o :: os, u :: us, r ++ rs)
   | _, _ => none
def bu : List (Option Lb) → List Lb
 | [] => []
 | some l :: ls => l :: bu ls
 | none :: ls => bu ls
def Pm.lN : Pm → Bool
 | .own => true
 | _ => false
def K5 (st : St) : CV → Bool
 | .ref a j g w => (match w with | .full => true | _ => false) && (match aQ st a j g with | some A => A.own | none => false)
 | _ => true
def dE (st : St) (m : Pm) : V → Option (AV × List Lb × List Lb × List (Nat × Nat))
 | .one (.ptr b g off) => match de st b g with
   | some cs => (match ei st true cs with
     | some (os, u, r) => bif Nat.beq off 0 then some (.box os, .box b :: bu u, bu u, r) else none
     | none => none)
   | none => none
 | .one (.ref a j g w) => match m with
   | .io => (match w, aQ st a j g with
     | .full, some A => bif A.own && !A.md.Dj then some (.io A, [.sp a j], [], []) else none
     | _, _ => none)
   | m => match ei st m.lN [.ref a j g w] with
     | some (os, u, r) => some (.val false os, bu u, bu u, r)
     | none => none
 | .one c => match ei st false [c] with
   | some (os, u, r) => some (.val false os, bu u, bu u, r)
   | none => none
 | .agg cs => match m with
   | .bp => (match ei st true cs with
     | some (os, u, r) => bif cs.all (K5 st) then some (.bp os, bu u, [], r) else none
     | none => none)
   | m => match ei st m.lN cs with
     | some (os, u, r) => some (.val true os, bu u, bu u, r)
     | none => none
 | .kX _ => none
def gr (st : St) : List (Pm × V) → Option (List AV × List Lb × List Lb × List (Nat × Nat))
 | [] => some ([], [], [], [])
 | (m, v) :: l => match dE st m v, gr st l with
   | some (a, u, q, r), some (as, us, qs, rs) => some (a :: as, u ++ us, q ++ qs, r ++ rs)
   | _, _ => none
def rk : List Lb → Bool
 | [] => true
 | x :: l => l.all (fun y => !(Lb.same x y)) && rk l
def apart (used : List Lb) (reads : List (Nat × Nat)) : Bool :=
 reads.all fun p => used.all fun q => !(Lb.same q (.sp p.1 p.2))
def mh (st : St) : List Lb → St
 | [] => st
 | .sp a j :: l => mh (bh st a j none) l
 | _ :: l => mh st l
def OV.plain : OV → Bool
 | .own A => !A.r.dD || A.md.is .dp
 | .shr _ _ => false
 | .ke _ _ => false
 | .fn _ _ _ => false
 | _ => true
def XV.plain : XV → Bool
 | .io A => !A.r.dD || A.md.is .dp
 | .box os => os.all OV.plain
 | .bp As => As.all fun | some A => !A.r.dD || A.md.is .dp | none => true
def X4.plain (r : X4) : Bool :=
 r.outs.all (fun o => o.tf.all OV.plain) && r.exts.all XV.plain
def z7 (st : St) : (j : Nat) → List CV → List (Option fL) → Option St
 | _, [], _ => some st
 | j, .ref a k g _ :: cs, As => match nth As j, aQ st a k g with
   | some (some B), some _ => z7 (bh st a k (some B)) (j + 1) cs As
   | _, _ => none
 | j, _ :: cs, As => z7 st (j + 1) cs As
def pX (st : St) (m : Pm) (v : V) (xs : List XV) : Option (St × List XV) :=
 match v with
 | .one (.ptr b g _) => match xs with
   | .box os :: xs => (match nth st b, de st b g with
     | some s0, some _ => some (kS (fun s => { s with box := some (aU b (s0.ag + 1) 0 os), aJ := aV os, ag := s0.ag + 1 }) st b, xs)
     | _, _ => none)
   | _ => none
 | .one (.ref a j g _) => match m with
   | .io => (match xs, aQ st a j g with
     | .io A :: xs, some _ => some (bh st a j (some A), xs)
     | _, _ => none)
   | _ => some (st, xs)
 | .agg cs => match m with
   | .bp => (match xs with
     | .bp As :: xs => (z7 st 0 cs As).map fun aP => (aP, xs)
     | _ => none)
   | _ => some (st, xs)
 | _ => some (st, xs)
def rn (st : St) : List (Pm × V) → List XV → Option St
 | [], [] => some st
 | [], _ => none
 | (m, v) :: l, xs => match pX st m v xs with
   | some (aP, UQ) => rn aP l UQ
   | none => none
def sO (a b c : Pm) : List V → List (Pm × V)
 | [] => []
 | [x] => [(a, x)]
 | [x, y] => [(a, x), (b, y)]
 | x :: y :: z :: l => (a, x) :: (b, y) :: (c, z) :: l.map fun v => (.shr, v)
def refsOf : List CV → List (Nat × Nat)
 | [] => []
 | .ref a j _ _ :: l => (a, j) :: refsOf l
 | _ :: l => refsOf l
def z8 (st : St) : List (Pm × V) → List (Nat × Nat)
 | [] => []
 | (.own, .one (.ptr b g _)) :: l => (match de st b g with | some cs => refsOf cs | none => []) ++ z8 st l
 | (.pick q, .one (.ptr b g _)) :: l => (match de st b g with | some cs => refsOf (q.filterMap (nth cs)) | none => []) ++ z8 st l
 | _ :: l => z8 st l
def wT (st : St) : St := st.map fun s => { s with ep := s.ep + 1 }
def Et (st : St) (d : Option Nat) (yE : tg) (ms : List (Pm × V)) (fin : St → N) : N :=
   match gr st ms with
   | some (cT, used, UR, reads) => bif rk used && apart used reads then (match yE cT with
     | some A => .row A.r A.o fun x => (match rn (mh (wT (bif (A.res x).plain then st else freeze st reads)) UR) ms (A.res x).exts with
       | some aP => (match th aP d (A.res x).outs with
         | some QO => fin QO
         | none => .fail)
       | none => .fail)
     | none => .fail) else .fail
   | none => .fail
structure Dr where
 a : Nat
 j : Nat
 g : Nat
 e : Nat
 i : Nat
 k : Nat
 q : RT
 ys : List (ak q)
def vB : List CV → List Dr
 | [] => []
 | .mX a j g e i k q ys :: l => ⟨a, j, g, e, i, k, q, ys⟩ :: vB l
 | _ :: l => vB l
def oJ : List (Pm × V) → List Dr
 | [] => []
 | (.io, .one c) :: l => vB [c] ++ oJ l
 | (.bp, .agg cs) :: l => vB cs ++ oJ l
 | _ :: l => oJ l
def Dn : List Nat → Bool
 | [] => true
 | [_] => true
 | a :: b :: l => Nat.blt a b && Dn (b :: l)
def Dr.arr (x : Dr) : fL := { r := x.q, own := true, xs := x.ys, md := bif x.q.dD then .dp else .sh }
def kg (st : St) (ms : List (Pm × V)) : Option (Dr × fL × List Dr) :=
 match oJ ms with
 | [] => none
 | x :: l => match aQ st x.a x.j x.g with
   | some A => bif A.own && A.md.is .dp && Nat.beq x.e (kW st x.a) && l.all (fun y => Nat.beq y.a x.a && Nat.beq y.j x.j && Nat.beq y.g x.g && Nat.beq y.e x.e && Nat.beq y.i x.i) &&
       Dn ((x :: l).map (·.k)) && !Nat.beq x.a (st.length - 1) then some (x, A, x :: l) else none
   | none => none
def posOf (k : Nat) : (n : Nat) → List Dr → Nat
 | n, [] => n
 | n, x :: l => bif Nat.beq x.k k then n else posOf k (n + 1) l
def QP (P g : Nat) (l : List Dr) : CV → CV
 | .mX _ _ _ _ _ k _ _ => .ref P (posOf k 0 l) g .full
 | c => c
def Oe (P g : Nat) (l : List Dr) : Pm × V → Pm × V
 | (.io, .one c) => (.io, .one (QP P g l c))
 | (.bp, .agg cs) => (.bp, .agg (cs.map (QP P g l)))
 | x => x
def dN (st : St) (x : Dr) (A : fL) (l : List Dr) : St :=
 kS (fun s => { s with aJ := l.map (fun y => some y.arr), ag := s.ag + 1, ep := s.ep + 1 }) (bh st x.a x.j (some { A with md := .ho x.i })) (st.length - 1)
def rp (st : St) (P g : Nat) (r : RT) : (n : Nat) → List Dr → ak r → Option (ak r)
 | _, [], z => some z
 | n, y :: l, z => match aQ st P n g with
   | some B => bif B.own && B.md.is (bif y.q.dD then .dp else .sh) then (match bo y.q B.xs with
     | some ys => (match kY r z y.k y.q ys with
       | some z' => rp st P g r (n + 1) l z'
       | none => none)
     | none => none) else none
   | none => none
def GA (P g : Nat) (x : Dr) (A : fL) (l : List Dr) (st : St) : N :=
 match aQ st x.a x.j x.g with
 | some H => bif H.md.Dj then (.row A.r A.xs[x.i]? fun z => match rp st P g A.r 0 l z with
   | some z' => .done (bh (kS (fun s => { s with aJ := [], ep := s.ep + 1 }) st P) x.a x.j (some (A.put (A.xs.set x.i z'))))
   | none => .fail) else .fail
 | none => .fail
def Dp (T : jh) (st : St) (d : Option Nat) (t : Nat) (x y : V) : N :=
 match kg st [(.io, x)] with
 | none => zL T st d t x y
 | some (z, A, l) => zL T (dN st z A l) d t (Oe (st.length - 1) (lM st (st.length - 1) + 1) l (.io, x)).2 y
def Eu (st : St) (o : Oper) : Bool :=
 match o.op with
 | .call { callee := .builtin .append, args := args, argTypes := _ } => (match args.toList with
   | x :: _ => (kg st [(.io, jY st x)]).isSome
   | _ => false)
 | _ => false
def PF (st : St) (d : Option Nat) (yE : tg) (ms : List (Pm × V)) : N :=
 match kg st ms with
 | none => Et st d yE ms .done
 | some (x, A, l) => Et (dN st x A l) d yE (ms.map (Oe (st.length - 1) (lM st (st.length - 1) + 1) l)) (GA (st.length - 1) (lM st (st.length - 1) + 1) x A l)
def yF (st : St) : CV → CV
 | .ref a j g .full => match aQ st a j g with
   | some A => bif A.own then .ref a j g .full else bif A.md.is .sh then .shr A.r A.xs else .ref a j g .full
   | none => .ref a j g .full
 | x => x
def K6 (st : St) : V → V
 | .one x => .one (yF st x)
 | .agg cs => .agg (cs.map (yF st))
 | x => x
def PG (st : St) (s : Sl) : Sl := { s with v := K6 st s.v, box := s.box.map fun cs => cs.map (yF st) }
def rq (st : St) : St := st.map (PG st)
def Pm.K7 : Pm → Bool
 | .pick _ => true
 | _ => false
def yG (ms : List (Pm × V)) (st : St) : St := bif ms.any (fun m => m.1.K7) then rq st else st
def Cq (S : hZ) (st : St) (d : Option Nat) (f : FuncId) (args : List V) : N :=
 match S f with
 | none => .fail
 | some (a, b, c, yE) => PF (yG (sO a b c args) (freeze st (z8 st (sO a b c args)))) d yE (sO a b c args)
def dw : List CV → Option ((r : RT) × ak r)
 | [] => some ⟨.nil, ()⟩
 | .int k n :: l => match dw l with | some ⟨r, x⟩ => some ⟨.cons (.int k) r, (n, x)⟩ | none => none
 | .bool b :: l => match dw l with | some ⟨r, x⟩ => some ⟨.cons .bool r, (b, x)⟩ | none => none
 | .str s :: l => match dw l with | some ⟨r, x⟩ => some ⟨.cons .str r, (s, x)⟩ | none => none
 | .shr q xs :: l => match dw l with | some ⟨r, x⟩ => some ⟨.cons (.sl q) r, (xs, x)⟩ | none => none
 | _ => none
def eS (st : St) (b : Nat) : St := kS (fun s => { s with box := none }) st b
def Of (st : St) (t : Nat) : Option (St × ((r : RT) × List (ak r))) :=
 match bI st t with
 | .one (.ke r x off) => bif Nat.beq off 0 then some (st, ⟨r, [x]⟩) else none
 | .one (.qi r xs off) => bif Nat.beq off 0 then some (st, ⟨r, xs⟩) else none
 | .one (.ptr b g off) => match de st b g with
   | some cs => bif Nat.beq off 0 then (match dw cs with
     | some ⟨r, x⟩ => some (eS st b, ⟨r, [x]⟩)
     | none => none) else none
   | none => none
 | _ => none
def vj (st : St) : List Operand → Option (St × ((rs : RT) × ak rs))
 | [] => some (st, ⟨.nil, ()⟩)
 | .tmp t :: l => match Of st t with
   | some (aP, ⟨r, ys⟩) => (match vj aP l with
     | some (QO, ⟨rs, xs⟩) => some (QO, ⟨.cons (.sl r) rs, (ys, xs)⟩)
     | none => none)
   | none => none
 | _ => none
def sP : (rs : RT) → ak rs → List V
 | .nil, _ => []
 | .cons (.sl r) rs, x => .one (.qi r x.1 0) :: sP rs x.2
 | .cons _ rs, x => .one .bad :: sP rs x.2
def Iq (y : ak (.cons (.int .u8) .nil)) : Int := y.1
def bytesOf (ys : List (ak (.cons (.int .u8) .nil))) : ByteArray := ys.foldl (fun r y => r.push (UInt8.ofNat (Iq y).toNat)) ByteArray.empty
def Gm (T : jh) (S : hZ) (st : St) (o : Oper) : N :=
 match o.op with
 | .move x | .assign x => .done (aT st o.dst (jY st x))
 | .pick c a b => match jY st c with
   | .one (.bool x) => .br x (.done (aT st o.dst (jY st a))) (.done (aT st o.dst (jY st b)))
   | _ => .fail
 | .alloc t => match T.row t with
   | some r => gq st o.dst (lX r)
   | none => .fail
 | .box t x => match T.cells t with
   | some n => bif (jY st x).qC && Nat.beq (jY st x).cells.length n then (match (bif T.cap t then dw (jY st x).cells else none) with
     | some ⟨r, y⟩ => .done (aT st o.dst (.one (.ke r y 0)))
     | none => gq st o.dst (jY st x).cells) else .fail
   | none => .fail
 | .build t parts => match T.row t, T.agg t with
   | some r, true => (match lZ T t (lX r) (parts.toList.map fun p => (p.1, jY st p.2)) with
     | some cs => .done (aT st o.dst (.agg cs))
     | none => .fail)
   | _, _ => .fail
 | .buildSlice t len parts => ti T st o.dst t len (parts.toList.map fun p => (p.1, jY st p.2))
 | .load t a => sN T st o.dst t (jY st a)
 | .store t a v => (match o.dst with
   | none => qj T st t (jY st a) (jY st v)
   | some _ => .fail)
 | .nilCheck x => match jY st x with
   | .one (.ptr b g off) => (match de st b g with
     | some _ => .done (aT st o.dst (.one (.ptr b g off)))
     | none => .fail)
   | _ => .fail
 | .binOp op t x y _ => s5 T st o.dst op t (jY st x) (jY st y)
 | .unOp .not _ x => match jY st x with
   | .one (.bool b) => .done (aT st o.dst (.one (.bool (!b))))
   | _ => .fail
 | .convert s t x => match T.kind s, T.kind t, jY st x with
   | some (.int _), some (.int k), .one (.int _ n) => .done (aT st o.dst (.one (.int k (k.wrap n))))
   | some .str, some .str, .one (.str b) => .done (aT st o.dst (.one (.str b)))
   | none, some .str, .one c => (match T.elem s with
     | some (.cons (.int .u8) .nil, _) => jX st (.cons (.int .u8) .nil) c fun ys => .done (aT st o.dst (.one (.str (bytesOf ys))))
     | _ => .fail)
   | _, _, _ => .fail
 | .makeSlice t l c => K4 T st o.dst t (jY st l) (jY st c)
 | .slice t x lo hi none => rj T st o.dst t (jY st x) (lo.map (jY st)) (hi.map (jY st))
 | .fieldAddr t x f => match jY st x, T.off t f with
   | .one (.ptr b g off), some k => (match de st b g with
     | some _ => .done (aT st o.dst (.one (.ptr b g (off + k))))
     | none => .fail)
   | .one (.I9 a j g i off), some k => (match aQ st a j g with
     | some _ => .done (aT st o.dst (.one (.I9 a j g i (off + k))))
     | none => .fail)
   | .one (.ke r x off), some k => .done (aT st o.dst (.one (.ke r x (off + k))))
   | .one (.qi r xs off), some k => .done (aT st o.dst (.one (.qi r xs (off + k))))
   | _, _ => .fail
 | .field t x f => match jY st x, T.off t f with
   | .agg cs, some k => bif T.one t f then (match nth cs k with
     | some c => .done (aT st o.dst (.one c))
     | none => .fail) else .fail
   | _, _ => .fail
 | .indexAddr t x i => mY T st o.dst t (jY st x) (jY st i)
 | .index t x i => match T.kind t, jY st x, jY st i with
   | some .str, .one (.str s), .one (.int _ n) => .br (decide (0 ≤ n)) (.br (decide (n < s.size)) (.done (aT st o.dst (.one (.int .u8 (Dl s n))))) .fail) .fail
   | _, _, _ => .fail
 | .extract t i => match jY st t with
   | .kX vs => match nth vs i with
     | some v => .done (aT st o.dst v)
     | none => .fail
   | _ => .fail
 | .call { callee := .value (.func f), args := args, argTypes := _ } => Cq S st o.dst f (args.toList.map (jY st))
 | .call { callee := .value (.tmp t), args := args, argTypes := _ } => (match bI st t with
   | .one (.fn g rs xs) => .row rs xs[0]? fun x => Cq S st o.dst g (args.toList.map (jY st) ++ sP rs x)
   | _ => .fail)
 | .makeFunc (.func g) first uX => bif first.isEmpty then (match vj st uX.toList with
   | some (aP, ⟨rs, x⟩) => .done (aT aP o.dst (.one (.fn g rs [x])))
   | none => .fail) else .fail
 | .call { callee := .builtin b, args := args, argTypes := ts } => match b, args.toList, ts.toList with
   | .len, [x], [t] => Dm T st o.dst t (jY st x)
   | .append, [x, y], [t, u] => bif Nat.beq t u then Dp T st o.dst t (jY st x) (jY st y) else .fail
   | .min, [x, y], _ => (match jY st x, jY st y with
     | .one (.int k a), .one (.int _ b) => .done (aT st o.dst (.one (.int k (if b < a then b else a))))
     | _, _ => .fail)
   | .max, [x, y], _ => (match jY st x, jY st y with
     | .one (.int k a), .one (.int _ b) => .done (aT st o.dst (.one (.int k (if b > a then b else a))))
     | _, _ => .fail)
   | .min, [x, y, z], _ => (match jY st x, jY st y, jY st z with
     | .one (.int k a), .one (.int _ b), .one (.int _ c) => .done (aT st o.dst (.one (.int k (if c < (if b < a then b else a) then c else (if b < a then b else a)))))
     | _, _, _ => .fail)
   | _, _, _ => .fail
 | _ => .fail
def tj (T : jh) (S : hZ) (ops : List Oper) (st : St) (o : Oper) : N :=
 match o.guard with
 | none => Gm T S st o
 | some (j, want) => match (nth ops j).bind (·.dst) with
   | some d => match bI st d with
     | .one (.bool b) =>
       let yes (x : Bool) : N := Gm T S (aT st (some d) (.one (.bool x))) o
       let no (x : Bool) : N := .done (aT (aT st (some d) (.one (.bool x))) o.dst (.kX []))
       .br b (bif want then yes true else no true) (bif want then no false else yes false)
     | .kX [] => .done (aT st o.dst (.kX []))
     | _ => .fail
   | none => .fail
inductive Ex where
 | normal
 | exit (n : Nat)
 | ret
open Classical in
noncomputable def both {R : Type} (a b : Option R) : Option R := if a = b then a else none
theorem cH {R : Type} (a : Option R) : both a a = a := by unfold both; rw [if_pos rfl]
theorem Ja {R : Type} {a b : Option R} {r : R} (h : both a b = some r) : a = some r ∧ b = some r := by
 unfold both at h
 split at h
 · rename_i e; exact ⟨h, e ▸ h⟩
 · cases h
section
variable {R : Type} (T : jh) (S : hZ)
def Jb (ops : List Oper) : List Oper → St → (St → Option R) → Option R
 | [], st, k => k st
 | o :: r, st, k => (tj T S ops st o).fold fun aP => Jb ops r aP k
inductive Kd where
 | any | take | one | last
inductive Pl where
 | nil
 | op (i : Nat) (kd : Kd) (p : Pl)
 | alt (p q : Pl)
def GB (st : St) (ms : List (Pm × V)) : Bool :=
 match gr st ms with
   | some (_, used, _, _) => used.isEmpty
   | none => true
def oA (S : hZ) (st : St) (f : FuncId) (args : List V) : Bool :=
 match S f with
 | some (a, b, c, _) => (match kg (yG (sO a b c args) (freeze st (z8 st (sO a b c args)))) (sO a b c args) with | none => GB (yG (sO a b c args) (freeze st (z8 st (sO a b c args)))) (sO a b c args) | some _ => false)
 | none => true
def kindOk (S : hZ) (st : St) (o : Oper) : Kd → Bool
 | .any => match o.op with
   | .move _ | .assign _ | .pick _ _ _ | .nilCheck _ | .binOp _ _ _ _ _ | .unOp _ _ _ | .slice _ _ _ _ _ | .fieldAddr _ _ _ | .indexAddr _ _ _ | .index _ _ _ | .extract _ _ | .build _ _ | .field _ _ _ => true
   | .convert _ _ x => (match jY st x with | .one (.mX _ _ _ _ _ _ _ _) => false | .one (.shr _ _) => false | .one (.nn _ _) => false | .one (.ref _ _ _ _) => false | .one .dq => false | _ => true)
   | .call { callee := .builtin b, .. } => (match b with | .len | .min | .max => true | _ => false)
   | _ => false
 | .take => match o.op with
   | .load _ _ => true
   | _ => false
 | .one => match o.op with
   | .store _ _ _ => false
   | .call { callee := .builtin b, .. } => (match b with | .len | .min | .max => true | _ => false)
   | .call { callee := .value (.func f), args := args, .. } => oA S st f (args.toList.map (jY st))
   | .call { callee := .value (.tmp t), args := args, .. } => (match bI st t with
     | .one (.fn g rs xs) => (match xs[0]? with | some x => oA S st g (args.toList.map (jY st) ++ sP rs x) | none => true)
     | _ => true)
   | _ => true
 | .last => true
noncomputable def mZ (ops : List Oper) : Pl → St → (St → Option R) → Option R
 | .nil, st, k => k st
 | .op i kd r, st, k => match nth ops i with
   | some o => bif kindOk S st o kd then (tj T S ops st o).fold fun aP => mZ ops r aP k else none
   | none => none
 | .alt p q, st, k => both (mZ ops p st k) (mZ ops q st k)
abbrev k9 (R : Type) := Nat → Code → St → (Ex → St → Option R) → Option R
abbrev jj := Nat → Pl
noncomputable def dx (D : jj) (L : k9 R) : Code → St → (Ex → St → Option R) → Option R
 | .skip, st, k => k .normal st
 | .region _ ops false, st, k => Jb T S ops.toList ops.toList st fun aP => k .normal aP
 | .region id ops true, st, k => mZ T S ops.toList (D id) st fun aP => k .normal aP
 | .seq a b, st, k => dx D L a st fun e aP => match e with
   | .normal => dx D L b aP k
   | e => k e aP
 | .cond (.tmp c) a b, st, k => match bI st c with
   | .one (.bool x) => bif x then dx D L a (aT st (some c) (.one (.bool true))) k else dx D L b (aT st (some c) (.one (.bool false))) k
   | _ => none
 | .block id (.loop b), st, k => L id b st k
 | .block id b, st, k => dx D L b st fun e aP => match e with
   | .exit n => bif Nat.beq n id then k .normal aP else k (.exit n) aP
   | e => k e aP
 | .exit id, st, k => k (.exit id) st
 | .ret, st, k => k .ret st
 | _, _, _ => none
end
end Go.TM
namespace Go.TM
open Go Go.RowKit
@[simp] theorem X5 {α : Type} (n : Nat) : nth ([] : List α) n = none := rfl
theorem fo {α : Type} (l : List α) (n : Nat) : nth l n = l[n]? := by
 induction l generalizing n with
 | nil => simp
 | cons x l ih => cases n <;> simp [nth, ih]
theorem ia {α : Type} (f : α → α) (l : List α) (n : Nat) : nth (kS f l n) n = (nth l n).map f := by
 induction l generalizing n with
 | nil => rfl
 | cons x l ih => cases n <;> simp [kS, nth, ih]
theorem kr {α : Type} (f : α → α) (l : List α) {n m : Nat} (h : m ≠ n) : nth (kS f l n) m = nth l m := by
 induction l generalizing n m with
 | nil => rfl
 | cons x l ih =>
   cases n with
   | zero => cases m with
     | zero => exact absurd rfl h
     | succ m => rfl
   | succ n => cases m with
     | zero => rfl
     | succ m => simp only [kS, nth]; exact ih (by omega)
theorem cQ {α : Type} (f : α → α) (l : List α) (n m : Nat) : nth (kS f l n) m = if m = n then (nth l m).map f else nth l m := by
 by_cases h : m = n
 · subst h; simp [ia]
 · simp [h, kr f l h]
theorem Dq {α : Type} {l : List α} {n : Nat} {x : α} (h : nth l n = some x) : n < l.length := by
 rw [fo] at h; exact (List.getElem?_eq_some_iff.1 h).1
def Ir {r : RT} (xs : den (.sl r)) : List (ak r) := xs
mutual
def bE (w : World) (ok : Nat → Prop) : (t : Ty) → Value → den t → Prop
 | .int k, v, n => v = .int k n
 | .bool, v, b => v = .bool b
 | .str, v, s => v = .string s
 | .sl r, v, xs => (v = .slice none 0 0 ∧ Ir xs = []) ∨
     ∃ a cap, v = .slice (some a) (Ir xs).length cap ∧ (Ir xs).length ≤ cap ∧
       (Ir xs ≠ [] → a.spot = none ∧ a.block < w.heap.size ∧ ok a.block) ∧
       ∀ i x, (Ir xs)[i]? = some x → bU w ok r a.block (a.off + i * r.width) x
def bU (w : World) (ok : Nat → Prop) : (r : RT) → (b off : Nat) → ak r → Prop
 | .nil, _, _, _ => True
 | .cons t r, b, off, x => (∃ v, w.cell? ⟨b, off, none⟩ = some v ∧ bE w ok t v x.1) ∧ bU w ok r b (off + 1) x.2
end
theorem lO (w : World) (ok : Nat → Prop) (r : RT) (v : Value) (xs : List (ak r)) : bE w ok (.sl r) v xs ↔
   ((v = .slice none 0 0 ∧ xs = []) ∨ ∃ a cap, v = .slice (some a) xs.length cap ∧ xs.length ≤ cap ∧
       (xs ≠ [] → a.spot = none ∧ a.block < w.heap.size ∧ ok a.block) ∧ ∀ i x, xs[i]? = some x → bU w ok r a.block (a.off + i * r.width) x) := by
 have := bE.eq_4 w ok v r xs; exact this ▸ Iff.rfl
theorem oK {w : World} {ok : Nat → Prop} {k : IntKind} {v : Value} {n : Int} : bE w ok (.int k) v n ↔ v = .int k n := bE.eq_1 w ok v k n ▸ Iff.rfl
theorem pY {w : World} {ok : Nat → Prop} {v : Value} {b : Bool} : bE w ok .bool v b ↔ v = .bool b := bE.eq_2 w ok v b ▸ Iff.rfl
theorem tk {w : World} {ok : Nat → Prop} {v : Value} {s : ByteArray} : bE w ok .str v s ↔ v = .string s := bE.eq_3 w ok v s ▸ Iff.rfl
structure gI (w w' : World) (ok wU : Nat → Prop) : Prop where
 size : w.heap.size ≤ w'.heap.size
 block : ∀ b, b < w.heap.size → ok b → w'.heap[b]? = w.heap[b]?
 ok : ∀ b, b < w.heap.size → ok b → wU b
theorem Is {w : World} {a : Addr} {v : Value} (h : w.cell? a = some v) : a.block < w.heap.size := World.block_lt_of_cell? w a h
mutual
theorem bE.stays {w w' : World} {ok wU : Nat → Prop} (h : gI w w' ok wU) : (t : Ty) → (v : Value) → (x : den t) → bE w ok t v x → bE w' wU t v x
 | .int _, _, _, hr => by unfold bE at hr ⊢; exact hr
 | .bool, _, _, hr => by unfold bE at hr ⊢; exact hr
 | .str, _, _, hr => by unfold bE at hr ⊢; exact hr
 | .sl r, v, xs, hr => by
   unfold bE at hr ⊢; rcases hr with hr | ⟨a, cap, hv, hc, ha, hx⟩
   · exact .inl hr
   · refine .inr ⟨a, cap, hv, hc, fun fm => ?_, fun i x hi => ?_⟩
     · obtain ⟨hs, hb, fh⟩ := ha fm; exact ⟨hs, Nat.lt_of_lt_of_le hb h.size, h.ok _ hb fh⟩
     · have fm : Ir xs ≠ [] := by intro e; rw [e] at hi; simp at hi
       obtain ⟨hs, hb, fh⟩ := ha fm; exact bU.stays h r _ _ x (h.block _ hb fh) (hx i x hi)
theorem bU.stays {w w' : World} {ok wU : Nat → Prop} (h : gI w w' ok wU) : (r : RT) → (b off : Nat) → (x : ak r) → w'.heap[b]? = w.heap[b]? → bU w ok r b off x → bU w' wU r b off x
 | .nil, _, _, _, _, _ => by unfold bU; trivial
 | .cons t r, b, off, x, fh, hr => by
   unfold bU at hr ⊢; obtain ⟨⟨v, hv, hx⟩, hr⟩ := hr; refine ⟨⟨v, ?_, bE.stays h t v x.1 hx⟩, bU.stays h r b (off + 1) x.2 fh hr⟩; rw [World.cell?_of_block (w := w) fh]; exact hv
end
inductive Loc where
 | nil
 | at (b off cap : Nat)
structure Cz where
 bx : Nat → Nat
 lc : Nat → Nat → Loc
 own : Nat → Option Lb
def Cz.ok (c : Cz) (b : Nat) : Prop := c.own b = none
def fK (st : St) (s : Nat) : Nat := match nth st s with | some x => x.bg | none => 0
def cM (st : St) (s : Nat) : Nat := match nth st s with | some x => x.ag | none => 0
def gP (l : Loc) (W lo n : Nat) (v : Value) : Prop :=
 match l with
 | .nil => v = .slice none 0 0 ∧ n = 0
 | .at b off cap => ∃ a c, v = .slice (some a) n c ∧ n ≤ c ∧ lo + c ≤ cap ∧ (c ≠ 0 → a = ⟨b, off + lo * W, none⟩)
mutual
def cN (w : World) (P : List Nat → Nat → Prop) : (t : Ty) → (p : List Nat) → Value → den t → Prop
 | .int k, _, v, n => v = .int k n
 | .bool, _, v, b => v = .bool b
 | .str, _, v, s => v = .string s
 | .sl r, p, v, xs => ∃ lc : Loc, gP lc r.width 0 (Ir xs).length v ∧ v.oneCell' = true ∧ ((lc = .nil ∧ Ir xs = []) ∨ ∃ b off cap, lc = .at b off cap ∧
     P p b ∧ (Ir xs).length ≤ cap ∧ (∃ cur ty, w.heap[b]? = some (.cells cur ty (0, 0)) ∧ off + cap * r.width ≤ cur.size) ∧
       ∀ i x, (Ir xs)[i]? = some x → fp w P r (p ++ [i]) 0 b (off + i * r.width) x)
def fp (w : World) (P : List Nat → Nat → Prop) : (r : RT) → (p : List Nat) → (k b off : Nat) → ak r → Prop
 | .nil, _, _, _, _, _ => True
 | .cons t r, p, k, b, off, x => (∃ v, w.cell? ⟨b, off, none⟩ = some v ∧ cN w P t (p ++ [k]) v x.1) ∧ fp w P r p (k + 1) b (off + 1) x.2
end
theorem tl (w : World) (P : List Nat → Nat → Prop) (r : RT) (p : List Nat) (v : Value) (xs : List (ak r)) : cN w P (.sl r) p v xs ↔
   ∃ lc : Loc, gP lc r.width 0 xs.length v ∧ v.oneCell' = true ∧ ((lc = .nil ∧ xs = []) ∨ ∃ b off cap, lc = .at b off cap ∧
     P p b ∧ xs.length ≤ cap ∧ (∃ cur ty, w.heap[b]? = some (.cells cur ty (0, 0)) ∧ off + cap * r.width ≤ cur.size) ∧
       ∀ (i : Nat) x, xs[i]? = some x → fp w P r (p ++ [i]) 0 b (off + i * r.width) x) := by
 have := cN.eq_4 w P p v r xs; exact this ▸ Iff.rfl
theorem vC {w : World} {P : List Nat → Nat → Prop} {k : IntKind} {p : List Nat} {v : Value} {n : Int} : cN w P (.int k) p v n ↔ v = .int k n := cN.eq_1 w P p v k n ▸ Iff.rfl
theorem ru {w : World} {P : List Nat → Nat → Prop} {p : List Nat} {v : Value} {n : Bool} : cN w P .bool p v n ↔ v = .bool n := cN.eq_2 w P p v n ▸ Iff.rfl
theorem vD {w : World} {P : List Nat → Nat → Prop} {p : List Nat} {v : Value} {n : ByteArray} : cN w P .str p v n ↔ v = .string n := cN.eq_3 w P p v n ▸ Iff.rfl
mutual
theorem cN.go {w w' : World} {P P' : List Nat → Nat → Prop} : (t : Ty) → (p p' : List Nat) → (hP : ∀ q b, P (p ++ q) b → w'.heap[b]? = w.heap[b]? ∧ P' (p' ++ q) b) → (v : Value) → (x : den t) → cN w P t p v x → cN w' P' t p' v x
 | .int _, _, _, _, _, _, h => by unfold cN at h ⊢; exact h
 | .bool, _, _, _, _, _, h => by unfold cN at h ⊢; exact h
 | .str, _, _, _, _, _, h => by unfold cN at h ⊢; exact h
 | .sl r, p, p', hP, v, xs, h => by
   unfold cN at h ⊢; obtain ⟨lc, h1, h0, h2⟩ := h; refine ⟨lc, h1, h0, h2.imp id ?_⟩
   rintro ⟨b, off, cap, e, h3, h4, ⟨cur, ty, h5, h6⟩, h7⟩
   obtain ⟨hw, hb⟩ := hP [] b (by simpa using h3); refine ⟨b, off, cap, e, by simpa using hb, h4, ⟨cur, ty, by rw [hw]; exact h5, h6⟩, fun i x hx => fp.go r (p ++ [i]) (p' ++ [i]) (fun q k hk => ?_) 0 b _ x hw (h7 i x hx)⟩; have := hP ([i] ++ q) k (by rw [← List.append_assoc]; exact hk); rw [← List.append_assoc] at this; exact this
theorem fp.go {w w' : World} {P P' : List Nat → Nat → Prop} : (r : RT) → (p p' : List Nat) → (hP : ∀ q b, P (p ++ q) b → w'.heap[b]? = w.heap[b]? ∧ P' (p' ++ q) b) → (k b off : Nat) → (x : ak r) → w'.heap[b]? = w.heap[b]? → fp w P r p k b off x → fp w' P' r p' k b off x
 | .nil, _, _, _, _, _, _, _, _, _ => by unfold fp; trivial
 | .cons t r, p, p', hP, k, b, off, x, hw, h => by
   unfold fp at h ⊢; obtain ⟨⟨v, h1, h2⟩, h3⟩ := h; refine ⟨⟨v, by rw [World.cell?_of_block (w := w) hw]; exact h1, cN.go t (p ++ [k]) (p' ++ [k]) (fun q b hb => ?_) v x.1 h2⟩, fp.go r p p' hP (k + 1) b (off + 1) x.2 hw h3⟩; have := hP ([k] ++ q) b (by rw [← List.append_assoc]; exact hb); rw [← List.append_assoc] at this; exact this
end
theorem GC {lc : Loc} {W lo n : Nat} {v : Value} (h : gP lc W lo n v) : (v = .slice none 0 0 ∧ n = 0) ∨ ∃ b off cap a c, lc = .at b off cap ∧ v = .slice (some a) n c ∧ n ≤ c ∧ lo + c ≤ cap ∧ (c ≠ 0 → a = ⟨b, off + lo * W, none⟩) := by
 cases lc with
 | nil => exact .inl h
 | «at» b off cap =>
   obtain ⟨a, c, h1, h2, h3, h4⟩ := h; exact .inr ⟨b, off, cap, a, c, rfl, h1, h2, h3, h4⟩
mutual
theorem cN.rep {w : World} {P : List Nat → Nat → Prop} {ok : Nat → Prop} (hP : ∀ p b, P p b → ok b) : (t : Ty) → (p : List Nat) → (v : Value) → (x : den t) → cN w P t p v x → bE w ok t v x
 | .int _, _, _, _, h => by unfold cN at h; unfold bE; exact h
 | .bool, _, _, _, h => by unfold cN at h; unfold bE; exact h
 | .str, _, _, _, h => by unfold cN at h; unfold bE; exact h
 | .sl r, p, v, xs, h => by
   unfold cN at h; unfold bE; obtain ⟨lc, h1, h0, h2⟩ := h; rcases GC h1 with ⟨e1, e2⟩ | ⟨b, off, cap, a, c, e1, e2, e3, e4, e5⟩
   · exact .inl ⟨e1, List.length_eq_zero_iff.1 e2⟩
   · rcases h2 with ⟨e, _⟩ | ⟨b', YB, GD, e, h3, h4, ⟨cur, ty, h5, h6⟩, h7⟩
     · rw [e] at e1; cases e1
     · rw [e] at e1; injection e1 with q1 q2 q3; subst q1 q2 q3; have fm : Ir xs ≠ [] → a = ⟨b', YB, none⟩ := by
         intro fm; have := List.length_pos_iff.2 fm; have := e5 (by omega); simpa using this
       refine .inr ⟨a, c, e2, e3, fun hn => ?_, fun i x hx => ?_⟩
       · rw [fm hn]; exact ⟨rfl, (Array.getElem?_eq_some_iff.1 h5).1, hP _ _ h3⟩
       · rw [fm (by intro e; rw [e] at hx; simp at hx)]; exact fp.rep hP r _ 0 b' _ x (h7 i x hx)
theorem fp.rep {w : World} {P : List Nat → Nat → Prop} {ok : Nat → Prop} (hP : ∀ p b, P p b → ok b) : (r : RT) → (p : List Nat) → (k b off : Nat) → (x : ak r) → fp w P r p k b off x → bU w ok r b off x
 | .nil, _, _, _, _, _, _ => by unfold bU; trivial
 | .cons t r, p, k, b, off, x, h => by
   unfold fp at h; unfold bU; obtain ⟨⟨v, h1, h2⟩, h3⟩ := h; exact ⟨⟨v, h1, cN.rep hP t _ v x.1 h2⟩, fp.rep hP r p (k + 1) b (off + 1) x.2 h3⟩
end
def bj (c : Cz) (w : World) (l : Lb) (A : fL) (b off : Nat) : Prop :=
 match A.md with
 | .sh => ∀ (i : Nat) x, A.xs[i]? = some x → bU w c.ok A.r b (off + i * A.r.width) x
 | .dp => ∃ g : Nat → List Nat, g b = [] ∧ ∀ (i : Nat) x, A.xs[i]? = some x → fp w (fun p k => c.own k = some l ∧ g k = p) A.r [i] 0 b (off + i * A.r.width) x
 | .ho q => A.own = true → ∃ g : Nat → List Nat, g b = [] ∧ ∀ (i : Nat) x, i ≠ q → A.xs[i]? = some x → fp w (fun p k => c.own k = some l ∧ g k = p) A.r [i] 0 b (off + i * A.r.width) x
theorem bj.go {c c' : Cz} {w w' : World} {l l' : Lb} {A : fL} {b off : Nat} (h : bj c w l A b off) (hs : A.md = .sh → gI w w' c.ok c'.ok) (hb : w'.heap[b]? = w.heap[b]?)
   (hd : A.md ≠ .sh → ∀ k, c.own k = some l → w'.heap[k]? = w.heap[k]? ∧ c'.own k = some l') : bj c' w' l' A b off := by
 unfold bj at h ⊢
 cases hm : A.md with
 | sh => rw [hm] at h; exact fun i x hx => bU.stays (hs hm) _ _ _ _ hb (h i x hx)
 | dp =>
   rw [hm] at h; obtain ⟨g, h1, h2⟩ := h; exact ⟨g, h1, fun i x hx => fp.go _ [i] [i] (fun q k hk => ⟨(hd (by rw [hm]; simp) k hk.1).1, (hd (by rw [hm]; simp) k hk.1).2, hk.2⟩) _ _ _ _ hb (h2 i x hx)⟩
 | ho q =>
   rw [hm] at h; intro ho; obtain ⟨g, h1, h2⟩ := h ho; exact ⟨g, h1, fun i x hq hx => fp.go _ [i] [i] (fun q k hk => ⟨(hd (by rw [hm]; simp) k hk.1).1, (hd (by rw [hm]; simp) k hk.1).2, hk.2⟩) _ _ _ _ hb (h2 i x hq hx)⟩
theorem bj.sh {c : Cz} {w : World} {l : Lb} {A : fL} {b off : Nat} (hm : A.md = .sh) : bj c w l A b off ↔ ∀ (i : Nat) x, A.xs[i]? = some x → bU w c.ok A.r b (off + i * A.r.width) x := by
 unfold bj; rw [hm]
def Cr (w : World) (ok : Nat → Prop) (r : RT) (v : Value) (xs : List (ak r)) : Prop :=
 ∃ b o, v = .pointer (some ⟨b, o, none⟩) ∧ b < w.heap.size ∧ ok b ∧ ∀ x, xs[0]? = some x → bU w ok r b o x
def rz (w : World) (ok : Nat → Prop) : (rs : RT) → List Value → ak rs → Prop
 | .nil, vs, _ => vs = []
 | .cons (.sl r) rs, vs, x => ∃ v l, vs = v :: l ∧ Cr w ok r v (Ir x.1) ∧ rz w ok rs l x.2
 | .cons _ _, _, _ => False
def FnAt (w : World) (ok : Nat → Prop) (g : Nat) (rs : RT) (v : Value) (xs : List (ak rs)) : Prop :=
 ∃ uX, v = .func (.func g) #[] uX ∧ ∀ x, xs[0]? = some x → rz w ok rs uX.toList x
theorem Cr.stays {w w' : World} {ok wU : Nat → Prop} (h : gI w w' ok wU) {r : RT} {v : Value} {xs : List (ak r)} (hp : Cr w ok r v xs) : Cr w' wU r v xs := by
 obtain ⟨b, o, h1, h2, h3, h4⟩ := hp; exact ⟨b, o, h1, Nat.lt_of_lt_of_le h2 h.size, h.ok b h2 h3, fun x hx => bU.stays h r b o x (h.block b h2 h3) (h4 x hx)⟩
theorem rz.stays {w w' : World} {ok wU : Nat → Prop} (h : gI w w' ok wU) : (rs : RT) → (vs : List Value) → (x : ak rs) → rz w ok rs vs x → rz w' wU rs vs x
 | .nil, _, _, hc => hc
 | .cons (.sl r) rs, vs, x, hc => by
   obtain ⟨v, l, h1, h2, h3⟩ := hc; exact ⟨v, l, h1, h2.stays h, rz.stays h rs l x.2 h3⟩
 | .cons (.int _) _, _, _, hc => hc.elim
 | .cons .bool _, _, _, hc => hc.elim
 | .cons .str _, _, _, hc => hc.elim
theorem FnAt.stays {w w' : World} {ok wU : Nat → Prop} (h : gI w w' ok wU) {g : Nat} {rs : RT} {v : Value} {xs : List (ak rs)} (hf : FnAt w ok g rs v xs) : FnAt w' wU g rs v xs := by
 obtain ⟨uX, h1, h2⟩ := hf; exact ⟨uX, h1, fun x hx => rz.stays h rs _ x (h2 x hx)⟩
def iv (c : Cz) (st : St) (w : World) : CV → Value → Prop
 | .bad, _ => True
 | .int k n, v => v = .int k n
 | .bool b, v => v = .bool b
 | .str s, v => v = .string s
 | .dq, v => v = .slice none 0 0
 | .Gt, v => v = .pointer none
 | .shr r xs, v => bE w c.ok (.sl r) v xs
 | .nn r xs, v => bE w c.ok (.sl r) v xs ∧ v ≠ .slice none 0 0
 | .ref a j g vw, v => v.oneCell' = true ∧ g ≤ cM st a ∧ ∀ A, aQ st a j g = some A → gP (c.lc a j) A.r.width vw.lo (vw.app A.xs).length v
 | .ptr b g off, v => v.oneCell' = true ∧ g ≤ fK st b ∧ ∀ cs, de st b g = some cs → v = .pointer (some ⟨c.bx b, off, none⟩)
 | .I9 a j g i off, v => v.oneCell' = true ∧ g ≤ cM st a ∧ ∀ A, aQ st a j g = some A → i < A.xs.length ∧ ∃ b o cap, c.lc a j = .at b o cap ∧ v = .pointer (some ⟨b, o + i * A.r.width + off, none⟩)
 | .ke r x off, v => ∃ b o, v = .pointer (some ⟨b, o + off, none⟩) ∧ b < w.heap.size ∧ c.ok b ∧ bU w c.ok r b o x
 | .qi r xs off, v => ∃ b o, v = .pointer (some ⟨b, o + off, none⟩) ∧ b < w.heap.size ∧ c.ok b ∧ ∀ x, xs[0]? = some x → bU w c.ok r b o x
 | .fn g rs xs, v => FnAt w c.ok g rs v xs
 | .mX a j g e i k q ys, v => v.oneCell' = true ∧ g ≤ cM st a ∧ e ≤ kW st a ∧ ∀ A, aQ st a j g = some A → kW st a = e →
     A.md = .dp ∧ (∃ x, A.xs[i]? = some x ∧ nQ A.r x k = some ⟨q, ys⟩) ∧ ∃ b o cap, c.lc a j = .at b o cap ∧ w.cell? ⟨b, o + i * A.r.width + k, none⟩ = some v
def ew (c : Cz) (st : St) (w : World) (cs : List CV) (vs : List Value) : Prop :=
 cs.length = vs.length ∧ ∀ (i : Nat) x v, cs[i]? = some x → vs[i]? = some v → iv c st w x v
def wV (c : Cz) (st : St) (w : World) : V → Value → Prop
 | .one x, v => iv c st w x v
 | .agg cs, v => ∃ vs, v = .agg vs ∧ ew c st w cs vs.toList
 | .kX _, _ => False
def ea (c : Cz) (st : St) (w : World) : V → Value → Prop
 | .kX us, v => ∃ vs, v = .tuple vs ∧ us.length = vs.size ∧ ∀ (i : Nat) x y, us[i]? = some x → vs[i]? = some y → wV c st w x y
 | x, v => wV c st w x v
def tn (c : Cz) (st : St) (w : World) (s : Nat) (cs : List CV) : Prop :=
 c.own (c.bx s) = some (.box s) ∧ ∃ vs ty, w.heap[c.bx s]? = some (.cells vs ty (0, 0)) ∧ ew c st w cs vs.toList
def bF (c : Cz) (w : World) (s j : Nat) (A : fL) : Prop :=
 match c.lc s j with
 | .nil => A.xs = []
 | .at b off cap => (match A.own with | true => c.own b = some (.sp s j) | false => c.own b = none) ∧ A.xs.length ≤ cap ∧
     (∃ cur ty, w.heap[b]? = some (.cells cur ty (0, 0)) ∧ off + cap * A.r.width ≤ cur.size) ∧
     bj c w (.sp s j) A b off
inductive Jc where
 | arr (a j g W n : Nat) (l : Loc)
 | box (b g lP : Nat)
def Og (c : Cz) (st : St) : Jc → Prop
 | .arr a j g W n l => g ≤ cM st a ∧ ∀ A, aQ st a j g = some A → A.r.width = W ∧ A.xs.length = n ∧ c.lc a j = l
 | .box b g lP => g ≤ fK st b ∧ ∀ cs, de st b g = some cs → c.bx b = lP
structure Mu where
 m : Nat → Prop
 ok : Nat → Prop
 an : List Jc
structure Rel (w0 : World) (mu : Mu) (c : Cz) (st : St) (a : Act) (w : World) : Prop where
 eR : ∀ t, ea c st w (bI st t) (a.eval (.tmp t))
 boxes : ∀ s sl cs, nth st s = some sl → sl.box = some cs → tn c st w s cs
 aJ : ∀ s j sl A, nth st s = some sl → nth sl.aJ j = some (some A) → bF c w s j A
 owned : ∀ b l, c.own b = some l → b < w.heap.size ∧ (l = .out ∨ w0.heap.size ≤ b ∨ mu.m b)
 free : ∀ b, b < w0.heap.size → c.own b = none → mu.m b ∨ mu.ok b
 kept : w.os = w0.os ∧ w.tape = w0.tape ∧ w.output = w0.output ∧ w0.heap.size ≤ w.heap.size
 old : ∀ k, k < w0.heap.size → ¬ mu.m k → w.heap[k]? = w0.heap[k]?
 plain : a.defers = []
 dO : ∀ p ∈ mu.an, Og c st p
end Go.TM
namespace Go.TM
open Go Go.RowKit
theorem aD {α : Type} {b : Bool} {x : Option α} {y : α} (h : (bif b then x else none) = some y) : b = true ∧ x = some y := by
 cases b
 · simp at h
 · exact ⟨rfl, h⟩
theorem cW {b : Bool} {x : N} {y : St} (h : (bif b then x else N.fail).val = some y) : b = true ∧ x.val = some y := by
 cases b
 · simp [N.val] at h
 · exact ⟨rfl, h⟩
theorem a7 {st : St} {a j g : Nat} {A : fL} (h : aQ st a j g = some A) : ∃ sl, nth st a = some sl ∧ sl.ag = g ∧ nth sl.aJ j = some (some A) := by
 unfold aQ at h
 cases hs : nth st a with
 | none => simp [hs] at h
 | some sl =>
   simp only [hs] at h; obtain ⟨h1, h2⟩ := aD h; refine ⟨sl, rfl, Nat.eq_of_beq_eq_true h1, ?_⟩
   cases hj : nth sl.aJ j with
   | none => simp [hj] at h2
   | some o => cases o with
     | none => simp [hj] at h2
     | some B => simp [hj] at h2; rw [h2]
theorem fN {st : St} {b g : Nat} {cs : List CV} (h : de st b g = some cs) : ∃ sl, nth st b = some sl ∧ sl.bg = g ∧ sl.box = some cs := by
 unfold de at h
 cases hs : nth st b with
 | none => simp [hs] at h
 | some sl =>
   simp only [hs] at h; obtain ⟨h1, h2⟩ := aD h; exact ⟨sl, rfl, Nat.eq_of_beq_eq_true h1, h2⟩
theorem View.GF {r s : RT} (w : View) (xs : List (ak r)) (ys : List (ak s)) (h : xs.length = ys.length) : (w.app xs).length = (w.app ys).length := by
 cases w <;> simp [View.app, h]
structure Fw (c : Cz) (st : St) (w : World) (c' : Cz) (aP : St) (w' : World) : Prop where
 stays : gI w w' c.ok c'.ok
 refs : ∀ a j g A', g ≤ cM st a → aQ aP a j g = some A' → ∃ A, aQ st a j g = some A ∧ A'.r.width = A.r.width ∧ A'.xs.length = A.xs.length ∧ c'.lc a j = c.lc a j ∧
   (kW aP a = kW st a → A' = A ∧ ∀ b o cap, c.lc a j = .at b o cap → w'.heap[b]? = w.heap[b]?)
 zM : ∀ b g lI, g ≤ fK st b → de aP b g = some lI → (∃ cs, de st b g = some cs) ∧ c'.bx b = c.bx b
 gA : ∀ a, cM st a ≤ cM aP a
 gB : ∀ b, fK st b ≤ fK aP b
 gE : ∀ a, kW st a ≤ kW aP a
theorem Fw.K8 {c : Cz} {st : St} {w : World} {c' : Cz} {aP : St} {w' : World} (h : Fw c st w c' aP w') {x : CV} {v : Value} (hr : iv c st w x v) : iv c' aP w' x v := by
 cases x with
 | bad => trivial
 | int k n => exact hr
 | bool b => exact hr
 | str s => exact hr
 | dq => exact hr
 | Gt => exact hr
 | shr r xs => exact bE.stays h.stays _ _ _ hr
 | nn r xs => exact ⟨bE.stays h.stays _ _ _ hr.1, hr.2⟩
 | ref a j g vw =>
   refine ⟨hr.1, Nat.le_trans hr.2.1 (h.gA a), fun A' dP => ?_⟩; obtain ⟨A, hA, hw, hl, fO, _⟩ := h.refs a j g A' hr.2.1 dP; have := hr.2.2 A hA; rw [fO, hw, View.GF vw A'.xs A.xs hl]; exact this
 | ptr b g off =>
   refine ⟨hr.1, Nat.le_trans hr.2.1 (h.gB b), fun cs tp => ?_⟩; obtain ⟨⟨KP, h0⟩, hb⟩ := h.zM b g cs hr.2.1 tp; rw [hb]; exact hr.2.2 KP h0
 | I9 a j g i off =>
   refine ⟨hr.1, Nat.le_trans hr.2.1 (h.gA a), fun A' dP => ?_⟩; obtain ⟨A, hA, hw, hl, fO, _⟩ := h.refs a j g A' hr.2.1 dP; have := hr.2.2 A hA; rw [fO, hw, hl]; exact this
 | mX a j g e i k q ys =>
   obtain ⟨h1, h2, h3, h4⟩ := hr; refine ⟨h1, Nat.le_trans h2 (h.gA a), Nat.le_trans h3 (h.gE a), fun A' dP he => ?_⟩; obtain ⟨A, hA, hw, hl, fO, hs⟩ := h.refs a j g A' h2 dP; have QQ : kW aP a = kW st a := by have := h.gE a; omega
   obtain ⟨rfl, hb⟩ := hs QQ; obtain ⟨k1, k2, b, o, cap, k3, k4⟩ := h4 A' hA (by omega); exact ⟨k1, k2, b, o, cap, by rw [fO]; exact k3, by rw [World.cell?_of_block (w := w) (hb b o cap k3)]; exact k4⟩
 | ke r x off =>
   obtain ⟨b, o, hv, hb, fh, hx⟩ := hr; exact ⟨b, o, hv, Nat.lt_of_lt_of_le hb h.stays.size, h.stays.ok b hb fh, bU.stays h.stays r b o x (h.stays.block b hb fh) hx⟩
 | qi r xs off =>
   obtain ⟨b, o, hv, hb, fh, hx⟩ := hr; exact ⟨b, o, hv, Nat.lt_of_lt_of_le hb h.stays.size, h.stays.ok b hb fh, fun x ra => bU.stays h.stays r b o x (h.stays.block b hb fh) (hx x ra)⟩
 | fn g rs xs => exact FnAt.stays h.stays hr
theorem Fw.Oh {c : Cz} {st : St} {w : World} {c' : Cz} {aP : St} {w' : World} (h : Fw c st w c' aP w') {cs : List CV} {vs : List Value} (hr : ew c st w cs vs) : ew c' aP w' cs vs :=
 ⟨hr.1, fun i x v hx hv => h.K8 (hr.2 i x v hx hv)⟩
theorem Fw.K9 {c : Cz} {st : St} {w : World} {c' : Cz} {aP : St} {w' : World} (h : Fw c st w c' aP w') {x : V} {v : Value} (hr : wV c st w x v) : wV c' aP w' x v := by
 cases x with
 | one x => exact h.K8 hr
 | agg cs => obtain ⟨vs, hv, hl⟩ := hr; exact ⟨vs, hv, h.Oh hl⟩
 | kX us => exact hr
theorem Fw.la {c : Cz} {st : St} {w : World} {c' : Cz} {aP : St} {w' : World} (h : Fw c st w c' aP w') {x : V} {v : Value} (hr : ea c st w x v) : ea c' aP w' x v := by
 cases x with
 | one x => exact h.K9 (x := .one x) hr
 | agg cs => exact h.K9 (x := .agg cs) hr
 | kX us =>
   obtain ⟨vs, hv, hl, he⟩ := hr; exact ⟨vs, hv, hl, fun i x y hx hy => h.K9 (he i x y hx hy)⟩
theorem Fw.dO {c : Cz} {st : St} {w : World} {c' : Cz} {aP : St} {w' : World} (h : Fw c st w c' aP w') {p : Jc} (hp : Og c st p) : Og c' aP p := by
 cases p with
 | arr a j g W n l =>
   refine ⟨Nat.le_trans hp.1 (h.gA a), fun A' dP => ?_⟩; obtain ⟨A, hA, hw, hl, fO, _⟩ := h.refs a j g A' hp.1 dP; obtain ⟨h1, h2, h3⟩ := hp.2 A hA; exact ⟨hw.trans h1, hl.trans h2, fO.trans h3⟩
 | box b g lP =>
   refine ⟨Nat.le_trans hp.1 (h.gB b), fun cs tp => ?_⟩; obtain ⟨⟨KP, h0⟩, hb⟩ := h.zM b g cs hp.1 tp; exact hb.trans (hp.2 KP h0)
theorem bF.go {c c' : Cz} {w w' : World} {s j : Nat} {A : fL} (h : bF c w s j A) (hs : gI w w' c.ok c'.ok) (hl : c'.lc s j = c.lc s j)
   (hb : ∀ b, c.own b = some (.sp s j) → w'.heap[b]? = w.heap[b]? ∧ c'.own b = c.own b) : bF c' w' s j A := by
 unfold bF at h ⊢; rw [hl]
 cases hc : c.lc s j with
 | nil => simpa [hc] using h
 | «at» b off cap =>
   rw [hc] at h; obtain ⟨h1, h2, ⟨cur, ty, h3, h4⟩, h5⟩ := h; have bQ : b < w.heap.size := (Array.getElem?_eq_some_iff.1 h3).1; have YC : w'.heap[b]? = w.heap[b]? ∧ c'.own b = c.own b := by
     cases ho : A.own with
     | true => rw [ho] at h1; exact hb b h1
     | false => rw [ho] at h1; exact ⟨hs.block b bQ h1, (hs.ok b bQ h1 : c'.own b = none).trans h1.symm⟩
   refine ⟨?_, h2, ⟨cur, ty, by rw [YC.1]; exact h3, h4⟩, h5.go (fun _ => hs) YC.1 (fun _ k hk => ⟨(hb k hk).1, (hb k hk).2.trans hk⟩)⟩; rw [YC.2]; exact h1
theorem tn.go {c : Cz} {st : St} {w : World} {c' : Cz} {aP : St} {w' : World} (h : Fw c st w c' aP w') {s : Nat} {cs : List CV} (hb : tn c st w s cs)
   (hx : c'.bx s = c.bx s) (ho : c'.own (c.bx s) = c.own (c.bx s)) (hw : w'.heap[c.bx s]? = w.heap[c.bx s]?) : tn c' aP w' s cs := by
 obtain ⟨h1, vs, ty, h2, h3⟩ := hb; exact ⟨by rw [hx, ho]; exact h1, vs, ty, by rw [hx, hw]; exact h2, h.Oh h3⟩
theorem Jd (st : St) (d : Option Nat) (v : V) (t : Nat) : bI (aT st d v) t = if d = some t ∧ t < st.length then v else bI st t := by
 cases d with
 | none => simp [aT]
 | some u =>
   unfold bI aT; rw [cQ]
   by_cases h : t = u
   · subst h; simp only [if_true, true_and]
     by_cases hl : t < st.length
     · have : nth st t = some st[t] := by rw [fo]; exact List.getElem?_eq_getElem hl
       simp [this, hl]
     · have : nth st t = none := by rw [fo]; exact List.getElem?_eq_none (by omega)
       simp [this, hl]
   · have : ¬ (some u = some t ∧ t < st.length) := by rintro ⟨e, _⟩; exact h (Option.some.inj e).symm
     rw [if_neg h, if_neg this]
theorem oL (st : St) (d : Option Nat) (v : V) (s : Nat) : ∃ f : Sl → Sl, (∀ x, (f x).box = x.box ∧ (f x).bg = x.bg ∧ (f x).aJ = x.aJ ∧ (f x).ag = x.ag ∧ (f x).ep = x.ep) ∧ nth (aT st d v) s = (nth st s).map f := by
 cases d with
 | none => exact ⟨id, fun _ => ⟨rfl, rfl, rfl, rfl, rfl⟩, by simp [aT]⟩
 | some t =>
   unfold aT
   by_cases h : s = t
   · subst h; exact ⟨fun x => { x with v := v }, fun _ => ⟨rfl, rfl, rfl, rfl, rfl⟩, ia _ _ _⟩
   · exact ⟨id, fun _ => ⟨rfl, rfl, rfl, rfl, rfl⟩, by simp [kr _ _ h]⟩
theorem Je (st : St) (d : Option Nat) (v : V) (a j g : Nat) : aQ (aT st d v) a j g = aQ st a j g := by
 obtain ⟨f, hf, hn⟩ := oL st d v a; unfold aQ; rw [hn]
 cases nth st a with
 | none => rfl
 | some s => obtain ⟨_, _, h3, h4, _⟩ := hf s; simp [h3, h4]
theorem Jf (st : St) (d : Option Nat) (v : V) (b g : Nat) : de (aT st d v) b g = de st b g := by
 obtain ⟨f, hf, hn⟩ := oL st d v b; unfold de; rw [hn]
 cases nth st b with
 | none => rfl
 | some s => obtain ⟨h1, h2, _, _, _⟩ := hf s; simp [h1, h2]
theorem Jg (st : St) (d : Option Nat) (v : V) (a : Nat) : cM (aT st d v) a = cM st a := by
 obtain ⟨f, hf, hn⟩ := oL st d v a; unfold cM; rw [hn]
 cases nth st a with
 | none => rfl
 | some s => exact (hf s).2.2.2.1
theorem La (st : St) (d : Option Nat) (v : V) (a : Nat) : kW (aT st d v) a = kW st a := by
 obtain ⟨f, hf, hn⟩ := oL st d v a; unfold kW; rw [hn]
 cases nth st a with
 | none => rfl
 | some s => exact (hf s).2.2.2.2
theorem Jh (st : St) (d : Option Nat) (v : V) (a : Nat) : fK (aT st d v) a = fK st a := by
 obtain ⟨f, hf, hn⟩ := oL st d v a; unfold fK; rw [hn]
 cases nth st a with
 | none => rfl
 | some s => exact (hf s).2.1
theorem gI.refl (w : World) (ok : Nat → Prop) : gI w w ok ok := ⟨Nat.le_refl _, fun _ _ _ => rfl, fun _ _ h => h⟩
theorem Fw.aT (c : Cz) (st : St) (w : World) (d : Option Nat) (v : V) : Fw c st w c (aT st d v) w where
 stays := gI.refl w _
 refs a j g A' _ h := ⟨A', by rwa [Je] at h, rfl, rfl, rfl, fun _ => ⟨rfl, fun _ _ _ _ => rfl⟩⟩
 zM b g lI _ h := ⟨⟨lI, by rwa [Jf] at h⟩, rfl⟩
 gA a := by rw [Jg]; exact Nat.le_refl _
 gB a := by rw [Jh]; exact Nat.le_refl _
 gE a := by rw [La]; exact Nat.le_refl _
theorem eval_put (a : Act) (d : Option Tmp) (v : Value) (t : Nat) : (a.put d v).eval (.tmp t) = if d = some t ∧ t < a.tmps.size then v else a.eval (.tmp t) := by
 cases d with
 | none => simp [Act.put]
 | some u =>
   simp only [Act.put, Act.eval, Array.getD_eq_getD_getElem?, Array.getElem?_setIfInBounds]
   by_cases h : u = t
   · subst h
     by_cases hl : u < a.tmps.size <;> simp [hl]
   · have : ¬ (some u = some t ∧ t < a.tmps.size) := by rintro ⟨e, _⟩; exact h (Option.some.inj e)
     rw [if_neg this]; simp [h]
theorem Rel.aT {w0 : World} {mu : Mu} {c : Cz} {st : St} {a : Act} {w : World} (h : Rel w0 mu c st a w) {d : Option Nat} {v : V} {u : Value}
   (hv : ea c st w v u) (hd : ∀ t, d = some t → t < a.tmps.size) : Rel w0 mu c (aT st d v) (a.put d u) w where
 eR t := by
   have hg := Fw.aT c st w d v; rw [Jd, eval_put]
   by_cases US : d = some t
   · have := hd t US
     by_cases hl : t < st.length
     · rw [if_pos ⟨US, hl⟩, if_pos ⟨US, this⟩]; exact hg.la hv
     · have e : bI st t = .one .bad := by
         unfold bI; rw [fo, List.getElem?_eq_none (by omega)]
       rw [if_neg (fun h => hl h.2), e]; trivial
   · rw [if_neg (fun h => US h.1), if_neg (fun h => US h.1)]; exact hg.la (h.eR t)
 boxes s sl cs hs hb := by
   obtain ⟨f, hf, hn⟩ := oL st d v s; rw [hn] at hs
   cases hx : nth st s with
   | none => rw [hx] at hs; simp at hs
   | some s0 =>
     rw [hx] at hs; simp at hs; subst hs; rw [(hf s0).1] at hb; exact (h.boxes s s0 cs hx hb).go (Fw.aT c st w d v) rfl rfl rfl
 aJ s j sl A hs hb := by
   obtain ⟨f, hf, hn⟩ := oL st d v s; rw [hn] at hs
   cases hx : nth st s with
   | none => rw [hx] at hs; simp at hs
   | some s0 =>
     rw [hx] at hs; simp at hs; subst hs; rw [(hf s0).2.2.1] at hb; exact h.aJ s j s0 A hx hb
 owned := h.owned
 free := h.free
 kept := h.kept
 old := h.old
 dO p hp := (Fw.aT c st w d v).dO (h.dO p hp)
 plain := by
   have := h.plain
   cases d <;> simpa [Act.put] using this
theorem Rel.qD {w0 : World} {mu : Mu} {c : Cz} {st : St} {a : Act} {w : World} (h : Rel w0 mu c st a w) {s j g : Nat} {A : fL} (hA : aQ st s j g = some A) : bF c w s j A := by
 obtain ⟨sl, h1, _, h3⟩ := a7 hA; exact h.aJ s j sl A h1 h3
theorem bF.lt {c : Cz} {w : World} {s j : Nat} {A : fL} (h : bF c w s j A) {b off cap : Nat} (hl : c.lc s j = .at b off cap) : b < w.heap.size := by
 unfold bF at h; rw [hl] at h; obtain ⟨_, _, ⟨cur, t, h3, _⟩, _⟩ := h; exact (Array.getElem?_eq_some_iff.1 h3).1
end Go.TM
namespace Go.TM
open Go Go.RowKit
def gJ : RT → List Value → Prop
 | .nil, vs => vs = []
 | .cons (.int k) r, vs => ∃ l, vs = .int k 0 :: l ∧ gJ r l
 | .cons .bool r, vs => ∃ l, vs = .bool false :: l ∧ gJ r l
 | .cons .str r, vs => ∃ l, vs = .string ByteArray.empty :: l ∧ gJ r l
 | .cons (.sl _) r, vs => ∃ l, vs = .slice none 0 0 :: l ∧ gJ r l
def descOf : Ty → TypeDesc → Prop
 | .int k, d => d = .int k
 | .bool, d => d = .bool
 | .str, d => d = .string
 | .sl _, _ => False
structure fi (P : Program) (T : jh) : Prop where
 cells : ∀ t n, T.cells t = some n → (P.info? t).map (·.size) = some n
 agg : ∀ t n, T.cells t = some n → ∃ d, P.underlying t = some d ∧ d.isRow = T.agg t ∧ (T.agg t = false → n = 1)
 off : ∀ t f k, T.off t f = some k → ∃ fs Cs n, P.underlying t = some (.struct fs) ∧ fs[f]? = some Cs ∧ Cs.offset = k ∧ (P.info? Cs.type).map (·.size) = some (n + 1)
 bld : ∀ t, T.agg t = true → ∃ fs bL, P.underlying t = some (.struct fs) ∧ fs.toList.mapM (fun f => (P.info? f.type).map fun i => (f.offset, i.size)) = some bL ∧
   ∀ f o s, T.off t f = some o → T.UN t f = some s → bL[f]? = some (o, s)
 row : ∀ t r, T.row t = some r → ∃ i z, P.info? t = some i ∧ i.zero = some z ∧ gJ r z.cells.toList
 elem : ∀ t r b, T.elem t = some (r, b) → ∃ e i z, P.underlying t = some (.slice e) ∧ P.info? e = some i ∧ i.size = r.width ∧ 0 < r.width ∧ i.bytes = b ∧ 0 < b ∧ i.zero = some z ∧ gJ r z.cells.toList
 u8 : ∀ t e b, T.elem t = some (.cons (.int .u8) .nil, b) → P.underlying t = some (.slice e) → P.underlying e = some (.int .u8)
 kind : ∀ t y, T.kind t = some y → ∃ d, P.underlying t = some d ∧ descOf y d
 one : ∀ t f, T.one t f = true → ∃ fs Cs d, P.underlying t = some (.struct fs) ∧ fs[f]? = some Cs ∧ P.underlying Cs.type = some d ∧ d.isRow = false
theorem iv.one {c : Cz} {st : St} {w : World} {x : CV} {v : Value} (h : iv c st w x v) (hs : x.qC = true) : v.oneCell' = true := by
 cases x with
 | bad => simp [CV.qC] at hs
 | int k n => simp only [iv] at h; subst h; rfl
 | bool b => simp only [iv] at h; subst h; rfl
 | str s => simp only [iv] at h; subst h; rfl
 | dq => simp only [iv] at h; subst h; rfl
 | Gt => simp only [iv] at h; subst h; rfl
 | shr r xs =>
   rcases (lO _ _ _ _ _).1 h with ⟨rfl, _⟩ | ⟨a, cap, rfl, _⟩ <;> rfl
 | nn r xs =>
   rcases (lO _ _ _ _ _).1 h.1 with ⟨rfl, _⟩ | ⟨a, cap, rfl, _⟩ <;> rfl
 | ref a j g vw => exact h.1
 | ptr b g off => exact h.1
 | I9 a j g i off => exact h.1
 | ke r x off => obtain ⟨b, o, rfl, _⟩ := h; rfl
 | qi r x off => obtain ⟨b, o, rfl, _⟩ := h; rfl
 | fn g rs xs => obtain ⟨uX, rfl, _⟩ := h; rfl
 | mX a j g e i k q ys => exact h.1
theorem Ji {v : Value} (h : v.oneCell' = true) : v.cells = #[v] := by cases v <;> first | rfl | simp [Value.oneCell'] at h
theorem ea.cells {c : Cz} {st : St} {w : World} {x : V} {v : Value} (h : ea c st w x v) (hs : x.qC = true) :
   ew c st w x.cells v.cells.toList ∧ ∀ u ∈ v.cells.toList, u.oneCell' = true := by
 cases x with
 | one x =>
   have h1 : v.oneCell' = true := iv.one (x := x) h hs; rw [Ji h1]; refine ⟨⟨rfl, fun i y u hy hu => ?_⟩, fun u hu => by simp at hu; rw [hu]; exact h1⟩
   cases i with
   | zero => simp [V.cells] at hy hu; rw [← hy, ← hu]; exact h
   | succ i => simp [V.cells] at hy
 | agg cs =>
   obtain ⟨vs, rfl, hl⟩ := h; refine ⟨hl, fun u hu => ?_⟩; obtain ⟨i, hi, hu⟩ := List.mem_iff_getElem.1 hu; have Oi : i < cs.length := by rw [hl.1]; exact hi
   have := hl.2 i cs[i] u (List.getElem?_eq_getElem Oi) (by rw [← hu]; exact List.getElem?_eq_getElem hi); exact this.one (List.all_eq_true.1 hs _ (List.getElem_mem Oi))
 | kX us => simp [V.qC] at hs
def Cz.gq (c : Cz) (d b : Nat) : Cz :=
 { bx := fun s => if s = d then b else c.bx s, lc := c.lc, own := fun k => if k = b then some (.box d) else c.own k }
theorem tu (w : World) (o : Obj) (ok wU : Nat → Prop) (h : ∀ b, b < w.heap.size → ok b → wU b) : gI w (w.alloc o) ok wU where
 size := by simp
 block b hb _ := heap_alloc_old w o b hb
 ok := h
theorem Rel.m6 {w0 : World} {mu : Mu} {c : Cz} {st : St} {a : Act} {w : World} (h : Rel w0 mu c st a w) {b : Nat} {l : Lb} (hb : c.own b = some l) : b < w.heap.size := (h.owned b l hb).1
theorem Rel.gq {w0 : World} {mu : Mu} {c : Cz} {st : St} {a : Act} {w : World} (h : Rel w0 mu c st a w) {d : Nat} {s0 : Sl} {cs : List CV} {vs : Array Value} {ty : TypeId}
   (gm : nth st d = some s0) (hd : d < a.tmps.size) (hl : ew c st w cs vs.toList) :
   Rel w0 mu (c.gq d w.heap.size) (kS (fun s => { s with v := .one (.ptr d (s0.bg + 1) 0), box := some cs, bg := s0.bg + 1 }) st d)
     (a.put (some d) (.pointer (some ⟨w.heap.size, 0, none⟩))) (w.alloc (.cells vs ty (0, 0))) := by
 have hn : ∀ s, nth (kS (fun s => { s with v := .one (.ptr d (s0.bg + 1) 0), box := some cs, bg := s0.bg + 1 }) st d) s =
     if s = d then some { s0 with v := .one (.ptr d (s0.bg + 1) 0), box := some cs, bg := s0.bg + 1 } else nth st s := by
   intro s; rw [cQ]
   by_cases e : s = d
   · subst e; simp [gm]
   · simp [e]
 generalize kS (fun s => { s with v := .one (.ptr d (s0.bg + 1) 0), box := some cs, bg := s0.bg + 1 }) st d = aP at hn ⊢; have fh : ∀ b, b < w.heap.size → c.ok b → (c.gq d w.heap.size).ok b := by
   intro b hb hc; unfold Cz.ok Cz.gq; simp only [if_neg (show b ≠ w.heap.size by omega)]; exact hc
 have hA : ∀ a' j g, aQ aP a' j g = aQ st a' j g := by
   intro a' j g; unfold aQ; rw [hn]
   by_cases e : a' = d
   · subst e; simp [gm]
   · simp [e]
 have YD : ∀ a', cM aP a' = cM st a' := by
   intro a'; unfold cM; rw [hn]
   by_cases e : a' = d
   · subst e; simp [gm]
   · simp [e]
 have fD : Fw c st w (c.gq d w.heap.size) aP (w.alloc (.cells vs ty (0, 0))) := {
   stays := tu w _ _ _ fh
   refs := fun a' j g A' _ dP => ⟨A', by rw [← hA]; exact dP, rfl, rfl, rfl, fun _ => ⟨rfl, fun b o cap fO => by
     exact heap_alloc_old w _ b ((h.qD (g := g) (by rw [← hA]; exact dP)).lt fO)⟩⟩
   zM := fun b g lI hg hb => by
     unfold de at hb ⊢; rw [hn] at hb
     by_cases e : b = d
     · subst e; simp only [if_true] at hb; unfold fK at hg; rw [gm] at hg; have : Nat.beq (s0.bg + 1) g = false := by
         cases hq : Nat.beq (s0.bg + 1) g
         · rfl
         · have := Nat.eq_of_beq_eq_true hq; simp at hg; omega
       simp [this] at hb
     · simp only [e, if_false] at hb; exact ⟨⟨lI, hb⟩, by simp [Cz.gq, e]⟩
   gA := fun a' => by rw [YD]; exact Nat.le_refl _
   gB := fun b => by
     unfold fK; rw [hn]
     by_cases e : b = d
     · subst e; simp [gm]
     · simp [e]
   gE := fun a' => by
     unfold kW; rw [hn]
     by_cases e : a' = d
     · subst e; simp [gm]
     · simp [e] }
 exact {
   eR := fun t => by
     have e1 : bI aP t = if t = d then .one (.ptr d (s0.bg + 1) 0) else bI st t := by
       unfold bI; rw [hn]
       by_cases e : t = d <;> simp [e]
     rw [e1, eval_put]
     by_cases e : t = d
     · subst e; simp only [if_true, true_and, hd]; refine ⟨rfl, ?_, fun lI GG => by simp [Cz.gq]⟩; unfold fK; rw [hn]; simp
     · simp only [e, if_false]; rw [if_neg (fun h => e (Option.some.inj h.1).symm)]; exact fD.la (h.eR t)
   boxes := fun s sl lI hs hb => by
     rw [hn] at hs
     by_cases e : s = d
     · subst e; simp only [if_true, Option.some.injEq] at hs; subst hs; simp only [Option.some.injEq] at hb; subst hb; exact ⟨by simp [Cz.gq], vs, ty, by simp only [Cz.gq, if_true]; exact heap_alloc_new w _, fD.Oh hl⟩
     · simp only [e, if_false] at hs; have QR := h.boxes s sl lI hs hb; have bQ := h.m6 QR.1; exact QR.go fD (by simp [Cz.gq, e]) (by simp only [Cz.gq]; rw [if_neg (by omega)]) (heap_alloc_old w _ _ bQ)
   aJ := fun s j sl A hs dP => by
     rw [hn] at hs; have ha : bF c w s j A := by
       by_cases e : s = d
       · subst e; simp only [if_true, Option.some.injEq] at hs; subst hs; exact h.aJ s j s0 A gm dP
       · simp only [e, if_false] at hs; exact h.aJ s j sl A hs dP
     refine ha.go fD.stays rfl (fun b hb => ?_); have bQ : b < w.heap.size := h.m6 hb; exact ⟨heap_alloc_old w _ b bQ, by simp only [Cz.gq]; rw [if_neg (by omega)]⟩
   owned := fun b l hb => by
     simp only [Cz.gq] at hb
     by_cases e : b = w.heap.size
     · subst e; exact ⟨by simp, .inr (.inl h.kept.2.2.2)⟩
     · rw [if_neg e] at hb; have := h.owned b l hb; exact ⟨Nat.lt_of_lt_of_le this.1 (by simp), this.2⟩
   free := fun b hb h1 => by
     simp only [Cz.gq] at h1
     by_cases e : b = w.heap.size
     · rw [if_pos e] at h1; cases h1
     · rw [if_neg e] at h1; exact h.free b hb h1
   kept := ⟨h.kept.1, h.kept.2.1, h.kept.2.2.1, Nat.le_trans h.kept.2.2.2 (by simp)⟩
   old := fun k hk hm => by
     rw [heap_alloc_old w _ k (Nat.lt_of_lt_of_le hk h.kept.2.2.2)]; exact h.old k hk hm
   dO := fun p hp => fD.dO (h.dO p hp)
   plain := h.plain }
end Go.TM
namespace Go.TM
open Go Go.RowKit
theorem a8 {w0 : World} {mu : Mu} {c : Cz} {st : St} {a : Act} {w : World} (h : Rel w0 mu c st a w) (x : Operand) : ea c st w (jY st x) (a.eval x) := by
 unfold jY
 split <;> first | exact h.eR _ | rfl | trivial
theorem ew.take {c : Cz} {st : St} {w : World} {cs : List CV} {vs : List Value} (h : ew c st w cs vs) (off n : Nat) : ew c st w ((cs.drop off).take n) ((vs.drop off).take n) := by
 refine ⟨by simp [h.1], fun i x v hx hv => ?_⟩; rw [List.getElem?_take] at hx hv
 by_cases hi : i < n
 · rw [if_pos hi, List.getElem?_drop] at hx hv; exact h.2 _ x v hx hv
 · rw [if_neg hi] at hx; simp at hx
theorem jk {n off : Nat} {cs l : List CV} (h : ev n off cs = some l) : l = (cs.drop off).take n ∧ l.length = n := by
 unfold ev at h; obtain ⟨h1, h2⟩ := aD h; have := Option.some.inj h2; subst this; exact ⟨rfl, Nat.eq_of_beq_eq_true h1⟩
def valOf (agg : Bool) (vs : List Value) : Value := if agg then .agg vs.toArray else vs.headD undef
theorem pZ {P : Program} {T : jh} (hT : fi P T) {t n : Nat} (ht : T.cells t = some n) (w : World) (b o : Nat) (vs : List Value) (hv : w.rangeAt b o vs) (hn : vs.length = n) :
   (loadVar t ⟨b, o, none⟩).run P w = .ok (valOf (T.agg t) vs) w := by
 obtain ⟨d, hu, hd, h1⟩ := hT.agg t n ht
 cases hg : T.agg t with
 | true =>
   rw [hg] at hd; have := run_loadVar_mid (P := P) w b o t vs d hv hu hd (by rw [hT.cells t n ht, hn]); simpa [valOf] using this
 | false =>
   have X6 := h1 hg; obtain ⟨v, rfl⟩ : ∃ v, vs = [v] := by
     cases vs with
     | nil => simp at hn; omega
     | cons v l => cases l with
       | nil => exact ⟨v, rfl⟩
       | cons _ _ => simp at hn; omega
   have QS : (isAgg t).run P w = .ok false w := by
     unfold isAgg; rw [Sem.run_bind, run_underlying hu w]; rw [hg] at hd
     cases d <;> simp_all [TypeDesc.isRow]
   have hc : w.cell? ⟨b, o, none⟩ = some v := by have := hv 0 v rfl; simpa using this
   simp [loadVar, Sem.run_bind, QS, valOf, run_load, hc]
theorem Oj {c : Cz} {st : St} {w : World} {T : jh} {t : Nat} {l : List CV} {vs : List Value} (h : ew c st w l vs) (h1 : T.agg t = false → l.length = 1) :
   ea c st w (K2 T t l) (valOf (T.agg t) vs) := by
 unfold K2 valOf
 cases hg : T.agg t with
 | true => exact ⟨vs.toArray, rfl, by simpa using h⟩
 | false =>
   have hl := h1 hg
   cases l with
   | nil => simp at hl
   | cons x l => cases l with
     | cons _ _ => simp at hl
     | nil => cases vs with
       | nil => have := h.1; simp at this
       | cons v vs => exact h.2 0 x v rfl rfl
theorem yH {w : World} {b off : Nat} {vs : Array Value} {ty : TypeId} {fr : Nat × Nat} (h : w.heap[b]? = some (.cells vs ty fr)) (n : Nat) : w.rangeAt b off ((vs.toList.drop off).take n) := by
 intro j v hv; rw [cell_of_row w b (off + j) vs ty fr h]; rw [List.getElem?_take] at hv
 by_cases hj : j < n
 · rw [if_pos hj, List.getElem?_drop] at hv; simpa using hv
 · rw [if_neg hj] at hv; simp at hv
theorem rB {w : World} {c : Cz} {st : St} : (r : RT) → (b off : Nat) → (x : ak r) → bU w c.ok r b off x →
   ∃ vs, vs.length = r.width ∧ w.rangeAt b off vs ∧ ew c st w (dv r x) vs
 | .nil, _, _, _, _ => ⟨[], rfl, fun j v h => by simp at h, rfl, fun i x v h => by simp [dv] at h⟩
 | .cons t r, b, off, x, h => by
   unfold bU at h; obtain ⟨⟨v, hv, hx⟩, hr⟩ := h; obtain ⟨vs, h1, h2, h3, h4⟩ := rB r b (off + 1) x.2 hr; refine ⟨v :: vs, by simp [RT.width, h1], fun j u hu => ?_, by simp [dv, h3], fun i y u hy hu => ?_⟩
   · cases j with
     | zero => simp at hu; rw [← hu]; exact hv
     | succ j =>
       simp at hu; have := h2 j u hu; rw [show off + (j + 1) = off + 1 + j by omega]; exact this
   · cases i with
     | zero =>
       simp [dv] at hy hu; subst hy hu
       cases t with
       | int k => unfold bE at hx; exact hx
       | bool => unfold bE at hx; exact hx
       | str => unfold bE at hx; exact hx
       | sl q => exact hx
     | succ i =>
       simp [dv] at hy hu; exact h4 i y u hy hu
theorem Aa {w : World} {P : List Nat → Nat → Prop} {c : Cz} {st : St} {a j g e i : Nat} {A : fL} {x0 : ak A.r} {bb o cap : Nat} (hA : aQ st a j g = some A) (he : e = kW st a) (hg : g ≤ cM st a) (hm : A.md = .dp) (Lc : A.xs[i]? = some x0) (fO : c.lc a j = .at bb o cap) :
   (r : RT) → (p : List Nat) → (k : Nat) → (x : ak r) → (∀ k', nQ r x k' = nQ A.r x0 (k + k')) → fp w P r p k bb (o + i * A.r.width + k) x →
   ∃ vs, vs.length = r.width ∧ w.rangeAt bb (o + i * A.r.width + k) vs ∧ ew c st w (nW a j g e i k r x) vs
 | .nil, _, _, _, _, _ => ⟨[], rfl, fun j v h => by simp at h, rfl, fun i x v h => by simp [nW] at h⟩
 | .cons t r, p, k, x, hs, h => by
   unfold fp at h; obtain ⟨⟨v, hv, hx⟩, hr⟩ := h; obtain ⟨vs, h1, h2, h3, h4⟩ := Aa hA he hg hm Lc fO r p (k + 1) x.2 (fun k' => by
     rw [show k + 1 + k' = k + (k' + 1) by omega, ← hs]
     cases t <;> rfl) (by rw [show o + i * A.r.width + (k + 1) = o + i * A.r.width + k + 1 by omega]; exact hr)
   refine ⟨v :: vs, by simp [RT.width, h1], fun j u hu => ?_, by simp [nW, h3], fun i' y u hy hu => ?_⟩
   · cases j with
     | zero => simp at hu; rw [← hu]; exact hv
     | succ j =>
       simp at hu; have := h2 j u hu; rw [show o + i * A.r.width + k + (j + 1) = o + i * A.r.width + (k + 1) + j by omega]; exact this
   · cases i' with
     | zero =>
       simp [nW] at hy hu; subst hy hu
       cases t with
       | int k => exact vC.1 hx
       | bool => exact ru.1 hx
       | str => exact vD.1 hx
       | sl q =>
         have hx := (tl _ _ _ _ _ _).1 hx; obtain ⟨lc, _, q1, _⟩ := hx; refine ⟨q1, hg, by rw [he]; exact Nat.le_refl _, fun A' dP _ => ?_⟩; rw [hA] at dP; cases dP; refine ⟨hm, ⟨x0, Lc, ?_⟩, bb, o, cap, fO, hv⟩; have := hs 0; rw [Nat.add_zero] at this; rw [← this]; rfl
     | succ i' =>
       simp [nW] at hy hu; exact h4 i' y u hy hu
theorem p5 {w : World} {b off : Nat} {vs : List Value} (h : w.rangeAt b off vs) (k n : Nat) : w.rangeAt b (off + k) ((vs.drop k).take n) := by
 intro j v hv; rw [List.getElem?_take] at hv
 by_cases hj : j < n
 · rw [if_pos hj, List.getElem?_drop] at hv; rw [Nat.add_assoc]; exact h _ v hv
 · rw [if_neg hj] at hv; simp at hv
def gu (w w' : World) : Prop := w.heap.size ≤ w'.heap.size ∧ ∀ b, b < w.heap.size → w'.heap[b]? = w.heap[b]?
theorem gu.refl (w : World) : gu w w := ⟨Nat.le_refl _, fun _ _ => rfl⟩
theorem gu.trans {w w' UT : World} (h : gu w w') (h' : gu w' UT) : gu w UT :=
 ⟨Nat.le_trans h.1 h'.1, fun b hb => (h'.2 b (Nat.lt_of_lt_of_le hb h.1)).trans (h.2 b hb)⟩
theorem gu.alloc (w : World) (b : Obj) : gu w (w.alloc b) := ⟨by simp, fun k hk => heap_alloc_old w b k hk⟩
theorem gu.range {w w' : World} (h : gu w w') {b o : Nat} {vs : List Value} (hr : w.rangeAt b o vs) : w'.rangeAt b o vs := by
 intro j v hj; have h1 := hr j v hj; rw [World.cell?_of_block (w := w) (h.2 b (Is h1))]; exact h1
theorem Ev {P : Program} {T : jh} (hT : fi P T) {w0 : World} {mu : Mu} {c : Cz} {st : St} {a : Act} {w : World} (h : Rel w0 mu c st a w)
   {d : Option Nat} {t : Nat} {x : V} {u : Value} (hx : ea c st w x u) {aP : St} (hv : (sN T st d t x).val = some aP) (hd : ∀ k, d = some k → k < a.tmps.size) :
   ∃ v, (∀ w' : World, gu w w' → (Instr.loadAt t u).run P w' = .ok v w') ∧ Rel w0 mu c aP (a.put d v) w := by
 have key : ∀ (b o n : Nat) (l : List CV) (vs : List Value), T.cells t = some n → u = .pointer (some ⟨b, o, none⟩) → w.rangeAt b o vs → vs.length = n → ew c st w l vs →
     (N.done (TM.aT st d (K2 T t l))).val = some aP → ∃ v, (∀ w' : World, gu w w' → (Instr.loadAt t u).run P w' = .ok v w') ∧ Rel w0 mu c aP (a.put d v) w := by
   intro b o n l vs hn hu hr hlen hl qk; simp only [N.val, Option.some.injEq] at qk; subst qk; obtain ⟨dd, _, _, h1⟩ := hT.agg t n hn; refine ⟨valOf (T.agg t) vs, fun w' hk => ?_, h.aT (Oj hl (fun hg => by rw [hl.1, hlen]; exact h1 hg)) hd⟩; subst hu; have YE : w'.rangeAt b o vs := hk.range hr; simp only [Instr.loadAt, Instr.sureAddr, Sem.run_bind, Sem.run_pure, Result.andThen_ok, pZ hT hn w' b o vs YE hlen]
 cases hn : T.cells t with
 | none => cases x with
   | one y => cases y <;> simp [sN, hn, N.val] at hv
   | agg _ => simp [sN, N.val] at hv
   | kX _ => simp [sN, N.val] at hv
 | some n => cases x with
   | agg _ => simp [sN, N.val] at hv
   | kX _ => simp [sN, N.val] at hv
   | one y => cases y with
     | bad | int _ _ | bool _ | str _ | dq | Gt | shr _ _ | nn _ _ | ref _ _ _ _ | fn _ _ _ | mX _ _ _ _ _ _ _ _ => simp [sN, N.val] at hv
     | ptr b g off =>
       simp only [sN, hn] at hv
       cases hb : de st b g with
       | none => simp [hb, N.val] at hv
       | some cs =>
         simp only [hb] at hv
         cases zD : ev n off cs with
         | none => simp [zD, N.val] at hv
         | some l =>
           simp only [zD] at hv; obtain ⟨rfl, hlen⟩ := jk zD; obtain ⟨sl, Ab, N3, Ac⟩ := fN hb; obtain ⟨ho, vs, ty, hh, hl⟩ := h.boxes b sl cs Ab Ac; have hu := hx.2.2 cs hb; refine key _ _ n _ ((vs.toList.drop off).take n) hn hu (yH hh n) ?_ (hl.take off n) hv; rw [← (hl.take off n).1]; exact hlen
     | ke r y off =>
       simp only [sN, hn] at hv
       cases zD : ev n off (dv r y) with
       | none => simp [zD, N.val] at hv
       | some l =>
         simp only [zD] at hv; obtain ⟨rfl, hlen⟩ := jk zD; obtain ⟨b, o, hu, bQ, fh, Ew⟩ := hx; obtain ⟨vs, h1, h2, h3⟩ := rB (st := st) r b o y Ew; refine key _ _ n _ ((vs.drop off).take n) hn hu (p5 h2 off n) ?_ (h3.take off n) hv; rw [← (h3.take off n).1]; exact hlen
     | qi r ys off =>
       simp only [sN, hn] at hv
       cases hy : ys[0]? with
       | none => simp [hy, N.val] at hv
       | some y =>
       simp only [hy] at hv; change (match ev n off (dv r y) with | some l => N.done (TM.aT st d (K2 T t l)) | none => N.fail).val = some aP at hv
       cases zD : ev n off (dv r y) with
       | none => simp [zD, N.val] at hv
       | some l =>
         simp only [zD] at hv; obtain ⟨rfl, hlen⟩ := jk zD; obtain ⟨b, o, hu, bQ, fh, Ew⟩ := hx; obtain ⟨vs, h1, h2, h3⟩ := rB (st := st) r b o y (Ew y hy); refine key _ _ n _ ((vs.drop off).take n) hn hu (p5 h2 off n) ?_ (h3.take off n) hv; rw [← (h3.take off n).1]; exact hlen
     | I9 a' j g i off =>
       simp only [sN, hn] at hv
       cases hA : aQ st a' j g with
       | none => simp [hA, N.val] at hv
       | some A =>
         simp only [hA] at hv; obtain ⟨sl, Ab, N3, Ac⟩ := a7 hA; have Ey := h.aJ a' j sl A Ab Ac; obtain ⟨hi, b, o, cap, fO, hu⟩ := hx.2.2 A hA; unfold bF at Ey; rw [fO] at Ey; obtain ⟨_, _, _, eJ⟩ := Ey
         cases hm : A.md with
         | ho _ => rw [hm] at hv; simp [N.val] at hv
         | sh =>
           rw [hm] at hv; simp only at hv
           cases vE : A.xs[i]? with
           | none => simp [vE, N.val] at hv
           | some y =>
             simp only [vE] at hv; change (match ev n off (dv A.r y) with | some l => N.done (TM.aT st d (K2 T t l)) | none => N.fail).val = some aP at hv
             cases zD : ev n off (dv A.r y) with
             | none => simp [zD, N.val] at hv
             | some l =>
               simp only [zD] at hv; obtain ⟨rfl, hlen⟩ := jk zD; obtain ⟨vs, h1, h2, h3⟩ := rB (st := st) A.r b _ y ((bj.sh hm).1 eJ i y vE); refine key _ _ n _ ((vs.drop off).take n) hn hu (p5 h2 off n) ?_ (h3.take off n) hv; rw [← (h3.take off n).1]; exact hlen
         | dp =>
           rw [hm] at hv; simp only at hv
           cases vE : A.xs[i]? with
           | none => simp [vE, N.val] at hv
           | some y =>
             simp only [vE] at hv; change (match ev n off (nW a' j g (kW st a') i 0 A.r y) with | some l => N.done (TM.aT st d (K2 T t l)) | none => N.fail).val = some aP at hv
             cases zD : ev n off (nW a' j g (kW st a') i 0 A.r y) with
             | none => simp [zD, N.val] at hv
             | some l =>
               simp only [zD] at hv; obtain ⟨rfl, hlen⟩ := jk zD; unfold bj at eJ; rw [hm] at eJ; obtain ⟨gg, _, eJ⟩ := eJ; obtain ⟨vs, h1, h2, h3⟩ := Aa (st := st) hA rfl hx.2.1 hm vE fO A.r _ 0 y (fun k' => by rw [Nat.zero_add]) (eJ i y vE); rw [Nat.add_zero] at h2; refine key _ _ n _ ((vs.drop off).take n) hn hu (p5 h2 off n) ?_ (h3.take off n) hv; rw [← (h3.take off n).1]; exact hlen
end Go.TM
namespace Go.TM
open Go Go.RowKit
def b9 (w : World) (ok : Nat → Prop) : (r : RT) → List Value → ak r → Prop
 | .nil, vs, _ => vs = []
 | .cons t r, vs, x => ∃ v l, vs = v :: l ∧ bE w ok t v x.1 ∧ b9 w ok r l x.2
theorem b9.length {w : World} {ok : Nat → Prop} : (r : RT) → (vs : List Value) → (x : ak r) → b9 w ok r vs x → vs.length = r.width
 | .nil, vs, _, h => by simp only [b9] at h; subst h; rfl
 | .cons t r, vs, x, h => by
   obtain ⟨v, l, rfl, _, h⟩ := h; simp [RT.width, b9.length r l x.2 h]
theorem ld {w : World} {ok : Nat → Prop} : (r : RT) → (b off : Nat) → (x : ak r) → (bU w ok r b off x ↔ ∃ vs, w.rangeAt b off vs ∧ b9 w ok r vs x)
 | .nil, _, _, _ => by
   unfold bU; exact ⟨fun _ => ⟨[], fun j v h => by simp at h, rfl⟩, fun _ => trivial⟩
 | .cons t r, b, off, x => by
   unfold bU
   constructor
   · rintro ⟨⟨v, hv, hx⟩, hr⟩
     obtain ⟨vs, h1, h2⟩ := (ld r b (off + 1) x.2).1 hr; refine ⟨v :: vs, fun j u hu => ?_, v, vs, rfl, hx, h2⟩
     cases j with
     | zero => simp at hu; rw [← hu]; exact hv
     | succ j =>
       simp at hu; rw [show off + (j + 1) = off + 1 + j by omega]; exact h1 j u hu
   · rintro ⟨vs, h1, v, l, rfl, hx, h2⟩
     refine ⟨⟨v, h1 0 v rfl, hx⟩, (ld r b (off + 1) x.2).2 ⟨l, fun j u hu => ?_, h2⟩⟩; have := h1 (j + 1) u (by simpa using hu); rw [show off + 1 + j = off + (j + 1) by omega]; exact this
theorem b9.stays {w w' : World} {ok wU : Nat → Prop} (h : gI w w' ok wU) : (r : RT) → (vs : List Value) → (x : ak r) → b9 w ok r vs x → b9 w' wU r vs x
 | .nil, _, _, hr => hr
 | .cons t r, _, x, ⟨v, l, e, hx, hr⟩ => ⟨v, l, e, bE.stays h t v x.1 hx, b9.stays h r l x.2 hr⟩
theorem Ad {w : World} {c : Cz} {st : St} : (r : RT) → (x : ak r) → (k : Nat) → (y : CV) → (z : ak r) → (vs : List Value) → (u : Value) →
   eV r x k y = some z → iv c st w y u → b9 w c.ok r vs x → b9 w c.ok r (vs.set k u) z
 | .nil, _, _, _, _, _, _, h, _, _ => by simp [eV] at h
 | .cons t r, x, 0, y, z, vs, u, h, hu, hv => by
   obtain ⟨v, l, rfl, hx, hr⟩ := hv
   cases t with
   | int k => cases y <;> simp [eV] at h
              obtain ⟨rfl, h⟩ := h; obtain rfl := Option.some.inj h; refine ⟨u, l, rfl, ?_, hr⟩; unfold bE; exact hu
   | bool => cases y <;> simp [eV] at h
             obtain rfl := Option.some.inj h; refine ⟨u, l, rfl, ?_, hr⟩; unfold bE; exact hu
   | str => cases y <;> simp [eV] at h
            obtain rfl := Option.some.inj h; refine ⟨u, l, rfl, ?_, hr⟩; unfold bE; exact hu
   | sl q => cases y <;> simp [eV] at h
 | .cons t r, x, k + 1, y, z, vs, u, h, hu, hv => by
   obtain ⟨v, l, rfl, hx, hr⟩ := hv; have h' : (eV r x.2 k y).map (fun z => ((x.1, z) : ak (.cons t r))) = some z := by cases t <;> (simp only [eV] at h; exact h)
   cases hq : eV r x.2 k y with
   | none => simp [hq] at h'
   | some z' =>
     rw [hq] at h'; obtain rfl := Option.some.inj h'; exact ⟨v, l.set k u, rfl, hx, Ad r x.2 k y z' l u hq hu hr⟩
def bq (vs : List Value) (off : Nat) (us : List Value) : List Value := vs.take off ++ us ++ vs.drop (off + us.length)
theorem yI {vs : List Value} {off : Nat} {u : Value} {us : List Value} (h : off < vs.length) : bq vs off (u :: us) = (bq vs (off + 1) us).set off u := by
 unfold bq; apply List.ext_getElem?; intro k; simp only [List.getElem?_set, List.getElem?_append, List.length_append, List.length_take, List.length_cons, List.getElem?_drop, List.getElem?_cons]
 by_cases h1 : k < off
 · have a1 : min off vs.length = off := by omega
   have a2 : min (off + 1) vs.length = off + 1 := by omega
   have a3 : off ≠ k := by omega
   simp only [a1, a2, a3, if_false, h1, show k < off + (us.length + 1) by omega, show k < off + 1 + us.length by omega, show k < off + 1 by omega, if_true, List.getElem?_take]
 · by_cases h2 : k = off
   · subst h2; have a1 : min k vs.length = k := by omega
     have a2 : min (k + 1) vs.length = k + 1 := by omega
     have a3 : min k vs.length - k = 0 := by omega
     simp [a1, a2, h]; omega
   · have a1 : min off vs.length = off := by omega
     have a2 : min (off + 1) vs.length = off + 1 := by omega
     obtain ⟨m, rfl⟩ : ∃ m, k = off + 1 + m := ⟨k - (off + 1), by omega⟩; have a3 : off ≠ off + 1 + m := by omega
     simp only [a1, a2, a3, if_false, show ¬ off + 1 + m < off by omega, show off + 1 + m - off = m + 1 by omega, show ¬ off + 1 + m < off + 1 by omega, show off + 1 + m - (off + 1) = m by omega,
       Nat.add_one_ne_zero, Nat.add_sub_cancel]
     by_cases h3 : m < us.length
     · rw [if_pos (by omega), if_pos (by omega)]
     · rw [if_neg (by omega), if_neg (by omega)]
       congr 1
       omega
theorem fy {vs : List Value} {off : Nat} {us : List Value} (h : off + us.length ≤ vs.length) : (bq vs off us).length = vs.length := by
 unfold bq; simp; omega
theorem Ae {w : World} {c : Cz} {st : St} (r : RT) (x : ak r) : (off : Nat) → (cs : List CV) → (z : ak r) → (vs us : List Value) → off + us.length ≤ vs.length →
   ji r x off cs = some z → ew c st w cs us → b9 w c.ok r vs x → b9 w c.ok r (bq vs off us) z
 | off, [], z, vs, us, _, h, hl, hv => by
   have : us = [] := by have := hl.1; simp at this; exact List.length_eq_zero_iff.1 this.symm
   subst this; simp [ji] at h; subst h; simp [bq]; exact hv
 | off, y :: l, z, vs, us, hle, h, hl, hv => by
   cases us with
   | nil => have := hl.1; simp at this
   | cons u us =>
     simp only [ji] at h
     cases hq : ji r x (off + 1) l with
     | none => simp [hq] at h
     | some y' =>
       simp only [hq] at h; simp at hle; have ih := Ae r x (off + 1) l y' vs us (by omega) hq ⟨by have := hl.1; simpa using this, fun i a b ha hb => hl.2 (i + 1) a b (by simpa using ha) (by simpa using hb)⟩ hv; rw [yI (by omega)]; exact Ad r y' off y z _ u h (hl.2 0 y u rfl rfl) ih
theorem rC {w : World} {c : Cz} {b : Nat} {l : Lb} (hb : c.own b = some l) (cur : Array Value) : gI w (w.setRow b cur) c.ok c.ok where
 size := by simp [World.setRow]
 block k _ hk := setRow_other w b k cur (fun e => by subst e; unfold Cz.ok at hk; rw [hb] at hk; cases hk)
 ok _ _ h := h
theorem kH {P : Program} {T : jh} (hT : fi P T) {t n : Nat} (ht : T.cells t = some n) (w : World) (b o : Nat) (v : Value) (hn : v.cells.toList.length = n) (h1 : ∀ u ∈ v.cells.toList, u.oneCell' = true)
   {cur : Array Value} {ty : TypeId} (hg : w.heap[b]? = some (.cells cur ty (0, 0))) (hle : o + n ≤ cur.size) :
   (Instr.storeAt t (.pointer (some ⟨b, o, none⟩)) v).run P w = .ok () (w.setRow b (bq cur.toList o v.cells.toList).toArray) := by
 have hs := run_storeCells_at P b o ty v.cells.toList 0 cur w hg (by omega) h1; have hi := hT.cells t n ht
 cases hq : P.info? t with
 | none => simp [hq] at hi
 | some i =>
   have jB : v.cells.size = i.size := by simp [hq] at hi; rw [hi, ← hn]; simp
   simp only [Nat.add_zero] at hs; simp [Instr.storeAt, Instr.sureAddr, storeVar, sizeOf, typeInfo, hq, jB, hs, bq]
end Go.TM
namespace Go.TM
open Go Go.RowKit
theorem View.uG {α : Type} (vw : View) (xs : List α) {i : Nat} {x : α} (h : (vw.app xs)[i]? = some x) : xs[vw.lo + i]? = some x := by
 cases vw with
 | full => simpa [View.app, View.lo] using h
 | «from» lo => simpa [View.app, View.lo, List.getElem?_drop] using h
 | sub lo n =>
   simp only [View.app, View.lo, List.getElem?_take, List.getElem?_drop] at h ⊢
   by_cases hi : i < n
   · rwa [if_pos hi] at h
   · rw [if_neg hi] at h; simp at h
theorem wW {c : Cz} {w : World} {s j : Nat} {A : fL} (h : bF c w s j A) {vw : View} {u : Value} (hu : gP (c.lc s j) A.r.width vw.lo (vw.app A.xs).length u)
   {ok : Nat → Prop} (h1 : ∀ b, c.ok b → ok b) (h2 : ∀ b, A.own = true ∨ A.md = .dp → c.own b = some (.sp s j) → ok b) (uY : A.md.Dj = false) : bE w ok (.sl A.r) u (vw.app A.xs) := by
 rw [lO]
 cases hl : c.lc s j with
 | nil =>
   unfold gP at hu; rw [hl] at hu; obtain ⟨rfl, hn⟩ := hu; exact .inl ⟨rfl, List.length_eq_zero_iff.1 hn⟩
 | «at» b off cap =>
   unfold gP at hu; rw [hl] at hu; obtain ⟨a, k, rfl, hk, wX, ha⟩ := hu; unfold bF at h; rw [hl] at h; obtain ⟨h0, _, ⟨cur, ty, h3, _⟩, h5⟩ := h; have h5 : ∀ (i : Nat) x, A.xs[i]? = some x → bU w ok A.r b (off + i * A.r.width) x := by
     unfold bj at h5
     cases hm : A.md with
     | sh => rw [hm] at h5; exact fun i x hx => bU.stays ⟨Nat.le_refl _, fun _ _ _ => rfl, fun b _ hb => h1 b hb⟩ _ _ _ x rfl (h5 i x hx)
     | dp =>
       rw [hm] at h5; obtain ⟨g, _, h5⟩ := h5; exact fun i x hx => fp.rep (fun p k hk => h2 k (.inr hm) hk.1) _ _ _ _ _ x (h5 i x hx)
     | ho _ => rw [hm] at uY; cases uY
   have hob : ok b := by
     cases ho : A.own with
     | true => rw [ho] at h0; exact h2 b (.inl ho) h0
     | false => rw [ho] at h0; exact h1 b h0
   have hs : gI w w c.ok ok := ⟨Nat.le_refl _, fun _ _ _ => rfl, fun b _ hb => h1 b hb⟩; refine .inr ⟨a, k, rfl, hk, fun fm => ?_, fun i x hi => ?_⟩
   · have : k ≠ 0 := by
       have := List.length_pos_iff.2 fm; omega
     rw [ha this]; exact ⟨rfl, (Array.getElem?_eq_some_iff.1 h3).1, hob⟩
   · have YF : k ≠ 0 := by
       have := (List.getElem?_eq_some_iff.1 hi).1; omega
     rw [ha YF]; have := h5 _ x (View.uG vw A.xs hi); have e : off + vw.lo * A.r.width + i * A.r.width = off + (vw.lo + i) * A.r.width := by rw [Nat.add_mul]; omega
     show bU w ok A.r b (off + vw.lo * A.r.width + i * A.r.width) x; rw [e]; exact this
theorem aX {r s : RT} {xs : List (ak r)} {ys : List (ak s)} (h : bo s xs = some ys) : ∃ e : r = s, ys = e ▸ xs := by
 unfold bo at h
 cases hq : RT.eq? r s with
 | none => simp [hq] at h
 | some p => obtain ⟨e⟩ := p; simp [hq] at h; exact ⟨e, h.symm⟩
def Cz.drop1 (c : Cz) (a j : Nat) : Cz :=
 { c with own := fun k => match c.own k with | some (.sp s i) => if s = a ∧ i = j then none else some (.sp s i) | l => l }
theorem Cz.Af {c : Cz} {a j b : Nat} (h : c.ok b) : (c.drop1 a j).ok b := by
 unfold Cz.ok Cz.drop1 at *; simp [h]
theorem Cz.Ag {c : Cz} {a j b : Nat} (h : c.own b = some (.sp a j)) : (c.drop1 a j).ok b := by
 unfold Cz.ok Cz.drop1; simp [h]
theorem Cz.GH {c : Cz} {a j b : Nat} {l : Lb} (h : (c.drop1 a j).own b = some l) : c.own b = some l := by
 unfold Cz.drop1 at h; simp only at h
 cases hc : c.own b with
 | none => simp [hc] at h
 | some l' => cases l' with
   | box s => simp [hc] at h; rw [h]
   | out => simp [hc] at h; rw [h]
   | bG i k => simp [hc] at h; rw [h]
   | qA i => simp [hc] at h; rw [h]
   | gp k => simp [hc] at h; rw [h]
   | sp s i =>
     simp only [hc] at h
     by_cases e : s = a ∧ i = j
     · simp [e] at h
     · rw [if_neg e] at h; exact h
theorem Cz.oM {c : Cz} {a j b : Nat} {l : Lb} (h : c.own b = some l) (fm : l ≠ .sp a j) : (c.drop1 a j).own b = some l := by
 unfold Cz.drop1; simp only [h]
 cases l with
 | box s => rfl
 | out => rfl
 | bG i k => rfl
 | qA i => rfl
 | gp k => rfl
 | sp s i =>
   simp only; rw [if_neg]
   rintro ⟨rfl, rfl⟩
   exact fm rfl
def ef (st : St) (a j : Nat) : St := kS (fun s => { s with aJ := kS (fun A => A.map fL.fz) s.aJ j, ep := s.ep + 1 }) st a
theorem Ez (st : St) (a j : Nat) (l : List (Nat × Nat)) : freeze st ((a, j) :: l) = freeze (ef st a j) l := rfl
theorem ga (st : St) (a j s : Nat) : ∃ f : Sl → Sl, (∀ x, (f x).v = x.v ∧ (f x).box = x.box ∧ (f x).bg = x.bg ∧ (f x).ag = x.ag ∧
     (∀ i, nth (f x).aJ i = if s = a ∧ i = j then (nth x.aJ i).map (fun A => A.map fL.fz) else nth x.aJ i) ∧ (f x).ep = if s = a then x.ep + 1 else x.ep) ∧ nth (ef st a j) s = (nth st s).map f := by
 unfold ef
 by_cases h : s = a
 · subst h; refine ⟨fun s => { s with aJ := kS (fun A => A.map fL.fz) s.aJ j, ep := s.ep + 1 }, fun x => ⟨rfl, rfl, rfl, rfl, fun i => ?_, by simp⟩, ia _ _ _⟩; simp only [cQ, true_and]
 · refine ⟨id, fun x => ⟨rfl, rfl, rfl, rfl, fun i => ?_, by simp [h]⟩, by rw [kr _ _ h]; simp⟩; simp [h]
theorem yJ (st : St) (a j b : Nat) : kW st b ≤ kW (ef st a j) b ∧ (kW (ef st a j) b = kW st b → b ≠ a ∨ nth st b = none) := by
 obtain ⟨f, hf, hn⟩ := ga st a j b; unfold kW; rw [hn]
 cases hx : nth st b with
 | none => simp
 | some x =>
   simp only [Option.map_some]; rw [(hf x).2.2.2.2.2]
   by_cases e : b = a
   · rw [if_pos e]; exact ⟨by omega, fun h => by omega⟩
   · rw [if_neg e]; exact ⟨Nat.le_refl _, fun _ => .inl e⟩
theorem Ds (st : St) (a j t : Nat) : bI (ef st a j) t = bI st t := by
 obtain ⟨f, hf, hn⟩ := ga st a j t; unfold bI; rw [hn]
 cases nth st t with
 | none => rfl
 | some x => exact (hf x).1
theorem Dt {st : St} {a j a' j' g : Nat} {A' : fL} (h : aQ (ef st a j) a' j' g = some A') : ∃ A, aQ st a' j' g = some A ∧ A'.r.width = A.r.width ∧ A'.xs.length = A.xs.length ∧ (a' ≠ a → A' = A) := by
 obtain ⟨sl, h1, h2, h3⟩ := a7 h; obtain ⟨f, hf, hn⟩ := ga st a j a'; rw [hn] at h1
 cases hx : nth st a' with
 | none => rw [hx] at h1; simp at h1
 | some x =>
   rw [hx] at h1; simp at h1; subst h1; obtain ⟨_, _, _, f4, f5, _⟩ := hf x; rw [f5] at h3; rw [f4] at h2; have key : ∃ A, nth x.aJ j' = some (some A) ∧ A'.r.width = A.r.width ∧ A'.xs.length = A.xs.length ∧ (a' ≠ a → A' = A) := by
     by_cases e : a' = a ∧ j' = j
     · rw [if_pos e] at h3
       cases hj : nth x.aJ j' with
       | none => simp [hj] at h3
       | some o => cases o with
         | none => simp [hj] at h3
         | some A => simp [hj] at h3; subst h3; exact ⟨A, rfl, rfl, rfl, fun h => absurd e.1 h⟩
     · rw [if_neg e] at h3; exact ⟨A', h3, rfl, rfl, fun _ => rfl⟩
   obtain ⟨A, k1, k2, k3⟩ := key; refine ⟨A, ?_, k2, k3⟩; unfold aQ; rw [hx]; have : Nat.beq x.ag g = true := by rw [h2]; exact Nat.beq_refl g
   simp [this, k1]
theorem Du (st : St) (a j b g : Nat) : de (ef st a j) b g = de st b g := by
 obtain ⟨f, hf, hn⟩ := ga st a j b; unfold de; rw [hn]
 cases nth st b with
 | none => rfl
 | some x => obtain ⟨_, h2, h3, _⟩ := hf x; simp [h2, h3]
theorem Dv (st : St) (a j b : Nat) : cM (ef st a j) b = cM st b := by
 obtain ⟨f, hf, hn⟩ := ga st a j b; unfold cM; rw [hn]
 cases nth st b with
 | none => rfl
 | some x => exact (hf x).2.2.2.1
theorem Dw (st : St) (a j b : Nat) : fK (ef st a j) b = fK st b := by
 obtain ⟨f, hf, hn⟩ := ga st a j b; unfold fK; rw [hn]
 cases nth st b with
 | none => rfl
 | some x => exact (hf x).2.2.1
theorem Fw.ef (c : Cz) (st : St) (w : World) (a j : Nat) : Fw c st w (c.drop1 a j) (ef st a j) w where
 stays := ⟨Nat.le_refl _, fun _ _ _ => rfl, fun _ _ h => Cz.Af h⟩
 refs a' j' g A' _ dP := by
   obtain ⟨A, h1, h2, h3, h4⟩ := Dt dP; refine ⟨A, h1, h2, h3, rfl, fun he => ⟨?_, fun _ _ _ _ => rfl⟩⟩; rcases (yJ st a j a').2 he with e | e
   · exact h4 e
   · unfold aQ at h1; rw [e] at h1; cases h1
 zM b g lI _ h := ⟨⟨lI, by rwa [Du] at h⟩, rfl⟩
 gA b := by rw [Dv]; exact Nat.le_refl _
 gB b := by rw [Dw]; exact Nat.le_refl _
 gE b := (yJ st a j b).1
theorem Rel.ef {w0 : World} {mu : Mu} {c : Cz} {st : St} {a : Act} {w : World} (h : Rel w0 mu c st a w) (s j : Nat) : Rel w0 mu (c.drop1 s j) (ef st s j) a w where
 eR t := by rw [Ds]; exact (Fw.ef c st w s j).la (h.eR t)
 boxes b sl cs hs hb := by
   obtain ⟨f, hf, hn⟩ := ga st s j b; rw [hn] at hs
   cases hx : nth st b with
   | none => rw [hx] at hs; simp at hs
   | some x =>
     rw [hx] at hs; simp at hs; subst hs; rw [(hf x).2.1] at hb; have h0 := h.boxes b x cs hx hb; exact h0.go (Fw.ef c st w s j) rfl (by rw [h0.1]; exact Cz.oM h0.1 (by simp)) rfl
 aJ b i sl A hs hb := by
   obtain ⟨f, hf, hn⟩ := ga st s j b; rw [hn] at hs
   cases hx : nth st b with
   | none => rw [hx] at hs; simp at hs
   | some x =>
     rw [hx] at hs; simp at hs; subst hs; rw [(hf x).2.2.2.2.1 i] at hb
     by_cases e : b = s ∧ i = j
     · rw [if_pos e] at hb
       cases hj : nth x.aJ i with
       | none => simp [hj] at hb
       | some o => cases o with
         | none => simp [hj] at hb
         | some B =>
           simp [hj] at hb; subst hb; have h0 := h.aJ b i x B hx hj; unfold bF at h0 ⊢; show match c.lc b i with | .nil => _ | .at b off cap => _
           cases hl : c.lc b i with
           | nil => rw [hl] at h0; exact h0
           | «at» k off cap =>
             rw [hl] at h0; obtain ⟨h1, h2, h3, h4⟩ := h0; refine ⟨?_, h2, h3, ?_⟩
             · show (c.drop1 s j).own k = none
               cases ho : B.own with
               | true => rw [ho] at h1; obtain ⟨rfl, rfl⟩ := e; exact Cz.Ag h1
               | false => rw [ho] at h1; exact Cz.Af h1
             · unfold bj at h4 ⊢; show match B.md.fz with | .sh => _ | .dp => _ | .ho _ => _
               cases hm : B.md with
               | sh => rw [hm] at h4; exact fun i x hi => bU.stays (Fw.ef c st w s j).stays _ _ _ x rfl (h4 i x hi)
               | dp =>
                 rw [hm] at h4; obtain ⟨g, _, h4⟩ := h4; obtain ⟨rfl, rfl⟩ := e; exact fun i x hi => fp.rep (fun p k hk => Cz.Ag hk.1) _ _ _ _ _ x (h4 i x hi)
               | ho q => exact fun e => by cases e
     · rw [if_neg e] at hb; have h0 := h.aJ b i x A hx hb; refine h0.go (Fw.ef c st w s j).stays rfl (fun k h1 => ⟨rfl, ?_⟩); rw [h1]; exact Cz.oM h1 (by rintro e'; injection e' with e1 e2; exact e ⟨e1, e2⟩)
 owned b l hb := h.owned b l (Cz.GH hb)
 free b hb h1 := by
   cases hc : c.own b with
   | none => exact h.free b hb hc
   | some l =>
     rcases (h.owned b l hc).2 with h2 | h2 | h2
     · subst h2; unfold Cz.drop1 at h1; simp [hc] at h1
     · omega
     · exact .inl h2
 kept := h.kept
 old := h.old
 dO p hp := (Fw.ef c st w s j).dO (h.dO p hp)
 plain := h.plain
def Cz.drop (c : Cz) : List (Nat × Nat) → Cz
 | [] => c
 | (a, j) :: l => (c.drop1 a j).drop l
theorem Rel.freeze {w0 : World} {mu : Mu} {a : Act} {w : World} : (m : List (Nat × Nat)) → {c : Cz} → {st : St} → Rel w0 mu c st a w → Rel w0 mu (c.drop m) (freeze st m) a w
 | [], _, _, h => h
 | (s, j) :: m, _, _, h => Rel.freeze m (h.ef s j)
theorem Cz.wY : (m : List (Nat × Nat)) → (c : Cz) → (b : Nat) → c.ok b → (c.drop m).ok b
 | [], _, _, h => h
 | (a, j) :: m, c, b, h => Cz.wY m (c.drop1 a j) b (Cz.Af h)
theorem Cz.zN : (m : List (Nat × Nat)) → (c : Cz) → (b : Nat) → {a j : Nat} → c.own b = some (.sp a j) → (a, j) ∈ m → (c.drop m).ok b
 | [], _, _, _, _, _, h => by simp at h
 | (a', j') :: m, c, b, a, j, h, hm => by
   by_cases e : a' = a ∧ j' = j
   · obtain ⟨rfl, rfl⟩ := e; exact Cz.wY m _ b (Cz.Ag h)
   · refine Cz.zN m (c.drop1 a' j') b (Cz.oM h (by rintro e'; injection e' with e1 e2; exact e ⟨e1.symm, e2.symm⟩)) ?_; rcases List.mem_cons.1 hm with h' | h'
     · injection h' with e1 e2; exact absurd ⟨e1.symm, e2.symm⟩ e
     · exact h'
theorem Cz.It : (m : List (Nat × Nat)) → (c : Cz) → (c.drop m).lc = c.lc ∧ (c.drop m).bx = c.bx
 | [], _ => ⟨rfl, rfl⟩
 | (a, j) :: m, c => Cz.It m (c.drop1 a j)
theorem Cz.Ct : (m : List (Nat × Nat)) → (c : Cz) → (b : Nat) → {l : Lb} → c.own b = some l → (∀ p ∈ m, l ≠ .sp p.1 p.2) → (c.drop m).own b = some l
 | [], _, _, _, h, _ => h
 | (a, j) :: m, c, b, l, h, hm => Cz.Ct m (c.drop1 a j) b (Cz.oM h (hm (a, j) (by simp))) (fun p hp => hm p (by simp [hp]))
theorem Fw.trans {c c1 c2 : Cz} {st x4 fI : St} {w w1 w2 : World} (h : Fw c st w c1 x4 w1) (k : Fw c1 x4 w1 c2 fI w2) : Fw c st w c2 fI w2 where
 stays := ⟨Nat.le_trans h.stays.size k.stays.size, fun b hb ho => (k.stays.block b (Nat.lt_of_lt_of_le hb h.stays.size) (h.stays.ok b hb ho)).trans (h.stays.block b hb ho),
   fun b hb ho => k.stays.ok b (Nat.lt_of_lt_of_le hb h.stays.size) (h.stays.ok b hb ho)⟩
 refs a j g A' hg dP := by
   obtain ⟨A1, h1, h2, h3, h4, h5⟩ := k.refs a j g A' (Nat.le_trans hg (h.gA a)) dP; obtain ⟨A, k1, k2, k3, k4, k5⟩ := h.refs a j g A1 hg h1; refine ⟨A, k1, h2.trans k2, h3.trans k3, h4.trans k4, fun he => ?_⟩; have g1 := h.gE a; have g2 := k.gE a; obtain ⟨e1, e2⟩ := h5 (by omega); obtain ⟨e3, e4⟩ := k5 (by omega); exact ⟨e1.trans e3, fun b o cap hl => (e2 b o cap (by rw [k4]; exact hl)).trans (e4 b o cap hl)⟩
 zM b g lI hg hb := by
   obtain ⟨⟨cs1, h1⟩, h2⟩ := k.zM b g lI (Nat.le_trans hg (h.gB b)) hb; obtain ⟨h3, h4⟩ := h.zM b g cs1 hg h1; exact ⟨h3, h2.trans h4⟩
 gA a := Nat.le_trans (h.gA a) (k.gA a)
 gB b := Nat.le_trans (h.gB b) (k.gB b)
 gE b := Nat.le_trans (h.gE b) (k.gE b)
theorem Fw.refl (c : Cz) (st : St) (w : World) : Fw c st w c st w := ⟨gI.refl w _, fun _ _ _ A' _ h => ⟨A', h, rfl, rfl, rfl, fun _ => ⟨rfl, fun _ _ _ _ => rfl⟩⟩, fun _ _ lI _ h => ⟨⟨lI, h⟩, rfl⟩, fun _ => Nat.le_refl _, fun _ => Nat.le_refl _, fun _ => Nat.le_refl _⟩
theorem Fw.freeze (w : World) : (m : List (Nat × Nat)) → (c : Cz) → (st : St) → Fw c st w (c.drop m) (freeze st m) w
 | [], c, st => Fw.refl c st w
 | (a, j) :: m, c, st => (Fw.ef c st w a j).trans (Fw.freeze w m (c.drop1 a j) (TM.ef st a j))
theorem wZ {w0 : World} {mu : Mu} {c : Cz} {st : St} {a : Act} {w : World} (h : Rel w0 mu c st a w) : (r : RT) → (cs : List CV) → (us : List Value) → ew c st w cs us →
   (k : ak r → List (Nat × Nat) → N) → {aP : St} → (rowOf st r cs k).val = some aP →
   ∃ x m, (k x m).val = some aP ∧ (∀ p ∈ m, ∃ g A, aQ st p.1 p.2 g = some A) ∧
     ∀ ok : Nat → Prop, (∀ b, c.ok b → ok b) → (∀ p ∈ m, ∀ b, c.own b = some (.sp p.1 p.2) → ok b) → b9 w ok r us x
 | .nil, cs, us, hl, k, aP, hv => by
   cases cs with
   | cons _ _ => simp [rowOf, N.val] at hv
   | nil =>
     have : us = [] := by have := hl.1; simp at this; exact List.length_eq_zero_iff.1 this.symm
     subst this; exact ⟨(), [], hv, fun p hp => by simp at hp, fun _ _ _ => rfl⟩
 | .cons t r, cs, us, hl, k, aP, hv => by
   cases cs with
   | nil => cases t <;> simp [rowOf, N.val] at hv
   | cons y cs =>
     cases us with
     | nil => have := hl.1; simp at this
     | cons u us =>
       have hu : iv c st w y u := hl.2 0 y u rfl rfl; have vk : ew c st w cs us := ⟨by have := hl.1; simpa using this, fun i a b ha hb => hl.2 (i + 1) a b (by simpa using ha) (by simpa using hb)⟩; have plain : ∀ (d : den t), (∀ ok : Nat → Prop, (∀ b, c.ok b → ok b) → bE w ok t u d) → (rowOf st r cs (fun x m => k (d, x) m)).val = some aP →
           ∃ x m, (k x m).val = some aP ∧ (∀ p ∈ m, ∃ g A, aQ st p.1 p.2 g = some A) ∧
             ∀ ok : Nat → Prop, (∀ b, c.ok b → ok b) → (∀ p ∈ m, ∀ b, c.own b = some (.sp p.1 p.2) → ok b) → b9 w ok (.cons t r) (u :: us) x := by
         intro d hd hv; obtain ⟨x, m, h1, h2, h3⟩ := wZ h r cs us vk _ hv; exact ⟨(d, x), m, h1, h2, fun ok ho hm => ⟨u, us, rfl, hd ok ho, h3 ok ho hm⟩⟩
       cases t with
       | int q =>
         cases y with
         | int l n =>
           simp only [rowOf] at hv
           by_cases e : q = l
           · rw [if_pos e] at hv; exact plain n (fun ok _ => oK.2 (by rw [e]; exact hu)) hv
           · rw [if_neg e] at hv; simp [N.val] at hv
         | _ => simp [rowOf, N.val] at hv
       | bool =>
         cases y with
         | bool b => exact plain b (fun ok _ => pY.2 hu) (by simpa only [rowOf] using hv)
         | _ => simp [rowOf, N.val] at hv
       | str =>
         cases y with
         | str s => exact plain s (fun ok _ => tk.2 hu) (by simpa only [rowOf] using hv)
         | _ => simp [rowOf, N.val] at hv
       | sl q =>
         cases y with
         | dq => exact plain ([] : List (ak q)) (fun ok _ => (lO _ _ _ _ _).2 (.inl ⟨hu, rfl⟩)) (by simpa only [rowOf] using hv)
         | shr r' ys =>
           simp only [rowOf] at hv
           cases hc : bo q ys with
           | none => simp [hc, N.val] at hv
           | some zs =>
             simp only [hc] at hv; obtain ⟨rfl, rfl⟩ := aX hc; exact plain _ (fun ok ho => bE.stays ⟨Nat.le_refl _, fun _ _ _ => rfl, fun b _ hb => ho b hb⟩ _ _ _ hu) hv
         | ref a' j g vw =>
           simp only [rowOf] at hv
           cases hA : aQ st a' j g with
           | none => simp [hA, N.val] at hv
           | some A =>
             simp only [hA] at hv; have uY : A.md.Dj = false := by
               cases hm : A.md with
               | ho _ => rw [hm] at hv; simp [N.val] at hv
               | _ => rfl
             have hv : (match bo q A.xs with
                 | some ys => rowOf st r cs (fun x m => k (vw.app ys, x) ((a', j) :: m))
                 | none => .fail).val = some aP := by
               cases hm : A.md with
               | ho _ => rw [hm] at uY; cases uY
               | sh => rw [hm] at hv; exact hv
               | dp => rw [hm] at hv; exact hv
             cases hc : bo q A.xs with
             | none => simp [hc, N.val] at hv
             | some ys =>
               simp only [hc] at hv; obtain ⟨e, he⟩ := aX hc; subst e; simp only at he; subst he; obtain ⟨sl, Ab, N3, Ac⟩ := a7 hA; have Ey := h.aJ a' j sl A Ab Ac; obtain ⟨x, m, h1, h2, h3⟩ := wZ h r cs us vk _ hv; refine ⟨(vw.app A.xs, x), (a', j) :: m, h1, fun p hp => ?_, fun ok ho hm => ⟨u, us, rfl, ?_, h3 ok ho (fun p hp => hm p (by simp [hp]))⟩⟩
               · rcases List.mem_cons.1 hp with rfl | hp
                 · exact ⟨g, A, hA⟩
                 · exact h2 p hp
               · exact wW Ey (hu.2.2 A hA) ho (fun k _ hk => hm (a', j) (by simp) k hk) uY
         | _ => simp [rowOf, N.val] at hv
end Go.TM
namespace Go.TM
open Go Go.RowKit
theorem vm {cs l m : List CV} {off : Nat} (h : putCells cs off l = some m) : off + l.length ≤ cs.length ∧ m = cs.take off ++ l ++ cs.drop (off + l.length) := by
 unfold putCells at h; obtain ⟨h1, h2⟩ := aD h; exact ⟨Nat.le_of_ble_eq_true h1, (Option.some.inj h2).symm⟩
theorem ew.bq {c : Cz} {st : St} {w : World} {cs l : List CV} {vs us : List Value} (h : ew c st w cs vs) (hl : ew c st w l us) (off : Nat) (hle : off + l.length ≤ cs.length) :
   ew c st w (cs.take off ++ l ++ cs.drop (off + l.length)) (TM.bq vs off us) := by
 have e1 := h.1; have e2 := hl.1; refine ⟨by rw [fy (by omega)]; simp; omega, fun i x v hx hv => ?_⟩; unfold TM.bq at hv; rw [List.getElem?_append, List.getElem?_append] at hx hv; simp only [List.length_append, List.length_take] at hx hv; have a1 : min off cs.length = off := by omega
 have a2 : min off vs.length = off := by omega
 rw [a1] at hx; rw [a2, ← e2] at hv
 by_cases h1 : i < off + l.length
 · rw [if_pos h1] at hx hv
   by_cases h2 : i < off
   · rw [if_pos h2, List.getElem?_take, if_pos h2] at hx hv; exact h.2 i x v hx hv
   · rw [if_neg h2] at hx hv; exact hl.2 _ x v hx hv
 · rw [if_neg h1, List.getElem?_drop] at hx hv; exact h.2 _ x v hx hv
theorem Rel.Ld {w0 : World} {mu : Mu} {c : Cz} {st : St} {a : Act} {w : World} (h : Rel w0 mu c st a w) {b : Nat} {s0 : Sl} {cs l : List CV} {vs lJ : Array Value} {ty : TypeId}
   (hs : nth st b = some s0) (hb : s0.box = some cs) (hg : w.heap[c.bx b]? = some (.cells vs ty (0, 0))) (hl : ew c st w l lJ.toList) :
   Rel w0 mu c (kS (fun s => { s with box := some l }) st b) a (w.setRow (c.bx b) lJ) := by
 have eK := (h.boxes b s0 cs hs hb).1; have hn : ∀ s, nth (kS (fun s => { s with box := some l }) st b) s = if s = b then some { s0 with box := some l } else nth st s := by
   intro s; rw [cQ]
   by_cases e : s = b
   · subst e; simp [hs]
   · simp [e]
 generalize kS (fun s => { s with box := some l }) st b = aP at hn ⊢; have qk := rC (w := w) eK lJ; have pM : ∀ k, k ≠ c.bx b → (w.setRow (c.bx b) lJ).heap[k]? = w.heap[k]? := fun k hk => setRow_other w _ k lJ hk
 have fD : Fw c st w c aP (w.setRow (c.bx b) lJ) := {
   stays := qk
   refs := fun a' j g A' _ dP => by
     have GI : aQ st a' j g = some A' := by
       unfold aQ at dP ⊢; rw [hn] at dP
       by_cases e : a' = b
       · subst e; simpa [hs] using dP
       · simpa [e] using dP
     refine ⟨A', GI, rfl, rfl, rfl, fun _ => ⟨rfl, fun k o cap hl => pM k ?_⟩⟩; have ha := h.qD GI; unfold bF at ha; rw [hl] at ha; intro e; subst e; obtain ⟨h1, _⟩ := ha; rw [eK] at h1
     cases ho : A'.own <;> simp [ho] at h1
   zM := fun b' g lI _ kt => by
     refine ⟨?_, rfl⟩; unfold de at kt ⊢; rw [hn] at kt
     by_cases e : b' = b
     · subst e; simp only [if_true] at kt; obtain ⟨h1, _⟩ := aD kt; exact ⟨cs, by simp [hs, h1, hb]⟩
     · simp only [e, if_false] at kt; exact ⟨lI, kt⟩
   gA := fun a' => by
     unfold cM; rw [hn]
     by_cases e : a' = b
     · subst e; simp [hs]
     · simp [e]
   gB := fun a' => by
     unfold fK; rw [hn]
     by_cases e : a' = b
     · subst e; simp [hs]
     · simp [e]
   gE := fun a' => by
     unfold kW; rw [hn]
     by_cases e : a' = b
     · subst e; simp [hs]
     · simp [e] }
 exact {
   eR := fun t => by
     have e1 : bI aP t = bI st t := by
       unfold bI; rw [hn]
       by_cases e : t = b
       · subst e; simp [hs]
       · simp [e]
     rw [e1]; exact fD.la (h.eR t)
   boxes := fun s sl lI w5 kt => by
     rw [hn] at w5
     by_cases e : s = b
     · subst e; simp only [if_true, Option.some.injEq] at w5; subst w5; simp only [Option.some.injEq] at kt; subst kt; exact ⟨eK, lJ, ty, setRow_heap w _ vs lJ ty (0, 0) hg, fD.Oh hl⟩
     · simp only [e, if_false] at w5; have h0 := h.boxes s sl lI w5 kt; refine h0.go fD rfl rfl (pM _ ?_); intro e'; have := h0.1; rw [e', eK] at this; injection this with this; injection this with this; exact e this.symm
   aJ := fun s j sl A w5 dP => by
     rw [hn] at w5; have ha : bF c w s j A := by
       by_cases e : s = b
       · subst e; simp only [if_true, Option.some.injEq] at w5; subst w5; exact h.aJ s j s0 A hs dP
       · simp only [e, if_false] at w5; exact h.aJ s j sl A w5 dP
     refine ha.go qk rfl (fun k h1 => ⟨pM k ?_, rfl⟩); intro e; subst e; rw [eK] at h1
     cases h1
   owned := fun k l hk => by
     have := h.owned k l hk; exact ⟨by simpa [World.setRow] using this.1, this.2⟩
   free := h.free
   kept := ⟨h.kept.1, h.kept.2.1, h.kept.2.2.1, by simpa [World.setRow] using h.kept.2.2.2⟩
   old := fun k hk hm => by
     rw [pM k (fun e => by
       have := (h.owned _ _ eK).2; rcases this with this | this | this
       · cases this
       · subst e; omega
       · subst e; exact hm this)]
     exact h.old k hk hm
   dO := fun p hp => fD.dO (h.dO p hp)
   plain := h.plain }
theorem Rel.Cu {w0 : World} {mu : Mu} {c : Cz} {st : St} {a : Act} {w : World} (h : Rel w0 mu c st a w) {s j : Nat} {s0 : Sl} {A : fL} {b off cap : Nat} {cur lJ : Array Value} {ty : TypeId}
   {md' : Md} {ys : List (ak A.r)} (hs : nth st s = some s0) (hA : nth s0.aJ j = some (some A)) (eK : A.own = true) (fO : c.lc s j = .at b off cap)
   (hg : w.heap[b]? = some (.cells cur ty (0, 0))) (jB : lJ.size = cur.size) (hlen : ys.length = A.xs.length)
   (eJ : bj c (w.setRow b lJ) (.sp s j) { A with xs := ys, md := md' } b off) :
   Rel w0 mu c (bh st s j (some { A with xs := ys, md := md' })) a (w.setRow b lJ) := by
 have h0 := h.aJ s j s0 A hs hA; unfold bF at h0; rw [fO] at h0; obtain ⟨h1, h2, ⟨UU, ty0, h3, h4⟩, h5⟩ := h0; rw [eK] at h1; have YG : UU = cur := by rw [hg] at h3; injection h3 with h3; injection h3 with h3; exact h3.symm
 subst YG; have hn : ∀ k, nth (bh st s j (some { A with xs := ys, md := md' })) k = if k = s then some { s0 with aJ := kS (fun _ => some { A with xs := ys, md := md' }) s0.aJ j, ep := s0.ep + 1 } else nth st k := by
   intro k; unfold bh; rw [cQ]
   by_cases e : k = s
   · subst e; simp [hs]
   · simp [e]
 generalize bh st s j (some { A with xs := ys, md := md' }) = aP at hn ⊢; have qk := rC (w := w) h1 lJ; have pM : ∀ k, k ≠ b → (w.setRow b lJ).heap[k]? = w.heap[k]? := fun k hk => setRow_other w _ k lJ hk
 have fD : Fw c st w c aP (w.setRow b lJ) := {
   stays := qk
   refs := fun a' j' g A' _ dP => by
     obtain ⟨sl, k1, k2, k3⟩ := a7 dP; rw [hn] at k1
     by_cases e : a' = s
     · subst e; simp only [if_true, Option.some.injEq] at k1; subst k1; simp only at k2 k3; rw [cQ] at k3
       by_cases e2 : j' = j
       · subst e2; rw [if_pos rfl, hA] at k3; simp only [Option.map_some, Option.some.injEq] at k3; subst k3; refine ⟨A, ?_, rfl, hlen, rfl, fun he => ?_⟩
         · unfold aQ; rw [hs]; have : Nat.beq s0.ag g = true := by rw [k2]; exact Nat.beq_refl g
           simp [this, hA]
         · unfold kW at he; rw [hn, if_pos rfl, hs] at he; simp at he
       · rw [if_neg e2] at k3; refine ⟨A', ?_, rfl, rfl, rfl, fun he => ?_⟩
         · unfold aQ; rw [hs]; have : Nat.beq s0.ag g = true := by rw [k2]; exact Nat.beq_refl g
           simp [this, k3]
         · unfold kW at he; rw [hn, if_pos rfl, hs] at he; simp at he
     · rw [if_neg e] at k1; have GI : aQ st a' j' g = some A' := by
         unfold aQ; rw [k1]; have : Nat.beq sl.ag g = true := by rw [k2]; exact Nat.beq_refl g
         simp [this, k3]
       refine ⟨A', GI, rfl, rfl, rfl, fun _ => ⟨rfl, fun k o GD hl => pM k ?_⟩⟩; have ha := h.qD GI; unfold bF at ha; rw [hl] at ha
       rintro rfl
       obtain ⟨g1, _⟩ := ha; rw [h1] at g1
       cases ho : A'.own with
       | true => simp [ho] at g1; exact e g1.1.symm
       | false => simp [ho] at g1
   zM := fun b' g lI _ kt => by
     refine ⟨⟨lI, ?_⟩, rfl⟩; unfold de at kt ⊢; rw [hn] at kt
     by_cases e : b' = s
     · subst e; simpa [hs] using kt
     · simpa [e] using kt
   gA := fun a' => by
     unfold cM; rw [hn]
     by_cases e : a' = s
     · subst e; simp [hs]
     · simp [e]
   gB := fun a' => by
     unfold fK; rw [hn]
     by_cases e : a' = s
     · subst e; simp [hs]
     · simp [e]
   gE := fun a' => by
     unfold kW; rw [hn]
     by_cases e : a' = s
     · subst e; simp [hs]
     · simp [e] }
 exact {
   eR := fun t => by
     have e1 : bI aP t = bI st t := by
       unfold bI; rw [hn]
       by_cases e : t = s
       · subst e; simp [hs]
       · simp [e]
     rw [e1]; exact fD.la (h.eR t)
   boxes := fun k sl lI w5 kt => by
     rw [hn] at w5; have zE : tn c st w k lI := by
       by_cases e : k = s
       · subst e; simp only [if_true, Option.some.injEq] at w5; subst w5; exact h.boxes k s0 lI hs kt
       · simp only [e, if_false] at w5; exact h.boxes k sl lI w5 kt
     refine zE.go fD rfl rfl (pM _ ?_); intro e; have := zE.1; rw [e, h1] at this; simp at this
   aJ := fun k i sl B w5 hB => by
     rw [hn] at w5
     by_cases e : k = s ∧ i = j
     · obtain ⟨rfl, rfl⟩ := e; simp only [if_true, Option.some.injEq] at w5; subst w5; simp only at hB; rw [cQ, if_pos rfl, hA] at hB; simp only [Option.map_some, Option.some.injEq] at hB; subst hB; unfold bF; rw [fO]; refine ⟨by rw [eK]; exact h1, by simp only; rw [hlen]; exact h2, ⟨lJ, ty, setRow_heap w b UU lJ ty (0, 0) hg, by simp only; rw [jB]; exact h4⟩, eJ⟩
     · have ha : bF c w k i B := by
         by_cases e2 : k = s
         · subst e2; simp only [if_true, Option.some.injEq] at w5; subst w5; simp only at hB; rw [cQ, if_neg (fun e3 => e ⟨rfl, e3⟩)] at hB; exact h.aJ k i s0 B hs hB
         · rw [if_neg e2] at w5; exact h.aJ k i sl B w5 hB
       refine ha.go qk rfl (fun k' g1 => ⟨pM k' ?_, rfl⟩)
       rintro rfl
       rw [h1] at g1; simp at g1; exact e ⟨g1.1.symm, g1.2.symm⟩
   owned := fun k l hk => by
     have := h.owned k l hk; exact ⟨by simpa [World.setRow] using this.1, this.2⟩
   free := h.free
   kept := ⟨h.kept.1, h.kept.2.1, h.kept.2.2.1, by simpa [World.setRow] using h.kept.2.2.2⟩
   old := fun k hk hm => by
     rw [pM k (fun e => by
       have := (h.owned _ _ h1).2; rcases this with this | this | this
       · cases this
       · subst e; omega
       · subst e; exact hm this)]
     exact h.old k hk hm
   dO := fun p hp => fD.dO (h.dO p hp)
   plain := h.plain }
theorem Rel.w6 {w0 : World} {mu : Mu} {c : Cz} {st : St} {a : Act} {w : World} (h : Rel w0 mu c st a w) {s j : Nat} {s0 : Sl} {A : fL} {b off cap : Nat} {cur lJ : Array Value} {ty : TypeId}
   {ys : List (ak A.r)} (hs : nth st s = some s0) (hA : nth s0.aJ j = some (some A)) (eK : A.own = true) (fO : c.lc s j = .at b off cap)
   (hg : w.heap[b]? = some (.cells cur ty (0, 0))) (jB : lJ.size = cur.size) (hlen : ys.length = A.xs.length)
   (eJ : bj c (w.setRow b lJ) (.sp s j) { A with xs := ys } b off) :
   Rel w0 mu c (bh st s j (some { A with xs := ys })) a (w.setRow b lJ) := h.Cu hs hA eK fO hg jB hlen eJ
end Go.TM
namespace Go.TM
open Go Go.RowKit
theorem w7 : (r : RT) → (x : ak r) → (k : Nat) → (y : CV) → {z : ak r} → eV r x k y = some z → k < r.width
 | .nil, _, _, _, _, h => by simp [eV] at h
 | .cons t r, x, 0, y, z, _ => by simp [RT.width]
 | .cons t r, x, k + 1, y, z, h => by
   have h' : (eV r x.2 k y).map (fun z => ((x.1, z) : ak (.cons t r))) = some z := by cases t <;> (simp only [eV] at h; exact h)
   cases hq : eV r x.2 k y with
   | none => rw [hq] at h'; cases h'
   | some z' => have := w7 r x.2 k y hq; simp [RT.width]; omega
theorem rD (r : RT) (x : ak r) : (off : Nat) → (cs : List CV) → {z : ak r} → ji r x off cs = some z → cs ≠ [] → off + cs.length ≤ r.width
 | _, [], _, _, h => absurd rfl h
 | off, y :: l, z, h, _ => by
   simp only [ji] at h
   cases hq : ji r x (off + 1) l with
   | none => simp [hq] at h
   | some y' =>
     simp only [hq] at h; have h1 := w7 r y' off y h
     cases l with
     | nil => simp; omega
     | cons y2 l2 => have := rD r x (off + 1) (y2 :: l2) hq (by simp); simp at this ⊢; omega
theorem jl {vs us : List Value} {off k : Nat} (hle : off + us.length ≤ vs.length) : (bq vs off us)[k]? = if off ≤ k ∧ k < off + us.length then us[k - off]? else vs[k]? := by
 unfold bq; simp only [List.getElem?_append, List.length_append, List.length_take, List.getElem?_take, List.getElem?_drop]; have a1 : min off vs.length = off := by omega
 rw [a1]
 by_cases h1 : k < off
 · rw [if_pos (by omega), if_pos h1, if_pos h1, if_neg (by omega)]
 · by_cases h2 : k < off + us.length
   · rw [if_pos h2, if_neg h1, if_pos ⟨by omega, h2⟩]
   · rw [if_neg h2, if_neg (by omega)]
     congr 1
     omega
theorem Ah : (m : List (Nat × Nat)) → {st : St} → {a j : Nat} → {sl : Sl} → {A : fL} → nth st a = some sl → nth sl.aJ j = some (some A) → (a, j) ∉ m →
   ∃ PH, nth (freeze st m) a = some PH ∧ nth PH.aJ j = some (some A)
 | [], _, _, _, sl, _, h1, h2, _ => ⟨sl, h1, h2⟩
 | (b, i) :: m, st, a, j, sl, A, h1, h2, hm => by
   rw [Ez]; obtain ⟨f, hf, hn⟩ := ga st b i a; refine Ah m (sl := f sl) (A := A) (by rw [hn, h1]; rfl) ?_ (fun h => hm (by simp [h])); rw [(hf sl).2.2.2.2.1 j, if_neg]
   · exact h2
   · rintro ⟨rfl, rfl⟩; exact hm (by simp)
theorem w8 {c : Cz} {w : World} {b off : Nat} {r : RT} {xs : List (ak r)} {cur : Array Value} {ty : TypeId} {l : Lb} (eK : c.own b = some l)
   (hg : w.heap[b]? = some (.cells cur ty (0, 0))) (eJ : ∀ (i : Nat) x, xs[i]? = some x → bU w c.ok r b (off + i * r.width) x)
   {i k : Nat} {x y : ak r} {us : List Value} (hx : xs[i]? = some x) (hle : k + us.length ≤ r.width) (jB : off + i * r.width + r.width ≤ cur.size)
   (hy : ∀ vs, b9 w c.ok r vs x → b9 w c.ok r (bq vs k us) y) :
   ∀ (i' : Nat) x', (xs.set i y)[i']? = some x' → bU (w.setRow b (bq cur.toList (off + i * r.width + k) us).toArray) c.ok r b (off + i' * r.width) x' := by
 have qk := rC (w := w) eK (bq cur.toList (off + i * r.width + k) us).toArray; have Ol := setRow_heap w b cur (bq cur.toList (off + i * r.width + k) us).toArray ty (0, 0) hg; have qE : ∀ q, (w.setRow b (bq cur.toList (off + i * r.width + k) us).toArray).cell? ⟨b, q, none⟩ =
     if off + i * r.width + k ≤ q ∧ q < off + i * r.width + k + us.length then us[q - (off + i * r.width + k)]? else w.cell? ⟨b, q, none⟩ := by
   intro q; rw [cell_of_row _ b q _ ty (0, 0) Ol, cell_of_row w b q cur ty (0, 0) hg]; simp only [List.getElem?_toArray]; rw [jl (by simp; omega)]; simp
 intro i' x' ra; rw [List.getElem?_set] at ra
 by_cases e : i = i'
 · subst e; rw [if_pos rfl] at ra; have hi : i < xs.length := (List.getElem?_eq_some_iff.1 hx).1; rw [if_pos hi] at ra; obtain rfl := Option.some.inj ra; obtain ⟨vs, h1, h2⟩ := (ld r b _ x).1 (eJ i x hx); have wR := b9.length r vs x h2; refine (ld r b _ y).2 ⟨bq vs k us, fun q v hv => ?_, b9.stays qk r _ y (hy vs h2)⟩; rw [jl (by omega)] at hv; rw [qE]
   by_cases hq : k ≤ q ∧ q < k + us.length
   · rw [if_pos hq] at hv; rw [if_pos (by omega), show off + i * r.width + q - (off + i * r.width + k) = q - k by omega]; exact hv
   · rw [if_neg hq] at hv; rw [if_neg (by omega)]; exact h1 q v hv
 · rw [if_neg e] at ra; obtain ⟨vs, h1, h2⟩ := (ld r b _ x').1 (eJ i' x' ra); have wR := b9.length r vs x' h2; refine (ld r b _ x').2 ⟨vs, fun q v hv => ?_, b9.stays qk r _ x' h2⟩; have hq : q < r.width := by rw [← wR]; exact (List.getElem?_eq_some_iff.1 hv).1
   rw [qE, if_neg]
   · exact h1 q v hv
   · rintro ⟨g1, g2⟩
     rcases Nat.lt_or_gt_of_ne e with h | h
     · have : (i + 1) * r.width ≤ i' * r.width := Nat.mul_le_mul_right _ h; rw [Nat.add_mul] at this; omega
     · have : (i' + 1) * r.width ≤ i * r.width := Nat.mul_le_mul_right _ h; rw [Nat.add_mul] at this; omega
theorem vn {w : World} {b off : Nat} {r : RT} {xs : List (ak r)} {cur : Array Value} {ty : TypeId}
   (hg : w.heap[b]? = some (.cells cur ty (0, 0))) {Q : Nat → List Value → ak r → Prop} (eJ : ∀ (i : Nat) x, xs[i]? = some x → ∃ vs, w.rangeAt b (off + i * r.width) vs ∧ vs.length = r.width ∧ Q i vs x)
   {i k : Nat} {x y : ak r} {us : List Value} (hx : xs[i]? = some x) (hle : k + us.length ≤ r.width) (jB : off + i * r.width + r.width ≤ cur.size)
   (hy : ∀ vs, vs.length = r.width → Q i vs x → Q i (bq vs k us) y) :
   ∀ (i' : Nat) x', (xs.set i y)[i']? = some x' → ∃ vs, (w.setRow b (bq cur.toList (off + i * r.width + k) us).toArray).rangeAt b (off + i' * r.width) vs ∧ Q i' vs x' := by
 have Ol := setRow_heap w b cur (bq cur.toList (off + i * r.width + k) us).toArray ty (0, 0) hg; have qE : ∀ q, (w.setRow b (bq cur.toList (off + i * r.width + k) us).toArray).cell? ⟨b, q, none⟩ =
     if off + i * r.width + k ≤ q ∧ q < off + i * r.width + k + us.length then us[q - (off + i * r.width + k)]? else w.cell? ⟨b, q, none⟩ := by
   intro q; rw [cell_of_row _ b q _ ty (0, 0) Ol, cell_of_row w b q cur ty (0, 0) hg]; simp only [List.getElem?_toArray]; rw [jl (by simp; omega)]; simp
 intro i' x' ra; rw [List.getElem?_set] at ra
 by_cases e : i = i'
 · subst e; rw [if_pos rfl] at ra; have hi : i < xs.length := (List.getElem?_eq_some_iff.1 hx).1; rw [if_pos hi] at ra; obtain rfl := Option.some.inj ra; obtain ⟨vs, h1, wR, h2⟩ := eJ i x hx; refine ⟨bq vs k us, fun q v hv => ?_, hy vs wR h2⟩; rw [jl (by omega)] at hv; rw [qE]
   by_cases hq : k ≤ q ∧ q < k + us.length
   · rw [if_pos hq] at hv; rw [if_pos (by omega), show off + i * r.width + q - (off + i * r.width + k) = q - k by omega]; exact hv
   · rw [if_neg hq] at hv; rw [if_neg (by omega)]; exact h1 q v hv
 · rw [if_neg e] at ra; obtain ⟨vs, h1, wR, h2⟩ := eJ i' x' ra; refine ⟨vs, fun q v hv => ?_, h2⟩; have hq : q < r.width := by rw [← wR]; exact (List.getElem?_eq_some_iff.1 hv).1
   rw [qE, if_neg]
   · exact h1 q v hv
   · rintro ⟨g1, g2⟩
     rcases Nat.lt_or_gt_of_ne e with h | h
     · have : (i + 1) * r.width ≤ i' * r.width := Nat.mul_le_mul_right _ h; rw [Nat.add_mul] at this; omega
     · have : (i' + 1) * r.width ≤ i * r.width := Nat.mul_le_mul_right _ h; rw [Nat.add_mul] at this; omega
theorem BS {w : World} {b off : Nat} {r : RT} {xs : List (ak r)} {cur : Array Value} {ty : TypeId}
   (hg : w.heap[b]? = some (.cells cur ty (0, 0))) {Q : Nat → List Value → ak r → Prop} {i : Nat} (eJ : ∀ (i' : Nat) x, i' ≠ i → xs[i']? = some x → ∃ vs, w.rangeAt b (off + i' * r.width) vs ∧ vs.length = r.width ∧ Q i' vs x)
   {x y : ak r} {us : List Value} (hx : xs[i]? = some x) (hle : us.length = r.width) (jB : off + i * r.width + r.width ≤ cur.size) (hy : Q i us y) :
   ∀ (i' : Nat) x', (xs.set i y)[i']? = some x' → ∃ vs, (w.setRow b (bq cur.toList (off + i * r.width + 0) us).toArray).rangeAt b (off + i' * r.width) vs ∧ Q i' vs x' := by
 have Ol := setRow_heap w b cur (bq cur.toList (off + i * r.width + 0) us).toArray ty (0, 0) hg; have qE : ∀ q, (w.setRow b (bq cur.toList (off + i * r.width + 0) us).toArray).cell? ⟨b, q, none⟩ =
     if off + i * r.width ≤ q ∧ q < off + i * r.width + us.length then us[q - (off + i * r.width)]? else w.cell? ⟨b, q, none⟩ := by
   intro q; rw [cell_of_row _ b q _ ty (0, 0) Ol, cell_of_row w b q cur ty (0, 0) hg]; simp only [List.getElem?_toArray]; rw [jl (by simp; omega)]; simp
 intro i' x' ra; rw [List.getElem?_set] at ra
 by_cases e : i = i'
 · subst e; rw [if_pos rfl] at ra; have hi : i < xs.length := (List.getElem?_eq_some_iff.1 hx).1; rw [if_pos hi] at ra; obtain rfl := Option.some.inj ra; refine ⟨us, fun q v hv => ?_, hy⟩; have hq : q < us.length := (List.getElem?_eq_some_iff.1 hv).1; rw [qE, if_pos (by omega), show off + i * r.width + q - (off + i * r.width) = q by omega]; exact hv
 · rw [if_neg e] at ra; obtain ⟨vs, h1, wR, h2⟩ := eJ i' x' (fun h => e h.symm) ra; refine ⟨vs, fun q v hv => ?_, h2⟩; have hq : q < r.width := by rw [← wR]; exact (List.getElem?_eq_some_iff.1 hv).1
   rw [qE, if_neg]
   · exact h1 q v hv
   · rintro ⟨g1, g2⟩
     rcases Nat.lt_or_gt_of_ne e with h | h
     · have : (i + 1) * r.width ≤ i' * r.width := Nat.mul_le_mul_right _ h; rw [Nat.add_mul] at this; omega
     · have : (i' + 1) * r.width ≤ i * r.width := Nat.mul_le_mul_right _ h; rw [Nat.add_mul] at this; omega
end Go.TM
namespace Go.TM
open Go Go.RowKit
def Ul (w : World) (ok : Nat → Prop) (r : RT) (u : Value) (ys : List (ak r)) : Prop :=
 (u = .slice none 0 0 ∧ ys = []) ∨ ∃ a cap, u = .slice (some a) ys.length cap ∧ (ys ≠ [] → a.spot = none) ∧ ∀ (i : Nat) y, ys[i]? = some y → bU w ok r a.block (a.off + i * r.width) y
def aY (w : World) (ok : Nat → Prop) (r : RT) : List Value → List (ak r) → Prop
 | vs, [] => vs = []
 | vs, x :: xs => ∃ l1 l2, vs = l1 ++ l2 ∧ b9 w ok r l1 x ∧ aY w ok r l2 xs
theorem aY.length {w : World} {ok : Nat → Prop} {r : RT} : (vs : List Value) → (xs : List (ak r)) → aY w ok r vs xs → vs.length = xs.length * r.width
 | vs, [], h => by simp only [aY] at h; subst h; simp
 | vs, x :: xs, h => by
   obtain ⟨l1, l2, rfl, h1, h2⟩ := h; have a1 := b9.length r l1 x h1; have a2 := aY.length l2 xs h2; simp [a1, a2, Nat.add_mul]; omega
theorem aY.stays {w w' : World} {ok wU : Nat → Prop} (h : gI w w' ok wU) {r : RT} : (vs : List Value) → (xs : List (ak r)) → aY w ok r vs xs → aY w' wU r vs xs
 | _, [], hr => hr
 | _, x :: xs, ⟨l1, l2, e, h1, h2⟩ => ⟨l1, l2, e, b9.stays h r l1 x h1, aY.stays h l2 xs h2⟩
theorem aY.append {w : World} {ok : Nat → Prop} {r : RT} : (vs us : List Value) → (xs ys : List (ak r)) → aY w ok r vs xs → aY w ok r us ys → aY w ok r (vs ++ us) (xs ++ ys)
 | vs, us, [], ys, h, k => by simp only [aY] at h; subst h; simpa using k
 | vs, us, x :: xs, ys, ⟨l1, l2, e, h1, h2⟩, k => ⟨l1, l2 ++ us, by rw [e, List.append_assoc], h1, aY.append l2 us xs ys h2 k⟩
theorem aY.one {w : World} {ok : Nat → Prop} {r : RT} {vs : List Value} {x : ak r} (h : b9 w ok r vs x) : aY w ok r vs [x] := ⟨vs, [], by simp, h, rfl⟩
theorem kI {w : World} {ok : Nat → Prop} {r : RT} (b : Nat) : (off : Nat) → (xs : List (ak r)) → (∀ (i : Nat) x, xs[i]? = some x → bU w ok r b (off + i * r.width) x) →
   ∃ vs, w.rangeAt b off vs ∧ aY w ok r vs xs
 | _, [], _ => ⟨[], fun j v h => by simp at h, rfl⟩
 | off, x :: xs, h => by
   obtain ⟨l1, h1, h2⟩ := (ld r b off x).1 (by have := h 0 x rfl; simpa using this); obtain ⟨l2, h3, h4⟩ := kI b (off + r.width) xs (fun i y hy => by
     have := h (i + 1) y (by simpa using hy); rw [Nat.add_mul, Nat.one_mul] at this; rw [show off + r.width + i * r.width = off + (i * r.width + r.width) by omega]; exact this)
   have hl := b9.length r l1 x h2; refine ⟨l1 ++ l2, fun j v hv => ?_, l1, l2, rfl, h2, h4⟩; rw [List.getElem?_append] at hv
   by_cases hj : j < l1.length
   · rw [if_pos hj] at hv; exact h1 j v hv
   · rw [if_neg hj] at hv; have := h3 _ v hv; rw [show off + r.width + (j - l1.length) = off + j by omega] at this; exact this
theorem p6 {w : World} {ok : Nat → Prop} {r : RT} {b : Nat} : (off : Nat) → (vs : List Value) → (xs : List (ak r)) → aY w ok r vs xs → w.rangeAt b off vs →
   ∀ (i : Nat) x, xs[i]? = some x → bU w ok r b (off + i * r.width) x
 | _, _, [], _, _, i, x, h => by simp at h
 | off, vs, y :: xs, ⟨l1, l2, e, h1, h2⟩, hr, i, x, h => by
   subst e; have hl := b9.length r l1 y h1
   cases i with
   | zero =>
     simp at h; subst h; rw [ld]; refine ⟨l1, fun j v hv => ?_, h1⟩; have hj : j < l1.length := (List.getElem?_eq_some_iff.1 hv).1; have := hr j v (by rw [List.getElem?_append, if_pos hj]; exact hv); simpa using this
   | succ i =>
     have := p6 (off + r.width) l2 xs h2 (fun j v hv => by
       have := hr (l1.length + j) v (by rw [List.getElem?_append, if_neg (by omega)]; simpa using hv); rw [show off + r.width + j = off + (l1.length + j) by omega]; exact this) i x (by simpa using h)
     rw [Nat.add_mul, Nat.one_mul]; rw [show off + (i * r.width + r.width) = off + r.width + i * r.width by omega]; exact this
theorem bE.one {w : World} {ok : Nat → Prop} {t : Ty} {v : Value} {x : den t} (h : bE w ok t v x) : v.oneCell' = true := by
 cases t with
 | int k => rw [oK.1 h]; rfl
 | bool => rw [pY.1 h]; rfl
 | str => rw [tk.1 h]; rfl
 | sl r =>
   rcases (lO w ok r v x).1 h with ⟨rfl, _⟩ | ⟨a, cap, rfl, _⟩ <;> rfl
theorem b9.one {w : World} {ok : Nat → Prop} : (r : RT) → (vs : List Value) → (x : ak r) → b9 w ok r vs x → ∀ v ∈ vs, v.oneCell' = true
 | .nil, vs, _, h, v, hv => by simp only [b9] at h; subst h; simp at hv
 | .cons t r, vs, x, ⟨u, l, e, hx, hr⟩, v, hv => by
   subst e; rcases List.mem_cons.1 hv with rfl | hv
   · exact hx.one
   · exact b9.one r l x.2 hr v hv
theorem aY.jA {w : World} {ok : Nat → Prop} {r : RT} : (vs : List Value) → (xs : List (ak r)) → aY w ok r vs xs → ∀ v ∈ vs, v.oneCell' = true
 | vs, [], h, v, hv => by simp only [aY] at h; subst h; simp at hv
 | vs, x :: xs, ⟨l1, l2, e, h1, h2⟩, v, hv => by
   subst e; rcases List.mem_append.1 hv with hv | hv
   · exact b9.one r l1 x h1 v hv
   · exact aY.jA l2 xs h2 v hv
theorem yK {w0 : World} {mu : Mu} {c : Cz} {st : St} {a : Act} {w : World} (h : Rel w0 mu c st a w) {r : RT} {x : CV} {u : Value} (hx : iv c st w x u)
   {k : List (ak r) → N} {aP : St} (hv : (jX st r x k).val = some aP) : ∃ ys, (k ys).val = some aP ∧ Ul w c.ok r u ys := by
 cases x with
 | shr r' xs =>
   simp only [jX] at hv
   cases hc : bo r xs with
   | none => simp [hc, N.val] at hv
   | some ys =>
     simp only [hc] at hv; obtain ⟨rfl, rfl⟩ := aX hc; refine ⟨_, hv, ?_⟩; rcases (lO _ _ _ _ _).1 hx with h1 | ⟨a', cap, h1, h2, h3, h4⟩
     · exact .inl h1
     · exact .inr ⟨a', cap, h1, fun fm => (h3 fm).1, h4⟩
 | nn r' xs =>
   simp only [jX] at hv
   cases hc : bo r xs with
   | none => simp [hc, N.val] at hv
   | some ys =>
     simp only [hc] at hv; obtain ⟨rfl, rfl⟩ := aX hc; refine ⟨_, hv, ?_⟩; rcases (lO _ _ _ _ _).1 hx.1 with h1 | ⟨a', cap, h1, h2, h3, h4⟩
     · exact .inl h1
     · exact .inr ⟨a', cap, h1, fun fm => (h3 fm).1, h4⟩
 | dq => exact ⟨[], by simpa only [jX] using hv, .inl ⟨hx, rfl⟩⟩
 | ref a' j g vw =>
   simp only [jX] at hv
   cases hA : aQ st a' j g with
   | none => simp [hA, N.val] at hv
   | some A =>
     simp only [hA] at hv; have uY : A.md = .sh := by
       cases hm : A.md with
       | sh => rfl
       | dp => rw [hm] at hv; simp [N.val] at hv
       | ho _ => rw [hm] at hv; simp [N.val] at hv
     rw [uY] at hv; simp only at hv
     cases hc : bo r A.xs with
     | none => simp [hc, N.val] at hv
     | some ys =>
       simp only [hc] at hv; obtain ⟨e, he⟩ := aX hc; subst e; simp only at he; subst he; obtain ⟨sl, Ab, N3, Ac⟩ := a7 hA; have Ey := h.aJ a' j sl A Ab Ac; refine ⟨vw.app A.xs, hv, ?_⟩; clear hv; have hs := hx.2.2 A hA
       cases hl : c.lc a' j with
       | nil =>
         unfold gP at hs; rw [hl] at hs; exact .inl ⟨hs.1, List.length_eq_zero_iff.1 hs.2⟩
       | «at» b off cap =>
         unfold gP at hs; rw [hl] at hs; obtain ⟨ad, k', rfl, hk, wX, ha⟩ := hs; unfold bF at Ey; rw [hl] at Ey; obtain ⟨_, _, _, h5⟩ := Ey; have fm : vw.app A.xs ≠ [] → k' ≠ 0 := by
           intro fm; have := List.length_pos_iff.2 fm; omega
         refine .inr ⟨ad, k', rfl, fun h => by rw [ha (fm h)], fun i y hy => ?_⟩; have YF : k' ≠ 0 := fm (by intro e; rw [e] at hy; simp at hy); rw [ha YF]; have := (bj.sh uY).1 h5 _ y (View.uG vw A.xs hy); have e : off + vw.lo * A.r.width + i * A.r.width = off + (vw.lo + i) * A.r.width := by rw [Nat.add_mul]; omega
         show bU w c.ok A.r b (off + vw.lo * A.r.width + i * A.r.width) y; rw [e]; exact this
 | _ => simp [jX, N.val] at hv
theorem Rel.place {w0 : World} {mu : Mu} {c c' : Cz} {st : St} {a : Act} {w w' : World} (h : Rel w0 mu c st a w) {d B : Nat} {s0 : Sl} {A : fL} {v : Value}
   (gm : nth st d = some s0) (hd : d < a.tmps.size)
   (zE : c'.bx = c.bx) (fO : ∀ s j, ¬ (s = d ∧ j = 0) → c'.lc s j = c.lc s j) (eK : ∀ k, k ≠ B → c'.own k = c.own k)
   (UW : c'.own B = some (.sp d 0) ∨ (c'.own B = c.own B ∧ w'.heap[B]? = w.heap[B]?))
   (hB : w.heap.size ≤ B ∨ ∃ s j, c.own B = some (.sp s j) ∧ (s = d ∨ ∀ sl A, nth st s = some sl → nth sl.aJ j ≠ some (some A)))
   (hBn : c'.own B = some (.sp d 0) → B < w'.heap.size)
   (hw : ∀ k, k < w.heap.size → k ≠ B → w'.heap[k]? = w.heap[k]?) (ql : w'.os = w.os ∧ w'.tape = w.tape ∧ w'.output = w.output ∧ w.heap.size ≤ w'.heap.size)
   (hA : bF c' w' d 0 A) (wS : v.oneCell' = true) (hv : gP (c'.lc d 0) A.r.width 0 A.xs.length v) :
   Rel w0 mu c' (kS (fun s => { s with v := .one (.ref d 0 (s0.ag + 1) .full), aJ := [some A], ag := s0.ag + 1 }) st d) (a.put (some d) v) w' := by
 have hn : ∀ s, nth (kS (fun s => { s with v := .one (.ref d 0 (s0.ag + 1) .full), aJ := [some A], ag := s0.ag + 1 }) st d) s =
     if s = d then some { s0 with v := .one (.ref d 0 (s0.ag + 1) .full), aJ := [some A], ag := s0.ag + 1 } else nth st s := by
   intro s; rw [cQ]
   by_cases e : s = d
   · subst e; simp [gm]
   · simp [e]
 generalize kS (fun s => { s with v := .one (.ref d 0 (s0.ag + 1) .full), aJ := [some A], ag := s0.ag + 1 }) st d = aP at hn ⊢; have QT : ∀ k, k < w.heap.size → c.ok k → k ≠ B := by
   rintro k hk fh rfl
   rcases hB with hB | ⟨s, j, hB, _⟩
   · omega
   · unfold Cz.ok at fh; rw [hB] at fh; cases fh
 have qk : gI w w' c.ok c'.ok := ⟨ql.2.2.2, fun k hk fh => hw k hk (QT k hk fh), fun k hk fh => by unfold Cz.ok; rw [eK k (QT k hk fh)]; exact fh⟩; have fD : Fw c st w c' aP w' := {
   stays := qk
   refs := fun a' j g A' hg dP => by
     by_cases e : a' = d
     · subst e; obtain ⟨sl, k1, k2, k3⟩ := a7 dP; rw [hn, if_pos rfl] at k1; obtain rfl := Option.some.inj k1; simp only at k2; unfold cM at hg; rw [gm] at hg; simp only at hg; omega
     · have GI : aQ st a' j g = some A' := by
         unfold aQ at dP ⊢; rw [hn, if_neg e] at dP; exact dP
       refine ⟨A', GI, rfl, rfl, fO a' j (fun h => e h.1), fun _ => ⟨rfl, fun k off cap hl => ?_⟩⟩; have ha := h.qD GI; have bQ := ha.lt hl; unfold bF at ha; rw [hl] at ha; obtain ⟨g1, _⟩ := ha; refine hw k bQ ?_
       rintro rfl
       rcases hB with hB | ⟨s', j', hB, BT⟩
       · omega
       · rw [hB] at g1
         cases ho : A'.own with
         | true =>
           simp [ho] at g1; obtain ⟨rfl, rfl⟩ := g1; obtain ⟨sl, q1, _, q3⟩ := a7 GI; rcases BT with BT | BT
           · exact e BT
           · exact BT sl A' q1 q3
         | false => simp [ho] at g1
   zM := fun b' g lI _ kt => by
     refine ⟨⟨lI, ?_⟩, by rw [zE]⟩; unfold de at kt ⊢; rw [hn] at kt
     by_cases e : b' = d
     · subst e; simpa [gm] using kt
     · simpa [e] using kt
   gA := fun a' => by
     unfold cM; rw [hn]
     by_cases e : a' = d
     · subst e; simp [gm]
     · simp [e]
   gB := fun a' => by
     unfold fK; rw [hn]
     by_cases e : a' = d
     · subst e; simp [gm]
     · simp [e]
   gE := fun a' => by
     unfold kW; rw [hn]
     by_cases e : a' = d
     · subst e; simp [gm]
     · simp [e] }
 exact {
   eR := fun t => by
     have e1 : bI aP t = if t = d then .one (.ref d 0 (s0.ag + 1) .full) else bI st t := by
       unfold bI; rw [hn]
       by_cases e : t = d <;> simp [e]
     rw [e1, eval_put]
     by_cases e : t = d
     · subst e; simp only [if_true, true_and, hd]; refine ⟨wS, ?_, fun A' dP => ?_⟩
       · unfold cM; rw [hn]; simp
       · obtain ⟨sl, k1, k2, k3⟩ := a7 dP; rw [hn, if_pos rfl] at k1; obtain rfl := Option.some.inj k1; simp [nth] at k3; subst k3; exact hv
     · simp only [e, if_false]; rw [if_neg (fun h => e (Option.some.inj h.1).symm)]; exact fD.la (h.eR t)
   boxes := fun s sl lI hs hb => by
     rw [hn] at hs; have QU : tn c st w s lI := by
       by_cases e : s = d
       · subst e; rw [if_pos rfl] at hs; obtain rfl := Option.some.inj hs; exact h.boxes s s0 lI gm hb
       · rw [if_neg e] at hs; exact h.boxes s sl lI hs hb
     have bQ := h.m6 QU.1; have fm : c.bx s ≠ B := by
       intro e; rcases hB with hB | ⟨s', j, hB, _⟩
       · omega
       · rw [← e, QU.1] at hB; cases hB
     exact QU.go fD (by rw [zE]) (eK _ fm) (hw _ bQ fm)
   aJ := fun s j sl A' hs dP => by
     rw [hn] at hs
     by_cases e : s = d
     · subst e; rw [if_pos rfl] at hs; obtain rfl := Option.some.inj hs
       cases j with
       | zero => simp [nth] at dP; subst dP; exact hA
       | succ j => simp [nth] at dP
     · rw [if_neg e] at hs; have ha := h.aJ s j sl A' hs dP; refine ha.go qk (fO s j (fun h => e h.1)) (fun k g1 => ?_); have bQ : k < w.heap.size := h.m6 g1; have fm : k ≠ B := by
         rintro rfl
         rcases hB with hB | ⟨s', j', hB, BT⟩
         · omega
         · rw [hB] at g1; simp at g1; obtain ⟨rfl, rfl⟩ := g1; rcases BT with BT | BT
           · exact e BT
           · exact BT sl A' hs dP
       exact ⟨hw k bQ fm, eK k fm⟩
   owned := fun b l hb => by
     by_cases e : b = B
     · subst e; rcases UW with UW | ⟨UW, _⟩
       · refine ⟨hBn UW, ?_⟩; rcases hB with hB | ⟨s', j', hB, _⟩
         · exact .inr (.inl (Nat.le_trans h.kept.2.2.2 hB))
         · rcases (h.owned _ _ hB).2 with h2 | h2
           · cases h2
           · exact .inr h2
       · rw [UW] at hb; have := h.owned b l hb; exact ⟨Nat.lt_of_lt_of_le this.1 ql.2.2.2, this.2⟩
     · rw [eK b e] at hb; have := h.owned b l hb; exact ⟨Nat.lt_of_lt_of_le this.1 ql.2.2.2, this.2⟩
   free := fun b hb h1 => by
     by_cases e : b = B
     · subst e; rcases hB with hB | ⟨s', j', hB, _⟩
       · have := h.kept.2.2.2; omega
       · rcases (h.owned _ _ hB).2 with h2 | h2 | h2
         · cases h2
         · omega
         · exact .inl h2
     · rw [eK b e] at h1; exact h.free b hb h1
   kept := ⟨ql.1.trans h.kept.1, ql.2.1.trans h.kept.2.1, ql.2.2.1.trans h.kept.2.2.1, Nat.le_trans h.kept.2.2.2 ql.2.2.2⟩
   old := fun k hk hm => by
     have yL := Nat.lt_of_lt_of_le hk h.kept.2.2.2; rw [hw k yL (fun e => ?_)]
     · exact h.old k hk hm
     · subst e; rcases hB with hB | ⟨s', j', hB, _⟩
       · omega
       · rcases (h.owned _ _ hB).2 with h2 | h2 | h2
         · cases h2
         · omega
         · exact hm h2
   dO := fun p hp => fD.dO (h.dO p hp)
   plain := h.plain }
end Go.TM
namespace Go.TM
open Go Go.RowKit
theorem Rel.QV {w0 : World} {mu : Mu} {c : Cz} {st : St} {a : Act} {w : World} (_h : Rel w0 mu c st a w) (s j : Nat) : Fw c st w c (bh st s j none) w := by
 have hn : ∀ k, ∃ f : Sl → Sl, (∀ x, (f x).v = x.v ∧ (f x).box = x.box ∧ (f x).bg = x.bg ∧ (f x).ag = x.ag ∧
     (∀ i, nth (f x).aJ i = if k = s ∧ i = j then (nth x.aJ i).map (fun _ => none) else nth x.aJ i) ∧ (f x).ep = if k = s then x.ep + 1 else x.ep) ∧ nth (bh st s j none) k = (nth st k).map f := by
   intro k; unfold bh
   by_cases e : k = s
   · subst e; refine ⟨fun s => { s with aJ := kS (fun _ => none) s.aJ j, ep := s.ep + 1 }, fun x => ⟨rfl, rfl, rfl, rfl, fun i => ?_, by simp⟩, ia _ _ _⟩; simp only [cQ, true_and]
   · refine ⟨id, fun x => ⟨rfl, rfl, rfl, rfl, fun i => ?_, by simp [e]⟩, by rw [kr _ _ e]; simp⟩; simp [e]
 generalize bh st s j none = aP at hn ⊢; exact {
   stays := gI.refl w _
   refs := fun a' j' g A' _ dP => by
     obtain ⟨sl, k1, k2, k3⟩ := a7 dP; obtain ⟨f, hf, hk⟩ := hn a'; rw [hk] at k1
     cases hx : nth st a' with
     | none => rw [hx] at k1; simp at k1
     | some x =>
       rw [hx] at k1; simp at k1; subst k1; rw [(hf x).2.2.2.2.1 j'] at k3; rw [(hf x).2.2.2.1] at k2; refine ⟨A', ?_, rfl, rfl, rfl, fun _ => ⟨rfl, fun _ _ _ _ => rfl⟩⟩
       by_cases e : a' = s ∧ j' = j
       · rw [if_pos e] at k3
         cases hq : nth x.aJ j' <;> simp [hq] at k3
       · rw [if_neg e] at k3; unfold aQ; rw [hx]; have : Nat.beq x.ag g = true := by rw [k2]; exact Nat.beq_refl g
         simp [this, k3]
   zM := fun b g lI _ hb => by
     refine ⟨⟨lI, ?_⟩, rfl⟩; obtain ⟨f, hf, hk⟩ := hn b; unfold de at hb ⊢; rw [hk] at hb
     cases hx : nth st b with
     | none => rw [hx] at hb; simp at hb
     | some x => rw [hx] at hb; simpa [(hf x).2.1, (hf x).2.2.1] using hb
   gA := fun b => by
     obtain ⟨f, hf, hk⟩ := hn b; unfold cM; rw [hk]
     cases hx : nth st b with
     | none => simp
     | some x => simp [(hf x).2.2.2.1]
   gB := fun b => by
     obtain ⟨f, hf, hk⟩ := hn b; unfold fK; rw [hk]
     cases hx : nth st b with
     | none => simp
     | some x => simp [(hf x).2.2.1]
   gE := fun b => by
     obtain ⟨f, hf, hk⟩ := hn b; unfold kW; rw [hk]
     cases hx : nth st b with
     | none => simp
     | some x =>
       simp only [Option.map_some]; rw [(hf x).2.2.2.2.2]
       split <;> omega }
theorem Rel.kill {w0 : World} {mu : Mu} {c : Cz} {st : St} {a : Act} {w : World} (h : Rel w0 mu c st a w) (s j : Nat) :
   Rel w0 mu c (bh st s j none) a w ∧ ∀ sl A, nth (bh st s j none) s = some sl → nth sl.aJ j ≠ some (some A) := by
 have hn : ∀ k, ∃ f : Sl → Sl, (∀ x, (f x).v = x.v ∧ (f x).box = x.box ∧ (f x).bg = x.bg ∧ (f x).ag = x.ag ∧
     (∀ i, nth (f x).aJ i = if k = s ∧ i = j then (nth x.aJ i).map (fun _ => none) else nth x.aJ i) ∧ (f x).ep = if k = s then x.ep + 1 else x.ep) ∧ nth (bh st s j none) k = (nth st k).map f := by
   intro k; unfold bh
   by_cases e : k = s
   · subst e; refine ⟨fun s => { s with aJ := kS (fun _ => none) s.aJ j, ep := s.ep + 1 }, fun x => ⟨rfl, rfl, rfl, rfl, fun i => ?_, by simp⟩, ia _ _ _⟩; simp only [cQ, true_and]
   · refine ⟨id, fun x => ⟨rfl, rfl, rfl, rfl, fun i => ?_, by simp [e]⟩, by rw [kr _ _ e]; simp⟩; simp [e]
 generalize bh st s j none = aP at hn ⊢; have fD : Fw c st w c aP w := {
   stays := gI.refl w _
   refs := fun a' j' g A' _ dP => by
     obtain ⟨sl, k1, k2, k3⟩ := a7 dP; obtain ⟨f, hf, hk⟩ := hn a'; rw [hk] at k1
     cases hx : nth st a' with
     | none => rw [hx] at k1; simp at k1
     | some x =>
       rw [hx] at k1; simp at k1; subst k1; rw [(hf x).2.2.2.2.1 j'] at k3; rw [(hf x).2.2.2.1] at k2; refine ⟨A', ?_, rfl, rfl, rfl, fun _ => ⟨rfl, fun _ _ _ _ => rfl⟩⟩
       by_cases e : a' = s ∧ j' = j
       · rw [if_pos e] at k3
         cases hq : nth x.aJ j' <;> simp [hq] at k3
       · rw [if_neg e] at k3; unfold aQ; rw [hx]; have : Nat.beq x.ag g = true := by rw [k2]; exact Nat.beq_refl g
         simp [this, k3]
   zM := fun b g lI _ hb => by
     refine ⟨⟨lI, ?_⟩, rfl⟩; obtain ⟨f, hf, hk⟩ := hn b; unfold de at hb ⊢; rw [hk] at hb
     cases hx : nth st b with
     | none => rw [hx] at hb; simp at hb
     | some x => rw [hx] at hb; simpa [(hf x).2.1, (hf x).2.2.1] using hb
   gA := fun b => by
     obtain ⟨f, hf, hk⟩ := hn b; unfold cM; rw [hk]
     cases hx : nth st b with
     | none => simp
     | some x => simp [(hf x).2.2.2.1]
   gB := fun b => by
     obtain ⟨f, hf, hk⟩ := hn b; unfold fK; rw [hk]
     cases hx : nth st b with
     | none => simp
     | some x => simp [(hf x).2.2.1]
   gE := fun b => by
     obtain ⟨f, hf, hk⟩ := hn b; unfold kW; rw [hk]
     cases hx : nth st b with
     | none => simp
     | some x =>
       simp only [Option.map_some]; rw [(hf x).2.2.2.2.2]
       split <;> omega }
 refine ⟨{
   eR := fun t => by
     obtain ⟨f, hf, hk⟩ := hn t; have : bI aP t = bI st t := by
       unfold bI; rw [hk]
       cases hx : nth st t with
       | none => rfl
       | some x => exact (hf x).1
     rw [this]; exact fD.la (h.eR t)
   boxes := fun b sl cs hs hb => by
     obtain ⟨f, hf, hk⟩ := hn b; rw [hk] at hs
     cases hx : nth st b with
     | none => rw [hx] at hs; simp at hs
     | some x =>
       rw [hx] at hs; simp at hs; subst hs; rw [(hf x).2.1] at hb; exact (h.boxes b x cs hx hb).go fD rfl rfl rfl
   aJ := fun b i sl A hs hA => by
     obtain ⟨f, hf, hk⟩ := hn b; rw [hk] at hs
     cases hx : nth st b with
     | none => rw [hx] at hs; simp at hs
     | some x =>
       rw [hx] at hs; simp at hs; subst hs; rw [(hf x).2.2.2.2.1 i] at hA
       by_cases e : b = s ∧ i = j
       · rw [if_pos e] at hA
         cases hq : nth x.aJ i <;> simp [hq] at hA
       · rw [if_neg e] at hA; exact h.aJ b i x A hx hA
   owned := h.owned
   free := h.free
   kept := h.kept
   old := h.old
   dO := fun p hp => fD.dO (h.dO p hp)
   plain := h.plain }, fun sl A hs => ?_⟩
 obtain ⟨f, hf, hk⟩ := hn s; rw [hk] at hs
 cases hx : nth st s with
 | none => rw [hx] at hs; simp at hs
 | some x =>
   rw [hx] at hs; simp at hs; subst hs; rw [(hf x).2.2.2.2.1 j, if_pos ⟨rfl, rfl⟩]
   cases nth x.aJ j <;> simp
def Cz.bk (c : Cz) (d : Nat) (L : Loc) (B : Option Nat) : Cz :=
 { bx := c.bx, lc := fun s j => if s = d ∧ j = 0 then L else c.lc s j, own := fun k => if B = some k then some (.sp d 0) else c.own k }
theorem kJ {st : St} {d : Option Nat} {A : fL} {aP : St} (h : (bk st d A).val = some aP) :
   ∃ k s0, d = some k ∧ nth st k = some s0 ∧ aP = kS (fun s => { s with v := .one (.ref k 0 (s0.ag + 1) .full), aJ := [some A], ag := s0.ag + 1 }) st k := by
 unfold bk at h
 cases d with
 | none => simp [N.val] at h
 | some k =>
   cases hs : nth st k with
   | none => simp [hs, N.val] at h
   | some s0 =>
     simp only [hs, N.val, Option.some.injEq] at h; exact ⟨k, s0, rfl, hs, h.symm⟩
theorem yM {st : St} {d : Option Nat} {cs : List CV} {aP : St} (h : (gq st d cs).val = some aP) :
   ∃ k s0, d = some k ∧ nth st k = some s0 ∧ aP = kS (fun s => { s with v := .one (.ptr k (s0.bg + 1) 0), box := some cs, bg := s0.bg + 1 }) st k := by
 unfold gq at h
 cases d with
 | none => simp [N.val] at h
 | some k =>
   cases hs : nth st k with
   | none => simp [hs, N.val] at h
   | some s0 =>
     simp only [hs, N.val, Option.some.injEq] at h; exact ⟨k, s0, rfl, hs, h.symm⟩
theorem Rel.fresh {w0 : World} {mu : Mu} {c : Cz} {st : St} {a : Act} {w : World} (h : Rel w0 mu c st a w) {d : Nat} {s0 : Sl} {r : RT} {xs : List (ak r)} {cur : Array Value} {ty cap : Nat}
   (gm : nth st d = some s0) (hd : d < a.tmps.size) (hle : xs.length ≤ cap) (jB : cap * r.width ≤ cur.size) {vs : List Value} (w9 : aY w c.ok r vs xs) (QW : cur.toList.take vs.length = vs) :
   ∃ c', Rel w0 mu c' (kS (fun s => { s with v := .one (.ref d 0 (s0.ag + 1) .full), aJ := [some { r := r, own := true, xs := xs }], ag := s0.ag + 1 }) st d)
     (a.put (some d) (.slice (some ⟨w.heap.size, 0, none⟩) xs.length cap)) (w.alloc (.cells cur ty (0, 0))) := by
 have tv := heap_alloc_new w (.cells cur ty (0, 0)); refine ⟨c.bk d (.at w.heap.size 0 cap) (some w.heap.size), h.place (B := w.heap.size) (A := { r := r, own := true, xs := xs }) gm hd rfl ?_ ?_ (.inl ?_) (.inl (Nat.le_refl _)) (fun _ => by simp) (fun k hk _ => heap_alloc_old w _ k hk)
   ⟨rfl, rfl, rfl, by simp⟩ ?_ rfl ?_⟩
 · intro s j fm; simp [Cz.bk, fm]
 · intro k hk; simp only [Cz.bk]; rw [if_neg (by intro e; exact hk (Option.some.inj e).symm)]
 · simp [Cz.bk]
 · have qk : gI w (w.alloc (.cells cur ty (0, 0))) c.ok (c.bk d (.at w.heap.size 0 cap) (some w.heap.size)).ok := tu w _ _ _ (fun b hb fh => by
     unfold Cz.ok Cz.bk; simp only; rw [if_neg (by intro e; have := Option.some.inj e; omega)]; exact fh)
   unfold bF; simp only [Cz.bk, and_self, if_true]; refine ⟨trivial, hle, ⟨cur, ty, tv, by simpa using jB⟩, ?_⟩; refine (bj.sh rfl).2 ?_; refine p6 0 vs xs (aY.stays qk vs xs w9) (fun j v hv => ?_); rw [cell_of_row _ _ _ cur ty (0, 0) tv, Nat.zero_add]; have hj : j < vs.length := (List.getElem?_eq_some_iff.1 hv).1; rw [← QW, List.getElem?_take, if_pos hj] at hv; simpa using hv
 · simp only [Cz.bk, and_self, if_true]; exact ⟨_, cap, rfl, hle, by omega, fun _ => by simp⟩
theorem BU {P : Program} {t ty e : TypeId} {i : TypeInfo} (ht : P.underlying t = some (.slice e)) (hi : P.info? e = some i) (w : World)
   (g o xa Dx : Nat) (cur : Array Value) (te : TypeId) (hg : w.heap[g]? = some (.cells cur te (0, 0)))
   (a : Addr) (m c : Nat) (news : List Value) (hl : news.length = m * i.size) (UX : ∀ j u, news[j]? = some u → w.cell? (a.add j) = some u) (h1 : ∀ u ∈ news, u.oneCell' = true)
   (qF : xa + m ≤ Dx) (oN : o + xa * i.size + news.length ≤ cur.size) :
   (Builtin.append_ #[t, t] ty #[.slice (some ⟨g, o, none⟩) xa Dx, .slice (some a) m c]).run P w =
     .ok (.slice (some ⟨g, o, none⟩) (xa + m) Dx) (w.setRow g (bq cur.toList (o + xa * i.size) news).toArray) := by
 have hf := run_firstCells_some (P := P) w i.size m a m c news hl UX; have qk := run_storeCells_at P g (o + xa * i.size) te news 0 cur w hg (by simpa using oN) h1; simp only [Nat.add_zero] at qk; simp [Builtin.append_, run_underlying ht, sizeOf, typeInfo, hi, Builtin.lenOf, qF, hf, Addr.add_mid, qk, bq]
theorem run_append_nothing {P : Program} {t ty e : TypeId} {i : TypeInfo} (ht : P.underlying t = some (.slice e)) (hi : P.info? e = some i) (w : World) (base : Option Addr) (xa Dx : Nat) (hle : xa ≤ Dx)
   (x : Value) (hx : (x = .slice none 0 0) ∨ ∃ a c, x = .slice (some a) 0 c) :
   (Builtin.append_ #[t, t] ty #[.slice base xa Dx, x]).run P w = .ok (.slice base xa Dx) w := by
 rcases hx with rfl | ⟨a, c, rfl⟩
 · cases base <;> simp [Builtin.append_, run_underlying ht, sizeOf, typeInfo, hi, Builtin.lenOf, Builtin.firstCells, hle, storeCells]
 · cases base <;> simp [Builtin.append_, run_underlying ht, sizeOf, typeInfo, hi, Builtin.lenOf, Builtin.firstCells, hle, storeCells, loadCells, loadCellsFrom]
end Go.TM
namespace Go.TM
open Go Go.RowKit
def cO (w : World) (P : List Nat → Nat → Prop) : (r : RT) → (p : List Nat) → (k : Nat) → List Value → ak r → Prop
 | .nil, _, _, vs, _ => vs = []
 | .cons t r, p, k, vs, x => ∃ v l, vs = v :: l ∧ cN w P t (p ++ [k]) v x.1 ∧ cO w P r p (k + 1) l x.2
theorem cO.length {w : World} {P : List Nat → Nat → Prop} : (r : RT) → (p : List Nat) → (k : Nat) → (vs : List Value) → (x : ak r) → cO w P r p k vs x → vs.length = r.width
 | .nil, _, _, vs, _, h => by simp only [cO] at h; subst h; rfl
 | .cons t r, p, k, vs, x, h => by
   obtain ⟨v, l, rfl, _, h⟩ := h; simp [RT.width, cO.length r p (k + 1) l x.2 h]
theorem iw {w : World} {P : List Nat → Nat → Prop} : (r : RT) → (p : List Nat) → (k b off : Nat) → (x : ak r) → (fp w P r p k b off x ↔ ∃ vs, w.rangeAt b off vs ∧ cO w P r p k vs x)
 | .nil, _, _, _, _, _ => by
   unfold fp; exact ⟨fun _ => ⟨[], fun j v h => by simp at h, rfl⟩, fun _ => trivial⟩
 | .cons t r, p, k, b, off, x => by
   unfold fp
   constructor
   · rintro ⟨⟨v, hv, hx⟩, hr⟩
     obtain ⟨vs, h1, h2⟩ := (iw r p (k + 1) b (off + 1) x.2).1 hr; refine ⟨v :: vs, fun j u hu => ?_, v, vs, rfl, hx, h2⟩
     cases j with
     | zero => simp at hu; rw [← hu]; exact hv
     | succ j =>
       simp at hu; rw [show off + (j + 1) = off + 1 + j by omega]; exact h1 j u hu
   · rintro ⟨vs, h1, v, l, rfl, hx, h2⟩
     refine ⟨⟨v, h1 0 v rfl, hx⟩, (iw r p (k + 1) b (off + 1) x.2).2 ⟨l, fun j u hu => ?_, h2⟩⟩; have := h1 (j + 1) u (by simpa using hu); rw [show off + 1 + j = off + (j + 1) by omega]; exact this
theorem cO.go {w w' : World} {P P' : List Nat → Nat → Prop} : (r : RT) → (p p' : List Nat) → (hP : ∀ q b, P (p ++ q) b → w'.heap[b]? = w.heap[b]? ∧ P' (p' ++ q) b) → (k : Nat) → (vs : List Value) → (x : ak r) → cO w P r p k vs x → cO w' P' r p' k vs x
 | .nil, _, _, _, _, _, _, h => h
 | .cons t r, p, p', hP, k, vs, x, h => by
   obtain ⟨v, l, e, h1, h2⟩ := h; refine ⟨v, l, e, cN.go t (p ++ [k]) (p' ++ [k]) (fun q b hb => ?_) v x.1 h1, cO.go r p p' hP (k + 1) l x.2 h2⟩; have := hP ([k] ++ q) b (by rw [← List.append_assoc]; exact hb); rw [← List.append_assoc] at this; exact this
theorem Ai {w : World} {P : List Nat → Nat → Prop} {c : Cz} {st : St} {w1 : World} : (r : RT) → (p : List Nat) → (k0 : Nat) → (x : ak r) → (k : Nat) → (y : CV) → (z : ak r) → (vs : List Value) → (u : Value) →
   eV r x k y = some z → iv c st w1 y u → cO w P r p k0 vs x → cO w P r p k0 (vs.set k u) z
 | .nil, _, _, _, _, _, _, _, _, h, _, _ => by simp [eV] at h
 | .cons t r, p, k0, x, 0, y, z, vs, u, h, hu, hv => by
   obtain ⟨v, l, rfl, hx, hr⟩ := hv
   cases t with
   | int k => cases y <;> simp [eV] at h
              obtain ⟨rfl, h⟩ := h; obtain rfl := Option.some.inj h; exact ⟨u, l, rfl, vC.2 hu, hr⟩
   | bool => cases y <;> simp [eV] at h
             obtain rfl := Option.some.inj h; exact ⟨u, l, rfl, ru.2 hu, hr⟩
   | str => cases y <;> simp [eV] at h
            obtain rfl := Option.some.inj h; exact ⟨u, l, rfl, vD.2 hu, hr⟩
   | sl q => cases y <;> simp [eV] at h
 | .cons t r, p, k0, x, k + 1, y, z, vs, u, h, hu, hv => by
   obtain ⟨v, l, rfl, hx, hr⟩ := hv; have h' : (eV r x.2 k y).map (fun z => ((x.1, z) : ak (.cons t r))) = some z := by cases t <;> (simp only [eV] at h; exact h)
   cases hq : eV r x.2 k y with
   | none => simp [hq] at h'
   | some z' =>
     rw [hq] at h'; obtain rfl := Option.some.inj h'; exact ⟨v, l.set k u, rfl, hx, Ai r p (k0 + 1) x.2 k y z' l u hq hu hr⟩
theorem Aj {w : World} {P : List Nat → Nat → Prop} {c : Cz} {st : St} {w1 : World} (r : RT) (p : List Nat) (k0 : Nat) (x : ak r) : (off : Nat) → (cs : List CV) → (z : ak r) → (vs us : List Value) → off + us.length ≤ vs.length →
   ji r x off cs = some z → ew c st w1 cs us → cO w P r p k0 vs x → cO w P r p k0 (bq vs off us) z
 | off, [], z, vs, us, _, h, hl, hv => by
   have : us = [] := by have := hl.1; simp at this; exact List.length_eq_zero_iff.1 this.symm
   subst this; simp [ji] at h; subst h; simp [bq]; exact hv
 | off, y :: l, z, vs, us, hle, h, hl, hv => by
   cases us with
   | nil => have := hl.1; simp at this
   | cons u us =>
     simp only [ji] at h
     cases hq : ji r x (off + 1) l with
     | none => simp [hq] at h
     | some y' =>
       simp only [hq] at h; simp at hle; have ih := Aj r p k0 x (off + 1) l y' vs us (by omega) hq ⟨by have := hl.1; simpa using this, fun i a b ha hb => hl.2 (i + 1) a b (by simpa using ha) (by simpa using hb)⟩ hv; rw [yI (by omega)]; exact Ai r p k0 y' off y z _ u h (hl.2 0 y u rfl rfl) ih
mutual
theorem bE.dep {w : World} {P : List Nat → Nat → Prop} {ok : Nat → Prop} : (t : Ty) → (p : List Nat) → (v : Value) → (x : den t) → RT.dD (.cons t .nil) = false → bE w ok t v x → cN w P t p v x
 | .int _, _, _, _, _, h => vC.2 (oK.1 h)
 | .bool, _, _, _, _, h => ru.2 (pY.1 h)
 | .str, _, _, _, _, h => vD.2 (tk.1 h)
 | .sl _, _, _, _, hs, _ => by simp [RT.dD] at hs
theorem bU.dep {w : World} {P : List Nat → Nat → Prop} {ok : Nat → Prop} : (r : RT) → (p : List Nat) → (k b off : Nat) → (x : ak r) → r.dD = false → bU w ok r b off x → fp w P r p k b off x
 | .nil, _, _, _, _, _, _, _ => by unfold fp; trivial
 | .cons t r, p, k, b, off, x, hs, h => by
   unfold bU at h; unfold fp; obtain ⟨⟨v, h1, h2⟩, h3⟩ := h; refine ⟨⟨v, h1, bE.dep t _ v x.1 ?_ h2⟩, bU.dep r p (k + 1) b (off + 1) x.2 ?_ h3⟩
   · cases t <;> simp_all [RT.dD]
   · cases t <;> simp_all [RT.dD]
end
theorem fp.EA {w : World} {P : List Nat → Nat → Prop} {ok : Nat → Prop} : (r : RT) → (p : List Nat) → (k b off : Nat) → (x : ak r) → r.dD = false → fp w P r p k b off x → bU w ok r b off x
 | .nil, _, _, _, _, _, _, _ => by unfold bU; trivial
 | .cons t r, p, k, b, off, x, hs, h => by
   unfold fp at h; unfold bU; obtain ⟨⟨v, h1, h2⟩, h3⟩ := h; refine ⟨⟨v, h1, ?_⟩, fp.EA r p (k + 1) b (off + 1) x.2 (by cases t <;> simp_all [RT.dD]) h3⟩
   cases t with
   | int _ => exact oK.2 (vC.1 h2)
   | bool => exact pY.2 (ru.1 h2)
   | str => exact tk.2 (vD.1 h2)
   | sl _ => simp [RT.dD] at hs
theorem bj.Le {c : Cz} {w : World} {l : Lb} {A : fL} {b off : Nat} (hm : A.md = .sh) {ys : List (ak A.r)} (h : ∀ (i : Nat) x, ys[i]? = some x → bU w c.ok A.r b (off + i * A.r.width) x) : bj c w l { A with xs := ys } b off := by
 unfold bj; show match A.md with | .sh => _ | .dp => _ | .ho _ => _
 rw [hm]; exact h
def RT.md (q : RT) : Md := bif q.dD then .dp else .sh
theorem Om {c : Cz} {w : World} {s j : Nat} {A : fL} (h : bF c w s j A) (ho : A.own = true) (hm : A.md = A.r.md) {v : Value} (h1 : v.oneCell' = true) (hv : gP (c.lc s j) A.r.width 0 A.xs.length v) :
   ∃ g : Nat → List Nat, ∀ (P : List Nat → Nat → Prop) (p : List Nat), (∀ k, c.own k = some (.sp s j) → P (p ++ g k) k) → cN w P (.sl A.r) p v A.xs := by
 unfold bF at h
 cases hl : c.lc s j with
 | nil =>
   rw [hl] at h hv; exact ⟨fun _ => [], fun P p _ => (tl _ _ _ _ _ _).2 ⟨.nil, hv, h1, .inl ⟨rfl, h⟩⟩⟩
 | «at» b off cap =>
   rw [hl] at h hv; obtain ⟨h0, h2, h3, h4⟩ := h; rw [ho] at h0; unfold bj at h4; rw [hm] at h4; unfold RT.md at h4
   cases hs : A.r.dD with
   | false =>
     rw [hs] at h4; refine ⟨fun _ => [], fun P p hP => (tl _ _ _ _ _ _).2 ⟨_, hv, h1, .inr ⟨b, off, cap, rfl, ?_, h2, h3, fun i x hx => bU.dep _ _ _ _ _ x hs (h4 i x hx)⟩⟩⟩; simpa using hP b h0
   | true =>
     rw [hs] at h4; obtain ⟨g, g1, g2⟩ := h4; refine ⟨g, fun P p hP => (tl _ _ _ _ _ _).2 ⟨_, hv, h1, .inr ⟨b, off, cap, rfl, ?_, h2, h3, fun i x hx => fp.go _ [i] (p ++ [i]) (fun q k hk => ⟨rfl, ?_⟩) _ _ _ x rfl (g2 i x hx)⟩⟩⟩
     · have := hP b h0
       rwa [g1, List.append_nil] at this
     · have := hP k hk.1; rw [hk.2] at this
       rwa [List.append_assoc]
theorem Lf {c : Cz} {w : World} {s j : Nat} {A : fL} (h : bF c w s j A) (ho : A.own = true) (hm : A.md = A.r.md) :
   ∃ g : Nat → List Nat, ∀ v : Value, v.oneCell' = true → gP (c.lc s j) A.r.width 0 A.xs.length v → ∀ (P : List Nat → Nat → Prop) (p : List Nat), (∀ k, c.own k = some (.sp s j) → P (p ++ g k) k) → cN w P (.sl A.r) p v A.xs := by
 by_cases e : ∃ v : Value, v.oneCell' = true ∧ gP (c.lc s j) A.r.width 0 A.xs.length v
 · unfold bF at h
   cases hl : c.lc s j with
   | nil =>
     rw [hl] at h; exact ⟨fun _ => [], fun v h1 hv P p _ => (tl _ _ _ _ _ _).2 ⟨.nil, hv, h1, .inl ⟨rfl, h⟩⟩⟩
   | «at» b off cap =>
     rw [hl] at h; obtain ⟨h0, h2, h3, h4⟩ := h; rw [ho] at h0; unfold bj at h4; rw [hm] at h4; unfold RT.md at h4
     cases hs : A.r.dD with
     | false =>
       rw [hs] at h4; refine ⟨fun _ => [], fun v h1 hv P p hP => (tl _ _ _ _ _ _).2 ⟨_, hv, h1, .inr ⟨b, off, cap, rfl, ?_, h2, h3, fun i x hx => bU.dep _ _ _ _ _ x hs (h4 i x hx)⟩⟩⟩; simpa using hP b h0
     | true =>
       rw [hs] at h4; obtain ⟨g, g1, g2⟩ := h4; refine ⟨g, fun v h1 hv P p hP => (tl _ _ _ _ _ _).2 ⟨_, hv, h1, .inr ⟨b, off, cap, rfl, ?_, h2, h3, fun i x hx => fp.go _ [i] (p ++ [i]) (fun q k hk => ⟨rfl, ?_⟩) _ _ _ x rfl (g2 i x hx)⟩⟩⟩
       · have := hP b h0
         rwa [g1, List.append_nil] at this
       · have := hP k hk.1; rw [hk.2] at this
         rwa [List.append_assoc]
 · exact ⟨fun _ => [], fun v h1 h2 => absurd ⟨v, h1, h2⟩ e⟩
theorem xc {w0 : World} {mu : Mu} {c : Cz} {st : St} {a : Act} {w : World} (h : Rel w0 mu c st a w) : (r : RT) → (cs : List CV) → (us : List Value) → ew c st w cs us → {x : ak r} → {m : List (Option (Nat × Nat))} → fH st r cs = some (x, m) →
   m.length = r.width ∧ (∀ (col : Nat) (n : Nat × Nat), m[col]? = some (some n) → ∃ g A, aQ st n.1 n.2 g = some A ∧ A.own = true) ∧
   ∃ G : Nat → Nat → List Nat, ∀ (P : List Nat → Nat → Prop) (p : List Nat) (k0 : Nat), (∀ (col : Nat) (n : Nat × Nat) (k : Nat), m[col]? = some (some n) → c.own k = some (.sp n.1 n.2) → P (p ++ [k0 + col] ++ G col k) k) → cO w P r p k0 us x
 | .nil, cs, us, hl, x, m, hv => by
   cases cs with
   | cons _ _ => simp [fH] at hv
   | nil =>
     have : us = [] := by have := hl.1; simp at this; exact List.length_eq_zero_iff.1 this.symm
     subst this; simp only [fH, Option.some.injEq, Prod.mk.injEq] at hv; obtain ⟨_, rfl⟩ := hv; exact ⟨rfl, fun col n h => by simp at h, fun _ _ => [], fun _ _ _ _ => rfl⟩
 | .cons t r, cs, us, hl, x, m, hv => by
   cases cs with
   | nil => cases t <;> simp [fH] at hv
   | cons y cs =>
     cases us with
     | nil => have := hl.1; simp at this
     | cons u us =>
       have hu : iv c st w y u := hl.2 0 y u rfl rfl; have vk : ew c st w cs us := ⟨by have := hl.1; simpa using this, fun i a b ha hb => hl.2 (i + 1) a b (by simpa using ha) (by simpa using hb)⟩; have cell : ∀ (d : den t) (o : Option (Nat × Nat)) (z : ak r) (m' : List (Option (Nat × Nat))), fH st r cs = some (z, m') → (∀ n, o = some n → ∃ g A, aQ st n.1 n.2 g = some A ∧ A.own = true) →
           (∃ g : Nat → List Nat, ∀ (P : List Nat → Nat → Prop) (p : List Nat), (∀ n k, o = some n → c.own k = some (.sp n.1 n.2) → P (p ++ g k) k) → cN w P t p u d) → x = (d, z) → m = o :: m' →
           m.length = (RT.cons t r).width ∧ (∀ (col : Nat) (n : Nat × Nat), m[col]? = some (some n) → ∃ g A, aQ st n.1 n.2 g = some A ∧ A.own = true) ∧
           ∃ G : Nat → Nat → List Nat, ∀ (P : List Nat → Nat → Prop) (p : List Nat) (k0 : Nat), (∀ (col : Nat) (n : Nat × Nat) (k : Nat), m[col]? = some (some n) → c.own k = some (.sp n.1 n.2) → P (p ++ [k0 + col] ++ G col k) k) → cO w P (.cons t r) p k0 (u :: us) x := by
         intro d o z m' hz ho hd e1 e2; subst e1 e2; obtain ⟨g1, g2, G, g3⟩ := xc h r cs us vk hz; obtain ⟨g, hd⟩ := hd; refine ⟨by simp [RT.width, g1], fun col n hc => ?_, fun col => match col with | 0 => g | col + 1 => G col, fun P p k0 hP => ⟨u, us, rfl, hd P _ fun n k hn hk => ?_, g3 P p (k0 + 1) fun col n k hc hk => ?_⟩⟩
         · cases col with
           | zero => exact ho n (by simpa using hc)
           | succ col => exact g2 col n (by simpa using hc)
         · have := hP 0 n k (by simp [hn]) hk; simpa using this
         · have := hP (col + 1) n k (by simpa using hc) hk
           rwa [show k0 + (col + 1) = k0 + 1 + col by omega] at this
       have plain : ∀ (d : den t), (∀ (P : List Nat → Nat → Prop) (p : List Nat), cN w P t p u d) → (match fH st r cs with | some p => some ((d, p.1), none :: p.2) | none => (none : Option (ak (.cons t r) × List (Option (Nat × Nat))))) = some (x, m) →
           m.length = (RT.cons t r).width ∧ (∀ (col : Nat) (n : Nat × Nat), m[col]? = some (some n) → ∃ g A, aQ st n.1 n.2 g = some A ∧ A.own = true) ∧
           ∃ G : Nat → Nat → List Nat, ∀ (P : List Nat → Nat → Prop) (p : List Nat) (k0 : Nat), (∀ (col : Nat) (n : Nat × Nat) (k : Nat), m[col]? = some (some n) → c.own k = some (.sp n.1 n.2) → P (p ++ [k0 + col] ++ G col k) k) → cO w P (.cons t r) p k0 (u :: us) x := by
         intro d hd hv
         cases hz : fH st r cs with
         | none => rw [hz] at hv; cases hv
         | some q =>
           rw [hz] at hv; have hv := Option.some.inj hv; exact cell d none q.1 q.2 hz (fun n e => by cases e) ⟨fun _ => [], fun P p _ => hd P p⟩ (congrArg Prod.fst hv).symm (congrArg Prod.snd hv).symm
       cases t with
       | int q =>
         cases y with
         | int l n =>
           simp only [fH] at hv
           by_cases e : q = l
           · rw [if_pos e] at hv; exact plain n (fun P p => vC.2 (by rw [e]; exact hu)) hv
           · rw [if_neg e] at hv; cases hv
         | _ => simp [fH] at hv
       | bool =>
         cases y with
         | bool b => exact plain b (fun P p => ru.2 hu) (by simp only [fH] at hv; exact hv)
         | _ => simp [fH] at hv
       | str =>
         cases y with
         | str s => exact plain s (fun P p => vD.2 hu) (by simp only [fH] at hv; exact hv)
         | _ => simp [fH] at hv
       | sl q =>
         cases y with
         | dq => exact plain ([] : List (ak q)) (fun P p => (tl _ _ _ _ _ _).2 ⟨.nil, ⟨hu, rfl⟩, by rw [show u = .slice none 0 0 from hu]; rfl, .inl ⟨rfl, rfl⟩⟩) (by simp only [fH] at hv; exact hv)
         | ref a' j g vw =>
           cases vw with
           | full =>
             simp only [fH] at hv
             cases hA : aQ st a' j g with
             | none => simp [hA] at hv
             | some A =>
               simp only [hA] at hv; obtain ⟨hc, lK⟩ := aD hv; clear hv; rw [Bool.and_eq_true] at hc; have hm := Md.kq.1 hc.2
               cases oO : bo q A.xs with
               | none => rw [oO] at lK; cases lK
               | some ys =>
                 rw [oO] at lK; simp only at lK
                 cases hz : fH st r cs with
                 | none => rw [hz] at lK; cases lK
                 | some qq =>
                   rw [hz] at lK; have lK := Option.some.inj lK; obtain ⟨e, he⟩ := aX oO; subst e; simp only at he; subst he; refine cell A.xs (some (a', j)) qq.1 qq.2 hz (fun n e => by cases e; exact ⟨g, A, hA, hc.1⟩) ?_ (congrArg Prod.fst lK).symm (congrArg Prod.snd lK).symm; obtain ⟨gg, h2⟩ := Om (h.qD hA) hc.1 hm hu.1 (hu.2.2 A hA); exact ⟨gg, fun P p hP => h2 P p fun k hk => hP (a', j) k rfl hk⟩
           | «from» _ => simp [fH] at hv
           | sub _ _ => simp [fH] at hv
         | _ => simp [fH] at hv
theorem jC {w0 : World} {mu : Mu} {c : Cz} {a : Act} {w : World} : (m : List (Nat × Nat)) → {st : St} → Rel w0 mu c st a w → Rel w0 mu c (fM st m) a w ∧ (∀ n ∈ m, ∀ sl A, nth (fM st m) n.1 = some sl → nth sl.aJ n.2 ≠ some (some A)) ∧
   (∀ s j sl A, (s, j) ∉ m → nth st s = some sl → nth sl.aJ j = some (some A) → ∃ PH, nth (fM st m) s = some PH ∧ nth PH.aJ j = some (some A)) ∧ Fw c st w c (fM st m) w ∧ ∀ s j A, (∀ sl, nth st s = some sl → nth sl.aJ j ≠ some (some A)) → ∀ sl, nth (fM st m) s = some sl → nth sl.aJ j ≠ some (some A)
 | [], st, h => ⟨h, by simp, fun s j sl A _ h1 h2 => ⟨sl, h1, h2⟩, Fw.refl c st w, fun s j A h => h⟩
 | (s0, j0) :: m, st, h => by
   obtain ⟨k1, k2⟩ := h.kill s0 j0; obtain ⟨h1, h2, h3, h4, h5⟩ := jC m k1; have hn : ∀ k, ∃ f : Sl → Sl, (∀ x, ∀ i, nth (f x).aJ i = if k = s0 ∧ i = j0 then (nth x.aJ i).map (fun _ => none) else nth x.aJ i) ∧ nth (bh st s0 j0 none) k = (nth st k).map f := by
     intro k; unfold bh
     by_cases e : k = s0
     · subst e; refine ⟨fun s => { s with aJ := kS (fun _ => none) s.aJ j0, ep := s.ep + 1 }, fun x i => ?_, ia _ _ _⟩; simp only [cQ, true_and]
     · refine ⟨id, fun x i => ?_, by rw [kr _ _ e]; simp⟩; simp [e]
   have keep : ∀ s j A, (∀ sl, nth st s = some sl → nth sl.aJ j ≠ some (some A)) → ∀ sl, nth (bh st s0 j0 none) s = some sl → nth sl.aJ j ≠ some (some A) := by
     intro s j A hq sl hs; obtain ⟨f, hf, hk⟩ := hn s; rw [hk] at hs
     cases hx : nth st s with
     | none => rw [hx] at hs; cases hs
     | some x =>
       rw [hx] at hs; simp at hs; subst hs; rw [hf]
       split
       · cases nth x.aJ j <;> simp
       · exact hq x hx
   refine ⟨h1, fun n hm sl A hs => ?_, fun s j sl A hm hs hA => ?_, ?_, fun s j A hq => h5 s j A (keep s j A hq)⟩
   · rcases List.mem_cons.1 hm with rfl | hm
     · exact h5 s0 j0 A (fun sl hs => k2 sl A hs) sl hs
     · exact h2 n hm sl A hs
   · obtain ⟨f, hf, hk⟩ := hn s; refine h3 s j (f sl) A (fun Ak => hm (List.mem_cons_of_mem _ Ak)) (by rw [hk, hs]; rfl) ?_; rw [hf, if_neg]
     · exact hA
     · rintro ⟨rfl, rfl⟩; exact hm List.mem_cons_self
   · refine Fw.trans ?_ h4; exact (h.QV s0 j0)
open Classical in
noncomputable def Cz.gK (c : Cz) (m : List (Nat × Nat)) (l : Lb) : Cz :=
 { bx := c.bx, lc := c.lc, own := fun k => if ∃ n ∈ m, c.own k = some (.sp n.1 n.2) then some l else c.own k }
theorem Cz.lf {c : Cz} {m : List (Nat × Nat)} {l : Lb} {k : Nat} {n : Nat × Nat} (hm : n ∈ m) (h : c.own k = some (.sp n.1 n.2)) : (c.gK m l).own k = some l := by
 unfold Cz.gK; simp only; rw [if_pos ⟨n, hm, h⟩]
theorem Cz.l5 {c : Cz} {m : List (Nat × Nat)} {l : Lb} {k : Nat} (h : ∀ n ∈ m, c.own k ≠ some (.sp n.1 n.2)) : (c.gK m l).own k = c.own k := by
 unfold Cz.gK; simp only; rw [if_neg]; rintro ⟨n, hm, e⟩; exact h n hm e
theorem Cz.EB {c : Cz} {m : List (Nat × Nat)} {l : Lb} {k : Nat} : (c.gK m l).ok k ↔ c.ok k := by
 unfold Cz.ok
 by_cases h : ∃ n ∈ m, c.own k = some (.sp n.1 n.2)
 · obtain ⟨n, hm, e⟩ := h; rw [Cz.lf hm e, e]; simp
 · rw [Cz.l5 (fun n hm e => h ⟨n, hm, e⟩)]
theorem Fw.gK (c : Cz) (st : St) (w : World) (m : List (Nat × Nat)) (l : Lb) : Fw c st w (c.gK m l) st w :=
 ⟨⟨Nat.le_refl _, fun _ _ _ => rfl, fun _ _ h => Cz.EB.2 h⟩, fun _ _ _ A' _ h => ⟨A', h, rfl, rfl, rfl, fun _ => ⟨rfl, fun _ _ _ _ => rfl⟩⟩, fun _ _ lI _ h => ⟨⟨lI, h⟩, rfl⟩, fun _ => Nat.le_refl _, fun _ => Nat.le_refl _, fun _ => Nat.le_refl _⟩
theorem Rel.gK {w0 : World} {mu : Mu} {c : Cz} {st : St} {a : Act} {w : World} (h : Rel w0 mu c st a w) {m : List (Nat × Nat)} (hd : ∀ n ∈ m, ∀ sl A, nth st n.1 = some sl → nth sl.aJ n.2 ≠ some (some A)) (s j : Nat) : Rel w0 mu (c.gK m (.sp s j)) st a w where
 eR t := (Fw.gK c st w m _).la (h.eR t)
 boxes b sl cs hs hb := by
   have h0 := h.boxes b sl cs hs hb; exact h0.go (Fw.gK c st w m _) rfl (Cz.l5 fun n _ => by rw [h0.1]; simp) rfl
 aJ b i sl A hs hA := by
   have h0 := h.aJ b i sl A hs hA; refine h0.go (Fw.gK c st w m _).stays rfl (fun k hk => ⟨rfl, Cz.l5 fun n hn e => ?_⟩); rw [hk] at e; injection e with e; injection e with e1 e2; subst e1 e2; exact hd n hn sl A hs hA
 owned b l hb := by
   by_cases e : ∃ n ∈ m, c.own b = some (.sp n.1 n.2)
   · obtain ⟨n, hm, e⟩ := e; rw [Cz.lf hm e] at hb
     cases hb
     obtain ⟨h1, h2⟩ := h.owned b _ e; exact ⟨h1, .inr (h2.resolve_left (by simp))⟩
   · rw [Cz.l5 (fun n hm e' => e ⟨n, hm, e'⟩)] at hb; exact h.owned b l hb
 free b hb h1 := h.free b hb (Cz.EB.1 h1)
 kept := h.kept
 old := h.old
 plain := h.plain
 dO p hp := (Fw.gK c st w m _).dO (h.dO p hp)
theorem lg : {m : List (Nat × Nat)} → distinct m = true → m.Nodup
 | [], _ => List.nodup_nil
 | x :: l, h => by
   simp only [distinct, Bool.and_eq_true, List.all_eq_true] at h; refine List.nodup_cons.2 ⟨fun hm => ?_, lg h.2⟩; have := h.1 x hm; simp at this
theorem vF {n : Nat × Nat} : {m : List (Option (Nat × Nat))} → n ∈ dt m → ∃ col : Nat, m[col]? = some (some n)
 | [], h => by simp [dt] at h
 | none :: m, h => by
   obtain ⟨col, hc⟩ := vF (m := m) h; exact ⟨col + 1, by simpa using hc⟩
 | some p :: m, h => by
   rcases List.mem_cons.1 h with rfl | h
   · exact ⟨0, rfl⟩
   · obtain ⟨col, hc⟩ := vF (m := m) h; exact ⟨col + 1, by simpa using hc⟩
theorem jm {n : Nat × Nat} : {m : List (Option (Nat × Nat))} → {col : Nat} → m[col]? = some (some n) → n ∈ dt m
 | [], _, h => by simp at h
 | none :: m, 0, h => by simp at h
 | none :: m, col + 1, h => jm (m := m) (col := col) (by simpa using h)
 | some p :: m, 0, h => by simp at h; subst h; exact List.mem_cons_self
 | some p :: m, col + 1, h => List.mem_cons_of_mem _ (jm (m := m) (col := col) (by simpa using h))
theorem rE {n : Nat × Nat} : {m : List (Option (Nat × Nat))} → (dt m).Nodup → {a b : Nat} → m[a]? = some (some n) → m[b]? = some (some n) → a = b
 | [], _, a, _, h, _ => by simp at h
 | none :: m, hn, a, b, h, h' => by
   cases a with
   | zero => simp at h
   | succ a => cases b with
     | zero => simp at h'
     | succ b => exact congrArg (· + 1) (rE (m := m) (a := a) (b := b) hn (by simpa using h) (by simpa using h'))
 | some p :: m, hn, a, b, h, h' => by
   have Jj := List.nodup_cons.1 hn
   cases a with
   | zero =>
     simp at h; subst h
     cases b with
     | zero => rfl
     | succ b => exact absurd (jm (m := m) (col := b) (by simpa using h')) Jj.1
   | succ a =>
     cases b with
     | zero => simp at h'; subst h'; exact absurd (jm (m := m) (col := a) (by simpa using h)) Jj.1
     | succ b => exact congrArg (· + 1) (rE (m := m) (a := a) (b := b) Jj.2 (by simpa using h) (by simpa using h'))
theorem x5 {c : Cz} {m : List (Option (Nat × Nat))} (hn : (dt m).Nodup) (G : Nat → Nat → List Nat) (g : Nat → List Nat) (p : List Nat) (l : Lb) (hl : ∀ n ∈ dt m, l ≠ .sp n.1 n.2) :
   ∃ g' : Nat → List Nat, (∀ k, c.own k = some l → g' k = g k) ∧ ∀ (col : Nat) (n : Nat × Nat) (k : Nat), m[col]? = some (some n) → c.own k = some (.sp n.1 n.2) → g' k = p ++ [col] ++ G col k := by
 have key : ∀ k, ∃ q : List Nat, (c.own k = some l → q = g k) ∧ ∀ (col : Nat) (n : Nat × Nat), m[col]? = some (some n) → c.own k = some (.sp n.1 n.2) → q = p ++ [col] ++ G col k := by
   intro k
   by_cases e : ∃ (col : Nat) (n : Nat × Nat), m[col]? = some (some n) ∧ c.own k = some (.sp n.1 n.2)
   · obtain ⟨col, n, e1, e2⟩ := e; refine ⟨p ++ [col] ++ G col k, fun h => ?_, fun YH n' h1 h2 => ?_⟩
     · rw [e2] at h; cases h; exact absurd rfl (hl n (jm e1))
     · rw [e2] at h2; injection h2 with h2; injection h2 with q1 q2; have : n = n' := Prod.ext q1 q2; subst this; rw [rE hn h1 e1]
   · exact ⟨g k, fun _ => rfl, fun col n h1 h2 => absurd ⟨col, n, h1, h2⟩ e⟩
 obtain ⟨g', h⟩ := Classical.axiomOfChoice key; exact ⟨g', fun k => (h k).1, fun col n k => (h k).2 col n⟩
theorem Jk {P : Program} {T : jh} (hT : fi P T) {w0 : World} {mu : Mu} {c : Cz} {st : St} {a : Act} {w : World} (h : Rel w0 mu c st a w)
   {t : Nat} {x v : V} {ux uv : Value} (hx : ea c st w x ux) (hv : ea c st w v uv) {aP : St} (hs : (qj T st t x v).val = some aP) :
   ∃ w', (Instr.storeAt t ux uv).run P w = .ok () w' ∧ ∃ c', Rel w0 mu c' aP a w' := by
 cases hn : T.cells t with
 | none => cases x with
   | one y => cases y <;> simp [qj, hn, N.val] at hs
   | agg _ => simp [qj, N.val] at hs
   | kX _ => simp [qj, N.val] at hs
 | some n => cases x with
   | agg _ => simp [qj, N.val] at hs
   | kX _ => simp [qj, N.val] at hs
   | one y => cases y with
     | bad | int _ _ | bool _ | str _ | dq | Gt | shr _ _ | nn _ _ | ref _ _ _ _ | ke _ _ _ | qi _ _ _ | fn _ _ _ | mX _ _ _ _ _ _ _ _ => simp [qj, N.val] at hs
     | ptr b g off =>
       simp only [qj, hn] at hs
       cases hb : de st b g with
       | none => simp [hb, N.val] at hs
       | some cs =>
         simp only [hb] at hs; obtain ⟨hc, hs⟩ := cW hs; rw [Bool.and_eq_true] at hc
         cases hp : putCells cs off v.cells with
         | none => simp [hp, N.val] at hs
         | some l =>
           simp only [hp, N.val, Option.some.injEq] at hs; subst hs; obtain ⟨hle, rfl⟩ := vm hp; obtain ⟨sl, Ab, N3, Ac⟩ := fN hb; obtain ⟨ho, vs, ty, hh, hl⟩ := h.boxes b sl cs Ab Ac; obtain ⟨oO, BV⟩ := hv.cells hc.1; have hu := hx.2.2 cs hb; subst hu; have hlen : uv.cells.toList.length = n := by rw [← oO.1]; exact Nat.eq_of_beq_eq_true hc.2
           have wR := hl.1; have EC := oO.1; refine ⟨_, kH hT hn w (c.bx b) off uv hlen BV hh (by simp at wR ⊢; omega), c, ?_⟩; refine h.Ld Ab Ac hh ?_; simpa using hl.bq oO off hle
     | I9 a' j g i off =>
       simp only [qj, hn] at hs
       cases hA : aQ st a' j g with
       | none => simp [hA, N.val] at hs
       | some A =>
         simp only [hA] at hs; obtain ⟨hc, hz⟩ := cW hs; clear hs; rw [Bool.and_eq_true, Bool.and_eq_true, Bool.and_eq_true] at hc; obtain ⟨⟨⟨YI, eK⟩, Iu⟩, N4⟩ := hc; have N4 : 0 < n := by simp [Nat.blt] at N4; omega
         obtain ⟨sl, Ab, N3, Ac⟩ := a7 hA; have Ey := h.aJ a' j sl A Ab Ac; obtain ⟨hi, b, o, cap, fO, hu⟩ := hx.2.2 A hA; have QX := Ey; unfold bF at QX; rw [fO] at QX; obtain ⟨ho, wX, ⟨cur, ty, hg, jB⟩, eJ⟩ := QX; rw [eK] at ho; obtain ⟨oO, BV⟩ := hv.cells YI; have hlen : uv.cells.toList.length = n := by rw [← oO.1]; exact Nat.eq_of_beq_eq_true Iu
         have Dy : o + i * A.r.width + A.r.width ≤ cur.size := by
           have : (i + 1) * A.r.width ≤ cap * A.r.width := Nat.mul_le_mul_right _ (by omega); rw [Nat.add_mul] at this; omega
         subst hu
         cases hw : Nat.beq n A.r.width && A.r.dD && Nat.beq off 0 with
         | false =>
           rw [hw] at hz; simp only [cond_false] at hz
           cases hm : A.md with
           | ho _ => rw [hm] at hz; simp [N.val, Md.Dj] at hz
           | sh =>
             rw [hm] at hz; simp only [Md.Dj, cond_false] at hz; have eJ := (bj.sh hm).1 eJ
             cases vE : A.xs[i]? with
             | none => simp [vE, N.val] at hz
             | some x0 =>
               simp only [vE] at hz; change (match ji A.r x0 off v.cells with | some y => N.done (bh st a' j (some (A.put (A.xs.set i y)))) | none => N.fail).val = some aP at hz
               cases hp : ji A.r x0 off v.cells with
               | none => simp [hp, N.val] at hz
               | some y =>
                 simp only [hp, N.val, Option.some.injEq] at hz; subst hz; have EC := oO.1; have QY : off + uv.cells.toList.length ≤ A.r.width := by
                   rw [← EC]; exact rD A.r x0 off v.cells hp (by intro e; rw [e] at EC; simp at EC; simp at hlen; omega)
                 refine ⟨_, kH hT hn w b (o + i * A.r.width + off) uv hlen BV hg (by omega), c, ?_⟩; exact h.w6 Ab Ac eK fO hg (by rw [List.size_toArray, fy (by simp at QY ⊢; omega)]; simp) (by simp)
                   (bj.Le hm (w8 ho hg eJ vE QY Dy (fun vs w9 => Ae A.r x0 off v.cells y vs _ (by rw [b9.length A.r vs x0 w9]; exact QY) hp oO w9)))
           | dp =>
             rw [hm] at hz; simp only [Md.Dj, cond_false] at hz; unfold bj at eJ; rw [hm] at eJ; obtain ⟨gg, Iv, eJ⟩ := eJ
             cases vE : A.xs[i]? with
             | none => simp [vE, N.val] at hz
             | some x0 =>
               simp only [vE] at hz; change (match ji A.r x0 off v.cells with | some y => N.done (bh st a' j (some (A.put (A.xs.set i y)))) | none => N.fail).val = some aP at hz
               cases hp : ji A.r x0 off v.cells with
               | none => simp [hp, N.val] at hz
               | some y =>
                 simp only [hp, N.val, Option.some.injEq] at hz; subst hz; have EC := oO.1; have QY : off + uv.cells.toList.length ≤ A.r.width := by
                   rw [← EC]; exact rD A.r x0 off v.cells hp (by intro e; rw [e] at EC; simp at EC; simp at hlen; omega)
                 refine ⟨_, kH hT hn w b (o + i * A.r.width + off) uv hlen BV hg (by omega), c, ?_⟩; refine h.w6 Ab Ac eK fO hg (by rw [List.size_toArray, fy (by simp at QY ⊢; omega)]; simp) (by simp) ?_; unfold bj; show match A.md with | .sh => _ | .dp => _ | .ho _ => _
                 rw [hm]; refine ⟨gg, Iv, fun i' x' ra => ?_⟩; obtain ⟨vs, q1, q2⟩ := vn hg (Q := fun i vs x => cO w (fun p k => c.own k = some (.sp a' j) ∧ gg k = p) A.r [i] 0 vs x) (fun i x hx => by
                   obtain ⟨vs, q1, q2⟩ := (iw _ _ _ _ _ _).1 (eJ i x hx); exact ⟨vs, q1, cO.length _ _ _ _ _ q2, q2⟩) vE QY Dy (fun vs wR w9 => Aj A.r [i] 0 x0 off v.cells y vs _ (by rw [wR]; exact QY) hp oO w9) i' x' ra
                 refine (iw _ _ _ _ _ _).2 ⟨vs, q1, cO.go _ [i'] [i'] (fun q k hk => ⟨setRow_other w b k _ ?_, hk⟩) 0 vs x' q2⟩
                 rintro rfl
                 rw [Iv] at hk; simp at hk
         | true =>
           rw [hw] at hz; simp only [cond_true] at hz; rw [Bool.and_eq_true, Bool.and_eq_true] at hw; have UY := Nat.eq_of_beq_eq_true hw.1.1; have YJ := Nat.eq_of_beq_eq_true hw.2; subst YJ; have Gn : uv.cells.toList.length = A.r.width := by rw [hlen, UY]
           have UZ : ∀ vs : List Value, vs.length = A.r.width → bq vs 0 uv.cells.toList = uv.cells.toList := by
             intro vs wR; unfold bq; rw [List.drop_eq_nil_of_le (by omega)]; simp
           cases hm : A.md with
           | ho q0 =>
             rw [hm] at hz; simp only at hz
             cases QZ : fH st A.r v.cells with
             | none => rw [QZ] at hz; simp [N.val] at hz
             | some pq =>
               obtain ⟨x1, m⟩ := pq; rw [QZ] at hz; simp only at hz; obtain ⟨On, h1⟩ := cW hz; clear hz; rw [Bool.and_eq_true] at On; have GJ := lg On.1; have KQ : (a', j) ∉ dt m := by
                 intro rF; have := List.all_eq_true.1 On.2 _ rF; simp at this
               obtain ⟨YK, Q0⟩ : Nat.beq i q0 = true ∧ (N.row A.r A.xs[i]? (fun _ => N.done (bh (fM st (dt m)) a' j (some { A.put (A.xs.set i x1) with md := .dp })))).val = some aP := by
                 cases hb : Nat.beq i q0 with
                 | true => rw [hb] at h1; exact ⟨rfl, h1⟩
                 | false => rw [hb] at h1; cases h1
               have YK := Nat.eq_of_beq_eq_true YK; clear h1; have h1 := Q0; clear Q0; subst YK
               cases vE : A.xs[i]? with
               | none => simp [vE, N.val] at h1
               | some x0 =>
                 simp only [vE] at h1; change some _ = some aP at h1; obtain rfl := Option.some.inj h1; obtain ⟨Oo, hmo, G, hG⟩ := xc h A.r v.cells _ oO QZ; unfold bj at eJ; rw [hm] at eJ; obtain ⟨gg, Iv, eJ⟩ := eJ eK; obtain ⟨zF, rb, X7, _, _⟩ := jC (dt m) h; have hR := zF.gK rb a' j; obtain ⟨PH, g1, g2⟩ := X7 a' j sl A KQ Ab Ac; have Lg : ∀ n ∈ dt m, Lb.sp a' j ≠ .sp n.1 n.2 := by
                   intro n hn e; injection e with e1 e2; exact KQ (by rw [show (a', j) = n from Prod.ext e1 e2]; exact hn)
                 obtain ⟨g', p1, p2⟩ := x5 (c := c) GJ G gg [i] (.sp a' j) Lg; have Lh : ∀ k, c.own k = some (.sp a' j) → (c.gK (dt m) (.sp a' j)).own k = some (.sp a' j) := by
                   intro k hk; rw [Cz.l5 (fun n hn e => by rw [hk] at e; exact Lg n hn (Option.some.inj e))]; exact hk
                 refine ⟨_, kH hT hn w b (o + i * A.r.width + 0) uv hlen BV hg (by omega), c.gK (dt m) (.sp a' j), ?_⟩; refine hR.Cu (A := A) (ys := A.xs.set i x1) (md' := .dp) g1 g2 eK fO hg (by rw [List.size_toArray, fy (by simp at Gn ⊢; omega)]; simp) (by simp) ?_; unfold bj; show ∃ g, _; refine ⟨g', by rw [p1 b ho]; exact Iv, fun i' x' ra => ?_⟩; have Q1 : ∀ q k, g' k = [i'] ++ q → k ≠ b := by
                   rintro q k hk rfl
                   rw [p1 k ho, Iv] at hk; simp at hk
                 obtain ⟨vs, q1, q2⟩ := BS hg (Q := fun i vs x => cO w (fun p k => (c.gK (dt m) (.sp a' j)).own k = some (.sp a' j) ∧ g' k = p) A.r [i] 0 vs x) (fun i x fm hx => by
                   obtain ⟨vs, q1, q2⟩ := (iw _ _ _ _ _ _).1 (eJ i x fm hx); exact ⟨vs, q1, cO.length _ _ _ _ _ q2, cO.go _ [i] [i] (fun q k hk => ⟨rfl, Lh k hk.1, by rw [p1 k hk.1]; exact hk.2⟩) 0 vs x q2⟩) vE Gn Dy (by
                     refine hG _ [i] 0 fun col n k hc hk => ⟨Cz.lf (jm hc) hk, ?_⟩
                     rw [p2 col n k hc hk, Nat.zero_add]) i' x' ra
                 exact (iw _ _ _ _ _ _).2 ⟨vs, q1, cO.go _ [i'] [i'] (fun q k hk => ⟨setRow_other w b k _ (Q1 q k hk.2), hk⟩) 0 vs x' q2⟩
           | sh =>
             rw [hm] at hz; simp only at hz; have eJ := (bj.sh hm).1 eJ; obtain ⟨x1, m, h1, h2, h3⟩ := wZ h A.r v.cells _ oO _ hz; obtain ⟨On, h1⟩ := cW h1
             cases vE : A.xs[i]? with
             | none => simp [vE, N.val] at h1
             | some x0 =>
               simp only [vE] at h1; change some _ = some aP at h1; obtain rfl := Option.some.inj h1; have KQ : (a', j) ∉ m := by
                 intro rF; have := List.all_eq_true.1 On _ rF; simp at this
               have hf := h.freeze m; obtain ⟨PH, g1, g2⟩ := Ah m Ab Ac KQ; have Q2 : (c.drop m).lc a' j = .at b o cap := by rw [(Cz.It m c).1]; exact fO
               have ho' : (c.drop m).own b = some (.sp a' j) := Cz.Ct m c b ho (fun p hp => by
                 intro e; injection e with e1 e2; exact KQ (by rw [e1, e2]; exact hp))
               have Li : ∀ (i : Nat) x, A.xs[i]? = some x → bU w (c.drop m).ok A.r b (o + i * A.r.width) x := fun i x hx =>
                 bU.stays (Fw.freeze w m c st).stays _ _ _ x rfl (eJ i x hx)
               have GK : b9 w (c.drop m).ok A.r uv.cells.toList x1 := h3 _ (fun k hk => Cz.wY m c k hk) (fun p hp k hk => Cz.zN m c k hk hp); refine ⟨_, kH hT hn w b (o + i * A.r.width + 0) uv hlen BV hg (by omega), c.drop m, ?_⟩; refine hf.w6 g1 g2 eK Q2 hg (by rw [List.size_toArray, fy (by simp at Gn ⊢; omega)]; simp) (by simp) (bj.Le hm ?_); refine w8 ho' hg Li vE (k := 0) (by omega) Dy (fun vs w9 => ?_); rw [UZ vs (b9.length A.r vs x0 w9)]; exact GK
           | dp =>
             rw [hm] at hz; simp only at hz
             cases QZ : fH st A.r v.cells with
             | none => rw [QZ] at hz; simp [N.val] at hz
             | some pq =>
               obtain ⟨x1, m⟩ := pq; rw [QZ] at hz; simp only at hz; obtain ⟨On, h1⟩ := cW hz; clear hz; rw [Bool.and_eq_true] at On; have GJ := lg On.1; have KQ : (a', j) ∉ dt m := by
                 intro rF; have := List.all_eq_true.1 On.2 _ rF; simp at this
               cases vE : A.xs[i]? with
               | none => simp [vE, N.val] at h1
               | some x0 =>
                 simp only [vE] at h1; change some _ = some aP at h1; obtain rfl := Option.some.inj h1; obtain ⟨Oo, hmo, G, hG⟩ := xc h A.r v.cells _ oO QZ; unfold bj at eJ; rw [hm] at eJ; obtain ⟨gg, Iv, eJ⟩ := eJ; obtain ⟨zF, rb, X7, _, _⟩ := jC (dt m) h; have hR := zF.gK rb a' j; obtain ⟨PH, g1, g2⟩ := X7 a' j sl A KQ Ab Ac; have Lg : ∀ n ∈ dt m, Lb.sp a' j ≠ .sp n.1 n.2 := by
                   intro n hn e; injection e with e1 e2; exact KQ (by rw [show (a', j) = n from Prod.ext e1 e2]; exact hn)
                 obtain ⟨g', p1, p2⟩ := x5 (c := c) GJ G gg [i] (.sp a' j) Lg; have Lh : ∀ k, c.own k = some (.sp a' j) → (c.gK (dt m) (.sp a' j)).own k = some (.sp a' j) := by
                   intro k hk; rw [Cz.l5 (fun n hn e => by rw [hk] at e; exact Lg n hn (Option.some.inj e))]; exact hk
                 refine ⟨_, kH hT hn w b (o + i * A.r.width + 0) uv hlen BV hg (by omega), c.gK (dt m) (.sp a' j), ?_⟩; refine hR.w6 g1 g2 eK fO hg (by rw [List.size_toArray, fy (by simp at Gn ⊢; omega)]; simp) (by simp) ?_; unfold bj; show match A.md with | .sh => _ | .dp => _ | .ho _ => _
                 rw [hm]; refine ⟨g', by rw [p1 b ho]; exact Iv, fun i' x' ra => ?_⟩; have Q1 : ∀ q k, g' k = [i'] ++ q → k ≠ b := by
                   rintro q k hk rfl
                   rw [p1 k ho, Iv] at hk; simp at hk
                 obtain ⟨vs, q1, q2⟩ := vn hg (Q := fun i vs x => cO w (fun p k => (c.gK (dt m) (.sp a' j)).own k = some (.sp a' j) ∧ g' k = p) A.r [i] 0 vs x) (fun i x hx => by
                   obtain ⟨vs, q1, q2⟩ := (iw _ _ _ _ _ _).1 (eJ i x hx); exact ⟨vs, q1, cO.length _ _ _ _ _ q2, cO.go _ [i] [i] (fun q k hk => ⟨rfl, Lh k hk.1, by rw [p1 k hk.1]; exact hk.2⟩) 0 vs x q2⟩) vE (k := 0) (us := uv.cells.toList) (by omega) Dy (fun vs wR _ => by
                     rw [UZ vs wR]; refine hG _ [i] 0 fun col n k hc hk => ⟨Cz.lf (jm hc) hk, ?_⟩
                     rw [p2 col n k hc hk, Nat.zero_add]) i' x' ra
                 exact (iw _ _ _ _ _ _).2 ⟨vs, q1, cO.go _ [i'] [i'] (fun q k hk => ⟨setRow_other w b k _ (Q1 q k hk.2), hk⟩) 0 vs x' q2⟩
end Go.TM
namespace Go.TM
open Go Go.RowKit
theorem Fw.heap {c : Cz} {st : St} {w w' : World} (hh : w'.heap = w.heap) : Fw c st w c st w' where
 stays := ⟨by rw [hh]; exact Nat.le_refl _, fun b _ _ => by rw [hh], fun _ _ h => h⟩
 refs _ _ _ A' _ h := ⟨A', h, rfl, rfl, rfl, fun _ => ⟨rfl, fun _ _ _ _ => by rw [hh]⟩⟩
 zM _ _ lI _ h := ⟨⟨lI, h⟩, rfl⟩
 gA _ := Nat.le_refl _
 gB _ := Nat.le_refl _
 gE _ := Nat.le_refl _
theorem Rel.heap {w0 : World} {mu : Mu} {c : Cz} {st : St} {a : Act} {w w' : World} (h : Rel w0 mu c st a w) (hh : w'.heap = w.heap) (ho : w'.os = w.os ∧ w'.tape = w.tape ∧ w'.output = w.output) :
   Rel w0 mu c st a w' where
 eR t := (Fw.heap hh).la (h.eR t)
 boxes s sl cs hs hb := (h.boxes s sl cs hs hb).go (Fw.heap hh) rfl rfl (by rw [hh])
 aJ s j sl A hs hA := (h.aJ s j sl A hs hA).go (Fw.heap (c := c) (st := st) hh).stays rfl (fun b _ => ⟨by rw [hh], rfl⟩)
 owned b l hb := by rw [hh]; exact h.owned b l hb
 free := h.free
 kept := ⟨ho.1.trans h.kept.1, ho.2.1.trans h.kept.2.1, ho.2.2.trans h.kept.2.2.1, by rw [hh]; exact h.kept.2.2.2⟩
 old k hk hm := by rw [hh]; exact h.old k hk hm
 dO p hp := (Fw.heap hh).dO (h.dO p hp)
 plain := h.plain
theorem Rel.drew {w0 : World} {mu : Mu} {c : Cz} {st : St} {a : Act} {w : World} (h : Rel w0 mu c st a w) : Rel w0 mu c st a w.drew := h.heap rfl ⟨rfl, rfl, rfl⟩
theorem gJ.length : (r : RT) → (vs : List Value) → gJ r vs → vs.length = r.width
 | .nil, vs, h => by simp only [gJ] at h; subst h; rfl
 | .cons (.int _) r, vs, ⟨l, h, h'⟩ => by subst h; simp [RT.width, gJ.length r l h']
 | .cons .bool r, vs, ⟨l, h, h'⟩ => by subst h; simp [RT.width, gJ.length r l h']
 | .cons .str r, vs, ⟨l, h, h'⟩ => by subst h; simp [RT.width, gJ.length r l h']
 | .cons (.sl _) r, vs, ⟨l, h, h'⟩ => by subst h; simp [RT.width, gJ.length r l h']
theorem Ul.cells {w : World} {ok : Nat → Prop} {r : RT} {u : Value} {ys : List (ak r)} (h : Ul w ok r u ys) :
   (ys = [] ∧ (u = .slice none 0 0 ∨ ∃ a c, u = .slice (some a) 0 c)) ∨
   (ys ≠ [] ∧ ∃ a c vs, u = .slice (some a) ys.length c ∧ aY w ok r vs ys ∧ ∀ (j : Nat) v, vs[j]? = some v → w.cell? (a.add j) = some v) := by
 rcases h with ⟨rfl, rfl⟩ | ⟨a, c, rfl, hs, hr⟩
 · exact .inl ⟨rfl, .inl rfl⟩
 · by_cases e : ys = []
   · subst e; exact .inl ⟨rfl, .inr ⟨a, c, rfl⟩⟩
   · obtain ⟨vs, h1, h2⟩ := kI a.block a.off ys hr; refine .inr ⟨e, a, c, vs, rfl, h2, fun j v hv => ?_⟩; have : a = ⟨a.block, a.off, none⟩ := by have := hs e; cases a; simp at this ⊢; exact this
     rw [this, Addr.add_mid]; exact h1 j v hv
theorem vG {P : Program} {T : jh} (hT : fi P T) {w : World} {t ty : Nat} {r : RT} {bytes : Nat} (ht : T.elem t = some (r, bytes)) {ux uy : Value} {nx ny : Nat} {vx vy : List Value} {xb : Option Nat}
   (hb : (nx + ny) * bytes ≤ lim) (Gp : vx.length = nx * r.width) (En : vy.length = ny * r.width) (oy : ∀ u ∈ vy, u.oneCell' = true)
   (hy : (ny = 0 ∧ (uy = .slice none 0 0 ∨ ∃ a c, uy = .slice (some a) 0 c)) ∨ (ny ≠ 0 ∧ ∃ a c, uy = .slice (some a) ny c ∧ ∀ (j : Nat) v, vy[j]? = some v → w.cell? (a.add j) = some v))
   (hx : (xb = none ∧ ux = .slice none 0 0 ∧ nx = 0) ∨ ∃ b off lo cap n ad cur te, xb = some b ∧ ux = .slice (some ad) nx n ∧ nx ≤ n ∧ lo + n ≤ cap ∧ (n ≠ 0 → ad = ⟨b, off + lo * r.width, none⟩) ∧
     w.heap[b]? = some (.cells cur te (0, 0)) ∧ off + cap * r.width ≤ cur.size ∧ w.rangeAt b (off + lo * r.width) vx) :
   ∃ v w', (Builtin.append_ #[t, t] ty #[ux, uy]).run P w = .ok v w' ∧ (w'.os = w.os ∧ w'.tape = w.tape ∧ w'.output = w.output ∧ w.heap.size ≤ w'.heap.size) ∧
     ((nx = 0 ∧ ny = 0 ∧ w' = w ∧ v = .slice none 0 0) ∨ ∃ B o cp cur te, v.oneCell' = true ∧ gP (.at B o cp) r.width 0 (nx + ny) v ∧ nx + ny ≤ cp ∧ w'.heap[B]? = some (.cells cur te (0, 0)) ∧ o + cp * r.width ≤ cur.size ∧
       w'.rangeAt B o (vx ++ vy) ∧ (∀ k, k < w.heap.size → k ≠ B → w'.heap[k]? = w.heap[k]?) ∧ (w.heap.size ≤ B ∨ xb = some B)) := by
 obtain ⟨e, i, z, hu, hi, jB, BW, U0, Iw, hz, Jl⟩ := hT.elem t r bytes ht; have ED : z.cells.size = r.width := by have := gJ.length r _ Jl; simpa using this
 have Dz : (nx + ny) * bytes ≤ 140737488355328 := by unfold lim at hb; omega
 have ade : nx + ny ≤ 140737488355328 := by
   have : (nx + ny) * 1 ≤ (nx + ny) * bytes := Nat.mul_le_mul_left _ Iw; omega
 have grown : ∀ (old : Nat) (run : (Builtin.append_ #[t, t] ty #[ux, uy]).run P w = .ok (.slice (some ⟨w.heap.size, 0, none⟩) (nx + ny) (grownCap w (nx + ny) old e)) (w.drew.alloc (.cells (vx.toArray ++ vy.toArray ++ Builtin.zeroCells z.cells (grownCap w (nx + ny) old e - (nx + ny))) e (0, 0)))),
     ∃ v w', (Builtin.append_ #[t, t] ty #[ux, uy]).run P w = .ok v w' ∧ (w'.os = w.os ∧ w'.tape = w.tape ∧ w'.output = w.output ∧ w.heap.size ≤ w'.heap.size) ∧
     ((nx = 0 ∧ ny = 0 ∧ w' = w ∧ v = .slice none 0 0) ∨ ∃ B o cp cur te, v.oneCell' = true ∧ gP (.at B o cp) r.width 0 (nx + ny) v ∧ nx + ny ≤ cp ∧ w'.heap[B]? = some (.cells cur te (0, 0)) ∧ o + cp * r.width ≤ cur.size ∧
       w'.rangeAt B o (vx ++ vy) ∧ (∀ k, k < w.heap.size → k ≠ B → w'.heap[k]? = w.heap[k]?) ∧ (w.heap.size ≤ B ∨ xb = some B)) := by
   intro old run; have YL := grownCap_ge w (nx + ny) old e; have hmul : grownCap w (nx + ny) old e * r.width = (nx + ny) * r.width + (grownCap w (nx + ny) old e - (nx + ny)) * r.width := by
     rw [← Nat.add_mul]; congr 1; omega
   have tv := heap_alloc_new w.drew (.cells (vx.toArray ++ vy.toArray ++ Builtin.zeroCells z.cells (grownCap w (nx + ny) old e - (nx + ny))) e (0, 0)); refine ⟨_, _, run, ⟨rfl, rfl, rfl, by simp⟩, .inr ⟨w.heap.size, 0, grownCap w (nx + ny) old e, _, e, rfl, ⟨_, _, rfl, YL, by omega, fun _ => by simp⟩, YL, tv, ?_, ?_, fun k hk _ => heap_alloc_old w.drew _ k hk, .inl (Nat.le_refl _)⟩⟩
   · rw [Array.size_append, Array.size_append, List.size_toArray, List.size_toArray, size_zeroCells, ED, Gp, En, hmul, Nat.add_mul]; omega
   · intro q v hv; rw [show w.heap.size = w.drew.heap.size from rfl, cell_of_row _ _ _ _ e (0, 0) tv, Nat.zero_add]; have hq : q < (vx ++ vy).length := (List.getElem?_eq_some_iff.1 hv).1; have e1 : (vx.toArray ++ vy.toArray ++ Builtin.zeroCells z.cells (grownCap w (nx + ny) old e - (nx + ny))).toList =
         (vx ++ vy) ++ (Builtin.zeroCells z.cells (grownCap w (nx + ny) old e - (nx + ny))).toList := by simp
     rw [← Array.getElem?_toList, e1, List.getElem?_append_left hq]; exact hv
 rcases hy with ⟨rfl, X8⟩ | ⟨Q3, ay, cy, rfl, U6⟩
 · -- nothing is put behind
   have YM : vy = [] := by simpa using En
   subst YM; rcases hx with ⟨_, rfl, rfl⟩ | ⟨b, off, lo, cap, n, ad, cur, te, Jm, rfl, hle, wX, Eo, hg, Q4, hr⟩
   · exact ⟨_, w, run_append_nothing hu hi w none 0 0 (Nat.le_refl _) uy X8, ⟨rfl, rfl, rfl, Nat.le_refl _⟩, .inl ⟨rfl, rfl, rfl, rfl⟩⟩
   · refine ⟨_, w, run_append_nothing hu hi w (some ad) nx n hle uy X8, ⟨rfl, rfl, rfl, Nat.le_refl _⟩, .inr ⟨b, off + lo * r.width, n, cur, te, rfl, ⟨ad, n, rfl, hle, by omega, fun hn => by rw [Eo hn]; simp⟩, hle, hg, ?_, by simpa using hr, fun _ _ _ => rfl, .inr Jm⟩⟩; have : (lo + n) * r.width ≤ cap * r.width := Nat.mul_le_mul_right _ wX; rw [Nat.add_mul] at this; omega
 · have hyl : 0 < ny := Nat.pos_of_ne_zero Q3; rcases hx with ⟨_, rfl, rfl⟩ | ⟨b, off, lo, cap, n, ad, cur, te, Jm, rfl, hle, wX, Eo, hg, Q4, X9⟩
   · have YN : vx = [] := by simpa using Gp
     subst YN; have hr := run_append_nil (P := P) w t ty e i z hu hi hz ay ny cy vy (by rw [En, jB]) U6 hyl (by omega) (by rw [U0]; simp at Dz; omega); refine grown 0 ?_; simpa using hr
   · by_cases qF : nx + ny ≤ n
     · -- it aeC aeD Gu room KW there is
       have N4 : n ≠ 0 := by omega
       rw [Eo N4]; have Dy : off + lo * r.width + n * r.width ≤ cur.size := by
         have : (lo + n) * r.width ≤ cap * r.width := Nat.mul_le_mul_right _ wX; rw [Nat.add_mul] at this; omega
       have oN : off + lo * r.width + nx * r.width + vy.length ≤ cur.size := by
         have : (nx + ny) * r.width ≤ n * r.width := Nat.mul_le_mul_right _ qF; rw [Nat.add_mul] at this; omega
       have hr := BU (P := P) (ty := ty) hu hi w b (off + lo * r.width) nx n cur te hg ay ny cy vy (by rw [En, jB]) U6 oy qF (by rw [jB]; exact oN); rw [jB] at hr; have Ol := setRow_heap w b cur (bq cur.toList (off + lo * r.width + nx * r.width) vy).toArray te (0, 0) hg; have pM : ∀ k, k ≠ b → (w.setRow b (bq cur.toList (off + lo * r.width + nx * r.width) vy).toArray).heap[k]? = w.heap[k]? := fun k hk => setRow_other w _ k _ hk
       refine ⟨_, _, hr, ⟨rfl, rfl, rfl, by simp [World.setRow]⟩, .inr ⟨b, off + lo * r.width, n, _, te, rfl, ⟨_, n, rfl, qF, by omega, fun _ => by simp⟩, qF, Ol, ?_, ?_, fun k _ hk => pM k hk, .inr Jm⟩⟩
       · rw [List.size_toArray, fy (by simpa using oN)]; simpa using Dy
       · intro q v hv; rw [cell_of_row _ _ _ _ te (0, 0) Ol]; simp only [List.getElem?_toArray]; rw [jl (by simpa using oN)]; rw [List.getElem?_append] at hv
         by_cases hq : q < vx.length
         · rw [if_pos hq] at hv; rw [if_neg (by omega)]; have := X9 q v hv; rw [cell_of_row w b _ cur te (0, 0) hg] at this; simpa using this
         · rw [if_neg hq] at hv; have GL : q - vx.length < vy.length := (List.getElem?_eq_some_iff.1 hv).1; rw [if_pos (by omega), show off + lo * r.width + q - (off + lo * r.width + nx * r.width) = q - vx.length by omega]; exact hv
     · -- it UM
       have hr := run_append_grow (P := P) w t ty e i z hu hi hz ad nx n vx (by rw [Gp, jB]) (fun q v hv => by
           have hq : q < vx.length := (List.getElem?_eq_some_iff.1 hv).1; have N4 : n ≠ 0 := by
             intro e0; have : nx = 0 := by omega
             rw [this] at Gp; simp at Gp; rw [Gp] at hq; simp at hq
           rw [Eo N4, Addr.add_mid]; exact X9 q v hv)
         ay ny cy vy (by rw [En, jB]) U6 (by omega) (by omega) (growslice_fits (by omega) (by rw [U0]; exact Dz))
       exact grown n hr
theorem Cv {P : Program} {T : jh} (hT : fi P T) {w0 : World} {mu : Mu} {c : Cz} {x4 : St} {a : Act} {w : World} (h1 : Rel w0 mu c x4 a w)
   {t ty : Nat} {r : RT} {bytes : Nat} (ht : T.elem t = some (r, bytes)) {ux uy : Value} {xs ys : List (ak r)} {d : Nat} {s0 : Sl} (gm : nth x4 d = some s0) (hd : d < a.tmps.size)
   (hb : (xs.length + ys.length) * bytes ≤ lim) (hy : Ul w c.ok r uy ys)
   (hx : (ux = .slice none 0 0 ∧ xs = []) ∨ ∃ s j b off lo cap n ad, c.own b = some (.sp s j) ∧ (∀ sl A, nth x4 s = some sl → nth sl.aJ j ≠ some (some A)) ∧
     ux = .slice (some ad) xs.length n ∧ xs.length ≤ n ∧ lo + n ≤ cap ∧ (n ≠ 0 → ad = ⟨b, off + lo * r.width, none⟩) ∧
     (∃ cur ty, w.heap[b]? = some (.cells cur ty (0, 0)) ∧ off + cap * r.width ≤ cur.size) ∧ ∀ (i : Nat) x, xs[i]? = some x → bU w c.ok r b (off + (lo + i) * r.width) x) :
   ∃ v w', (Builtin.append_ #[t, t] ty #[ux, uy]).run P w = .ok v w' ∧
     ∃ c', Rel w0 mu c' (kS (fun s => { s with v := .one (.ref d 0 (s0.ag + 1) .full), aJ := [some { r := r, own := true, xs := xs ++ ys }], ag := s0.ag + 1 }) x4 d) (a.put (some d) v) w' := by
 obtain ⟨vy, En, N5⟩ : ∃ vy, aY w c.ok r vy ys ∧ ((ys.length = 0 ∧ (uy = .slice none 0 0 ∨ ∃ a c, uy = .slice (some a) 0 c)) ∨ (ys.length ≠ 0 ∧ ∃ a c, uy = .slice (some a) ys.length c ∧ ∀ (j : Nat) v, vy[j]? = some v → w.cell? (a.add j) = some v)) := by
   rcases hy.cells with ⟨rfl, X8⟩ | ⟨Q3, ay, cy, vy, rfl, En, U6⟩
   · exact ⟨[], rfl, .inl ⟨rfl, X8⟩⟩
   · exact ⟨vy, En, .inr ⟨fun h => Q3 (List.length_eq_zero_iff.1 h), ay, cy, rfl, U6⟩⟩
 obtain ⟨vx, xb, Gp, Jm, ra⟩ : ∃ (vx : List Value) (xb : Option Nat), aY w c.ok r vx xs ∧ (∀ b, xb = some b → ∃ s j, c.own b = some (.sp s j) ∧ ∀ sl A, nth x4 s = some sl → nth sl.aJ j ≠ some (some A)) ∧
     ((xb = none ∧ ux = .slice none 0 0 ∧ xs.length = 0) ∨ ∃ b off lo cap n ad cur te, xb = some b ∧ ux = .slice (some ad) xs.length n ∧ xs.length ≤ n ∧ lo + n ≤ cap ∧ (n ≠ 0 → ad = ⟨b, off + lo * r.width, none⟩) ∧
     w.heap[b]? = some (.cells cur te (0, 0)) ∧ off + cap * r.width ≤ cur.size ∧ w.rangeAt b (off + lo * r.width) vx) := by
   rcases hx with ⟨rfl, rfl⟩ | ⟨s, j, b, off, lo, cap, n, ad, eK, Lj, rfl, hle, wX, Eo, ⟨cur, te, hg, Q4⟩, eJ⟩
   · exact ⟨[], none, rfl, (fun _ e => by cases e), .inl ⟨rfl, rfl, rfl⟩⟩
   · obtain ⟨vx, X9, Gp⟩ := kI b (off + lo * r.width) xs (fun i x hx => by
       have := eJ i x hx; rw [Nat.add_mul] at this; rw [show off + lo * r.width + i * r.width = off + (lo * r.width + i * r.width) by omega]; exact this)
     exact ⟨vx, some b, Gp, fun b' e => by cases e; exact ⟨s, j, eK, Lj⟩, .inr ⟨b, off, lo, cap, n, ad, cur, te, rfl, rfl, hle, wX, Eo, hg, Q4, X9⟩⟩
 obtain ⟨v, w', mA, ql, Al⟩ := vG hT (ty := ty) ht hb (aY.length vx xs Gp) (aY.length vy ys En) (aY.jA vy ys En) N5 ra; refine ⟨v, w', mA, ?_⟩; rcases Al with ⟨e1, e2, rfl, rfl⟩ | ⟨B, o, cp, cur, te, v1, v2, hle, hg, jB, hr, pM, hB⟩
 · have : xs = [] := List.length_eq_zero_iff.1 e1; subst this; have : ys = [] := List.length_eq_zero_iff.1 e2; subst this; refine ⟨c.bk d .nil none, h1.place (B := w'.heap.size) (A := { r := r, own := true, xs := [] ++ [] }) gm hd rfl ?_ (fun k _ => by simp [Cz.bk]) (.inr ⟨by simp [Cz.bk], rfl⟩) (.inl (Nat.le_refl _)) ?_ (fun _ _ _ => rfl) ⟨rfl, rfl, rfl, Nat.le_refl _⟩ ?_ rfl ?_⟩
   · intro s j fm; simp [Cz.bk, fm]
   · intro hc; simp [Cz.bk] at hc; have := h1.m6 hc; omega
   · unfold bF; simp [Cz.bk]
   · simp [Cz.bk, gP]
 · have Lk : B < w'.heap.size := (Array.getElem?_eq_some_iff.1 hg).1; have Ix : w.heap.size ≤ B ∨ ∃ s j, c.own B = some (.sp s j) ∧ (s = d ∨ ∀ sl A, nth x4 s = some sl → nth sl.aJ j ≠ some (some A)) := by
     rcases hB with hB | hB
     · exact .inl hB
     · obtain ⟨s, j, q1, q2⟩ := Jm B hB; exact .inr ⟨s, j, q1, .inr q2⟩
   have QT : ∀ k, k < w.heap.size → c.ok k → k ≠ B := by
     rintro k hk fh rfl
     rcases Ix with hB | ⟨s, j, hB, _⟩
     · omega
     · unfold Cz.ok at fh; rw [hB] at fh; cases fh
   have qk : gI w w' c.ok (c.bk d (.at B o cp) (some B)).ok := ⟨ql.2.2.2, fun k hk fh => pM k hk (QT k hk fh), fun k hk fh => by
     unfold Cz.ok Cz.bk; simp only; rw [if_neg]
     · exact fh
     · intro e'; exact QT k hk fh (Option.some.inj e').symm⟩
   refine ⟨c.bk d (.at B o cp) (some B), h1.place (B := B) (A := { r := r, own := true, xs := xs ++ ys }) gm hd rfl ?_ ?_ (.inl (by simp [Cz.bk])) Ix (fun _ => Lk) pM ql ?_ v1 ?_⟩
   · intro s j fm; simp [Cz.bk, fm]
   · intro k hk; simp only [Cz.bk]; rw [if_neg (by intro e'; exact hk (Option.some.inj e').symm)]
   · unfold bF; simp only [Cz.bk, and_self, if_true]; refine ⟨trivial, by simpa using hle, ⟨cur, te, hg, jB⟩, (bj.sh rfl).2 ?_⟩; exact p6 _ (vx ++ vy) (xs ++ ys) (aY.append vx vy xs ys (aY.stays qk _ _ Gp) (aY.stays qk _ _ En)) hr
   · simp only [Cz.bk, and_self, if_true, List.length_append]; exact v2
def cm (w : World) (P : List Nat → Nat → Prop) (r : RT) : (i : Nat) → List Value → List (ak r) → Prop
 | _, vs, [] => vs = []
 | i, vs, x :: xs => ∃ l1 l2, vs = l1 ++ l2 ∧ cO w P r [i] 0 l1 x ∧ cm w P r (i + 1) l2 xs
theorem cm.length {w : World} {P : List Nat → Nat → Prop} {r : RT} : (i : Nat) → (vs : List Value) → (xs : List (ak r)) → cm w P r i vs xs → vs.length = xs.length * r.width
 | _, vs, [], h => by simp only [cm] at h; subst h; simp
 | i, vs, x :: xs, h => by
   obtain ⟨l1, l2, rfl, h1, h2⟩ := h; have a1 := cO.length r [i] 0 l1 x h1; have a2 := cm.length (i + 1) l2 xs h2; simp [a1, a2, Nat.add_mul]; omega
theorem cm.append {w : World} {P : List Nat → Nat → Prop} {r : RT} : (i : Nat) → (vs us : List Value) → (xs ys : List (ak r)) → cm w P r i vs xs → cm w P r (i + xs.length) us ys → cm w P r i (vs ++ us) (xs ++ ys)
 | i, vs, us, [], ys, h, k => by simp only [cm] at h; subst h; simpa using k
 | i, vs, us, x :: xs, ys, ⟨l1, l2, e, h1, h2⟩, k => ⟨l1, l2 ++ us, by rw [e, List.append_assoc], h1, cm.append (i + 1) l2 us xs ys h2 (by rw [show i + 1 + xs.length = i + (x :: xs).length by simp; omega]; exact k)⟩
theorem cm.go {w w' : World} {P P' : List Nat → Nat → Prop} {r : RT} (sh : Nat) (hP : ∀ i q b, P ([i] ++ q) b → w'.heap[b]? = w.heap[b]? ∧ P' ([i + sh] ++ q) b) : (i : Nat) → (vs : List Value) → (xs : List (ak r)) → cm w P r i vs xs → cm w' P' r (i + sh) vs xs
 | _, _, [], h => h
 | i, vs, x :: xs, ⟨l1, l2, e, h1, h2⟩ => ⟨l1, l2, e, cO.go r [i] [i + sh] (fun q b hb => hP i q b hb) 0 l1 x h1, by rw [show i + sh + 1 = i + 1 + sh by omega]; exact cm.go sh hP (i + 1) l2 xs h2⟩
theorem cN.one {w : World} {P : List Nat → Nat → Prop} {t : Ty} {p : List Nat} {v : Value} {x : den t} (h : cN w P t p v x) : v.oneCell' = true := by
 cases t with
 | int k => rw [vC.1 h]; rfl
 | bool => rw [ru.1 h]; rfl
 | str => rw [vD.1 h]; rfl
 | sl r => obtain ⟨lc, _, h1, _⟩ := (tl w P r p v x).1 h; exact h1
theorem cO.one {w : World} {P : List Nat → Nat → Prop} : (r : RT) → (p : List Nat) → (k : Nat) → (vs : List Value) → (x : ak r) → cO w P r p k vs x → ∀ v ∈ vs, v.oneCell' = true
 | .nil, _, _, vs, _, h, v, hv => by simp only [cO] at h; subst h; simp at hv
 | .cons t r, p, k, vs, x, ⟨u, l, e, hx, hr⟩, v, hv => by
   subst e; rcases List.mem_cons.1 hv with rfl | hv
   · exact hx.one
   · exact cO.one r p (k + 1) l x.2 hr v hv
theorem cm.jA {w : World} {P : List Nat → Nat → Prop} {r : RT} : (i : Nat) → (vs : List Value) → (xs : List (ak r)) → cm w P r i vs xs → ∀ v ∈ vs, v.oneCell' = true
 | _, vs, [], h, v, hv => by simp only [cm] at h; subst h; simp at hv
 | i, vs, x :: xs, ⟨l1, l2, e, h1, h2⟩, v, hv => by
   subst e; rcases List.mem_append.1 hv with hv | hv
   · exact cO.one r _ _ l1 x h1 v hv
   · exact cm.jA (i + 1) l2 xs h2 v hv
theorem yN {w : World} {P : List Nat → Nat → Prop} {r : RT} (b : Nat) : (off i0 : Nat) → (xs : List (ak r)) → (∀ (i : Nat) x, xs[i]? = some x → fp w P r [i0 + i] 0 b (off + i * r.width) x) →
   ∃ vs, w.rangeAt b off vs ∧ cm w P r i0 vs xs
 | _, _, [], _ => ⟨[], fun j v h => by simp at h, rfl⟩
 | off, i0, x :: xs, h => by
   obtain ⟨l1, h1, h2⟩ := (iw r [i0] 0 b off x).1 (by have := h 0 x rfl; simpa using this); obtain ⟨l2, h3, h4⟩ := yN b (off + r.width) (i0 + 1) xs (fun i y hy => by
     have := h (i + 1) y (by simpa using hy); rw [Nat.add_mul, Nat.one_mul] at this; rw [show off + r.width + i * r.width = off + (i * r.width + r.width) by omega, show i0 + 1 + i = i0 + (i + 1) by omega]; exact this)
   have hl := cO.length r _ _ l1 x h2; refine ⟨l1 ++ l2, fun j v hv => ?_, l1, l2, rfl, h2, h4⟩; rw [List.getElem?_append] at hv
   by_cases hj : j < l1.length
   · rw [if_pos hj] at hv; exact h1 j v hv
   · rw [if_neg hj] at hv; have := h3 _ v hv; rw [show off + r.width + (j - l1.length) = off + j by omega] at this; exact this
theorem tw {w : World} {P : List Nat → Nat → Prop} {r : RT} {b : Nat} : (off i0 : Nat) → (vs : List Value) → (xs : List (ak r)) → cm w P r i0 vs xs → w.rangeAt b off vs →
   ∀ (i : Nat) x, xs[i]? = some x → fp w P r [i0 + i] 0 b (off + i * r.width) x
 | _, _, _, [], _, _, i, x, h => by simp at h
 | off, i0, vs, y :: xs, ⟨l1, l2, e, h1, h2⟩, hr, i, x, h => by
   subst e; have hl := cO.length r _ _ l1 y h1
   cases i with
   | zero =>
     simp at h; subst h; rw [iw]; refine ⟨l1, fun j v hv => ?_, by simpa using h1⟩; have hj : j < l1.length := (List.getElem?_eq_some_iff.1 hv).1; have := hr j v (by rw [List.getElem?_append, if_pos hj]; exact hv); simpa using this
   | succ i =>
     have := tw (off + r.width) (i0 + 1) l2 xs h2 (fun j v hv => by
       have := hr (l1.length + j) v (by rw [List.getElem?_append, if_neg (by omega)]; simpa using hv); rw [show off + r.width + j = off + (l1.length + j) by omega]; exact this) i x (by simpa using h)
     rw [Nat.add_mul, Nat.one_mul]; rw [show off + (i * r.width + r.width) = off + r.width + i * r.width by omega, show i0 + (i + 1) = i0 + 1 + i by omega]; exact this
theorem Rel.DA {w0 : World} {mu : Mu} {c : Cz} {st : St} {a : Act} {w : World} (h : Rel w0 mu c st a w) {d : Nat} {s0 : Sl} {r : RT} {xs : List (ak r)} {cur : Array Value} {ty cap : Nat} {P : List Nat → Nat → Prop} {g : Nat → List Nat}
   (gm : nth st d = some s0) (hd : d < a.tmps.size) (hle : xs.length ≤ cap) (jB : cap * r.width ≤ cur.size) {vs : List Value} (w9 : cm w P r 0 vs xs) (hP : ∀ i q k, P ([i] ++ q) k → c.own k = some (.sp d 0) ∧ g k = [i] ++ q) (QW : cur.toList.take vs.length = vs) :
   ∃ c', Rel w0 mu c' (kS (fun s => { s with v := .one (.ref d 0 (s0.ag + 1) .full), aJ := [some { r := r, own := true, xs := xs, md := .dp }], ag := s0.ag + 1 }) st d)
     (a.put (some d) (.slice (some ⟨w.heap.size, 0, none⟩) xs.length cap)) (w.alloc (.cells cur ty (0, 0))) := by
 have tv := heap_alloc_new w (.cells cur ty (0, 0)); refine ⟨c.bk d (.at w.heap.size 0 cap) (some w.heap.size), h.place (B := w.heap.size) (A := { r := r, own := true, xs := xs, md := .dp }) gm hd rfl ?_ ?_ (.inl ?_) (.inl (Nat.le_refl _)) (fun _ => by simp) (fun k hk _ => heap_alloc_old w _ k hk)
   ⟨rfl, rfl, rfl, by simp⟩ ?_ rfl ?_⟩
 · intro s j fm; simp [Cz.bk, fm]
 · intro k hk; simp only [Cz.bk]; rw [if_neg (by intro e; exact hk (Option.some.inj e).symm)]
 · simp [Cz.bk]
 · unfold bF; simp only [Cz.bk, and_self, if_true]; refine ⟨trivial, hle, ⟨cur, ty, tv, by simpa using jB⟩, fun k => if k = w.heap.size then [] else g k, by simp, ?_⟩; have hD := cm.go (w' := w.alloc (.cells cur ty (0, 0))) (P' := fun p k => (if some w.heap.size = some k then some (Lb.sp d 0) else c.own k) = some (.sp d 0) ∧ (if k = w.heap.size then [] else g k) = p) 0 (fun i q k hk => by
     obtain ⟨q1, q2⟩ := hP i q k hk; have bQ := h.m6 q1; refine ⟨heap_alloc_old w _ k bQ, ?_, by rw [if_neg (by omega)]; exact q2⟩; rw [if_neg (by intro e; have := Option.some.inj e; omega)]; exact q1) 0 vs xs w9
   have := tw 0 0 vs xs hD (fun j v hv => by
     rw [cell_of_row _ _ _ cur ty (0, 0) tv, Nat.zero_add]; have hj : j < vs.length := (List.getElem?_eq_some_iff.1 hv).1; rw [← QW, List.getElem?_take, if_pos hj] at hv; simpa using hv)
   intro i x hx; have h2 := this i x hx; rw [Nat.zero_add] at h2; exact h2
 · simp only [Cz.bk, and_self, if_true]; exact ⟨_, cap, rfl, hle, by omega, fun _ => by simp⟩
theorem tz {w : World} {P : List Nat → Nat → Prop} : (r : RT) → (p : List Nat) → (k : Nat) → (vs : List Value) → gJ r vs → cO w P r p k vs (qB r)
 | .nil, _, _, vs, h => h
 | .cons (.int q) r, p, k, vs, ⟨l, h, h'⟩ => ⟨.int q 0, l, h, vC.2 rfl, tz r p (k + 1) l h'⟩
 | .cons .bool r, p, k, vs, ⟨l, h, h'⟩ => ⟨.bool false, l, h, ru.2 rfl, tz r p (k + 1) l h'⟩
 | .cons .str r, p, k, vs, ⟨l, h, h'⟩ => ⟨.string ByteArray.empty, l, h, vD.2 rfl, tz r p (k + 1) l h'⟩
 | .cons (.sl q) r, p, k, vs, ⟨l, h, h'⟩ => ⟨.slice none 0 0, l, h, (tl _ _ _ _ _ _).2 ⟨.nil, ⟨rfl, rfl⟩, rfl, .inl ⟨rfl, rfl⟩⟩, tz r p (k + 1) l h'⟩
theorem cm.replicate {w : World} {P : List Nat → Nat → Prop} {r : RT} {vs : List Value} {x : ak r} (h : ∀ i, cO w P r [i] 0 vs x) : (n i : Nat) → cm w P r i ((List.replicate n vs).flatten) (List.replicate n x)
 | 0, _ => rfl
 | n + 1, i => ⟨vs, (List.replicate n vs).flatten, by simp [List.replicate_succ], h i, cm.replicate h n (i + 1)⟩
theorem Cw {P : Program} {T : jh} (hT : fi P T) {w0 : World} {mu : Mu} {c : Cz} {x4 : St} {a : Act} {w : World} (h1 : Rel w0 mu c x4 a w)
   {t ty : Nat} {r : RT} {bytes : Nat} (ht : T.elem t = some (r, bytes)) {ux uy : Value} {xs ys : List (ak r)} {vx vy : List Value} {PX PY : List Nat → Nat → Prop} {g : Nat → List Nat} {xb : Option Nat} {d : Nat} {s0 : Sl} (gm : nth x4 d = some s0) (hd : d < a.tmps.size)
   (hb : (xs.length + ys.length) * bytes ≤ lim) (Gp : cm w PX r 0 vx xs) (En : cm w PY r 0 vy ys)
   (hPX : ∀ i q k, PX ([i] ++ q) k → xb ≠ some k ∧ c.own k = some (.sp d 0) ∧ g k = [i] ++ q) (hPY : ∀ i q k, PY ([i] ++ q) k → xb ≠ some k ∧ c.own k = some (.sp d 0) ∧ g k = [i + xs.length] ++ q)
   (hy : (ys.length = 0 ∧ (uy = .slice none 0 0 ∨ ∃ a c, uy = .slice (some a) 0 c)) ∨ (ys.length ≠ 0 ∧ ∃ a c, uy = .slice (some a) ys.length c ∧ ∀ (j : Nat) v, vy[j]? = some v → w.cell? (a.add j) = some v))
   (Jm : ∀ b, xb = some b → c.own b = some (.sp d 0))
   (hx : (xb = none ∧ ux = .slice none 0 0 ∧ xs.length = 0) ∨ ∃ b off lo cap n ad cur te, xb = some b ∧ ux = .slice (some ad) xs.length n ∧ xs.length ≤ n ∧ lo + n ≤ cap ∧ (n ≠ 0 → ad = ⟨b, off + lo * r.width, none⟩) ∧
     w.heap[b]? = some (.cells cur te (0, 0)) ∧ off + cap * r.width ≤ cur.size ∧ w.rangeAt b (off + lo * r.width) vx) :
   ∃ v w', (Builtin.append_ #[t, t] ty #[ux, uy]).run P w = .ok v w' ∧
     ∃ c', Rel w0 mu c' (kS (fun s => { s with v := .one (.ref d 0 (s0.ag + 1) .full), aJ := [some { r := r, own := true, xs := xs ++ ys, md := .dp }], ag := s0.ag + 1 }) x4 d) (a.put (some d) v) w' := by
 obtain ⟨v, w', mA, ql, Al⟩ := vG hT (ty := ty) ht hb (cm.length 0 vx xs Gp) (cm.length 0 vy ys En) (cm.jA 0 vy ys En) hy hx; refine ⟨v, w', mA, ?_⟩; rcases Al with ⟨e1, e2, rfl, rfl⟩ | ⟨B, o, cp, cur, te, v1, v2, hle, hg, jB, hr, pM, hB⟩
 · have : xs = [] := List.length_eq_zero_iff.1 e1; subst this; have : ys = [] := List.length_eq_zero_iff.1 e2; subst this; refine ⟨c.bk d .nil none, h1.place (B := w'.heap.size) (A := { r := r, own := true, xs := [] ++ [], md := .dp }) gm hd rfl ?_ (fun k _ => by simp [Cz.bk]) (.inr ⟨by simp [Cz.bk], rfl⟩) (.inl (Nat.le_refl _)) ?_ (fun _ _ _ => rfl) ⟨rfl, rfl, rfl, Nat.le_refl _⟩ ?_ rfl ?_⟩
   · intro s j fm; simp [Cz.bk, fm]
   · intro hc; simp [Cz.bk] at hc; have := h1.m6 hc; omega
   · unfold bF; simp [Cz.bk]
   · simp [Cz.bk, gP]
 · have Lk : B < w'.heap.size := (Array.getElem?_eq_some_iff.1 hg).1; have Ix : w.heap.size ≤ B ∨ ∃ s j, c.own B = some (.sp s j) ∧ (s = d ∨ ∀ sl A, nth x4 s = some sl → nth sl.aJ j ≠ some (some A)) := by
     rcases hB with hB | hB
     · exact .inl hB
     · exact .inr ⟨d, 0, Jm B hB, .inl rfl⟩
   have fm : ∀ k, c.own k = some (.sp d 0) → xb ≠ some k → k ≠ B := by
     rintro k hk hx rfl
     rcases hB with hB | hB
     · have := h1.m6 hk; omega
     · exact hx hB
   refine ⟨c.bk d (.at B o cp) (some B), h1.place (B := B) (A := { r := r, own := true, xs := xs ++ ys, md := .dp }) gm hd rfl ?_ ?_ (.inl (by simp [Cz.bk])) Ix (fun _ => Lk) pM ql ?_ v1 ?_⟩
   · intro s j fm; simp [Cz.bk, fm]
   · intro k hk; simp only [Cz.bk]; rw [if_neg (by intro e'; exact hk (Option.some.inj e').symm)]
   · unfold bF; simp only [Cz.bk, and_self, if_true]; refine ⟨trivial, by simpa using hle, ⟨cur, te, hg, jB⟩, fun k => if k = B then [] else g k, by simp, ?_⟩; have go : ∀ (PP : List Nat → Nat → Prop) (sh : Nat), (∀ i q k, PP ([i] ++ q) k → xb ≠ some k ∧ c.own k = some (.sp d 0) ∧ g k = [i + sh] ++ q) → ∀ i q k, PP ([i] ++ q) k → w'.heap[k]? = w.heap[k]? ∧
         ((if B = k then some (Lb.sp d 0) else c.own k) = some (.sp d 0) ∧ (if k = B then [] else g k) = [i + sh] ++ q) := by
       intro PP sh hPP i q k hk; obtain ⟨q1, q2, q3⟩ := hPP i q k hk; have := fm k q2 q1; refine ⟨pM k (h1.m6 q2) this, ?_, by rw [if_neg this]; exact q3⟩; rw [if_neg (fun e => this e.symm)]; exact q2
     have hD := cm.append 0 vx vy xs ys (cm.go (w' := w') (P' := fun p k => (if B = k then some (Lb.sp d 0) else c.own k) = some (.sp d 0) ∧ (if k = B then [] else g k) = p) 0 (go PX 0 (fun i q k hk => hPX i q k hk)) 0 vx xs Gp) (by
       rw [Nat.zero_add]; have := cm.go (w' := w') (P' := fun p k => (if B = k then some (Lb.sp d 0) else c.own k) = some (.sp d 0) ∧ (if k = B then [] else g k) = p) xs.length (go PY xs.length hPY) 0 vy ys En
       rwa [Nat.zero_add] at this)
     have := tw o 0 (vx ++ vy) (xs ++ ys) hD hr; intro i x hx; have h2 := this i x hx; rw [Nat.zero_add] at h2; simpa using h2
   · simp only [Cz.bk, and_self, if_true, List.length_append]; exact v2
end Go.TM
