/- A machine over trees: an evaluator of the code, and that what it finds is so; part 1. -/
import GoSem.Core.Value
import GoSem.Core.Code
import GoSem.Core.Program
import GoSem.Core.View
import Derived.Below
import Derived.Laws.AppendOwn
import Derived.Laws.Cells
import Derived.Laws.Rows
import Derived.Deep.MidRow
import Derived.Laws.CopyRow
namespace Go.TM
open Go
mutual
inductive Ty where
 | int (k : IntKind)
 | bool
 | str
 | sl (r : RT)
inductive RT where
 | nil
 | cons (t : Ty) (r : RT)
end
mutual
def den : Ty → Type
 | .int _ => Int
 | .bool => Bool
 | .str => ByteArray
 | .sl r => List (aq r)
def aq : RT → Type
 | .nil => Unit
 | .cons t r => den t × aq r
end
mutual
def Ty.eq? : (a b : Ty) → Option (PLift (a = b))
 | .int k, .int l => if h : k = l then some ⟨by rw [h]⟩ else none
 | .bool, .bool => some ⟨rfl⟩
 | .str, .str => some ⟨rfl⟩
 | .sl r, .sl s => match RT.eq? r s with | some ⟨h⟩ => some ⟨by rw [h]⟩ | none => none
 | _, _ => none
def RT.eq? : (a b : RT) → Option (PLift (a = b))
 | .nil, .nil => some ⟨rfl⟩
 | .cons t r, .cons u s => match Ty.eq? t u, RT.eq? r s with
   | some ⟨h⟩, some ⟨g⟩ => some ⟨by rw [h, g]⟩
   | _, _ => none
 | _, _ => none
end
def ck {r : RT} (s : RT) (xs : List (aq r)) : Option (List (aq s)) :=
 match RT.eq? r s with
 | some ⟨h⟩ => some (h ▸ xs)
 | none => none
def RT.eQ : RT → Bool
 | .nil => false
 | .cons (.sl _) _ => true
 | .cons _ r => r.eQ
def RT.width : RT → Nat
 | .nil => 0
 | .cons _ r => r.width + 1
inductive View where
 | full
 | from (lo : Nat)
 | sub (lo n : Nat)
def View.app {α : Type} : View → List α → List α
 | .full, xs => xs
 | .from lo, xs => xs.drop lo
 | .sub lo n, xs => (xs.drop lo).take n
def View.lo : View → Nat
 | .full => 0
 | .from l => l
 | .sub l _ => l
def View.idx (w : View) (i : Nat) : Nat :=
 match w with
 | .full => i
 | .from l => l + i
 | .sub l _ => l + i
inductive CV where
 | bad
 | int (k : IntKind) (n : Int)
 | bool (b : Bool)
 | str (s : ByteArray)
 | eI
 | IT
 | shr (r : RT) (xs : List (aq r))
 | nn (r : RT) (xs : List (aq r))  -- as 'ai1, and not nil
 | ref (a j g : Nat) (w : View)
 | ptr (b g off : Nat)
 | Li (a j g i off : Nat)
 | mH (r : RT) (x : aq r) (off : Nat)
 | sX (r : RT) (xs : List (aq r)) (off : Nat)  -- as 'ai2, IU row ag1 IU first of a list
 | fn (g : Nat) (rs : RT) (xs : List (aq rs))    -- a function with boxes Nb V1 read alone: each cell of IU row is one ag2 rows
 | qg (a j g e i k : Nat) (q : RT) (ys : List (aq q))  -- IU slice Nb a cell of a deep aa6 row holds
inductive Lb where
 | box (s : Nat)
 | sp (s j : Nat)
 | out
 | cA (i j : Nat)
 | tg (i : Nat)
 | jc (j : Nat)
def Lb.same : Lb → Lb → Bool
 | .box s, .box t => Nat.beq s t
 | .sp s i, .sp t j => Nat.beq s t && Nat.beq i j
 | _, _ => false
inductive V where
 | one (c : CV)
 | agg (cs : List CV)
 | ot (vs : List V)
def V.cells : V → List CV
 | .one c => [c]
 | .agg cs => cs
 | .ot _ => []
inductive Md where
 | sh | dp | ho
 deriving DecidableEq
def Md.is : Md → Md → Bool
 | .sh, .sh => true
 | .dp, .dp => true
 | .ho, .ho => true
 | _, _ => false
theorem Md.oG {a b : Md} : Md.is a b = true ↔ a = b := by cases a <;> cases b <;> simp [Md.is]
structure iN where
 r : RT
 own : Bool
 xs : List (aq r)
 md : Md := .sh
structure Sl where
 v : V
 box : Option (List CV)
 bg : Nat
 aP : List (Option iN)
 ag : Nat
 ep : Nat := 0  -- it WO when an array of IU slot is written, or a call is made
def Sl.none : Sl := { v := .one .bad, box := .none, bg := 0, aP := [], ag := 0 }
abbrev St := List Sl
def nth {α : Type} : List α → Nat → Option α
 | [], _ => none
 | x :: _, 0 => some x
 | _ :: l, n + 1 => nth l n
def nA {α : Type} (f : α → α) : List α → Nat → List α
 | [], _ => []
 | x :: l, 0 => f x :: l
 | x :: l, n + 1 => x :: nA f l n
def da (st : St) (t : Nat) : V :=
 match nth st t with
 | some s => s.v
 | none => .one .bad
def bj (st : St) (d : Option Nat) (v : V) : St :=
 match d with
 | some t => nA (fun s => { s with v := v }) st t
 | none => st
def bl (st : St) (a j g : Nat) : Option iN :=
 match nth st a with
 | some s => bif Nat.beq s.ag g then (match nth s.aP j with | some (some A) => some A | _ => none) else none
 | none => none
def cj (st : St) (a j : Nat) (A : Option iN) : St :=
 nA (fun s => { s with aP := nA (fun _ => A) s.aP j, ep := s.ep + 1 }) st a
def ou (st : St) (a : Nat) : Nat := match nth st a with | some s => s.ep | none => 0
def eR (st : St) (b g : Nat) : Option (List CV) :=
 match nth st b with
 | some s => bif Nat.beq s.bg g then s.box else none
 | none => none
inductive N where
 | done (st : St)
 | fail
 | br (b : Bool) (t e : N)
 | row (r : RT) (o : Option (aq r)) (k : aq r → N)
def N.val : N → Option St
 | .done st => some st
 | .fail => none
 | .br b t e => bif b then t.val else e.val
 | .row _ o k => match o with | some x => (k x).val | none => none
def N.fold {R : Type} : N → (St → Option R) → Option R
 | .done st, k => k st
 | .fail, _ => none
 | .br b t e, k => bif b then t.fold k else e.fold k
 | .row _ o f, k => match o with | some x => (f x).fold k | none => none
theorem N.fold_eq {R : Type} (n : N) (k : St → Option R) : n.fold k = n.val.bind k := by
 induction n with
 | done st => rfl
 | fail => rfl
 | br b t e iht ihe => cases b <;> simp [N.fold, N.val, iht, ihe]
 | row r o f ih => cases o <;> simp [N.fold, N.val, ih]
def IV : (t : Ty) → den t
 | .int _ => (0 : Int)
 | .bool => false
 | .str => ByteArray.empty
 | .sl _ => ([] : List _)
def th : (r : RT) → aq r
 | .nil => ()
 | .cons t r => (IV t, th r)
def IW : (t : Ty) → den t → CV
 | .int k, n => .int k n
 | .bool, b => .bool b
 | .str, s => .str s
 | .sl r, xs => .shr r xs
def eK : (r : RT) → aq r → List CV
 | .nil, _ => []
 | .cons t r, x => IW t x.1 :: eK r x.2
def abW (a j g e i k : Nat) : (t : Ty) → den t → CV
 | .int k, n => .int k n
 | .bool, b => .bool b
 | .str, s => .str s
 | .sl r, xs => .qg a j g e i k r xs
def qL (a j g e i : Nat) : (k : Nat) → (r : RT) → aq r → List CV
 | _, .nil, _ => []
 | k, .cons t r, x => abW a j g e i k t x.1 :: qL a j g e i (k + 1) r x.2
def qH : (r : RT) → aq r → Nat → Option ((q : RT) × List (aq q))
 | .nil, _, _ => none
 | .cons (.sl q) _, x, 0 => some ⟨q, x.1⟩
 | .cons _ _, _, 0 => none
 | .cons _ r, x, k + 1 => qH r x.2 k
def nD : (r : RT) → aq r → Nat → (q : RT) → List (aq q) → Option (aq r)
 | .nil, _, _, _, _ => none
 | .cons (.sl q) _, x, 0, p, ys => (ck q ys).map fun zs => (zs, x.2)
 | .cons _ _, _, 0, _, _ => none
 | .cons _ r, x, k + 1, p, ys => (nD r x.2 k p ys).map fun z => (x.1, z)
def mn (st : St) (r : RT) (c : CV) (k : List (aq r) → N) : N :=
 match c with
 | .shr _ xs => match ck r xs with | some ys => k ys | none => .fail
 | .nn _ xs => match ck r xs with | some ys => k ys | none => .fail
 | .eI => k []
 | .ref a j g w => match bl st a j g with
   | some A => (match A.md with | .sh => (match ck r A.xs with | some ys => k (w.app ys) | none => .fail) | _ => .fail)
   | none => .fail
 | _ => .fail
structure lZ where
 cells : Nat → Option Nat          -- how many cells a value of IU type ag3
 agg : Nat → Bool                  -- is it a struct
 off : Nat → Nat → Option Nat      -- a Nc field: its first cell
 WQ : Nat → Nat → Option Nat      -- and how many it has
 row : Nat → Option RT             -- IU tY types
 elem : Nat → Option (RT × Nat)    -- a slice: its V2 cells, and IU bytes of one
 ot : Nat → Option (List Nat)     -- a aa7 types
 kind : Nat → Option Ty            -- a type of one cell
 one : Nat → Nat → Bool            -- a Nc field Nb is no struct abY
 eq : Nat → Bool                   -- a struct of numbers, ag4 and strings, WR by '=='
 dp : Nat → Bool := fun _ => false -- a slice Rb ag5 eQ V1 its own, where ai6 may be
 cap : Nat → Bool := fun _ => false -- a Rc box Nb is read alone
inductive OV where
 | int (k : IntKind) (n : Int)
 | bool (b : Bool)
 | str (s : ByteArray)
 | own (A : iN)
 | shr (r : RT) (xs : List (aq r))
 | eI
 | mH (r : RT) (xs : List (aq r))
 | fn (g : Nat) (rs : RT) (xs : List (aq rs))
inductive AV where
 | val (agg : Bool) (os : List OV)  -- a value: its Nd V1 IU WS from now on
 | io (A : iN)                     -- an array, FX: IU callee may write it
 | box (os : List OV)               -- a struct behind a pointer, FX
 | bW (os : List OV)              -- a struct Rb Nd V1 FX
inductive RV where
 | one (o : OV)
 | agg (os : List OV)
 | ptr (os : List OV)  -- a new struct, behind a pointer
inductive XV where
 | io (A : iN)
 | box (cs : List OV)
 | bW (As : List (Option iN))
structure Res where
 outs : List RV
 exts : List XV
structure Ans where
 r : RT
 o : Option (aq r)
 res : aq r → Res
abbrev vW := List AV → Option Ans
inductive Pm where
 | shr | own | io | bW
 | pick (l : List Nat)  -- a struct behind a pointer, some of Rb Nd V1 read alone from then on
abbrev kK := FuncId → Option (Pm × Pm × Pm × vW)   -- IU first three Re ways; ag7 j2 V1 shared
def bp (b g : Nat) : (j : Nat) → List OV → List CV
 | _, [] => []
 | j, .int k n :: l => .int k n :: bp b g (j + 1) l
 | j, .bool x :: l => .bool x :: bp b g (j + 1) l
 | j, .str s :: l => .str s :: bp b g (j + 1) l
 | j, .own _ :: l => .ref b j g .full :: bp b g (j + 1) l
 | j, .shr r xs :: l => .shr r xs :: bp b g (j + 1) l
 | j, .eI :: l => .eI :: bp b g (j + 1) l
 | j, .mH r xs :: l => .sX r xs 0 :: bp b g (j + 1) l
 | j, .fn f rs xs :: l => .fn f rs xs :: bp b g (j + 1) l
def OV.arr : OV → Option iN
 | .own A => some A
 | _ => none
def bw : List OV → List (Option iN)
 | [] => []
 | o :: l => o.arr :: bw l
def RV.vV : RV → List OV
 | .one o => [o]
 | .agg os => os
 | .ptr os => .eI :: os
def Nf (d g j : Nat) : RV → V
 | .one o => match bp d g j [o] with | [c] => .one c | _ => .one .bad
 | .agg os => .agg (bp d g j os)
 | .ptr _ => .one .bad
def kO (d g : Nat) : (j : Nat) → List RV → List V
 | _, [] => []
 | j, r :: l => Nf d g j r :: kO d g (j + r.vV.length) l
def vX (st : St) (d : Option Nat) (outs : List RV) : Option St :=
 match d with
 | some d => match nth st d with
   | some s =>
     let g := s.ag + 1
     match outs with
     | [.ptr os] => some (nA (fun s => { s with v := .one (.ptr d (s.bg + 1) 0), box := some (bp d (s.ag + 1) 1 os), bg := s.bg + 1, aP := none :: bw os, ag := s.ag + 1 }) st d)
     | outs =>
       let v : V := match kO d g 0 outs with | [v] => v | vs => .ot vs
       some (nA (fun s => { s with v := v, aP := bw (outs.flatMap RV.vV), ag := g }) st d)
   | none => none
 | none => match outs with
   | [] => some st
   | _ => none
def nB (st : St) : Operand → V
 | .tmp t => da st t
 | .const (.int k n) => .one (.int k n)
 | .const (.bool b) => .one (.bool b)
 | .const (.string s) => .one (.str s)
 | .const (.slice none 0 0) => .one .eI
 | .const (.pointer none) => .one .IT
 | _ => .one .bad
def Ng (op : BinOp) (a b : Int) : Option Bool :=
 match op with
 | .lss => some (decide (a < b))
 | .leq => some (decide (a ≤ b))
 | .gtr => some (decide (b < a))
 | .geq => some (decide (b ≤ a))
 | .eql => some (decide (a = b))
 | .neq => some (!decide (a = b))
 | _ => none
def CD (op : BinOp) (k : IntKind) (a b : Int) : Option Int :=
 match op with
 | .add => some (k.wrap (a + b))
 | .sub => some (k.wrap (a - b))
 | .mul => some (k.wrap (a * b))
 | .and => some (k.wrap ((BitVec.ofInt k.bits a &&& BitVec.ofInt k.bits b).toNat : Int))
 | .or => some (k.wrap ((BitVec.ofInt k.bits a ||| BitVec.ofInt k.bits b).toNat : Int))
 | .xor => some (k.wrap ((BitVec.ofInt k.bits a ^^^ BitVec.ofInt k.bits b).toNat : Int))
 | _ => none
def Nh (op : BinOp) (k : IntKind) (a b : Int) : Option Int :=
 match op with
 | .quo => some (k.wrap (a.tdiv b))
 | .rem => some (a.tmod b)
 | _ => none
def CE (op : BinOp) (k : IntKind) (a : Int) (n : Nat) : Option Int :=
 match op with
 | .shl => some (k.wrap (a * 2 ^ (min n k.bits)))
 | .shr => some (a.fdiv (2 ^ (min n k.bits)))
 | _ => none
def pE (a b : ByteArray) : Bool := a.toList == b.toList
def tZ : CV → CV → Option Bool
 | .int k a, .int l b => if k = l then some (decide (a = b)) else none
 | .bool a, .bool b => some (a == b)
 | .str a, .str b => some (pE a b)
 | _, _ => none
def nE : List CV → List CV → Option Bool
 | [], [] => some true
 | a :: l, b :: m => match tZ a b, nE l m with
   | some x, some y => some (x && y)
   | _, _ => none
 | _, _ => none
def FY (s : ByteArray) (i : Int) : Int := match s[i.toNat]? with | some b => (b.toNat : Int) | none => 0
def gr : (r : RT) → aq r → Nat → CV → Option (aq r)
 | .cons (.int k) _, x, 0, .int l n => if k = l then some (n, x.2) else none
 | .cons .bool _, x, 0, .bool b => some (b, x.2)
 | .cons .str _, x, 0, .str s => some (s, x.2)
 | .cons _ r, x, n + 1, c => (gr r x.2 n c).map fun z => (x.1, z)
 | _, _, _, _ => none
def rowOf (st : St) : (r : RT) → List CV → (k : aq r → List (Nat × Nat) → N) → N
 | .nil, [], k => k () []
 | .cons (.int q) r, .int l n :: cs, k => if q = l then rowOf st r cs (fun x m => k (n, x) m) else .fail
 | .cons .bool r, .bool b :: cs, k => rowOf st r cs (fun x m => k (b, x) m)
 | .cons .str r, .str s :: cs, k => rowOf st r cs (fun x m => k (s, x) m)
 | .cons (.sl q) r, c :: cs, k =>
   match c with
   | .eI => rowOf st r cs (fun x m => k (([] : List _), x) m)
   | .ref a j g w => match bl st a j g with
     | some A => (match A.md with
       | .ho => .fail
       | _ => (match ck q A.xs with
         | some ys => rowOf st r cs (fun x m => k (w.app ys, x) ((a, j) :: m))
         | none => .fail))
     | none => .fail
   | .shr _ ys => match ck q ys with
     | some zs => rowOf st r cs (fun x m => k (zs, x) m)
     | none => .fail
   | _ => .fail
 | _, _, _ => .fail
def Md.fz : Md → Md
 | .dp => .sh
 | m => m
def iN.fz (A : iN) : iN := { A with own := false, md := A.md.fz }
def freeze (st : St) : List (Nat × Nat) → St
 | [] => st
 | (a, j) :: l => freeze (nA (fun s => { s with aP := nA (fun A => A.map iN.fz) s.aP j, ep := s.ep + 1 }) st a) l
def iO (st : St) : (r : RT) → List CV → Option (aq r × List (Option (Nat × Nat)))
 | .nil, [] => some ((), [])
 | .cons (.int q) r, .int l n :: cs => if q = l then (match iO st r cs with | some p => some ((n, p.1), none :: p.2) | none => none) else none
 | .cons .bool r, .bool b :: cs => match iO st r cs with | some p => some ((b, p.1), none :: p.2) | none => none
 | .cons .str r, .str s :: cs => match iO st r cs with | some p => some ((s, p.1), none :: p.2) | none => none
 | .cons (.sl q) r, c :: cs =>
   match c with
   | .eI => match iO st r cs with | some p => some ((([] : List _), p.1), none :: p.2) | none => none
   | .ref a j g .full => match bl st a j g with
     | some A => bif A.own && A.md.is (bif q.eQ then .dp else .sh) then (match ck q A.xs with
       | some ys => (match iO st r cs with | some p => some ((ys, p.1), some (a, j) :: p.2) | none => none)
       | none => none) else none
     | none => none
   | _ => none
 | _, _ => none
def jd : List (Option (Nat × Nat)) → List (Nat × Nat)
 | [] => []
 | some p :: l => p :: jd l
 | none :: l => jd l
def kG (st : St) : List (Nat × Nat) → St
 | [] => st
 | (a, j) :: l => kG (cj st a j none) l
def distinct : List (Nat × Nat) → Bool
 | [] => true
 | (a, j) :: l => l.all (fun p => !(Nat.beq p.1 a && Nat.beq p.2 j)) && distinct l
def lim : Nat := 35184372088832
def rB : RT → List CV → Bool
 | .nil, [] => true
 | .cons (.int k) r, .int l _ :: cs => decide (k = l) && rB r cs
 | .cons .bool r, .bool _ :: cs => rB r cs
 | .cons .str r, .str _ :: cs => rB r cs
 | _, _ => false
def lZ.fits (T : lZ) (t : Nat) (l : List CV) : Bool := match T.row t with | some r => rB r l | none => false
def vO (T : lZ) (st : St) (d : Option Nat) (op : BinOp) (t : Nat) (x y : V) : N :=
 match x, y with
 | .one (.int k a), .one (.int l b) =>
   match op with
   | .shl | .shr => match CE op k a b.toNat with
     | some n => .br (decide (0 ≤ b)) (.done (bj st d (.one (.int k n)))) .fail
     | none => .fail
   | _ => if k = l then (match Ng op a b with
     | some t => .done (bj st d (.one (.bool t)))
     | none => match CD op k a b with
       | some n => .done (bj st d (.one (.int k n)))
       | none => match Nh op k a b with
         | some n => .br (decide (b = 0)) .fail (.done (bj st d (.one (.int k n))))
         | none => .fail) else .fail
 | .one (.str a), .one (.str b) =>
   match op with
   | .add => .br (Nat.ble (a.size + b.size) lim) (.done (bj st d (.one (.str (a ++ b))))) .fail
   | .eql => .done (bj st d (.one (.bool (pE a b))))
   | .neq => .done (bj st d (.one (.bool (!pE a b))))
   | _ => .fail
 | .one (.bool a), .one (.bool b) =>
   match op, T.kind t with
   | .eql, some .bool => .done (bj st d (.one (.bool (a == b))))
   | .neq, some .bool => .done (bj st d (.one (.bool (!(a == b)))))
   | _, _ => .fail
 | .one .eI, .one .eI =>
   match op, T.elem t with
   | .eql, some _ => .done (bj st d (.one (.bool true)))
   | .neq, some _ => .done (bj st d (.one (.bool false)))
   | _, _ => .fail
 | .one (.nn _ _), .one .eI =>
   match op, T.elem t with
   | .eql, some _ => .done (bj st d (.one (.bool false)))
   | .neq, some _ => .done (bj st d (.one (.bool true)))
   | _, _ => .fail
 | .agg l, .agg m =>
   bif T.eq t && T.fits t l then (match op, nE l m with
   | .eql, some t => .done (bj st d (.one (.bool t)))
   | .neq, some t => .done (bj st d (.one (.bool (!t))))
   | _, _ => .fail) else .fail
 | _, _ => .fail
def CV.ti : CV → Bool
 | .bad => false
 | _ => true
def V.ti : V → Bool
 | .one c => c.ti
 | .agg cs => cs.all CV.ti
 | .ot _ => false
def bX (st : St) (d : Option Nat) (A : iN) : N :=
 match d with
 | some d => match nth st d with
   | some s0 => .done (nA (fun s => { s with v := .one (.ref d 0 (s0.ag + 1) .full), aP := [some A], ag := s0.ag + 1 }) st d)
   | none => .fail
 | none => .fail
def je (st : St) (d : Option Nat) (cs : List CV) : N :=
 match d with
 | some d => match nth st d with
   | some s0 => .done (nA (fun s => { s with v := .one (.ptr d (s0.bg + 1) 0), box := some cs, bg := s0.bg + 1 }) st d)
   | none => .fail
 | none => .fail
def oH (r : RT) : List CV := (eK r (th r)).map fun | .shr _ _ => .eI | c => c
def fE (n off : Nat) (cs : List CV) : Option (List CV) :=
 let l := (cs.drop off).take n
 bif Nat.beq l.length n then some l else none
def putCells (cs : List CV) (off : Nat) (l : List CV) : Option (List CV) :=
 bif Nat.ble (off + l.length) cs.length then some (cs.take off ++ l ++ cs.drop (off + l.length)) else none
def Ni (T : lZ) (t : Nat) (l : List CV) : V := bif T.agg t then .agg l else (match l with | [c] => .one c | _ => .one .bad)
def vH (T : lZ) (st : St) (d : Option Nat) (t : Nat) (a : V) : N :=
 match a, T.cells t with
 | .one (.ptr b g off), some n => match eR st b g with
   | some cs => match fE n off cs with
     | some l => .done (bj st d (Ni T t l))
     | none => .fail
   | none => .fail
 | .one (.mH r x off), some n => match fE n off (eK r x) with
   | some l => .done (bj st d (Ni T t l))
   | none => .fail
 | .one (.sX r xs off), some n => .row r xs[0]? fun x => match fE n off (eK r x) with
   | some l => .done (bj st d (Ni T t l))
   | none => .fail
 | .one (.Li a j g i off), some n => match bl st a j g with
   | some A => (match A.md with
     | .sh => .row A.r A.xs[i]? fun x => match fE n off (eK A.r x) with
       | some l => .done (bj st d (Ni T t l))
       | none => .fail
     | .dp => .row A.r A.xs[i]? fun x => match fE n off (qL a j g (ou st a) i 0 A.r x) with
       | some l => .done (bj st d (Ni T t l))
       | none => .fail
     | .ho => .fail)
   | none => .fail
 | _, _ => .fail
def kZ (r : RT) (x : aq r) : (off : Nat) → List CV → Option (aq r)
 | _, [] => some x
 | off, c :: l => match kZ r x (off + 1) l with
   | some y => gr r y off c
   | none => none
def iN.put (A : iN) (ys : List (aq A.r)) : iN := { A with xs := ys }
def sY (T : lZ) (st : St) (t : Nat) (a v : V) : N :=
 match a, T.cells t with
 | .one (.ptr b g off), some n => match eR st b g with
   | some cs => bif v.ti && Nat.beq v.cells.length n then (match putCells cs off v.cells with
     | some l => .done (nA (fun s => { s with box := some l }) st b)
     | none => .fail) else .fail
   | none => .fail
 | .one (.Li a j g i off), some n => match bl st a j g with
   | some A => bif v.ti && A.own && Nat.beq v.cells.length n && Nat.blt 0 n then
       (bif Nat.beq n A.r.width && A.r.eQ && Nat.beq off 0 then
         (match A.md with
         | .sh => rowOf st A.r v.cells fun x m => bif m.all (fun p => !(Nat.beq p.1 a && Nat.beq p.2 j)) then
           .row A.r A.xs[i]? (fun _ => .done (cj (freeze st m) a j (some (A.put (A.xs.set i x))))) else .fail
         | .dp => (match iO st A.r v.cells with
           | some p => bif distinct (jd p.2) && (jd p.2).all (fun p => !(Nat.beq p.1 a && Nat.beq p.2 j)) then
             .row A.r A.xs[i]? (fun _ => .done (cj (kG st (jd p.2)) a j (some (A.put (A.xs.set i p.1))))) else .fail
           | none => .fail)
         | .ho => .fail)
       else bif A.md.is .ho then .fail else .row A.r A.xs[i]? fun x => match kZ A.r x off v.cells with
         | some y => .done (cj st a j (some (A.put (A.xs.set i y))))
         | none => .fail) else .fail
   | none => .fail
 | _, _ => .fail
def qh (T : lZ) (st : St) (d : Option Nat) (t : Nat) (x ix : V) : N :=
 match T.elem t, x, ix with
 | some (q, _), .one (.shr r xs), .one (.int _ i) => match ck q xs with
   | some ys => .br (decide (0 ≤ i)) (.row q ys[i.toNat]? fun y => .done (bj st d (.one (.mH q y 0)))) .fail
   | none => .fail
 | some (q, _), .one (.ref a j g w), .one (.int _ i) => match bl st a j g with
   | some A => match ck q A.xs with
     | some ys => (match A.own with
       | false => bif !A.md.is .sh then .fail else .br (decide (0 ≤ i)) (.row q (w.app ys)[i.toNat]? fun y => .done (bj st d (.one (.mH q y 0)))) .fail
       | true => .br (decide (0 ≤ i)) (.br (Nat.blt i.toNat (w.app ys).length) (.done (bj st d (.one (.Li a j g (w.idx i.toNat) 0)))) .fail) .fail)
     | none => .fail
   | none => .fail
 | _, _, _ => .fail
def oI (n : Nat) (lo hi : Option V) (k : Option Nat → Option Nat → N) : N :=
 let IX (l : Option Nat) : N := match hi with
   | none => k l none
   | some (.one (.int _ h)) => .br (decide ((match l with | some l => (l : Int) | none => 0) ≤ h)) (.br (decide (h ≤ n)) (k l (some h.toNat)) .fail) .fail
   | _ => .fail
 match lo with
 | none => IX none
 | some (.one (.int _ l)) => .br (decide (0 ≤ l)) (match hi with
   | none => .br (decide (l ≤ n)) (IX (some l.toNat)) .fail
   | _ => IX (some l.toNat)) .fail
 | _ => .fail
def IY (n : Nat) : Option Nat → Option Nat → View
 | none, none => .full
 | some l, none => .from l
 | none, some h => .sub 0 h
 | some l, some h => .sub l (h - l)
def View.of (w : View) (n : Nat) (lo hi : Option Nat) : View :=
 match lo, hi with
 | none, none => w
 | some l, none => (match w with | .full => .from l | .from a => .from (a + l) | .sub a m => .sub (a + l) (m - l))
 | none, some h => .sub w.lo h
 | some l, some h => .sub (w.lo + l) (h - l)
def ua (T : lZ) (st : St) (d : Option Nat) (t : Nat) (x : V) (lo hi : Option V) : N :=
 match x with
 | .one (.str s) => match T.kind t with
   | some .str => oI s.size lo hi fun l h =>
     .done (bj st d (.one (.str (s.extract (l.getD 0) (h.getD s.size)))))
   | _ => .fail
 | .one .eI => match T.elem t with
   | some _ => oI 0 lo hi fun _ _ => .done (bj st d (.one .eI))
   | none => .fail
 | .one (.shr r xs) => match T.elem t with
   | some (q, _) => match ck q xs with
     | some ys => oI ys.length lo hi fun l h => .done (bj st d (.one (.shr q ((IY ys.length l h).app ys))))
     | none => .fail
   | none => .fail
 | .one (.ref a j g w) => match T.elem t, bl st a j g with
   | some (q, _), some A => match ck q A.xs with
     | some ys => oI (w.app ys).length lo hi fun l h => .done (bj st d (.one (.ref a j g (w.of (w.app ys).length l h))))
     | none => .fail
   | _, _ => .fail
 | _ => .fail
def FZ (T : lZ) (st : St) (d : Option Nat) (t : Nat) (x : V) : N :=
 match x with
 | .one (.str s) => match T.kind t with
   | some .str => .done (bj st d (.one (.int .i64 s.size)))
   | _ => .fail
 | .one .eI => match T.elem t with
   | some _ => .done (bj st d (.one (.int .i64 0)))
   | none => .fail
 | .one (.shr _ xs) => match T.elem t with
   | some _ => .done (bj st d (.one (.int .i64 xs.length)))
   | none => .fail
 | .one (.ref a j g w) => match T.elem t, bl st a j g with
   | some _, some A => .done (bj st d (.one (.int .i64 (w.app A.xs).length)))
   | _, _ => .fail
 | _ => .fail
def Nj (st : St) : V → Option (Nat × Nat × iN)
 | .one (.ref a j g .full) => match bl st a j g with
   | some A => bif A.own && A.md.is .dp then some (a, j, A) else none
   | none => none
 | _ => none
def CF (st : St) (d : Option Nat) (r : RT) (bytes : Nat) (x : V) (b k : Nat) (ys : List (aq r)) : N :=
 match x with
 | .one .eI => .br (Nat.ble ((([] : List (aq r)).length + ys.length) * bytes) lim) (bX (kG st [(b, k)]) d { r := r, own := true, xs := [] ++ ys, md := .dp }) .fail
 | .one (.ref a j g w) => match Nj st (.one (.ref a j g w)) with
   | some (_, _, A) => (match ck r A.xs with
     | some xs => bif !(Nat.beq a b && Nat.beq j k) then .br (Nat.ble ((xs.length + ys.length) * bytes) lim) (bX (kG st [(a, j), (b, k)]) d { r := r, own := true, xs := xs ++ ys, md := .dp }) .fail else .fail
     | none => .fail)
   | none => .fail
 | _ => .fail
def F0 (T : lZ) (st : St) (d : Option Nat) (t : Nat) (x y : V) : N :=
 match T.elem t with
 | none => .fail
 | some (r, bytes) =>
   match Nj st y with
   | some (b, k, B) => (match ck r B.xs with | some ys => CF st d r bytes x b k ys | none => .fail)
   | none =>
   let out (xs : List (aq r)) (used : List (Nat × Nat)) : N :=
     match y with
     | .one c => mn st r c fun ys =>
         .br (Nat.ble ((xs.length + ys.length) * bytes) lim)
           (bX (used.foldl (fun s p => cj s p.1 p.2 none) st) d { r := r, own := true, xs := xs ++ ys }) .fail
     | _ => .fail
   match x with
   | .one .eI => out [] []
   | .one (.ref a j g w) => match bl st a j g with
     | some A => bif A.own && A.md.is .sh then (match ck r A.xs with | some xs => out (w.app xs) [(a, j)] | none => .fail) else .fail
     | none => .fail
   | _ => .fail
def Nk (T : lZ) (st : St) (d : Option Nat) (t : Nat) (len cap : V) : N :=
 match T.elem t, len, cap with
 | some (r, bytes), .one (.int .i64 n), .one (.int .i64 c) =>
   .br (decide (n = c)) (.br (decide (0 ≤ n)) (.br (Nat.ble (n.toNat * bytes) lim)
     (bX st d { r := r, own := true, xs := List.replicate n.toNat (th r), md := bif T.dp t then .dp else .sh }) .fail) .fail) .fail
 | _, _, _ => .fail
def w8 (st : St) (r : RT) : (i : Nat) → List (Nat × V) → (k : List (aq r) → List (Nat × Nat) → N) → N
 | _, [], k => k [] []
 | i, (p, v) :: l, k => bif v.ti && Nat.beq p i then rowOf st r v.cells fun x m => w8 st r (i + 1) l fun xs m' => k (x :: xs) (m ++ m') else .fail
def IZ (st : St) (r : RT) : List (Nat × V) → Option (List (aq r) × List (Option (Nat × Nat)))
 | [] => some ([], [])
 | [(p, v)] => bif v.ti && Nat.beq p 0 then (match iO st r v.cells with | some q => some ([q.1], q.2) | none => none) else none
 | _ => none
def vY (T : lZ) (st : St) (d : Option Nat) (t len : Nat) (parts : List (Nat × V)) : N :=
 match T.elem t with
 | some (r, _) => bif Nat.beq parts.length len && Nat.ble (len * r.width) 16777216 then
     (match (bif T.dp t then IZ st r parts else none) with
     | some p => bif distinct (jd p.2) then bX (kG st (jd p.2)) d { r := r, own := true, xs := p.1, md := .dp } else .fail
     | none => w8 st r 0 parts fun xs m => bX (freeze st m) d { r := r, own := true, xs := xs })
   else .fail
 | none => .fail
def oJ (T : lZ) (t : Nat) (cs : List CV) : List (Nat × V) → Option (List CV)
 | [] => some cs
 | (f, v) :: l => match T.off t f, T.WQ t f with
   | some o, some s => bif v.ti && Nat.beq v.cells.length s then (match putCells cs o v.cells with
     | some ow => oJ T t ow l
     | none => none) else none
   | _, _ => none
def View.isFull : View → Bool
 | .full => true
 | _ => false
def pF (st : St) (s : Nat) : Nat := match nth st s with | some x => x.ag | none => 0
def gu (st : St) (own : Bool) : CV → Option (OV × Option Lb × List (Nat × Nat))
 | .int q n => some (.int q n, none, [])
 | .bool b => some (.bool b, none, [])
 | .str s => some (.str s, none, [])
 | .eI => some (.eI, none, [])
 | .shr r xs => some (.shr r xs, none, [])
 | .nn r xs => some (.shr r xs, none, [])
 | .ref a j g w => match bl st a j g with
   | some A => bif A.md.is .ho then none else bif own && A.own && (A.md.is .sh || w.isFull) then some (.own { A with xs := w.app A.xs }, some (.sp a j), []) else some (.shr A.r (w.app A.xs), none, [(a, j)])
   | none => none
 | .qg a j g e _ _ q ys => match bl st a j g with
   | some A => bif A.md.is .dp && Nat.beq e (ou st a) then some (.shr q ys, none, [(a, j)]) else none
   | none => none
 | .mH r x off => bif Nat.beq off 0 then some (.mH r [x], none, []) else none
 | .sX r xs off => bif Nat.beq off 0 then some (.mH r xs, none, []) else none
 | .fn f rs xs => some (.fn f rs xs, none, [])
 | _ => none
def fC (st : St) (own : Bool) : List CV → Option (List OV × List (Option Lb) × List (Nat × Nat))
 | [] => some ([], [], [])
 | c :: l => match gu st own c, fC st own l with
   | some (o, u, r), some (os, us, rs) => some (o :: os, u :: us, r ++ rs)
   | _, _ => none
def cq : List (Option Lb) → List Lb
 | [] => []
 | some l :: ls => l :: cq ls
 | none :: ls => cq ls
def Pm.oD : Pm → Bool
 | .own => true
 | _ => false
def Nl (st : St) : CV → Bool
 | .ref a j g w => (match w with | .full => true | _ => false) && (match bl st a j g with | some A => A.own | none => false)
 | _ => true
def eS (st : St) (m : Pm) : V → Option (AV × List Lb × List Lb × List (Nat × Nat))
 | .one (.ptr b g off) => match eR st b g with
   | some cs => (match fC st true cs with
     | some (os, u, r) => bif Nat.beq off 0 then some (.box os, .box b :: cq u, cq u, r) else none
     | none => none)
   | none => none
 | .one (.ref a j g w) => match m with
   | .io => (match w, bl st a j g with
     | .full, some A => bif A.own && !A.md.is .ho then some (.io A, [.sp a j], [], []) else none
     | _, _ => none)
   | m => match fC st m.oD [.ref a j g w] with
     | some (os, u, r) => some (.val false os, cq u, cq u, r)
     | none => none
 | .one c => match fC st false [c] with
   | some (os, u, r) => some (.val false os, cq u, cq u, r)
   | none => none
 | .agg cs => match m with
   | .bW => (match fC st true cs with
     | some (os, u, r) => bif cs.all (Nl st) then some (.bW os, cq u, [], r) else none
     | none => none)
   | m => match fC st m.oD cs with
     | some (os, u, r) => some (.val true os, cq u, cq u, r)
     | none => none
 | .ot _ => none
def jf (st : St) : List (Pm × V) → Option (List AV × List Lb × List Lb × List (Nat × Nat))
 | [] => some ([], [], [], [])
 | (m, v) :: l => match eS st m v, jf st l with
   | some (a, u, q, r), some (as, us, qs, rs) => some (a :: as, u ++ us, q ++ qs, r ++ rs)
   | _, _ => none
def ub : List Lb → Bool
 | [] => true
 | x :: l => l.all (fun y => !(Lb.same x y)) && ub l
def apart (used : List Lb) (reads : List (Nat × Nat)) : Bool :=
 reads.all fun p => used.all fun q => !(Lb.same q (.sp p.1 p.2))
def pb (st : St) : List Lb → St
 | [] => st
 | .sp a j :: l => pb (cj st a j none) l
 | _ :: l => pb st l
def OV.plain : OV → Bool
 | .own A => !A.r.eQ || A.md.is .dp
 | .shr _ _ => false
 | .mH _ _ => false
 | .fn _ _ _ => false
 | _ => true
def XV.plain : XV → Bool
 | .io A => !A.r.eQ || A.md.is .dp
 | .box os => os.all OV.plain
 | .bW As => As.all fun | some A => !A.r.eQ || A.md.is .dp | none => true
def Res.plain (r : Res) : Bool :=
 r.outs.all (fun o => o.vV.all OV.plain) && r.exts.all XV.plain
def CG (st : St) : (j : Nat) → List CV → List (Option iN) → Option St
 | _, [], _ => some st
 | j, .ref a k g _ :: cs, As => match nth As j, bl st a k g with
   | some (some B), some _ => CG (cj st a k (some B)) (j + 1) cs As
   | _, _ => none
 | j, _ :: cs, As => CG st (j + 1) cs As
def sC (st : St) (m : Pm) (v : V) (xs : List XV) : Option (St × List XV) :=
 match v with
 | .one (.ptr b g _) => match xs with
   | .box os :: xs => (match nth st b, eR st b g with
     | some s0, some _ => some (nA (fun s => { s with box := some (bp b (s0.ag + 1) 0 os), aP := bw os, ag := s0.ag + 1 }) st b, xs)
     | _, _ => none)
   | _ => none
 | .one (.ref a j g _) => match m with
   | .io => (match xs, bl st a j g with
     | .io A :: xs, some _ => some (cj st a j (some A), xs)
     | _, _ => none)
   | _ => some (st, xs)
 | .agg cs => match m with
   | .bW => (match xs with
     | .bW As :: xs => (CG st 0 cs As).map fun bh => (bh, xs)
     | _ => none)
   | _ => some (st, xs)
 | _ => some (st, xs)
def uc (st : St) : List (Pm × V) → List XV → Option St
 | [], [] => some st
 | [], _ => none
 | (m, v) :: l, xs => match sC st m v xs with
   | some (bh, WT) => uc bh l WT
   | none => none
def zc (a b c : Pm) : List V → List (Pm × V)
 | [] => []
 | [x] => [(a, x)]
 | [x, y] => [(a, x), (b, y)]
 | x :: y :: z :: l => (a, x) :: (b, y) :: (c, z) :: l.map fun v => (.shr, v)
def refsOf : List CV → List (Nat × Nat)
 | [] => []
 | .ref a j _ _ :: l => (a, j) :: refsOf l
 | _ :: l => refsOf l
def CH (st : St) : List (Pm × V) → List (Nat × Nat)
 | [] => []
 | (.own, .one (.ptr b g _)) :: l => (match eR st b g with | some cs => refsOf cs | none => []) ++ CH st l
 | (.pick q, .one (.ptr b g _)) :: l => (match eR st b g with | some cs => refsOf (q.filterMap (nth cs)) | none => []) ++ CH st l
 | _ :: l => CH st l
def zd (st : St) : St := st.map fun s => { s with ep := s.ep + 1 }
def G2 (st : St) (d : Option Nat) (Bo : vW) (ms : List (Pm × V)) (fin : St → N) : N :=
   match jf st ms with
   | some (eg, used, WU, reads) => bif ub used && apart used reads then (match Bo eg with
     | some A => .row A.r A.o fun x => (match uc (pb (zd (bif (A.res x).plain then st else freeze st reads)) WU) ms (A.res x).exts with
       | some bh => (match vX bh d (A.res x).outs with
         | some RR => fin RR
         | none => .fail)
       | none => .fail)
     | none => .fail) else .fail
   | none => .fail
structure Dr where
 a : Nat
 j : Nat
 g : Nat
 e : Nat
 i : Nat
 k : Nat
 q : RT
 ys : List (aq q)
def xV : List CV → List Dr
 | [] => []
 | .qg a j g e i k q ys :: l => ⟨a, j, g, e, i, k, q, ys⟩ :: xV l
 | _ :: l => xV l
def rC : List (Pm × V) → List Dr
 | [] => []
 | (.io, .one c) :: l => xV [c] ++ rC l
 | (.bW, .agg cs) :: l => xV cs ++ rC l
 | _ :: l => rC l
def F1 : List Nat → Bool
 | [] => true
 | [_] => true
 | a :: b :: l => Nat.blt a b && F1 (b :: l)
def Dr.arr (x : Dr) : iN := { r := x.q, own := true, xs := x.ys, md := bif x.q.eQ then .dp else .sh }
def ud (st : St) (ms : List (Pm × V)) : Option (Dr × iN × List Dr) :=
 match rC ms with
 | [] => none
 | x :: l => match bl st x.a x.j x.g with
   | some A => bif A.own && A.md.is .dp && Nat.beq x.e (ou st x.a) && l.all (fun y => Nat.beq y.a x.a && Nat.beq y.j x.j && Nat.beq y.g x.g && Nat.beq y.e x.e && Nat.beq y.i x.i) &&
       F1 ((x :: l).map (·.k)) && !Nat.beq x.a (st.length - 1) then some (x, A, x :: l) else none
   | none => none
def posOf (k : Nat) : (n : Nat) → List Dr → Nat
 | n, [] => n
 | n, x :: l => bif Nat.beq x.k k then n else posOf k (n + 1) l
def RS (P g : Nat) (l : List Dr) : CV → CV
 | .qg _ _ _ _ _ k _ _ => .ref P (posOf k 0 l) g .full
 | c => c
def RU (P g : Nat) (l : List Dr) : Pm × V → Pm × V
 | (.io, .one c) => (.io, .one (RS P g l c))
 | (.bW, .agg cs) => (.bW, .agg (cs.map (RS P g l)))
 | x => x
def fy (st : St) (x : Dr) (A : iN) (l : List Dr) : St :=
 nA (fun s => { s with aP := l.map (fun y => some y.arr), ag := s.ag + 1, ep := s.ep + 1 }) (cj st x.a x.j (some { A with md := .ho })) (st.length - 1)
def ue (st : St) (P g : Nat) (r : RT) : (n : Nat) → List Dr → aq r → Option (aq r)
 | _, [], z => some z
 | n, y :: l, z => match bl st P n g with
   | some B => bif B.own && B.md.is (bif y.q.eQ then .dp else .sh) then (match ck y.q B.xs with
     | some ys => (match nD r z y.k y.q ys with
       | some z' => ue st P g r (n + 1) l z'
       | none => none)
     | none => none) else none
   | none => none
def I0 (P g : Nat) (x : Dr) (A : iN) (l : List Dr) (st : St) : N :=
 match bl st x.a x.j x.g with
 | some H => bif H.md.is .ho then (.row A.r A.xs[x.i]? fun z => match ue st P g A.r 0 l z with
   | some z' => .done (cj (nA (fun s => { s with aP := [], ep := s.ep + 1 }) st P) x.a x.j (some (A.put (A.xs.set x.i z'))))
   | none => .fail) else .fail
 | none => .fail
def Rf (st : St) (d : Option Nat) (Bo : vW) (ms : List (Pm × V)) : N :=
 match ud st ms with
 | none => G2 st d Bo ms .done
 | some (x, A, l) => G2 (fy st x A l) d Bo (ms.map (RU (st.length - 1) (pF st (st.length - 1) + 1) l)) (I0 (st.length - 1) (pF st (st.length - 1) + 1) x A l)
def E2 (S : kK) (st : St) (d : Option Nat) (f : FuncId) (args : List V) : N :=
 match S f with
 | none => .fail
 | some (a, b, c, Bo) => Rf (freeze st (CH st (zc a b c args))) d Bo (zc a b c args)
def eL : List CV → Option ((r : RT) × aq r)
 | [] => some ⟨.nil, ()⟩
 | .int k n :: l => match eL l with | some ⟨r, x⟩ => some ⟨.cons (.int k) r, (n, x)⟩ | none => none
 | .bool b :: l => match eL l with | some ⟨r, x⟩ => some ⟨.cons .bool r, (b, x)⟩ | none => none
 | .str s :: l => match eL l with | some ⟨r, x⟩ => some ⟨.cons .str r, (s, x)⟩ | none => none
 | .shr q xs :: l => match eL l with | some ⟨r, x⟩ => some ⟨.cons (.sl q) r, (xs, x)⟩ | none => none
 | _ => none
def gk (st : St) (b : Nat) : St := nA (fun s => { s with box := none }) st b
def Px (st : St) (t : Nat) : Option (St × ((r : RT) × List (aq r))) :=
 match da st t with
 | .one (.mH r x off) => bif Nat.beq off 0 then some (st, ⟨r, [x]⟩) else none
 | .one (.sX r xs off) => bif Nat.beq off 0 then some (st, ⟨r, xs⟩) else none
 | .one (.ptr b g off) => match eR st b g with
   | some cs => bif Nat.beq off 0 then (match eL cs with
     | some ⟨r, x⟩ => some (gk st b, ⟨r, [x]⟩)
     | none => none) else none
   | none => none
 | _ => none
def xE (st : St) : List Operand → Option (St × ((rs : RT) × aq rs))
 | [] => some (st, ⟨.nil, ()⟩)
 | .tmp t :: l => match Px st t with
   | some (bh, ⟨r, ys⟩) => (match xE bh l with
     | some (RR, ⟨rs, xs⟩) => some (RR, ⟨.cons (.sl r) rs, (ys, xs)⟩)
     | none => none)
   | none => none
 | _ => none
def vI : (rs : RT) → aq rs → List V
 | .nil, _ => []
 | .cons (.sl r) rs, x => .one (.sX r x.1 0) :: vI rs x.2
 | .cons _ rs, x => .one .bad :: vI rs x.2
def Kt (y : aq (.cons (.int .u8) .nil)) : Int := y.1
def bytesOf (ys : List (aq (.cons (.int .u8) .nil))) : ByteArray := ys.foldl (fun r y => r.push (UInt8.ofNat (Kt y).toNat)) ByteArray.empty
def Ku (T : lZ) (S : kK) (st : St) (o : Oper) : N :=
 match o.op with
 | .move x | .assign x => .done (bj st o.dst (nB st x))
 | .pick c a b => match nB st c with
   | .one (.bool x) => .br x (.done (bj st o.dst (nB st a))) (.done (bj st o.dst (nB st b)))
   | _ => .fail
 | .alloc t => match T.row t with
   | some r => je st o.dst (oH r)
   | none => .fail
 | .box t x => match T.cells t with
   | some n => bif (nB st x).ti && Nat.beq (nB st x).cells.length n then (match (bif T.cap t then eL (nB st x).cells else none) with
     | some ⟨r, y⟩ => .done (bj st o.dst (.one (.mH r y 0)))
     | none => je st o.dst (nB st x).cells) else .fail
   | none => .fail
 | .build t parts => match T.row t, T.agg t with
   | some r, true => (match oJ T t (oH r) (parts.toList.map fun p => (p.1, nB st p.2)) with
     | some cs => .done (bj st o.dst (.agg cs))
     | none => .fail)
   | _, _ => .fail
 | .buildSlice t len parts => vY T st o.dst t len (parts.toList.map fun p => (p.1, nB st p.2))
 | .load t a => vH T st o.dst t (nB st a)
 | .store t a v => (match o.dst with
   | none => sY T st t (nB st a) (nB st v)
   | some _ => .fail)
 | .nilCheck x => match nB st x with
   | .one (.ptr b g off) => (match eR st b g with
     | some _ => .done (bj st o.dst (.one (.ptr b g off)))
     | none => .fail)
   | _ => .fail
 | .binOp op t x y _ => vO T st o.dst op t (nB st x) (nB st y)
 | .unOp .not _ x => match nB st x with
   | .one (.bool b) => .done (bj st o.dst (.one (.bool (!b))))
   | _ => .fail
 | .convert s t x => match T.kind s, T.kind t, nB st x with
   | some (.int _), some (.int k), .one (.int _ n) => .done (bj st o.dst (.one (.int k (k.wrap n))))
   | some .str, some .str, .one (.str b) => .done (bj st o.dst (.one (.str b)))
   | none, some .str, .one c => (match T.elem s with
     | some (.cons (.int .u8) .nil, _) => mn st (.cons (.int .u8) .nil) c fun ys => .done (bj st o.dst (.one (.str (bytesOf ys))))
     | _ => .fail)
   | _, _, _ => .fail
 | .makeSlice t l c => Nk T st o.dst t (nB st l) (nB st c)
 | .slice t x lo hi none => ua T st o.dst t (nB st x) (lo.map (nB st)) (hi.map (nB st))
 | .fieldAddr t x f => match nB st x, T.off t f with
   | .one (.ptr b g off), some k => (match eR st b g with
     | some _ => .done (bj st o.dst (.one (.ptr b g (off + k))))
     | none => .fail)
   | .one (.Li a j g i off), some k => (match bl st a j g with
     | some _ => .done (bj st o.dst (.one (.Li a j g i (off + k))))
     | none => .fail)
   | .one (.mH r x off), some k => .done (bj st o.dst (.one (.mH r x (off + k))))
   | .one (.sX r xs off), some k => .done (bj st o.dst (.one (.sX r xs (off + k))))
   | _, _ => .fail
 | .field t x f => match nB st x, T.off t f with
   | .agg cs, some k => bif T.one t f then (match nth cs k with
     | some c => .done (bj st o.dst (.one c))
     | none => .fail) else .fail
   | _, _ => .fail
 | .indexAddr t x i => qh T st o.dst t (nB st x) (nB st i)
 | .index t x i => match T.kind t, nB st x, nB st i with
   | some .str, .one (.str s), .one (.int _ n) => .br (decide (0 ≤ n)) (.br (decide (n < s.size)) (.done (bj st o.dst (.one (.int .u8 (FY s n))))) .fail) .fail
   | _, _, _ => .fail
 | .extract t i => match nB st t with
   | .ot vs => match nth vs i with
     | some v => .done (bj st o.dst v)
     | none => .fail
   | _ => .fail
 | .call { callee := .value (.func f), args := args, argTypes := _ } => E2 S st o.dst f (args.toList.map (nB st))
 | .call { callee := .value (.tmp t), args := args, argTypes := _ } => (match da st t with
   | .one (.fn g rs xs) => .row rs xs[0]? fun x => E2 S st o.dst g (args.toList.map (nB st) ++ vI rs x)
   | _ => .fail)
 | .makeFunc (.func g) first xp => bif first.isEmpty then (match xE st xp.toList with
   | some (bh, ⟨rs, x⟩) => .done (bj bh o.dst (.one (.fn g rs [x])))
   | none => .fail) else .fail
 | .call { callee := .builtin b, args := args, argTypes := ts } => match b, args.toList, ts.toList with
   | .len, [x], [t] => FZ T st o.dst t (nB st x)
   | .append, [x, y], [t, u] => bif Nat.beq t u then F0 T st o.dst t (nB st x) (nB st y) else .fail
   | .min, [x, y], _ => (match nB st x, nB st y with
     | .one (.int k a), .one (.int _ b) => .done (bj st o.dst (.one (.int k (if b < a then b else a))))
     | _, _ => .fail)
   | .max, [x, y], _ => (match nB st x, nB st y with
     | .one (.int k a), .one (.int _ b) => .done (bj st o.dst (.one (.int k (if b > a then b else a))))
     | _, _ => .fail)
   | .min, [x, y, z], _ => (match nB st x, nB st y, nB st z with
     | .one (.int k a), .one (.int _ b), .one (.int _ c) => .done (bj st o.dst (.one (.int k (if c < (if b < a then b else a) then c else (if b < a then b else a)))))
     | _, _, _ => .fail)
   | _, _, _ => .fail
 | _ => .fail
def AF (T : lZ) (S : kK) (ops : List Oper) (st : St) (o : Oper) : N :=
 match o.guard with
 | none => Ku T S st o
 | some (j, want) => match (nth ops j).bind (·.dst) with
   | some d => match da st d with
     | .one (.bool b) =>
       let yes (x : Bool) : N := Ku T S (bj st (some d) (.one (.bool x))) o
       let no (x : Bool) : N := .done (bj (bj st (some d) (.one (.bool x))) o.dst (.ot []))
       .br b (bif want then yes true else no true) (bif want then no false else yes false)
     | .ot [] => .done (bj st o.dst (.ot []))
     | _ => .fail
   | none => .fail
inductive Ex where
 | normal
 | exit (n : Nat)
 | ret
open Classical in
noncomputable def both {R : Type} (a b : Option R) : Option R := if a = b then a else none
theorem nb {R : Type} (a : Option R) : both a a = a := by unfold both; rw [if_pos rfl]
theorem Lj {R : Type} {a b : Option R} {r : R} (h : both a b = some r) : a = some r ∧ b = some r := by
 unfold both at h
 split at h
 · rename_i e; exact ⟨h, e ▸ h⟩
 · cases h
section
variable {R : Type} (T : lZ) (S : kK)
def Py (ops : List Oper) : List Oper → St → (St → Option R) → Option R
 | [], st, k => k st
 | o :: r, st, k => (AF T S ops st o).fold fun bh => Py ops r bh k
inductive Kd where
 | any | take | one | last
inductive Pl where
 | nil
 | op (i : Nat) (kd : Kd) (p : Pl)
 | alt (p q : Pl)
def I1 (st : St) (ms : List (Pm × V)) : Bool :=
 match jf st ms with
   | some (_, used, _, _) => used.isEmpty
   | none => true
def rh (S : kK) (st : St) (f : FuncId) (args : List V) : Bool :=
 match S f with
 | some (a, b, c, _) => (match ud (freeze st (CH st (zc a b c args))) (zc a b c args) with | none => I1 (freeze st (CH st (zc a b c args))) (zc a b c args) | some _ => false)
 | none => true
def kindOk (S : kK) (st : St) (o : Oper) : Kd → Bool
 | .any => match o.op with
   | .move _ | .assign _ | .pick _ _ _ | .nilCheck _ | .binOp _ _ _ _ _ | .unOp _ _ _ | .slice _ _ _ _ _ | .fieldAddr _ _ _ | .indexAddr _ _ _ | .index _ _ _ | .extract _ _ | .build _ _ | .field _ _ _ => true
   | .convert _ _ x => (match nB st x with | .one (.qg _ _ _ _ _ _ _ _) => false | .one (.shr _ _) => false | .one (.nn _ _) => false | .one (.ref _ _ _ _) => false | .one .eI => false | _ => true)
   | .call { callee := .builtin b, .. } => (match b with | .len | .min | .max => true | _ => false)
   | _ => false
 | .take => match o.op with
   | .load _ _ => true
   | _ => false
 | .one => match o.op with
   | .store _ _ _ => false
   | .call { callee := .builtin b, .. } => (match b with | .len | .min | .max => true | _ => false)
   | .call { callee := .value (.func f), args := args, .. } => rh S st f (args.toList.map (nB st))
   | .call { callee := .value (.tmp t), args := args, .. } => (match da st t with
     | .one (.fn g rs xs) => (match xs[0]? with | some x => rh S st g (args.toList.map (nB st) ++ vI rs x) | none => true)
     | _ => true)
   | _ => true
 | .last => true
noncomputable def sZ (ops : List Oper) : Pl → St → (St → Option R) → Option R
 | .nil, st, k => k st
 | .op i kd r, st, k => match nth ops i with
   | some o => bif kindOk S st o kd then (AF T S ops st o).fold fun bh => sZ ops r bh k else none
   | none => none
 | .alt p q, st, k => both (sZ ops p st k) (sZ ops q st k)
abbrev nc (R : Type) := Nat → Code → St → (Ex → St → Option R) → Option R
abbrev kP := Nat → Pl
noncomputable def fD (D : kP) (L : nc R) : Code → St → (Ex → St → Option R) → Option R
 | .skip, st, k => k .normal st
 | .region _ ops false, st, k => Py T S ops.toList ops.toList st fun bh => k .normal bh
 | .region id ops true, st, k => sZ T S ops.toList (D id) st fun bh => k .normal bh
 | .seq a b, st, k => fD D L a st fun e bh => match e with
   | .normal => fD D L b bh k
   | e => k e bh
 | .cond (.tmp c) a b, st, k => match da st c with
   | .one (.bool x) => bif x then fD D L a (bj st (some c) (.one (.bool true))) k else fD D L b (bj st (some c) (.one (.bool false))) k
   | _ => none
 | .block id (.loop b), st, k => L id b st k
 | .block id b, st, k => fD D L b st fun e bh => match e with
   | .exit n => bif Nat.beq n id then k .normal bh else k (.exit n) bh
   | e => k e bh
 | .exit id, st, k => k (.exit id) st
 | .ret, st, k => k .ret st
 | _, _, _ => none
end
end Go.TM
namespace Go.TM
open Go Go.RowKit
@[simp] theorem aa9 {α : Type} (n : Nat) : nth ([] : List α) n = none := rfl
theorem gO {α : Type} (l : List α) (n : Nat) : nth l n = l[n]? := by
 induction l generalizing n with
 | nil => simp
 | cons x l ih => cases n <;> simp [nth, ih]
theorem j5 {α : Type} (f : α → α) (l : List α) (n : Nat) : nth (nA f l n) n = (nth l n).map f := by
 induction l generalizing n with
 | nil => rfl
 | cons x l ih => cases n <;> simp [nA, nth, ih]
theorem mQ {α : Type} (f : α → α) (l : List α) {n m : Nat} (h : m ≠ n) : nth (nA f l n) m = nth l m := by
 induction l generalizing n m with
 | nil => rfl
 | cons x l ih =>
   cases n with
   | zero => cases m with
     | zero => exact absurd rfl h
     | succ m => rfl
   | succ n => cases m with
     | zero => rfl
     | succ m => simp only [nA, nth]; exact ih (by omega)
theorem ec {α : Type} (f : α → α) (l : List α) (n m : Nat) : nth (nA f l n) m = if m = n then (nth l m).map f else nth l m := by
 by_cases h : m = n
 · subst h; simp [j5]
 · simp [h, mQ f l h]
theorem F2 {α : Type} {l : List α} {n : Nat} {x : α} (h : nth l n = some x) : n < l.length := by
 rw [gO] at h; exact (List.getElem?_eq_some_iff.1 h).1
def Kv {r : RT} (xs : den (.sl r)) : List (aq r) := xs
mutual
def cw (w : World) (ok : Nat → Prop) : (t : Ty) → Value → den t → Prop
 | .int k, v, n => v = .int k n
 | .bool, v, b => v = .bool b
 | .str, v, s => v = .string s
 | .sl r, v, xs => (v = .slice none 0 0 ∧ Kv xs = []) ∨
     ∃ a cap, v = .slice (some a) (Kv xs).length cap ∧ (Kv xs).length ≤ cap ∧
       (Kv xs ≠ [] → a.spot = none ∧ a.block < w.heap.size ∧ ok a.block) ∧
       ∀ i x, (Kv xs)[i]? = some x → dw w ok r a.block (a.off + i * r.width) x
def dw (w : World) (ok : Nat → Prop) : (r : RT) → (b off : Nat) → aq r → Prop
 | .nil, _, _, _ => True
 | .cons t r, b, off, x => (∃ v, w.cell? ⟨b, off, none⟩ = some v ∧ cw w ok t v x.1) ∧ dw w ok r b (off + 1) x.2
end
theorem oE (w : World) (ok : Nat → Prop) (r : RT) (v : Value) (xs : List (aq r)) : cw w ok (.sl r) v xs ↔
   ((v = .slice none 0 0 ∧ xs = []) ∨ ∃ a cap, v = .slice (some a) xs.length cap ∧ xs.length ≤ cap ∧
       (xs ≠ [] → a.spot = none ∧ a.block < w.heap.size ∧ ok a.block) ∧ ∀ i x, xs[i]? = some x → dw w ok r a.block (a.off + i * r.width) x) := by
 have := cw.eq_4 w ok v r xs; exact this ▸ Iff.rfl
theorem rD {w : World} {ok : Nat → Prop} {k : IntKind} {v : Value} {n : Int} : cw w ok (.int k) v n ↔ v = .int k n := cw.eq_1 w ok v k n ▸ Iff.rfl
theorem sD {w : World} {ok : Nat → Prop} {v : Value} {b : Bool} : cw w ok .bool v b ↔ v = .bool b := cw.eq_2 w ok v b ▸ Iff.rfl
theorem vZ {w : World} {ok : Nat → Prop} {v : Value} {s : ByteArray} : cw w ok .str v s ↔ v = .string s := cw.eq_3 w ok v s ▸ Iff.rfl
structure jI (w w' : World) (ok ze : Nat → Prop) : Prop where
 size : w.heap.size ≤ w'.heap.size
 block : ∀ b, b < w.heap.size → ok b → w'.heap[b]? = w.heap[b]?
 ok : ∀ b, b < w.heap.size → ok b → ze b
theorem Kw {w : World} {a : Addr} {v : Value} (h : w.cell? a = some v) : a.block < w.heap.size := World.block_lt_of_cell? w a h
mutual
theorem cw.stays {w w' : World} {ok ze : Nat → Prop} (h : jI w w' ok ze) : (t : Ty) → (v : Value) → (x : den t) → cw w ok t v x → cw w' ze t v x
 | .int _, _, _, hr => by unfold cw at hr ⊢; exact hr
 | .bool, _, _, hr => by unfold cw at hr ⊢; exact hr
 | .str, _, _, hr => by unfold cw at hr ⊢; exact hr
 | .sl r, v, xs, hr => by
   unfold cw at hr ⊢; rcases hr with hr | ⟨a, cap, hv, hc, ha, hx⟩
   · exact .inl hr
   · refine .inr ⟨a, cap, hv, hc, fun gW => ?_, fun i x hi => ?_⟩
     · obtain ⟨hs, hb, gI⟩ := ha gW; exact ⟨hs, Nat.lt_of_lt_of_le hb h.size, h.ok _ hb gI⟩
     · have gW : Kv xs ≠ [] := by intro e; rw [e] at hi; simp at hi
       obtain ⟨hs, hb, gI⟩ := ha gW; exact dw.stays h r _ _ x (h.block _ hb gI) (hx i x hi)
theorem dw.stays {w w' : World} {ok ze : Nat → Prop} (h : jI w w' ok ze) : (r : RT) → (b off : Nat) → (x : aq r) → w'.heap[b]? = w.heap[b]? → dw w ok r b off x → dw w' ze r b off x
 | .nil, _, _, _, _, _ => by unfold dw; trivial
 | .cons t r, b, off, x, gI, hr => by
   unfold dw at hr ⊢; obtain ⟨⟨v, hv, hx⟩, hr⟩ := hr; refine ⟨⟨v, ?_, cw.stays h t v x.1 hx⟩, dw.stays h r b (off + 1) x.2 gI hr⟩; rw [World.cell?_of_block (w := w) gI]; exact hv
end
inductive Loc where
 | nil
 | at (b off cap : Nat)
structure Cz where
 bx : Nat → Nat
 lc : Nat → Nat → Loc
 own : Nat → Option Lb
def Cz.ok (c : Cz) (b : Nat) : Prop := c.own b = none
def jg (st : St) (s : Nat) : Nat := match nth st s with | some x => x.bg | none => 0
def ev (st : St) (s : Nat) : Nat := match nth st s with | some x => x.ag | none => 0
def jJ (l : Loc) (W lo n : Nat) (v : Value) : Prop :=
 match l with
 | .nil => v = .slice none 0 0 ∧ n = 0
 | .at b off cap => ∃ a c, v = .slice (some a) n c ∧ n ≤ c ∧ lo + c ≤ cap ∧ (c ≠ 0 → a = ⟨b, off + lo * W, none⟩)
mutual
def dZ (w : World) (P : List Nat → Nat → Prop) : (t : Ty) → (p : List Nat) → Value → den t → Prop
 | .int k, _, v, n => v = .int k n
 | .bool, _, v, b => v = .bool b
 | .str, _, v, s => v = .string s
 | .sl r, p, v, xs => ∃ lc : Loc, jJ lc r.width 0 (Kv xs).length v ∧ v.oneCell' = true ∧ ((lc = .nil ∧ Kv xs = []) ∨ ∃ b off cap, lc = .at b off cap ∧
     P p b ∧ (Kv xs).length ≤ cap ∧ (∃ cur ty, w.heap[b]? = some (.cells cur ty (0, 0)) ∧ off + cap * r.width ≤ cur.size) ∧
       ∀ i x, (Kv xs)[i]? = some x → iz w P r (p ++ [i]) 0 b (off + i * r.width) x)
def iz (w : World) (P : List Nat → Nat → Prop) : (r : RT) → (p : List Nat) → (k b off : Nat) → aq r → Prop
 | .nil, _, _, _, _, _ => True
 | .cons t r, p, k, b, off, x => (∃ v, w.cell? ⟨b, off, none⟩ = some v ∧ dZ w P t (p ++ [k]) v x.1) ∧ iz w P r p (k + 1) b (off + 1) x.2
end
theorem v7 (w : World) (P : List Nat → Nat → Prop) (r : RT) (p : List Nat) (v : Value) (xs : List (aq r)) : dZ w P (.sl r) p v xs ↔
   ∃ lc : Loc, jJ lc r.width 0 xs.length v ∧ v.oneCell' = true ∧ ((lc = .nil ∧ xs = []) ∨ ∃ b off cap, lc = .at b off cap ∧
     P p b ∧ xs.length ≤ cap ∧ (∃ cur ty, w.heap[b]? = some (.cells cur ty (0, 0)) ∧ off + cap * r.width ≤ cur.size) ∧
       ∀ (i : Nat) x, xs[i]? = some x → iz w P r (p ++ [i]) 0 b (off + i * r.width) x) := by
 have := dZ.eq_4 w P p v r xs; exact this ▸ Iff.rfl
theorem xW {w : World} {P : List Nat → Nat → Prop} {k : IntKind} {p : List Nat} {v : Value} {n : Int} : dZ w P (.int k) p v n ↔ v = .int k n := dZ.eq_1 w P p v k n ▸ Iff.rfl
theorem uf {w : World} {P : List Nat → Nat → Prop} {p : List Nat} {v : Value} {n : Bool} : dZ w P .bool p v n ↔ v = .bool n := dZ.eq_2 w P p v n ▸ Iff.rfl
theorem xX {w : World} {P : List Nat → Nat → Prop} {p : List Nat} {v : Value} {n : ByteArray} : dZ w P .str p v n ↔ v = .string n := dZ.eq_3 w P p v n ▸ Iff.rfl
mutual
theorem dZ.go {w w' : World} {P P' : List Nat → Nat → Prop} : (t : Ty) → (p p' : List Nat) → (hP : ∀ q b, P (p ++ q) b → w'.heap[b]? = w.heap[b]? ∧ P' (p' ++ q) b) → (v : Value) → (x : den t) → dZ w P t p v x → dZ w' P' t p' v x
 | .int _, _, _, _, _, _, h => by unfold dZ at h ⊢; exact h
 | .bool, _, _, _, _, _, h => by unfold dZ at h ⊢; exact h
 | .str, _, _, _, _, _, h => by unfold dZ at h ⊢; exact h
 | .sl r, p, p', hP, v, xs, h => by
   unfold dZ at h ⊢; obtain ⟨lc, h1, h0, h2⟩ := h; refine ⟨lc, h1, h0, h2.imp id ?_⟩
   rintro ⟨b, off, cap, e, h3, h4, ⟨cur, ty, h5, h6⟩, h7⟩
   obtain ⟨hw, hb⟩ := hP [] b (by simpa using h3); refine ⟨b, off, cap, e, by simpa using hb, h4, ⟨cur, ty, by rw [hw]; exact h5, h6⟩, fun i x hx => iz.go r (p ++ [i]) (p' ++ [i]) (fun q k hk => ?_) 0 b _ x hw (h7 i x hx)⟩; have := hP ([i] ++ q) k (by rw [← List.append_assoc]; exact hk); rw [← List.append_assoc] at this; exact this
theorem iz.go {w w' : World} {P P' : List Nat → Nat → Prop} : (r : RT) → (p p' : List Nat) → (hP : ∀ q b, P (p ++ q) b → w'.heap[b]? = w.heap[b]? ∧ P' (p' ++ q) b) → (k b off : Nat) → (x : aq r) → w'.heap[b]? = w.heap[b]? → iz w P r p k b off x → iz w' P' r p' k b off x
 | .nil, _, _, _, _, _, _, _, _, _ => by unfold iz; trivial
 | .cons t r, p, p', hP, k, b, off, x, hw, h => by
   unfold iz at h ⊢; obtain ⟨⟨v, h1, h2⟩, h3⟩ := h; refine ⟨⟨v, by rw [World.cell?_of_block (w := w) hw]; exact h1, dZ.go t (p ++ [k]) (p' ++ [k]) (fun q b hb => ?_) v x.1 h2⟩, iz.go r p p' hP (k + 1) b (off + 1) x.2 hw h3⟩; have := hP ([k] ++ q) b (by rw [← List.append_assoc]; exact hb); rw [← List.append_assoc] at this; exact this
end
theorem I2 {lc : Loc} {W lo n : Nat} {v : Value} (h : jJ lc W lo n v) : (v = .slice none 0 0 ∧ n = 0) ∨ ∃ b off cap a c, lc = .at b off cap ∧ v = .slice (some a) n c ∧ n ≤ c ∧ lo + c ≤ cap ∧ (c ≠ 0 → a = ⟨b, off + lo * W, none⟩) := by
 cases lc with
 | nil => exact .inl h
 | «at» b off cap =>
   obtain ⟨a, c, h1, h2, h3, h4⟩ := h; exact .inr ⟨b, off, cap, a, c, rfl, h1, h2, h3, h4⟩
mutual
theorem dZ.rep {w : World} {P : List Nat → Nat → Prop} {ok : Nat → Prop} (hP : ∀ p b, P p b → ok b) : (t : Ty) → (p : List Nat) → (v : Value) → (x : den t) → dZ w P t p v x → cw w ok t v x
 | .int _, _, _, _, h => by unfold dZ at h; unfold cw; exact h
 | .bool, _, _, _, h => by unfold dZ at h; unfold cw; exact h
 | .str, _, _, _, h => by unfold dZ at h; unfold cw; exact h
 | .sl r, p, v, xs, h => by
   unfold dZ at h; unfold cw; obtain ⟨lc, h1, h0, h2⟩ := h; rcases I2 h1 with ⟨e1, e2⟩ | ⟨b, off, cap, a, c, e1, e2, e3, e4, e5⟩
   · exact .inl ⟨e1, List.length_eq_zero_iff.1 e2⟩
   · rcases h2 with ⟨e, _⟩ | ⟨b', abZ, I3, e, h3, h4, ⟨cur, ty, h5, h6⟩, h7⟩
     · rw [e] at e1; cases e1
     · rw [e] at e1; injection e1 with q1 q2 q3; subst q1 q2 q3; have gW : Kv xs ≠ [] → a = ⟨b', abZ, none⟩ := by
         intro gW; have := List.length_pos_iff.2 gW; have := e5 (by omega); simpa using this
       refine .inr ⟨a, c, e2, e3, fun hn => ?_, fun i x hx => ?_⟩
       · rw [gW hn]; exact ⟨rfl, (Array.getElem?_eq_some_iff.1 h5).1, hP _ _ h3⟩
       · rw [gW (by intro e; rw [e] at hx; simp at hx)]; exact iz.rep hP r _ 0 b' _ x (h7 i x hx)
theorem iz.rep {w : World} {P : List Nat → Nat → Prop} {ok : Nat → Prop} (hP : ∀ p b, P p b → ok b) : (r : RT) → (p : List Nat) → (k b off : Nat) → (x : aq r) → iz w P r p k b off x → dw w ok r b off x
 | .nil, _, _, _, _, _, _ => by unfold dw; trivial
 | .cons t r, p, k, b, off, x, h => by
   unfold iz at h; unfold dw; obtain ⟨⟨v, h1, h2⟩, h3⟩ := h; exact ⟨⟨v, h1, dZ.rep hP t _ v x.1 h2⟩, iz.rep hP r p (k + 1) b (off + 1) x.2 h3⟩
end
def cf (c : Cz) (w : World) (l : Lb) (A : iN) (b off : Nat) : Prop :=
 match A.md with
 | .sh => ∀ (i : Nat) x, A.xs[i]? = some x → dw w c.ok A.r b (off + i * A.r.width) x
 | .dp => ∃ g : Nat → List Nat, g b = [] ∧ ∀ (i : Nat) x, A.xs[i]? = some x → iz w (fun p k => c.own k = some l ∧ g k = p) A.r [i] 0 b (off + i * A.r.width) x
 | .ho => True
theorem cf.go {c c' : Cz} {w w' : World} {l l' : Lb} {A : iN} {b off : Nat} (h : cf c w l A b off) (hs : A.md = .sh → jI w w' c.ok c'.ok) (hb : w'.heap[b]? = w.heap[b]?)
   (hd : A.md = .dp → ∀ k, c.own k = some l → w'.heap[k]? = w.heap[k]? ∧ c'.own k = some l') : cf c' w' l' A b off := by
 unfold cf at h ⊢
 cases hm : A.md with
 | sh => rw [hm] at h; exact fun i x hx => dw.stays (hs hm) _ _ _ _ hb (h i x hx)
 | dp =>
   rw [hm] at h; obtain ⟨g, h1, h2⟩ := h; exact ⟨g, h1, fun i x hx => iz.go _ [i] [i] (fun q k hk => ⟨(hd hm k hk.1).1, (hd hm k hk.1).2, hk.2⟩) _ _ _ _ hb (h2 i x hx)⟩
 | ho => trivial
theorem cf.sh {c : Cz} {w : World} {l : Lb} {A : iN} {b off : Nat} (hm : A.md = .sh) : cf c w l A b off ↔ ∀ (i : Nat) x, A.xs[i]? = some x → dw w c.ok A.r b (off + i * A.r.width) x := by
 unfold cf; rw [hm]
def E3 (w : World) (ok : Nat → Prop) (r : RT) (v : Value) (xs : List (aq r)) : Prop :=
 ∃ b o, v = .pointer (some ⟨b, o, none⟩) ∧ b < w.heap.size ∧ ok b ∧ ∀ x, xs[0]? = some x → dw w ok r b o x
def ug (w : World) (ok : Nat → Prop) : (rs : RT) → List Value → aq rs → Prop
 | .nil, vs, _ => vs = []
 | .cons (.sl r) rs, vs, x => ∃ v l, vs = v :: l ∧ E3 w ok r v (Kv x.1) ∧ ug w ok rs l x.2
 | .cons _ _, _, _ => False
def FnAt (w : World) (ok : Nat → Prop) (g : Nat) (rs : RT) (v : Value) (xs : List (aq rs)) : Prop :=
 ∃ xp, v = .func (.func g) #[] xp ∧ ∀ x, xs[0]? = some x → ug w ok rs xp.toList x
theorem E3.stays {w w' : World} {ok ze : Nat → Prop} (h : jI w w' ok ze) {r : RT} {v : Value} {xs : List (aq r)} (hp : E3 w ok r v xs) : E3 w' ze r v xs := by
 obtain ⟨b, o, h1, h2, h3, h4⟩ := hp; exact ⟨b, o, h1, Nat.lt_of_lt_of_le h2 h.size, h.ok b h2 h3, fun x hx => dw.stays h r b o x (h.block b h2 h3) (h4 x hx)⟩
theorem ug.stays {w w' : World} {ok ze : Nat → Prop} (h : jI w w' ok ze) : (rs : RT) → (vs : List Value) → (x : aq rs) → ug w ok rs vs x → ug w' ze rs vs x
 | .nil, _, _, hc => hc
 | .cons (.sl r) rs, vs, x, hc => by
   obtain ⟨v, l, h1, h2, h3⟩ := hc; exact ⟨v, l, h1, h2.stays h, ug.stays h rs l x.2 h3⟩
 | .cons (.int _) _, _, _, hc => hc.elim
 | .cons .bool _, _, _, hc => hc.elim
 | .cons .str _, _, _, hc => hc.elim
theorem FnAt.stays {w w' : World} {ok ze : Nat → Prop} (h : jI w w' ok ze) {g : Nat} {rs : RT} {v : Value} {xs : List (aq rs)} (hf : FnAt w ok g rs v xs) : FnAt w' ze g rs v xs := by
 obtain ⟨xp, h1, h2⟩ := hf; exact ⟨xp, h1, fun x hx => ug.stays h rs _ x (h2 x hx)⟩
def kX (c : Cz) (st : St) (w : World) : CV → Value → Prop
 | .bad, _ => True
 | .int k n, v => v = .int k n
 | .bool b, v => v = .bool b
 | .str s, v => v = .string s
 | .eI, v => v = .slice none 0 0
 | .IT, v => v = .pointer none
 | .shr r xs, v => cw w c.ok (.sl r) v xs
 | .nn r xs, v => cw w c.ok (.sl r) v xs ∧ v ≠ .slice none 0 0
 | .ref a j g vw, v => v.oneCell' = true ∧ g ≤ ev st a ∧ ∀ A, bl st a j g = some A → jJ (c.lc a j) A.r.width vw.lo (vw.app A.xs).length v
 | .ptr b g off, v => v.oneCell' = true ∧ g ≤ jg st b ∧ ∀ cs, eR st b g = some cs → v = .pointer (some ⟨c.bx b, off, none⟩)
 | .Li a j g i off, v => v.oneCell' = true ∧ g ≤ ev st a ∧ ∀ A, bl st a j g = some A → i < A.xs.length ∧ ∃ b o cap, c.lc a j = .at b o cap ∧ v = .pointer (some ⟨b, o + i * A.r.width + off, none⟩)
 | .mH r x off, v => ∃ b o, v = .pointer (some ⟨b, o + off, none⟩) ∧ b < w.heap.size ∧ c.ok b ∧ dw w c.ok r b o x
 | .sX r xs off, v => ∃ b o, v = .pointer (some ⟨b, o + off, none⟩) ∧ b < w.heap.size ∧ c.ok b ∧ ∀ x, xs[0]? = some x → dw w c.ok r b o x
 | .fn g rs xs, v => FnAt w c.ok g rs v xs
 | .qg a j g e i k q ys, v => v.oneCell' = true ∧ g ≤ ev st a ∧ e ≤ ou st a ∧ ∀ A, bl st a j g = some A → ou st a = e →
     A.md = .dp ∧ (∃ x, A.xs[i]? = some x ∧ qH A.r x k = some ⟨q, ys⟩) ∧ ∃ b o cap, c.lc a j = .at b o cap ∧ w.cell? ⟨b, o + i * A.r.width + k, none⟩ = some v
def fX (c : Cz) (st : St) (w : World) (cs : List CV) (vs : List Value) : Prop :=
 cs.length = vs.length ∧ ∀ (i : Nat) x v, cs[i]? = some x → vs[i]? = some v → kX c st w x v
def zf (c : Cz) (st : St) (w : World) : V → Value → Prop
 | .one x, v => kX c st w x v
 | .agg cs, v => ∃ vs, v = .agg vs ∧ fX c st w cs vs.toList
 | .ot _, _ => False
def fY (c : Cz) (st : St) (w : World) : V → Value → Prop
 | .ot us, v => ∃ vs, v = .tuple vs ∧ us.length = vs.size ∧ ∀ (i : Nat) x y, us[i]? = some x → vs[i]? = some y → zf c st w x y
 | x, v => zf c st w x v
def v8 (c : Cz) (st : St) (w : World) (s : Nat) (cs : List CV) : Prop :=
 c.own (c.bx s) = some (.box s) ∧ ∃ vs ty, w.heap[c.bx s]? = some (.cells vs ty (0, 0)) ∧ fX c st w cs vs.toList
def cz (c : Cz) (w : World) (s j : Nat) (A : iN) : Prop :=
 match c.lc s j with
 | .nil => A.xs = []
 | .at b off cap => (match A.own with | true => c.own b = some (.sp s j) | false => c.own b = none) ∧ A.xs.length ≤ cap ∧
     (∃ cur ty, w.heap[b]? = some (.cells cur ty (0, 0)) ∧ off + cap * A.r.width ≤ cur.size) ∧
     cf c w (.sp s j) A b off
inductive Lk where
 | arr (a j g W n : Nat) (l : Loc)
 | box (b g oK : Nat)
def Pz (c : Cz) (st : St) : Lk → Prop
 | .arr a j g W n l => g ≤ ev st a ∧ ∀ A, bl st a j g = some A → A.r.width = W ∧ A.xs.length = n ∧ c.lc a j = l
 | .box b g oK => g ≤ jg st b ∧ ∀ cs, eR st b g = some cs → c.bx b = oK
structure Mu where
 m : Nat → Prop
 ok : Nat → Prop
 an : List Lk
structure Rel (w0 : World) (mu : Mu) (c : Cz) (st : St) (a : Act) (w : World) : Prop where
 gJ : ∀ t, fY c st w (da st t) (a.eval (.tmp t))
 boxes : ∀ s sl cs, nth st s = some sl → sl.box = some cs → v8 c st w s cs
 aP : ∀ s j sl A, nth st s = some sl → nth sl.aP j = some (some A) → cz c w s j A
 owned : ∀ b l, c.own b = some l → b < w.heap.size ∧ (l = .out ∨ w0.heap.size ≤ b ∨ mu.m b)
 free : ∀ b, b < w0.heap.size → c.own b = none → mu.m b ∨ mu.ok b
 kept : w.os = w0.os ∧ w.tape = w0.tape ∧ w.output = w0.output ∧ w0.heap.size ≤ w.heap.size
 old : ∀ k, k < w0.heap.size → ¬ mu.m k → w.heap[k]? = w0.heap[k]?
 plain : a.defers = []
 fw : ∀ p ∈ mu.an, Pz c st p
end Go.TM
namespace Go.TM
open Go Go.RowKit
theorem aH {α : Type} {b : Bool} {x : Option α} {y : α} (h : (bif b then x else none) = some y) : b = true ∧ x = some y := by
 cases b
 · simp at h
 · exact ⟨rfl, h⟩
theorem fl {b : Bool} {x : N} {y : St} (h : (bif b then x else N.fail).val = some y) : b = true ∧ x.val = some y := by
 cases b
 · simp [N.val] at h
 · exact ⟨rfl, h⟩
theorem bN {st : St} {a j g : Nat} {A : iN} (h : bl st a j g = some A) : ∃ sl, nth st a = some sl ∧ sl.ag = g ∧ nth sl.aP j = some (some A) := by
 unfold bl at h
 cases hs : nth st a with
 | none => simp [hs] at h
 | some sl =>
   simp only [hs] at h; obtain ⟨h1, h2⟩ := aH h; refine ⟨sl, rfl, Nat.eq_of_beq_eq_true h1, ?_⟩
   cases hj : nth sl.aP j with
   | none => simp [hj] at h2
   | some o => cases o with
     | none => simp [hj] at h2
     | some B => simp [hj] at h2; rw [h2]
theorem iF {st : St} {b g : Nat} {cs : List CV} (h : eR st b g = some cs) : ∃ sl, nth st b = some sl ∧ sl.bg = g ∧ sl.box = some cs := by
 unfold eR at h
 cases hs : nth st b with
 | none => simp [hs] at h
 | some sl =>
   simp only [hs] at h; obtain ⟨h1, h2⟩ := aH h; exact ⟨sl, rfl, Nat.eq_of_beq_eq_true h1, h2⟩
theorem View.I4 {r s : RT} (w : View) (xs : List (aq r)) (ys : List (aq s)) (h : xs.length = ys.length) : (w.app xs).length = (w.app ys).length := by
 cases w <;> simp [View.app, h]
structure Fw (c : Cz) (st : St) (w : World) (c' : Cz) (bh : St) (w' : World) : Prop where
 stays : jI w w' c.ok c'.ok
 refs : ∀ a j g A', g ≤ ev st a → bl bh a j g = some A' → ∃ A, bl st a j g = some A ∧ A'.r.width = A.r.width ∧ A'.xs.length = A.xs.length ∧ c'.lc a j = c.lc a j ∧
   (ou bh a = ou st a → A' = A ∧ ∀ b o cap, c.lc a j = .at b o cap → w'.heap[b]? = w.heap[b]?)
 CI : ∀ b g ow, g ≤ jg st b → eR bh b g = some ow → (∃ cs, eR st b g = some cs) ∧ c'.bx b = c.bx b
 gA : ∀ a, ev st a ≤ ev bh a
 gB : ∀ b, jg st b ≤ jg bh b
 gE : ∀ a, ou st a ≤ ou bh a
theorem Fw.RW {c : Cz} {st : St} {w : World} {c' : Cz} {bh : St} {w' : World} (h : Fw c st w c' bh w') {x : CV} {v : Value} (hr : kX c st w x v) : kX c' bh w' x v := by
 cases x with
 | bad => trivial
 | int k n => exact hr
 | bool b => exact hr
 | str s => exact hr
 | eI => exact hr
 | IT => exact hr
 | shr r xs => exact cw.stays h.stays _ _ _ hr
 | nn r xs => exact ⟨cw.stays h.stays _ _ _ hr.1, hr.2⟩
 | ref a j g vw =>
   refine ⟨hr.1, Nat.le_trans hr.2.1 (h.gA a), fun A' ft => ?_⟩; obtain ⟨A, hA, hw, hl, jh, _⟩ := h.refs a j g A' hr.2.1 ft; have := hr.2.2 A hA; rw [jh, hw, View.I4 vw A'.xs A.xs hl]; exact this
 | ptr b g off =>
   refine ⟨hr.1, Nat.le_trans hr.2.1 (h.gB b), fun cs xF => ?_⟩; obtain ⟨⟨Rg, h0⟩, hb⟩ := h.CI b g cs hr.2.1 xF; rw [hb]; exact hr.2.2 Rg h0
 | Li a j g i off =>
   refine ⟨hr.1, Nat.le_trans hr.2.1 (h.gA a), fun A' ft => ?_⟩; obtain ⟨A, hA, hw, hl, jh, _⟩ := h.refs a j g A' hr.2.1 ft; have := hr.2.2 A hA; rw [jh, hw, hl]; exact this
 | qg a j g e i k q ys =>
   obtain ⟨h1, h2, h3, h4⟩ := hr; refine ⟨h1, Nat.le_trans h2 (h.gA a), Nat.le_trans h3 (h.gE a), fun A' ft he => ?_⟩; obtain ⟨A, hA, hw, hl, jh, hs⟩ := h.refs a j g A' h2 ft; have RX : ou bh a = ou st a := by have := h.gE a; omega
   obtain ⟨rfl, hb⟩ := hs RX; obtain ⟨k1, k2, b, o, cap, k3, k4⟩ := h4 A' hA (by omega); exact ⟨k1, k2, b, o, cap, by rw [jh]; exact k3, by rw [World.cell?_of_block (w := w) (hb b o cap k3)]; exact k4⟩
 | mH r x off =>
   obtain ⟨b, o, hv, hb, gI, hx⟩ := hr; exact ⟨b, o, hv, Nat.lt_of_lt_of_le hb h.stays.size, h.stays.ok b hb gI, dw.stays h.stays r b o x (h.stays.block b hb gI) hx⟩
 | sX r xs off =>
   obtain ⟨b, o, hv, hb, gI, hx⟩ := hr; exact ⟨b, o, hv, Nat.lt_of_lt_of_le hb h.stays.size, h.stays.ok b hb gI, fun x Cd => dw.stays h.stays r b o x (h.stays.block b hb gI) (hx x Cd)⟩
 | fn g rs xs => exact FnAt.stays h.stays hr
theorem Fw.PA {c : Cz} {st : St} {w : World} {c' : Cz} {bh : St} {w' : World} (h : Fw c st w c' bh w') {cs : List CV} {vs : List Value} (hr : fX c st w cs vs) : fX c' bh w' cs vs :=
 ⟨hr.1, fun i x v hx hv => h.RW (hr.2 i x v hx hv)⟩
theorem Fw.Nn {c : Cz} {st : St} {w : World} {c' : Cz} {bh : St} {w' : World} (h : Fw c st w c' bh w') {x : V} {v : Value} (hr : zf c st w x v) : zf c' bh w' x v := by
 cases x with
 | one x => exact h.RW hr
 | agg cs => obtain ⟨vs, hv, hl⟩ := hr; exact ⟨vs, hv, h.PA hl⟩
 | ot us => exact hr
theorem Fw.pG {c : Cz} {st : St} {w : World} {c' : Cz} {bh : St} {w' : World} (h : Fw c st w c' bh w') {x : V} {v : Value} (hr : fY c st w x v) : fY c' bh w' x v := by
 cases x with
 | one x => exact h.Nn (x := .one x) hr
 | agg cs => exact h.Nn (x := .agg cs) hr
 | ot us =>
   obtain ⟨vs, hv, hl, he⟩ := hr; exact ⟨vs, hv, hl, fun i x y hx hy => h.Nn (he i x y hx hy)⟩
theorem Fw.fw {c : Cz} {st : St} {w : World} {c' : Cz} {bh : St} {w' : World} (h : Fw c st w c' bh w') {p : Lk} (hp : Pz c st p) : Pz c' bh p := by
 cases p with
 | arr a j g W n l =>
   refine ⟨Nat.le_trans hp.1 (h.gA a), fun A' ft => ?_⟩; obtain ⟨A, hA, hw, hl, jh, _⟩ := h.refs a j g A' hp.1 ft; obtain ⟨h1, h2, h3⟩ := hp.2 A hA; exact ⟨hw.trans h1, hl.trans h2, jh.trans h3⟩
 | box b g oK =>
   refine ⟨Nat.le_trans hp.1 (h.gB b), fun cs xF => ?_⟩; obtain ⟨⟨Rg, h0⟩, hb⟩ := h.CI b g cs hp.1 xF; exact hb.trans (hp.2 Rg h0)
theorem cz.go {c c' : Cz} {w w' : World} {s j : Nat} {A : iN} (h : cz c w s j A) (hs : jI w w' c.ok c'.ok) (hl : c'.lc s j = c.lc s j)
   (hb : ∀ b, c.own b = some (.sp s j) → w'.heap[b]? = w.heap[b]? ∧ c'.own b = c.own b) : cz c' w' s j A := by
 unfold cz at h ⊢; rw [hl]
 cases hc : c.lc s j with
 | nil => simpa [hc] using h
 | «at» b off cap =>
   rw [hc] at h; obtain ⟨h1, h2, ⟨cur, ty, h3, h4⟩, h5⟩ := h; have dm : b < w.heap.size := (Array.getElem?_eq_some_iff.1 h3).1; have hwo : w'.heap[b]? = w.heap[b]? ∧ c'.own b = c.own b := by
     cases ho : A.own with
     | true => rw [ho] at h1; exact hb b h1
     | false => rw [ho] at h1; exact ⟨hs.block b dm h1, (hs.ok b dm h1 : c'.own b = none).trans h1.symm⟩
   refine ⟨?_, h2, ⟨cur, ty, by rw [hwo.1]; exact h3, h4⟩, h5.go (fun _ => hs) hwo.1 (fun _ k hk => ⟨(hb k hk).1, (hb k hk).2.trans hk⟩)⟩; rw [hwo.2]; exact h1
theorem v8.go {c : Cz} {st : St} {w : World} {c' : Cz} {bh : St} {w' : World} (h : Fw c st w c' bh w') {s : Nat} {cs : List CV} (hb : v8 c st w s cs)
   (hx : c'.bx s = c.bx s) (ho : c'.own (c.bx s) = c.own (c.bx s)) (hw : w'.heap[c.bx s]? = w.heap[c.bx s]?) : v8 c' bh w' s cs := by
 obtain ⟨h1, vs, ty, h2, h3⟩ := hb; exact ⟨by rw [hx, ho]; exact h1, vs, ty, by rw [hx, hw]; exact h2, h.PA h3⟩
theorem Ll (st : St) (d : Option Nat) (v : V) (t : Nat) : da (bj st d v) t = if d = some t ∧ t < st.length then v else da st t := by
 cases d with
 | none => simp [bj]
 | some u =>
   unfold da bj; rw [ec]
   by_cases h : t = u
   · subst h; simp only [if_true, true_and]
     by_cases hl : t < st.length
     · have : nth st t = some st[t] := by rw [gO]; exact List.getElem?_eq_getElem hl
       simp [this, hl]
     · have : nth st t = none := by rw [gO]; exact List.getElem?_eq_none (by omega)
       simp [this, hl]
   · have : ¬ (some u = some t ∧ t < st.length) := by rintro ⟨e, _⟩; exact h (Option.some.inj e).symm
     rw [if_neg h, if_neg this]
theorem rE (st : St) (d : Option Nat) (v : V) (s : Nat) : ∃ f : Sl → Sl, (∀ x, (f x).box = x.box ∧ (f x).bg = x.bg ∧ (f x).aP = x.aP ∧ (f x).ag = x.ag ∧ (f x).ep = x.ep) ∧ nth (bj st d v) s = (nth st s).map f := by
 cases d with
 | none => exact ⟨id, fun _ => ⟨rfl, rfl, rfl, rfl, rfl⟩, by simp [bj]⟩
 | some t =>
   unfold bj
   by_cases h : s = t
   · subst h; exact ⟨fun x => { x with v := v }, fun _ => ⟨rfl, rfl, rfl, rfl, rfl⟩, j5 _ _ _⟩
   · exact ⟨id, fun _ => ⟨rfl, rfl, rfl, rfl, rfl⟩, by simp [mQ _ _ h]⟩
theorem Lm (st : St) (d : Option Nat) (v : V) (a j g : Nat) : bl (bj st d v) a j g = bl st a j g := by
 obtain ⟨f, hf, hn⟩ := rE st d v a; unfold bl; rw [hn]
 cases nth st a with
 | none => rfl
 | some s => obtain ⟨_, _, h3, h4, _⟩ := hf s; simp [h3, h4]
theorem Ln (st : St) (d : Option Nat) (v : V) (b g : Nat) : eR (bj st d v) b g = eR st b g := by
 obtain ⟨f, hf, hn⟩ := rE st d v b; unfold eR; rw [hn]
 cases nth st b with
 | none => rfl
 | some s => obtain ⟨h1, h2, _, _, _⟩ := hf s; simp [h1, h2]
theorem Lo (st : St) (d : Option Nat) (v : V) (a : Nat) : ev (bj st d v) a = ev st a := by
 obtain ⟨f, hf, hn⟩ := rE st d v a; unfold ev; rw [hn]
 cases nth st a with
 | none => rfl
 | some s => exact (hf s).2.2.2.1
theorem No (st : St) (d : Option Nat) (v : V) (a : Nat) : ou (bj st d v) a = ou st a := by
 obtain ⟨f, hf, hn⟩ := rE st d v a; unfold ou; rw [hn]
 cases nth st a with
 | none => rfl
 | some s => exact (hf s).2.2.2.2
theorem Lp (st : St) (d : Option Nat) (v : V) (a : Nat) : jg (bj st d v) a = jg st a := by
 obtain ⟨f, hf, hn⟩ := rE st d v a; unfold jg; rw [hn]
 cases nth st a with
 | none => rfl
 | some s => exact (hf s).2.1
theorem jI.refl (w : World) (ok : Nat → Prop) : jI w w ok ok := ⟨Nat.le_refl _, fun _ _ _ => rfl, fun _ _ h => h⟩
theorem Fw.bj (c : Cz) (st : St) (w : World) (d : Option Nat) (v : V) : Fw c st w c (bj st d v) w where
 stays := jI.refl w _
 refs a j g A' _ h := ⟨A', by rwa [Lm] at h, rfl, rfl, rfl, fun _ => ⟨rfl, fun _ _ _ _ => rfl⟩⟩
 CI b g ow _ h := ⟨⟨ow, by rwa [Ln] at h⟩, rfl⟩
 gA a := by rw [Lo]; exact Nat.le_refl _
 gB a := by rw [Lp]; exact Nat.le_refl _
 gE a := by rw [No]; exact Nat.le_refl _
theorem eval_put (a : Act) (d : Option Tmp) (v : Value) (t : Nat) : (a.put d v).eval (.tmp t) = if d = some t ∧ t < a.tmps.size then v else a.eval (.tmp t) := by
 cases d with
 | none => simp [Act.put]
 | some u =>
   simp only [Act.put, Act.eval, Array.getD_eq_getD_getElem?, Array.getElem?_setIfInBounds]
   by_cases h : u = t
   · subst h
     by_cases hl : u < a.tmps.size <;> simp [hl]
   · have : ¬ (some u = some t ∧ t < a.tmps.size) := by rintro ⟨e, _⟩; exact h (Option.some.inj e)
     rw [if_neg this]; simp [h]
theorem Rel.bj {w0 : World} {mu : Mu} {c : Cz} {st : St} {a : Act} {w : World} (h : Rel w0 mu c st a w) {d : Option Nat} {v : V} {u : Value}
   (hv : fY c st w v u) (hd : ∀ t, d = some t → t < a.tmps.size) : Rel w0 mu c (bj st d v) (a.put d u) w where
 gJ t := by
   have hg := Fw.bj c st w d v; rw [Ll, eval_put]
   by_cases WV : d = some t
   · have := hd t WV
     by_cases hl : t < st.length
     · rw [if_pos ⟨WV, hl⟩, if_pos ⟨WV, this⟩]; exact hg.pG hv
     · have e : da st t = .one .bad := by
         unfold da; rw [gO, List.getElem?_eq_none (by omega)]
       rw [if_neg (fun h => hl h.2), e]; trivial
   · rw [if_neg (fun h => WV h.1), if_neg (fun h => WV h.1)]; exact hg.pG (h.gJ t)
 boxes s sl cs hs hb := by
   obtain ⟨f, hf, hn⟩ := rE st d v s; rw [hn] at hs
   cases hx : nth st s with
   | none => rw [hx] at hs; simp at hs
   | some s0 =>
     rw [hx] at hs; simp at hs; subst hs; rw [(hf s0).1] at hb; exact (h.boxes s s0 cs hx hb).go (Fw.bj c st w d v) rfl rfl rfl
 aP s j sl A hs hb := by
   obtain ⟨f, hf, hn⟩ := rE st d v s; rw [hn] at hs
   cases hx : nth st s with
   | none => rw [hx] at hs; simp at hs
   | some s0 =>
     rw [hx] at hs; simp at hs; subst hs; rw [(hf s0).2.2.1] at hb; exact h.aP s j s0 A hx hb
 owned := h.owned
 free := h.free
 kept := h.kept
 old := h.old
 fw p hp := (Fw.bj c st w d v).fw (h.fw p hp)
 plain := by
   have := h.plain
   cases d <;> simpa [Act.put] using this
theorem Rel.vJ {w0 : World} {mu : Mu} {c : Cz} {st : St} {a : Act} {w : World} (h : Rel w0 mu c st a w) {s j g : Nat} {A : iN} (hA : bl st s j g = some A) : cz c w s j A := by
 obtain ⟨sl, h1, _, h3⟩ := bN hA; exact h.aP s j sl A h1 h3
theorem cz.lt {c : Cz} {w : World} {s j : Nat} {A : iN} (h : cz c w s j A) {b off cap : Nat} (hl : c.lc s j = .at b off cap) : b < w.heap.size := by
 unfold cz at h; rw [hl] at h; obtain ⟨_, _, ⟨cur, t, h3, _⟩, _⟩ := h; exact (Array.getElem?_eq_some_iff.1 h3).1
end Go.TM
namespace Go.TM
open Go Go.RowKit
def jy : RT → List Value → Prop
 | .nil, vs => vs = []
 | .cons (.int k) r, vs => ∃ l, vs = .int k 0 :: l ∧ jy r l
 | .cons .bool r, vs => ∃ l, vs = .bool false :: l ∧ jy r l
 | .cons .str r, vs => ∃ l, vs = .string ByteArray.empty :: l ∧ jy r l
 | .cons (.sl _) r, vs => ∃ l, vs = .slice none 0 0 :: l ∧ jy r l
def descOf : Ty → TypeDesc → Prop
 | .int k, d => d = .int k
 | .bool, d => d = .bool
 | .str, d => d = .string
 | .sl _, _ => False
structure gX (P : Program) (T : lZ) : Prop where
 cells : ∀ t n, T.cells t = some n → (P.info? t).map (·.size) = some n
 agg : ∀ t n, T.cells t = some n → ∃ d, P.underlying t = some d ∧ d.isRow = T.agg t ∧ (T.agg t = false → n = 1)
 off : ∀ t f k, T.off t f = some k → ∃ fs E4 n, P.underlying t = some (.struct fs) ∧ fs[f]? = some E4 ∧ E4.offset = k ∧ (P.info? E4.type).map (·.size) = some (n + 1)
 bld : ∀ t, T.agg t = true → ∃ fs cm, P.underlying t = some (.struct fs) ∧ fs.toList.mapM (fun f => (P.info? f.type).map fun i => (f.offset, i.size)) = some cm ∧
   ∀ f o s, T.off t f = some o → T.WQ t f = some s → cm[f]? = some (o, s)
 row : ∀ t r, T.row t = some r → ∃ i z, P.info? t = some i ∧ i.zero = some z ∧ jy r z.cells.toList
 elem : ∀ t r b, T.elem t = some (r, b) → ∃ e i z, P.underlying t = some (.slice e) ∧ P.info? e = some i ∧ i.size = r.width ∧ 0 < r.width ∧ i.bytes = b ∧ 0 < b ∧ i.zero = some z ∧ jy r z.cells.toList
 u8 : ∀ t e b, T.elem t = some (.cons (.int .u8) .nil, b) → P.underlying t = some (.slice e) → P.underlying e = some (.int .u8)
 kind : ∀ t y, T.kind t = some y → ∃ d, P.underlying t = some d ∧ descOf y d
 one : ∀ t f, T.one t f = true → ∃ fs E4 d, P.underlying t = some (.struct fs) ∧ fs[f]? = some E4 ∧ P.underlying E4.type = some d ∧ d.isRow = false
theorem kX.one {c : Cz} {st : St} {w : World} {x : CV} {v : Value} (h : kX c st w x v) (hs : x.ti = true) : v.oneCell' = true := by
 cases x with
 | bad => simp [CV.ti] at hs
 | int k n => simp only [kX] at h; subst h; rfl
 | bool b => simp only [kX] at h; subst h; rfl
 | str s => simp only [kX] at h; subst h; rfl
 | eI => simp only [kX] at h; subst h; rfl
 | IT => simp only [kX] at h; subst h; rfl
 | shr r xs =>
   rcases (oE _ _ _ _ _).1 h with ⟨rfl, _⟩ | ⟨a, cap, rfl, _⟩ <;> rfl
 | nn r xs =>
   rcases (oE _ _ _ _ _).1 h.1 with ⟨rfl, _⟩ | ⟨a, cap, rfl, _⟩ <;> rfl
 | ref a j g vw => exact h.1
 | ptr b g off => exact h.1
 | Li a j g i off => exact h.1
 | mH r x off => obtain ⟨b, o, rfl, _⟩ := h; rfl
 | sX r x off => obtain ⟨b, o, rfl, _⟩ := h; rfl
 | fn g rs xs => obtain ⟨xp, rfl, _⟩ := h; rfl
 | qg a j g e i k q ys => exact h.1
theorem Lq {v : Value} (h : v.oneCell' = true) : v.cells = #[v] := by cases v <;> first | rfl | simp [Value.oneCell'] at h
theorem fY.cells {c : Cz} {st : St} {w : World} {x : V} {v : Value} (h : fY c st w x v) (hs : x.ti = true) :
   fX c st w x.cells v.cells.toList ∧ ∀ u ∈ v.cells.toList, u.oneCell' = true := by
 cases x with
 | one x =>
   have h1 : v.oneCell' = true := kX.one (x := x) h hs; rw [Lq h1]; refine ⟨⟨rfl, fun i y u hy hu => ?_⟩, fun u hu => by simp at hu; rw [hu]; exact h1⟩
   cases i with
   | zero => simp [V.cells] at hy hu; rw [← hy, ← hu]; exact h
   | succ i => simp [V.cells] at hy
 | agg cs =>
   obtain ⟨vs, rfl, hl⟩ := h; refine ⟨hl, fun u hu => ?_⟩; obtain ⟨i, hi, hu⟩ := List.mem_iff_getElem.1 hu; have V3 : i < cs.length := by rw [hl.1]; exact hi
   have := hl.2 i cs[i] u (List.getElem?_eq_getElem V3) (by rw [← hu]; exact List.getElem?_eq_getElem hi); exact this.one (List.all_eq_true.1 hs _ (List.getElem_mem V3))
 | ot us => simp [V.ti] at hs
def Cz.je (c : Cz) (d b : Nat) : Cz :=
 { bx := fun s => if s = d then b else c.bx s, lc := c.lc, own := fun k => if k = b then some (.box d) else c.own k }
theorem wa (w : World) (o : Obj) (ok ze : Nat → Prop) (h : ∀ b, b < w.heap.size → ok b → ze b) : jI w (w.alloc o) ok ze where
 size := by simp
 block b hb _ := heap_alloc_old w o b hb
 ok := h
theorem Rel.qi {w0 : World} {mu : Mu} {c : Cz} {st : St} {a : Act} {w : World} (h : Rel w0 mu c st a w) {b : Nat} {l : Lb} (hb : c.own b = some l) : b < w.heap.size := (h.owned b l hb).1
theorem Rel.je {w0 : World} {mu : Mu} {c : Cz} {st : St} {a : Act} {w : World} (h : Rel w0 mu c st a w) {d : Nat} {s0 : Sl} {cs : List CV} {vs : Array Value} {ty : TypeId}
   (jb : nth st d = some s0) (hd : d < a.tmps.size) (hl : fX c st w cs vs.toList) :
   Rel w0 mu (c.je d w.heap.size) (nA (fun s => { s with v := .one (.ptr d (s0.bg + 1) 0), box := some cs, bg := s0.bg + 1 }) st d)
     (a.put (some d) (.pointer (some ⟨w.heap.size, 0, none⟩))) (w.alloc (.cells vs ty (0, 0))) := by
 have hn : ∀ s, nth (nA (fun s => { s with v := .one (.ptr d (s0.bg + 1) 0), box := some cs, bg := s0.bg + 1 }) st d) s =
     if s = d then some { s0 with v := .one (.ptr d (s0.bg + 1) 0), box := some cs, bg := s0.bg + 1 } else nth st s := by
   intro s; rw [ec]
   by_cases e : s = d
   · subst e; simp [jb]
   · simp [e]
 generalize nA (fun s => { s with v := .one (.ptr d (s0.bg + 1) 0), box := some cs, bg := s0.bg + 1 }) st d = bh at hn ⊢; have gI : ∀ b, b < w.heap.size → c.ok b → (c.je d w.heap.size).ok b := by
   intro b hb hc; unfold Cz.ok Cz.je; simp only [if_neg (show b ≠ w.heap.size by omega)]; exact hc
 have hA : ∀ a' j g, bl bh a' j g = bl st a' j g := by
   intro a' j g; unfold bl; rw [hn]
   by_cases e : a' = d
   · subst e; simp [jb]
   · simp [e]
 have hgA : ∀ a', ev bh a' = ev st a' := by
   intro a'; unfold ev; rw [hn]
   by_cases e : a' = d
   · subst e; simp [jb]
   · simp [e]
 have hY : Fw c st w (c.je d w.heap.size) bh (w.alloc (.cells vs ty (0, 0))) := {
   stays := wa w _ _ _ gI
   refs := fun a' j g A' _ ft => ⟨A', by rw [← hA]; exact ft, rfl, rfl, rfl, fun _ => ⟨rfl, fun b o cap jh => by
     exact heap_alloc_old w _ b ((h.vJ (g := g) (by rw [← hA]; exact ft)).lt jh)⟩⟩
   CI := fun b g ow hg hb => by
     unfold eR at hb ⊢; rw [hn] at hb
     by_cases e : b = d
     · subst e; simp only [if_true] at hb; unfold jg at hg; rw [jb] at hg; have : Nat.beq (s0.bg + 1) g = false := by
         cases hq : Nat.beq (s0.bg + 1) g
         · rfl
         · have := Nat.eq_of_beq_eq_true hq; simp at hg; omega
       simp [this] at hb
     · simp only [e, if_false] at hb; exact ⟨⟨ow, hb⟩, by simp [Cz.je, e]⟩
   gA := fun a' => by rw [hgA]; exact Nat.le_refl _
   gB := fun b => by
     unfold jg; rw [hn]
     by_cases e : b = d
     · subst e; simp [jb]
     · simp [e]
   gE := fun a' => by
     unfold ou; rw [hn]
     by_cases e : a' = d
     · subst e; simp [jb]
     · simp [e] }
 exact {
   gJ := fun t => by
     have e1 : da bh t = if t = d then .one (.ptr d (s0.bg + 1) 0) else da st t := by
       unfold da; rw [hn]
       by_cases e : t = d <;> simp [e]
     rw [e1, eval_put]
     by_cases e : t = d
     · subst e; simp only [if_true, true_and, hd]; refine ⟨rfl, ?_, fun ow I5 => by simp [Cz.je]⟩; unfold jg; rw [hn]; simp
     · simp only [e, if_false]; rw [if_neg (fun h => e (Option.some.inj h.1).symm)]; exact hY.pG (h.gJ t)
   boxes := fun s sl ow hs hb => by
     rw [hn] at hs
     by_cases e : s = d
     · subst e; simp only [if_true, Option.some.injEq] at hs; subst hs; simp only [Option.some.injEq] at hb; subst hb; exact ⟨by simp [Cz.je], vs, ty, by simp only [Cz.je, if_true]; exact heap_alloc_new w _, hY.PA hl⟩
     · simp only [e, if_false] at hs; have RY := h.boxes s sl ow hs hb; have dm := h.qi RY.1; exact RY.go hY (by simp [Cz.je, e]) (by simp only [Cz.je]; rw [if_neg (by omega)]) (heap_alloc_old w _ _ dm)
   aP := fun s j sl A hs ft => by
     rw [hn] at hs; have ha : cz c w s j A := by
       by_cases e : s = d
       · subst e; simp only [if_true, Option.some.injEq] at hs; subst hs; exact h.aP s j s0 A jb ft
       · simp only [e, if_false] at hs; exact h.aP s j sl A hs ft
     refine ha.go hY.stays rfl (fun b hb => ?_); have dm : b < w.heap.size := h.qi hb; exact ⟨heap_alloc_old w _ b dm, by simp only [Cz.je]; rw [if_neg (by omega)]⟩
   owned := fun b l hb => by
     simp only [Cz.je] at hb
     by_cases e : b = w.heap.size
     · subst e; exact ⟨by simp, .inr (.inl h.kept.2.2.2)⟩
     · rw [if_neg e] at hb; have := h.owned b l hb; exact ⟨Nat.lt_of_lt_of_le this.1 (by simp), this.2⟩
   free := fun b hb h1 => by
     simp only [Cz.je] at h1
     by_cases e : b = w.heap.size
     · rw [if_pos e] at h1; cases h1
     · rw [if_neg e] at h1; exact h.free b hb h1
   kept := ⟨h.kept.1, h.kept.2.1, h.kept.2.2.1, Nat.le_trans h.kept.2.2.2 (by simp)⟩
   old := fun k hk hm => by
     rw [heap_alloc_old w _ k (Nat.lt_of_lt_of_le hk h.kept.2.2.2)]; exact h.old k hk hm
   fw := fun p hp => hY.fw (h.fw p hp)
   plain := h.plain }
end Go.TM
namespace Go.TM
open Go Go.RowKit
theorem bY {w0 : World} {mu : Mu} {c : Cz} {st : St} {a : Act} {w : World} (h : Rel w0 mu c st a w) (x : Operand) : fY c st w (nB st x) (a.eval x) := by
 unfold nB
 split <;> first | exact h.gJ _ | rfl | trivial
theorem fX.take {c : Cz} {st : St} {w : World} {cs : List CV} {vs : List Value} (h : fX c st w cs vs) (off n : Nat) : fX c st w ((cs.drop off).take n) ((vs.drop off).take n) := by
 refine ⟨by simp [h.1], fun i x v hx hv => ?_⟩; rw [List.getElem?_take] at hx hv
 by_cases hi : i < n
 · rw [if_pos hi, List.getElem?_drop] at hx hv; exact h.2 _ x v hx hv
 · rw [if_neg hi] at hx; simp at hx
theorem k7 {n off : Nat} {cs l : List CV} (h : fE n off cs = some l) : l = (cs.drop off).take n ∧ l.length = n := by
 unfold fE at h; obtain ⟨h1, h2⟩ := aH h; have := Option.some.inj h2; subst this; exact ⟨rfl, Nat.eq_of_beq_eq_true h1⟩
def valOf (agg : Bool) (vs : List Value) : Value := if agg then .agg vs.toArray else vs.headD undef
theorem sE {P : Program} {T : lZ} (hT : gX P T) {t n : Nat} (ht : T.cells t = some n) (w : World) (b o : Nat) (vs : List Value) (hv : w.rangeAt b o vs) (hn : vs.length = n) :
   (loadVar t ⟨b, o, none⟩).run P w = .ok (valOf (T.agg t) vs) w := by
 obtain ⟨d, hu, hd, h1⟩ := hT.agg t n ht
 cases hg : T.agg t with
 | true =>
   rw [hg] at hd; have := run_loadVar_mid (P := P) w b o t vs d hv hu hd (by rw [hT.cells t n ht, hn]); simpa [valOf] using this
 | false =>
   have hn1 := h1 hg; obtain ⟨v, rfl⟩ : ∃ v, vs = [v] := by
     cases vs with
     | nil => simp at hn; omega
     | cons v l => cases l with
       | nil => exact ⟨v, rfl⟩
       | cons _ _ => simp at hn; omega
   have RZ : (isAgg t).run P w = .ok false w := by
     unfold isAgg; rw [Sem.run_bind, run_underlying hu w]; rw [hg] at hd
     cases d <;> simp_all [TypeDesc.isRow]
   have hc : w.cell? ⟨b, o, none⟩ = some v := by have := hv 0 v rfl; simpa using this
   simp [loadVar, Sem.run_bind, RZ, valOf, run_load, hc]
theorem PB {c : Cz} {st : St} {w : World} {T : lZ} {t : Nat} {l : List CV} {vs : List Value} (h : fX c st w l vs) (h1 : T.agg t = false → l.length = 1) :
   fY c st w (Ni T t l) (valOf (T.agg t) vs) := by
 unfold Ni valOf
 cases hg : T.agg t with
 | true => exact ⟨vs.toArray, rfl, by simpa using h⟩
 | false =>
   have hl := h1 hg
   cases l with
   | nil => simp at hl
   | cons x l => cases l with
     | cons _ _ => simp at hl
     | nil => cases vs with
       | nil => have := h.1; simp at this
       | cons v vs => exact h.2 0 x v rfl rfl
theorem Bp {w : World} {b off : Nat} {vs : Array Value} {ty : TypeId} {fr : Nat × Nat} (h : w.heap[b]? = some (.cells vs ty fr)) (n : Nat) : w.rangeAt b off ((vs.toList.drop off).take n) := by
 intro j v hv; rw [cell_of_row w b (off + j) vs ty fr h]; rw [List.getElem?_take] at hv
 by_cases hj : j < n
 · rw [if_pos hj, List.getElem?_drop] at hv; simpa using hv
 · rw [if_neg hj] at hv; simp at hv
theorem ui {w : World} {c : Cz} {st : St} : (r : RT) → (b off : Nat) → (x : aq r) → dw w c.ok r b off x →
   ∃ vs, vs.length = r.width ∧ w.rangeAt b off vs ∧ fX c st w (eK r x) vs
 | .nil, _, _, _, _ => ⟨[], rfl, fun j v h => by simp at h, rfl, fun i x v h => by simp [eK] at h⟩
 | .cons t r, b, off, x, h => by
   unfold dw at h; obtain ⟨⟨v, hv, hx⟩, hr⟩ := h; obtain ⟨vs, h1, h2, h3, h4⟩ := ui r b (off + 1) x.2 hr; refine ⟨v :: vs, by simp [RT.width, h1], fun j u hu => ?_, by simp [eK, h3], fun i y u hy hu => ?_⟩
   · cases j with
     | zero => simp at hu; rw [← hu]; exact hv
     | succ j =>
       simp at hu; have := h2 j u hu; rw [show off + (j + 1) = off + 1 + j by omega]; exact this
   · cases i with
     | zero =>
       simp [eK] at hy hu; subst hy hu
       cases t with
       | int k => unfold cw at hx; exact hx
       | bool => unfold cw at hx; exact hx
       | str => unfold cw at hx; exact hx
       | sl q => exact hx
     | succ i =>
       simp [eK] at hy hu; exact h4 i y u hy hu
theorem CJ {w : World} {P : List Nat → Nat → Prop} {c : Cz} {st : St} {a j g e i : Nat} {A : iN} {x0 : aq A.r} {bb o cap : Nat} (hA : bl st a j g = some A) (he : e = ou st a) (hg : g ≤ ev st a) (hm : A.md = .dp) (Np : A.xs[i]? = some x0) (jh : c.lc a j = .at bb o cap) :
   (r : RT) → (p : List Nat) → (k : Nat) → (x : aq r) → (∀ k', qH r x k' = qH A.r x0 (k + k')) → iz w P r p k bb (o + i * A.r.width + k) x →
   ∃ vs, vs.length = r.width ∧ w.rangeAt bb (o + i * A.r.width + k) vs ∧ fX c st w (qL a j g e i k r x) vs
 | .nil, _, _, _, _, _ => ⟨[], rfl, fun j v h => by simp at h, rfl, fun i x v h => by simp [qL] at h⟩
 | .cons t r, p, k, x, hs, h => by
   unfold iz at h; obtain ⟨⟨v, hv, hx⟩, hr⟩ := h; obtain ⟨vs, h1, h2, h3, h4⟩ := CJ hA he hg hm Np jh r p (k + 1) x.2 (fun k' => by
     rw [show k + 1 + k' = k + (k' + 1) by omega, ← hs]
     cases t <;> rfl) (by rw [show o + i * A.r.width + (k + 1) = o + i * A.r.width + k + 1 by omega]; exact hr)
   refine ⟨v :: vs, by simp [RT.width, h1], fun j u hu => ?_, by simp [qL, h3], fun i' y u hy hu => ?_⟩
   · cases j with
     | zero => simp at hu; rw [← hu]; exact hv
     | succ j =>
       simp at hu; have := h2 j u hu; rw [show o + i * A.r.width + k + (j + 1) = o + i * A.r.width + (k + 1) + j by omega]; exact this
   · cases i' with
     | zero =>
       simp [qL] at hy hu; subst hy hu
       cases t with
       | int k => exact xW.1 hx
       | bool => exact uf.1 hx
       | str => exact xX.1 hx
       | sl q =>
         have hx := (v7 _ _ _ _ _ _).1 hx; obtain ⟨lc, _, q1, _⟩ := hx; refine ⟨q1, hg, by rw [he]; exact Nat.le_refl _, fun A' ft _ => ?_⟩; rw [hA] at ft; cases ft; refine ⟨hm, ⟨x0, Np, ?_⟩, bb, o, cap, jh, hv⟩; have := hs 0; rw [Nat.add_zero] at this; rw [← this]; rfl
     | succ i' =>
       simp [qL] at hy hu; exact h4 i' y u hy hu
theorem sF {w : World} {b off : Nat} {vs : List Value} (h : w.rangeAt b off vs) (k n : Nat) : w.rangeAt b (off + k) ((vs.drop k).take n) := by
 intro j v hv; rw [List.getElem?_take] at hv
 by_cases hj : j < n
 · rw [if_pos hj, List.getElem?_drop] at hv; rw [Nat.add_assoc]; exact h _ v hv
 · rw [if_neg hj] at hv; simp at hv
def ji (w w' : World) : Prop := w.heap.size ≤ w'.heap.size ∧ ∀ b, b < w.heap.size → w'.heap[b]? = w.heap[b]?
theorem ji.refl (w : World) : ji w w := ⟨Nat.le_refl _, fun _ _ => rfl⟩
theorem ji.trans {w w' WW : World} (h : ji w w') (h' : ji w' WW) : ji w WW :=
 ⟨Nat.le_trans h.1 h'.1, fun b hb => (h'.2 b (Nat.lt_of_lt_of_le hb h.1)).trans (h.2 b hb)⟩
theorem ji.alloc (w : World) (b : Obj) : ji w (w.alloc b) := ⟨by simp, fun k hk => heap_alloc_old w b k hk⟩
theorem ji.range {w w' : World} (h : ji w w') {b o : Nat} {vs : List Value} (hr : w.rangeAt b o vs) : w'.rangeAt b o vs := by
 intro j v hj; have h1 := hr j v hj; rw [World.cell?_of_block (w := w) (h.2 b (Kw h1))]; exact h1
theorem G3 {P : Program} {T : lZ} (hT : gX P T) {w0 : World} {mu : Mu} {c : Cz} {st : St} {a : Act} {w : World} (h : Rel w0 mu c st a w)
   {d : Option Nat} {t : Nat} {x : V} {u : Value} (hx : fY c st w x u) {bh : St} (hv : (vH T st d t x).val = some bh) (hd : ∀ k, d = some k → k < a.tmps.size) :
   ∃ v, (∀ w' : World, ji w w' → (Instr.loadAt t u).run P w' = .ok v w') ∧ Rel w0 mu c bh (a.put d v) w := by
 have key : ∀ (b o n : Nat) (l : List CV) (vs : List Value), T.cells t = some n → u = .pointer (some ⟨b, o, none⟩) → w.rangeAt b o vs → vs.length = n → fX c st w l vs →
     (N.done (TM.bj st d (Ni T t l))).val = some bh → ∃ v, (∀ w' : World, ji w w' → (Instr.loadAt t u).run P w' = .ok v w') ∧ Rel w0 mu c bh (a.put d v) w := by
   intro b o n l vs hn hu hr hlen hl s3; simp only [N.val, Option.some.injEq] at s3; subst s3; obtain ⟨dd, _, _, h1⟩ := hT.agg t n hn; refine ⟨valOf (T.agg t) vs, fun w' hk => ?_, h.bj (PB hl (fun hg => by rw [hl.1, hlen]; exact h1 hg)) hd⟩; subst hu; have hr' : w'.rangeAt b o vs := hk.range hr; simp only [Instr.loadAt, Instr.sureAddr, Sem.run_bind, Sem.run_pure, Result.andThen_ok, sE hT hn w' b o vs hr' hlen]
 cases hn : T.cells t with
 | none => cases x with
   | one y => cases y <;> simp [vH, hn, N.val] at hv
   | agg _ => simp [vH, N.val] at hv
   | ot _ => simp [vH, N.val] at hv
 | some n => cases x with
   | agg _ => simp [vH, N.val] at hv
   | ot _ => simp [vH, N.val] at hv
   | one y => cases y with
     | bad | int _ _ | bool _ | str _ | eI | IT | shr _ _ | nn _ _ | ref _ _ _ _ | fn _ _ _ | qg _ _ _ _ _ _ _ _ => simp [vH, N.val] at hv
     | ptr b g off =>
       simp only [vH, hn] at hv
       cases hb : eR st b g with
       | none => simp [hb, N.val] at hv
       | some cs =>
         simp only [hb] at hv
         cases Ce : fE n off cs with
         | none => simp [Ce, N.val] at hv
         | some l =>
           simp only [Ce] at hv; obtain ⟨rfl, hlen⟩ := k7 Ce; obtain ⟨sl, Ev, Pe, Ew⟩ := iF hb; obtain ⟨ho, vs, ty, hh, hl⟩ := h.boxes b sl cs Ev Ew; have hu := hx.2.2 cs hb; refine key _ _ n _ ((vs.toList.drop off).take n) hn hu (Bp hh n) ?_ (hl.take off n) hv; rw [← (hl.take off n).1]; exact hlen
     | mH r y off =>
       simp only [vH, hn] at hv
       cases Ce : fE n off (eK r y) with
       | none => simp [Ce, N.val] at hv
       | some l =>
         simp only [Ce] at hv; obtain ⟨rfl, hlen⟩ := k7 Ce; obtain ⟨b, o, hu, dm, gI, G4⟩ := hx; obtain ⟨vs, h1, h2, h3⟩ := ui (st := st) r b o y G4; refine key _ _ n _ ((vs.drop off).take n) hn hu (sF h2 off n) ?_ (h3.take off n) hv; rw [← (h3.take off n).1]; exact hlen
     | sX r ys off =>
       simp only [vH, hn] at hv
       cases hy : ys[0]? with
       | none => simp [hy, N.val] at hv
       | some y =>
       simp only [hy] at hv; change (match fE n off (eK r y) with | some l => N.done (TM.bj st d (Ni T t l)) | none => N.fail).val = some bh at hv
       cases Ce : fE n off (eK r y) with
       | none => simp [Ce, N.val] at hv
       | some l =>
         simp only [Ce] at hv; obtain ⟨rfl, hlen⟩ := k7 Ce; obtain ⟨b, o, hu, dm, gI, G4⟩ := hx; obtain ⟨vs, h1, h2, h3⟩ := ui (st := st) r b o y (G4 y hy); refine key _ _ n _ ((vs.drop off).take n) hn hu (sF h2 off n) ?_ (h3.take off n) hv; rw [← (h3.take off n).1]; exact hlen
     | Li a' j g i off =>
       simp only [vH, hn] at hv
       cases hA : bl st a' j g with
       | none => simp [hA, N.val] at hv
       | some A =>
         simp only [hA] at hv; obtain ⟨sl, Ev, Pe, Ew⟩ := bN hA; have G5 := h.aP a' j sl A Ev Ew; obtain ⟨hi, b, o, cap, jh, hu⟩ := hx.2.2 A hA; unfold cz at G5; rw [jh] at G5; obtain ⟨_, _, _, iP⟩ := G5
         cases hm : A.md with
         | ho => rw [hm] at hv; simp [N.val] at hv
         | sh =>
           rw [hm] at hv; simp only at hv
           cases AG : A.xs[i]? with
           | none => simp [AG, N.val] at hv
           | some y =>
             simp only [AG] at hv; change (match fE n off (eK A.r y) with | some l => N.done (TM.bj st d (Ni T t l)) | none => N.fail).val = some bh at hv
             cases Ce : fE n off (eK A.r y) with
             | none => simp [Ce, N.val] at hv
             | some l =>
               simp only [Ce] at hv; obtain ⟨rfl, hlen⟩ := k7 Ce; obtain ⟨vs, h1, h2, h3⟩ := ui (st := st) A.r b _ y ((cf.sh hm).1 iP i y AG); refine key _ _ n _ ((vs.drop off).take n) hn hu (sF h2 off n) ?_ (h3.take off n) hv; rw [← (h3.take off n).1]; exact hlen
         | dp =>
           rw [hm] at hv; simp only at hv
           cases AG : A.xs[i]? with
           | none => simp [AG, N.val] at hv
           | some y =>
             simp only [AG] at hv; change (match fE n off (qL a' j g (ou st a') i 0 A.r y) with | some l => N.done (TM.bj st d (Ni T t l)) | none => N.fail).val = some bh at hv
             cases Ce : fE n off (qL a' j g (ou st a') i 0 A.r y) with
             | none => simp [Ce, N.val] at hv
             | some l =>
               simp only [Ce] at hv; obtain ⟨rfl, hlen⟩ := k7 Ce; unfold cf at iP; rw [hm] at iP; obtain ⟨gg, _, iP⟩ := iP; obtain ⟨vs, h1, h2, h3⟩ := CJ (st := st) hA rfl hx.2.1 hm AG jh A.r _ 0 y (fun k' => by rw [Nat.zero_add]) (iP i y AG); rw [Nat.add_zero] at h2; refine key _ _ n _ ((vs.drop off).take n) hn hu (sF h2 off n) ?_ (h3.take off n) hv; rw [← (h3.take off n).1]; exact hlen
end Go.TM
namespace Go.TM
open Go Go.RowKit
def dD (w : World) (ok : Nat → Prop) : (r : RT) → List Value → aq r → Prop
 | .nil, vs, _ => vs = []
 | .cons t r, vs, x => ∃ v l, vs = v :: l ∧ cw w ok t v x.1 ∧ dD w ok r l x.2
theorem dD.length {w : World} {ok : Nat → Prop} : (r : RT) → (vs : List Value) → (x : aq r) → dD w ok r vs x → vs.length = r.width
 | .nil, vs, _, h => by simp only [dD] at h; subst h; rfl
 | .cons t r, vs, x, h => by
   obtain ⟨v, l, rfl, _, h⟩ := h; simp [RT.width, dD.length r l x.2 h]
theorem nF {w : World} {ok : Nat → Prop} : (r : RT) → (b off : Nat) → (x : aq r) → (dw w ok r b off x ↔ ∃ vs, w.rangeAt b off vs ∧ dD w ok r vs x)
 | .nil, _, _, _ => by
   unfold dw; exact ⟨fun _ => ⟨[], fun j v h => by simp at h, rfl⟩, fun _ => trivial⟩
 | .cons t r, b, off, x => by
   unfold dw
   constructor
   · rintro ⟨⟨v, hv, hx⟩, hr⟩
     obtain ⟨vs, h1, h2⟩ := (nF r b (off + 1) x.2).1 hr; refine ⟨v :: vs, fun j u hu => ?_, v, vs, rfl, hx, h2⟩
     cases j with
     | zero => simp at hu; rw [← hu]; exact hv
     | succ j =>
       simp at hu; rw [show off + (j + 1) = off + 1 + j by omega]; exact h1 j u hu
   · rintro ⟨vs, h1, v, l, rfl, hx, h2⟩
     refine ⟨⟨v, h1 0 v rfl, hx⟩, (nF r b (off + 1) x.2).2 ⟨l, fun j u hu => ?_, h2⟩⟩; have := h1 (j + 1) u (by simpa using hu); rw [show off + 1 + j = off + (j + 1) by omega]; exact this
theorem dD.stays {w w' : World} {ok ze : Nat → Prop} (h : jI w w' ok ze) : (r : RT) → (vs : List Value) → (x : aq r) → dD w ok r vs x → dD w' ze r vs x
 | .nil, _, _, hr => hr
 | .cons t r, _, x, ⟨v, l, e, hx, hr⟩ => ⟨v, l, e, cw.stays h t v x.1 hx, dD.stays h r l x.2 hr⟩
theorem CK {w : World} {c : Cz} {st : St} : (r : RT) → (x : aq r) → (k : Nat) → (y : CV) → (z : aq r) → (vs : List Value) → (u : Value) →
   gr r x k y = some z → kX c st w y u → dD w c.ok r vs x → dD w c.ok r (vs.set k u) z
 | .nil, _, _, _, _, _, _, h, _, _ => by simp [gr] at h
 | .cons t r, x, 0, y, z, vs, u, h, hu, hv => by
   obtain ⟨v, l, rfl, hx, hr⟩ := hv
   cases t with
   | int k => cases y <;> simp [gr] at h
              obtain ⟨rfl, h⟩ := h; obtain rfl := Option.some.inj h; refine ⟨u, l, rfl, ?_, hr⟩; unfold cw; exact hu
   | bool => cases y <;> simp [gr] at h
             obtain rfl := Option.some.inj h; refine ⟨u, l, rfl, ?_, hr⟩; unfold cw; exact hu
   | str => cases y <;> simp [gr] at h
            obtain rfl := Option.some.inj h; refine ⟨u, l, rfl, ?_, hr⟩; unfold cw; exact hu
   | sl q => cases y <;> simp [gr] at h
 | .cons t r, x, k + 1, y, z, vs, u, h, hu, hv => by
   obtain ⟨v, l, rfl, hx, hr⟩ := hv; have h' : (gr r x.2 k y).map (fun z => ((x.1, z) : aq (.cons t r))) = some z := by cases t <;> (simp only [gr] at h; exact h)
   cases hq : gr r x.2 k y with
   | none => simp [hq] at h'
   | some z' =>
     rw [hq] at h'; obtain rfl := Option.some.inj h'; exact ⟨v, l.set k u, rfl, hx, CK r x.2 k y z' l u hq hu hr⟩
def cN (vs : List Value) (off : Nat) (us : List Value) : List Value := vs.take off ++ us ++ vs.drop (off + us.length)
theorem Bq {vs : List Value} {off : Nat} {u : Value} {us : List Value} (h : off < vs.length) : cN vs off (u :: us) = (cN vs (off + 1) us).set off u := by
 unfold cN; apply List.ext_getElem?; intro k; simp only [List.getElem?_set, List.getElem?_append, List.length_append, List.length_take, List.length_cons, List.getElem?_drop, List.getElem?_cons]
 by_cases h1 : k < off
 · have a1 : min off vs.length = off := by omega
   have a2 : min (off + 1) vs.length = off + 1 := by omega
   have a3 : off ≠ k := by omega
   simp only [a1, a2, a3, if_false, h1, show k < off + (us.length + 1) by omega, show k < off + 1 + us.length by omega, show k < off + 1 by omega, if_true, List.getElem?_take]
 · by_cases h2 : k = off
   · subst h2; have a1 : min k vs.length = k := by omega
     have a2 : min (k + 1) vs.length = k + 1 := by omega
     have a3 : min k vs.length - k = 0 := by omega
     simp [a1, a2, h]; omega
   · have a1 : min off vs.length = off := by omega
     have a2 : min (off + 1) vs.length = off + 1 := by omega
     obtain ⟨m, rfl⟩ : ∃ m, k = off + 1 + m := ⟨k - (off + 1), by omega⟩; have a3 : off ≠ off + 1 + m := by omega
     simp only [a1, a2, a3, if_false, show ¬ off + 1 + m < off by omega, show off + 1 + m - off = m + 1 by omega, show ¬ off + 1 + m < off + 1 by omega, show off + 1 + m - (off + 1) = m by omega,
       Nat.add_one_ne_zero, Nat.add_sub_cancel]
     by_cases h3 : m < us.length
     · rw [if_pos (by omega), if_pos (by omega)]
     · rw [if_neg (by omega), if_neg (by omega)]
       congr 1
       omega
theorem jj {vs : List Value} {off : Nat} {us : List Value} (h : off + us.length ≤ vs.length) : (cN vs off us).length = vs.length := by
 unfold cN; simp; omega
theorem CL {w : World} {c : Cz} {st : St} (r : RT) (x : aq r) : (off : Nat) → (cs : List CV) → (z : aq r) → (vs us : List Value) → off + us.length ≤ vs.length →
   kZ r x off cs = some z → fX c st w cs us → dD w c.ok r vs x → dD w c.ok r (cN vs off us) z
 | off, [], z, vs, us, _, h, hl, hv => by
   have : us = [] := by have := hl.1; simp at this; exact List.length_eq_zero_iff.1 this.symm
   subst this; simp [kZ] at h; subst h; simp [cN]; exact hv
 | off, y :: l, z, vs, us, hle, h, hl, hv => by
   cases us with
   | nil => have := hl.1; simp at this
   | cons u us =>
     simp only [kZ] at h
     cases hq : kZ r x (off + 1) l with
     | none => simp [hq] at h
     | some y' =>
       simp only [hq] at h; simp at hle; have ih := CL r x (off + 1) l y' vs us (by omega) hq ⟨by have := hl.1; simpa using this, fun i a b ha hb => hl.2 (i + 1) a b (by simpa using ha) (by simpa using hb)⟩ hv; rw [Bq (by omega)]; exact CK r y' off y z _ u h (hl.2 0 y u rfl rfl) ih
theorem uj {w : World} {c : Cz} {b : Nat} {l : Lb} (hb : c.own b = some l) (cur : Array Value) : jI w (w.setRow b cur) c.ok c.ok where
 size := by simp [World.setRow]
 block k _ hk := setRow_other w b k cur (fun e => by subst e; unfold Cz.ok at hk; rw [hb] at hk; cases hk)
 ok _ _ h := h
theorem pH {P : Program} {T : lZ} (hT : gX P T) {t n : Nat} (ht : T.cells t = some n) (w : World) (b o : Nat) (v : Value) (hn : v.cells.toList.length = n) (h1 : ∀ u ∈ v.cells.toList, u.oneCell' = true)
   {cur : Array Value} {ty : TypeId} (hg : w.heap[b]? = some (.cells cur ty (0, 0))) (hle : o + n ≤ cur.size) :
   (Instr.storeAt t (.pointer (some ⟨b, o, none⟩)) v).run P w = .ok () (w.setRow b (cN cur.toList o v.cells.toList).toArray) := by
 have hs := run_storeCells_at P b o ty v.cells.toList 0 cur w hg (by omega) h1; have hi := hT.cells t n ht
 cases hq : P.info? t with
 | none => simp [hq] at hi
 | some i =>
   have mm : v.cells.size = i.size := by simp [hq] at hi; rw [hi, ← hn]; simp
   simp only [Nat.add_zero] at hs; simp [Instr.storeAt, Instr.sureAddr, storeVar, sizeOf, typeInfo, hq, mm, hs, cN]
end Go.TM
namespace Go.TM
open Go Go.RowKit
theorem View.w9 {α : Type} (vw : View) (xs : List α) {i : Nat} {x : α} (h : (vw.app xs)[i]? = some x) : xs[vw.lo + i]? = some x := by
 cases vw with
 | full => simpa [View.app, View.lo] using h
 | «from» lo => simpa [View.app, View.lo, List.getElem?_drop] using h
 | sub lo n =>
   simp only [View.app, View.lo, List.getElem?_take, List.getElem?_drop] at h ⊢
   by_cases hi : i < n
   · rwa [if_pos hi] at h
   · rw [if_neg hi] at h; simp at h
theorem CM {c : Cz} {w : World} {s j : Nat} {A : iN} (h : cz c w s j A) {vw : View} {u : Value} (hu : jJ (c.lc s j) A.r.width vw.lo (vw.app A.xs).length u)
   {ok : Nat → Prop} (h1 : ∀ b, c.ok b → ok b) (h2 : ∀ b, A.own = true ∨ A.md = .dp → c.own b = some (.sp s j) → ok b) (xY : A.md ≠ .ho) : cw w ok (.sl A.r) u (vw.app A.xs) := by
 rw [oE]
 cases hl : c.lc s j with
 | nil =>
   unfold jJ at hu; rw [hl] at hu; obtain ⟨rfl, hn⟩ := hu; exact .inl ⟨rfl, List.length_eq_zero_iff.1 hn⟩
 | «at» b off cap =>
   unfold jJ at hu; rw [hl] at hu; obtain ⟨a, k, rfl, hk, zg, ha⟩ := hu; unfold cz at h; rw [hl] at h; obtain ⟨h0, _, ⟨cur, ty, h3, _⟩, h5⟩ := h; have h5 : ∀ (i : Nat) x, A.xs[i]? = some x → dw w ok A.r b (off + i * A.r.width) x := by
     unfold cf at h5
     cases hm : A.md with
     | sh => rw [hm] at h5; exact fun i x hx => dw.stays ⟨Nat.le_refl _, fun _ _ _ => rfl, fun b _ hb => h1 b hb⟩ _ _ _ x rfl (h5 i x hx)
     | dp =>
       rw [hm] at h5; obtain ⟨g, _, h5⟩ := h5; exact fun i x hx => iz.rep (fun p k hk => h2 k (.inr hm) hk.1) _ _ _ _ _ x (h5 i x hx)
     | ho => exact absurd hm xY
   have hob : ok b := by
     cases ho : A.own with
     | true => rw [ho] at h0; exact h2 b (.inl ho) h0
     | false => rw [ho] at h0; exact h1 b h0
   have hs : jI w w c.ok ok := ⟨Nat.le_refl _, fun _ _ _ => rfl, fun b _ hb => h1 b hb⟩; refine .inr ⟨a, k, rfl, hk, fun gW => ?_, fun i x hi => ?_⟩
   · have : k ≠ 0 := by
       have := List.length_pos_iff.2 gW; omega
     rw [ha this]; exact ⟨rfl, (Array.getElem?_eq_some_iff.1 h3).1, hob⟩
   · have hk0 : k ≠ 0 := by
       have := (List.getElem?_eq_some_iff.1 hi).1; omega
     rw [ha hk0]; have := h5 _ x (View.w9 vw A.xs hi); have e : off + vw.lo * A.r.width + i * A.r.width = off + (vw.lo + i) * A.r.width := by rw [Nat.add_mul]; omega
     show dw w ok A.r b (off + vw.lo * A.r.width + i * A.r.width) x; rw [e]; exact this
theorem bA {r s : RT} {xs : List (aq r)} {ys : List (aq s)} (h : ck s xs = some ys) : ∃ e : r = s, ys = e ▸ xs := by
 unfold ck at h
 cases hq : RT.eq? r s with
 | none => simp [hq] at h
 | some p => obtain ⟨e⟩ := p; simp [hq] at h; exact ⟨e, h.symm⟩
def Cz.drop1 (c : Cz) (a j : Nat) : Cz :=
 { c with own := fun k => match c.own k with | some (.sp s i) => if s = a ∧ i = j then none else some (.sp s i) | l => l }
theorem Cz.CN {c : Cz} {a j b : Nat} (h : c.ok b) : (c.drop1 a j).ok b := by
 unfold Cz.ok Cz.drop1 at *; simp [h]
theorem Cz.CO {c : Cz} {a j b : Nat} (h : c.own b = some (.sp a j)) : (c.drop1 a j).ok b := by
 unfold Cz.ok Cz.drop1; simp [h]
theorem Cz.I6 {c : Cz} {a j b : Nat} {l : Lb} (h : (c.drop1 a j).own b = some l) : c.own b = some l := by
 unfold Cz.drop1 at h; simp only at h
 cases hc : c.own b with
 | none => simp [hc] at h
 | some l' => cases l' with
   | box s => simp [hc] at h; rw [h]
   | out => simp [hc] at h; rw [h]
   | cA i k => simp [hc] at h; rw [h]
   | tg i => simp [hc] at h; rw [h]
   | jc k => simp [hc] at h; rw [h]
   | sp s i =>
     simp only [hc] at h
     by_cases e : s = a ∧ i = j
     · simp [e] at h
     · rw [if_neg e] at h; exact h
theorem Cz.rF {c : Cz} {a j b : Nat} {l : Lb} (h : c.own b = some l) (gW : l ≠ .sp a j) : (c.drop1 a j).own b = some l := by
 unfold Cz.drop1; simp only [h]
 cases l with
 | box s => rfl
 | out => rfl
 | cA i k => rfl
 | tg i => rfl
 | jc k => rfl
 | sp s i =>
   simp only; rw [if_neg]
   rintro ⟨rfl, rfl⟩
   exact gW rfl
def fA (st : St) (a j : Nat) : St := nA (fun s => { s with aP := nA (fun A => A.map iN.fz) s.aP j, ep := s.ep + 1 }) st a
theorem G6 (st : St) (a j : Nat) (l : List (Nat × Nat)) : freeze st ((a, j) :: l) = freeze (fA st a j) l := rfl
theorem iQ (st : St) (a j s : Nat) : ∃ f : Sl → Sl, (∀ x, (f x).v = x.v ∧ (f x).box = x.box ∧ (f x).bg = x.bg ∧ (f x).ag = x.ag ∧
     (∀ i, nth (f x).aP i = if s = a ∧ i = j then (nth x.aP i).map (fun A => A.map iN.fz) else nth x.aP i) ∧ (f x).ep = if s = a then x.ep + 1 else x.ep) ∧ nth (fA st a j) s = (nth st s).map f := by
 unfold fA
 by_cases h : s = a
 · subst h; refine ⟨fun s => { s with aP := nA (fun A => A.map iN.fz) s.aP j, ep := s.ep + 1 }, fun x => ⟨rfl, rfl, rfl, rfl, fun i => ?_, by simp⟩, j5 _ _ _⟩; simp only [ec, true_and]
 · refine ⟨id, fun x => ⟨rfl, rfl, rfl, rfl, fun i => ?_, by simp [h]⟩, by rw [mQ _ _ h]; simp⟩; simp [h]
theorem Br (st : St) (a j b : Nat) : ou st b ≤ ou (fA st a j) b ∧ (ou (fA st a j) b = ou st b → b ≠ a ∨ nth st b = none) := by
 obtain ⟨f, hf, hn⟩ := iQ st a j b; unfold ou; rw [hn]
 cases hx : nth st b with
 | none => simp
 | some x =>
   simp only [Option.map_some]; rw [(hf x).2.2.2.2.2]
   by_cases e : b = a
   · rw [if_pos e]; exact ⟨by omega, fun h => by omega⟩
   · rw [if_neg e]; exact ⟨Nat.le_refl _, fun _ => .inl e⟩
theorem F3 (st : St) (a j t : Nat) : da (fA st a j) t = da st t := by
 obtain ⟨f, hf, hn⟩ := iQ st a j t; unfold da; rw [hn]
 cases nth st t with
 | none => rfl
 | some x => exact (hf x).1
theorem F4 {st : St} {a j a' j' g : Nat} {A' : iN} (h : bl (fA st a j) a' j' g = some A') : ∃ A, bl st a' j' g = some A ∧ A'.r.width = A.r.width ∧ A'.xs.length = A.xs.length ∧ (a' ≠ a → A' = A) := by
 obtain ⟨sl, h1, h2, h3⟩ := bN h; obtain ⟨f, hf, hn⟩ := iQ st a j a'; rw [hn] at h1
 cases hx : nth st a' with
 | none => rw [hx] at h1; simp at h1
 | some x =>
   rw [hx] at h1; simp at h1; subst h1; obtain ⟨_, _, _, f4, f5, _⟩ := hf x; rw [f5] at h3; rw [f4] at h2; have key : ∃ A, nth x.aP j' = some (some A) ∧ A'.r.width = A.r.width ∧ A'.xs.length = A.xs.length ∧ (a' ≠ a → A' = A) := by
     by_cases e : a' = a ∧ j' = j
     · rw [if_pos e] at h3
       cases hj : nth x.aP j' with
       | none => simp [hj] at h3
       | some o => cases o with
         | none => simp [hj] at h3
         | some A => simp [hj] at h3; subst h3; exact ⟨A, rfl, rfl, rfl, fun h => absurd e.1 h⟩
     · rw [if_neg e] at h3; exact ⟨A', h3, rfl, rfl, fun _ => rfl⟩
   obtain ⟨A, k1, k2, k3⟩ := key; refine ⟨A, ?_, k2, k3⟩; unfold bl; rw [hx]; have : Nat.beq x.ag g = true := by rw [h2]; exact Nat.beq_refl g
   simp [this, k1]
theorem F6 (st : St) (a j b g : Nat) : eR (fA st a j) b g = eR st b g := by
 obtain ⟨f, hf, hn⟩ := iQ st a j b; unfold eR; rw [hn]
 cases nth st b with
 | none => rfl
 | some x => obtain ⟨_, h2, h3, _⟩ := hf x; simp [h2, h3]
theorem F7 (st : St) (a j b : Nat) : ev (fA st a j) b = ev st b := by
 obtain ⟨f, hf, hn⟩ := iQ st a j b; unfold ev; rw [hn]
 cases nth st b with
 | none => rfl
 | some x => exact (hf x).2.2.2.1
theorem F8 (st : St) (a j b : Nat) : jg (fA st a j) b = jg st b := by
 obtain ⟨f, hf, hn⟩ := iQ st a j b; unfold jg; rw [hn]
 cases nth st b with
 | none => rfl
 | some x => exact (hf x).2.2.1
theorem Fw.fA (c : Cz) (st : St) (w : World) (a j : Nat) : Fw c st w (c.drop1 a j) (fA st a j) w where
 stays := ⟨Nat.le_refl _, fun _ _ _ => rfl, fun _ _ h => Cz.CN h⟩
 refs a' j' g A' _ ft := by
   obtain ⟨A, h1, h2, h3, h4⟩ := F4 ft; refine ⟨A, h1, h2, h3, rfl, fun he => ⟨?_, fun _ _ _ _ => rfl⟩⟩; rcases (Br st a j a').2 he with e | e
   · exact h4 e
   · unfold bl at h1; rw [e] at h1; cases h1
 CI b g ow _ h := ⟨⟨ow, by rwa [F6] at h⟩, rfl⟩
 gA b := by rw [F7]; exact Nat.le_refl _
 gB b := by rw [F8]; exact Nat.le_refl _
 gE b := (Br st a j b).1
theorem Rel.fA {w0 : World} {mu : Mu} {c : Cz} {st : St} {a : Act} {w : World} (h : Rel w0 mu c st a w) (s j : Nat) : Rel w0 mu (c.drop1 s j) (fA st s j) a w where
 gJ t := by rw [F3]; exact (Fw.fA c st w s j).pG (h.gJ t)
 boxes b sl cs hs hb := by
   obtain ⟨f, hf, hn⟩ := iQ st s j b; rw [hn] at hs
   cases hx : nth st b with
   | none => rw [hx] at hs; simp at hs
   | some x =>
     rw [hx] at hs; simp at hs; subst hs; rw [(hf x).2.1] at hb; have h0 := h.boxes b x cs hx hb; exact h0.go (Fw.fA c st w s j) rfl (by rw [h0.1]; exact Cz.rF h0.1 (by simp)) rfl
 aP b i sl A hs hb := by
   obtain ⟨f, hf, hn⟩ := iQ st s j b; rw [hn] at hs
   cases hx : nth st b with
   | none => rw [hx] at hs; simp at hs
   | some x =>
     rw [hx] at hs; simp at hs; subst hs; rw [(hf x).2.2.2.2.1 i] at hb
     by_cases e : b = s ∧ i = j
     · rw [if_pos e] at hb
       cases hj : nth x.aP i with
       | none => simp [hj] at hb
       | some o => cases o with
         | none => simp [hj] at hb
         | some B =>
           simp [hj] at hb; subst hb; have h0 := h.aP b i x B hx hj; unfold cz at h0 ⊢; show match c.lc b i with | .nil => _ | .at b off cap => _
           cases hl : c.lc b i with
           | nil => rw [hl] at h0; exact h0
           | «at» k off cap =>
             rw [hl] at h0; obtain ⟨h1, h2, h3, h4⟩ := h0; refine ⟨?_, h2, h3, ?_⟩
             · show (c.drop1 s j).own k = none
               cases ho : B.own with
               | true => rw [ho] at h1; obtain ⟨rfl, rfl⟩ := e; exact Cz.CO h1
               | false => rw [ho] at h1; exact Cz.CN h1
             · unfold cf at h4 ⊢; show match B.md.fz with | .sh => _ | .dp => _ | .ho => True
               cases hm : B.md with
               | sh => rw [hm] at h4; exact fun i x hi => dw.stays (Fw.fA c st w s j).stays _ _ _ x rfl (h4 i x hi)
               | dp =>
                 rw [hm] at h4; obtain ⟨g, _, h4⟩ := h4; obtain ⟨rfl, rfl⟩ := e; exact fun i x hi => iz.rep (fun p k hk => Cz.CO hk.1) _ _ _ _ _ x (h4 i x hi)
               | ho => trivial
     · rw [if_neg e] at hb; have h0 := h.aP b i x A hx hb; refine h0.go (Fw.fA c st w s j).stays rfl (fun k h1 => ⟨rfl, ?_⟩); rw [h1]; exact Cz.rF h1 (by rintro e'; injection e' with e1 e2; exact e ⟨e1, e2⟩)
 owned b l hb := h.owned b l (Cz.I6 hb)
 free b hb h1 := by
   cases hc : c.own b with
   | none => exact h.free b hb hc
   | some l =>
     rcases (h.owned b l hc).2 with h2 | h2 | h2
     · subst h2; unfold Cz.drop1 at h1; simp [hc] at h1
     · omega
     · exact .inl h2
 kept := h.kept
 old := h.old
 fw p hp := (Fw.fA c st w s j).fw (h.fw p hp)
 plain := h.plain
def Cz.drop (c : Cz) : List (Nat × Nat) → Cz
 | [] => c
 | (a, j) :: l => (c.drop1 a j).drop l
theorem Rel.freeze {w0 : World} {mu : Mu} {a : Act} {w : World} : (m : List (Nat × Nat)) → {c : Cz} → {st : St} → Rel w0 mu c st a w → Rel w0 mu (c.drop m) (freeze st m) a w
 | [], _, _, h => h
 | (s, j) :: m, _, _, h => Rel.freeze m (h.fA s j)
theorem Cz.zh : (m : List (Nat × Nat)) → (c : Cz) → (b : Nat) → c.ok b → (c.drop m).ok b
 | [], _, _, h => h
 | (a, j) :: m, c, b, h => Cz.zh m (c.drop1 a j) b (Cz.CN h)
theorem Cz.Co : (m : List (Nat × Nat)) → (c : Cz) → (b : Nat) → {a j : Nat} → c.own b = some (.sp a j) → (a, j) ∈ m → (c.drop m).ok b
 | [], _, _, _, _, _, h => by simp at h
 | (a', j') :: m, c, b, a, j, h, hm => by
   by_cases e : a' = a ∧ j' = j
   · obtain ⟨rfl, rfl⟩ := e; exact Cz.zh m _ b (Cz.CO h)
   · refine Cz.Co m (c.drop1 a' j') b (Cz.rF h (by rintro e'; injection e' with e1 e2; exact e ⟨e1.symm, e2.symm⟩)) ?_; rcases List.mem_cons.1 hm with h' | h'
     · injection h' with e1 e2; exact absurd ⟨e1.symm, e2.symm⟩ e
     · exact h'
theorem Cz.Kx : (m : List (Nat × Nat)) → (c : Cz) → (c.drop m).lc = c.lc ∧ (c.drop m).bx = c.bx
 | [], _ => ⟨rfl, rfl⟩
 | (a, j) :: m, c => Cz.Kx m (c.drop1 a j)
theorem Cz.E5 : (m : List (Nat × Nat)) → (c : Cz) → (b : Nat) → {l : Lb} → c.own b = some l → (∀ p ∈ m, l ≠ .sp p.1 p.2) → (c.drop m).own b = some l
 | [], _, _, _, h, _ => h
 | (a, j) :: m, c, b, l, h, hm => Cz.E5 m (c.drop1 a j) b (Cz.rF h (hm (a, j) (by simp))) (fun p hp => hm p (by simp [hp]))
theorem Fw.trans {c c1 c2 : Cz} {st AD il : St} {w w1 w2 : World} (h : Fw c st w c1 AD w1) (k : Fw c1 AD w1 c2 il w2) : Fw c st w c2 il w2 where
 stays := ⟨Nat.le_trans h.stays.size k.stays.size, fun b hb ho => (k.stays.block b (Nat.lt_of_lt_of_le hb h.stays.size) (h.stays.ok b hb ho)).trans (h.stays.block b hb ho),
   fun b hb ho => k.stays.ok b (Nat.lt_of_lt_of_le hb h.stays.size) (h.stays.ok b hb ho)⟩
 refs a j g A' hg ft := by
   obtain ⟨A1, h1, h2, h3, h4, h5⟩ := k.refs a j g A' (Nat.le_trans hg (h.gA a)) ft; obtain ⟨A, k1, k2, k3, k4, k5⟩ := h.refs a j g A1 hg h1; refine ⟨A, k1, h2.trans k2, h3.trans k3, h4.trans k4, fun he => ?_⟩; have g1 := h.gE a; have g2 := k.gE a; obtain ⟨e1, e2⟩ := h5 (by omega); obtain ⟨e3, e4⟩ := k5 (by omega); exact ⟨e1.trans e3, fun b o cap hl => (e2 b o cap (by rw [k4]; exact hl)).trans (e4 b o cap hl)⟩
 CI b g ow hg hb := by
   obtain ⟨⟨cs1, h1⟩, h2⟩ := k.CI b g ow (Nat.le_trans hg (h.gB b)) hb; obtain ⟨h3, h4⟩ := h.CI b g cs1 hg h1; exact ⟨h3, h2.trans h4⟩
 gA a := Nat.le_trans (h.gA a) (k.gA a)
 gB b := Nat.le_trans (h.gB b) (k.gB b)
 gE b := Nat.le_trans (h.gE b) (k.gE b)
theorem Fw.refl (c : Cz) (st : St) (w : World) : Fw c st w c st w := ⟨jI.refl w _, fun _ _ _ A' _ h => ⟨A', h, rfl, rfl, rfl, fun _ => ⟨rfl, fun _ _ _ _ => rfl⟩⟩, fun _ _ ow _ h => ⟨⟨ow, h⟩, rfl⟩, fun _ => Nat.le_refl _, fun _ => Nat.le_refl _, fun _ => Nat.le_refl _⟩
theorem Fw.freeze (w : World) : (m : List (Nat × Nat)) → (c : Cz) → (st : St) → Fw c st w (c.drop m) (freeze st m) w
 | [], c, st => Fw.refl c st w
 | (a, j) :: m, c, st => (Fw.fA c st w a j).trans (Fw.freeze w m (c.drop1 a j) (TM.fA st a j))
theorem zi {w0 : World} {mu : Mu} {c : Cz} {st : St} {a : Act} {w : World} (h : Rel w0 mu c st a w) : (r : RT) → (cs : List CV) → (us : List Value) → fX c st w cs us →
   (k : aq r → List (Nat × Nat) → N) → {bh : St} → (rowOf st r cs k).val = some bh →
   ∃ x m, (k x m).val = some bh ∧ (∀ p ∈ m, ∃ g A, bl st p.1 p.2 g = some A) ∧
     ∀ ok : Nat → Prop, (∀ b, c.ok b → ok b) → (∀ p ∈ m, ∀ b, c.own b = some (.sp p.1 p.2) → ok b) → dD w ok r us x
 | .nil, cs, us, hl, k, bh, hv => by
   cases cs with
   | cons _ _ => simp [rowOf, N.val] at hv
   | nil =>
     have : us = [] := by have := hl.1; simp at this; exact List.length_eq_zero_iff.1 this.symm
     subst this; exact ⟨(), [], hv, fun p hp => by simp at hp, fun _ _ _ => rfl⟩
 | .cons t r, cs, us, hl, k, bh, hv => by
   cases cs with
   | nil => cases t <;> simp [rowOf, N.val] at hv
   | cons y cs =>
     cases us with
     | nil => have := hl.1; simp at this
     | cons u us =>
       have hu : kX c st w y u := hl.2 0 y u rfl rfl; have xG : fX c st w cs us := ⟨by have := hl.1; simpa using this, fun i a b ha hb => hl.2 (i + 1) a b (by simpa using ha) (by simpa using hb)⟩; have plain : ∀ (d : den t), (∀ ok : Nat → Prop, (∀ b, c.ok b → ok b) → cw w ok t u d) → (rowOf st r cs (fun x m => k (d, x) m)).val = some bh →
           ∃ x m, (k x m).val = some bh ∧ (∀ p ∈ m, ∃ g A, bl st p.1 p.2 g = some A) ∧
             ∀ ok : Nat → Prop, (∀ b, c.ok b → ok b) → (∀ p ∈ m, ∀ b, c.own b = some (.sp p.1 p.2) → ok b) → dD w ok (.cons t r) (u :: us) x := by
         intro d hd hv; obtain ⟨x, m, h1, h2, h3⟩ := zi h r cs us xG _ hv; exact ⟨(d, x), m, h1, h2, fun ok ho hm => ⟨u, us, rfl, hd ok ho, h3 ok ho hm⟩⟩
       cases t with
       | int q =>
         cases y with
         | int l n =>
           simp only [rowOf] at hv
           by_cases e : q = l
           · rw [if_pos e] at hv; exact plain n (fun ok _ => rD.2 (by rw [e]; exact hu)) hv
           · rw [if_neg e] at hv; simp [N.val] at hv
         | _ => simp [rowOf, N.val] at hv
       | bool =>
         cases y with
         | bool b => exact plain b (fun ok _ => sD.2 hu) (by simpa only [rowOf] using hv)
         | _ => simp [rowOf, N.val] at hv
       | str =>
         cases y with
         | str s => exact plain s (fun ok _ => vZ.2 hu) (by simpa only [rowOf] using hv)
         | _ => simp [rowOf, N.val] at hv
       | sl q =>
         cases y with
         | eI => exact plain ([] : List (aq q)) (fun ok _ => (oE _ _ _ _ _).2 (.inl ⟨hu, rfl⟩)) (by simpa only [rowOf] using hv)
         | shr r' ys =>
           simp only [rowOf] at hv
           cases hc : ck q ys with
           | none => simp [hc, N.val] at hv
           | some zs =>
             simp only [hc] at hv; obtain ⟨rfl, rfl⟩ := bA hc; exact plain _ (fun ok ho => cw.stays ⟨Nat.le_refl _, fun _ _ _ => rfl, fun b _ hb => ho b hb⟩ _ _ _ hu) hv
         | ref a' j g vw =>
           simp only [rowOf] at hv
           cases hA : bl st a' j g with
           | none => simp [hA, N.val] at hv
           | some A =>
             simp only [hA] at hv; have xY : A.md ≠ .ho := by intro e; rw [e] at hv; simp [N.val] at hv
             have hv : (match ck q A.xs with
                 | some ys => rowOf st r cs (fun x m => k (vw.app ys, x) ((a', j) :: m))
                 | none => .fail).val = some bh := by
               cases hm : A.md with
               | ho => exact absurd hm xY
               | sh => rw [hm] at hv; exact hv
               | dp => rw [hm] at hv; exact hv
             cases hc : ck q A.xs with
             | none => simp [hc, N.val] at hv
             | some ys =>
               simp only [hc] at hv; obtain ⟨e, he⟩ := bA hc; subst e; simp only at he; subst he; obtain ⟨sl, Ev, Pe, Ew⟩ := bN hA; have G5 := h.aP a' j sl A Ev Ew; obtain ⟨x, m, h1, h2, h3⟩ := zi h r cs us xG _ hv; refine ⟨(vw.app A.xs, x), (a', j) :: m, h1, fun p hp => ?_, fun ok ho hm => ⟨u, us, rfl, ?_, h3 ok ho (fun p hp => hm p (by simp [hp]))⟩⟩
               · rcases List.mem_cons.1 hp with rfl | hp
                 · exact ⟨g, A, hA⟩
                 · exact h2 p hp
               · exact CM G5 (hu.2.2 A hA) ho (fun k _ hk => hm (a', j) (by simp) k hk) xY
         | _ => simp [rowOf, N.val] at hv
end Go.TM
namespace Go.TM
open Go Go.RowKit
theorem xH {cs l m : List CV} {off : Nat} (h : putCells cs off l = some m) : off + l.length ≤ cs.length ∧ m = cs.take off ++ l ++ cs.drop (off + l.length) := by
 unfold putCells at h; obtain ⟨h1, h2⟩ := aH h; exact ⟨Nat.le_of_ble_eq_true h1, (Option.some.inj h2).symm⟩
theorem fX.cN {c : Cz} {st : St} {w : World} {cs l : List CV} {vs us : List Value} (h : fX c st w cs vs) (hl : fX c st w l us) (off : Nat) (hle : off + l.length ≤ cs.length) :
   fX c st w (cs.take off ++ l ++ cs.drop (off + l.length)) (TM.cN vs off us) := by
 have e1 := h.1; have e2 := hl.1; refine ⟨by rw [jj (by omega)]; simp; omega, fun i x v hx hv => ?_⟩; unfold TM.cN at hv; rw [List.getElem?_append, List.getElem?_append] at hx hv; simp only [List.length_append, List.length_take] at hx hv; have a1 : min off cs.length = off := by omega
 have a2 : min off vs.length = off := by omega
 rw [a1] at hx; rw [a2, ← e2] at hv
 by_cases h1 : i < off + l.length
 · rw [if_pos h1] at hx hv
   by_cases h2 : i < off
   · rw [if_pos h2, List.getElem?_take, if_pos h2] at hx hv; exact h.2 i x v hx hv
   · rw [if_neg h2] at hx hv; exact hl.2 _ x v hx hv
 · rw [if_neg h1, List.getElem?_drop] at hx hv; exact h.2 _ x v hx hv
theorem Rel.Nq {w0 : World} {mu : Mu} {c : Cz} {st : St} {a : Act} {w : World} (h : Rel w0 mu c st a w) {b : Nat} {s0 : Sl} {cs l : List CV} {vs qM : Array Value} {ty : TypeId}
   (hs : nth st b = some s0) (hb : s0.box = some cs) (hg : w.heap[c.bx b]? = some (.cells vs ty (0, 0))) (hl : fX c st w l qM.toList) :
   Rel w0 mu c (nA (fun s => { s with box := some l }) st b) a (w.setRow (c.bx b) qM) := by
 have gP := (h.boxes b s0 cs hs hb).1; have hn : ∀ s, nth (nA (fun s => { s with box := some l }) st b) s = if s = b then some { s0 with box := some l } else nth st s := by
   intro s; rw [ec]
   by_cases e : s = b
   · subst e; simp [hs]
   · simp [e]
 generalize nA (fun s => { s with box := some l }) st b = bh at hn ⊢; have s3 := uj (w := w) gP qM; have sB : ∀ k, k ≠ c.bx b → (w.setRow (c.bx b) qM).heap[k]? = w.heap[k]? := fun k hk => setRow_other w _ k qM hk
 have hY : Fw c st w c bh (w.setRow (c.bx b) qM) := {
   stays := s3
   refs := fun a' j g A' _ ft => by
     have I7 : bl st a' j g = some A' := by
       unfold bl at ft ⊢; rw [hn] at ft
       by_cases e : a' = b
       · subst e; simpa [hs] using ft
       · simpa [e] using ft
     refine ⟨A', I7, rfl, rfl, rfl, fun _ => ⟨rfl, fun k o cap hl => sB k ?_⟩⟩; have ha := h.vJ I7; unfold cz at ha; rw [hl] at ha; intro e; subst e; obtain ⟨h1, _⟩ := ha; rw [gP] at h1
     cases ho : A'.own <;> simp [ho] at h1
   CI := fun b' g ow _ mo => by
     refine ⟨?_, rfl⟩; unfold eR at mo ⊢; rw [hn] at mo
     by_cases e : b' = b
     · subst e; simp only [if_true] at mo; obtain ⟨h1, _⟩ := aH mo; exact ⟨cs, by simp [hs, h1, hb]⟩
     · simp only [e, if_false] at mo; exact ⟨ow, mo⟩
   gA := fun a' => by
     unfold ev; rw [hn]
     by_cases e : a' = b
     · subst e; simp [hs]
     · simp [e]
   gB := fun a' => by
     unfold jg; rw [hn]
     by_cases e : a' = b
     · subst e; simp [hs]
     · simp [e]
   gE := fun a' => by
     unfold ou; rw [hn]
     by_cases e : a' = b
     · subst e; simp [hs]
     · simp [e] }
 exact {
   gJ := fun t => by
     have e1 : da bh t = da st t := by
       unfold da; rw [hn]
       by_cases e : t = b
       · subst e; simp [hs]
       · simp [e]
     rw [e1]; exact hY.pG (h.gJ t)
   boxes := fun s sl ow zj mo => by
     rw [hn] at zj
     by_cases e : s = b
     · subst e; simp only [if_true, Option.some.injEq] at zj; subst zj; simp only [Option.some.injEq] at mo; subst mo; exact ⟨gP, qM, ty, setRow_heap w _ vs qM ty (0, 0) hg, hY.PA hl⟩
     · simp only [e, if_false] at zj; have h0 := h.boxes s sl ow zj mo; refine h0.go hY rfl rfl (sB _ ?_); intro e'; have := h0.1; rw [e', gP] at this; injection this with this; injection this with this; exact e this.symm
   aP := fun s j sl A zj ft => by
     rw [hn] at zj; have ha : cz c w s j A := by
       by_cases e : s = b
       · subst e; simp only [if_true, Option.some.injEq] at zj; subst zj; exact h.aP s j s0 A hs ft
       · simp only [e, if_false] at zj; exact h.aP s j sl A zj ft
     refine ha.go s3 rfl (fun k h1 => ⟨sB k ?_, rfl⟩); intro e; subst e; rw [gP] at h1
     cases h1
   owned := fun k l hk => by
     have := h.owned k l hk; exact ⟨by simpa [World.setRow] using this.1, this.2⟩
   free := h.free
   kept := ⟨h.kept.1, h.kept.2.1, h.kept.2.2.1, by simpa [World.setRow] using h.kept.2.2.2⟩
   old := fun k hk hm => by
     rw [sB k (fun e => by
       have := (h.owned _ _ gP).2; rcases this with this | this | this
       · cases this
       · subst e; omega
       · subst e; exact hm this)]
     exact h.old k hk hm
   fw := fun p hp => hY.fw (h.fw p hp)
   plain := h.plain }
theorem Rel.zk {w0 : World} {mu : Mu} {c : Cz} {st : St} {a : Act} {w : World} (h : Rel w0 mu c st a w) {s j : Nat} {s0 : Sl} {A : iN} {b off cap : Nat} {cur qM : Array Value} {ty : TypeId}
   {ys : List (aq A.r)} (hs : nth st s = some s0) (hA : nth s0.aP j = some (some A)) (gP : A.own = true) (jh : c.lc s j = .at b off cap)
   (hg : w.heap[b]? = some (.cells cur ty (0, 0))) (mm : qM.size = cur.size) (hlen : ys.length = A.xs.length)
   (iP : cf c (w.setRow b qM) (.sp s j) { A with xs := ys } b off) :
   Rel w0 mu c (cj st s j (some { A with xs := ys })) a (w.setRow b qM) := by
 have h0 := h.aP s j s0 A hs hA; unfold cz at h0; rw [jh] at h0; obtain ⟨h1, h2, ⟨WX, ty0, h3, h4⟩, h5⟩ := h0; rw [gP] at h1; have hc0 : WX = cur := by rw [hg] at h3; injection h3 with h3; injection h3 with h3; exact h3.symm
 subst hc0; have hn : ∀ k, nth (cj st s j (some { A with xs := ys })) k = if k = s then some { s0 with aP := nA (fun _ => some { A with xs := ys }) s0.aP j, ep := s0.ep + 1 } else nth st k := by
   intro k; unfold cj; rw [ec]
   by_cases e : k = s
   · subst e; simp [hs]
   · simp [e]
 generalize cj st s j (some { A with xs := ys }) = bh at hn ⊢; have s3 := uj (w := w) h1 qM; have sB : ∀ k, k ≠ b → (w.setRow b qM).heap[k]? = w.heap[k]? := fun k hk => setRow_other w _ k qM hk
 have hY : Fw c st w c bh (w.setRow b qM) := {
   stays := s3
   refs := fun a' j' g A' _ ft => by
     obtain ⟨sl, k1, k2, k3⟩ := bN ft; rw [hn] at k1
     by_cases e : a' = s
     · subst e; simp only [if_true, Option.some.injEq] at k1; subst k1; simp only at k2 k3; rw [ec] at k3
       by_cases e2 : j' = j
       · subst e2; rw [if_pos rfl, hA] at k3; simp only [Option.map_some, Option.some.injEq] at k3; subst k3; refine ⟨A, ?_, rfl, hlen, rfl, fun he => ?_⟩
         · unfold bl; rw [hs]; have : Nat.beq s0.ag g = true := by rw [k2]; exact Nat.beq_refl g
           simp [this, hA]
         · unfold ou at he; rw [hn, if_pos rfl, hs] at he; simp at he
       · rw [if_neg e2] at k3; refine ⟨A', ?_, rfl, rfl, rfl, fun he => ?_⟩
         · unfold bl; rw [hs]; have : Nat.beq s0.ag g = true := by rw [k2]; exact Nat.beq_refl g
           simp [this, k3]
         · unfold ou at he; rw [hn, if_pos rfl, hs] at he; simp at he
     · rw [if_neg e] at k1; have I7 : bl st a' j' g = some A' := by
         unfold bl; rw [k1]; have : Nat.beq sl.ag g = true := by rw [k2]; exact Nat.beq_refl g
         simp [this, k3]
       refine ⟨A', I7, rfl, rfl, rfl, fun _ => ⟨rfl, fun k o I3 hl => sB k ?_⟩⟩; have ha := h.vJ I7; unfold cz at ha; rw [hl] at ha
       rintro rfl
       obtain ⟨g1, _⟩ := ha; rw [h1] at g1
       cases ho : A'.own with
       | true => simp [ho] at g1; exact e g1.1.symm
       | false => simp [ho] at g1
   CI := fun b' g ow _ mo => by
     refine ⟨⟨ow, ?_⟩, rfl⟩; unfold eR at mo ⊢; rw [hn] at mo
     by_cases e : b' = s
     · subst e; simpa [hs] using mo
     · simpa [e] using mo
   gA := fun a' => by
     unfold ev; rw [hn]
     by_cases e : a' = s
     · subst e; simp [hs]
     · simp [e]
   gB := fun a' => by
     unfold jg; rw [hn]
     by_cases e : a' = s
     · subst e; simp [hs]
     · simp [e]
   gE := fun a' => by
     unfold ou; rw [hn]
     by_cases e : a' = s
     · subst e; simp [hs]
     · simp [e] }
 exact {
   gJ := fun t => by
     have e1 : da bh t = da st t := by
       unfold da; rw [hn]
       by_cases e : t = s
       · subst e; simp [hs]
       · simp [e]
     rw [e1]; exact hY.pG (h.gJ t)
   boxes := fun k sl ow zj mo => by
     rw [hn] at zj; have Cf : v8 c st w k ow := by
       by_cases e : k = s
       · subst e; simp only [if_true, Option.some.injEq] at zj; subst zj; exact h.boxes k s0 ow hs mo
       · simp only [e, if_false] at zj; exact h.boxes k sl ow zj mo
     refine Cf.go hY rfl rfl (sB _ ?_); intro e; have := Cf.1; rw [e, h1] at this; simp at this
   aP := fun k i sl B zj hB => by
     rw [hn] at zj
     by_cases e : k = s ∧ i = j
     · obtain ⟨rfl, rfl⟩ := e; simp only [if_true, Option.some.injEq] at zj; subst zj; simp only at hB; rw [ec, if_pos rfl, hA] at hB; simp only [Option.map_some, Option.some.injEq] at hB; subst hB; unfold cz; rw [jh]; refine ⟨by rw [gP]; exact h1, by simp only; rw [hlen]; exact h2, ⟨qM, ty, setRow_heap w b WX qM ty (0, 0) hg, by simp only; rw [mm]; exact h4⟩, iP⟩
     · have ha : cz c w k i B := by
         by_cases e2 : k = s
         · subst e2; simp only [if_true, Option.some.injEq] at zj; subst zj; simp only at hB; rw [ec, if_neg (fun e3 => e ⟨rfl, e3⟩)] at hB; exact h.aP k i s0 B hs hB
         · rw [if_neg e2] at zj; exact h.aP k i sl B zj hB
       refine ha.go s3 rfl (fun k' g1 => ⟨sB k' ?_, rfl⟩)
       rintro rfl
       rw [h1] at g1; simp at g1; exact e ⟨g1.1.symm, g1.2.symm⟩
   owned := fun k l hk => by
     have := h.owned k l hk; exact ⟨by simpa [World.setRow] using this.1, this.2⟩
   free := h.free
   kept := ⟨h.kept.1, h.kept.2.1, h.kept.2.2.1, by simpa [World.setRow] using h.kept.2.2.2⟩
   old := fun k hk hm => by
     rw [sB k (fun e => by
       have := (h.owned _ _ h1).2; rcases this with this | this | this
       · cases this
       · subst e; omega
       · subst e; exact hm this)]
     exact h.old k hk hm
   fw := fun p hp => hY.fw (h.fw p hp)
   plain := h.plain }
end Go.TM
namespace Go.TM
open Go Go.RowKit
theorem zl : (r : RT) → (x : aq r) → (k : Nat) → (y : CV) → {z : aq r} → gr r x k y = some z → k < r.width
 | .nil, _, _, _, _, h => by simp [gr] at h
 | .cons t r, x, 0, y, z, _ => by simp [RT.width]
 | .cons t r, x, k + 1, y, z, h => by
   have h' : (gr r x.2 k y).map (fun z => ((x.1, z) : aq (.cons t r))) = some z := by cases t <;> (simp only [gr] at h; exact h)
   cases hq : gr r x.2 k y with
   | none => rw [hq] at h'; cases h'
   | some z' => have := zl r x.2 k y hq; simp [RT.width]; omega
theorem uk (r : RT) (x : aq r) : (off : Nat) → (cs : List CV) → {z : aq r} → kZ r x off cs = some z → cs ≠ [] → off + cs.length ≤ r.width
 | _, [], _, _, h => absurd rfl h
 | off, y :: l, z, h, _ => by
   simp only [kZ] at h
   cases hq : kZ r x (off + 1) l with
   | none => simp [hq] at h
   | some y' =>
     simp only [hq] at h; have h1 := zl r y' off y h
     cases l with
     | nil => simp; omega
     | cons y2 l2 => have := uk r x (off + 1) (y2 :: l2) hq (by simp); simp at this ⊢; omega
theorem mR {vs us : List Value} {off k : Nat} (hle : off + us.length ≤ vs.length) : (cN vs off us)[k]? = if off ≤ k ∧ k < off + us.length then us[k - off]? else vs[k]? := by
 unfold cN; simp only [List.getElem?_append, List.length_append, List.length_take, List.getElem?_take, List.getElem?_drop]; have a1 : min off vs.length = off := by omega
 rw [a1]
 by_cases h1 : k < off
 · rw [if_pos (by omega), if_pos h1, if_pos h1, if_neg (by omega)]
 · by_cases h2 : k < off + us.length
   · rw [if_pos h2, if_neg h1, if_pos ⟨by omega, h2⟩]
   · rw [if_neg h2, if_neg (by omega)]
     congr 1
     omega
theorem CP : (m : List (Nat × Nat)) → {st : St} → {a j : Nat} → {sl : Sl} → {A : iN} → nth st a = some sl → nth sl.aP j = some (some A) → (a, j) ∉ m →
   ∃ R0, nth (freeze st m) a = some R0 ∧ nth R0.aP j = some (some A)
 | [], _, _, _, sl, _, h1, h2, _ => ⟨sl, h1, h2⟩
 | (b, i) :: m, st, a, j, sl, A, h1, h2, hm => by
   rw [G6]; obtain ⟨f, hf, hn⟩ := iQ st b i a; refine CP m (sl := f sl) (A := A) (by rw [hn, h1]; rfl) ?_ (fun h => hm (by simp [h])); rw [(hf sl).2.2.2.2.1 j, if_neg]
   · exact h2
   · rintro ⟨rfl, rfl⟩; exact hm (by simp)
theorem zm {c : Cz} {w : World} {b off : Nat} {r : RT} {xs : List (aq r)} {cur : Array Value} {ty : TypeId} {l : Lb} (gP : c.own b = some l)
   (hg : w.heap[b]? = some (.cells cur ty (0, 0))) (iP : ∀ (i : Nat) x, xs[i]? = some x → dw w c.ok r b (off + i * r.width) x)
   {i k : Nat} {x y : aq r} {us : List Value} (hx : xs[i]? = some x) (hle : k + us.length ≤ r.width) (mm : off + i * r.width + r.width ≤ cur.size)
   (hy : ∀ vs, dD w c.ok r vs x → dD w c.ok r (cN vs k us) y) :
   ∀ (i' : Nat) x', (xs.set i y)[i']? = some x' → dw (w.setRow b (cN cur.toList (off + i * r.width + k) us).toArray) c.ok r b (off + i' * r.width) x' := by
 have s3 := uj (w := w) gP (cN cur.toList (off + i * r.width + k) us).toArray; have R1 := setRow_heap w b cur (cN cur.toList (off + i * r.width + k) us).toArray ty (0, 0) hg; have xI : ∀ q, (w.setRow b (cN cur.toList (off + i * r.width + k) us).toArray).cell? ⟨b, q, none⟩ =
     if off + i * r.width + k ≤ q ∧ q < off + i * r.width + k + us.length then us[q - (off + i * r.width + k)]? else w.cell? ⟨b, q, none⟩ := by
   intro q; rw [cell_of_row _ b q _ ty (0, 0) R1, cell_of_row w b q cur ty (0, 0) hg]; simp only [List.getElem?_toArray]; rw [mR (by simp; omega)]; simp
 intro i' x' Cd; rw [List.getElem?_set] at Cd
 by_cases e : i = i'
 · subst e; rw [if_pos rfl] at Cd; have hi : i < xs.length := (List.getElem?_eq_some_iff.1 hx).1; rw [if_pos hi] at Cd; obtain rfl := Option.some.inj Cd; obtain ⟨vs, h1, h2⟩ := (nF r b _ x).1 (iP i x hx); have AE := dD.length r vs x h2; refine (nF r b _ y).2 ⟨cN vs k us, fun q v hv => ?_, dD.stays s3 r _ y (hy vs h2)⟩; rw [mR (by omega)] at hv; rw [xI]
   by_cases hq : k ≤ q ∧ q < k + us.length
   · rw [if_pos hq] at hv; rw [if_pos (by omega), show off + i * r.width + q - (off + i * r.width + k) = q - k by omega]; exact hv
   · rw [if_neg hq] at hv; rw [if_neg (by omega)]; exact h1 q v hv
 · rw [if_neg e] at Cd; obtain ⟨vs, h1, h2⟩ := (nF r b _ x').1 (iP i' x' Cd); have AE := dD.length r vs x' h2; refine (nF r b _ x').2 ⟨vs, fun q v hv => ?_, dD.stays s3 r _ x' h2⟩; have hq : q < r.width := by rw [← AE]; exact (List.getElem?_eq_some_iff.1 hv).1
   rw [xI, if_neg]
   · exact h1 q v hv
   · rintro ⟨g1, g2⟩
     rcases Nat.lt_or_gt_of_ne e with h | h
     · have : (i + 1) * r.width ≤ i' * r.width := Nat.mul_le_mul_right _ h; rw [Nat.add_mul] at this; omega
     · have : (i' + 1) * r.width ≤ i * r.width := Nat.mul_le_mul_right _ h; rw [Nat.add_mul] at this; omega
theorem xJ {w : World} {b off : Nat} {r : RT} {xs : List (aq r)} {cur : Array Value} {ty : TypeId}
   (hg : w.heap[b]? = some (.cells cur ty (0, 0))) {Q : Nat → List Value → aq r → Prop} (iP : ∀ (i : Nat) x, xs[i]? = some x → ∃ vs, w.rangeAt b (off + i * r.width) vs ∧ vs.length = r.width ∧ Q i vs x)
   {i k : Nat} {x y : aq r} {us : List Value} (hx : xs[i]? = some x) (hle : k + us.length ≤ r.width) (mm : off + i * r.width + r.width ≤ cur.size)
   (hy : ∀ vs, vs.length = r.width → Q i vs x → Q i (cN vs k us) y) :
   ∀ (i' : Nat) x', (xs.set i y)[i']? = some x' → ∃ vs, (w.setRow b (cN cur.toList (off + i * r.width + k) us).toArray).rangeAt b (off + i' * r.width) vs ∧ Q i' vs x' := by
 have R1 := setRow_heap w b cur (cN cur.toList (off + i * r.width + k) us).toArray ty (0, 0) hg; have xI : ∀ q, (w.setRow b (cN cur.toList (off + i * r.width + k) us).toArray).cell? ⟨b, q, none⟩ =
     if off + i * r.width + k ≤ q ∧ q < off + i * r.width + k + us.length then us[q - (off + i * r.width + k)]? else w.cell? ⟨b, q, none⟩ := by
   intro q; rw [cell_of_row _ b q _ ty (0, 0) R1, cell_of_row w b q cur ty (0, 0) hg]; simp only [List.getElem?_toArray]; rw [mR (by simp; omega)]; simp
 intro i' x' Cd; rw [List.getElem?_set] at Cd
 by_cases e : i = i'
 · subst e; rw [if_pos rfl] at Cd; have hi : i < xs.length := (List.getElem?_eq_some_iff.1 hx).1; rw [if_pos hi] at Cd; obtain rfl := Option.some.inj Cd; obtain ⟨vs, h1, AE, h2⟩ := iP i x hx; refine ⟨cN vs k us, fun q v hv => ?_, hy vs AE h2⟩; rw [mR (by omega)] at hv; rw [xI]
   by_cases hq : k ≤ q ∧ q < k + us.length
   · rw [if_pos hq] at hv; rw [if_pos (by omega), show off + i * r.width + q - (off + i * r.width + k) = q - k by omega]; exact hv
   · rw [if_neg hq] at hv; rw [if_neg (by omega)]; exact h1 q v hv
 · rw [if_neg e] at Cd; obtain ⟨vs, h1, AE, h2⟩ := iP i' x' Cd; refine ⟨vs, fun q v hv => ?_, h2⟩; have hq : q < r.width := by rw [← AE]; exact (List.getElem?_eq_some_iff.1 hv).1
   rw [xI, if_neg]
   · exact h1 q v hv
   · rintro ⟨g1, g2⟩
     rcases Nat.lt_or_gt_of_ne e with h | h
     · have : (i + 1) * r.width ≤ i' * r.width := Nat.mul_le_mul_right _ h; rw [Nat.add_mul] at this; omega
     · have : (i' + 1) * r.width ≤ i * r.width := Nat.mul_le_mul_right _ h; rw [Nat.add_mul] at this; omega
end Go.TM
namespace Go.TM
open Go Go.RowKit
def V4 (w : World) (ok : Nat → Prop) (r : RT) (u : Value) (ys : List (aq r)) : Prop :=
 (u = .slice none 0 0 ∧ ys = []) ∨ ∃ a cap, u = .slice (some a) ys.length cap ∧ (ys ≠ [] → a.spot = none) ∧ ∀ (i : Nat) y, ys[i]? = some y → dw w ok r a.block (a.off + i * r.width) y
def bB (w : World) (ok : Nat → Prop) (r : RT) : List Value → List (aq r) → Prop
 | vs, [] => vs = []
 | vs, x :: xs => ∃ l1 l2, vs = l1 ++ l2 ∧ dD w ok r l1 x ∧ bB w ok r l2 xs
theorem bB.length {w : World} {ok : Nat → Prop} {r : RT} : (vs : List Value) → (xs : List (aq r)) → bB w ok r vs xs → vs.length = xs.length * r.width
 | vs, [], h => by simp only [bB] at h; subst h; simp
 | vs, x :: xs, h => by
   obtain ⟨l1, l2, rfl, h1, h2⟩ := h; have a1 := dD.length r l1 x h1; have a2 := bB.length l2 xs h2; simp [a1, a2, Nat.add_mul]; omega
theorem bB.stays {w w' : World} {ok ze : Nat → Prop} (h : jI w w' ok ze) {r : RT} : (vs : List Value) → (xs : List (aq r)) → bB w ok r vs xs → bB w' ze r vs xs
 | _, [], hr => hr
 | _, x :: xs, ⟨l1, l2, e, h1, h2⟩ => ⟨l1, l2, e, dD.stays h r l1 x h1, bB.stays h l2 xs h2⟩
theorem bB.append {w : World} {ok : Nat → Prop} {r : RT} : (vs us : List Value) → (xs ys : List (aq r)) → bB w ok r vs xs → bB w ok r us ys → bB w ok r (vs ++ us) (xs ++ ys)
 | vs, us, [], ys, h, k => by simp only [bB] at h; subst h; simpa using k
 | vs, us, x :: xs, ys, ⟨l1, l2, e, h1, h2⟩, k => ⟨l1, l2 ++ us, by rw [e, List.append_assoc], h1, bB.append l2 us xs ys h2 k⟩
theorem bB.one {w : World} {ok : Nat → Prop} {r : RT} {vs : List Value} {x : aq r} (h : dD w ok r vs x) : bB w ok r vs [x] := ⟨vs, [], by simp, h, rfl⟩
theorem nd {w : World} {ok : Nat → Prop} {r : RT} (b : Nat) : (off : Nat) → (xs : List (aq r)) → (∀ (i : Nat) x, xs[i]? = some x → dw w ok r b (off + i * r.width) x) →
   ∃ vs, w.rangeAt b off vs ∧ bB w ok r vs xs
 | _, [], _ => ⟨[], fun j v h => by simp at h, rfl⟩
 | off, x :: xs, h => by
   obtain ⟨l1, h1, h2⟩ := (nF r b off x).1 (by have := h 0 x rfl; simpa using this); obtain ⟨l2, h3, h4⟩ := nd b (off + r.width) xs (fun i y hy => by
     have := h (i + 1) y (by simpa using hy); rw [Nat.add_mul, Nat.one_mul] at this; rw [show off + r.width + i * r.width = off + (i * r.width + r.width) by omega]; exact this)
   have hl := dD.length r l1 x h2; refine ⟨l1 ++ l2, fun j v hv => ?_, l1, l2, rfl, h2, h4⟩; rw [List.getElem?_append] at hv
   by_cases hj : j < l1.length
   · rw [if_pos hj] at hv; exact h1 j v hv
   · rw [if_neg hj] at hv; have := h3 _ v hv; rw [show off + r.width + (j - l1.length) = off + j by omega] at this; exact this
theorem sG {w : World} {ok : Nat → Prop} {r : RT} {b : Nat} : (off : Nat) → (vs : List Value) → (xs : List (aq r)) → bB w ok r vs xs → w.rangeAt b off vs →
   ∀ (i : Nat) x, xs[i]? = some x → dw w ok r b (off + i * r.width) x
 | _, _, [], _, _, i, x, h => by simp at h
 | off, vs, y :: xs, ⟨l1, l2, e, h1, h2⟩, hr, i, x, h => by
   subst e; have hl := dD.length r l1 y h1
   cases i with
   | zero =>
     simp at h; subst h; rw [nF]; refine ⟨l1, fun j v hv => ?_, h1⟩; have hj : j < l1.length := (List.getElem?_eq_some_iff.1 hv).1; have := hr j v (by rw [List.getElem?_append, if_pos hj]; exact hv); simpa using this
   | succ i =>
     have := sG (off + r.width) l2 xs h2 (fun j v hv => by
       have := hr (l1.length + j) v (by rw [List.getElem?_append, if_neg (by omega)]; simpa using hv); rw [show off + r.width + j = off + (l1.length + j) by omega]; exact this) i x (by simpa using h)
     rw [Nat.add_mul, Nat.one_mul]; rw [show off + (i * r.width + r.width) = off + r.width + i * r.width by omega]; exact this
theorem cw.one {w : World} {ok : Nat → Prop} {t : Ty} {v : Value} {x : den t} (h : cw w ok t v x) : v.oneCell' = true := by
 cases t with
 | int k => rw [rD.1 h]; rfl
 | bool => rw [sD.1 h]; rfl
 | str => rw [vZ.1 h]; rfl
 | sl r =>
   rcases (oE w ok r v x).1 h with ⟨rfl, _⟩ | ⟨a, cap, rfl, _⟩ <;> rfl
theorem dD.one {w : World} {ok : Nat → Prop} : (r : RT) → (vs : List Value) → (x : aq r) → dD w ok r vs x → ∀ v ∈ vs, v.oneCell' = true
 | .nil, vs, _, h, v, hv => by simp only [dD] at h; subst h; simp at hv
 | .cons t r, vs, x, ⟨u, l, e, hx, hr⟩, v, hv => by
   subst e; rcases List.mem_cons.1 hv with rfl | hv
   · exact hx.one
   · exact dD.one r l x.2 hr v hv
theorem bB.j2 {w : World} {ok : Nat → Prop} {r : RT} : (vs : List Value) → (xs : List (aq r)) → bB w ok r vs xs → ∀ v ∈ vs, v.oneCell' = true
 | vs, [], h, v, hv => by simp only [bB] at h; subst h; simp at hv
 | vs, x :: xs, ⟨l1, l2, e, h1, h2⟩, v, hv => by
   subst e; rcases List.mem_append.1 hv with hv | hv
   · exact dD.one r l1 x h1 v hv
   · exact bB.j2 l2 xs h2 v hv
theorem Bs {w0 : World} {mu : Mu} {c : Cz} {st : St} {a : Act} {w : World} (h : Rel w0 mu c st a w) {r : RT} {x : CV} {u : Value} (hx : kX c st w x u)
   {k : List (aq r) → N} {bh : St} (hv : (mn st r x k).val = some bh) : ∃ ys, (k ys).val = some bh ∧ V4 w c.ok r u ys := by
 cases x with
 | shr r' xs =>
   simp only [mn] at hv
   cases hc : ck r xs with
   | none => simp [hc, N.val] at hv
   | some ys =>
     simp only [hc] at hv; obtain ⟨rfl, rfl⟩ := bA hc; refine ⟨_, hv, ?_⟩; rcases (oE _ _ _ _ _).1 hx with h1 | ⟨a', cap, h1, h2, h3, h4⟩
     · exact .inl h1
     · exact .inr ⟨a', cap, h1, fun gW => (h3 gW).1, h4⟩
 | nn r' xs =>
   simp only [mn] at hv
   cases hc : ck r xs with
   | none => simp [hc, N.val] at hv
   | some ys =>
     simp only [hc] at hv; obtain ⟨rfl, rfl⟩ := bA hc; refine ⟨_, hv, ?_⟩; rcases (oE _ _ _ _ _).1 hx.1 with h1 | ⟨a', cap, h1, h2, h3, h4⟩
     · exact .inl h1
     · exact .inr ⟨a', cap, h1, fun gW => (h3 gW).1, h4⟩
 | eI => exact ⟨[], by simpa only [mn] using hv, .inl ⟨hx, rfl⟩⟩
 | ref a' j g vw =>
   simp only [mn] at hv
   cases hA : bl st a' j g with
   | none => simp [hA, N.val] at hv
   | some A =>
     simp only [hA] at hv; have xY : A.md = .sh := by
       cases hm : A.md with
       | sh => rfl
       | dp => rw [hm] at hv; simp [N.val] at hv
       | ho => rw [hm] at hv; simp [N.val] at hv
     rw [xY] at hv; simp only at hv
     cases hc : ck r A.xs with
     | none => simp [hc, N.val] at hv
     | some ys =>
       simp only [hc] at hv; obtain ⟨e, he⟩ := bA hc; subst e; simp only at he; subst he; obtain ⟨sl, Ev, Pe, Ew⟩ := bN hA; have G5 := h.aP a' j sl A Ev Ew; refine ⟨vw.app A.xs, hv, ?_⟩; clear hv; have hs := hx.2.2 A hA
       cases hl : c.lc a' j with
       | nil =>
         unfold jJ at hs; rw [hl] at hs; exact .inl ⟨hs.1, List.length_eq_zero_iff.1 hs.2⟩
       | «at» b off cap =>
         unfold jJ at hs; rw [hl] at hs; obtain ⟨ad, k', rfl, hk, zg, ha⟩ := hs; unfold cz at G5; rw [hl] at G5; obtain ⟨_, _, _, h5⟩ := G5; have gW : vw.app A.xs ≠ [] → k' ≠ 0 := by
           intro gW; have := List.length_pos_iff.2 gW; omega
         refine .inr ⟨ad, k', rfl, fun h => by rw [ha (gW h)], fun i y hy => ?_⟩; have hk0 : k' ≠ 0 := gW (by intro e; rw [e] at hy; simp at hy); rw [ha hk0]; have := (cf.sh xY).1 h5 _ y (View.w9 vw A.xs hy); have e : off + vw.lo * A.r.width + i * A.r.width = off + (vw.lo + i) * A.r.width := by rw [Nat.add_mul]; omega
         show dw w c.ok A.r b (off + vw.lo * A.r.width + i * A.r.width) y; rw [e]; exact this
 | _ => simp [mn, N.val] at hv
theorem Rel.place {w0 : World} {mu : Mu} {c c' : Cz} {st : St} {a : Act} {w w' : World} (h : Rel w0 mu c st a w) {d B : Nat} {s0 : Sl} {A : iN} {v : Value}
   (jb : nth st d = some s0) (hd : d < a.tmps.size)
   (Cf : c'.bx = c.bx) (jh : ∀ s j, ¬ (s = d ∧ j = 0) → c'.lc s j = c.lc s j) (gP : ∀ k, k ≠ B → c'.own k = c.own k)
   (WY : c'.own B = some (.sp d 0) ∨ (c'.own B = c.own B ∧ w'.heap[B]? = w.heap[B]?))
   (hB : w.heap.size ≤ B ∨ ∃ s j, c.own B = some (.sp s j) ∧ (s = d ∨ ∀ sl A, nth st s = some sl → nth sl.aP j ≠ some (some A)))
   (hBn : c'.own B = some (.sp d 0) → B < w'.heap.size)
   (hw : ∀ k, k < w.heap.size → k ≠ B → w'.heap[k]? = w.heap[k]?) (s4 : w'.os = w.os ∧ w'.tape = w.tape ∧ w'.output = w.output ∧ w.heap.size ≤ w'.heap.size)
   (hA : cz c' w' d 0 A) (Cp : v.oneCell' = true) (hv : jJ (c'.lc d 0) A.r.width 0 A.xs.length v) :
   Rel w0 mu c' (nA (fun s => { s with v := .one (.ref d 0 (s0.ag + 1) .full), aP := [some A], ag := s0.ag + 1 }) st d) (a.put (some d) v) w' := by
 have hn : ∀ s, nth (nA (fun s => { s with v := .one (.ref d 0 (s0.ag + 1) .full), aP := [some A], ag := s0.ag + 1 }) st d) s =
     if s = d then some { s0 with v := .one (.ref d 0 (s0.ag + 1) .full), aP := [some A], ag := s0.ag + 1 } else nth st s := by
   intro s; rw [ec]
   by_cases e : s = d
   · subst e; simp [jb]
   · simp [e]
 generalize nA (fun s => { s with v := .one (.ref d 0 (s0.ag + 1) .full), aP := [some A], ag := s0.ag + 1 }) st d = bh at hn ⊢; have R2 : ∀ k, k < w.heap.size → c.ok k → k ≠ B := by
   rintro k hk gI rfl
   rcases hB with hB | ⟨s, j, hB, _⟩
   · omega
   · unfold Cz.ok at gI; rw [hB] at gI; cases gI
 have s3 : jI w w' c.ok c'.ok := ⟨s4.2.2.2, fun k hk gI => hw k hk (R2 k hk gI), fun k hk gI => by unfold Cz.ok; rw [gP k (R2 k hk gI)]; exact gI⟩; have hY : Fw c st w c' bh w' := {
   stays := s3
   refs := fun a' j g A' hg ft => by
     by_cases e : a' = d
     · subst e; obtain ⟨sl, k1, k2, k3⟩ := bN ft; rw [hn, if_pos rfl] at k1; obtain rfl := Option.some.inj k1; simp only at k2; unfold ev at hg; rw [jb] at hg; simp only at hg; omega
     · have I7 : bl st a' j g = some A' := by
         unfold bl at ft ⊢; rw [hn, if_neg e] at ft; exact ft
       refine ⟨A', I7, rfl, rfl, jh a' j (fun h => e h.1), fun _ => ⟨rfl, fun k off cap hl => ?_⟩⟩; have ha := h.vJ I7; have dm := ha.lt hl; unfold cz at ha; rw [hl] at ha; obtain ⟨g1, _⟩ := ha; refine hw k dm ?_
       rintro rfl
       rcases hB with hB | ⟨s', j', hB, EB⟩
       · omega
       · rw [hB] at g1
         cases ho : A'.own with
         | true =>
           simp [ho] at g1; obtain ⟨rfl, rfl⟩ := g1; obtain ⟨sl, q1, _, q3⟩ := bN I7; rcases EB with EB | EB
           · exact e EB
           · exact EB sl A' q1 q3
         | false => simp [ho] at g1
   CI := fun b' g ow _ mo => by
     refine ⟨⟨ow, ?_⟩, by rw [Cf]⟩; unfold eR at mo ⊢; rw [hn] at mo
     by_cases e : b' = d
     · subst e; simpa [jb] using mo
     · simpa [e] using mo
   gA := fun a' => by
     unfold ev; rw [hn]
     by_cases e : a' = d
     · subst e; simp [jb]
     · simp [e]
   gB := fun a' => by
     unfold jg; rw [hn]
     by_cases e : a' = d
     · subst e; simp [jb]
     · simp [e]
   gE := fun a' => by
     unfold ou; rw [hn]
     by_cases e : a' = d
     · subst e; simp [jb]
     · simp [e] }
 exact {
   gJ := fun t => by
     have e1 : da bh t = if t = d then .one (.ref d 0 (s0.ag + 1) .full) else da st t := by
       unfold da; rw [hn]
       by_cases e : t = d <;> simp [e]
     rw [e1, eval_put]
     by_cases e : t = d
     · subst e; simp only [if_true, true_and, hd]; refine ⟨Cp, ?_, fun A' ft => ?_⟩
       · unfold ev; rw [hn]; simp
       · obtain ⟨sl, k1, k2, k3⟩ := bN ft; rw [hn, if_pos rfl] at k1; obtain rfl := Option.some.inj k1; simp [nth] at k3; subst k3; exact hv
     · simp only [e, if_false]; rw [if_neg (fun h => e (Option.some.inj h.1).symm)]; exact hY.pG (h.gJ t)
   boxes := fun s sl ow hs hb => by
     rw [hn] at hs; have R3 : v8 c st w s ow := by
       by_cases e : s = d
       · subst e; rw [if_pos rfl] at hs; obtain rfl := Option.some.inj hs; exact h.boxes s s0 ow jb hb
       · rw [if_neg e] at hs; exact h.boxes s sl ow hs hb
     have dm := h.qi R3.1; have gW : c.bx s ≠ B := by
       intro e; rcases hB with hB | ⟨s', j, hB, _⟩
       · omega
       · rw [← e, R3.1] at hB; cases hB
     exact R3.go hY (by rw [Cf]) (gP _ gW) (hw _ dm gW)
   aP := fun s j sl A' hs ft => by
     rw [hn] at hs
     by_cases e : s = d
     · subst e; rw [if_pos rfl] at hs; obtain rfl := Option.some.inj hs
       cases j with
       | zero => simp [nth] at ft; subst ft; exact hA
       | succ j => simp [nth] at ft
     · rw [if_neg e] at hs; have ha := h.aP s j sl A' hs ft; refine ha.go s3 (jh s j (fun h => e h.1)) (fun k g1 => ?_); have dm : k < w.heap.size := h.qi g1; have gW : k ≠ B := by
         rintro rfl
         rcases hB with hB | ⟨s', j', hB, EB⟩
         · omega
         · rw [hB] at g1; simp at g1; obtain ⟨rfl, rfl⟩ := g1; rcases EB with EB | EB
           · exact e EB
           · exact EB sl A' hs ft
       exact ⟨hw k dm gW, gP k gW⟩
   owned := fun b l hb => by
     by_cases e : b = B
     · subst e; rcases WY with WY | ⟨WY, _⟩
       · refine ⟨hBn WY, ?_⟩; rcases hB with hB | ⟨s', j', hB, _⟩
         · exact .inr (.inl (Nat.le_trans h.kept.2.2.2 hB))
         · rcases (h.owned _ _ hB).2 with h2 | h2
           · cases h2
           · exact .inr h2
       · rw [WY] at hb; have := h.owned b l hb; exact ⟨Nat.lt_of_lt_of_le this.1 s4.2.2.2, this.2⟩
     · rw [gP b e] at hb; have := h.owned b l hb; exact ⟨Nat.lt_of_lt_of_le this.1 s4.2.2.2, this.2⟩
   free := fun b hb h1 => by
     by_cases e : b = B
     · subst e; rcases hB with hB | ⟨s', j', hB, _⟩
       · have := h.kept.2.2.2; omega
       · rcases (h.owned _ _ hB).2 with h2 | h2 | h2
         · cases h2
         · omega
         · exact .inl h2
     · rw [gP b e] at h1; exact h.free b hb h1
   kept := ⟨s4.1.trans h.kept.1, s4.2.1.trans h.kept.2.1, s4.2.2.1.trans h.kept.2.2.1, Nat.le_trans h.kept.2.2.2 s4.2.2.2⟩
   old := fun k hk hm => by
     have Bt := Nat.lt_of_lt_of_le hk h.kept.2.2.2; rw [hw k Bt (fun e => ?_)]
     · exact h.old k hk hm
     · subst e; rcases hB with hB | ⟨s', j', hB, _⟩
       · omega
       · rcases (h.owned _ _ hB).2 with h2 | h2 | h2
         · cases h2
         · omega
         · exact hm h2
   fw := fun p hp => hY.fw (h.fw p hp)
   plain := h.plain }
end Go.TM
namespace Go.TM
open Go Go.RowKit
theorem Rel.R4 {w0 : World} {mu : Mu} {c : Cz} {st : St} {a : Act} {w : World} (_h : Rel w0 mu c st a w) (s j : Nat) : Fw c st w c (cj st s j none) w := by
 have hn : ∀ k, ∃ f : Sl → Sl, (∀ x, (f x).v = x.v ∧ (f x).box = x.box ∧ (f x).bg = x.bg ∧ (f x).ag = x.ag ∧
     (∀ i, nth (f x).aP i = if k = s ∧ i = j then (nth x.aP i).map (fun _ => none) else nth x.aP i) ∧ (f x).ep = if k = s then x.ep + 1 else x.ep) ∧ nth (cj st s j none) k = (nth st k).map f := by
   intro k; unfold cj
   by_cases e : k = s
   · subst e; refine ⟨fun s => { s with aP := nA (fun _ => none) s.aP j, ep := s.ep + 1 }, fun x => ⟨rfl, rfl, rfl, rfl, fun i => ?_, by simp⟩, j5 _ _ _⟩; simp only [ec, true_and]
   · refine ⟨id, fun x => ⟨rfl, rfl, rfl, rfl, fun i => ?_, by simp [e]⟩, by rw [mQ _ _ e]; simp⟩; simp [e]
 generalize cj st s j none = bh at hn ⊢; exact {
   stays := jI.refl w _
   refs := fun a' j' g A' _ ft => by
     obtain ⟨sl, k1, k2, k3⟩ := bN ft; obtain ⟨f, hf, hk⟩ := hn a'; rw [hk] at k1
     cases hx : nth st a' with
     | none => rw [hx] at k1; simp at k1
     | some x =>
       rw [hx] at k1; simp at k1; subst k1; rw [(hf x).2.2.2.2.1 j'] at k3; rw [(hf x).2.2.2.1] at k2; refine ⟨A', ?_, rfl, rfl, rfl, fun _ => ⟨rfl, fun _ _ _ _ => rfl⟩⟩
       by_cases e : a' = s ∧ j' = j
       · rw [if_pos e] at k3
         cases hq : nth x.aP j' <;> simp [hq] at k3
       · rw [if_neg e] at k3; unfold bl; rw [hx]; have : Nat.beq x.ag g = true := by rw [k2]; exact Nat.beq_refl g
         simp [this, k3]
   CI := fun b g ow _ hb => by
     refine ⟨⟨ow, ?_⟩, rfl⟩; obtain ⟨f, hf, hk⟩ := hn b; unfold eR at hb ⊢; rw [hk] at hb
     cases hx : nth st b with
     | none => rw [hx] at hb; simp at hb
     | some x => rw [hx] at hb; simpa [(hf x).2.1, (hf x).2.2.1] using hb
   gA := fun b => by
     obtain ⟨f, hf, hk⟩ := hn b; unfold ev; rw [hk]
     cases hx : nth st b with
     | none => simp
     | some x => simp [(hf x).2.2.2.1]
   gB := fun b => by
     obtain ⟨f, hf, hk⟩ := hn b; unfold jg; rw [hk]
     cases hx : nth st b with
     | none => simp
     | some x => simp [(hf x).2.2.1]
   gE := fun b => by
     obtain ⟨f, hf, hk⟩ := hn b; unfold ou; rw [hk]
     cases hx : nth st b with
     | none => simp
     | some x =>
       simp only [Option.map_some]; rw [(hf x).2.2.2.2.2]
       split <;> omega }
theorem Rel.kill {w0 : World} {mu : Mu} {c : Cz} {st : St} {a : Act} {w : World} (h : Rel w0 mu c st a w) (s j : Nat) :
   Rel w0 mu c (cj st s j none) a w ∧ ∀ sl A, nth (cj st s j none) s = some sl → nth sl.aP j ≠ some (some A) := by
 have hn : ∀ k, ∃ f : Sl → Sl, (∀ x, (f x).v = x.v ∧ (f x).box = x.box ∧ (f x).bg = x.bg ∧ (f x).ag = x.ag ∧
     (∀ i, nth (f x).aP i = if k = s ∧ i = j then (nth x.aP i).map (fun _ => none) else nth x.aP i) ∧ (f x).ep = if k = s then x.ep + 1 else x.ep) ∧ nth (cj st s j none) k = (nth st k).map f := by
   intro k; unfold cj
   by_cases e : k = s
   · subst e; refine ⟨fun s => { s with aP := nA (fun _ => none) s.aP j, ep := s.ep + 1 }, fun x => ⟨rfl, rfl, rfl, rfl, fun i => ?_, by simp⟩, j5 _ _ _⟩; simp only [ec, true_and]
   · refine ⟨id, fun x => ⟨rfl, rfl, rfl, rfl, fun i => ?_, by simp [e]⟩, by rw [mQ _ _ e]; simp⟩; simp [e]
 generalize cj st s j none = bh at hn ⊢; have hY : Fw c st w c bh w := {
   stays := jI.refl w _
   refs := fun a' j' g A' _ ft => by
     obtain ⟨sl, k1, k2, k3⟩ := bN ft; obtain ⟨f, hf, hk⟩ := hn a'; rw [hk] at k1
     cases hx : nth st a' with
     | none => rw [hx] at k1; simp at k1
     | some x =>
       rw [hx] at k1; simp at k1; subst k1; rw [(hf x).2.2.2.2.1 j'] at k3; rw [(hf x).2.2.2.1] at k2; refine ⟨A', ?_, rfl, rfl, rfl, fun _ => ⟨rfl, fun _ _ _ _ => rfl⟩⟩
       by_cases e : a' = s ∧ j' = j
       · rw [if_pos e] at k3
         cases hq : nth x.aP j' <;> simp [hq] at k3
       · rw [if_neg e] at k3; unfold bl; rw [hx]; have : Nat.beq x.ag g = true := by rw [k2]; exact Nat.beq_refl g
         simp [this, k3]
   CI := fun b g ow _ hb => by
     refine ⟨⟨ow, ?_⟩, rfl⟩; obtain ⟨f, hf, hk⟩ := hn b; unfold eR at hb ⊢; rw [hk] at hb
     cases hx : nth st b with
     | none => rw [hx] at hb; simp at hb
     | some x => rw [hx] at hb; simpa [(hf x).2.1, (hf x).2.2.1] using hb
   gA := fun b => by
     obtain ⟨f, hf, hk⟩ := hn b; unfold ev; rw [hk]
     cases hx : nth st b with
     | none => simp
     | some x => simp [(hf x).2.2.2.1]
   gB := fun b => by
     obtain ⟨f, hf, hk⟩ := hn b; unfold jg; rw [hk]
     cases hx : nth st b with
     | none => simp
     | some x => simp [(hf x).2.2.1]
   gE := fun b => by
     obtain ⟨f, hf, hk⟩ := hn b; unfold ou; rw [hk]
     cases hx : nth st b with
     | none => simp
     | some x =>
       simp only [Option.map_some]; rw [(hf x).2.2.2.2.2]
       split <;> omega }
 refine ⟨{
   gJ := fun t => by
     obtain ⟨f, hf, hk⟩ := hn t; have : da bh t = da st t := by
       unfold da; rw [hk]
       cases hx : nth st t with
       | none => rfl
       | some x => exact (hf x).1
     rw [this]; exact hY.pG (h.gJ t)
   boxes := fun b sl cs hs hb => by
     obtain ⟨f, hf, hk⟩ := hn b; rw [hk] at hs
     cases hx : nth st b with
     | none => rw [hx] at hs; simp at hs
     | some x =>
       rw [hx] at hs; simp at hs; subst hs; rw [(hf x).2.1] at hb; exact (h.boxes b x cs hx hb).go hY rfl rfl rfl
   aP := fun b i sl A hs hA => by
     obtain ⟨f, hf, hk⟩ := hn b; rw [hk] at hs
     cases hx : nth st b with
     | none => rw [hx] at hs; simp at hs
     | some x =>
       rw [hx] at hs; simp at hs; subst hs; rw [(hf x).2.2.2.2.1 i] at hA
       by_cases e : b = s ∧ i = j
       · rw [if_pos e] at hA
         cases hq : nth x.aP i <;> simp [hq] at hA
       · rw [if_neg e] at hA; exact h.aP b i x A hx hA
   owned := h.owned
   free := h.free
   kept := h.kept
   old := h.old
   fw := fun p hp => hY.fw (h.fw p hp)
   plain := h.plain }, fun sl A hs => ?_⟩
 obtain ⟨f, hf, hk⟩ := hn s; rw [hk] at hs
 cases hx : nth st s with
 | none => rw [hx] at hs; simp at hs
 | some x =>
   rw [hx] at hs; simp at hs; subst hs; rw [(hf x).2.2.2.2.1 j, if_pos ⟨rfl, rfl⟩]
   cases nth x.aP j <;> simp
def Cz.bX (c : Cz) (d : Nat) (L : Loc) (B : Option Nat) : Cz :=
 { bx := c.bx, lc := fun s j => if s = d ∧ j = 0 then L else c.lc s j, own := fun k => if B = some k then some (.sp d 0) else c.own k }
theorem nf {st : St} {d : Option Nat} {A : iN} {bh : St} (h : (bX st d A).val = some bh) :
   ∃ k s0, d = some k ∧ nth st k = some s0 ∧ bh = nA (fun s => { s with v := .one (.ref k 0 (s0.ag + 1) .full), aP := [some A], ag := s0.ag + 1 }) st k := by
 unfold bX at h
 cases d with
 | none => simp [N.val] at h
 | some k =>
   cases hs : nth st k with
   | none => simp [hs, N.val] at h
   | some s0 =>
     simp only [hs, N.val, Option.some.injEq] at h; exact ⟨k, s0, rfl, hs, h.symm⟩
theorem Bu {st : St} {d : Option Nat} {cs : List CV} {bh : St} (h : (je st d cs).val = some bh) :
   ∃ k s0, d = some k ∧ nth st k = some s0 ∧ bh = nA (fun s => { s with v := .one (.ptr k (s0.bg + 1) 0), box := some cs, bg := s0.bg + 1 }) st k := by
 unfold je at h
 cases d with
 | none => simp [N.val] at h
 | some k =>
   cases hs : nth st k with
   | none => simp [hs, N.val] at h
   | some s0 =>
     simp only [hs, N.val, Option.some.injEq] at h; exact ⟨k, s0, rfl, hs, h.symm⟩
theorem Rel.fresh {w0 : World} {mu : Mu} {c : Cz} {st : St} {a : Act} {w : World} (h : Rel w0 mu c st a w) {d : Nat} {s0 : Sl} {r : RT} {xs : List (aq r)} {cur : Array Value} {ty cap : Nat}
   (jb : nth st d = some s0) (hd : d < a.tmps.size) (hle : xs.length ≤ cap) (mm : cap * r.width ≤ cur.size) {vs : List Value} (zn : bB w c.ok r vs xs) (R5 : cur.toList.take vs.length = vs) :
   ∃ c', Rel w0 mu c' (nA (fun s => { s with v := .one (.ref d 0 (s0.ag + 1) .full), aP := [some { r := r, own := true, xs := xs }], ag := s0.ag + 1 }) st d)
     (a.put (some d) (.slice (some ⟨w.heap.size, 0, none⟩) xs.length cap)) (w.alloc (.cells cur ty (0, 0))) := by
 have wc := heap_alloc_new w (.cells cur ty (0, 0)); refine ⟨c.bX d (.at w.heap.size 0 cap) (some w.heap.size), h.place (B := w.heap.size) (A := { r := r, own := true, xs := xs }) jb hd rfl ?_ ?_ (.inl ?_) (.inl (Nat.le_refl _)) (fun _ => by simp) (fun k hk _ => heap_alloc_old w _ k hk)
   ⟨rfl, rfl, rfl, by simp⟩ ?_ rfl ?_⟩
 · intro s j gW; simp [Cz.bX, gW]
 · intro k hk; simp only [Cz.bX]; rw [if_neg (by intro e; exact hk (Option.some.inj e).symm)]
 · simp [Cz.bX]
 · have s3 : jI w (w.alloc (.cells cur ty (0, 0))) c.ok (c.bX d (.at w.heap.size 0 cap) (some w.heap.size)).ok := wa w _ _ _ (fun b hb gI => by
     unfold Cz.ok Cz.bX; simp only; rw [if_neg (by intro e; have := Option.some.inj e; omega)]; exact gI)
   unfold cz; simp only [Cz.bX, and_self, if_true]; refine ⟨trivial, hle, ⟨cur, ty, wc, by simpa using mm⟩, ?_⟩; refine (cf.sh rfl).2 ?_; refine sG 0 vs xs (bB.stays s3 vs xs zn) (fun j v hv => ?_); rw [cell_of_row _ _ _ cur ty (0, 0) wc, Nat.zero_add]; have hj : j < vs.length := (List.getElem?_eq_some_iff.1 hv).1; rw [← R5, List.getElem?_take, if_pos hj] at hv; simpa using hv
 · simp only [Cz.bX, and_self, if_true]; exact ⟨_, cap, rfl, hle, by omega, fun _ => by simp⟩
theorem EC {P : Program} {t ty e : TypeId} {i : TypeInfo} (ht : P.underlying t = some (.slice e)) (hi : P.info? e = some i) (w : World)
   (g o zo F9 : Nat) (cur : Array Value) (te : TypeId) (hg : w.heap[g]? = some (.cells cur te (0, 0)))
   (a : Addr) (m c : Nat) (news : List Value) (hl : news.length = m * i.size) (WZ : ∀ j u, news[j]? = some u → w.cell? (a.add j) = some u) (h1 : ∀ u ∈ news, u.oneCell' = true)
   (tj : zo + m ≤ F9) (oL : o + zo * i.size + news.length ≤ cur.size) :
   (Builtin.append_ #[t, t] ty #[.slice (some ⟨g, o, none⟩) zo F9, .slice (some a) m c]).run P w =
     .ok (.slice (some ⟨g, o, none⟩) (zo + m) F9) (w.setRow g (cN cur.toList (o + zo * i.size) news).toArray) := by
 have hf := run_firstCells_some (P := P) w i.size m a m c news hl WZ; have s3 := run_storeCells_at P g (o + zo * i.size) te news 0 cur w hg (by simpa using oL) h1; simp only [Nat.add_zero] at s3; simp [Builtin.append_, run_underlying ht, sizeOf, typeInfo, hi, Builtin.lenOf, tj, hf, Addr.add_mid, s3, cN]
theorem run_append_nothing {P : Program} {t ty e : TypeId} {i : TypeInfo} (ht : P.underlying t = some (.slice e)) (hi : P.info? e = some i) (w : World) (base : Option Addr) (zo F9 : Nat) (hle : zo ≤ F9)
   (x : Value) (hx : (x = .slice none 0 0) ∨ ∃ a c, x = .slice (some a) 0 c) :
   (Builtin.append_ #[t, t] ty #[.slice base zo F9, x]).run P w = .ok (.slice base zo F9) w := by
 rcases hx with rfl | ⟨a, c, rfl⟩
 · cases base <;> simp [Builtin.append_, run_underlying ht, sizeOf, typeInfo, hi, Builtin.lenOf, Builtin.firstCells, hle, storeCells]
 · cases base <;> simp [Builtin.append_, run_underlying ht, sizeOf, typeInfo, hi, Builtin.lenOf, Builtin.firstCells, hle, storeCells, loadCells, loadCellsFrom]
end Go.TM
namespace Go.TM
open Go Go.RowKit
def eM (w : World) (P : List Nat → Nat → Prop) : (r : RT) → (p : List Nat) → (k : Nat) → List Value → aq r → Prop
 | .nil, _, _, vs, _ => vs = []
 | .cons t r, p, k, vs, x => ∃ v l, vs = v :: l ∧ dZ w P t (p ++ [k]) v x.1 ∧ eM w P r p (k + 1) l x.2
theorem eM.length {w : World} {P : List Nat → Nat → Prop} : (r : RT) → (p : List Nat) → (k : Nat) → (vs : List Value) → (x : aq r) → eM w P r p k vs x → vs.length = r.width
 | .nil, _, _, vs, _, h => by simp only [eM] at h; subst h; rfl
 | .cons t r, p, k, vs, x, h => by
   obtain ⟨v, l, rfl, _, h⟩ := h; simp [RT.width, eM.length r p (k + 1) l x.2 h]
theorem mq {w : World} {P : List Nat → Nat → Prop} : (r : RT) → (p : List Nat) → (k b off : Nat) → (x : aq r) → (iz w P r p k b off x ↔ ∃ vs, w.rangeAt b off vs ∧ eM w P r p k vs x)
 | .nil, _, _, _, _, _ => by
   unfold iz; exact ⟨fun _ => ⟨[], fun j v h => by simp at h, rfl⟩, fun _ => trivial⟩
 | .cons t r, p, k, b, off, x => by
   unfold iz
   constructor
   · rintro ⟨⟨v, hv, hx⟩, hr⟩
     obtain ⟨vs, h1, h2⟩ := (mq r p (k + 1) b (off + 1) x.2).1 hr; refine ⟨v :: vs, fun j u hu => ?_, v, vs, rfl, hx, h2⟩
     cases j with
     | zero => simp at hu; rw [← hu]; exact hv
     | succ j =>
       simp at hu; rw [show off + (j + 1) = off + 1 + j by omega]; exact h1 j u hu
   · rintro ⟨vs, h1, v, l, rfl, hx, h2⟩
     refine ⟨⟨v, h1 0 v rfl, hx⟩, (mq r p (k + 1) b (off + 1) x.2).2 ⟨l, fun j u hu => ?_, h2⟩⟩; have := h1 (j + 1) u (by simpa using hu); rw [show off + 1 + j = off + (j + 1) by omega]; exact this
theorem eM.go {w w' : World} {P P' : List Nat → Nat → Prop} : (r : RT) → (p p' : List Nat) → (hP : ∀ q b, P (p ++ q) b → w'.heap[b]? = w.heap[b]? ∧ P' (p' ++ q) b) → (k : Nat) → (vs : List Value) → (x : aq r) → eM w P r p k vs x → eM w' P' r p' k vs x
 | .nil, _, _, _, _, _, _, h => h
 | .cons t r, p, p', hP, k, vs, x, h => by
   obtain ⟨v, l, e, h1, h2⟩ := h; refine ⟨v, l, e, dZ.go t (p ++ [k]) (p' ++ [k]) (fun q b hb => ?_) v x.1 h1, eM.go r p p' hP (k + 1) l x.2 h2⟩; have := hP ([k] ++ q) b (by rw [← List.append_assoc]; exact hb); rw [← List.append_assoc] at this; exact this
theorem CQ {w : World} {P : List Nat → Nat → Prop} {c : Cz} {st : St} {w1 : World} : (r : RT) → (p : List Nat) → (k0 : Nat) → (x : aq r) → (k : Nat) → (y : CV) → (z : aq r) → (vs : List Value) → (u : Value) →
   gr r x k y = some z → kX c st w1 y u → eM w P r p k0 vs x → eM w P r p k0 (vs.set k u) z
 | .nil, _, _, _, _, _, _, _, _, h, _, _ => by simp [gr] at h
 | .cons t r, p, k0, x, 0, y, z, vs, u, h, hu, hv => by
   obtain ⟨v, l, rfl, hx, hr⟩ := hv
   cases t with
   | int k => cases y <;> simp [gr] at h
              obtain ⟨rfl, h⟩ := h; obtain rfl := Option.some.inj h; exact ⟨u, l, rfl, xW.2 hu, hr⟩
   | bool => cases y <;> simp [gr] at h
             obtain rfl := Option.some.inj h; exact ⟨u, l, rfl, uf.2 hu, hr⟩
   | str => cases y <;> simp [gr] at h
            obtain rfl := Option.some.inj h; exact ⟨u, l, rfl, xX.2 hu, hr⟩
   | sl q => cases y <;> simp [gr] at h
 | .cons t r, p, k0, x, k + 1, y, z, vs, u, h, hu, hv => by
   obtain ⟨v, l, rfl, hx, hr⟩ := hv; have h' : (gr r x.2 k y).map (fun z => ((x.1, z) : aq (.cons t r))) = some z := by cases t <;> (simp only [gr] at h; exact h)
   cases hq : gr r x.2 k y with
   | none => simp [hq] at h'
   | some z' =>
     rw [hq] at h'; obtain rfl := Option.some.inj h'; exact ⟨v, l.set k u, rfl, hx, CQ r p (k0 + 1) x.2 k y z' l u hq hu hr⟩
theorem CR {w : World} {P : List Nat → Nat → Prop} {c : Cz} {st : St} {w1 : World} (r : RT) (p : List Nat) (k0 : Nat) (x : aq r) : (off : Nat) → (cs : List CV) → (z : aq r) → (vs us : List Value) → off + us.length ≤ vs.length →
   kZ r x off cs = some z → fX c st w1 cs us → eM w P r p k0 vs x → eM w P r p k0 (cN vs off us) z
 | off, [], z, vs, us, _, h, hl, hv => by
   have : us = [] := by have := hl.1; simp at this; exact List.length_eq_zero_iff.1 this.symm
   subst this; simp [kZ] at h; subst h; simp [cN]; exact hv
 | off, y :: l, z, vs, us, hle, h, hl, hv => by
   cases us with
   | nil => have := hl.1; simp at this
   | cons u us =>
     simp only [kZ] at h
     cases hq : kZ r x (off + 1) l with
     | none => simp [hq] at h
     | some y' =>
       simp only [hq] at h; simp at hle; have ih := CR r p k0 x (off + 1) l y' vs us (by omega) hq ⟨by have := hl.1; simpa using this, fun i a b ha hb => hl.2 (i + 1) a b (by simpa using ha) (by simpa using hb)⟩ hv; rw [Bq (by omega)]; exact CQ r p k0 y' off y z _ u h (hl.2 0 y u rfl rfl) ih
mutual
theorem cw.dep {w : World} {P : List Nat → Nat → Prop} {ok : Nat → Prop} : (t : Ty) → (p : List Nat) → (v : Value) → (x : den t) → RT.eQ (.cons t .nil) = false → cw w ok t v x → dZ w P t p v x
 | .int _, _, _, _, _, h => xW.2 (rD.1 h)
 | .bool, _, _, _, _, h => uf.2 (sD.1 h)
 | .str, _, _, _, _, h => xX.2 (vZ.1 h)
 | .sl _, _, _, _, hs, _ => by simp [RT.eQ] at hs
theorem dw.dep {w : World} {P : List Nat → Nat → Prop} {ok : Nat → Prop} : (r : RT) → (p : List Nat) → (k b off : Nat) → (x : aq r) → r.eQ = false → dw w ok r b off x → iz w P r p k b off x
 | .nil, _, _, _, _, _, _, _ => by unfold iz; trivial
 | .cons t r, p, k, b, off, x, hs, h => by
   unfold dw at h; unfold iz; obtain ⟨⟨v, h1, h2⟩, h3⟩ := h; refine ⟨⟨v, h1, cw.dep t _ v x.1 ?_ h2⟩, dw.dep r p (k + 1) b (off + 1) x.2 ?_ h3⟩
   · cases t <;> simp_all [RT.eQ]
   · cases t <;> simp_all [RT.eQ]
end
theorem iz.G7 {w : World} {P : List Nat → Nat → Prop} {ok : Nat → Prop} : (r : RT) → (p : List Nat) → (k b off : Nat) → (x : aq r) → r.eQ = false → iz w P r p k b off x → dw w ok r b off x
 | .nil, _, _, _, _, _, _, _ => by unfold dw; trivial
 | .cons t r, p, k, b, off, x, hs, h => by
   unfold iz at h; unfold dw; obtain ⟨⟨v, h1, h2⟩, h3⟩ := h; refine ⟨⟨v, h1, ?_⟩, iz.G7 r p (k + 1) b (off + 1) x.2 (by cases t <;> simp_all [RT.eQ]) h3⟩
   cases t with
   | int _ => exact rD.2 (xW.1 h2)
   | bool => exact sD.2 (uf.1 h2)
   | str => exact vZ.2 (xX.1 h2)
   | sl _ => simp [RT.eQ] at hs
theorem cf.Nr {c : Cz} {w : World} {l : Lb} {A : iN} {b off : Nat} (hm : A.md = .sh) {ys : List (aq A.r)} (h : ∀ (i : Nat) x, ys[i]? = some x → dw w c.ok A.r b (off + i * A.r.width) x) : cf c w l { A with xs := ys } b off := by
 unfold cf; show match A.md with | .sh => _ | .dp => _ | .ho => True
 rw [hm]; exact h
def RT.md (q : RT) : Md := bif q.eQ then .dp else .sh
theorem PC {c : Cz} {w : World} {s j : Nat} {A : iN} (h : cz c w s j A) (ho : A.own = true) (hm : A.md = A.r.md) {v : Value} (h1 : v.oneCell' = true) (hv : jJ (c.lc s j) A.r.width 0 A.xs.length v) :
   ∃ g : Nat → List Nat, ∀ (P : List Nat → Nat → Prop) (p : List Nat), (∀ k, c.own k = some (.sp s j) → P (p ++ g k) k) → dZ w P (.sl A.r) p v A.xs := by
 unfold cz at h
 cases hl : c.lc s j with
 | nil =>
   rw [hl] at h hv; exact ⟨fun _ => [], fun P p _ => (v7 _ _ _ _ _ _).2 ⟨.nil, hv, h1, .inl ⟨rfl, h⟩⟩⟩
 | «at» b off cap =>
   rw [hl] at h hv; obtain ⟨h0, h2, h3, h4⟩ := h; rw [ho] at h0; unfold cf at h4; rw [hm] at h4; unfold RT.md at h4
   cases hs : A.r.eQ with
   | false =>
     rw [hs] at h4; refine ⟨fun _ => [], fun P p hP => (v7 _ _ _ _ _ _).2 ⟨_, hv, h1, .inr ⟨b, off, cap, rfl, ?_, h2, h3, fun i x hx => dw.dep _ _ _ _ _ x hs (h4 i x hx)⟩⟩⟩; simpa using hP b h0
   | true =>
     rw [hs] at h4; obtain ⟨g, g1, g2⟩ := h4; refine ⟨g, fun P p hP => (v7 _ _ _ _ _ _).2 ⟨_, hv, h1, .inr ⟨b, off, cap, rfl, ?_, h2, h3, fun i x hx => iz.go _ [i] (p ++ [i]) (fun q k hk => ⟨rfl, ?_⟩) _ _ _ x rfl (g2 i x hx)⟩⟩⟩
     · have := hP b h0
       rwa [g1, List.append_nil] at this
     · have := hP k hk.1; rw [hk.2] at this
       rwa [List.append_assoc]
theorem Ns {c : Cz} {w : World} {s j : Nat} {A : iN} (h : cz c w s j A) (ho : A.own = true) (hm : A.md = A.r.md) :
   ∃ g : Nat → List Nat, ∀ v : Value, v.oneCell' = true → jJ (c.lc s j) A.r.width 0 A.xs.length v → ∀ (P : List Nat → Nat → Prop) (p : List Nat), (∀ k, c.own k = some (.sp s j) → P (p ++ g k) k) → dZ w P (.sl A.r) p v A.xs := by
 by_cases e : ∃ v : Value, v.oneCell' = true ∧ jJ (c.lc s j) A.r.width 0 A.xs.length v
 · unfold cz at h
   cases hl : c.lc s j with
   | nil =>
     rw [hl] at h; exact ⟨fun _ => [], fun v h1 hv P p _ => (v7 _ _ _ _ _ _).2 ⟨.nil, hv, h1, .inl ⟨rfl, h⟩⟩⟩
   | «at» b off cap =>
     rw [hl] at h; obtain ⟨h0, h2, h3, h4⟩ := h; rw [ho] at h0; unfold cf at h4; rw [hm] at h4; unfold RT.md at h4
     cases hs : A.r.eQ with
     | false =>
       rw [hs] at h4; refine ⟨fun _ => [], fun v h1 hv P p hP => (v7 _ _ _ _ _ _).2 ⟨_, hv, h1, .inr ⟨b, off, cap, rfl, ?_, h2, h3, fun i x hx => dw.dep _ _ _ _ _ x hs (h4 i x hx)⟩⟩⟩; simpa using hP b h0
     | true =>
       rw [hs] at h4; obtain ⟨g, g1, g2⟩ := h4; refine ⟨g, fun v h1 hv P p hP => (v7 _ _ _ _ _ _).2 ⟨_, hv, h1, .inr ⟨b, off, cap, rfl, ?_, h2, h3, fun i x hx => iz.go _ [i] (p ++ [i]) (fun q k hk => ⟨rfl, ?_⟩) _ _ _ x rfl (g2 i x hx)⟩⟩⟩
       · have := hP b h0
         rwa [g1, List.append_nil] at this
       · have := hP k hk.1; rw [hk.2] at this
         rwa [List.append_assoc]
 · exact ⟨fun _ => [], fun v h1 h2 => absurd ⟨v, h1, h2⟩ e⟩
theorem CS {w0 : World} {mu : Mu} {c : Cz} {st : St} {a : Act} {w : World} (h : Rel w0 mu c st a w) : (r : RT) → (cs : List CV) → (us : List Value) → fX c st w cs us → {x : aq r} → {m : List (Option (Nat × Nat))} → iO st r cs = some (x, m) →
   m.length = r.width ∧ (∀ (col : Nat) (n : Nat × Nat), m[col]? = some (some n) → ∃ g A, bl st n.1 n.2 g = some A ∧ A.own = true) ∧
   ∃ G : Nat → Nat → List Nat, ∀ (P : List Nat → Nat → Prop) (p : List Nat) (k0 : Nat), (∀ (col : Nat) (n : Nat × Nat) (k : Nat), m[col]? = some (some n) → c.own k = some (.sp n.1 n.2) → P (p ++ [k0 + col] ++ G col k) k) → eM w P r p k0 us x
 | .nil, cs, us, hl, x, m, hv => by
   cases cs with
   | cons _ _ => simp [iO] at hv
   | nil =>
     have : us = [] := by have := hl.1; simp at this; exact List.length_eq_zero_iff.1 this.symm
     subst this; simp only [iO, Option.some.injEq, Prod.mk.injEq] at hv; obtain ⟨_, rfl⟩ := hv; exact ⟨rfl, fun col n h => by simp at h, fun _ _ => [], fun _ _ _ _ => rfl⟩
 | .cons t r, cs, us, hl, x, m, hv => by
   cases cs with
   | nil => cases t <;> simp [iO] at hv
   | cons y cs =>
     cases us with
     | nil => have := hl.1; simp at this
     | cons u us =>
       have hu : kX c st w y u := hl.2 0 y u rfl rfl; have xG : fX c st w cs us := ⟨by have := hl.1; simpa using this, fun i a b ha hb => hl.2 (i + 1) a b (by simpa using ha) (by simpa using hb)⟩; have cell : ∀ (d : den t) (o : Option (Nat × Nat)) (z : aq r) (m' : List (Option (Nat × Nat))), iO st r cs = some (z, m') → (∀ n, o = some n → ∃ g A, bl st n.1 n.2 g = some A ∧ A.own = true) →
           (∃ g : Nat → List Nat, ∀ (P : List Nat → Nat → Prop) (p : List Nat), (∀ n k, o = some n → c.own k = some (.sp n.1 n.2) → P (p ++ g k) k) → dZ w P t p u d) → x = (d, z) → m = o :: m' →
           m.length = (RT.cons t r).width ∧ (∀ (col : Nat) (n : Nat × Nat), m[col]? = some (some n) → ∃ g A, bl st n.1 n.2 g = some A ∧ A.own = true) ∧
           ∃ G : Nat → Nat → List Nat, ∀ (P : List Nat → Nat → Prop) (p : List Nat) (k0 : Nat), (∀ (col : Nat) (n : Nat × Nat) (k : Nat), m[col]? = some (some n) → c.own k = some (.sp n.1 n.2) → P (p ++ [k0 + col] ++ G col k) k) → eM w P (.cons t r) p k0 (u :: us) x := by
         intro d o z m' hz ho hd e1 e2; subst e1 e2; obtain ⟨g1, g2, G, g3⟩ := CS h r cs us xG hz; obtain ⟨g, hd⟩ := hd; refine ⟨by simp [RT.width, g1], fun col n hc => ?_, fun col => match col with | 0 => g | col + 1 => G col, fun P p k0 hP => ⟨u, us, rfl, hd P _ fun n k hn hk => ?_, g3 P p (k0 + 1) fun col n k hc hk => ?_⟩⟩
         · cases col with
           | zero => exact ho n (by simpa using hc)
           | succ col => exact g2 col n (by simpa using hc)
         · have := hP 0 n k (by simp [hn]) hk; simpa using this
         · have := hP (col + 1) n k (by simpa using hc) hk
           rwa [show k0 + (col + 1) = k0 + 1 + col by omega] at this
       have plain : ∀ (d : den t), (∀ (P : List Nat → Nat → Prop) (p : List Nat), dZ w P t p u d) → (match iO st r cs with | some p => some ((d, p.1), none :: p.2) | none => (none : Option (aq (.cons t r) × List (Option (Nat × Nat))))) = some (x, m) →
           m.length = (RT.cons t r).width ∧ (∀ (col : Nat) (n : Nat × Nat), m[col]? = some (some n) → ∃ g A, bl st n.1 n.2 g = some A ∧ A.own = true) ∧
           ∃ G : Nat → Nat → List Nat, ∀ (P : List Nat → Nat → Prop) (p : List Nat) (k0 : Nat), (∀ (col : Nat) (n : Nat × Nat) (k : Nat), m[col]? = some (some n) → c.own k = some (.sp n.1 n.2) → P (p ++ [k0 + col] ++ G col k) k) → eM w P (.cons t r) p k0 (u :: us) x := by
         intro d hd hv
         cases hz : iO st r cs with
         | none => rw [hz] at hv; cases hv
         | some q =>
           rw [hz] at hv; have hv := Option.some.inj hv; exact cell d none q.1 q.2 hz (fun n e => by cases e) ⟨fun _ => [], fun P p _ => hd P p⟩ (congrArg Prod.fst hv).symm (congrArg Prod.snd hv).symm
       cases t with
       | int q =>
         cases y with
         | int l n =>
           simp only [iO] at hv
           by_cases e : q = l
           · rw [if_pos e] at hv; exact plain n (fun P p => xW.2 (by rw [e]; exact hu)) hv
           · rw [if_neg e] at hv; cases hv
         | _ => simp [iO] at hv
       | bool =>
         cases y with
         | bool b => exact plain b (fun P p => uf.2 hu) (by simp only [iO] at hv; exact hv)
         | _ => simp [iO] at hv
       | str =>
         cases y with
         | str s => exact plain s (fun P p => xX.2 hu) (by simp only [iO] at hv; exact hv)
         | _ => simp [iO] at hv
       | sl q =>
         cases y with
         | eI => exact plain ([] : List (aq q)) (fun P p => (v7 _ _ _ _ _ _).2 ⟨.nil, ⟨hu, rfl⟩, by rw [show u = .slice none 0 0 from hu]; rfl, .inl ⟨rfl, rfl⟩⟩) (by simp only [iO] at hv; exact hv)
         | ref a' j g vw =>
           cases vw with
           | full =>
             simp only [iO] at hv
             cases hA : bl st a' j g with
             | none => simp [hA] at hv
             | some A =>
               simp only [hA] at hv; obtain ⟨hc, oz⟩ := aH hv; clear hv; rw [Bool.and_eq_true] at hc; have hm := Md.oG.1 hc.2
               cases sy : ck q A.xs with
               | none => rw [sy] at oz; cases oz
               | some ys =>
                 rw [sy] at oz; simp only at oz
                 cases hz : iO st r cs with
                 | none => rw [hz] at oz; cases oz
                 | some qq =>
                   rw [hz] at oz; have oz := Option.some.inj oz; obtain ⟨e, he⟩ := bA sy; subst e; simp only at he; subst he; refine cell A.xs (some (a', j)) qq.1 qq.2 hz (fun n e => by cases e; exact ⟨g, A, hA, hc.1⟩) ?_ (congrArg Prod.fst oz).symm (congrArg Prod.snd oz).symm; obtain ⟨gg, h2⟩ := PC (h.vJ hA) hc.1 hm hu.1 (hu.2.2 A hA); exact ⟨gg, fun P p hP => h2 P p fun k hk => hP (a', j) k rfl hk⟩
           | «from» _ => simp [iO] at hv
           | sub _ _ => simp [iO] at hv
         | _ => simp [iO] at hv
theorem nG {w0 : World} {mu : Mu} {c : Cz} {a : Act} {w : World} : (m : List (Nat × Nat)) → {st : St} → Rel w0 mu c st a w → Rel w0 mu c (kG st m) a w ∧ (∀ n ∈ m, ∀ sl A, nth (kG st m) n.1 = some sl → nth sl.aP n.2 ≠ some (some A)) ∧
   (∀ s j sl A, (s, j) ∉ m → nth st s = some sl → nth sl.aP j = some (some A) → ∃ R0, nth (kG st m) s = some R0 ∧ nth R0.aP j = some (some A)) ∧ Fw c st w c (kG st m) w ∧ ∀ s j A, (∀ sl, nth st s = some sl → nth sl.aP j ≠ some (some A)) → ∀ sl, nth (kG st m) s = some sl → nth sl.aP j ≠ some (some A)
 | [], st, h => ⟨h, by simp, fun s j sl A _ h1 h2 => ⟨sl, h1, h2⟩, Fw.refl c st w, fun s j A h => h⟩
 | (s0, j0) :: m, st, h => by
   obtain ⟨k1, k2⟩ := h.kill s0 j0; obtain ⟨h1, h2, h3, h4, h5⟩ := nG m k1; have hn : ∀ k, ∃ f : Sl → Sl, (∀ x, ∀ i, nth (f x).aP i = if k = s0 ∧ i = j0 then (nth x.aP i).map (fun _ => none) else nth x.aP i) ∧ nth (cj st s0 j0 none) k = (nth st k).map f := by
     intro k; unfold cj
     by_cases e : k = s0
     · subst e; refine ⟨fun s => { s with aP := nA (fun _ => none) s.aP j0, ep := s.ep + 1 }, fun x i => ?_, j5 _ _ _⟩; simp only [ec, true_and]
     · refine ⟨id, fun x i => ?_, by rw [mQ _ _ e]; simp⟩; simp [e]
   have keep : ∀ s j A, (∀ sl, nth st s = some sl → nth sl.aP j ≠ some (some A)) → ∀ sl, nth (cj st s0 j0 none) s = some sl → nth sl.aP j ≠ some (some A) := by
     intro s j A hq sl hs; obtain ⟨f, hf, hk⟩ := hn s; rw [hk] at hs
     cases hx : nth st s with
     | none => rw [hx] at hs; cases hs
     | some x =>
       rw [hx] at hs; simp at hs; subst hs; rw [hf]
       split
       · cases nth x.aP j <;> simp
       · exact hq x hx
   refine ⟨h1, fun n hm sl A hs => ?_, fun s j sl A hm hs hA => ?_, ?_, fun s j A hq => h5 s j A (keep s j A hq)⟩
   · rcases List.mem_cons.1 hm with rfl | hm
     · exact h5 s0 j0 A (fun sl hs => k2 sl A hs) sl hs
     · exact h2 n hm sl A hs
   · obtain ⟨f, hf, hk⟩ := hn s; refine h3 s j (f sl) A (fun E6 => hm (List.mem_cons_of_mem _ E6)) (by rw [hk, hs]; rfl) ?_; rw [hf, if_neg]
     · exact hA
     · rintro ⟨rfl, rfl⟩; exact hm List.mem_cons_self
   · refine Fw.trans ?_ h4; exact (h.R4 s0 j0)
open Classical in
noncomputable def Cz.kQ (c : Cz) (m : List (Nat × Nat)) (l : Lb) : Cz :=
 { bx := c.bx, lc := c.lc, own := fun k => if ∃ n ∈ m, c.own k = some (.sp n.1 n.2) then some l else c.own k }
theorem Cz.pI {c : Cz} {m : List (Nat × Nat)} {l : Lb} {k : Nat} {n : Nat × Nat} (hm : n ∈ m) (h : c.own k = some (.sp n.1 n.2)) : (c.kQ m l).own k = some l := by
 unfold Cz.kQ; simp only; rw [if_pos ⟨n, hm, h⟩]
theorem Cz.ri {c : Cz} {m : List (Nat × Nat)} {l : Lb} {k : Nat} (h : ∀ n ∈ m, c.own k ≠ some (.sp n.1 n.2)) : (c.kQ m l).own k = c.own k := by
 unfold Cz.kQ; simp only; rw [if_neg]; rintro ⟨n, hm, e⟩; exact h n hm e
theorem Cz.G8 {c : Cz} {m : List (Nat × Nat)} {l : Lb} {k : Nat} : (c.kQ m l).ok k ↔ c.ok k := by
 unfold Cz.ok
 by_cases h : ∃ n ∈ m, c.own k = some (.sp n.1 n.2)
 · obtain ⟨n, hm, e⟩ := h; rw [Cz.pI hm e, e]; simp
 · rw [Cz.ri (fun n hm e => h ⟨n, hm, e⟩)]
theorem Fw.kQ (c : Cz) (st : St) (w : World) (m : List (Nat × Nat)) (l : Lb) : Fw c st w (c.kQ m l) st w :=
 ⟨⟨Nat.le_refl _, fun _ _ _ => rfl, fun _ _ h => Cz.G8.2 h⟩, fun _ _ _ A' _ h => ⟨A', h, rfl, rfl, rfl, fun _ => ⟨rfl, fun _ _ _ _ => rfl⟩⟩, fun _ _ ow _ h => ⟨⟨ow, h⟩, rfl⟩, fun _ => Nat.le_refl _, fun _ => Nat.le_refl _, fun _ => Nat.le_refl _⟩
theorem Rel.kQ {w0 : World} {mu : Mu} {c : Cz} {st : St} {a : Act} {w : World} (h : Rel w0 mu c st a w) {m : List (Nat × Nat)} (hd : ∀ n ∈ m, ∀ sl A, nth st n.1 = some sl → nth sl.aP n.2 ≠ some (some A)) (s j : Nat) : Rel w0 mu (c.kQ m (.sp s j)) st a w where
 gJ t := (Fw.kQ c st w m _).pG (h.gJ t)
 boxes b sl cs hs hb := by
   have h0 := h.boxes b sl cs hs hb; exact h0.go (Fw.kQ c st w m _) rfl (Cz.ri fun n _ => by rw [h0.1]; simp) rfl
 aP b i sl A hs hA := by
   have h0 := h.aP b i sl A hs hA; refine h0.go (Fw.kQ c st w m _).stays rfl (fun k hk => ⟨rfl, Cz.ri fun n hn e => ?_⟩); rw [hk] at e; injection e with e; injection e with e1 e2; subst e1 e2; exact hd n hn sl A hs hA
 owned b l hb := by
   by_cases e : ∃ n ∈ m, c.own b = some (.sp n.1 n.2)
   · obtain ⟨n, hm, e⟩ := e; rw [Cz.pI hm e] at hb
     cases hb
     obtain ⟨h1, h2⟩ := h.owned b _ e; exact ⟨h1, .inr (h2.resolve_left (by simp))⟩
   · rw [Cz.ri (fun n hm e' => e ⟨n, hm, e'⟩)] at hb; exact h.owned b l hb
 free b hb h1 := h.free b hb (Cz.G8.1 h1)
 kept := h.kept
 old := h.old
 plain := h.plain
 fw p hp := (Fw.kQ c st w m _).fw (h.fw p hp)
theorem rG : {m : List (Nat × Nat)} → distinct m = true → m.Nodup
 | [], _ => List.nodup_nil
 | x :: l, h => by
   simp only [distinct, Bool.and_eq_true, List.all_eq_true] at h; refine List.nodup_cons.2 ⟨fun hm => ?_, rG h.2⟩; have := h.1 x hm; simp at this
theorem xZ {n : Nat × Nat} : {m : List (Option (Nat × Nat))} → n ∈ jd m → ∃ col : Nat, m[col]? = some (some n)
 | [], h => by simp [jd] at h
 | none :: m, h => by
   obtain ⟨col, hc⟩ := xZ (m := m) h; exact ⟨col + 1, by simpa using hc⟩
 | some p :: m, h => by
   rcases List.mem_cons.1 h with rfl | h
   · exact ⟨0, rfl⟩
   · obtain ⟨col, hc⟩ := xZ (m := m) h; exact ⟨col + 1, by simpa using hc⟩
theorem mS {n : Nat × Nat} : {m : List (Option (Nat × Nat))} → {col : Nat} → m[col]? = some (some n) → n ∈ jd m
 | [], _, h => by simp at h
 | none :: m, 0, h => by simp at h
 | none :: m, col + 1, h => mS (m := m) (col := col) (by simpa using h)
 | some p :: m, 0, h => by simp at h; subst h; exact List.mem_cons_self
 | some p :: m, col + 1, h => List.mem_cons_of_mem _ (mS (m := m) (col := col) (by simpa using h))
theorem um {n : Nat × Nat} : {m : List (Option (Nat × Nat))} → (jd m).Nodup → {a b : Nat} → m[a]? = some (some n) → m[b]? = some (some n) → a = b
 | [], _, a, _, h, _ => by simp at h
 | none :: m, hn, a, b, h, h' => by
   cases a with
   | zero => simp at h
   | succ a => cases b with
     | zero => simp at h'
     | succ b => exact congrArg (· + 1) (um (m := m) (a := a) (b := b) hn (by simpa using h) (by simpa using h'))
 | some p :: m, hn, a, b, h, h' => by
   have Lr := List.nodup_cons.1 hn
   cases a with
   | zero =>
     simp at h; subst h
     cases b with
     | zero => rfl
     | succ b => exact absurd (mS (m := m) (col := b) (by simpa using h')) Lr.1
   | succ a =>
     cases b with
     | zero => simp at h'; subst h'; exact absurd (mS (m := m) (col := a) (by simpa using h)) Lr.1
     | succ b => exact congrArg (· + 1) (um (m := m) (a := a) (b := b) Lr.2 (by simpa using h) (by simpa using h'))
theorem E7 {c : Cz} {m : List (Option (Nat × Nat))} (hn : (jd m).Nodup) (G : Nat → Nat → List Nat) (g : Nat → List Nat) (p : List Nat) (l : Lb) (hl : ∀ n ∈ jd m, l ≠ .sp n.1 n.2) :
   ∃ g' : Nat → List Nat, (∀ k, c.own k = some l → g' k = g k) ∧ ∀ (col : Nat) (n : Nat × Nat) (k : Nat), m[col]? = some (some n) → c.own k = some (.sp n.1 n.2) → g' k = p ++ [col] ++ G col k := by
 have key : ∀ k, ∃ q : List Nat, (c.own k = some l → q = g k) ∧ ∀ (col : Nat) (n : Nat × Nat), m[col]? = some (some n) → c.own k = some (.sp n.1 n.2) → q = p ++ [col] ++ G col k := by
   intro k
   by_cases e : ∃ (col : Nat) (n : Nat × Nat), m[col]? = some (some n) ∧ c.own k = some (.sp n.1 n.2)
   · obtain ⟨col, n, e1, e2⟩ := e; refine ⟨p ++ [col] ++ G col k, fun h => ?_, fun ab5 n' h1 h2 => ?_⟩
     · rw [e2] at h; cases h; exact absurd rfl (hl n (mS e1))
     · rw [e2] at h2; injection h2 with h2; injection h2 with q1 q2; have : n = n' := Prod.ext q1 q2; subst this; rw [um hn h1 e1]
   · exact ⟨g k, fun _ => rfl, fun col n h1 h2 => absurd ⟨col, n, h1, h2⟩ e⟩
 obtain ⟨g', h⟩ := Classical.axiomOfChoice key; exact ⟨g', fun k => (h k).1, fun col n k => (h k).2 col n⟩
theorem Ls {P : Program} {T : lZ} (hT : gX P T) {w0 : World} {mu : Mu} {c : Cz} {st : St} {a : Act} {w : World} (h : Rel w0 mu c st a w)
   {t : Nat} {x v : V} {ux uv : Value} (hx : fY c st w x ux) (hv : fY c st w v uv) {bh : St} (hs : (sY T st t x v).val = some bh) :
   ∃ w', (Instr.storeAt t ux uv).run P w = .ok () w' ∧ ∃ c', Rel w0 mu c' bh a w' := by
 cases hn : T.cells t with
 | none => cases x with
   | one y => cases y <;> simp [sY, hn, N.val] at hs
   | agg _ => simp [sY, N.val] at hs
   | ot _ => simp [sY, N.val] at hs
 | some n => cases x with
   | agg _ => simp [sY, N.val] at hs
   | ot _ => simp [sY, N.val] at hs
   | one y => cases y with
     | bad | int _ _ | bool _ | str _ | eI | IT | shr _ _ | nn _ _ | ref _ _ _ _ | mH _ _ _ | sX _ _ _ | fn _ _ _ | qg _ _ _ _ _ _ _ _ => simp [sY, N.val] at hs
     | ptr b g off =>
       simp only [sY, hn] at hs
       cases hb : eR st b g with
       | none => simp [hb, N.val] at hs
       | some cs =>
         simp only [hb] at hs; obtain ⟨hc, hs⟩ := fl hs; rw [Bool.and_eq_true] at hc
         cases hp : putCells cs off v.cells with
         | none => simp [hp, N.val] at hs
         | some l =>
           simp only [hp, N.val, Option.some.injEq] at hs; subst hs; obtain ⟨hle, rfl⟩ := xH hp; obtain ⟨sl, Ev, Pe, Ew⟩ := iF hb; obtain ⟨ho, vs, ty, hh, hl⟩ := h.boxes b sl cs Ev Ew; obtain ⟨sy, Ga⟩ := hv.cells hc.1; have hu := hx.2.2 cs hb; subst hu; have hlen : uv.cells.toList.length = n := by rw [← sy.1]; exact Nat.eq_of_beq_eq_true hc.2
           have AE := hl.1; have G9 := sy.1; refine ⟨_, pH hT hn w (c.bx b) off uv hlen Ga hh (by simp at AE ⊢; omega), c, ?_⟩; refine h.Nq Ev Ew hh ?_; simpa using hl.cN sy off hle
     | Li a' j g i off =>
       simp only [sY, hn] at hs
       cases hA : bl st a' j g with
       | none => simp [hA, N.val] at hs
       | some A =>
         simp only [hA] at hs; obtain ⟨hc, hz⟩ := fl hs; clear hs; rw [Bool.and_eq_true, Bool.and_eq_true, Bool.and_eq_true] at hc; obtain ⟨⟨⟨ab6, gP⟩, Ky⟩, Pf⟩ := hc; have Pf : 0 < n := by simp [Nat.blt] at Pf; omega
         obtain ⟨sl, Ev, Pe, Ew⟩ := bN hA; have G5 := h.aP a' j sl A Ev Ew; obtain ⟨hi, b, o, cap, jh, hu⟩ := hx.2.2 A hA; have R6 := G5; unfold cz at R6; rw [jh] at R6; obtain ⟨ho, zg, ⟨cur, ty, hg, mm⟩, iP⟩ := R6; rw [gP] at ho; obtain ⟨sy, Ga⟩ := hv.cells ab6; have hlen : uv.cells.toList.length = n := by rw [← sy.1]; exact Nat.eq_of_beq_eq_true Ky
         have Ha : o + i * A.r.width + A.r.width ≤ cur.size := by
           have : (i + 1) * A.r.width ≤ cap * A.r.width := Nat.mul_le_mul_right _ (by omega); rw [Nat.add_mul] at this; omega
         subst hu
         cases hw : Nat.beq n A.r.width && A.r.eQ && Nat.beq off 0 with
         | false =>
           rw [hw] at hz; simp only [cond_false] at hz
           cases hm : A.md with
           | ho => rw [hm] at hz; simp [N.val, Md.is] at hz
           | sh =>
             rw [hm] at hz; simp only [Md.is, cond_false] at hz; have iP := (cf.sh hm).1 iP
             cases AG : A.xs[i]? with
             | none => simp [AG, N.val] at hz
             | some x0 =>
               simp only [AG] at hz; change (match kZ A.r x0 off v.cells with | some y => N.done (cj st a' j (some (A.put (A.xs.set i y)))) | none => N.fail).val = some bh at hz
               cases hp : kZ A.r x0 off v.cells with
               | none => simp [hp, N.val] at hz
               | some y =>
                 simp only [hp, N.val, Option.some.injEq] at hz; subst hz; have G9 := sy.1; have R7 : off + uv.cells.toList.length ≤ A.r.width := by
                   rw [← G9]; exact uk A.r x0 off v.cells hp (by intro e; rw [e] at G9; simp at G9; simp at hlen; omega)
                 refine ⟨_, pH hT hn w b (o + i * A.r.width + off) uv hlen Ga hg (by omega), c, ?_⟩; exact h.zk Ev Ew gP jh hg (by rw [List.size_toArray, jj (by simp at R7 ⊢; omega)]; simp) (by simp)
                   (cf.Nr hm (zm ho hg iP AG R7 Ha (fun vs zn => CL A.r x0 off v.cells y vs _ (by rw [dD.length A.r vs x0 zn]; exact R7) hp sy zn)))
           | dp =>
             rw [hm] at hz; simp only [Md.is, cond_false] at hz; unfold cf at iP; rw [hm] at iP; obtain ⟨gg, Pg, iP⟩ := iP
             cases AG : A.xs[i]? with
             | none => simp [AG, N.val] at hz
             | some x0 =>
               simp only [AG] at hz; change (match kZ A.r x0 off v.cells with | some y => N.done (cj st a' j (some (A.put (A.xs.set i y)))) | none => N.fail).val = some bh at hz
               cases hp : kZ A.r x0 off v.cells with
               | none => simp [hp, N.val] at hz
               | some y =>
                 simp only [hp, N.val, Option.some.injEq] at hz; subst hz; have G9 := sy.1; have R7 : off + uv.cells.toList.length ≤ A.r.width := by
                   rw [← G9]; exact uk A.r x0 off v.cells hp (by intro e; rw [e] at G9; simp at G9; simp at hlen; omega)
                 refine ⟨_, pH hT hn w b (o + i * A.r.width + off) uv hlen Ga hg (by omega), c, ?_⟩; refine h.zk Ev Ew gP jh hg (by rw [List.size_toArray, jj (by simp at R7 ⊢; omega)]; simp) (by simp) ?_; unfold cf; show match A.md with | .sh => _ | .dp => _ | .ho => True
                 rw [hm]; refine ⟨gg, Pg, fun i' x' Cd => ?_⟩; obtain ⟨vs, q1, q2⟩ := xJ hg (Q := fun i vs x => eM w (fun p k => c.own k = some (.sp a' j) ∧ gg k = p) A.r [i] 0 vs x) (fun i x hx => by
                   obtain ⟨vs, q1, q2⟩ := (mq _ _ _ _ _ _).1 (iP i x hx); exact ⟨vs, q1, eM.length _ _ _ _ _ q2, q2⟩) AG R7 Ha (fun vs AE zn => CR A.r [i] 0 x0 off v.cells y vs _ (by rw [AE]; exact R7) hp sy zn) i' x' Cd
                 refine (mq _ _ _ _ _ _).2 ⟨vs, q1, eM.go _ [i'] [i'] (fun q k hk => ⟨setRow_other w b k _ ?_, hk⟩) 0 vs x' q2⟩
                 rintro rfl
                 rw [Pg] at hk; simp at hk
         | true =>
           rw [hw] at hz; simp only [cond_true] at hz; rw [Bool.and_eq_true, Bool.and_eq_true] at hw; have hnW := Nat.eq_of_beq_eq_true hw.1.1; have ab7 := Nat.eq_of_beq_eq_true hw.2; subst ab7; have Kz : uv.cells.toList.length = A.r.width := by rw [hlen, hnW]
           have W0 : ∀ vs : List Value, vs.length = A.r.width → cN vs 0 uv.cells.toList = uv.cells.toList := by
             intro vs AE; unfold cN; rw [List.drop_eq_nil_of_le (by omega)]; simp
           cases hm : A.md with
           | ho => rw [hm] at hz; simp [N.val] at hz
           | sh =>
             rw [hm] at hz; simp only at hz; have iP := (cf.sh hm).1 iP; obtain ⟨x1, m, h1, h2, h3⟩ := zi h A.r v.cells _ sy _ hz; obtain ⟨W2, h1⟩ := fl h1
             cases AG : A.xs[i]? with
             | none => simp [AG, N.val] at h1
             | some x0 =>
               simp only [AG] at h1; change some _ = some bh at h1; obtain rfl := Option.some.inj h1; have PD : (a', j) ∉ m := by
                 intro Cg; have := List.all_eq_true.1 W2 _ Cg; simp at this
               have hf := h.freeze m; obtain ⟨R0, g1, g2⟩ := CP m Ev Ew PD; have R8 : (c.drop m).lc a' j = .at b o cap := by rw [(Cz.Kx m c).1]; exact jh
               have ho' : (c.drop m).own b = some (.sp a' j) := Cz.E5 m c b ho (fun p hp => by
                 intro e; injection e with e1 e2; exact PD (by rw [e1, e2]; exact hp))
               have Nt : ∀ (i : Nat) x, A.xs[i]? = some x → dw w (c.drop m).ok A.r b (o + i * A.r.width) x := fun i x hx =>
                 dw.stays (Fw.freeze w m c st).stays _ _ _ x rfl (iP i x hx)
               have I8 : dD w (c.drop m).ok A.r uv.cells.toList x1 := h3 _ (fun k hk => Cz.zh m c k hk) (fun p hp k hk => Cz.Co m c k hk hp); refine ⟨_, pH hT hn w b (o + i * A.r.width + 0) uv hlen Ga hg (by omega), c.drop m, ?_⟩; refine hf.zk g1 g2 gP R8 hg (by rw [List.size_toArray, jj (by simp at Kz ⊢; omega)]; simp) (by simp) (cf.Nr hm ?_); refine zm ho' hg Nt AG (k := 0) (by omega) Ha (fun vs zn => ?_); rw [W0 vs (dD.length A.r vs x0 zn)]; exact I8
           | dp =>
             rw [hm] at hz; simp only at hz
             cases hrd : iO st A.r v.cells with
             | none => rw [hrd] at hz; simp [N.val] at hz
             | some pq =>
               obtain ⟨x1, m⟩ := pq; rw [hrd] at hz; simp only at hz; obtain ⟨W2, h1⟩ := fl hz; clear hz; rw [Bool.and_eq_true] at W2; have Lt := rG W2.1; have PD : (a', j) ∉ jd m := by
                 intro Cg; have := List.all_eq_true.1 W2.2 _ Cg; simp at this
               cases AG : A.xs[i]? with
               | none => simp [AG, N.val] at h1
               | some x0 =>
                 simp only [AG] at h1; change some _ = some bh at h1; obtain rfl := Option.some.inj h1; obtain ⟨R9, hmo, G, hG⟩ := CS h A.r v.cells _ sy hrd; unfold cf at iP; rw [hm] at iP; obtain ⟨gg, Pg, iP⟩ := iP; obtain ⟨CT, Ch, Rh, _, _⟩ := nG (jd m) h; have hR := CT.kQ Ch a' j; obtain ⟨R0, g1, g2⟩ := Rh a' j sl A PD Ev Ew; have W3 : ∀ n ∈ jd m, Lb.sp a' j ≠ .sp n.1 n.2 := by
                   intro n hn e; injection e with e1 e2; exact PD (by rw [show (a', j) = n from Prod.ext e1 e2]; exact hn)
                 obtain ⟨g', p1, p2⟩ := E7 (c := c) Lt G gg [i] (.sp a' j) W3; have W4 : ∀ k, c.own k = some (.sp a' j) → (c.kQ (jd m) (.sp a' j)).own k = some (.sp a' j) := by
                   intro k hk; rw [Cz.ri (fun n hn e => by rw [hk] at e; exact W3 n hn (Option.some.inj e))]; exact hk
                 refine ⟨_, pH hT hn w b (o + i * A.r.width + 0) uv hlen Ga hg (by omega), c.kQ (jd m) (.sp a' j), ?_⟩; refine hR.zk g1 g2 gP jh hg (by rw [List.size_toArray, jj (by simp at Kz ⊢; omega)]; simp) (by simp) ?_; unfold cf; show match A.md with | .sh => _ | .dp => _ | .ho => True
                 rw [hm]; refine ⟨g', by rw [p1 b ho]; exact Pg, fun i' x' Cd => ?_⟩; have ab9 : ∀ q k, g' k = [i'] ++ q → k ≠ b := by
                   rintro q k hk rfl
                   rw [p1 k ho, Pg] at hk; simp at hk
                 obtain ⟨vs, q1, q2⟩ := xJ hg (Q := fun i vs x => eM w (fun p k => (c.kQ (jd m) (.sp a' j)).own k = some (.sp a' j) ∧ g' k = p) A.r [i] 0 vs x) (fun i x hx => by
                   obtain ⟨vs, q1, q2⟩ := (mq _ _ _ _ _ _).1 (iP i x hx); exact ⟨vs, q1, eM.length _ _ _ _ _ q2, eM.go _ [i] [i] (fun q k hk => ⟨rfl, W4 k hk.1, by rw [p1 k hk.1]; exact hk.2⟩) 0 vs x q2⟩) AG (k := 0) (us := uv.cells.toList) (by omega) Ha (fun vs AE _ => by
                     rw [W0 vs AE]; refine hG _ [i] 0 fun col n k hc hk => ⟨Cz.pI (mS hc) hk, ?_⟩
                     rw [p2 col n k hc hk, Nat.zero_add]) i' x' Cd
                 exact (mq _ _ _ _ _ _).2 ⟨vs, q1, eM.go _ [i'] [i'] (fun q k hk => ⟨setRow_other w b k _ (ab9 q k hk.2), hk⟩) 0 vs x' q2⟩
end Go.TM
namespace Go.TM
open Go Go.RowKit
theorem Fw.heap {c : Cz} {st : St} {w w' : World} (hh : w'.heap = w.heap) : Fw c st w c st w' where
 stays := ⟨by rw [hh]; exact Nat.le_refl _, fun b _ _ => by rw [hh], fun _ _ h => h⟩
 refs _ _ _ A' _ h := ⟨A', h, rfl, rfl, rfl, fun _ => ⟨rfl, fun _ _ _ _ => by rw [hh]⟩⟩
 CI _ _ ow _ h := ⟨⟨ow, h⟩, rfl⟩
 gA _ := Nat.le_refl _
 gB _ := Nat.le_refl _
 gE _ := Nat.le_refl _
theorem Rel.heap {w0 : World} {mu : Mu} {c : Cz} {st : St} {a : Act} {w w' : World} (h : Rel w0 mu c st a w) (hh : w'.heap = w.heap) (ho : w'.os = w.os ∧ w'.tape = w.tape ∧ w'.output = w.output) :
   Rel w0 mu c st a w' where
 gJ t := (Fw.heap hh).pG (h.gJ t)
 boxes s sl cs hs hb := (h.boxes s sl cs hs hb).go (Fw.heap hh) rfl rfl (by rw [hh])
 aP s j sl A hs hA := (h.aP s j sl A hs hA).go (Fw.heap (c := c) (st := st) hh).stays rfl (fun b _ => ⟨by rw [hh], rfl⟩)
 owned b l hb := by rw [hh]; exact h.owned b l hb
 free := h.free
 kept := ⟨ho.1.trans h.kept.1, ho.2.1.trans h.kept.2.1, ho.2.2.trans h.kept.2.2.1, by rw [hh]; exact h.kept.2.2.2⟩
 old k hk hm := by rw [hh]; exact h.old k hk hm
 fw p hp := (Fw.heap hh).fw (h.fw p hp)
 plain := h.plain
theorem Rel.drew {w0 : World} {mu : Mu} {c : Cz} {st : St} {a : Act} {w : World} (h : Rel w0 mu c st a w) : Rel w0 mu c st a w.drew := h.heap rfl ⟨rfl, rfl, rfl⟩
theorem jy.length : (r : RT) → (vs : List Value) → jy r vs → vs.length = r.width
 | .nil, vs, h => by simp only [jy] at h; subst h; rfl
 | .cons (.int _) r, vs, ⟨l, h, h'⟩ => by subst h; simp [RT.width, jy.length r l h']
 | .cons .bool r, vs, ⟨l, h, h'⟩ => by subst h; simp [RT.width, jy.length r l h']
 | .cons .str r, vs, ⟨l, h, h'⟩ => by subst h; simp [RT.width, jy.length r l h']
 | .cons (.sl _) r, vs, ⟨l, h, h'⟩ => by subst h; simp [RT.width, jy.length r l h']
theorem V4.cells {w : World} {ok : Nat → Prop} {r : RT} {u : Value} {ys : List (aq r)} (h : V4 w ok r u ys) :
   (ys = [] ∧ (u = .slice none 0 0 ∨ ∃ a c, u = .slice (some a) 0 c)) ∨
   (ys ≠ [] ∧ ∃ a c vs, u = .slice (some a) ys.length c ∧ bB w ok r vs ys ∧ ∀ (j : Nat) v, vs[j]? = some v → w.cell? (a.add j) = some v) := by
 rcases h with ⟨rfl, rfl⟩ | ⟨a, c, rfl, hs, hr⟩
 · exact .inl ⟨rfl, .inl rfl⟩
 · by_cases e : ys = []
   · subst e; exact .inl ⟨rfl, .inr ⟨a, c, rfl⟩⟩
   · obtain ⟨vs, h1, h2⟩ := nd a.block a.off ys hr; refine .inr ⟨e, a, c, vs, rfl, h2, fun j v hv => ?_⟩; have : a = ⟨a.block, a.off, none⟩ := by have := hs e; cases a; simp at this ⊢; exact this
     rw [this, Addr.add_mid]; exact h1 j v hv
theorem x3 {P : Program} {T : lZ} (hT : gX P T) {w : World} {t ty : Nat} {r : RT} {bytes : Nat} (ht : T.elem t = some (r, bytes)) {ux uy : Value} {nx ny : Nat} {vx vy : List Value} {xb : Option Nat}
   (hb : (nx + ny) * bytes ≤ lim) (IQ : vx.length = nx * r.width) (GZ : vy.length = ny * r.width) (oy : ∀ u ∈ vy, u.oneCell' = true)
   (hy : (ny = 0 ∧ (uy = .slice none 0 0 ∨ ∃ a c, uy = .slice (some a) 0 c)) ∨ (ny ≠ 0 ∧ ∃ a c, uy = .slice (some a) ny c ∧ ∀ (j : Nat) v, vy[j]? = some v → w.cell? (a.add j) = some v))
   (hx : (xb = none ∧ ux = .slice none 0 0 ∧ nx = 0) ∨ ∃ b off lo cap n ad cur te, xb = some b ∧ ux = .slice (some ad) nx n ∧ nx ≤ n ∧ lo + n ≤ cap ∧ (n ≠ 0 → ad = ⟨b, off + lo * r.width, none⟩) ∧
     w.heap[b]? = some (.cells cur te (0, 0)) ∧ off + cap * r.width ≤ cur.size ∧ w.rangeAt b (off + lo * r.width) vx) :
   ∃ v w', (Builtin.append_ #[t, t] ty #[ux, uy]).run P w = .ok v w' ∧ (w'.os = w.os ∧ w'.tape = w.tape ∧ w'.output = w.output ∧ w.heap.size ≤ w'.heap.size) ∧
     ((nx = 0 ∧ ny = 0 ∧ w' = w ∧ v = .slice none 0 0) ∨ ∃ B o cp cur te, v.oneCell' = true ∧ jJ (.at B o cp) r.width 0 (nx + ny) v ∧ nx + ny ≤ cp ∧ w'.heap[B]? = some (.cells cur te (0, 0)) ∧ o + cp * r.width ≤ cur.size ∧
       w'.rangeAt B o (vx ++ vy) ∧ (∀ k, k < w.heap.size → k ≠ B → w'.heap[k]? = w.heap[k]?) ∧ (w.heap.size ≤ B ∨ xb = some B)) := by
 obtain ⟨e, i, z, hu, hi, mm, ED, W5, KA, hz, Lu⟩ := hT.elem t r bytes ht; have Hb : z.cells.size = r.width := by have := jy.length r _ Lu; simpa using this
 have Gb : (nx + ny) * bytes ≤ 140737488355328 := by unfold lim at hb; omega
 have aha : nx + ny ≤ 140737488355328 := by
   have : (nx + ny) * 1 ≤ (nx + ny) * bytes := Nat.mul_le_mul_left _ KA; omega
 have grown : ∀ (old : Nat) (run : (Builtin.append_ #[t, t] ty #[ux, uy]).run P w = .ok (.slice (some ⟨w.heap.size, 0, none⟩) (nx + ny) (grownCap w (nx + ny) old e)) (w.drew.alloc (.cells (vx.toArray ++ vy.toArray ++ Builtin.zeroCells z.cells (grownCap w (nx + ny) old e - (nx + ny))) e (0, 0)))),
     ∃ v w', (Builtin.append_ #[t, t] ty #[ux, uy]).run P w = .ok v w' ∧ (w'.os = w.os ∧ w'.tape = w.tape ∧ w'.output = w.output ∧ w.heap.size ≤ w'.heap.size) ∧
     ((nx = 0 ∧ ny = 0 ∧ w' = w ∧ v = .slice none 0 0) ∨ ∃ B o cp cur te, v.oneCell' = true ∧ jJ (.at B o cp) r.width 0 (nx + ny) v ∧ nx + ny ≤ cp ∧ w'.heap[B]? = some (.cells cur te (0, 0)) ∧ o + cp * r.width ≤ cur.size ∧
       w'.rangeAt B o (vx ++ vy) ∧ (∀ k, k < w.heap.size → k ≠ B → w'.heap[k]? = w.heap[k]?) ∧ (w.heap.size ≤ B ∨ xb = some B)) := by
   intro old run; have hge := grownCap_ge w (nx + ny) old e; have hmul : grownCap w (nx + ny) old e * r.width = (nx + ny) * r.width + (grownCap w (nx + ny) old e - (nx + ny)) * r.width := by
     rw [← Nat.add_mul]; congr 1; omega
   have wc := heap_alloc_new w.drew (.cells (vx.toArray ++ vy.toArray ++ Builtin.zeroCells z.cells (grownCap w (nx + ny) old e - (nx + ny))) e (0, 0)); refine ⟨_, _, run, ⟨rfl, rfl, rfl, by simp⟩, .inr ⟨w.heap.size, 0, grownCap w (nx + ny) old e, _, e, rfl, ⟨_, _, rfl, hge, by omega, fun _ => by simp⟩, hge, wc, ?_, ?_, fun k hk _ => heap_alloc_old w.drew _ k hk, .inl (Nat.le_refl _)⟩⟩
   · rw [Array.size_append, Array.size_append, List.size_toArray, List.size_toArray, size_zeroCells, Hb, IQ, GZ, hmul, Nat.add_mul]; omega
   · intro q v hv; rw [show w.heap.size = w.drew.heap.size from rfl, cell_of_row _ _ _ _ e (0, 0) wc, Nat.zero_add]; have hq : q < (vx ++ vy).length := (List.getElem?_eq_some_iff.1 hv).1; have e1 : (vx.toArray ++ vy.toArray ++ Builtin.zeroCells z.cells (grownCap w (nx + ny) old e - (nx + ny))).toList =
         (vx ++ vy) ++ (Builtin.zeroCells z.cells (grownCap w (nx + ny) old e - (nx + ny))).toList := by simp
     rw [← Array.getElem?_toList, e1, List.getElem?_append_left hq]; exact hv
 rcases hy with ⟨rfl, hyn⟩ | ⟨Sa, ay, cy, rfl, W6⟩
 · -- nothing is put behind
   have aca : vy = [] := by simpa using GZ
   subst aca; rcases hx with ⟨_, rfl, rfl⟩ | ⟨b, off, lo, cap, n, ad, cur, te, Lv, rfl, hle, zg, G0, hg, Sb, hr⟩
   · exact ⟨_, w, run_append_nothing hu hi w none 0 0 (Nat.le_refl _) uy hyn, ⟨rfl, rfl, rfl, Nat.le_refl _⟩, .inl ⟨rfl, rfl, rfl, rfl⟩⟩
   · refine ⟨_, w, run_append_nothing hu hi w (some ad) nx n hle uy hyn, ⟨rfl, rfl, rfl, Nat.le_refl _⟩, .inr ⟨b, off + lo * r.width, n, cur, te, rfl, ⟨ad, n, rfl, hle, by omega, fun hn => by rw [G0 hn]; simp⟩, hle, hg, ?_, by simpa using hr, fun _ _ _ => rfl, .inr Lv⟩⟩; have : (lo + n) * r.width ≤ cap * r.width := Nat.mul_le_mul_right _ zg; rw [Nat.add_mul] at this; omega
 · have hyl : 0 < ny := Nat.pos_of_ne_zero Sa; rcases hx with ⟨_, rfl, rfl⟩ | ⟨b, off, lo, cap, n, ad, cur, te, Lv, rfl, hle, zg, G0, hg, Sb, hrx⟩
   · have acb : vx = [] := by simpa using IQ
     subst acb; have hr := run_append_nil (P := P) w t ty e i z hu hi hz ay ny cy vy (by rw [GZ, mm]) W6 hyl (by omega) (by rw [W5]; simp at Gb; omega); refine grown 0 ?_; simpa using hr
   · by_cases tj : nx + ny ≤ n
     · -- it ajd aje IU room Nb there is
       have Pf : n ≠ 0 := by omega
       rw [G0 Pf]; have Ha : off + lo * r.width + n * r.width ≤ cur.size := by
         have : (lo + n) * r.width ≤ cap * r.width := Nat.mul_le_mul_right _ zg; rw [Nat.add_mul] at this; omega
       have oL : off + lo * r.width + nx * r.width + vy.length ≤ cur.size := by
         have : (nx + ny) * r.width ≤ n * r.width := Nat.mul_le_mul_right _ tj; rw [Nat.add_mul] at this; omega
       have hr := EC (P := P) (ty := ty) hu hi w b (off + lo * r.width) nx n cur te hg ay ny cy vy (by rw [GZ, mm]) W6 oy tj (by rw [mm]; exact oL); rw [mm] at hr; have R1 := setRow_heap w b cur (cN cur.toList (off + lo * r.width + nx * r.width) vy).toArray te (0, 0) hg; have sB : ∀ k, k ≠ b → (w.setRow b (cN cur.toList (off + lo * r.width + nx * r.width) vy).toArray).heap[k]? = w.heap[k]? := fun k hk => setRow_other w _ k _ hk
       refine ⟨_, _, hr, ⟨rfl, rfl, rfl, by simp [World.setRow]⟩, .inr ⟨b, off + lo * r.width, n, _, te, rfl, ⟨_, n, rfl, tj, by omega, fun _ => by simp⟩, tj, R1, ?_, ?_, fun k _ hk => sB k hk, .inr Lv⟩⟩
       · rw [List.size_toArray, jj (by simpa using oL)]; simpa using Ha
       · intro q v hv; rw [cell_of_row _ _ _ _ te (0, 0) R1]; simp only [List.getElem?_toArray]; rw [mR (by simpa using oL)]; rw [List.getElem?_append] at hv
         by_cases hq : q < vx.length
         · rw [if_pos hq] at hv; rw [if_neg (by omega)]; have := hrx q v hv; rw [cell_of_row w b _ cur te (0, 0) hg] at this; simpa using this
         · rw [if_neg hq] at hv; have I9 : q - vx.length < vy.length := (List.getElem?_eq_some_iff.1 hv).1; rw [if_pos (by omega), show off + lo * r.width + q - (off + lo * r.width + nx * r.width) = q - vx.length by omega]; exact hv
     · -- it WO
       have hr := run_append_grow (P := P) w t ty e i z hu hi hz ad nx n vx (by rw [IQ, mm]) (fun q v hv => by
           have hq : q < vx.length := (List.getElem?_eq_some_iff.1 hv).1; have Pf : n ≠ 0 := by
             intro e0; have : nx = 0 := by omega
             rw [this] at IQ; simp at IQ; rw [IQ] at hq; simp at hq
           rw [G0 Pf, Addr.add_mid]; exact hrx q v hv)
         ay ny cy vy (by rw [GZ, mm]) W6 (by omega) (by omega) (growslice_fits (by omega) (by rw [W5]; exact Gb))
       exact grown n hr
theorem E8 {P : Program} {T : lZ} (hT : gX P T) {w0 : World} {mu : Mu} {c : Cz} {AD : St} {a : Act} {w : World} (h1 : Rel w0 mu c AD a w)
   {t ty : Nat} {r : RT} {bytes : Nat} (ht : T.elem t = some (r, bytes)) {ux uy : Value} {xs ys : List (aq r)} {d : Nat} {s0 : Sl} (jb : nth AD d = some s0) (hd : d < a.tmps.size)
   (hb : (xs.length + ys.length) * bytes ≤ lim) (hy : V4 w c.ok r uy ys)
   (hx : (ux = .slice none 0 0 ∧ xs = []) ∨ ∃ s j b off lo cap n ad, c.own b = some (.sp s j) ∧ (∀ sl A, nth AD s = some sl → nth sl.aP j ≠ some (some A)) ∧
     ux = .slice (some ad) xs.length n ∧ xs.length ≤ n ∧ lo + n ≤ cap ∧ (n ≠ 0 → ad = ⟨b, off + lo * r.width, none⟩) ∧
     (∃ cur ty, w.heap[b]? = some (.cells cur ty (0, 0)) ∧ off + cap * r.width ≤ cur.size) ∧ ∀ (i : Nat) x, xs[i]? = some x → dw w c.ok r b (off + (lo + i) * r.width) x) :
   ∃ v w', (Builtin.append_ #[t, t] ty #[ux, uy]).run P w = .ok v w' ∧
     ∃ c', Rel w0 mu c' (nA (fun s => { s with v := .one (.ref d 0 (s0.ag + 1) .full), aP := [some { r := r, own := true, xs := xs ++ ys }], ag := s0.ag + 1 }) AD d) (a.put (some d) v) w' := by
 obtain ⟨vy, GZ, Ph⟩ : ∃ vy, bB w c.ok r vy ys ∧ ((ys.length = 0 ∧ (uy = .slice none 0 0 ∨ ∃ a c, uy = .slice (some a) 0 c)) ∨ (ys.length ≠ 0 ∧ ∃ a c, uy = .slice (some a) ys.length c ∧ ∀ (j : Nat) v, vy[j]? = some v → w.cell? (a.add j) = some v)) := by
   rcases hy.cells with ⟨rfl, hyn⟩ | ⟨Sa, ay, cy, vy, rfl, GZ, W6⟩
   · exact ⟨[], rfl, .inl ⟨rfl, hyn⟩⟩
   · exact ⟨vy, GZ, .inr ⟨fun h => Sa (List.length_eq_zero_iff.1 h), ay, cy, rfl, W6⟩⟩
 obtain ⟨vx, xb, IQ, Lv, Cd⟩ : ∃ (vx : List Value) (xb : Option Nat), bB w c.ok r vx xs ∧ (∀ b, xb = some b → ∃ s j, c.own b = some (.sp s j) ∧ ∀ sl A, nth AD s = some sl → nth sl.aP j ≠ some (some A)) ∧
     ((xb = none ∧ ux = .slice none 0 0 ∧ xs.length = 0) ∨ ∃ b off lo cap n ad cur te, xb = some b ∧ ux = .slice (some ad) xs.length n ∧ xs.length ≤ n ∧ lo + n ≤ cap ∧ (n ≠ 0 → ad = ⟨b, off + lo * r.width, none⟩) ∧
     w.heap[b]? = some (.cells cur te (0, 0)) ∧ off + cap * r.width ≤ cur.size ∧ w.rangeAt b (off + lo * r.width) vx) := by
   rcases hx with ⟨rfl, rfl⟩ | ⟨s, j, b, off, lo, cap, n, ad, gP, Nu, rfl, hle, zg, G0, ⟨cur, te, hg, Sb⟩, iP⟩
   · exact ⟨[], none, rfl, (fun _ e => by cases e), .inl ⟨rfl, rfl, rfl⟩⟩
   · obtain ⟨vx, hrx, IQ⟩ := nd b (off + lo * r.width) xs (fun i x hx => by
       have := iP i x hx; rw [Nat.add_mul] at this; rw [show off + lo * r.width + i * r.width = off + (lo * r.width + i * r.width) by omega]; exact this)
     exact ⟨vx, some b, IQ, fun b' e => by cases e; exact ⟨s, j, gP, Nu⟩, .inr ⟨b, off, lo, cap, n, ad, cur, te, rfl, rfl, hle, zg, G0, hg, Sb, hrx⟩⟩
 obtain ⟨v, w', pJ, s4, CU⟩ := x3 hT (ty := ty) ht hb (bB.length vx xs IQ) (bB.length vy ys GZ) (bB.j2 vy ys GZ) Ph Cd; refine ⟨v, w', pJ, ?_⟩; rcases CU with ⟨e1, e2, rfl, rfl⟩ | ⟨B, o, cp, cur, te, v1, v2, hle, hg, mm, hr, sB, hB⟩
 · have : xs = [] := List.length_eq_zero_iff.1 e1; subst this; have : ys = [] := List.length_eq_zero_iff.1 e2; subst this; refine ⟨c.bX d .nil none, h1.place (B := w'.heap.size) (A := { r := r, own := true, xs := [] ++ [] }) jb hd rfl ?_ (fun k _ => by simp [Cz.bX]) (.inr ⟨by simp [Cz.bX], rfl⟩) (.inl (Nat.le_refl _)) ?_ (fun _ _ _ => rfl) ⟨rfl, rfl, rfl, Nat.le_refl _⟩ ?_ rfl ?_⟩
   · intro s j gW; simp [Cz.bX, gW]
   · intro hc; simp [Cz.bX] at hc; have := h1.qi hc; omega
   · unfold cz; simp [Cz.bX]
   · simp [Cz.bX, jJ]
 · have Nv : B < w'.heap.size := (Array.getElem?_eq_some_iff.1 hg).1; have KB : w.heap.size ≤ B ∨ ∃ s j, c.own B = some (.sp s j) ∧ (s = d ∨ ∀ sl A, nth AD s = some sl → nth sl.aP j ≠ some (some A)) := by
     rcases hB with hB | hB
     · exact .inl hB
     · obtain ⟨s, j, q1, q2⟩ := Lv B hB; exact .inr ⟨s, j, q1, .inr q2⟩
   have R2 : ∀ k, k < w.heap.size → c.ok k → k ≠ B := by
     rintro k hk gI rfl
     rcases KB with hB | ⟨s, j, hB, _⟩
     · omega
     · unfold Cz.ok at gI; rw [hB] at gI; cases gI
   have s3 : jI w w' c.ok (c.bX d (.at B o cp) (some B)).ok := ⟨s4.2.2.2, fun k hk gI => sB k hk (R2 k hk gI), fun k hk gI => by
     unfold Cz.ok Cz.bX; simp only; rw [if_neg]
     · exact gI
     · intro e'; exact R2 k hk gI (Option.some.inj e').symm⟩
   refine ⟨c.bX d (.at B o cp) (some B), h1.place (B := B) (A := { r := r, own := true, xs := xs ++ ys }) jb hd rfl ?_ ?_ (.inl (by simp [Cz.bX])) KB (fun _ => Nv) sB s4 ?_ v1 ?_⟩
   · intro s j gW; simp [Cz.bX, gW]
   · intro k hk; simp only [Cz.bX]; rw [if_neg (by intro e'; exact hk (Option.some.inj e').symm)]
   · unfold cz; simp only [Cz.bX, and_self, if_true]; refine ⟨trivial, by simpa using hle, ⟨cur, te, hg, mm⟩, (cf.sh rfl).2 ?_⟩; exact sG _ (vx ++ vy) (xs ++ ys) (bB.append vx vy xs ys (bB.stays s3 _ _ IQ) (bB.stays s3 _ _ GZ)) hr
   · simp only [Cz.bX, and_self, if_true, List.length_append]; exact v2
def dN (w : World) (P : List Nat → Nat → Prop) (r : RT) : (i : Nat) → List Value → List (aq r) → Prop
 | _, vs, [] => vs = []
 | i, vs, x :: xs => ∃ l1 l2, vs = l1 ++ l2 ∧ eM w P r [i] 0 l1 x ∧ dN w P r (i + 1) l2 xs
theorem dN.length {w : World} {P : List Nat → Nat → Prop} {r : RT} : (i : Nat) → (vs : List Value) → (xs : List (aq r)) → dN w P r i vs xs → vs.length = xs.length * r.width
 | _, vs, [], h => by simp only [dN] at h; subst h; simp
 | i, vs, x :: xs, h => by
   obtain ⟨l1, l2, rfl, h1, h2⟩ := h; have a1 := eM.length r [i] 0 l1 x h1; have a2 := dN.length (i + 1) l2 xs h2; simp [a1, a2, Nat.add_mul]; omega
theorem dN.append {w : World} {P : List Nat → Nat → Prop} {r : RT} : (i : Nat) → (vs us : List Value) → (xs ys : List (aq r)) → dN w P r i vs xs → dN w P r (i + xs.length) us ys → dN w P r i (vs ++ us) (xs ++ ys)
 | i, vs, us, [], ys, h, k => by simp only [dN] at h; subst h; simpa using k
 | i, vs, us, x :: xs, ys, ⟨l1, l2, e, h1, h2⟩, k => ⟨l1, l2 ++ us, by rw [e, List.append_assoc], h1, dN.append (i + 1) l2 us xs ys h2 (by rw [show i + 1 + xs.length = i + (x :: xs).length by simp; omega]; exact k)⟩
theorem dN.go {w w' : World} {P P' : List Nat → Nat → Prop} {r : RT} (sh : Nat) (hP : ∀ i q b, P ([i] ++ q) b → w'.heap[b]? = w.heap[b]? ∧ P' ([i + sh] ++ q) b) : (i : Nat) → (vs : List Value) → (xs : List (aq r)) → dN w P r i vs xs → dN w' P' r (i + sh) vs xs
 | _, _, [], h => h
 | i, vs, x :: xs, ⟨l1, l2, e, h1, h2⟩ => ⟨l1, l2, e, eM.go r [i] [i + sh] (fun q b hb => hP i q b hb) 0 l1 x h1, by rw [show i + sh + 1 = i + 1 + sh by omega]; exact dN.go sh hP (i + 1) l2 xs h2⟩
theorem dZ.one {w : World} {P : List Nat → Nat → Prop} {t : Ty} {p : List Nat} {v : Value} {x : den t} (h : dZ w P t p v x) : v.oneCell' = true := by
 cases t with
 | int k => rw [xW.1 h]; rfl
 | bool => rw [uf.1 h]; rfl
 | str => rw [xX.1 h]; rfl
 | sl r => obtain ⟨lc, _, h1, _⟩ := (v7 w P r p v x).1 h; exact h1
theorem eM.one {w : World} {P : List Nat → Nat → Prop} : (r : RT) → (p : List Nat) → (k : Nat) → (vs : List Value) → (x : aq r) → eM w P r p k vs x → ∀ v ∈ vs, v.oneCell' = true
 | .nil, _, _, vs, _, h, v, hv => by simp only [eM] at h; subst h; simp at hv
 | .cons t r, p, k, vs, x, ⟨u, l, e, hx, hr⟩, v, hv => by
   subst e; rcases List.mem_cons.1 hv with rfl | hv
   · exact hx.one
   · exact eM.one r p (k + 1) l x.2 hr v hv
theorem dN.j2 {w : World} {P : List Nat → Nat → Prop} {r : RT} : (i : Nat) → (vs : List Value) → (xs : List (aq r)) → dN w P r i vs xs → ∀ v ∈ vs, v.oneCell' = true
 | _, vs, [], h, v, hv => by simp only [dN] at h; subst h; simp at hv
 | i, vs, x :: xs, ⟨l1, l2, e, h1, h2⟩, v, hv => by
   subst e; rcases List.mem_append.1 hv with hv | hv
   · exact eM.one r _ _ l1 x h1 v hv
   · exact dN.j2 (i + 1) l2 xs h2 v hv
theorem Bv {w : World} {P : List Nat → Nat → Prop} {r : RT} (b : Nat) : (off i0 : Nat) → (xs : List (aq r)) → (∀ (i : Nat) x, xs[i]? = some x → iz w P r [i0 + i] 0 b (off + i * r.width) x) →
   ∃ vs, w.rangeAt b off vs ∧ dN w P r i0 vs xs
 | _, _, [], _ => ⟨[], fun j v h => by simp at h, rfl⟩
 | off, i0, x :: xs, h => by
   obtain ⟨l1, h1, h2⟩ := (mq r [i0] 0 b off x).1 (by have := h 0 x rfl; simpa using this); obtain ⟨l2, h3, h4⟩ := Bv b (off + r.width) (i0 + 1) xs (fun i y hy => by
     have := h (i + 1) y (by simpa using hy); rw [Nat.add_mul, Nat.one_mul] at this; rw [show off + r.width + i * r.width = off + (i * r.width + r.width) by omega, show i0 + 1 + i = i0 + (i + 1) by omega]; exact this)
   have hl := eM.length r _ _ l1 x h2; refine ⟨l1 ++ l2, fun j v hv => ?_, l1, l2, rfl, h2, h4⟩; rw [List.getElem?_append] at hv
   by_cases hj : j < l1.length
   · rw [if_pos hj] at hv; exact h1 j v hv
   · rw [if_neg hj] at hv; have := h3 _ v hv; rw [show off + r.width + (j - l1.length) = off + j by omega] at this; exact this
theorem we {w : World} {P : List Nat → Nat → Prop} {r : RT} {b : Nat} : (off i0 : Nat) → (vs : List Value) → (xs : List (aq r)) → dN w P r i0 vs xs → w.rangeAt b off vs →
   ∀ (i : Nat) x, xs[i]? = some x → iz w P r [i0 + i] 0 b (off + i * r.width) x
 | _, _, _, [], _, _, i, x, h => by simp at h
 | off, i0, vs, y :: xs, ⟨l1, l2, e, h1, h2⟩, hr, i, x, h => by
   subst e; have hl := eM.length r _ _ l1 y h1
   cases i with
   | zero =>
     simp at h; subst h; rw [mq]; refine ⟨l1, fun j v hv => ?_, by simpa using h1⟩; have hj : j < l1.length := (List.getElem?_eq_some_iff.1 hv).1; have := hr j v (by rw [List.getElem?_append, if_pos hj]; exact hv); simpa using this
   | succ i =>
     have := we (off + r.width) (i0 + 1) l2 xs h2 (fun j v hv => by
       have := hr (l1.length + j) v (by rw [List.getElem?_append, if_neg (by omega)]; simpa using hv); rw [show off + r.width + j = off + (l1.length + j) by omega]; exact this) i x (by simpa using h)
     rw [Nat.add_mul, Nat.one_mul]; rw [show off + (i * r.width + r.width) = off + r.width + i * r.width by omega, show i0 + (i + 1) = i0 + 1 + i by omega]; exact this
theorem Rel.Gc {w0 : World} {mu : Mu} {c : Cz} {st : St} {a : Act} {w : World} (h : Rel w0 mu c st a w) {d : Nat} {s0 : Sl} {r : RT} {xs : List (aq r)} {cur : Array Value} {ty cap : Nat} {P : List Nat → Nat → Prop} {g : Nat → List Nat}
   (jb : nth st d = some s0) (hd : d < a.tmps.size) (hle : xs.length ≤ cap) (mm : cap * r.width ≤ cur.size) {vs : List Value} (zn : dN w P r 0 vs xs) (hP : ∀ i q k, P ([i] ++ q) k → c.own k = some (.sp d 0) ∧ g k = [i] ++ q) (R5 : cur.toList.take vs.length = vs) :
   ∃ c', Rel w0 mu c' (nA (fun s => { s with v := .one (.ref d 0 (s0.ag + 1) .full), aP := [some { r := r, own := true, xs := xs, md := .dp }], ag := s0.ag + 1 }) st d)
     (a.put (some d) (.slice (some ⟨w.heap.size, 0, none⟩) xs.length cap)) (w.alloc (.cells cur ty (0, 0))) := by
 have wc := heap_alloc_new w (.cells cur ty (0, 0)); refine ⟨c.bX d (.at w.heap.size 0 cap) (some w.heap.size), h.place (B := w.heap.size) (A := { r := r, own := true, xs := xs, md := .dp }) jb hd rfl ?_ ?_ (.inl ?_) (.inl (Nat.le_refl _)) (fun _ => by simp) (fun k hk _ => heap_alloc_old w _ k hk)
   ⟨rfl, rfl, rfl, by simp⟩ ?_ rfl ?_⟩
 · intro s j gW; simp [Cz.bX, gW]
 · intro k hk; simp only [Cz.bX]; rw [if_neg (by intro e; exact hk (Option.some.inj e).symm)]
 · simp [Cz.bX]
 · unfold cz; simp only [Cz.bX, and_self, if_true]; refine ⟨trivial, hle, ⟨cur, ty, wc, by simpa using mm⟩, fun k => if k = w.heap.size then [] else g k, by simp, ?_⟩; have hD := dN.go (w' := w.alloc (.cells cur ty (0, 0))) (P' := fun p k => (if some w.heap.size = some k then some (Lb.sp d 0) else c.own k) = some (.sp d 0) ∧ (if k = w.heap.size then [] else g k) = p) 0 (fun i q k hk => by
     obtain ⟨q1, q2⟩ := hP i q k hk; have dm := h.qi q1; refine ⟨heap_alloc_old w _ k dm, ?_, by rw [if_neg (by omega)]; exact q2⟩; rw [if_neg (by intro e; have := Option.some.inj e; omega)]; exact q1) 0 vs xs zn
   have := we 0 0 vs xs hD (fun j v hv => by
     rw [cell_of_row _ _ _ cur ty (0, 0) wc, Nat.zero_add]; have hj : j < vs.length := (List.getElem?_eq_some_iff.1 hv).1; rw [← R5, List.getElem?_take, if_pos hj] at hv; simpa using hv)
   intro i x hx; have h2 := this i x hx; rw [Nat.zero_add] at h2; exact h2
 · simp only [Cz.bX, and_self, if_true]; exact ⟨_, cap, rfl, hle, by omega, fun _ => by simp⟩
theorem wg {w : World} {P : List Nat → Nat → Prop} : (r : RT) → (p : List Nat) → (k : Nat) → (vs : List Value) → jy r vs → eM w P r p k vs (th r)
 | .nil, _, _, vs, h => h
 | .cons (.int q) r, p, k, vs, ⟨l, h, h'⟩ => ⟨.int q 0, l, h, xW.2 rfl, wg r p (k + 1) l h'⟩
 | .cons .bool r, p, k, vs, ⟨l, h, h'⟩ => ⟨.bool false, l, h, uf.2 rfl, wg r p (k + 1) l h'⟩
 | .cons .str r, p, k, vs, ⟨l, h, h'⟩ => ⟨.string ByteArray.empty, l, h, xX.2 rfl, wg r p (k + 1) l h'⟩
 | .cons (.sl q) r, p, k, vs, ⟨l, h, h'⟩ => ⟨.slice none 0 0, l, h, (v7 _ _ _ _ _ _).2 ⟨.nil, ⟨rfl, rfl⟩, rfl, .inl ⟨rfl, rfl⟩⟩, wg r p (k + 1) l h'⟩
theorem dN.replicate {w : World} {P : List Nat → Nat → Prop} {r : RT} {vs : List Value} {x : aq r} (h : ∀ i, eM w P r [i] 0 vs x) : (n i : Nat) → dN w P r i ((List.replicate n vs).flatten) (List.replicate n x)
 | 0, _ => rfl
 | n + 1, i => ⟨vs, (List.replicate n vs).flatten, by simp [List.replicate_succ], h i, dN.replicate h n (i + 1)⟩
theorem E9 {P : Program} {T : lZ} (hT : gX P T) {w0 : World} {mu : Mu} {c : Cz} {AD : St} {a : Act} {w : World} (h1 : Rel w0 mu c AD a w)
   {t ty : Nat} {r : RT} {bytes : Nat} (ht : T.elem t = some (r, bytes)) {ux uy : Value} {xs ys : List (aq r)} {vx vy : List Value} {PX PY : List Nat → Nat → Prop} {g : Nat → List Nat} {xb : Option Nat} {d : Nat} {s0 : Sl} (jb : nth AD d = some s0) (hd : d < a.tmps.size)
   (hb : (xs.length + ys.length) * bytes ≤ lim) (IQ : dN w PX r 0 vx xs) (GZ : dN w PY r 0 vy ys)
   (hPX : ∀ i q k, PX ([i] ++ q) k → xb ≠ some k ∧ c.own k = some (.sp d 0) ∧ g k = [i] ++ q) (hPY : ∀ i q k, PY ([i] ++ q) k → xb ≠ some k ∧ c.own k = some (.sp d 0) ∧ g k = [i + xs.length] ++ q)
   (hy : (ys.length = 0 ∧ (uy = .slice none 0 0 ∨ ∃ a c, uy = .slice (some a) 0 c)) ∨ (ys.length ≠ 0 ∧ ∃ a c, uy = .slice (some a) ys.length c ∧ ∀ (j : Nat) v, vy[j]? = some v → w.cell? (a.add j) = some v))
   (Lv : ∀ b, xb = some b → c.own b = some (.sp d 0))
   (hx : (xb = none ∧ ux = .slice none 0 0 ∧ xs.length = 0) ∨ ∃ b off lo cap n ad cur te, xb = some b ∧ ux = .slice (some ad) xs.length n ∧ xs.length ≤ n ∧ lo + n ≤ cap ∧ (n ≠ 0 → ad = ⟨b, off + lo * r.width, none⟩) ∧
     w.heap[b]? = some (.cells cur te (0, 0)) ∧ off + cap * r.width ≤ cur.size ∧ w.rangeAt b (off + lo * r.width) vx) :
   ∃ v w', (Builtin.append_ #[t, t] ty #[ux, uy]).run P w = .ok v w' ∧
     ∃ c', Rel w0 mu c' (nA (fun s => { s with v := .one (.ref d 0 (s0.ag + 1) .full), aP := [some { r := r, own := true, xs := xs ++ ys, md := .dp }], ag := s0.ag + 1 }) AD d) (a.put (some d) v) w' := by
 obtain ⟨v, w', pJ, s4, CU⟩ := x3 hT (ty := ty) ht hb (dN.length 0 vx xs IQ) (dN.length 0 vy ys GZ) (dN.j2 0 vy ys GZ) hy hx; refine ⟨v, w', pJ, ?_⟩; rcases CU with ⟨e1, e2, rfl, rfl⟩ | ⟨B, o, cp, cur, te, v1, v2, hle, hg, mm, hr, sB, hB⟩
 · have : xs = [] := List.length_eq_zero_iff.1 e1; subst this; have : ys = [] := List.length_eq_zero_iff.1 e2; subst this; refine ⟨c.bX d .nil none, h1.place (B := w'.heap.size) (A := { r := r, own := true, xs := [] ++ [], md := .dp }) jb hd rfl ?_ (fun k _ => by simp [Cz.bX]) (.inr ⟨by simp [Cz.bX], rfl⟩) (.inl (Nat.le_refl _)) ?_ (fun _ _ _ => rfl) ⟨rfl, rfl, rfl, Nat.le_refl _⟩ ?_ rfl ?_⟩
   · intro s j gW; simp [Cz.bX, gW]
   · intro hc; simp [Cz.bX] at hc; have := h1.qi hc; omega
   · unfold cz; simp [Cz.bX]
   · simp [Cz.bX, jJ]
 · have Nv : B < w'.heap.size := (Array.getElem?_eq_some_iff.1 hg).1; have KB : w.heap.size ≤ B ∨ ∃ s j, c.own B = some (.sp s j) ∧ (s = d ∨ ∀ sl A, nth AD s = some sl → nth sl.aP j ≠ some (some A)) := by
     rcases hB with hB | hB
     · exact .inl hB
     · exact .inr ⟨d, 0, Lv B hB, .inl rfl⟩
   have gW : ∀ k, c.own k = some (.sp d 0) → xb ≠ some k → k ≠ B := by
     rintro k hk hx rfl
     rcases hB with hB | hB
     · have := h1.qi hk; omega
     · exact hx hB
   refine ⟨c.bX d (.at B o cp) (some B), h1.place (B := B) (A := { r := r, own := true, xs := xs ++ ys, md := .dp }) jb hd rfl ?_ ?_ (.inl (by simp [Cz.bX])) KB (fun _ => Nv) sB s4 ?_ v1 ?_⟩
   · intro s j gW; simp [Cz.bX, gW]
   · intro k hk; simp only [Cz.bX]; rw [if_neg (by intro e'; exact hk (Option.some.inj e').symm)]
   · unfold cz; simp only [Cz.bX, and_self, if_true]; refine ⟨trivial, by simpa using hle, ⟨cur, te, hg, mm⟩, fun k => if k = B then [] else g k, by simp, ?_⟩; have go : ∀ (PP : List Nat → Nat → Prop) (sh : Nat), (∀ i q k, PP ([i] ++ q) k → xb ≠ some k ∧ c.own k = some (.sp d 0) ∧ g k = [i + sh] ++ q) → ∀ i q k, PP ([i] ++ q) k → w'.heap[k]? = w.heap[k]? ∧
         ((if B = k then some (Lb.sp d 0) else c.own k) = some (.sp d 0) ∧ (if k = B then [] else g k) = [i + sh] ++ q) := by
       intro PP sh hPP i q k hk; obtain ⟨q1, q2, q3⟩ := hPP i q k hk; have := gW k q2 q1; refine ⟨sB k (h1.qi q2) this, ?_, by rw [if_neg this]; exact q3⟩; rw [if_neg (fun e => this e.symm)]; exact q2
     have hD := dN.append 0 vx vy xs ys (dN.go (w' := w') (P' := fun p k => (if B = k then some (Lb.sp d 0) else c.own k) = some (.sp d 0) ∧ (if k = B then [] else g k) = p) 0 (go PX 0 (fun i q k hk => hPX i q k hk)) 0 vx xs IQ) (by
       rw [Nat.zero_add]; have := dN.go (w' := w') (P' := fun p k => (if B = k then some (Lb.sp d 0) else c.own k) = some (.sp d 0) ∧ (if k = B then [] else g k) = p) xs.length (go PY xs.length hPY) 0 vy ys GZ
       rwa [Nat.zero_add] at this)
     have := we o 0 (vx ++ vy) (xs ++ ys) hD hr; intro i x hx; have h2 := this i x hx; rw [Nat.zero_add] at h2; simpa using h2
   · simp only [Cz.bX, and_self, if_true, List.length_append]; exact v2
end Go.TM
