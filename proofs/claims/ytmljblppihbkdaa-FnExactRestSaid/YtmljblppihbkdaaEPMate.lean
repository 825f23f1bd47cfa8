/- MateOk, of the program and of the reference. -/
import Derived.Test.YtmljblppihbkdaaEPBundleAt
set_option linter.unusedSimpArgs false
set_option linter.unusedVariables false
namespace Go.TM
open Go

def LevOk (l : List (Int × Unit)) (n : Nat) : Prop := ∀ j (h : j < l.length), j < n → (decide (1 ≤ l[j].1) && decide (l[j].1 ≤ 2)) = true
def ShortOk (l : List (ByteArray × Unit)) (n : Nat) : Prop := ∀ j (h : j < l.length), j < n → ByteArray.size l[j].1 ≤ 60

def TextsOut (lv : List (Int × Unit)) (tx : List (ByteArray × Unit)) : Sum (List (Int × Unit) × List (ByteArray × Unit) × Unit) (Bool × Unit) → Prop
  | .inl y => y = (lv, tx, ()) ∧ LevOk lv (min lv.length tx.length) ∧ ShortOk tx (min lv.length tx.length)
  | .inr b => b.1 = false ∧ ¬ (LevOk lv (min lv.length tx.length) ∧ ShortOk tx (min lv.length tx.length))

abbrev MateR : Type := Int × Int × (List (Int × Unit)) × ItemL × (List (Int × Unit)) × (List (ByteArray × Unit)) × Int × Int × Int × Int × Int × Int × Int × Int × Int × (List (Int × Unit)) × Unit
def LevOut (m : MateR) (lv : List (Int × Unit)) : Sum MateR (Bool × Unit) → Prop
  | .inl y => y = m ∧ LevOk lv lv.length
  | .inr b => b.1 = false ∧ ¬ LevOk lv lv.length

end Go.TM
