/- Right tokens, of the program and of the reference; copies of them. -/
import Derived.Test.YtiljcjnnhkidbaaAPIn
set_option linter.unusedSimpArgs false
set_option linter.unusedVariables false
namespace Go.TM
open Go
def WantsP (c2 : Int) (xs : List (Int × Unit)) (n : Nat) : Prop := ∀ k (h : k < xs.length), k < n → 1 ≤ xs[k].1 ∧ xs[k].1 ≤ c2 ∧ ∀ h0 : 0 < k, xs[k - 1].1 < xs[k].1
def TokP (c0 c1 c2 c3 c4 : Int) (xs : List (Int × Unit)) : Prop := (1 ≤ c0 ∧ c0 ≤ 9) ∧ (1 ≤ c1 ∧ c1 ≤ 1000000000) ∧ (0 ≤ c2 ∧ c2 ≤ 60) ∧ (0 ≤ c3 ∧ c3 ≤ c2) ∧ (0 ≤ c4 ∧ c4 ≤ 5) ∧ xs.length ≤ 20 ∧ WantsP c2 xs xs.length
end Go.TM
