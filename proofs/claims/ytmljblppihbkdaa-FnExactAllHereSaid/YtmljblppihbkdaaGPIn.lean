/- Is it among them? of the program and of the reference. -/
import Derived.Test.YtmljblppihbkdaaGPRing
set_option linter.unusedSimpArgs false
set_option linter.unusedVariables false
namespace Go.TM
open Go

/-- The one finds it where the other finds its place. -/
def InOut (e : Sum Unit (Bool × Unit)) (f : Sum Unit (Int × Unit)) : Prop := ∃ b, (e = .inl () ∧ f = .inl () ∧ b = false) ∨ (e = .inr (true, ()) ∧ (∃ k : Nat, f = .inr (((k : Nat) : Int), ())) ∧ b = true)

end Go.TM
