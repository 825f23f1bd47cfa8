/- Marks of rows that hold slices: the loops of the laws' marks, said once. -/
import Derived.Test.YtiljcjnnhkidbaaAPMarkText
set_option linter.unusedSimpArgs false
set_option linter.unusedVariables false
namespace Go.TM
open Go
theorem decT {p : Prop} {i : Decidable p} (h : p) : @decide p i = true := decide_eq_true h
theorem decF {p : Prop} {i : Decidable p} (h : ¬ p) : @decide p i = false := decide_eq_false h
end Go.TM
