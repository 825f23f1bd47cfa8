/- Is a number between two others? -/
import Derived.Test.YtfdfagkelakpnaaMk
set_option linter.unusedSimpArgs false
set_option linter.unusedVariables false
namespace Go.TM
open Go

theorem in_eq (a b c : Int) : spec_l01In a b c = some (decide (b ≤ a) && decide (a ≤ c), ()) := by
  unfold spec_l01In
  cases decide (b ≤ a) <;> rfl
theorem in_eq' (a b c : Int) : impl_inRange a b c = some (decide (b ≤ a) && decide (a ≤ c), ()) := by
  unfold impl_inRange
  cases decide (b ≤ a) <;> rfl

end Go.TM
