/- Right tokens, of the program and of the reference; copies of them. -/
import Derived.Test.YtlgnmloddedbaaaGreatAPIn
set_option linter.unusedSimpArgs false
set_option linter.unusedVariables false
namespace Go.TM
open Go
theorem clone_int (xs : List (Int × Unit)) (h : xs.length ≤ 1048576) : slices_Clone_int xs = some (xs, ()) := by
 unfold slices_Clone_int; rw [ble_true (show (0 + xs.length) * 8 ≤ lim by unfold lim; omega)]; rfl
end Go.TM
