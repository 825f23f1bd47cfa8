/- Sizes, copies, sameness: what the laws' own helping functions answer. -/
import Derived.Test.YtlgnmloddedbaaaGreatAF1
set_option linter.unusedSimpArgs false
set_option linter.unusedVariables false
namespace Go.TM
open Go
def W_i (_ : Int × Unit) : Nat := 0
def W_iLiE (x : Int × L_i × Unit) : Nat := (List.length x.2.1 + wl W_i x.2.1)
end Go.TM
