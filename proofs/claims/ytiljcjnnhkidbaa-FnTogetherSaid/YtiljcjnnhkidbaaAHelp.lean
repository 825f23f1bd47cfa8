/- Sizes, copies, sameness: what the laws' own helping functions answer. -/
import Derived.Test.YtiljcjnnhkidbaaAF1
set_option linter.unusedSimpArgs false
set_option linter.unusedVariables false
namespace Go.TM
open Go
def W_iiis (x : R_iiis) : Nat := ByteArray.size x.2.2.2.1
def W_iiiLiiisE (x : R_iiiLiiisE) : Nat := (List.length x.2.2.2.1 + wl W_iiis x.2.2.2.1)
end Go.TM
