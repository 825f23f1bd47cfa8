/- Sizes, copies, sameness: what the laws' own helping functions answer. -/
import Derived.Test.YtiljcjnnhkidbaaCF2
set_option linter.unusedSimpArgs false
set_option linter.unusedVariables false
namespace Go.TM
open Go
def W_i (_ : Int × Unit) : Nat := 0
def W_iiis (x : R_iiis) : Nat := ByteArray.size x.2.2.2.1
def W_s (x : ByteArray × Unit) : Nat := ByteArray.size x.1
end Go.TM
