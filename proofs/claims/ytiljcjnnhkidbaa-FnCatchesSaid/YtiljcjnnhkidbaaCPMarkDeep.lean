/- Marks of rows that hold slices: the loops of the laws' marks, said once. -/
import Derived.Test.YtiljcjnnhkidbaaCPMarkText
set_option linter.unusedSimpArgs false
set_option linter.unusedVariables false
namespace Go.TM
open Go
end Go.TM
