/- Copies of logs, of the program and of the reference. -/
import Derived.Test.YtiljcjnnhkidbaaCPItems
set_option linter.unusedSimpArgs false
set_option linter.unusedVariables false
namespace Go.TM
open Go
end Go.TM
