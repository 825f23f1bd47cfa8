/- Marks: the texts that the laws write into what they mark. -/
import Derived.Test.YtlgnmloddedbaaaGreatAHelp
set_option linter.unusedSimpArgs false
set_option linter.unusedVariables false
namespace Go.TM
open Go
end Go.TM
