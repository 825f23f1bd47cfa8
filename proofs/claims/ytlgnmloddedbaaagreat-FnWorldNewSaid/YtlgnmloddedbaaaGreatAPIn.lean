/- Is it among them? of the program and of the reference. -/
import Derived.Test.YtlgnmloddedbaaaGreatAPRing
set_option linter.unusedSimpArgs false
set_option linter.unusedVariables false
namespace Go.TM
open Go
end Go.TM
