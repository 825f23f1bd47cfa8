/- Drawn places. -/
import Derived.Test.YtjpnmeenmkidpaaPDraw
set_option linter.unusedSimpArgs false
set_option linter.unusedVariables false
namespace Go.TM
open Go


end Go.TM
