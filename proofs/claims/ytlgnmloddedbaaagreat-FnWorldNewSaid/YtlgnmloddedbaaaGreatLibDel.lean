/- slices.Delete at rows of several cells: what its parts do. -/
import Derived.Test.YtlgnmloddedbaaaGreatLibSort
import Derived.Lib.SlicesDelete
import Derived.Lib.SliceRun
import Derived.Deep.RegionLaw
import Derived.Shelf.RegionOpenPlain
import Derived.Sort.WalkB12
set_option linter.unusedSimpArgs false
set_option linter.unusedVariables false
namespace Go.TM
open Go Go.RowKit Go.Proofs Go.Lib
end Go.TM
