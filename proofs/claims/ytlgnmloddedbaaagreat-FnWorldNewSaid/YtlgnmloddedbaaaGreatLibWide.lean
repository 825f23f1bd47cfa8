/- Library functions that hand back an array of their own; rows of several cells copied. -/
import Derived.Test.YtlgnmloddedbaaaGreatTm4
import Derived.Shelf.Spec.SlicesInsertGrow
import Derived.Deep.Upon
set_option linter.unusedSimpArgs false
set_option linter.unusedVariables false
namespace Go.TM
open Go Go.RowKit Go.Proofs Go.Lib
end Go.TM
