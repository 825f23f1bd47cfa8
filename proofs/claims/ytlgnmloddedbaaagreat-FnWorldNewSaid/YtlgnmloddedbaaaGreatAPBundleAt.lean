/- The first right bundle of a daemon for a ring; those who go on together. -/
import Derived.Test.YtlgnmloddedbaaaGreatAPItems
set_option linter.unusedSimpArgs false
set_option linter.unusedVariables false
namespace Go.TM
open Go
abbrev BunR : Type := Int × Int × Int × ItemL × Unit
end Go.TM
