/- Items, of the program and of the reference: right ones, the one of a number, how many without a hole. -/
import Derived.Test.YtlgnmloddedbaaaGreatAPToken
set_option linter.unusedSimpArgs false
set_option linter.unusedVariables false
namespace Go.TM
open Go
abbrev ItemR : Type := Int × Int × Int × ByteArray × Unit
abbrev ItemL : Type := List ItemR
end Go.TM
