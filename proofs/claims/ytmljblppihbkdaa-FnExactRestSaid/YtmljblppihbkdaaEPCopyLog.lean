/- Copies of logs, of the program and of the reference. -/
import Derived.Test.YtmljblppihbkdaaEPItems
set_option linter.unusedSimpArgs false
set_option linter.unusedVariables false
namespace Go.TM
open Go

abbrev EvR : Type := Int × Int × (List (Int × Unit)) × Int × Int × Int × ByteArray × (List (Int × Unit)) × Unit

end Go.TM
