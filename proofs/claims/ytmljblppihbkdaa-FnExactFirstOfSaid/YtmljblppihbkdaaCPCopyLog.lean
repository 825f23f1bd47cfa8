/- Copies of logs, of the program and of the reference. -/
import Derived.Test.YtmljblppihbkdaaCPItems
set_option linter.unusedSimpArgs false
set_option linter.unusedVariables false
namespace Go.TM
open Go

abbrev EvR : Type := Int × Int × (List (Int × Unit)) × Int × Int × Int × ByteArray × (List (Int × Unit)) × Unit

theorem events_len (xs : List EvR) {k : Nat} (hk : k < xs.length) (h : xs.length + wl W_iiLiEiiisLiE xs ≤ 1048576) : xs[k].2.2.1.length ≤ 1048576 ∧ xs[k].2.2.2.2.2.2.2.1.length ≤ 1048576 := by
  have hw := wl_mem W_iiLiEiiisLiE xs xs[k] (List.getElem_mem hk)
  have : W_iiLiEiiisLiE xs[k] = (List.length xs[k].2.2.1 + wl W_i xs[k].2.2.1) + ByteArray.size xs[k].2.2.2.2.2.2.1 + (List.length xs[k].2.2.2.2.2.2.2.1 + wl W_i xs[k].2.2.2.2.2.2.2.1) := rfl
  omega
end Go.TM
