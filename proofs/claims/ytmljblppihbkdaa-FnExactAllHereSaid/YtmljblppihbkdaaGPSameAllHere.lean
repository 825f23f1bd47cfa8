/- AllHere, of the program and of the reference. -/
import Derived.Test.YtmljblppihbkdaaGPAllHere
set_option linter.unusedSimpArgs false
set_option linter.unusedVariables false
namespace Go.TM
open Go

theorem same_AllHere (r0c0 : Int) (r0c1 : List (Int × Unit)) (list1 : List R_iiiLiiisE) (h0 : (List.length r0c1 + wl W_i r0c1) ≤ 1048576) (h1 : (List.length list1 + wl W_iiiLiiisE list1) ≤ 1048576) : ∃ o0, spec_AllHere r0c0 r0c1 list1 = some (o0, ()) ∧ impl_AllHere r0c0 r0c1 list1 = some (o0, ()) := by
  obtain ⟨k1, k2⟩ := allHere_same (((r0c0, r0c1, ())).1) (((r0c0, r0c1, ())).2.1) list1 (by show List.length r0c1 ≤ _; omega) h1
  exact ⟨_, k1, k2⟩

end Go.TM
