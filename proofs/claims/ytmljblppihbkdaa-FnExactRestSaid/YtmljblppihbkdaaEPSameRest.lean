/- Rest, of the program and of the reference. -/
import Derived.Test.YtmljblppihbkdaaEPRest
set_option linter.unusedSimpArgs false
set_option linter.unusedVariables false
namespace Go.TM
open Go

theorem same_Rest (r0c0 : Int) (r0c1 : List (Int × Unit)) (list1 : List R_iiiLiiisE) (id2 : Int) (heard3 : Int) (h0 : (List.length r0c1 + wl W_i r0c1) ≤ 1048576) (h1 : (List.length list1 + wl W_iiiLiiisE list1) ≤ 1048576) : ∃ o0, spec_Rest r0c0 r0c1 list1 id2 heard3 = some (o0, ()) ∧ impl_Rest r0c0 r0c1 list1 id2 heard3 = some (o0, ()) ∧ (List.length o0 + wl W_iiis o0) ≤ 1048576 := by
  obtain ⟨k1, k2⟩ := rest_same (((r0c0, r0c1, ())).1) (((r0c0, r0c1, ())).2.1) list1 id2 heard3 (by show List.length r0c1 ≤ _; omega) h1
  have hs := rest_small list1 (((r0c0, r0c1, ())).1) (((r0c0, r0c1, ())).2.1) id2 heard3 h1
  exact ⟨_, k1, k2, by omega⟩

end Go.TM
