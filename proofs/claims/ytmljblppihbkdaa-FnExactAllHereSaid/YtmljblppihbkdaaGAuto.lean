/- The laws of sameness, as terms. -/
import Derived.Test.YtmljblppihbkdaaGPSameAllHere
set_option linter.unusedSimpArgs false
set_option linter.unusedVariables false
namespace Go.TM
open Go

theorem law_AllHere (aR0c0 : Int) (aR0c1 : List (Int × Unit)) (aList1 : List R_iiiLiiisE) (hz0 : Z_iLiE (aR0c0, aR0c1, ())) (hz1 : List.length aList1 ≤ 9223372036854775807 ∧ ∀ y ∈ aList1, Z_iiiLiiisE y) : laws_FnExactAllHere aR0c0 aR0c1 aList1 = some (true, ()) := by
  unfold laws_FnExactAllHere
  obtain ⟨m0, e0, l0, w0⟩ := sz_Ring aR0c0 aR0c1 (left := 1048576) hz0 (by omega) (by omega)
  rw [e0]
  simp only [Option.bind_some]
  by_cases hm0 : m0 < 0
  · rw [dec_true hm0]; rfl
  have w0 : 0 ≤ m0 → (((List.length aR0c1 + wl W_i aR0c1) : Nat) : Int) + m0 ≤ 1048576 := w0
  have w0 := w0 (by omega)
  rw [dec_false hm0]
  simp only [cond_false]
  have h_p0 : (List.length aR0c1 + wl W_i aR0c1) ≤ 1048576 := by omega
  obtain ⟨m1, e1, l1, w1⟩ := sz_BundleS aList1 (left := m0) hz1 (by omega) (by omega)
  rw [e1]
  simp only [Option.bind_some]
  by_cases hm1 : m1 < 0
  · rw [dec_true hm1]; rfl
  have w1 := w1 (by omega)
  rw [dec_false hm1]
  simp only [cond_false]
  have h_p1 : (List.length aList1 + wl W_iiiLiiisE aList1) ≤ 1048576 := by omega
  obtain ⟨o0, hsp, him⟩ := same_AllHere aR0c0 aR0c1 aList1 h_p0 h_p1
  simp only [to_Ring aR0c0 aR0c1 (Nat.le_trans h_p0 (by decide)), to_BundleS aList1 (Nat.le_trans h_p1 (by decide)), hsp, him, eq_Ring aR0c0 aR0c1 (Nat.le_trans h_p0 (by decide)), eq_BundleS aList1 (Nat.le_trans h_p1 (by decide)), Option.bind_some, cond_false, cond_true, Bool.not_true, Bool.not_false, decide_true, beq_self_eq_true, strEq_self]

end Go.TM
