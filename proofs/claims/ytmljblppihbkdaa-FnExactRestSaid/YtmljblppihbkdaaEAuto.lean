/- The laws of sameness, as terms. -/
import Derived.Test.YtmljblppihbkdaaEPSameRest
set_option linter.unusedSimpArgs false
set_option linter.unusedVariables false
namespace Go.TM
open Go

theorem law_Rest (aR0c0 : Int) (aR0c1 : List (Int × Unit)) (aList1 : List R_iiiLiiisE) (aId2 : Int) (aHeard3 : Int) (hz0 : Z_iLiE (aR0c0, aR0c1, ())) (hz1 : List.length aList1 ≤ 9223372036854775807 ∧ ∀ y ∈ aList1, Z_iiiLiiisE y) : laws_FnExactRest aR0c0 aR0c1 aList1 aId2 aHeard3 = some (true, ()) := by
  unfold laws_FnExactRest
  obtain ⟨m0, e0, l0, w0⟩ := sz_Ring aR0c0 aR0c1 (left := 1048576) hz0 (by omega) (by omega)
  rw [e0]
  simp only [Option.bind_some]
  by_cases hm0 : m0 < 0
  · rw [dec_true hm0]; rfl
  have w0 : 0 ≤ m0 → (((List.length aR0c1 + wl W_i aR0c1) : Nat) : Int) + m0 ≤ 1048576 := w0
  have w0 := w0 (by omega)
  rw [dec_false hm0]
  simp only [cond_false]
  have h_p0 : (List.length aR0c1 + wl W_i aR0c1) ≤ 1048576 := by omega
  obtain ⟨m1, e1, l1, w1⟩ := sz_BundleS aList1 (left := m0) hz1 (by omega) (by omega)
  rw [e1]
  simp only [Option.bind_some]
  by_cases hm1 : m1 < 0
  · rw [dec_true hm1]; rfl
  have w1 := w1 (by omega)
  rw [dec_false hm1]
  simp only [cond_false]
  have h_p1 : (List.length aList1 + wl W_iiiLiiisE aList1) ≤ 1048576 := by omega
  obtain ⟨o0, hsp, him, h_o0⟩ := same_Rest aR0c0 aR0c1 aList1 aId2 aHeard3 h_p0 h_p1
  obtain ⟨k1_0, e_k1, n_k1_0⟩ := mh_Ring aR0c0 aR0c1 (1) (by omega) (by omega)
  have e_k1 : laws_markRing aR0c0 aR0c1 (1 : Int) = some (((1 + 1 * List.length aR0c1 : Nat) : Int), k1_0, ()) := e_k1
  obtain ⟨k2_0, e_k2, n_k2_0⟩ := mh_BundleS aList1 (1 + 1 * List.length aR0c1) (by omega) (by omega)
  obtain ⟨k3_0, e_k3, g_k3, n_k3_0⟩ := mh_ItemS o0 (1) (by omega) (by omega)
  have e_k3 : laws_markItemS o0 (1 : Int) = some (((1 + 4 * List.length o0 : Nat) : Int), k3_0, ()) := e_k3
  have g_k3 : laws_heldItemS k3_0 (1 : Int) = some (((1 + 4 * List.length o0 : Nat) : Int), ()) := g_k3
  simp only [to_Ring aR0c0 aR0c1 (Nat.le_trans h_p0 (by decide)), to_BundleS aList1 (Nat.le_trans h_p1 (by decide)), hsp, him, eq_ItemS o0 (Nat.le_trans h_o0 (by decide)), eq_Ring aR0c0 aR0c1 (Nat.le_trans h_p0 (by decide)), eq_BundleS aList1 (Nat.le_trans h_p1 (by decide)), e_k1, dec_false (show ¬ ((1 + 1 * List.length aR0c1 : Nat) : Int) < 0 by omega), e_k2, dec_false (show ¬ ((1 + 1 * List.length aR0c1 + wl MN_iiiLiiisE aList1 : Nat) : Int) < 0 by omega), e_k3, g_k3, dec_false (show ¬ ((1 + 4 * List.length o0 : Nat) : Int) < 0 by omega), Option.bind_some, cond_false, cond_true, Bool.not_true, Bool.not_false, decide_true, beq_self_eq_true, strEq_self]

end Go.TM
