/- The laws of sameness, as terms. -/
import Derived.Test.YtmljblppihbkdaaBPWorldNew
set_option linter.unusedSimpArgs false
set_option linter.unusedVariables false
namespace Go.TM
open Go

theorem law_WorldNew (aRings0 : List R_iLiE) (hz0 : List.length aRings0 ≤ 9223372036854775807 ∧ ∀ y ∈ aRings0, Z_iLiE y) : laws_FnExactWorldNew aRings0 = some (true, ()) := by
  unfold laws_FnExactWorldNew
  obtain ⟨m0, e0, l0, w0⟩ := sz_RingS aRings0 (left := 1048576) hz0 (by omega) (by omega)
  rw [e0]
  simp only [Option.bind_some]
  by_cases hm0 : m0 < 0
  · rw [dec_true hm0]; rfl
  have w0 := w0 (by omega)
  rw [dec_false hm0]
  simp only [cond_false]
  have h_p0 : (List.length aRings0 + wl W_iLiE aRings0) ≤ 1048576 := by omega
  obtain ⟨o0, o1, o2, o3, o4, hsp, him, h_o0⟩ := same_WorldNew aRings0 h_p0
  obtain ⟨k1_0, e_k1, g_k1, n_k1_0⟩ := mh_RingS aRings0 (1) (by omega) (by omega)
  have e_k1 : laws_markRingS aRings0 (1 : Int) = some (((1 + wl MN_iLiE aRings0 : Nat) : Int), k1_0, ()) := e_k1
  have g_k1 : laws_heldRingS k1_0 (1 : Int) = some (((1 + wl MN_iLiE aRings0 : Nat) : Int), ()) := g_k1
  obtain ⟨k2_0, k2_1, k2_2, k2_3, e_k2, g_k2, n_k2_0, n_k2_1, n_k2_2, n_k2_3⟩ := mh_World o0 o1 o2 o3 (1) (by omega) (by omega) (by omega) (by omega) (by omega)
  have e_k2 : laws_markWorld o0 o1 o2 o3 (1 : Int) = some (((1 + wl MN_iLiE o0 + wl MN_ibiiLiELiiisELiELsEiiiiiiiiiLiEiiiLiELiiiLiiisEELiiLiEiiisLiEE o1 + wl MN_iiiiiisiiiiiLiEiiiLiiisE o2 + wl MN_iiLiEiiisLiE o3 : Nat) : Int), k2_0, k2_1, k2_2, k2_3, ()) := e_k2
  have g_k2 : laws_heldWorld k2_0 k2_1 k2_2 k2_3 (1 : Int) = some (((1 + wl MN_iLiE o0 + wl MN_ibiiLiELiiisELiELsEiiiiiiiiiLiEiiiLiELiiiLiiisEELiiLiEiiisLiEE o1 + wl MN_iiiiiisiiiiiLiEiiiLiiisE o2 + wl MN_iiLiEiiisLiE o3 : Nat) : Int), ()) := g_k2
  simp only [to_RingS aRings0 (Nat.le_trans h_p0 (by decide)), hsp, him, eq_World o0 o1 o2 o3 h_o0, eq_RingS aRings0 (Nat.le_trans h_p0 (by decide)), e_k1, g_k1, dec_false (show ¬ ((1 + wl MN_iLiE aRings0 : Nat) : Int) < 0 by omega), e_k2, g_k2, dec_false (show ¬ ((1 + wl MN_iLiE o0 + wl MN_ibiiLiELiiisELiELsEiiiiiiiiiLiEiiiLiELiiiLiiisEELiiLiEiiisLiEE o1 + wl MN_iiiiiisiiiiiLiEiiiLiiisE o2 + wl MN_iiLiEiiisLiE o3 : Nat) : Int) < 0 by omega), Option.bind_some, cond_false, cond_true, Bool.not_true, Bool.not_false, decide_true, beq_self_eq_true, strEq_self]

end Go.TM
