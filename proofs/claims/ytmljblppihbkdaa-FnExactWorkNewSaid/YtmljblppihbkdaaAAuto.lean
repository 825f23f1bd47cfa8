/- The laws of sameness, as terms. -/
import Derived.Test.YtmljblppihbkdaaAPWorkNew
set_option linter.unusedSimpArgs false
set_option linter.unusedVariables false
namespace Go.TM
open Go

theorem law_WorkNew (aR0c0 : Int) (aR0c1 : List (Int × Unit)) (hz0 : Z_iLiE (aR0c0, aR0c1, ())) : laws_FnExactWorkNew aR0c0 aR0c1 = some (true, ()) := by
  unfold laws_FnExactWorkNew
  obtain ⟨m0, e0, l0, w0⟩ := sz_Ring aR0c0 aR0c1 (left := 1048576) hz0 (by omega) (by omega)
  rw [e0]
  simp only [Option.bind_some]
  by_cases hm0 : m0 < 0
  · rw [dec_true hm0]; rfl
  have w0 : 0 ≤ m0 → (((List.length aR0c1 + wl W_i aR0c1) : Nat) : Int) + m0 ≤ 1048576 := w0
  have w0 := w0 (by omega)
  rw [dec_false hm0]
  simp only [cond_false]
  have h_p0 : (List.length aR0c1 + wl W_i aR0c1) ≤ 1048576 := by omega
  obtain ⟨o0, o1, o2, o3, o4, o5, o6, hsp, him, h_o0⟩ := same_WorkNew aR0c0 aR0c1 h_p0
  obtain ⟨k1_0, e_k1, g_k1, n_k1_0⟩ := mh_Ring aR0c0 aR0c1 (1) (by omega) (by omega)
  have e_k1 : laws_markRing aR0c0 aR0c1 (1 : Int) = some (((1 + 1 * List.length aR0c1 : Nat) : Int), k1_0, ()) := e_k1
  have g_k1 : laws_heldRing aR0c0 k1_0 (1 : Int) = some (((1 + 1 * List.length aR0c1 : Nat) : Int), ()) := g_k1
  obtain ⟨k2_0, k2_1, k2_2, k2_3, k2_4, e_k2, g_k2, n_k2_0, n_k2_1, n_k2_2, n_k2_3, n_k2_4⟩ := mh_Work o0 o1 o2 o3 o4 o5 (1) (by omega) (by omega) (by omega) (by omega) (by omega) (by omega)
  have e_k2 : laws_markWork o0 o1 o2 o3 o4 o5 (1 : Int) = some (((1 + 1 * List.length o1 + wl MN_iiLiELiiisELiELsEiiiiiiiiiLiE o2 + wl MN_ibiiiiiLiEiiis o3 + wl MN_LiiisE o4 + 4 * List.length o5 : Nat) : Int), k2_0, k2_1, k2_2, k2_3, k2_4, ()) := e_k2
  have g_k2 : laws_heldWork o0 k2_0 k2_1 k2_2 k2_3 k2_4 (1 : Int) = some (((1 + 1 * List.length o1 + wl MN_iiLiELiiisELiELsEiiiiiiiiiLiE o2 + wl MN_ibiiiiiLiEiiis o3 + wl MN_LiiisE o4 + 4 * List.length o5 : Nat) : Int), ()) := g_k2
  simp only [to_Ring aR0c0 aR0c1 (Nat.le_trans h_p0 (by decide)), hsp, him, eq_Work o0 o1 o2 o3 o4 o5 (Nat.le_trans h_o0 (by decide)), eq_Ring aR0c0 aR0c1 (Nat.le_trans h_p0 (by decide)), e_k1, g_k1, dec_false (show ¬ ((1 + 1 * List.length aR0c1 : Nat) : Int) < 0 by omega), e_k2, g_k2, dec_false (show ¬ ((1 + 1 * List.length o1 + wl MN_iiLiELiiisELiELsEiiiiiiiiiLiE o2 + wl MN_ibiiiiiLiEiiis o3 + wl MN_LiiisE o4 + 4 * List.length o5 : Nat) : Int) < 0 by omega), Option.bind_some, cond_false, cond_true, Bool.not_true, Bool.not_false, decide_true, beq_self_eq_true, strEq_self]

end Go.TM
