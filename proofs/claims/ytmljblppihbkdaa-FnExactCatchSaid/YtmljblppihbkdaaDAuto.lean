/- The laws of sameness, as terms. -/
import Derived.Test.YtmljblppihbkdaaDPSameCatch
set_option linter.unusedSimpArgs false
set_option linter.unusedVariables false
namespace Go.TM
open Go

theorem law_Catch (aM0c0 : Int) (aM0c1 : Int) (aM0c2 : List (Int × Unit)) (aM0c3 : List R_iiis) (aM0c4 : List (Int × Unit)) (aM0c5 : List (ByteArray × Unit)) (aM0c6 : Int) (aM0c7 : Int) (aM0c8 : Int) (aM0c9 : Int) (aM0c10 : Int) (aM0c11 : Int) (aM0c12 : Int) (aM0c13 : Int) (aM0c14 : Int) (aM0c15 : List (Int × Unit)) (aX1c0 : Int) (aX1c1 : Int) (aX1c2 : Int) (aX1c3 : ByteArray) (hz0 : Z_iiLiELiiisELiELsEiiiiiiiiiLiE (aM0c0, aM0c1, aM0c2, aM0c3, aM0c4, aM0c5, aM0c6, aM0c7, aM0c8, aM0c9, aM0c10, aM0c11, aM0c12, aM0c13, aM0c14, aM0c15, ())) (hz1 : Z_iiis (aX1c0, aX1c1, aX1c2, aX1c3, ())) : laws_FnExactCatch aM0c0 aM0c1 aM0c2 aM0c3 aM0c4 aM0c5 aM0c6 aM0c7 aM0c8 aM0c9 aM0c10 aM0c11 aM0c12 aM0c13 aM0c14 aM0c15 aX1c0 aX1c1 aX1c2 aX1c3 = some (true, ()) := by
  unfold laws_FnExactCatch
  obtain ⟨m0, e0, l0, w0⟩ := sz_Mate aM0c0 aM0c1 aM0c2 aM0c3 aM0c4 aM0c5 aM0c6 aM0c7 aM0c8 aM0c9 aM0c10 aM0c11 aM0c12 aM0c13 aM0c14 aM0c15 (left := 1048576) hz0 (by omega) (by omega)
  rw [e0]
  simp only [Option.bind_some]
  by_cases hm0 : m0 < 0
  · rw [dec_true hm0]; rfl
  have w0 : 0 ≤ m0 → (((List.length aM0c2 + wl W_i aM0c2) + (List.length aM0c3 + wl W_iiis aM0c3) + (List.length aM0c4 + wl W_i aM0c4) + (List.length aM0c5 + wl W_s aM0c5) + (List.length aM0c15 + wl W_i aM0c15) : Nat) : Int) + m0 ≤ 1048576 := w0
  have w0 := w0 (by omega)
  rw [dec_false hm0]
  simp only [cond_false]
  have h_p0 : (List.length aM0c2 + wl W_i aM0c2) + (List.length aM0c3 + wl W_iiis aM0c3) + (List.length aM0c4 + wl W_i aM0c4) + (List.length aM0c5 + wl W_s aM0c5) + (List.length aM0c15 + wl W_i aM0c15) ≤ 1048576 := by omega
  obtain ⟨m1, e1, l1, w1⟩ := sz_Item aX1c0 aX1c1 aX1c2 aX1c3 (left := m0) hz1 (by omega) (by omega)
  rw [e1]
  simp only [Option.bind_some]
  by_cases hm1 : m1 < 0
  · rw [dec_true hm1]; rfl
  have w1 : 0 ≤ m1 → ((ByteArray.size aX1c3 : Nat) : Int) + m1 ≤ m0 := w1
  have w1 := w1 (by omega)
  rw [dec_false hm1]
  simp only [cond_false]
  have h_p1 : ByteArray.size aX1c3 ≤ 1048576 := by omega
  obtain ⟨o0, o1, o2, o3, o4, o5, o6, o7, o8, o9, o10, o11, o12, o13, o14, o15, hsp, him, h_o0⟩ := same_Catch aM0c0 aM0c1 aM0c2 aM0c3 aM0c4 aM0c5 aM0c6 aM0c7 aM0c8 aM0c9 aM0c10 aM0c11 aM0c12 aM0c13 aM0c14 aM0c15 aX1c0 aX1c1 aX1c2 aX1c3 h_p0 h_p1
  obtain ⟨k1_0, k1_1, k1_2, k1_3, k1_4, e_k1, g_k1, n_k1_0, n_k1_1, n_k1_2, n_k1_3, n_k1_4⟩ := mh_Mate aM0c0 aM0c1 aM0c2 aM0c3 aM0c4 aM0c5 aM0c6 aM0c7 aM0c8 aM0c9 aM0c10 aM0c11 aM0c12 aM0c13 aM0c14 aM0c15 (1) (by omega) (by omega) (by omega) (by omega) (by omega) (by omega)
  have e_k1 : laws_markMate aM0c0 aM0c1 aM0c2 aM0c3 aM0c4 aM0c5 aM0c6 aM0c7 aM0c8 aM0c9 aM0c10 aM0c11 aM0c12 aM0c13 aM0c14 aM0c15 (1 : Int) = some (((1 + 1 * List.length aM0c2 + 4 * List.length aM0c3 + 1 * List.length aM0c4 + 1 * List.length aM0c5 + 1 * List.length aM0c15 : Nat) : Int), k1_0, k1_1, k1_2, k1_3, k1_4, ()) := e_k1
  have g_k1 : laws_heldMate aM0c0 aM0c1 k1_0 k1_1 k1_2 k1_3 aM0c6 aM0c7 aM0c8 aM0c9 aM0c10 aM0c11 aM0c12 aM0c13 aM0c14 k1_4 (1 : Int) = some (((1 + 1 * List.length aM0c2 + 4 * List.length aM0c3 + 1 * List.length aM0c4 + 1 * List.length aM0c5 + 1 * List.length aM0c15 : Nat) : Int), ()) := g_k1
  obtain ⟨k2_0, k2_1, k2_2, k2_3, k2_4, e_k2, g_k2, n_k2_0, n_k2_1, n_k2_2, n_k2_3, n_k2_4⟩ := mh_Mate o0 o1 o2 o3 o4 o5 o6 o7 o8 o9 o10 o11 o12 o13 o14 o15 (1) (by omega) (by omega) (by omega) (by omega) (by omega) (by omega)
  have e_k2 : laws_markMate o0 o1 o2 o3 o4 o5 o6 o7 o8 o9 o10 o11 o12 o13 o14 o15 (1 : Int) = some (((1 + 1 * List.length o2 + 4 * List.length o3 + 1 * List.length o4 + 1 * List.length o5 + 1 * List.length o15 : Nat) : Int), k2_0, k2_1, k2_2, k2_3, k2_4, ()) := e_k2
  have g_k2 : laws_heldMate o0 o1 k2_0 k2_1 k2_2 k2_3 o6 o7 o8 o9 o10 o11 o12 o13 o14 k2_4 (1 : Int) = some (((1 + 1 * List.length o2 + 4 * List.length o3 + 1 * List.length o4 + 1 * List.length o5 + 1 * List.length o15 : Nat) : Int), ()) := g_k2
  simp only [to_Mate aM0c0 aM0c1 aM0c2 aM0c3 aM0c4 aM0c5 aM0c6 aM0c7 aM0c8 aM0c9 aM0c10 aM0c11 aM0c12 aM0c13 aM0c14 aM0c15 (Nat.le_trans h_p0 (by decide)), to_Item aX1c0 aX1c1 aX1c2 aX1c3 (Nat.le_trans h_p1 (by decide)), hsp, him, eq_Mate o0 o1 o2 o3 o4 o5 o6 o7 o8 o9 o10 o11 o12 o13 o14 o15 (Nat.le_trans h_o0 (by decide)), eq_Mate aM0c0 aM0c1 aM0c2 aM0c3 aM0c4 aM0c5 aM0c6 aM0c7 aM0c8 aM0c9 aM0c10 aM0c11 aM0c12 aM0c13 aM0c14 aM0c15 (Nat.le_trans h_p0 (by decide)), e_k1, g_k1, dec_false (show ¬ ((1 + 1 * List.length aM0c2 + 4 * List.length aM0c3 + 1 * List.length aM0c4 + 1 * List.length aM0c5 + 1 * List.length aM0c15 : Nat) : Int) < 0 by omega), e_k2, g_k2, dec_false (show ¬ ((1 + 1 * List.length o2 + 4 * List.length o3 + 1 * List.length o4 + 1 * List.length o5 + 1 * List.length o15 : Nat) : Int) < 0 by omega), Option.bind_some, cond_false, cond_true, Bool.not_true, Bool.not_false, decide_true, beq_self_eq_true, strEq_self]

end Go.TM
