/- The laws of sameness, as terms. -/
import Derived.Test.YtmljblppihbkdaaGreatBPSameSayDaemon
set_option linter.unusedSimpArgs false
set_option linter.unusedVariables false
namespace Go.TM
open Go

theorem law_SayDaemon (aD0c0 : Int) (aD0c1 : Bool) (aD0c2 : Int) (aD0c3 : Int) (aD0c4 : List (Int × Unit)) (aD0c5 : List R_iiis) (aD0c6 : List (Int × Unit)) (aD0c7 : List (ByteArray × Unit)) (aD0c8 : Int) (aD0c9 : Int) (aD0c10 : Int) (aD0c11 : Int) (aD0c12 : Int) (aD0c13 : Int) (aD0c14 : Int) (aD0c15 : Int) (aD0c16 : Int) (aD0c17 : List (Int × Unit)) (aD0c18 : Int) (aD0c19 : Int) (aD0c20 : Int) (aD0c21 : List (Int × Unit)) (aD0c22 : List R_iiiLiiisE) (aD0c23 : List R_iiLiEiiisLiE) (aLevel1 : Int) (aText2 : ByteArray) (hz0 : Z_ibiiLiELiiisELiELsEiiiiiiiiiLiEiiiLiELiiiLiiisEELiiLiEiiisLiEE (aD0c0, aD0c1, aD0c2, aD0c3, aD0c4, aD0c5, aD0c6, aD0c7, aD0c8, aD0c9, aD0c10, aD0c11, aD0c12, aD0c13, aD0c14, aD0c15, aD0c16, aD0c17, aD0c18, aD0c19, aD0c20, aD0c21, aD0c22, aD0c23, ())) (hz2 : ByteArray.size aText2 ≤ 9223372036854775807) : laws_FnExactSayDaemon aD0c0 aD0c1 aD0c2 aD0c3 aD0c4 aD0c5 aD0c6 aD0c7 aD0c8 aD0c9 aD0c10 aD0c11 aD0c12 aD0c13 aD0c14 aD0c15 aD0c16 aD0c17 aD0c18 aD0c19 aD0c20 aD0c21 aD0c22 aD0c23 aLevel1 aText2 = some (true, ()) := by
  unfold laws_FnExactSayDaemon
  by_cases hl2 : (1048576 : Int) < ((ByteArray.size aText2 : Nat) : Int)
  · rw [dec_true hl2]; rfl
  rw [dec_false hl2]
  simp only [cond_false]
  have h_p2 : ByteArray.size aText2 ≤ 1048576 := by omega
  obtain ⟨m0, e0, l0, w0⟩ := sz_Daemon aD0c0 aD0c1 aD0c2 aD0c3 aD0c4 aD0c5 aD0c6 aD0c7 aD0c8 aD0c9 aD0c10 aD0c11 aD0c12 aD0c13 aD0c14 aD0c15 aD0c16 aD0c17 aD0c18 aD0c19 aD0c20 aD0c21 aD0c22 aD0c23 (left := 1048576) hz0 (by omega) (by omega)
  rw [e0]
  simp only [Option.bind_some]
  by_cases hm0 : m0 < 0
  · rw [dec_true hm0]; rfl
  have w0 : 0 ≤ m0 → (((List.length aD0c4 + wl W_i aD0c4) + (List.length aD0c5 + wl W_iiis aD0c5) + (List.length aD0c6 + wl W_i aD0c6) + (List.length aD0c7 + wl W_s aD0c7) + (List.length aD0c17 + wl W_i aD0c17) + (List.length aD0c21 + wl W_i aD0c21) + (List.length aD0c22 + wl W_iiiLiiisE aD0c22) + (List.length aD0c23 + wl W_iiLiEiiisLiE aD0c23) : Nat) : Int) + m0 ≤ 1048576 := w0
  have w0 := w0 (by omega)
  rw [dec_false hm0]
  simp only [cond_false]
  have h_p0 : (List.length aD0c4 + wl W_i aD0c4) + (List.length aD0c5 + wl W_iiis aD0c5) + (List.length aD0c6 + wl W_i aD0c6) + (List.length aD0c7 + wl W_s aD0c7) + (List.length aD0c17 + wl W_i aD0c17) + (List.length aD0c21 + wl W_i aD0c21) + (List.length aD0c22 + wl W_iiiLiiisE aD0c22) + (List.length aD0c23 + wl W_iiLiEiiisLiE aD0c23) ≤ 1048576 := by omega
  obtain ⟨o0, o1, o2, o3, o4, o5, o6, o7, o8, o9, o10, o11, o12, o13, o14, o15, o16, o17, o18, o19, o20, o21, o22, o23, o24, hsp, him, h_o0⟩ := same_SayDaemon aD0c0 aD0c1 aD0c2 aD0c3 aD0c4 aD0c5 aD0c6 aD0c7 aD0c8 aD0c9 aD0c10 aD0c11 aD0c12 aD0c13 aD0c14 aD0c15 aD0c16 aD0c17 aD0c18 aD0c19 aD0c20 aD0c21 aD0c22 aD0c23 aLevel1 aText2 h_p0 h_p2
  obtain ⟨k1_0, k1_1, k1_2, k1_3, k1_4, k1_5, k1_6, k1_7, e_k1, g_k1, n_k1_0, n_k1_1, n_k1_2, n_k1_3, n_k1_4, n_k1_5, n_k1_6, n_k1_7⟩ := mh_Daemon aD0c0 aD0c1 aD0c2 aD0c3 aD0c4 aD0c5 aD0c6 aD0c7 aD0c8 aD0c9 aD0c10 aD0c11 aD0c12 aD0c13 aD0c14 aD0c15 aD0c16 aD0c17 aD0c18 aD0c19 aD0c20 aD0c21 aD0c22 aD0c23 (1) (by omega) (by omega) (by omega) (by omega) (by omega) (by omega) (by omega) (by omega) (by omega)
  have e_k1 : laws_markDaemon aD0c0 aD0c1 aD0c2 aD0c3 aD0c4 aD0c5 aD0c6 aD0c7 aD0c8 aD0c9 aD0c10 aD0c11 aD0c12 aD0c13 aD0c14 aD0c15 aD0c16 aD0c17 aD0c18 aD0c19 aD0c20 aD0c21 aD0c22 aD0c23 (1 : Int) = some (((1 + 1 * List.length aD0c4 + 4 * List.length aD0c5 + 1 * List.length aD0c6 + 1 * List.length aD0c7 + 1 * List.length aD0c17 + 1 * List.length aD0c21 + wl MN_iiiLiiisE aD0c22 + wl MN_iiLiEiiisLiE aD0c23 : Nat) : Int), k1_0, k1_1, k1_2, k1_3, k1_4, k1_5, k1_6, k1_7, ()) := e_k1
  have g_k1 : laws_heldDaemon aD0c0 aD0c1 aD0c2 aD0c3 k1_0 k1_1 k1_2 k1_3 aD0c8 aD0c9 aD0c10 aD0c11 aD0c12 aD0c13 aD0c14 aD0c15 aD0c16 k1_4 aD0c18 aD0c19 aD0c20 k1_5 k1_6 k1_7 (1 : Int) = some (((1 + 1 * List.length aD0c4 + 4 * List.length aD0c5 + 1 * List.length aD0c6 + 1 * List.length aD0c7 + 1 * List.length aD0c17 + 1 * List.length aD0c21 + wl MN_iiiLiiisE aD0c22 + wl MN_iiLiEiiisLiE aD0c23 : Nat) : Int), ()) := g_k1
  obtain ⟨k2_0, k2_1, k2_2, k2_3, k2_4, k2_5, k2_6, k2_7, e_k2, g_k2, n_k2_0, n_k2_1, n_k2_2, n_k2_3, n_k2_4, n_k2_5, n_k2_6, n_k2_7⟩ := mh_Daemon o0 o1 o2 o3 o4 o5 o6 o7 o8 o9 o10 o11 o12 o13 o14 o15 o16 o17 o18 o19 o20 o21 o22 o23 (1) (by omega) (by omega) (by omega) (by omega) (by omega) (by omega) (by omega) (by omega) (by omega)
  have e_k2 : laws_markDaemon o0 o1 o2 o3 o4 o5 o6 o7 o8 o9 o10 o11 o12 o13 o14 o15 o16 o17 o18 o19 o20 o21 o22 o23 (1 : Int) = some (((1 + 1 * List.length o4 + 4 * List.length o5 + 1 * List.length o6 + 1 * List.length o7 + 1 * List.length o17 + 1 * List.length o21 + wl MN_iiiLiiisE o22 + wl MN_iiLiEiiisLiE o23 : Nat) : Int), k2_0, k2_1, k2_2, k2_3, k2_4, k2_5, k2_6, k2_7, ()) := e_k2
  have g_k2 : laws_heldDaemon o0 o1 o2 o3 k2_0 k2_1 k2_2 k2_3 o8 o9 o10 o11 o12 o13 o14 o15 o16 k2_4 o18 o19 o20 k2_5 k2_6 k2_7 (1 : Int) = some (((1 + 1 * List.length o4 + 4 * List.length o5 + 1 * List.length o6 + 1 * List.length o7 + 1 * List.length o17 + 1 * List.length o21 + wl MN_iiiLiiisE o22 + wl MN_iiLiEiiisLiE o23 : Nat) : Int), ()) := g_k2
  simp only [to_Daemon aD0c0 aD0c1 aD0c2 aD0c3 aD0c4 aD0c5 aD0c6 aD0c7 aD0c8 aD0c9 aD0c10 aD0c11 aD0c12 aD0c13 aD0c14 aD0c15 aD0c16 aD0c17 aD0c18 aD0c19 aD0c20 aD0c21 aD0c22 aD0c23 (Nat.le_trans h_p0 (by decide)), hsp, him, eq_Daemon o0 o1 o2 o3 o4 o5 o6 o7 o8 o9 o10 o11 o12 o13 o14 o15 o16 o17 o18 o19 o20 o21 o22 o23 h_o0, eq_Daemon aD0c0 aD0c1 aD0c2 aD0c3 aD0c4 aD0c5 aD0c6 aD0c7 aD0c8 aD0c9 aD0c10 aD0c11 aD0c12 aD0c13 aD0c14 aD0c15 aD0c16 aD0c17 aD0c18 aD0c19 aD0c20 aD0c21 aD0c22 aD0c23 (Nat.le_trans h_p0 (by decide)), e_k1, g_k1, dec_false (show ¬ ((1 + 1 * List.length aD0c4 + 4 * List.length aD0c5 + 1 * List.length aD0c6 + 1 * List.length aD0c7 + 1 * List.length aD0c17 + 1 * List.length aD0c21 + wl MN_iiiLiiisE aD0c22 + wl MN_iiLiEiiisLiE aD0c23 : Nat) : Int) < 0 by omega), e_k2, g_k2, dec_false (show ¬ ((1 + 1 * List.length o4 + 4 * List.length o5 + 1 * List.length o6 + 1 * List.length o7 + 1 * List.length o17 + 1 * List.length o21 + wl MN_iiiLiiisE o22 + wl MN_iiLiEiiisLiE o23 : Nat) : Int) < 0 by omega), Option.bind_some, cond_false, cond_true, Bool.not_true, Bool.not_false, decide_true, beq_self_eq_true, strEq_self]

end Go.TM
