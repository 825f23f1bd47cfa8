/- The laws of sameness, as terms. -/
import Derived.Test.YtfdfagkelakpnaaPNumbered
set_option linter.unusedSimpArgs false
set_option linter.unusedVariables false
namespace Go.TM
open Go

theorem law_Give (aT0c0 : Int) (aT0c1 : Int) (aT0c2 : Int) (aT0c3 : Int) (aT0c4 : Int) (aT0c5 : List (Int × Unit)) (aList1 : List (Int × Int × Int × ByteArray × Unit)) (hz0 : Z_iiiiiLiE (aT0c0, aT0c1, aT0c2, aT0c3, aT0c4, aT0c5, ())) (hz1 : List.length aList1 ≤ 9223372036854775807 ∧ ∀ y ∈ aList1, Z_iiis y) : laws_FnExactGive aT0c0 aT0c1 aT0c2 aT0c3 aT0c4 aT0c5 aList1 = some (true, ()) := by
  unfold laws_FnExactGive
  obtain ⟨m0, e0, l0, w0⟩ := sz_Token aT0c0 aT0c1 aT0c2 aT0c3 aT0c4 aT0c5 (left := 1048576) hz0 (by omega) (by omega)
  rw [e0]
  simp only [Option.bind_some]
  by_cases hm0 : m0 < 0
  · rw [dec_true hm0]; rfl
  have w0 : 0 ≤ m0 → (((List.length aT0c5 + wl W_i aT0c5) : Nat) : Int) + m0 ≤ 1048576 := w0
  have w0 := w0 (by omega)
  rw [dec_false hm0]
  simp only [cond_false]
  have h_p0 : (List.length aT0c5 + wl W_i aT0c5) ≤ 1048576 := by omega
  obtain ⟨m1, e1, l1, w1⟩ := sz_ItemS aList1 (left := m0) hz1 (by omega) (by omega)
  rw [e1]
  simp only [Option.bind_some]
  by_cases hm1 : m1 < 0
  · rw [dec_true hm1]; rfl
  have w1 := w1 (by omega)
  rw [dec_false hm1]
  simp only [cond_false]
  have h_p1 : (List.length aList1 + wl W_iiis aList1) ≤ 1048576 := by omega
  obtain ⟨o0, hsp, him, h_o0⟩ := same_Give aT0c0 aT0c1 aT0c2 aT0c3 aT0c4 aT0c5 aList1 h_p0 h_p1
  obtain ⟨k1_0, e_k1, g_k1, n_k1_0⟩ := mh_Token aT0c0 aT0c1 aT0c2 aT0c3 aT0c4 aT0c5 (1) (by omega) (by omega)
  have e_k1 : laws_markToken aT0c0 aT0c1 aT0c2 aT0c3 aT0c4 aT0c5 (1 : Int) = some (((1 + 1 * List.length aT0c5 : Nat) : Int), k1_0, ()) := e_k1
  have g_k1 : laws_heldToken aT0c0 aT0c1 aT0c2 aT0c3 aT0c4 k1_0 (1 : Int) = some (((1 + 1 * List.length aT0c5 : Nat) : Int), ()) := g_k1
  obtain ⟨k2_0, e_k2, g_k2, n_k2_0⟩ := mh_ItemS aList1 (1 + 1 * List.length aT0c5) (by omega) (by omega)
  obtain ⟨k3_0, e_k3, g_k3, n_k3_0⟩ := mh_ItemS o0 (1) (by omega) (by omega)
  have e_k3 : laws_markItemS o0 (1 : Int) = some (((1 + 4 * List.length o0 : Nat) : Int), k3_0, ()) := e_k3
  have g_k3 : laws_heldItemS k3_0 (1 : Int) = some (((1 + 4 * List.length o0 : Nat) : Int), ()) := g_k3
  simp only [to_Token aT0c0 aT0c1 aT0c2 aT0c3 aT0c4 aT0c5 h_p0, to_ItemS aList1 h_p1, hsp, him, eq_ItemS o0 h_o0, eq_Token aT0c0 aT0c1 aT0c2 aT0c3 aT0c4 aT0c5 h_p0, eq_ItemS aList1 h_p1, e_k1, g_k1, dec_false (show ¬ ((1 + 1 * List.length aT0c5 : Nat) : Int) < 0 by omega), e_k2, g_k2, dec_false (show ¬ ((1 + 1 * List.length aT0c5 + 4 * List.length aList1 : Nat) : Int) < 0 by omega), e_k3, g_k3, dec_false (show ¬ ((1 + 4 * List.length o0 : Nat) : Int) < 0 by omega), Option.bind_some, cond_false, cond_true, Bool.not_true, Bool.not_false, decide_true, beq_self_eq_true, strEq_self]

theorem law_Number (aT0c0 : Int) (aT0c1 : Int) (aT0c2 : Int) (aT0c3 : Int) (aT0c4 : Int) (aT0c5 : List (Int × Unit)) (aFrom1 : Int) (aLevel2 : List (Int × Unit)) (aTexts3 : List (ByteArray × Unit)) (hz0 : Z_iiiiiLiE (aT0c0, aT0c1, aT0c2, aT0c3, aT0c4, aT0c5, ())) (hz2 : List.length aLevel2 ≤ 9223372036854775807 ∧ ∀ y ∈ aLevel2, Z_i y) (hz3 : List.length aTexts3 ≤ 9223372036854775807 ∧ ∀ y ∈ aTexts3, Z_s y) : laws_FnExactNumber aT0c0 aT0c1 aT0c2 aT0c3 aT0c4 aT0c5 aFrom1 aLevel2 aTexts3 = some (true, ()) := by
  unfold laws_FnExactNumber
  by_cases hl2 : (1048576 : Int) < ((List.length aLevel2 : Nat) : Int)
  · rw [dec_true hl2]; rfl
  rw [dec_false hl2]
  simp only [cond_false]
  have h_p2 : (List.length aLevel2 + wl W_i aLevel2) ≤ 1048576 := by rw [wl_zero W_i (fun _ => rfl)]; omega
  obtain ⟨m0, e0, l0, w0⟩ := sz_Token aT0c0 aT0c1 aT0c2 aT0c3 aT0c4 aT0c5 (left := 1048576) hz0 (by omega) (by omega)
  rw [e0]
  simp only [Option.bind_some]
  by_cases hm0 : m0 < 0
  · rw [dec_true hm0]; rfl
  have w0 : 0 ≤ m0 → (((List.length aT0c5 + wl W_i aT0c5) : Nat) : Int) + m0 ≤ 1048576 := w0
  have w0 := w0 (by omega)
  rw [dec_false hm0]
  simp only [cond_false]
  have h_p0 : (List.length aT0c5 + wl W_i aT0c5) ≤ 1048576 := by omega
  obtain ⟨m3, e3, l3, w3⟩ := sz_StringS aTexts3 (left := m0) hz3 (by omega) (by omega)
  rw [e3]
  simp only [Option.bind_some]
  by_cases hm3 : m3 < 0
  · rw [dec_true hm3]; rfl
  have w3 := w3 (by omega)
  rw [dec_false hm3]
  simp only [cond_false]
  have h_p3 : (List.length aTexts3 + wl W_s aTexts3) ≤ 1048576 := by omega
  obtain ⟨o0, o1, o2, o3, o4, o5, o6, hsp, him, h_o0, h_o1⟩ := same_Number aT0c0 aT0c1 aT0c2 aT0c3 aT0c4 aT0c5 aFrom1 aLevel2 aTexts3 h_p0 h_p2 h_p3
  obtain ⟨k1_0, e_k1, g_k1, n_k1_0⟩ := mh_Token aT0c0 aT0c1 aT0c2 aT0c3 aT0c4 aT0c5 (1) (by omega) (by omega)
  have e_k1 : laws_markToken aT0c0 aT0c1 aT0c2 aT0c3 aT0c4 aT0c5 (1 : Int) = some (((1 + 1 * List.length aT0c5 : Nat) : Int), k1_0, ()) := e_k1
  have g_k1 : laws_heldToken aT0c0 aT0c1 aT0c2 aT0c3 aT0c4 k1_0 (1 : Int) = some (((1 + 1 * List.length aT0c5 : Nat) : Int), ()) := g_k1
  obtain ⟨k2_0, e_k2, g_k2, n_k2_0⟩ := mh_IntS aLevel2 (1 + 1 * List.length aT0c5) (by omega) (by omega)
  obtain ⟨k3_0, e_k3, g_k3, n_k3_0⟩ := mh_StringS aTexts3 (1 + 1 * List.length aT0c5 + 1 * List.length aLevel2) (by omega) (by omega)
  obtain ⟨k4_0, e_k4, g_k4, n_k4_0⟩ := mh_Token o0 o1 o2 o3 o4 o5 (1) (by omega) (by omega)
  have e_k4 : laws_markToken o0 o1 o2 o3 o4 o5 (1 : Int) = some (((1 + 1 * List.length o5 : Nat) : Int), k4_0, ()) := e_k4
  have g_k4 : laws_heldToken o0 o1 o2 o3 o4 k4_0 (1 : Int) = some (((1 + 1 * List.length o5 : Nat) : Int), ()) := g_k4
  obtain ⟨k5_0, e_k5, g_k5, n_k5_0⟩ := mh_ItemS o6 (1 + 1 * List.length o5) (by omega) (by omega)
  simp only [to_Token aT0c0 aT0c1 aT0c2 aT0c3 aT0c4 aT0c5 h_p0, to_IntS aLevel2 h_p2, to_StringS aTexts3 h_p3, hsp, him, eq_Token o0 o1 o2 o3 o4 o5 h_o0, eq_ItemS o6 h_o1, eq_Token aT0c0 aT0c1 aT0c2 aT0c3 aT0c4 aT0c5 h_p0, eq_IntS aLevel2 h_p2, eq_StringS aTexts3 h_p3, e_k1, g_k1, dec_false (show ¬ ((1 + 1 * List.length aT0c5 : Nat) : Int) < 0 by omega), e_k2, g_k2, dec_false (show ¬ ((1 + 1 * List.length aT0c5 + 1 * List.length aLevel2 : Nat) : Int) < 0 by omega), e_k3, g_k3, dec_false (show ¬ ((1 + 1 * List.length aT0c5 + 1 * List.length aLevel2 + 1 * List.length aTexts3 : Nat) : Int) < 0 by omega), e_k4, g_k4, dec_false (show ¬ ((1 + 1 * List.length o5 : Nat) : Int) < 0 by omega), e_k5, g_k5, dec_false (show ¬ ((1 + 1 * List.length o5 + 4 * List.length o6 : Nat) : Int) < 0 by omega), Option.bind_some, cond_false, cond_true, Bool.not_true, Bool.not_false, decide_true, beq_self_eq_true, strEq_self]

theorem law_MateNew (aId0 : Int) (aR1c0 : Int) (aR1c1 : List (Int × Unit)) (hz1 : Z_iLiE (aR1c0, aR1c1, ())) : laws_FnExactMateNew aId0 aR1c0 aR1c1 = some (true, ()) := by
  unfold laws_FnExactMateNew
  obtain ⟨m1, e1, l1, w1⟩ := sz_Ring aR1c0 aR1c1 (left := 1048576) hz1 (by omega) (by omega)
  rw [e1]
  simp only [Option.bind_some]
  by_cases hm1 : m1 < 0
  · rw [dec_true hm1]; rfl
  have w1 : 0 ≤ m1 → (((List.length aR1c1 + wl W_i aR1c1) : Nat) : Int) + m1 ≤ 1048576 := w1
  have w1 := w1 (by omega)
  rw [dec_false hm1]
  simp only [cond_false]
  have h_p1 : (List.length aR1c1 + wl W_i aR1c1) ≤ 1048576 := by omega
  obtain ⟨o0, o1, o2, o3, o4, o5, o6, o7, o8, o9, o10, o11, o12, o13, o14, o15, o16, hsp, him, h_o0⟩ := same_MateNew aId0 aR1c0 aR1c1 h_p1
  obtain ⟨k1_0, e_k1, g_k1, n_k1_0⟩ := mh_Ring aR1c0 aR1c1 (1) (by omega) (by omega)
  have e_k1 : laws_markRing aR1c0 aR1c1 (1 : Int) = some (((1 + 1 * List.length aR1c1 : Nat) : Int), k1_0, ()) := e_k1
  have g_k1 : laws_heldRing aR1c0 k1_0 (1 : Int) = some (((1 + 1 * List.length aR1c1 : Nat) : Int), ()) := g_k1
  obtain ⟨k2_0, k2_1, k2_2, k2_3, k2_4, e_k2, g_k2, n_k2_0, n_k2_1, n_k2_2, n_k2_3, n_k2_4⟩ := mh_Mate o0 o1 o2 o3 o4 o5 o6 o7 o8 o9 o10 o11 o12 o13 o14 o15 (1) (by omega) (by omega) (by omega) (by omega) (by omega) (by omega)
  have e_k2 : laws_markMate o0 o1 o2 o3 o4 o5 o6 o7 o8 o9 o10 o11 o12 o13 o14 o15 (1 : Int) = some (((1 + 1 * List.length o2 + 4 * List.length o3 + 1 * List.length o4 + 1 * List.length o5 + 1 * List.length o15 : Nat) : Int), k2_0, k2_1, k2_2, k2_3, k2_4, ()) := e_k2
  have g_k2 : laws_heldMate o0 o1 k2_0 k2_1 k2_2 k2_3 o6 o7 o8 o9 o10 o11 o12 o13 o14 k2_4 (1 : Int) = some (((1 + 1 * List.length o2 + 4 * List.length o3 + 1 * List.length o4 + 1 * List.length o5 + 1 * List.length o15 : Nat) : Int), ()) := g_k2
  simp only [to_Ring aR1c0 aR1c1 h_p1, hsp, him, eq_Mate o0 o1 o2 o3 o4 o5 o6 o7 o8 o9 o10 o11 o12 o13 o14 o15 h_o0, eq_Ring aR1c0 aR1c1 h_p1, e_k1, g_k1, dec_false (show ¬ ((1 + 1 * List.length aR1c1 : Nat) : Int) < 0 by omega), e_k2, g_k2, dec_false (show ¬ ((1 + 1 * List.length o2 + 4 * List.length o3 + 1 * List.length o4 + 1 * List.length o5 + 1 * List.length o15 : Nat) : Int) < 0 by omega), Option.bind_some, cond_false, cond_true, Bool.not_true, Bool.not_false, decide_true, beq_self_eq_true, strEq_self]

theorem law_MateOk (aM0c0 : Int) (aM0c1 : Int) (aM0c2 : List (Int × Unit)) (aM0c3 : List (Int × Int × Int × ByteArray × Unit)) (aM0c4 : List (Int × Unit)) (aM0c5 : List (ByteArray × Unit)) (aM0c6 : Int) (aM0c7 : Int) (aM0c8 : Int) (aM0c9 : Int) (aM0c10 : Int) (aM0c11 : Int) (aM0c12 : Int) (aM0c13 : Int) (aM0c14 : Int) (aM0c15 : List (Int × Unit)) (hz0 : Z_iiLiELiiisELiELsEiiiiiiiiiLiE (aM0c0, aM0c1, aM0c2, aM0c3, aM0c4, aM0c5, aM0c6, aM0c7, aM0c8, aM0c9, aM0c10, aM0c11, aM0c12, aM0c13, aM0c14, aM0c15, ())) : laws_FnExactMateOk aM0c0 aM0c1 aM0c2 aM0c3 aM0c4 aM0c5 aM0c6 aM0c7 aM0c8 aM0c9 aM0c10 aM0c11 aM0c12 aM0c13 aM0c14 aM0c15 = some (true, ()) := by
  unfold laws_FnExactMateOk
  obtain ⟨m0, e0, l0, w0⟩ := sz_Mate aM0c0 aM0c1 aM0c2 aM0c3 aM0c4 aM0c5 aM0c6 aM0c7 aM0c8 aM0c9 aM0c10 aM0c11 aM0c12 aM0c13 aM0c14 aM0c15 (left := 1048576) hz0 (by omega) (by omega)
  rw [e0]
  simp only [Option.bind_some]
  by_cases hm0 : m0 < 0
  · rw [dec_true hm0]; rfl
  have w0 : 0 ≤ m0 → (((List.length aM0c2 + wl W_i aM0c2) + (List.length aM0c3 + wl W_iiis aM0c3) + (List.length aM0c4 + wl W_i aM0c4) + (List.length aM0c5 + wl W_s aM0c5) + (List.length aM0c15 + wl W_i aM0c15) : Nat) : Int) + m0 ≤ 1048576 := w0
  have w0 := w0 (by omega)
  rw [dec_false hm0]
  simp only [cond_false]
  have h_p0 : (List.length aM0c2 + wl W_i aM0c2) + (List.length aM0c3 + wl W_iiis aM0c3) + (List.length aM0c4 + wl W_i aM0c4) + (List.length aM0c5 + wl W_s aM0c5) + (List.length aM0c15 + wl W_i aM0c15) ≤ 1048576 := by omega
  obtain ⟨o0, hsp, him⟩ := same_MateOk aM0c0 aM0c1 aM0c2 aM0c3 aM0c4 aM0c5 aM0c6 aM0c7 aM0c8 aM0c9 aM0c10 aM0c11 aM0c12 aM0c13 aM0c14 aM0c15 h_p0
  simp only [to_Mate aM0c0 aM0c1 aM0c2 aM0c3 aM0c4 aM0c5 aM0c6 aM0c7 aM0c8 aM0c9 aM0c10 aM0c11 aM0c12 aM0c13 aM0c14 aM0c15 h_p0, hsp, him, eq_Mate aM0c0 aM0c1 aM0c2 aM0c3 aM0c4 aM0c5 aM0c6 aM0c7 aM0c8 aM0c9 aM0c10 aM0c11 aM0c12 aM0c13 aM0c14 aM0c15 h_p0, Option.bind_some, cond_false, cond_true, Bool.not_true, Bool.not_false, decide_true, beq_self_eq_true, strEq_self]

end Go.TM
