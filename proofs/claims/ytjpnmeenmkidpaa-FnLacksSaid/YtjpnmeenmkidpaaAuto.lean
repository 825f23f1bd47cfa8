/- The laws of sameness, as terms. -/
import Derived.Test.YtjpnmeenmkidpaaPLacksLaw
set_option linter.unusedSimpArgs false
set_option linter.unusedVariables false
namespace Go.TM
open Go

theorem law_Lacks (aT0c0 : Int) (aT0c1 : Int) (aT0c2 : Int) (aT0c3 : Int) (aT0c4 : Int) (aT0c5 : List (Int × Unit)) (aList1 : List (Int × Int × Int × ByteArray × Unit)) (hz0 : Z_iiiiiLiE (aT0c0, aT0c1, aT0c2, aT0c3, aT0c4, aT0c5, ())) (hz1 : List.length aList1 ≤ 9223372036854775807 ∧ ∀ y ∈ aList1, Z_iiis y) : laws_FnExactLacks aT0c0 aT0c1 aT0c2 aT0c3 aT0c4 aT0c5 aList1 = some (true, ()) := by
  unfold laws_FnExactLacks
  obtain ⟨m0, e0, l0, w0⟩ := sz_Token aT0c0 aT0c1 aT0c2 aT0c3 aT0c4 aT0c5 (left := 1048576) hz0 (by omega) (by omega)
  rw [e0]
  simp only [Option.bind_some]
  by_cases hm0 : m0 < 0
  · rw [dec_true hm0]; rfl
  have w0 : 0 ≤ m0 → (((List.length aT0c5 + wl W_i aT0c5) : Nat) : Int) + m0 ≤ 1048576 := w0
  have w0 := w0 (by omega)
  rw [dec_false hm0]
  simp only [cond_false]
  have h_p0 : (List.length aT0c5 + wl W_i aT0c5) ≤ 1048576 := by omega
  obtain ⟨m1, e1, l1, w1⟩ := sz_ItemS aList1 (left := m0) hz1 (by omega) (by omega)
  rw [e1]
  simp only [Option.bind_some]
  by_cases hm1 : m1 < 0
  · rw [dec_true hm1]; rfl
  have w1 := w1 (by omega)
  rw [dec_false hm1]
  simp only [cond_false]
  have h_p1 : (List.length aList1 + wl W_iiis aList1) ≤ 1048576 := by omega
  obtain ⟨o0, o1, o2, o3, o4, o5, hsp, him, h_o0⟩ := same_Lacks aT0c0 aT0c1 aT0c2 aT0c3 aT0c4 aT0c5 aList1 h_p0 h_p1
  obtain ⟨k1_0, e_k1, g_k1, n_k1_0⟩ := mh_Token aT0c0 aT0c1 aT0c2 aT0c3 aT0c4 aT0c5 (1) (by omega) (by omega)
  have e_k1 : laws_markToken aT0c0 aT0c1 aT0c2 aT0c3 aT0c4 aT0c5 (1 : Int) = some (((1 + 1 * List.length aT0c5 : Nat) : Int), k1_0, ()) := e_k1
  have g_k1 : laws_heldToken aT0c0 aT0c1 aT0c2 aT0c3 aT0c4 k1_0 (1 : Int) = some (((1 + 1 * List.length aT0c5 : Nat) : Int), ()) := g_k1
  obtain ⟨k2_0, e_k2, g_k2, n_k2_0⟩ := mh_ItemS aList1 (1 + 1 * List.length aT0c5) (by omega) (by omega)
  obtain ⟨k3_0, e_k3, g_k3, n_k3_0⟩ := mh_Token o0 o1 o2 o3 o4 o5 (1) (by omega) (by omega)
  have e_k3 : laws_markToken o0 o1 o2 o3 o4 o5 (1 : Int) = some (((1 + 1 * List.length o5 : Nat) : Int), k3_0, ()) := e_k3
  have g_k3 : laws_heldToken o0 o1 o2 o3 o4 k3_0 (1 : Int) = some (((1 + 1 * List.length o5 : Nat) : Int), ()) := g_k3
  simp only [to_Token aT0c0 aT0c1 aT0c2 aT0c3 aT0c4 aT0c5 (Nat.le_trans h_p0 (by decide)), to_ItemS aList1 (Nat.le_trans h_p1 (by decide)), hsp, him, eq_Token o0 o1 o2 o3 o4 o5 (Nat.le_trans h_o0 (by decide)), eq_Token aT0c0 aT0c1 aT0c2 aT0c3 aT0c4 aT0c5 (Nat.le_trans h_p0 (by decide)), eq_ItemS aList1 (Nat.le_trans h_p1 (by decide)), e_k1, g_k1, dec_false (show ¬ ((1 + 1 * List.length aT0c5 : Nat) : Int) < 0 by omega), e_k2, g_k2, dec_false (show ¬ ((1 + 1 * List.length aT0c5 + 4 * List.length aList1 : Nat) : Int) < 0 by omega), e_k3, g_k3, dec_false (show ¬ ((1 + 1 * List.length o5 : Nat) : Int) < 0 by omega), Option.bind_some, cond_false, cond_true, Bool.not_true, Bool.not_false, decide_true, beq_self_eq_true, strEq_self]

end Go.TM
