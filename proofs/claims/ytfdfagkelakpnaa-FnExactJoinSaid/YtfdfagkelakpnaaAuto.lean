/- The laws of sameness, as terms. -/
import Derived.Test.YtfdfagkelakpnaaPAddPiece
set_option linter.unusedSimpArgs false
set_option linter.unusedVariables false
namespace Go.TM
open Go

theorem law_Join (aList0 : List (ByteArray × Unit)) (hz0 : List.length aList0 ≤ 9223372036854775807 ∧ ∀ y ∈ aList0, Z_s y) : laws_FnExactJoin aList0 = some (true, ()) := by
  unfold laws_FnExactJoin
  obtain ⟨m0, e0, l0, w0⟩ := sz_StringS aList0 (left := 1048576) hz0 (by omega) (by omega)
  rw [e0]
  simp only [Option.bind_some]
  by_cases hm0 : m0 < 0
  · rw [dec_true hm0]; rfl
  have w0 := w0 (by omega)
  rw [dec_false hm0]
  simp only [cond_false]
  have h_p0 : (List.length aList0 + wl W_s aList0) ≤ 1048576 := by omega
  obtain ⟨o0, hsp, him, h_o0⟩ := same_Join aList0 h_p0
  obtain ⟨k1_0, e_k1, g_k1, n_k1_0⟩ := mh_StringS aList0 (1) (by omega) (by omega)
  have e_k1 : laws_markStringS aList0 (1 : Int) = some (((1 + 1 * List.length aList0 : Nat) : Int), k1_0, ()) := e_k1
  have g_k1 : laws_heldStringS k1_0 (1 : Int) = some (((1 + 1 * List.length aList0 : Nat) : Int), ()) := g_k1
  obtain ⟨k2_0, e_k2, g_k2, n_k2_0⟩ := mh_StringS o0 (1) (by omega) (by omega)
  have e_k2 : laws_markStringS o0 (1 : Int) = some (((1 + 1 * List.length o0 : Nat) : Int), k2_0, ()) := e_k2
  have g_k2 : laws_heldStringS k2_0 (1 : Int) = some (((1 + 1 * List.length o0 : Nat) : Int), ()) := g_k2
  simp only [to_StringS aList0 (Nat.le_trans h_p0 (by decide)), hsp, him, eq_StringS o0 (Nat.le_trans h_o0 (by decide)), eq_StringS aList0 (Nat.le_trans h_p0 (by decide)), e_k1, g_k1, dec_false (show ¬ ((1 + 1 * List.length aList0 : Nat) : Int) < 0 by omega), e_k2, g_k2, dec_false (show ¬ ((1 + 1 * List.length o0 : Nat) : Int) < 0 by omega), Option.bind_some, cond_false, cond_true, Bool.not_true, Bool.not_false, decide_true, beq_self_eq_true, strEq_self]

theorem law_AddPiece (aP0c0 : Int) (aP0c1 : Int) (aP0c2 : List (ByteArray × Unit)) (aText1 : ByteArray) (hz0 : Z_iiLsE (aP0c0, aP0c1, aP0c2, ())) (hz1 : ByteArray.size aText1 ≤ 9223372036854775807) : laws_FnExactAddPiece aP0c0 aP0c1 aP0c2 aText1 = some (true, ()) := by
  unfold laws_FnExactAddPiece
  by_cases hl1 : (1048576 : Int) < ((ByteArray.size aText1 : Nat) : Int)
  · rw [dec_true hl1]; rfl
  rw [dec_false hl1]
  simp only [cond_false]
  have h_p1 : ByteArray.size aText1 ≤ 1048576 := by omega
  obtain ⟨m0, e0, l0, w0⟩ := sz_Pile aP0c0 aP0c1 aP0c2 (left := 1048576) hz0 (by omega) (by omega)
  rw [e0]
  simp only [Option.bind_some]
  by_cases hm0 : m0 < 0
  · rw [dec_true hm0]; rfl
  have w0 : 0 ≤ m0 → (((List.length aP0c2 + wl W_s aP0c2) : Nat) : Int) + m0 ≤ 1048576 := w0
  have w0 := w0 (by omega)
  rw [dec_false hm0]
  simp only [cond_false]
  have h_p0 : (List.length aP0c2 + wl W_s aP0c2) ≤ 1048576 := by omega
  obtain ⟨o0, o1, o2, o3, o4, hsp, him, h_o0, h_o1⟩ := same_AddPiece aP0c0 aP0c1 aP0c2 aText1 h_p0 h_p1
  obtain ⟨k1_0, e_k1, g_k1, n_k1_0⟩ := mh_Pile aP0c0 aP0c1 aP0c2 (1) (by omega) (by omega)
  have e_k1 : laws_markPile aP0c0 aP0c1 aP0c2 (1 : Int) = some (((1 + 1 * List.length aP0c2 : Nat) : Int), k1_0, ()) := e_k1
  have g_k1 : laws_heldPile aP0c0 aP0c1 k1_0 (1 : Int) = some (((1 + 1 * List.length aP0c2 : Nat) : Int), ()) := g_k1
  obtain ⟨k2_0, e_k2, g_k2, n_k2_0⟩ := mh_Pile o0 o1 o2 (1) (by omega) (by omega)
  have e_k2 : laws_markPile o0 o1 o2 (1 : Int) = some (((1 + 1 * List.length o2 : Nat) : Int), k2_0, ()) := e_k2
  have g_k2 : laws_heldPile o0 o1 k2_0 (1 : Int) = some (((1 + 1 * List.length o2 : Nat) : Int), ()) := g_k2
  simp only [to_Pile aP0c0 aP0c1 aP0c2 (Nat.le_trans h_p0 (by decide)), hsp, him, eq_Pile o0 o1 o2 h_o0, eq_Pile aP0c0 aP0c1 aP0c2 (Nat.le_trans h_p0 (by decide)), e_k1, g_k1, dec_false (show ¬ ((1 + 1 * List.length aP0c2 : Nat) : Int) < 0 by omega), e_k2, g_k2, dec_false (show ¬ ((1 + 1 * List.length o2 : Nat) : Int) < 0 by omega), Option.bind_some, cond_false, cond_true, Bool.not_true, Bool.not_false, decide_true, beq_self_eq_true, strEq_self]

end Go.TM
