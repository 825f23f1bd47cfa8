/- Say and Hear, of the program and of the reference. -/
import Derived.Test.YtjockklbhgkiiaaPRight
set_option linter.unusedSimpArgs false
set_option linter.unusedVariables false
namespace Go.TM
open Go

theorem same_Say (m0c0 : Int) (m0c1 : Int) (m0c2 : List (Int × Unit)) (m0c3 : ItemL) (m0c4 : List (Int × Unit)) (m0c5 : List (ByteArray × Unit)) (m0c6 : Int) (m0c7 : Int) (m0c8 : Int) (m0c9 : Int) (m0c10 : Int) (m0c11 : Int) (m0c12 : Int) (m0c13 : Int) (m0c14 : Int) (m0c15 : List (Int × Unit)) (level1 : Int) (text2 : ByteArray) (h0 : (List.length m0c2 + wl W_i m0c2) + (List.length m0c3 + wl W_iiis m0c3) + (List.length m0c4 + wl W_i m0c4) + (List.length m0c5 + wl W_s m0c5) + (List.length m0c15 + wl W_i m0c15) ≤ 1048576) (h2 : ByteArray.size text2 ≤ 1048576) : ∃ o0 o1 o2 o3 o4 o5 o6 o7 o8 o9 o10 o11 o12 o13 o14 o15 o16, spec_Say m0c0 m0c1 m0c2 m0c3 m0c4 m0c5 m0c6 m0c7 m0c8 m0c9 m0c10 m0c11 m0c12 m0c13 m0c14 m0c15 level1 text2 = some (o0, o1, o2, o3, o4, o5, o6, o7, o8, o9, o10, o11, o12, o13, o14, o15, o16, ()) ∧ impl_Say m0c0 m0c1 m0c2 m0c3 m0c4 m0c5 m0c6 m0c7 m0c8 m0c9 m0c10 m0c11 m0c12 m0c13 m0c14 m0c15 level1 text2 = some (o0, o1, o2, o3, o4, o5, o6, o7, o8, o9, o10, o11, o12, o13, o14, o15, o16, ()) ∧ (List.length o2 + wl W_i o2) + (List.length o3 + wl W_iiis o3) + (List.length o4 + wl W_i o4) + (List.length o5 + wl W_s o5) + (List.length o15 + wl W_i o15) ≤ 1048576 := by
  obtain ⟨b, k1, k2, k3⟩ := mate_iff m0c0 m0c1 m0c2 m0c3 m0c4 m0c5 m0c6 m0c7 m0c8 m0c9 m0c10 m0c11 m0c12 m0c13 m0c14 m0c15 h0
  obtain ⟨p1, p2⟩ := copyMate_eq m0c0 m0c1 m0c2 m0c3 m0c4 m0c5 m0c6 m0c7 m0c8 m0c9 m0c10 m0c11 m0c12 m0c13 m0c14 m0c15 h0
  have zero : (List.length ([] : List (Int × Unit)) + wl W_i []) + (List.length ([] : ItemL) + wl W_iiis []) + (List.length ([] : List (Int × Unit)) + wl W_i []) + (List.length ([] : List (ByteArray × Unit)) + wl W_s []) + (List.length ([] : List (Int × Unit)) + wl W_i []) ≤ 1048576 := by decide
  unfold spec_Say impl_Say
  simp only [k1, k2, p1, p2, in_eq, level_eq, Option.bind_some]
  cases (decide (1 ≤ level1) && decide (level1 ≤ 2))
  · cases b
    · exact ⟨(0 : Int), (0 : Int), [], [], [], [], (0 : Int), (0 : Int), (0 : Int), (0 : Int), (0 : Int), (0 : Int), (0 : Int), (0 : Int), (0 : Int), [], false, rfl, rfl, zero⟩
    · exact ⟨(0 : Int), (0 : Int), [], [], [], [], (0 : Int), (0 : Int), (0 : Int), (0 : Int), (0 : Int), (0 : Int), (0 : Int), (0 : Int), (0 : Int), [], false, rfl, rfl, zero⟩
  by_cases w1 : (60 : Int) < ((ByteArray.size text2 : Nat) : Int)
  · rw [dec_true w1]
    cases b
    · exact ⟨(0 : Int), (0 : Int), [], [], [], [], (0 : Int), (0 : Int), (0 : Int), (0 : Int), (0 : Int), (0 : Int), (0 : Int), (0 : Int), (0 : Int), [], false, rfl, rfl, zero⟩
    · exact ⟨(0 : Int), (0 : Int), [], [], [], [], (0 : Int), (0 : Int), (0 : Int), (0 : Int), (0 : Int), (0 : Int), (0 : Int), (0 : Int), (0 : Int), [], false, rfl, rfl, zero⟩
  rw [dec_false w1]
  by_cases w2 : (20 : Int) ≤ ((List.length m0c5 : Nat) : Int)
  · rw [dec_true w2]
    cases b
    · exact ⟨(0 : Int), (0 : Int), [], [], [], [], (0 : Int), (0 : Int), (0 : Int), (0 : Int), (0 : Int), (0 : Int), (0 : Int), (0 : Int), (0 : Int), [], false, rfl, rfl, zero⟩
    · exact ⟨(0 : Int), (0 : Int), [], [], [], [], (0 : Int), (0 : Int), (0 : Int), (0 : Int), (0 : Int), (0 : Int), (0 : Int), (0 : Int), (0 : Int), [], false, rfl, rfl, zero⟩
  rw [dec_false w2]
  cases b
  · exact ⟨(0 : Int), (0 : Int), [], [], [], [], (0 : Int), (0 : Int), (0 : Int), (0 : Int), (0 : Int), (0 : Int), (0 : Int), (0 : Int), (0 : Int), [], false, rfl, rfl, zero⟩
  have hs := (k3 rfl).small
  simp only [Bool.not_true, cond_false, ble_true (show (m0c4.length + 1) * 8 ≤ lim by unfold lim; omega), ble_true (show (m0c5.length + 1) * 16 ≤ lim by unfold lim; omega), cond_true]
  refine ⟨m0c0, m0c1, m0c2, m0c3, m0c4 ++ [(level1, ())], m0c5 ++ [(text2, ())], m0c6, m0c7, m0c8, m0c9, m0c10, m0c11, m0c12, m0c13, m0c14, m0c15, true, rfl, rfl, ?_⟩
  simp only [List.length_append, List.length_cons, List.length_nil, wl_app, wl_cons, wl_nil]
  have e1 : W_i (level1, ()) = 0 := rfl
  have e2 : W_s (text2, ()) = ByteArray.size text2 := rfl
  omega

theorem itemOut_size {xs : ItemL} {s : Int} (h : ItemsP xs xs.length) : ByteArray.size (itemOut (itemAt xs s)).2.2.2.1 ≤ 60 := by
  cases e : itemAt xs s with
  | none => exact Nat.zero_le _
  | some r =>
    obtain ⟨k, hk, rfl⟩ := List.mem_iff_getElem.1 (itemAt_mem e).1
    exact (h k hk hk).1.2.2.2

theorem same_Hear (m0c0 : Int) (m0c1 : Int) (m0c2 : List (Int × Unit)) (m0c3 : ItemL) (m0c4 : List (Int × Unit)) (m0c5 : List (ByteArray × Unit)) (m0c6 : Int) (m0c7 : Int) (m0c8 : Int) (m0c9 : Int) (m0c10 : Int) (m0c11 : Int) (m0c12 : Int) (m0c13 : Int) (m0c14 : Int) (m0c15 : List (Int × Unit)) (h0 : (List.length m0c2 + wl W_i m0c2) + (List.length m0c3 + wl W_iiis m0c3) + (List.length m0c4 + wl W_i m0c4) + (List.length m0c5 + wl W_s m0c5) + (List.length m0c15 + wl W_i m0c15) ≤ 1048576) : ∃ o0 o1 o2 o3 o4 o5 o6 o7 o8 o9 o10 o11 o12 o13 o14 o15 o16, spec_Hear m0c0 m0c1 m0c2 m0c3 m0c4 m0c5 m0c6 m0c7 m0c8 m0c9 m0c10 m0c11 m0c12 m0c13 m0c14 m0c15 = some (o0, o1, o2, o3, o4, o5, o6, o7, o8, o9, o10, o11, o12, o13, o14, o15, o16, ()) ∧ impl_Hear m0c0 m0c1 m0c2 m0c3 m0c4 m0c5 m0c6 m0c7 m0c8 m0c9 m0c10 m0c11 m0c12 m0c13 m0c14 m0c15 = some (o0, o1, o2, o3, o4, o5, o6, o7, o8, o9, o10, o11, o12, o13, o14, o15, o16, ()) ∧ (List.length o2 + wl W_i o2) + (List.length o3 + wl W_iiis o3) + (List.length o4 + wl W_i o4) + (List.length o5 + wl W_s o5) + (List.length o15 + wl W_i o15) ≤ 1048576 ∧ (List.length o16 + wl W_iiis o16) ≤ 1048576 := by
  obtain ⟨b, k1, k2, k3⟩ := mate_iff m0c0 m0c1 m0c2 m0c3 m0c4 m0c5 m0c6 m0c7 m0c8 m0c9 m0c10 m0c11 m0c12 m0c13 m0c14 m0c15 h0
  obtain ⟨p1, p2⟩ := copyMate_eq m0c0 m0c1 m0c2 m0c3 m0c4 m0c5 m0c6 m0c7 m0c8 m0c9 m0c10 m0c11 m0c12 m0c13 m0c14 m0c15 h0
  unfold spec_Hear impl_Hear
  simp only [k1, k2, p1, p2, Option.bind_some]
  cases b
  · exact ⟨m0c0, m0c1, m0c2, m0c3, m0c4, m0c5, m0c6, m0c7, m0c8, m0c9, m0c10, m0c11, m0c12, m0c13, m0c14, m0c15, [], rfl, rfl, h0, by decide⟩
  have hm := k3 rfl
  obtain ⟨n, a1, a2, a3, a4, a5⟩ := hm.aru
  have hit := items_small m0c3 hm.items
  have hn : n ≤ 60 := Nat.le_trans a3.1 hit.1
  obtain ⟨e, f, g1, g2, v, l, g3, g4, g5, g6⟩ : ∃ e f, loopV spec_Hear_r0 (m0c0, m0c1, m0c2, m0c3, m0c4, m0c5, m0c6, m0c7, m0c8, m0c9, m0c10, m0c11, m0c12, m0c13, m0c14, m0c15, (0 : Int), (0 : Int), [], [], [], [], (0 : Int), (0 : Int), (0 : Int), (0 : Int), (0 : Int), (0 : Int), (0 : Int), (0 : Int), (0 : Int), [], m0c0, m0c1, m0c2, m0c3, m0c4, m0c5, m0c6, m0c7, m0c8, m0c9, m0c10, m0c11, m0c12, m0c13, m0c14, m0c15, [], ((n : Nat) : Int), ()) = some e ∧ loopV impl_Hear_r0 (m0c0, m0c1, m0c2, m0c3, m0c4, m0c5, m0c6, m0c7, m0c8, m0c9, m0c10, m0c11, m0c12, m0c13, m0c14, m0c15, (0 : Int), (0 : Int), [], [], [], [], (0 : Int), (0 : Int), (0 : Int), (0 : Int), (0 : Int), (0 : Int), (0 : Int), (0 : Int), (0 : Int), [], m0c0, m0c1, m0c2, m0c3, m0c4, m0c5, m0c6, m0c7, m0c8, m0c9, m0c10, m0c11, m0c12, m0c13, m0c14, m0c15, [], ()) = some f ∧
      ∃ (v : Int) (l : ItemL), (e = .inl ((0 : Int), (0 : Int), [], [], [], [], (0 : Int), (0 : Int), (0 : Int), (0 : Int), (0 : Int), (0 : Int), (0 : Int), (0 : Int), (0 : Int), [], m0c0, m0c1, m0c2, m0c3, m0c4, m0c5, m0c6, m0c7, m0c8, v, m0c10, m0c11, m0c12, m0c13, m0c14, m0c15, l, ()) ∨ e = .inr (m0c0, m0c1, m0c2, m0c3, m0c4, m0c5, m0c6, m0c7, m0c8, v, m0c10, m0c11, m0c12, m0c13, m0c14, m0c15, l, ())) ∧ f = .inl ((0 : Int), (0 : Int), [], [], [], [], (0 : Int), (0 : Int), (0 : Int), (0 : Int), (0 : Int), (0 : Int), (0 : Int), (0 : Int), (0 : Int), [], m0c0, m0c1, m0c2, m0c3, m0c4, m0c5, m0c6, m0c7, m0c8, v, m0c10, m0c11, m0c12, m0c13, m0c14, m0c15, l, ()) ∧ l.length ≤ 60 ∧ wl W_iiis l ≤ 3600 := by
    refine loop_two 60 (fun k x y => ∃ l : ItemL, x = (m0c0, m0c1, m0c2, m0c3, m0c4, m0c5, m0c6, m0c7, m0c8, m0c9, m0c10, m0c11, m0c12, m0c13, m0c14, m0c15, (0 : Int), (0 : Int), [], [], [], [], (0 : Int), (0 : Int), (0 : Int), (0 : Int), (0 : Int), (0 : Int), (0 : Int), (0 : Int), (0 : Int), [], m0c0, m0c1, m0c2, m0c3, m0c4, m0c5, m0c6, m0c7, m0c8, m0c9 + ((k : Nat) : Int), m0c10, m0c11, m0c12, m0c13, m0c14, m0c15, l, ((n : Nat) : Int), ()) ∧ y = (m0c0, m0c1, m0c2, m0c3, m0c4, m0c5, m0c6, m0c7, m0c8, m0c9, m0c10, m0c11, m0c12, m0c13, m0c14, m0c15, (0 : Int), (0 : Int), [], [], [], [], (0 : Int), (0 : Int), (0 : Int), (0 : Int), (0 : Int), (0 : Int), (0 : Int), (0 : Int), (0 : Int), [], m0c0, m0c1, m0c2, m0c3, m0c4, m0c5, m0c6, m0c7, m0c8, m0c9 + ((k : Nat) : Int), m0c10, m0c11, m0c12, m0c13, m0c14, m0c15, l, ()) ∧ l.length = k ∧ wl W_iiis l ≤ 60 * k ∧ m0c9 + ((k : Nat) : Int) ≤ ((n : Nat) : Int)) _ ?_ ⟨[], by rw [show m0c9 + ((0 : Nat) : Int) = m0c9 by omega], by rw [show m0c9 + ((0 : Nat) : Int) = m0c9 by omega], rfl, Nat.le_refl _, by omega⟩
    rintro k x y hk ⟨l, rfl, rfl, q1, q2, q3⟩
    by_cases hlt : m0c9 + ((k : Nat) : Int) < ((n : Nat) : Int)
    · have hw : IntKind.i64.wrap (m0c9 + ((k : Nat) : Int) + (1 : Int)) = m0c9 + ((k + 1 : Nat) : Int) := by rw [wrap_id] <;> omega
      have hs := itemOut_size (xs := m0c3) (s := m0c9 + ((k + 1 : Nat) : Int)) hm.items
      have hb : Nat.ble ((l.length + 1) * 40) lim = true := ble_true (by unfold lim; omega)
      have hnx : ∀ r : ItemR, ByteArray.size r.2.2.2.1 ≤ 60 → wl W_iiis (l ++ [r]) ≤ 60 * (k + 1) := by
        intro r hr
        rw [wl_app, wl_cons, wl_nil]
        have : W_iiis r = ByteArray.size r.2.2.2.1 := rfl
        omega
      simp only [spec_Hear_r0, spec_Hear_c0, impl_Hear_r0, impl_Hear_c0, dec_true hlt, a2, hw, itemat_spec m0c3 _ (show m0c3.length ≤ 1048576 by omega), itemat_impl m0c3 _ (show m0c3.length ≤ 1048576 by omega), Option.bind_some, cond_true, hb]
      by_cases c1 : (itemOut (itemAt m0c3 (m0c9 + ((k + 1 : Nat) : Int)))).2.2.1 = 2
      · rw [dec_true c1]
        by_cases c2 : m0c8 < (itemOut (itemAt m0c3 (m0c9 + ((k + 1 : Nat) : Int)))).1
        · rw [dec_true c2]
          exact .inl ⟨_, _, rfl, rfl, m0c9 + ((k : Nat) : Int), l, .inr rfl, rfl, by omega, by omega⟩
        · rw [dec_false c2]
          exact .inr ⟨by omega, _, _, rfl, rfl, _, rfl, rfl, by simp [q1], hnx _ hs, by omega⟩
      · rw [dec_false c1]
        exact .inr ⟨by omega, _, _, rfl, rfl, _, rfl, rfl, by simp [q1], hnx _ hs, by omega⟩
    · simp only [spec_Hear_r0, spec_Hear_c0, impl_Hear_r0, impl_Hear_c0, dec_false hlt, a2, Option.bind_some, cond_false]
      exact .inl ⟨_, _, rfl, rfl, m0c9 + ((k : Nat) : Int), l, .inl rfl, rfl, by omega, by omega⟩
  simp only [a1, Option.bind_some, Bool.not_true, cond_false]
  rw [g1, g2, g4]
  rcases g3 with rfl | rfl
  · exact ⟨m0c0, m0c1, m0c2, m0c3, m0c4, m0c5, m0c6, m0c7, m0c8, v, m0c10, m0c11, m0c12, m0c13, m0c14, m0c15, l, rfl, rfl, h0, by omega⟩
  · exact ⟨m0c0, m0c1, m0c2, m0c3, m0c4, m0c5, m0c6, m0c7, m0c8, v, m0c10, m0c11, m0c12, m0c13, m0c14, m0c15, l, rfl, rfl, h0, by omega⟩
end Go.TM
