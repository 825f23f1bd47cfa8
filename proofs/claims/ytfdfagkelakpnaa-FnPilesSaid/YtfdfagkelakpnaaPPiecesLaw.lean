/- The law of the pieces: what was cut is read and joined again. -/
import Derived.Test.YtfdfagkelakpnaaPDrawText
set_option linter.unusedSimpArgs false
set_option linter.unusedVariables false
namespace Go.TM
open Go

theorem l12Long_ok (code : List (Int × Unit)) (at_ seed : Int) (h : DrawAt code at_) : ∃ b at' s', spec_l12Long code at_ seed = some (b, code, at', s', ()) ∧ b.size ≤ 409 ∧ DrawAt code at' := by
  obtain ⟨v, a1, s1, e1, v1, d1⟩ := pick_ok code at_ seed [((0 : Int), ()), ((1 : Int), ()), ((39 : Int), ()), ((40 : Int), ()), ((41 : Int), ()), ((80 : Int), ()), ((95 : Int), ()), ((130 : Int), ()), ((400 : Int), ())] h (by simp)
  obtain ⟨w, a2, s2, e2, w1, w2, d2⟩ := below_ok code a1 s1 9 d1 (by omega)
  obtain ⟨n, rfl⟩ := Int.eq_ofNat_of_zero_le w1
  obtain ⟨t, a3, s3, e3, t1, d3⟩ := text_size code a2 s2 n d2 (by omega)
  obtain ⟨x, a4, s4, e4, _, _, d4⟩ := below_ok code a3 s3 20 d3 (by omega)
  have hv : 0 ≤ v ∧ v ≤ 400 := by
    simp only [List.mem_cons, Prod.mk.injEq, and_true, List.not_mem_nil, or_false] at v1
    omega
  obtain ⟨m, rfl⟩ := Int.eq_ofNat_of_zero_le hv.1
  obtain ⟨b, e5, b1⟩ := long_size m (IntKind.u8.wrap (IntKind.i64.wrap ((97 : Int) + x))) (by omega)
  unfold spec_l12Long
  simp only [e1, e2, e3, e4, e5, Option.bind_some, ble_true (show t.size + b.size ≤ lim by unfold lim; omega), cond_true]
  exact ⟨_, _, _, rfl, by rw [ByteArray.size_append]; omega, d4⟩

theorem drawpieces_ok (code : List (Int × Unit)) (h : code.length ≤ 1048576) : ∃ (num : Int) (s : ByteArray), spec_DrawPieces code = some (num, s, ()) ∧ s.size ≤ 1000 := by
  obtain ⟨s0, e0⟩ := new_ok code h
  have d0 : DrawAt code 0 := ⟨by omega, by omega, h⟩
  obtain ⟨v, a1, s1, e1, _, _, d1⟩ := below_ok code 0 s0 300 d0 (by omega)
  obtain ⟨b, a2, s2, e2, d2⟩ := once_ok code a1 s1 12 d1 (by omega)
  have tail : ∀ (num a s : Int), DrawAt code a → ∃ (t : ByteArray), (Option.bind (spec_l12Long code a s) fun y5 =>
    Option.bind (spec_l01Once y5.2.1 y5.2.2.1 y5.2.2.2.1 (12 : Int)) fun y6 =>
    bif y6.1 then
      Option.bind (spec_l01Below y6.2.1 y6.2.2.1 y6.2.2.2.1 (2 : Int)) fun y7 =>
      Option.bind (spec_l01Long (IntKind.i64.wrap ((400 : Int) + y7.1)) (65 : Int)) fun y8 =>
      some (num, y8.1, ())
    else
      some (num, y5.1, ())) = some (num, t, ()) ∧ t.size ≤ 1000 := by
    intro num a s d
    obtain ⟨t, a3, s3, e3, t3, d3⟩ := l12Long_ok code a s d
    obtain ⟨c, a4, s4, e4, d4⟩ := once_ok code a3 s3 12 d3 (by omega)
    simp only [e3, e4, Option.bind_some]
    cases c
    · exact ⟨t, rfl, by omega⟩
    · obtain ⟨w, a5, s5, e5, w1, w2, d5⟩ := below_ok code a4 s4 2 d4 (by omega)
      obtain ⟨n, rfl⟩ := Int.eq_ofNat_of_zero_le w1
      have hw : IntKind.i64.wrap ((400 : Int) + ((n : Nat) : Int)) = ((400 + n : Nat) : Int) := by rw [wrap_id] <;> omega
      obtain ⟨u, e6, u1⟩ := long_size (400 + n) 65 (by omega)
      simp only [e5, hw, e6, Option.bind_some, cond_true]
      exact ⟨u, rfl, by omega⟩
  unfold spec_DrawPieces
  simp only [e0, e1, e2, Option.bind_some]
  cases b
  · obtain ⟨t, g1, g2⟩ := tail v a2 s2 d2
    simp only [cond_false]
    exact ⟨v, t, g1, g2⟩
  · obtain ⟨w, a3, s3, e3, _, d3⟩ := pick_ok code a2 s2 [((-1 : Int), ()), ((100000 : Int), ()), ((100001 : Int), ())] d2 (by simp)
    obtain ⟨t, g1, g2⟩ := tail w a3 s3 d3
    simp only [e3, Option.bind_some, cond_true]
    exact ⟨w, t, g1, g2⟩

theorem sameTexts_self (l : TextL) (h : l.length ≤ 1048576) : laws_sameTexts l l = some (true, ()) := by
  have hl : loopV laws_sameTexts_r0 (l, l, (0 : Int), ()) = some (.inl ()) := by
    have := loop_run (round := laws_sameTexts_r0) (e := .inl ()) l.length (fun k => (l, l, ((k : Nat) : Int), ())) (by
      simp only [laws_sameTexts_r0, laws_sameTexts_c0, lt_nat_irr, cond_false]) (fun k hk => by
      simp only [laws_sameTexts_r0, laws_sameTexts_c0, lt_nat_true hk, zero_le_nat, cond_true, cond_false, toNat_nat, List.getElem?_eq_getElem hk, Option.bind_some, strEq_self, Bool.not_true, succ_wrap (show k < 4611686018427387904 by omega)])
    simpa using this
  unfold laws_sameTexts
  simp only [decide_true, Bool.not_true, cond_false, hl, outK_inl]

theorem pieceL_get (m : Nat) (s : ByteArray) (c n k : Nat) (h : k < (pieceL m s c n).length) : (pieceL m s c n)[k].1 = pieceB m s c k := by simp [pieceL]

theorem pieces_law (code : List (Int × Unit)) : laws_FnPieces code = some (true, ()) := by
  unfold laws_FnPieces laws_big
  by_cases hb : (1048576 : Int) < ((List.length code : Nat) : Int)
  · rw [dec_true hb]; rfl
  rw [dec_false hb]
  obtain ⟨num, s, e1, hs⟩ := drawpieces_ok code (by omega)
  simp only [Option.bind_some, cond_false, e1]
  obtain ⟨l, b, p1, p2, _⟩ := pieces_same num s
  by_cases hn : 0 ≤ num ∧ num ≤ 100000
  case neg =>
    have hd : (decide (0 ≤ num) && decide (num ≤ 100000)) = false := by
      rw [Bool.and_eq_false_iff, decide_eq_false_iff_not, decide_eq_false_iff_not]; omega
    have q1 : spec_Pieces num s = some ([], false, ()) := by unfold spec_Pieces; simp only [in_eq, hd, Option.bind_some]; rfl
    have q2 : impl_Pieces num s = some ([], false, ()) := by unfold impl_Pieces; simp only [in_eq', hd, Option.bind_some]; rfl
    simp only [q1, q2, Option.bind_some]
    rfl
  have hd : (decide (0 ≤ num) && decide (num ≤ 100000)) = true := by rw [decide_eq_true hn.1, decide_eq_true hn.2]; rfl
  by_cases h4 : s.size ≤ 400
  case neg =>
    have hd4 : decide ((400 : Int) < ((ByteArray.size s : Nat) : Int)) = true := dec_true (by omega)
    have q1 : spec_Pieces num s = some ([], false, ()) := by unfold spec_Pieces; simp only [in_eq, hd, hd4, Option.bind_some]; rfl
    have q2 : impl_Pieces num s = some ([], false, ()) := by unfold impl_Pieces; simp only [in_eq', hd, hd4, Option.bind_some]; rfl
    simp only [q1, q2, Option.bind_some]
    rfl
  obtain ⟨m, rfl⟩ := Int.eq_ofNat_of_zero_le hn.1
  have hm : m ≤ 100000 := by omega
  have pv := pieces_val m s hm h4
  rw [pv] at p2
  injection p2 with p2
  injection p2 with p2 p3
  injection p3 with p3 _
  subst p2; subst p3
  have hc : cnt s ≤ 10 := by unfold cnt; omega
  have hc0 : 1 ≤ cnt s := by unfold cnt; omega
  have hlen := pieceL_len m s (cnt s) (cnt s)
  have hget := pieceL_get m s (cnt s) (cnt s)
  simp only [p1, pv, Option.bind_some, beq_self_eq_true, Bool.not_true, cond_false]
  generalize hL : pieceL m s (cnt s) (cnt s) = L at *
  have hloop : loopV laws_FnPieces_r0 (((m : Nat) : Int), s, L, (0 : Int), ()) = some (.inl (s, L, ())) := by
    have := loop_run (round := laws_FnPieces_r0) (e := .inl (s, L, ())) L.length (fun k => (((m : Nat) : Int), s, L, ((k : Nat) : Int), ())) (by
      simp only [laws_FnPieces_r0, laws_FnPieces_c0, lt_nat_irr, cond_false]) (fun k hk => by
      simp only [laws_FnPieces_r0, laws_FnPieces_c0, lt_nat_true (show k < cnt s by omega), zero_le_nat, cond_true, toNat_nat, blt_true (show k < cnt s by omega), List.getElem?_eq_getElem hk, Option.bind_some, hget k hk, readpiece_val m s k hm h4 (by omega), hlen, decide_true, Bool.not_true, cond_false, succ_wrap (show k < 4611686018427387904 by omega)])
    exact this
  have j1 := join_val m s L hm h4 (by omega) (fun k hk => by rw [hget k hk, Nat.mod_eq_of_lt (by omega)])
  have j2 := join_val m s (L.take (cnt s - 1)) hm h4 (by rw [List.length_take]; omega) (fun k hk => by
    rw [List.length_take] at hk
    rw [List.getElem_take, hget k (by omega), Nat.mod_eq_of_lt (by omega)])
  have j3 := join_val m s (L ++ L) hm h4 (by rw [List.length_append]; omega) (fun k hk => by
    rw [List.length_append] at hk
    rw [List.getElem_append]
    split
    · rw [hget k (by omega), Nat.mod_eq_of_lt (by omega)]
    · rw [hget (k - L.length) (by omega), Nat.mod_eq_sub_mod (by omega), hlen, Nat.mod_eq_of_lt (by omega)])
  have d1 : L.length / cnt s = 1 := by rw [hlen]; exact Nat.div_self (by omega)
  have d2 : (L.take (cnt s - 1)).length / cnt s = 0 := by rw [List.length_take]; exact Nat.div_eq_of_lt (by omega)
  have d3 : (L ++ L).length / cnt s = 2 := by
    rw [List.length_append, hlen, show cnt s + cnt s = cnt s * 2 by omega]
    exact Nat.mul_div_cancel_left 2 (by omega)
  rw [d1] at j1
  rw [d2] at j2
  rw [d3] at j3
  have t1 := sameTexts_self [(s, ())] (by simp)
  have t3 := sameTexts_self [(s, ()), (s, ())] (by simp)
  have wl1 : IntKind.i64.wrap (((List.length L : Nat) : Int) - (1 : Int)) = ((cnt s - 1 : Nat) : Int) := by rw [wrap_id] <;> omega
  have j1 : impl_Join L = some ([(s, ())], ()) := j1
  have j2 : impl_Join (L.take (cnt s - 1)) = some ([], ()) := j2
  have j3 : impl_Join (L ++ L) = some ([(s, ()), (s, ())], ()) := j3
  rw [hloop]
  simp only [outK_inl, j1, t1, Option.bind_some, cond_true, wl1, zero_le_nat, toNat_nat, List.drop_zero, dec_true (show ((cnt s - 1 : Nat) : Int) ≤ ((List.length L : Nat) : Int) by omega), j2, List.nil_append, j3, t3, ble_true (show (0 + L.length) * 16 ≤ lim by unfold lim; omega), ble_true (show (L.length + L.length) * 16 ≤ lim by unfold lim; omega)]
  rfl
end Go.TM
