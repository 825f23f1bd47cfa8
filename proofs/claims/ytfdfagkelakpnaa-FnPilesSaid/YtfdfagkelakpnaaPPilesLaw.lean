/- The law of the piles: drawn pieces in whatever order. -/
import Derived.Test.YtfdfagkelakpnaaPPiecesLaw
set_option linter.unusedSimpArgs false
set_option linter.unusedVariables false
namespace Go.TM
open Go

theorem wl_le' {α : Type} (f : α → Nat) (c : Nat) : (xs : List α) → (∀ x ∈ xs, f x ≤ c) → wl f xs ≤ c * xs.length
  | [], _ => Nat.zero_le _
  | x :: xs, h => by
    rw [wl_cons, List.length_cons, Nat.mul_succ]
    have := wl_le' f c xs (fun y hy => h y (List.mem_cons_of_mem _ hy))
    have := h x List.mem_cons_self
    omega

theorem spoilt_ok (code : List (Int × Unit)) (at_ seed : Int) (s : ByteArray) (h : DrawAt code at_) (hs : s.size ≤ 1048576) : ∃ t at' s', spec_l02Spoilt code at_ seed s = some (t, code, at', s', ()) ∧ t.size ≤ s.size + 1 ∧ DrawAt code at' := by
  obtain ⟨v, a1, s1, e1, v0, v1, d1⟩ := below_ok code at_ seed 12 h (by omega)
  have one := fun a s d => text_size code a s 1 d (by omega)
  have one : ∀ a s : Int, DrawAt code a → ∃ b at' s', spec_l01Text code a s (1 : Int) = some (b, code, at', s', ()) ∧ b.size = 1 ∧ DrawAt code at' := one
  have mid : ∀ (i : Nat) (u : ByteArray), i < s.size → u.size = 1 → ((ByteArray.extract s 0 i ++ u) ++ ByteArray.extract s (i + 1) s.size).size ≤ s.size + 1 ∧ (ByteArray.extract s 0 i).size ≤ s.size ∧ (ByteArray.extract s 0 i ++ u).size ≤ s.size + 1 ∧ (ByteArray.extract s (i + 1) s.size).size ≤ s.size := by
    intro i u hi hu
    rw [ByteArray.size_append, ByteArray.size_append, ByteArray.size_extract, ByteArray.size_extract]
    omega
  unfold spec_l02Spoilt
  simp only [e1, Option.bind_some]
  by_cases c0 : v = 0
  · obtain ⟨u, a2, s2, e2, u1, d2⟩ := one a1 s1 d1
    simp only [dec_true c0, cond_true, e2, Option.bind_some, ble_true (show s.size + u.size ≤ lim by unfold lim; omega)]
    exact ⟨_, _, _, rfl, by rw [ByteArray.size_append]; omega, d2⟩
  simp only [dec_false c0, cond_false]
  by_cases c1 : v = 1
  · have hw : IntKind.i64.wrap (((ByteArray.size s : Nat) : Int) + (1 : Int)) = ((s.size + 1 : Nat) : Int) := succ_wrap (by omega)
    obtain ⟨w, a2, s2, e2, w0, w1, d2⟩ := below_ok code a1 s1 ((s.size + 1 : Nat) : Int) d1 (by omega)
    obtain ⟨i, rfl⟩ := Int.eq_ofNat_of_zero_le w0
    simp only [dec_true c1, cond_true, hw, e2, Option.bind_some, zero_le_nat, toNat_nat, dec_true (show ((i : Nat) : Int) ≤ ((ByteArray.size s : Nat) : Int) by omega)]
    exact ⟨_, _, _, rfl, by rw [ByteArray.size_extract]; omega, d2⟩
  simp only [dec_false c1, cond_false]
  have both : ∃ t at' s', (bif decide ((0 : Int) < ((ByteArray.size s : Nat) : Int)) then
      Option.bind (spec_l01Below code a1 s1 ((ByteArray.size s : Nat) : Int)) fun y4 =>
      bif decide ((0 : Int) ≤ y4.1) then bif decide (y4.1 ≤ ((ByteArray.size s : Nat) : Int)) then bif decide ((0 : Int) ≤ IntKind.i64.wrap (y4.1 + (1 : Int))) then bif decide (IntKind.i64.wrap (y4.1 + (1 : Int)) ≤ ((ByteArray.size s : Nat) : Int)) then Option.bind (spec_l01Text y4.2.1 y4.2.2.1 y4.2.2.2.1 (1 : Int)) fun y5 =>
              bif Nat.ble ((ByteArray.size (ByteArray.extract s 0 (Int.toNat y4.1))) + (ByteArray.size y5.1)) lim then bif Nat.ble ((ByteArray.size ((ByteArray.extract s 0 (Int.toNat y4.1)) ++ y5.1)) + (ByteArray.size (ByteArray.extract s (Int.toNat (IntKind.i64.wrap (y4.1 + (1 : Int)))) (ByteArray.size s)))) lim then some (((ByteArray.extract s 0 (Int.toNat y4.1)) ++ y5.1) ++ (ByteArray.extract s (Int.toNat (IntKind.i64.wrap (y4.1 + (1 : Int)))) (ByteArray.size s)), y5.2.1, y5.2.2.1, y5.2.2.2.1, ())
                else none
              else none
            else none
          else none
        else none
      else none
    else
      some (s, code, a1, s1, ())) = some (t, code, at', s', ()) ∧ t.size ≤ s.size + 1 ∧ DrawAt code at' := by
    by_cases h0 : (0 : Int) < ((ByteArray.size s : Nat) : Int)
    · obtain ⟨w, a2, s2, e2, w0, w1, d2⟩ := below_ok code a1 s1 ((s.size : Nat) : Int) d1 h0
      obtain ⟨i, rfl⟩ := Int.eq_ofNat_of_zero_le w0
      obtain ⟨u, a3, s3, e3, u1, d3⟩ := one a2 s2 d2
      have hw : IntKind.i64.wrap (((i : Nat) : Int) + (1 : Int)) = ((i + 1 : Nat) : Int) := succ_wrap (by omega)
      obtain ⟨m1, m2, m3, m4⟩ := mid i u (by omega) u1
      simp only [dec_true h0, cond_true, e2, Option.bind_some, zero_le_nat, toNat_nat, hw, e3, dec_true (show ((i : Nat) : Int) ≤ ((ByteArray.size s : Nat) : Int) by omega), dec_true (show ((i + 1 : Nat) : Int) ≤ ((ByteArray.size s : Nat) : Int) by omega), ble_true (show (ByteArray.extract s 0 i).size + u.size ≤ lim by unfold lim; omega), ble_true (show (ByteArray.extract s 0 i ++ u).size + (ByteArray.extract s (i + 1) s.size).size ≤ lim by unfold lim; omega)]
      exact ⟨_, _, _, rfl, m1, d3⟩
    · rw [dec_false h0]
      exact ⟨s, _, _, rfl, by omega, d1⟩
  by_cases c2 : v = 2
  · rw [dec_true c2]
    exact both
  rw [dec_false c2]
  by_cases c3 : v = 3
  · rw [dec_true c3]
    exact both
  rw [dec_false c3]
  exact ⟨s, _, _, rfl, by omega, d1⟩

theorem pieces_small (m : Nat) (s : ByteArray) (hm : m ≤ 100000) : ∃ (l : TextL) (b : Bool), spec_Pieces ((m : Nat) : Int) s = some (l, b, ()) ∧ l.length ≤ 11 ∧ ∀ y ∈ l, y.1.size ≤ 70 := by
  obtain ⟨l, b, p1, p2, p3⟩ := pieces_same ((m : Nat) : Int) s
  refine ⟨l, b, p1, p3, ?_⟩
  by_cases h4 : s.size ≤ 400
  · rw [pieces_val m s hm h4] at p2
    injection p2 with p2
    injection p2 with p2 _
    subst p2
    intro y hy
    unfold pieceL at hy
    obtain ⟨i, hi, rfl⟩ := List.mem_map.1 hy
    have hi := List.mem_range.1 hi
    have hc : cnt s ≤ 10 := by unfold cnt; omega
    obtain ⟨_, z1⟩ := varB_impl m (by omega)
    obtain ⟨_, z2⟩ := varB_impl i (by omega)
    obtain ⟨_, z3⟩ := varB_impl (cnt s) (by omega)
    have hp := partB_size s i
    show (pieceB m s (cnt s) i).size ≤ 70
    unfold pieceB
    rw [ByteArray.size_append, ByteArray.size_append, ByteArray.size_append]
    omega
  · have hd : (decide ((0 : Int) ≤ ((m : Nat) : Int)) && decide (((m : Nat) : Int) ≤ 100000)) = true := by rw [decide_eq_true (show (0 : Int) ≤ ((m : Nat) : Int) by omega), decide_eq_true (show ((m : Nat) : Int) ≤ 100000 by omega)]; rfl
    have hd4 : decide ((400 : Int) < ((ByteArray.size s : Nat) : Int)) = true := dec_true (by omega)
    have q2 : impl_Pieces ((m : Nat) : Int) s = some ([], false, ()) := by unfold impl_Pieces; simp only [in_eq', hd, hd4, Option.bind_some]; rfl
    rw [q2] at p2
    injection p2 with p2
    injection p2 with p2 _
    subst p2
    exact fun y hy => by cases hy

def Few (n : Nat) (l : TextL) : Prop := l.length ≤ n ∧ ∀ y ∈ l, y.1.size ≤ 71

theorem stream_ok (code : List (Int × Unit)) (at_ seed : Int) (h : DrawAt code at_) : ∃ l at' s', spec_l12Stream code at_ seed = some (l, code, at', s', ()) ∧ Few 40 l ∧ DrawAt code at' := by
  obtain ⟨e, he, hq⟩ := loop_inv (round := spec_l12Stream_r0) (x := (code, at_, seed, [], ((0 : Nat) : Int), ())) 3 (fun k x => ∃ (a s : Int) (l : TextL), x = (code, a, s, l, ((k : Nat) : Int), ()) ∧ l.length ≤ 11 * k ∧ (∀ y ∈ l, y.1.size ≤ 70) ∧ DrawAt code a)
    (fun e => ∃ (a s : Int) (l : TextL), e = .inl (code, a, s, l, ()) ∧ l.length ≤ 33 ∧ (∀ y ∈ l, y.1.size ≤ 70) ∧ DrawAt code a) (by
      rintro x ⟨a, s, l, rfl, q1, q2, d⟩
      obtain ⟨v, a1, s1, e1, v0, v1, d1⟩ := below_ok code a s 4 d (by omega)
      refine ⟨.inl (code, a1, s1, l, ()), ?_, _, _, _, rfl, by omega, q2, d1⟩
      simp only [spec_l12Stream_r0, spec_l12Stream_c0, e1, Option.bind_some, dec_false (show ¬ ((3 : Nat) : Int) < v by omega), cond_false]) (by
      rintro k x hk ⟨a, s, l, rfl, q1, q2, d⟩
      obtain ⟨v, a1, s1, e1, v0, v1, d1⟩ := below_ok code a s 4 d (by omega)
      by_cases hlt : ((k : Nat) : Int) < v
      · obtain ⟨w, a2, s2, e2, w0, w1, d2⟩ := below_ok code a1 s1 9 d1 (by omega)
        obtain ⟨m, rfl⟩ := Int.eq_ofNat_of_zero_le w0
        obtain ⟨t, a3, s3, e3, t1, d3⟩ := l12Long_ok code a2 s2 d2
        obtain ⟨l2, b, p1, p2, p3⟩ := pieces_small m t (by omega)
        refine .inr ⟨_, ?_, a3, s3, l ++ l2, rfl, by rw [List.length_append]; omega, fun y hy => ?_, d3⟩
        · simp only [spec_l12Stream_r0, spec_l12Stream_c0, e1, e2, e3, p1, Option.bind_some, dec_true hlt, cond_true, ble_true (show (l.length + l2.length) * 16 ≤ lim by unfold lim; omega), succ_wrap (show k < 4611686018427387904 by omega)]
        · rcases List.mem_append.1 hy with hy | hy
          · exact q2 y hy
          · exact p3 y hy
      · refine .inl ⟨.inl (code, a1, s1, l, ()), ?_, _, _, _, rfl, by omega, q2, d1⟩
        simp only [spec_l12Stream_r0, spec_l12Stream_c0, e1, Option.bind_some, dec_false hlt, cond_false]) ⟨at_, seed, [], rfl, by simp, fun y hy => (by cases hy), h⟩
  have he : loopV spec_l12Stream_r0 (code, at_, seed, [], (0 : Int), ()) = some e := he
  obtain ⟨a, s, l, rfl, q1, q2, d⟩ := hq
  unfold spec_l12Stream
  rw [he, outK_inl]
  by_cases h0 : (0 : Int) < ((List.length l : Nat) : Int)
  case neg =>
    rw [dec_false h0]
    exact ⟨l, _, _, rfl, ⟨by omega, fun y hy => by have := q2 y hy; omega⟩, d⟩
  obtain ⟨b, a1, s1, e1, d1⟩ := once_ok code a s 3 d (by omega)
  simp only [dec_true h0, cond_true, e1, Option.bind_some]
  cases b
  · exact ⟨l, _, _, rfl, ⟨by omega, fun y hy => by have := q2 y hy; omega⟩, d1⟩
  obtain ⟨v, a2, s2, e2, v0, v1, d2⟩ := below_ok code a1 s1 ((List.length l : Nat) : Int) d1 h0
  obtain ⟨w, a3, s3, e3, w0, w1, d3⟩ := below_ok code a2 s2 3 d2 (by omega)
  obtain ⟨i, rfl⟩ := Int.eq_ofNat_of_zero_le v0
  have hi : i < l.length := by omega
  have hw : IntKind.i64.wrap (((i : Nat) : Int) + (1 : Int)) = ((i + 1 : Nat) : Int) := succ_wrap (by omega)
  simp only [cond_true, e2, e3, Option.bind_some, zero_le_nat, toNat_nat, hw]
  by_cases c0 : w = 0
  · simp only [dec_true c0, cond_true, List.drop_zero, List.nil_append, dec_true (show ((i : Nat) : Int) ≤ ((List.length l : Nat) : Int) by omega), dec_true (show ((i + 1 : Nat) : Int) ≤ ((List.length l : Nat) : Int) by omega), ble_true (show (0 + (l.take i).length) * 16 ≤ lim by rw [List.length_take]; unfold lim; omega), ble_true (show ((l.take i).length + (l.drop (i + 1)).length) * 16 ≤ lim by rw [List.length_take, List.length_drop]; unfold lim; omega)]
    refine ⟨_, _, _, rfl, ⟨by rw [List.length_append, List.length_take, List.length_drop]; omega, fun y hy => ?_⟩, d3⟩
    rcases List.mem_append.1 hy with hy | hy
    · have := q2 y (List.mem_of_mem_take hy); omega
    · have := q2 y (List.mem_of_mem_drop hy); omega
  simp only [dec_false c0, cond_false]
  have hli := q2 l[i] (List.getElem_mem hi)
  by_cases c1 : w = 1
  · obtain ⟨t, a4, s4, e4, t1, d4⟩ := spoilt_ok code a3 s3 l[i].1 d3 (by omega)
    simp only [dec_true c1, cond_true, blt_true hi, List.getElem?_eq_getElem hi, Option.bind_some, e4]
    refine ⟨_, _, _, rfl, ⟨by rw [List.length_set]; omega, fun y hy => ?_⟩, d4⟩
    rcases List.mem_or_eq_of_mem_set hy with hy | rfl
    · have := q2 y hy; omega
    · show t.size ≤ 71; omega
  simp only [dec_false c1, cond_false, blt_true hi, cond_true, List.getElem?_eq_getElem hi, Option.bind_some, ble_true (show (l.length + 1) * 16 ≤ lim by unfold lim; omega)]
  refine ⟨_, _, _, rfl, ⟨by rw [List.length_append]; simp; omega, fun y hy => ?_⟩, d3⟩
  rcases List.mem_append.1 hy with hy | hy
  · have := q2 y hy; omega
  · rw [List.mem_singleton] at hy
    subst hy
    show (l[i].1).size ≤ 71
    omega

theorem hi_eq : impl_Join [((ByteArray.mk #[5, 0, 1, 104, 105]), ())] = some ([((ByteArray.mk #[104, 105]), ())], ()) := by
  have hc : cnt (ByteArray.mk #[104, 105]) = 1 := rfl
  have e5 : encB 5 = [5] := by rw [encB, dif_neg (by omega)]; rfl
  have e0 : encB 0 = [0] := by rw [encB, dif_neg (by omega)]; rfl
  have e1 : encB 1 = [1] := by rw [encB, dif_neg (by omega)]; rfl
  have hp : pieceB 5 (ByteArray.mk #[104, 105]) 1 0 = ByteArray.mk #[5, 0, 1, 104, 105] := by
    refine bytes_ext ?_
    unfold pieceB
    rw [data_app, data_app, data_app, varB_data, varB_data, varB_data, e5, e0, e1]
    rfl
  have := join_val 5 (ByteArray.mk #[104, 105]) [((ByteArray.mk #[5, 0, 1, 104, 105]), ())] (by omega) (by show 2 ≤ 400; omega) (by simp) (fun k hk => by
    have : k = 0 := by simp at hk; omega
    subst this
    rw [hc, ← hp]
    rfl)
  rw [this, hc]
  rfl

theorem piles_law (code : List (Int × Unit)) : laws_FnPiles code = some (true, ()) := by
  unfold laws_FnPiles laws_big
  by_cases hb : (1048576 : Int) < ((List.length code : Nat) : Int)
  · rw [dec_true hb]; rfl
  rw [dec_false hb]
  obtain ⟨s0, e0⟩ := new_ok code (by omega)
  obtain ⟨list, a1, s1, e1, ⟨q1, q2⟩, _⟩ := stream_ok code 0 s0 ⟨by omega, by omega, by omega⟩
  have hd : spec_DrawJoin code = some (list, ()) := by
    unfold spec_DrawJoin
    simp only [e0, e1, Option.bind_some]
  have hw : wl W_s list ≤ 71 * list.length := wl_le' W_s 71 list fun x hx => q2 x hx
  obtain ⟨out, j1, j2, j3⟩ := same_Join list (by omega)
  obtain ⟨e, f, g1, g2, o, rfl, rfl⟩ : ∃ e f, loopV impl_Join_r0 ([], (0 : Int), (0 : Int), [], list, ((List.length list : Nat) : Int), (0 : Int), ()) = some e ∧ loopV laws_FnPiles_r0 (list, out, (0 : Int), (0 : Int), [], (0 : Int), (0 : Int), ()) = some f ∧ ∃ o : TextL, e = .inl (o, ()) ∧ f = .inl (out, ((List.length o : Nat) : Int), ()) := by
    refine loop_two list.length (fun k x y => ∃ (o : TextL) (c0 c1 : Int) (ps : TextL), x = (o, c0, c1, ps, list, ((List.length list : Nat) : Int), ((k : Nat) : Int), ()) ∧ y = (list, out, c0, c1, ps, ((List.length o : Nat) : Int), ((k : Nat) : Int), ()) ∧ o.length ≤ k ∧ wl W_s ps ≤ 71 * k ∧ ps.length ≤ 10 ∧ (0 < ps.length → ((ps.length : Nat) : Int) < c1)) _ ?_ ⟨[], 0, 0, [], rfl, rfl, Nat.le_refl _, Nat.le_refl _, by simp, fun h => by simp at h⟩
    rintro k x y hk ⟨o, c0, c1, ps, rfl, rfl, k1, k2, k3, k4⟩
    by_cases hlt : k < list.length
    · have hs := q2 list[k] (List.getElem_mem hlt)
      obtain ⟨o0, o1, o2, o3, o4, _, r2, r3⟩ := addpiece c0 c1 ps list[k].1 (by omega) (by omega) (by omega)
      have hn : IntKind.i64.wrap (((List.length o : Nat) : Int) + (1 : Int)) = ((o.length + 1 : Nat) : Int) := succ_wrap (by omega)
      simp only [impl_Join_r0, impl_Join_c0, laws_FnPiles_r0, laws_FnPiles_c0, lt_nat_true hlt, zero_le_nat, cond_true, toNat_nat, blt_true hlt, List.getElem?_eq_getElem hlt, Option.bind_some, r2, ble_true (show (o.length + 1) * 16 ≤ lim by unfold lim; omega), succ_wrap (show k < 4611686018427387904 by omega), hn]
      rcases r3 with ⟨rfl, rfl, rfl, rfl, w1⟩ | ⟨rfl, rfl, rfl, rfl, rfl⟩ | ⟨rfl, rfl, w1, w2, w3, w4⟩
      · exact .inr ⟨hlt, _, _, rfl, rfl, o ++ [(o3, ())], 0, 0, [], rfl, by simp, by simp; omega, by rw [wl_nil]; omega, by simp, fun h => by simp at h⟩
      · by_cases h0 : (0 : Int) < ((List.length o2 : Nat) : Int)
        · have := k4 (by omega)
          rw [dec_true h0, dec_false (show ¬ o1 ≤ ((List.length o2 : Nat) : Int) by omega)]
          exact .inr ⟨hlt, _, _, rfl, rfl, o, _, _, _, rfl, rfl, by omega, by omega, k3, k4⟩
        · rw [dec_false h0]
          exact .inr ⟨hlt, _, _, rfl, rfl, o, _, _, _, rfl, rfl, by omega, by omega, k3, k4⟩
      · rw [dec_true (show (0 : Int) < ((List.length o2 : Nat) : Int) by omega), dec_false (show ¬ o1 ≤ ((List.length o2 : Nat) : Int) by omega)]
        exact .inr ⟨hlt, _, _, rfl, rfl, o, _, _, _, rfl, rfl, by omega, by omega, by omega, fun _ => w2⟩
    · have : k = list.length := by omega
      subst this
      exact .inl ⟨.inl (o, ()), .inl (out, ((List.length o : Nat) : Int), ()), by simp only [impl_Join_r0, impl_Join_c0, lt_nat_irr, cond_false], by simp only [laws_FnPiles_r0, laws_FnPiles_c0, lt_nat_irr, cond_false], _, rfl, rfl⟩
  have ho : o = out := by
    unfold impl_Join at j2
    rw [g1] at j2
    injection j2 with j2
    injection j2 with j2 _
  subst ho
  have t1 := sameTexts_self o (by omega)
  have t2 := sameTexts_self [((ByteArray.mk #[104, 105]), ())] (by simp)
  simp only [Option.bind_some, cond_false, hd, j1, j2, t1, Bool.not_true, g2, outK_inl, decide_true, cond_true, hi_eq, t2]
end Go.TM
