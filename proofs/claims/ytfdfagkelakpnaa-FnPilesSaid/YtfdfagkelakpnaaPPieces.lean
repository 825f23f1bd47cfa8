/- Pieces: what they are; they are read again, and joined again. -/
import Derived.Test.YtfdfagkelakpnaaPEnc
set_option linter.unusedSimpArgs false
set_option linter.unusedVariables false
namespace Go.TM
open Go

theorem tdiv_nat (a b : Nat) : Int.tdiv ((a : Nat) : Int) ((b : Nat) : Int) = ((a / b : Nat) : Int) := rfl

/-- How both loops leave. -/
def PiecesOut (n : Nat) {B C : Type} : Sum ((List (ByteArray × Unit)) × Unit) B → Sum ((List (ByteArray × Unit)) × Unit) C → Prop
  | .inl a, .inl b => a = b ∧ a.1.length = n
  | _, _ => False

theorem pieces_loop (m c : Nat) (s : ByteArray) (hm : m ≤ 100000) (hs : s.size ≤ 400) (hc : c ≤ 11) (hk40 : ∀ k, k < c → k * 40 ≤ s.size) :
    ∃ e f, loopV spec_Pieces_r0 (((m : Nat) : Int), s, [], ((c : Nat) : Int), (0 : Int), ()) = some e ∧ loopV impl_Pieces_r0 (((m : Nat) : Int), s, ((c : Nat) : Int), [], ((c : Nat) : Int), (0 : Int), ()) = some f ∧ PiecesOut c e f := by
  refine loop_two c (fun k x y => ∃ out : List (ByteArray × Unit), x = (((m : Nat) : Int), s, out, ((c : Nat) : Int), ((k : Nat) : Int), ()) ∧ y = (((m : Nat) : Int), s, ((c : Nat) : Int), out, ((c : Nat) : Int), ((k : Nat) : Int), ()) ∧ out.length = k) (PiecesOut c) ?_ ⟨[], rfl, rfl, rfl⟩
  rintro k x y hk ⟨out, rfl, rfl, hl⟩
  by_cases hlt : k < c
  · have h40 := hk40 k hlt
    have w1 : IntKind.i64.wrap (((k : Nat) : Int) * (40 : Int)) = ((k * 40 : Nat) : Int) := by rw [wrap_id] <;> omega
    have w2 : IntKind.i64.wrap (((k : Nat) : Int) + (1 : Int)) = ((k + 1 : Nat) : Int) := by rw [wrap_id] <;> omega
    have w3 : IntKind.i64.wrap (((k + 1 : Nat) : Int) * (40 : Int)) = (((k + 1) * 40 : Nat) : Int) := by rw [wrap_id] <;> omega
    obtain ⟨b1, p1, q1, z1⟩ := var_both m (by omega)
    obtain ⟨b2, p2, q2, z2⟩ := var_both k (by omega)
    obtain ⟨b3, p3, q3, z3⟩ := var_both c (by omega)
    have hmin : (if ((ByteArray.size s : Nat) : Int) < (((k + 1) * 40 : Nat) : Int) then ((ByteArray.size s : Nat) : Int) else (((k + 1) * 40 : Nat) : Int)) = ((min s.size ((k + 1) * 40) : Nat) : Int) := by
      split <;> omega
    have hex : ∀ t, (ByteArray.extract s (k * 40) t).size ≤ 400 := by
      intro t
      rw [ByteArray.size_extract]
      omega
    have hx1 := hex s.size
    have hx2 := hex ((k + 1) * 40)
    simp only [spec_Pieces_r0, spec_Pieces_c0, impl_Pieces_r0, impl_Pieces_c0, lt_nat_true hlt, cond_true, w1, w2, w3, zero_le_nat, toNat_nat, hmin, p1, p2, p3, q1, q2, q3, Option.bind_some, hl,
      ble_true (show b1.size + b2.size ≤ lim by unfold lim; omega), ble_true (show (b1 ++ b2).size + b3.size ≤ lim by rw [ByteArray.size_append]; unfold lim; omega), ble_true (show (k + 1) * 16 ≤ lim by unfold lim; omega),
      dec_true (show ((k * 40 : Nat) : Int) ≤ ((min s.size ((k + 1) * 40) : Nat) : Int) by omega), dec_true (show ((min s.size ((k + 1) * 40) : Nat) : Int) ≤ ((ByteArray.size s : Nat) : Int) by omega),
      dec_true (show ((k * 40 : Nat) : Int) ≤ ((ByteArray.size s : Nat) : Int) by omega), dec_true (show ((k * 40 : Nat) : Int) ≤ (((k + 1) * 40 : Nat) : Int) by omega), dec_true (show ((ByteArray.size s : Nat) : Int) ≤ ((ByteArray.size s : Nat) : Int) by omega),
      ble_true (show (b1 ++ b2 ++ b3).size + (ByteArray.extract s (k * 40) (min s.size ((k + 1) * 40))).size ≤ lim by rw [ByteArray.size_append, ByteArray.size_append]; have := hex (min s.size ((k + 1) * 40)); unfold lim; omega),
      ble_true (show (b1 ++ b2 ++ b3).size + (ByteArray.extract s (k * 40) s.size).size ≤ lim by rw [ByteArray.size_append, ByteArray.size_append]; unfold lim; omega),
      ble_true (show (b1 ++ b2 ++ b3).size + (ByteArray.extract s (k * 40) ((k + 1) * 40)).size ≤ lim by rw [ByteArray.size_append, ByteArray.size_append]; unfold lim; omega)]
    by_cases hto : s.size < (k + 1) * 40
    · rw [dec_true (show ((ByteArray.size s : Nat) : Int) < (((k + 1) * 40 : Nat) : Int) by omega), Nat.min_eq_left (show s.size ≤ (k + 1) * 40 by omega)]
      exact .inr ⟨hlt, _, _, rfl, rfl, _, rfl, rfl, by simp [hl]⟩
    · rw [dec_false (show ¬ ((ByteArray.size s : Nat) : Int) < (((k + 1) * 40 : Nat) : Int) by omega), Nat.min_eq_right (show (k + 1) * 40 ≤ s.size by omega), dec_true (show (((k + 1) * 40 : Nat) : Int) ≤ ((ByteArray.size s : Nat) : Int) by omega)]
      exact .inr ⟨hlt, _, _, rfl, rfl, _, rfl, rfl, by simp [hl]⟩
  · have : k = c := by omega
    subst this
    exact .inl ⟨.inl (out, ()), .inl (out, ()), by simp only [spec_Pieces_r0, spec_Pieces_c0, lt_nat_irr, cond_false], by simp only [impl_Pieces_r0, impl_Pieces_c0, lt_nat_irr, cond_false], rfl, hl⟩

theorem pieces_same (m : Int) (s : ByteArray) : ∃ (l : List (ByteArray × Unit)) (b : Bool), spec_Pieces m s = some (l, b, ()) ∧ impl_Pieces m s = some (l, b, ()) ∧ l.length ≤ 11 := by
  unfold spec_Pieces impl_Pieces
  simp only [in_eq, in_eq', Option.bind_some]
  cases hb : (decide ((0 : Int) ≤ m) && decide (m ≤ (100000 : Int)))
  · exact ⟨[], false, rfl, rfl, by simp⟩
  rw [Bool.and_eq_true, decide_eq_true_eq, decide_eq_true_eq] at hb
  obtain ⟨n, rfl⟩ := Int.eq_ofNat_of_zero_le hb.1
  by_cases hs : (400 : Int) < ((ByteArray.size s : Nat) : Int)
  · rw [dec_true hs]; exact ⟨[], false, rfl, rfl, by simp⟩
  rw [dec_false hs]
  have w : IntKind.i64.wrap (Int.tdiv (IntKind.i64.wrap ((IntKind.i64.wrap (((ByteArray.size s : Nat) : Int) + (40 : Int))) - (1 : Int))) (40 : Int)) = (((s.size + 39) / 40 : Nat) : Int) := by
    rw [wrap_id (show -9223372036854775808 ≤ ((ByteArray.size s : Nat) : Int) + 40 by omega) (by omega), wrap_id (show -9223372036854775808 ≤ ((ByteArray.size s : Nat) : Int) + 40 - 1 by omega) (by omega)]
    rw [show ((ByteArray.size s : Nat) : Int) + 40 - 1 = ((s.size + 39 : Nat) : Int) by omega, show (40 : Int) = ((40 : Nat) : Int) from rfl, tdiv_nat, wrap_id] <;> omega
  simp only [w, Bool.not_true, cond_false]
  have hmax : (if (((s.size + 39) / 40 : Nat) : Int) > (1 : Int) then (((s.size + 39) / 40 : Nat) : Int) else (1 : Int)) = ((max 1 ((s.size + 39) / 40) : Nat) : Int) := by
    split <;> omega
  rw [hmax]
  by_cases h0 : (((s.size + 39) / 40 : Nat) : Int) = 0
  · rw [dec_true h0]
    have hc : max 1 ((s.size + 39) / 40) = 1 := by omega
    rw [hc]
    obtain ⟨e, f, h1, h2, h3⟩ := pieces_loop n 1 s (by omega) (by omega) (by omega) (fun k hk => by omega)
    have h1 : loopV spec_Pieces_r0 (((n : Nat) : Int), s, [], (1 : Int), (0 : Int), ()) = some e := h1
    simp only [cond_true, h1]
    rw [h2]
    cases e with
    | inr e => exact h3.elim
    | inl e => cases f with
      | inr f => exact h3.elim
      | inl f =>
        obtain ⟨rfl, h4⟩ := h3
        exact ⟨e.1, true, rfl, rfl, by omega⟩
  · rw [dec_false h0]
    have hc : max 1 ((s.size + 39) / 40) = (s.size + 39) / 40 := by omega
    rw [hc]
    obtain ⟨e, f, h1, h2, h3⟩ := pieces_loop n ((s.size + 39) / 40) s (by omega) (by omega) (by omega) (fun k hk => by omega)
    simp only [cond_false]
    rw [h1, h2]
    cases e with
    | inr e => exact h3.elim
    | inl e => cases f with
      | inr f => exact h3.elim
      | inl f =>
        obtain ⟨rfl, h4⟩ := h3
        exact ⟨e.1, true, rfl, rfl, by omega⟩


/-! ### What the pieces are -/
def varB (n : Nat) : ByteArray := ⟨(encB n).toArray⟩
theorem varB_data (n : Nat) : (varB n).data.toList = encB n := by simp [varB]
theorem varB_impl (n : Nat) (h : n < 1099511627776) : impl_varText ((n : Nat) : Int) = some (varB n, ()) ∧ (varB n).size ≤ 10 := by
  obtain ⟨ys, h1, h2, h3⟩ := var_impl n h
  have e : bytesOf ys = varB n := bytes_ext (by rw [bytesOf_data, h2, varB_data])
  rw [← e]
  exact ⟨h1, by rw [bytesOf_size]; exact h3⟩
def partB (s : ByteArray) (i : Nat) : ByteArray := ByteArray.extract s (i * 40) (min s.size ((i + 1) * 40))
def pieceB (m : Nat) (s : ByteArray) (c i : Nat) : ByteArray := varB m ++ varB i ++ varB c ++ partB s i
def pieceL (m : Nat) (s : ByteArray) (c n : Nat) : TextL := (List.range n).map fun i => (pieceB m s c i, ())
theorem pieceL_succ (m : Nat) (s : ByteArray) (c n : Nat) : pieceL m s c (n + 1) = pieceL m s c n ++ [(pieceB m s c n, ())] := by
  unfold pieceL
  rw [List.range_succ, List.map_append]
  rfl
theorem pieceL_len (m : Nat) (s : ByteArray) (c n : Nat) : (pieceL m s c n).length = n := by simp [pieceL]
theorem partB_size (s : ByteArray) (i : Nat) : (partB s i).size = min s.size ((i + 1) * 40) - i * 40 := by
  unfold partB
  rw [ByteArray.size_extract]
  omega
def cnt (s : ByteArray) : Nat := max 1 ((s.size + 39) / 40)

theorem pieces_val (m : Nat) (s : ByteArray) (hm : m ≤ 100000) (hs : s.size ≤ 400) : impl_Pieces ((m : Nat) : Int) s = some (pieceL m s (cnt s) (cnt s), true, ()) := by
  have hc : cnt s ≤ 10 := by unfold cnt; omega
  have hl := loop_run (round := impl_Pieces_r0) (e := .inl (pieceL m s (cnt s) (cnt s), ())) (cnt s) (fun k => (((m : Nat) : Int), s, ((cnt s : Nat) : Int), pieceL m s (cnt s) k, ((cnt s : Nat) : Int), ((k : Nat) : Int), ())) (by
    simp only [impl_Pieces_r0, impl_Pieces_c0, lt_nat_irr, cond_false]) (fun k hk => by
    have h40 : k * 40 ≤ s.size := by unfold cnt at hk; omega
    have w1 : IntKind.i64.wrap (((k : Nat) : Int) * (40 : Int)) = ((k * 40 : Nat) : Int) := by rw [wrap_id] <;> omega
    have w2 : IntKind.i64.wrap (((k : Nat) : Int) + (1 : Int)) = ((k + 1 : Nat) : Int) := by rw [wrap_id] <;> omega
    have w3 : IntKind.i64.wrap (((k + 1 : Nat) : Int) * (40 : Int)) = (((k + 1) * 40 : Nat) : Int) := by rw [wrap_id] <;> omega
    obtain ⟨q1, z1⟩ := varB_impl m (by omega)
    obtain ⟨q2, z2⟩ := varB_impl k (by omega)
    obtain ⟨q3, z3⟩ := varB_impl (cnt s) (by omega)
    have hmin : (if ((ByteArray.size s : Nat) : Int) < (((k + 1) * 40 : Nat) : Int) then ((ByteArray.size s : Nat) : Int) else (((k + 1) * 40 : Nat) : Int)) = ((min s.size ((k + 1) * 40) : Nat) : Int) := by
      split <;> omega
    have hx : (ByteArray.extract s (k * 40) (min s.size ((k + 1) * 40))).size ≤ 400 := by
      rw [ByteArray.size_extract]
      omega
    simp only [impl_Pieces_r0, impl_Pieces_c0, lt_nat_true hk, cond_true, w1, w2, w3, zero_le_nat, toNat_nat, hmin, q1, q2, q3, Option.bind_some, pieceL_len,
      ble_true (show (varB m).size + (varB k).size ≤ lim by unfold lim; omega), ble_true (show (varB m ++ varB k).size + (varB (cnt s)).size ≤ lim by rw [ByteArray.size_append]; unfold lim; omega), ble_true (show (k + 1) * 16 ≤ lim by unfold lim; omega),
      dec_true (show ((k * 40 : Nat) : Int) ≤ ((min s.size ((k + 1) * 40) : Nat) : Int) by omega), dec_true (show ((min s.size ((k + 1) * 40) : Nat) : Int) ≤ ((ByteArray.size s : Nat) : Int) by omega),
      ble_true (show (varB m ++ varB k ++ varB (cnt s)).size + (ByteArray.extract s (k * 40) (min s.size ((k + 1) * 40))).size ≤ lim by rw [ByteArray.size_append, ByteArray.size_append]; unfold lim; omega)]
    rw [pieceL_succ]
    rfl)
  have hl : loopV impl_Pieces_r0 (((m : Nat) : Int), s, ((cnt s : Nat) : Int), [], ((cnt s : Nat) : Int), (0 : Int), ()) = some (.inl (pieceL m s (cnt s) (cnt s), ())) := hl
  unfold impl_Pieces
  have w : IntKind.i64.wrap (Int.tdiv (IntKind.i64.wrap ((IntKind.i64.wrap (((ByteArray.size s : Nat) : Int) + (40 : Int))) - (1 : Int))) (40 : Int)) = (((s.size + 39) / 40 : Nat) : Int) := by
    rw [wrap_id (show -9223372036854775808 ≤ ((ByteArray.size s : Nat) : Int) + 40 by omega) (by omega), wrap_id (show -9223372036854775808 ≤ ((ByteArray.size s : Nat) : Int) + 40 - 1 by omega) (by omega)]
    rw [show ((ByteArray.size s : Nat) : Int) + 40 - 1 = ((s.size + 39 : Nat) : Int) by omega, show (40 : Int) = ((40 : Nat) : Int) from rfl, tdiv_nat, wrap_id] <;> omega
  have hmax : (if (((s.size + 39) / 40 : Nat) : Int) > (1 : Int) then (((s.size + 39) / 40 : Nat) : Int) else (1 : Int)) = ((cnt s : Nat) : Int) := by
    unfold cnt
    split <;> omega
  simp only [in_eq', Option.bind_some, dec_true (show (0 : Int) ≤ ((m : Nat) : Int) by omega), dec_true (show ((m : Nat) : Int) ≤ 100000 by omega), Bool.and_self, Bool.not_true, cond_false, dec_false (show ¬ (400 : Int) < ((ByteArray.size s : Nat) : Int) by omega), w, hmax, hl, outK_inl]

/-! ### Read again -/
theorem number_enc (s : ByteArray) (a n : Nat) (hs : s.size ≤ 1048576) (hn : n ≤ 1000000000) (rest : List UInt8) (h : s.data.toList.drop a = encB n ++ rest) :
    impl_scanner_number s ((a : Nat) : Int) false = some (((n : Nat) : Int), s, ((a + (encB n).length : Nat) : Int), false, ()) ∧ a + (encB n).length ≤ s.size ∧ s.data.toList.drop (a + (encB n).length) = rest := by
  obtain ⟨h1, h2⟩ := readvar_enc s a n hs hn rest h
  refine ⟨?_, h2, ?_⟩
  · unfold impl_scanner_number
    rw [h1]
    rfl
  · rw [← List.drop_drop, h, List.drop_left]

theorem readpiece_val (m : Nat) (s : ByteArray) (i : Nat) (hm : m ≤ 100000) (hs : s.size ≤ 400) (hi : i < cnt s) : impl_ReadPiece (pieceB m s (cnt s) i) = some (((m : Nat) : Int), ((i : Nat) : Int), ((cnt s : Nat) : Int), partB s i, true, ()) := by
  have hc : cnt s ≤ 10 := by unfold cnt; omega
  obtain ⟨_, z1⟩ := varB_impl m (by omega)
  obtain ⟨_, z2⟩ := varB_impl i (by omega)
  obtain ⟨_, z3⟩ := varB_impl (cnt s) (by omega)
  have hp := partB_size s i
  have hd : (pieceB m s (cnt s) i).data.toList = encB m ++ (encB i ++ (encB (cnt s) ++ (partB s i).data.toList)) := by
    unfold pieceB
    rw [data_app, data_app, data_app, varB_data, varB_data, varB_data, List.append_assoc, List.append_assoc]
  have hz : (pieceB m s (cnt s) i).size ≤ 1048576 := by
    unfold pieceB
    rw [ByteArray.size_append, ByteArray.size_append, ByteArray.size_append]
    omega
  have hzl := size_list (pieceB m s (cnt s) i)
  generalize pieceB m s (cnt s) i = t at *
  obtain ⟨g1, g2, g3⟩ := number_enc t 0 m hz (by omega) _ hd
  obtain ⟨g4, g5, g6⟩ := number_enc t _ i hz (by omega) _ g3
  obtain ⟨g7, g8, g9⟩ := number_enc t _ (cnt s) hz (by omega) _ g6
  have g1 : impl_scanner_number t (0 : Int) false = _ := g1
  generalize ha : 0 + (encB m).length + (encB i).length + (encB (cnt s)).length = a at *
  have hpart : ByteArray.extract t a t.size = partB s i := by
    refine bytes_ext ?_
    have := extract_list t a (t.size - a)
    rw [show a + (t.size - a) = t.size by omega] at this
    rw [this, g9, List.take_of_length_le]
    have := congrArg List.length g9
    rw [List.length_drop] at this
    omega
  unfold impl_ReadPiece
  rw [g1]
  simp only [Option.bind_some, g4, g7, cond_false, dec_false (show ¬ (100000 : Int) < ((m : Nat) : Int) by omega), dec_false (show ¬ ((cnt s : Nat) : Int) ≤ ((i : Nat) : Int) by omega), dec_false (show ¬ (10 : Int) < ((cnt s : Nat) : Int) by omega), zero_le_nat, cond_true, toNat_nat, dec_true (show ((a : Nat) : Int) ≤ ((ByteArray.size t : Nat) : Int) by omega), hpart, dec_false (show ¬ (40 : Int) < (((partB s i).size : Nat) : Int) by omega)]
  by_cases h1 : (((partB s i).size : Nat) : Int) < 40
  · have wc : IntKind.i64.wrap (((cnt s : Nat) : Int) - (1 : Int)) = ((cnt s - 1 : Nat) : Int) := by rw [wrap_id] <;> omega
    have : ¬ ((i : Nat) : Int) < ((cnt s - 1 : Nat) : Int) := by unfold cnt at hi ⊢; omega
    rw [dec_true h1, wc, dec_false this]
    rfl
  · rw [dec_false h1]
    rfl

/-! ### Joined again -/
def partL (s : ByteArray) (n : Nat) : TextL := (List.range n).map fun i => (partB s i, ())
theorem partL_succ (s : ByteArray) (n : Nat) : partL s (n + 1) = partL s n ++ [(partB s n, ())] := by
  unfold partL
  rw [List.range_succ, List.map_append]
  rfl
theorem partL_len (s : ByteArray) (n : Nat) : (partL s n).length = n := by simp [partL]
theorem partL_data (s : ByteArray) : ∀ n, n ≤ cnt s → (cat (partL s n)).data.toList = s.data.toList.take (n * 40)
  | 0, _ => by simp [partL, cat]
  | n + 1, h => by
    rw [partL_succ, cat_snoc, data_app, partL_data s n (by omega)]
    have h40 : n * 40 ≤ s.size := by unfold cnt at h; omega
    have hsz := size_list s
    have e : (partB s n).data.toList = (s.data.toList.drop (n * 40)).take 40 := by
      unfold partB
      have := extract_list s (n * 40) (min s.size ((n + 1) * 40) - n * 40)
      rw [show n * 40 + (min s.size ((n + 1) * 40) - n * 40) = min s.size ((n + 1) * 40) by omega] at this
      rw [this]
      by_cases hh : (n + 1) * 40 ≤ s.size
      · rw [show min s.size ((n + 1) * 40) - n * 40 = 40 by omega]
      · rw [List.take_of_length_le (by rw [List.length_drop]; omega), List.take_of_length_le (by rw [List.length_drop]; omega)]
    rw [e, ← List.take_add]
    congr 1
    omega
theorem partL_cat (s : ByteArray) : cat (partL s (cnt s)) = s := by
  refine bytes_ext ?_
  have hsz := size_list s
  rw [partL_data s _ (Nat.le_refl _), List.take_of_length_le]
  unfold cnt
  omega
theorem partL_w (s : ByteArray) (n : Nat) (h : n ≤ cnt s) : wl W_s (partL s n) ≤ s.size := by
  have := congrArg List.length (partL_data s n h)
  rw [size_list, cat_size, List.length_take, size_list] at this
  omega

/-- The pile when k pieces are there. -/
def pile (m : Nat) (s : ByteArray) (k : Nat) : Int × Int × TextL := if k = 0 then (0, 0, []) else (((m : Nat) : Int), ((cnt s : Nat) : Int), partL s k)

theorem addp_step (m : Nat) (s : ByteArray) (k : Nat) (hm : m ≤ 100000) (hs : s.size ≤ 400) (hk : k < cnt s) :
    impl_AddPiece (pile m s k).1 (pile m s k).2.1 (pile m s k).2.2 (pieceB m s (cnt s) k) = if k + 1 = cnt s then some (0, 0, [], s, true, ()) else some (((m : Nat) : Int), ((cnt s : Nat) : Int), partL s (k + 1), ByteArray.mk #[], false, ()) := by
  have hc : cnt s ≤ 10 := by unfold cnt; omega
  have wc : IntKind.i64.wrap (((cnt s : Nat) : Int) - (1 : Int)) = ((cnt s - 1 : Nat) : Int) := by rw [wrap_id] <;> omega
  have hw := partL_w s (k + 1) (by omega)
  have hj := join_cat (partL s (k + 1)) (by rw [partL_len]; omega) (by omega)
  unfold impl_AddPiece
  rw [readpiece_val m s k hm hs hk]
  by_cases h0 : k = 0
  · subst h0
    have e1 : partL s (0 + 1) = [(partB s 0, ())] := rfl
    rw [e1] at hj ⊢
    unfold pile
    rw [if_pos rfl, clone_string [] (by simp)]
    simp only [Option.bind_some, Bool.not_true, cond_false, wc, dec_false (show ¬ (0 : Int) < ((0 : Nat) : Int) by omega), hj]
    by_cases h1 : 0 + 1 = cnt s
    · rw [if_pos h1, dec_true (show ((0 : Nat) : Int) = ((cnt s - 1 : Nat) : Int) by omega)]
      have := partL_cat s
      rw [← h1, e1] at this
      rw [this]
      rfl
    · rw [if_neg h1, dec_false (show ¬ ((0 : Nat) : Int) = ((cnt s - 1 : Nat) : Int) by omega)]
      rfl
  · unfold pile
    rw [if_neg h0, clone_string _ (by rw [partL_len]; omega)]
    rw [partL_succ] at hj ⊢
    simp only [Option.bind_some, Bool.not_true, cond_false, cond_true, wc, dec_true (show (0 : Int) < ((k : Nat) : Int) by omega), decide_true, partL_len, ble_true (show (k + 1) * 16 ≤ lim by unfold lim; omega), hj]
    by_cases h1 : k + 1 = cnt s
    · rw [if_pos h1, dec_true (show ((k : Nat) : Int) = ((cnt s - 1 : Nat) : Int) by omega)]
      have := partL_cat s
      rw [← h1, partL_succ] at this
      rw [this]
      rfl
    · rw [if_neg h1, dec_false (show ¬ ((k : Nat) : Int) = ((cnt s - 1 : Nat) : Int) by omega)]
      rfl

theorem join_val (m : Nat) (s : ByteArray) (L : TextL) (hm : m ≤ 100000) (hs : s.size ≤ 400) (hl : L.length ≤ 1048576) (hL : ∀ k (h : k < L.length), L[k].1 = pieceB m s (cnt s) (k % cnt s)) : impl_Join L = some (List.replicate (L.length / cnt s) (s, ()), ()) := by
  have hc0 : 1 ≤ cnt s := by unfold cnt; omega
  have key := loop_run (round := impl_Join_r0) (e := .inl (List.replicate (L.length / cnt s) (s, ()), ())) L.length (fun k => (List.replicate (k / cnt s) (s, ()), (pile m s (k % cnt s)).1, (pile m s (k % cnt s)).2.1, (pile m s (k % cnt s)).2.2, L, ((List.length L : Nat) : Int), ((k : Nat) : Int), ())) (by
    simp only [impl_Join_r0, impl_Join_c0, lt_nat_irr, cond_false]) (fun k hk => by
    have hr : k % cnt s < cnt s := Nat.mod_lt _ (by omega)
    have hlen : k / cnt s ≤ k := Nat.div_le_self _ _
    simp only [impl_Join_r0, impl_Join_c0, lt_nat_true hk, zero_le_nat, cond_true, toNat_nat, List.getElem?_eq_getElem hk, Option.bind_some, hL k hk, addp_step m s (k % cnt s) hm hs hr, List.length_replicate, ble_true (show (k / cnt s + 1) * 16 ≤ lim by unfold lim; omega), succ_wrap (show k < 4611686018427387904 by omega)]
    by_cases h1 : k % cnt s + 1 = cnt s
    · have e1 : (k + 1) % cnt s = 0 := by
        rw [Nat.add_mod]
        by_cases h2 : cnt s = 1
        · rw [h2]; exact Nat.mod_one _
        · rw [Nat.mod_eq_of_lt (show 1 < cnt s by omega), h1, Nat.mod_self]
      have e2 : (k + 1) / cnt s = k / cnt s + 1 := by
        have a1 := Nat.div_add_mod k (cnt s)
        have a2 := Nat.div_add_mod (k + 1) (cnt s)
        rw [e1] at a2
        have : cnt s * ((k + 1) / cnt s) = cnt s * (k / cnt s + 1) := by rw [Nat.mul_add]; omega
        exact Nat.eq_of_mul_eq_mul_left (by omega) this
      rw [if_pos h1, e1, e2]
      have : List.replicate (k / cnt s + 1) (s, ()) = List.replicate (k / cnt s) (s, ()) ++ [(s, ())] := by rw [List.replicate_succ']
      rw [this]
      rfl
    · have e1 : (k + 1) % cnt s = k % cnt s + 1 := by
        rw [Nat.add_mod, Nat.mod_eq_of_lt (show 1 < cnt s by omega), Nat.mod_eq_of_lt (show k % cnt s + 1 < cnt s by omega)]
      have e2 : (k + 1) / cnt s = k / cnt s := by
        have a1 := Nat.div_add_mod k (cnt s)
        have a2 := Nat.div_add_mod (k + 1) (cnt s)
        rw [e1] at a2
        have : cnt s * ((k + 1) / cnt s) = cnt s * (k / cnt s) := by omega
        exact Nat.eq_of_mul_eq_mul_left (by omega) this
      rw [if_neg h1, e1, e2]
      have : pile m s (k % cnt s + 1) = (((m : Nat) : Int), ((cnt s : Nat) : Int), partL s (k % cnt s + 1)) := by unfold pile; rw [if_neg (by omega)]
      rw [this]
      rfl)
  have z : (0 : Nat) / cnt s = 0 := Nat.zero_div _
  have z2 : (0 : Nat) % cnt s = 0 := Nat.zero_mod _
  rw [z, z2] at key
  have key : loopV impl_Join_r0 ([], (0 : Int), (0 : Int), [], L, ((List.length L : Nat) : Int), (0 : Int), ()) = some (.inl (List.replicate (L.length / cnt s) (s, ()), ())) := key
  unfold impl_Join
  rw [key]
  rfl
end Go.TM
