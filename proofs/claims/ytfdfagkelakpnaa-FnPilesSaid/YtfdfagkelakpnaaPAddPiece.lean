/- AddPiece and Join, of the program and of the reference. -/
import Derived.Test.YtfdfagkelakpnaaPReadPiece
set_option linter.unusedSimpArgs false
set_option linter.unusedVariables false
namespace Go.TM
open Go

abbrev TextL : Type := List (ByteArray × Unit)
/-- Texts, one behind the other. -/
def cat : TextL → ByteArray
  | [] => ByteArray.mk #[]
  | x :: l => x.1 ++ cat l
theorem data_app (a b : ByteArray) : (a ++ b).data.toList = a.data.toList ++ b.data.toList := by simp
theorem cat_data (xs : TextL) : (cat xs).data.toList = (xs.map fun y => y.1.data.toList).flatten := by
  induction xs with
  | nil => rfl
  | cons x l ih =>
    show (x.1 ++ cat l).data.toList = _
    rw [data_app, ih]
    rfl
theorem cat_snoc (xs : TextL) (y : ByteArray × Unit) : cat (xs ++ [y]) = cat xs ++ y.1 := by
  refine bytes_ext ?_
  rw [data_app, cat_data, cat_data]
  simp
theorem cat_size (xs : TextL) : (cat xs).size = wl W_s xs := by
  induction xs with
  | nil => rfl
  | cons x l ih =>
    show (x.1 ++ cat l).size = _
    rw [ByteArray.size_append, ih]
    rfl
theorem cat_take (xs : TextL) {k : Nat} (hk : k < xs.length) : cat (xs.take (k + 1)) = cat (xs.take k) ++ xs[k].1 := by
  rw [List.take_succ_eq_append_getElem hk, cat_snoc]
theorem inter_nil (l : List (List UInt8)) : List.intercalate [] l = l.flatten := by
  match l with
  | [] => rfl
  | [x] => simp [List.intercalate]
  | x :: y :: l =>
    have := inter_nil (y :: l)
    simp only [List.intercalate] at this ⊢
    simp only [List.intersperse_cons_cons, List.flatten_cons, List.nil_append]
    rw [this]
    rfl
theorem join_cat (xs : TextL) (h1 : xs.length ≤ 4194304) (h2 : wl W_s xs ≤ 4194304) : joinT xs (ByteArray.mk #[]) = some (cat xs, ()) := by
  have e : joinL xs (ByteArray.mk #[]) = (cat xs).data.toList := by
    rw [cat_data]
    exact inter_nil _
  have hs : (cat xs).data.toList.length = wl W_s xs := by rw [size_list, cat_size]
  unfold joinT
  rw [e, hs, ble_true (show xs.length ≤ lim by unfold lim; omega), ble_true (show wl W_s xs ≤ lim by unfold lim; omega)]
  rfl

theorem whole_loop (n c : Int) (xs : TextL) (h1 : xs.length ≤ 4194304) (h2 : wl W_s xs ≤ 4194304) : loopV spec_AddPiece_r0 ((0 : Int), (0 : Int), [], n, c, xs, (ByteArray.mk #[]), (0 : Int), ()) = some (.inl ((0 : Int), (0 : Int), [], cat xs, ())) := by
  have := loop_run (round := spec_AddPiece_r0) (e := .inl ((0 : Int), (0 : Int), [], cat xs, ())) xs.length (fun k => ((0 : Int), (0 : Int), [], n, c, xs, cat (xs.take k), ((k : Nat) : Int), ())) (by
    simp only [spec_AddPiece_r0, spec_AddPiece_c0, lt_nat_irr, cond_false, List.take_length]) (fun k hk => by
    have hw := wl_take W_s xs hk
    have hm : wl W_s (xs.take (k + 1)) ≤ wl W_s xs := by
      have := wl_app W_s (xs.take (k + 1)) (xs.drop (k + 1))
      rw [List.take_append_drop] at this
      omega
    have he : W_s xs[k] = ByteArray.size xs[k].1 := rfl
    have hz := cat_size (xs.take k)
    simp only [spec_AddPiece_r0, spec_AddPiece_c0, lt_nat_true hk, zero_le_nat, cond_true, toNat_nat, blt_true hk, List.getElem?_eq_getElem hk, Option.bind_some, ble_true (show (cat (xs.take k)).size + ByteArray.size xs[k].1 ≤ lim by unfold lim; omega), succ_wrap (show k < 4611686018427387904 by omega), cat_take xs hk])
  exact this

/-- What both answer: whole; or as it was; or with one more. -/
def AddP (c0 c1 : Int) (ps : TextL) (s : ByteArray) (o0 o1 : Int) (o2 : TextL) (o3 : ByteArray) (o4 : Bool) : Prop :=
  (o4 = true ∧ o0 = 0 ∧ o1 = 0 ∧ o2 = [] ∧ o3.size ≤ wl W_s ps + s.size) ∨
  (o4 = false ∧ o0 = c0 ∧ o1 = c1 ∧ o2 = ps ∧ o3 = ByteArray.mk #[]) ∨
  (o4 = false ∧ o3 = ByteArray.mk #[] ∧ 0 < o2.length ∧ ((o2.length : Nat) : Int) < o1 ∧ o1 ≤ 10 ∧ wl W_s o2 ≤ wl W_s ps + s.size)

theorem clone_string (xs : TextL) (h : xs.length ≤ 4194304) : slices_Clone_string xs = some (xs, ()) := by
  unfold slices_Clone_string
  rw [ble_true (show (0 + xs.length) * 16 ≤ lim by unfold lim; omega)]
  rfl

theorem addpiece (c0 c1 : Int) (ps : TextL) (s : ByteArray) (h0 : ps.length ≤ 2097152) (h1 : wl W_s ps ≤ 2097152) (h2 : s.size ≤ 1048576) : ∃ o0 o1 o2 o3 o4, spec_AddPiece c0 c1 ps s = some (o0, o1, o2, o3, o4, ()) ∧ impl_AddPiece c0 c1 ps s = some (o0, o1, o2, o3, o4, ()) ∧ AddP c0 c1 ps s o0 o1 o2 o3 o4 := by
  obtain ⟨y, r1, r2, hp⟩ := readpiece_same s h2
  unfold spec_AddPiece impl_AddPiece
  rw [clone_string ps (by omega), r1, r2, ble_true (show (0 + ps.length) * 16 ≤ lim by unfold lim; omega)]
  simp only [Option.bind_some, cond_true, List.nil_append]
  rcases hp with rfl | ⟨n, p, c, part, rfl, k1, k2, k3, k4, k5⟩
  · exact ⟨_, _, _, _, _, rfl, rfl, .inr (.inl ⟨rfl, rfl, rfl, rfl, rfl⟩)⟩
  have wp : IntKind.i64.wrap (((p : Nat) : Int) + (1 : Int)) = ((p + 1 : Nat) : Int) := succ_wrap (by omega)
  have wc : IntKind.i64.wrap (((c : Nat) : Int) - (1 : Int)) = ((c - 1 : Nat) : Int) := by rw [wrap_id] <;> omega
  have one : wl W_s [(part, ())] = part.size := rfl
  simp only [Bool.not_true, cond_false, wp, wc]
  by_cases hp0 : (0 : Int) < ((p : Nat) : Int)
  · rw [dec_true hp0]
    simp only [cond_true]
    by_cases e1 : c0 = ((n : Nat) : Int)
    case neg => rw [dec_false e1]; exact ⟨_, _, _, _, _, rfl, rfl, .inr (.inl ⟨rfl, rfl, rfl, rfl, rfl⟩)⟩
    rw [dec_true e1]
    by_cases e2 : c1 = ((c : Nat) : Int)
    case neg => rw [dec_false e2]; exact ⟨_, _, _, _, _, rfl, rfl, .inr (.inl ⟨rfl, rfl, rfl, rfl, rfl⟩)⟩
    rw [dec_true e2]
    by_cases e3 : ((List.length ps : Nat) : Int) = ((p : Nat) : Int)
    case neg => rw [dec_false e3]; exact ⟨_, _, _, _, _, rfl, rfl, .inr (.inl ⟨rfl, rfl, rfl, rfl, rfl⟩)⟩
    have hw : wl W_s (ps ++ [(part, ())]) = wl W_s ps + part.size := by rw [wl_app, one]
    have hl : (ps ++ [(part, ())]).length = p + 1 := by simp; omega
    rw [dec_true e3, ble_true (show (ps.length + 1) * 16 ≤ lim by unfold lim; omega)]
    simp only [Bool.not_true, cond_false, cond_true]
    rw [whole_loop _ _ _ (by rw [hl]; omega) (by rw [hw]; omega), join_cat _ (by rw [hl]; omega) (by rw [hw]; omega)]
    by_cases e4 : ((p + 1 : Nat) : Int) < ((c : Nat) : Int)
    · rw [dec_true e4, dec_false (show ¬ ((p : Nat) : Int) = ((c - 1 : Nat) : Int) by omega)]
      exact ⟨_, _, _, _, _, rfl, rfl, .inr (.inr ⟨rfl, rfl, by rw [hl]; omega, by rw [hl]; omega, by omega, by rw [hw]; omega⟩)⟩
    · rw [dec_false e4, dec_true (show ((p : Nat) : Int) = ((c - 1 : Nat) : Int) by omega)]
      exact ⟨_, _, _, _, _, rfl, rfl, .inl ⟨rfl, rfl, rfl, rfl, by rw [cat_size, hw]; omega⟩⟩
  · rw [dec_false hp0]
    have p0 : p = 0 := by omega
    subst p0
    simp only [cond_false]
    rw [whole_loop _ _ [(part, ())] (by show 1 ≤ 4194304; omega) (by rw [one]; omega), join_cat [(part, ())] (by show 1 ≤ 4194304; omega) (by rw [one]; omega)]
    by_cases e4 : ((0 + 1 : Nat) : Int) < ((c : Nat) : Int)
    · rw [dec_true e4, dec_false (show ¬ ((0 : Nat) : Int) = ((c - 1 : Nat) : Int) by omega)]
      exact ⟨_, _, _, _, _, rfl, rfl, .inr (.inr ⟨rfl, rfl, by show 0 < 1; omega, e4, by omega, by rw [one]; omega⟩)⟩
    · rw [dec_false e4, dec_true (show ((0 : Nat) : Int) = ((c - 1 : Nat) : Int) by omega)]
      exact ⟨_, _, _, _, _, rfl, rfl, .inl ⟨rfl, rfl, rfl, rfl, by rw [cat_size, one]; omega⟩⟩

theorem same_AddPiece (p0c0 : Int) (p0c1 : Int) (p0c2 : List (ByteArray × Unit)) (text1 : ByteArray) (h0 : (List.length p0c2 + wl W_s p0c2) ≤ 1048576) (h1 : ByteArray.size text1 ≤ 1048576) : ∃ o0 o1 o2 o3 o4, spec_AddPiece p0c0 p0c1 p0c2 text1 = some (o0, o1, o2, o3, o4, ()) ∧ impl_AddPiece p0c0 p0c1 p0c2 text1 = some (o0, o1, o2, o3, o4, ()) ∧ (List.length o2 + wl W_s o2) ≤ 4194304 ∧ ByteArray.size o3 ≤ 4194304 := by
  obtain ⟨o0, o1, o2, o3, o4, g1, g2, g3⟩ := addpiece p0c0 p0c1 p0c2 text1 (by omega) (by omega) h1
  refine ⟨o0, o1, o2, o3, o4, g1, g2, ?_⟩
  have hz : ByteArray.size (ByteArray.mk #[]) = 0 := rfl
  rcases g3 with ⟨_, _, _, rfl, q⟩ | ⟨_, _, _, rfl, rfl⟩ | ⟨_, rfl, q1, q2, q3, q4⟩
  · exact ⟨by simp [wl_nil], by omega⟩
  · exact ⟨by omega, by omega⟩
  · exact ⟨by omega, by omega⟩

/-- What the loops of Join leave. -/
def JoinOut (n w : Nat) {B C : Type} : Sum (TextL × Unit) B → Sum (TextL × Unit) C → Prop
  | .inl a, .inl b => a = b ∧ a.1.length ≤ n ∧ wl W_s a.1 ≤ w
  | _, _ => False

theorem same_Join (list0 : List (ByteArray × Unit)) (h0 : (List.length list0 + wl W_s list0) ≤ 1048576) : ∃ o0, spec_Join list0 = some (o0, ()) ∧ impl_Join list0 = some (o0, ()) ∧ (List.length o0 + wl W_s o0) ≤ 1048576 := by
  obtain ⟨e, f, g1, g2, g3⟩ : ∃ e f, loopV spec_Join_r0 (list0, [], (0 : Int), (0 : Int), [], (0 : Int), ()) = some e ∧ loopV impl_Join_r0 ([], (0 : Int), (0 : Int), [], list0, ((List.length list0 : Nat) : Int), (0 : Int), ()) = some f ∧ JoinOut list0.length (wl W_s list0) e f := by
    refine loop_two list0.length (fun k x y => ∃ (out : TextL) (c0 c1 : Int) (ps : TextL), x = (list0, out, c0, c1, ps, ((k : Nat) : Int), ()) ∧ y = (out, c0, c1, ps, list0, ((List.length list0 : Nat) : Int), ((k : Nat) : Int), ()) ∧ out.length ≤ k ∧ wl W_s out + wl W_s ps ≤ wl W_s (list0.take k) ∧ ps.length ≤ 10) (JoinOut _ _) ?_ ⟨[], 0, 0, [], rfl, rfl, Nat.le_refl _, Nat.le_refl _, by simp⟩
    rintro k x y hk ⟨out, c0, c1, ps, rfl, rfl, q1, q2, q3⟩
    have hm : wl W_s (list0.take k) ≤ wl W_s list0 := by
      have := wl_app W_s (list0.take k) (list0.drop k)
      rw [List.take_append_drop] at this
      omega
    by_cases hlt : k < list0.length
    · have hw := wl_take W_s list0 hlt
      have he : W_s list0[k] = ByteArray.size list0[k].1 := rfl
      have hs := wl_mem W_s list0 list0[k] (List.getElem_mem hlt)
      obtain ⟨o0, o1, o2, o3, o4, r1, r2, r3⟩ := addpiece c0 c1 ps list0[k].1 (by omega) (by omega) (by omega)
      simp only [spec_Join_r0, spec_Join_c0, impl_Join_r0, impl_Join_c0, lt_nat_true hlt, zero_le_nat, cond_true, toNat_nat, List.getElem?_eq_getElem hlt, Option.bind_some, r1, r2, ble_true (show (out.length + 1) * 16 ≤ lim by unfold lim; omega), succ_wrap (show k < 4611686018427387904 by omega)]
      rcases r3 with ⟨rfl, rfl, rfl, rfl, w1⟩ | ⟨rfl, rfl, rfl, rfl, rfl⟩ | ⟨rfl, rfl, w1, w2, w3, w4⟩
      · refine .inr ⟨hlt, _, _, rfl, rfl, _, _, _, _, rfl, rfl, by simp; omega, ?_, by simp⟩
        rw [wl_app, wl_nil]
        have : wl W_s [(o3, ())] = o3.size := rfl
        omega
      · exact .inr ⟨hlt, _, _, rfl, rfl, out, _, _, _, rfl, rfl, by omega, by omega, q3⟩
      · exact .inr ⟨hlt, _, _, rfl, rfl, out, _, _, _, rfl, rfl, by omega, by omega, by omega⟩
    · have : k = list0.length := by omega
      subst this
      exact .inl ⟨.inl (out, ()), .inl (out, ()), by simp only [spec_Join_r0, spec_Join_c0, lt_nat_irr, cond_false], by simp only [impl_Join_r0, impl_Join_c0, lt_nat_irr, cond_false], rfl, q1, by show wl W_s out ≤ _; omega⟩
  unfold spec_Join impl_Join
  rw [g1, g2]
  cases e with
  | inr e => exact g3.elim
  | inl e => cases f with
    | inr f => exact g3.elim
    | inl f =>
      obtain ⟨rfl, q1, q2⟩ := g3
      exact ⟨e.1, rfl, rfl, by omega⟩
end Go.TM
