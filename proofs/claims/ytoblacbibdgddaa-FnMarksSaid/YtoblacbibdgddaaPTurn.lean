/- TurnOk, of the program and of the reference. -/
import Derived.Test.YtoblacbibdgddaaPBundle
set_option linter.unusedSimpArgs false
set_option linter.unusedVariables false
namespace Go.TM
open Go

/-- The one finds it where the other finds its place. -/
def InOut (e : Sum Unit (Bool × Unit)) (f : Sum Unit (Int × Unit)) : Prop := ∃ b, (e = .inl () ∧ f = .inl () ∧ b = false) ∨ (e = .inr (true, ()) ∧ (∃ k : Nat, f = .inr (((k : Nat) : Int), ())) ∧ b = true)

theorem in_loop (d : Int) (xs : List (Int × Unit)) (h : xs.length ≤ 1048576) :
    ∃ e f, loopV spec_l05In_r0 (xs, d, (0 : Int), ()) = some e ∧ loopV slices_Index_int_r0 (xs, d, ((List.length xs : Nat) : Int), (0 : Int), ()) = some f ∧ InOut e f := by
  refine loop_two xs.length (fun k x y => x = (xs, d, ((k : Nat) : Int), ()) ∧ y = (xs, d, ((List.length xs : Nat) : Int), ((k : Nat) : Int), ())) InOut ?_ ⟨rfl, rfl⟩
  rintro k x y hk ⟨rfl, rfl⟩
  by_cases hlt : k < xs.length
  · simp only [spec_l05In_r0, spec_l05In_c0, slices_Index_int_r0, slices_Index_int_c0, lt_nat_true hlt, zero_le_nat, cond_true, toNat_nat, List.getElem?_eq_getElem hlt, Option.bind_some, succ_wrap (show k < 4611686018427387904 by omega)]
    by_cases hd : xs[k].1 = d
    · rw [dec_true hd, dec_true hd.symm]
      exact .inl ⟨.inr (true, ()), .inr (((k : Nat) : Int), ()), rfl, rfl, true, .inr ⟨rfl, ⟨k, rfl⟩, rfl⟩⟩
    · rw [dec_false hd, dec_false (fun e => hd e.symm)]
      exact .inr ⟨hlt, _, _, rfl, rfl, rfl, rfl⟩
  · have : k = xs.length := by omega
    subst this
    exact .inl ⟨.inl (), .inl (), by simp only [spec_l05In_r0, spec_l05In_c0, lt_nat_irr, cond_false], by simp only [slices_Index_int_r0, slices_Index_int_c0, lt_nat_irr, cond_false], false, .inl ⟨rfl, rfl, rfl⟩⟩

theorem contains_same (d : Int) (xs : List (Int × Unit)) (h : xs.length ≤ 1048576) : ∃ b, spec_l05In xs d = some (b, ()) ∧ slices_Contains_int xs d = some (b, ()) := by
  obtain ⟨e, f, h1, h2, b, h3⟩ := in_loop d xs h
  unfold spec_l05In slices_Contains_int slices_Index_int
  rw [h1, h2]
  rcases h3 with ⟨rfl, rfl, rfl⟩ | ⟨rfl, ⟨k, rfl⟩, rfl⟩
  · exact ⟨false, rfl, rfl⟩
  · refine ⟨true, rfl, ?_⟩
    simp only [outK, Option.bind_some, zero_le_nat]

theorem words_eq (b : Bool) (d : Int) (s : ByteArray) : impl_wordsOk b d s = some (bif b then (decide (1 ≤ d) && decide (d ≤ 2)) && decide (((ByteArray.size s : Nat) : Int) ≤ 60) else decide (d = 0) && strEq s (ByteArray.mk #[]), ()) := by
  unfold impl_wordsOk
  simp only [level_eq, Option.bind_some]
  cases b
  · cases decide (d = 0) <;> rfl
  · cases (decide (1 ≤ d) && decide (d ≤ 2)) <;> rfl

theorem turn_same (c : Int) (xs : List (Int × Unit)) (a p b d : Int) (s : ByteArray) (h : xs.length ≤ 1048576) : ∃ x, spec_TurnOk c xs a p b d s = some (x, ()) ∧ impl_TurnOk c xs a p b d s = some (x, ()) := by
  obtain ⟨y, h1, h2, _⟩ := ring_same c xs h
  obtain ⟨z, h3, h4⟩ := contains_same p xs h
  unfold spec_TurnOk impl_TurnOk
  simp only [in_eq, in_eq', words_eq, Option.bind_some, h1, h2, h3, h4]
  cases y
  · cases (decide (1 ≤ a) && decide (a ≤ 7))
    · exact ⟨_, rfl, rfl⟩
    cases z
    · exact ⟨_, rfl, rfl⟩
    cases decide (b < 0)
    · exact ⟨_, rfl, rfl⟩
    · exact ⟨_, rfl, rfl⟩
  cases (decide (1 ≤ a) && decide (a ≤ 7))
  · exact ⟨_, rfl, rfl⟩
  cases z
  · exact ⟨_, rfl, rfl⟩
  cases decide (b < 0)
  · cases decide (a = 1)
    · cases decide (d = 0)
      · exact ⟨_, rfl, rfl⟩
      · exact ⟨_, rfl, rfl⟩
    · cases (decide (1 ≤ d) && decide (d ≤ 2))
      · exact ⟨_, rfl, rfl⟩
      · exact ⟨_, rfl, rfl⟩
  · exact ⟨_, rfl, rfl⟩

theorem turn_true (c : Int) (xs : List (Int × Unit)) (a p b d : Int) (s : ByteArray) (hz : Z_iLiE (c, xs, ())) (hz2 : Z_iiiis (a, p, b, d, s, ())) : laws_FnExactTurnOk c xs a p b d s = some (true, ()) := by
  obtain ⟨m, e1, l1, w1⟩ := sz_Ring c xs (left := 1048576) hz (by omega) (by omega)
  unfold laws_FnExactTurnOk
  rw [e1]
  simp only [Option.bind_some]
  by_cases hm : m < 0
  · rw [dec_true hm]; rfl
  · have w1 := w1 (by omega)
    have hs : W_iLiE (c, xs, ()) ≤ 1048576 := by omega
    have hl : List.length xs + wl W_i xs ≤ 1048576 := hs
    obtain ⟨m2, e2, l2, w2⟩ := sz_Turn a p b d s (left := m) hz2 (by omega) (by omega)
    rw [dec_false hm, e2]
    simp only [Option.bind_some, cond_false]
    by_cases hm2 : m2 < 0
    · rw [dec_true hm2]; rfl
    · have w2 := w2 (by omega)
      have hs2 : W_iiiis (a, p, b, d, s, ()) ≤ 1048576 := by omega
      obtain ⟨y, h1, h2⟩ := turn_same c xs a p b d s (by omega)
      rw [dec_false hm2]
      simp only [to_Ring c xs hs, to_Turn a p b d s hs2, cond_false, Option.bind_some, h1, h2, beq_self_eq_true, Bool.not_true, eq_Ring c xs hs]
end Go.TM
