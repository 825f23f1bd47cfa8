/- BundleOk, of the program and of the reference. -/
import Derived.Test.YtoblacbibdgddaaPRings
set_option linter.unusedSimpArgs false
set_option linter.unusedVariables false
namespace Go.TM
open Go

theorem level_eq (a : Int) : impl_isLevel a = some (decide (1 ≤ a) && decide (a ≤ 2), ()) := by
  unfold impl_isLevel
  by_cases h1 : a = 1
  · subst h1; rfl
  by_cases h2 : a = 2
  · subst h2; rfl
  have e : (decide (1 ≤ a) && decide (a ≤ 2)) = false := by
    rw [Bool.and_eq_false_iff, decide_eq_false_iff_not, decide_eq_false_iff_not]; omega
  rw [e, dec_false h1, dec_false h2]
  rfl

theorem item_same (a b c : Int) (s : ByteArray) : ∃ x, spec_ItemOk a b c s = some (x, ()) ∧ impl_ItemOk a b c s = some (x, ()) := by
  unfold spec_ItemOk impl_ItemOk
  simp only [in_eq, in_eq', daemon_eq, level_eq, Option.bind_some]
  cases (decide (1 ≤ a) && decide (a ≤ 60))
  · exact ⟨_, rfl, rfl⟩
  cases (decide (1 ≤ b) && decide (b ≤ 5))
  · exact ⟨_, rfl, rfl⟩
  cases (decide (1 ≤ c) && decide (c ≤ 2))
  · exact ⟨_, rfl, rfl⟩
  · exact ⟨_, rfl, rfl⟩

theorem items_loop (xs : List (Int × Int × Int × ByteArray × Unit)) (h : xs.length ≤ 1048576) :
    ∃ e f, loopV spec_ItemsOk_r0 (xs, (0 : Int), ()) = some e ∧ loopV impl_ItemsOk_r0 (xs, xs, ((List.length xs : Nat) : Int), (0 : Int), ()) = some f ∧ SameOut e f := by
  refine loop_two xs.length (fun k x y => x = (xs, ((k : Nat) : Int), ()) ∧ y = (xs, xs, ((List.length xs : Nat) : Int), ((k : Nat) : Int), ())) SameOut ?_ ⟨rfl, rfl⟩
  rintro k x y hk ⟨rfl, rfl⟩
  by_cases hlt : k < xs.length
  · obtain ⟨b, r1, r2⟩ := item_same xs[k].1 xs[k].2.1 xs[k].2.2.1 xs[k].2.2.2.1
    simp only [spec_ItemsOk_r0, spec_ItemsOk_c0, impl_ItemsOk_r0, impl_ItemsOk_c0, lt_nat_true hlt, zero_le_nat, cond_true, toNat_nat, List.getElem?_eq_getElem hlt, Option.bind_some, r1, r2, succ_wrap (show k < 4611686018427387904 by omega)]
    cases b
    · exact .inl ⟨.inr (false, ()), .inr (false, ()), rfl, rfl, rfl⟩
    · by_cases h0 : 0 < k
      · have hp : k - 1 < xs.length := by omega
        rw [pred_wrap h0 (by omega)]
        simp only [dec_true (show (0 : Int) < ((k : Nat) : Int) by omega), Bool.not_true, cond_false, cond_true, zero_le_nat, toNat_nat, List.getElem?_eq_getElem hp, Option.bind_some]
        cases decide (xs[k].1 ≤ xs[k - 1].1)
        · exact .inr ⟨hlt, _, _, rfl, rfl, rfl, rfl⟩
        · exact .inl ⟨.inr (false, ()), .inr (false, ()), rfl, rfl, rfl⟩
      · have : k = 0 := by omega
        subst this
        simp only [dec_false (show ¬ (0 : Int) < ((0 : Nat) : Int) by omega), Bool.not_true, cond_false]
        exact .inr ⟨hlt, _, _, rfl, rfl, rfl, rfl⟩
  · have : k = xs.length := by omega
    subst this
    exact .inl ⟨.inl (), .inl (), by simp only [spec_ItemsOk_r0, spec_ItemsOk_c0, lt_nat_irr, cond_false], by simp only [impl_ItemsOk_r0, impl_ItemsOk_c0, lt_nat_irr, cond_false], trivial⟩

theorem items_same (xs : List (Int × Int × Int × ByteArray × Unit)) (h : xs.length ≤ 1048576) : ∃ b, spec_ItemsOk xs = some (b, ()) ∧ impl_ItemsOk xs = some (b, ()) := by
  obtain ⟨e, f, h1, h2, h3⟩ := items_loop xs h
  unfold spec_ItemsOk impl_ItemsOk
  rw [h1, h2]
  cases e with
  | inl e => cases f with
    | inl f => exact ⟨true, rfl, rfl⟩
    | inr f => exact h3.elim
  | inr e => cases f with
    | inl f => exact h3.elim
    | inr f => exact ⟨e.1, rfl, by rw [show e.1 = f.1 from h3]; rfl⟩

theorem bundle_same (a b c : Int) (xs : List (Int × Int × Int × ByteArray × Unit)) (h : xs.length ≤ 1048576) : ∃ x, spec_BundleOk a b c xs = some (x, ()) ∧ impl_BundleOk a b c xs = some (x, ()) := by
  obtain ⟨y, h1, h2⟩ := items_same xs h
  unfold spec_BundleOk impl_BundleOk
  simp only [in_eq, in_eq', daemon_eq, Option.bind_some, h1, h2]
  cases (decide (1 ≤ a) && decide (a ≤ 5))
  · exact ⟨_, rfl, rfl⟩
  cases (decide (1 ≤ b) && decide (b ≤ 9))
  · exact ⟨_, rfl, rfl⟩
  cases (decide (0 ≤ c) && decide (c ≤ IntKind.i64.wrap (b - 1)))
  · exact ⟨_, rfl, rfl⟩
  cases y
  · exact ⟨_, rfl, rfl⟩
  cases decide (0 < c)
  · exact ⟨_, rfl, rfl⟩
  · exact ⟨_, rfl, rfl⟩

theorem bundle_true (a b c : Int) (xs : List (Int × Int × Int × ByteArray × Unit)) (hz : Z_iiiLiiisE (a, b, c, xs, ())) : laws_FnExactBundleOk a b c xs = some (true, ()) := by
  obtain ⟨m, e1, l1, w1⟩ := sz_Bundle a b c xs (left := 1048576) hz (by omega) (by omega)
  unfold laws_FnExactBundleOk
  rw [e1]
  simp only [Option.bind_some]
  by_cases hm : m < 0
  · rw [dec_true hm]; rfl
  · have w1 := w1 (by omega)
    have hs : W_iiiLiiisE (a, b, c, xs, ()) ≤ 1048576 := by omega
    have hl : List.length xs + wl W_iiis xs ≤ 1048576 := hs
    obtain ⟨y, h1, h2⟩ := bundle_same a b c xs (by omega)
    rw [dec_false hm]
    simp only [to_Bundle a b c xs hs, cond_false, Option.bind_some, h1, h2, beq_self_eq_true, Bool.not_true, eq_Bundle a b c xs hs]
end Go.TM
