/- NextOf, of the program and of the reference. -/
import Derived.Test.YtoblacbibdgddaaPDeed
set_option linter.unusedSimpArgs false
set_option linter.unusedVariables false
namespace Go.TM
open Go

theorem tmod_nat (a b : Nat) : Int.tmod ((a : Nat) : Int) ((b : Nat) : Int) = ((a % b : Nat) : Int) := rfl

/-- Where the one finds a place, the other has what stands behind it. -/
def NextOut {A B : Type} (xs : List (Int × Unit)) : Sum A (Int × Unit) → Sum B (Int × Unit) → Prop
  | .inl _, .inl _ => True
  | .inr a, .inr b => ∃ (k : Nat) (r : Int × Unit), b.1 = ((k : Nat) : Int) ∧ k < xs.length ∧ xs[(k + 1) % xs.length]? = some r ∧ a.1 = r.1
  | _, _ => False

theorem next_loop (c d : Int) (xs : List (Int × Unit)) (h : xs.length ≤ 1048576) (h1 : 1 ≤ xs.length) :
    ∃ e f, loopV spec_NextOf_r0 (d, c, xs, (0 : Int), ()) = some e ∧ loopV slices_Index_int_r0 (xs, d, ((List.length xs : Nat) : Int), (0 : Int), ()) = some f ∧ NextOut xs e f := by
  refine loop_two xs.length (fun k x y => x = (d, c, xs, ((k : Nat) : Int), ()) ∧ y = (xs, d, ((List.length xs : Nat) : Int), ((k : Nat) : Int), ())) (NextOut xs) ?_ ⟨rfl, rfl⟩
  rintro k x y hk ⟨rfl, rfl⟩
  by_cases hlt : k < xs.length
  · have hm : (k + 1) % xs.length < xs.length := Nat.mod_lt _ (by omega)
    simp only [spec_NextOf_r0, spec_NextOf_c0, slices_Index_int_r0, slices_Index_int_c0, lt_nat_true hlt, zero_le_nat, cond_true, toNat_nat, List.getElem?_eq_getElem hlt, Option.bind_some, succ_wrap (show k < 4611686018427387904 by omega), tmod_nat, List.getElem?_eq_getElem hm,
      dec_false (show ¬ ((List.length xs : Nat) : Int) = 0 by omega), cond_false]
    by_cases hd : xs[k].1 = d
    · rw [dec_true hd, dec_true hd.symm]
      exact .inl ⟨.inr (xs[(k + 1) % xs.length].1, ()), .inr (((k : Nat) : Int), ()), rfl, rfl, k, xs[(k + 1) % xs.length], rfl, hlt, List.getElem?_eq_getElem hm, rfl⟩
    · rw [dec_false hd, dec_false (fun e => hd e.symm)]
      exact .inr ⟨hlt, _, _, rfl, rfl, rfl, rfl⟩
  · have : k = xs.length := by omega
    subst this
    exact .inl ⟨.inl (), .inl (), by simp only [spec_NextOf_r0, spec_NextOf_c0, lt_nat_irr, cond_false], by simp only [slices_Index_int_r0, slices_Index_int_c0, lt_nat_irr, cond_false], trivial⟩

theorem index_loop (d : Int) (xs : List (Int × Unit)) (h : xs.length ≤ 1048576) : ∃ f, loopV slices_Index_int_r0 (xs, d, ((List.length xs : Nat) : Int), (0 : Int), ()) = some f := by
  obtain ⟨f, hf, _⟩ := loop_inv (round := slices_Index_int_r0) (x := (xs, d, ((List.length xs : Nat) : Int), ((0 : Nat) : Int), ())) xs.length (fun k x => x = (xs, d, ((List.length xs : Nat) : Int), ((k : Nat) : Int), ())) (fun _ => True) (by
    rintro x rfl
    exact ⟨.inl (), by simp only [slices_Index_int_r0, slices_Index_int_c0, lt_nat_irr, cond_false], trivial⟩) (by
    rintro k x hk rfl
    simp only [slices_Index_int_r0, slices_Index_int_c0, lt_nat_true hk, zero_le_nat, cond_true, toNat_nat, List.getElem?_eq_getElem hk, Option.bind_some, succ_wrap (show k < 4611686018427387904 by omega)]
    cases decide (d = xs[k].1)
    · exact .inr ⟨_, rfl, rfl⟩
    · exact .inl ⟨_, rfl, trivial⟩) rfl
  exact ⟨f, hf⟩

theorem next_same (c d : Int) (xs : List (Int × Unit)) (h : xs.length ≤ 1048576) : ∃ b, spec_NextOf c xs d = some (b, ()) ∧ impl_NextOf c xs d = some (b, ()) := by
  obtain ⟨b, h1, h2, h3⟩ := ring_same c xs h
  unfold spec_NextOf impl_NextOf slices_Index_int
  rw [h1]
  simp only [Option.bind_some]
  cases b with
  | false =>
    obtain ⟨f, hf⟩ := index_loop d xs h
    rw [hf]
    cases f with
    | inl f => exact ⟨0, rfl, rfl⟩
    | inr f =>
      refine ⟨0, rfl, ?_⟩
      simp only [outK, Option.bind_some, h2]
      cases decide (f.1 < 0) <;> rfl
  | true =>
    obtain ⟨l1, l2⟩ := h3 rfl
    obtain ⟨e, f, g1, g2, g3⟩ := next_loop c d xs h l1
    rw [g1, g2]
    cases e with
    | inl e => cases f with
      | inl f => exact ⟨0, rfl, rfl⟩
      | inr f => exact g3.elim
    | inr e => cases f with
      | inl f => exact g3.elim
      | inr f =>
        obtain ⟨k, r, q1, q2, q3, q4⟩ := g3
        refine ⟨e.1, rfl, ?_⟩
        simp only [outK, Option.bind_some, h2, q1, dec_false (show ¬ ((k : Nat) : Int) < 0 by omega), cond_false, Bool.not_true, dec_false (show ¬ ((List.length xs : Nat) : Int) = 0 by omega),
          succ_wrap (show k < 4611686018427387904 by omega), tmod_nat, zero_le_nat, cond_true, toNat_nat, q3, q4]

theorem next_true (c d : Int) (xs : List (Int × Unit)) (hz : Z_iLiE (c, xs, ())) : laws_FnExactNextOf c xs d = some (true, ()) := by
  obtain ⟨m, e1, l1, w1⟩ := sz_Ring c xs (left := 1048576) hz (by omega) (by omega)
  unfold laws_FnExactNextOf
  rw [e1]
  simp only [Option.bind_some]
  by_cases hm : m < 0
  · rw [dec_true hm]; rfl
  · have w1 := w1 (by omega)
    have hs : W_iLiE (c, xs, ()) ≤ 1048576 := by omega
    have hl : xs.length + wl W_i xs ≤ 1048576 := hs
    obtain ⟨b, h1, h2⟩ := next_same c d xs (by omega)
    rw [dec_false hm]
    simp only [to_Ring c xs hs, cond_false, Option.bind_some, h1, h2, decide_true, Bool.not_true, eq_Ring c xs hs]
end Go.TM
