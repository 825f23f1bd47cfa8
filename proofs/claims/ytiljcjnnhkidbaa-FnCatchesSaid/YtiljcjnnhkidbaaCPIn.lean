/- Is it among them? of the program and of the reference. -/
import Derived.Test.YtiljcjnnhkidbaaCPRing
set_option linter.unusedSimpArgs false
set_option linter.unusedVariables false
namespace Go.TM
open Go
def InOut (e : Sum Unit (Bool × Unit)) (f : Sum Unit (Int × Unit)) : Prop := ∃ b, (e = .inl () ∧ f = .inl () ∧ b = false) ∨ (e = .inr (true, ()) ∧ (∃ k : Nat, f = .inr (((k : Nat) : Int), ())) ∧ b = true)
theorem in_loop (d : Int) (xs : List (Int × Unit)) (h : xs.length ≤ 1048576) :
   ∃ e f, loopV spec_l05In_r0 (xs, d, (0 : Int), ()) = some e ∧ loopV slices_Index_int_r0 (xs, d, ((List.length xs : Nat) : Int), (0 : Int), ()) = some f ∧ InOut e f := by
 refine loop_two xs.length (fun k x y => x = (xs, d, ((k : Nat) : Int), ()) ∧ y = (xs, d, ((List.length xs : Nat) : Int), ((k : Nat) : Int), ())) InOut ?_ ⟨rfl, rfl⟩
 rintro k x y hk ⟨rfl, rfl⟩
 by_cases hlt : k < xs.length
 · simp only [spec_l05In_r0, spec_l05In_c0, slices_Index_int_r0, slices_Index_int_c0, lt_nat_true hlt, zero_le_nat, cond_true, toNat_nat, List.getElem?_eq_getElem hlt, Option.bind_some, succ_wrap (show k < 4611686018427387904 by omega)]
   by_cases hd : xs[k].1 = d
   · rw [dec_true hd, dec_true hd.symm]; exact .inl ⟨.inr (true, ()), .inr (((k : Nat) : Int), ()), rfl, rfl, true, .inr ⟨rfl, ⟨k, rfl⟩, rfl⟩⟩
   · rw [dec_false hd, dec_false (fun e => hd e.symm)]; exact .inr ⟨hlt, _, _, rfl, rfl, rfl, rfl⟩
 · have : k = xs.length := by omega
   subst this; exact .inl ⟨.inl (), .inl (), by simp only [spec_l05In_r0, spec_l05In_c0, lt_nat_irr, cond_false], by simp only [slices_Index_int_r0, slices_Index_int_c0, lt_nat_irr, cond_false], false, .inl ⟨rfl, rfl, rfl⟩⟩
theorem contains_same (d : Int) (xs : List (Int × Unit)) (h : xs.length ≤ 1048576) : ∃ b, spec_l05In xs d = some (b, ()) ∧ slices_Contains_int xs d = some (b, ()) := by
 obtain ⟨e, f, h1, h2, b, h3⟩ := in_loop d xs h; unfold spec_l05In slices_Contains_int slices_Index_int; rw [h1, h2]; rcases h3 with ⟨rfl, rfl, rfl⟩ | ⟨rfl, ⟨k, rfl⟩, rfl⟩
 · exact ⟨false, rfl, rfl⟩
 · refine ⟨true, rfl, ?_⟩; simp only [outK, Option.bind_some, zero_le_nat]
end Go.TM
