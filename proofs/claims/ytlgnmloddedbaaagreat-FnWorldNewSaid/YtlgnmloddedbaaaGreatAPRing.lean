/- Rings, of the program and of the reference. -/
import Derived.Test.YtlgnmloddedbaaaGreatAPMarkDeep
set_option linter.unusedSimpArgs false
set_option linter.unusedVariables false
namespace Go.TM
open Go
theorem in_eq (a b c : Int) : spec_l01In a b c = some (decide (b ≤ a) && decide (a ≤ c), ()) := by
 unfold spec_l01In
 cases decide (b ≤ a) <;> rfl
theorem in_eq' (a b c : Int) : impl_inRange a b c = some (decide (b ≤ a) && decide (a ≤ c), ()) := by
 unfold impl_inRange
 cases decide (b ≤ a) <;> rfl
theorem daemon_eq (a : Int) : impl_isDaemon a = some (decide (1 ≤ a) && decide (a ≤ 5), ()) := by
 unfold impl_isDaemon; rw [in_eq']; rfl
def SameOut {A B : Type} : Sum A (Bool × Unit) → Sum B (Bool × Unit) → Prop
 | .inl _, .inl _ => True
 | .inr a, .inr b => a.1 = b.1
 | _, _ => False
theorem pred_wrap {k : Nat} (h0 : 0 < k) (h : k < 4611686018427387904) : IntKind.i64.wrap (((k : Nat) : Int) - (1 : Int)) = (((k - 1 : Nat)) : Int) := by
 rw [wrap_id] <;> omega
theorem ring_loop (c : Int) (xs : List (Int × Unit)) (h : xs.length ≤ 1048576) :
   ∃ e f, loopV spec_RingOk_r0 (c, xs, (0 : Int), ()) = some e ∧ loopV impl_RingOk_r0 (c, xs, xs, ((List.length xs : Nat) : Int), (0 : Int), ()) = some f ∧ SameOut e f := by
 refine loop_two xs.length (fun k x y => x = (c, xs, ((k : Nat) : Int), ()) ∧ y = (c, xs, xs, ((List.length xs : Nat) : Int), ((k : Nat) : Int), ())) SameOut ?_ ⟨rfl, rfl⟩
 rintro k x y hk ⟨rfl, rfl⟩
 by_cases hlt : k < xs.length
 · simp only [spec_RingOk_r0, spec_RingOk_c0, impl_RingOk_r0, impl_RingOk_c0, lt_nat_true hlt, zero_le_nat, cond_true, toNat_nat, List.getElem?_eq_getElem hlt, Option.bind_some, in_eq, daemon_eq, succ_wrap (show k < 4611686018427387904 by omega)]
   cases (decide (1 ≤ xs[k].1) && decide (xs[k].1 ≤ 5))
   · exact .inl ⟨.inr (false, ()), .inr (false, ()), rfl, rfl, rfl⟩
   · by_cases h0 : 0 < k
     · have hp : k - 1 < xs.length := by omega
       rw [pred_wrap h0 (by omega)]; simp only [dec_true (show (0 : Int) < ((k : Nat) : Int) by omega), Bool.not_true, cond_false, cond_true, zero_le_nat, toNat_nat, List.getElem?_eq_getElem hp, Option.bind_some]
       cases decide (xs[k].1 ≤ xs[k - 1].1)
       · exact .inr ⟨hlt, _, _, rfl, rfl, rfl, rfl⟩
       · exact .inl ⟨.inr (false, ()), .inr (false, ()), rfl, rfl, rfl⟩
     · have : k = 0 := by omega
       subst this; simp only [dec_false (show ¬ (0 : Int) < ((0 : Nat) : Int) by omega), Bool.not_true, cond_false]; exact .inr ⟨hlt, _, _, rfl, rfl, rfl, rfl⟩
 · have : k = xs.length := by omega
   subst this; exact .inl ⟨.inl (), .inl (), by simp only [spec_RingOk_r0, spec_RingOk_c0, lt_nat_irr, cond_false], by simp only [impl_RingOk_r0, impl_RingOk_c0, lt_nat_irr, cond_false], trivial⟩
theorem ring_same (c : Int) (xs : List (Int × Unit)) (h : xs.length ≤ 1048576) : ∃ b, spec_RingOk c xs = some (b, ()) ∧ impl_RingOk c xs = some (b, ()) ∧ (b = true → 1 ≤ xs.length ∧ xs.length ≤ 5) := by
 obtain ⟨e, f, h1, h2, h3⟩ := ring_loop c xs h; unfold spec_RingOk impl_RingOk; simp only [in_eq, in_eq', Option.bind_some, h1, h2]
 cases (decide (1 ≤ c) && decide (c ≤ 9))
 · exact ⟨false, rfl, rfl, fun h => by cases h⟩
 cases hb : (decide (1 ≤ ((List.length xs : Nat) : Int)) && decide (((List.length xs : Nat) : Int) ≤ 5))
 · exact ⟨false, rfl, rfl, fun h => by cases h⟩
 have hl : 1 ≤ xs.length ∧ xs.length ≤ 5 := by
   rw [Bool.and_eq_true, decide_eq_true_eq, decide_eq_true_eq] at hb; omega
 cases e with
 | inl e => cases f with
   | inl f => exact ⟨true, rfl, rfl, fun _ => hl⟩
   | inr f => exact h3.elim
 | inr e => cases f with
   | inl f => exact h3.elim
   | inr f => exact ⟨e.1, rfl, by rw [show e.1 = f.1 from h3]; rfl, fun _ => hl⟩
end Go.TM
