/- RingsOk, of the program and of the reference. -/
import Derived.Test.YtlgnmloddedbaaaGreatAPBundleAt
set_option linter.unusedSimpArgs false
set_option linter.unusedVariables false
namespace Go.TM
open Go
def RingsOut (xs : List (Int × (List (Int × Unit)) × Unit)) : Sum ((List (Int × (List (Int × Unit)) × Unit)) × Unit) (Bool × Unit) → Sum ((List (Int × (List (Int × Unit)) × Unit)) × Unit) (Bool × Unit) → Prop
 | .inl a, .inl b => a.1 = xs ∧ b.1 = xs
 | .inr a, .inr b => a.1 = b.1
 | _, _ => False
theorem rings_loop (xs : List (Int × (List (Int × Unit)) × Unit)) (h : List.length xs + wl W_iLiE xs ≤ 1048576) :
   ∃ e f, loopV spec_RingsOk_r0 (xs, (0 : Int), ()) = some e ∧ loopV impl_RingsOk_r0 (xs, xs, ((List.length xs : Nat) : Int), (0 : Int), ()) = some f ∧ RingsOut xs e f := by
 refine loop_two xs.length (fun k x y => x = (xs, ((k : Nat) : Int), ()) ∧ y = (xs, xs, ((List.length xs : Nat) : Int), ((k : Nat) : Int), ())) (RingsOut xs) ?_ ⟨rfl, rfl⟩
 rintro k x y hk ⟨rfl, rfl⟩
 by_cases hlt : k < xs.length
 · have hw := wl_mem W_iLiE xs _ (List.getElem_mem hlt); have hw : List.length xs[k].2.1 + wl W_i xs[k].2.1 ≤ wl W_iLiE xs := hw; obtain ⟨b, r1, r2, _⟩ := ring_same xs[k].1 xs[k].2.1 (by omega); simp only [spec_RingsOk_r0, spec_RingsOk_c0, impl_RingsOk_r0, impl_RingsOk_c0, lt_nat_true hlt, zero_le_nat, cond_true, toNat_nat, List.getElem?_eq_getElem hlt, Option.bind_some, r1, r2, succ_wrap (show k < 4611686018427387904 by omega)]
   cases b
   · exact .inl ⟨.inr (false, ()), .inr (false, ()), rfl, rfl, rfl⟩
   · cases decide (xs[k].1 = ((k + 1 : Nat) : Int))
     · exact .inl ⟨.inr (false, ()), .inr (false, ()), rfl, rfl, rfl⟩
     · exact .inr ⟨hlt, _, _, rfl, rfl, rfl, rfl⟩
 · have : k = xs.length := by omega
   subst this; exact .inl ⟨.inl (xs, ()), .inl (xs, ()), by simp only [spec_RingsOk_r0, spec_RingsOk_c0, lt_nat_irr, cond_false], by simp only [impl_RingsOk_r0, impl_RingsOk_c0, lt_nat_irr, cond_false], rfl, rfl⟩
theorem rings_same (xs : List (Int × (List (Int × Unit)) × Unit)) (h : List.length xs + wl W_iLiE xs ≤ 1048576) : ∃ b, spec_RingsOk xs = some (b, ()) ∧ impl_RingsOk xs = some (b, ()) := by
 obtain ⟨e, f, h1, h2, h3⟩ := rings_loop xs h; unfold spec_RingsOk impl_RingsOk; rw [h1, h2]
 cases e with
 | inl e => cases f with
   | inl f =>
     simp only [outK, Option.bind_some, in_eq, in_eq']; exact ⟨_, rfl, by rw [h3.1, h3.2]⟩
   | inr f => exact h3.elim
 | inr e => cases f with
   | inl f => exact h3.elim
   | inr f => exact ⟨e.1, rfl, by rw [show e.1 = f.1 from h3]; rfl⟩
end Go.TM
