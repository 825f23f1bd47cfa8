/- plain law of DeedOk -/
import Derived.Test.YtoblacbibdgddaaP1
set_option linter.unusedSimpArgs false
set_option linter.unusedVariables false
namespace Go.TM
open Go

theorem deed_same (a b c d : Int) (s : ByteArray) : ∃ x, spec_DeedOk a b c d s = some (x, ()) ∧ impl_DeedOk a b c d s = some (x, ()) := by
  unfold spec_DeedOk impl_DeedOk impl_isDaemon impl_wordsOk impl_isLevel
  simp only [in_eq, in_eq', Option.bind_some]
  cases decide (1 ≤ a) && decide (a ≤ 9)
  · exact ⟨_, rfl, rfl⟩
  cases decide (1 ≤ b) && decide (b ≤ 5)
  · exact ⟨_, rfl, rfl⟩
  cases decide (c < 0)
  case true => exact ⟨_, rfl, rfl⟩
  cases decide (a = 1)
  case true =>
    by_cases h1 : d = 1
    · subst h1; exact ⟨_, rfl, rfl⟩
    by_cases h2 : d = 2
    · subst h2; exact ⟨_, rfl, rfl⟩
    have e : (decide (1 ≤ d) && decide (d ≤ 2)) = false := by
      rw [Bool.and_eq_false_iff, decide_eq_false_iff_not, decide_eq_false_iff_not]; omega
    rw [e]
    simp [h1, h2]
  cases decide (d = 0)
  · exact ⟨_, rfl, rfl⟩
  · exact ⟨_, rfl, rfl⟩

theorem deed_true (a b c d : Int) (s : ByteArray) : laws_FnExactDeedOk a b c d s = some (true, ()) := by
  obtain ⟨x, h1, h2⟩ := deed_same a b c d s
  unfold laws_FnExactDeedOk laws_szDeed laws_toDeed
  cases decide (IntKind.i64.wrap (1048576 - ((ByteArray.size s : Nat) : Int)) < 0)
  · simp only [cond_false, Option.bind_some, h1, h2]
    cases decide (IntKind.i64.wrap (1048576 - ((ByteArray.size s : Nat) : Int)) < 0) <;> cases x <;> rfl
  · rfl
end Go.TM
