/- plain law of DeedOk -/
import Derived.Test.YtoblacbibdgddaaFXDeedOk1
namespace Go.TM
open Go

theorem in_eq (a b c : Int) : t67 a b c = some (decide (b ≤ a) && decide (a ≤ c), ()) := by
  unfold t67
  cases decide (b ≤ a) <;> rfl
theorem in_eq' (a b c : Int) : t68 a b c = some (decide (b ≤ a) && decide (a ≤ c), ()) := by
  unfold t68
  cases decide (b ≤ a) <;> rfl

theorem deed_same (a b c d : Int) (s : ByteArray) : ∃ x, t16 a b c d s = some (x, ()) ∧ t18 a b c d s = some (x, ()) := by
  unfold t16 t18 t69 t70 t99
  simp only [in_eq, in_eq', Option.bind_some]
  cases decide (1 ≤ a) && decide (a ≤ 9)
  · exact ⟨_, rfl, rfl⟩
  cases decide (1 ≤ b) && decide (b ≤ 5)
  · exact ⟨_, rfl, rfl⟩
  cases decide (c < 0)
  case true => exact ⟨_, rfl, rfl⟩
  cases decide (a = 1)
  case true =>
    by_cases h1 : d = 1
    · subst h1; exact ⟨_, rfl, rfl⟩
    by_cases h2 : d = 2
    · subst h2; exact ⟨_, rfl, rfl⟩
    have e : (decide (1 ≤ d) && decide (d ≤ 2)) = false := by
      rw [Bool.and_eq_false_iff, decide_eq_false_iff_not, decide_eq_false_iff_not]; omega
    rw [e]
    simp [h1, h2]
  cases decide (d = 0)
  · exact ⟨_, rfl, rfl⟩
  · exact ⟨_, rfl, rfl⟩

theorem deed_true (a b c d : Int) (s : ByteArray) : t3 a b c d s = some (true, ()) := by
  obtain ⟨x, h1, h2⟩ := deed_same a b c d s
  unfold t3 t15 t17
  cases decide (IntKind.i64.wrap (1048576 - ((ByteArray.size s : Nat) : Int)) < 0)
  · simp only [cond_false, Option.bind_some, h1, h2]
    cases decide (IntKind.i64.wrap (1048576 - ((ByteArray.size s : Nat) : Int)) < 0) <;> cases x <;> rfl
  · rfl
end Go.TM
