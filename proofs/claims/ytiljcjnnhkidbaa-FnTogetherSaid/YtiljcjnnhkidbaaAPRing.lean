/- Rings, of the program and of the reference. -/
import Derived.Test.YtiljcjnnhkidbaaAPMarkDeep
set_option linter.unusedSimpArgs false
set_option linter.unusedVariables false
namespace Go.TM
open Go
theorem in_eq (a b c : Int) : spec_l01In a b c = some (decide (b ≤ a) && decide (a ≤ c), ()) := by
 unfold spec_l01In
 cases decide (b ≤ a) <;> rfl
theorem in_eq' (a b c : Int) : impl_inRange a b c = some (decide (b ≤ a) && decide (a ≤ c), ()) := by
 unfold impl_inRange
 cases decide (b ≤ a) <;> rfl
theorem daemon_eq (a : Int) : impl_isDaemon a = some (decide (1 ≤ a) && decide (a ≤ 5), ()) := by
 unfold impl_isDaemon; rw [in_eq']; rfl
def SameOut {A B : Type} : Sum A (Bool × Unit) → Sum B (Bool × Unit) → Prop
 | .inl _, .inl _ => True
 | .inr a, .inr b => a.1 = b.1
 | _, _ => False
theorem pred_wrap {k : Nat} (h0 : 0 < k) (h : k < 4611686018427387904) : IntKind.i64.wrap (((k : Nat) : Int) - (1 : Int)) = (((k - 1 : Nat)) : Int) := by
 rw [wrap_id] <;> omega
end Go.TM
