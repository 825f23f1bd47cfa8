/- Marks of rows that hold slices: the loops of the laws' marks, said once. -/
import Derived.Test.YtlgnmloddedbaaaGreatAPMarkText
set_option linter.unusedSimpArgs false
set_option linter.unusedVariables false
namespace Go.TM
open Go
theorem wl_max {α : Type} (f : α → Nat) (c : Nat) : (xs : List α) → (∀ x ∈ xs, f x ≤ c) → wl f xs ≤ c * xs.length
 | [], _ => Nat.zero_le _
 | x :: xs, h => by
   rw [wl_cons, List.length_cons, Nat.mul_succ]; have := wl_max f c xs (fun y hy => h y (List.mem_cons_of_mem _ hy)); have := h x List.mem_cons_self; omega
end Go.TM
