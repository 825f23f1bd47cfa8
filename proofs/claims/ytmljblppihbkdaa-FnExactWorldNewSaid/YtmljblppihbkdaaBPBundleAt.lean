/- The first right bundle of a daemon for a ring; those who go on together. -/
import Derived.Test.YtmljblppihbkdaaBPCopyLog
set_option linter.unusedSimpArgs false
set_option linter.unusedVariables false
namespace Go.TM
open Go

abbrev BunR : Type := Int × Int × Int × ItemL × Unit
theorem buns_len (xs : List BunR) {k : Nat} (hk : k < xs.length) (h : xs.length + wl W_iiiLiiisE xs ≤ 1048576) : xs[k].2.2.2.1.length ≤ 1048576 := by
  have hw := wl_mem W_iiiLiiisE xs xs[k] (List.getElem_mem hk)
  have : W_iiiLiiisE xs[k] = List.length xs[k].2.2.2.1 + wl W_iiis xs[k].2.2.2.1 := rfl
  omega

abbrev bunOut : Option BunR → Int × Int × Int × ItemL × Bool × Unit
  | none => (0, 0, 0, [], false, ())
  | some b => (b.1, b.2.1, b.2.2.1, b.2.2.2.1, true, ())
def bunEnd : Option BunR → Sum (Int × Int × Int × ItemL × Unit) (Int × Int × Int × ItemL × Bool × Unit)
  | none => .inl (0, 0, 0, [], ())
  | some b => .inr (bunOut (some b))

theorem fold_take {α β : Type} (f : β → α → β) (b : β) (xs : List α) {k : Nat} (hk : k < xs.length) : (xs.take (k + 1)).foldl f b = f ((xs.take k).foldl f b) xs[k] := by
  rw [List.take_succ_eq_append_getElem hk, List.foldl_append]
  rfl
end Go.TM
