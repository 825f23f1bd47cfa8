/- What the functions know of the types, checked against the program. -/
import Derived.Test.YtoblacbibdgddaaTm2
import Derived.Test.YtoblacbibdgddaaProg
namespace Go.TM
open Go Go.RowKit Go.Proofs

def tr : Tr := (.node (.node (.node .leaf 3 { size := 1, agg := false, places := [], row := some (.cons (.int .i64) .nil), elem := none, kind := some (.int .i64), eq := false } .leaf) 4 { size := 1, agg := false, places := [], row := some (.cons .bool .nil), elem := none, kind := some .bool, eq := false } .leaf) 9 { size := 1, agg := false, places := [], row := some (.cons .str .nil), elem := none, kind := some .str, eq := false } (.node (.node .leaf 23 { size := 5, agg := true, places := [(0, 1), (1, 1), (2, 1), (3, 1), (4, 1)], row := some (.cons (.int .i64) (.cons (.int .i64) (.cons (.int .i64) (.cons (.int .i64) (.cons .str .nil))))), elem := none, kind := none, eq := false } .leaf) 26 { size := 5, agg := true, places := [(0, 1), (1, 1), (2, 1), (3, 1), (4, 1)], row := some (.cons (.int .i64) (.cons (.int .i64) (.cons (.int .i64) (.cons (.int .i64) (.cons .str .nil))))), elem := none, kind := none, eq := false } .leaf))

theorem tr_ok : tr.all (recOk Try.prog) = true := by kernel_rfl
theorem eq_ok : EqOk Try.prog (tabOf tr) := noEq_ok (by kernel_rfl)
theorem mixed_ok : Try.prog.follows .mixedOrders = true := by kernel_rfl
theorem loops_of {c : Code} {l : List (Nat × Code)} {Q : Nat × Code → Prop} (h : loopsIn c = l) (hl : ∀ p ∈ l, Q p) : ∀ p ∈ loopsIn c, Q p := by rw [h]; exact hl

end Go.TM
