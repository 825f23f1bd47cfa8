/- WorkNew, of the program and of the reference. -/
import Derived.Test.YtiljcjnnhkidbaaCPPDrawRing
set_option linter.unusedSimpArgs false
set_option linter.unusedVariables false
namespace Go.TM
open Go
abbrev MatN : Type := Int × Int × (List (Int × Unit)) × ItemL × (List (Int × Unit)) × (List (ByteArray × Unit)) × Int × Int × Int × Int × Int × Int × Int × Int × Int × (List (Int × Unit)) × Unit
def mateNew (c : Int) (xs : List (Int × Unit)) (id : Int) : MatN := (id, c, xs, [], [], [], 0, 0, 0, 0, 0, 0, 0, 0, 0, [], ())
theorem mateNew_spec (c : Int) (xs : List (Int × Unit)) (id : Int) (h : xs.length ≤ 1048576) (hr : spec_RingOk c xs = some (true, ())) (hm : (id, ()) ∈ xs) : spec_MateNew id c xs = some (id, c, xs, [], [], [], 0, 0, 0, 0, 0, 0, 0, 0, 0, [], true, ()) := by
 unfold spec_MateNew; simp only [hr, in_spec _ _ h, dec_true hm, Option.bind_some, Bool.not_true, cond_false, ble_true (show (0 + xs.length) * 8 ≤ lim by unfold lim; omega), cond_true, List.nil_append]
theorem map_take {α β : Type} (f : α → β) (xs : List α) {k : Nat} (hk : k < xs.length) : (xs.take (k + 1)).map f = (xs.take k).map f ++ [f xs[k]] := by
 rw [List.take_succ_eq_append_getElem hk, List.map_append]; rfl
end Go.TM
