/- Catch, of the program and of the reference. -/
import Derived.Test.YtmljblppihbkdaaDPPut
set_option linter.unusedSimpArgs false
set_option linter.unusedVariables false
namespace Go.TM
open Go

theorem same_Catch (m0c0 : Int) (m0c1 : Int) (m0c2 : List (Int × Unit)) (m0c3 : List R_iiis) (m0c4 : List (Int × Unit)) (m0c5 : List (ByteArray × Unit)) (m0c6 : Int) (m0c7 : Int) (m0c8 : Int) (m0c9 : Int) (m0c10 : Int) (m0c11 : Int) (m0c12 : Int) (m0c13 : Int) (m0c14 : Int) (m0c15 : List (Int × Unit)) (x1c0 : Int) (x1c1 : Int) (x1c2 : Int) (x1c3 : ByteArray) (h0 : (List.length m0c2 + wl W_i m0c2) + (List.length m0c3 + wl W_iiis m0c3) + (List.length m0c4 + wl W_i m0c4) + (List.length m0c5 + wl W_s m0c5) + (List.length m0c15 + wl W_i m0c15) ≤ 1048576) (h1 : ByteArray.size x1c3 ≤ 1048576) : ∃ o0 o1 o2 o3 o4 o5 o6 o7 o8 o9 o10 o11 o12 o13 o14 o15, spec_Catch m0c0 m0c1 m0c2 m0c3 m0c4 m0c5 m0c6 m0c7 m0c8 m0c9 m0c10 m0c11 m0c12 m0c13 m0c14 m0c15 x1c0 x1c1 x1c2 x1c3 = some (o0, o1, o2, o3, o4, o5, o6, o7, o8, o9, o10, o11, o12, o13, o14, o15, ()) ∧ impl_Catch m0c0 m0c1 m0c2 m0c3 m0c4 m0c5 m0c6 m0c7 m0c8 m0c9 m0c10 m0c11 m0c12 m0c13 m0c14 m0c15 x1c0 x1c1 x1c2 x1c3 = some (o0, o1, o2, o3, o4, o5, o6, o7, o8, o9, o10, o11, o12, o13, o14, o15, ()) ∧ (List.length o2 + wl W_i o2) + (List.length o3 + wl W_iiis o3) + (List.length o4 + wl W_i o4) + (List.length o5 + wl W_s o5) + (List.length o15 + wl W_i o15) ≤ 1048576 := by
  obtain ⟨k1, k2⟩ := catch_same (m0c0, m0c1, m0c2, m0c3, m0c4, m0c5, m0c6, m0c7, m0c8, m0c9, m0c10, m0c11, m0c12, m0c13, m0c14, m0c15, ()) (x1c0, x1c1, x1c2, x1c3, ()) h0
  exact ⟨_, _, _, _, _, _, _, _, _, _, _, _, _, _, _, _, k1, k2, catch_size (m0c0, m0c1, m0c2, m0c3, m0c4, m0c5, m0c6, m0c7, m0c8, m0c9, m0c10, m0c11, m0c12, m0c13, m0c14, m0c15, ()) (x1c0, x1c1, x1c2, x1c3, ()) h0⟩

end Go.TM
