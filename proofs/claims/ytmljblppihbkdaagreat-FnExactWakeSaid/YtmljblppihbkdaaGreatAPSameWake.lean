/- Wake, of the program and of the reference. -/
import Derived.Test.YtmljblppihbkdaaGreatAPDaes
set_option linter.unusedSimpArgs false
set_option linter.unusedVariables false
namespace Go.TM
open Go

theorem same_Wake (d0c0 : Int) (d0c1 : Bool) (d0c2 : Int) (d0c3 : Int) (d0c4 : List (Int × Unit)) (d0c5 : List R_iiis) (d0c6 : List (Int × Unit)) (d0c7 : List (ByteArray × Unit)) (d0c8 : Int) (d0c9 : Int) (d0c10 : Int) (d0c11 : Int) (d0c12 : Int) (d0c13 : Int) (d0c14 : Int) (d0c15 : Int) (d0c16 : Int) (d0c17 : List (Int × Unit)) (d0c18 : Int) (d0c19 : Int) (d0c20 : Int) (d0c21 : List (Int × Unit)) (d0c22 : List R_iiiLiiisE) (d0c23 : List R_iiLiEiiisLiE) (h0 : (List.length d0c4 + wl W_i d0c4) + (List.length d0c5 + wl W_iiis d0c5) + (List.length d0c6 + wl W_i d0c6) + (List.length d0c7 + wl W_s d0c7) + (List.length d0c17 + wl W_i d0c17) + (List.length d0c21 + wl W_i d0c21) + (List.length d0c22 + wl W_iiiLiiisE d0c22) + (List.length d0c23 + wl W_iiLiEiiisLiE d0c23) ≤ 1048576) : ∃ o0 o1 o2 o3 o4 o5 o6 o7 o8 o9 o10 o11 o12 o13 o14 o15 o16 o17 o18 o19 o20 o21 o22 o23 o24, spec_Wake d0c0 d0c1 d0c2 d0c3 d0c4 d0c5 d0c6 d0c7 d0c8 d0c9 d0c10 d0c11 d0c12 d0c13 d0c14 d0c15 d0c16 d0c17 d0c18 d0c19 d0c20 d0c21 d0c22 d0c23 = some (o0, o1, o2, o3, o4, o5, o6, o7, o8, o9, o10, o11, o12, o13, o14, o15, o16, o17, o18, o19, o20, o21, o22, o23, o24, ()) ∧ impl_Wake d0c0 d0c1 d0c2 d0c3 d0c4 d0c5 d0c6 d0c7 d0c8 d0c9 d0c10 d0c11 d0c12 d0c13 d0c14 d0c15 d0c16 d0c17 d0c18 d0c19 d0c20 d0c21 d0c22 d0c23 = some (o0, o1, o2, o3, o4, o5, o6, o7, o8, o9, o10, o11, o12, o13, o14, o15, o16, o17, o18, o19, o20, o21, o22, o23, o24, ()) ∧ (List.length o4 + wl W_i o4) + (List.length o5 + wl W_iiis o5) + (List.length o6 + wl W_i o6) + (List.length o7 + wl W_s o7) + (List.length o17 + wl W_i o17) + (List.length o21 + wl W_i o21) + (List.length o22 + wl W_iiiLiiisE o22) + (List.length o23 + wl W_iiLiEiiisLiE o23) ≤ 1048576 := by
  obtain ⟨k1, k2⟩ := wake_same (d0c0, d0c1, d0c2, d0c3, d0c4, d0c5, d0c6, d0c7, d0c8, d0c9, d0c10, d0c11, d0c12, d0c13, d0c14, d0c15, d0c16, d0c17, d0c18, d0c19, d0c20, d0c21, d0c22, d0c23, ()) h0
  exact ⟨_, _, _, _, _, _, _, _, _, _, _, _, _, _, _, _, _, _, _, _, _, _, _, _, _, k1, k2, wake_size (d0c0, d0c1, d0c2, d0c3, d0c4, d0c5, d0c6, d0c7, d0c8, d0c9, d0c10, d0c11, d0c12, d0c13, d0c14, d0c15, d0c16, d0c17, d0c18, d0c19, d0c20, d0c21, d0c22, d0c23, ()) h0⟩

end Go.TM
