/- Crash and LogOf, of the program and of the reference. -/
import Derived.Test.YtepmhhjhfkekfaaPBundleAt
set_option linter.unusedSimpArgs false
set_option linter.unusedVariables false
namespace Go.TM
open Go

theorem same_Crash (d0c0 : Int) (d0c1 : Bool) (d0c2 : Int) (d0c3 : Int) (d0c4 : List (Int × Unit)) (d0c5 : List (Int × Int × Int × ByteArray × Unit)) (d0c6 : List (Int × Unit)) (d0c7 : List (ByteArray × Unit)) (d0c8 : Int) (d0c9 : Int) (d0c10 : Int) (d0c11 : Int) (d0c12 : Int) (d0c13 : Int) (d0c14 : Int) (d0c15 : Int) (d0c16 : Int) (d0c17 : List (Int × Unit)) (d0c18 : Int) (d0c19 : Int) (d0c20 : Int) (d0c21 : List (Int × Unit)) (d0c22 : List (Int × Int × Int × (List (Int × Int × Int × ByteArray × Unit)) × Unit)) (d0c23 : List (Int × Int × (List (Int × Unit)) × Int × Int × Int × ByteArray × (List (Int × Unit)) × Unit)) (h0 : (List.length d0c4 + wl W_i d0c4) + (List.length d0c5 + wl W_iiis d0c5) + (List.length d0c6 + wl W_i d0c6) + (List.length d0c7 + wl W_s d0c7) + (List.length d0c17 + wl W_i d0c17) + (List.length d0c21 + wl W_i d0c21) + (List.length d0c22 + wl W_iiiLiiisE d0c22) + (List.length d0c23 + wl W_iiLiEiiisLiE d0c23) ≤ 1048576) : ∃ o0 o1 o2 o3 o4 o5 o6 o7 o8 o9 o10 o11 o12 o13 o14 o15 o16 o17 o18 o19 o20 o21 o22 o23, spec_Crash d0c0 d0c1 d0c2 d0c3 d0c4 d0c5 d0c6 d0c7 d0c8 d0c9 d0c10 d0c11 d0c12 d0c13 d0c14 d0c15 d0c16 d0c17 d0c18 d0c19 d0c20 d0c21 d0c22 d0c23 = some (o0, o1, o2, o3, o4, o5, o6, o7, o8, o9, o10, o11, o12, o13, o14, o15, o16, o17, o18, o19, o20, o21, o22, o23, ()) ∧ impl_Crash d0c0 d0c1 d0c2 d0c3 d0c4 d0c5 d0c6 d0c7 d0c8 d0c9 d0c10 d0c11 d0c12 d0c13 d0c14 d0c15 d0c16 d0c17 d0c18 d0c19 d0c20 d0c21 d0c22 d0c23 = some (o0, o1, o2, o3, o4, o5, o6, o7, o8, o9, o10, o11, o12, o13, o14, o15, o16, o17, o18, o19, o20, o21, o22, o23, ()) ∧ (List.length o4 + wl W_i o4) + (List.length o5 + wl W_iiis o5) + (List.length o6 + wl W_i o6) + (List.length o7 + wl W_s o7) + (List.length o17 + wl W_i o17) + (List.length o21 + wl W_i o21) + (List.length o22 + wl W_iiiLiiisE o22) + (List.length o23 + wl W_iiLiEiiisLiE o23) ≤ 1048576 := by
  unfold spec_Crash impl_Crash
  rw [copyEvents_spec _ (by omega), copyEvents_impl _ (by omega)]
  refine ⟨_, _, _, _, _, _, _, _, _, _, _, _, _, _, _, _, _, _, _, _, _, _, _, _, rfl, rfl, ?_⟩
  simp only [List.length_nil, wl_nil]
  omega

theorem same_LogOf (w0c0 : List (Int × (List (Int × Unit)) × Unit)) (w0c1 : List (Int × Bool × Int × Int × (List (Int × Unit)) × (List (Int × Int × Int × ByteArray × Unit)) × (List (Int × Unit)) × (List (ByteArray × Unit)) × Int × Int × Int × Int × Int × Int × Int × Int × Int × (List (Int × Unit)) × Int × Int × Int × (List (Int × Unit)) × (List (Int × Int × Int × (List (Int × Int × Int × ByteArray × Unit)) × Unit)) × (List (Int × Int × (List (Int × Unit)) × Int × Int × Int × ByteArray × (List (Int × Unit)) × Unit)) × Unit)) (w0c2 : List (Int × Int × Int × Int × Int × Int × ByteArray × Int × Int × Int × Int × Int × (List (Int × Unit)) × Int × Int × Int × (List (Int × Int × Int × ByteArray × Unit)) × Unit)) (w0c3 : List (Int × Int × (List (Int × Unit)) × Int × Int × Int × ByteArray × (List (Int × Unit)) × Unit)) (id1 : Int) (h0 : (List.length w0c0 + wl W_iLiE w0c0) + (List.length w0c1 + wl W_ibiiLiELiiisELiELsEiiiiiiiiiLiEiiiLiELiiiLiiisEELiiLiEiiisLiEE w0c1) + (List.length w0c2 + wl W_iiiiiisiiiiiLiEiiiLiiisE w0c2) + (List.length w0c3 + wl W_iiLiEiiisLiE w0c3) ≤ 1048576) : ∃ o0, spec_LogOf w0c0 w0c1 w0c2 w0c3 id1 = some (o0, ()) ∧ impl_LogOf w0c0 w0c1 w0c2 w0c3 id1 = some (o0, ()) ∧ (List.length o0 + wl W_iiLiEiiisLiE o0) ≤ 1048576 := by
  unfold spec_LogOf impl_LogOf
  simp only [in_eq, in_eq', Option.bind_some]
  by_cases q1 : 1 ≤ id1
  case neg => rw [dec_false q1]; exact ⟨[], rfl, rfl, Nat.zero_le _⟩
  by_cases q2 : id1 ≤ ((List.length w0c1 : Nat) : Int)
  case neg => rw [dec_true q1, dec_false q2]; exact ⟨[], rfl, rfl, Nat.zero_le _⟩
  rw [dec_true q1, dec_true q2, wrap_id (by omega) (by omega), dec_true (show (0 : Int) ≤ id1 - 1 by omega)]
  have hk : (id1 - 1).toNat < w0c1.length := by omega
  rw [List.getElem?_eq_getElem hk]
  have hw := wl_mem W_ibiiLiELiiisELiELsEiiiiiiiiiLiEiiiLiELiiiLiiisEELiiLiEiiisLiEE w0c1 _ (List.getElem_mem hk)
  generalize w0c1[(id1 - 1).toNat] = r at hw
  have hw : List.length r.2.2.2.2.1 + wl W_i r.2.2.2.2.1 + (List.length r.2.2.2.2.2.1 + wl W_iiis r.2.2.2.2.2.1) + (List.length r.2.2.2.2.2.2.1 + wl W_i r.2.2.2.2.2.2.1) + (List.length r.2.2.2.2.2.2.2.1 + wl W_s r.2.2.2.2.2.2.2.1) + (List.length r.2.2.2.2.2.2.2.2.2.2.2.2.2.2.2.2.2.1 + wl W_i r.2.2.2.2.2.2.2.2.2.2.2.2.2.2.2.2.2.1) + (List.length r.2.2.2.2.2.2.2.2.2.2.2.2.2.2.2.2.2.2.2.2.2.1 + wl W_i r.2.2.2.2.2.2.2.2.2.2.2.2.2.2.2.2.2.2.2.2.2.1) + (List.length r.2.2.2.2.2.2.2.2.2.2.2.2.2.2.2.2.2.2.2.2.2.2.1 + wl W_iiiLiiisE r.2.2.2.2.2.2.2.2.2.2.2.2.2.2.2.2.2.2.2.2.2.2.1) + (List.length r.2.2.2.2.2.2.2.2.2.2.2.2.2.2.2.2.2.2.2.2.2.2.2.1 + wl W_iiLiEiiisLiE r.2.2.2.2.2.2.2.2.2.2.2.2.2.2.2.2.2.2.2.2.2.2.2.1) ≤ _ := hw
  simp only [Option.bind_some, Bool.and_true, Bool.not_true, cond_false, cond_true, copyEvents_spec r.2.2.2.2.2.2.2.2.2.2.2.2.2.2.2.2.2.2.2.2.2.2.2.1 (by omega), copyEvents_impl r.2.2.2.2.2.2.2.2.2.2.2.2.2.2.2.2.2.2.2.2.2.2.2.1 (by omega)]
  exact ⟨_, rfl, rfl, by omega⟩
end Go.TM
