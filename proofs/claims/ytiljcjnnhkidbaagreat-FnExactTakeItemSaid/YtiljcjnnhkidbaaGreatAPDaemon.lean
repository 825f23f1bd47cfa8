/- DaemonOk, of the program and of the reference. -/
import Derived.Test.YtiljcjnnhkidbaaGreatAPRec
set_option linter.unusedSimpArgs false
set_option linter.unusedVariables false
namespace Go.TM
open Go
theorem bif_and1 (b x : Bool) : (bif b then some (x, ()) else some (false, ())) = some ((b && x), ()) := by cases b <;> rfl
theorem bif_and2 (b x : Bool) : (bif !b then some (false, ()) else some (x, ())) = some ((b && x), ()) := by cases b <;> rfl
theorem noring_eq (c : Int) (xs : List (Int × Unit)) : spec_l14NoRing c xs = some ((decide (c = 0) && decide (((List.length xs : Nat) : Int) = 0)), ()) ∧ impl_Ring_isNone c xs = some ((decide (c = 0) && decide (((List.length xs : Nat) : Int) = 0)), ()) := by
 unfold spec_l14NoRing impl_Ring_isNone; simp only [bif_and1]; exact ⟨trivial, trivial⟩
theorem nomate_same (m0c0 : Int) (m0c1 : Int) (m0c2 : List (Int × Unit)) (m0c3 : ItemL) (m0c4 : List (Int × Unit)) (m0c5 : List (ByteArray × Unit)) (m0c6 m0c7 m0c8 m0c9 m0c10 m0c11 m0c12 m0c13 m0c14 : Int) (m0c15 : List (Int × Unit)) : ∃ b, spec_l14NoMate m0c0 m0c1 m0c2 m0c3 m0c4 m0c5 m0c6 m0c7 m0c8 m0c9 m0c10 m0c11 m0c12 m0c13 m0c14 m0c15 = some (b, ()) ∧ impl_Mate_isNone m0c0 m0c1 m0c2 m0c3 m0c4 m0c5 m0c6 m0c7 m0c8 m0c9 m0c10 m0c11 m0c12 m0c13 m0c14 m0c15 = some (b, ()) ∧ (b = true → m0c1 = 0) := by
 obtain ⟨b6, z1, z2⟩ := blank_same m0c10 m0c11 m0c12 m0c13 m0c14 m0c15; obtain ⟨n1, n2⟩ := noring_eq m0c1 m0c2; unfold spec_l14NoMate impl_Mate_isNone; simp only [z1, z2, n1, n2, Option.bind_some, bif_and1, bif_and2]; refine ⟨_, rfl, ?_, fun h => ?_⟩
 · congr 2
   ac_rfl
 · simp only [Bool.and_eq_true, decide_eq_true_eq] at h; exact h.2.1.1
theorem same_DaemonOk (d0c0 : Int) (d0c1 : Bool) (d0c2 : Int) (d0c3 : Int) (d0c4 : List (Int × Unit)) (d0c5 : ItemL) (d0c6 : List (Int × Unit)) (d0c7 : List (ByteArray × Unit)) (d0c8 : Int) (d0c9 : Int) (d0c10 : Int) (d0c11 : Int) (d0c12 : Int) (d0c13 : Int) (d0c14 : Int) (d0c15 : Int) (d0c16 : Int) (d0c17 : List (Int × Unit)) (d0c18 : Int) (d0c19 : Int) (d0c20 : Int) (d0c21 : List (Int × Unit)) (d0c22 : List (Int × Int × Int × (List (Int × Int × Int × ByteArray × Unit)) × Unit)) (d0c23 : List (Int × Int × (List (Int × Unit)) × Int × Int × Int × ByteArray × (List (Int × Unit)) × Unit)) (h0 : (List.length d0c4 + wl W_i d0c4) + (List.length d0c5 + wl W_iiis d0c5) + (List.length d0c6 + wl W_i d0c6) + (List.length d0c7 + wl W_s d0c7) + (List.length d0c17 + wl W_i d0c17) + (List.length d0c21 + wl W_i d0c21) + (List.length d0c22 + wl W_iiiLiiisE d0c22) + (List.length d0c23 + wl W_iiLiEiiisLiE d0c23) ≤ 1048576) : ∃ o0, spec_DaemonOk d0c0 d0c1 d0c2 d0c3 d0c4 d0c5 d0c6 d0c7 d0c8 d0c9 d0c10 d0c11 d0c12 d0c13 d0c14 d0c15 d0c16 d0c17 d0c18 d0c19 d0c20 d0c21 d0c22 d0c23 = some (o0, ()) ∧ impl_DaemonOk d0c0 d0c1 d0c2 d0c3 d0c4 d0c5 d0c6 d0c7 d0c8 d0c9 d0c10 d0c11 d0c12 d0c13 d0c14 d0c15 d0c16 d0c17 d0c18 d0c19 d0c20 d0c21 d0c22 d0c23 = some (o0, ()) := by
 have hm0 : (List.length d0c4 + wl W_i d0c4) + (List.length d0c5 + wl W_iiis d0c5) + (List.length d0c6 + wl W_i d0c6) + (List.length d0c7 + wl W_s d0c7) + (List.length d0c17 + wl W_i d0c17) ≤ 1048576 := by omega
 obtain ⟨nm, n1, n2, n3⟩ := nomate_same d0c2 d0c3 d0c4 d0c5 d0c6 d0c7 d0c8 d0c9 d0c10 d0c11 d0c12 d0c13 d0c14 d0c15 d0c16 d0c17; obtain ⟨b, k1, k2, _⟩ := mate_iff d0c2 d0c3 d0c4 d0c5 d0c6 d0c7 d0c8 d0c9 d0c10 d0c11 d0c12 d0c13 d0c14 d0c15 d0c16 d0c17 hm0; obtain ⟨r1, r2⟩ := noring_eq d0c20 d0c21; obtain ⟨b8, q1, q2, _⟩ := ring_same d0c20 d0c21 (by omega); obtain ⟨b9, c1, c2⟩ := contains_same d0c0 d0c21 (by omega); obtain ⟨e, f, g1, g2, g3⟩ : ∃ e f, loopV spec_DaemonOk_r0 (d0c0, d0c1, d0c2, d0c3, d0c4, d0c5, d0c6, d0c7, d0c8, d0c9, d0c10, d0c11, d0c12, d0c13, d0c14, d0c15, d0c16, d0c17, d0c18, d0c19, d0c20, d0c21, d0c22, d0c23, (0 : Int), ()) = some e ∧ loopV impl_Daemon_joiningOk_r0 (d0c0, d0c1, d0c2, d0c3, d0c4, d0c5, d0c6, d0c7, d0c8, d0c9, d0c10, d0c11, d0c12, d0c13, d0c14, d0c15, d0c16, d0c17, d0c18, d0c19, d0c20, d0c21, d0c22, d0c23, d0c22, ((List.length d0c22 : Nat) : Int), (0 : Int), ()) = some f ∧
     ((e = .inl () ∧ f = .inl (d0c0, d0c1, d0c2, d0c3, d0c4, d0c5, d0c6, d0c7, d0c8, d0c9, d0c10, d0c11, d0c12, d0c13, d0c14, d0c15, d0c16, d0c17, d0c18, d0c19, d0c20, d0c21, d0c22, d0c23, ())) ∨ (e = .inr (false, ()) ∧ f = .inr (d0c0, d0c1, d0c2, d0c3, d0c4, d0c5, d0c6, d0c7, d0c8, d0c9, d0c10, d0c11, d0c12, d0c13, d0c14, d0c15, d0c16, d0c17, d0c18, d0c19, d0c20, d0c21, d0c22, d0c23, false, ()))) := by
   refine loop_two d0c22.length (fun k x y => x = (d0c0, d0c1, d0c2, d0c3, d0c4, d0c5, d0c6, d0c7, d0c8, d0c9, d0c10, d0c11, d0c12, d0c13, d0c14, d0c15, d0c16, d0c17, d0c18, d0c19, d0c20, d0c21, d0c22, d0c23, ((k : Nat) : Int), ()) ∧ y = (d0c0, d0c1, d0c2, d0c3, d0c4, d0c5, d0c6, d0c7, d0c8, d0c9, d0c10, d0c11, d0c12, d0c13, d0c14, d0c15, d0c16, d0c17, d0c18, d0c19, d0c20, d0c21, d0c22, d0c23, d0c22, ((List.length d0c22 : Nat) : Int), ((k : Nat) : Int), ())) _ ?_ ⟨rfl, rfl⟩
   rintro k x y hk ⟨rfl, rfl⟩
   by_cases hlt : k < d0c22.length
   · have hw := wl_mem W_iiiLiiisE d0c22 d0c22[k] (List.getElem_mem hlt); have hl : (d0c22[k].2.2.2.1).length ≤ 1048576 := by
       have : W_iiiLiiisE d0c22[k] = List.length d0c22[k].2.2.2.1 + wl W_iiis d0c22[k].2.2.2.1 := rfl; omega
     obtain ⟨x, v1, v2⟩ := bundle_same d0c22[k].1 d0c22[k].2.1 d0c22[k].2.2.1 d0c22[k].2.2.2.1 hl; simp only [spec_DaemonOk_r0, spec_DaemonOk_c0, impl_Daemon_joiningOk_r0, impl_Daemon_joiningOk_c0, lt_nat_true hlt, zero_le_nat, cond_true, toNat_nat, List.getElem?_eq_getElem hlt, Option.bind_some, v1, v2, succ_wrap (show k < 4611686018427387904 by omega)]
     cases x
     · exact .inl ⟨_, _, rfl, rfl, .inr ⟨rfl, rfl⟩⟩
     · by_cases hn : d0c22[k].2.1 = d0c20
       · rw [dec_true hn]; exact .inr ⟨hlt, _, _, rfl, rfl, rfl, rfl⟩
       · rw [dec_false hn]; exact .inl ⟨_, _, rfl, rfl, .inr ⟨rfl, rfl⟩⟩
   · have : k = d0c22.length := by omega
     subst this; exact .inl ⟨.inl (), .inl (d0c0, d0c1, d0c2, d0c3, d0c4, d0c5, d0c6, d0c7, d0c8, d0c9, d0c10, d0c11, d0c12, d0c13, d0c14, d0c15, d0c16, d0c17, d0c18, d0c19, d0c20, d0c21, d0c22, d0c23, ()), by simp only [spec_DaemonOk_r0, spec_DaemonOk_c0, lt_nat_irr, cond_false], by simp only [impl_Daemon_joiningOk_r0, impl_Daemon_joiningOk_c0, lt_nat_irr, cond_false], .inl ⟨rfl, rfl⟩⟩
 unfold spec_DaemonOk impl_DaemonOk impl_Daemon_joiningOk; simp only [in_eq, in_eq', daemon_eq, n1, n2, k1, k2, r1, r2, q1, q2, c1, c2, g1, g2, Option.bind_some]
 cases (decide (1 ≤ d0c0) && decide (d0c0 ≤ 5))
 · exact ⟨_, rfl, rfl⟩
 cases hB : (decide (0 ≤ d0c18) && decide (d0c18 ≤ 9))
 · exact ⟨_, rfl, rfl⟩
 have hB := and_of hB; simp only [Bool.not_true, cond_false]
 cases d0c1
 · cases nm
   · cases b
     · by_cases o0 : d0c2 = d0c0
       · rw [dec_true o0]; exact ⟨_, rfl, rfl⟩
       · rw [dec_false o0]; exact ⟨_, rfl, rfl⟩
     by_cases o0 : d0c2 = d0c0
     case neg => rw [dec_false o0]; exact ⟨_, rfl, rfl⟩
     rw [dec_true o0]
     by_cases o1 : d0c19 = d0c3
     case neg => rw [dec_false o1]; exact ⟨_, rfl, rfl⟩
     rw [dec_true o1]
     by_cases o2 : d0c18 < d0c19
     · rw [dec_true o2, dec_false (show ¬ d0c19 ≤ d0c18 by omega)]; exact ⟨_, rfl, rfl⟩
     rw [dec_false o2, dec_true (show d0c19 ≤ d0c18 by omega)]
     cases (decide (d0c20 = 0) && decide (((List.length d0c21 : Nat) : Int) = 0))
     · cases b8
       · exact ⟨_, rfl, rfl⟩
       cases b9
       · exact ⟨_, rfl, rfl⟩
       cases (decide (IntKind.i64.wrap (d0c19 + (1 : Int)) ≤ d0c20) && decide (d0c20 ≤ d0c18))
       · exact ⟨_, rfl, rfl⟩
       rcases g3 with ⟨rfl, rfl⟩ | ⟨rfl, rfl⟩
       · exact ⟨_, rfl, rfl⟩
       · exact ⟨_, rfl, rfl⟩
     · exact ⟨_, rfl, rfl⟩
   · have h3 := n3 rfl
     by_cases o1 : d0c19 = d0c3
     case neg => rw [dec_false o1]; exact ⟨_, rfl, rfl⟩
     rw [dec_true o1]
     by_cases o2 : d0c18 < d0c19
     · rw [dec_true o2, dec_false (show ¬ d0c19 ≤ d0c18 by omega)]; exact ⟨_, rfl, rfl⟩
     rw [dec_false o2, dec_true (show d0c19 ≤ d0c18 by omega)]
     cases (decide (d0c20 = 0) && decide (((List.length d0c21 : Nat) : Int) = 0))
     · cases b8
       · exact ⟨_, rfl, rfl⟩
       cases b9
       · exact ⟨_, rfl, rfl⟩
       cases (decide (IntKind.i64.wrap (d0c19 + (1 : Int)) ≤ d0c20) && decide (d0c20 ≤ d0c18))
       · exact ⟨_, rfl, rfl⟩
       rcases g3 with ⟨rfl, rfl⟩ | ⟨rfl, rfl⟩
       · exact ⟨_, rfl, rfl⟩
       · exact ⟨_, rfl, rfl⟩
     · exact ⟨_, rfl, rfl⟩
 · cases nm
   · exact ⟨_, rfl, rfl⟩
   have h3 := n3 rfl
   by_cases o3 : d0c19 = 0
   case neg => rw [dec_false o3]; exact ⟨_, rfl, rfl⟩
   rw [dec_true o3, dec_true (show d0c19 = d0c3 by omega), dec_true (show d0c19 ≤ d0c18 by omega)]
   cases (decide (d0c20 = 0) && decide (((List.length d0c21 : Nat) : Int) = 0))
   · exact ⟨_, rfl, rfl⟩
   by_cases o4 : ((List.length d0c22 : Nat) : Int) = 0
   · rw [dec_true o4, dec_false (show ¬ (0 : Int) < ((List.length d0c22 : Nat) : Int) by omega)]; exact ⟨_, rfl, rfl⟩
   · rw [dec_false o4, dec_true (show (0 : Int) < ((List.length d0c22 : Nat) : Int) by omega)]; exact ⟨_, rfl, rfl⟩
end Go.TM
