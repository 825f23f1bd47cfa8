/- ReadPiece, of the program and of the reference: what is read of a right piece. -/
import Derived.Test.YtfdfagkelakpnaaPReadVar
set_option linter.unusedSimpArgs false
set_option linter.unusedVariables false
namespace Go.TM
open Go

theorem num_same (s : ByteArray) (a : Nat) (bad : Bool) (hs : s.size ≤ 1048576) (ha : a ≤ s.size) : ∃ (n t : Nat) (b : Bool), spec_l05Var s ((a : Nat) : Int) bad = some (((n : Nat) : Int), s, ((t : Nat) : Int), b, ()) ∧ impl_scanner_number s ((a : Nat) : Int) bad = some (((n : Nat) : Int), s, ((t : Nat) : Int), b, ()) ∧
    n ≤ 1000000000 ∧ t ≤ s.size := by
  obtain ⟨y, h1, h2, h3⟩ := readvar_same s a hs ha
  unfold spec_l05Var impl_scanner_number
  rw [h1, h2]
  simp only [Option.bind_some]
  cases bad
  · cases hok : y.2.2.1
    · exact ⟨0, a, true, rfl, rfl, by omega, ha⟩
    · obtain ⟨n, t, rfl, q1, q2, q3⟩ := h3 hok
      exact ⟨n, t, false, rfl, rfl, q1, q3⟩
  · exact ⟨0, a, true, rfl, rfl, by omega, ha⟩

/-- What both answer: a right piece, or none. -/
def PieceP (s : ByteArray) (y : Int × Int × Int × ByteArray × Bool × Unit) : Prop :=
  y = ((0 : Int), (0 : Int), (0 : Int), ByteArray.mk #[], false, ()) ∨
  ∃ (n p c : Nat) (part : ByteArray), y = (((n : Nat) : Int), ((p : Nat) : Int), ((c : Nat) : Int), part, true, ()) ∧ n ≤ 100000 ∧ p < c ∧ c ≤ 10 ∧ part.size ≤ 40 ∧ part.size ≤ s.size

theorem readpiece_same (s : ByteArray) (hs : s.size ≤ 1048576) : ∃ y, spec_ReadPiece s = some y ∧ impl_ReadPiece s = some y ∧ PieceP s y := by
  obtain ⟨n1, t1, b1, s1, i1, l1, q1⟩ := num_same s 0 false hs (Nat.zero_le _)
  obtain ⟨n2, t2, b2, s2, i2, l2, q2⟩ := num_same s t1 b1 hs q1
  obtain ⟨n3, t3, b3, s3, i3, l3, q3⟩ := num_same s t2 b2 hs q2
  have s1 : spec_l05Var s (0 : Int) false = _ := s1
  have i1 : impl_scanner_number s (0 : Int) false = _ := i1
  unfold spec_ReadPiece impl_ReadPiece
  rw [s1, i1]
  simp only [Option.bind_some, s2, i2, s3, i3, zero_le_nat, cond_true, dec_true (show ((t3 : Nat) : Int) ≤ ((ByteArray.size s : Nat) : Int) by omega), in_eq]
  have hex : (ByteArray.extract s (Int.toNat ((t3 : Nat) : Int)) (ByteArray.size s)).size ≤ s.size := by rw [ByteArray.size_extract]; omega
  generalize ByteArray.extract s (Int.toNat ((t3 : Nat) : Int)) (ByteArray.size s) = part at *
  cases b3
  case true => exact ⟨_, rfl, rfl, .inl rfl⟩
  by_cases c1 : (100000 : Int) < ((n1 : Nat) : Int)
  · rw [dec_true c1]; exact ⟨_, rfl, rfl, .inl rfl⟩
  rw [dec_false c1]
  by_cases c2 : ((n3 : Nat) : Int) ≤ ((n2 : Nat) : Int)
  · rw [dec_true c2]
    refine ⟨_, ?_, rfl, .inl rfl⟩
    cases (decide ((1 : Int) ≤ ((n3 : Nat) : Int)) && decide (((n3 : Nat) : Int) ≤ (10 : Int))) <;> rfl
  rw [dec_false c2, dec_true (show (1 : Int) ≤ ((n3 : Nat) : Int) by omega)]
  by_cases c3 : (10 : Int) < ((n3 : Nat) : Int)
  · rw [dec_true c3, dec_false (show ¬ ((n3 : Nat) : Int) ≤ (10 : Int) by omega)]
    exact ⟨_, rfl, rfl, .inl rfl⟩
  rw [dec_false c3, dec_true (show ((n3 : Nat) : Int) ≤ (10 : Int) by omega)]
  by_cases c4 : (40 : Int) < ((part.size : Nat) : Int)
  · rw [dec_true c4]; exact ⟨_, rfl, rfl, .inl rfl⟩
  rw [dec_false c4, wrap_id (show -9223372036854775808 ≤ ((n2 : Nat) : Int) + 1 by omega) (by omega), wrap_id (show -9223372036854775808 ≤ ((n3 : Nat) : Int) - 1 by omega) (by omega)]
  have good : PieceP s (((n1 : Nat) : Int), ((n2 : Nat) : Int), ((n3 : Nat) : Int), part, true, ()) := .inr ⟨n1, n2, n3, part, rfl, by omega, by omega, by omega, by omega, hex⟩
  by_cases c5 : ((n2 : Nat) : Int) + 1 = ((n3 : Nat) : Int)
  · rw [dec_true c5, dec_false (show ¬ ((n2 : Nat) : Int) < ((n3 : Nat) : Int) - 1 by omega)]
    refine ⟨_, rfl, ?_, good⟩
    cases decide (((part.size : Nat) : Int) < (40 : Int)) <;> rfl
  · rw [dec_false c5, dec_true (show ((n2 : Nat) : Int) < ((n3 : Nat) : Int) - 1 by omega)]
    by_cases c6 : ((part.size : Nat) : Int) = 40
    · rw [dec_true c6, dec_false (show ¬ ((part.size : Nat) : Int) < (40 : Int) by omega)]
      exact ⟨_, rfl, rfl, good⟩
    · rw [dec_false c6, dec_true (show ((part.size : Nat) : Int) < (40 : Int) by omega)]
      exact ⟨_, rfl, rfl, .inl rfl⟩
end Go.TM
