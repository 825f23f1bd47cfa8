/- FirstOf, of the program and of the reference. -/
import Derived.Test.YtmljblppihbkdaaCPRecD
set_option linter.unusedSimpArgs false
set_option linter.unusedVariables false
namespace Go.TM
open Go

theorem noring_d (d : DaeM) : spec_l14NoRing d.2.2.2.2.2.2.2.2.2.2.2.2.2.2.2.2.2.2.2.2.1 d.2.2.2.2.2.2.2.2.2.2.2.2.2.2.2.2.2.2.2.2.2.1 = some ((decide (d.2.2.2.2.2.2.2.2.2.2.2.2.2.2.2.2.2.2.2.2.1 = 0) && decide (((List.length d.2.2.2.2.2.2.2.2.2.2.2.2.2.2.2.2.2.2.2.2.2.1 : Nat) : Int) = 0)), ()) := (noring_eq _ _).1
/-- Is a daemon in a ring, and goes to no other one? -/
theorem inRing_eq (d : DaeM) (h : DaeW d ≤ 1048576) : spec_l14InRing d.1 d.2.1 d.2.2.1 d.2.2.2.1 d.2.2.2.2.1 d.2.2.2.2.2.1 d.2.2.2.2.2.2.1 d.2.2.2.2.2.2.2.1 d.2.2.2.2.2.2.2.2.1 d.2.2.2.2.2.2.2.2.2.1 d.2.2.2.2.2.2.2.2.2.2.1 d.2.2.2.2.2.2.2.2.2.2.2.1 d.2.2.2.2.2.2.2.2.2.2.2.2.1 d.2.2.2.2.2.2.2.2.2.2.2.2.2.1 d.2.2.2.2.2.2.2.2.2.2.2.2.2.2.1 d.2.2.2.2.2.2.2.2.2.2.2.2.2.2.2.1 d.2.2.2.2.2.2.2.2.2.2.2.2.2.2.2.2.1 d.2.2.2.2.2.2.2.2.2.2.2.2.2.2.2.2.2.1 d.2.2.2.2.2.2.2.2.2.2.2.2.2.2.2.2.2.2.1 d.2.2.2.2.2.2.2.2.2.2.2.2.2.2.2.2.2.2.2.1 d.2.2.2.2.2.2.2.2.2.2.2.2.2.2.2.2.2.2.2.2.1 d.2.2.2.2.2.2.2.2.2.2.2.2.2.2.2.2.2.2.2.2.2.1 d.2.2.2.2.2.2.2.2.2.2.2.2.2.2.2.2.2.2.2.2.2.2.1 d.2.2.2.2.2.2.2.2.2.2.2.2.2.2.2.2.2.2.2.2.2.2.2.1 = some ((daeB d && (!d.2.1 && (decide (0 < d.2.2.2.2.2.2.2.2.2.2.2.2.2.2.2.2.2.2.2.1) && decide (d.2.2.2.2.2.2.2.2.2.2.2.2.2.2.2.2.2.2.2.2.1 = 0)))), ()) := by
  obtain ⟨k1, _, k3⟩ := dae_ok d h
  unfold spec_l14InRing
  simp only [k1, noring_d, Option.bind_some]
  cases hb : daeB d
  · rfl
  have q := k3.1 hb
  cases hd : d.2.1
  · by_cases ho : 0 < d.2.2.2.2.2.2.2.2.2.2.2.2.2.2.2.2.2.2.2.1
    · rw [dec_true ho]
      rcases q.joins with j | j
      · rw [j.1, j.2.1]; rfl
      · have : ¬ d.2.2.2.2.2.2.2.2.2.2.2.2.2.2.2.2.2.2.2.2.1 = 0 := by have := j.1.1.1; omega
        rw [dec_false this]; rfl
    · rw [dec_false ho]; rfl
  · rfl
theorem firstTok_eq (c : Int) (xs : MemL) (h : xs.length ≤ 1048576) (hr : RingP c xs) : spec_FirstToken c xs = some (c, 1, 0, 0, 0, [], ()) ∧ impl_FirstToken c xs = some (c, 1, 0, 0, 0, [], ()) := by
  obtain ⟨k1, k2, k3⟩ := ring_ok c xs h
  unfold spec_FirstToken impl_FirstToken
  rw [k1, k2, k3.2 hr]
  exact ⟨rfl, rfl⟩

theorem firstOf_same (d : DaeM) (h : DaeW d ≤ 1048576) : ∃ (t : TokR) (b : Bool), spec_FirstOf d.1 d.2.1 d.2.2.1 d.2.2.2.1 d.2.2.2.2.1 d.2.2.2.2.2.1 d.2.2.2.2.2.2.1 d.2.2.2.2.2.2.2.1 d.2.2.2.2.2.2.2.2.1 d.2.2.2.2.2.2.2.2.2.1 d.2.2.2.2.2.2.2.2.2.2.1 d.2.2.2.2.2.2.2.2.2.2.2.1 d.2.2.2.2.2.2.2.2.2.2.2.2.1 d.2.2.2.2.2.2.2.2.2.2.2.2.2.1 d.2.2.2.2.2.2.2.2.2.2.2.2.2.2.1 d.2.2.2.2.2.2.2.2.2.2.2.2.2.2.2.1 d.2.2.2.2.2.2.2.2.2.2.2.2.2.2.2.2.1 d.2.2.2.2.2.2.2.2.2.2.2.2.2.2.2.2.2.1 d.2.2.2.2.2.2.2.2.2.2.2.2.2.2.2.2.2.2.1 d.2.2.2.2.2.2.2.2.2.2.2.2.2.2.2.2.2.2.2.1 d.2.2.2.2.2.2.2.2.2.2.2.2.2.2.2.2.2.2.2.2.1 d.2.2.2.2.2.2.2.2.2.2.2.2.2.2.2.2.2.2.2.2.2.1 d.2.2.2.2.2.2.2.2.2.2.2.2.2.2.2.2.2.2.2.2.2.2.1 d.2.2.2.2.2.2.2.2.2.2.2.2.2.2.2.2.2.2.2.2.2.2.2.1 = some (t.1, t.2.1, t.2.2.1, t.2.2.2.1, t.2.2.2.2.1, t.2.2.2.2.2.1, b, ()) ∧ impl_FirstOf d.1 d.2.1 d.2.2.1 d.2.2.2.1 d.2.2.2.2.1 d.2.2.2.2.2.1 d.2.2.2.2.2.2.1 d.2.2.2.2.2.2.2.1 d.2.2.2.2.2.2.2.2.1 d.2.2.2.2.2.2.2.2.2.1 d.2.2.2.2.2.2.2.2.2.2.1 d.2.2.2.2.2.2.2.2.2.2.2.1 d.2.2.2.2.2.2.2.2.2.2.2.2.1 d.2.2.2.2.2.2.2.2.2.2.2.2.2.1 d.2.2.2.2.2.2.2.2.2.2.2.2.2.2.1 d.2.2.2.2.2.2.2.2.2.2.2.2.2.2.2.1 d.2.2.2.2.2.2.2.2.2.2.2.2.2.2.2.2.1 d.2.2.2.2.2.2.2.2.2.2.2.2.2.2.2.2.2.1 d.2.2.2.2.2.2.2.2.2.2.2.2.2.2.2.2.2.2.1 d.2.2.2.2.2.2.2.2.2.2.2.2.2.2.2.2.2.2.2.1 d.2.2.2.2.2.2.2.2.2.2.2.2.2.2.2.2.2.2.2.2.1 d.2.2.2.2.2.2.2.2.2.2.2.2.2.2.2.2.2.2.2.2.2.1 d.2.2.2.2.2.2.2.2.2.2.2.2.2.2.2.2.2.2.2.2.2.2.1 d.2.2.2.2.2.2.2.2.2.2.2.2.2.2.2.2.2.2.2.2.2.2.2.1 = some (t.1, t.2.1, t.2.2.1, t.2.2.2.1, t.2.2.2.2.1, t.2.2.2.2.2.1, b, ()) ∧ t.2.2.2.2.2.1 = [] := by
  obtain ⟨k1, k2, k3⟩ := dae_ok d h
  have hi := inRing_eq d h
  unfold spec_FirstOf impl_FirstOf
  simp only [hi, k2, Option.bind_some]
  have zero : (∃ (t : TokR) (b : Bool), some ((0 : Int), (0 : Int), (0 : Int), (0 : Int), (0 : Int), ([] : MemL), false, ()) = some (t.1, t.2.1, t.2.2.1, t.2.2.2.1, t.2.2.2.2.1, t.2.2.2.2.2.1, b, ()) ∧ some ((0 : Int), (0 : Int), (0 : Int), (0 : Int), (0 : Int), ([] : MemL), false, ()) = some (t.1, t.2.1, t.2.2.1, t.2.2.2.1, t.2.2.2.2.1, t.2.2.2.2.2.1, b, ()) ∧ t.2.2.2.2.2.1 = []) := ⟨(0, 0, 0, 0, 0, [], ()), false, rfl, rfl, rfl⟩
  cases hd : d.2.1
  case true =>
    cases daeB d <;> exact zero
  by_cases ho : 0 < d.2.2.2.2.2.2.2.2.2.2.2.2.2.2.2.2.2.2.2.1
  case neg =>
    rw [dec_false ho, dec_true (show d.2.2.2.2.2.2.2.2.2.2.2.2.2.2.2.2.2.2.2.1 ≤ 0 by omega)]
    cases daeB d <;> exact zero
  rw [dec_true ho, dec_false (show ¬ d.2.2.2.2.2.2.2.2.2.2.2.2.2.2.2.2.2.2.2.1 ≤ 0 by omega)]
  by_cases hj : d.2.2.2.2.2.2.2.2.2.2.2.2.2.2.2.2.2.2.2.2.1 = 0
  case neg =>
    rw [dec_false hj]
    cases daeB d <;> exact zero
  rw [dec_true hj]
  cases hb : daeB d
  · cases decide (d.2.2.2.2.2.2.2.2.1 = 0)
    · exact zero
    · exact zero
  have q := k3.1 hb
  have hm : MatQ (mateOf d) := by
    rcases q.mate with m | m
    · have h1 : d.2.2.2.1 = 0 := m.2.1
      have h2 := q.old.1
      omega
    · exact m.1
  have hr : RingP d.2.2.2.1 d.2.2.2.2.1 := hm.ring
  unfold DaeW at h
  obtain ⟨f1, f2⟩ := firstTok_eq d.2.2.2.1 d.2.2.2.2.1 (by omega) hr
  have hl : 0 < (d.2.2.2.2.1).length := by have := hr.2.1; omega
  have hne : ¬ ((List.length d.2.2.2.2.1 : Nat) : Int) = 0 := by omega
  rw [f1, f2, List.getElem?_eq_getElem hl, dec_false hne]
  simp only [Option.bind_some, Bool.not_true, Bool.not_false, Bool.and_true, cond_true, cond_false]
  by_cases h8 : d.2.2.2.2.2.2.2.2.1 = 0
  · rw [dec_true h8]
    by_cases h0 : ((d.2.2.2.2.1)[0]).1 = d.1
    · rw [dec_true h0]
      exact ⟨(d.2.2.2.1, 1, 0, 0, 0, [], ()), true, rfl, rfl, rfl⟩
    · rw [dec_false h0]
      exact zero
  · rw [dec_false h8]
    by_cases h0 : ((d.2.2.2.2.1)[0]).1 = d.1
    · rw [dec_true h0]
      exact zero
    · rw [dec_false h0]
      exact zero
end Go.TM
