/- Say, of the program and of the reference. -/
import Derived.Test.YtiljcjnnhkidbaaCPHold
set_option linter.unusedSimpArgs false
set_option linter.unusedVariables false
namespace Go.TM
open Go
def zeroMat : MatR := (0, 0, [], [], [], [], 0, 0, 0, 0, 0, 0, 0, 0, 0, [], ())
def saidR (m : MatR) (level : Int) (text : ByteArray) : MatR := (m.1, m.2.1, m.2.2.1, m.2.2.2.1, m.2.2.2.2.1 ++ [(level, ())], m.2.2.2.2.2.1 ++ [(text, ())], m.2.2.2.2.2.2)
noncomputable def mayB (m : MatR) (level : Int) (text : ByteArray) : Bool := matB m && ((decide (1 ≤ level) && decide (level ≤ 2)) && (decide (ByteArray.size text ≤ 60) && decide (m.2.2.2.2.2.1.length < 20)))
noncomputable def sayR (m : MatR) (level : Int) (text : ByteArray) : MatR × Bool := bif mayB m level text then (saidR m level text, true) else (zeroMat, false)
theorem say_same (m : MatR) (level : Int) (text : ByteArray) (h : MatW m ≤ 1048576) : spec_Say m.1 m.2.1 m.2.2.1 m.2.2.2.1 m.2.2.2.2.1 m.2.2.2.2.2.1 m.2.2.2.2.2.2.1 m.2.2.2.2.2.2.2.1 m.2.2.2.2.2.2.2.2.1 m.2.2.2.2.2.2.2.2.2.1 m.2.2.2.2.2.2.2.2.2.2.1 m.2.2.2.2.2.2.2.2.2.2.2.1 m.2.2.2.2.2.2.2.2.2.2.2.2.1 m.2.2.2.2.2.2.2.2.2.2.2.2.2.1 m.2.2.2.2.2.2.2.2.2.2.2.2.2.2.1 m.2.2.2.2.2.2.2.2.2.2.2.2.2.2.2.1 level text = some ((sayR m level text).1.1, (sayR m level text).1.2.1, (sayR m level text).1.2.2.1, (sayR m level text).1.2.2.2.1, (sayR m level text).1.2.2.2.2.1, (sayR m level text).1.2.2.2.2.2.1, (sayR m level text).1.2.2.2.2.2.2.1, (sayR m level text).1.2.2.2.2.2.2.2.1, (sayR m level text).1.2.2.2.2.2.2.2.2.1, (sayR m level text).1.2.2.2.2.2.2.2.2.2.1, (sayR m level text).1.2.2.2.2.2.2.2.2.2.2.1, (sayR m level text).1.2.2.2.2.2.2.2.2.2.2.2.1, (sayR m level text).1.2.2.2.2.2.2.2.2.2.2.2.2.1, (sayR m level text).1.2.2.2.2.2.2.2.2.2.2.2.2.2.1, (sayR m level text).1.2.2.2.2.2.2.2.2.2.2.2.2.2.2.1, (sayR m level text).1.2.2.2.2.2.2.2.2.2.2.2.2.2.2.2.1, (sayR m level text).2, ()) ∧ impl_Say m.1 m.2.1 m.2.2.1 m.2.2.2.1 m.2.2.2.2.1 m.2.2.2.2.2.1 m.2.2.2.2.2.2.1 m.2.2.2.2.2.2.2.1 m.2.2.2.2.2.2.2.2.1 m.2.2.2.2.2.2.2.2.2.1 m.2.2.2.2.2.2.2.2.2.2.1 m.2.2.2.2.2.2.2.2.2.2.2.1 m.2.2.2.2.2.2.2.2.2.2.2.2.1 m.2.2.2.2.2.2.2.2.2.2.2.2.2.1 m.2.2.2.2.2.2.2.2.2.2.2.2.2.2.1 m.2.2.2.2.2.2.2.2.2.2.2.2.2.2.2.1 level text = some ((sayR m level text).1.1, (sayR m level text).1.2.1, (sayR m level text).1.2.2.1, (sayR m level text).1.2.2.2.1, (sayR m level text).1.2.2.2.2.1, (sayR m level text).1.2.2.2.2.2.1, (sayR m level text).1.2.2.2.2.2.2.1, (sayR m level text).1.2.2.2.2.2.2.2.1, (sayR m level text).1.2.2.2.2.2.2.2.2.1, (sayR m level text).1.2.2.2.2.2.2.2.2.2.1, (sayR m level text).1.2.2.2.2.2.2.2.2.2.2.1, (sayR m level text).1.2.2.2.2.2.2.2.2.2.2.2.1, (sayR m level text).1.2.2.2.2.2.2.2.2.2.2.2.2.1, (sayR m level text).1.2.2.2.2.2.2.2.2.2.2.2.2.2.1, (sayR m level text).1.2.2.2.2.2.2.2.2.2.2.2.2.2.2.1, (sayR m level text).1.2.2.2.2.2.2.2.2.2.2.2.2.2.2.2.1, (sayR m level text).2, ()) := by
 obtain ⟨k1, k2, k3⟩ := mat_ok m h; obtain ⟨p1, p2⟩ := copyMate_eq m.1 m.2.1 m.2.2.1 m.2.2.2.1 m.2.2.2.2.1 m.2.2.2.2.2.1 m.2.2.2.2.2.2.1 m.2.2.2.2.2.2.2.1 m.2.2.2.2.2.2.2.2.1 m.2.2.2.2.2.2.2.2.2.1 m.2.2.2.2.2.2.2.2.2.2.1 m.2.2.2.2.2.2.2.2.2.2.2.1 m.2.2.2.2.2.2.2.2.2.2.2.2.1 m.2.2.2.2.2.2.2.2.2.2.2.2.2.1 m.2.2.2.2.2.2.2.2.2.2.2.2.2.2.1 m.2.2.2.2.2.2.2.2.2.2.2.2.2.2.2.1 h; unfold spec_Say impl_Say sayR mayB; simp only [k1, k2, p1, p2, in_eq, level_eq, Option.bind_some]
 cases hb : matB m
 · cases (decide (1 ≤ level) && decide (level ≤ 2))
   · exact ⟨rfl, rfl⟩
   cases decide ((60 : Int) < ((ByteArray.size text : Nat) : Int))
   · cases decide ((20 : Int) ≤ ((List.length m.2.2.2.2.2.1 : Nat) : Int))
     · exact ⟨rfl, rfl⟩
     · exact ⟨rfl, rfl⟩
   · exact ⟨rfl, rfl⟩
 have hs := (k3.1 hb).small; unfold MatW at hs
 cases (decide (1 ≤ level) && decide (level ≤ 2))
 · exact ⟨rfl, rfl⟩
 by_cases w1 : ByteArray.size text ≤ 60
 case neg => rw [dec_false w1, dec_true (show (60 : Int) < ((ByteArray.size text : Nat) : Int) by omega)]; exact ⟨rfl, rfl⟩
 by_cases w2 : m.2.2.2.2.2.1.length < 20
 case neg => rw [dec_true w1, dec_false w2, dec_false (show ¬ (60 : Int) < ((ByteArray.size text : Nat) : Int) by omega), dec_true (show (20 : Int) ≤ ((List.length m.2.2.2.2.2.1 : Nat) : Int) by omega)]; exact ⟨rfl, rfl⟩
 rw [dec_true w1, dec_true w2, dec_false (show ¬ (60 : Int) < ((ByteArray.size text : Nat) : Int) by omega), dec_false (show ¬ (20 : Int) ≤ ((List.length m.2.2.2.2.2.1 : Nat) : Int) by omega)]; simp only [Bool.not_true, cond_false, ble_true (show (m.2.2.2.2.1.length + 1) * 8 ≤ lim by unfold lim; omega), ble_true (show (m.2.2.2.2.2.1.length + 1) * 16 ≤ lim by unfold lim; omega), cond_true, Bool.and_true]; exact ⟨rfl, rfl⟩
end Go.TM
