/- What marking does to a token. -/
import Derived.Test.YtiljcjnnhkidbaaCPNum
set_option linter.unusedSimpArgs false
set_option linter.unusedVariables false
namespace Go.TM
open Go
def markA (c2 c3 c4 d a : Int) : Int := if a < c3 then a else if c4 = d then (if c2 < a then c2 else a) else c3
def markB (c2 c3 c4 d a : Int) : Int := if a < c3 then d else if c4 = d then (if c2 ≤ a then 0 else c4) else c4
theorem mark_val (c0 c1 c2 c3 c4 : Int) (xs : List (Int × Unit)) (d a : Int) (h : xs.length ≤ 1048576) {b : Bool} (hb : spec_TokenOk c0 c1 c2 c3 c4 xs = some (b, ())) :
   ∃ t3 t4, spec_Mark c0 c1 c2 c3 c4 xs d a = some (c0, c1, c2, t3, t4, xs, ()) ∧ impl_Mark c0 c1 c2 c3 c4 xs d a = some (c0, c1, c2, t3, t4, xs, ()) ∧
     (b = false ∨ d < 1 ∨ 5 < d ∨ a < 0 → t3 = c3 ∧ t4 = c4) ∧ (b = true → 1 ≤ d → d ≤ 5 → 0 ≤ a → 0 ≤ c3 → c3 ≤ c2 → 0 ≤ t3 ∧ t3 ≤ c2 ∧ t3 ≤ a ∧ (t3 ≤ c3 ∨ c4 = d) ∧ (t4 = c4 ∨ t4 = d ∨ (t4 = 0 ∧ c4 = d))) ∧ (b = true → 1 ≤ d → d ≤ 5 → 0 ≤ a → t3 = markA c2 c3 c4 d a ∧ t4 = markB c2 c3 c4 d a) := by
 obtain ⟨b', h1, h2, _⟩ := token_same c0 c1 c2 c3 c4 xs h; rw [hb] at h1; obtain rfl : b = b' := by injection h1 with h1; injection h1
 obtain ⟨h3, h4⟩ := copyToken_eq c0 c1 c2 c3 c4 xs h; unfold spec_Mark impl_Mark; simp only [Option.bind_some, hb, h2, h3, h4, in_eq, daemon_eq]
 cases b
 · have : ∀ t3 t4 : Int, t3 = c3 → t4 = c4 → (false = false ∨ d < 1 ∨ 5 < d ∨ a < 0 → t3 = c3 ∧ t4 = c4) ∧ (false = true → 1 ≤ d → d ≤ 5 → 0 ≤ a → 0 ≤ c3 → c3 ≤ c2 → 0 ≤ t3 ∧ t3 ≤ c2 ∧ t3 ≤ a ∧ (t3 ≤ c3 ∨ c4 = d) ∧ (t4 = c4 ∨ t4 = d ∨ (t4 = 0 ∧ c4 = d))) ∧ (false = true → 1 ≤ d → d ≤ 5 → 0 ≤ a → t3 = markA c2 c3 c4 d a ∧ t4 = markB c2 c3 c4 d a) :=
     fun t3 t4 e1 e2 => ⟨fun _ => ⟨e1, e2⟩, (fun h => by cases h), (fun h => by cases h)⟩
   cases (decide (1 ≤ d) && decide (d ≤ 5))
   · exact ⟨_, _, rfl, rfl, this _ _ rfl rfl⟩
   cases decide (a < 0)
   · exact ⟨_, _, rfl, rfl, this _ _ rfl rfl⟩
   · exact ⟨_, _, rfl, rfl, this _ _ rfl rfl⟩
 by_cases hd : 1 ≤ d ∧ d ≤ 5
 · rw [dec_true hd.1, dec_true hd.2]
   by_cases ha : a < 0
   · rw [dec_true ha]; exact ⟨_, _, rfl, rfl, (fun _ => ⟨rfl, rfl⟩), (fun _ _ _ h => by omega), (fun _ _ _ h => by omega)⟩
   rw [dec_false ha]; have no : ∀ {A : Prop}, (true = false ∨ d < 1 ∨ 5 < d ∨ a < 0) → A := by
     rintro A (h | h | h | h)
     · cases h
     · omega
     · omega
     · omega
   by_cases h5 : a < c3
   · rw [dec_true h5]; exact ⟨_, _, rfl, rfl, no, (fun _ _ _ _ _ _ => ⟨by omega, by omega, by omega, .inl (by omega), .inr (.inl rfl)⟩), fun _ _ _ _ => by unfold markA markB; rw [if_pos h5, if_pos h5]; exact ⟨rfl, rfl⟩⟩
   rw [dec_false h5]
   by_cases h6 : c4 = d
   · rw [dec_true h6]
     by_cases h7 : c2 < a
     · rw [dec_true h7, if_pos h7, dec_true (show c2 = c2 from rfl)]; exact ⟨_, _, rfl, rfl, no, (fun _ _ _ _ _ _ => ⟨by omega, by omega, by omega, .inr h6, .inr (.inr ⟨rfl, h6⟩)⟩), fun _ _ _ _ => by unfold markA markB; rw [if_neg h5, if_neg h5, if_pos h6, if_pos h6, if_pos h7, if_pos (by omega)]; exact ⟨rfl, rfl⟩⟩
     · rw [dec_false h7, if_neg h7]
       by_cases h8 : a = c2
       · rw [dec_true h8]; exact ⟨_, _, rfl, rfl, no, (fun _ _ _ _ _ _ => ⟨by omega, by omega, by omega, .inr h6, .inr (.inr ⟨rfl, h6⟩)⟩), fun _ _ _ _ => by unfold markA markB; rw [if_neg h5, if_neg h5, if_pos h6, if_pos h6, if_neg h7, if_pos (by omega)]; exact ⟨rfl, rfl⟩⟩
       · rw [dec_false h8]; exact ⟨_, _, rfl, rfl, no, (fun _ _ _ _ _ _ => ⟨by omega, by omega, by omega, .inr h6, .inl rfl⟩), fun _ _ _ _ => by unfold markA markB; rw [if_neg h5, if_neg h5, if_pos h6, if_pos h6, if_neg h7, if_neg (by omega)]; exact ⟨rfl, rfl⟩⟩
   · rw [dec_false h6]; exact ⟨_, _, rfl, rfl, no, (fun _ _ _ _ _ _ => ⟨by omega, by omega, by omega, .inl (by omega), .inl rfl⟩), fun _ _ _ _ => by unfold markA markB; rw [if_neg h5, if_neg h5, if_neg h6, if_neg h6]; exact ⟨rfl, rfl⟩⟩
 · have e : (decide (1 ≤ d) && decide (d ≤ 5)) = false := by
     cases hq : (decide (1 ≤ d) && decide (d ≤ 5))
     · rfl
     · rw [Bool.and_eq_true, decide_eq_true_eq, decide_eq_true_eq] at hq; exact absurd hq hd
   rw [e]; exact ⟨_, _, rfl, rfl, (fun _ => ⟨rfl, rfl⟩), (fun _ h1 h2 => absurd ⟨h1, h2⟩ hd), (fun _ h1 h2 => absurd ⟨h1, h2⟩ hd)⟩
end Go.TM
