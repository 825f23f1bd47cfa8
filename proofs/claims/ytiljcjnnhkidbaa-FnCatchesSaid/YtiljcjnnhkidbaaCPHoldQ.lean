/- What saying, hearing and holding keep; a member that has all. -/
import Derived.Test.YtiljcjnnhkidbaaCPSay1
set_option linter.unusedSimpArgs false
set_option linter.unusedVariables false
namespace Go.TM
open Go
theorem said_ok {m : MatR} (hm : MatQ m) {level : Int} {text : ByteArray} (hl : 1 ≤ level ∧ level ≤ 2) (ht : ByteArray.size text ≤ 60) (hn : m.2.2.2.2.2.1.length < 20) : MatQ (saidR m level text) := {
 ring := hm.ring
 mem := hm.mem
 items := hm.items
 texts := ⟨by show (m.2.2.2.2.2.1 ++ [(text, ())]).length ≤ 20; simp; omega, by show (m.2.2.2.2.1 ++ [(level, ())]).length = (m.2.2.2.2.2.1 ++ [(text, ())]).length; have := hm.texts.2; simp; omega⟩
 lev := fun j hj _ => by
   have hj : j < (m.2.2.2.2.1 ++ [(level, ())]).length := hj; show (decide (1 ≤ (m.2.2.2.2.1 ++ [(level, ())])[j].1) && decide ((m.2.2.2.2.1 ++ [(level, ())])[j].1 ≤ 2)) = true
   by_cases h : j < m.2.2.2.2.1.length
   · rw [List.getElem_append_left h]; exact hm.lev j h h
   · have : j = m.2.2.2.2.1.length := by simp at hj; omega
     subst this; simp [hl.1, hl.2]
 short := fun j hj _ => by
   have hj : j < (m.2.2.2.2.2.1 ++ [(text, ())]).length := hj; show ByteArray.size (m.2.2.2.2.2.1 ++ [(text, ())])[j].1 ≤ 60
   by_cases h : j < m.2.2.2.2.2.1.length
   · rw [List.getElem_append_left h]; exact hm.short j h h
   · have : j = m.2.2.2.2.2.1.length := by simp at hj; omega
     subst this; simpa using ht
 round := hm.round
 seen := hm.seen
 line := hm.line
 heard := hm.heard
 last := hm.last }
def withHeard (m : MatR) (v : Int) : MatR := (m.1, m.2.1, m.2.2.1, m.2.2.2.1, m.2.2.2.2.1, m.2.2.2.2.2.1, m.2.2.2.2.2.2.1, m.2.2.2.2.2.2.2.1, m.2.2.2.2.2.2.2.2.1, v, m.2.2.2.2.2.2.2.2.2.2)
theorem hear_ok {m : MatR} (hm : MatQ m) : ∃ (k : Nat) (n : MatR), n = withHeard m (m.2.2.2.2.2.2.2.2.2.1 + ((k : Nat) : Int)) ∧ impl_Hear m.1 m.2.1 m.2.2.1 m.2.2.2.1 m.2.2.2.2.1 m.2.2.2.2.2.1 m.2.2.2.2.2.2.1 m.2.2.2.2.2.2.2.1 m.2.2.2.2.2.2.2.2.1 m.2.2.2.2.2.2.2.2.2.1 m.2.2.2.2.2.2.2.2.2.2.1 m.2.2.2.2.2.2.2.2.2.2.2.1 m.2.2.2.2.2.2.2.2.2.2.2.2.1 m.2.2.2.2.2.2.2.2.2.2.2.2.2.1 m.2.2.2.2.2.2.2.2.2.2.2.2.2.2.1 m.2.2.2.2.2.2.2.2.2.2.2.2.2.2.2.1 = some (n.1, n.2.1, n.2.2.1, n.2.2.2.1, n.2.2.2.2.1, n.2.2.2.2.2.1, n.2.2.2.2.2.2.1, n.2.2.2.2.2.2.2.1, n.2.2.2.2.2.2.2.2.1, n.2.2.2.2.2.2.2.2.2.1, n.2.2.2.2.2.2.2.2.2.2.1, n.2.2.2.2.2.2.2.2.2.2.2.1, n.2.2.2.2.2.2.2.2.2.2.2.2.1, n.2.2.2.2.2.2.2.2.2.2.2.2.2.1, n.2.2.2.2.2.2.2.2.2.2.2.2.2.2.1, n.2.2.2.2.2.2.2.2.2.2.2.2.2.2.2.1, heardL m.2.2.2.1 m.2.2.2.2.2.2.2.2.2.1 k, ()) ∧ spec_Hear m.1 m.2.1 m.2.2.1 m.2.2.2.1 m.2.2.2.2.1 m.2.2.2.2.2.1 m.2.2.2.2.2.2.1 m.2.2.2.2.2.2.2.1 m.2.2.2.2.2.2.2.2.1 m.2.2.2.2.2.2.2.2.2.1 m.2.2.2.2.2.2.2.2.2.2.1 m.2.2.2.2.2.2.2.2.2.2.2.1 m.2.2.2.2.2.2.2.2.2.2.2.2.1 m.2.2.2.2.2.2.2.2.2.2.2.2.2.1 m.2.2.2.2.2.2.2.2.2.2.2.2.2.2.1 m.2.2.2.2.2.2.2.2.2.2.2.2.2.2.2.1 = some (n.1, n.2.1, n.2.2.1, n.2.2.2.1, n.2.2.2.2.1, n.2.2.2.2.2.1, n.2.2.2.2.2.2.1, n.2.2.2.2.2.2.2.1, n.2.2.2.2.2.2.2.2.1, n.2.2.2.2.2.2.2.2.2.1, n.2.2.2.2.2.2.2.2.2.2.1, n.2.2.2.2.2.2.2.2.2.2.2.1, n.2.2.2.2.2.2.2.2.2.2.2.2.1, n.2.2.2.2.2.2.2.2.2.2.2.2.2.1, n.2.2.2.2.2.2.2.2.2.2.2.2.2.2.1, n.2.2.2.2.2.2.2.2.2.2.2.2.2.2.2.1, heardL m.2.2.2.1 m.2.2.2.2.2.2.2.2.2.1 k, ()) ∧ MatQ n ∧
   m.2.2.2.2.2.2.2.2.2.1 + ((k : Nat) : Int) ≤ ((aruOf m.2.2.2.1 : Nat) : Int) ∧ (∀ j, j < k → ¬ Waits m.2.2.2.1 m.2.2.2.2.2.2.2.2.1 (m.2.2.2.2.2.2.2.2.2.1 + ((j + 1 : Nat) : Int))) ∧ (m.2.2.2.2.2.2.2.2.2.1 + ((k : Nat) : Int) < ((aruOf m.2.2.2.1 : Nat) : Int) → Waits m.2.2.2.1 m.2.2.2.2.2.2.2.2.1 (m.2.2.2.2.2.2.2.2.2.1 + ((k + 1 : Nat) : Int))) := by
 have hw := hm.small; have hb := (mat_ok m (Nat.le_trans hw (by decide))).2.2.2 hm; obtain ⟨k, v, h1, h2, h3, _, h5⟩ := hear_val m (Nat.le_trans hw (by decide)); subst h3; obtain ⟨g1, g2, g3⟩ := h5 hb; have hh := hm.heard; exact ⟨k, _, rfl, h2, h1, { ring := hm.ring, mem := hm.mem, items := hm.items, texts := hm.texts, lev := hm.lev, short := hm.short, round := hm.round, seen := hm.seen, line := hm.line, heard := ⟨by show 0 ≤ m.2.2.2.2.2.2.2.2.2.1 + ((k : Nat) : Int); omega, g1⟩, last := hm.last }, g1, g2, g3⟩
end Go.TM
