/- Items, of the program and of the reference: right ones, the one of a number, how many without a hole. -/
import Derived.Test.YtmljblppihbkdaaAPToken
set_option linter.unusedSimpArgs false
set_option linter.unusedVariables false
namespace Go.TM
open Go

/-! ### The item of a number -/
abbrev ItemR : Type := Int × Int × Int × ByteArray × Unit
abbrev ItemL : Type := List ItemR
def itemAt (xs : ItemL) (s : Int) : Option ItemR := xs.find? fun r => decide (r.1 = s)
def itemOut : Option ItemR → Int × Int × Int × ByteArray × Bool × Unit
  | none => (0, 0, 0, ByteArray.empty, false, ())
  | some r => (r.1, r.2.1, r.2.2.1, r.2.2.2.1, true, ())
def itemEnd : Option ItemR → Sum (Int × Int × Int × ByteArray × Unit) (Int × Int × Int × ByteArray × Bool × Unit)
  | none => .inl (0, 0, 0, ByteArray.empty, ())
  | some r => .inr (itemOut (some r))

theorem find_drop (xs : ItemL) (s : Int) {k : Nat} (hk : k < xs.length) : itemAt (xs.drop k) s = if xs[k].1 = s then some xs[k] else itemAt (xs.drop (k + 1)) s := by
  unfold itemAt
  rw [List.drop_eq_getElem_cons hk, List.find?_cons]
  by_cases h : xs[k].1 = s
  · rw [dec_true h, if_pos h]
  · rw [dec_false h, if_neg h]

/-- Numbers from 1 on, each in the list: no more than it is long. -/
theorem few_numbers : (n : Nat) → (ys : List Int) → (∀ i, i < n → ((i + 1 : Nat) : Int) ∈ ys) → n ≤ ys.length
  | 0, _, _ => Nat.zero_le _
  | n + 1, ys, h => by
    have hm := h n (by omega)
    have := few_numbers n (ys.erase ((n + 1 : Nat) : Int)) (fun i hi => (List.mem_erase_of_ne (by omega)).2 (h i (by omega)))
    rw [List.length_erase_of_mem hm] at this
    have : 0 < ys.length := List.length_pos_of_mem hm
    omega

theorem itemAt_mem {xs : ItemL} {s : Int} {r : ItemR} (h : itemAt xs s = some r) : r ∈ xs ∧ r.1 = s := by
  unfold itemAt at h
  exact ⟨List.mem_of_find?_eq_some h, by have := List.find?_some h; simpa using this⟩

/-- How many there are without a hole. -/
def IsAru (xs : ItemL) (n : Nat) : Prop := n ≤ xs.length ∧ (∀ i, i < n → (itemAt xs ((i + 1 : Nat) : Int)).isSome = true) ∧ itemAt xs ((n + 1 : Nat) : Int) = none
theorem aru_end {xs : ItemL} (h : ∀ i, i < xs.length → (itemAt xs ((i + 1 : Nat) : Int)).isSome = true) : itemAt xs ((xs.length + 1 : Nat) : Int) = none := by
  cases hq : itemAt xs ((xs.length + 1 : Nat) : Int) with
  | none => rfl
  | some r =>
    have key := few_numbers (xs.length + 1) (xs.map (·.1)) (fun i hi => by
      have : ∃ r, itemAt xs ((i + 1 : Nat) : Int) = some r := by
        by_cases hi' : i < xs.length
        · exact Option.isSome_iff_exists.1 (h i hi')
        · have : i = xs.length := by omega
          subst this
          exact ⟨r, hq⟩
      obtain ⟨r', hr⟩ := this
      obtain ⟨m1, m2⟩ := itemAt_mem hr
      exact List.mem_map.2 ⟨r', m1, m2⟩)
    rw [List.length_map] at key
    omega

end Go.TM
