/- What is right, said plainly of rings, bundles, members and daemons. -/
import Derived.Test.YtmljblppihbkdaaEPRight
set_option linter.unusedSimpArgs false
set_option linter.unusedVariables false
namespace Go.TM
open Go

abbrev MemL : Type := List (Int × Unit)
abbrev TokR : Type := Int × Int × Int × Int × Int × MemL × Unit
abbrev MatR : Type := Int × Int × MemL × ItemL × MemL × (List (ByteArray × Unit)) × Int × Int × Int × Int × Int × Int × Int × Int × Int × MemL × Unit
abbrev EvnR : Type := Int × Int × MemL × Int × Int × Int × ByteArray × MemL × Unit
abbrev DaeM : Type := Int × Bool × Int × Int × MemL × ItemL × MemL × (List (ByteArray × Unit)) × Int × Int × Int × Int × Int × Int × Int × Int × Int × MemL × Int × Int × Int × MemL × (List BunR) × (List EvnR) × Unit

/-! ### Rings -/
def MemP (xs : MemL) (n : Nat) : Prop := ∀ k (h : k < xs.length), k < n → (1 ≤ xs[k].1 ∧ xs[k].1 ≤ 5) ∧ ∀ h0 : 0 < k, xs[k - 1].1 < xs[k].1
def RingP (c : Int) (xs : MemL) : Prop := (1 ≤ c ∧ c ≤ 9) ∧ (1 ≤ xs.length ∧ xs.length ≤ 5) ∧ MemP xs xs.length

/-! ### Items -/
noncomputable def itemsB (xs : ItemL) : Bool := match spec_ItemsOk xs with | some x => x.1 | none => false
theorem items_ok (xs : ItemL) (h : xs.length ≤ 1048576) : spec_ItemsOk xs = some (itemsB xs, ()) ∧ impl_ItemsOk xs = some (itemsB xs, ()) ∧ (itemsB xs = true ↔ ItemsP xs xs.length) := by
  obtain ⟨b, h1, h2, h3⟩ := items_iff xs h
  have : itemsB xs = b := by unfold itemsB; rw [h1]
  rw [this]
  exact ⟨h1, h2, h3⟩
noncomputable def itemB (r : ItemR) : Bool := match spec_ItemOk r.1 r.2.1 r.2.2.1 r.2.2.2.1 with | some x => x.1 | none => false
theorem item_ok (r : ItemR) : spec_ItemOk r.1 r.2.1 r.2.2.1 r.2.2.2.1 = some (itemB r, ()) ∧ impl_ItemOk r.1 r.2.1 r.2.2.1 r.2.2.2.1 = some (itemB r, ()) ∧ (itemB r = true ↔ ItemP r) := by
  obtain ⟨b, h1, h2, h3⟩ := item_iff r.1 r.2.1 r.2.2.1 r.2.2.2.1
  have : itemB r = b := by unfold itemB; rw [h1]
  rw [this]
  exact ⟨h1, h2, h3⟩

/-! ### Bundles -/
def BunP (b : BunR) : Prop := (1 ≤ b.1 ∧ b.1 ≤ 5) ∧ (1 ≤ b.2.1 ∧ b.2.1 ≤ 9) ∧ (0 ≤ b.2.2.1 ∧ b.2.2.1 ≤ b.2.1 - 1) ∧ ItemsP b.2.2.2.1 b.2.2.2.1.length ∧ (0 < b.2.2.1 ∨ b.2.2.2.1.length = 0)
theorem and_iff {p q : Prop} [Decidable p] [Decidable q] : (decide p && decide q) = true ↔ p ∧ q := by
  rw [Bool.and_eq_true, decide_eq_true_eq, decide_eq_true_eq]
theorem bun_iff (b : BunR) (h : b.2.2.2.1.length ≤ 1048576) : bunOk b = true ↔ BunP b := by
  obtain ⟨h1, _⟩ := bunOk_spec b h
  obtain ⟨i1, _, i3⟩ := items_ok b.2.2.2.1 h
  unfold spec_BundleOk at h1
  simp only [in_eq, Option.bind_some, i1] at h1
  unfold BunP
  rw [← i3]
  cases a1 : (decide (1 ≤ b.1) && decide (b.1 ≤ 5))
  · rw [a1] at h1
    injection h1 with h1; injection h1 with h1 _
    rw [← h1]
    exact ⟨fun h => (by cases h), fun h => by rw [and_iff.2 h.1] at a1; cases a1⟩
  cases a2 : (decide (1 ≤ b.2.1) && decide (b.2.1 ≤ 9))
  · rw [a1, a2] at h1
    injection h1 with h1; injection h1 with h1 _
    rw [← h1]
    exact ⟨fun h => (by cases h), fun h => by rw [and_iff.2 h.2.1] at a2; cases a2⟩
  have c2 := and_of a2
  rw [wrap_id (by omega) (by omega)] at h1
  cases a3 : (decide (0 ≤ b.2.2.1) && decide (b.2.2.1 ≤ b.2.1 - 1))
  · rw [a1, a2, a3] at h1
    injection h1 with h1; injection h1 with h1 _
    rw [← h1]
    exact ⟨fun h => (by cases h), fun h => by rw [and_iff.2 h.2.2.1] at a3; cases a3⟩
  cases a4 : itemsB b.2.2.2.1
  · rw [a1, a2, a3, a4] at h1
    injection h1 with h1; injection h1 with h1 _
    rw [← h1]
    exact ⟨fun h => (by cases h), fun h => by cases h.2.2.2.1⟩
  rw [a1, a2, a3, a4] at h1
  by_cases a5 : 0 < b.2.2.1
  · rw [dec_true a5] at h1
    injection h1 with h1; injection h1 with h1 _
    rw [← h1]
    exact ⟨fun _ => ⟨and_of a1, c2, and_of a3, rfl, .inl a5⟩, fun _ => rfl⟩
  · rw [dec_false a5] at h1
    injection h1 with h1; injection h1 with h1 _
    rw [← h1]
    refine ⟨fun h => ⟨and_of a1, c2, and_of a3, rfl, .inr ?_⟩, fun h => ?_⟩
    · have := of_decide_eq_true h; omega
    · exact decide_eq_true (by rcases h.2.2.2.2 with q | q <;> omega)

/-! ### Tokens -/
def Blank (t : TokR) : Prop := t.1 = 0 ∧ t.2.1 = 0 ∧ t.2.2.1 = 0 ∧ t.2.2.2.1 = 0 ∧ t.2.2.2.2.1 = 0 ∧ t.2.2.2.2.2.1 = []
def TokQ (t : TokR) : Prop := TokP t.1 t.2.1 t.2.2.1 t.2.2.2.1 t.2.2.2.2.1 t.2.2.2.2.2.1
/-! ### Members -/
theorem aru_unique {xs : ItemL} {n m : Nat} (h1 : IsAru xs n) (h2 : IsAru xs m) : n = m := by
  obtain ⟨_, a1, a2⟩ := h1
  obtain ⟨_, b1, b2⟩ := h2
  by_cases hlt : n < m
  · have := b1 n hlt
    rw [a2] at this; cases this
  by_cases hgt : m < n
  · have := a1 m hgt
    rw [b2] at this; cases this
  omega
noncomputable def aruOf (xs : ItemL) : Nat := match spec_AruOf xs with | some x => x.1.toNat | none => 0
theorem aru_ok (xs : ItemL) (h : xs.length ≤ 1048576) : spec_AruOf xs = some (((aruOf xs : Nat) : Int), ()) ∧ impl_AruOf xs = some (((aruOf xs : Nat) : Int), ()) ∧ IsAru xs (aruOf xs) := by
  obtain ⟨n, h1, h2, h3⟩ := aru_same xs h
  have : aruOf xs = n := by unfold aruOf; rw [h1]; rfl
  rw [this]
  exact ⟨h1, h2, h3⟩

/-- A right member. -/
structure MatQ (m : MatR) : Prop where
  ring : RingP m.2.1 m.2.2.1
  mem : (m.1, ()) ∈ m.2.2.1
  items : ItemsP m.2.2.2.1 m.2.2.2.1.length
  texts : m.2.2.2.2.2.1.length ≤ 20 ∧ m.2.2.2.2.1.length = m.2.2.2.2.2.1.length
  lev : LevOk m.2.2.2.2.1 m.2.2.2.2.1.length
  short : ShortOk m.2.2.2.2.2.1 m.2.2.2.2.2.1.length
  round : 0 ≤ m.2.2.2.2.2.2.1 ∧ m.2.2.2.2.2.2.1 ≤ 1000000000
  seen : 0 ≤ m.2.2.2.2.2.2.2.1 ∧ m.2.2.2.2.2.2.2.1 ≤ 60
  line : 0 ≤ m.2.2.2.2.2.2.2.2.1 ∧ m.2.2.2.2.2.2.2.2.1 ≤ ((aruOf m.2.2.2.1 : Nat) : Int)
  heard : 0 ≤ m.2.2.2.2.2.2.2.2.2.1 ∧ m.2.2.2.2.2.2.2.2.2.1 ≤ ((aruOf m.2.2.2.1 : Nat) : Int)
  last : Blank (m.2.2.2.2.2.2.2.2.2.2.1, m.2.2.2.2.2.2.2.2.2.2.2.1, m.2.2.2.2.2.2.2.2.2.2.2.2.1, m.2.2.2.2.2.2.2.2.2.2.2.2.2.1, m.2.2.2.2.2.2.2.2.2.2.2.2.2.2.1, m.2.2.2.2.2.2.2.2.2.2.2.2.2.2.2.1, ()) ∨ TokQ (m.2.2.2.2.2.2.2.2.2.2.1, m.2.2.2.2.2.2.2.2.2.2.2.1, m.2.2.2.2.2.2.2.2.2.2.2.2.1, m.2.2.2.2.2.2.2.2.2.2.2.2.2.1, m.2.2.2.2.2.2.2.2.2.2.2.2.2.2.1, m.2.2.2.2.2.2.2.2.2.2.2.2.2.2.2.1, ())
end Go.TM
